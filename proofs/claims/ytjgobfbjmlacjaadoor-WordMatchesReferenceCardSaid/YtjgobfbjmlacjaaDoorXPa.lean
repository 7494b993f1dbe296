/-
 Numbers in words over lists of bytes, and that the program's functions compute them: up to how many thousands a text says.
-/
import Derived.Test.YtjgobfbjmlacjaaDoorXA
import Derived.Test.YtjgobfbjmlacjaaDoorXExt
set_option linter.unusedSimpArgs false
set_option linter.unusedVariables false
set_option maxRecDepth 100000
namespace Go.Proofs.YtjgobfbjmlacjaaDoor.XP
open Go.RowKit Go.Proofs.YtjgobfbjmlacjaaDoorW.PrintWords Go.Proofs.YtjgobfbjmlacjaaDoorW.PrintLast Go.Proofs.YtjgobfbjmlacjaaDoorW.PrintMore
abbrev S := List UInt8
def units : Nat → List S
 | 1 => [[122, 101, 114, 111], [111, 110, 101], [116, 119, 111], [116, 104, 114, 101, 101], [102, 111, 117, 114], [102, 105, 118, 101], [115, 105, 120], [115, 101, 118, 101, 110], [101, 105, 103, 104, 116], [110, 105, 110, 101], [116, 101, 110], [101, 108, 101, 118, 101, 110], [116, 119, 101, 108, 118, 101], [116, 104, 105, 114, 116, 101, 101, 110], [102, 111, 117, 114, 116, 101, 101, 110], [102, 105, 102, 116, 101, 101, 110], [115, 105, 120, 116, 101, 101, 110], [115, 101, 118, 101, 110, 116, 101, 101, 110], [101, 105, 103, 104, 116, 101, 101, 110], [110, 105, 110, 101, 116, 101, 101, 110]]
 | 2 => [[110, 117, 108, 108], [101, 105, 110, 115], [122, 119, 101, 105], [100, 114, 101, 105], [118, 105, 101, 114], [102, 117, 101, 110, 102], [115, 101, 99, 104, 115], [115, 105, 101, 98, 101, 110], [97, 99, 104, 116], [110, 101, 117, 110], [122, 101, 104, 110], [101, 108, 102], [122, 119, 111, 101, 108, 102], [100, 114, 101, 105, 122, 101, 104, 110], [118, 105, 101, 114, 122, 101, 104, 110], [102, 117, 101, 110, 102, 122, 101, 104, 110], [115, 101, 99, 104, 122, 101, 104, 110], [115, 105, 101, 98, 122, 101, 104, 110], [97, 99, 104, 116, 122, 101, 104, 110], [110, 101, 117, 110, 122, 101, 104, 110]]
 | 3 => [[99, 101, 114, 111], [117, 110, 111], [100, 111, 115], [116, 114, 101, 115], [99, 117, 97, 116, 114, 111], [99, 105, 110, 99, 111], [115, 101, 105, 115], [115, 105, 101, 116, 101], [111, 99, 104, 111], [110, 117, 101, 118, 101], [100, 105, 101, 122], [111, 110, 99, 101], [100, 111, 99, 101], [116, 114, 101, 99, 101], [99, 97, 116, 111, 114, 99, 101], [113, 117, 105, 110, 99, 101], [100, 105, 101, 99, 105, 115, 101, 105, 115], [100, 105, 101, 99, 105, 115, 105, 101, 116, 101], [100, 105, 101, 99, 105, 111, 99, 104, 111], [100, 105, 101, 99, 105, 110, 117, 101, 118, 101]]
 | _ => []
def tens : Nat → List S
 | 1 => [[116, 119, 101, 110, 116, 121], [116, 104, 105, 114, 116, 121], [102, 111, 114, 116, 121], [102, 105, 102, 116, 121], [115, 105, 120, 116, 121], [115, 101, 118, 101, 110, 116, 121], [101, 105, 103, 104, 116, 121], [110, 105, 110, 101, 116, 121]]
 | 2 => [[122, 119, 97, 110, 122, 105, 103], [100, 114, 101, 105, 115, 115, 105, 103], [118, 105, 101, 114, 122, 105, 103], [102, 117, 101, 110, 102, 122, 105, 103], [115, 101, 99, 104, 122, 105, 103], [115, 105, 101, 98, 122, 105, 103], [97, 99, 104, 116, 122, 105, 103], [110, 101, 117, 110, 122, 105, 103]]
 | 3 => [[118, 101, 105, 110, 116, 101], [116, 114, 101, 105, 110, 116, 97], [99, 117, 97, 114, 101, 110, 116, 97], [99, 105, 110, 99, 117, 101, 110, 116, 97], [115, 101, 115, 101, 110, 116, 97], [115, 101, 116, 101, 110, 116, 97], [111, 99, 104, 101, 110, 116, 97], [110, 111, 118, 101, 110, 116, 97]]
 | _ => []
def months : Nat → List S
 | 1 => [[106, 97, 110, 117, 97, 114, 121], [102, 101, 98, 114, 117, 97, 114, 121], [109, 97, 114, 99, 104], [97, 112, 114, 105, 108], [109, 97, 121], [106, 117, 110, 101], [106, 117, 108, 121], [97, 117, 103, 117, 115, 116], [115, 101, 112, 116, 101, 109, 98, 101, 114], [111, 99, 116, 111, 98, 101, 114], [110, 111, 118, 101, 109, 98, 101, 114], [100, 101, 99, 101, 109, 98, 101, 114]]
 | 2 => [[106, 97, 110, 117, 97, 114], [102, 101, 98, 114, 117, 97, 114], [109, 97, 101, 114, 122], [97, 112, 114, 105, 108], [109, 97, 105], [106, 117, 110, 105], [106, 117, 108, 105], [97, 117, 103, 117, 115, 116], [115, 101, 112, 116, 101, 109, 98, 101, 114], [111, 107, 116, 111, 98, 101, 114], [110, 111, 118, 101, 109, 98, 101, 114], [100, 101, 122, 101, 109, 98, 101, 114]]
 | 3 => [[101, 110, 101, 114, 111], [102, 101, 98, 114, 101, 114, 111], [109, 97, 114, 122, 111], [97, 98, 114, 105, 108], [109, 97, 121, 111], [106, 117, 110, 105, 111], [106, 117, 108, 105, 111], [97, 103, 111, 115, 116, 111], [115, 101, 112, 116, 105, 101, 109, 98, 114, 101], [111, 99, 116, 117, 98, 114, 101], [110, 111, 118, 105, 101, 109, 98, 114, 101], [100, 105, 99, 105, 101, 109, 98, 114, 101]]
 | _ => []
def days : Nat → List S
 | 1 => [[109, 111, 110, 100, 97, 121], [116, 117, 101, 115, 100, 97, 121], [119, 101, 100, 110, 101, 115, 100, 97, 121], [116, 104, 117, 114, 115, 100, 97, 121], [102, 114, 105, 100, 97, 121], [115, 97, 116, 117, 114, 100, 97, 121], [115, 117, 110, 100, 97, 121]]
 | 2 => [[109, 111, 110, 116, 97, 103], [100, 105, 101, 110, 115, 116, 97, 103], [109, 105, 116, 116, 119, 111, 99, 104], [100, 111, 110, 110, 101, 114, 115, 116, 97, 103], [102, 114, 101, 105, 116, 97, 103], [115, 97, 109, 115, 116, 97, 103], [115, 111, 110, 110, 116, 97, 103]]
 | 3 => [[108, 117, 110, 101, 115], [109, 97, 114, 116, 101, 115], [109, 105, 101, 114, 99, 111, 108, 101, 115], [106, 117, 101, 118, 101, 115], [118, 105, 101, 114, 110, 101, 115], [115, 97, 98, 97, 100, 111], [100, 111, 109, 105, 110, 103, 111]]
 | _ => []

def hundredsEs : List S := [[99, 105, 101, 110, 116, 111], [100, 111, 115, 99, 105, 101, 110, 116, 111, 115], [116, 114, 101, 115, 99, 105, 101, 110, 116, 111, 115], [99, 117, 97, 116, 114, 111, 99, 105, 101, 110, 116, 111, 115], [113, 117, 105, 110, 105, 101, 110, 116, 111, 115], [115, 101, 105, 115, 99, 105, 101, 110, 116, 111, 115], [115, 101, 116, 101, 99, 105, 101, 110, 116, 111, 115], [111, 99, 104, 111, 99, 105, 101, 110, 116, 111, 115], [110, 111, 118, 101, 99, 105, 101, 110, 116, 111, 115]]
abbrev sHundred : S := [32, 104, 117, 110, 100, 114, 101, 100]
abbrev sSpace : S := [32]
abbrev sThousand : S := [32, 116, 104, 111, 117, 115, 97, 110, 100]
abbrev sEins : S := [101, 105, 110, 115]
abbrev sUnd : S := [117, 110, 100]
abbrev sHundert : S := [104, 117, 110, 100, 101, 114, 116]
abbrev sTausend : S := [116, 97, 117, 115, 101, 110, 100]
abbrev sVeinti : S := [118, 101, 105, 110, 116, 105]
abbrev sY : S := [32, 121, 32]
abbrev sCien : S := [99, 105, 101, 110]
abbrev sMil : S := [109, 105, 108]
abbrev sUno : S := [117, 110, 111]
abbrev sSMil : S := [32, 109, 105, 108]
abbrev sDash : S := [45]
abbrev sAsk : S := [63]
abbrev sS : S := [115]
abbrev sO : S := [111]
/-! ### What the functions of the program say, over lists of bytes -/
def shorter (s e : S) : S := if e.isSuffixOf s then s.dropLast else s
def joinS (a sep b : S) : S := if a = [] ∨ b = [] then a ++ b else a ++ sep ++ b
def ones : Nat → Nat → Nat → S
 | 1, ten, one => (tens 1).getD ten [] ++ sDash ++ (units 1).getD one []
 | 2, ten, one => shorter ((units 2).getD one []) sEins ++ sUnd ++ (tens 2).getD ten []
 | l, ten, one => if ten = 0 then sVeinti ++ (units l).getD one [] else (tens l).getD ten [] ++ sY ++ (units l).getD one []
def hundreds : Nat → Nat → S → S
 | 1, n, rest => joinS ((units 1).getD n [] ++ sHundred) sSpace rest
 | 2, n, rest => shorter ((units 2).getD n []) sEins ++ sHundert ++ rest
 | _, n, rest => if n = 1 ∧ rest = [] then sCien else joinS (hundredsEs.getD (n - 1) []) sSpace rest
def thousands : Nat → S → Nat → S
 | 1, q, _ => q ++ sThousand
 | 2, q, _ => shorter q sEins ++ sTausend
 | _, q, n => if n = 1 then sMil else shorter q sUno ++ sSMil
def small (l n : Nat) : S :=
 let rest := if n % 100 = 0 then [] else if n % 100 < 20 then (units l).getD (n % 100) [] else if n % 10 = 0 then (tens l).getD (n % 100 / 10 - 2) [] else ones l (n % 100 / 10 - 2) (n % 10)
 if n < 100 then rest else hundreds l (n / 100) rest
def text (l n : Nat) : S := if n = 0 then (units l).getD 0 [] else if n < 1000 then small l n else joinS (thousands l (small l (n / 1000)) (n / 1000)) sSpace (small l (n % 1000))
def words (l n : Nat) : List S := Lib.fields (text l n)
/-! ### Byte arrays as lists -/
def ba (s : S) : ByteArray := ⟨s.toArray⟩
theorem ba_data (s : S) : (ba s).data.toList = s := by simp [ba]
theorem ba_eta (a : ByteArray) : ba a.data.toList = a := by cases a; simp [ba]
theorem ba_inj {s t : S} (h : ba s = ba t) : s = t := by have := congrArg (fun a : ByteArray => a.data.toList) h; simpa [ba] using this
@[simp] theorem ba_toList (s : S) : (ba s).toList = s := by rw [ByteArray.toList_eq, ba_data]
@[simp] theorem ba_size (s : S) : (ba s).size = s.length := by simp [ba, ByteArray.size]
@[simp] theorem ba_app (s t : S) : ba s ++ ba t = ba (s ++ t) := by
 apply Go.WideShapes.bytes_inj; simp [ba, ByteArray.data_append]
@[simp] theorem rd_map (u : List S) (j : Nat) : rdOf ByteArray.empty (u.map ba) (j : Int) = ba (u.getD j []) := by
 simp only [rdOf, Int.toNat_natCast, List.getD_eq_getElem?_getD, List.getElem?_map]
 cases u[j]? <;> rfl
theorem ba_take (s : S) (n : Nat) : (ba s).extract 0 n = ba (s.take n) := by
 apply Go.WideShapes.bytes_inj; simp [ba]
theorem ba_drop (s : S) (n : Nat) (h : (ba s).size = s.length) : (ba s).extract n s.length = ba (s.drop n) := by
 apply Go.WideShapes.bytes_inj; simp [ba]; exact List.take_of_length_le (by simp)
theorem wrap64_id {n : Int} (h1 : -9223372036854775808 ≤ n) (h2 : n ≤ 9223372036854775807) : wrap64 n = n := by unfold wrap64; omega
/-! ### The functions of the program, one by one -/
def U (l : Nat) : List ByteArray := (units l).map ba
def T (l : Nat) : List ByteArray := (tens l).map ba
def M (l : Nat) : List ByteArray := (months l).map ba
def D (l : Nat) : List ByteArray := (days l).map ba
def fo : Nat → Option Nat | 1 => some 57 | 2 => some 61 | _ => some 65
def fh : Nat → Option Nat | 1 => some 58 | 2 => some 63 | _ => some 66
def ft : Nat → Option Nat | 1 => some 60 | 2 => some 64 | _ => some 67
theorem tongues1 : XA.word_tongues.f 1 = some (U 1, T 1, M 1, D 1, fo 1, fh 1, ft 1) := rfl
theorem tongues2 : XA.word_tongues.f 2 = some (U 2, T 2, M 2, D 2, fo 2, fh 2, ft 2) := rfl
theorem tongues3 : XA.word_tongues.f 3 = some (U 3, T 3, M 3, D 3, fo 3, fh 3, ft 3) := rfl
theorem hasSuffix_f (s e : S) (h : s.length ≤ 1000000) : XA.strings_HasSuffix.f (ba s) (ba e) = some (e.isSuffixOf s) := by
 unfold XA.strings_HasSuffix.f XA.stringslite_HasSuffix.f
 simp only [ba_size]
 by_cases hl : (e.length : Int) ≤ s.length
 ·have hw : wrap64 ((s.length : Int) - e.length) = ((s.length - e.length : Nat) : Int) := by rw [wrap64_id (by omega) (by omega)]; omega
  rw [if_pos (by omega), hw, if_pos (by omega), if_pos (by omega), Int.toNat_natCast, ba_drop s _ (ba_size s)]
  simp only [ba_toList, Option.bind_some, Option.some.injEq]
  rw [Bool.eq_iff_iff, beq_iff_eq, List.isSuffixOf_iff_suffix, List.suffix_iff_eq_drop]
  exact eq_comm
 ·rw [if_neg (by omega)]
  simp only [Option.bind_some, Option.some.injEq]
  symm
  rw [Bool.eq_false_iff]
  intro h'
  have := (List.isSuffixOf_iff_suffix.mp h').length_le
  omega
theorem shorter_f (s e : S) (h : s.length ≤ 1000000) (he : e ≠ []) : XA.word_shorter.f (ba s) (ba e) = some (ba (shorter s e)) := by
 unfold XA.word_shorter.f shorter
 rw [hasSuffix_f s e h, Option.bind_some]
 by_cases hs : e.isSuffixOf s = true
 ·have h1 : 1 ≤ s.length := by
   have := (List.isSuffixOf_iff_suffix.mp hs).length_le
   have : 0 < e.length := List.length_pos_iff.mpr he
   omega
  have hw : wrap64 (((ba s).size : Int) - 1) = ((s.length - 1 : Nat) : Int) := by rw [ba_size, wrap64_id (by omega) (by omega)]; omega
  rw [if_pos hs, if_pos hs, hw, if_pos (by omega), if_pos (by rw [ba_size]; omega), Int.toNat_natCast, ba_take, List.dropLast_eq_take]
 ·rw [if_neg hs, if_neg hs]
theorem shorter_le (s e : S) : (shorter s e).length ≤ s.length := by
 unfold shorter; split
 ·simp
 ·exact Nat.le_refl _
theorem ba_lit1 (b : UInt8) : (⟨#[b]⟩ : ByteArray) = ba [b] := rfl
theorem joined_f (a b c : S) (h : a.length + b.length + c.length ≤ 1000000) : XA.word_joined.f (ba a) (ba b) (ba c) = some (ba (joinS a b c)) := by
 unfold XA.word_joined.f joinS
 simp only [ba_toList, ba_app, ba_size, List.length_append]
 by_cases h1 : a = []
 ·rw [if_pos h1, if_pos (by omega), if_pos (Or.inl h1)]
 ·rw [if_neg h1]
  by_cases h2 : c = []
  ·rw [if_pos h2, if_pos (by omega), if_pos (Or.inr h2)]
  ·rw [if_neg h2, if_pos (by omega), if_pos (by omega), if_neg (by simp [h1, h2])]
theorem joinS_le (a b c : S) : (joinS a b c).length ≤ a.length + b.length + c.length := by
 unfold joinS; split <;> simp <;> omega

theorem t1_f (u t : List S) (m d : List ByteArray) (a b c : Option Nat) (i j : Nat) (hi : i < t.length) (hj : j < u.length) (h : (t.getD i []).length + (u.getD j []).length ≤ 1000000) :
  XA.word_tongues_1.f (u.map ba) (t.map ba) m d a b c i j = some (ba (t.getD i [] ++ sDash ++ u.getD j [])) := by
 unfold XA.word_tongues_1.f
 rw [if_pos (by omega), if_pos (by simp only [List.length_append, List.length_map, List.length_cons, List.length_nil, sDash, sUnd, sY, sHundred, sHundert, sSpace, sVeinti, sThousand, sTausend, sSMil]; omega), rd_map, ba_size, if_pos (by omega), if_pos (by omega), if_pos (by simp only [List.length_append, List.length_map, List.length_cons, List.length_nil, sDash, sUnd, sY, sHundred, sHundert, sSpace, sVeinti, sThousand, sTausend, sSMil]; omega), rd_map, ba_lit1, ba_app, ba_size, ba_size, if_pos (by simp only [List.length_append, List.length_map, List.length_cons, List.length_nil, sDash, sUnd, sY, sHundred, sHundert, sSpace, sVeinti, sThousand, sTausend, sSMil]; omega), ba_app]
theorem t4_f (u t : List S) (m d : List ByteArray) (a b c : Option Nat) (i j : Nat) (hi : i < t.length) (hj : j < u.length) (h : (t.getD i []).length + (u.getD j []).length ≤ 900000) :
  XA.word_tongues_4.f (u.map ba) (t.map ba) m d a b c i j = some (ba (shorter (u.getD j []) sEins ++ sUnd ++ t.getD i [])) := by
 have hs := shorter_le (u.getD j []) sEins
 unfold XA.word_tongues_4.f
 rw [if_pos (by omega), if_pos (by simp only [List.length_append, List.length_map, List.length_cons, List.length_nil, sDash, sUnd, sY, sHundred, sHundert, sSpace, sVeinti, sThousand, sTausend, sSMil]; omega), rd_map, show (⟨#[101, 105, 110, 115]⟩ : ByteArray) = ba sEins from rfl, shorter_f _ _ (by omega) (by simp), Option.bind_some, ba_size, if_pos (by omega), if_pos (by omega), if_pos (by simp only [List.length_append, List.length_map, List.length_cons, List.length_nil, sDash, sUnd, sY, sHundred, sHundert, sSpace, sVeinti, sThousand, sTausend, sSMil]; omega), rd_map,
  show (⟨#[117, 110, 100]⟩ : ByteArray) = ba sUnd from rfl, ba_app, ba_size, ba_size, if_pos (by simp only [List.length_append, List.length_map, List.length_cons, List.length_nil, sDash, sUnd, sY, sHundred, sHundert, sSpace, sVeinti, sThousand, sTausend, sSMil]; omega), ba_app]
theorem t7_f (u t : List S) (m d : List ByteArray) (a b c : Option Nat) (i j : Nat) (hi : i < t.length) (hj : j < u.length) (h : (t.getD i []).length + (u.getD j []).length ≤ 900000) :
  XA.word_tongues_7.f (u.map ba) (t.map ba) m d a b c i j = some (ba (if i = 0 then sVeinti ++ u.getD j [] else t.getD i [] ++ sY ++ u.getD j [])) := by
 unfold XA.word_tongues_7.f
 by_cases h0 : i = 0
 ·subst h0
  rw [if_pos (by rfl), if_pos (by omega), if_pos (by simp only [List.length_append, List.length_map, List.length_cons, List.length_nil, sDash, sUnd, sY, sHundred, sHundert, sSpace, sVeinti, sThousand, sTausend, sSMil]; omega), rd_map, ba_size, if_pos (by omega), if_pos rfl, show (⟨#[118, 101, 105, 110, 116, 105]⟩ : ByteArray) = ba sVeinti from rfl, ba_app]
 ·rw [if_neg (by omega), if_pos (by omega), if_pos (by simp only [List.length_append, List.length_map, List.length_cons, List.length_nil, sDash, sUnd, sY, sHundred, sHundert, sSpace, sVeinti, sThousand, sTausend, sSMil]; omega), rd_map, ba_size, if_pos (by omega), if_pos (by omega), if_pos (by simp only [List.length_append, List.length_map, List.length_cons, List.length_nil, sDash, sUnd, sY, sHundred, sHundert, sSpace, sVeinti, sThousand, sTausend, sSMil]; omega), rd_map, show (⟨#[32, 121, 32]⟩ : ByteArray) = ba sY from rfl, ba_app, ba_size, ba_size, if_pos (by simp only [List.length_append, List.length_map, List.length_cons, List.length_nil, sDash, sUnd, sY, sHundred, sHundert, sSpace, sVeinti, sThousand, sTausend, sSMil]; omega), if_neg h0, ba_app]
theorem t2_f (u : List S) (t m d : List ByteArray) (a b c : Option Nat) (n : Nat) (r : S) (hn : n < u.length) (h : (u.getD n []).length + r.length ≤ 900000) :
  XA.word_tongues_2.f (u.map ba) t m d a b c n (ba r) = some (ba (joinS (u.getD n [] ++ sHundred) sSpace r)) := by
 unfold XA.word_tongues_2.f
 rw [if_pos (by omega), if_pos (by simp only [List.length_append, List.length_map, List.length_cons, List.length_nil, sDash, sUnd, sY, sHundred, sHundert, sSpace, sVeinti, sThousand, sTausend, sSMil]; omega), rd_map, ba_size, if_pos (by omega), show (⟨#[32, 104, 117, 110, 100, 114, 101, 100]⟩ : ByteArray) = ba sHundred from rfl, ba_app, ba_lit1, joined_f _ _ _ (by simp only [List.length_append, List.length_map, List.length_cons, List.length_nil, sDash, sUnd, sY, sHundred, sHundert, sSpace, sVeinti, sThousand, sTausend, sSMil]; omega), Option.bind_some]
theorem t5_f (u : List S) (t m d : List ByteArray) (a b c : Option Nat) (n : Nat) (r : S) (hn : n < u.length) (h : (u.getD n []).length + r.length ≤ 900000) :
  XA.word_tongues_5.f (u.map ba) t m d a b c n (ba r) = some (ba (shorter (u.getD n []) sEins ++ sHundert ++ r)) := by
 have hs := shorter_le (u.getD n []) sEins
 unfold XA.word_tongues_5.f
 rw [if_pos (by omega), if_pos (by simp only [List.length_append, List.length_map, List.length_cons, List.length_nil, sDash, sUnd, sY, sHundred, sHundert, sSpace, sVeinti, sThousand, sTausend, sSMil]; omega), rd_map, show (⟨#[101, 105, 110, 115]⟩ : ByteArray) = ba sEins from rfl, shorter_f _ _ (by omega) (by simp), Option.bind_some, ba_size, if_pos (by omega), show (⟨#[104, 117, 110, 100, 101, 114, 116]⟩ : ByteArray) = ba sHundert from rfl, ba_app, ba_size, ba_size, if_pos (by simp only [List.length_append, List.length_map, List.length_cons, List.length_nil, sDash, sUnd, sY, sHundred, sHundert, sSpace, sVeinti, sThousand, sTausend, sSMil]; omega), ba_app]
theorem t8_f (u t m d : List ByteArray) (a b c : Option Nat) (n : Nat) (r : S) (hn : 1 ≤ n) (hn' : n < 10) (h : r.length ≤ 900000) :
  XA.word_tongues_8.f u t m d a b c n (ba r) = some (ba (if n = 1 ∧ r = [] then sCien else joinS (hundredsEs.getD (n - 1) []) sSpace r)) := by
 have hw : wrap64 ((n : Int) - 1) = ((n - 1 : Nat) : Int) := by rw [wrap64_id (by omega) (by omega)]; omega
 have hj : ∀ i < 9, (hundredsEs.getD i []).length ≤ 20 := by decide
 have hk := hj (n - 1) (by omega)
 have hR : ∀ x : Option ByteArray, x = ((some (hundredsEs.map ba)).bind fun y : List ByteArray => if 0 ≤ wrap64 ((n : Int) - 1) then if wrap64 ((n : Int) - 1) < (y.length : Int) then (XA.word_joined.f (rdOf ByteArray.empty y (wrap64 ((n : Int) - 1))) ⟨#[32]⟩ (ba r)).bind fun t => some t else none else none) → x = some (ba (joinS (hundredsEs.getD (n - 1) []) sSpace r)) := by
  rintro x rfl
  rw [Option.bind_some, hw, if_pos (by omega), if_pos (by simp only [List.length_map, hundredsEs, List.length_cons, List.length_nil]; omega), rd_map, ba_lit1, joined_f _ _ _ (by simp only [List.length_append, List.length_map, List.length_cons, List.length_nil, sDash, sUnd, sY, sHundred, sHundert, sSpace, sVeinti, sThousand, sTausend, sSMil]; omega), Option.bind_some]
 unfold XA.word_tongues_8.f
 rw [ba_toList]
 by_cases h1 : n = 1
 ·rw [if_pos (by omega)]
  by_cases h2 : r = []
  ·rw [if_pos h2, if_pos ⟨h1, h2⟩]; rfl
  ·rw [if_neg h2, if_neg (fun x => h2 x.2)]
   exact hR _ rfl
 ·rw [if_neg (by omega), if_neg (fun x => h1 x.1)]
  exact hR _ rfl
theorem t3_f (q : S) (n : Int) (h : q.length ≤ 900000) : XA.word_tongues_3.f (ba q) n = some (ba (q ++ sThousand)) := by
 unfold XA.word_tongues_3.f
 rw [ba_size, if_pos (by omega), show (⟨#[32, 116, 104, 111, 117, 115, 97, 110, 100]⟩ : ByteArray) = ba sThousand from rfl, ba_app]
theorem t6_f (q : S) (n : Int) (h : q.length ≤ 900000) : XA.word_tongues_6.f (ba q) n = some (ba (shorter q sEins ++ sTausend)) := by
 have hs := shorter_le q sEins
 unfold XA.word_tongues_6.f
 rw [show (⟨#[101, 105, 110, 115]⟩ : ByteArray) = ba sEins from rfl, shorter_f _ _ (by omega) (by simp), Option.bind_some, ba_size, if_pos (by omega), show (⟨#[116, 97, 117, 115, 101, 110, 100]⟩ : ByteArray) = ba sTausend from rfl, ba_app]
theorem t9_f (q : S) (n : Nat) (h : q.length ≤ 900000) : XA.word_tongues_9.f (ba q) n = some (ba (if n = 1 then sMil else shorter q sUno ++ sSMil)) := by
 have hs := shorter_le q sUno
 unfold XA.word_tongues_9.f
 by_cases h1 : n = 1
 ·rw [if_pos (by omega), if_pos h1]; rfl
 ·rw [if_neg (by omega), if_neg h1, show (⟨#[117, 110, 111]⟩ : ByteArray) = ba sUno from rfl, shorter_f _ _ (by omega) (by simp), Option.bind_some, ba_size, if_pos (by omega), show (⟨#[32, 109, 105, 108]⟩ : ByteArray) = ba sSMil from rfl, ba_app]
theorem units_le : ∀ l < 4, ∀ i < 20, ((units l).getD i []).length ≤ 20 := by decide +kernel
theorem tens_le : ∀ l < 4, ∀ i < 8, ((tens l).getD i []).length ≤ 20 := by decide +kernel
theorem units_len : ∀ l < 4, 0 < l → (units l).length = 20 := by decide
theorem tens_len : ∀ l < 4, 0 < l → (tens l).length = 8 := by decide
theorem langs {l : Nat} (h0 : 0 < l) (h : l < 4) : l = 1 ∨ l = 2 ∨ l = 3 := by omega
theorem tmod_n (n m : Nat) : Int.tmod (n : Int) (m : Int) = ((n % m : Nat) : Int) := rfl
theorem tdiv_n (n m : Nat) : Int.tdiv (n : Int) (m : Int) = ((n / m : Nat) : Int) := rfl
theorem hundredsEs_le : ∀ i < 9, (hundredsEs.getD i []).length ≤ 20 := by decide
theorem ones_le : ∀ l < 4, ∀ i < 8, ∀ j < 20, (ones l i j).length ≤ 60 := by decide +kernel
theorem hundreds_le {l : Nat} (h4 : l < 4) (n : Nat) (h1 : 1 ≤ n) (hn : n < 10) (r : S) : (hundreds l n r).length ≤ 40 + r.length := by
 have hu := units_le l h4 n (by omega)
 have he := hundredsEs_le (n - 1) (by omega)
 rcases Nat.eq_zero_or_pos l with rfl | h0
 ·show List.length (if n = 1 ∧ r = [] then sCien else joinS (hundredsEs.getD (n - 1) []) sSpace r) ≤ _
  split
  ·simp only [sCien, List.length_cons, List.length_nil]; omega
  ·have := joinS_le (hundredsEs.getD (n - 1) []) sSpace r
   simp only [sSpace, List.length_cons, List.length_nil] at this ⊢; omega
 rcases langs h0 h4 with rfl | rfl | rfl
 ·have := joinS_le ((units 1).getD n [] ++ sHundred) sSpace r
  unfold hundreds
  simp only [sHundred, sSpace, List.length_append, List.length_cons, List.length_nil] at this ⊢; omega
 ·have := shorter_le ((units 2).getD n []) sEins
  unfold hundreds
  simp only [sHundert, List.length_append, List.length_cons, List.length_nil] at this ⊢; omega
 ·show List.length (if n = 1 ∧ r = [] then sCien else joinS (hundredsEs.getD (n - 1) []) sSpace r) ≤ _
  split
  ·simp only [sCien, List.length_cons, List.length_nil]; omega
  ·have := joinS_le (hundredsEs.getD (n - 1) []) sSpace r
   simp only [sSpace, List.length_cons, List.length_nil] at this ⊢; omega
theorem small_j {l : Nat} (h0 : 0 < l) (h4 : l < 4) (k n : Nat) (hn : n < 1000) (r : S) (hr : r.length ≤ 100000) :
  XA.word_tongue_small.j0 (k + 1) n (ba r) (U l) (T l) (M l) (D l) (fo l) (fh l) (ft l) = some (ba (if n < 100 then r else hundreds l (n / 100) r)) := by
 rw [XA.word_tongue_small.j0]
 by_cases h1 : n < 100
 ·rw [if_pos (by omega), if_pos h1]
 ·have hd : wrap64 (Int.tdiv (n : Int) 100) = ((n / 100 : Nat) : Int) := by rw [show (100 : Int) = ((100 : Nat) : Int) from rfl, tdiv_n, wrap64_id (by omega) (by omega)]
  rw [if_neg (by omega), if_neg h1, hd]
  have hq : n / 100 < 10 := by omega
  have hq1 : 1 ≤ n / 100 := by omega
  have hu := units_le l h4 (n / 100) (by omega)
  rcases langs h0 h4 with rfl | rfl | rfl
  ·rw [if_pos (by rfl)]
   have := t2_f (units 1) (T 1) (M 1) (D 1) (fo 1) (some 58) (ft 1) (n / 100) r (by rw [units_len 1 h4 h0]; omega) (by omega)
   show Option.bind (XA.word_tongues_2.f (U 1) (T 1) (M 1) (D 1) (fo 1) (some 58) (ft 1) _ _) _ = _
   unfold U
   rw [this]; rfl
  ·rw [if_neg (by decide), if_pos (by rfl)]
   have := t5_f (units 2) (T 2) (M 2) (D 2) (fo 2) (some 63) (ft 2) (n / 100) r (by rw [units_len 2 h4 h0]; omega) (by omega)
   unfold U
   rw [this]; rfl
  ·rw [if_neg (by decide), if_neg (by decide), if_pos (by rfl)]
   have := t8_f (U 3) (T 3) (M 3) (D 3) (fo 3) (some 66) (ft 3) (n / 100) r hq1 hq (by omega)
   rw [this]; rfl
theorem small_f {l : Nat} (h0 : 0 < l) (h4 : l < 4) (k n : Nat) (hn : n < 1000) :
  XA.word_tongue_small.f (k + 1) (U l) (T l) (M l) (D l) (fo l) (fh l) (ft l) n = some (ba (small l n)) := by
 have hm : Int.tmod (n : Int) 100 = ((n % 100 : Nat) : Int) := tmod_n n 100
 have hm1 : Int.tmod (n : Int) 10 = ((n % 10 : Nat) : Int) := tmod_n n 10
 have hul : (U l).length = 20 := by rw [U, List.length_map, units_len l h4 h0]
 have htl : (T l).length = 8 := by rw [T, List.length_map, tens_len l h4 h0]
 unfold XA.word_tongue_small.f small
 rw [hm, hm1]
 by_cases c1 : n % 100 = 0
 ·rw [if_pos (by omega), if_pos c1]
  exact small_j h0 h4 k n hn [] (by simp)
 rw [if_neg (by omega), if_neg c1]
 by_cases c2 : n % 100 < 20
 ·rw [if_pos (by omega), if_pos (by omega), if_pos (by omega), if_pos c2, U, rd_map, ← U]
  exact small_j h0 h4 k n hn _ (by have := units_le l h4 (n % 100) c2; omega)
 rw [if_neg (by omega), if_neg c2]
 have hd : wrap64 (wrap64 (Int.tdiv ((n % 100 : Nat) : Int) 10) - 2) = ((n % 100 / 10 - 2 : Nat) : Int) := by
  rw [show (10 : Int) = ((10 : Nat) : Int) from rfl, tdiv_n, wrap64_id (n := ((n % 100 / 10 : Nat) : Int)) (by omega) (by omega), wrap64_id (by omega) (by omega)]; omega
 rw [hd]
 by_cases c3 : n % 10 = 0
 ·rw [if_pos (by omega), if_pos (by omega), if_pos (by omega), if_pos c3, T, rd_map, ← T]
  exact small_j h0 h4 k n hn _ (by have := tens_le l h4 (n % 100 / 10 - 2) (by omega); omega)
 rw [if_neg (by omega), if_neg c3]
 have ho := ones_le l h4 (n % 100 / 10 - 2) (by omega) (n % 10) (by omega)
 have hu := units_le l h4 (n % 10) (by omega)
 have ht := tens_le l h4 (n % 100 / 10 - 2) (by omega)
 have hj := small_j h0 h4 k n hn (ones l (n % 100 / 10 - 2) (n % 10)) (by omega)
 rcases langs h0 h4 with rfl | rfl | rfl
 ·rw [if_pos (by rfl)]
  have := t1_f (units 1) (tens 1) (M 1) (D 1) (some 57) (fh 1) (ft 1) (n % 100 / 10 - 2) (n % 10) (by rw [tens_len 1 h4 h0]; omega) (by rw [units_len 1 h4 h0]; omega) (by omega)
  rw [U, T, this, ← U, ← T, Option.bind_some]
  exact hj
 ·rw [if_neg (by decide), if_pos (by rfl)]
  have := t4_f (units 2) (tens 2) (M 2) (D 2) (some 61) (fh 2) (ft 2) (n % 100 / 10 - 2) (n % 10) (by rw [tens_len 2 h4 h0]; omega) (by rw [units_len 2 h4 h0]; omega) (by omega)
  rw [U, T, this, ← U, ← T, Option.bind_some]
  exact hj
 ·rw [if_neg (by decide), if_neg (by decide), if_pos (by rfl)]
  have := t7_f (units 3) (tens 3) (M 3) (D 3) (some 65) (fh 3) (ft 3) (n % 100 / 10 - 2) (n % 10) (by rw [tens_len 3 h4 h0]; omega) (by rw [units_len 3 h4 h0]; omega) (by omega)
  rw [U, T, this, ← U, ← T, Option.bind_some]
  exact hj
theorem small_le {l : Nat} (h4 : l < 4) {n : Nat} (hn : n < 1000) : (small l n).length ≤ 200 := by
 have hr : (if n % 100 = 0 then [] else if n % 100 < 20 then (units l).getD (n % 100) [] else if n % 10 = 0 then (tens l).getD (n % 100 / 10 - 2) [] else ones l (n % 100 / 10 - 2) (n % 10)).length ≤ 60 := by
  split
  ·simp
  ·split
   ·have := units_le l h4 (n % 100) (by omega); omega
   ·split
    ·have := tens_le l h4 (n % 100 / 10 - 2) (by omega); omega
    ·exact ones_le l h4 _ (by omega) _ (by omega)
 unfold small
 by_cases h1 : n < 100
 ·rw [if_pos h1]; omega
 ·rw [if_neg h1]
  have := hundreds_le h4 (n / 100) (by omega) (by omega) (if n % 100 = 0 then [] else if n % 100 < 20 then (units l).getD (n % 100) [] else if n % 10 = 0 then (tens l).getD (n % 100 / 10 - 2) [] else ones l (n % 100 / 10 - 2) (n % 10))
  omega
theorem thousands_le {l : Nat} (h0 : 0 < l) (h4 : l < 4) (q : S) (n : Nat) : (thousands l q n).length ≤ q.length + 20 := by
 rcases langs h0 h4 with rfl | rfl | rfl
 ·simp only [thousands, sThousand, List.length_append, List.length_cons, List.length_nil]; omega
 ·have := shorter_le q sEins
  simp only [thousands, sTausend, List.length_append, List.length_cons, List.length_nil]; omega
 ·have := shorter_le q sUno
  show List.length (if n = 1 then sMil else shorter q sUno ++ sSMil) ≤ _
  split
  ·simp only [sMil, List.length_cons, List.length_nil]; omega
  ·simp only [sSMil, List.length_append, List.length_cons, List.length_nil]; omega
theorem text_f {l : Nat} (h0 : 0 < l) (h4 : l < 4) (k n : Nat) (hn : n < 1000000) :
  XA.word_tongue_text.f (k + 1) (U l) (T l) (M l) (D l) (fo l) (fh l) (ft l) n = some (ba (text l n)) := by
 have hul : (U l).length = 20 := by rw [U, List.length_map, units_len l h4 h0]
 unfold XA.word_tongue_text.f text
 by_cases c1 : n = 0
 ·subst c1
  rw [if_pos (by rfl), if_pos (by omega), if_pos (by rfl)]
  exact congrArg some (rd_map (units l) 0)
 rw [if_neg (by omega), if_neg c1]
 by_cases c2 : n < 1000
 ·rw [if_pos (by omega), if_pos c2, small_f h0 h4 k n c2]; rfl
 rw [if_neg (by omega), if_neg c2]
 have hd : wrap64 (Int.tdiv (n : Int) 1000) = ((n / 1000 : Nat) : Int) := by rw [show (1000 : Int) = ((1000 : Nat) : Int) from rfl, tdiv_n, wrap64_id (by omega) (by omega)]
 have hm : Int.tmod (n : Int) 1000 = ((n % 1000 : Nat) : Int) := tmod_n n 1000
 have hq := small_le h4 (n := n / 1000) (by omega)
 have hr := small_le h4 (n := n % 1000) (by omega)
 have ht := thousands_le h0 h4 (small l (n / 1000)) (n / 1000)
 have hs := small_f h0 h4 k (n % 1000) (by omega)
 have hj : XA.word_joined.f (ba (thousands l (small l (n / 1000)) (n / 1000))) (⟨#[32]⟩ : ByteArray) (ba (small l (n % 1000))) = some (ba (joinS (thousands l (small l (n / 1000)) (n / 1000)) sSpace (small l (n % 1000)))) :=
  joined_f _ sSpace _ (by simp only [sSpace, List.length_cons, List.length_nil]; omega)
 rw [hd, hm, small_f h0 h4 k (n / 1000) (by omega), Option.bind_some]
 rcases langs h0 h4 with rfl | rfl | rfl
 ·rw [if_pos (by rfl), t3_f _ _ (by omega), Option.bind_some]
  show Option.bind (XA.word_tongue_small.f (k + 1) (U 1) (T 1) (M 1) (D 1) (fo 1) (fh 1) (ft 1) _) _ = _
  rw [hs, Option.bind_some]
  show Option.bind (XA.word_joined.f (ba (thousands 1 (small 1 (n / 1000)) (n / 1000))) _ _) _ = _
  rw [hj]; rfl
 ·rw [if_neg (by decide), if_pos (by rfl), t6_f _ _ (by omega), Option.bind_some]
  show Option.bind (XA.word_tongue_small.f (k + 1) (U 2) (T 2) (M 2) (D 2) (fo 2) (fh 2) (ft 2) _) _ = _
  rw [hs, Option.bind_some]
  show Option.bind (XA.word_joined.f (ba (thousands 2 (small 2 (n / 1000)) (n / 1000))) _ _) _ = _
  rw [hj]; rfl
 ·rw [if_neg (by decide), if_neg (by decide), if_pos (by rfl), t9_f _ _ (by omega), Option.bind_some]
  show Option.bind (XA.word_tongue_small.f (k + 1) (U 3) (T 3) (M 3) (D 3) (fo 3) (fh 3) (ft 3) _) _ = _
  rw [hs, Option.bind_some]
  show Option.bind (XA.word_joined.f (ba (thousands 3 (small 3 (n / 1000)) (n / 1000))) _ _) _ = _
  rw [hj]; rfl
def ascii (s : S) : Bool := s.all fun b => decide (b.toNat < 128)
theorem small_ascii : ∀ l < 4, ∀ n < 1000, ascii (small l n) = true := by decide +kernel
theorem ascii_app {a b : S} (h : ascii a = true) (k : ascii b = true) : ascii (a ++ b) = true := by simp only [ascii, List.all_append, Bool.and_eq_true] at *; exact ⟨h, k⟩
theorem ascii_shorter {a b : S} (h : ascii a = true) : ascii (shorter a b) = true := by
 unfold shorter; split
 ·simp only [ascii, List.all_eq_true] at h ⊢
  exact fun x hx => h x ((List.dropLast_sublist _).subset hx)
 ·exact h
theorem ascii_joinS {a b c : S} (h : ascii a = true) (k : ascii b = true) (j : ascii c = true) : ascii (joinS a b c) = true := by
 unfold joinS; split
 ·exact ascii_app h j
 ·exact ascii_app (ascii_app h k) j
theorem ascii_thousands {l : Nat} (h0 : 0 < l) (h4 : l < 4) {q : S} (n : Nat) (h : ascii q = true) : ascii (thousands l q n) = true := by
 rcases langs h0 h4 with rfl | rfl | rfl
 ·exact ascii_app h (by decide)
 ·exact ascii_app (ascii_shorter h) (by decide)
 ·show ascii (if n = 1 then sMil else shorter q sUno ++ sSMil) = true
  split
  ·decide
  ·exact ascii_app (ascii_shorter h) (by decide)
theorem text_ascii {l : Nat} (h0 : 0 < l) (h4 : l < 4) {n : Nat} (hn : n < 1000000) : ascii (text l n) = true := by
 unfold text
 split
 ·rcases langs h0 h4 with rfl | rfl | rfl <;> decide
 ·split
  ·exact small_ascii l h4 n (by omega)
  ·exact ascii_joinS (ascii_thousands h0 h4 _ (small_ascii l h4 _ (by omega))) (by decide) (small_ascii l h4 _ (by omega))
theorem text_le {l : Nat} (h0 : 0 < l) (h4 : l < 4) {n : Nat} (hn : n < 1000000) : (text l n).length ≤ 500 := by
 unfold text
 split
 ·have := units_le l h4 0 (by omega); omega
 ·split
  ·have := small_le h4 (n := n) (by omega); omega
  ·have h1 := small_le h4 (n := n / 1000) (by omega)
   have h2 := small_le h4 (n := n % 1000) (by omega)
   have h3 := thousands_le h0 h4 (small l (n / 1000)) (n / 1000)
   have h5 := joinS_le (thousands l (small l (n / 1000)) (n / 1000)) sSpace (small l (n % 1000))
   have h6 : List.length sSpace = 1 := rfl
   omega
theorem fields_f (s : S) (h : s.length ≤ 4000000000) (ha : ascii s = true) : strings_Fields.f (ba s) = some ((Lib.fields s).map ba) := by
 unfold strings_Fields.f
 rw [if_pos ⟨by rw [ba_size]; omega, by rw [ba_data]; exact ha⟩, ba_data]; rfl
theorem tongues_f {l : Nat} (h0 : 0 < l) (h4 : l < 4) : XA.word_tongues.f l = some (U l, T l, M l, D l, fo l, fh l, ft l) := by
 rcases langs h0 h4 with rfl | rfl | rfl <;> rfl
theorem known_f {l : Nat} (h0 : 0 < l) (h4 : l < 4) : XA.word_known.f l = some true := by
 rcases langs h0 h4 with rfl | rfl | rfl <;> rfl
theorem known_no {l : Int} (h : l < 1 ∨ 3 < l) : XA.word_known.f l = some false := by
 unfold XA.word_known.f
 split
 ·rw [decide_eq_false (by omega)]
 ·rfl
theorem words_f {l : Nat} (h0 : 0 < l) (h4 : l < 4) (k n : Nat) (hn : n < 1000000) : XA.word_Words.f (k + 2) l n = some ((words l n).map ba, 0) := by
 unfold XA.word_Words.f
 rw [known_f h0 h4, Option.bind_some, if_pos (by rfl), if_neg (by omega), decide_eq_false (by omega), XA.word_Words.j0, if_neg (by decide), tongues_f h0 h4, Option.bind_some, text_f h0 h4 k n hn, Option.bind_some, fields_f _ (by have := text_le h0 h4 hn; omega) (text_ascii h0 h4 hn)]
 rfl
theorem words_no (k : Nat) (l n : Int) (h : (l < 1 ∨ 3 < l) ∨ n < 0 ∨ 999999 < n) : XA.word_Words.f (k + 1) l n = some ([], 110) := by
 unfold XA.word_Words.f
 by_cases hl : l < 1 ∨ 3 < l
 ·rw [known_no hl, Option.bind_some, if_neg (by decide), XA.word_Words.j0, if_pos (by rfl)]
 ·have hk : XA.word_known.f l = some true := by
   unfold XA.word_known.f
   rw [if_pos (by omega), decide_eq_true (by omega)]
  rw [hk, Option.bind_some, if_pos (by rfl)]
  split
  ·rw [XA.word_Words.j0, if_pos (by rfl)]
  ·rw [decide_eq_true (by omega), XA.word_Words.j0, if_pos (by rfl)]
/-! ### Lists of strings -/
theorem index_l0 (u : List S) (s : S) (hu : u.length ≤ 1000000) : ∀ (m i k : Nat), u.length - i ≤ m → i ≤ u.length → m < k →
  XL.slices_Index_string_string.l0 k (u.map ba) (ba s) (u.length : Int) i = some (match (u.drop i).findIdx? (· == s) with | some j => ((i + j : Nat) : Int) | none => -1)
 | 0, i, k + 1, h, hi, _ => by
  rw [XL.slices_Index_string_string.l0, if_neg (by omega), List.drop_of_length_le (by omega)]; rfl
 | m + 1, i, k + 1, h, hi, hk => by
  rw [XL.slices_Index_string_string.l0]
  by_cases hlt : i < u.length
  ·rw [if_pos (by omega), if_pos (by omega), if_pos (by simp only [List.length_map]; omega), rd_map, ba_toList, ba_toList, List.drop_eq_getElem_cons hlt, List.findIdx?_cons]
   have hg : u.getD i [] = u[i] := by simp [List.getD_eq_getElem?_getD, hlt]
   rw [hg]
   by_cases he : s = u[i]
   ·rw [if_pos he, he]; simp
   ·rw [if_neg he, wrap64_id (by omega) (by omega)]
    have ih := index_l0 u s hu m (i + 1) k (by omega) (by omega) (by omega)
    have hb : (u[i] == s) = false := by rw [beq_eq_false_iff_ne]; exact fun x => he x.symm
    rw [show ((i : Int) + 1) = ((i + 1 : Nat) : Int) from rfl, ih, hb]
    cases (u.drop (i + 1)).findIdx? (· == s) with
    | none => rfl
    | some j => simp only [Bool.false_eq_true, if_false, Option.map_some]; congr 2; omega
  ·rw [if_neg (by omega), List.drop_of_length_le (by omega)]; rfl
theorem index_f (u : List S) (s : S) (hu : u.length ≤ 1000000) (k : Nat) (hk : u.length < k) :
  XL.slices_Index_string_string.f k (u.map ba) (ba s) = some (match u.findIdx? (· == s) with | some j => (j : Int) | none => -1) := by
 unfold XL.slices_Index_string_string.f
 have := index_l0 u s hu u.length 0 k (by omega) (by omega) hk
 rw [List.length_map]
 simpa using this
/-! ### The number from 1 to 99 with a text -/
/-- The texts of 1 to 99, in the order in which they are looked for. -/
def restTab (l : Nat) : List (S × Nat) :=
 ((List.range 8).flatMap fun ten => ((List.range 9).map fun o => (ones l ten (o + 1), 20 + 10 * ten + (o + 1))))
def rest (l : Nat) (s : S) : Option Nat :=
 match (units l).findIdx? (· == s) with
 | some (i + 1) => some (i + 1)
 | _ => match (tens l).findIdx? (· == s) with
  | some i => some (20 + 10 * i)
  | none => ((restTab l).find? (·.1 == s)).map (·.2)
def enc (o : Option Nat) : Int × Bool := match o with | some n => ((n : Int), true) | none => (0, false)
def tail1 (l ten one : Nat) (s : S) : Option Nat :=   -- what is still to be looked at: this ten from this one on
 (((List.range' one (10 - one)).map fun o => (ones l ten o, 20 + 10 * ten + o)).find? (·.1 == s)).map (·.2)
theorem ones_call {l : Nat} (h0 : 0 < l) (h4 : l < 4) {ten one : Nat} (ht : ten < 8) (ho : one < 20) :
  (l = 1 ∧ fo l = some 57 ∧ XA.word_tongues_1.f (U l) (T l) (M l) (D l) (some 57) (fh l) (ft l) ten one = some (ba (ones l ten one))) ∨
  (l = 2 ∧ fo l = some 61 ∧ XA.word_tongues_4.f (U l) (T l) (M l) (D l) (some 61) (fh l) (ft l) ten one = some (ba (ones l ten one))) ∨
  (l = 3 ∧ fo l = some 65 ∧ XA.word_tongues_7.f (U l) (T l) (M l) (D l) (some 65) (fh l) (ft l) ten one = some (ba (ones l ten one))) := by
 have hu := units_le l h4 one ho
 have htt := tens_le l h4 ten ht
 have hul := units_len l h4 h0
 have htl := tens_len l h4 h0
 rcases langs h0 h4 with rfl | rfl | rfl
 ·exact Or.inl ⟨rfl, rfl, t1_f (units 1) (tens 1) _ _ _ _ _ ten one (by omega) (by omega) (by omega)⟩
 ·exact Or.inr (Or.inl ⟨rfl, rfl, t4_f (units 2) (tens 2) _ _ _ _ _ ten one (by omega) (by omega) (by omega)⟩)
 ·exact Or.inr (Or.inr ⟨rfl, rfl, t7_f (units 3) (tens 3) _ _ _ _ _ ten one (by omega) (by omega) (by omega)⟩)
theorem rest_l1 {l : Nat} (h0 : 0 < l) (h4 : l < 4) (s : S) (ten : Nat) (ht : ten < 8) : ∀ (m one k : Nat), 10 - one ≤ m → one ≤ 10 → 2 * m + 1 ≤ k →
  XA.word_tongue_rest.l1 k (ba s) ten one 8 ten (U l) (T l) (M l) (D l) (fo l) (fh l) (ft l) =
   match tail1 l ten one s with
   | some n => some ((n : Int), true)
   | none => XA.word_tongue_rest.l0 (k - (2 * (10 - one) + 1)) (ba s) 8 ((ten + 1 : Nat) : Int) (U l) (T l) (M l) (D l) (fo l) (fh l) (ft l)
 | 0, one, k + 1, h, hi, _ => by
  obtain rfl : one = 10 := by omega
  rw [XA.word_tongue_rest.l1, if_neg (by omega), wrap64_id (by omega) (by omega)]
  rfl
 | m + 1, one, k + 2, h, hi, hk => by
  by_cases hlt : one < 10
  ·have hw : wrap64 ((one : Int) + 1) = ((one + 1 : Nat) : Int) := by rw [wrap64_id (by omega) (by omega)]; rfl
   have ih := rest_l1 h0 h4 s ten ht m (one + 1) k (by omega) (by omega) (by omega)
   have hr : wrap64 (wrap64 (20 + wrap64 (10 * (ten : Int))) + (one : Int)) = ((20 + 10 * ten + one : Nat) : Int) := by
    rw [wrap64_id (n := 10 * (ten : Int)) (by omega) (by omega), wrap64_id (n := 20 + 10 * (ten : Int)) (by omega) (by omega), wrap64_id (by omega) (by omega)]; omega
   have hcut : tail1 l ten one s = if ones l ten one = s then some (20 + 10 * ten + one) else tail1 l ten (one + 1) s := by
    unfold tail1
    rw [show 10 - one = (10 - (one + 1)) + 1 by omega, List.range'_succ, List.map_cons, List.find?_cons]
    by_cases he : ones l ten one = s
    ·simp [he]
    ·rw [if_neg he]
     have : (ones l ten one == s) = false := beq_eq_false_iff_ne.mpr he
     simp [this]
   have hj : ∀ x : Bool, x = decide (ones l ten one = s) → XA.word_tongue_rest.j2 (k + 1) (ba s) ten one 8 ten x (U l) (T l) (M l) (D l) (fo l) (fh l) (ft l) =
     match tail1 l ten one s with
     | some n => some ((n : Int), true)
     | none => XA.word_tongue_rest.l0 (k + 2 - (2 * (10 - one) + 1)) (ba s) 8 ((ten + 1 : Nat) : Int) (U l) (T l) (M l) (D l) (fo l) (fh l) (ft l) := by
    rintro x rfl
    rw [XA.word_tongue_rest.j2, hcut]
    by_cases he : ones l ten one = s
    ·rw [if_pos (by simp [he]), if_pos he, hr]
    ·rw [if_neg (by simp [he]), if_neg he, hw, ih]
     rw [show k - (2 * (10 - (one + 1)) + 1) = k + 2 - (2 * (10 - one) + 1) by omega]
   have hb : ((ba (ones l ten one)).toList == (ba s).toList) = decide (ones l ten one = s) := by rw [ba_toList, ba_toList]; by_cases he : ones l ten one = s <;> simp [he]
   rw [XA.word_tongue_rest.l1, if_pos (by omega)]
   rcases ones_call h0 h4 (ten := ten) (one := one) ht (by omega) with ⟨rfl, hf, hc⟩ | ⟨rfl, hf, hc⟩ | ⟨rfl, hf, hc⟩
   ·rw [if_pos hf, hc, Option.bind_some, hb]; exact hj _ rfl
   ·rw [if_neg (by decide), if_pos hf, hc, Option.bind_some, hb]; exact hj _ rfl
   ·rw [if_neg (by decide), if_neg (by decide), if_pos hf, hc, Option.bind_some, hb]; exact hj _ rfl
  ·obtain rfl : one = 10 := by omega
   rw [XA.word_tongue_rest.l1, if_neg (by omega), wrap64_id (by omega) (by omega)]
   rfl
def tail2 (l ten : Nat) (s : S) : Option Nat :=
 (((List.range' ten (8 - ten)).flatMap fun t => ((List.range' 1 9).map fun o => (ones l t o, 20 + 10 * t + o))).find? (·.1 == s)).map (·.2)
theorem rest_l0 {l : Nat} (h0 : 0 < l) (h4 : l < 4) (s : S) : ∀ (m ten k : Nat), 8 - ten ≤ m → ten ≤ 8 → 20 * m + 1 ≤ k →
  XA.word_tongue_rest.l0 k (ba s) 8 ten (U l) (T l) (M l) (D l) (fo l) (fh l) (ft l) = some (enc (tail2 l ten s))
 | 0, ten, k + 1, h, hi, _ => by
  obtain rfl : ten = 8 := by omega
  rw [XA.word_tongue_rest.l0, if_neg (by omega)]
  rfl
 | m + 1, ten, k + 1, h, hi, hk => by
  by_cases hlt : ten < 8
  ·have h1 := rest_l1 h0 h4 s ten hlt 9 1 k (by omega) (by omega) (by omega)
   have ih := rest_l0 h0 h4 s m (ten + 1) (k - (2 * (10 - 1) + 1)) (by omega) (by omega) (by omega)
   have hcut : tail2 l ten s = match tail1 l ten 1 s with | some n => some n | none => tail2 l (ten + 1) s := by
    unfold tail2 tail1
    have hR : List.range' ten (8 - ten) = ten :: List.range' (ten + 1) (8 - (ten + 1)) := by rw [show 8 - ten = (8 - (ten + 1)) + 1 by omega]; rfl
    rw [hR, List.flatMap_cons, List.find?_append]
    show Option.map _ (Option.or (List.find? _ (List.map _ (List.range' 1 9))) _) = _
    cases List.find? (fun x => x.1 == s) (List.map (fun o => (ones l ten o, 20 + 10 * ten + o)) (List.range' 1 9)) <;> rfl
   rw [XA.word_tongue_rest.l0, if_pos (by omega)]
   rw [show ((1 : Int)) = ((1 : Nat) : Int) from rfl, h1, hcut]
   cases tail1 l ten 1 s with
   | some n => rfl
   | none => exact ih
  ·obtain rfl : ten = 8 := by omega
   rw [XA.word_tongue_rest.l0, if_neg (by omega)]
   rfl
theorem restTab_eq (l : Nat) (s : S) : tail2 l 0 s = ((restTab l).find? (·.1 == s)).map (·.2) := by
 have h : ((List.range' 0 (8 - 0)).flatMap fun t => ((List.range' 1 9).map fun o => (ones l t o, 20 + 10 * t + o))) = restTab l := by
  unfold restTab
  rw [List.range_eq_range']
  congr 1
 unfold tail2
 rw [h]
theorem rest_f {l : Nat} (h0 : 0 < l) (h4 : l < 4) (s : S) (k : Nat) (hk : 200 ≤ k) :
  XA.word_tongue_rest.f k (U l) (T l) (M l) (D l) (fo l) (fh l) (ft l) (ba s) = some (enc (rest l s)) := by
 have hul := units_len l h4 h0
 have htl := tens_len l h4 h0
 have hl0 := rest_l0 h0 h4 s 8 0 k (by omega) (by omega) (by omega)
 have hi := index_f (units l) s (by omega) k (by omega)
 have hj := index_f (tens l) s (by omega) k (by omega)
 have hT : ((T l).length : Int) = 8 := by rw [T, List.length_map, htl]; rfl
 have hz : ∀ t : Int, t ≤ 0 → (if t > 0 then some (t, true) else (XL.slices_Index_string_string.f k (T l) (ba s)).bind fun t217 => if t217 ≥ 0 then some (wrap64 (20 + wrap64 (10 * t217)), true) else XA.word_tongue_rest.l0 k (ba s) ((T l).length : Int) 0 (U l) (T l) (M l) (D l) (fo l) (fh l) (ft l)) =
   some (enc (match (tens l).findIdx? (· == s) with | some i => some (20 + 10 * i) | none => ((restTab l).find? (·.1 == s)).map (·.2))) := by
  intro t ht
  rw [if_neg (by omega), show XL.slices_Index_string_string.f k (T l) (ba s) = _ from hj, Option.bind_some]
  cases hx : (tens l).findIdx? (· == s) with
  | some i =>
   have hlt : i < 8 := by rw [List.findIdx?_eq_some_iff_findIdx_eq] at hx; omega
   show (if ((i : Nat) : Int) ≥ 0 then some (wrap64 (20 + wrap64 (10 * ((i : Nat) : Int))), true) else _) = _
   rw [if_pos (by omega), wrap64_id (n := 10 * (i : Int)) (by omega) (by omega), wrap64_id (by omega) (by omega)]
   show some (_, true) = some (((20 + 10 * i : Nat) : Int), true)
   congr 2
  | none =>
   show (if (-1 : Int) ≥ 0 then _ else _) = _
   rw [if_neg (by omega), hT, ← restTab_eq]
   exact hl0
 unfold XA.word_tongue_rest.f rest
 rw [show XL.slices_Index_string_string.f k (U l) (ba s) = _ from hi, Option.bind_some]
 cases hx : (units l).findIdx? (· == s) with
 | some i =>
  cases i with
  | zero => exact hz 0 (by omega)
  | succ i =>
   show (if (((i + 1 : Nat)) : Int) > 0 then _ else _) = _
   rw [if_pos (by omega)]; rfl
 | none => exact hz (-1) (by omega)
/-! ### The number from 1 to 999 with a text -/
def cutSuf (s e : S) : S := if e.isSuffixOf s then s.take (s.length - e.length) else s
def headOf (l h : Nat) : S := cutSuf (hundreds l h sAsk) sAsk
def valueAt (l h : Nat) (s : S) : Option Nat :=
 if hundreds l h [] = s then some (100 * h) else if (headOf l h).isPrefixOf s then (rest l (s.drop (headOf l h).length)).map (100 * h + ·) else none
def value (l : Nat) (s : S) : Option Nat :=
 match rest l s with
 | some n => some n
 | none => (List.range' 1 9).findSome? fun h => valueAt l h s
theorem cutSuffix_f (s e : S) (h : s.length ≤ 1000000) : XA.strings_CutSuffix.f (ba s) (ba e) = some (ba (cutSuf s e), e.isSuffixOf s) := by
 unfold XA.strings_CutSuffix.f XA.stringslite_CutSuffix.f cutSuf
 have hs : XA.stringslite_HasSuffix.f (ba s) (ba e) = some (e.isSuffixOf s) := by
  have := hasSuffix_f s e h
  unfold XA.strings_HasSuffix.f at this
  obtain ⟨x, hx, hy⟩ := Option.bind_eq_some_iff.mp this
  rw [hx, ← Option.some.inj hy]
 rw [hs, Option.bind_some]
 by_cases hb : e.isSuffixOf s = true
 ·have hl := (List.isSuffixOf_iff_suffix.mp hb).length_le
  have hw : wrap64 (((ba s).size : Int) - ((ba e).size : Int)) = ((s.length - e.length : Nat) : Int) := by rw [ba_size, ba_size, wrap64_id (by omega) (by omega)]; omega
  rw [if_pos hb, if_pos hb, hw, if_pos (by omega), if_pos (by rw [ba_size]; omega), Int.toNat_natCast, ba_take, hb]; rfl
 ·rw [if_neg hb, if_neg hb, Bool.eq_false_iff.mpr hb]; rfl
theorem cutPrefix_f (s e : S) (h : s.length ≤ 1000000) : XA.strings_CutPrefix.f (ba s) (ba e) = some (ba (if e.isPrefixOf s then s.drop e.length else s), e.isPrefixOf s) := by
 unfold XA.strings_CutPrefix.f XA.stringslite_CutPrefix.f
 have hs : XA.stringslite_HasPrefix.f (ba s) (ba e) = some (e.isPrefixOf s) := by
  unfold XA.stringslite_HasPrefix.f
  simp only [ba_size, ge_iff_le]
  by_cases hl : (e.length : Int) ≤ s.length
  ·rw [if_pos hl, if_pos (by omega), if_pos hl, Int.toNat_natCast, ba_take, ba_toList, ba_toList]
   congr 1
   rw [Bool.eq_iff_iff, beq_iff_eq, List.isPrefixOf_iff_prefix, List.prefix_iff_eq_take]
   exact eq_comm
  ·rw [if_neg hl]
   congr 1
   symm
   rw [Bool.eq_false_iff]
   intro h'
   have := (List.isPrefixOf_iff_prefix.mp h').length_le
   omega
 rw [hs, Option.bind_some]
 by_cases hb : e.isPrefixOf s = true
 ·have hl := (List.isPrefixOf_iff_prefix.mp hb).length_le
  rw [if_pos hb, if_pos hb, if_pos (by omega), if_pos (by rw [ba_size, ba_size]; omega), ba_size, ba_size, Int.toNat_natCast, ba_drop s _ (ba_size s), hb]; rfl
 ·rw [if_neg hb, if_neg hb, Bool.eq_false_iff.mpr hb]; rfl
theorem hund_call {l : Nat} (h0 : 0 < l) (h4 : l < 4) {h : Nat} (h1 : 1 ≤ h) (h10 : h < 10) (r : S) (hr : r.length ≤ 100000) :
  (l = 1 ∧ fh l = some 58 ∧ XA.word_tongues_2.f (U l) (T l) (M l) (D l) (fo l) (some 58) (ft l) h (ba r) = some (ba (hundreds l h r))) ∨
  (l = 2 ∧ fh l = some 63 ∧ XA.word_tongues_5.f (U l) (T l) (M l) (D l) (fo l) (some 63) (ft l) h (ba r) = some (ba (hundreds l h r))) ∨
  (l = 3 ∧ fh l = some 66 ∧ XA.word_tongues_8.f (U l) (T l) (M l) (D l) (fo l) (some 66) (ft l) h (ba r) = some (ba (hundreds l h r))) := by
 have hu := units_le l h4 h (by omega)
 have hul := units_len l h4 h0
 rcases langs h0 h4 with rfl | rfl | rfl
 ·exact Or.inl ⟨rfl, rfl, t2_f (units 1) _ _ _ _ _ _ h r (by omega) (by omega)⟩
 ·exact Or.inr (Or.inl ⟨rfl, rfl, t5_f (units 2) _ _ _ _ _ _ h r (by omega) (by omega)⟩)
 ·exact Or.inr (Or.inr ⟨rfl, rfl, t8_f _ _ _ _ _ _ _ h r h1 h10 (by omega)⟩)
theorem enc_map (o : Option Nat) : enc o = (match o with | some n => ((n : Int), true) | none => (0, false)) := rfl
theorem rest_le {l : Nat} (h4 : l < 4) (s : S) {n : Nat} (h : rest l s = some n) : n < 100 := by
 unfold rest at h
 have hu : (units l).length ≤ 20 := (show ∀ l < 4, (units l).length ≤ 20 by decide) l h4
 have ht : (tens l).length ≤ 8 := (show ∀ l < 4, (tens l).length ≤ 8 by decide) l h4
 have hr : ∀ x ∈ restTab l, x.2 < 100 := by
  intro x hx
  simp only [restTab, List.mem_flatMap, List.mem_map, List.mem_range] at hx
  obtain ⟨t, ht, o, ho, rfl⟩ := hx
  show 20 + 10 * t + (o + 1) < 100
  omega
 have h2 : ∀ n, (match (tens l).findIdx? (· == s) with | some i => some (20 + 10 * i) | none => ((restTab l).find? (·.1 == s)).map (·.2)) = some n → n < 100 := by
  intro n hn
  cases hx : (tens l).findIdx? (· == s) with
  | some i =>
   rw [hx] at hn
   have := List.findIdx?_eq_some_iff_findIdx_eq.mp hx
   have := Option.some.inj hn
   omega
  | none =>
   rw [hx] at hn
   obtain ⟨x, hx, rfl⟩ := Option.map_eq_some_iff.mp hn
   exact hr x (List.mem_of_find?_eq_some hx)
 cases hx : (units l).findIdx? (· == s) with
 | some i =>
  rw [hx] at h
  cases i with
  | zero => exact h2 n h
  | succ i =>
   have := List.findIdx?_eq_some_iff_findIdx_eq.mp hx
   have := Option.some.inj h
   omega
 | none => rw [hx] at h; exact h2 n h
def tail3 (l h : Nat) (s : S) : Option Nat := (List.range' h (10 - h)).findSome? fun h => valueAt l h s
theorem value_l0 {l : Nat} (h0 : 0 < l) (h4 : l < 4) (s : S) (hs : s.length ≤ 100000) : ∀ (m h k : Nat), 10 - h ≤ m → 1 ≤ h → h ≤ 10 → 4 * m + 300 ≤ k →
  XA.word_tongue_value.l0 k (ba s) h (U l) (T l) (M l) (D l) (fo l) (fh l) (ft l) = some (enc (tail3 l h s))
 | 0, h, k + 1, hm, h1, hi, _ => by
  obtain rfl : h = 10 := by omega
  rw [XA.word_tongue_value.l0, if_neg (by omega)]; rfl
 | m + 1, h, k + 3, hm, h1, hi, hk => by
  by_cases hlt : h < 10
  ·have hw : wrap64 ((h : Int) + 1) = ((h + 1 : Nat) : Int) := by rw [wrap64_id (by omega) (by omega)]; rfl
   have ih := value_l0 h0 h4 s hs m (h + 1) k (by omega) (by omega) (by omega) (by omega)
   have hcut : tail3 l h s = match valueAt l h s with | some n => some n | none => tail3 l (h + 1) s := by
    unfold tail3
    rw [show 10 - h = (10 - (h + 1)) + 1 by omega, List.range'_succ, List.findSome?_cons]
    cases valueAt l h s <;> rfl
   have hj2 : XA.word_tongue_value.j2 (k + 1) (ba s) h (ba (headOf l h)) (U l) (T l) (M l) (D l) (fo l) (fh l) (ft l) =
     some (enc (match (if (headOf l h).isPrefixOf s then (rest l (s.drop (headOf l h).length)).map (100 * h + ·) else none) with | some n => some n | none => tail3 l (h + 1) s)) := by
    rw [XA.word_tongue_value.j2, cutPrefix_f s _ (by omega), Option.bind_some]
    by_cases hp : (headOf l h).isPrefixOf s = true
    ·simp only [hp, if_true]
     rw [rest_f h0 h4 _ k (by omega), Option.bind_some]
     cases hx : rest l (s.drop (headOf l h).length) with
     | some n =>
      have hn := rest_le h4 _ hx
      rw [if_pos (by rfl)]
      show some (wrap64 (wrap64 (100 * (h : Int)) + (n : Int)), true) = some (((100 * h + n : Nat) : Int), true)
      rw [wrap64_id (n := 100 * (h : Int)) (by omega) (by omega), wrap64_id (by omega) (by omega)]
      congr 2
     | none => rw [if_neg (by decide), hw]; exact ih
    ·rw [if_neg hp, if_neg hp, hw]; exact ih
   have hj1 : ∀ x : Bool, x = decide (hundreds l h [] = s) → XA.word_tongue_value.j1 (k + 2) (ba s) h x (U l) (T l) (M l) (D l) (fo l) (fh l) (ft l) = some (enc (tail3 l h s)) := by
    rintro x rfl
    have hql := hundreds_le h4 h h1 hlt sAsk
    rw [XA.word_tongue_value.j1, hcut]
    by_cases he : hundreds l h [] = s
    ·rw [if_pos (by simp [he]), wrap64_id (by omega) (by omega)]
     unfold valueAt; rw [if_pos he]; rfl
    ·rw [if_neg (by simp [he])]
     unfold valueAt; rw [if_neg he]
     have hsl : List.length sAsk = 1 := rfl
     have hcs : XA.strings_CutSuffix.f (ba (hundreds l h sAsk)) (⟨#[63]⟩ : ByteArray) = some (ba (headOf l h), sAsk.isSuffixOf (hundreds l h sAsk)) := cutSuffix_f _ sAsk (by omega)
     rcases hund_call h0 h4 h1 hlt sAsk (by omega) with ⟨rfl, hf, hc⟩ | ⟨rfl, hf, hc⟩ | ⟨rfl, hf, hc⟩
     ·rw [if_pos hf, show (⟨#[63]⟩ : ByteArray) = ba sAsk from rfl, hc, Option.bind_some, show ba sAsk = (⟨#[63]⟩ : ByteArray) from rfl, hcs, Option.bind_some]; exact hj2
     ·rw [if_neg (by decide), if_pos hf, show (⟨#[63]⟩ : ByteArray) = ba sAsk from rfl, hc, Option.bind_some, show ba sAsk = (⟨#[63]⟩ : ByteArray) from rfl, hcs, Option.bind_some]; exact hj2
     ·rw [if_neg (by decide), if_neg (by decide), if_pos hf, show (⟨#[63]⟩ : ByteArray) = ba sAsk from rfl, hc, Option.bind_some, show ba sAsk = (⟨#[63]⟩ : ByteArray) from rfl, hcs, Option.bind_some]; exact hj2
   have hb : ((ba (hundreds l h [])).toList == (ba s).toList) = decide (hundreds l h [] = s) := by rw [ba_toList, ba_toList]; by_cases he : hundreds l h [] = s <;> simp [he]
   rw [XA.word_tongue_value.l0, if_pos (by omega), show (⟨#[]⟩ : ByteArray) = ba [] from rfl]
   rcases hund_call h0 h4 h1 hlt [] (by simp) with ⟨rfl, hf, hc⟩ | ⟨rfl, hf, hc⟩ | ⟨rfl, hf, hc⟩
   ·rw [if_pos hf, hc, Option.bind_some, hb]; exact hj1 _ rfl
   ·rw [if_neg (by decide), if_pos hf, hc, Option.bind_some, hb]; exact hj1 _ rfl
   ·rw [if_neg (by decide), if_neg (by decide), if_pos hf, hc, Option.bind_some, hb]; exact hj1 _ rfl
  ·obtain rfl : h = 10 := by omega
   rw [XA.word_tongue_value.l0, if_neg (by omega)]; rfl
theorem value_f {l : Nat} (h0 : 0 < l) (h4 : l < 4) (s : S) (hs : s.length ≤ 100000) (k : Nat) (hk : 400 ≤ k) :
  XA.word_tongue_value.f k (U l) (T l) (M l) (D l) (fo l) (fh l) (ft l) (ba s) = some (enc (value l s)) := by
 unfold XA.word_tongue_value.f value
 rw [rest_f h0 h4 s k (by omega), Option.bind_some]
 cases rest l s with
 | some n => rfl
 | none =>
  rw [if_neg (by decide)]
  exact value_l0 h0 h4 s hs 9 1 k (by omega) (by omega) (by omega) (by omega)
/-! ### How many thousands a text says -/
def endOf (l : Nat) : S := (thousands l sAsk 2).drop 1
def manyOf (l : Nat) (s x : S) : Option Nat :=
 match value l x with
 | some q => if thousands l (small l q) q = s then some q else none
 | none => none
def many (l : Nat) (s : S) : Option Nat :=
 [(units l).getD 1 [], cutSuf s (endOf l), cutSuf s (endOf l) ++ sS, cutSuf s (endOf l) ++ sO].findSome? fun x => manyOf l s x
theorem thou_call {l : Nat} (h0 : 0 < l) (h4 : l < 4) (q : S) (n : Nat) (hq : q.length ≤ 100000) :
  (l = 1 ∧ ft l = some 60 ∧ XA.word_tongues_3.f (ba q) n = some (ba (thousands l q n))) ∨
  (l = 2 ∧ ft l = some 64 ∧ XA.word_tongues_6.f (ba q) n = some (ba (thousands l q n))) ∨
  (l = 3 ∧ ft l = some 67 ∧ XA.word_tongues_9.f (ba q) n = some (ba (thousands l q n))) := by
 rcases langs h0 h4 with rfl | rfl | rfl
 ·exact Or.inl ⟨rfl, rfl, t3_f q n (by omega)⟩
 ·exact Or.inr (Or.inl ⟨rfl, rfl, t6_f q n (by omega)⟩)
 ·exact Or.inr (Or.inr ⟨rfl, rfl, t9_f q n (by omega)⟩)
theorem value_lt {l : Nat} (h4 : l < 4) (s : S) {n : Nat} (h : value l s = some n) : n < 1000 := by
 unfold value at h
 cases hr : rest l s with
 | some m => rw [hr] at h; have := rest_le h4 s hr; have := Option.some.inj h; omega
 | none =>
  rw [hr] at h
  obtain ⟨x, hx, hv⟩ := List.exists_of_findSome?_eq_some h
  rw [List.mem_range'_1] at hx
  unfold valueAt at hv
  split at hv
  ·have := Option.some.inj hv; omega
  ·split at hv
   ·obtain ⟨m, hm, rfl⟩ := Option.map_eq_some_iff.mp hv
    have := rest_le h4 _ hm
    omega
   ·cases hv
theorem cutSuf_le (s e : S) : (cutSuf s e).length ≤ s.length := by
 unfold cutSuf; split
 ·simp
 ·exact Nat.le_refl _
theorem many_j2 {l : Nat} (h0 : 0 < l) (h4 : l < 4) (s x : S) (hx : x.length ≤ 100000) (i : Int) (a b c d : ByteArray) (k : Nat) (hk : 400 ≤ k) :
  XA.word_tongue_many.j2 (k + 2) (ba s) (ba x) i a b c d (U l) (T l) (M l) (D l) (fo l) (fh l) (ft l) =
   match manyOf l s x with
   | some q => some ((q : Int), true)
   | none => XA.word_tongue_many.l0 k (ba s) (wrap64 (i + 1)) a b c d (U l) (T l) (M l) (D l) (fo l) (fh l) (ft l) := by
 rw [XA.word_tongue_many.j2, value_f h0 h4 x hx (k + 1) (by omega), Option.bind_some]
 unfold manyOf
 cases hv : value l x with
 | none => rw [if_neg (by decide), XA.word_tongue_many.j3, if_neg (by decide)]
 | some q =>
  have hq := value_lt h4 x hv
  have hsl := small_le h4 hq
  rw [if_pos (by rfl)]
  show Option.bind (XA.word_tongue_small.f (k + 1) (U l) (T l) (M l) (D l) (fo l) (fh l) (ft l) (q : Int)) _ = _
  rw [small_f h0 h4 k q hq, Option.bind_some]
  have hb : ((ba (thousands l (small l q) q)).toList == (ba s).toList) = decide (thousands l (small l q) q = s) := by rw [ba_toList, ba_toList]; by_cases he : thousands l (small l q) q = s <;> simp [he]
  have hj : ∀ y : Bool, y = decide (thousands l (small l q) q = s) → XA.word_tongue_many.j3 (k + 1) (ba s) q i y a b c d (U l) (T l) (M l) (D l) (fo l) (fh l) (ft l) =
    match (if thousands l (small l q) q = s then some q else none) with
    | some q => some ((q : Int), true)
    | none => XA.word_tongue_many.l0 k (ba s) (wrap64 (i + 1)) a b c d (U l) (T l) (M l) (D l) (fo l) (fh l) (ft l) := by
   rintro y rfl
   rw [XA.word_tongue_many.j3]
   by_cases he : thousands l (small l q) q = s
   ·rw [if_pos (by simp [he]), if_pos he]
   ·rw [if_neg (by simp [he]), if_neg he]
  rcases thou_call h0 h4 (small l q) q (by omega) with ⟨rfl, hf, hc⟩ | ⟨rfl, hf, hc⟩ | ⟨rfl, hf, hc⟩
  ·rw [if_pos hf]; show Option.bind (XA.word_tongues_3.f _ (q : Int)) _ = _; rw [hc, Option.bind_some, hb]; exact hj _ rfl
  ·rw [if_neg (by decide), if_pos hf]; show Option.bind (XA.word_tongues_6.f _ (q : Int)) _ = _; rw [hc, Option.bind_some, hb]; exact hj _ rfl
  ·rw [if_neg (by decide), if_neg (by decide), if_pos hf]; show Option.bind (XA.word_tongues_9.f _ (q : Int)) _ = _; rw [hc, Option.bind_some, hb]; exact hj _ rfl
theorem many_f {l : Nat} (h0 : 0 < l) (h4 : l < 4) (s : S) (hs : s.length ≤ 90000) (k : Nat) (hk : 500 ≤ k) :
  XA.word_tongue_many.f k (U l) (T l) (M l) (D l) (fo l) (fh l) (ft l) (ba s) = some (enc (many l s)) := by
 obtain ⟨k, rfl⟩ : ∃ j, k = j + 14 := ⟨k - 14, by omega⟩
 have hul := units_len l h4 h0
 have hu1 := units_le l h4 1 (by omega)
 have hc := cutSuf_le s (endOf l)
 have hsS : List.length sS = 1 := rfl
 have hsO : List.length sO = 1 := rfl
 have hj0 : XA.word_tongue_many.j0 (k + 14) (ba s) (ba (endOf l)) (U l) (T l) (M l) (D l) (fo l) (fh l) (ft l) = some (enc (many l s)) := by
  rw [XA.word_tongue_many.j0, cutSuffix_f s _ (by omega), Option.bind_some, if_pos (by rw [U, List.length_map, hul]; decide), if_pos (by rw [ba_size]; omega)]
  show XA.word_tongue_many.l0 (k + 13) (ba s) 0 (rdOf ByteArray.empty ((units l).map ba) ((1 : Nat) : Int)) (ba (cutSuf s (endOf l))) (ba (cutSuf s (endOf l)) ++ ba sS) (ba (cutSuf s (endOf l)) ++ ba sO) _ _ _ _ _ _ _ = _
  rw [rd_map, ba_app, ba_app]
  unfold many
  simp only [List.findSome?_cons, List.findSome?_nil]
  rw [XA.word_tongue_many.l0, if_pos (by omega), if_pos (by rfl), many_j2 h0 h4 s _ (by omega) 0 _ _ _ _ (k + 10) (by omega)]
  cases manyOf l s ((units l).getD 1 []) with
  | some q => rfl
  | none =>
  show XA.word_tongue_many.l0 (k + 10) (ba s) (wrap64 (0 + 1)) _ _ _ _ _ _ _ _ _ _ _ = _
  rw [show wrap64 (0 + 1) = 1 from wrap64_id (by decide) (by decide), XA.word_tongue_many.l0, if_pos (by omega), if_neg (by omega), if_pos (by rfl), many_j2 h0 h4 s _ (by omega) 1 _ _ _ _ (k + 7) (by omega)]
  cases manyOf l s (cutSuf s (endOf l)) with
  | some q => rfl
  | none =>
  show XA.word_tongue_many.l0 (k + 7) (ba s) (wrap64 (1 + 1)) _ _ _ _ _ _ _ _ _ _ _ = _
  rw [show wrap64 (1 + 1) = 2 from wrap64_id (by decide) (by decide), XA.word_tongue_many.l0, if_pos (by omega), if_neg (by omega), if_neg (by omega), if_pos (by rfl), many_j2 h0 h4 s _ (by rw [List.length_append]; omega) 2 _ _ _ _ (k + 4) (by omega)]
  cases manyOf l s (cutSuf s (endOf l) ++ sS) with
  | some q => rfl
  | none =>
  show XA.word_tongue_many.l0 (k + 4) (ba s) (wrap64 (2 + 1)) _ _ _ _ _ _ _ _ _ _ _ = _
  rw [show wrap64 (2 + 1) = 3 from wrap64_id (by decide) (by decide), XA.word_tongue_many.l0, if_pos (by omega), if_neg (by omega), if_neg (by omega), if_neg (by omega), if_pos (by rfl), many_j2 h0 h4 s _ (by rw [List.length_append]; omega) 3 _ _ _ _ (k + 1) (by omega)]
  cases manyOf l s (cutSuf s (endOf l) ++ sO) with
  | some q => rfl
  | none =>
  show XA.word_tongue_many.l0 (k + 1) (ba s) (wrap64 (3 + 1)) _ _ _ _ _ _ _ _ _ _ _ = _
  rw [show wrap64 (3 + 1) = 4 from wrap64_id (by decide) (by decide), XA.word_tongue_many.l0, if_neg (by omega)]
  rfl
 unfold XA.word_tongue_many.f
 have hend : ∀ t : S, t.length = (ba t).size → 1 ≤ t.length → t = thousands l sAsk 2 → (if (1 : Int) ≤ ((ba t).size : Int) then XA.word_tongue_many.j0 (k + 14) (ba s) ((ba t).extract 1 (ba t).size) (U l) (T l) (M l) (D l) (fo l) (fh l) (ft l) else none) = some (enc (many l s)) := by
  rintro t ht h1 rfl
  rw [if_pos (by omega), ba_size, ba_drop _ _ (ba_size _)]
  exact hj0
 rcases thou_call h0 h4 sAsk 2 (by decide) with ⟨rfl, hf, hc⟩ | ⟨rfl, hf, hc⟩ | ⟨rfl, hf, hc⟩
 ·rw [if_pos hf]; show Option.bind (XA.word_tongues_3.f (ba sAsk) ((2 : Nat) : Int)) _ = _; rw [hc, Option.bind_some]; exact hend _ (ba_size _).symm (by decide) rfl
 ·rw [if_neg (by decide), if_pos hf]; show Option.bind (XA.word_tongues_6.f (ba sAsk) ((2 : Nat) : Int)) _ = _; rw [hc, Option.bind_some]; exact hend _ (ba_size _).symm (by decide) rfl
 ·rw [if_neg (by decide), if_neg (by decide), if_pos hf]; show Option.bind (XA.word_tongues_9.f (ba sAsk) ((2 : Nat) : Int)) _ = _; rw [hc, Option.bind_some]; exact hend _ (ba_size _).symm (by decide) rfl
end Go.Proofs.YtjgobfbjmlacjaaDoor.XP
