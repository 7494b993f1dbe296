/-
  The contracts of the library functions that are taken off the shelf, in the form that the printed proofs ask.
-/
import Derived.Test.YtjgobfbjmlacjaaDoorXWords
import Derived.Test.YtjgobfbjmlacjaaDoorXShelf
namespace Go.Proofs.YtjgobfbjmlacjaaDoor
open Go.RowKit Go.Proofs.YtjgobfbjmlacjaaDoorW.PrintWords
def strs (l : List (List UInt8)) : List ByteArray := l.map fun x => ⟨x.toArray⟩
theorem cntF_le (l : List UInt8) : ∀ ws, Lib.cntF ws l ≤ l.length := by
  induction l with
  | nil => intro ws; simp [Lib.cntF]
  | cons b l ih =>
    intro ws
    have := ih (Lib.isSp b)
    simp only [Lib.cntF, List.length_cons]
    split <;> omega
def strings_Fields.f (a0 : ByteArray) : Option (List ByteArray) :=
  if a0.size < 4294967281 ∧ a0.data.toList.all (fun b => decide (b.toNat < 128)) = true then some (strs (Lib.fields a0.data.toList)) else none
theorem strings_Fields.calls (a0 : ByteArray) (r : List ByteArray) (w : World) (hL : LW w) (h : strings_Fields.f a0 = some r) :
    Calls Tryd.prog 42 #[.string a0] w fun e w' => ∃ v0_ : Value, e = .returned (v0_) ∧ Kd.R Kd.string 9 w' w.heap.size (fun _ => True) v0_ r ∧ Below w.heap.size w w' := by
  unfold strings_Fields.f at h
  by_cases hc : a0.size < 4294967281 ∧ a0.data.toList.all (fun b => decide (b.toNat < 128)) = true
  · rw [if_pos hc] at h
    obtain rfl := Option.some.inj h
    obtain ⟨h1, h2⟩ := hc
    refine (Tryd.strings_Fields a0 w h1 (fun j b hb => ?_) hL.tab).mono ?_
    · rw [List.all_eq_true] at h2
      exact of_decide_eq_true (h2 b (List.mem_of_getElem? hb))
    · rintro e w' ⟨rfl, rfl⟩
      refine ⟨_, rfl, ?_, (Below.refl _ _).alloc (Nat.le_refl _) _⟩
      have hl : (strs (Lib.fields a0.data.toList)).length = (Lib.fields a0.data.toList).length := by simp [strs]
      have hm : (strs (Lib.fields a0.data.toList)).length ≤ 9223372036854775807 := by
        rw [hl]
        have h4 := cntF_le a0.data.toList true
        have h5 := Lib.fields_length a0.data.toList
        have h3 : a0.data.toList.length = a0.size := Array.length_toList
        omega
      have ho := own_lit_of (enc := Value.string) w w.heap.size 9 (strs (Lib.fields a0.data.toList)) (Nat.le_refl _) hm
      have he : encs Value.string (strs (Lib.fields a0.data.toList)) = (Lib.fields a0.data.toList).map fun l => Value.string ⟨l.toArray⟩ := by simp [encs, strs]
      rw [he, hl] at ho
      refine Kd.R_of_own (enc := Value.string) (h1 := fun _ => rfl) ?_ (fun _ _ => trivial)
      rw [he, hl]
      exact ho
  · rw [if_neg hc] at h
    cases h
def strings_Join.f (l0 : List ByteArray) (a1 : ByteArray) : Option ByteArray :=
  if l0.length ≤ 140737488355328 ∧ (Lib.join (l0.map (·.data.toList)) a1.data.toList).length ≤ 140737488355328 then some ⟨(Lib.join (l0.map (·.data.toList)) a1.data.toList).toArray⟩ else none
theorem strings_Join.calls (A0 : Option Addr) (c0 : Nat) (l0 : List ByteArray) (a1 : ByteArray) (r : ByteArray) (w : World) (hr0 : Kd.C Kd.string w A0 l0.length l0) (hc0 : l0.length ≤ c0) (h : strings_Join.f l0 a1 = some r) :
    Calls Tryd.prog 39 #[.slice A0 l0.length c0, .string a1] w fun e w' => e = .returned (.string r) ∧ Below w.heap.size w w' := by
  unfold strings_Join.f at h
  by_cases hc : l0.length ≤ 140737488355328 ∧ (Lib.join (l0.map (·.data.toList)) a1.data.toList).length ≤ 140737488355328
  · rw [if_pos hc] at h
    obtain rfl := Option.some.inj h
    by_cases hn : l0 = []
    · subst hn
      refine (Tryd.strings_Join_none A0 c0 a1 w).mono ?_
      rintro e w' ⟨rfl, rfl⟩
      exact ⟨rfl, Below.refl _ _⟩
    · have hpos : 0 < l0.length := List.length_pos_iff.2 hn
      obtain ⟨ad, rfl, hcell⟩ := Kd.at_string hr0 0 (by decide) (by omega)
      have hcells : ∀ (j : Nat) x, l0[j]? = some x → w.cell? (ad.add j) = some (.string x) := by
        intro j x hx
        have hj : j < l0.length := (List.getElem?_eq_some_iff.1 hx).1
        obtain ⟨ad', e, hc'⟩ := Kd.at_string hr0 (j : Int) (by omega) (by omega)
        obtain rfl := Option.some.inj e
        have : rdOf ByteArray.empty l0 (j : Int) = x := by simp [rdOf, List.getD_eq_getElem?_getD, hx]
        rw [this] at hc'
        exact hc'
      obtain ⟨b, off, spot⟩ := ad
      have h0 := hcells 0 _ (List.getElem?_eq_getElem hpos)
      have hspot : spot = none := by simpa [Addr.add] using World.cell?_spot h0
      subst hspot
      have hlt : b < w.heap.size := World.block_lt_of_cell? w _ h0
      refine (Tryd.strings_Join b off c0 l0 a1 w (fun j x hx => ?_) hlt hc.1 hc0 hc.2).mono ?_
      · rw [← Go.WideShapes.add_plain]
        exact hcells j x hx
      · rintro e w' ⟨rfl, hb⟩
        exact ⟨rfl, hb⟩
  · rw [if_neg hc] at h
    cases h
def strings_Contains.f (a0 a1 : ByteArray) : Option Bool := if a0.size < 4294967281 then some (Lib.contains a0.data.toList a1.data.toList) else none
theorem strings_Contains.calls (a0 a1 : ByteArray) (r : Bool) (w : World) (hL : LW w) (h : strings_Contains.f a0 a1 = some r) :
    Calls Tryd.prog 44 #[.string a0, .string a1] w fun e w' => e = .returned (.bool r) ∧ Below w.heap.size w w' := by
  unfold strings_Contains.f at h
  by_cases hc : a0.size < 4294967281
  · rw [if_pos hc] at h
    obtain rfl := Option.some.inj h
    obtain ⟨m, hm⟩ := hL.max
    refine (Tryd.strings_Contains a0 a1 m w hc hm).mono ?_
    rintro e w' ⟨rfl, rfl⟩
    exact ⟨rfl, Below.refl _ _⟩
  · rw [if_neg hc] at h
    cases h
end Go.Proofs.YtjgobfbjmlacjaaDoor
