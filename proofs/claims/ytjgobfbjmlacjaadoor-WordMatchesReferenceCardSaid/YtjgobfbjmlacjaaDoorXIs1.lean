/-
  The closure 'among' of word.Is: it tells whether the word that it has captured is among the fields of a text.
-/
import Derived.Test.YtjgobfbjmlacjaaDoorXExt
import Derived.Test.YtjgobfbjmlacjaaDoorXL2
import Derived.WalkKit
import Derived.Deep.RegionWith
import Derived.Deep.QuietTactic
import Derived.BigQuiet
namespace Go.Proofs.YtjgobfbjmlacjaaDoor
open Go.RowKit Go.Proofs.YtjgobfbjmlacjaaDoorW.PrintWords
def word_Is_1.f (k : Nat) (a0 a1 : ByteArray) : Option Bool := (strings_Fields.f a0).bind fun l => XL.slices_Contains_string_string.f k l a1
theorem word_Is_1.mono : ∀ a0 a1 k, LeO (word_Is_1.f k a0 a1) (word_Is_1.f (k + 1) a0 a1) := by
  intro a0 a1 k
  unfold word_Is_1.f
  exact LeO.bind (LeO.refl _) (fun _ => XL.slices_Contains_string_string.mono _ _ _)
set_option maxHeartbeats 1000000 in
theorem word_Is_1.calls (k : Nat) (a0 : ByteArray) (g : Nat) (a1 : ByteArray) (r : Bool) (w : World) (hc : w.cell? ⟨g, 0, none⟩ = some (.string a1)) (hL : LW w) (h : word_Is_1.f k a0 a1 = some r) :
    Calls Tryd.prog 45 #[.string a0, .pointer (some ⟨g, 0, none⟩)] w fun e w' => e = .returned (.bool r) ∧ Below w.heap.size w w' := by
  unfold word_Is_1.f at h
  obtain ⟨l, A0, A1⟩ := Option.bind_eq_some_iff.mp h
  have A2 := Aside0.mk A0
  have A3 := Aside0.mk A1
  have HL := Aside0.mk hL
  have HC := Aside0.mk hc
  have HB0 := Aside0.mk (Below.refl w.heap.size w)
  clear h A0 A1 hL
  go_enter Tryd.func45, Tryd.ntmps45
  go_wp2_with fail
  go_region_with (first
    | (go_at_call 42; refine (strings_Fields.calls a0 l _ (LW.below HL.out (by repeat (first | (with_reducible first | exact HB0.out | apply below_drew1) | exact HB0.out))) A2.out).mono ?_; rintro e w1 ⟨v, rfl, ho, hb⟩; (have HO := Aside0.mk ho); (have HB := Aside0.mk (below_step (by repeat (first | (with_reducible first | exact HB0.out | apply below_drew1) | exact HB0.out)) hb)); clear ho hb; (have hc1 : w1.cell? ⟨g, 0, none⟩ = some (.string a1) := cell_step HB.out HC.out); obtain ⟨A, c, e1⟩ := Kd.R_slice HO.out; subst e1)
    | (go_at_call 46; refine (XL.slices_Contains_string_string.calls k _ _ l a1 r _ (Kd.R_reads' HO.out).2.2 (Kd.R_reads' HO.out).2.1 A3.out).mono ?_; rintro e w2 ⟨rfl, ⟨nd, rfl⟩⟩))
  all_goals (go_wp2; go_ret; exact ⟨rfl, pw_below_drewN HB.out _⟩)
end Go.Proofs.YtjgobfbjmlacjaaDoor
