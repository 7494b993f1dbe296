/-
 The reference's Is is Is.
-/
import Derived.Test.YtjgobfbjmlacjaaDoorXPj
set_option linter.unusedSimpArgs false
set_option linter.unusedVariables false
set_option maxRecDepth 100000
namespace Go.Proofs.YtjgobfbjmlacjaaDoor.XP
open Go.RowKit Go.Proofs.YtjgobfbjmlacjaaDoorW.PrintWords Go.Proofs.YtjgobfbjmlacjaaDoorW.PrintLast Go.Proofs.YtjgobfbjmlacjaaDoorW.PrintMore
/-! ### The reference's Is is Is -/
theorem small_lt {l n : Nat} (h : n < 100) : small l n = if n % 100 = 0 then [] else if n % 100 < 20 then (units l).getD (n % 100) [] else if n % 10 = 0 then (tens l).getD (n % 100 / 10 - 2) [] else ones l (n % 100 / 10 - 2) (n % 10) := by
 unfold small
 rw [if_pos h]
theorem rest_sound {l : Nat} (h4 : l < 4) {s : S} {n : Nat} (h : rest l s = some n) : small l n = s := by
 have hu : (units l).length ≤ 20 := (show ∀ l < 4, (units l).length ≤ 20 by decide) l h4
 have ht : (tens l).length ≤ 8 := (show ∀ l < 4, (tens l).length ≤ 8 by decide) l h4
 unfold rest at h
 have h2 : ∀ n, (match (tens l).findIdx? (· == s) with | some i => some (20 + 10 * i) | none => ((restTab l).find? (·.1 == s)).map (·.2)) = some n → small l n = s := by
  intro n hn
  cases hx : (tens l).findIdx? (· == s) with
  | some i =>
   rw [hx] at hn
   obtain rfl := Option.some.inj hn
   obtain ⟨hj, hs, _⟩ := List.findIdx?_eq_some_iff_getElem.mp hx
   rw [small_lt (by omega), if_neg (by omega), if_neg (by omega), if_pos (by omega), show (20 + 10 * i) % 100 / 10 - 2 = i by omega]
   rw [List.getD_eq_getElem?_getD, List.getElem?_eq_getElem hj]
   exact beq_iff_eq.mp hs
  | none =>
   rw [hx] at hn
   obtain ⟨x, hx, e⟩ := Option.map_eq_some_iff.mp hn
   have hs := beq_iff_eq.mp (List.find?_some (p := fun x : S × Nat => x.1 == s) hx)
   have hm := List.mem_of_find?_eq_some hx
   simp only [restTab, List.mem_flatMap, List.mem_map, List.mem_range] at hm
   obtain ⟨t, ht, o, ho, rfl⟩ := hm
   have e : 20 + 10 * t + (o + 1) = n := e
   subst e
   rw [small_lt (by omega), if_neg (by omega), if_neg (by omega), if_neg (by omega), show (20 + 10 * t + (o + 1)) % 100 / 10 - 2 = t by omega, show (20 + 10 * t + (o + 1)) % 10 = o + 1 by omega]
   exact hs
 cases hx : (units l).findIdx? (· == s) with
 | some i =>
  rw [hx] at h
  cases i with
  | zero => exact h2 n h
  | succ i =>
   obtain rfl := Option.some.inj h
   obtain ⟨hj, hs, _⟩ := List.findIdx?_eq_some_iff_getElem.mp hx
   rw [small_lt (by omega), if_neg (by omega), if_pos (by omega), show (i + 1) % 100 = i + 1 by omega]
   rw [List.getD_eq_getElem?_getD, List.getElem?_eq_getElem hj]
   exact beq_iff_eq.mp hs
 | none => rw [hx] at h; exact h2 n h
theorem joinS_ne {a b c : S} (ha : a ≠ []) (hc : c ≠ []) : joinS a b c = a ++ b ++ c := by unfold joinS; rw [if_neg (by simp [ha, hc])]
theorem hundreds_app {l : Nat} (h0 : 0 < l) (h4 : l < 4) {h : Nat} (h1 : 1 ≤ h) (h2 : h < 10) {t : S} (ht : t ≠ []) : hundreds l h t = headOf l h ++ t := by
 unfold headOf
 have hEs : hundredsEs.getD (h - 1) [] ≠ [] := (show ∀ i < 9, hundredsEs.getD i [] ≠ [] by decide) (h - 1) (by omega)
 rcases langs h0 h4 with rfl | rfl | rfl
 ·have e : ∀ x : S, x ≠ [] → hundreds 1 h x = (units 1).getD h [] ++ sHundred ++ sSpace ++ x := fun x hx => by
   show joinS ((units 1).getD h [] ++ sHundred) sSpace x = _
   exact joinS_ne (by simp [sHundred]) hx
  rw [e t ht, e sAsk (by simp [sAsk]), cutSuf_app]
 ·have e : ∀ x : S, hundreds 2 h x = shorter ((units 2).getD h []) sEins ++ sHundert ++ x := fun x => rfl
  rw [e t, e sAsk, cutSuf_app]
 ·have e : ∀ x : S, x ≠ [] → hundreds 3 h x = hundredsEs.getD (h - 1) [] ++ sSpace ++ x := fun x hx => by
   show (if h = 1 ∧ x = [] then sCien else joinS (hundredsEs.getD (h - 1) []) sSpace x) = _
   rw [if_neg (by simp [hx]), joinS_ne hEs hx]
  rw [e t ht, e sAsk (by simp [sAsk]), cutSuf_app]
theorem small_big {l h m : Nat} (h1 : 1 ≤ h) (h2 : h < 10) (hm : m < 100) : small l (100 * h + m) = hundreds l h (small l m) := by
 rw [small_lt hm]
 unfold small
 rw [if_neg (by omega), show (100 * h + m) / 100 = h by omega, show (100 * h + m) % 100 = m % 100 by omega, show (100 * h + m) % 10 = m % 10 by omega]
theorem value_sound {l : Nat} (h0 : 0 < l) (h4 : l < 4) {s : S} {n : Nat} (h : value l s = some n) : small l n = s := by
 unfold value at h
 cases hr : rest l s with
 | some m => rw [hr] at h; obtain rfl := Option.some.inj h; exact rest_sound h4 hr
 | none =>
  rw [hr] at h
  obtain ⟨i, hi, hv⟩ := List.exists_of_findSome?_eq_some h
  have hi := List.mem_range'_1.mp hi
  unfold valueAt at hv
  by_cases c1 : hundreds l i [] = s
  ·rw [if_pos c1] at hv
   obtain rfl := Option.some.inj hv
   rw [← c1]
   exact small_big (m := 0) hi.1 (by omega) (by omega)
  ·rw [if_neg c1] at hv
   by_cases c2 : (headOf l i).isPrefixOf s
   ·rw [if_pos c2] at hv
    obtain ⟨x, hx, rfl⟩ := Option.map_eq_some_iff.mp hv
    obtain ⟨t, rfl⟩ := List.isPrefixOf_iff_prefix.mp c2
    rw [List.drop_left] at hx
    have hlt := rest_le h4 t hx
    have hs := rest_sound h4 hx
    have hne : t ≠ [] := by
     intro e
     subst e
     have := (empty_unread l h4 h0).1
     unfold value at this
     rw [show jn [] = ([] : S) from rfl, hx] at this
     cases this
    show small l (100 * i + x) = _
    rw [small_big hi.1 (by omega) hlt, hs, hundreds_app h0 h4 hi.1 (by omega) hne]
   ·rw [if_neg c2] at hv; cases hv
theorem fields_one {s : S} (h : plSp s = true) (hc : Lib.contains s sSpace = false) (hne : s ≠ []) : Lib.fields s = [s] := by
 have hp := plain_of_sp h hc
 have key : ∀ (a cur : S), (∀ b ∈ a, plB b = true) → cur ++ a ≠ [] → Lib.fieldsGo cur a = [cur ++ a] := by
  intro a
  induction a with
  | nil => intro cur _ hn; cases cur with | nil => exact absurd rfl hn | cons x r => simp [Lib.fieldsGo]
  | cons b a ih =>
   intro cur ha _
   have hb : Lib.isSp b = false := by
    have := ha b (List.mem_cons_self ..)
    have hd : ∀ n < 256, plB (UInt8.ofNat n) = true → Lib.isSp (UInt8.ofNat n) = false := by decide +kernel
    have hb := hd b.toNat b.toNat_lt
    rw [UInt8.ofNat_toNat] at hb
    exact hb this
   rw [Lib.fieldsGo_more _ _ _ hb, ih (cur ++ [b]) (fun c hc => ha c (List.mem_cons_of_mem _ hc)) (by simp)]
   simp
 unfold plainS at hp
 exact key s [] (List.all_eq_true.mp hp) (by simpa using hne)
def hasSp (s : S) : Bool := s.any fun b => Nat.beq b.toNat 32
def chk7 (l n : Nat) : Bool := !(Nat.ble 100 n && Nat.ble 2 (n % 100)) || ((hasSp (small l n) || long (small l n)) && (hasSp (thl l n) || long (thl l n)))
theorem chk7_1_1 : (List.range' 1 250).all (chk7 1) = true := by decide +kernel
theorem chk7_1_251 : (List.range' 251 250).all (chk7 1) = true := by decide +kernel
theorem chk7_1_501 : (List.range' 501 250).all (chk7 1) = true := by decide +kernel
theorem chk7_1_751 : (List.range' 751 249).all (chk7 1) = true := by decide +kernel
theorem chk7_2_1 : (List.range' 1 250).all (chk7 2) = true := by decide +kernel
theorem chk7_2_251 : (List.range' 251 250).all (chk7 2) = true := by decide +kernel
theorem chk7_2_501 : (List.range' 501 250).all (chk7 2) = true := by decide +kernel
theorem chk7_2_751 : (List.range' 751 249).all (chk7 2) = true := by decide +kernel
theorem chk7_3_1 : (List.range' 1 250).all (chk7 3) = true := by decide +kernel
theorem chk7_3_251 : (List.range' 251 250).all (chk7 3) = true := by decide +kernel
theorem chk7_3_501 : (List.range' 501 250).all (chk7 3) = true := by decide +kernel
theorem chk7_3_751 : (List.range' 751 249).all (chk7 3) = true := by decide +kernel
theorem no_sp {s : S} (hc : Lib.contains s sSpace = false) : hasSp s = false := by
 unfold hasSp
 rw [List.any_eq_false]
 intro b hb e
 exact no_space hc b hb (UInt8.toNat_inj.mp (Nat.eq_of_beq_eq_true e))
theorem skip_out {l : Nat} (h0 : 0 < l) (h4 : l < 4) {n : Nat} (h1 : 1 ≤ n) (h2 : n < 1000) {s : S} (hc : Lib.contains s sSpace = false) (hs : small l n = s ∨ thl l n = s) : skip (long s) n = false := by
 have h : chk7 l n = true := by
  rcases langs h0 h4 with rfl | rfl | rfl
  ·exact all_999 chk7_1_1 chk7_1_251 chk7_1_501 chk7_1_751 h1 h2
  ·exact all_999 chk7_2_1 chk7_2_251 chk7_2_501 chk7_2_751 h1 h2
  ·exact all_999 chk7_3_1 chk7_3_251 chk7_3_501 chk7_3_751 h1 h2
 unfold skip
 by_cases c1 : 99 < n
 ·by_cases c2 : 1 < n % 100
  ·have e1 : Nat.ble 100 n = true := Nat.ble_eq_true_of_le c1
   have e2 : Nat.ble 2 (n % 100) = true := Nat.ble_eq_true_of_le c2
   simp only [chk7, e1, e2, Bool.and_self, Bool.not_true, Bool.false_or, Bool.and_eq_true, Bool.or_eq_true] at h
   have hsp := no_sp hc
   have hl : long s = true := by
    rcases hs with rfl | rfl
    ·rcases h.1 with h | h
     ·rw [hsp] at h; cases h
     ·exact h
    ·rcases h.2 with h | h
     ·rw [hsp] at h; cases h
     ·exact h
   rw [hl]; simp
  ·rw [decide_eq_false c2]; simp
 ·rw [decide_eq_false c1]; simp
theorem hits {l : Nat} {s : S} {n : Nat} (h1 : 1 ≤ n) (h2 : n < 1000) (hk : skip (long s) n = false) (hh : s ∈ Lib.fields (small l n) ∨ s ∈ Lib.fields (thl l n)) : hitFrom l (long s) s 1 999 = true := by
 unfold hitFrom
 rw [List.any_eq_true]
 refine ⟨n, List.mem_range'_1.mpr ⟨h1, by omega⟩, ?_⟩
 rw [hk]
 unfold hitAt
 have : ((Lib.fields (small l n)).any (· == s) || (Lib.fields (thl l n)).any (· == s)) = true := by
  rw [Bool.or_eq_true, List.any_eq_true, List.any_eq_true]
  rcases hh with hh | hh
  ·exact Or.inl ⟨s, hh, by simp⟩
  ·exact Or.inr ⟨s, hh, by simp⟩
 rw [this]; rfl
theorem skip_low (b : Bool) {n : Nat} (h : n ≤ 99 ∨ n % 100 ≤ 1) : skip b n = false := by
 unfold skip
 rcases h with h | h
 ·rw [decide_eq_false (by omega)]; simp
 ·rw [decide_eq_false (p := 1 < n % 100) (by omega)]; simp
theorem small_facts : ∀ l < 4, ∀ h < 10, 1 ≤ h → small l (100 * h + 1) = hundreds l h ((units l).getD 1 []) ∧ small l (30 + h) = ones l 1 h := by decide +kernel
theorem among_mem {t s : S} (h : amongS t s = true) : s ∈ Lib.fields t := by
 obtain ⟨x, hx, e⟩ := List.any_eq_true.mp h
 exact beq_iff_eq.mp e ▸ hx
theorem no_byte {s : S} {c : UInt8} (h : Lib.contains s [c] = false) : ∀ b ∈ s, b ≠ c := by
 intro b hb e
 subst e
 obtain ⟨a, t, rfl⟩ := List.append_of_mem hb
 rcases Lib.index_spec (a ++ b :: t) [b] with ⟨_, h2⟩ | ⟨i, h1, _⟩
 ·have := h2 a.length (by simp)
  simp [Lib.occAt] at this
 ·unfold Lib.contains at h
  rw [h1] at h
  simp at h
theorem contains_one (F : S) (b : UInt8) : Lib.contains F [b] = F.any (fun c => c.toNat == b.toNat) := by
 rw [Bool.eq_iff_iff, List.any_eq_true]
 constructor
 ·intro h
  rcases Lib.index_spec F [b] with ⟨h1, _⟩ | ⟨i, _, _, h3, _⟩
  ·unfold Lib.contains at h; rw [h1] at h; simp at h
  ·obtain ⟨t, ht⟩ := List.isPrefixOf_iff_prefix.mp h3
   exact ⟨b, List.mem_of_mem_drop (i := i) (by rw [← ht]; simp), by simp⟩
 ·rintro ⟨c, hc, e⟩
  have e : c = b := UInt8.toNat_inj.mp (beq_iff_eq.mp e)
  subst e
  cases hx : Lib.contains F [c] with
  | true => rfl
  | false => exact absurd rfl (no_byte hx c hc)
/-- THE REFERENCE'S Is IS Is. -/
theorem rIs_eq {l : Nat} (h0 : 0 < l) (h4 : l < 4) (s : S) : rIs l s = isW l s := by
 cases s with
 | nil => unfold rIs isW; rw [if_pos (Or.inr (Or.inl rfl))]
 | cons b r =>
  have hlet : Lib.contains (letterS l) ((b :: r).take 1) = (letterS l).any (fun c => c.toNat == b.toNat) := contains_one _ _
  rw [Bool.eq_iff_iff]
  constructor
  ·intro h
   simp only [rIs, Bool.and_eq_true, Bool.or_eq_true, decide_eq_true_eq] at h
   rcases h.2 with h | h
   ·rw [h]; exact (zero_isW l h4 h0).1
   ·unfold hitFrom at h
    obtain ⟨n, hn, h⟩ := List.any_eq_true.mp h
    have hn := List.mem_range'_1.mp hn
    simp only [Bool.and_eq_true, hitAt, Bool.or_eq_true, List.any_eq_true] at h
    rcases h.2 with ⟨x, hx, e⟩ | ⟨x, hx, e⟩
    ·exact beq_iff_eq.mp e ▸ (small_isW h0 h4 hn.1 (by omega) x hx).1
    ·exact beq_iff_eq.mp e ▸ (thl_isW h0 h4 hn.1 (by omega) x hx).1
  ·intro h
   unfold isW at h
   by_cases c : Lib.contains (b :: r) sSpace = true ∨ (b :: r) = [] ∨ Lib.contains (letterS l) ((b :: r).take 1) = false
   ·rw [if_pos c] at h; cases h
   rw [if_neg c] at h
   have hsp : Lib.contains (b :: r) sSpace = false := Bool.eq_false_iff.mpr fun e => c (Or.inl e)
   have hl : (letterS l).any (fun c => c.toNat == b.toNat) = true := by
    rw [← hlet]
    cases hx : Lib.contains (letterS l) ((b :: r).take 1) with
    | true => rfl
    | false => exact absurd (Or.inr (Or.inr hx)) c
   have hu := small_facts l h4
   simp only [rIs, hl, Bool.true_and, Bool.or_eq_true, decide_eq_true_eq]
   simp only [Bool.or_eq_true] at h
   rcases h with (((h | h) | h) | h) | h
   ·right
    obtain ⟨n, hn⟩ := Option.isSome_iff_exists.mp h
    have e := value_sound h0 h4 hn
    have h1 := value_pos _ hn
    have h2 := value_lt h4 _ hn
    exact hits h1 h2 (skip_out h0 h4 h1 h2 hsp (Or.inl e)) (Or.inl (by rw [e, fields_one (plSp_value h4 hn) hsp (by simp)]; simp))
   ·right
    obtain ⟨n, hn⟩ := Option.isSome_iff_exists.mp h
    obtain ⟨e, h1, h2⟩ := many_some h4 hn
    exact hits h1 h2 (skip_out h0 h4 h1 h2 hsp (Or.inr e)) (Or.inr (by rw [e, fields_one (e ▸ plSp_thl l h4 n h2) hsp (by simp)]; simp))
   ·left; exact of_decide_eq_true h
   ·right
    obtain ⟨i, hi, ha⟩ := List.any_eq_true.mp h
    have hi := List.mem_range'_1.mp hi
    obtain ⟨f1, f2⟩ := hu i (by omega) hi.1
    rcases Bool.or_eq_true .. ▸ ha with ha | ha
    ·exact hits (n := 100 * i + 1) (by omega) (by omega) (skip_low _ (by omega)) (Or.inl (by rw [f1]; exact among_mem ha))
    ·exact hits (n := 30 + i) (by omega) (by omega) (skip_low _ (by omega)) (Or.inl (by rw [f2]; exact among_mem ha))
   ·right
    obtain ⟨q, hq, ha⟩ := List.any_eq_true.mp h
    have hq' : 1 ≤ q ∧ q ≤ 99 := by
     simp only [List.mem_cons, List.not_mem_nil, or_false] at hq
     rcases hq with rfl | rfl | rfl | rfl <;> omega
    exact hits hq'.1 (by omega) (skip_low _ (Or.inl hq'.2)) (Or.inr (among_mem ha))
end Go.Proofs.YtjgobfbjmlacjaaDoor.XP
