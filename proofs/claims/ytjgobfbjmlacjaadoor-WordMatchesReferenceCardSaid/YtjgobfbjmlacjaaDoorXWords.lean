/-
  Function values without captures as a kind of the printed proofs, and what the walks need to know of the package-level variables ('LW'): it stays true in every later world.
-/
import Derived.Test.YtjgobfbjmlacjaaDoorProg
import Derived.Test.YtjgobfbjmlacjaaDoorWWords
import Derived.Lib.LaidTab
import Derived.Lib.Space
import Derived.Below
import Derived.KernelRfl
import Derived.Laws.EntriesVeiled
namespace Go.Proofs.YtjgobfbjmlacjaaDoor
open Go.RowKit Go.Proofs.YtjgobfbjmlacjaaDoorW.PrintWords Go.Proofs.YtjgobfbjmlacjaaDoorW.PrintLast
@[reducible] def fnv : Option Nat → Value
  | none => .nilFunc
  | some n => .func (.func n) #[] #[]
theorem fnv_none : fnv none = .nilFunc := rfl
theorem fnv_some (n : Nat) : fnv (some n) = .func (.func n) #[] #[] := rfl
@[go_sem] theorem run_store_fnv (P : Program) (w : World) (a : Addr) (m : Mode) (x : Option Nat) : (store a (fnv x) m).run P w = stored P w a (fnv x) m := by cases x <;> exact run_store P w a _ m rfl
theorem fnv_one (x : Option Nat) : (fnv x).oneCell' = true := by cases x <;> rfl
def kfn : Kd (Option Nat) := Kd.scalar fnv fnv_one
theorem kfn_heap : Kd.Heap kfn := Kd.heap_scalar
/-- A call of a Go function through a value, by its contract. -/
theorem goesV_ {P : Program} {Q : Exit → Act → World → Prop} {ops : Array Oper} {oi : Oper} {N : Option Tmp} {a : Act} {w : World} {K : Act → World → Prop} {f : FuncId} {fn : Func} {xs : Array Operand} {ts : Array TypeId} {x : Operand} {cap : Array Value} (hf : P.funcs[f]? = some fn) (hname : (fn.name == "runtime.NumGoroutine") = false) (hb : fn.body.isSome = true) (args : Array Value)
    (hw : Region.wanted oi (yielded ops a.tmps) = true) (hN : oi.dst = N) (hop : oi.op = .call { callee := .value x, args := xs, argTypes := ts }) (hv : a.eval x = .func (.func f) #[] cap) (hargs : xs.map a.eval ++ cap = args)
    (h : Calls P f args w fun e w' => ∃ v, e = .returned v ∧ K (a.put N v) w') : if Region.wanted oi (yielded ops a.tmps) = true then Oper.wp P oi a w K Q else K (a.put N undef) w := by
  refine call_ f args hw hN ?_ h
  have he := enters_ hf hname hb args w
  unfold execOp
  simp [hop, resolve, hv, Deferred.ofValue, invoke, hargs, he]
theorem cell_step {w w' : World} (hb : Below w.heap.size w w') {a : Addr} {v : Value} (hc : w.cell? a = some v) : w'.cell? a = some v := (hb.cell (World.block_lt_of_cell? w a hc)).trans hc
theorem var_step {P : Program} {n : String} {w w' : World} {x : Array Value} (h : w.var? P n = some x) (hb : Below w.heap.size w w') : w'.var? P n = some x := by
  unfold World.var? at h ⊢
  cases hg : P.globalNamed n with
  | none => rw [hg] at h; cases h
  | some g =>
    rw [hg] at h
    simp only [Option.bind_some] at h ⊢
    have hlt : g < w.heap.size := by
      rcases Nat.lt_or_ge g w.heap.size with h' | h'
      · exact h'
      · rw [Array.getElem?_eq_none h'] at h; cases h
    rw [hb.block g hlt]
    exact h
/-- The letters with which words of numbers begin, by language. -/
def lettersTab : List ByteArray := [⟨#[]⟩, ⟨#[101, 102, 104, 110, 111, 115, 116, 122]⟩, ⟨#[97, 100, 101, 102, 104, 110, 115, 116, 118, 122]⟩, ⟨#[99, 100, 109, 110, 111, 113, 115, 116, 117, 118, 121]⟩]
structure LW (w : World) : Prop where
  tab : Lib.TabIs Tryd.prog w "strings.asciiSpace" .u8 Lib.asciiSpaceTab
  max : ∃ m, w.cell? ⟨3, 0, none⟩ = some (.int .i64 m)
  letters : ∀ j s, lettersTab[j]? = some s → w.cell? ⟨0, j, none⟩ = some (.string s)
theorem LW.lettersC {w : World} (h : LW w) : Kd.C Kd.string w (some ⟨0, 0, none⟩) 4 lettersTab := by
  refine ⟨rfl, by decide, fun _ => ⟨_, rfl, fun j p hp => ⟨[.string p], rfl, rfl, fun i u hu => ?_⟩⟩⟩
  cases i with
  | zero =>
    obtain rfl := Option.some.inj hu
    show w.cell? ((⟨0, 0, none⟩ : Addr).add (j * 1 + 0)) = _
    rw [add_plain, Nat.mul_one, Nat.add_zero]
    exact h.letters j p hp
  | succ i => simp at hu
theorem LW.below {w w' : World} (h : LW w) (hb : Below w.heap.size w w') : LW w' :=
  ⟨var_step h.tab hb, h.max.imp fun _ hm => cell_step hb hm, fun j s hs => cell_step hb (h.letters j s hs)⟩
/-! ### Shorter words for the printed texts -/
theorem sa_ {α : Type _} (l : List α) (i : Nat) (a : α) : l.toArray.setIfInBounds i a = (l.set i a).toArray := List.setIfInBounds_toArray ..
theorem s0_ {α : Type _} {a : α} {l : List α} {b : α} : (a :: l).set 0 b = b :: l := rfl
theorem s1_ {α : Type _} {a : α} {l : List α} {n : Nat} {b : α} : (a :: l).set (n + 1) b = a :: l.set n b := rfl
/-- A number that is at least another one. -/
class Ge (b g : Nat) : Prop where
  out : b ≤ g
/-- A world that a run without calls has made of another one, as far as old blocks go. -/
class St (w W : World) : Prop where
  h : Below w.heap.size w W
instance (w : World) : St w w := ⟨Below.refl _ _⟩
instance (w W : World) (o : Obj) [s : St w W] : St w (W.alloc o) := ⟨below_alloc s.h o⟩
instance (w W : World) (n : Nat) [s : St w W] : St w (W.drewN n) := ⟨pw_below_drewN s.h n⟩
instance (w W : World) [s : St w W] : St w W.drew := ⟨below_drew1 s.h⟩
class Sb (v w W : World) : Prop where
  h : Below v.heap.size v w → Below v.heap.size v W
instance (v w : World) : Sb v w w := ⟨id⟩
instance (v w W : World) (o : Obj) [s : Sb v w W] : Sb v w (W.alloc o) := ⟨fun h => below_alloc (s.h h) o⟩
instance (v w W : World) (n : Nat) [s : Sb v w W] : Sb v w (W.drewN n) := ⟨fun h => pw_below_drewN (s.h h) n⟩
instance (v w W : World) [s : Sb v w W] : Sb v w W.drew := ⟨fun h => below_drew1 (s.h h)⟩
instance (v w W : World) (g j : Nat) (x : Value) [s : Sb v w W] [q : Ge v.heap.size g] : Sb v w (W.setCell ⟨g, j, none⟩ x) := ⟨fun h => below_set (s.h h) q.out⟩
theorem bes {v w W : World} (h : Below v.heap.size v w) [s : Sb v w W] : Below v.heap.size v W := s.h h
theorem R_st {α : Type} {d : Kd α} {w W : World} {e : TypeId} {base : Nat} {ok : Nat → Prop} {v : Value} {xs : List α} (h : d.R e w base ok v xs) [s : St w W] : d.R e W base ok v xs := Kd.R_below h s.h
theorem C_st {α : Type} {d : Kd α} {w W : World} {A : Option Addr} {n : Nat} {xs : List α} (h : d.C w A n xs) [s : St w W] : d.C W A n xs := Kd.C_below h s.h
theorem blk_st {w W : World} {g : Nat} {o : Obj} (h : w.heap[g]? = some o) [s : St w W] : W.heap[g]? = some o := blk_below h s.h
theorem am {p : Prop} (h : p) : Aside0 p := ⟨h⟩
theorem bc {w : World} {g : Nat} {t : TypeId} {cs : Array Value} (h : w.heap[g]? = some (.cells cs t (0, 0))) (i : Nat) {v : Value} (hv : cs[i]? = some v := by rfl) : w.cell? ⟨g, i, none⟩ = some v := (blk_cell h i).trans hv
section
variable {P : Program} {ops : Array Oper} {Q : Exit → Act → World → Prop} {md : Region.Mode} {S : World → Prop} {ds : List Nat}
theorem pu (i : Nat) (N : Option Tmp) {oi : Oper} (v : Value) {fuel : Nat} {l : Array Bool} {a : Act} {w : World} (l' : Array Bool) (hi : ops[i]? = some oi) (hN : oi.dst = N) (hc : anyB md ops l l' i = true)
    (hQ : ∀ c a w, Q (.panic c) (a.put oi.dst v) w → Q (.panic c) a w) (hy : Yields P ops oi v a) (a' : Act) (ha : a.put N v = a')
    (h : wpAnyLast P md ops Q S ds fuel l' a' w) : wpAnyLast P md ops Q S ds (fuel + 1) l a w := pure_ l' hi hN hc hQ hy ha h
theorem tu (i : Nat) (N : Option Tmp) {oi : Oper} (v : Value) {fuel : Nat} {l : Array Bool} {a : Act} {w : World} (l' : Array Bool) (hi : ops[i]? = some oi) (hN : oi.dst = N) (hc : takeB md ops ds l l' i = true)
    (hQ : ∀ c a w, Q (.panic c) (a.put oi.dst v) w → Q (.panic c) a w) (hy : YieldsIf P ops S oi v a) (hS : S w) (a' : Act) (ha : a.put N v = a')
    (h : wpAnyLast P md ops Q S ds fuel l' a' w) : wpAnyLast P md ops Q S ds (fuel + 1) l a w := take_ l' hi hN hc hQ hy hS ha h
theorem ao {T : Bool × List (List Nat × List Nat)} {l l' : Array Bool} {i : Nat} (hT : rtab md ops = T) (h : anyT T l.toList l'.toList i = true := by kernel_rfl) : anyB md ops l l' i = true := any_of hT h
theorem ta {T : Bool × List (List Nat × List Nat)} {l l' : Array Bool} {i : Nat} {B : List Nat} (hT : rtab md ops = T) (hB : waitsOk T.2 B = true) (h : takeW T B ds l.toList l'.toList i = true := by kernel_rfl) : takeB md ops ds l l' i = true := take_ofW hT hB h
end
theorem gL {P : Program} {ops : Array Oper} {Q : Exit → Act → World → Prop} {rest : List Oper} {oi : Oper} {a : Act} {w : World} (N : Option Tmp) (hd : oi.dst = N) (hg : oi.guard = none) {f : FuncId} {fn : Func} {xs : Array Operand} {ts : Array TypeId} (hf : P.funcs[f]? = some fn) (args : Array Value)
    (h : Calls P f args w fun e w' => ∃ v, e = .returned v ∧ wpList P ops Q rest (a.put N v) w') (hname : (fn.name == "runtime.NumGoroutine") = false := by kernel_rfl) (hb : fn.body.isSome = true := by exact rfl)
    (hop : oi.op = .call { callee := .value (.func f), args := xs, argTypes := ts } := by exact rfl) (hargs : xs.map a.eval = args := by (try simp only [List.map_toArray, List.map_cons, List.map_nil]); first | done | rfl | (simp only [List.length_drop, List.length_take]; rfl)) : wpList P ops Q (oi :: rest) a w :=
  goesL_ N hd hg hf hname hb args hop hargs h
theorem gV {P : Program} {Q : Exit → Act → World → Prop} {ops : Array Oper} {oi : Oper} {N : Option Tmp} {a : Act} {w : World} {K : Act → World → Prop} {f : FuncId} {fn : Func} {xs : Array Operand} {ts : Array TypeId} {x : Operand} {cap : Array Value} (hf : P.funcs[f]? = some fn) (args : Array Value)
    (h : Calls P f args w fun e w' => ∃ v, e = .returned v ∧ K (a.put N v) w') (hname : (fn.name == "runtime.NumGoroutine") = false := by kernel_rfl) (hb : fn.body.isSome = true := by exact rfl)
    (hw : Region.wanted oi (yielded ops a.tmps) = true := by rfl) (hN : oi.dst = N := by exact rfl) (hop : oi.op = .call { callee := .value x, args := xs, argTypes := ts } := by exact rfl) (hv : a.eval x = .func (.func f) #[] cap := by rfl)
    (hargs : xs.map a.eval ++ cap = args := by (try simp only [List.map_toArray, List.map_cons, List.map_nil]); first | done | rfl | (simp only [List.length_drop, List.length_take]; rfl)) : if Region.wanted oi (yielded ops a.tmps) = true then Oper.wp P oi a w K Q else K (a.put N undef) w :=
  goesV_ hf hname hb args hw hN hop hv hargs h
theorem bm {α β : Type} {x : Option α} {f : α → Option β} {b : β} (h : x.bind f = some b) : ∃ a, x = some a ∧ f a = some b := Option.bind_eq_some_iff.mp h
section
variable {P : Program} {ops : Array Oper} {Q : Exit → Act → World → Prop} {md : Region.Mode} {S : World → Prop} {ds : List Nat} {T : Bool × List (List Nat × List Nat)} {oi : Oper} {fuel : Nat} {l : Array Bool} {a a' : Act} {w : World} {v : Value}
theorem pv (i : Nat) (N : Option Tmp) (hT : rtab md ops = T) (l' : Array Bool) (h : wpAnyLast P md ops Q S ds fuel l' a' w) (hi : ops[i]? = some oi := by exact rfl) (hN : oi.dst = N := by exact rfl)
    (hc : anyT T l.toList l'.toList i = true := by kernel_rfl) (hQ : ∀ c a w, Q (.panic c) (a.put oi.dst v) w → Q (.panic c) a w := by exact fun _ _ _ h => h) (hw : Region.wanted oi (yielded ops a.tmps) = true := by rfl)
    (hv : ∀ w, (execOp a.eval oi).run P w = .ok (.value v) w := by (intro w'; go_simp; with_reducible rfl)) (ha : a.put N v = a' := by (simp only [Act.put, sa_, s0_, s1_, i64_w, i32_w]; rfl)) : wpAnyLast P md ops Q S ds (fuel + 1) l a w :=
  pure_ l' hi hN (any_of hT hc) hQ (Or.inl ⟨hw, hv⟩) ha h
theorem pn (i : Nat) (N : Option Tmp) (hT : rtab md ops = T) (l' : Array Bool) (h : wpAnyLast P md ops Q S ds fuel l' a' w) (hi : ops[i]? = some oi := by exact rfl) (hN : oi.dst = N := by exact rfl)
    (hc : anyT T l.toList l'.toList i = true := by kernel_rfl) (hQ : ∀ c a w, Q (.panic c) (a.put oi.dst undef) w → Q (.panic c) a w := by exact fun _ _ _ h => h) (hw : Region.wanted oi (yielded ops a.tmps) = false := by rfl)
    (ha : a.put N undef = a' := by (simp only [Act.put, sa_, s0_, s1_, i64_w, i32_w]; rfl)) : wpAnyLast P md ops Q S ds (fuel + 1) l a w :=
  pure_ l' hi hN (any_of hT hc) hQ (Or.inr ⟨hw, rfl⟩) ha h
theorem tv (i : Nat) (N : Option Tmp) {B : List Nat} (hT : rtab md ops = T) (hB : waitsOk T.2 B = true) (l' : Array Bool) (hS : S w) (h : wpAnyLast P md ops Q S ds fuel l' a' w) (hi : ops[i]? = some oi := by exact rfl) (hN : oi.dst = N := by exact rfl)
    (hc : takeW T B ds l.toList l'.toList i = true := by kernel_rfl) (hQ : ∀ c a w, Q (.panic c) (a.put oi.dst v) w → Q (.panic c) a w := by exact fun _ _ _ h => h) (hw : Region.wanted oi (yielded ops a.tmps) = true := by rfl)
    (hv : ∀ w, S w → (execOp a.eval oi).run P w = .ok (.value v) w := by (intro w' s0; go_simp; with_reducible rfl)) (ha : a.put N v = a' := by (simp only [Act.put, sa_, s0_, s1_, i64_w, i32_w]; rfl)) : wpAnyLast P md ops Q S ds (fuel + 1) l a w :=
  take_ l' hi hN (take_ofW hT hB hc) hQ (Or.inl ⟨hw, hv⟩) hS ha h
theorem o1 (i : Nat) (N : Option Tmp) (hT : rtab md ops = T) (l' : Array Bool)
    (h : ∀ K : Act → World → Prop, Shut (∀ a' w', S w' → (S w' → wpAnyLast P md ops Q S ds fuel l' a' w') → K a' w') → if Region.wanted oi (yielded ops a.tmps) = true then Oper.wp P oi a w K Q else K (a.put N undef) w)
    (hi : ops[i]? = some oi := by exact rfl) (hN : oi.dst = N := by exact rfl) (hc : (readyT T.2 l.toList == [i] && l.toList.set i true == l'.toList) = true := by kernel_rfl) (hd : i ∉ ds := by decide) : wpAnyLast P md ops Q S ds (fuel + 1) l a w :=
  one_ l' hi hN (one_of hT hc) hd h
end
theorem bx {P : Program} {ops : Array Oper} {rest : List Oper} {o : Oper} {a : Act} {Q : Exit → Act → World → Prop} {W : World} (N : Tmp) (cs : Array Value) (t : TypeId)
    (h : ∀ g, g = W.heap.size → ∀ w1, w1.heap[g]? = some (.cells cs t (0, 0)) → Below W.heap.size W w1 → wpList P ops Q rest (a.put o.dst (.pointer (some ⟨g, 0, none⟩))) w1)
    (hd : o.dst = some N := by rfl) (hgd : o.guard = none := by rfl) (hrun : (execOp a.eval o).run P W = .ok (.value (.pointer (some ⟨W.heap.size, 0, none⟩))) (W.alloc (.cells cs t (0, 0))) := by first | (go_simp; done) | (go_simp; rfl)) : wpList P ops Q (o :: rest) a W :=
  box_event hgd hd hrun h
theorem dT {p : Prop} [Decidable p] (h : p) : decide p = true := decide_eq_true h
theorem dF {p : Prop} [Decidable p] (h : ¬ p) : decide p = false := decide_eq_false h
theorem bT {α : Type} [BEq α] [LawfulBEq α] {a b : α} (h : a = b) : (a == b) = true := beq_iff_eq.mpr h
theorem bF {α : Type} [BEq α] [LawfulBEq α] {a b : α} (h : ¬ a = b) : (a == b) = false := beq_eq_false_iff_ne.mpr h
theorem nT {α : Type} [BEq α] [LawfulBEq α] {a b : α} (h : ¬ a = b) : (a != b) = true := bne_iff_ne.mpr h
theorem nF {α : Type} [BEq α] [LawfulBEq α] {a b : α} (h : a = b) : (a != b) = false := bne_eq_false_iff_eq.mpr h
theorem eF {m n : Nat} (h : n ≤ m) : (m < n) = False := eq_false (Nat.not_lt.2 h)
theorem ip {α : Type} {c : Prop} [Decidable c] {x y r : α} (h : (if c then x else y) = r) (hc : c := by first | exact rfl | exact trivial) : x = r := (if_pos hc).symm.trans h
theorem inn {α : Type} [Decidable (false = true)] {x y r : α} (h : (if false = true then x else y) = r) : y = r := (if_neg Bool.false_ne_true).symm.trans h
theorem rb {α : Type} {d : Kd α} {w W w' : World} {e : TypeId} {base : Nat} {ok : Nat → Prop} {v : Value} {xs : List α} (h : Aside0 (d.R e w base ok v xs)) (hb : Below W.heap.size W w') [St w W] : Aside0 (d.R e w' base ok v xs) := ⟨Kd.R_below (R_st h.out) hb⟩
theorem bsp {v w W w' : World} (h : Aside0 (Below v.heap.size v w)) (hb : Below W.heap.size W w') [Sb v w W] : Aside0 (Below v.heap.size v w') := ⟨below_step (bes h.out) hb⟩
theorem kb {w W w' : World} {g : Nat} {o : Obj} (h : Aside0 (w.heap[g]? = some o)) (hb : Below W.heap.size W w') [St w W] : Aside0 (w'.heap[g]? = some o) := ⟨blk_below (blk_st h.out) hb⟩
theorem gwm {v w W : World} {g : Nat} (hg : g = W.heap.size) (h : Aside0 (Below v.heap.size v w)) [Sb v w W] : Aside0 (v.heap.size ≤ g) := ⟨hg ▸ below_size (bes h.out)⟩
theorem gem {v w W : World} {g : Nat} (hg : g = W.heap.size) (h : Aside0 (Below v.heap.size v w)) [Sb v w W] : Ge v.heap.size g := ⟨hg ▸ below_size (bes h.out)⟩
theorem fz {w : World} {g : Nat} {t : TypeId} {cs : Array Value} (h : w.heap[g]? = some (.cells cs t (0, 0))) (i : Nat) : w.frozen? ⟨g, i, none⟩ = false := blk_frozen h i
section
variable {w : World} {g : Nat} {t : TypeId} {x0 x1 x2 x3 x4 x5 x6 x7 : Value} {l : List Value}
theorem z0 (h : w.heap[g]? = some (.cells (x0 :: l).toArray t (0, 0))) : w.cell? ⟨g, 0, none⟩ = some x0 := (blk_cell h 0).trans rfl
theorem z1 (h : w.heap[g]? = some (.cells (x0 :: x1 :: l).toArray t (0, 0))) : w.cell? ⟨g, 1, none⟩ = some x1 := (blk_cell h 1).trans rfl
theorem z2 (h : w.heap[g]? = some (.cells (x0 :: x1 :: x2 :: l).toArray t (0, 0))) : w.cell? ⟨g, 2, none⟩ = some x2 := (blk_cell h 2).trans rfl
theorem z3 (h : w.heap[g]? = some (.cells (x0 :: x1 :: x2 :: x3 :: l).toArray t (0, 0))) : w.cell? ⟨g, 3, none⟩ = some x3 := (blk_cell h 3).trans rfl
theorem z4 (h : w.heap[g]? = some (.cells (x0 :: x1 :: x2 :: x3 :: x4 :: l).toArray t (0, 0))) : w.cell? ⟨g, 4, none⟩ = some x4 := (blk_cell h 4).trans rfl
theorem z5 (h : w.heap[g]? = some (.cells (x0 :: x1 :: x2 :: x3 :: x4 :: x5 :: l).toArray t (0, 0))) : w.cell? ⟨g, 5, none⟩ = some x5 := (blk_cell h 5).trans rfl
theorem z6 (h : w.heap[g]? = some (.cells (x0 :: x1 :: x2 :: x3 :: x4 :: x5 :: x6 :: l).toArray t (0, 0))) : w.cell? ⟨g, 6, none⟩ = some x6 := (blk_cell h 6).trans rfl
theorem z7 (h : w.heap[g]? = some (.cells (x0 :: x1 :: x2 :: x3 :: x4 :: x5 :: x6 :: x7 :: l).toArray t (0, 0))) : w.cell? ⟨g, 7, none⟩ = some x7 := (blk_cell h 7).trans rfl
end
/-- Another world, of which only block g may differ. -/
class Sf (g : Nat) (w W : World) : Prop where
  h : ∀ k, k < w.heap.size → k ≠ g → W.heap[k]? = w.heap[k]?
  s : w.heap.size ≤ W.heap.size
instance (g : Nat) (w : World) : Sf g w w := ⟨fun _ _ _ => rfl, Nat.le_refl _⟩
instance (g : Nat) (w W : World) (i : Nat) (x : Value) [s : Sf g w W] : Sf g w (W.setCell ⟨g, i, none⟩ x) := ⟨fun k hk hg => (Below.heap_setCell W ⟨g, i, none⟩ x k hg).trans (s.h k hk hg), Nat.le_trans s.s (Nat.le_of_eq (World.size_setCell ..).symm)⟩
instance (g : Nat) (w W : World) (o : Obj) [s : Sf g w W] : Sf g w (W.alloc o) := ⟨fun k hk hg => ((below_alloc (Below.refl _ W) o).block k (Nat.lt_of_lt_of_le hk s.s)).trans (s.h k hk hg), Nat.le_trans s.s (below_alloc (Below.refl _ W) o).size⟩
instance (g : Nat) (w W : World) (n : Nat) [s : Sf g w W] : Sf g w (W.drewN n) := ⟨s.h, s.s⟩
instance (g : Nat) (w W : World) [s : Sf g w W] : Sf g w W.drew := ⟨s.h, s.s⟩
theorem rf {α : Type} {d : Kd α} {e : TypeId} {w W : World} {base : Nat} {ok : Nat → Prop} {v : Value} {xs : List α} {g t : Nat} {cs : Array Value} (h : d.R e w base ok v xs) (hb : w.heap[g]? = some (.cells cs t (0, 0))) [s : Sf g w W]
    (ht : ∀ q, q ∈ e :: d.E → q ≠ t := by decide) : d.R e W base (fun k => ok k ∧ k ≠ g) v xs := Kd.R_step (Kd.R_types h hb ht) (fun k ho hk => s.h k hk ho.2)
theorem rfm {α : Type} {d : Kd α} {e : TypeId} {w W : World} {base : Nat} {ok ok' : Nat → Prop} {v : Value} {xs : List α} {g t : Nat} {cs : Array Value} (h : d.R e w base ok v xs) (hb : w.heap[g]? = some (.cells cs t (0, 0))) (hok : ∀ k, ok k ∧ k ≠ g → ok' k)
    [s : Sf g w W] (ht : ∀ q, q ∈ e :: d.E → q ≠ t := by decide) : d.R e W base ok' v xs := Kd.R_mono (rf h hb (s := s) (ht := ht)) hok
class Pc (g : Nat) (w : World) (cs : Array Value) (W : World) (cs' : outParam (Array Value)) : Prop where
  h : ∀ t, w.heap[g]? = some (.cells cs t (0, 0)) → W.heap[g]? = some (.cells cs' t (0, 0))
instance (g : Nat) (w : World) (cs : Array Value) : Pc g w cs w cs := ⟨fun _ h => h⟩
instance (g : Nat) (w W : World) (cs cs' : Array Value) (i : Nat) (x : Value) [s : Pc g w cs W cs'] : Pc g w cs (W.setCell ⟨g, i, none⟩ x) (cs'.setIfInBounds i x) := ⟨fun t h => blk_put (s.h t h) i x rfl⟩
instance (g : Nat) (w W : World) (cs cs' : Array Value) (o : Obj) [s : Pc g w cs W cs'] : Pc g w cs (W.alloc o) cs' := ⟨fun t h => blk_alloc (s.h t h) o⟩
instance (g : Nat) (w W : World) (cs cs' : Array Value) (n : Nat) [s : Pc g w cs W cs'] : Pc g w cs (W.drewN n) cs' := ⟨fun t h => blk_drewN (s.h t h) n⟩
instance (g : Nat) (w W : World) (cs cs' : Array Value) [s : Pc g w cs W cs'] : Pc g w cs W.drew cs' := ⟨fun t h => blk_drew (s.h t h)⟩
theorem bp {g : Nat} {w W : World} {cs cs' cs2 : Array Value} {t : TypeId} (h : w.heap[g]? = some (.cells cs t (0, 0))) [s : Pc g w cs W cs'] (e : cs' = cs2 := by exact rfl) : W.heap[g]? = some (.cells cs2 t (0, 0)) := e ▸ s.h t h
/-! What some tactics show, as words. -/
theorem er {P : Prop} (h : P := by first | rfl | (simp [errW_none, errW_some] <;> rfl) | (simp [*, errW_none, errW_some] <;> rfl)) : P := h
theorem nil0 {P : Prop} (h : P := by first | exact Kd.R_nil _ _ _ _ _ | exact Kd.N_nil _ _ _ _ _ | exact Kd.V_nil _ _ _ _ _ | exact Kd.Q_nil _ _ _ _ _ | exact Kd.S_nil _ _ _ _ _) : P := h
theorem cd {P : Prop} (h : P := by first | rfl | (simp; done) | (simp [*]; done)) : P := h
theorem om {P : Prop} (h : P := by first | omega | exact Nat.le_refl _) : P := h
theorem sp {P : Prop} (h : P := by (simp only [Act.put, sa_, s0_, s1_, i64_w, i32_w]; rfl)) : P := h
end Go.Proofs.YtjgobfbjmlacjaaDoor
