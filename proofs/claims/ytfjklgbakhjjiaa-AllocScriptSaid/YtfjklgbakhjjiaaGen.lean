/-
  Laws that many texts share: of worlds that grow, of rows, of iterators over maps, inside a fence and outside.
  Conditions: none.
-/
import Derived.Test.YtfjklgbakhjjiaaCopy
import Derived.Test.YtfjklgbakhjjiaaMap
import Derived.Test.YtfjklgbakhjjiaaBuild
import Derived.Test.YtfjklgbakhjjiaaFlat
import Derived.Sort.Grow
import Derived.Stop.BytesEq
import Derived.RangeFuncKeeps
import Derived.RangeFuncLeaves
import Derived.RangeFuncFrom
import Derived.RangeFuncNested
import Derived.OwnWalkIn
import Derived.TacticsInMore
import Derived.LoopNIn
import Derived.LoopIn
namespace Go.Proofs.Ytfjklgbakhjjiaa
open Go.RowKit Go.Maps Go.ChangeMaps Go.Sort
set_option maxRecDepth 100000
set_option linter.unusedVariables false

theorem owns_block {w : World} {base e size n : Nat} {v : Value} {xs : List Value} (h : w.ownsRow base e size v n xs) {k : Nat} (hb : v.ownBlock = some k) : ∃ cur, w.heap[k]? = some (.cells cur e (0, 0)) := by
  rcases h.2 with ⟨rfl, -⟩ | ⟨g, cap, cur, rfl, _, hh, -⟩
  · cases hb
  · cases hb; exact ⟨cur, hh⟩
theorem KeepsOthers_of_keep {S : Nat → Prop} {W W' : World} (h : Keep S W W') (hS : ∀ k o, W.heap[k]? = some o → S k → o.isCells = true) : KeepsOthers W W' :=
  ⟨h.size, fun k o hk ho => h.blk hk fun hs => by rw [hS k o hk hs] at ho; cases ho⟩
section
variable {P : Program} {n : Nat} {Q : Exit → Act → World → Prop} {ops : Array Oper} {rest : List Oper}
theorem operInW_of {o : Oper} {a : Act} {w : World} {K : Act → World → Prop} (hnd : ∀ c, o.op ≠ .defer c) (h : o.wp P a w K Q) : o.wpIn Fence.wide n P a w K Q := by
  refine ⟨fun _ _ => trivial, ?_⟩
  rw [Oper.semAt_eq _ _ _ hnd]
  unfold Oper.wp at h
  generalize (execOp a.eval o).run P w = r at *
  cases r with
  | ok x w' =>
    cases x <;> simp only [Oper.upon, Oper.uponIn] at h ⊢ <;> first
      | exact h
      | exact ⟨fun hd => by simp [Fence.wide] at hd, (callsIn_wide (n := n - 1)).2 h⟩
      | exact ⟨fun hd => by simp [Fence.wide] at hd, fun c cs _ => let ⟨v, w'', r, s⟩ := h c cs; ⟨v, w'', r, stepsIn_wide.2 s⟩⟩
      | exact h.elim
  | halt x w' => cases x <;> simp only [Oper.upon, Oper.uponIn] at h ⊢ <;> exact h
theorem wpListIn_op {o : Oper} {a : Act} {w : World} (hg : o.guard = none) (hnd : ∀ c, o.op ≠ .defer c) (h : ∀ K : Act → World → Prop, (∀ a w, wpListIn Fence.wide n P ops Q rest a w → K a w) → o.wp P a w K Q) :
    wpListIn Fence.wide n P ops Q (o :: rest) a w := wpListIn_plain hg fun K hK => operInW_of hnd (h K hK)
theorem wpListIn_alloc_at {o : Oper} {a : Act} {w : World} (hg : o.guard = none) (T : TypeId) (ho : o.op = .alloc T) (z : Value) (hz : ∀ w, (zeroValue T).run P w = .ok z w) (cs : Array Value) (hcs : z.cells = cs)
    (h : wpListIn Fence.wide n P ops Q rest (a.put o.dst (.pointer (some ⟨w.heap.size, 0, none⟩))) (w.alloc (.cells cs T))) : wpListIn Fence.wide n P ops Q (o :: rest) a w := by
  subst hcs
  refine wpListIn_op hg (by rw [ho]; intro c hc; cases hc) fun K hK => ?_
  unfold Oper.wp execOp
  simp only [ho, Sem.run_bind, Sem.run_pure, run_alloc_zero hz, Result.andThen_ok]
  exact hK _ _ h
theorem wpListIn_store_agg {w : World} {op : Oper} {a : Act} (hgd : op.guard = none) (ty : TypeId) (x y : Operand) (ho : op.op = .store ty x y)
    (b o : Nat) (vs : List Value) (hx : a.eval x = .pointer (some ⟨b, o, none⟩)) (hy : a.eval y = .agg vs.toArray) (cs : Array Value) (t : TypeId) (hb : w.heap[b]? = some (.cells cs t (0, 0))) (hfit : o + vs.length ≤ cs.size)
    (hi : (P.info? ty).map (·.size) = some vs.length) (h1 : ∀ v ∈ vs, v.oneCell' = true)
    (h : ∀ w', w'.heap[b]? = some (.cells (spl cs o vs) t (0, 0)) → Keep (fun k => k = b) w w' → wpListIn Fence.wide n P ops Q rest (a.put op.dst undef) w') : wpListIn Fence.wide n P ops Q (op :: rest) a w := by
  refine wpListIn_op hgd (by rw [ho]; intro c hc; cases hc) fun K hK => ?_
  refine wp_store_mid ty x y ho b o vs.toArray hx hy ?_ (by simpa using hi) (all_oneCell_toArray h1) (hK _ _ (h _ (setCells_blk _ _ _ _ hb) (Keep.setCells (S := fun k => k = b) (fun _ => rfl) _ _ _ (Keep.refl _ _))))
  intro j hj
  refine ⟨?_, frozen_of_row w b _ _ _ hb⟩
  rw [cell_of_row w b _ _ _ _ hb]
  have : o + j < cs.size := by simp at hj; omega
  simp [this]
theorem wpListIn_load_mid {w : World} {op : Oper} {a : Act} (hgd : op.guard = none) (ty : TypeId) (x : Operand) (ho : op.op = .load ty x)
    (b o : Nat) (hx : a.eval x = .pointer (some ⟨b, o, none⟩)) (cs : List Value) (d : TypeDesc) (hc : w.rangeAt b o cs)
    (hu : P.underlying ty = some d) (hd : d.isRow = true) (hi : (P.info? ty).map (·.size) = some cs.length)
    (h : wpListIn Fence.wide n P ops Q rest (a.put op.dst (.agg cs.toArray)) w) : wpListIn Fence.wide n P ops Q (op :: rest) a w :=
  wpListIn_op hgd (by rw [ho]; intro c hc; cases hc) fun K hK => wp_load_mid ty x ho b o hx cs d hc hu hd hi (hK _ _ h)
end
/-- What the rounds must keep: maps, iterators, the box that the iterator has captured. -/
def KeysKp (B1 : Nat) (A B : World) : Prop := KeepsWalks A B ∧ B.heap[B1]? = A.heap[B1]?

theorem eraseIdx_perm {α : Type} : ∀ {l : List α} {i : Nat} {x : α}, l[i]? = some x → l.Perm (x :: l.eraseIdx i)
  | [], _, _, h => by simp at h
  | y :: l, 0, x, h => by
    simp only [List.getElem?_cons_zero, Option.some.injEq] at h
    subst h
    exact List.Perm.refl _
  | y :: l, i + 1, x, h => by
    rw [List.getElem?_cons_succ] at h
    rw [List.eraseIdx_cons_succ]
    exact ((eraseIdx_perm h).cons y).trans (List.Perm.swap x y _)

theorem grown_of_keep {w w' : World} {r : Nat} (h : Keep (fun k => k = r) w w') : w.grownBy w' (some r) :=
  ⟨h.os, h.tape, h.output, h.size, fun i hi hne => h.block i hi (fun e => hne (by rw [e]))⟩
theorem grown_of_keep0 {w w' : World} (h : Keep noBlk w w') : w.grownBy w' none :=
  ⟨h.os, h.tape, h.output, h.size, fun i hi _ => h.block i hi id⟩
theorem IterIs.walks {α β : Type} {ok : α → Prop} {enc : α → Value} {ev : β → Value} {A B : World} {b r : Nat} {l left : List (α × β)} (h : IterIs ok enc ev A b r l left) (k : KeepsWalks A B) : IterIs ok enc ev B b r l left := by
  obtain ⟨es, clock, since, seen, c0, hb, hm, hi, h⟩ := h
  exact ⟨es, clock, since, seen, c0, k.same _ _ hb rfl, hm, k.same _ _ hi rfl, h⟩
theorem IterIs.walk {α β : Type} {ok : α → Prop} {enc : α → Value} {ev : β → Value} {A : World} {b r : Nat} {l left : List (α × β)} (h : IterIs ok enc ev A b r l left) : ∃ o : Obj, A.heap[r]? = some o ∧ o.isWalk = true := by
  obtain ⟨es, clock, since, seen, c0, hb, hm, hi, h⟩ := h
  exact ⟨_, hi, rfl⟩

theorem IterIs.count {α β : Type} {ok : α → Prop} {enc : α → Value} {ev : β → Value} {A : World} {b r : Nat} {l left : List (α × β)} (h : IterIs ok enc ev A b r l left) : A.rangeLeft b r = left.length := by
  obtain ⟨es, clock, since, seen, c0, hb, hm, hi, _, _, _, hl, _⟩ := h
  have := congrArg List.length hl
  simp only [List.length_map, Array.length_toList] at this
  simp only [World.rangeLeft, hb, hi]
  exact this
theorem rd_blk {w : World} {b n size : Nat} {vs : List Value} {t : TypeId} (hb : w.heap[b]? = some (.cells vs.toArray t (0, 0))) (hl : vs.length = n * size) (hn : n ≤ maxLen) : Rd w size (.slice (some ⟨b, 0, none⟩) n n) n vs :=
  ⟨hl, _, n, rfl, Nat.le_refl _, hn, (by intro h; cases h), fun _ => ⟨b, 0, rfl, fun i u hu => blk_cell hb (by simpa using hu)⟩⟩

theorem owns_base {w : World} {base e size n k : Nat} {v : Value} {xs : List Value} (h : w.ownsRow base e size v n xs) (hv : v.ownBlock = some k) : base ≤ k := by
  rcases h.2 with ⟨rfl, -⟩ | ⟨g, cap, cur, rfl, hb, -⟩
  · cases hv
  · cases hv; exact hb
theorem fold_one (t : Array Value) (p : Nat) (v : Value) : (Array.zip #[p] #[v]).foldl (fun (t : Array Value) (pv : Nat × Value) => t.setIfInBounds pv.1 pv.2) t = t.setIfInBounds p v := by
  simp [Array.zip]
def Gr (w w' : World) : Prop := ∃ (q : Nat) (os : Array Obj), w' = grow (w.drewN q) os
theorem Gr.refl (w : World) : Gr w w := ⟨0, #[], by simp [grow]; rfl⟩
theorem Gr.trans {a b c : World} (h : Gr a b) (k : Gr b c) : Gr a c := by
  obtain ⟨q, os, rfl⟩ := h
  obtain ⟨q', os', rfl⟩ := k
  refine ⟨q + q', os ++ os', ?_⟩
  rw [← grow_grow, ← World.drewN_drewN]
  rfl
theorem Gr.alloc {a b : World} (h : Gr a b) (o : Obj) : Gr a (b.alloc o) := h.trans ⟨0, #[o], by rw [alloc_eq_grow]; rfl⟩
theorem Gr.drewN {a b : World} (h : Gr a b) (q : Nat) : Gr a (b.drewN q) := h.trans ⟨q, #[], (grow_empty _).symm⟩
theorem Gr.keep {a b : World} (h : Gr a b) : Keep noBlk a b := by
  obtain ⟨q, os, rfl⟩ := h
  refine ⟨rfl, rfl, rfl, by simp [grow], fun k hk _ => ?_⟩
  simp only [grow]
  rw [Array.getElem?_append_left (by exact hk)]
  rfl
theorem alloc_facts (w : World) (cs : Array Value) (t : TypeId) : ∃ w', w.alloc (.cells cs t) = w' ∧ Keep noBlk w w' ∧ w'.heap[w.heap.size]? = some (.cells cs t (0, 0)) ∧ w'.heap.size = w.heap.size + 1 :=
  ⟨_, rfl, (Keep.refl _ _).alloc _, heap_alloc_new _ _, World.size_alloc _ _⟩
theorem yieldsIf_lookup {P : Program} {ops : Array Oper} {S : World → Prop} {o : Oper} {a : Act} {v : Value} (hw : Region.wanted o (yielded ops a.tmps) = true) (m x : Operand) (t : TypeId) (hop : o.op = Op.lookup t m x false)
    (h : ∀ w, S w → (Instr.lookup t (a.eval m) (a.eval x) false).run P w = .ok v w) : YieldsIf P ops S o v a :=
  .inl ⟨hw, fun w hS => by
    have := h w hS
    unfold execOp
    simp only [hop, Sem.run_bind, this, Result.andThen_ok, Sem.run_pure]⟩
def TherePost (w : World) (b : Bool) (e : Ending) (w' : World) : Prop := e = .returned (.bool b) ∧ Keep noBlk w w'
theorem neq_of_eql {P : Program} {w : World} {t : TypeId} {xs ys : Array Value} {b : Bool} (h : (binOp .eql t (.agg xs) (.agg ys)).run P w = .ok (.bool b) w) : (binOp .neq t (.agg xs) (.agg ys)).run P w = .ok (.bool (!b)) w := by
  rw [run_eql_struct] at h
  rw [run_neq_struct]
  cases hr : (Op.equalIn 10000 t (.agg xs) (.agg ys)).run P w with
  | ok x w' =>
    rw [hr] at h
    simp only [Result.andThen_ok, Result.ok.injEq, Value.bool.injEq] at h ⊢
    exact ⟨by rw [h.1], h.2⟩
  | halt x w' => rw [hr] at h; cases h
/-- Fields, each by name, type and place. -/
def eqT (d : Nat) (xs ys : Array Value) : List (String × TypeId × Nat) → Sem Bool
  | [] => pure true
  | f :: fs =>
    if f.1 ≠ "_" then do
      let a ← part f.2.1 xs f.2.2
      let b ← part f.2.1 ys f.2.2
      let r ← Op.equalIn d f.2.1 a b
      if (!r) = true then pure false else eqT d xs ys fs
    else eqT d xs ys fs
theorem eqFields_eqT (d : Nat) (xs ys : Array Value) : ∀ (fs : List Field), Op.eqFields d xs ys fs = eqT d xs ys (fs.map fun f => (f.name, f.type, f.offset))
  | [] => rfl
  | f :: fs => by simp only [Op.eqFields, eqT, List.map_cons, eqFields_eqT d xs ys fs]
theorem part_int (cs : Array Value) (off : Nat) (v : Value) (h : cs[off]? = some v) (w : World) : (part 3 cs off).run Try.prog w = .ok v w := by
  simp [part, isAgg, run_underlying Try.underlying3, h]
theorem Keep.rangeAt {w w' : World} (h : Keep noBlk w w') {b o : Nat} {cs : List Value} (hr : w.rangeAt b o cs) : w'.rangeAt b o cs := fun j v hv => h.cell (hr j v hv) id
end Go.Proofs.Ytfjklgbakhjjiaa
