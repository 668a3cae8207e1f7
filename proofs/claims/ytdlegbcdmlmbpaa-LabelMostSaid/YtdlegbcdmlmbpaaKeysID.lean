/-
  maps.Keys over a map whose keys are IDs: each key comes once, in some order.
  Conditions: none.
-/
import Derived.Test.YtdlegbcdmlmbpaaMap
import Derived.Test.YtdlegbcdmlmbpaaKeyID
import Derived.Test.YtdlegbcdmlmbpaaChunk
import Derived.Test.YtdlegbcdmlmbpaaSum
import Derived.Test.YtdlegbcdmlmbpaaOne
namespace Go.Proofs.Ytdlegbcdmlmbpaa
open Go.RowKit Go.Maps Go.ChangeMaps
set_option maxRecDepth 100000
set_option linter.unusedVariables false

section
variable {P : Program} {n : Nat} {Q : Exit → Act → World → Prop} {ops : Array Oper} {rest : List Oper}
theorem operInW_of {o : Oper} {a : Act} {w : World} {K : Act → World → Prop} (hnd : ∀ c, o.op ≠ .defer c) (h : o.wp P a w K Q) : o.wpIn Fence.wide n P a w K Q := by
  refine ⟨fun _ _ => trivial, ?_⟩
  rw [Oper.semAt_eq _ _ _ hnd]
  unfold Oper.wp at h
  generalize (execOp a.eval o).run P w = r at *
  cases r with
  | ok x w' =>
    cases x <;> simp only [Oper.upon, Oper.uponIn] at h ⊢ <;> first
      | exact h
      | exact ⟨fun hd => by simp [Fence.wide] at hd, (callsIn_wide (n := n - 1)).2 h⟩
      | exact ⟨fun hd => by simp [Fence.wide] at hd, fun c cs _ => let ⟨v, w'', r, s⟩ := h c cs; ⟨v, w'', r, stepsIn_wide.2 s⟩⟩
      | exact h.elim
  | halt x w' => cases x <;> simp only [Oper.upon, Oper.uponIn] at h ⊢ <;> exact h
theorem wpListIn_op {o : Oper} {a : Act} {w : World} (hg : o.guard = none) (hnd : ∀ c, o.op ≠ .defer c) (h : ∀ K : Act → World → Prop, (∀ a w, wpListIn Fence.wide n P ops Q rest a w → K a w) → o.wp P a w K Q) :
    wpListIn Fence.wide n P ops Q (o :: rest) a w := wpListIn_plain hg fun K hK => operInW_of hnd (h K hK)
theorem wpListIn_alloc_at {o : Oper} {a : Act} {w : World} (hg : o.guard = none) (T : TypeId) (ho : o.op = .alloc T) (z : Value) (hz : ∀ w, (zeroValue T).run P w = .ok z w) (cs : Array Value) (hcs : z.cells = cs)
    (h : wpListIn Fence.wide n P ops Q rest (a.put o.dst (.pointer (some ⟨w.heap.size, 0, none⟩))) (w.alloc (.cells cs T))) : wpListIn Fence.wide n P ops Q (o :: rest) a w := by
  subst hcs
  refine wpListIn_op hg (by rw [ho]; intro c hc; cases hc) fun K hK => ?_
  unfold Oper.wp execOp
  simp only [ho, Sem.run_bind, Sem.run_pure, run_alloc_zero hz, Result.andThen_ok]
  exact hK _ _ h
theorem wpListIn_store_agg {w : World} {op : Oper} {a : Act} (hgd : op.guard = none) (ty : TypeId) (x y : Operand) (ho : op.op = .store ty x y)
    (b o : Nat) (vs : List Value) (hx : a.eval x = .pointer (some ⟨b, o, none⟩)) (hy : a.eval y = .agg vs.toArray) (cs : Array Value) (t : TypeId) (hb : w.heap[b]? = some (.cells cs t (0, 0))) (hfit : o + vs.length ≤ cs.size)
    (hi : (P.info? ty).map (·.size) = some vs.length) (h1 : ∀ v ∈ vs, v.oneCell' = true)
    (h : ∀ w', w'.heap[b]? = some (.cells (spl cs o vs) t (0, 0)) → Keep (fun k => k = b) w w' → wpListIn Fence.wide n P ops Q rest (a.put op.dst undef) w') : wpListIn Fence.wide n P ops Q (op :: rest) a w := by
  refine wpListIn_op hgd (by rw [ho]; intro c hc; cases hc) fun K hK => ?_
  refine wp_store_mid ty x y ho b o vs.toArray hx hy ?_ (by simpa using hi) (all_oneCell_toArray h1) (hK _ _ (h _ (setCells_blk _ _ _ _ hb) (Keep.setCells (S := fun k => k = b) (fun _ => rfl) _ _ _ (Keep.refl _ _))))
  intro j hj
  refine ⟨?_, frozen_of_row w b _ _ _ hb⟩
  rw [cell_of_row w b _ _ _ _ hb]
  have : o + j < cs.size := by simp at hj; omega
  simp [this]
theorem wpListIn_load_mid {w : World} {op : Oper} {a : Act} (hgd : op.guard = none) (ty : TypeId) (x : Operand) (ho : op.op = .load ty x)
    (b o : Nat) (hx : a.eval x = .pointer (some ⟨b, o, none⟩)) (cs : List Value) (d : TypeDesc) (hc : w.rangeAt b o cs)
    (hu : P.underlying ty = some d) (hd : d.isRow = true) (hi : (P.info? ty).map (·.size) = some cs.length)
    (h : wpListIn Fence.wide n P ops Q rest (a.put op.dst (.agg cs.toArray)) w) : wpListIn Fence.wide n P ops Q (op :: rest) a w :=
  wpListIn_op hgd (by rw [ho]; intro c hc; cases hc) fun K hK => wp_load_mid ty x ho b o hx cs d hc hu hd hi (hK _ _ h)
end

/-- IDs. -/
abbrev Id := { l : List UInt8 // l.length = 32 }
def intV (n : Int) : Value := .int .i64 n

/-- What the rounds must keep: maps, iterators, the box that the iterator has captured. -/
def KeysKp (B1 : Nat) (A B : World) : Prop := KeepsWalks A B ∧ B.heap[B1]? = A.heap[B1]?

theorem eraseIdx_perm {α : Type} : ∀ {l : List α} {i : Nat} {x : α}, l[i]? = some x → l.Perm (x :: l.eraseIdx i)
  | [], _, _, h => by simp at h
  | y :: l, 0, x, h => by
    simp only [List.getElem?_cons_zero, Option.some.injEq] at h
    subst h
    exact List.Perm.refl _
  | y :: l, i + 1, x, h => by
    rw [List.getElem?_cons_succ] at h
    rw [List.eraseIdx_cons_succ]
    exact ((eraseIdx_perm h).cons y).trans (List.Perm.swap x y _)

theorem grown_of_keep {w w' : World} {r : Nat} (h : Keep (fun k => k = r) w w') : w.grownBy w' (some r) :=
  ⟨h.os, h.tape, h.output, h.size, fun i hi hne => h.block i hi (fun e => hne (by rw [e]))⟩
theorem grown_of_keep0 {w w' : World} (h : Keep noBlk w w') : w.grownBy w' none :=
  ⟨h.os, h.tape, h.output, h.size, fun i hi _ => h.block i hi id⟩
theorem IterIs.walks {α β : Type} {ok : α → Prop} {enc : α → Value} {ev : β → Value} {A B : World} {b r : Nat} {l left : List (α × β)} (h : IterIs ok enc ev A b r l left) (k : KeepsWalks A B) : IterIs ok enc ev B b r l left := by
  obtain ⟨es, clock, since, seen, c0, hb, hm, hi, h⟩ := h
  exact ⟨es, clock, since, seen, c0, k.same _ _ hb rfl, hm, k.same _ _ hi rfl, h⟩
theorem IterIs.walk {α β : Type} {ok : α → Prop} {enc : α → Value} {ev : β → Value} {A : World} {b r : Nat} {l left : List (α × β)} (h : IterIs ok enc ev A b r l left) : ∃ o : Obj, A.heap[r]? = some o ∧ o.isWalk = true := by
  obtain ⟨es, clock, since, seen, c0, hb, hm, hi, h⟩ := h
  exact ⟨_, hi, rfl⟩

theorem IterIs.count {α β : Type} {ok : α → Prop} {enc : α → Value} {ev : β → Value} {A : World} {b r : Nat} {l left : List (α × β)} (h : IterIs ok enc ev A b r l left) : A.rangeLeft b r = left.length := by
  obtain ⟨es, clock, since, seen, c0, hb, hm, hi, _, _, _, hl, _⟩ := h
  have := congrArg List.length hl
  simp only [List.length_map, Array.length_toList] at this
  simp only [World.rangeLeft, hb, hi]
  exact this

set_option maxHeartbeats 2000000 in
theorem keysID_in (n l B1 b : Nat) (lst : List (List UInt8 × Int)) (J Jx : List Id → World → Prop) (Bs : Nat) (hA : AbidesFrom Bs J) (W : World) (hBs : Bs ≤ W.heap.size)
    (hY : ∀ pre x W, J pre W → pre.length < lst.length → YieldAt Fence.wide (n - 1) Try.prog l #[idV x.1] W fun e W' =>
      (e = .returned (.bool true) ∧ J (pre ++ [x]) W' ∧ KeysKp B1 W W') ∨ (e = .returned (.bool false) ∧ Jx (pre ++ [x]) W'))
    (h1 : W.heap[B1]? = some (.cells #[.map (some b)] 77 (0, 0))) (h2 : MapIs IdOk idV intV W b lst) (h0 : J [] W) :
    CallsIn Fence.wide n Try.prog 85 #[.func (.yield l) #[] #[], .pointer (some ⟨B1, 0, none⟩)] W fun e W' => (∃ v, e = .returned v) ∧
      ((∃ ys : List Id, (ys.map (·.1)).Perm (lst.map (·.1)) ∧ J ys W') ∨ (∃ pre, True ∧ Jx pre W')) := by
  refine callsIn_of_wp Try.func85 rfl trivial ?_ rfl
  simp only [Try.ntmps85, List.size_toArray, List.length_cons, List.length_nil, Nat.reduceAdd, Nat.reduceSub, Array.replicate_succ, Array.replicate_zero, List.push_toArray, List.append_toArray, List.nil_append, List.cons_append]
  have c1 := cell_of_one h1
  have H1 := Lib.hid h1; have H2 := Lib.hid h2; have H0 := Lib.hid h0
  clear h1 h2 h0
  gi_wp2_with (first
    | (gi_at_range; refine wpListIn_range_is rfl _ _ rfl Try.underlying77 rfl H2.out ?_; intro w0 hi0 hk0 hs0)
    | gi_in)
  go_frame
  have hJ1 : J [] w0 := hA _ _ _ none H0.out (grown_of_keep0 hk0) (fun r e => by cases e)
  have hc0 : w0.heap[B1]? = some (.cells #[.map (some b)] 77 (0, 0)) := hk0.blk H1.out id
  have R0 := Lib.hid (And.intro hi0 (And.intro hJ1 hc0))
  clear hi0 hk0 hs0 hJ1 hc0 c1
  gi_loopw [3] (fun _ wr => ∃ (left : List (List UInt8 × Int)) (pre : List Id), Hid (IterIs IdOk idV intV wr b W.heap.size lst left ∧ J pre wr ∧ wr.heap[B1]? = some (.cells #[.map (some b)] 77 (0, 0))) ∧ (pre.map (·.1) ++ left.map (·.1)).Perm (lst.map (·.1)))
    (fun _ wr => wr.rangeLeft b W.heap.size)
  case atStart => exact ⟨lst, [], R0, by simp⟩
  case round =>
    obtain ⟨left, pre, hR, hp⟩ := hrel
    gi_wp2_with (first
      | (gi_at_next; refine wpListIn_next_is rfl _ rfl rfl hR.out.1 ?_ ?_)
      | gi_in)
    · intro hl
      gi_wp2
      go_end0
      subst hl
      exact ⟨⟨_, rfl⟩, .inl ⟨pre, by simpa using hp, hR.out.2.1⟩⟩
    · intro i x v w2 hxi hxo hi2 hk2 hs2 he2
      have hplen : pre.length < lst.length := by
        have h1 := hp.length_eq
        have h2 := (List.getElem?_eq_some_iff.1 hxi).1
        simp at h1
        omega
      have hJ2 : J pre w2 := hA _ _ _ (some W.heap.size) hR.out.2.1 (grown_of_keep hk2) (fun r e => by cases e; exact ⟨hBs, hR.out.1.walk⟩)
      have hc2 : w2.heap[B1]? = some (.cells #[.map (some b)] 77 (0, 0)) := hk2.blk hR.out.2.2 (by have := lt_of_block H1.out; omega)
      have hp2 : ((pre ++ [(⟨x, hxo⟩ : Id)]).map (·.1) ++ (left.eraseIdx i).map (·.1)).Perm (lst.map (·.1)) := by
        refine List.Perm.trans ?_ hp
        have := (eraseIdx_perm hxi).map (·.1)
        simp only [List.map_append, List.map_cons, List.map_nil, List.append_assoc, List.singleton_append]
        exact (this.append_left _).symm
      have HJ2 := Lib.hid hJ2; have HI2 := Lib.hid hi2; have HE2 := Lib.hid he2; have HC2 := Lib.hid hc2; have HP2 := Lib.hid hp2; have HR2 := Lib.hid (hR.out.1.count); have HL := Lib.hid (List.getElem?_eq_some_iff.1 hxi).1
      have hvl : (x.map vb).length = 32 := by rw [List.length_map]; exact hxo
      clear hJ2 hi2 hk2 hs2 he2 hc2 hp2 hxi hp hR
      unfold idV
      gi_wp2_with (first
        | (refine wpListIn_entry_is rfl _ rfl rfl HE2.out ?_; show wpListIn _ _ _ _ _ _ (Act.put _ _ (Value.tuple #[.agg (x.map vb).toArray, intV v])) _)
        | (refine wpListIn_alloc_at rfl 23 rfl zero32 zeroID (Array.replicate 32 (.int .u8 0)) rfl ?_)
        | (refine wpListIn_store_agg rfl 23 (.tmp 3) (.tmp 9) rfl w2.heap.size 0 (x.map vb) rfl rfl (Array.replicate 32 (.int .u8 0)) _ (heap_alloc_new _ _) (by rw [hvl]; simp) (by rw [hvl]; exact sizeID) (oneCell_vb _) ?_; intro w3 hb3 hk3
           rw [spl_whole _ _ (by rw [hvl]; simp)] at hb3
           have HB3 := Lib.hid hb3; have HK3 := Lib.hid (show Keep noBlk w2 w3 from ((Keep.refl noBlk w2).alloc _).trans' hk3 (fun _ _ h => h) (fun i hi e => by omega)); clear hb3 hk3
           have hJ3 := hA _ _ _ none HJ2.out (grown_of_keep0 HK3.out) (fun r e => by cases e)
           have hYk := hY pre ⟨x, hxo⟩ w3 hJ3 hplen
           unfold idV at hYk
           obtain ⟨fn, tmps, assign, body, hy, hR⟩ := hYk
           dsimp only at hy hR
           clear hJ3)
        | (refine wpListIn_load_mid rfl 23 (.tmp 3) rfl w2.heap.size 0 rfl (x.map vb) _ (rangeAt_whole HB3.out) Try.underlying23 rfl (by rw [hvl]; exact sizeID) ?_)
        | gi_in)
      refine ⟨fun h => by simp [Fence.wide] at h, hR.mono ?_⟩
      rintro e W3 (⟨rfl, hJ4, hk4⟩ | ⟨rfl, hJx⟩)
      · have HR4 := Lib.hid (show IterIs IdOk idV intV W3 b W.heap.size lst (left.eraseIdx i) ∧ J (pre ++ [⟨x, hxo⟩]) W3 ∧ W3.heap[B1]? = some (.cells #[.map (some b)] 77 (0, 0)) from
          ⟨(HI2.out.keep HK3.out id id).walks hk4.1, hJ4, hk4.2.trans (HK3.out.blk HC2.out id)⟩)
        clear hJ4 hk4 hR hy
        gi_wp2
        go_roundw
        case rel => exact ⟨_, _, HR4, HP2.out⟩
        case measure => rw [HR4.out.1.count, HR2.out, List.length_eraseIdx_of_lt HL.out]; have := HL.out; omega
      · gi_wp2
        refine bodyPost_ret (results_none rfl _ _ _) rfl ?_
        exact ⟨⟨_, rfl⟩, .inr ⟨_, trivial, hJx⟩⟩
theorem keysID_stops (n B1 b : Nat) (lst : List (List UInt8 × Int)) (w : World) (h1 : w.heap[B1]? = some (.cells #[.map (some b)] 77 (0, 0))) (h2 : MapIs IdOk idV intV w b lst) :
    SeqStopsK Fence.wide n Try.prog 85 #[.pointer (some ⟨B1, 0, none⟩)] (fun x : Id => #[idV x.1]) (KeysKp B1) (fun ys => (ys.map (·.1)).Perm (lst.map (·.1))) (fun _ => True) lst.length w := by
  intro l J Jx W hW hJ _ hY h0
  obtain ⟨es, clock, hb, hm⟩ := h2
  exact keysID_in n l B1 b lst J Jx _ hJ W (Nat.le_refl _) hY ((hW.block _ (lt_of_block h1)).trans h1) ⟨es, clock, (hW.block _ (Array.getElem?_eq_some_iff.1 hb).1).trans hb, hm⟩ h0

theorem keysID_call (mb : Option Nat) (w : World) :
    Calls Try.prog 60 #[.map mb] w fun e w' => e = .returned (.func (.func 85) #[] #[.pointer (some ⟨w.heap.size, 0, none⟩)]) ∧ w' = w.alloc (.cells #[.map mb] 77) := by
  go_enter Try.func60, Try.ntmps60
  go_wp2
  go_ret
  exact ⟨rfl, rfl⟩
end Go.Proofs.Ytdlegbcdmlmbpaa
