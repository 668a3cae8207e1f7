/-
  A region that draws its order, whose first n operations may come in any order, each of which makes at most new memory, and whose others come behind all of these, in the order of the text.
  Conditions: none; a plain law over any program.
-/
import Derived.Test.YtfjklgbakhjjiaaBase
import Derived.StillTail
import Derived.RangeFuncBox
import Derived.RangeFuncCalls
import Derived.OrdersIn
namespace Go.Proofs.Ytfjklgbakhjjiaa
open Go.RowKit

/-- An operation, in state a and world w, yields a value and a world of which X holds. -/
def Does (P : Program) (o : Oper) (a : Act) (w : World) (X : Value → World → Prop) : Prop :=
  match (execOp a.eval o).run P w with
  | .ok (.value v) w' => X v w'
  | .ok (.enter f args) w' => Calls P f args w' fun e w'' => ∃ v, e = .returned v ∧ X v w''
  | _ => False

theorem Does.wp {P : Program} {o : Oper} {a a2 : Act} {w : World} {X : Value → World → Prop} {K : Act → World → Prop} {Q : Exit → Act → World → Prop} (h : Does P o a w X) (he : execOp a2.eval o = execOp a.eval o)
    (hK : ∀ v w', X v w' → K (a2.put o.dst v) w') : o.wp P a2 w K Q := by
  unfold Does at h
  unfold Oper.wp
  rw [he]
  generalize (execOp a.eval o).run P w = r at *
  cases r with
  | ok x w' =>
    cases x <;> simp only [Oper.upon] at h ⊢ <;> first
      | exact hK _ _ h
      | exact h.elim
      | exact Calls.mono h fun e w'' hx => by obtain ⟨v, rfl, hv⟩ := hx; exact hK _ _ hv
  | halt x w' => exact h.elim

def headsB (ops : Array Oper) (n : Nat) : Bool :=
  ((List.range n).all fun i => match ops[i]? with
    | none => false
    | some o => o.guard.isNone && o.after.all (fun e => !Region.binds .any e) && (match o.op with | .select _ _ => false | _ => true) &&
      (List.range n).all fun j => j == i || match ops[j]? with | none => false | some o' => o.apart ops o') &&
  (List.range ops.size).all fun t => decide (t < n) || (List.range n).all fun i => Region.waitsFor .any ops t i

/-- The frame behind those of the first k operations that have come up. -/
def headPut (ops : Array Oper) (a : Act) (v : Nat → Value) (listed : Array Bool) : Nat → Act
  | 0 => a
  | k + 1 => if listed.getD k false = true then (headPut ops a v listed k).put ((ops[k]?).bind (·.dst)) (v k) else headPut ops a v listed k

section
variable {P : Program} {ops : Array Oper} {n : Nat} {a : Act}

theorem headsB_spec (hB : headsB ops n = true) {i : Nat} (hi : i < n) : ∃ o, ops[i]? = some o ∧ o.guard = none ∧ (∀ e ∈ o.after, Region.binds .any e = false) ∧ (∀ cs b, o.op ≠ .select cs b) ∧
    ∀ j o', j < n → j ≠ i → ops[j]? = some o' → o.apart ops o' = true := by
  simp only [headsB, Bool.and_eq_true] at hB
  have h := List.all_eq_true.1 hB.1 i (List.mem_range.2 hi)
  cases ho : ops[i]? with
  | none => simp [ho] at h
  | some o =>
    simp only [ho, Bool.and_eq_true] at h
    refine ⟨o, rfl, by simpa using h.1.1.1, fun e he => ?_, fun cs b hs => ?_, fun j o' hj hne ho' => ?_⟩
    · have := Array.all_eq_true'.1 h.1.1.2 e he
      simpa using this
    · have := h.1.2
      rw [hs] at this
      cases this
    · have := List.all_eq_true.1 h.2 j (List.mem_range.2 hj)
      simp only [ho', Bool.or_eq_true, beq_iff_eq] at this
      rcases this with h1 | h1
      · exact absurd h1 hne
      · exact h1
theorem headsB_tail (hB : headsB ops n = true) {t i : Nat} (ht : n ≤ t) (hts : t < ops.size) (hi : i < n) : Region.waitsFor .any ops t i = true := by
  simp only [headsB, Bool.and_eq_true] at hB
  have h := List.all_eq_true.1 hB.2 t (List.mem_range.2 hts)
  simp only [Bool.or_eq_true, decide_eq_true_eq] at h
  rcases h with h | h
  · omega
  · exact List.all_eq_true.1 h i (List.mem_range.2 hi)

theorem headPut_exec (hB : headsB ops n = true) (v : Nat → Value) (listed : Array Bool) {i : Nat} {o : Oper} (hi : i < n) (ho : ops[i]? = some o) (hun : listed.getD i false = false) :
    ∀ k, k ≤ n → execOp (headPut ops a v listed k).eval o = execOp a.eval o
  | 0, _ => rfl
  | k + 1, hk => by
    rw [headPut]
    split
    · rename_i hl
      have hne : k ≠ i := fun e => by rw [e, hun] at hl; cases hl
      obtain ⟨ok, hok, _, _, _, hap⟩ := headsB_spec hB (show k < n by omega)
      obtain ⟨o', ho', _, _, hs, _⟩ := headsB_spec hB hi
      have e1 : o' = o := Option.some.inj (ho'.symm.trans ho)
      subst e1
      have h1 := (Oper.apart_spec (hap i _ hi (Ne.symm hne) ho)).1
      rw [hok]
      rw [execOp_put (ops := ops) _ hs _ _ _ (by simpa using h1)]
      exact headPut_exec hB v listed hi ho hun k (by omega)
    · exact headPut_exec hB v listed hi ho hun k (by omega)

theorem headPut_same {v v' : Nat → Value} {listed listed' : Array Bool} : ∀ k, (∀ j, j < k → v j = v' j ∧ listed.getD j false = listed'.getD j false) → headPut ops a v listed k = headPut ops a v' listed' k
  | 0, _ => rfl
  | k + 1, h => by
    rw [headPut, headPut, headPut_same k (fun j hj => h j (by omega)), (h k (by omega)).1, (h k (by omega)).2]

theorem headPut_add (hB : headsB ops n = true) (v : Nat → Value) (listed : Array Bool) {i : Nat} (hi : i < n) (his : i < listed.size) (hun : listed.getD i false = false) (u : Value) :
    ∀ k, i < k → k ≤ n → headPut ops a (fun j => if j = i then u else v j) (listed.setIfInBounds i true) k = (headPut ops a v listed k).put ((ops[i]?).bind (·.dst)) u
  | 0, h, _ => by omega
  | k + 1, h, hk => by
    by_cases e : k = i
    · subst e
      rw [headPut, headPut]
      have h1 : (listed.setIfInBounds k true).getD k false = true := by simp [his]
      rw [if_pos h1, hun]
      simp only [if_true, Bool.false_eq_true, if_false]
      rw [headPut_same (v' := v) (listed' := listed) k (fun j hj => ⟨if_neg (by omega), getD_set_ne false (by omega)⟩)]
    · have ih := headPut_add hB v listed hi his hun u k (by omega) (by omega)
      rw [headPut, headPut, getD_set_ne false (Ne.symm e), if_neg e, ih]
      split
      · obtain ⟨ok, hok, _, _, _, hap⟩ := headsB_spec hB (show k < n by omega)
        obtain ⟨oi, hoi, _⟩ := headsB_spec hB hi
        have h2 := (Oper.apart_spec (hap i _ hi (Ne.symm e) hoi)).2.1
        rw [hok, hoi]
        exact (Act.put_comm _ _ _ (by simpa using h2)).symm
      · rfl

theorem heads_any {Q : Exit → Act → World → Prop} (hB : headsB ops n = true) (hn : n ≤ ops.size)
    (hseq : Region.seqB .any ops (ops.size - n) n ((Array.range ops.size).map fun i => decide (i < n)) = true)
    (Pst : Nat → Value → World → Prop) (hst : ∀ i v w w', Pst i v w → Keep noBlk w w' → Pst i v w') (F0 : World → Prop) (hF : ∀ w w', F0 w → Keep noBlk w w' → F0 w')
    (hop : ∀ i o, i < n → ops[i]? = some o → ∀ w, F0 w → Does P o a w fun v w' => Keep noBlk w w' ∧ Pst i v w')
    (hend : ∀ (v : Nat → Value) (listed : Array Bool) w', (∀ i, i < n → listed.getD i false = true) → F0 w' → (∀ i, i < n → Pst i (v i) w') → wpList P ops Q (ops.toList.drop n) (headPut ops a v listed n) w') :
    ∀ (f : Nat) (listed : Array Bool) (v : Nat → Value) (w : World), listed.size = ops.size → (∀ t, n ≤ t → t < ops.size → listed.getD t false = false) → ((List.range n).countP fun i => !listed.getD i false) = f →
      F0 w → (∀ i, i < n → listed.getD i false = true → Pst i (v i) w) → wpAny P .any ops Q (f + (ops.size - n)) listed (headPut ops a v listed n) w
  | 0, listed, v, w, hs, ht, hc, h0, hp => by
    have hall : ∀ i, i < n → listed.getD i false = true := by
      intro i hi
      have := (List.countP_eq_zero.1 hc) i (List.mem_range.2 hi)
      simpa using this
    have hl : listed = (Array.range ops.size).map fun i => decide (i < n) := by
      apply Array.ext
      · simp [hs]
      · intro i h1 h2
        have h3 : listed.getD i false = listed[i] := by simp [h1]
        rw [← h3]
        simp only [Array.getElem_map, Array.getElem_range]
        by_cases hi : i < n
        · rw [hall i hi]; simp [hi]
        · rw [ht i (by omega) (by omega)]; simp [hi]
    have hlen : (ops.toList.drop n).length = ops.size - n := by simp
    rw [Nat.zero_add, ← hlen]
    refine wpAny_of_seq (ops.toList.drop n) n listed _ w (fun j => by simp) (by rw [hlen, hl]; exact hseq) ?_
    exact hend v listed w hall h0 fun i hi => hp i hi (hall i hi)
  | f + 1, listed, v, w, hs, ht, hc, h0, hp => by
    obtain ⟨i0, hi0, hun0⟩ : ∃ i, i < n ∧ listed.getD i false = false := by
      have : 0 < (List.range n).countP fun i => !listed.getD i false := by omega
      obtain ⟨i, hi, h⟩ := List.countP_pos_iff.1 this
      exact ⟨i, List.mem_range.1 hi, by simpa using h⟩
    rw [show f + 1 + (ops.size - n) = (f + (ops.size - n)) + 1 by omega]
    have inb : ∀ {i}, i < n → listed.getD i false = false → listed.getD i true = false := fun hi h => getD_in (by rw [hs]; omega) h
    have rdy : ∀ i, i < n → listed.getD i false = false → i ∈ Region.ready .any ops listed := by
      intro i hi h
      obtain ⟨o, ho, _, haf, _⟩ := headsB_spec hB hi
      exact mem_ready.2 ⟨inb hi h, o, ho, fun e he hb => by rw [haf e he] at hb; cases hb⟩
    refine ⟨fun h => (by have := rdy i0 hi0 hun0; rw [h] at this; cases this), fun i hi => ?_⟩
    obtain ⟨h1, o, ho, hall⟩ := mem_ready.1 hi
    have hlt : i < ops.size := (Array.getElem?_eq_some_iff.1 ho).1
    have hin : i < n := by
      rcases Nat.lt_or_ge i n with h | h
      · exact h
      · obtain ⟨oj, hoj, e, he, hb, hon⟩ := Region.waitsFor_spec (headsB_tail hB h hlt hi0)
        have : oj = o := Option.some.inj (hoj.symm.trans ho)
        subst this
        have := hall e he hb
        rw [hon, hun0] at this
        cases this
    have hun : listed.getD i false = false := getD_both h1
    obtain ⟨o', ho', hg, _⟩ := headsB_spec hB hin
    have e1 : o' = o := Option.some.inj (ho'.symm.trans ho)
    subst e1
    unfold wpOp
    simp only [ho, Region.wanted, hg, if_true]
    refine .inl (Does.wp (hop i _ hin ho w h0) (headPut_exec hB v listed hin ho hun n (Nat.le_refl _)) ?_)
    rintro u w' ⟨hk, hpu⟩
    have hadd := headPut_add (a := a) hB v listed hin (by rw [hs]; omega) hun u n hin (Nat.le_refl _)
    rw [ho] at hadd
    have hadd' : headPut ops a (fun j => if j = i then u else v j) (listed.setIfInBounds i true) n = (headPut ops a v listed n).put o'.dst u := hadd
    rw [← hadd']
    refine heads_any hB hn hseq Pst hst F0 hF hop hend f _ _ w' (by simpa using hs) (fun t h1 h2 => ?_) ?_ (hF _ _ h0 hk) ?_
    · rw [getD_set_ne false (by omega)]; exact ht t h1 h2
    · have key : ∀ m, m ≤ n → ((List.range m).countP fun j => !(listed.setIfInBounds i true).getD j false) + (if i < m then 1 else 0) = (List.range m).countP fun j => !listed.getD j false := by
        intro m
        induction m with
        | zero => simp
        | succ m ih =>
          intro hm
          have ih := ih (by omega)
          simp only [List.range_succ, List.countP_append, List.countP_singleton]
          by_cases e : m = i
          · subst e
            have h3 : (listed.setIfInBounds m true).getD m false = true := by simp [hs, hlt]
            rw [h3, hun]
            simp at ih ⊢
            exact ih
          · rw [getD_set_ne false (Ne.symm e)]
            have e5 : (i < m + 1) = (i < m) := propext (by omega)
            simp only [e5]
            omega
      have := key n (Nat.le_refl _)
      rw [if_pos hin] at this
      omega
    · intro j hj hl
      by_cases e : j = i
      · subst e; simpa using hpu
      · rw [getD_set_ne false (Ne.symm e)] at hl
        simp only [e, if_false]
        exact hst _ _ _ _ (hp j hj hl) hk

/-- The law. -/
theorem wp_region_heads {id : Nat} {w : World} {Q : Exit → Act → World → Prop} (hm : P.follows .mixedOrders = true) (n : Nat) (hB : headsB ops n = true) (hn : n ≤ ops.size)
    (hseq : Region.seqB .any ops (ops.size - n) n ((Array.range ops.size).map fun i => decide (i < n)) = true)
    (Pst : Nat → Value → World → Prop) (hst : ∀ i v w w', Pst i v w → Keep noBlk w w' → Pst i v w') (F0 : World → Prop) (hF : ∀ w w', F0 w → Keep noBlk w w' → F0 w')
    (hop : ∀ i o, i < n → ops[i]? = some o → ∀ w, F0 w → Does P o a w fun v w' => Keep noBlk w w' ∧ Pst i v w') (h0 : F0 w.drew)
    (hend : ∀ (v : Nat → Value) (listed : Array Bool) w', (∀ i, i < n → listed.getD i false = true) → F0 w' → (∀ i, i < n → Pst i (v i) w') → wpList P ops Q (ops.toList.drop n) (headPut ops a v listed n) w') :
    (Code.region id ops true).wp P Q a w := by
  refine wp_region_any hm ?_
  have hz : ∀ j, (Array.replicate ops.size false).getD j false = false := fun j => getD_replicate_false _ _
  have hc : ((List.range n).countP fun i => !(Array.replicate ops.size false).getD i false) = n := by
    have : ((List.range n).countP fun i => !(Array.replicate ops.size false).getD i false) = (List.range n).length := List.countP_eq_length.2 fun i _ => by rw [hz]; rfl
    simpa using this
  have := heads_any hB hn hseq Pst hst F0 hF hop hend n (Array.replicate ops.size false) (fun _ => undef) w.drew (by simp) (fun t _ _ => hz t) hc h0 (fun i _ h => by rw [hz] at h; cases h)
  have hpa : headPut ops a (fun _ => undef) (Array.replicate ops.size false) n = a := by
    have : ∀ k, headPut ops a (fun _ => undef) (Array.replicate ops.size false) k = a := by
      intro k
      induction k with
      | zero => rfl
      | succ k ih => rw [headPut, hz, ih]; rfl
    exact this n
  rw [hpa, show n + (ops.size - n) = ops.size by omega] at this
  exact this
end

section
variable {P : Program} {o : Oper} {a : Act} {w : World} {X : Value → World → Prop}
theorem does_run {v : Value} {w' : World} (h : (execOp a.eval o).run P w = .ok (.value v) w') (hx : X v w') : Does P o a w X := by
  unfold Does; rw [h]; exact hx
theorem does_load_mid (ty : TypeId) (x : Operand) (ho : o.op = .load ty x)
    (b off : Nat) (hx : a.eval x = .pointer (some ⟨b, off, none⟩)) (cs : List Value) (d : TypeDesc) (hc : w.rangeAt b off cs)
    (hu : P.underlying ty = some d) (hd : d.isRow = true) (hi : (P.info? ty).map (·.size) = some cs.length)
    (h : X (.agg cs.toArray) w) : Does P o a w X := by
  refine does_run (v := .agg cs.toArray) (w' := w) ?_ h
  unfold execOp
  simp only [ho, hx, Instr.loadAt, Instr.sureAddr, Sem.run_bind, Sem.run_pure, Result.andThen_ok, run_loadVar_mid w b off ty cs d hc hu hd hi]
theorem does_alloc (T : TypeId) (ho : o.op = .alloc T) (z : Value) (hz : ∀ w, (zeroValue T).run P w = .ok z w) (h : X (.pointer (some ⟨w.heap.size, 0, none⟩)) (w.alloc (.cells z.cells T))) : Does P o a w X := by
  refine does_run (v := .pointer (some ⟨w.heap.size, 0, none⟩)) (w' := w.alloc (.cells z.cells T)) ?_ h
  unfold execOp
  simp only [ho, Sem.run_bind, Sem.run_pure, run_alloc_zero hz, Result.andThen_ok]
theorem does_call {f : FuncId} {args : Array Value} (h : (execOp a.eval o).run P w = .ok (.enter f args) w) (hc : Calls P f args w fun e w'' => ∃ v, e = .returned v ∧ X v w'') : Does P o a w X := by
  unfold Does; rw [h]; exact hc
end
theorem rangeAt_whole {w : World} {b : Nat} {cs : List Value} {t : TypeId} {fr : Nat × Nat} (hb : w.heap[b]? = some (.cells cs.toArray t fr)) : w.rangeAt b 0 cs := fun j v hv => by
  rw [Nat.zero_add, cell_of_row w b j _ _ _ hb]; simpa using hv
end Go.Proofs.Ytfjklgbakhjjiaa

/-
  The body of a range over a function: its regions may be walked as anywhere else.
  Conditions: no defer among the operations; plain laws over any program.
-/
namespace Go.Proofs.Ytfjklgbakhjjiaa
open Go.RowKit

def noDefer (ops : Array Oper) : Bool := ops.all fun o => match o.op with | .defer _ => false | _ => true

section
variable {P : Program} {lp n : Nat} {Q : Exit → Act → World → Prop} {ops : Array Oper}

theorem operIn_of {o : Oper} {a : Act} {w : World} {K : Act → World → Prop} (hnd : ∀ c, o.op ≠ .defer c) (h : o.wp P a w K Q) : o.wpIn (Fence.wide.inRound lp) n P a w K Q := by
  refine ⟨fun _ _ => trivial, ?_⟩
  rw [Oper.semAt_eq _ _ _ hnd]
  unfold Oper.wp at h
  generalize (execOp a.eval o).run P w = r at *
  cases r with
  | ok x w' =>
    cases x <;> simp only [Oper.upon, Oper.uponIn] at h ⊢ <;> first
      | exact h
      | exact ⟨fun hd => by simp [Fence.wide] at hd, (callsIn_wide (n := n - 1)).2 h⟩
      | exact ⟨fun hd => by simp [Fence.wide] at hd, fun c cs _ => let ⟨v, w'', r, s⟩ := h c cs; ⟨v, w'', r, stepsIn_wide.2 s⟩⟩
      | exact h.elim
  | halt x w' => cases x <;> simp only [Oper.upon, Oper.uponIn] at h ⊢ <;> exact h

theorem wpOpsIn_of (hnd : noDefer ops = true) (hQ : ¬ LetsOut Q) : ∀ (l : List Nat) (a : Act) (w : World), wpOps P ops Q l a w → wpOpsIn (Fence.wide.inRound lp) n P ops Q l a w
  | [], _, _, h => h
  | i :: rest, a, w, h => by
    simp only [wpOps, wpOpsIn] at h ⊢
    cases ho : ops[i]? with
    | none => simp only [ho] at h; exact wpOpsIn_of hnd hQ rest a w h
    | some o =>
      simp only [ho] at h ⊢
      have hd : ∀ c, o.op ≠ .defer c := by
        intro c hc
        have := Array.all_eq_true'.1 hnd o (Array.mem_of_getElem? ho)
        rw [hc] at this
        cases this
      split
      · rename_i hw
        rw [if_pos hw] at h
        rcases h with h | h
        · exact operIn_of hd (Oper.wp_mono (fun a' w' h' => wpOpsIn_of hnd hQ rest a' w' h') h)
        · exact absurd h.2 hQ
      · rename_i hw
        rw [if_neg hw] at h
        exact ⟨fun _ _ => trivial, wpOpsIn_of hnd hQ rest _ w h⟩

theorem regionIn_plain {id : Nat} {a : Act} {w : World} {l : List Oper} (hnd : noDefer l.toArray = true) (hQ : ¬ LetsOut Q) (h : wpList P l.toArray Q l a w) :
    (Code.region id l.toArray false).wpIn (Fence.wide.inRound lp) n P Q a w := by
  refine wpIn_region (wpOpsIn_of hnd hQ _ _ _ ?_)
  rw [List.range_eq_range', ← Array.length_toList, wpOps_eq_wpList (ops := l.toArray) l.toArray.toList 0 (by simp)]
  exact h

theorem regionIn_any {id : Nat} {a : Act} {w : World} (hm : P.follows .mixedOrders = true) (hnd : noDefer ops = true) (hQ : ¬ LetsOut Q) (h : wpAny P .any ops Q ops.size (Array.replicate ops.size false) a { w with drawn := w.drawn + 1 }) :
    (Code.region id ops true).wpIn (Fence.wide.inRound lp) n P Q a w := by
  refine wpIn_region_draw fun t => ?_
  simp only [Region.schedule, hm, Bool.true_or, if_true]
  exact wpOpsIn_of hnd hQ _ _ _ (wpAny_sound ops.size t _ a _ h)
end
end Go.Proofs.Ytfjklgbakhjjiaa
