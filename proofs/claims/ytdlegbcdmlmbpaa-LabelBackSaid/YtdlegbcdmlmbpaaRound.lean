/-
  The body of a range over a function: its regions may be walked as anywhere else.
  Conditions: no defer among the operations; plain laws over any program.
-/
import Derived.Test.YtdlegbcdmlmbpaaRegion
import Derived.RangeFuncBox
import Derived.RangeFuncCalls
import Derived.OrdersIn
namespace Go.Proofs.Ytdlegbcdmlmbpaa
open Go.RowKit

def noDefer (ops : Array Oper) : Bool := ops.all fun o => match o.op with | .defer _ => false | _ => true

section
variable {P : Program} {lp n : Nat} {Q : Exit → Act → World → Prop} {ops : Array Oper}

theorem operIn_of {o : Oper} {a : Act} {w : World} {K : Act → World → Prop} (hnd : ∀ c, o.op ≠ .defer c) (h : o.wp P a w K Q) : o.wpIn (Fence.wide.inRound lp) n P a w K Q := by
  refine ⟨fun _ _ => trivial, ?_⟩
  rw [Oper.semAt_eq _ _ _ hnd]
  unfold Oper.wp at h
  generalize (execOp a.eval o).run P w = r at *
  cases r with
  | ok x w' =>
    cases x <;> simp only [Oper.upon, Oper.uponIn] at h ⊢ <;> first
      | exact h
      | exact ⟨fun hd => by simp [Fence.wide] at hd, (callsIn_wide (n := n - 1)).2 h⟩
      | exact ⟨fun hd => by simp [Fence.wide] at hd, fun c cs _ => let ⟨v, w'', r, s⟩ := h c cs; ⟨v, w'', r, stepsIn_wide.2 s⟩⟩
      | exact h.elim
  | halt x w' => cases x <;> simp only [Oper.upon, Oper.uponIn] at h ⊢ <;> exact h

theorem wpOpsIn_of (hnd : noDefer ops = true) (hQ : ¬ LetsOut Q) : ∀ (l : List Nat) (a : Act) (w : World), wpOps P ops Q l a w → wpOpsIn (Fence.wide.inRound lp) n P ops Q l a w
  | [], _, _, h => h
  | i :: rest, a, w, h => by
    simp only [wpOps, wpOpsIn] at h ⊢
    cases ho : ops[i]? with
    | none => simp only [ho] at h; exact wpOpsIn_of hnd hQ rest a w h
    | some o =>
      simp only [ho] at h ⊢
      have hd : ∀ c, o.op ≠ .defer c := by
        intro c hc
        have := Array.all_eq_true'.1 hnd o (Array.mem_of_getElem? ho)
        rw [hc] at this
        cases this
      split
      · rename_i hw
        rw [if_pos hw] at h
        rcases h with h | h
        · exact operIn_of hd (Oper.wp_mono (fun a' w' h' => wpOpsIn_of hnd hQ rest a' w' h') h)
        · exact absurd h.2 hQ
      · rename_i hw
        rw [if_neg hw] at h
        exact ⟨fun _ _ => trivial, wpOpsIn_of hnd hQ rest _ w h⟩

theorem regionIn_plain {id : Nat} {a : Act} {w : World} {l : List Oper} (hnd : noDefer l.toArray = true) (hQ : ¬ LetsOut Q) (h : wpList P l.toArray Q l a w) :
    (Code.region id l.toArray false).wpIn (Fence.wide.inRound lp) n P Q a w := by
  refine wpIn_region (wpOpsIn_of hnd hQ _ _ _ ?_)
  rw [List.range_eq_range', ← Array.length_toList, wpOps_eq_wpList (ops := l.toArray) l.toArray.toList 0 (by simp)]
  exact h

theorem regionIn_any {id : Nat} {a : Act} {w : World} (hm : P.follows .mixedOrders = true) (hnd : noDefer ops = true) (hQ : ¬ LetsOut Q) (h : wpAny P .any ops Q ops.size (Array.replicate ops.size false) a { w with drawn := w.drawn + 1 }) :
    (Code.region id ops true).wpIn (Fence.wide.inRound lp) n P Q a w := by
  refine wpIn_region_draw fun t => ?_
  simp only [Region.schedule, hm, Bool.true_or, if_true]
  exact wpOpsIn_of hnd hQ _ _ _ (wpAny_sound ops.size t _ a _ h)
end
end Go.Proofs.Ytdlegbcdmlmbpaa
