/-
  The built-in copy into a block that is known whole, from whatever reads.
  Conditions: none; plain laws over any program.
-/
import Derived.Test.YtfjklgbakhjjiaaBase
import Derived.Test.YtfjklgbakhjjiaaLate
namespace Go.Proofs.Ytfjklgbakhjjiaa
open Go.RowKit

theorem sizeU8 : (Try.prog.info? 5).map (·.size) = some 1 := by kernel_rfl
theorem spl_eq (cur : Array Value) (off : Nat) (cs : List Value) (h : off + cs.length ≤ cur.size) : (cur.toList.take off ++ (cs ++ cur.toList.drop (off + cs.length))).toArray = spl cur off cs := by
  apply Array.ext_getElem?
  intro j
  rw [spl_get _ _ _ _ h, List.getElem?_toArray, List.getElem?_append, List.getElem?_append]
  have hl : (cur.toList.take off).length = off := by simp; omega
  rw [hl]
  by_cases h1 : j < off
  · rw [if_pos h1, if_neg (by omega), List.getElem?_take, if_pos h1]; simp
  · rw [if_neg h1]
    by_cases h2 : j - off < cs.length
    · rw [if_pos h2, if_pos (by omega)]
    · rw [if_neg h2, if_neg (by omega), List.getElem?_drop, show off + cs.length + (j - off - cs.length) = j by omega]; simp

theorem wpList_copy_rd {P : Program} {w : World} {ops : Array Oper} {rest : List Oper} {o : Oper} {a : Act} {Q : Exit → Act → World → Prop} (hgd : o.guard = none) (d s : Operand) (dT sT : TypeId)
    (ho : o.op = .call { callee := .builtin .copy, args := #[d, s], argTypes := #[dT, sT] }) (elem : TypeId) (hu : P.underlying dT = some (.slice elem)) (hsz : (P.info? elem).map (·.size) = some 1)
    (g off dLen dCap : Nat) (hd : a.eval d = .slice (some ⟨g, off, none⟩) dLen dCap) (v2 : Value) (m : Nat) (news : List Value) (hs : a.eval s = v2) (hrd : Rd w 1 v2 m news) (k : Nat) (hk : k = Nat.min m dLen)
    (cur : Array Value) (t : TypeId) (hg : w.heap[g]? = some (.cells cur t (0, 0))) (hfit : off + k ≤ cur.size) (h1 : ∀ u ∈ news, u.oneCell' = true)
    (h : ∀ w', w'.heap[g]? = some (.cells (spl cur off (news.take k)) t (0, 0)) → Keep (fun i => i = g) w w' → wpList P ops Q rest (a.put o.dst (goInt k)) w') : wpList P ops Q (o :: rest) a w := by
  obtain ⟨hlen, ad, cap, rfl, h2, h3, h4, h5⟩ := hrd
  rcases Nat.eq_zero_or_pos k with h0 | h0
  · refine wpList_copy_nothing hgd d s dT sT ho elem hu hsz _ ad dLen dCap m cap hd hs (by omega) ?_
    have := h w (by rw [h0]; simpa [spl] using hg) (Keep.refl _ _)
    rwa [h0] at this
  · have hkm : k ≤ m := by rw [hk]; exact Nat.min_le_left _ _
    have hnl : (news.take k).length = k := by rw [List.length_take]; omega
    obtain ⟨g2, o2, rfl, hc⟩ := h5 (by omega)
    refine wpList_copy_own hgd d s dT sT ho elem hu hsz g off dLen dCap ⟨g2, o2, none⟩ m cap hd hs cur t hg (news.take k) (by rw [hnl, hk]) ?_ (by rw [hnl]; exact hfit) (fun v hv => h1 v (List.mem_of_mem_take hv)) ?_
    · intro j v hj
      rw [add_lit]
      rw [List.getElem?_take] at hj
      split at hj
      · exact hc j v hj
      · cases hj
    · rw [spl_eq cur off _ (by rw [hnl]; exact hfit), hnl]
      exact h _ (setRow_heap w g _ _ t _ hg) ⟨rfl, rfl, rfl, by simp [World.setRow], fun i _ hi => setRow_other w g i _ hi⟩

/-- In a region whose order is drawn: one operation alone may come up. -/
theorem wpAny_one {P : Program} {ops : Array Oper} {Q : Exit → Act → World → Prop} {md : Region.Mode} {k : Nat} {o : Oper} {fuel : Nat} {listed : Array Bool} {a : Act} {w : World} (ho : ops[k]? = some o) (hr : Region.ready md ops listed = [k])
    (h : wpList P ops (Exit.then (fun a' w' => wpAny P md ops Q fuel (listed.setIfInBounds k true) a' w') Q) [o] a w) : wpAny P md ops Q (fuel + 1) listed a w :=
  ⟨fun h1 => (by rw [hr] at h1; cases h1), fun j hj => by
    rw [hr] at hj
    obtain rfl : j = k := by simpa using hj
    exact wpOp_of_list ho h⟩

/-- A guarded operation whose guard says yes. -/
theorem wpList_wanted {P : Program} {ops : Array Oper} {Q : Exit → Act → World → Prop} {a : Act} {w : World} {rest : List Oper} {o : Oper} (hw : Region.wanted o (yielded ops a.tmps) = true)
    (h : ∀ K : Act → World → Prop, (∀ a w, wpList P ops Q rest a w → K a w) → o.wp P a w K Q) : wpList P ops Q (o :: rest) a w :=
  wpList_step fun K hK => by rw [if_pos hw]; exact h K hK
theorem wpList_load_g {P : Program} {ops : Array Oper} {rest : List Oper} {op : Oper} {a : Act} {w : World} {Q : Exit → Act → World → Prop} (hw : Region.wanted op (yielded ops a.tmps) = true) (ty : TypeId) (x : Operand) (ho : op.op = .load ty x)
    (b o : Nat) (hx : a.eval x = .pointer (some ⟨b, o, none⟩)) (cs : List Value) (d : TypeDesc) (hc : w.rangeAt b o cs)
    (hu : P.underlying ty = some d) (hd : d.isRow = true) (hi : (P.info? ty).map (·.size) = some cs.length)
    (h : wpList P ops Q rest (a.put op.dst (.agg cs.toArray)) w) : wpList P ops Q (op :: rest) a w :=
  wpList_wanted hw fun _ hK => wp_load_mid ty x ho b o hx cs d hc hu hd hi (hK _ _ h)
end Go.Proofs.Ytfjklgbakhjjiaa

/-
  Moves by hand through a region whose order is drawn, S holding all along.
  Conditions: none; plain laws over any program.
-/
namespace Go.Proofs.Ytfjklgbakhjjiaa
open Go.RowKit

theorem wpAnyH_one {P : Program} {ops : Array Oper} {Q : Exit → Act → World → Prop} {md : Region.Mode} {S : World → Prop} {k : Nat} {o : Oper} {fuel : Nat} {listed : Array Bool} {a : Act} {w : World} (ho : ops[k]? = some o) (hr : Region.ready md ops listed = [k])
    (h : wpList P ops (Exit.then (fun a' w' => S w' ∧ wpAnyH P md ops Q S fuel (listed.setIfInBounds k true) a' w') Q) [o] a w) : wpAnyH P md ops Q S (fuel + 1) listed a w :=
  ⟨fun h1 => (by rw [hr] at h1; cases h1), fun j hj => by
    rw [hr] at hj
    obtain rfl : j = k := by simpa using hj
    exact wpOp_of_list ho h⟩
theorem wpAnyH_two {P : Program} {ops : Array Oper} {Q : Exit → Act → World → Prop} {md : Region.Mode} {S : World → Prop} {k l : Nat} {o o' : Oper} {fuel : Nat} {listed : Array Bool} {a : Act} {w : World} (ho : ops[k]? = some o) (ho' : ops[l]? = some o') (hr : Region.ready md ops listed = [k, l])
    (h : wpList P ops (Exit.then (fun a' w' => S w' ∧ wpAnyH P md ops Q S fuel (listed.setIfInBounds k true) a' w') Q) [o] a w)
    (h' : wpList P ops (Exit.then (fun a' w' => S w' ∧ wpAnyH P md ops Q S fuel (listed.setIfInBounds l true) a' w') Q) [o'] a w) : wpAnyH P md ops Q S (fuel + 1) listed a w :=
  ⟨fun h1 => (by rw [hr] at h1; cases h1), fun j hj => by
    rw [hr] at hj
    have : j = k ∨ j = l := by simpa using hj
    rcases this with rfl | rfl
    · exact wpOp_of_list ho h
    · exact wpOp_of_list ho' h'⟩
end Go.Proofs.Ytfjklgbakhjjiaa
