/-
  Rows of uberblocks in memory: their cells, one of them, what each one's addresses are.
  Conditions: those told.
-/
import Derived.Test.YtaiicjhnhbkgmaaGreatDoorPtrL
import Derived.Test.YtaiicjhnhbkgmaaGreatDoorGen
namespace Go.Proofs.YtaiicjhnhbkgmaaGreatDoor
open Go.RowKit Go.Maps Go.ChangeMaps
set_option maxRecDepth 100000
set_option linter.unusedVariables false

theorem flatIn_len {α : Type} {f : α → List Value} {k : Nat} : ∀ {l : List α}, (∀ y ∈ l, (f y).length = k) → (l.flatMap f).length = l.length * k
  | [], _ => by simp
  | x :: l, h => by
    rw [List.flatMap_cons, List.length_append, h x (by simp), flatIn_len (fun y hy => h y (by simp [hy])), List.length_cons, Nat.succ_mul]
    omega
theorem flatIn_get {α : Type} {f : α → List Value} {k : Nat} : ∀ {l : List α}, (∀ y ∈ l, (f y).length = k) → ∀ {i : Nat} {y : α}, l[i]? = some y → ∀ {j : Nat}, j < k → (l.flatMap f)[i * k + j]? = (f y)[j]?
  | [], _, i, y, hi, _, _ => by simp at hi
  | x :: l, h, 0, y, hi, j, hj => by
    simp only [List.getElem?_cons_zero, Option.some.injEq] at hi
    subst hi
    rw [List.flatMap_cons, Nat.zero_mul, Nat.zero_add, List.getElem?_append_left (by rw [h x (by simp)]; exact hj)]
  | x :: l, h, i + 1, y, hi, j, hj => by
    rw [List.getElem?_cons_succ] at hi
    rw [List.flatMap_cons, Nat.succ_mul, List.getElem?_append_right (by rw [h x (by simp)]; omega), h x (by simp), show i * k + k + j - k = i * k + j by omega]
    exact flatIn_get (fun y hy => h y (by simp [hy])) hi hj

/-- The cells of a row of uberblocks, each with the value of its slice of addresses. -/
def ubRow (ps : List (Value × Ub)) : List Value := ps.flatMap fun p => ubCs p.1 p.2
def UbLens (ps : List (Value × Ub)) : Prop := ∀ p ∈ ps, p.2.root.sum.length = 32 ∧ p.2.pool.length = 32
def UbsV (w : World) (ps : List (Value × Ub)) : Prop := ∀ p ∈ ps, UbV w p.1 p.2
theorem UbsV.lens {w : World} {ps : List (Value × Ub)} (h : UbsV w ps) : UbLens ps := fun p hp => ⟨(h p hp).root.sum, (h p hp).pool⟩
theorem UbsV.keep {w w' : World} {ps : List (Value × Ub)} (h : UbsV w ps) (k : Keep noBlk w w') : UbsV w' ps := fun p hp => (h p hp).keep k fun _ _ => id
theorem ubRow_len {ps : List (Value × Ub)} (h : UbLens ps) : (ubRow ps).length = ps.length * 69 := flatIn_len fun p hp => ubCs_len (h p hp).1 (h p hp).2
theorem ubRow_at {ps : List (Value × Ub)} (h : UbLens ps) {k : Nat} {p : Value × Ub} (hk : ps[k]? = some p) {j : Nat} (hj : j < 69) : (ubRow ps)[k * 69 + j]? = (ubCs p.1 p.2)[j]? :=
  flatIn_get (fun p hp => ubCs_len (h p hp).1 (h p hp).2) hk hj
theorem rd_ub {w : World} {v : Value} {ps : List (Value × Ub)} (hl : UbLens ps) (h : Rd w 69 v ps.length (ubRow ps)) {k : Nat} {p : Value × Ub} (hk : ps[k]? = some p) :
    ∃ g o cap, v = .slice (some ⟨g, o, none⟩) ps.length cap ∧ w.rangeAt g (o + k * 69) (ubCs p.1 p.2) := by
  obtain ⟨h0, a, cap, rfl, h1, h2, h3, h4⟩ := h
  have hlt := (List.getElem?_eq_some_iff.1 hk).1
  obtain ⟨g, o, rfl, hc⟩ := h4 (by rw [ubRow_len hl]; omega)
  refine ⟨g, o, cap, rfl, fun j u hj => ?_⟩
  have hj2 : j < 69 := by have := (List.getElem?_eq_some_iff.1 hj).1; rwa [ubCs_len (hl p (List.mem_of_getElem? hk)).1 (hl p (List.mem_of_getElem? hk)).2] at this
  have := hc (k * 69 + j) u (by rw [ubRow_at hl hk hj2]; exact hj)
  rwa [← Nat.add_assoc] at this
theorem ubRow_append (a b : List (Value × Ub)) : ubRow (a ++ b) = ubRow a ++ ubRow b := by simp [ubRow]
theorem ubRow_one (p : Value × Ub) : ubRow [p] = ubCs p.1 p.2 := by simp [ubRow]
theorem infoUb : (Tryz.prog.info? 36).map (fun i => (i.zero, i.size, i.bytes)) = some (some (.agg (ubCs (.slice none 0 0) ⟨0, ⟨[], 0, 0, zeros32⟩, 0, zeros32⟩).toArray), 69, 120) := by kernel_rfl
/-- Uberblocks of which each owns its addresses. -/
def UbsO (w : World) (B : Nat) (qs : List (Value × Ub)) : Prop := ∀ q ∈ qs, q.2.pool.length = 32 ∧ q.2.root.sum.length = 32 ∧ AdsOk q.2.root.addrs ∧ w.ownsRow B 70 2 q.1 q.2.root.addrs.length (adCells q.2.root.addrs)
theorem UbsO.V {w : World} {B : Nat} {qs : List (Value × Ub)} (h : UbsO w B qs) : UbsV w qs := fun q hq =>
  let ⟨h1, h2, h3, h4⟩ := h q hq
  ⟨⟨Rd.of_owns h4, h3, h2⟩, h1⟩
theorem UbsO.keep {w w' : World} {B : Nat} {qs : List (Value × Ub)} (h : UbsO w B qs) (k : Keep noBlk w w') : UbsO w' B qs := fun q hq =>
  let ⟨h1, h2, h3, h4⟩ := h q hq
  ⟨h1, h2, h3, k.owns h4 fun _ _ => id⟩
theorem owns_apartU {w : World} {b b' e e' s s' n m : Nat} {u v : Value} {xs ys : List Value} (h : w.ownsRow b e s u n xs) (h' : w.ownsRow b' e' s' v m ys) (hne : e ≠ e') {k : Nat} (hu : u.ownBlock = some k) : v.ownBlock ≠ some k := by
  intro hv
  rcases h.2 with ⟨rfl, -⟩ | ⟨g, cap, cur, rfl, -, hg, -⟩
  · cases hu
  · rcases h'.2 with ⟨rfl, -⟩ | ⟨g', cap', cur', rfl, -, hg', -⟩
    · cases hv
    · cases hu
      cases hv
      rw [hg] at hg'
      cases hg'
      exact hne rfl
/-- Behind what turns one block that is no row of addresses of theirs. -/
theorem UbsO.far {w w' : World} {B : Nat} {S : Nat → Prop} {qs : List (Value × Ub)} (h : UbsO w B qs) (k : Keep S w w') (hS : ∀ q ∈ qs, ∀ i, q.1.ownBlock = some i → ¬ S i) : UbsO w' B qs := fun q hq =>
  let ⟨h1, h2, h3, h4⟩ := h q hq
  ⟨h1, h2, h3, k.owns h4 (hS q hq)⟩
theorem UbsO.grow {w w' : World} {B : Nat} {qs : List (Value × Ub)} (h : UbsO w B qs) {b n : Nat} {v : Value} {ys : List Value} (ho : w.ownsRow b 36 69 v n ys) (k : Keep (fun j => v.ownBlock = some j) w w') : UbsO w' B qs :=
  h.far k fun q hq i hi => owns_apartU (h q hq).2.2.2 ho (by decide) hi
theorem UbsO.snoc {w : World} {B : Nat} {qs : List (Value × Ub)} (h : UbsO w B qs) {v : Value} {u : Ub} (h1 : u.pool.length = 32) (h2 : u.root.sum.length = 32) (h3 : AdsOk u.root.addrs)
    (h4 : w.ownsRow B 70 2 v u.root.addrs.length (adCells u.root.addrs)) : UbsO w B (qs ++ [(v, u)]) := fun q hq => by
  rcases List.mem_append.1 hq with hq | hq
  · exact h q hq
  · obtain rfl : q = (v, u) := by simpa using hq
    exact ⟨h1, h2, h3, h4⟩
/-- The root of an uberblock's cells, stored anew. -/
theorem ubCs_rootS (v v' : Value) (u : Ub) (hs : u.root.sum.length = 32) : spl (ubCs v u).toArray 1 (ptCs v' u.root) = (ubCs v' u).toArray := by
  apply Array.ext_getElem?
  intro j
  have l1 : (ptCs v' u.root).length = 35 := ptCs_len hs
  rw [spl_get _ _ _ _ (by rw [l1]; simp [ubCs, ptCs_len hs]), l1]
  have e : ∀ x, (ubCs x u).toArray[j]? = (Value.int .i64 u.txg :: (ptCs x u.root ++ (.int .i64 u.len :: u.pool.map vb)))[j]? := fun x => by rw [List.getElem?_toArray]; rfl
  rw [e v, e v']
  by_cases h : 1 ≤ j ∧ j < 1 + 35
  · rw [if_pos h]
    obtain ⟨i, rfl⟩ : ∃ i, j = i + 1 := ⟨j - 1, by omega⟩
    rw [List.getElem?_cons_succ, List.getElem?_append_left (by rw [l1]; omega), Nat.add_sub_cancel]
  · rw [if_neg h]
    cases j with
    | zero => rfl
    | succ i =>
      rw [List.getElem?_cons_succ, List.getElem?_cons_succ, List.getElem?_append_right (by rw [ptCs_len hs]; omega), List.getElem?_append_right (by rw [l1]; omega), ptCs_len hs, l1]
end Go.Proofs.YtaiicjhnhbkgmaaGreatDoor
