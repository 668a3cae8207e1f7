/-
  append, and what was there stays.
  Conditions: none.
-/
import Derived.Test.YtaiicjhnhbkgmaaGreatDoorRingO
import Derived.ArgAppend
namespace Go.Proofs.YtaiicjhnhbkgmaaGreatDoor
open Go.RowKit Go.Maps Go.ChangeMaps
set_option maxRecDepth 100000
set_option linter.unusedVariables false

theorem spl_take (cur : Array Value) (off : Nat) (cs : List Value) (h : off + cs.length ≤ cur.size) : (spl cur off cs).toList.take (off + cs.length) = cur.toList.take off ++ cs := by
  rw [← spl_eq cur off cs h]
  show (cur.toList.take off ++ (cs ++ cur.toList.drop (off + cs.length))).take (off + cs.length) = _
  have hl : (cur.toList.take off).length = off := by rw [List.length_take, Array.length_toList]; omega
  rw [← List.append_assoc, List.take_append_of_le_length (by rw [List.length_append, hl]; exact Nat.le_refl _), List.take_of_length_le (by rw [List.length_append, hl]; exact Nat.le_refl _)]
/-- 'append(d, s...)': and what d told stays. -/
theorem wpList_append_keep {P : Program} {w : World} {ops : Array Oper} {rest : List Oper} {o : Oper} {a : Act} {Q : Exit → Act → World → Prop} (hgd : o.guard = none) (s x : Operand) (t : TypeId)
    (ho : o.op = .call { callee := .builtin .append, args := #[s, x], argTypes := #[t, t] })
    (base : Nat) (e : TypeId) (z : Value) (size bytes : Nat) (ht : P.underlying t = some (.slice e)) (hinf : (P.info? e).map (fun i => (i.zero, i.size, i.bytes)) = some (some z, size, bytes)) (hzs : z.cells.size = size) (hsz : 0 < size)
    (v : Value) (n : Nat) (xs : List Value) (hs : a.eval s = v) (hown : w.ownsRow base e size v n xs)
    (v2 : Value) (m : Nat) (news : List Value) (hx : a.eval x = v2) (hrd : Rd w size v2 m news) (h1 : ∀ u ∈ news, u.oneCell' = true)
    (h63 : n + m ≤ maxLen) (hbytes : (n + m) * bytes ≤ 140737488355328) (hbase : base ≤ w.heap.size)
    (h : ∀ v' w', w'.ownsRow base e size v' (n + m) (xs ++ news) → Keep (fun k => v.ownBlock = some k) w w' → Rd w' size v n xs → (v'.ownBlock = v.ownBlock ∨ ∀ j, v'.ownBlock = some j → w.heap.size ≤ j) → wpList P ops Q rest (a.put o.dst v') w') : wpList P ops Q (o :: rest) a w := by
  obtain ⟨i, hi, hz0, hz1, hz2⟩ := info_parts hinf
  have hrv := Rd.of_owns hown
  obtain ⟨hlen, ad, cap, rfl, h2, h3, h4, h5⟩ := hrd
  cases ad with
  | none =>
    have hc := h4 rfl
    have hl : m = 0 := by omega
    subst hl
    have hn : news = [] := List.eq_nil_of_length_eq_zero (by simpa using hlen)
    subst hn
    subst hc
    exact wpList_append_own_none hgd s x t ho base e i size ht hi v n xs hs hown hx (h v w (by simpa using hown) (Keep.refl _ _) hrv (.inl rfl))
  | some ad =>
    have hcells : ∀ j u, news[j]? = some u → w.cell? (ad.add j) = some u := by
      intro j u hu
      have hlen : 0 < news.length := by
        rcases Nat.eq_zero_or_pos news.length with h0 | h0
        · rw [List.eq_nil_of_length_eq_zero h0] at hu; simp at hu
        · exact h0
      obtain ⟨g, o', hh, hc⟩ := h5 hlen
      cases hh
      rw [add_lit]
      exact hc j u hu
    rcases hown.2 with ⟨rfl, rfl⟩ | ⟨g, capv, cur, rfl, hbg, hg, hnc, hcm, hcs, htake⟩
    · have hxn : xs = [] := List.eq_nil_of_length_eq_zero (by simpa using hown.1)
      subst hxn
      refine wpList_append_own_at (w := w) hgd s x t ho base e i z size bytes ht hi hz0 hz1 hz2 hzs hsz _ 0 [] hs hown ad m cap news hx hlen hcells h1 h63 hbytes hbase ?_
      intro v' w' g1 g2 g3 g4
      exact h v' w' g1 (Keep.of_grown g2) (Rd.nil _ _) (g4.imp id fun e j hj => by rw [e] at hj; cases hj; exact Nat.le_refl _)
    · have hxl : xs.length = n * size := hown.1
      have hcc : ∀ j, w.cell? ⟨g, j, none⟩ = cur[j]? := fun j => cell_of_row w g j cur e (0, 0) hg
      refine wpList_append_arg w hgd s x t ho e i z size bytes ht hi hz0 hz1 hz2 hzs hsz g 0 n capv xs hs hxl (fun j u hj => ?_) ad m cap news hx hlen hcells h1 (fun hr j hj => ?_) h63 hbytes (fun hr => ?_) (fun hr v' w' g1 g2 => ?_)
      · rw [Nat.zero_add, hcc, ← Array.getElem?_toList]
        rw [← htake, List.getElem?_take] at hj
        split at hj
        · exact hj
        · cases hj
      · have hb : n * size + m * size ≤ capv * size := by rw [← Nat.add_mul]; exact Nat.mul_le_mul_right _ hr
        refine ⟨?_, frozen_of_row w g _ _ _ hg⟩
        rw [hcc, Array.getElem?_eq_getElem (by omega)]; rfl
      · have hb : n * size + m * size ≤ capv * size := by rw [← Nat.add_mul]; exact Nat.mul_le_mul_right _ hr
        have hfit : 0 + n * size + news.length ≤ cur.size := by omega
        have hb2 := setCells_blk news (0 + n * size) w cur hg
        have kk : Keep (fun k => k = g) w (w.setCells g (0 + n * size) news) := Keep.setCells (S := fun k => k = g) (fun _ => rfl) _ _ _ (Keep.refl _ _)
        have htk : (spl cur (0 + n * size) news).toList.take ((n + m) * size) = xs ++ news := by
          have h9 := spl_take cur (0 + n * size) news hfit
          rw [show (n + m) * size = 0 + n * size + news.length by rw [Nat.add_mul, hlen]; omega, h9, Nat.zero_add, htake]
        have hown2 : (w.setCells g (0 + n * size) news).ownsRow base e size (.slice (some ⟨g, 0, none⟩) (n + m) capv) (n + m) (xs ++ news) :=
          ⟨by rw [List.length_append, hxl, hlen, Nat.add_mul], .inr ⟨g, capv, _, rfl, hbg, hb2, hr, hcm, by rw [spl_size]; exact hcs, htk⟩⟩
        refine h _ _ hown2 (kk.mono fun k _ e => by rw [e]; rfl) ⟨hxl, _, _, rfl, hnc, hcm, (by intro h; cases h), fun hp => ⟨g, 0, rfl, fun j u hj => ?_⟩⟩ (.inl rfl)
        show (w.setCells g (0 + n * size) news).cell? ⟨g, 0 + j, none⟩ = some u
        rw [Nat.zero_add j]
        refine blk_cell hb2 ?_
        rw [← Array.getElem?_toList]
        have h8 : ((spl cur (0 + n * size) news).toList.take ((n + m) * size))[j]? = some u := by
          rw [htk, List.getElem?_append_left (List.getElem?_eq_some_iff.1 hj).1]; exact hj
        rw [List.getElem?_take] at h8
        split at h8
        · exact h8
        · cases h8
      · have kk : Keep noBlk w w' := (Keep.of_grown g2).mono fun k _ h => by cases h
        exact h v' w' (ownsRow_mono g1 hbase) kk.any (hrv.keep kk fun _ _ => id) (.inr fun j hj => owns_base g1 hj)

end Go.Proofs.YtaiicjhnhbkgmaaGreatDoor
