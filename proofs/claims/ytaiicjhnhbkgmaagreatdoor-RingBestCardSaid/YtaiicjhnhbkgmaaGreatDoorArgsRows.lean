/-
  What comes in as an argument: a slice of rows.
  Conditions: none but what the given rows say.
-/
import Derived.Test.YtaiicjhnhbkgmaaGreatDoorGen
import Derived.Test.YtaiicjhnhbkgmaaGreatDoorRows
import Derived.ProofKit
import Derived.OpenShut
import Derived.ShutString
import Derived.ChangeOld
import Derived.Below
import Derived.Lib.SmallJoins
import Derived.Deep.Slices
import Derived.Test.YtaiicjhnhbkgmaaGreatDoorUbsL
namespace Go.Proofs.YtaiicjhnhbkgmaaGreatDoor
open Go.ChangeShapes Go.WideShapes Go.ChangeAt Go.RowKit
set_option maxRecDepth 100000
set_option linter.unusedVariables false

theorem addr_plain {w : World} {a : Addr} {v : Value} (h : w.cell? a = some v) : ∃ g o, a = ⟨g, o, none⟩ := by
  have hs := World.cell?_spot h
  obtain ⟨g, o, via⟩ := a
  cases via with
  | none => exact ⟨g, o, rfl⟩
  | some x => cases hs

theorem okWide_array {P : Program} {w : World} {r : Reach} {base : Nat} {t e : TypeId} {n : Nat} {v : Value} (ht : P.underlying t = some (.array n e)) (h : Value.okWide P w r base t v) : ∃ cs, v = .agg cs ∧ cs.size = P.cellsOf t := by
  simp only [Value.okWide, ht] at h
  obtain ⟨cs, h1, h2, _⟩ := h
  exact ⟨cs, h1, h2⟩

section
variable {H : Type} {enc : TypeId × Value → H} {w : World} {base : Nat} {spare : Nat → Bool} {held : Bool} {fuel : Nat}
theorem flatMap_get {α : Type} {f : α → List Value} {k : Nat} : ∀ {l : List α}, (∀ y ∈ l, (f y).length = k) → ∀ (i : Nat) {y : α}, l[i]? = some y → ∀ j, j < k → (l.flatMap f)[i * k + j]? = (f y)[j]?
  | [], _, i, y, h, _, _ => by simp at h
  | x :: l, hk, 0, y, h, j, hj => by
    simp only [List.getElem?_cons_zero, Option.some.injEq] at h
    subst h
    rw [List.flatMap_cons, Nat.zero_mul, Nat.zero_add, List.getElem?_append_left (by rw [hk x (by simp)]; exact hj)]
  | x :: l, hk, i + 1, y, h, j, hj => by
    have h1 := hk x (by simp)
    have ih := flatMap_get (l := l) (fun z hz => hk z (by simp [hz])) i (y := y) (by simpa using h) j hj
    rw [List.flatMap_cons, List.getElem?_append_right (by rw [h1, Nat.succ_mul]; omega), h1, Nat.succ_mul, show i * k + k + j - k = i * k + j by omega, ih]
theorem flatMap_len {α : Type} {f : α → List Value} {k : Nat} : ∀ {l : List α}, (∀ y ∈ l, (f y).length = k) → (l.flatMap f).length = l.length * k
  | [], _ => by simp
  | x :: l, h => by rw [List.flatMap_cons, List.length_append, h x (by simp), flatMap_len (l := l) fun y hy => h y (by simp [hy]), List.length_cons, Nat.succ_mul]; omega

theorem rows_of_trod {α : Type} {f : α → List Value} {ok : α → Prop} {t e : TypeId} {k : Nat} (ht : Tryz.prog.underlying t = some (.slice e)) (hc : Tryz.prog.cellsOf e = k) (h0 : 0 < k) (hf : ∀ y, ok y → (f y).length = k)
    (hel : ∀ (n : Nat) (cs : List Value) (x : DataW H × List MemPlace), DataW.trod enc Tryz.prog w base spare held n e cs = some x → ∃ y, ok y ∧ cs = f y)
    {a : Option Addr} {len cap : Nat} {x : DataW H × List MemPlace} (h : DataW.trod enc Tryz.prog w base spare held fuel t [.slice a len cap] = some x) :
    ∃ l : List α, l.length = len ∧ (∀ y ∈ l, ok y) ∧ Rd w k (.slice a len cap) len (l.flatMap f) := by
  rcases Go.Deep.open_slice ht h with ⟨hcs, _⟩ | ⟨y, ln, c, m, n, D, Pl, hcs, _, hl, hm, hmm, _, hx⟩
  · cases hcs
    exact ⟨[], rfl, (fun y hy => by cases hy), by simp, none, 0, rfl, Nat.le_refl _, by unfold maxLen; omega, fun _ => rfl, fun hp => by simp at hp⟩
  · cases hcs
    have hle : len ≤ m := by rw [hmm]; split <;> omega
    have hg : ∀ i, i < len → ∃ z : α, ok z ∧ ∀ j, j < k → w.cell? ((y.add (i * k)).add j) = (f z)[j]? := fun i hi => by
      obtain ⟨cs', h1, h2⟩ := hx i (by omega)
      rw [hc] at h1
      obtain ⟨z, hz, rfl⟩ := hel _ _ _ h2
      exact ⟨z, hz, (World.cells?_some h1).2.2⟩
    refine ⟨(List.range len).pmap (fun i hi => (hg i hi).choose) (fun i hi => List.mem_range.1 hi), by simp, ?_, ?_⟩
    · intro z hz
      obtain ⟨i, hi, rfl⟩ := List.mem_pmap.1 hz
      exact (hg i (List.mem_range.1 hi)).choose_spec.1
    · have hok : ∀ z ∈ (List.range len).pmap (fun i hi => (hg i hi).choose) (fun i hi => List.mem_range.1 hi), (f z).length = k := fun z hz => by
        obtain ⟨i, hi, rfl⟩ := List.mem_pmap.1 hz
        exact hf _ (hg i (List.mem_range.1 hi)).choose_spec.1
      refine ⟨by rw [flatMap_len hok]; simp, some y, cap, rfl, hl, hm, (by intro h; cases h), fun hp => ?_⟩
      have hlen : 0 < len := by
        rcases Nat.eq_zero_or_pos len with h | h
        · subst h; simp at hp
        · exact h
      obtain ⟨z0, hz0, hc0⟩ := hg 0 hlen
      have h00 := hc0 0 h0
      rw [List.getElem?_eq_getElem (by rw [hf z0 hz0]; exact h0)] at h00
      have h00' : w.cell? y = some ((f z0)[0]'(by rw [hf z0 hz0]; exact h0)) := by simpa [Addr.add] using h00
      obtain ⟨g, o, rfl⟩ := addr_plain h00'
      refine ⟨g, o, rfl, fun i u hu => ?_⟩
      have hi : i < len * k := by have := (List.getElem?_eq_some_iff.1 hu).1; rw [flatMap_len hok] at this; simpa using this
      have hd : i / k < len := (Nat.div_lt_iff_lt_mul h0).2 hi
      have hmd : i % k < k := Nat.mod_lt _ h0
      have he : i = i / k * k + i % k := by rw [Nat.mul_comm]; exact (Nat.div_add_mod i k).symm
      have hy : ((List.range len).pmap (fun i hi => (hg i hi).choose) (fun i hi => List.mem_range.1 hi))[i / k]? = some (hg (i / k) hd).choose := by
        rw [List.getElem?_pmap]
        simp [hd]
      have h1 := flatMap_get hok (i / k) hy (i % k) hmd
      rw [← he, hu] at h1
      have h2 := (hg (i / k) hd).choose_spec.2 (i % k) hmd
      rw [← h1, add_lit, add_lit, Nat.add_assoc, ← he] at h2
      exact h2
end
end Go.Proofs.YtaiicjhnhbkgmaaGreatDoor

/-
  What comes in as an argument: an uberblock by value, rows of uberblocks, a slice of bytes, numbers, bools.
  Conditions: none but what the given rows say.
-/
namespace Go.Proofs.YtaiicjhnhbkgmaaGreatDoor
open Go.ChangeShapes Go.WideShapes Go.ChangeAt Go.RowKit
set_option maxRecDepth 100000
set_option linter.unusedVariables false

theorem own : ownKnob Tryz.prog.godebug = none := by kernel_rfl
theorem laidOut : laidOutB Tryz.prog = true := by kernel_rfl
theorem cellsU8 : Tryz.prog.cellsOf 5 = 1 := by kernel_rfl
theorem cellsInt : Tryz.prog.cellsOf 3 = 1 := by kernel_rfl
theorem cellsID : Tryz.prog.cellsOf 32 = 32 := by kernel_rfl
theorem cellsAd : Tryz.prog.cellsOf 70 = 2 := by kernel_rfl
theorem cellsSA : Tryz.prog.cellsOf 30 = 1 := by kernel_rfl
theorem cellsPt : Tryz.prog.cellsOf 34 = 35 := by kernel_rfl
theorem cellsUb : Tryz.prog.cellsOf 36 = 69 := by kernel_rfl
theorem ptFields : (Tryz.prog.fieldsOf 34).toList.map (fun f => (f.name, f.type, f.offset)) = [("Addrs", 30, 0), ("Birth", 3, 1), ("Level", 3, 2), ("Sum", 32, 3)] := by kernel_rfl
theorem ubFields : (Tryz.prog.fieldsOf 36).toList.map (fun f => (f.name, f.type, f.offset)) = [("Txg", 3, 0), ("Root", 34, 1), ("Len", 3, 36), ("Pool", 32, 37)] := by kernel_rfl

section
variable {H : Type} {enc : TypeId × Value → H} {w : World} {base : Nat} {spare : Nat → Bool} {held : Bool} {fuel : Nat}
theorem byte_of_trod {cs : List Value} {x : DataW H × List MemPlace} (h : DataW.trod enc Tryz.prog w base spare held fuel 5 cs = some x) : ∃ b : UInt8, cs = [vb b] := by
  obtain ⟨a, e0, rfl, wa⟩ := DataW.trod_int Tryz.underlying5 h
  have hb := bounds_u8 wa
  refine ⟨UInt8.ofNat a.toNat, ?_⟩
  rw [e0]
  unfold vb
  simp
  omega
theorem id_of_trod {cs : List Value} {x : DataW H × List MemPlace} (h : DataW.trod enc Tryz.prog w base spare held fuel 32 cs = some x) : ∃ l : List UInt8, l.length = 32 ∧ cs = l.map vb := by
  obtain ⟨xs, m, -, -, hl, hx, he⟩ := DataW.trod_array Tryz.underlying32 h
  rw [cellsID] at hl
  have hb : ∀ i, i < 32 → ∃ b : UInt8, cs[i]? = some (vb b) := by
    intro i hi
    have h1 := he i hi
    rw [cellsU8, Nat.mul_one] at h1
    obtain ⟨y, hy⟩ : ∃ y, xs[i]? = some y := ⟨xs[i]'(by omega), List.getElem?_eq_getElem _⟩
    rw [hy] at h1
    obtain ⟨b, hb⟩ := byte_of_trod h1
    refine ⟨b, ?_⟩
    have : ((cs.drop i).take 1)[0]? = some (vb b) := by rw [hb]; rfl
    rw [List.getElem?_take, if_pos (by omega), List.getElem?_drop] at this
    simpa using this
  refine ⟨(List.range 32).map fun i => if h : i < 32 then (hb i h).choose else 0, by simp, ?_⟩
  apply List.ext_getElem?
  intro i
  by_cases hi : i < 32
  · rw [(hb i hi).choose_spec]
    simp [hi]
  · rw [List.getElem?_eq_none (by omega), List.getElem?_eq_none (by simp; omega)]
theorem int_of_trod {cs : List Value} {x : DataW H × List MemPlace} (h : DataW.trod enc Tryz.prog w base spare held fuel 3 cs = some x) : ∃ a : Int, In64 a ∧ cs = [.int .i64 a] := by
  obtain ⟨a, e0, -, wa⟩ := DataW.trod_int Tryz.underlying3 h
  exact ⟨a, bounds_i64 wa, e0⟩
theorem ad_of_trod {cs : List Value} {x : DataW H × List MemPlace} (h : DataW.trod enc Tryz.prog w base spare held fuel 70 cs = some x) : ∃ a : Ad, AdOk a ∧ cs = adCs a := by
  obtain ⟨xs, m, -, -, hl, hx, hf⟩ := DataW.trod_struct adUnder h
  rw [cellsAd] at hl
  have fld : ∀ (i : Nat) (n : String) (t : TypeId) (o : Nat), (Tryz.prog.fieldsOf 70).toList.map (fun f => (f.name, f.type, f.offset)) = [("Dev", 3, 0), ("At", 3, 1)] →
      ([("Dev", 3, 0), ("At", 3, 1)] : List (String × TypeId × Nat))[i]? = some (n, t, o) → ∃ y, DataW.trod enc Tryz.prog w base spare held m t ((cs.drop o).take (Tryz.prog.cellsOf t)) = some y := by
    intro i n t o h1 h2
    rw [← h1, List.getElem?_map] at h2
    obtain ⟨f, hf1, hf2⟩ := Option.map_eq_some_iff.1 h2
    have h3 := hf i f (by simpa using hf1)
    cases hf2
    have hi : i < xs.length := by
      have := (List.getElem?_eq_some_iff.1 hf1).1
      rw [hx]; simpa using this
    rw [List.getElem?_eq_getElem hi] at h3
    exact ⟨_, h3⟩
  obtain ⟨_, h0⟩ := fld 0 _ _ _ adFields rfl
  obtain ⟨_, h1⟩ := fld 1 _ _ _ adFields rfl
  obtain ⟨a, oa, ea⟩ := int_of_trod h0
  obtain ⟨b, ob, eb⟩ := int_of_trod h1
  rw [cellsInt] at ea eb
  refine ⟨⟨a, b⟩, ⟨oa, ob⟩, ?_⟩
  obtain ⟨p, q, rfl⟩ : ∃ p q, cs = [p, q] := by
    match cs, hl with
    | [p, q], _ => exact ⟨p, q, rfl⟩
  simp at ea eb
  rw [ea, eb]; rfl
theorem ads_of_trod {a : Option Addr} {len cap : Nat} {x : DataW H × List MemPlace} (h : DataW.trod enc Tryz.prog w base spare held fuel 30 [.slice a len cap] = some x) :
    ∃ l : List Ad, l.length = len ∧ AdsOk l ∧ Rd w 2 (.slice a len cap) len (adCells l) :=
  rows_of_trod (f := adCs) Tryz.underlying30 cellsAd (by decide) (fun y hy => rfl) (fun n cs x hx => ad_of_trod hx) h
theorem sla_of_trod {cs : List Value} {x : DataW H × List MemPlace} (h : DataW.trod enc Tryz.prog w base spare held fuel 30 cs = some x) : ∃ v l, cs = [v] ∧ AdsOk l ∧ Rd w 2 v (List.length l) (adCells l) := by
  rcases Go.Deep.open_slice Tryz.underlying30 h with ⟨hcs, _⟩ | ⟨y, ln, c, m, n', D, Pl, hcs, _⟩
  · exact ⟨_, [], hcs, fun x hx => (by cases hx), Rd.nil _ _⟩
  · subst hcs
    obtain ⟨l, hl, ho, hr⟩ := ads_of_trod h
    exact ⟨_, l, rfl, ho, by rw [hl]; exact hr⟩
theorem cut_one {cs : List Value} {o : Nat} {a : Value} (h : (cs.drop o).take 1 = [a]) : cs[o]? = some a := by
  have : ((cs.drop o).take 1)[0]? = some a := by rw [h]; rfl
  rw [List.getElem?_take, if_pos (by omega), List.getElem?_drop] at this
  simpa using this
theorem cut_many {cs l : List Value} {o k i : Nat} (h : (cs.drop o).take k = l) (hi : i < k) : cs[o + i]? = l[i]? := by
  rw [← h, List.getElem?_take, if_pos hi, List.getElem?_drop]
theorem pt_of_trod {cs : List Value} {x : DataW H × List MemPlace} (h : DataW.trod enc Tryz.prog w base spare held fuel 34 cs = some x) : ∃ v p, cs = ptCs v p ∧ PtV w v p := by
  obtain ⟨xs, m, -, -, hl, hx, hf⟩ := DataW.trod_struct ptUnder h
  rw [cellsPt] at hl
  have fld : ∀ (i : Nat) (n : String) (t : TypeId) (o : Nat), (Tryz.prog.fieldsOf 34).toList.map (fun f => (f.name, f.type, f.offset)) = [("Addrs", 30, 0), ("Birth", 3, 1), ("Level", 3, 2), ("Sum", 32, 3)] →
      ([("Addrs", 30, 0), ("Birth", 3, 1), ("Level", 3, 2), ("Sum", 32, 3)] : List (String × TypeId × Nat))[i]? = some (n, t, o) → ∃ y, DataW.trod enc Tryz.prog w base spare held m t ((cs.drop o).take (Tryz.prog.cellsOf t)) = some y := by
    intro i n t o h1 h2
    rw [← h1, List.getElem?_map] at h2
    obtain ⟨f, hf1, hf2⟩ := Option.map_eq_some_iff.1 h2
    have h3 := hf i f (by simpa using hf1)
    cases hf2
    have hi : i < xs.length := by
      have := (List.getElem?_eq_some_iff.1 hf1).1
      rw [hx]; simpa using this
    rw [List.getElem?_eq_getElem hi] at h3
    exact ⟨_, h3⟩
  obtain ⟨_, h0⟩ := fld 0 _ _ _ ptFields rfl
  obtain ⟨_, h1⟩ := fld 1 _ _ _ ptFields rfl
  obtain ⟨_, h2⟩ := fld 2 _ _ _ ptFields rfl
  obtain ⟨_, h3⟩ := fld 3 _ _ _ ptFields rfl
  obtain ⟨v, l, ev, lo, rv⟩ := sla_of_trod h0
  obtain ⟨a, oa, ea⟩ := int_of_trod h1
  obtain ⟨b, ob, eb⟩ := int_of_trod h2
  obtain ⟨s, hs, es⟩ := id_of_trod h3
  rw [cellsSA] at ev
  rw [cellsInt] at ea eb
  rw [cellsID] at es
  refine ⟨v, ⟨l, a, b, s⟩, ?_, ⟨rv, lo, hs⟩⟩
  apply List.ext_getElem?
  intro i
  show cs[i]? = (v :: .int .i64 a :: .int .i64 b :: s.map vb)[i]?
  have hc : i = 0 ∨ i = 1 ∨ i = 2 ∨ (3 ≤ i ∧ i < 35) ∨ 35 ≤ i := by omega
  rcases hc with rfl | rfl | rfl | ⟨h3', h35⟩ | h35
  · exact cut_one ev
  · exact cut_one ea
  · exact cut_one eb
  · obtain ⟨j, rfl⟩ : ∃ j, i = 3 + j := ⟨i - 3, by omega⟩
    rw [cut_many es (by omega), show 3 + j = j + 1 + 1 + 1 by omega, List.getElem?_cons_succ, List.getElem?_cons_succ, List.getElem?_cons_succ]
  · rw [List.getElem?_eq_none (by omega), List.getElem?_eq_none (by simp [hs]; omega)]
theorem ub_of_trod {cs : List Value} {x : DataW H × List MemPlace} (h : DataW.trod enc Tryz.prog w base spare held fuel 36 cs = some x) : ∃ v u, cs = ubCs v u ∧ UbV w v u := by
  obtain ⟨xs, m, -, -, hl, hx, hf⟩ := DataW.trod_struct ubUnder h
  rw [cellsUb] at hl
  have fld : ∀ (i : Nat) (n : String) (t : TypeId) (o : Nat), (Tryz.prog.fieldsOf 36).toList.map (fun f => (f.name, f.type, f.offset)) = [("Txg", 3, 0), ("Root", 34, 1), ("Len", 3, 36), ("Pool", 32, 37)] →
      ([("Txg", 3, 0), ("Root", 34, 1), ("Len", 3, 36), ("Pool", 32, 37)] : List (String × TypeId × Nat))[i]? = some (n, t, o) → ∃ y, DataW.trod enc Tryz.prog w base spare held m t ((cs.drop o).take (Tryz.prog.cellsOf t)) = some y := by
    intro i n t o h1 h2
    rw [← h1, List.getElem?_map] at h2
    obtain ⟨f, hf1, hf2⟩ := Option.map_eq_some_iff.1 h2
    have h3 := hf i f (by simpa using hf1)
    cases hf2
    have hi : i < xs.length := by
      have := (List.getElem?_eq_some_iff.1 hf1).1
      rw [hx]; simpa using this
    rw [List.getElem?_eq_getElem hi] at h3
    exact ⟨_, h3⟩
  obtain ⟨_, h0⟩ := fld 0 _ _ _ ubFields rfl
  obtain ⟨_, h1⟩ := fld 1 _ _ _ ubFields rfl
  obtain ⟨_, h2⟩ := fld 2 _ _ _ ubFields rfl
  obtain ⟨_, h3⟩ := fld 3 _ _ _ ubFields rfl
  obtain ⟨a, oa, ea⟩ := int_of_trod h0
  obtain ⟨v, p, ep, hp⟩ := pt_of_trod h1
  obtain ⟨b, ob, eb⟩ := int_of_trod h2
  obtain ⟨s, hs, es⟩ := id_of_trod h3
  rw [cellsPt] at ep
  rw [cellsInt] at ea eb
  rw [cellsID] at es
  refine ⟨v, ⟨a, p, b, s⟩, ?_, ⟨hp, hs⟩⟩
  have lp := ptCs_len (v := v) hp.sum
  apply List.ext_getElem?
  intro i
  show cs[i]? = (.int .i64 a :: (ptCs v p ++ (.int .i64 b :: s.map vb)))[i]?
  have hc : i = 0 ∨ (1 ≤ i ∧ i < 36) ∨ i = 36 ∨ (37 ≤ i ∧ i < 69) ∨ 69 ≤ i := by omega
  rcases hc with rfl | ⟨h1', h36⟩ | rfl | ⟨h37, h69⟩ | h69
  · exact cut_one ea
  · obtain ⟨j, rfl⟩ : ∃ j, i = 1 + j := ⟨i - 1, by omega⟩
    rw [cut_many ep (by omega), Nat.add_comm 1 j, List.getElem?_cons_succ, List.getElem?_append_left (by rw [lp]; omega)]
  · rw [List.getElem?_cons_succ, List.getElem?_append_right (by rw [lp]; omega), lp]
    exact cut_one eb
  · obtain ⟨j, rfl⟩ : ∃ j, i = 37 + j := ⟨i - 37, by omega⟩
    rw [cut_many es (by omega), show 37 + j = (36 + j) + 1 by omega, List.getElem?_cons_succ, List.getElem?_append_right (by rw [lp]; omega), lp, show 36 + j - 35 = j + 1 by omega, List.getElem?_cons_succ]
  · rw [List.getElem?_eq_none (by omega), List.getElem?_eq_none (by simp [lp, hs]; omega)]
theorem ubs_of_trod {a : Option Addr} {len cap : Nat} {x : DataW H × List MemPlace} (h : DataW.trod enc Tryz.prog w base spare held fuel 22 [.slice a len cap] = some x) :
    ∃ l : List (Value × Ub), l.length = len ∧ UbsV w l ∧ Rd w 69 (.slice a len cap) len (ubRow l) :=
  rows_of_trod (f := fun p : Value × Ub => ubCs p.1 p.2) (ok := fun p => UbV w p.1 p.2) Tryz.underlying22 cellsUb (by decide) (fun y hy => ubCs_len hy.root.sum hy.pool)
    (fun n cs x hx => by obtain ⟨v, u, e, hv⟩ := ub_of_trod hx; exact ⟨(v, u), hv, e⟩) h
theorem bytes_of_trod {a : Option Addr} {len cap : Nat} {x : DataW H × List MemPlace} (h : DataW.trod enc Tryz.prog w base spare held fuel 51 [.slice a len cap] = some x) :
    ∃ b : List UInt8, b.length = len ∧ Rd w 1 (.slice a len cap) len (b.map vb) := by
  rcases open_ints Tryz.underlying51 Tryz.underlying5 (by kernel_rfl) h with ⟨hcs, _⟩ | ⟨y, l, c, zs, hcs, _, hl, hm, hz, _, hcell, hwz⟩
  · cases hcs
    exact ⟨[], rfl, by simp, none, 0, rfl, Nat.le_refl _, by unfold maxLen; omega, fun _ => rfl, fun hp => by simp at hp⟩
  · cases hcs
    have hlz : len ≤ zs.length := by rw [hz]; split <;> omega
    have hmap : ((zs.take len).map fun n => UInt8.ofNat n.toNat).map vb = (zs.take len).map (Value.int .u8) := by
      rw [List.map_map]
      apply List.map_congr_left
      intro n hn
      have hb := bounds_u8 (hwz n (List.mem_of_mem_take hn))
      show vb (UInt8.ofNat n.toNat) = _
      unfold vb
      simp
      omega
    refine ⟨(zs.take len).map fun n => UInt8.ofNat n.toNat, by rw [List.length_map, List.length_take]; omega, by rw [hmap]; simp; omega, some y, cap, rfl, hl, hm, (by intro h; cases h), fun hp => ?_⟩
    rw [hmap] at hp ⊢
    simp only [List.length_map, List.length_take] at hp
    obtain ⟨g, o, rfl, hc⟩ := ints_at hcell (by omega)
    refine ⟨g, o, rfl, fun i u hu => ?_⟩
    rw [List.getElem?_map, List.getElem?_take] at hu
    split at hu
    · rename_i hi
      obtain ⟨n, hn, rfl⟩ := Option.map_eq_some_iff.1 hu
      have := hc i (by omega)
      rw [this, List.getD_eq_getElem?_getD, hn]; rfl
    · cases hu
end
end Go.Proofs.YtaiicjhnhbkgmaaGreatDoor
