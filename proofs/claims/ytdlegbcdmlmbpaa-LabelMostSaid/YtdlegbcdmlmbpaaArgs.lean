/-
  What comes in as an argument: a label by value, a slice of bytes.
  Conditions: none but what the given rows say.
-/
import Derived.Test.YtdlegbcdmlmbpaaLabEq
import Derived.Test.YtdlegbcdmlmbpaaRows
import Derived.ProofKit
import Derived.OpenShut
import Derived.ShutString
import Derived.ChangeOld
import Derived.Below
import Derived.Lib.SmallJoins
import Derived.Deep.Slices
import Derived.Test.YtdlegbcdmlmbpaaPool1
namespace Go.Proofs.Ytdlegbcdmlmbpaa
open Go.ChangeShapes Go.WideShapes Go.ChangeAt Go.RowKit
set_option maxRecDepth 100000

theorem own : ownKnob Try.prog.godebug = none := by kernel_rfl
theorem laidOut : laidOutB Try.prog = true := by kernel_rfl
theorem cellsU8 : Try.prog.cellsOf 5 = 1 := by kernel_rfl
theorem cellsInt : Try.prog.cellsOf 3 = 1 := by kernel_rfl
theorem cellsID : Try.prog.cellsOf 23 = 32 := by kernel_rfl
theorem cellsLab : Try.prog.cellsOf 25 = 37 := by kernel_rfl

section
variable {H : Type} {enc : TypeId × Value → H} {w : World} {base : Nat} {spare : Nat → Bool} {held : Bool} {fuel : Nat}

theorem byte_of_trod {cs : List Value} {x : DataW H × List MemPlace} (h : DataW.trod enc Try.prog w base spare held fuel 5 cs = some x) : ∃ b : UInt8, cs = [vb b] := by
  obtain ⟨a, e0, rfl, wa⟩ := DataW.trod_int Try.underlying5 h
  have hb := bounds_u8 wa
  refine ⟨UInt8.ofNat a.toNat, ?_⟩
  rw [e0]
  unfold vb
  simp
  omega
theorem id_of_trod {cs : List Value} {x : DataW H × List MemPlace} (h : DataW.trod enc Try.prog w base spare held fuel 23 cs = some x) : ∃ l : List UInt8, l.length = 32 ∧ cs = l.map vb := by
  obtain ⟨xs, m, -, -, hl, hx, he⟩ := DataW.trod_array Try.underlying23 h
  rw [cellsID] at hl
  have hb : ∀ i, i < 32 → ∃ b : UInt8, cs[i]? = some (vb b) := by
    intro i hi
    have h1 := he i hi
    rw [cellsU8, Nat.mul_one] at h1
    obtain ⟨y, hy⟩ : ∃ y, xs[i]? = some y := ⟨xs[i]'(by omega), List.getElem?_eq_getElem _⟩
    rw [hy] at h1
    obtain ⟨b, hb⟩ := byte_of_trod h1
    refine ⟨b, ?_⟩
    have : ((cs.drop i).take 1)[0]? = some (vb b) := by rw [hb]; rfl
    rw [List.getElem?_take, if_pos (by omega), List.getElem?_drop] at this
    simpa using this
  refine ⟨(List.range 32).map fun i => if h : i < 32 then (hb i h).choose else 0, by simp, ?_⟩
  apply List.ext_getElem?
  intro i
  by_cases hi : i < 32
  · rw [(hb i hi).choose_spec]
    simp [hi]
  · rw [List.getElem?_eq_none (by omega), List.getElem?_eq_none (by simp; omega)]
theorem int_of_trod {cs : List Value} {x : DataW H × List MemPlace} (h : DataW.trod enc Try.prog w base spare held fuel 3 cs = some x) : ∃ a : Int, cs = [.int .i64 a] := by
  obtain ⟨a, e0, -, -⟩ := DataW.trod_int Try.underlying3 h
  exact ⟨a, e0⟩
theorem lab_of_trod {cs : List Value} {x : DataW H × List MemPlace} (h : DataW.trod enc Try.prog w base spare held fuel 25 cs = some x) : ∃ L : Lab, L.pool.length = 32 ∧ cs = L.cells := by
  obtain ⟨xs, m, -, -, hl, hx, hf⟩ := DataW.trod_struct labUnder h
  rw [cellsLab] at hl
  have fld : ∀ (i : Nat) (n : String) (t : TypeId) (o : Nat), (Try.prog.fieldsOf 25).toList.map (fun f => (f.name, f.type, f.offset)) = [("Pool", 23, 0), ("Dev", 3, 32), ("Devs", 3, 33), ("Copies", 3, 34), ("Sectors", 3, 35), ("Life", 3, 36)] →
      ([("Pool", 23, 0), ("Dev", 3, 32), ("Devs", 3, 33), ("Copies", 3, 34), ("Sectors", 3, 35), ("Life", 3, 36)] : List (String × TypeId × Nat))[i]? = some (n, t, o) → ∃ y, DataW.trod enc Try.prog w base spare held m t ((cs.drop o).take (Try.prog.cellsOf t)) = some y := by
    intro i n t o h1 h2
    rw [← h1, List.getElem?_map] at h2
    obtain ⟨f, hf1, hf2⟩ := Option.map_eq_some_iff.1 h2
    have h3 := hf i f (by simpa using hf1)
    cases hf2
    have hi : i < xs.length := by
      have := (List.getElem?_eq_some_iff.1 hf1).1
      rw [hx]; simpa using this
    rw [List.getElem?_eq_getElem hi] at h3
    exact ⟨_, h3⟩
  have h0 := fld 0 _ _ _ labFields rfl
  have h1 := fld 1 _ _ _ labFields rfl
  have h2 := fld 2 _ _ _ labFields rfl
  have h3 := fld 3 _ _ _ labFields rfl
  have h4 := fld 4 _ _ _ labFields rfl
  have h5 := fld 5 _ _ _ labFields rfl
  obtain ⟨y0, h0⟩ := h0
  obtain ⟨y1, h1⟩ := h1
  obtain ⟨y2, h2⟩ := h2
  obtain ⟨y3, h3⟩ := h3
  obtain ⟨y4, h4⟩ := h4
  obtain ⟨y5, h5⟩ := h5
  rw [cellsID] at h0
  rw [cellsInt] at h1 h2 h3 h4 h5
  obtain ⟨l, hll, hl0⟩ := id_of_trod h0
  obtain ⟨a1, e1⟩ := int_of_trod h1
  obtain ⟨a2, e2⟩ := int_of_trod h2
  obtain ⟨a3, e3⟩ := int_of_trod h3
  obtain ⟨a4, e4⟩ := int_of_trod h4
  obtain ⟨a5, e5⟩ := int_of_trod h5
  refine ⟨⟨l, a1, a2, a3, a4, a5⟩, hll, ?_⟩
  show cs = l.map vb ++ ([.int .i64 a1, .int .i64 a2, .int .i64 a3, .int .i64 a4, .int .i64 a5] : List Value)
  have hd : ∀ o (a : Value), (cs.drop o).take 1 = [a] → cs[o]? = some a := by
    intro o a h
    have : ((cs.drop o).take 1)[0]? = some a := by rw [h]; rfl
    rw [List.getElem?_take, if_pos (by omega), List.getElem?_drop] at this
    simpa using this
  apply List.ext_getElem?
  intro i
  rcases Nat.lt_or_ge i 32 with hi | hi
  · rw [List.getElem?_append_left (by simpa [hll] using hi), ← hl0, List.drop_zero, List.getElem?_take, if_pos hi]
  · rw [List.getElem?_append_right (by simpa [hll] using hi), List.length_map, hll]
    have : i = 32 ∨ i = 33 ∨ i = 34 ∨ i = 35 ∨ i = 36 ∨ 37 ≤ i := by omega
    rcases this with rfl | rfl | rfl | rfl | rfl | hi
    · exact hd _ _ e1
    · exact hd _ _ e2
    · exact hd _ _ e3
    · exact hd _ _ e4
    · exact hd _ _ e5
    · rw [List.getElem?_eq_none (by omega), List.getElem?_eq_none (by simp; omega)]
end
end Go.Proofs.Ytdlegbcdmlmbpaa

/-
  What comes in as an argument: a slice of bytes.
  Conditions: none but what the given rows say.
-/
namespace Go.Proofs.Ytdlegbcdmlmbpaa
open Go.ChangeShapes Go.WideShapes Go.ChangeAt Go.RowKit
set_option maxRecDepth 100000

section
variable {H : Type} {enc : TypeId × Value → H} {w : World} {base : Nat} {spare : Nat → Bool} {held : Bool} {fuel : Nat}
theorem bytes_of_trod {a : Option Addr} {len cap : Nat} {x : DataW H × List MemPlace} (h : DataW.trod enc Try.prog w base spare held fuel 26 [.slice a len cap] = some x) :
    ∃ b : List UInt8, b.length = len ∧ Rd w 1 (.slice a len cap) len (b.map vb) := by
  rcases open_ints Try.underlying26 Try.underlying5 (by kernel_rfl) h with ⟨hcs, _⟩ | ⟨y, l, c, zs, hcs, _, hl, hm, hz, _, hcell, hwz⟩
  · cases hcs
    exact ⟨[], rfl, by simp, none, 0, rfl, Nat.le_refl _, by unfold maxLen; omega, fun _ => rfl, fun hp => by simp at hp⟩
  · cases hcs
    have hlz : len ≤ zs.length := by rw [hz]; split <;> omega
    have hmap : ((zs.take len).map fun n => UInt8.ofNat n.toNat).map vb = (zs.take len).map (Value.int .u8) := by
      rw [List.map_map]
      apply List.map_congr_left
      intro n hn
      have hb := bounds_u8 (hwz n (List.mem_of_mem_take hn))
      show vb (UInt8.ofNat n.toNat) = _
      unfold vb
      simp
      omega
    refine ⟨(zs.take len).map fun n => UInt8.ofNat n.toNat, by rw [List.length_map, List.length_take]; omega, by rw [hmap]; simp; omega, some y, cap, rfl, hl, hm, (by intro h; cases h), fun hp => ?_⟩
    rw [hmap] at hp ⊢
    simp only [List.length_map, List.length_take] at hp
    obtain ⟨g, o, rfl, hc⟩ := ints_at hcell (by omega)
    refine ⟨g, o, rfl, fun i u hu => ?_⟩
    rw [List.getElem?_map, List.getElem?_take] at hu
    split at hu
    · rename_i hi
      obtain ⟨n, hn, rfl⟩ := Option.map_eq_some_iff.1 hu
      have := hc i (by omega)
      rw [this, List.getD_eq_getElem?_getD, hn]; rfl
    · cases hu
end
end Go.Proofs.Ytdlegbcdmlmbpaa

/-
  What comes in as an argument: a slice of structs or arrays, of labels.
  Conditions: none but what the given rows say.
-/
namespace Go.Proofs.Ytdlegbcdmlmbpaa
open Go.ChangeShapes Go.WideShapes Go.ChangeAt Go.RowKit
set_option maxRecDepth 100000
set_option linter.unusedVariables false

theorem addr_plain {w : World} {a : Addr} {v : Value} (h : w.cell? a = some v) : ∃ g o, a = ⟨g, o, none⟩ := by
  have hs := World.cell?_spot h
  obtain ⟨g, o, via⟩ := a
  cases via with
  | none => exact ⟨g, o, rfl⟩
  | some x => cases hs

theorem okWide_array {P : Program} {w : World} {r : Reach} {base : Nat} {t e : TypeId} {n : Nat} {v : Value} (ht : P.underlying t = some (.array n e)) (h : Value.okWide P w r base t v) : ∃ cs, v = .agg cs ∧ cs.size = P.cellsOf t := by
  simp only [Value.okWide, ht] at h
  obtain ⟨cs, h1, h2, _⟩ := h
  exact ⟨cs, h1, h2⟩

section
variable {H : Type} {enc : TypeId × Value → H} {w : World} {base : Nat} {spare : Nat → Bool} {held : Bool} {fuel : Nat}
theorem flatMap_get {α : Type} {f : α → List Value} {k : Nat} : ∀ {l : List α}, (∀ y ∈ l, (f y).length = k) → ∀ (i : Nat) {y : α}, l[i]? = some y → ∀ j, j < k → (l.flatMap f)[i * k + j]? = (f y)[j]?
  | [], _, i, y, h, _, _ => by simp at h
  | x :: l, hk, 0, y, h, j, hj => by
    simp only [List.getElem?_cons_zero, Option.some.injEq] at h
    subst h
    rw [List.flatMap_cons, Nat.zero_mul, Nat.zero_add, List.getElem?_append_left (by rw [hk x (by simp)]; exact hj)]
  | x :: l, hk, i + 1, y, h, j, hj => by
    have h1 := hk x (by simp)
    have ih := flatMap_get (l := l) (fun z hz => hk z (by simp [hz])) i (y := y) (by simpa using h) j hj
    rw [List.flatMap_cons, List.getElem?_append_right (by rw [h1, Nat.succ_mul]; omega), h1, Nat.succ_mul, show i * k + k + j - k = i * k + j by omega, ih]
theorem flatMap_len {α : Type} {f : α → List Value} {k : Nat} : ∀ {l : List α}, (∀ y ∈ l, (f y).length = k) → (l.flatMap f).length = l.length * k
  | [], _ => by simp
  | x :: l, h => by rw [List.flatMap_cons, List.length_append, h x (by simp), flatMap_len (l := l) fun y hy => h y (by simp [hy]), List.length_cons, Nat.succ_mul]; omega

theorem rows_of_trod {α : Type} {f : α → List Value} {ok : α → Prop} {t e : TypeId} {k : Nat} (ht : Try.prog.underlying t = some (.slice e)) (hc : Try.prog.cellsOf e = k) (h0 : 0 < k) (hf : ∀ y, ok y → (f y).length = k)
    (hel : ∀ (n : Nat) (cs : List Value) (x : DataW H × List MemPlace), DataW.trod enc Try.prog w base spare held n e cs = some x → ∃ y, ok y ∧ cs = f y)
    {a : Option Addr} {len cap : Nat} {x : DataW H × List MemPlace} (h : DataW.trod enc Try.prog w base spare held fuel t [.slice a len cap] = some x) :
    ∃ l : List α, l.length = len ∧ (∀ y ∈ l, ok y) ∧ Rd w k (.slice a len cap) len (l.flatMap f) := by
  rcases Go.Deep.open_slice ht h with ⟨hcs, _⟩ | ⟨y, ln, c, m, n, D, Pl, hcs, _, hl, hm, hmm, _, hx⟩
  · cases hcs
    exact ⟨[], rfl, (fun y hy => by cases hy), by simp, none, 0, rfl, Nat.le_refl _, by unfold maxLen; omega, fun _ => rfl, fun hp => by simp at hp⟩
  · cases hcs
    have hle : len ≤ m := by rw [hmm]; split <;> omega
    have hg : ∀ i, i < len → ∃ z : α, ok z ∧ ∀ j, j < k → w.cell? ((y.add (i * k)).add j) = (f z)[j]? := fun i hi => by
      obtain ⟨cs', h1, h2⟩ := hx i (by omega)
      rw [hc] at h1
      obtain ⟨z, hz, rfl⟩ := hel _ _ _ h2
      exact ⟨z, hz, (World.cells?_some h1).2.2⟩
    refine ⟨(List.range len).pmap (fun i hi => (hg i hi).choose) (fun i hi => List.mem_range.1 hi), by simp, ?_, ?_⟩
    · intro z hz
      obtain ⟨i, hi, rfl⟩ := List.mem_pmap.1 hz
      exact (hg i (List.mem_range.1 hi)).choose_spec.1
    · have hok : ∀ z ∈ (List.range len).pmap (fun i hi => (hg i hi).choose) (fun i hi => List.mem_range.1 hi), (f z).length = k := fun z hz => by
        obtain ⟨i, hi, rfl⟩ := List.mem_pmap.1 hz
        exact hf _ (hg i (List.mem_range.1 hi)).choose_spec.1
      refine ⟨by rw [flatMap_len hok]; simp, some y, cap, rfl, hl, hm, (by intro h; cases h), fun hp => ?_⟩
      have hlen : 0 < len := by
        rcases Nat.eq_zero_or_pos len with h | h
        · subst h; simp at hp
        · exact h
      obtain ⟨z0, hz0, hc0⟩ := hg 0 hlen
      have h00 := hc0 0 h0
      rw [List.getElem?_eq_getElem (by rw [hf z0 hz0]; exact h0)] at h00
      have h00' : w.cell? y = some ((f z0)[0]'(by rw [hf z0 hz0]; exact h0)) := by simpa [Addr.add] using h00
      obtain ⟨g, o, rfl⟩ := addr_plain h00'
      refine ⟨g, o, rfl, fun i u hu => ?_⟩
      have hi : i < len * k := by have := (List.getElem?_eq_some_iff.1 hu).1; rw [flatMap_len hok] at this; simpa using this
      have hd : i / k < len := (Nat.div_lt_iff_lt_mul h0).2 hi
      have hmd : i % k < k := Nat.mod_lt _ h0
      have he : i = i / k * k + i % k := by rw [Nat.mul_comm]; exact (Nat.div_add_mod i k).symm
      have hy : ((List.range len).pmap (fun i hi => (hg i hi).choose) (fun i hi => List.mem_range.1 hi))[i / k]? = some (hg (i / k) hd).choose := by
        rw [List.getElem?_pmap]
        simp [hd]
      have h1 := flatMap_get hok (i / k) hy (i % k) hmd
      rw [← he, hu] at h1
      have h2 := (hg (i / k) hd).choose_spec.2 (i % k) hmd
      rw [← h1, add_lit, add_lit, Nat.add_assoc, ← he] at h2
      exact h2
theorem labs_of_trod {a : Option Addr} {len cap : Nat} {x : DataW H × List MemPlace} (h : DataW.trod enc Try.prog w base spare held fuel 42 [.slice a len cap] = some x) :
    ∃ l : List Lab, l.length = len ∧ LabsOk l ∧ Rd w 37 (.slice a len cap) len (labCells l) :=
  rows_of_trod Try.underlying42 cellsLab (by decide) (fun y hy => y.cells_length hy) (fun n cs x hx => lab_of_trod hx) h
end
end Go.Proofs.Ytdlegbcdmlmbpaa
