/-
  What comes in as an argument: a label by value, a slice of bytes.
  Conditions: none but what the given rows say.
-/
import Derived.Test.YtdlegbcdmlmbpaaLabEq
import Derived.Test.YtdlegbcdmlmbpaaRows
import Derived.ProofKit
import Derived.OpenShut
import Derived.ShutString
import Derived.ChangeOld
import Derived.Below
import Derived.Lib.SmallJoins
namespace Go.Proofs.Ytdlegbcdmlmbpaa
open Go.ChangeShapes Go.WideShapes Go.ChangeAt Go.RowKit
set_option maxRecDepth 100000

theorem own : ownKnob Try.prog.godebug = none := by kernel_rfl
theorem laidOut : laidOutB Try.prog = true := by kernel_rfl
theorem cellsU8 : Try.prog.cellsOf 5 = 1 := by kernel_rfl
theorem cellsInt : Try.prog.cellsOf 3 = 1 := by kernel_rfl
theorem cellsID : Try.prog.cellsOf 23 = 32 := by kernel_rfl
theorem cellsLab : Try.prog.cellsOf 25 = 37 := by kernel_rfl

section
variable {H : Type} {enc : TypeId × Value → H} {w : World} {base : Nat} {spare : Nat → Bool} {held : Bool} {fuel : Nat}

theorem byte_of_trod {cs : List Value} {x : DataW H × List MemPlace} (h : DataW.trod enc Try.prog w base spare held fuel 5 cs = some x) : ∃ b : UInt8, cs = [vb b] := by
  obtain ⟨a, e0, rfl, wa⟩ := DataW.trod_int Try.underlying5 h
  have hb := bounds_u8 wa
  refine ⟨UInt8.ofNat a.toNat, ?_⟩
  rw [e0]
  unfold vb
  simp
  omega
theorem id_of_trod {cs : List Value} {x : DataW H × List MemPlace} (h : DataW.trod enc Try.prog w base spare held fuel 23 cs = some x) : ∃ l : List UInt8, l.length = 32 ∧ cs = l.map vb := by
  obtain ⟨xs, m, -, -, hl, hx, he⟩ := DataW.trod_array Try.underlying23 h
  rw [cellsID] at hl
  have hb : ∀ i, i < 32 → ∃ b : UInt8, cs[i]? = some (vb b) := by
    intro i hi
    have h1 := he i hi
    rw [cellsU8, Nat.mul_one] at h1
    obtain ⟨y, hy⟩ : ∃ y, xs[i]? = some y := ⟨xs[i]'(by omega), List.getElem?_eq_getElem _⟩
    rw [hy] at h1
    obtain ⟨b, hb⟩ := byte_of_trod h1
    refine ⟨b, ?_⟩
    have : ((cs.drop i).take 1)[0]? = some (vb b) := by rw [hb]; rfl
    rw [List.getElem?_take, if_pos (by omega), List.getElem?_drop] at this
    simpa using this
  refine ⟨(List.range 32).map fun i => if h : i < 32 then (hb i h).choose else 0, by simp, ?_⟩
  apply List.ext_getElem?
  intro i
  by_cases hi : i < 32
  · rw [(hb i hi).choose_spec]
    simp [hi]
  · rw [List.getElem?_eq_none (by omega), List.getElem?_eq_none (by simp; omega)]
theorem int_of_trod {cs : List Value} {x : DataW H × List MemPlace} (h : DataW.trod enc Try.prog w base spare held fuel 3 cs = some x) : ∃ a : Int, cs = [.int .i64 a] := by
  obtain ⟨a, e0, -, -⟩ := DataW.trod_int Try.underlying3 h
  exact ⟨a, e0⟩
theorem lab_of_trod {cs : List Value} {x : DataW H × List MemPlace} (h : DataW.trod enc Try.prog w base spare held fuel 25 cs = some x) : ∃ L : Lab, L.pool.length = 32 ∧ cs = L.cells := by
  obtain ⟨xs, m, -, -, hl, hx, hf⟩ := DataW.trod_struct labUnder h
  rw [cellsLab] at hl
  have fld : ∀ (i : Nat) (n : String) (t : TypeId) (o : Nat), (Try.prog.fieldsOf 25).toList.map (fun f => (f.name, f.type, f.offset)) = [("Pool", 23, 0), ("Dev", 3, 32), ("Devs", 3, 33), ("Copies", 3, 34), ("Sectors", 3, 35), ("Life", 3, 36)] →
      ([("Pool", 23, 0), ("Dev", 3, 32), ("Devs", 3, 33), ("Copies", 3, 34), ("Sectors", 3, 35), ("Life", 3, 36)] : List (String × TypeId × Nat))[i]? = some (n, t, o) → ∃ y, DataW.trod enc Try.prog w base spare held m t ((cs.drop o).take (Try.prog.cellsOf t)) = some y := by
    intro i n t o h1 h2
    rw [← h1, List.getElem?_map] at h2
    obtain ⟨f, hf1, hf2⟩ := Option.map_eq_some_iff.1 h2
    have h3 := hf i f (by simpa using hf1)
    cases hf2
    have hi : i < xs.length := by
      have := (List.getElem?_eq_some_iff.1 hf1).1
      rw [hx]; simpa using this
    rw [List.getElem?_eq_getElem hi] at h3
    exact ⟨_, h3⟩
  have h0 := fld 0 _ _ _ labFields rfl
  have h1 := fld 1 _ _ _ labFields rfl
  have h2 := fld 2 _ _ _ labFields rfl
  have h3 := fld 3 _ _ _ labFields rfl
  have h4 := fld 4 _ _ _ labFields rfl
  have h5 := fld 5 _ _ _ labFields rfl
  obtain ⟨y0, h0⟩ := h0
  obtain ⟨y1, h1⟩ := h1
  obtain ⟨y2, h2⟩ := h2
  obtain ⟨y3, h3⟩ := h3
  obtain ⟨y4, h4⟩ := h4
  obtain ⟨y5, h5⟩ := h5
  rw [cellsID] at h0
  rw [cellsInt] at h1 h2 h3 h4 h5
  obtain ⟨l, hll, hl0⟩ := id_of_trod h0
  obtain ⟨a1, e1⟩ := int_of_trod h1
  obtain ⟨a2, e2⟩ := int_of_trod h2
  obtain ⟨a3, e3⟩ := int_of_trod h3
  obtain ⟨a4, e4⟩ := int_of_trod h4
  obtain ⟨a5, e5⟩ := int_of_trod h5
  refine ⟨⟨l, a1, a2, a3, a4, a5⟩, hll, ?_⟩
  show cs = l.map vb ++ ([.int .i64 a1, .int .i64 a2, .int .i64 a3, .int .i64 a4, .int .i64 a5] : List Value)
  have hd : ∀ o (a : Value), (cs.drop o).take 1 = [a] → cs[o]? = some a := by
    intro o a h
    have : ((cs.drop o).take 1)[0]? = some a := by rw [h]; rfl
    rw [List.getElem?_take, if_pos (by omega), List.getElem?_drop] at this
    simpa using this
  apply List.ext_getElem?
  intro i
  rcases Nat.lt_or_ge i 32 with hi | hi
  · rw [List.getElem?_append_left (by simpa [hll] using hi), ← hl0, List.drop_zero, List.getElem?_take, if_pos hi]
  · rw [List.getElem?_append_right (by simpa [hll] using hi), List.length_map, hll]
    have : i = 32 ∨ i = 33 ∨ i = 34 ∨ i = 35 ∨ i = 36 ∨ 37 ≤ i := by omega
    rcases this with rfl | rfl | rfl | rfl | rfl | hi
    · exact hd _ _ e1
    · exact hd _ _ e2
    · exact hd _ _ e3
    · exact hd _ _ e4
    · exact hd _ _ e5
    · rw [List.getElem?_eq_none (by omega), List.getElem?_eq_none (by simp; omega)]
end
end Go.Proofs.Ytdlegbcdmlmbpaa

/-
  What comes in as an argument: a slice of bytes.
  Conditions: none but what the given rows say.
-/
namespace Go.Proofs.Ytdlegbcdmlmbpaa
open Go.ChangeShapes Go.WideShapes Go.ChangeAt Go.RowKit
set_option maxRecDepth 100000

section
variable {H : Type} {enc : TypeId × Value → H} {w : World} {base : Nat} {spare : Nat → Bool} {held : Bool} {fuel : Nat}
theorem bytes_of_trod {a : Option Addr} {len cap : Nat} {x : DataW H × List MemPlace} (h : DataW.trod enc Try.prog w base spare held fuel 26 [.slice a len cap] = some x) :
    ∃ b : List UInt8, b.length = len ∧ Rd w 1 (.slice a len cap) len (b.map vb) := by
  rcases open_ints Try.underlying26 Try.underlying5 (by kernel_rfl) h with ⟨hcs, _⟩ | ⟨y, l, c, zs, hcs, _, hl, hm, hz, _, hcell, hwz⟩
  · cases hcs
    exact ⟨[], rfl, by simp, none, 0, rfl, Nat.le_refl _, by unfold maxLen; omega, fun _ => rfl, fun hp => by simp at hp⟩
  · cases hcs
    have hlz : len ≤ zs.length := by rw [hz]; split <;> omega
    have hmap : ((zs.take len).map fun n => UInt8.ofNat n.toNat).map vb = (zs.take len).map (Value.int .u8) := by
      rw [List.map_map]
      apply List.map_congr_left
      intro n hn
      have hb := bounds_u8 (hwz n (List.mem_of_mem_take hn))
      show vb (UInt8.ofNat n.toNat) = _
      unfold vb
      simp
      omega
    refine ⟨(zs.take len).map fun n => UInt8.ofNat n.toNat, by rw [List.length_map, List.length_take]; omega, by rw [hmap]; simp; omega, some y, cap, rfl, hl, hm, (by intro h; cases h), fun hp => ?_⟩
    rw [hmap] at hp ⊢
    simp only [List.length_map, List.length_take] at hp
    obtain ⟨g, o, rfl, hc⟩ := ints_at hcell (by omega)
    refine ⟨g, o, rfl, fun i u hu => ?_⟩
    rw [List.getElem?_map, List.getElem?_take] at hu
    split at hu
    · rename_i hi
      obtain ⟨n, hn, rfl⟩ := Option.map_eq_some_iff.1 hu
      have := hc i (by omega)
      rw [this, List.getD_eq_getElem?_getD, hn]; rfl
    · cases hu
end
end Go.Proofs.Ytdlegbcdmlmbpaa
