/-
  Keys that are IDs.
  Conditions: none.
-/
import Derived.Test.YtdlegbcdmlmbpaaMap
import Derived.Test.YtdlegbcdmlmbpaaLabEq
namespace Go.Proofs.Ytdlegbcdmlmbpaa
open Go.RowKit Go.Maps Go.ChangeMaps
set_option maxRecDepth 100000

def idV (l : List UInt8) : Value := .agg (l.map vb).toArray
def IdOk (l : List UInt8) : Prop := l.length = 32

theorem vb_one' {x y : UInt8} (h : vb x = vb y) : x = y := by
  unfold vb at h
  injection h with _ h4
  exact UInt8.toNat_inj.1 (by omega)
theorem vb_list_inj {a b : List UInt8} (h : a.map vb = b.map vb) : a = b := by
  induction a generalizing b with
  | nil => cases b with
    | nil => rfl
    | cons y b => simp at h
  | cons x a ih => cases b with
    | nil => simp at h
    | cons y b =>
      rw [List.map_cons, List.map_cons] at h
      injection h with h1 h2
      rw [vb_one' h1, ih h2]
theorem mapM_some {α β : Type} {f : α → Option β} : ∀ {l : List α}, (∀ x ∈ l, ∃ y, f x = some y) → ∃ ys, l.mapM f = some ys
  | [], _ => ⟨[], rfl⟩
  | x :: l, h => by
    obtain ⟨y, hy⟩ := h x (by simp)
    obtain ⟨ys, hys⟩ := mapM_some (l := l) fun z hz => h z (by simp [hz])
    exact ⟨y :: ys, by simp [List.mapM_cons, hy, hys]⟩
theorem keyLits_vb (d : Nat) (b : UInt8) : Try.prog.keyLits (d + 1) 5 [vb b] = some [.int .u8 b.toNat] := by
  have hw : (Lit.int .u8 (b.toNat : Int)).wf = true := Go.WalkArith.wf_u8 (by have := b.toNat_lt; omega)
  simp [Program.keyLits, Try.underlying5, vb, hw]
theorem idLaidOut : laidOutB Try.prog = true := by kernel_rfl
theorem idKeyed : Keyed Try.prog 23 := Keyed.of_law (deep_law_gate idLaidOut (of_decide_eq_true (by kernel_rfl)) (of_decide_eq_true (by kernel_rfl)) (by kernel_rfl) (by rw [Try.underlying23]))
theorem idKey (l : List UInt8) (h : IdOk l) : ∃ x, keyOf Try.prog 23 (idV l) = some x := by
  have h1 : Try.prog.keyType 23 = true := by kernel_rfl
  have h2 : (idV l).formed Try.prog 23 = true := by
    have hc : Try.prog.cellsOf 23 = 32 := by kernel_rfl
    have h' : l.length = 32 := h
    simp [Value.formed, idV, Try.underlying23, hc, h']
  have h3 : ∃ ys, Try.prog.keyLits (Try.prog.types.size + 1) 23 (idV l).cells.toList = some ys := by
    have hc : Try.prog.cellsOf 23 = 32 := by kernel_rfl
    have hu : Try.prog.cellsOf 5 = 1 := by kernel_rfl
    obtain ⟨d, hd⟩ : ∃ d, Try.prog.types.size = d + 1 := ⟨Try.prog.types.size - 1, by have : 0 < Try.prog.types.size := of_decide_eq_true (by kernel_rfl); omega⟩
    rw [hd]
    have hl : (idV l).cells.toList = l.map vb := by simp [idV, Value.cells]
    rw [hl]
    unfold Program.keyLits
    rw [Try.underlying23]
    simp only [hc, hu, List.length_map]
    rw [if_pos (show l.length = 32 from h)]
    obtain ⟨ys, hys⟩ := mapM_some (f := fun i => Try.prog.keyLits (d + 1) 5 (((l.map vb).drop (i * 1)).take 1)) (l := List.range 32) (fun i hi => by
      rw [List.mem_range] at hi
      have : ((l.map vb).drop (i * 1)).take 1 = [vb (l[i]'(by rw [h]; exact hi))] := by
        rw [Nat.mul_one]
        rw [List.drop_eq_getElem_cons (by rw [List.length_map, show l.length = 32 from h]; exact hi)]
        simp
      rw [this]
      exact ⟨_, keyLits_vb d _⟩)
    exact ⟨ys.flatten, by rw [hys]; rfl⟩
  obtain ⟨ys, hys⟩ := h3
  refine ⟨.string (keyBytes ys), ?_⟩
  unfold keyOf
  rw [Try.underlying23]
  simp only [h1, h2, Bool.and_self, if_true]
  rw [hys]; rfl
theorem idEnc : KeyEnc Try.prog 23 IdOk idV where
  law := idKeyed
  key := idKey
  inj a c _ _ h := by
    unfold idV at h
    injection h with h1
    have h2 : a.map vb = c.map vb := congrArg Array.toList h1
    exact vb_list_inj h2
end Go.Proofs.Ytdlegbcdmlmbpaa
