/-
  The chapter's uberblock (one).
  Conditions: none.
-/
import Derived.Test.YtaiicjhnhbkgmaaGreatDoorUnpackU
import Derived.Test.YtaiicjhnhbkgmaaGreatDoorUbP
import Derived.Test.YtaiicjhnhbkgmaaGreatDoorPtrN
import Derived.Test.YtaiicjhnhbkgmaaGreatDoorPtrC
import Derived.Test.YtaiicjhnhbkgmaaGreatDoorBytes
namespace Go.Proofs.YtaiicjhnhbkgmaaGreatDoor
open Go.RowKit
set_option maxRecDepth 100000
set_option linter.unusedVariables false

def oneUb : Ub := ⟨258, zPt, 300, zeros32⟩
theorem oneUb_may : oneUb.may = true := by decide
theorem buildOneUb (w : World) : (Instr.build 36 #[(0, .int .i64 258), (2, .int .i64 300)]).run Tryz.prog w = .ok (.agg (ubCs (.slice none 0 0) oneUb).toArray) w := by kernel_rfl
theorem ubV_one (w : World) : UbV w (.slice none 0 0) oneUb := ⟨⟨Rd.of_owns (World.ownsRow_nil w 0 70 2), (fun x hx => by cases hx), rfl⟩, rfl⟩
end Go.Proofs.YtaiicjhnhbkgmaaGreatDoor

/-
  Uberblocks that were read; some of the chapter's examples (awake)
  Conditions: none.
-/
namespace Go.Proofs.YtaiicjhnhbkgmaaGreatDoor
open Go.RowKit Go.Maps Go.ChangeMaps
set_option maxRecDepth 100000
set_option linter.unusedVariables false

theorem unpackU_lens (b : List UInt8) : (unpackU b).1.root.sum.length = 32 ∧ (unpackU b).1.pool.length = 32 ∧ AdsOk (unpackU b).1.root.addrs := by
  by_cases h : (unpackU b).2 = 0
  · obtain ⟨hl, he, -, -⟩ := unpackU_ok h
    rw [he]
    exact ⟨ubOf_sum hl, ubOf_pool hl, adsOf_ok _ _⟩
  · rw [unpackU_no h]
    exact ⟨rfl, rfl, fun x hx => by cases hx⟩
theorem unpackU_len (b : List UInt8) : (unpackU b).1.root.addrs.length ≤ 3 := by
  by_cases h : (unpackU b).2 = 0
  · obtain ⟨hl, he, -, -⟩ := unpackU_ok h
    rw [he]
    exact adsOf_len _ _
  · rw [unpackU_no h]
    exact Nat.zero_le _
/-- What Unpack tells, told by its parts. -/
theorem UUnpackPost.V {w w' : World} {b : List UInt8} {e : Ending} (h : UUnpackPost w (unpackU b) e w') : ∃ v, e = .returned (.tuple #[.agg (ubCs v (unpackU b).1).toArray, .int .i64 (unpackU b).2]) ∧ UbV w' v (unpackU b).1 ∧
    w'.ownsRow w.heap.size 70 2 v (unpackU b).1.root.addrs.length (adCells (unpackU b).1.root.addrs) ∧ Keep noBlk w w' := by
  obtain ⟨v, he, ho, hk⟩ := h
  obtain ⟨h1, h2, h3⟩ := unpackU_lens b
  exact ⟨v, he, ⟨⟨Rd.of_owns ho, h3, h1⟩, h2⟩, ho, hk⟩
theorem rd_takeU {w : World} {v : Value} {l : List UInt8} (h : Rd w 1 v l.length (l.map vb)) {g : Nat} {o n c : Nat} (hv : v = .slice (some ⟨g, o, none⟩) n c) (i k cap : Nat) (hik : i + k ≤ l.length) (hcap : k ≤ cap) (hm : cap ≤ maxLen) :
    Rd w 1 (.slice (some ⟨g, o + i, none⟩) k cap) ((l.drop i).take k).length (((l.drop i).take k).map vb) := by
  obtain ⟨h0, a, cp, rfl, h1, h2, h3, h4⟩ := h
  have hk : ((l.drop i).take k).length = k := by simp; omega
  refine ⟨by simp, _, cap, by rw [hk], by rw [hk]; exact hcap, hm, (by intro h; cases h), fun hpos => ⟨g, o + i, rfl, fun j u hu => ?_⟩⟩
  have hl0 : 0 < (l.map vb).length := by simp at hpos ⊢; omega
  obtain ⟨g', o', rfl, hc⟩ := h4 hl0
  cases hv
  rw [Nat.add_assoc]
  refine hc _ _ ?_
  rw [List.map_take, List.map_drop, List.getElem?_take] at hu
  split at hu
  · rwa [List.getElem?_drop] at hu
  · cases hu
theorem one_pool : oneUb.pool.length = 32 := rfl
theorem one_sum : oneUb.root.sum.length = 32 := rfl
theorem one_eq : oneUb.eqB oneUb = true := by decide
theorem packOne_len : (packU oneUb).length = 256 := packU_len one_pool one_sum oneUb_may
theorem packOne_mid : ((packU oneUb).drop 40).take 9 = [0, 0, 0, 1, 2, 0, 1, 44, 0] := by
  unfold packU
  rw [oneUb_may, if_pos rfl, List.drop_append_of_le_length (by rw [ubBody_len one_pool one_sum]; omega), List.take_append_of_le_length (by rw [List.length_drop, ubBody_len one_pool one_sum]; omega)]
  decide
/-- A slice of bytes that owns 256 of them. -/
theorem own256 {w : World} {B n : Nat} {v : Value} {l : List UInt8} (h : w.ownsRow B 5 1 v n (l.map vb)) (hn : n = 256) : ∃ g c, v = .slice (some ⟨g, 0, none⟩) 256 c ∧ 256 ≤ c ∧ c ≤ maxLen := by
  obtain ⟨a, cp, h1, h2, h3⟩ := (Rd.of_owns h).form
  rcases h.2 with ⟨-, h0⟩ | ⟨g, cap, cur, e, -⟩
  · have := h.1; rw [h0] at this; simp at this; omega
  · rw [e] at h1; cases h1; exact ⟨g, cp, by rw [e, hn], by omega, h3⟩

end Go.Proofs.YtaiicjhnhbkgmaaGreatDoor
