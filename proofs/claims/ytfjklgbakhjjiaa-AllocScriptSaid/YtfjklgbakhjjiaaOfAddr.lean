/-
  Addresses out of numbers: caulkerlaw03.of.
  Conditions: at most 100 numbers.
-/
import Derived.Test.YtfjklgbakhjjiaaMayAddr
namespace Go.Proofs.Ytfjklgbakhjjiaa
open Go.RowKit
set_option maxRecDepth 100000
set_option linter.unusedVariables false

theorem yieldsIf_build {P : Program} {ops : Array Oper} {S : World → Prop} {op : Oper} {a : Act} {v : Value} (hw : Region.wanted op (yielded ops a.tmps) = true) (t : TypeId) (ps : Array (Nat × Operand)) (ho : op.op = .build t ps)
    (l : List (Nat × Value)) (hl : ps.toList.map (fun p => (p.1, a.eval p.2)) = l) (h : ∀ w, (Instr.build t l.toArray).run P w = .ok v w) : YieldsIf P ops S op v a :=
  .inl ⟨hw, fun w _ => by
    have e : ps.map (fun p => (p.1, a.eval p.2)) = l.toArray := by apply Array.toList_inj.1; simpa using hl
    unfold execOp
    simp only [ho, Sem.run_bind, Sem.run_pure]
    rw [e, h w]; rfl⟩

def pairs : List Int → List Ad
  | a :: b :: l => ⟨a, b⟩ :: pairs l
  | _ => []
theorem pairs_get : ∀ (l : List Int) (k : Nat), 2 * k + 1 < l.length → ∃ a b, l[2 * k]? = some a ∧ l[2 * k + 1]? = some b ∧ (pairs l)[k]? = some ⟨a, b⟩
  | [], k, h => by simp at h
  | [a], k, h => by simp at h
  | a :: b :: l, 0, h => ⟨a, b, rfl, rfl, rfl⟩
  | a :: b :: l, k + 1, h => by
    obtain ⟨x, y, h1, h2, h3⟩ := pairs_get l k (by simp at h; omega)
    exact ⟨x, y, by rw [show 2 * (k + 1) = 2 * k + 1 + 1 by omega]; simpa using h1, by rw [show 2 * (k + 1) + 1 = 2 * k + 1 + 1 + 1 by omega]; simpa using h2, by simpa [pairs] using h3⟩
theorem pairs_len : ∀ l : List Int, (pairs l).length = l.length / 2
  | [] => rfl
  | [a] => by simp [pairs]
  | a :: b :: l => by simp only [pairs, List.length_cons, pairs_len l]; omega

set_option maxHeartbeats 4000000 in
theorem lawof_any (w : World) (v : Value) (l : List Int) (hr : Rd w 1 v l.length (l.map fun x => .int .i64 x)) (hl : l.length ≤ 100) : Calls Try.prog 25 #[v] w (ListPost w (pairs l)) := by
  obtain ⟨la, lc, rfl, -, -⟩ := hr.form
  obtain ⟨n, hn⟩ : ∃ n, l.length = n := ⟨_, rfl⟩
  have HR := Lib.hid hr; have HN := Lib.hid hn
  have HPL := Lib.hid (pairs_len l)
  clear hr
  rw [hn] at HR hl ⊢
  clear hn
  go_enter Try.func25, Try.ntmps25
  go_wp2_with fail
  go_loopw [3, 4] (fun t i wr => ∃ (k j : Nat) (pa : Option Addr) (pc : Nat), j = 2 * k ∧ j ≤ n ∧ i = .int .i64 j ∧ t = .slice pa k pc ∧ Hid (wr.ownsRow w.heap.size 50 2 (.slice pa k pc) k (adCells ((pairs l).take k))) ∧ Hid (Keep (fun b => w.heap.size ≤ b) w wr)) (fun _ i _ => n - (intOf i).toNat)
  case atStart => exact ⟨0, 0, none, 0, rfl, by omega, rfl, rfl, Lib.hid (World.ownsRow_nil _ _ _ _), Lib.hid (Keep.refl _ _)⟩
  case round =>
    obtain ⟨k, j, pa, pc, hj, hjn, rfl, rfl, HO, HK⟩ := hrel
    have hsz := HK.out.size
    by_cases hlt : j + 1 < n
    · obtain ⟨a, b, ha, hb, hp⟩ := pairs_get l k (by rw [HN.out]; omega)
      rw [← hj] at ha hb
      obtain ⟨S, hS0⟩ : ∃ S : World → Prop, S = fun w' => Keep (fun b => w.heap.size ≤ b) w w' := ⟨_, rfl⟩
      obtain ⟨g, o, hla, hcell⟩ : ∃ g o, la = some ⟨g, o, none⟩ ∧ ∀ w', S w' → ∀ (i : Nat) (u : Int), l[i]? = some u → w'.cell? ⟨g, o + i, none⟩ = some (.int .i64 u) := by
        obtain ⟨hl0, a', c', hv', -, -, -, h4⟩ := HR.out
        cases hv'
        obtain ⟨g, o, rfl, hc⟩ := h4 (by rw [List.length_map, HN.out]; omega)
        refine ⟨g, o, rfl, fun w' h i u hu => ?_⟩
        rw [hS0] at h
        have hc' := hc i (.int .i64 u) (by rw [List.getElem?_map, hu]; rfl)
        exact h.cell hc' (fun e => by have h1 := World.block_lt_of_cell? w _ hc'; have h2 : w.heap.size ≤ g := e; have h3 : g < w.heap.size := h1; omega)
      subst hla
      obtain ⟨m, hm⟩ : ∃ m, j + 1 = m := ⟨_, rfl⟩
      have HA := Lib.hid (show ∀ w', S w' → w'.cell? ⟨g, o + j, none⟩ = some (.int .i64 a) from fun w' h => hcell w' h j a ha)
      have HB := Lib.hid (show ∀ w', S w' → w'.cell? ⟨g, o + m, none⟩ = some (.int .i64 b) from fun w' h => by rw [← hm]; exact hcell w' h (j + 1) b hb)
      have HTK : Hid ((pairs l).take (k + 1) = (pairs l).take k ++ [⟨a, b⟩]) := Lib.hid (by rw [List.take_add_one, hp]; rfl)
      have HSE := Lib.hid (show ∀ w', S w' → Keep (fun b => w.heap.size ≤ b) w w' from fun w' h => by rw [hS0] at h; exact h)
      have HSK := Lib.hid (show ∀ w', Keep (fun b => w.heap.size ≤ b) w w' → S w' from fun w' h => by rw [hS0]; exact h)
      have hS : S wr.drew := HSK.out _ HK.out.drew
      have hod := ((Keep.refl noBlk wr).drew).owns HO.out (fun _ _ => id)
      have hj0 : (0 : Int) ≤ (j : Int) := by omega
      have hji : (j : Int) < (n : Int) := by omega
      have hm1 : (j : Int) + 1 = (m : Int) := by omega
      have hm0 : (0 : Int) ≤ (m : Int) := by omega
      have hmi : (m : Int) < (n : Int) := by omega
      have hmn : m < n := by omega
      have hwm : IntKind.i64.wrap (m : Int) = (m : Int) := IntWalk.i64_in _ (by omega)
      have hk50 : k ≤ 50 := by omega
      have HM := Lib.hid hm; have HJ := Lib.hid hj
      clear hS0 hcell ha hb hp HK HO hm hj
      go_wp2_with fail
      refine wp_region_held (S := S) (by kernel_rfl) ?_
      change wpAnyH _ _ _ _ _ _ _ _ wr.drew
      have hsd : wr.drew.heap.size = wr.heap.size := rfl
      rw [← hsd] at hsz
      clear hsd
      generalize wr.drew = w6 at *
      refine tka 0 (.slice pa k pc) rfl hS ?_
      simp only [Act.put, List.setIfInBounds_toArray, List.set_cons_zero, List.set_cons_succ, List.getElem_toArray, List.getElem_cons_zero]
      refine tna 1 (.slice (some ⟨g, o, none⟩) n lc) rfl hS ?_
      refine tna 2 (.int .i64 j) rfl hS ?_
      refine tkd 3 (.pointer (some ⟨g, o + j, none⟩)) rfl (.inl ⟨by rfl, fun _ _ => ?_⟩) hS ?_
      · go_simp
      refine nrm ?_
      refine tnd 4 (.int .i64 a) rfl (.inl ⟨by rfl, fun w' hw' => by have c := HA.out w' hw'; go_simp⟩) hS ?_
      refine tna 5 (.slice (some ⟨g, o, none⟩) n lc) rfl hS ?_
      refine tna 6 (.int .i64 j) rfl hS ?_
      refine tkd 7 (.int .i64 (m : Int)) rfl (.inl ⟨by rfl, fun _ _ => ?_⟩) hS ?_
      · go_simp
      refine nrm ?_
      refine tkd 8 (.pointer (some ⟨g, o + m, none⟩)) rfl (.inl ⟨by rfl, fun _ _ => ?_⟩) hS ?_
      · go_simp
      refine nrm ?_
      refine tnd 9 (.int .i64 b) rfl (.inl ⟨by rfl, fun w' hw' => by have c := HB.out w' hw'; go_simp⟩) hS ?_
      refine tnd 10 (.agg #[.int .i64 a, .int .i64 b]) rfl (yieldsIf_build (by rfl) 50 #[(0, .tmp 16), (1, .tmp 21)] rfl [(0, .int .i64 a), (1, .int .i64 b)] rfl fun w => buildAd a b w) hS ?_
      refine wpAnyH_one (k := 11) rfl (by kernel_rfl) ?_
      refine wpList_build_one rfl 22 50 (.tmp 22) rfl Try.underlying22 infoAd (by decide) (adCs ⟨a, b⟩) rfl (by decide) rfl ?_
      obtain ⟨w7, hw7, hk7, hr7⟩ : ∃ w7, w6.alloc (.cells (adCs ⟨a, b⟩).toArray 50) = w7 ∧ Keep noBlk w6 w7 ∧ Rd w7 2 (.slice (some ⟨w6.heap.size, 0, none⟩) 1 1) 1 (adCs ⟨a, b⟩) :=
        ⟨_, rfl, (Keep.refl _ _).alloc _, rd_blk (n := 1) (size := 2) (heap_alloc_new _ _) rfl (by unfold maxLen; omega)⟩
      rw [hw7]
      have hs7 := hk7.size
      have HO7 := Lib.hid (hk7.owns hod fun _ _ => id)
      have HR7 := Lib.hid hr7
      have hS7 : S w7 := HSK.out _ ((HSE.out _ hS).trans' hk7 (U := fun b => w.heap.size ≤ b) (fun _ _ h => h) (fun _ _ h => h.elim))
      clear hw7 hk7 hr7 hod hS
      go_wp2_with fail
      refine ⟨hS7, ?_⟩
      refine wpAnyH_one (k := 12) rfl (by kernel_rfl) ?_
      refine wpList_append_rd rfl (.tmp 12) (.tmp 23) 22 rfl w.heap.size 50 zeroAd 2 16 Try.underlying22 infoAd rfl (by decide) (.slice pa k pc) k (adCells ((pairs l).take k)) rfl HO7.out (.slice (some ⟨w6.heap.size, 0, none⟩) 1 1) 1 (adCs ⟨a, b⟩) rfl HR7.out (oneCell_ad _) (by unfold maxLen; omega) (by omega) (by omega) ?_
      intro v' w8 ho8 hk8 hn8 hb8
      obtain ⟨g', cap', rfl⟩ := ownsRow_succ ho8
      have HO8 := Lib.hid ho8
      have hS8 : S w8 := HSK.out _ ((HSE.out _ hS7).trans' hk8 (U := fun b => w.heap.size ≤ b) (fun _ _ h => h) (fun b _ h => owns_base HO7.out h))
      clear ho8 hk8 hn8 hb8 hS7
      go_wp2_with fail
      refine ⟨hS8, ?_⟩
      refine tna 13 (.slice (some ⟨g', 0, none⟩) (k + 1) cap') rfl hS8 ?_
      refine wpAnyH_done (by kernel_rfl) ?_ _
      have HKE := Lib.hid (HSE.out _ hS8)
      have HOE : Hid (w8.ownsRow w.heap.size 50 2 (.slice (some ⟨g', 0, none⟩) (k + 1) cap') (k + 1) (adCells ((pairs l).take (k + 1)))) := Lib.hid (by rw [HTK.out, adCells_append, adCells_one]; exact HO8.out)
      clear hS8 HO8 HO7 HR7
      go_wp2_with fail
      go_roundw
      case rel => exact ⟨k + 1, j + 2, _, _, by have := HJ.out; omega, by omega, by go_num, rfl, HOE, HKE⟩
      case measure => simp [intOf]; omega
    · have hji : ¬ (j : Int) + 1 < (n : Int) := by omega
      have hkl : (pairs l).take k = pairs l := List.take_of_length_le (by rw [HPL.out, HN.out]; omega)
      have hkp : (pairs l).length = k := by rw [HPL.out, HN.out]; omega
      have ho := HO.out
      rw [hkl] at ho
      have HOF := Lib.hid ho; have HKP := Lib.hid hkp
      clear hkl hkp ho
      go_wp2_with fail
      go_ret
      refine ⟨_, rfl, ?_, HK.out.mono (fun i hi h => by omega)⟩
      rw [HKP.out]; exact HOF.out
end Go.Proofs.Ytfjklgbakhjjiaa
