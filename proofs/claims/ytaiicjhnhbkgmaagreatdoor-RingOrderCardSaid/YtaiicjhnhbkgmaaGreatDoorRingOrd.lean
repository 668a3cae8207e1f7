/-
  RingOrder's walk.
  Conditions: none.
-/
import Derived.Test.YtaiicjhnhbkgmaaGreatDoorRingW
import Derived.Test.YtaiicjhnhbkgmaaGreatDoorRingZ
namespace Go.Proofs.YtaiicjhnhbkgmaaGreatDoor
open Go.RowKit Go.Maps Go.ChangeMaps
set_option maxRecDepth 100000
set_option linter.unusedVariables false

theorem mem_bfb {α : Type} {b f : List α} {p : α} : p ∈ b ++ f ++ b ↔ p ∈ b ∨ p ∈ f := by
  rw [List.mem_append, List.mem_append]
  constructor
  · rintro ((h | h) | h)
    · exact .inl h
    · exact .inr h
    · exact .inl h
  · rintro (h | h)
    · exact .inr h
    · exact .inl (.inr h)
theorem oneCell_ubsV {w : World} {qs : List (Value × Ub)} (h : UbsV w qs) : ∀ u ∈ ubRow qs, u.oneCell' = true := fun u hu => by
  obtain ⟨q, hq, hm⟩ := List.mem_flatMap.1 hu
  obtain ⟨a, c, hv, -, -⟩ := (h q hq).root.rd.form
  rw [hv] at hm
  exact oneCell_ub _ u hm
theorem pair_lt {lt : Ub → Ub → Prop} {l : List Ub} (h : l.Pairwise lt) {j : Nat} {x y : Ub} (hx : l[j]? = some x) (hy : l[j + 1]? = some y) : lt x y := by
  obtain ⟨h1, rfl⟩ := List.getElem?_eq_some_iff.1 hx
  obtain ⟨h2, rfl⟩ := List.getElem?_eq_some_iff.1 hy
  exact List.pairwise_iff_getElem.1 h _ _ h1 h2 (by omega)
open Classical in
theorem cnt_strict {lt : Ub → Ub → Prop} (hir : ∀ x, ¬ lt x x) (u : Ub) : ∀ {out : List Ub}, out.Pairwise lt → (out.filter (fun x => x.eqB u)).length = if u ∈ out then 1 else 0
  | [], _ => rfl
  | x :: t, h => by
    rw [List.pairwise_cons] at h
    have ih := cnt_strict hir u h.2
    by_cases e : x = u
    · subst e
      have hn : x ∉ t := fun hm => hir x (h.1 x hm)
      rw [if_neg hn] at ih
      rw [List.filter_cons_of_pos (p := fun y : Ub => y.eqB x) ((eqB_iff x x).2 rfl), List.length_cons, ih, if_pos (List.mem_cons_self ..)]
    · have hb : ¬ (x.eqB u) = true := fun hh => e ((eqB_iff x u).1 hh)
      rw [List.filter_cons_of_neg (p := fun y : Ub => y.eqB u) hb, ih]
      by_cases hm : u ∈ t
      · rw [if_pos hm, if_pos (List.mem_cons_of_mem _ hm)]
      · rw [if_neg hm, if_neg (fun hh => by rcases List.mem_cons.1 hh with rfl | hh; exact e rfl; exact hm hh)]
open Classical in
theorem cnt_best {L : List Ub} {out : List Ub} (hb : IsBest L out) {u : Ub} (hu : u ∈ L) : (out.filter (fun x => x.eqB u)).length = if u.may = true then 1 else 0 := by
  rw [cnt_strict ltU_irr u hb.1]
  by_cases h : u.may = true
  · rw [if_pos h, if_pos ((hb.2 u).2 ⟨hu, h⟩)]
  · rw [if_neg h, if_neg (fun hm => h ((hb.2 u).1 hm).2)]
set_option maxHeartbeats 32000000 in
theorem ringOrder_walk (w : World) (aF aR : Addr) (hg : ErrG w aF aR) (v : Value) (ps : List (Value × Ub)) (hV : UbsV w ps) (hr : Rd w 69 v ps.length (ubRow ps)) (v2 : Value) (fs0 : List Bool) (hr2 : Rd w 1 v2 fs0.length (fs0.map Value.bool)) :
    Calls Tryz.prog 4 #[v, v2] w (TherePost w true) := by
  obtain ⟨oa, ca, hv, -, -⟩ := hr.form
  subst hv
  obtain ⟨ob, cb, hv, -, hbm⟩ := hr2.form
  subst hv
  unfold maxLen at hbm
  have HR := Lib.hid hr; have HG := Lib.hid hg; have HK := Lib.hid (Keep.refl noBlk w); have HV := Lib.hid hV; have HF := Lib.hid hr2
  obtain ⟨n, hn⟩ : ∃ n, ps.length = n := ⟨_, rfl⟩
  obtain ⟨n2, hn2⟩ : ∃ n, fs0.length = n := ⟨_, rfl⟩
  have HN := Lib.hid hn; have HN2 := Lib.hid hn2; have HLP := Lib.hid hV.lens
  rw [hn] at HR ⊢
  rw [hn2] at HF ⊢
  have hbm2 : n2 ≤ 9223372036854775807 := by
    obtain ⟨a', c', h1, h2, h3⟩ := HF.out.form
    unfold maxLen at h3; omega
  clear hr hg hV hn hn2 hr2
  go_enter Tryz.func4, Tryz.ntmps4
  go_wp2_with fail
  refine (awakeR_any w aF aR HG.out).mono ?_
  rintro e w1 ⟨rfl, hk⟩
  have HR := Lib.hid (HR.out.keep hk fun _ _ => id)
  have HG := Lib.hid (HG.out.keep hk)
  have HK := Lib.hid (HK.out.trans hk)
  have HV := Lib.hid (HV.out.keep hk)
  have HF := Lib.hid (HF.out.keep hk fun _ _ => id)
  clear hk
  obtain ⟨lb, hlb⟩ : ∃ b, longB [] ps = b := ⟨_, rfl⟩
  have HL := long_any w1 (.slice none 0 0) (.slice oa n ca) [] ps ⟨[], Rd.nil _ _, fun i L h => by simp at h⟩ (by rw [HN.out]; exact HR.out) HV.out
  rw [hlb] at HL
  go_wp2_with fail
  refine HL.mono ?_
  rintro e w2 ⟨rfl, hk⟩
  have HR := Lib.hid (HR.out.keep hk fun _ _ => id)
  have HG := Lib.hid (HG.out.keep hk)
  have HK := Lib.hid (HK.out.trans hk)
  have HV := Lib.hid (HV.out.keep hk)
  have HF := Lib.hid (HF.out.keep hk fun _ _ => id)
  clear hk HL
  cases lb
  · have HR_R := HR
    have HG_R := HG
    have HK_R := HK
    have HV_R := HV
    have HF_R := HF
    have HKS_R := Lib.hid (Keep.refl noBlk w2)
    obtain ⟨-, ha20, -, hn20⟩ := long_no hlb
    have HA : Hid (∀ p ∈ ps, p.2.root.addrs.length ≤ 65536) := Lib.hid (fun p hp => by have := ha20 p hp; omega)
    rw [HN.out] at hn20
    clear ha20 hlb
    go_wp2_with fail
    go_loopw [6, 7, 8] (fun u t i wr => ∃ (k nf nb : Nat) (fa ba : Option Addr) (fc bc : Nat) (fs bs : List (Value × Ub)), k ≤ n ∧ nf + nb = k ∧ u = .slice fa nf fc ∧ t = .slice ba nb bc ∧ i = .int .i64 k ∧ Hid (fs.length = nf ∧ bs.length = nb) ∧ Hid (wr.ownsRow w2.heap.size 36 69 (.slice fa nf fc) nf (ubRow fs)) ∧ Hid (wr.ownsRow w2.heap.size 36 69 (.slice ba nb bc) nb (ubRow bs)) ∧ Hid (∀ p, p ∈ fs ∨ p ∈ bs ↔ p ∈ ps.take k) ∧ Hid (∀ j, (Value.slice fa nf fc).ownBlock = some j → (Value.slice ba nb bc).ownBlock ≠ some j) ∧ Hid (Keep noBlk w2 wr)) (fun _ _ i _ => n - (intOf i).toNat)
    case atStart => exact ⟨0, 0, 0, none, none, 0, 0, [], [], Nat.zero_le _, rfl, rfl, rfl, rfl, Lib.hid ⟨rfl, rfl⟩, Lib.hid (World.ownsRow_nil _ _ _ _), Lib.hid (World.ownsRow_nil _ _ _ _), Lib.hid (fun p => by simp), Lib.hid (fun j h => by cases h), Lib.hid (Keep.refl _ _)⟩
    case round =>
    obtain ⟨k, nf, nb, fa, ba, fc, bc, fs, bs, hk, hnk, rfl, rfl, rfl, HM, HOf, HOb, HME, HAP, HKi⟩ := hrel
    have HR := Lib.hid (HR.out.keep HKi.out fun _ _ => id)
    have HG := Lib.hid (HG.out.keep HKi.out)
    have HK := Lib.hid (HK.out.trans HKi.out)
    have HV := Lib.hid (HV.out.keep HKi.out)
    have HF := Lib.hid (HF.out.keep HKi.out fun _ _ => id)
    have HKS_R := Lib.hid (HKS_R.out.trans HKi.out)
    by_cases hlt : k < n
    · have hki : (k : Int) < (n : Int) := by omega
      have hk0 : (0 : Int) ≤ (k : Int) := by omega
      obtain ⟨p, hp⟩ : ∃ p, ps[k]? = some p := ⟨ps[k]'(by rw [HN.out]; exact hlt), List.getElem?_eq_getElem _⟩
      obtain ⟨gp, op, cap, hv, hat⟩ := rd_ub HLP.out (by rw [HN.out]; exact HR.out) hp
      have e1 : oa = some ⟨gp, op, none⟩ := by cases hv; rfl
      subst e1
      have HPV := Lib.hid (HV.out p (List.mem_of_getElem? hp))
      have HTK : Hid (ps.take (k + 1) = ps.take k ++ [p]) := Lib.hid (by rw [List.take_add_one, hp]; rfl)
      have hpl := ubCs_len (v := p.1) HPV.out.root.sum HPV.out.pool
      obtain ⟨uc, huc⟩ : ∃ uc, ubCs p.1 p.2 = uc := ⟨_, rfl⟩
      have HUC := Lib.hid huc
      rw [huc] at hpl
      have HUO : Hid (∀ u ∈ uc, u.oneCell' = true) := Lib.hid (by
        obtain ⟨a', c', h1, -, -⟩ := HPV.out.root.rd.form
        rw [← huc, h1]; exact oneCell_ub p.2)
      have HAT : Hid (wr.rangeAt gp (op + k * 69) uc) := Lib.hid (by rw [← huc]; exact hat)
      clear hp hv hat huc
      have hcell : k < n2 → ∃ (b : Bool) (g2 o2 : Nat), ob = some ⟨g2, o2, none⟩ ∧ wr.cell? ⟨g2, o2 + k, none⟩ = some (.bool b) := fun h => by
        obtain ⟨h0, a', c', hv, -, -, -, h4⟩ := HF.out
        obtain ⟨g2, o2, e, hc⟩ := h4 (by rw [h0]; omega)
        have e2 : ob = some ⟨g2, o2, none⟩ := by cases hv; exact e
        obtain ⟨b, hb⟩ : ∃ b, fs0[k]? = some b := ⟨fs0[k]'(by rw [HN2.out]; exact h), List.getElem?_eq_getElem _⟩
        exact ⟨b, g2, o2, e2, hc k _ (by rw [List.getElem?_map, hb]; rfl)⟩
      by_cases hkn : k < n2
      · obtain ⟨b, gb, ofb, rfl, hb2⟩ := hcell hkn
        have hks : (k : Int) < (n2 : Int) := by omega
        clear hcell
        cases b
        · go_wp2_with (first
            | ((with_reducible show wpList _ _ _ (⟨_, .load 36 (.tmp 45), _, _, _, _⟩ :: _) _ _); refine wpList_load_mid rfl 36 (.tmp 45) rfl gp (op + k * 69) rfl uc _ HAT.out ubUnder rfl (sizeUbL hpl) ?_)
            | ((with_reducible show wpList _ _ _ (⟨_, .buildSlice _ 1 _, _, _, _, _⟩ :: _) _ _); refine wpList_build_one rfl 22 36 (.tmp 46) rfl Tryz.underlying22 infoUb (by decide) (uc) hpl (by decide) rfl ?_
               have hkb : Keep noBlk wr (wr.alloc (.cells (uc).toArray 36)) := (Keep.refl _ _).alloc _
               have HRN := Lib.hid (rd_blk (n := 1) (size := 69) (heap_alloc_new wr (.cells (uc).toArray 36)) hpl (by unfold maxLen; omega))
               have HKB := Lib.hid hkb
               have hsb : wr.heap.size ≤ (wr.alloc (.cells (uc).toArray 36)).heap.size := by rw [World.size_alloc]; omega
               obtain ⟨X_w6, hX_w6⟩ : ∃ s, wr.heap.size = s := ⟨_, rfl⟩
               rw [hX_w6] at HRN hsb ⊢
               have hsc_w6 : wr.heap.size ≤ X_w6 := Nat.le_of_eq hX_w6
               have HX_w6 := Lib.hid hX_w6; clear hX_w6
               generalize hW4 : wr.alloc (.cells (uc).toArray 36) = w6 at *
               clear hW4 hkb)
            | (have HO6 := Lib.hid (HKB.out.owns HOb.out fun _ _ => id)
               have hzb : w2.heap.size ≤ w6.heap.size := Nat.le_trans HKi.out.size HKB.out.size
               (at_builtin; refine wpList_append_rd rfl (.tmp 42) (.tmp 47) 22 rfl w2.heap.size 36 (.agg (ubCs (.slice none 0 0) ⟨0, ⟨[], 0, 0, zeros32⟩, 0, zeros32⟩).toArray) 69 120 Tryz.underlying22 infoUb rfl (by decide) (.slice ba nb bc) (nb) (ubRow bs) rfl HO6.out (.slice (some ⟨X_w6, 0, none⟩) 1 1) (1) (uc) rfl HRN.out HUO.out (by unfold maxLen; omega) (by omega) (by omega) ?_
                intro v' w7 ho5 hk5 hn5 hb5
                obtain ⟨g', cap', rfl⟩ := ownsRow_succ ho5
                have HO7 := Lib.hid ho5; have HK5 := Lib.hid hk5; have HB5 := Lib.hid hb5
                clear ho5 hk5 hn5 hb5)))
          have HOTH : Hid (w7.ownsRow w2.heap.size 36 69 (.slice fa nf fc) nf (ubRow fs)) := Lib.hid (HK5.out.owns (HKB.out.owns HOf.out fun _ _ => id) (fun i hi e => HAP.out i hi e))
          have hsz6 : ∀ i, (.slice fa nf fc : Value).ownBlock = some i → i < w6.heap.size := fun i hi => by
            obtain ⟨cur, hc⟩ := owns_block (HKB.out.owns HOf.out fun _ _ => id) hi
            exact lt_of_block hc
          have HAP7 : Hid (∀ j, (Value.slice fa nf fc).ownBlock = some j → (Value.slice (some ⟨g', 0, none⟩) (nb + 1) cap').ownBlock ≠ some j) := Lib.hid (fun j h1 h2 => by
            rcases HB5.out with h | h
            · exact HAP.out j h1 (h ▸ h2)
            · have h3 := hsz6 j h1; rw [h] at h2; cases h2; omega)
          go_roundw
          case rel =>
            refine ⟨k + 1, nf, nb + 1, fa, some ⟨g', 0, none⟩, fc, cap', fs, bs ++ [p], by omega, by omega, by go_num, by go_num, by go_num, Lib.hid ?_, HOTH, Lib.hid ?_, Lib.hid ?_, HAP7, Lib.hid ?_⟩
            · exact ⟨HM.out.1, by rw [List.length_append, HM.out.2]; rfl⟩
            · rw [ubRow_append, ubRow_one, HUC.out]; exact HO7.out
            · intro q
              rw [HTK.out, List.mem_append, List.mem_append, List.mem_singleton, ← HME.out q]
              exact or_assoc.symm
            · exact (HKi.out.trans HKB.out).trans' HK5.out (U := noBlk) (fun _ _ h => h) (fun i hi e => by have := owns_base HO6.out e; omega)
          case measure => simp [intOf]; omega
        · go_wp2_with (first
            | ((with_reducible show wpList _ _ _ (⟨_, .load 36 (.tmp 38), _, _, _, _⟩ :: _) _ _); refine wpList_load_mid rfl 36 (.tmp 38) rfl gp (op + k * 69) rfl uc _ HAT.out ubUnder rfl (sizeUbL hpl) ?_)
            | ((with_reducible show wpList _ _ _ (⟨_, .buildSlice _ 1 _, _, _, _, _⟩ :: _) _ _); refine wpList_build_one rfl 22 36 (.tmp 39) rfl Tryz.underlying22 infoUb (by decide) (uc) hpl (by decide) rfl ?_
               have hkb : Keep noBlk wr (wr.alloc (.cells (uc).toArray 36)) := (Keep.refl _ _).alloc _
               have HRN := Lib.hid (rd_blk (n := 1) (size := 69) (heap_alloc_new wr (.cells (uc).toArray 36)) hpl (by unfold maxLen; omega))
               have HKB := Lib.hid hkb
               have hsb : wr.heap.size ≤ (wr.alloc (.cells (uc).toArray 36)).heap.size := by rw [World.size_alloc]; omega
               obtain ⟨X_w6, hX_w6⟩ : ∃ s, wr.heap.size = s := ⟨_, rfl⟩
               rw [hX_w6] at HRN hsb ⊢
               have hsc_w6 : wr.heap.size ≤ X_w6 := Nat.le_of_eq hX_w6
               have HX_w6 := Lib.hid hX_w6; clear hX_w6
               generalize hW4 : wr.alloc (.cells (uc).toArray 36) = w6 at *
               clear hW4 hkb)
            | (have HO6 := Lib.hid (HKB.out.owns HOf.out fun _ _ => id)
               have hzb : w2.heap.size ≤ w6.heap.size := Nat.le_trans HKi.out.size HKB.out.size
               (at_builtin; refine wpList_append_rd rfl (.tmp 35) (.tmp 40) 22 rfl w2.heap.size 36 (.agg (ubCs (.slice none 0 0) ⟨0, ⟨[], 0, 0, zeros32⟩, 0, zeros32⟩).toArray) 69 120 Tryz.underlying22 infoUb rfl (by decide) (.slice fa nf fc) (nf) (ubRow fs) rfl HO6.out (.slice (some ⟨X_w6, 0, none⟩) 1 1) (1) (uc) rfl HRN.out HUO.out (by unfold maxLen; omega) (by omega) (by omega) ?_
                intro v' w7 ho5 hk5 hn5 hb5
                obtain ⟨g', cap', rfl⟩ := ownsRow_succ ho5
                have HO7 := Lib.hid ho5; have HK5 := Lib.hid hk5; have HB5 := Lib.hid hb5
                clear ho5 hk5 hn5 hb5)))
          have HOTH : Hid (w7.ownsRow w2.heap.size 36 69 (.slice ba nb bc) nb (ubRow bs)) := Lib.hid (HK5.out.owns (HKB.out.owns HOb.out fun _ _ => id) (fun i hi e => HAP.out i e hi))
          have hsz6 : ∀ i, (.slice ba nb bc : Value).ownBlock = some i → i < w6.heap.size := fun i hi => by
            obtain ⟨cur, hc⟩ := owns_block (HKB.out.owns HOb.out fun _ _ => id) hi
            exact lt_of_block hc
          have HAP7 : Hid (∀ j, (Value.slice (some ⟨g', 0, none⟩) (nf + 1) cap').ownBlock = some j → (Value.slice ba nb bc).ownBlock ≠ some j) := Lib.hid (fun j h1 h2 => by
            rcases HB5.out with h | h
            · exact HAP.out j (h ▸ h1) h2
            · have h3 := hsz6 j h2; rw [h] at h1; cases h1; omega)
          go_roundw
          case rel =>
            refine ⟨k + 1, nf + 1, nb, some ⟨g', 0, none⟩, ba, cap', bc, fs ++ [p], bs, by omega, by omega, by go_num, by go_num, by go_num, Lib.hid ?_, Lib.hid ?_, HOTH, Lib.hid ?_, HAP7, Lib.hid ?_⟩
            · exact ⟨by rw [List.length_append, HM.out.1]; rfl, HM.out.2⟩
            · rw [ubRow_append, ubRow_one, HUC.out]; exact HO7.out
            · intro q
              rw [HTK.out, List.mem_append, List.mem_append, List.mem_singleton, ← HME.out q]
              exact or_right_comm
            · exact (HKi.out.trans HKB.out).trans' HK5.out (U := noBlk) (fun _ _ h => h) (fun i hi e => by have := owns_base HO6.out e; omega)
          case measure => simp [intOf]; omega
      · have hks : decide ((k : Int) < (n2 : Int)) = false := decide_eq_false (by omega)
        clear hcell
        go_wp2_with (first
          | ((with_reducible show wpList _ _ _ (⟨_, .load 36 (.tmp 45), _, _, _, _⟩ :: _) _ _); refine wpList_load_mid rfl 36 (.tmp 45) rfl gp (op + k * 69) rfl uc _ HAT.out ubUnder rfl (sizeUbL hpl) ?_)
          | ((with_reducible show wpList _ _ _ (⟨_, .buildSlice _ 1 _, _, _, _, _⟩ :: _) _ _); refine wpList_build_one rfl 22 36 (.tmp 46) rfl Tryz.underlying22 infoUb (by decide) (uc) hpl (by decide) rfl ?_
             have hkb : Keep noBlk wr (wr.alloc (.cells (uc).toArray 36)) := (Keep.refl _ _).alloc _
             have HRN := Lib.hid (rd_blk (n := 1) (size := 69) (heap_alloc_new wr (.cells (uc).toArray 36)) hpl (by unfold maxLen; omega))
             have HKB := Lib.hid hkb
             have hsb : wr.heap.size ≤ (wr.alloc (.cells (uc).toArray 36)).heap.size := by rw [World.size_alloc]; omega
             obtain ⟨X_w6, hX_w6⟩ : ∃ s, wr.heap.size = s := ⟨_, rfl⟩
             rw [hX_w6] at HRN hsb ⊢
             have hsc_w6 : wr.heap.size ≤ X_w6 := Nat.le_of_eq hX_w6
             have HX_w6 := Lib.hid hX_w6; clear hX_w6
             generalize hW4 : wr.alloc (.cells (uc).toArray 36) = w6 at *
             clear hW4 hkb)
          | (have HO6 := Lib.hid (HKB.out.owns HOb.out fun _ _ => id)
             have hzb : w2.heap.size ≤ w6.heap.size := Nat.le_trans HKi.out.size HKB.out.size
             (at_builtin; refine wpList_append_rd rfl (.tmp 42) (.tmp 47) 22 rfl w2.heap.size 36 (.agg (ubCs (.slice none 0 0) ⟨0, ⟨[], 0, 0, zeros32⟩, 0, zeros32⟩).toArray) 69 120 Tryz.underlying22 infoUb rfl (by decide) (.slice ba nb bc) (nb) (ubRow bs) rfl HO6.out (.slice (some ⟨X_w6, 0, none⟩) 1 1) (1) (uc) rfl HRN.out HUO.out (by unfold maxLen; omega) (by omega) (by omega) ?_
              intro v' w7 ho5 hk5 hn5 hb5
              obtain ⟨g', cap', rfl⟩ := ownsRow_succ ho5
              have HO7 := Lib.hid ho5; have HK5 := Lib.hid hk5; have HB5 := Lib.hid hb5
              clear ho5 hk5 hn5 hb5)))
        have HOTH : Hid (w7.ownsRow w2.heap.size 36 69 (.slice fa nf fc) nf (ubRow fs)) := Lib.hid (HK5.out.owns (HKB.out.owns HOf.out fun _ _ => id) (fun i hi e => HAP.out i hi e))
        have hsz6 : ∀ i, (.slice fa nf fc : Value).ownBlock = some i → i < w6.heap.size := fun i hi => by
          obtain ⟨cur, hc⟩ := owns_block (HKB.out.owns HOf.out fun _ _ => id) hi
          exact lt_of_block hc
        have HAP7 : Hid (∀ j, (Value.slice fa nf fc).ownBlock = some j → (Value.slice (some ⟨g', 0, none⟩) (nb + 1) cap').ownBlock ≠ some j) := Lib.hid (fun j h1 h2 => by
          rcases HB5.out with h | h
          · exact HAP.out j h1 (h ▸ h2)
          · have h3 := hsz6 j h1; rw [h] at h2; cases h2; omega)
        go_roundw
        case rel =>
          refine ⟨k + 1, nf, nb + 1, fa, some ⟨g', 0, none⟩, fc, cap', fs, bs ++ [p], by omega, by omega, by go_num, by go_num, by go_num, Lib.hid ?_, HOTH, Lib.hid ?_, Lib.hid ?_, HAP7, Lib.hid ?_⟩
          · exact ⟨HM.out.1, by rw [List.length_append, HM.out.2]; rfl⟩
          · rw [ubRow_append, ubRow_one, HUC.out]; exact HO7.out
          · intro q
            rw [HTK.out, List.mem_append, List.mem_append, List.mem_singleton, ← HME.out q]
            exact or_assoc.symm
          · exact (HKi.out.trans HKB.out).trans' HK5.out (U := noBlk) (fun _ _ h => h) (fun i hi e => by have := owns_base HO6.out e; omega)
        case measure => simp [intOf]; omega
    · obtain rfl : n = k := by omega
      have HTKN : Hid (∀ p, p ∈ fs ∨ p ∈ bs ↔ p ∈ ps) := Lib.hid (fun p => by rw [HME.out p, List.take_of_length_le (by rw [HN.out]; exact Nat.le_refl _)])
      have HCM : Hid (∀ p ∈ bs ++ fs ++ bs, p ∈ ps) := Lib.hid (fun p hp => (HTKN.out p).1 (mem_bfb.1 hp).symm)
      have HAC : Hid (∀ p ∈ bs ++ fs ++ bs, p.2.root.addrs.length ≤ 65536) := Lib.hid (fun p hp => HA.out p (HCM.out p hp))
      have HMC : Hid (∀ u, u ∈ (bs ++ fs ++ bs).map (·.2) ↔ u ∈ ps.map (·.2)) := Lib.hid (fun u => by
        rw [List.mem_map, List.mem_map]
        constructor
        · rintro ⟨p, hp, rfl⟩; exact ⟨p, HCM.out p hp, rfl⟩
        · rintro ⟨p, hp, rfl⟩; exact ⟨p, mem_bfb.2 ((HTKN.out p).2 hp).symm, rfl⟩)
      have HLC : Hid ((bs ++ fs ++ bs).length = nb + nf + nb) := Lib.hid (by rw [List.length_append, List.length_append, HM.out.1, HM.out.2])
      have HOF1 : Hid (∀ u ∈ ubRow fs, u.oneCell' = true) := Lib.hid (oneCell_ubsV (w := wr) fun p hp => HV.out p ((HTKN.out p).1 (.inl hp)))
      have HOB1 : Hid (∀ u ∈ ubRow bs, u.oneCell' = true) := Lib.hid (oneCell_ubsV (w := wr) fun p hp => HV.out p ((HTKN.out p).1 (.inr hp)))
      have hszr : w2.heap.size ≤ wr.heap.size := HKi.out.size
      have HBK : Hid (∀ j, (Value.slice ba nb bc).ownBlock = some j → j < wr.heap.size) := Lib.hid (fun j hj => by obtain ⟨cur, hc⟩ := owns_block HOb.out hj; exact lt_of_block hc)
      go_wp2_with fail
      refine (best_any wr _ ps (by rw [HN.out]; exact HR.out) HV.out (by rw [HN.out]; omega) HA.out).mono ?_
      rintro e w3 ⟨vA, qA, rfl, ho, hb, hu, hk, hlen⟩
      have HR := Lib.hid (HR.out.keep hk fun _ _ => id)
      have HG := Lib.hid (HG.out.keep hk)
      have HK := Lib.hid (HK.out.trans hk)
      have HV := Lib.hid (HV.out.keep hk)
      have HF := Lib.hid (HF.out.keep hk fun _ _ => id)
      have HKS_R := Lib.hid (HKS_R.out.trans hk)
      have HKi := Lib.hid (HKi.out.trans hk)
      have HOf := Lib.hid (hk.owns HOf.out fun _ _ => id)
      have HOb := Lib.hid (hk.owns HOb.out fun _ _ => id)
      obtain ⟨nA, hn_⟩ : ∃ n, qA.length = n := ⟨_, rfl⟩
      rw [hn_] at ho hlen
      have hn4_ : nA ≤ 64 := by rw [List.length_map] at hlen; rw [HN.out] at hlen; omega
      obtain ⟨aA, cA, hv_, -, -⟩ := (Rd.of_owns ho).form
      subst hv_
      have HBA := Lib.hid hb; have HNQA := Lib.hid hn_; have HN4A := Lib.hid hn4_
      have HOA := Lib.hid ho; have HUA := Lib.hid hu; have HZA := Lib.hid hk.size
      clear hk ho hb hu hn_ hn4_ hlen
      have hsz8 : wr.heap.size ≤ w3.heap.size := HZA.out
      go_wp2_with (first
        | (at_builtin; refine wpList_append_keep rfl (.tmp 51) (.tmp 52) 22 rfl w2.heap.size 36 (.agg (ubCs (.slice none 0 0) ⟨0, ⟨[], 0, 0, zeros32⟩, 0, zeros32⟩).toArray) 69 120 Tryz.underlying22 infoUb rfl (by decide) (.slice ba nb bc) nb (ubRow bs) rfl HOb.out (.slice fa nf fc) nf (ubRow fs) rfl (Rd.of_owns HOf.out) HOF1.out (by unfold maxLen; omega) (by omega) (Nat.le_trans hszr hsz8) ?_
           intro v' w4 hoP hkP hrP hbP
           obtain ⟨xP, cP, hvP, -, -⟩ := (Rd.of_owns hoP).form
           subst hvP
           have HOP := Lib.hid hoP; have HRP := Lib.hid hrP; have HBP := Lib.hid hbP; have HKP := Lib.hid hkP
           have hzP : w2.heap.size ≤ w4.heap.size := by have := hkP.size; omega
           clear hoP hkP hrP hbP)
        | (at_builtin; refine wpList_append_rd rfl (.tmp 53) (.tmp 54) 22 rfl w2.heap.size 36 (.agg (ubCs (.slice none 0 0) ⟨0, ⟨[], 0, 0, zeros32⟩, 0, zeros32⟩).toArray) 69 120 Tryz.underlying22 infoUb rfl (by decide) (.slice xP (nb + nf) cP) (nb + nf) (ubRow bs ++ ubRow fs) rfl HOP.out (.slice ba nb bc) nb (ubRow bs) rfl HRP.out HOB1.out (by unfold maxLen; omega) (by omega) hzP ?_
           intro v' w5 hoQ hkQ hnQ hbQ
           obtain ⟨xQ, cQ, hvQ, -, -⟩ := (Rd.of_owns hoQ).form
           subst hvQ
           have HOQ := Lib.hid hoQ; have HKQ := Lib.hid hkQ
           clear hoQ hkQ hnQ hbQ))
      have HKE : Hid (Keep (fun i => w2.heap.size ≤ i ∧ i < wr.heap.size) w3 w5) := Lib.hid (HKP.out.trans' HKQ.out (fun i hi e => ⟨owns_base HOb.out e, HBK.out i e⟩) (fun i hi e => by
        rcases HBP.out with h | h
        · rw [h] at e; exact ⟨owns_base HOb.out e, HBK.out i e⟩
        · have := h i e; omega))
      have HOA2 := Lib.hid (HKE.out.owns HOA.out (fun i hi e => by have h1 := owns_base HOA.out hi; have h2 := e.2; omega))
      have HUA2 := Lib.hid (HUA.out.far HKE.out (fun q hq i hi e => by have h1 := owns_base (HUA.out q hq).2.2.2 hi; have h2 := e.2; omega))
      have HKS_R := Lib.hid (HKS_R.out.trans' HKE.out (U := noBlk) (fun _ _ h => h) (fun i hi e => by have h1 := e.1; omega))
      have HR := Lib.hid (HR_R.out.keep HKS_R.out fun _ _ => id)
      have HG := Lib.hid (HG_R.out.keep HKS_R.out)
      have HK := Lib.hid (HK_R.out.trans HKS_R.out)
      have HV := Lib.hid (HV_R.out.keep HKS_R.out)
      have HF := Lib.hid (HF_R.out.keep HKS_R.out fun _ _ => id)
      have HVC : Hid (UbsV w5 (bs ++ fs ++ bs)) := Lib.hid (fun p hp => HV.out p (HCM.out p hp))
      refine (best_any w5 _ (bs ++ fs ++ bs) (by rw [HLC.out, ubRow_append, ubRow_append]; exact Rd.of_owns HOQ.out) HVC.out (by rw [HLC.out]; omega) HAC.out).mono ?_
      rintro e w6 ⟨vB, qB, rfl, ho, hb, hu, hk, hlen⟩
      have HR := Lib.hid (HR.out.keep hk fun _ _ => id)
      have HG := Lib.hid (HG.out.keep hk)
      have HK := Lib.hid (HK.out.trans hk)
      have HV := Lib.hid (HV.out.keep hk)
      have HF := Lib.hid (HF.out.keep hk fun _ _ => id)
      have HKS_R := Lib.hid (HKS_R.out.trans hk)
      have HOA2 := Lib.hid (hk.owns HOA2.out fun _ _ => id)
      have HUA2 := Lib.hid (HUA2.out.keep hk)
      have HOQ := Lib.hid (hk.owns HOQ.out fun _ _ => id)
      obtain ⟨nB, hn_⟩ : ∃ n, qB.length = n := ⟨_, rfl⟩
      rw [hn_] at ho hlen
      have hn4_ : nB ≤ 64 := by rw [List.length_map] at hlen; rw [HLC.out] at hlen; omega
      obtain ⟨aB, cB, hv_, -, -⟩ := (Rd.of_owns ho).form
      subst hv_
      have HBB := Lib.hid hb; have HNQB := Lib.hid hn_; have HN4B := Lib.hid hn4_
      have HOB := Lib.hid ho; have HUB := Lib.hid hu; have HZB := Lib.hid hk.size
      clear hk ho hb hu hn_ hn4_ hlen
      go_wp2_with fail
      refine (sameUbs_any w6 _ _ qA qB (by have h := Rd.of_owns HOA2.out; rw [HNQA.out]; exact h) (by have h := Rd.of_owns HOB.out; rw [HNQB.out]; exact h) HUA2.out.V HUB.out.V (HBA.out.unique (HBB.out.of_mem HMC.out)) (by rw [HNQA.out]; have := HN4A.out; omega)).mono ?_
      rintro e w7 ⟨rfl, hk⟩
      have HR := Lib.hid (HR.out.keep hk fun _ _ => id)
      have HG := Lib.hid (HG.out.keep hk)
      have HK := Lib.hid (HK.out.trans hk)
      have HV := Lib.hid (HV.out.keep hk)
      have HF := Lib.hid (HF.out.keep hk fun _ _ => id)
      have HKS_R := Lib.hid (HKS_R.out.trans hk)
      have HOA2 := Lib.hid (hk.owns HOA2.out fun _ _ => id)
      have HUA2 := Lib.hid (HUA2.out.keep hk)
      have HOQ := Lib.hid (hk.owns HOQ.out fun _ _ => id)
      have HOB := Lib.hid (hk.owns HOB.out fun _ _ => id)
      have HUB := Lib.hid (HUB.out.keep hk)
      clear hk HOQ HOB HUB HOP HOf HOb
      go_wp2_with fail
      go_loopw [11] (fun i wr => ∃ k, k ≤ nA ∧ i = .int .i64 k ∧ Hid (Keep noBlk w7 wr)) (fun i _ => nA - (intOf i).toNat)
      case atStart => exact ⟨0, Nat.zero_le _, rfl, Lib.hid (Keep.refl _ _)⟩
      case round =>
      obtain ⟨k, hk, rfl, HKj⟩ := hrel
      have HR := Lib.hid (HR.out.keep HKj.out fun _ _ => id)
      have HG := Lib.hid (HG.out.keep HKj.out)
      have HK := Lib.hid (HK.out.trans HKj.out)
      have HV := Lib.hid (HV.out.keep HKj.out)
      have HF := Lib.hid (HF.out.keep HKj.out fun _ _ => id)
      have HKS_R := Lib.hid (HKS_R.out.trans HKj.out)
      have HOA2 := Lib.hid (HKj.out.owns HOA2.out fun _ _ => id)
      have HUA2 := Lib.hid (HUA2.out.keep HKj.out)
      by_cases hlt : k < nA
      · have hki : (k : Int) < (nA : Int) := by omega
        have hk0 : (0 : Int) ≤ (k : Int) := by omega
        obtain ⟨p1, hp⟩ : ∃ p, qA[k]? = some p := ⟨qA[k]'(by rw [HNQA.out]; exact hlt), List.getElem?_eq_getElem _⟩
        have HP1 := Lib.hid hp
        obtain ⟨g1, o1, c1, hv, hat⟩ := rd_ub HUA2.out.V.lens (by have h := Rd.of_owns HOA2.out; rw [HNQA.out]; exact h) hp
        have HPV1 := Lib.hid (HUA2.out.V p1 (List.mem_of_getElem? hp))
        have hpl1 := ubCs_len (v := p1.1) HPV1.out.root.sum HPV1.out.pool
        have e1 : aA = some ⟨g1, o1, none⟩ := by cases hv; rfl
        subst e1
        obtain ⟨uc1, huc1⟩ : ∃ l, ubCs p1.1 p1.2 = l := ⟨_, rfl⟩
        have HUC1 := Lib.hid huc1
        have hat1 : wr.rangeAt g1 (o1 + (k) * 69) (ubCs p1.1 p1.2) := hat
        rw [huc1] at hpl1 hat1
        have HAT1 := Lib.hid hat1
        obtain ⟨t1, ht1⟩ : ∃ t, p1.2.txg = t := ⟨_, rfl⟩
        have HT1 := Lib.hid ht1
        have ct1 := (ub_mem (o := o1 + (k) * 69) (u := p1.2) HPV1.out.root.sum (by rw [HUC1.out]; exact HAT1.out)).1
        rw [ht1] at ct1
        have HCT1 := Lib.hid ct1
        have HMAY1 : Hid (p1.2.may = true) := Lib.hid ((HBA.out.2 p1.2).1 (List.mem_map.2 ⟨p1, List.mem_of_getElem? hp, rfl⟩)).2
        clear hp hv hat huc1 hat1 ht1 ct1
        have HC : Hid (∀ w', Keep noBlk wr w' → Calls Tryz.prog 16 #[.agg uc1.toArray] w' (fun e w2 => e = .returned (.int .i64 0) ∧ Keep noBlk w' w2)) := Lib.hid (fun w' kk => by
          have h := checkU_any w' _ _ (HPV1.out.keep kk fun _ _ => id)
          rw [HUC1.out, HMAY1.out] at h; exact h)
        have HW0 := Lib.hid (Keep.refl noBlk wr)
        by_cases hz : k = 0
        · subst hz
          go_wp2_with fail
          obtain ⟨S, hS0⟩ : ∃ S : World → Prop, S = fun w' => Keep noBlk wr w' := ⟨_, rfl⟩
          have HSE := Lib.hid (show ∀ w', S w' → Keep noBlk wr w' from fun w' h => by rw [hS0] at h; exact h)
          have HSI := Lib.hid (show ∀ w', Keep noBlk wr w' → S w' from fun w' h => by rw [hS0]; exact h)
          have hS : S wr.drew := by rw [hS0]; exact (Keep.refl _ _).drew
          clear hS0
          refine wp_region_held (S := S) (by kernel_rfl) ?_
          change wpAnyH _ _ _ _ _ _ _ _ wr.drew
          generalize wr.drew = w8 at hS ⊢
          refine tka 0 (.slice (some ⟨g1, o1, none⟩) nA cA) rfl hS ?_
          simp only [Act.put, List.setIfInBounds_toArray, List.set_cons_zero, List.set_cons_succ, List.getElem_toArray, List.getElem_cons_zero]
          refine tka 1 (.int .i64 0) rfl hS ?_
          simp only [Act.put, List.setIfInBounds_toArray, List.set_cons_zero, List.set_cons_succ, List.getElem_toArray, List.getElem_cons_succ, List.getElem_cons_zero]
          refine tkb 2 (.pointer (some ⟨g1, o1 + 0 * 69, none⟩)) rfl hS ?_
          simp only [Act.put, List.setIfInBounds_toArray, List.set_cons_zero, List.set_cons_succ, List.getElem_toArray, List.getElem_cons_succ, List.getElem_cons_zero]
          refine tkd 3 (.agg (uc1).toArray) rfl (yieldsIf_load_mid (by rfl) 36 (.tmp 69) rfl (g1) (o1 + 0 * 69) rfl (uc1) _ (fun w' h => (HSE.out w' h).rangeAt HAT1.out) ubUnder rfl (by first | exact sizeUbL hxl | exact sizeUbL hyl | exact sizeUbL hpl | exact sizeUbL hpl1 | exact sizeUbL hpl2 | exact sizeUbL hplp)) hS ?_
          simp only [Act.put, List.setIfInBounds_toArray, List.set_cons_zero, List.set_cons_succ, List.getElem_toArray, List.getElem_cons_succ, List.getElem_cons_zero]
          refine wpAnyH_one (k := 4) rfl (by kernel_rfl) ?_
          go_wp2_with fail
          refine (HC.out w8 (HW0.out.trans (HSE.out _ hS))).mono ?_
          rintro e w9 ⟨rfl, hk⟩
          have hS1 := HSI.out _ ((HSE.out _ hS).trans hk)
          clear hS hk
          go_wp2_with fail
          refine ⟨hS1, ?_⟩
          refine tkb 5 (.bool false) rfl hS1 ?_
          simp only [Act.put, List.setIfInBounds_toArray, List.set_cons_zero, List.set_cons_succ, List.getElem_toArray, List.getElem_cons_succ, List.getElem_cons_zero]
          refine tka 6 (.bool false) rfl hS1 ?_
          simp only [Act.put, List.setIfInBounds_toArray, List.set_cons_zero, List.set_cons_succ, List.getElem_toArray, List.getElem_cons_succ, List.getElem_cons_zero]
          refine tka 7 (.int .i64 0) rfl hS1 ?_
          simp only [Act.put, List.setIfInBounds_toArray, List.set_cons_zero, List.set_cons_succ, List.getElem_toArray, List.getElem_cons_succ, List.getElem_cons_zero]
          refine tkb 8 (.bool false) rfl hS1 ?_
          simp only [Act.put, List.setIfInBounds_toArray, List.set_cons_zero, List.set_cons_succ, List.getElem_toArray, List.getElem_cons_succ, List.getElem_cons_zero]
          refine tka 9 (.bool false) rfl hS1 ?_
          simp only [Act.put, List.setIfInBounds_toArray, List.set_cons_zero, List.set_cons_succ, List.getElem_toArray, List.getElem_cons_succ, List.getElem_cons_zero]
          refine tkc 10 undef rfl hS1 ?_
          simp only [Act.put, List.setIfInBounds_toArray, List.set_cons_zero, List.set_cons_succ, List.getElem_toArray, List.getElem_cons_succ, List.getElem_cons_zero]
          refine tkc 11 undef rfl hS1 ?_
          simp only [Act.put, List.setIfInBounds_toArray, List.set_cons_zero, List.set_cons_succ, List.getElem_toArray, List.getElem_cons_succ, List.getElem_cons_zero]
          refine tkc 12 undef rfl hS1 ?_
          simp only [Act.put, List.setIfInBounds_toArray, List.set_cons_zero, List.set_cons_succ, List.getElem_toArray, List.getElem_cons_succ, List.getElem_cons_zero]
          refine tkc 13 undef rfl hS1 ?_
          simp only [Act.put, List.setIfInBounds_toArray, List.set_cons_zero, List.set_cons_succ, List.getElem_toArray, List.getElem_cons_succ, List.getElem_cons_zero]
          refine tkc 14 undef rfl hS1 ?_
          simp only [Act.put, List.setIfInBounds_toArray, List.set_cons_zero, List.set_cons_succ, List.getElem_toArray, List.getElem_cons_succ, List.getElem_cons_zero]
          refine tkc 15 undef rfl hS1 ?_
          simp only [Act.put, List.setIfInBounds_toArray, List.set_cons_zero, List.set_cons_succ, List.getElem_toArray, List.getElem_cons_succ, List.getElem_cons_zero]
          refine tkc 16 undef rfl hS1 ?_
          simp only [Act.put, List.setIfInBounds_toArray, List.set_cons_zero, List.set_cons_succ, List.getElem_toArray, List.getElem_cons_succ, List.getElem_cons_zero]
          refine tkc 17 undef rfl hS1 ?_
          simp only [Act.put, List.setIfInBounds_toArray, List.set_cons_zero, List.set_cons_succ, List.getElem_toArray, List.getElem_cons_succ, List.getElem_cons_zero]
          refine tkc 18 undef rfl hS1 ?_
          simp only [Act.put, List.setIfInBounds_toArray, List.set_cons_zero, List.set_cons_succ, List.getElem_toArray, List.getElem_cons_succ, List.getElem_cons_zero]
          refine tkc 19 undef rfl hS1 ?_
          simp only [Act.put, List.setIfInBounds_toArray, List.set_cons_zero, List.set_cons_succ, List.getElem_toArray, List.getElem_cons_succ, List.getElem_cons_zero]
          refine tkc 20 undef rfl hS1 ?_
          simp only [Act.put, List.setIfInBounds_toArray, List.set_cons_zero, List.set_cons_succ, List.getElem_toArray, List.getElem_cons_succ, List.getElem_cons_zero]
          refine tkc 21 undef rfl hS1 ?_
          simp only [Act.put, List.setIfInBounds_toArray, List.set_cons_zero, List.set_cons_succ, List.getElem_toArray, List.getElem_cons_succ, List.getElem_cons_zero]
          refine tkc 22 undef rfl hS1 ?_
          simp only [Act.put, List.setIfInBounds_toArray, List.set_cons_zero, List.set_cons_succ, List.getElem_toArray, List.getElem_cons_succ, List.getElem_cons_zero]
          refine tkc 23 undef rfl hS1 ?_
          simp only [Act.put, List.setIfInBounds_toArray, List.set_cons_zero, List.set_cons_succ, List.getElem_toArray, List.getElem_cons_succ, List.getElem_cons_zero]
          refine tkc 24 undef rfl hS1 ?_
          simp only [Act.put, List.setIfInBounds_toArray, List.set_cons_zero, List.set_cons_succ, List.getElem_toArray, List.getElem_cons_succ, List.getElem_cons_zero]
          refine tkc 25 undef rfl hS1 ?_
          simp only [Act.put, List.setIfInBounds_toArray, List.set_cons_zero, List.set_cons_succ, List.getElem_toArray, List.getElem_cons_succ, List.getElem_cons_zero]
          refine tkc 26 undef rfl hS1 ?_
          simp only [Act.put, List.setIfInBounds_toArray, List.set_cons_zero, List.set_cons_succ, List.getElem_toArray, List.getElem_cons_succ, List.getElem_cons_zero]
          refine tkc 27 undef rfl hS1 ?_
          simp only [Act.put, List.setIfInBounds_toArray, List.set_cons_zero, List.set_cons_succ, List.getElem_toArray, List.getElem_cons_succ, List.getElem_cons_zero]
          refine tkc 28 undef rfl hS1 ?_
          simp only [Act.put, List.setIfInBounds_toArray, List.set_cons_zero, List.set_cons_succ, List.getElem_toArray, List.getElem_cons_succ, List.getElem_cons_zero]
          refine tkc 29 undef rfl hS1 ?_
          simp only [Act.put, List.setIfInBounds_toArray, List.set_cons_zero, List.set_cons_succ, List.getElem_toArray, List.getElem_cons_succ, List.getElem_cons_zero]
          refine tkc 30 undef rfl hS1 ?_
          simp only [Act.put, List.setIfInBounds_toArray, List.set_cons_zero, List.set_cons_succ, List.getElem_toArray, List.getElem_cons_succ, List.getElem_cons_zero]
          refine tkc 31 undef rfl hS1 ?_
          simp only [Act.put, List.setIfInBounds_toArray, List.set_cons_zero, List.set_cons_succ, List.getElem_toArray, List.getElem_cons_succ, List.getElem_cons_zero]
          refine tkc 32 undef rfl hS1 ?_
          simp only [Act.put, List.setIfInBounds_toArray, List.set_cons_zero, List.set_cons_succ, List.getElem_toArray, List.getElem_cons_succ, List.getElem_cons_zero]
          refine tkc 33 undef rfl hS1 ?_
          simp only [Act.put, List.setIfInBounds_toArray, List.set_cons_zero, List.set_cons_succ, List.getElem_toArray, List.getElem_cons_succ, List.getElem_cons_zero]
          refine tka 34 (.bool false) rfl hS1 ?_
          simp only [Act.put, List.setIfInBounds_toArray, List.set_cons_zero, List.set_cons_succ, List.getElem_toArray, List.getElem_cons_succ, List.getElem_cons_zero]
          refine tka 35 (.bool false) rfl hS1 ?_
          simp only [Act.put, List.setIfInBounds_toArray, List.set_cons_zero, List.set_cons_succ, List.getElem_toArray, List.getElem_cons_succ, List.getElem_cons_zero]
          refine wpAnyH_done (by kernel_rfl) ?_ _
          have HKR := Lib.hid (HSE.out _ hS1)
          clear hS1 HSE HSI
          have HR := Lib.hid (HR.out.keep HKR.out fun _ _ => id)
          have HG := Lib.hid (HG.out.keep HKR.out)
          have HK := Lib.hid (HK.out.trans HKR.out)
          have HV := Lib.hid (HV.out.keep HKR.out)
          have HF := Lib.hid (HF.out.keep HKR.out fun _ _ => id)
          have HKS_R := Lib.hid (HKS_R.out.trans HKR.out)
          have HOA2 := Lib.hid (HKR.out.owns HOA2.out fun _ _ => id)
          have HUA2 := Lib.hid (HUA2.out.keep HKR.out)
          have HKj := Lib.hid (HKj.out.trans HKR.out)
          have HAT1 := Lib.hid (HKR.out.rangeAt HAT1.out)
          have HPV1 := Lib.hid (HPV1.out.keep HKR.out fun _ _ => id)
          have HW0 := Lib.hid (HW0.out.trans HKR.out)
          go_wp2_with fail
          go_roundw
          case rel => exact ⟨0 + 1, by omega, by go_num, HKj⟩
          case measure => simp [intOf]; omega
        · obtain ⟨j, hj⟩ : ∃ j, k = j + 1 := ⟨k - 1, by omega⟩
          have hjl : j < nA := by omega
          have hkj : (k : Int) - 1 = (j : Int) := by omega
          have hk1 : 0 < k := by omega
          have hj0 : (0 : Int) ≤ (j : Int) := by omega
          have hjA : (j : Int) < (nA : Int) := by omega
          have hnA64 := HN4A.out
          have hwj : IntKind.i64.wrap (j : Int) = (j : Int) := by rw [IntWalk.i64_in _ (by omega)]
          have hwk : IntKind.i64.wrap ((k : Int) + 1) = (k : Int) + 1 := by rw [IntWalk.i64_in _ (by omega)]
          obtain ⟨p2, hp⟩ : ∃ p, qA[j]? = some p := ⟨qA[j]'(by rw [HNQA.out]; exact hjl), List.getElem?_eq_getElem _⟩
          have HP2 := Lib.hid hp
          obtain ⟨g2, o2, c2, hv, hat⟩ := rd_ub HUA2.out.V.lens (by have h := Rd.of_owns HOA2.out; rw [HNQA.out]; exact h) hp
          have HPV2 := Lib.hid (HUA2.out.V p2 (List.mem_of_getElem? hp))
          have hpl2 := ubCs_len (v := p2.1) HPV2.out.root.sum HPV2.out.pool
          obtain ⟨rfl, rfl⟩ : g1 = g2 ∧ o1 = o2 := by cases hv; exact ⟨rfl, rfl⟩
          obtain ⟨uc2, huc2⟩ : ∃ l, ubCs p2.1 p2.2 = l := ⟨_, rfl⟩
          have HUC2 := Lib.hid huc2
          have hat2 : wr.rangeAt g1 (o1 + (j) * 69) (ubCs p2.1 p2.2) := hat
          rw [huc2] at hpl2 hat2
          have HAT2 := Lib.hid hat2
          obtain ⟨t2, ht2⟩ : ∃ t, p2.2.txg = t := ⟨_, rfl⟩
          have HT2 := Lib.hid ht2
          have ct2 := (ub_mem (o := o1 + (j) * 69) (u := p2.2) HPV2.out.root.sum (by rw [HUC2.out]; exact HAT2.out)).1
          rw [ht2] at ct2
          have HCT2 := Lib.hid ct2
          have HMAY2 : Hid (p2.2.may = true) := Lib.hid ((HBA.out.2 p2.2).1 (List.mem_map.2 ⟨p2, List.mem_of_getElem? hp, rfl⟩)).2
          clear hp hv hat huc2 hat2 ht2 ct2
          have hlt : ltU p2.2 p1.2 = true := pair_lt HBA.out.1 (by rw [List.getElem?_map, HP2.out]; rfl) (by rw [List.getElem?_map, ← hj, HP1.out]; rfl)
          have hgt : decide (t2 < t1) = false := decide_eq_false (fun hh => by
            rcases (ltU_iff _ _).1 hlt with h | h
            · rw [HT1.out, HT2.out] at h; omega
            · have := h.1; rw [HT1.out, HT2.out] at this; omega)
          have heq : p1.2.eqB p2.2 = false := by
            cases h : p1.2.eqB p2.2
            · rfl
            · rw [(eqB_iff _ _).1 h] at hlt; exact absurd hlt (ltU_irr _)
          have HS : Hid (∀ w', Keep noBlk wr w' → Calls Tryz.prog 17 #[.agg uc1.toArray, .agg uc2.toArray] w' (TherePost w' false)) := Lib.hid (fun w' kk => by
            have h := sameU_any w' _ _ _ _ (HPV1.out.keep kk fun _ _ => id) (HPV2.out.keep kk fun _ _ => id)
            rw [HUC1.out, HUC2.out, heq] at h; exact h)
          clear hlt heq hj hz
          have hc1 := HCT1.out; have hc2 := HCT2.out
          go_wp2_with fail
          obtain ⟨S, hS0⟩ : ∃ S : World → Prop, S = fun w' => Keep noBlk wr w' := ⟨_, rfl⟩
          have HSE := Lib.hid (show ∀ w', S w' → Keep noBlk wr w' from fun w' h => by rw [hS0] at h; exact h)
          have HSI := Lib.hid (show ∀ w', Keep noBlk wr w' → S w' from fun w' h => by rw [hS0]; exact h)
          have hS : S wr.drew := by rw [hS0]; exact (Keep.refl _ _).drew
          clear hS0
          refine wp_region_held (S := S) (by kernel_rfl) ?_
          change wpAnyH _ _ _ _ _ _ _ _ wr.drew
          generalize wr.drew = w8 at hS ⊢
          refine tka 0 (.slice (some ⟨g1, o1, none⟩) nA cA) rfl hS ?_
          simp only [Act.put, List.setIfInBounds_toArray, List.set_cons_zero, List.set_cons_succ, List.getElem_toArray, List.getElem_cons_zero]
          refine tka 1 (.int .i64 (k : Int)) rfl hS ?_
          simp only [Act.put, List.setIfInBounds_toArray, List.set_cons_zero, List.set_cons_succ, List.getElem_toArray, List.getElem_cons_succ, List.getElem_cons_zero]
          refine tkb 2 (.pointer (some ⟨g1, o1 + k * 69, none⟩)) rfl hS ?_
          simp only [Act.put, List.setIfInBounds_toArray, List.set_cons_zero, List.set_cons_succ, List.getElem_toArray, List.getElem_cons_succ, List.getElem_cons_zero]
          refine tkd 3 (.agg (uc1).toArray) rfl (yieldsIf_load_mid (by rfl) 36 (.tmp 69) rfl (g1) (o1 + k * 69) rfl (uc1) _ (fun w' h => (HSE.out w' h).rangeAt HAT1.out) ubUnder rfl (by first | exact sizeUbL hxl | exact sizeUbL hyl | exact sizeUbL hpl | exact sizeUbL hpl1 | exact sizeUbL hpl2 | exact sizeUbL hplp)) hS ?_
          simp only [Act.put, List.setIfInBounds_toArray, List.set_cons_zero, List.set_cons_succ, List.getElem_toArray, List.getElem_cons_succ, List.getElem_cons_zero]
          refine wpAnyH_one (k := 4) rfl (by kernel_rfl) ?_
          go_wp2_with fail
          refine (HC.out w8 (HW0.out.trans (HSE.out _ hS))).mono ?_
          rintro e w9 ⟨rfl, hk⟩
          have hS1 := HSI.out _ ((HSE.out _ hS).trans hk)
          clear hS hk
          go_wp2_with fail
          refine ⟨hS1, ?_⟩
          refine tkb 5 (.bool false) rfl hS1 ?_
          simp only [Act.put, List.setIfInBounds_toArray, List.set_cons_zero, List.set_cons_succ, List.getElem_toArray, List.getElem_cons_succ, List.getElem_cons_zero]
          refine tka 6 (.bool false) rfl hS1 ?_
          simp only [Act.put, List.setIfInBounds_toArray, List.set_cons_zero, List.set_cons_succ, List.getElem_toArray, List.getElem_cons_succ, List.getElem_cons_zero]
          refine tka 7 (.int .i64 (k : Int)) rfl hS1 ?_
          simp only [Act.put, List.setIfInBounds_toArray, List.set_cons_zero, List.set_cons_succ, List.getElem_toArray, List.getElem_cons_succ, List.getElem_cons_zero]
          refine tkb 8 (.bool true) rfl hS1 ?_
          simp only [Act.put, List.setIfInBounds_toArray, List.set_cons_zero, List.set_cons_succ, List.getElem_toArray, List.getElem_cons_succ, List.getElem_cons_zero]
          refine tka 9 (.bool true) rfl hS1 ?_
          simp only [Act.put, List.setIfInBounds_toArray, List.set_cons_zero, List.set_cons_succ, List.getElem_toArray, List.getElem_cons_succ, List.getElem_cons_zero]
          refine tka 10 (.slice (some ⟨g1, o1, none⟩) nA cA) rfl hS1 ?_
          simp only [Act.put, List.setIfInBounds_toArray, List.set_cons_zero, List.set_cons_succ, List.getElem_toArray, List.getElem_cons_succ, List.getElem_cons_zero]
          refine tka 11 (.int .i64 (k : Int)) rfl hS1 ?_
          simp only [Act.put, List.setIfInBounds_toArray, List.set_cons_zero, List.set_cons_succ, List.getElem_toArray, List.getElem_cons_succ, List.getElem_cons_zero]
          refine tkb 12 (.pointer (some ⟨g1, o1 + k * 69, none⟩)) rfl hS1 ?_
          simp only [Act.put, List.setIfInBounds_toArray, List.set_cons_zero, List.set_cons_succ, List.getElem_toArray, List.getElem_cons_succ, List.getElem_cons_zero]
          refine tkb 13 (.pointer (some ⟨g1, (o1 + k * 69), none⟩)) rfl hS1 ?_
          simp only [Act.put, List.setIfInBounds_toArray, List.set_cons_zero, List.set_cons_succ, List.getElem_toArray, List.getElem_cons_succ, List.getElem_cons_zero]
          refine tkd 14 (.int .i64 t1) rfl (.inl ⟨by rfl, fun w' hw' => by have c := (HSE.out w' hw').cell hc1 id; go_simp⟩) hS1 ?_
          simp only [Act.put, List.setIfInBounds_toArray, List.set_cons_zero, List.set_cons_succ, List.getElem_toArray, List.getElem_cons_succ, List.getElem_cons_zero]
          refine tka 15 (.slice (some ⟨g1, o1, none⟩) nA cA) rfl hS1 ?_
          simp only [Act.put, List.setIfInBounds_toArray, List.set_cons_zero, List.set_cons_succ, List.getElem_toArray, List.getElem_cons_succ, List.getElem_cons_zero]
          refine tka 16 (.int .i64 (k : Int)) rfl hS1 ?_
          simp only [Act.put, List.setIfInBounds_toArray, List.set_cons_zero, List.set_cons_succ, List.getElem_toArray, List.getElem_cons_succ, List.getElem_cons_zero]
          refine tkb 17 (.int .i64 (j : Int)) rfl hS1 ?_
          simp only [Act.put, List.setIfInBounds_toArray, List.set_cons_zero, List.set_cons_succ, List.getElem_toArray, List.getElem_cons_succ, List.getElem_cons_zero]
          refine tkb 18 (.pointer (some ⟨g1, o1 + j * 69, none⟩)) rfl hS1 ?_
          simp only [Act.put, List.setIfInBounds_toArray, List.set_cons_zero, List.set_cons_succ, List.getElem_toArray, List.getElem_cons_succ, List.getElem_cons_zero]
          refine tkb 19 (.pointer (some ⟨g1, (o1 + j * 69), none⟩)) rfl hS1 ?_
          simp only [Act.put, List.setIfInBounds_toArray, List.set_cons_zero, List.set_cons_succ, List.getElem_toArray, List.getElem_cons_succ, List.getElem_cons_zero]
          refine tkd 20 (.int .i64 t2) rfl (.inl ⟨by rfl, fun w' hw' => by have c := (HSE.out w' hw').cell hc2 id; go_simp⟩) hS1 ?_
          simp only [Act.put, List.setIfInBounds_toArray, List.set_cons_zero, List.set_cons_succ, List.getElem_toArray, List.getElem_cons_succ, List.getElem_cons_zero]
          refine tkb 21 (.bool false) rfl hS1 ?_
          simp only [Act.put, List.setIfInBounds_toArray, List.set_cons_zero, List.set_cons_succ, List.getElem_toArray, List.getElem_cons_succ, List.getElem_cons_zero]
          refine tka 22 (.bool false) rfl hS1 ?_
          simp only [Act.put, List.setIfInBounds_toArray, List.set_cons_zero, List.set_cons_succ, List.getElem_toArray, List.getElem_cons_succ, List.getElem_cons_zero]
          refine tka 23 (.slice (some ⟨g1, o1, none⟩) nA cA) rfl hS1 ?_
          simp only [Act.put, List.setIfInBounds_toArray, List.set_cons_zero, List.set_cons_succ, List.getElem_toArray, List.getElem_cons_succ, List.getElem_cons_zero]
          refine tka 24 (.int .i64 (k : Int)) rfl hS1 ?_
          simp only [Act.put, List.setIfInBounds_toArray, List.set_cons_zero, List.set_cons_succ, List.getElem_toArray, List.getElem_cons_succ, List.getElem_cons_zero]
          refine tkb 25 (.pointer (some ⟨g1, o1 + k * 69, none⟩)) rfl hS1 ?_
          simp only [Act.put, List.setIfInBounds_toArray, List.set_cons_zero, List.set_cons_succ, List.getElem_toArray, List.getElem_cons_succ, List.getElem_cons_zero]
          refine tkd 26 (.agg (uc1).toArray) rfl (yieldsIf_load_mid (by rfl) 36 (.tmp 92) rfl (g1) (o1 + k * 69) rfl (uc1) _ (fun w' h => (HSE.out w' h).rangeAt HAT1.out) ubUnder rfl (by first | exact sizeUbL hxl | exact sizeUbL hyl | exact sizeUbL hpl | exact sizeUbL hpl1 | exact sizeUbL hpl2 | exact sizeUbL hplp)) hS1 ?_
          simp only [Act.put, List.setIfInBounds_toArray, List.set_cons_zero, List.set_cons_succ, List.getElem_toArray, List.getElem_cons_succ, List.getElem_cons_zero]
          refine tka 27 (.slice (some ⟨g1, o1, none⟩) nA cA) rfl hS1 ?_
          simp only [Act.put, List.setIfInBounds_toArray, List.set_cons_zero, List.set_cons_succ, List.getElem_toArray, List.getElem_cons_succ, List.getElem_cons_zero]
          refine tka 28 (.int .i64 (k : Int)) rfl hS1 ?_
          simp only [Act.put, List.setIfInBounds_toArray, List.set_cons_zero, List.set_cons_succ, List.getElem_toArray, List.getElem_cons_succ, List.getElem_cons_zero]
          refine tkb 29 (.int .i64 (j : Int)) rfl hS1 ?_
          simp only [Act.put, List.setIfInBounds_toArray, List.set_cons_zero, List.set_cons_succ, List.getElem_toArray, List.getElem_cons_succ, List.getElem_cons_zero]
          refine tkb 30 (.pointer (some ⟨g1, o1 + j * 69, none⟩)) rfl hS1 ?_
          simp only [Act.put, List.setIfInBounds_toArray, List.set_cons_zero, List.set_cons_succ, List.getElem_toArray, List.getElem_cons_succ, List.getElem_cons_zero]
          refine tkd 31 (.agg (uc2).toArray) rfl (yieldsIf_load_mid (by rfl) 36 (.tmp 97) rfl (g1) (o1 + j * 69) rfl (uc2) _ (fun w' h => (HSE.out w' h).rangeAt HAT2.out) ubUnder rfl (by first | exact sizeUbL hxl | exact sizeUbL hyl | exact sizeUbL hpl | exact sizeUbL hpl1 | exact sizeUbL hpl2 | exact sizeUbL hplp)) hS1 ?_
          simp only [Act.put, List.setIfInBounds_toArray, List.set_cons_zero, List.set_cons_succ, List.getElem_toArray, List.getElem_cons_succ, List.getElem_cons_zero]
          refine wpAnyH_one (k := 32) rfl (by kernel_rfl) ?_
          go_wp2_with fail
          refine (HS.out w9 (HW0.out.trans (HSE.out _ hS1))).mono ?_
          rintro e wa ⟨rfl, hk⟩
          have hS2 := HSI.out _ ((HSE.out _ hS1).trans hk)
          clear hS1 hk
          go_wp2_with fail
          refine ⟨hS2, ?_⟩
          refine tka 33 (.bool false) rfl hS2 ?_
          simp only [Act.put, List.setIfInBounds_toArray, List.set_cons_zero, List.set_cons_succ, List.getElem_toArray, List.getElem_cons_succ, List.getElem_cons_zero]
          refine tka 34 (.bool false) rfl hS2 ?_
          simp only [Act.put, List.setIfInBounds_toArray, List.set_cons_zero, List.set_cons_succ, List.getElem_toArray, List.getElem_cons_succ, List.getElem_cons_zero]
          refine tka 35 (.bool false) rfl hS2 ?_
          simp only [Act.put, List.setIfInBounds_toArray, List.set_cons_zero, List.set_cons_succ, List.getElem_toArray, List.getElem_cons_succ, List.getElem_cons_zero]
          refine wpAnyH_done (by kernel_rfl) ?_ _
          have HKR := Lib.hid (HSE.out _ hS2)
          clear hS2 HSE HSI
          have HR := Lib.hid (HR.out.keep HKR.out fun _ _ => id)
          have HG := Lib.hid (HG.out.keep HKR.out)
          have HK := Lib.hid (HK.out.trans HKR.out)
          have HV := Lib.hid (HV.out.keep HKR.out)
          have HF := Lib.hid (HF.out.keep HKR.out fun _ _ => id)
          have HKS_R := Lib.hid (HKS_R.out.trans HKR.out)
          have HOA2 := Lib.hid (HKR.out.owns HOA2.out fun _ _ => id)
          have HUA2 := Lib.hid (HUA2.out.keep HKR.out)
          have HKj := Lib.hid (HKj.out.trans HKR.out)
          have HAT1 := Lib.hid (HKR.out.rangeAt HAT1.out)
          have HPV1 := Lib.hid (HPV1.out.keep HKR.out fun _ _ => id)
          have HW0 := Lib.hid (HW0.out.trans HKR.out)
          have HAT2 := Lib.hid (HKR.out.rangeAt HAT2.out)
          have HPV2 := Lib.hid (HPV2.out.keep HKR.out fun _ _ => id)
          go_wp2_with fail
          go_roundw
          case rel => exact ⟨k + 1, by omega, by go_num, HKj⟩
          case measure => simp [intOf]; omega
      · obtain rfl : nA = k := by omega
        go_wp2_with fail
        go_loopw [12] (fun i wx => ∃ k, k ≤ n ∧ i = .int .i64 k ∧ Hid (Keep noBlk wr wx)) (fun i _ => n - (intOf i).toNat)
        case atStart => exact ⟨0, Nat.zero_le _, rfl, Lib.hid (Keep.refl _ _)⟩
        case round =>
        obtain ⟨k, hk, rfl, HKj⟩ := hrel
        have HR := Lib.hid (HR.out.keep HKj.out fun _ _ => id)
        have HG := Lib.hid (HG.out.keep HKj.out)
        have HK := Lib.hid (HK.out.trans HKj.out)
        have HV := Lib.hid (HV.out.keep HKj.out)
        have HF := Lib.hid (HF.out.keep HKj.out fun _ _ => id)
        have HKS_R := Lib.hid (HKS_R.out.trans HKj.out)
        have HOA2 := Lib.hid (HKj.out.owns HOA2.out fun _ _ => id)
        have HUA2 := Lib.hid (HUA2.out.keep HKj.out)
        by_cases hlt : k < n
        · have hki : (k : Int) < (n : Int) := by omega
          have hk0 : (0 : Int) ≤ (k : Int) := by omega
          obtain ⟨p, hp⟩ : ∃ p, ps[k]? = some p := ⟨ps[k]'(by rw [HN.out]; exact hlt), List.getElem?_eq_getElem _⟩
          obtain ⟨gp, op, cap, hv, hat⟩ := rd_ub HLP.out (by rw [HN.out]; exact HR.out) hp
          have e1 : oa = some ⟨gp, op, none⟩ := by cases hv; rfl
          subst e1
          have HPV := Lib.hid (HV.out p (List.mem_of_getElem? hp))
          have hplp := ubCs_len (v := p.1) HPV.out.root.sum HPV.out.pool
          obtain ⟨up, hup⟩ : ∃ l, ubCs p.1 p.2 = l := ⟨_, rfl⟩
          have HUP := Lib.hid hup
          have hat2 : wr.rangeAt gp (op + k * 69) (ubCs p.1 p.2) := hat
          rw [hup] at hplp hat2
          have HATP := Lib.hid hat2
          have HCNT := Lib.hid (cnt_best HBA.out (List.mem_map.2 ⟨p, List.mem_of_getElem? hp, rfl⟩))
          clear hp hv hat hat2 hup
          go_wp2_with fail
          go_loopw [13, 14] (fun c i wx => ∃ m j : Nat, j ≤ nA ∧ m ≤ j ∧ c = .int .i64 m ∧ i = .int .i64 j ∧ Hid ((((qA.map (·.2)).take j).filter (fun x => x.eqB p.2)).length = m) ∧ Hid (Keep noBlk wr wx)) (fun _ i _ => nA - (intOf i).toNat)
          case atStart => exact ⟨0, 0, Nat.zero_le _, Nat.zero_le _, rfl, rfl, Lib.hid rfl, Lib.hid (Keep.refl _ _)⟩
          case round =>
          obtain ⟨m, j, hj, hmj, rfl, rfl, HMJ, HKl⟩ := hrel
          have HR := Lib.hid (HR.out.keep HKl.out fun _ _ => id)
          have HG := Lib.hid (HG.out.keep HKl.out)
          have HK := Lib.hid (HK.out.trans HKl.out)
          have HV := Lib.hid (HV.out.keep HKl.out)
          have HF := Lib.hid (HF.out.keep HKl.out fun _ _ => id)
          have HKS_R := Lib.hid (HKS_R.out.trans HKl.out)
          have HOA2 := Lib.hid (HKl.out.owns HOA2.out fun _ _ => id)
          have HUA2 := Lib.hid (HUA2.out.keep HKl.out)
          have HKj := Lib.hid (HKj.out.trans HKl.out)
          have HPV := Lib.hid (HPV.out.keep HKl.out fun _ _ => id)
          have HATP := Lib.hid (HKl.out.rangeAt HATP.out)
          have hnA64 := HN4A.out
          by_cases hlj : j < nA
          · have hji : (j : Int) < (nA : Int) := by omega
            have hj0 : (0 : Int) ≤ (j : Int) := by omega
            have hwj : IntKind.i64.wrap ((j : Int) + 1) = (j : Int) + 1 := by rw [IntWalk.i64_in _ (by omega)]
            have hwm : IntKind.i64.wrap ((m : Int) + 1) = (m : Int) + 1 := by rw [IntWalk.i64_in _ (by omega)]
            obtain ⟨p1, hp⟩ : ∃ p, qA[j]? = some p := ⟨qA[j]'(by rw [HNQA.out]; exact hlj), List.getElem?_eq_getElem _⟩
            have HP1 := Lib.hid hp
            obtain ⟨g1, o1, c1, hv, hat⟩ := rd_ub HUA2.out.V.lens (by have h := Rd.of_owns HOA2.out; rw [HNQA.out]; exact h) hp
            have HPV1 := Lib.hid (HUA2.out.V p1 (List.mem_of_getElem? hp))
            have hpl1 := ubCs_len (v := p1.1) HPV1.out.root.sum HPV1.out.pool
            have e1 : aA = some ⟨g1, o1, none⟩ := by cases hv; rfl
            subst e1
            obtain ⟨uc1, huc1⟩ : ∃ l, ubCs p1.1 p1.2 = l := ⟨_, rfl⟩
            have HUC1 := Lib.hid huc1
            have hat1 : wr.rangeAt g1 (o1 + (j) * 69) (ubCs p1.1 p1.2) := hat
            rw [huc1] at hpl1 hat1
            have HAT1 := Lib.hid hat1
            obtain ⟨t1, ht1⟩ : ∃ t, p1.2.txg = t := ⟨_, rfl⟩
            have HT1 := Lib.hid ht1
            have ct1 := (ub_mem (o := o1 + (j) * 69) (u := p1.2) HPV1.out.root.sum (by rw [HUC1.out]; exact HAT1.out)).1
            rw [ht1] at ct1
            have HCT1 := Lib.hid ct1
            have HMAY1 : Hid (p1.2.may = true) := Lib.hid ((HBA.out.2 p1.2).1 (List.mem_map.2 ⟨p1, List.mem_of_getElem? hp, rfl⟩)).2
            clear hp hv hat huc1 hat1 ht1 ct1
            have HTK : Hid ((qA.map (·.2)).take (j + 1) = (qA.map (·.2)).take j ++ [p1.2]) := Lib.hid (by rw [List.take_add_one, List.getElem?_map, HP1.out]; rfl)
            obtain ⟨be, hbe⟩ : ∃ b, p1.2.eqB p.2 = b := ⟨_, rfl⟩
            have HBE := Lib.hid hbe
            have HS : Hid (∀ w', Keep noBlk wr w' → Calls Tryz.prog 17 #[.agg uc1.toArray, .agg up.toArray] w' (TherePost w' be)) := Lib.hid (fun w' kk => by
              have h := sameU_any w' _ _ _ _ (HPV1.out.keep kk fun _ _ => id) (HPV.out.keep kk fun _ _ => id)
              rw [HUC1.out, HUP.out, hbe] at h; exact h)
            clear hbe
            cases be
            · go_wp2_with fail
              obtain ⟨S, hS0⟩ : ∃ S : World → Prop, S = fun w' => Keep noBlk wr w' := ⟨_, rfl⟩
              have HSE := Lib.hid (show ∀ w', S w' → Keep noBlk wr w' from fun w' h => by rw [hS0] at h; exact h)
              have HSI := Lib.hid (show ∀ w', Keep noBlk wr w' → S w' from fun w' h => by rw [hS0]; exact h)
              have hS : S wr.drew := by rw [hS0]; exact (Keep.refl _ _).drew
              clear hS0
              refine wp_region_held (S := S) (by kernel_rfl) ?_
              change wpAnyH _ _ _ _ _ _ _ _ wr.drew
              generalize wr.drew = w8 at hS ⊢
              refine tka 0 (.slice (some ⟨g1, o1, none⟩) nA cA) rfl hS ?_
              simp only [Act.put, List.setIfInBounds_toArray, List.set_cons_zero, List.set_cons_succ, List.getElem_toArray, List.getElem_cons_zero]
              refine tka 1 (.int .i64 (j : Int)) rfl hS ?_
              simp only [Act.put, List.setIfInBounds_toArray, List.set_cons_zero, List.set_cons_succ, List.getElem_toArray, List.getElem_cons_succ, List.getElem_cons_zero]
              refine tkb 2 (.pointer (some ⟨g1, o1 + j * 69, none⟩)) rfl hS ?_
              simp only [Act.put, List.setIfInBounds_toArray, List.set_cons_zero, List.set_cons_succ, List.getElem_toArray, List.getElem_cons_succ, List.getElem_cons_zero]
              refine tkd 3 (.agg (uc1).toArray) rfl (yieldsIf_load_mid (by rfl) 36 (.tmp 117) rfl (g1) (o1 + j * 69) rfl (uc1) _ (fun w' h => (HSE.out w' h).rangeAt HAT1.out) ubUnder rfl (by first | exact sizeUbL hxl | exact sizeUbL hyl | exact sizeUbL hpl | exact sizeUbL hpl1 | exact sizeUbL hpl2 | exact sizeUbL hplp)) hS ?_
              simp only [Act.put, List.setIfInBounds_toArray, List.set_cons_zero, List.set_cons_succ, List.getElem_toArray, List.getElem_cons_succ, List.getElem_cons_zero]
              refine tka 4 (.slice (some ⟨gp, op, none⟩) n ca) rfl hS ?_
              simp only [Act.put, List.setIfInBounds_toArray, List.set_cons_zero, List.set_cons_succ, List.getElem_toArray, List.getElem_cons_succ, List.getElem_cons_zero]
              refine tka 5 (.int .i64 (k : Int)) rfl hS ?_
              simp only [Act.put, List.setIfInBounds_toArray, List.set_cons_zero, List.set_cons_succ, List.getElem_toArray, List.getElem_cons_succ, List.getElem_cons_zero]
              refine tkb 6 (.pointer (some ⟨gp, op + k * 69, none⟩)) rfl hS ?_
              simp only [Act.put, List.setIfInBounds_toArray, List.set_cons_zero, List.set_cons_succ, List.getElem_toArray, List.getElem_cons_succ, List.getElem_cons_zero]
              refine tkd 7 (.agg (up).toArray) rfl (yieldsIf_load_mid (by rfl) 36 (.tmp 121) rfl (gp) (op + k * 69) rfl (up) _ (fun w' h => (HSE.out w' h).rangeAt HATP.out) ubUnder rfl (by first | exact sizeUbL hxl | exact sizeUbL hyl | exact sizeUbL hpl | exact sizeUbL hpl1 | exact sizeUbL hpl2 | exact sizeUbL hplp)) hS ?_
              simp only [Act.put, List.setIfInBounds_toArray, List.set_cons_zero, List.set_cons_succ, List.getElem_toArray, List.getElem_cons_succ, List.getElem_cons_zero]
              refine wpAnyH_one (k := 8) rfl (by kernel_rfl) ?_
              go_wp2_with fail
              refine (HS.out w8 (HSE.out _ hS)).mono ?_
              rintro e w9 ⟨rfl, hk⟩
              have hS1 := HSI.out _ ((HSE.out _ hS).trans hk)
              clear hS hk
              go_wp2_with fail
              refine ⟨hS1, ?_⟩
              refine wpAnyH_done (by kernel_rfl) ?_ _
              have HKR := Lib.hid (HSE.out _ hS1)
              clear hS1 HSE HSI
              have HR := Lib.hid (HR.out.keep HKR.out fun _ _ => id)
              have HG := Lib.hid (HG.out.keep HKR.out)
              have HK := Lib.hid (HK.out.trans HKR.out)
              have HV := Lib.hid (HV.out.keep HKR.out)
              have HF := Lib.hid (HF.out.keep HKR.out fun _ _ => id)
              have HKS_R := Lib.hid (HKS_R.out.trans HKR.out)
              have HOA2 := Lib.hid (HKR.out.owns HOA2.out fun _ _ => id)
              have HUA2 := Lib.hid (HUA2.out.keep HKR.out)
              have HKj := Lib.hid (HKj.out.trans HKR.out)
              have HPV := Lib.hid (HPV.out.keep HKR.out fun _ _ => id)
              have HATP := Lib.hid (HKR.out.rangeAt HATP.out)
              have HKl := Lib.hid (HKl.out.trans HKR.out)
              have HAT1 := Lib.hid (HKR.out.rangeAt HAT1.out)
              have HPV1 := Lib.hid (HPV1.out.keep HKR.out fun _ _ => id)
              go_wp2_with fail
              go_roundw
              case rel => exact ⟨m, j + 1, by omega, by omega, rfl, by go_num, Lib.hid (by rw [HTK.out, List.filter_append, List.length_append, HMJ.out, List.filter_cons, HBE.out]; rfl), HKl⟩
              case measure => simp [intOf]; omega
            · go_wp2_with fail
              obtain ⟨S, hS0⟩ : ∃ S : World → Prop, S = fun w' => Keep noBlk wr w' := ⟨_, rfl⟩
              have HSE := Lib.hid (show ∀ w', S w' → Keep noBlk wr w' from fun w' h => by rw [hS0] at h; exact h)
              have HSI := Lib.hid (show ∀ w', Keep noBlk wr w' → S w' from fun w' h => by rw [hS0]; exact h)
              have hS : S wr.drew := by rw [hS0]; exact (Keep.refl _ _).drew
              clear hS0
              refine wp_region_held (S := S) (by kernel_rfl) ?_
              change wpAnyH _ _ _ _ _ _ _ _ wr.drew
              generalize wr.drew = w8 at hS ⊢
              refine tka 0 (.slice (some ⟨g1, o1, none⟩) nA cA) rfl hS ?_
              simp only [Act.put, List.setIfInBounds_toArray, List.set_cons_zero, List.set_cons_succ, List.getElem_toArray, List.getElem_cons_zero]
              refine tka 1 (.int .i64 (j : Int)) rfl hS ?_
              simp only [Act.put, List.setIfInBounds_toArray, List.set_cons_zero, List.set_cons_succ, List.getElem_toArray, List.getElem_cons_succ, List.getElem_cons_zero]
              refine tkb 2 (.pointer (some ⟨g1, o1 + j * 69, none⟩)) rfl hS ?_
              simp only [Act.put, List.setIfInBounds_toArray, List.set_cons_zero, List.set_cons_succ, List.getElem_toArray, List.getElem_cons_succ, List.getElem_cons_zero]
              refine tkd 3 (.agg (uc1).toArray) rfl (yieldsIf_load_mid (by rfl) 36 (.tmp 117) rfl (g1) (o1 + j * 69) rfl (uc1) _ (fun w' h => (HSE.out w' h).rangeAt HAT1.out) ubUnder rfl (by first | exact sizeUbL hxl | exact sizeUbL hyl | exact sizeUbL hpl | exact sizeUbL hpl1 | exact sizeUbL hpl2 | exact sizeUbL hplp)) hS ?_
              simp only [Act.put, List.setIfInBounds_toArray, List.set_cons_zero, List.set_cons_succ, List.getElem_toArray, List.getElem_cons_succ, List.getElem_cons_zero]
              refine tka 4 (.slice (some ⟨gp, op, none⟩) n ca) rfl hS ?_
              simp only [Act.put, List.setIfInBounds_toArray, List.set_cons_zero, List.set_cons_succ, List.getElem_toArray, List.getElem_cons_succ, List.getElem_cons_zero]
              refine tka 5 (.int .i64 (k : Int)) rfl hS ?_
              simp only [Act.put, List.setIfInBounds_toArray, List.set_cons_zero, List.set_cons_succ, List.getElem_toArray, List.getElem_cons_succ, List.getElem_cons_zero]
              refine tkb 6 (.pointer (some ⟨gp, op + k * 69, none⟩)) rfl hS ?_
              simp only [Act.put, List.setIfInBounds_toArray, List.set_cons_zero, List.set_cons_succ, List.getElem_toArray, List.getElem_cons_succ, List.getElem_cons_zero]
              refine tkd 7 (.agg (up).toArray) rfl (yieldsIf_load_mid (by rfl) 36 (.tmp 121) rfl (gp) (op + k * 69) rfl (up) _ (fun w' h => (HSE.out w' h).rangeAt HATP.out) ubUnder rfl (by first | exact sizeUbL hxl | exact sizeUbL hyl | exact sizeUbL hpl | exact sizeUbL hpl1 | exact sizeUbL hpl2 | exact sizeUbL hplp)) hS ?_
              simp only [Act.put, List.setIfInBounds_toArray, List.set_cons_zero, List.set_cons_succ, List.getElem_toArray, List.getElem_cons_succ, List.getElem_cons_zero]
              refine wpAnyH_one (k := 8) rfl (by kernel_rfl) ?_
              go_wp2_with fail
              refine (HS.out w8 (HSE.out _ hS)).mono ?_
              rintro e w9 ⟨rfl, hk⟩
              have hS1 := HSI.out _ ((HSE.out _ hS).trans hk)
              clear hS hk
              go_wp2_with fail
              refine ⟨hS1, ?_⟩
              refine wpAnyH_done (by kernel_rfl) ?_ _
              have HKR := Lib.hid (HSE.out _ hS1)
              clear hS1 HSE HSI
              have HR := Lib.hid (HR.out.keep HKR.out fun _ _ => id)
              have HG := Lib.hid (HG.out.keep HKR.out)
              have HK := Lib.hid (HK.out.trans HKR.out)
              have HV := Lib.hid (HV.out.keep HKR.out)
              have HF := Lib.hid (HF.out.keep HKR.out fun _ _ => id)
              have HKS_R := Lib.hid (HKS_R.out.trans HKR.out)
              have HOA2 := Lib.hid (HKR.out.owns HOA2.out fun _ _ => id)
              have HUA2 := Lib.hid (HUA2.out.keep HKR.out)
              have HKj := Lib.hid (HKj.out.trans HKR.out)
              have HPV := Lib.hid (HPV.out.keep HKR.out fun _ _ => id)
              have HATP := Lib.hid (HKR.out.rangeAt HATP.out)
              have HKl := Lib.hid (HKl.out.trans HKR.out)
              have HAT1 := Lib.hid (HKR.out.rangeAt HAT1.out)
              have HPV1 := Lib.hid (HPV1.out.keep HKR.out fun _ _ => id)
              go_wp2_with fail
              go_roundw
              case rel => exact ⟨m + 1, j + 1, by omega, by omega, by go_num, by go_num, Lib.hid (by rw [HTK.out, List.filter_append, List.length_append, HMJ.out, List.filter_cons, HBE.out]; rfl), HKl⟩
              case measure => simp [intOf]; omega
          · obtain rfl : nA = j := by omega
            have hcn := HCNT.out
            have hml := HMJ.out
            rw [List.take_of_length_le (by rw [List.length_map, HNQA.out]; exact Nat.le_refl _)] at hml
            rw [hml] at hcn
            clear hml
            have HC : Hid (∀ w', Keep noBlk wr w' → Calls Tryz.prog 16 #[.agg up.toArray] w' (OkPost w' p.2.may)) := Lib.hid (fun w' kk => by
              have h := checkU_any w' _ _ (HPV.out.keep kk fun _ _ => id)
              rw [HUP.out] at h; exact h)
            obtain ⟨bm, hbm_⟩ : ∃ b, p.2.may = b := ⟨_, rfl⟩
            rw [hbm_] at hcn HC
            clear hbm_
            cases bm
            · obtain rfl : m = 0 := by rw [hcn]; rfl
              clear hcn
              go_wp2_with ((with_reducible show wpList _ _ _ (⟨_, .load 36 (.tmp 131), _, _, _, _⟩ :: _) _ _); refine wpList_load_g (by rfl) 36 (.tmp 131) rfl gp (op + k * 69) rfl up _ HATP.out ubUnder rfl (sizeUbL hplp) ?_)
              refine (HC.out _ (Keep.refl _ _)).mono ?_
              rintro e w8 ⟨rfl, hk⟩
              have HR := Lib.hid (HR.out.keep hk fun _ _ => id)
              have HG := Lib.hid (HG.out.keep hk)
              have HK := Lib.hid (HK.out.trans hk)
              have HV := Lib.hid (HV.out.keep hk)
              have HF := Lib.hid (HF.out.keep hk fun _ _ => id)
              have HKS_R := Lib.hid (HKS_R.out.trans hk)
              have HOA2 := Lib.hid (hk.owns HOA2.out fun _ _ => id)
              have HUA2 := Lib.hid (HUA2.out.keep hk)
              have HKj := Lib.hid (HKj.out.trans hk)
              have HPV := Lib.hid (HPV.out.keep hk fun _ _ => id)
              have HATP := Lib.hid (hk.rangeAt HATP.out)
              have HKl := Lib.hid (HKl.out.trans hk)
              clear hk
              go_wp2_with fail
              go_roundw
              case rel => exact ⟨k + 1, by omega, by go_num, HKj⟩
              case measure => simp [intOf]; omega
            · obtain rfl : m = 1 := by rw [hcn]; rfl
              clear hcn
              go_wp2_with ((with_reducible show wpList _ _ _ (⟨_, .load 36 (.tmp 142), _, _, _, _⟩ :: _) _ _); refine wpList_load_g (by rfl) 36 (.tmp 142) rfl gp (op + k * 69) rfl up _ HATP.out ubUnder rfl (sizeUbL hplp) ?_)
              refine (HC.out _ (Keep.refl _ _)).mono ?_
              rintro e w8 ⟨rfl, hk⟩
              have HR := Lib.hid (HR.out.keep hk fun _ _ => id)
              have HG := Lib.hid (HG.out.keep hk)
              have HK := Lib.hid (HK.out.trans hk)
              have HV := Lib.hid (HV.out.keep hk)
              have HF := Lib.hid (HF.out.keep hk fun _ _ => id)
              have HKS_R := Lib.hid (HKS_R.out.trans hk)
              have HOA2 := Lib.hid (hk.owns HOA2.out fun _ _ => id)
              have HUA2 := Lib.hid (HUA2.out.keep hk)
              have HKj := Lib.hid (HKj.out.trans hk)
              have HPV := Lib.hid (HPV.out.keep hk fun _ _ => id)
              have HATP := Lib.hid (hk.rangeAt HATP.out)
              have HKl := Lib.hid (HKl.out.trans hk)
              clear hk
              go_wp2_with fail
              go_roundw
              case rel => exact ⟨k + 1, by omega, by go_num, HKj⟩
              case measure => simp [intOf]; omega
        · go_wp2_with fail
          go_ret
          exact ⟨rfl, HK.out⟩
  · go_wp2_with fail
    go_ret
    exact ⟨rfl, HK.out⟩

end Go.Proofs.YtaiicjhnhbkgmaaGreatDoor
