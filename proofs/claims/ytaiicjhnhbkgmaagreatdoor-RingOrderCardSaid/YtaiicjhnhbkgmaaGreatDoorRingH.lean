/-
  ring.Best.
  Conditions: at most 64 uberblocks of at most 65536 addresses each.
-/
import Derived.Test.YtaiicjhnhbkgmaaGreatDoorRingD
namespace Go.Proofs.YtaiicjhnhbkgmaaGreatDoor
open Go.RowKit Go.Maps Go.ChangeMaps
set_option maxRecDepth 100000
set_option linter.unusedVariables false

/-- Those that may be, with their slices' values. -/
def mayE (ps : List (Value × Ub)) : List (Value × Ub) := ps.filter fun p => p.2.may
theorem mayE_snoc (ps : List (Value × Ub)) (p : Value × Ub) : mayE (ps ++ [p]) = mayE ps ++ if p.2.may = true then [p] else [] := by
  unfold mayE
  rw [List.filter_append]
  by_cases h : p.2.may = true
  · rw [if_pos h]; simp [h]
  · rw [if_neg h]; simp [h]
theorem mayE_sub (ps : List (Value × Ub)) : ∀ p ∈ mayE ps, p ∈ ps ∧ p.2.may = true := fun p h => List.mem_filter.1 h
def BestPost (w : World) (L : List Ub) (e : Ending) (w' : World) : Prop :=
  ∃ v qs, e = .returned v ∧ w'.ownsRow w.heap.size 36 69 v qs.length (ubRow qs) ∧ IsBest L (qs.map (·.2)) ∧ UbsO w' w.heap.size qs ∧ Keep noBlk w w' ∧ qs.length ≤ L.length
theorem best_of {ps outs : List (Value × Ub)} (hl : UbLens ps) (h : outs.map (·.2) = (onceF secE [] (allE (mayE ps))).map (·.2)) : IsBest (ps.map (·.2)) (outs.map (·.2)) := by
  have hf : ∀ e ∈ mayE ps, UbFit e.2 := fun e he => ⟨(hl e (mayE_sub ps e he).1).2, (hl e (mayE_sub ps e he).1).1, (mayE_sub ps e he).2⟩
  have hb := drain_best hf
  rw [← h] at hb
  refine ⟨hb.1, fun u => ⟨fun hu => ?_, fun hu => (hb.2 u).2 ?_⟩⟩
  · have := (hb.2 u).1 hu
    obtain ⟨e, he, rfl⟩ := List.mem_map.1 this.1
    exact ⟨List.mem_map.2 ⟨e, (mayE_sub ps e he).1, rfl⟩, this.2⟩
  · obtain ⟨e, he, rfl⟩ := List.mem_map.1 hu.1
    exact ⟨List.mem_map.2 ⟨e, List.mem_filter.2 ⟨he, hu.2⟩, rfl⟩, hu.2⟩
theorem drain_step {q : List (Value × Ub)} {j : Nat} (h : q.length = j + 1) : drainF lessE q.length q = gD q 0 :: drainF lessE (nextF lessE q).length (nextF lessE q) ∧ (nextF lessE q).length = j := by
  match q, h with
  | x :: t, h =>
    have hl : (nextF lessE (x :: t)).length = j := by rw [(nextF_perm lessE).length_eq]; simpa using h
    rw [hl, h]
    exact ⟨rfl, rfl⟩
theorem once_len {α β : Type} [DecidableEq β] (sec : α → β) (was : β) (l : List α) : (onceF sec was l).length ≤ l.length := (onceF_sub sec was l).length_le
theorem wpList_build_to {P : Program} {ops : Array Oper} {rest : List Oper} {o : Oper} {a : Act} {w : World} {Q : Exit → Act → World → Prop} (hg : o.guard = none) (t : TypeId) (parts : Array (Nat × Operand)) (ho : o.op = .build t parts)
    (vs : List (Nat × Value)) (hv : (parts.toList.map fun p => (p.1, a.eval p.2)) = vs) (u : Value) (hb : ∀ w, (Instr.build t vs.toArray).run P w = .ok u w) (h : wpList P ops Q rest (a.put o.dst u) w) : wpList P ops Q (o :: rest) a w := by
  have hv2 : (parts.map fun (x : Nat × Operand) => match x with | (i, x) => (i, a.eval x)) = vs.toArray := by
    rw [← hv]
    apply Array.ext'
    rw [Array.toList_map, List.toList_toArray]
  refine wpList_plain hg fun K hK => ?_
  unfold Oper.wp execOp
  simp only [ho, hv2, Sem.run_bind, hb, Result.andThen_ok, Sem.run_pure]
  exact hK _ _ h
theorem strB_inj {a b : List UInt8} : (strB a = strB b) ↔ a = b := by
  constructor
  · intro h
    have h1 : (strB a).data = (strB b).data := by rw [h]
    exact Array.toList_inj.2 h1 |> fun h => by simpa [strB] using h
  · rintro rfl; rfl
theorem rangeAt_pre {w : World} {b o : Nat} {xs ys : List Value} (h : w.rangeAt b o (xs ++ ys)) : w.rangeAt b o xs := fun j v hv =>
  h j v (by rw [List.getElem?_append_left (List.getElem?_eq_some_iff.1 hv).1]; exact hv)
theorem once_same {d : List (Value × Ub)} {x : Value × Ub} (h : secE x = (d.getLast?.map secE).getD []) : onceF secE [] (d ++ [x]) = onceF secE [] d := by rw [onceF_snoc, if_pos h, List.append_nil]
theorem once_new {d : List (Value × Ub)} {x : Value × Ub} (h : secE x ≠ (d.getLast?.map secE).getD []) : onceF secE [] (d ++ [x]) = onceF secE [] d ++ [x] := by rw [onceF_snoc, if_neg h]
theorem last_snoc (d : List (Value × Ub)) (x : Value × Ub) : ((d ++ [x]).getLast?.map secE).getD [] = secE x := by rw [List.getLast?_append]; rfl
def qLen (qb : Nat) (w : World) : Nat := match w.cell? ⟨qb, 0, none⟩ with | some (.slice _ n _) => n | _ => 0
theorem qLen_of {w : World} {B qb : Nat} {v : Value} {es : List (Value × Ub)} (h : QIs w B qb v es) : qLen qb w = es.length := by
  obtain ⟨a, c, rfl⟩ := h.form
  unfold qLen
  rw [cell_of_one h.box]
/-- Behind the first loop. -/
structure BestI (w wr : World) (qb : Nat) (ps : List (Value × Ub)) (d q outs : List (Value × Ub)) (vo : Value) (was : List UInt8) : Prop where
  all : allE (mayE ps) = d ++ drainF lessE q.length q
  once : outs.map (·.2) = (onceF secE [] d).map (·.2)
  was : was = (d.getLast?.map secE).getD []
  own : wr.ownsRow w.heap.size 36 69 vo outs.length (ubRow outs)
  ubs : UbsO wr w.heap.size outs
  keep : Keep noBlk w wr
  len : outs.length ≤ d.length
  sum : d.length + q.length ≤ ps.length
set_option maxHeartbeats 32000000 in
theorem best_any (w : World) (v : Value) (ps : List (Value × Ub)) (hr : Rd w 69 v ps.length (ubRow ps)) (hV : UbsV w ps) (hl : ps.length ≤ 64) (ha : ∀ p ∈ ps, p.2.root.addrs.length ≤ 65536) :
    Calls Tryz.prog 12 #[v] w (BestPost w (ps.map (·.2))) := by
  obtain ⟨oa, ca, rfl, -, -⟩ := hr.form
  obtain ⟨n, hn⟩ : ∃ n, ps.length = n := ⟨_, rfl⟩
  have HN := Lib.hid hn; have HR := Lib.hid hr; have HV := Lib.hid hV; have HA := Lib.hid ha; have HL := Lib.hid hV.lens
  rw [hn] at hl ⊢
  obtain ⟨zc, hzc, hzl⟩ : ∃ zc, ubCs (.slice none 0 0) zUb = zc ∧ zc.length = 69 := ⟨_, rfl, rfl⟩
  have hzv : ∀ w, (zeroValue 36).run Tryz.prog w = .ok (.agg zc.toArray) w := by rw [← hzc]; exact zeroValUb
  obtain ⟨ze, hze⟩ : ∃ z, zEnt = z := ⟨_, rfl⟩
  have hzel : ze.length = 70 := by rw [← hze]; rfl
  have HZE : Hid (∀ w, (zeroValue 64).run Tryz.prog w = .ok (.agg ze.toArray) w) := Lib.hid (by rw [← hze]; exact zeroEnt)
  have HIE : Hid ((Tryz.prog.info? 64).map (fun i => (i.zero, i.size, i.bytes)) = some (some (.agg ze.toArray), 70, 136)) := Lib.hid (by rw [← hze]; exact infoEnt)
  clear hr hV hn ha hzc hze
  have HZV := Lib.hid hzv; clear hzv
  obtain ⟨w1, hw1, hk1, hb1, hs1⟩ := alloc_facts w #[.slice none 0 0] 60
  have HQ1 : Hid (QIs w1 w.heap.size w.heap.size (.slice none 0 0) []) := Lib.hid ⟨hb1, World.ownsRow_nil _ _ _ _, (fun p hp => by cases hp), fun p hp => by cases hp⟩
  obtain ⟨qb, hqb⟩ : ∃ b, w.heap.size = b := ⟨_, rfl⟩
  have HQB := Lib.hid hqb; have HK1 := Lib.hid hk1
  have hqb1 : qb < w1.heap.size := by omega
  rw [hqb] at HQ1
  clear hk1 hb1 hs1
  go_enter Tryz.func12, Tryz.ntmps12
  go_wp2_with fail
  clear hw1 hqb
  go_loopw [13] (fun i wr => ∃ (k : Nat) (qv : Value), k ≤ n ∧ i = .int .i64 k ∧ Hid (QIs wr qb qb qv (mayE (ps.take k))) ∧ Hid (Keep noBlk w wr)) (fun i _ => n - (intOf i).toNat)
  case atStart => exact ⟨0, _, Nat.zero_le _, rfl, HQ1, HK1⟩
  case round =>
  obtain ⟨k, qv, hk, rfl, HQ, HK⟩ := hrel
  by_cases hlt : k < n
  · have hki : (k : Int) < (n : Int) := by omega
    have hk0 : (0 : Int) ≤ (k : Int) := by omega
    obtain ⟨p, hp⟩ : ∃ p, ps[k]? = some p := ⟨ps[k]'(by rw [HN.out]; exact hlt), List.getElem?_eq_getElem _⟩
    have hrl := HR.out.keep HK.out fun _ _ => id
    obtain ⟨g, o, cap, hv, hat⟩ := rd_ub HL.out hrl hp
    have e1 : oa = some ⟨g, o, none⟩ := by cases hv; rfl
    subst e1
    have hpm := List.mem_of_getElem? hp
    have hpv := (HV.out.keep HK.out) p hpm
    have hpa := HA.out p hpm
    have HTK : Hid (ps.take (k + 1) = ps.take k ++ [p]) := Lib.hid (by rw [List.take_add_one, hp]; rfl)
    obtain ⟨pv, pu⟩ := p
    obtain ⟨ba, bc, hbv, -, -⟩ := hpv.root.rd.form
    have hbv2 : pv = .slice ba pu.root.addrs.length bc := hbv
    subst hbv2
    have hpl := ubCs_len (v := .slice ba pu.root.addrs.length bc) hpv.root.sum hpv.pool
    have huo := oneCell_ub (oa := ba) (n := pu.root.addrs.length) (ca := bc) pu
    have heo := oneCell_ent (oa := ba) (n := pu.root.addrs.length) (ca := bc) pu
    obtain ⟨sv, hsv⟩ : ∃ v, Value.slice ba pu.root.addrs.length bc = v := ⟨_, rfl⟩
    have HSL : Hid (∃ a n c, sv = .slice a n c) := Lib.hid ⟨_, _, _, hsv.symm⟩
    rw [hsv] at hpv hpl huo heo hat HTK
    obtain ⟨uc, huc⟩ : ∃ uc, ubCs sv pu = uc := ⟨_, rfl⟩
    have HUC := Lib.hid huc
    rw [huc] at hpl huo
    have HAT : Hid (wr.rangeAt g (o + k * 69) uc) := Lib.hid (by rw [← huc]; exact hat)
    have HPV : Hid (UbV wr sv pu) := Lib.hid hpv; have HUO := Lib.hid huo; have HEO := Lib.hid heo
    obtain ⟨B1, hB1⟩ : ∃ b, wr.heap.size = b := ⟨_, rfl⟩
    have HB1 := Lib.hid hB1
    clear hp hrl hv hat hpm hpv hpa huc huo heo hbv hB1 hsv
    go_wp2_with (first
      | ((with_reducible show wpList _ _ _ (⟨_, .load 36 (.tmp 15), _, _, _, _⟩ :: _) _ _); refine wpList_load_mid rfl 36 (.tmp 15) rfl g (o + k * 69) rfl uc _ HAT.out ubUnder rfl (sizeUbL hpl) ?_)
      | ((with_reducible show wpList _ _ _ (⟨_, .alloc 36, _, _, _, _⟩ :: _) _ _); refine wpList_alloc_at rfl 36 rfl _ HZV.out zc.toArray rfl ?_)
      | ((with_reducible show wpList _ _ _ (⟨none, .store 36 (.tmp 5) (.tmp 16), _, _, _, _⟩ :: _) _ _); (refine wpList_store_agg rfl 36 (.tmp 5) (.tmp 16) rfl wr.heap.size 0 uc rfl rfl zc.toArray 36 (heap_alloc_new _ _) (by rw [List.size_toArray, hzl, hpl]; exact Nat.le_refl _) (sizeUbL hpl) HUO.out ?_)
         intro w2 hb2 hk2
         rw [spl_whole _ _ (by rw [List.size_toArray, hzl, hpl])] at hb2
         have hk2' : Keep noBlk wr w2 := ((Keep.refl noBlk wr).alloc _).trans' hk2 (fun _ _ h => h) (fun i hi e => by omega)
         have HPV2 := Lib.hid (HPV.out.keep hk2' fun _ _ => id)
         rw [HB1.out] at hb2 ⊢
         have HBU := Lib.hid hb2; have HK2 := Lib.hid (HK.out.trans hk2'); have HQ2 := Lib.hid (HQ.out.keep hk2')
         clear hb2 hk2 hk2')
      | ((with_reducible show wpList _ _ _ (⟨_, .load 36 (.tmp 5), _, _, _, _⟩ :: _) _ _); refine wpList_load_mid rfl 36 (.tmp 5) rfl B1 0 rfl uc _ (rangeAt_whole HBU.out) ubUnder rfl (sizeUbL hpl) ?_))
    refine (show Calls Tryz.prog 30 #[.agg uc.toArray] w2 (UPackPost w2 pu) from by rw [← HUC.out]; exact upack_any w2 _ pu HPV2.out).mono ?_
    rintro e w3 ⟨v3, rfl, ho3, hk3⟩
    have HBU := Lib.hid (hk3.blk HBU.out id); have HK3 := Lib.hid (HK2.out.trans hk3); have HQ3 := Lib.hid (HQ2.out.keep hk3)
    have HPV3 := Lib.hid (HPV2.out.keep hk3 fun _ _ => id)
    have hrd3 := Rd.of_owns ho3
    have hcv := conv_rd hrd3
    clear ho3 hk3
    obtain ⟨a3, c3, hv3, -, -⟩ := hrd3.form
    subst hv3
    obtain ⟨l3, hl3⟩ : ∃ n, (packU pu).length = n := ⟨_, rfl⟩
    rw [hl3] at hcv ⊢
    obtain ⟨st, hst⟩ : ∃ s, strB (packU pu) = s := ⟨_, rfl⟩
    have HST := Lib.hid hst
    rw [hst] at hcv
    clear hst hl3 hrd3
    cases hm : pu.may
    · have HM : Hid (mayE (ps.take (k + 1)) = mayE (ps.take k)) := Lib.hid (by rw [HTK.out, mayE_snoc, if_neg (by rw [hm]; decide), List.append_nil])
      clear hm hcv
      rw [if_neg Bool.false_ne_true]
      go_wp2_with fail
      go_roundw
      case rel => exact ⟨k + 1, qv, by omega, by go_num, by rw [HM.out]; exact HQ3, HK3⟩
      case measure => simp [intOf]; omega
    · have HM : Hid (mayE (ps.take (k + 1)) = mayE (ps.take k) ++ [(sv, pu)]) := Lib.hid (by rw [HTK.out, mayE_snoc, if_pos hm])
      rw [if_pos rfl]
      obtain ⟨es, hes⟩ : ∃ es, mayE (ps.take k) = es := ⟨_, rfl⟩
      have hel : es.length ≤ 63 := by
        have h1 : es.length ≤ (ps.take k).length := by rw [← hes]; exact List.length_filter_le _ _
        rw [List.length_take] at h1
        omega
      rw [hes] at HM HQ3
      obtain ⟨qa, qc, rfl⟩ := HQ3.out.form
      obtain ⟨m, hm_⟩ : ∃ m, es.length = m := ⟨_, rfl⟩
      have HMN := Lib.hid hm_
      have HO3 : Hid (w3.ownsRow qb 64 70 (.slice qa m qc) m (entRow es)) := Lib.hid (by rw [← hm_]; exact HQ3.out.own)
      have hbx := HQ3.out.box
      rw [hm_] at hbx hel
      have hcq := cell_of_one hbx
      have HBX := Lib.hid hbx
      have hbd := buildEnt uc hpl st
      have hecl : (uc ++ [Value.string st]).length = 70 := by rw [List.length_append, hpl]; rfl
      obtain ⟨ec, hec⟩ : ∃ ec, uc ++ [Value.string st] = ec := ⟨_, rfl⟩
      have HEC : Hid (entCs (sv, pu) = ec) := Lib.hid (by rw [← hec, ← HUC.out, ← HST.out]; rfl)
      have HEO2 : Hid (∀ u ∈ ec, u.oneCell' = true) := Lib.hid (by rw [← HEC.out]; exact HEO.out)
      rw [hec] at hbd hecl
      have HBD := Lib.hid hbd
      have hqw : qb < w3.heap.size := lt_of_block hbx
      clear hm hes hm_ hbx hec hbd
      go_wp2_with (first
        | ((with_reducible show wpList _ _ _ (⟨_, .load 36 (.tmp 5), _, _, _, _⟩ :: _) _ _); refine wpList_load_mid rfl 36 (.tmp 5) rfl B1 0 rfl uc _ (rangeAt_whole HBU.out) ubUnder rfl (sizeUbL hpl) ?_)
        | ((with_reducible show wpList _ _ _ (⟨_, .build _ _, _, _, _, _⟩ :: _) _ _); refine wpList_build_to rfl 64 #[(0, .tmp 25), (1, .tmp 27)] rfl [(0, .agg uc.toArray), (1, .string st)] rfl (.agg ec.toArray) HBD.out ?_)
        | ((with_reducible show wpList _ _ _ (⟨_, .buildSlice _ 1 _, _, _, _, _⟩ :: _) _ _); refine wpList_build_one rfl 60 64 (.tmp 28) rfl Tryz.underlying60 HIE.out (by decide) (ec) hecl (by decide) rfl ?_
           have hkb : Keep noBlk w3 (w3.alloc (.cells (ec).toArray 64)) := (Keep.refl _ _).alloc _
           have HRN := Lib.hid (rd_blk (n := 1) (size := 70) (heap_alloc_new w3 (.cells (ec).toArray 64)) hecl (by unfold maxLen; omega))
           have HKB := Lib.hid hkb
           have hsb : w3.heap.size ≤ (w3.alloc (.cells (ec).toArray 64)).heap.size := by rw [World.size_alloc]; omega
           obtain ⟨X_w5, hX_w5⟩ : ∃ s, w3.heap.size = s := ⟨_, rfl⟩
           rw [hX_w5] at HRN hsb ⊢
           have hsc_w5 : w3.heap.size ≤ X_w5 := Nat.le_of_eq hX_w5
           have HX_w5 := Lib.hid hX_w5; clear hX_w5
           generalize hW4 : w3.alloc (.cells (ec).toArray 64) = w5 at *
           clear hW4 hkb)
        | (have HO5 := Lib.hid (HKB.out.owns HO3.out fun _ _ => id)
           have hzb : qb ≤ w5.heap.size := Nat.le_trans (Nat.le_of_lt hqw) HKB.out.size
           (at_builtin; refine wpList_append_rd rfl (.tmp 24) (.tmp 29) 60 rfl qb 64 (.agg ze.toArray) 70 136 Tryz.underlying60 HIE.out (by show ze.toArray.size = 70; rw [List.size_toArray]; exact hzel) (by decide) (.slice qa m qc) (m) (entRow es) rfl HO5.out (.slice (some ⟨X_w5, 0, none⟩) 1 1) (1) (ec) rfl HRN.out HEO2.out (by unfold maxLen; omega) (by omega) (by omega) ?_
            intro v' w6 ho5 hk5 hn5 hb5
            obtain ⟨g', cap', rfl⟩ := ownsRow_succ ho5
            have HO6 := Lib.hid ho5; have HK5 := Lib.hid hk5; have HB5 := Lib.hid hb5
            clear ho5 hk5 hn5 hb5)
           have hbx6 := HK5.out.blk (HKB.out.blk HBX.out id) (fun e => (HQ3.out.keep HKB.out).apart (by rw [HMN.out]; exact e))
           have hcq6 := cell_of_one hbx6
           have hfq6 := blk_free hbx6 0
           obtain ⟨w7, hw7⟩ : ∃ w7, w6.setCell ⟨qb, 0, none⟩ (.slice (some ⟨g', 0, none⟩) (m + 1) cap') = w7 := ⟨_, rfl⟩
           have hq7 : QIs w7 qb qb (.slice (some ⟨g', 0, none⟩) (m + 1) cap') (es ++ [(sv, pu)]) := by
             have hl7 : (es ++ [(sv, pu)]).length = m + 1 := by rw [List.length_append, HMN.out]; rfl
             refine ⟨by rw [← hw7]; exact set_blk hbx6 0 _, ?_, fun p hp => ?_, fun p hp => ?_⟩
             · rw [hl7, entRow_append, entRow_one, HEC.out, ← hw7]
               have hne : g' ≠ qb := fun e => by
                 obtain ⟨cur, hc⟩ := owns_block HO6.out (k := g') rfl
                 rw [e, hbx6] at hc
                 cases hc
               exact ((Keep.refl (fun j => j = qb) w6).setCell (p := ⟨qb, 0, none⟩) (fun _ => rfl) _).owns HO6.out (fun i hi e => hne (by cases hi; exact e))
             · rcases List.mem_append.1 hp with hp | hp
               · exact HQ3.out.lens p hp
               · obtain rfl : p = (sv, pu) := by simpa using hp
                 exact ⟨HPV3.out.root.sum, HPV3.out.pool⟩
             · rcases List.mem_append.1 hp with hp | hp
               · exact HQ3.out.sls p hp
               · obtain rfl : p = (sv, pu) := by simpa using hp
                 exact HSL.out
           have hk7 : Keep noBlk w w7 := by
             rw [← hw7]
             exact (((HK3.out.trans HKB.out).trans' HK5.out (U := noBlk) (fun _ _ h => h) (fun i hi e => by have := owns_base HO5.out e; have := HQB.out; omega)).setCell (p := ⟨qb, 0, none⟩) (fun h => absurd h (by have := HQB.out; show ¬ qb < _; omega)) _)
           have HQ7 := Lib.hid hq7; have HK7 := Lib.hid hk7
           clear hq7 hk7 hbx6))
      go_roundw
      case rel => exact ⟨k + 1, _, by omega, by go_num, by rw [HM.out]; exact HQ7, HK7⟩
      case measure => simp [intOf]; omega
  · obtain rfl : k = n := by omega
    rw [List.take_of_length_le (by rw [HN.out]; exact Nat.le_refl _)] at HQ
    have hel : (mayE ps).length ≤ ps.length := List.length_filter_le _ _
    rw [HN.out] at hel
    have HEL := Lib.hid hel
    have HI := Lib.hid (init_any wr qb qb qv _ HQ.out (by omega))
    have hbx := HQ.out.box
    clear hel hbx
    go_wp2_with fail
    refine HI.out.mono ?_
    rintro e w2 ⟨rfl, hq2, hk2⟩
    have hK2 : Keep noBlk w w2 := HK.out.trans' hk2 (fun _ _ h => h) (fun i hi e => by
      have hB := HQB.out
      rcases e with e | e
      · omega
      · have := owns_base HQ.out.own e; omega)
    have HBI : Hid (BestI w w2 qb ps [] (heapF lessE (mayE ps)) [] (.slice none 0 0) []) := Lib.hid
      ⟨by rw [List.nil_append, (heapF_perm lessE _).length_eq]; rfl, rfl, rfl, World.ownsRow_nil _ _ _ _, (fun q hq => by cases hq), hK2, Nat.le_refl _, by rw [(heapF_perm lessE _).length_eq, List.length_nil, HN.out]; have := HEL.out; omega⟩
    have HQ2 := Lib.hid hq2
    have hqv2 : ∃ (qv2 : Value) (q : List (Value × Ub)), Hid (QIs w2 qb qb qv2 q) ∧ Hid (BestI w w2 qb ps [] q [] (.slice none 0 0) []) := ⟨qv, _, HQ2, HBI⟩
    clear hq2 hk2 hK2 HI HBI HQ2
    go_wp2_with fail
    go_loopw [8, 9] (fun o s wr => ∃ (pa : Option Addr) (pc j : Nat) (was : List UInt8) (d q outs : List (Value × Ub)) (qv : Value), o = .slice pa j pc ∧ s = .string (strB was) ∧ Hid (outs.length = j) ∧ Hid (QIs wr qb qb qv q) ∧ Hid (BestI w wr qb ps d q outs (.slice pa j pc) was)) (fun _ _ wr => qLen qb wr)
    case atStart =>
      obtain ⟨qv2, q, h1, h2⟩ := hqv2
      exact ⟨none, 0, 0, [], [], q, [], qv2, rfl, rfl, Lib.hid rfl, h1, h2⟩
    case round =>
    clear hqv2
    obtain ⟨pa, pc, j, was, d, q, outs, qv, rfl, rfl, HJ, HQ, HB⟩ := hrel
    obtain ⟨qa, qc, rfl⟩ := HQ.out.form
    obtain ⟨m, hm_⟩ : ∃ m, q.length = m := ⟨_, rfl⟩
    have HMN := Lib.hid hm_
    have hml : m ≤ 64 := by have h1 := HB.out.sum; rw [HN.out, hm_] at h1; omega
    have hbx := HQ.out.box
    rw [hm_] at hbx
    have hcq := cell_of_one hbx
    clear hbx hm_
    by_cases hm0 : m = 0
    · subst hm0
      have HW : Hid (BestPost w (ps.map (·.2)) (.returned (.slice pa j pc)) wr) := Lib.hid (by
        have hb := HB.out
        have hq0 : q = [] := List.eq_nil_of_length_eq_zero HMN.out
        subst hq0
        have hd : allE (mayE ps) = d := by rw [hb.all]; exact List.append_nil _
        have hjl : outs.length = j := HJ.out
        refine ⟨_, outs, rfl, by rw [hjl]; have := hb.own; rw [hjl] at this; exact this, best_of HL.out (by rw [hd]; exact hb.once), hb.ubs, hb.keep, ?_⟩
        rw [List.length_map]
        have h1 := hb.len
        have h2 := hb.sum
        omega)
      go_wp2_with fail
      go_ret
      exact HW.out
    · have hmz : (0 : Int) < (m : Int) := by omega
      have HNX := Lib.hid (next_any wr qb qb _ q HQ.out (by rw [HMN.out]; omega) (by rw [HMN.out]; omega))
      obtain ⟨⟨xv, xu⟩, hx⟩ : ∃ x, gD q 0 = x := ⟨_, rfl⟩
      have hxm : (xv, xu) ∈ q := List.mem_of_getElem? (by rw [← hx]; exact gD_get (by rw [HMN.out]; omega))
      have hxe : (xv, xu) ∈ mayE ps := by
        refine (allE_perm _).mem_iff.1 ?_
        rw [HB.out.all]
        refine List.mem_append.2 (.inr ?_)
        obtain ⟨j', hj'⟩ : ∃ j', q.length = j' + 1 := ⟨m - 1, by rw [HMN.out]; omega⟩
        rw [(drain_step hj').1, hx]
        exact List.mem_cons_self ..
      have hxp := (mayE_sub ps _ hxe).1
      have HXV0 : Hid (UbV w xv xu) := Lib.hid (HV.out _ hxp)
      have HXA : Hid (xu.root.addrs.length ≤ 65536) := Lib.hid (HA.out _ hxp)
      rw [hx, HMN.out] at HNX
      have HX := Lib.hid hx
      clear hxm hxe hxp hx
      obtain ⟨xa, xc, hxs, -, -⟩ := HXV0.out.root.rd.form
      have hxs : xv = .slice xa xu.root.addrs.length xc := hxs
      have hlx := entCs_len (p := (xv, xu)) ⟨HXV0.out.root.sum, HXV0.out.pool⟩
      have h1x : ∀ u ∈ entCs (xv, xu), u.oneCell' = true := by rw [hxs]; exact oneCell_ent xu
      obtain ⟨lx, hlx_⟩ : ∃ l, entCs (xv, xu) = l := ⟨_, rfl⟩
      have HLX := Lib.hid hlx_; have H1X : Hid (∀ u ∈ lx, u.oneCell' = true) := Lib.hid (by rw [← hlx_]; exact h1x)
      rw [hlx_] at HNX hlx
      have HXS := Lib.hid hxs
      have hcl := Lib.hid HB.out.keep
      have HDR : Hid (drainF lessE q.length q = (xv, xu) :: drainF lessE (nextF lessE q).length (nextF lessE q) ∧ (nextF lessE q).length + 1 = m) := Lib.hid (by
        obtain ⟨j', hj'⟩ : ∃ j', q.length = j' + 1 := ⟨m - 1, by rw [HMN.out]; omega⟩
        have h1 := drain_step hj'
        refine ⟨by rw [h1.1, HX.out], ?_⟩
        have := HMN.out; omega)
      obtain ⟨st, hst⟩ : ∃ s, strB (packU xu) = s := ⟨_, rfl⟩
      obtain ⟨sw, hsw⟩ : ∃ s, strB was = s := ⟨_, rfl⟩
      have HST := Lib.hid hst; have HSW := Lib.hid hsw
      have hse : (st.toList == sw.toList) = decide (packU xu = was) := by rw [← hst, ← hsw]; exact strB_eq _ _
      rw [hsw]
      obtain ⟨es2, hes2⟩ : ∃ e, nextF lessE q = e := ⟨_, rfl⟩
      have HNF := Lib.hid hes2
      clear hlx_ h1x hxs hst hsw hes2
      by_cases hpw : packU xu = was
      case' pos =>
        have he : (st.toList == sw.toList) = true := by rw [hse]; exact decide_eq_true hpw
      case' neg =>
        have he : (st.toList == sw.toList) = false := by rw [hse]; exact decide_eq_false hpw
      all_goals clear hse
      case neg =>
        go_wp2_with fail
        refine HNX.out.mono ?_
        rintro e w2 ⟨rfl, qv2, hq2, hqo, hk2⟩
        have HQ2 := Lib.hid hq2
        have HKX : Hid (Keep noBlk w w2) := Lib.hid (HB.out.keep.trans' hk2 (fun _ _ h => h) (fun i hi e => by
          have hB := HQB.out
          rcases e with e | e
          · omega
          · have h1 := HQ.out.own; rw [HMN.out] at h1; have := owns_base h1 e; omega))
        have hqk : ∀ i, QK qb (.slice qa m qc) i → i = qb ∨ ∃ cur, wr.heap[i]? = some (.cells cur 64 (0, 0)) := fun i e => by
          rcases e with e | e
          · exact .inl e
          · have h1 := HQ.out.own; rw [HMN.out] at h1; exact .inr (owns_block h1 e)
        have hfar : ∀ (e : TypeId) (B s n : Nat) (v : Value) (xs : List Value), e ≠ 64 → e ≠ 60 → wr.ownsRow B e s v n xs → w2.ownsRow B e s v n xs := fun e B s n v xs he1 he2 ho => hk2.owns ho (fun i hi h => by
          obtain ⟨cur, hc⟩ := owns_block ho hi
          rcases hqk i h with h | ⟨cur2, h⟩
          · have h2 := HQ.out.box; rw [← h, hc] at h2; cases h2; exact he2 rfl
          · rw [hc] at h; cases h; exact he1 rfl)
        have HO2 : Hid (w2.ownsRow w.heap.size 36 69 (.slice pa j pc) j (ubRow outs)) := Lib.hid (by have h1 := HB.out.own; rw [HJ.out] at h1; exact hfar _ _ _ _ _ _ (by decide) (by decide) h1)
        have HU2 : Hid (UbsO w2 w.heap.size outs) := Lib.hid (fun q hq => by
          obtain ⟨a, b, c, d⟩ := HB.out.ubs q hq
          exact ⟨a, b, c, hfar _ _ _ _ _ _ (by decide) (by decide) d⟩)
        have HXV : Hid (UbV w2 xv xu) := Lib.hid (HXV0.out.keep HKX.out fun _ _ => id)
        have hbx := HQ2.out.box
        have hqw : qb < w2.heap.size := lt_of_block hbx
        clear hq2 hqk hfar hbx hcq
        go_wp2_with (first
          | ((with_reducible show wpList _ _ _ (⟨_, .alloc 64, _, _, _, _⟩ :: _) _ _); refine wpList_alloc_at rfl 64 rfl _ HZE.out ze.toArray rfl ?_)
          | ((with_reducible show wpList _ _ _ (⟨none, .store 64 (.tmp 10) (.tmp 37), _, _, _, _⟩ :: _) _ _)
             refine wpList_store_agg rfl 64 (.tmp 10) (.tmp 37) rfl w2.heap.size 0 lx rfl rfl ze.toArray _ (heap_alloc_new _ _) (by rw [hlx, List.size_toArray, hzel]; exact Nat.le_refl _) (sizeEntL hlx) H1X.out ?_
             intro w3 hb3 hk3
             rw [spl_whole _ _ (by rw [hlx, List.size_toArray, hzel])] at hb3
             have hkb : Keep noBlk w2 w3 := ((Keep.refl noBlk w2).alloc _).trans' hk3 (fun _ _ h => h.elim) (fun i hi e => by omega)
             clear hk3
             obtain ⟨tb, htb⟩ : ∃ b, w2.heap.size = b := ⟨_, rfl⟩
             rw [htb] at hb3 ⊢
             have HTB := Lib.hid hb3
             have hc69 : w3.cell? ⟨tb, 69, none⟩ = some (.string st) := blk_cell hb3 (by rw [← HST.out, ← HLX.out, List.getElem?_toArray]; unfold entCs; rw [List.getElem?_append_right (by rw [ubCs_len HXV.out.root.sum HXV.out.pool]; omega), ubCs_len HXV.out.root.sum HXV.out.pool]; rfl)
             have hc1 : w3.cell? ⟨tb, 1, none⟩ = some (.slice xa xu.root.addrs.length xc) := blk_cell hb3 (by rw [← HLX.out, HXS.out, List.getElem?_toArray]; rfl)
             have HQ0 := HQ2; have HKX := Lib.hid (HKX.out.trans hkb); have HQ2 := Lib.hid (HQ2.out.keep hkb); have HO2 := Lib.hid (hkb.owns HO2.out fun _ _ => id); have HU2 := Lib.hid (HU2.out.keep hkb); have HXV := Lib.hid (HXV.out.keep hkb fun _ _ => id)
             have htq : tb ≠ qb := by omega
             have hqt : qv2.ownBlock ≠ some tb := fun e => by
               obtain ⟨cur, hc⟩ := owns_block HQ0.out.own e
               have := lt_of_block hc
               omega
             have htw : w.heap.size ≤ tb := by rw [← htb]; have := HB.out.keep.size; have := hk2.size; omega
             clear hb3 htb hkb hqw))
        refine (cloneAd_any w3 _ xu.root.addrs (by rw [← HXS.out]; exact HXV.out.root.rd) HXA.out).mono ?_
        rintro e w4 ⟨v4, rfl, ho4, hk4⟩
        obtain ⟨a4, c4, hv4, -, -⟩ := (Rd.of_owns ho4).form
        have hl4 := ubCs_len (v := v4) HXV.out.root.sum HXV.out.pool
        have h14 : ∀ u ∈ ubCs v4 xu, u.oneCell' = true := by rw [hv4]; exact oneCell_ub xu
        obtain ⟨w5, hw5⟩ : ∃ w5, w4.setCell ⟨tb, 1, none⟩ v4 = w5 := ⟨_, rfl⟩
        have hb4 := hk4.blk HTB.out id
        have hf4 := blk_free hb4 1
        have hc4 : w4.cell? ⟨tb, 1, none⟩ = some (.slice xa xu.root.addrs.length xc) := hk4.cell hc1 id
        have hb5 : w5.heap[tb]? = some (.cells (ubCs v4 xu ++ [Value.string st]).toArray 64 (0, 0)) := by
          have h1 := set_blk hb4 1 v4
          rw [hw5, ← HLX.out, entCs_put1 xv v4 xu] at h1
          rw [h1, ← HST.out]; rfl
        have hk5 : Keep (fun i => i = tb) w4 w5 := by rw [← hw5]; exact (Keep.refl (fun i => i = tb) w4).setCell (p := ⟨tb, 1, none⟩) (fun _ => rfl) _
        have hk35 : Keep (fun i => i = tb) w3 w5 := hk4.any.trans hk5
        have hfar5 : ∀ (e B s n : Nat) (v : Value) (xs : List Value), e ≠ 64 → w4.ownsRow B e s v n xs → w5.ownsRow B e s v n xs := fun e B s n v xs he1 ho => hk5.owns ho (fun i hi h => by
          obtain ⟨cur, hc⟩ := owns_block ho hi
          rw [h, hb4] at hc
          cases hc
          exact he1 rfl)
        have HKX3 := HKX
        have HKX := Lib.hid (HKX.out.trans' hk35 (fun _ _ h => h) (fun i hi e => by omega))
        have HQ2 : Hid (QIs w5 qb qb qv2 (nextF lessE q)) := Lib.hid (by
          have h1 := HQ2.out.keep hk4
          refine ⟨hk5.blk h1.box (fun e => htq e.symm), ?_, h1.lens, h1.sls⟩
          refine hk5.owns h1.own (fun i hi e => ?_)
          rw [e] at hi
          exact hqt hi)
        have HO2 := Lib.hid (hfar5 _ _ _ _ _ _ (by decide) (hk4.owns HO2.out fun _ _ => id))
        have HU2 : Hid (UbsO w5 w.heap.size outs) := Lib.hid (fun p hp => by
          obtain ⟨a, b, c, d⟩ := HU2.out.keep hk4 p hp
          exact ⟨a, b, c, hfar5 _ _ _ _ _ _ (by decide) d⟩)
        have HO4 : Hid (w5.ownsRow w.heap.size 70 2 v4 xu.root.addrs.length (adCells xu.root.addrs)) := Lib.hid (hfar5 _ _ _ _ _ _ (by decide) (ownsRow_mono ho4 (by have := HKX3.out.size; omega)))
        have hc69 : w5.cell? ⟨tb, 69, none⟩ = some (.string st) := blk_cell hb5 (by rw [List.getElem?_toArray, List.getElem?_append_right (by omega), hl4]; rfl)
        have HR5 : Hid (w5.rangeAt tb 0 (ubCs v4 xu)) := Lib.hid (rangeAt_pre (rangeAt_whole hb5))
        obtain ⟨lc, hlc⟩ : ∃ l, ubCs v4 xu = l := ⟨_, rfl⟩
        have HLC := Lib.hid hlc
        rw [hlc] at hl4 h14 HR5
        have H14 := Lib.hid h14
        have hzw5 : w.heap.size ≤ w5.heap.size := HKX.out.size
        have hj64 : j ≤ 64 := by
          have h1 := HB.out.len; have h2 := HB.out.sum; have h3 := HJ.out; have h4 := HN.out; omega
        rw [hv4] at hw5 ⊢
        have HTB5 := Lib.hid hb5; have HHW := Lib.hid hzw5
        clear hk4 hb4 hb5 hk5 hk35 hfar5 hlc h14 ho4 hc1 hv4 hzw5
        go_wp2_with (first
          | ((with_reducible show wpList _ _ _ (⟨_, .load 36 (.tmp 51), _, _, _, _⟩ :: _) _ _); refine wpList_load_mid rfl 36 (.tmp 51) rfl tb 0 rfl lc _ HR5.out ubUnder rfl (sizeUbL hl4) ?_)
          | ((with_reducible show wpList _ _ _ (⟨_, .buildSlice _ 1 _, _, _, _, _⟩ :: _) _ _); refine wpList_build_one rfl 22 36 (.tmp 52) rfl Tryz.underlying22 infoUb (by decide) (lc) hl4 (by decide) rfl ?_
             have hkb : Keep noBlk w5 (w5.alloc (.cells (lc).toArray 36)) := (Keep.refl _ _).alloc _
             have HRN := Lib.hid (rd_blk (n := 1) (size := 69) (heap_alloc_new w5 (.cells (lc).toArray 36)) hl4 (by unfold maxLen; omega))
             have HKB := Lib.hid hkb
             have hsb : w5.heap.size ≤ (w5.alloc (.cells (lc).toArray 36)).heap.size := by rw [World.size_alloc]; omega
             obtain ⟨X_w6, hX_w6⟩ : ∃ s, w5.heap.size = s := ⟨_, rfl⟩
             rw [hX_w6] at HRN hsb ⊢
             have hsc_w6 : w5.heap.size ≤ X_w6 := Nat.le_of_eq hX_w6
             have HX_w6 := Lib.hid hX_w6; clear hX_w6
             generalize hW4 : w5.alloc (.cells (lc).toArray 36) = w6 at *
             clear hW4 hkb)
          | (have HO6 := Lib.hid (HKB.out.owns HO2.out fun _ _ => id)
             have hzb : w.heap.size ≤ w6.heap.size := Nat.le_trans HHW.out HKB.out.size
             (at_builtin; refine wpList_append_rd rfl (.tmp 50) (.tmp 53) 22 rfl w.heap.size 36 (.agg (ubCs (.slice none 0 0) ⟨0, ⟨[], 0, 0, zeros32⟩, 0, zeros32⟩).toArray) 69 120 Tryz.underlying22 infoUb rfl (by decide) (.slice pa j pc) (j) (ubRow outs) rfl HO6.out (.slice (some ⟨X_w6, 0, none⟩) 1 1) (1) (lc) rfl HRN.out H14.out (by unfold maxLen; omega) (by omega) (by omega) ?_
              intro v' w7 ho5 hk5 hn5 hb5
              obtain ⟨g', cap', rfl⟩ := ownsRow_succ ho5
              have HO7 := Lib.hid ho5; have HK5 := Lib.hid hk5; have HB5 := Lib.hid hb5
              clear ho5 hk5 hn5 hb5)
             have hfa : ∀ (i : Nat) (cur : Array Value) (t : TypeId), w6.heap[i]? = some (.cells cur t (0, 0)) → t ≠ 36 → ¬ (Value.slice pa j pc).ownBlock = some i := fun i cur t hb hne e => by
               obtain ⟨cur2, hc⟩ := owns_block HO6.out e
               rw [hb] at hc
               cases hc
               exact hne rfl
             have hq6 := HQ2.out.keep HKB.out
             have HQ7 : Hid (QIs w7 qb qb qv2 (nextF lessE q)) := Lib.hid ⟨HK5.out.blk hq6.box (hfa _ _ _ hq6.box (by decide)), HK5.out.owns hq6.own (fun i hi e => owns_apartU HO6.out hq6.own (by decide) e hi), hq6.lens, hq6.sls⟩
             have hb6 := HKB.out.blk HTB5.out id
             have hb7 := HK5.out.blk hb6 (hfa _ _ _ hb6 (by decide))
             have hc69 : w7.cell? ⟨tb, 69, none⟩ = some (.string st) := blk_cell hb7 (by rw [HLC.out, List.getElem?_toArray, List.getElem?_append_right (by omega), hl4]; rfl)
             have HU7 : Hid (UbsO w7 w.heap.size (outs ++ [(v4, xu)])) := Lib.hid ((((HU2.out.snoc HXV.out.pool HXV.out.root.sum HXV.out.root.ads HO4.out)).keep HKB.out).grow HO6.out HK5.out)
             have HK7 : Hid (Keep noBlk w w7) := Lib.hid ((HKX.out.trans HKB.out).trans' HK5.out (U := noBlk) (fun _ _ h => h) (fun i hi e => by have := owns_base HO6.out e; omega))
             have HKX := HK7; have HQ2 := HQ7; have HU2 := HU7
             clear hfa hq6 hb6 hb7))
        go_roundw
        case rel =>
          have hb := HB.out
          exact ⟨some ⟨g', 0, none⟩, cap', j + 1, packU xu, d ++ [(xv, xu)], nextF lessE q, outs ++ [(v4, xu)], qv2, by go_num, by rw [HST.out], Lib.hid (by rw [List.length_append, HJ.out]; rfl), HQ7, Lib.hid
            ⟨by rw [hb.all, HDR.out.1, List.append_assoc]; rfl, by rw [List.map_append, hb.once, once_new (by show packU xu ≠ _; rw [← hb.was]; exact hpw), List.map_append]; rfl, (last_snoc d (xv, xu)).symm,
             by rw [List.length_append, HJ.out, ubRow_append, ubRow_one, HLC.out]; exact HO7.out, HU7.out, HK7.out, by have h1 := hb.len; simp only [List.length_append, List.length_cons, List.length_nil]; omega,
             by have h1 := hb.sum; have h2 := HDR.out.2; have h3 := HMN.out; simp only [List.length_append, List.length_cons, List.length_nil]; omega⟩⟩
        case measure =>
          rw [qLen_of HQ7.out, qLen_of HQ.out, HMN.out]
          have := HDR.out.2; omega
      go_wp2_with fail
      refine HNX.out.mono ?_
      rintro e w2 ⟨rfl, qv2, hq2, hqo, hk2⟩
      have HQ2 := Lib.hid hq2
      have HKX : Hid (Keep noBlk w w2) := Lib.hid (HB.out.keep.trans' hk2 (fun _ _ h => h) (fun i hi e => by
        have hB := HQB.out
        rcases e with e | e
        · omega
        · have h1 := HQ.out.own; rw [HMN.out] at h1; have := owns_base h1 e; omega))
      have hqk : ∀ i, QK qb (.slice qa m qc) i → i = qb ∨ ∃ cur, wr.heap[i]? = some (.cells cur 64 (0, 0)) := fun i e => by
        rcases e with e | e
        · exact .inl e
        · have h1 := HQ.out.own; rw [HMN.out] at h1; exact .inr (owns_block h1 e)
      have hfar : ∀ (e : TypeId) (B s n : Nat) (v : Value) (xs : List Value), e ≠ 64 → e ≠ 60 → wr.ownsRow B e s v n xs → w2.ownsRow B e s v n xs := fun e B s n v xs he1 he2 ho => hk2.owns ho (fun i hi h => by
        obtain ⟨cur, hc⟩ := owns_block ho hi
        rcases hqk i h with h | ⟨cur2, h⟩
        · have h2 := HQ.out.box; rw [← h, hc] at h2; cases h2; exact he2 rfl
        · rw [hc] at h; cases h; exact he1 rfl)
      have HO2 : Hid (w2.ownsRow w.heap.size 36 69 (.slice pa j pc) j (ubRow outs)) := Lib.hid (by have h1 := HB.out.own; rw [HJ.out] at h1; exact hfar _ _ _ _ _ _ (by decide) (by decide) h1)
      have HU2 : Hid (UbsO w2 w.heap.size outs) := Lib.hid (fun q hq => by
        obtain ⟨a, b, c, d⟩ := HB.out.ubs q hq
        exact ⟨a, b, c, hfar _ _ _ _ _ _ (by decide) (by decide) d⟩)
      have HXV : Hid (UbV w2 xv xu) := Lib.hid (HXV0.out.keep HKX.out fun _ _ => id)
      have hbx := HQ2.out.box
      have hqw : qb < w2.heap.size := lt_of_block hbx
      clear hq2 hqk hfar hbx hcq
      go_wp2_with (first
        | ((with_reducible show wpList _ _ _ (⟨_, .alloc 64, _, _, _, _⟩ :: _) _ _); refine wpList_alloc_at rfl 64 rfl _ HZE.out ze.toArray rfl ?_)
        | ((with_reducible show wpList _ _ _ (⟨none, .store 64 (.tmp 10) (.tmp 37), _, _, _, _⟩ :: _) _ _)
           refine wpList_store_agg rfl 64 (.tmp 10) (.tmp 37) rfl w2.heap.size 0 lx rfl rfl ze.toArray _ (heap_alloc_new _ _) (by rw [hlx, List.size_toArray, hzel]; exact Nat.le_refl _) (sizeEntL hlx) H1X.out ?_
           intro w3 hb3 hk3
           rw [spl_whole _ _ (by rw [hlx, List.size_toArray, hzel])] at hb3
           have hkb : Keep noBlk w2 w3 := ((Keep.refl noBlk w2).alloc _).trans' hk3 (fun _ _ h => h.elim) (fun i hi e => by omega)
           clear hk3
           obtain ⟨tb, htb⟩ : ∃ b, w2.heap.size = b := ⟨_, rfl⟩
           rw [htb] at hb3 ⊢
           have HTB := Lib.hid hb3
           have hc69 : w3.cell? ⟨tb, 69, none⟩ = some (.string st) := blk_cell hb3 (by rw [← HST.out, ← HLX.out, List.getElem?_toArray]; unfold entCs; rw [List.getElem?_append_right (by rw [ubCs_len HXV.out.root.sum HXV.out.pool]; omega), ubCs_len HXV.out.root.sum HXV.out.pool]; rfl)
           have hc1 : w3.cell? ⟨tb, 1, none⟩ = some (.slice xa xu.root.addrs.length xc) := blk_cell hb3 (by rw [← HLX.out, HXS.out, List.getElem?_toArray]; rfl)
           have HQ0 := HQ2; have HKX := Lib.hid (HKX.out.trans hkb); have HQ2 := Lib.hid (HQ2.out.keep hkb); have HO2 := Lib.hid (hkb.owns HO2.out fun _ _ => id); have HU2 := Lib.hid (HU2.out.keep hkb); have HXV := Lib.hid (HXV.out.keep hkb fun _ _ => id)
           have htq : tb ≠ qb := by omega
           have hqt : qv2.ownBlock ≠ some tb := fun e => by
             obtain ⟨cur, hc⟩ := owns_block HQ0.out.own e
             have := lt_of_block hc
             omega
           have htw : w.heap.size ≤ tb := by rw [← htb]; have := HB.out.keep.size; have := hk2.size; omega
           clear hb3 htb hkb hqw))
      go_roundw
      case rel =>
        have hb := HB.out
        exact ⟨pa, pc, j, packU xu, d ++ [(xv, xu)], nextF lessE q, outs, qv2, rfl, by rw [HST.out], HJ, HQ2, Lib.hid
          ⟨by rw [hb.all, HDR.out.1, List.append_assoc]; rfl, by rw [hb.once, once_same (by show packU xu = _; rw [hpw]; exact hb.was)], (last_snoc d (xv, xu)).symm, by rw [HJ.out]; exact HO2.out, HU2.out, HKX.out, Nat.le_trans hb.len (by simp),
           by have h1 := hb.sum; have h2 := HDR.out.2; have h3 := HMN.out; simp only [List.length_append, List.length_cons, List.length_nil]; omega⟩⟩
      case measure =>
        rw [qLen_of HQ2.out, qLen_of HQ.out, HMN.out]
        have := HDR.out.2; omega

end Go.Proofs.YtaiicjhnhbkgmaaGreatDoor
