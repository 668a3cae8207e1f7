/-
  LabelMost: the pool of labels is that which more than half of them have, in whatever order they stand.
  Conditions: none but those of the given statement.
-/
import Derived.Test.YtdlegbcdmlmbpaaLPools
import Derived.Test.YtdlegbcdmlmbpaaPlain7
import Derived.Test.YtdlegbcdmlmbpaaLBack
import Derived.Test.YtdlegbcdmlmbpaaLTurned
namespace Go.Proofs.Ytdlegbcdmlmbpaa
open Go.RowKit
set_option maxRecDepth 100000
set_option linter.unusedVariables false

theorem Keep.keep_rd {w w' : World} {size n : Nat} {v : Value} {l : List Value} (h : Keep noBlk w w') (hr : Rd w size v n l) : Rd w' size v n l := hr.keep h fun _ _ => id
theorem labCells_append (a b : List Lab) : labCells (a ++ b) = labCells a ++ labCells b := by simp [labCells]
theorem labCells_one (x : Lab) : labCells [x] = x.cells := by simp [labCells]
theorem labsOk_append {a b : List Lab} (ha : LabsOk a) (hb : LabsOk b) : LabsOk (a ++ b) := fun x hx => by
  rcases List.mem_append.1 hx with h | h
  · exact ha x h
  · exact hb x h
theorem labsOk_perm {a b : List Lab} (h : a.Perm b) (hb : LabsOk b) : LabsOk a := fun x hx => hb x (h.subset hx)
theorem labsOk_rep {x : Lab} (h : x.pool.length = 32) (n : Nat) : LabsOk (List.replicate n x) := fun y hy => by rw [(List.mem_replicate.1 hy).2]; exact h
/-- A bad label: no devices, another pool. -/
def badLab (x : Lab) : Lab := { x with devs := 0, pool := x.pool.set 0 (x.pool.getD 0 0 ^^^ 1) }
theorem badLab_may (x : Lab) : (badLab x).may = false := by
  unfold Lab.may badLab
  exact decide_eq_false (fun h => by have := h.1.1; simp at this)
theorem badLab_pool (x : Lab) (h : x.pool.length = 32) : (badLab x).pool.length = 32 := by unfold badLab; simp [h]
theorem bad_stores {w : World} {b : Nat} {L : Lab} (hL : L.pool.length = 32) {lc : List Value} (hl : L.cells = lc) (h : w.heap[b]? = some (.cells lc.toArray 25 (0, 0))) :
    ((w.setCell ⟨b, 33, none⟩ (.int .i64 0)).setCell ⟨b, 0, none⟩ (vb (L.pool.getD 0 0 ^^^ 1))).heap[b]? = some (.cells (badLab L).cells.toArray 25 (0, 0)) ∧ Keep (fun k => k = b) w ((w.setCell ⟨b, 33, none⟩ (.int .i64 0)).setCell ⟨b, 0, none⟩ (vb (L.pool.getD 0 0 ^^^ 1))) := by
  subst hl
  refine ⟨?_, ((Keep.refl _ _).setCell (S := fun k => k = b) (p := ⟨b, 33, none⟩) (fun _ => rfl) _).setCell (p := ⟨b, 0, none⟩) (fun _ => rfl) _⟩
  rw [set_blk (set_blk h 33 (.int .i64 0)) 0 _]
  congr 2
  have e : L.cells = L.pool.map vb ++ L.nums := rfl
  rw [e, List.setIfInBounds_toArray, List.setIfInBounds_toArray, List.set_append_right _ _ (by rw [List.length_map, hL]; omega), List.length_map, hL, List.set_append_left _ _ (by rw [List.length_map, hL]; omega), ← List.map_set]
  rfl
theorem lab_devs (L : Lab) (h : L.pool.length = 32) : L.cells.toArray[33]? = some (.int .i64 L.devs) := (L.at h).2.1
theorem lab_first (L : Lab) (h : L.pool.length = 32) : L.cells.toArray[0]? = some (vb (L.pool.getD 0 0)) := by
  rw [List.getElem?_toArray, L.cells_pool h 0 (by omega), List.getElem?_map, List.getD_eq_getElem?_getD, List.getElem?_eq_getElem (by omega)]
  rfl
theorem xor_one (a : UInt8) : Value.int .u8 (bits .xor .u8 (a.toNat : Int) 1) = vb (a ^^^ 1) := xor_any a 1
def FirstPost (w : World) (e : Ending) (w' : World) : Prop := e = .returned (.bool true) ∧ Keep noBlk w w'


set_option maxHeartbeats 8000000 in
theorem labelMost_main (w : World) (many : Int) (hlo : -9223372036854775808 ≤ many) (hhi : many ≤ 9223372036854775807) (r : Nat) (hr9 : r ≤ 9) (hrm : many % 10 = (r : Int)) (L : Lab) (hL : L.pool.length = 32) (hm : L.may = true)
    (ov : Value) (others : List Lab) (ho : LabsOk others) (hr : Rd w 37 ov others.length (labCells others)) (hno : others.length ≤ r) (fv : Value) (fs : List Bool) (hf : Rd w 1 fv fs.length (fs.map Value.bool)) :
    Calls Try.prog 9 #[.int .i64 many, .agg L.cells.toArray, ov, fv] w (FirstPost w) := by
  obtain ⟨oa, oc, rfl, -, -⟩ := hr.form
  obtain ⟨fa, fc, rfl, -, hfm⟩ := hf.form
  obtain ⟨lc, hlc⟩ : ∃ lc, L.cells = lc := ⟨_, rfl⟩
  have hlcl : lc.length = 37 := by rw [← hlc]; exact L.cells_length hL
  have hlco : ∀ u ∈ lc, u.oneCell' = true := by rw [← hlc]; exact oneCell_lab L
  obtain ⟨n2, hn2⟩ : ∃ n2, others.length = n2 := ⟨_, rfl⟩
  obtain ⟨nf, hnf⟩ : ∃ nf, fs.length = nf := ⟨_, rfl⟩
  have hflen : fs.length ≤ maxLen := by have := hf.2; obtain ⟨a, cap, h1, h2, h3, -⟩ := this; omega
  unfold maxLen at hflen
  obtain ⟨pv, hpv⟩ : ∃ pv, L.pool.map vb = pv := ⟨_, rfl⟩
  obtain ⟨xv, hxv⟩ : ∃ xv, (poolA others).1.map vb = xv := ⟨_, rfl⟩
  have hxl : (poolA others).1.length = 32 := by
    have := poolR_ok ho (poolKeys others).length
    unfold PoolR at this
    rw [List.take_length] at this
    exact this
  obtain ⟨sb, hsb⟩ : ∃ sb, decide (0 < (poolA others).2) = sb := ⟨_, rfl⟩
  have HPVL : Hid (pv.length = 32) := Lib.hid (by rw [← hpv, List.length_map]; exact hL)
  have HXVL : Hid (xv.length = 32) := Lib.hid (by rw [← hxv, List.length_map]; exact hxl)
  have HSPV : Hid ((Try.prog.info? 23).map (·.size) = some pv.length) := Lib.hid (by rw [HPVL.out]; exact sizeID)
  have HSXV : Hid ((Try.prog.info? 23).map (·.size) = some xv.length) := Lib.hid (by rw [HXVL.out]; exact sizeID)
  have HPVO : Hid (∀ u ∈ pv, u.oneCell' = true) := Lib.hid (by rw [← hpv]; exact oneCell_vb _)
  have HXVO : Hid (∀ u ∈ xv, u.oneCell' = true) := Lib.hid (by rw [← hxv]; exact oneCell_vb _)
  have heqp := fun w => eqID L.pool L.pool hL hL w
  have heqx := fun w => eqID (poolA others).1 (poolA others).1 hxl hxl w
  rw [hpv] at heqp
  rw [hxv] at heqx
  simp only [decide_true] at heqp heqx
  have hbb : ∀ w, (binOp .eql 4 (.bool sb) (.bool sb)).run Try.prog w = .ok (.bool true) w := fun w => by cases sb <;> kernel_rfl
  have HEP := Lib.hid heqp; have HEX := Lib.hid heqx; have HBB := Lib.hid hbb
  have CP : ∀ (l : List Lab), LabsOk l → l.length ≤ 20 → (poolA l).1 = L.pool → 0 < (poolA l).2 → ∀ w v, Rd w 37 v l.length (labCells l) → Calls Try.prog 23 #[v] w fun e w' => e = .returned (.tuple #[.agg pv.toArray, .bool true]) ∧ Keep noBlk w w' := fun l h1 h2 h3 h4 w v h5 => by
    have := pool1 w v l h1 h5 (by omega)
    unfold PoolPost at this
    rw [h3, hpv, decide_eq_true h4] at this
    exact this
  have CX : ∀ (l : List Lab), LabsOk l → l.length ≤ 20 → poolA l = poolA others → ∀ w v, Rd w 37 v l.length (labCells l) → Calls Try.prog 23 #[v] w fun e w' => e = .returned (.tuple #[.agg xv.toArray, .bool sb]) ∧ Keep noBlk w w' := fun l h1 h2 h3 w v h5 => by
    have := pool1 w v l h1 h5 (by omega)
    unfold PoolPost at this
    rw [h3, hxv, hsb] at this
    exact this
  have HCP := Lib.hid CP; have HCX := Lib.hid CX
  have CK := Lib.hid (check_keep L hL hlc (n := 0) (by rw [hm]; rfl))
  have HRM := Lib.hid hrm; have HLC := Lib.hid hlc; have HLL := Lib.hid hlcl; have HLO := Lib.hid hlco; have HN2 := Lib.hid hn2; have HNF := Lib.hid hnf; have HPV := Lib.hid hpv
  have HSL : Hid ((Try.prog.info? 25).map (·.size) = some lc.length) := Lib.hid (by rw [hlcl]; exact sizeLab)
  have HM := Lib.hid hm; have HL := Lib.hid hL
  obtain ⟨M, hMr⟩ : ∃ M, r + 1 = M := ⟨_, rfl⟩
  have hM1 : M ≤ r + 1 := by omega
  have hM2 : r + 1 ≤ M := by omega
  clear hMr
  have hdm : decide ((M : Int) < 1 + (r : Int)) = false := decide_eq_false (by omega)
  have hge : decide ((1 + (r : Int)) ≤ (n2 : Int)) = false := decide_eq_false (by omega)
  obtain ⟨w0, hw0, hk0, hb0, hs0⟩ := alloc_facts w lc.toArray 25
  have HRW := Lib.hid hr; have HK0 := Lib.hid (Keep.refl noBlk w0); have HR00 := Lib.hid (hk0.keep_rd hr); have HF00 := Lib.hid (hk0.keep_rd hf); have HKW := Lib.hid hk0; have HBX := Lib.hid hb0; have HRO := Lib.hid (hk0.keep_rd hr); have HRF := Lib.hid (hk0.keep_rd hf)
  rw [hlc]
  rw [hn2] at hno HRO HR00 HRW ⊢
  rw [hnf] at hflen HRF HF00 ⊢
  have HS0 := Lib.hid hs0
  clear hr hf hlc hlcl hlco hpv hxv hxl hsb heqp heqx hbb CP CX hk0 hb0 hs0 hm hrm hn2 hnf
  go_enter Try.func9, Try.ntmps9
  go_wp2_with fail
  clear hw0
  refine (awake_any w0).mono ?_
  rintro e w1 ⟨rfl, hk1⟩
  have HKW := Lib.hid (HKW.out.trans hk1)
  have HK0 := Lib.hid (HK0.out.trans hk1)
  have HBX := Lib.hid (hk1.blk HBX.out id)
  have HRO := Lib.hid (hk1.keep_rd HRO.out)
  have HRF := Lib.hid (hk1.keep_rd HRF.out)
  clear hk1
  go_wp2_with fail
  refine (pick_any w1 many 10 (by omega) (by omega) hlo hhi).mono ?_
  rintro e w2 ⟨rfl, rfl⟩
  rw [HRM.out]
  go_wp2_with (first
    | ((with_reducible show wpList _ _ _ (⟨some 32, .load 25 (.tmp 5), _, _, _, _⟩ :: _) _ _); refine wpList_load_mid rfl 25 (.tmp 5) rfl w.heap.size 0 rfl lc _ (rangeAt_whole HBX.out) Try.underlying25 rfl HSL.out ?_))
  refine (CK.out _).mono ?_
  rintro e w3 ⟨rfl, hk3⟩
  have HKW := Lib.hid (HKW.out.trans hk3)
  have HK0 := Lib.hid (HK0.out.trans hk3)
  have HBX := Lib.hid (hk3.blk HBX.out id)
  have HRO := Lib.hid (hk3.keep_rd HRO.out)
  have HRF := Lib.hid (hk3.keep_rd HRF.out)
  clear hk3
  have hwa : w.heap.size < w3.heap.size := lt_of_block HBX.out
  have HOM : Hid ((w3.alloc (.cells #[] 25)).ownsRow w3.heap.size 25 37 (.slice (some ⟨w3.heap.size, 0, none⟩) 0 0) 0 []) := Lib.hid (World.ownsRow_made w3 #[] 0 (Nat.le_refl _) (by unfold maxLen; omega) rfl)
  go_wp2_with (first
    | (at_builtin; refine wpList_append_rd rfl (.tmp 42) (.tmp 43) 42 rfl w3.heap.size 25 (.agg zeroLab.cells.toArray) 37 72 Try.underlying42 infoLab rfl (by decide) (.slice (some ⟨w3.heap.size, 0, none⟩) 0 0) 0 [] rfl HOM.out (.slice oa n2 oc) n2 (labCells others) rfl (HRO.out.keep ((Keep.refl noBlk w3).alloc _) fun _ _ => id) (oneCell_labs others) (by unfold maxLen; omega) (by omega) (by rw [World.size_alloc]; omega) ?_
       intro v4 w4 ho4 hk4 hn4 hb4
       rw [Nat.zero_add, List.nil_append] at ho4
       have hkk : Keep noBlk w3 w4 := ((Keep.refl noBlk w3).alloc (.cells #[] 25)).trans' hk4 (U := noBlk) (fun _ _ h => h) (fun i hi h => by have h' : w3.heap.size = i := Option.some.inj h; omega)
       obtain ⟨va, vc, rfl, -, -⟩ := (Rd.of_owns ho4).form
       have HO4 := Lib.hid ho4
       have HKW := Lib.hid (HKW.out.trans hkk)
       have HK0 := Lib.hid (HK0.out.trans hkk)
       have HBX := Lib.hid (hkk.blk HBX.out id)
       have HRO := Lib.hid (hkk.keep_rd HRO.out)
       have HRF := Lib.hid (hkk.keep_rd HRF.out)
       have hs4 := hkk.size
       clear ho4 hk4 hn4 hb4 hkk))
  clear HOM
  obtain ⟨B1, hB1⟩ : ∃ B1, w3.heap.size = B1 := ⟨_, rfl⟩
  rw [hB1] at HO4 hs4 hwa
  clear hB1

  go_loopw [10, 11] (fun t i wr => ∃ (k : Nat) (va : Option Addr) (vc : Nat), k ≤ M ∧ i = .int .i64 k ∧ t = .slice va (n2 + k) vc ∧ Hid (wr.ownsRow B1 25 37 (.slice va (n2 + k) vc) (n2 + k) (labCells (others ++ List.replicate k L))) ∧ Hid (Keep (fun b => B1 ≤ b) w4 wr)) (fun _ i _ => M - (intOf i).toNat)
  case atStart => exact ⟨0, va, vc, by omega, rfl, rfl, Lib.hid (by rw [List.replicate_zero, List.append_nil]; exact HO4.out), Lib.hid (Keep.refl _ _)⟩
  case round =>
    obtain ⟨k, va, vc, hk, rfl, rfl, HO, HKA⟩ := hrel
    have hsz := HKA.out.size
    by_cases hlt : k < M
    · have HBR := Lib.hid (HKA.out.blk HBX.out (by omega))
      go_wp2_with (first
        | ((with_reducible show wpList _ _ _ (⟨some 51, .load 25 (.tmp 5), _, _, _, _⟩ :: _) _ _); refine wpList_load_mid rfl 25 (.tmp 5) rfl w.heap.size 0 rfl lc _ (rangeAt_whole HBR.out) Try.underlying25 rfl HSL.out ?_)
        | ((with_reducible show wpList _ _ _ (⟨some 52, .buildSlice _ _ _, _, _, _, _⟩ :: _) _ _); refine wpList_build_one rfl 42 25 (.tmp 51) rfl Try.underlying42 infoLab (by decide) lc HLL.out (by decide) rfl ?_
           have hkb : Keep noBlk wr (wr.alloc (.cells lc.toArray 25)) := (Keep.refl _ _).alloc _
           have HRN := Lib.hid (rd_blk (n := 1) (size := 37) (heap_alloc_new wr (.cells lc.toArray 25)) (by rw [HLL.out]) (by unfold maxLen; omega))
           have HO' := Lib.hid (hkb.owns HO.out fun _ _ => id)
           have HKB := Lib.hid hkb
           have hsb := World.size_alloc wr (.cells lc.toArray 25)
           generalize hW4 : wr.alloc (.cells lc.toArray 25) = w4 at *
           clear hW4 hkb)
        | (at_builtin; refine wpList_append_rd rfl (.tmp 50) (.tmp 52) 42 rfl B1 25 (.agg zeroLab.cells.toArray) 37 72 Try.underlying42 infoLab rfl (by decide) (.slice va (n2 + k) vc) (n2 + k) (labCells (others ++ List.replicate k L)) rfl HO'.out (.slice (some ⟨wr.heap.size, 0, none⟩) 1 1) 1 lc rfl HRN.out HLO.out (by unfold maxLen; omega) (by omega) (by omega) ?_
           intro v' w5 ho5 hk5 hn5 hb5
           obtain ⟨g', cap', rfl⟩ := ownsRow_succ ho5
           have HO5 := Lib.hid ho5; have HK5 := Lib.hid hk5; have HB5 := Lib.hid hb5
           clear ho5 hk5 hn5 hb5))
      have HOE : Hid (w5.ownsRow B1 25 37 (.slice (some ⟨g', 0, none⟩) (n2 + k + 1) cap') (n2 + k + 1) (labCells (others ++ List.replicate (k + 1) L))) := Lib.hid (by
        rw [List.replicate_succ', ← List.append_assoc, labCells_append, labCells_one, show L.cells = lc from HLC.out]; exact HO5.out)
      have HKE := Lib.hid ((HKA.out.trans' HKB.out (fun _ _ h => h) (fun _ _ h => h.elim)).trans' HK5.out (U := fun b => B1 ≤ b) (fun _ _ h => h) (fun b _ h => owns_base HO.out h))
      clear HO5 HK5 HB5 HO' HRN HKB HO HKA HBR
      go_roundw
      case rel => exact ⟨k + 1, _, _, by omega, by go_num, rfl, HOE, HKE⟩
      case measure => simp [intOf]; omega
    · obtain rfl : k = M := by omega
      obtain ⟨wo, rfl⟩ : ∃ wo : World, wo = wr := ⟨_, rfl⟩
      obtain ⟨A, hA⟩ : ∃ A, others ++ List.replicate k L = A := ⟨_, rfl⟩
      have hAo : LabsOk A := by rw [← hA]; exact labsOk_append ho (labsOk_rep HL.out _)
      obtain ⟨n, hn⟩ : ∃ n, n2 + k = n := ⟨_, rfl⟩
      have hAl : A.length = n := by rw [← hA, List.length_append, HN2.out, List.length_replicate]; exact hn
      have hAp : (poolA A).1 = L.pool ∧ 0 < (poolA A).2 := by rw [← hA]; exact poolA_most others L k HM.out (by rw [HN2.out]; omega)
      have hn20 : n ≤ 20 := by omega
      have hown := HO.out
      rw [hA, hn] at hown
      rw [hn]
      have hrdA := Rd.of_owns hown
      have hfarA : ∀ b, (Value.slice va n vc).ownBlock = some b → b < wo.heap.size := fun b hb => (hown.lt b hb).2
      have HRA := Lib.hid hrdA; have HFA := Lib.hid hfarA; have HAL := Lib.hid hAl; have HAP := Lib.hid hAp; have HAE := Lib.hid hA
      have HBO := Lib.hid (HKA.out.blk HBX.out (by omega))
      have HKWO := Lib.hid (HKW.out.trans' HKA.out (U := noBlk) (fun _ _ h => h) (fun i hi h => by omega))
      have HKO0 : Hid (Keep (fun b => w.heap.size < b) w0 wo) := Lib.hid ((HK0.out.trans' HKA.out (U := fun b => w.heap.size < b) (fun _ _ h => h.elim) (fun i hi h => by omega)))
      clear hA hAl hAp hn hown hrdA hfarA HO HKA HO4 HRO HRF
      go_wp2_with fail
      go_loopw [12, 13, 14] (fun t u i wr => ∃ (j nF nB : Nat) (F Bk : List Lab) (pa : Option Addr) (pc : Nat) (qa : Option Addr) (qc : Nat), j ≤ n ∧ nF + nB = j ∧ i = .int .i64 j ∧ t = .slice pa nF pc ∧ u = .slice qa nB qc ∧ Hid (F.length = nF ∧ Bk.length = nB ∧ (F ++ Bk).Perm (A.take j)) ∧
        Hid (wr.ownsRow wo.heap.size 25 37 (.slice pa nF pc) nF (labCells F)) ∧ Hid (wr.ownsRow wo.heap.size 25 37 (.slice qa nB qc) nB (labCells Bk)) ∧ Hid (∀ b, (Value.slice pa nF pc).ownBlock = some b → (Value.slice qa nB qc).ownBlock = some b → False) ∧ Hid (Keep (fun b => wo.heap.size ≤ b) wo wr)) (fun _ _ i _ => n - (intOf i).toNat)
      case atStart => exact ⟨0, 0, 0, [], [], none, 0, none, 0, by omega, rfl, rfl, rfl, rfl, Lib.hid ⟨rfl, rfl, by simp⟩, Lib.hid (World.ownsRow_nil _ _ _ _), Lib.hid (World.ownsRow_nil _ _ _ _), Lib.hid (fun b h => by cases h), Lib.hid (Keep.refl _ _)⟩
      case round =>
        obtain ⟨j, nF, nB, F, Bk, pa, pc, qa, qc, hj, hsum, rfl, rfl, rfl, HPM, HOF, HOB, HDJ, HKL⟩ := hrel
        have hsz2 := HKL.out.size
        by_cases hlt2 : j < n
        · obtain ⟨x, hx⟩ : ∃ x, A[j]? = some x := ⟨A[j]'(by rw [HAL.out]; exact hlt2), List.getElem?_eq_getElem _⟩
          have hxo : x.pool.length = 32 := hAo x (List.mem_of_getElem? hx)
          have hRA := HRA.out.keep HKL.out (fun b hb h => by have := HFA.out b hb; omega)
          have hRA' := hRA
          rw [← HAL.out] at hRA'
          obtain ⟨g, o, cap, hv, hcells⟩ := rd_lab hAo hRA' hx
          have hvv : va = some ⟨g, o, none⟩ := by cases hv; rfl
          subst hvv
          have HC := Lib.hid hcells
          have HVX := Lib.hid (x.cells_length hxo)
          have HSX : Hid ((Try.prog.info? 25).map (·.size) = some x.cells.length) := Lib.hid (by rw [x.cells_length hxo]; exact sizeLab)
          have HTK : Hid (A.take (j + 1) = A.take j ++ [x]) := Lib.hid (by rw [List.take_add_one, hx]; rfl)
          have hnF : nF + nB ≤ 20 := by omega
          have HSUM := Lib.hid hsum
          have hnn : j < 20 := by omega
          clear hx hxo hRA hRA' hv hcells hsum
          by_cases hjf : j < nf
          · have htf : decide ((j : Int) < (nf : Int)) = true := decide_eq_true (by omega)
            obtain ⟨bb, hbb⟩ : ∃ bb, fs[j]? = some bb := ⟨fs[j]'(by rw [HNF.out]; exact hjf), List.getElem?_eq_getElem _⟩
            obtain ⟨fg, fo, hfa, hfc⟩ : ∃ fg fo, fa = some ⟨fg, fo, none⟩ ∧ wr.cell? ⟨fg, fo + j, none⟩ = some (.bool bb) := by
              have hF := HF00.out
              obtain ⟨hl0, a', c', hv', -, -, -, h4⟩ := hF
              cases hv'
              obtain ⟨fg, fo, rfl, hc⟩ := h4 (by rw [List.length_map, HNF.out]; omega)
              have hc' := hc j (.bool bb) (by rw [List.getElem?_map, hbb]; rfl)
              have hk2 : Keep (fun b => w.heap.size < b) w0 wr := HKO0.out.trans' HKL.out (fun _ _ h => h) (fun i hi h => by have := HKO0.out.size; have := lt_of_block HBO.out; omega)
              refine ⟨fg, fo, rfl, hk2.cell hc' (fun h => ?_)⟩
              have hlt3 := World.block_lt_of_cell? w0 _ hc'
              have hs0 := HS0.out
              have h' : w.heap.size < fg := h
              have hlt4 : fg < w0.heap.size := hlt3
              omega
            subst hfa
            have hji : (j : Int) < (nf : Int) := by omega
            have htn : decide (j < nf) = true := decide_eq_true hjf
            have hj0 : (0 : Int) ≤ (j : Int) := by omega
            clear hbb
            cases bb
            · go_wp2_with (first
                | ((with_reducible show wpList _ _ _ (⟨some 81, .load 25 (.tmp 80), _, _, _, _⟩ :: _) _ _); refine wpList_load_mid rfl 25 (.tmp 80) rfl g (o + j * 37) rfl x.cells _ HC.out Try.underlying25 rfl HSX.out ?_)
                | ((with_reducible show wpList _ _ _ (⟨some 82, .buildSlice _ _ _, _, _, _, _⟩ :: _) _ _); refine wpList_build_one rfl 42 25 (.tmp 81) rfl Try.underlying42 infoLab (by decide) x.cells HVX.out (by decide) rfl ?_
                   have hkb : Keep noBlk wr (wr.alloc (.cells x.cells.toArray 25)) := (Keep.refl _ _).alloc _
                   have HRN := Lib.hid (rd_blk (n := 1) (size := 37) (heap_alloc_new wr (.cells x.cells.toArray 25)) (by rw [HVX.out]) (by unfold maxLen; omega))
                   have HOB' := Lib.hid (hkb.owns HOB.out fun _ _ => id)
                   have HOF' := Lib.hid (hkb.owns HOF.out fun _ _ => id)
                   have HKB := Lib.hid hkb
                   have hsb := World.size_alloc wr (.cells x.cells.toArray 25)
                   generalize hW4 : wr.alloc (.cells x.cells.toArray 25) = w4 at *
                   clear hW4 hkb)
                | (at_builtin; refine wpList_append_rd rfl (.tmp 77) (.tmp 82) 42 rfl wo.heap.size 25 (.agg zeroLab.cells.toArray) 37 72 Try.underlying42 infoLab rfl (by decide) (.slice qa nB qc) nB (labCells Bk) rfl HOB'.out (.slice (some ⟨wr.heap.size, 0, none⟩) 1 1) 1 x.cells rfl HRN.out (oneCell_labC _) (by unfold maxLen; omega) (by omega) (by omega) ?_
                   intro v' w5 ho5 hk5 hn5 hb5
                   obtain ⟨g', cap', rfl⟩ := ownsRow_succ ho5
                   have HO5 := Lib.hid ho5; have HK5 := Lib.hid hk5; have HB5 := Lib.hid hb5
                   clear ho5 hk5 hn5 hb5))
              have HKE := Lib.hid ((HKL.out.trans' HKB.out (fun _ _ h => h) (fun _ _ h => h.elim)).trans' HK5.out (U := fun b => wo.heap.size ≤ b) (fun _ _ h => h) (fun b _ h => owns_base HOB.out h))
              have HOT := Lib.hid (HK5.out.owns HOF'.out (fun b hb h => HDJ.out b hb h))
              have HOE : Hid (w5.ownsRow wo.heap.size 25 37 (.slice (some ⟨g', 0, none⟩) (nB + 1) cap') (nB + 1) (labCells (Bk ++ [x]))) := Lib.hid (by rw [labCells_append, labCells_one]; exact HO5.out)
              have HPE : Hid (F.length = nF ∧ (Bk ++ [x]).length = nB + 1 ∧ (F ++ (Bk ++ [x])).Perm (A.take (j + 1))) := Lib.hid ⟨HPM.out.1, by rw [List.length_append, HPM.out.2.1]; rfl, by rw [HTK.out, ← List.append_assoc]; exact HPM.out.2.2.append_right [x]⟩
              have HDE : Hid (∀ b, (Value.slice pa nF pc).ownBlock = some b → (Value.slice (some ⟨g', 0, none⟩) (nB + 1) cap').ownBlock = some b → False) := Lib.hid fun b h1 h2 => by
                rcases HB5.out with h | h
                · rw [h] at h2; exact HDJ.out b h1 h2
                · rw [h] at h2; cases h2; have := (HOF'.out.lt _ h1).2; omega
              clear HO5 HK5 HB5 HOF' HOB' HRN HKB HOF HOB HDJ HPM HKL HC
              go_roundw
              case rel => exact ⟨j + 1, nF, nB + 1, F, Bk ++ [x], _, _, _, _, by omega, by have := HSUM.out; omega, by go_num, rfl, rfl, HPE, HOT, HOE, HDE, HKE⟩
              case measure => simp [intOf]; omega
            · go_wp2_with (first
                | ((with_reducible show wpList _ _ _ (⟨some 74, .load 25 (.tmp 73), _, _, _, _⟩ :: _) _ _); refine wpList_load_mid rfl 25 (.tmp 73) rfl g (o + j * 37) rfl x.cells _ HC.out Try.underlying25 rfl HSX.out ?_)
                | ((with_reducible show wpList _ _ _ (⟨some 75, .buildSlice _ _ _, _, _, _, _⟩ :: _) _ _); refine wpList_build_one rfl 42 25 (.tmp 74) rfl Try.underlying42 infoLab (by decide) x.cells HVX.out (by decide) rfl ?_
                   have hkb : Keep noBlk wr (wr.alloc (.cells x.cells.toArray 25)) := (Keep.refl _ _).alloc _
                   have HRN := Lib.hid (rd_blk (n := 1) (size := 37) (heap_alloc_new wr (.cells x.cells.toArray 25)) (by rw [HVX.out]) (by unfold maxLen; omega))
                   have HOF' := Lib.hid (hkb.owns HOF.out fun _ _ => id)
                   have HOB' := Lib.hid (hkb.owns HOB.out fun _ _ => id)
                   have HKB := Lib.hid hkb
                   have hsb := World.size_alloc wr (.cells x.cells.toArray 25)
                   generalize hW4 : wr.alloc (.cells x.cells.toArray 25) = w4 at *
                   clear hW4 hkb)
                | (at_builtin; refine wpList_append_rd rfl (.tmp 70) (.tmp 75) 42 rfl wo.heap.size 25 (.agg zeroLab.cells.toArray) 37 72 Try.underlying42 infoLab rfl (by decide) (.slice pa nF pc) nF (labCells F) rfl HOF'.out (.slice (some ⟨wr.heap.size, 0, none⟩) 1 1) 1 x.cells rfl HRN.out (oneCell_labC _) (by unfold maxLen; omega) (by omega) (by omega) ?_
                   intro v' w5 ho5 hk5 hn5 hb5
                   obtain ⟨g', cap', rfl⟩ := ownsRow_succ ho5
                   have HO5 := Lib.hid ho5; have HK5 := Lib.hid hk5; have HB5 := Lib.hid hb5
                   clear ho5 hk5 hn5 hb5))
              have HKE := Lib.hid ((HKL.out.trans' HKB.out (fun _ _ h => h) (fun _ _ h => h.elim)).trans' HK5.out (U := fun b => wo.heap.size ≤ b) (fun _ _ h => h) (fun b _ h => owns_base HOF.out h))
              have HOT := Lib.hid (HK5.out.owns HOB'.out (fun b hb h => HDJ.out b h hb))
              have HOE : Hid (w5.ownsRow wo.heap.size 25 37 (.slice (some ⟨g', 0, none⟩) (nF + 1) cap') (nF + 1) (labCells (F ++ [x]))) := Lib.hid (by rw [labCells_append, labCells_one]; exact HO5.out)
              have HPE : Hid ((F ++ [x]).length = nF + 1 ∧ Bk.length = nB ∧ ((F ++ [x]) ++ Bk).Perm (A.take (j + 1))) := Lib.hid ⟨by rw [List.length_append, HPM.out.1]; rfl, HPM.out.2.1, by rw [HTK.out, List.append_assoc]; exact (List.perm_append_comm.append_left F).trans (by rw [← List.append_assoc]; exact HPM.out.2.2.append_right [x])⟩
              have HDE : Hid (∀ b, (Value.slice (some ⟨g', 0, none⟩) (nF + 1) cap').ownBlock = some b → (Value.slice qa nB qc).ownBlock = some b → False) := Lib.hid fun b h1 h2 => by
                rcases HB5.out with h | h
                · rw [h] at h1; exact HDJ.out b h1 h2
                · rw [h] at h1; cases h1; have := (HOB'.out.lt _ h2).2; omega
              clear HO5 HK5 HB5 HOF' HOB' HRN HKB HOF HOB HDJ HPM HKL HC
              go_roundw
              case rel => exact ⟨j + 1, nF + 1, nB, F ++ [x], Bk, _, _, _, _, by omega, by have := HSUM.out; omega, by go_num, rfl, rfl, HPE, HOE, HOT, HDE, HKE⟩
              case measure => simp [intOf]; omega
          · have htf : decide ((j : Int) < (nf : Int)) = false := decide_eq_false (by omega)
            have htn : decide (j < nf) = false := decide_eq_false hjf
            go_wp2_with (first
              | ((with_reducible show wpList _ _ _ (⟨some 81, .load 25 (.tmp 80), _, _, _, _⟩ :: _) _ _); refine wpList_load_mid rfl 25 (.tmp 80) rfl g (o + j * 37) rfl x.cells _ HC.out Try.underlying25 rfl HSX.out ?_)
              | ((with_reducible show wpList _ _ _ (⟨some 82, .buildSlice _ _ _, _, _, _, _⟩ :: _) _ _); refine wpList_build_one rfl 42 25 (.tmp 81) rfl Try.underlying42 infoLab (by decide) x.cells HVX.out (by decide) rfl ?_
                 have hkb : Keep noBlk wr (wr.alloc (.cells x.cells.toArray 25)) := (Keep.refl _ _).alloc _
                 have HRN := Lib.hid (rd_blk (n := 1) (size := 37) (heap_alloc_new wr (.cells x.cells.toArray 25)) (by rw [HVX.out]) (by unfold maxLen; omega))
                 have HOB' := Lib.hid (hkb.owns HOB.out fun _ _ => id)
                 have HOF' := Lib.hid (hkb.owns HOF.out fun _ _ => id)
                 have HKB := Lib.hid hkb
                 have hsb := World.size_alloc wr (.cells x.cells.toArray 25)
                 generalize hW4 : wr.alloc (.cells x.cells.toArray 25) = w4 at *
                 clear hW4 hkb)
              | (at_builtin; refine wpList_append_rd rfl (.tmp 77) (.tmp 82) 42 rfl wo.heap.size 25 (.agg zeroLab.cells.toArray) 37 72 Try.underlying42 infoLab rfl (by decide) (.slice qa nB qc) nB (labCells Bk) rfl HOB'.out (.slice (some ⟨wr.heap.size, 0, none⟩) 1 1) 1 x.cells rfl HRN.out (oneCell_labC _) (by unfold maxLen; omega) (by omega) (by omega) ?_
                 intro v' w5 ho5 hk5 hn5 hb5
                 obtain ⟨g', cap', rfl⟩ := ownsRow_succ ho5
                 have HO5 := Lib.hid ho5; have HK5 := Lib.hid hk5; have HB5 := Lib.hid hb5
                 clear ho5 hk5 hn5 hb5))
            have HKE := Lib.hid ((HKL.out.trans' HKB.out (fun _ _ h => h) (fun _ _ h => h.elim)).trans' HK5.out (U := fun b => wo.heap.size ≤ b) (fun _ _ h => h) (fun b _ h => owns_base HOB.out h))
            have HOT := Lib.hid (HK5.out.owns HOF'.out (fun b hb h => HDJ.out b hb h))
            have HOE : Hid (w5.ownsRow wo.heap.size 25 37 (.slice (some ⟨g', 0, none⟩) (nB + 1) cap') (nB + 1) (labCells (Bk ++ [x]))) := Lib.hid (by rw [labCells_append, labCells_one]; exact HO5.out)
            have HPE : Hid (F.length = nF ∧ (Bk ++ [x]).length = nB + 1 ∧ (F ++ (Bk ++ [x])).Perm (A.take (j + 1))) := Lib.hid ⟨HPM.out.1, by rw [List.length_append, HPM.out.2.1]; rfl, by rw [HTK.out, ← List.append_assoc]; exact HPM.out.2.2.append_right [x]⟩
            have HDE : Hid (∀ b, (Value.slice pa nF pc).ownBlock = some b → (Value.slice (some ⟨g', 0, none⟩) (nB + 1) cap').ownBlock = some b → False) := Lib.hid fun b h1 h2 => by
              rcases HB5.out with h | h
              · rw [h] at h2; exact HDJ.out b h1 h2
              · rw [h] at h2; cases h2; have := (HOF'.out.lt _ h1).2; omega
            clear HO5 HK5 HB5 HOF' HOB' HRN HKB HOF HOB HDJ HPM HKL HC
            go_roundw
            case rel => exact ⟨j + 1, nF, nB + 1, F, Bk ++ [x], _, _, _, _, by omega, by have := HSUM.out; omega, by go_num, rfl, rfl, HPE, HOT, HOE, HDE, HKE⟩
            case measure => simp [intOf]; omega
        · obtain rfl : j = n := by omega
          obtain ⟨wb, rfl⟩ : ∃ wb : World, wb = wr := ⟨_, rfl⟩
          have hpm : (F ++ Bk).Perm A := by have := HPM.out.2.2; rw [List.take_of_length_le (by rw [HAL.out]; exact Nat.le_refl _)] at this; exact this
          have hwo : w.heap.size < wo.heap.size := lt_of_block HBO.out
          have HKWX := Lib.hid (HKWO.out.trans' HKL.out (U := noBlk) (fun _ _ h => h) (fun i hi h => by omega))
          have HBX2 := Lib.hid (HKL.out.blk HBO.out (by omega))
          have HRAB := Lib.hid (HRA.out.keep HKL.out (fun b hb h => by have := HFA.out b hb; omega))
          have HFFB := Lib.hid (fun b (hb : (Value.slice pa nF pc).ownBlock = some b) => (HOF.out.lt b hb).2)
          have HFGE := Lib.hid (fun b (hb : (Value.slice pa nF pc).ownBlock = some b) => (HOF.out.lt b hb).1)
          have HPM2 := Lib.hid hpm
          have hFl : F.length = nF := HPM.out.1
          have hBl : Bk.length = nB := HPM.out.2.1
          have HLN : Hid ((F ++ Bk).length = nF + nB) := Lib.hid (by rw [List.length_append, hFl, hBl])
          have hsm : nF + nB ≤ 20 := by omega
          clear hpm hFl hBl hj hlt2 hlt HKWO HBO HKL hsum HBX HKW HK0
          go_wp2_with fail

          refine (HCP.out A hAo (by rw [HAL.out]; exact hn20) HAP.out.1 HAP.out.2 wb _ (by rw [HAL.out]; exact HRAB.out)).mono ?_
          rintro e w6 ⟨rfl, hk6⟩
          have hz6 := hk6.size
          have HKWX := Lib.hid (HKWX.out.trans hk6)
          have HBX2 := Lib.hid (hk6.blk HBX2.out id)
          have HOF := Lib.hid (hk6.owns HOF.out fun _ _ => id)
          have HOB := Lib.hid (hk6.owns HOB.out fun _ _ => id)
          clear hk6
          go_wp2_with (first
            | ((with_reducible show wpList _ _ _ (⟨some 15, .alloc 23, _, _, _, _⟩ :: _) _ _); refine wpList_alloc_at rfl 23 rfl zero32 zeroID (Array.replicate 32 (.int .u8 0)) rfl ?_)
            | ((with_reducible show wpList _ _ _ (⟨none, .store 23 (.tmp 15) (.tmp 87), _, _, _, _⟩ :: _) _ _); refine wpList_store_agg rfl 23 (.tmp 15) (.tmp 87) rfl w6.heap.size 0 pv rfl rfl (Array.replicate 32 (.int .u8 0)) _ (heap_alloc_new _ _) (by rw [HPVL.out, Array.size_replicate]; exact Nat.le_refl _) HSPV.out HPVO.out ?_
               intro w7 hb7 hk7
               rw [spl_whole _ _ (by rw [HPVL.out, Array.size_replicate])] at hb7
               have hkk : Keep noBlk w6 w7 := ((Keep.refl noBlk w6).alloc _).trans' hk7 (fun _ _ h => h) (fun i hi e => by omega)
               have HKWX := Lib.hid (HKWX.out.trans hkk)
               have HBX2 := Lib.hid (hkk.blk HBX2.out id)
               have HOF := Lib.hid (hkk.owns HOF.out fun _ _ => id)
               have HOB := Lib.hid (hkk.owns HOB.out fun _ _ => id)
               have hz7 := hkk.size
               have HX15 := Lib.hid hb7
               clear hb7 hk7 hkk)
            | (at_builtin; refine wpList_append_rd rfl (.tmp 90) (.tmp 91) 42 rfl wo.heap.size 25 (.agg zeroLab.cells.toArray) 37 72 Try.underlying42 infoLab rfl (by decide) (.slice pa nF pc) nF (labCells F) rfl HOF.out (.slice qa nB qc) nB (labCells Bk) rfl (Rd.of_owns HOB.out) (oneCell_labs Bk) (by unfold maxLen; omega) (by omega) (by omega) ?_
               intro v8 w8 ho8 hk8 hn8 hb8
               have HO8 := Lib.hid ho8; have HK8 := Lib.hid hk8
               obtain ⟨ra, rc, rfl, -, -⟩ := (Rd.of_owns ho8).form
               clear ho8 hk8 hn8 hb8))
          have HKWX := Lib.hid (HKWX.out.trans' HK8.out (U := noBlk) (fun _ _ h => h) (fun i hi h => by have := HFGE.out i h; omega))
          have HBX2 := Lib.hid (HK8.out.blk HBX2.out (fun h => by have := HFGE.out _ h; omega))
          have HX15 := Lib.hid (HK8.out.blk HX15.out (fun h => by have := HFFB.out _ h; omega))
          have hrd8 := Rd.of_owns HO8.out
          rw [← labCells_append] at hrd8
          have HRD8 := Lib.hid hrd8
          clear hrd8 HOF HOB HO8 HK8
          refine (HCP.out (F ++ Bk) (labsOk_perm HPM2.out hAo) (by rw [HLN.out]; exact hsm) (by rw [poolA_perm HPM2.out]; exact HAP.out.1) (by rw [poolA_perm HPM2.out]; exact HAP.out.2) w8 _ (by rw [HLN.out]; exact HRD8.out)).mono ?_
          rintro e w9 ⟨rfl, hk9⟩
          have hz9 := hk9.size
          have HKWX := Lib.hid (HKWX.out.trans hk9)
          have HBX2 := Lib.hid (hk9.blk HBX2.out id)
          have HX15 := Lib.hid (hk9.blk HX15.out id)
          clear hk9
          go_wp2_with (first
            | ((with_reducible show wpList _ _ _ (⟨some 17, .alloc 23, _, _, _, _⟩ :: _) _ _); refine wpList_alloc_at rfl 23 rfl zero32 zeroID (Array.replicate 32 (.int .u8 0)) rfl ?_)
            | ((with_reducible show wpList _ _ _ (⟨none, .store 23 (.tmp 17) (.tmp 94), _, _, _, _⟩ :: _) _ _); refine wpList_store_agg rfl 23 (.tmp 17) (.tmp 94) rfl w9.heap.size 0 pv rfl rfl (Array.replicate 32 (.int .u8 0)) _ (heap_alloc_new _ _) (by rw [HPVL.out, Array.size_replicate]; exact Nat.le_refl _) HSPV.out HPVO.out ?_
               intro w10 hb10 hk10
               rw [spl_whole _ _ (by rw [HPVL.out, Array.size_replicate])] at hb10
               have hkk : Keep noBlk w9 w10 := ((Keep.refl noBlk w9).alloc _).trans' hk10 (fun _ _ h => h) (fun i hi e => by omega)
               have HKWX := Lib.hid (HKWX.out.trans hkk)
               have HBX2 := Lib.hid (hkk.blk HBX2.out id)
               have HX15 := Lib.hid (hkk.blk HX15.out id)
               have hz10 := hkk.size
               have HX17 := Lib.hid hb10
               clear hb10 hk10 hkk)
            | ((with_reducible show wpList _ _ _ (⟨some 96, .load 25 (.tmp 5), _, _, _, _⟩ :: _) _ _); have hl15 := lt_of_block HX15.out; have hl17 := lt_of_block HX17.out; have hlx := lt_of_block HBX2.out; refine wpList_load_mid rfl 25 (.tmp 5) rfl w.heap.size 0 rfl lc _ (rangeAt_whole HBX2.out) Try.underlying25 rfl HSL.out ?_)
            | ((with_reducible show wpList _ _ _ (⟨some 19, .alloc 25, _, _, _, _⟩ :: _) _ _); refine wpList_alloc_at rfl 25 rfl _ zeroValLab zeroLab.cells.toArray rfl ?_)
            | ((with_reducible show wpList _ _ _ (⟨none, .store 25 (.tmp 19) (.tmp 96), _, _, _, _⟩ :: _) _ _); refine wpList_store_agg rfl 25 (.tmp 19) (.tmp 96) rfl w10.heap.size 0 lc rfl rfl zeroLab.cells.toArray _ (heap_alloc_new _ _) (by rw [HLL.out]; exact Nat.le_refl _) HSL.out HLO.out ?_
               intro w11 hb11 hk11
               rw [spl_whole _ _ (by rw [HLL.out]; rfl)] at hb11
               have hkk : Keep noBlk w10 w11 := ((Keep.refl noBlk w10).alloc _).trans' hk11 (fun _ _ h => h) (fun i hi e => by omega)
               have HKWX := Lib.hid (HKWX.out.trans hkk)
               have HBX2 := Lib.hid (hkk.blk HBX2.out id)
               have HX15 := Lib.hid (hkk.blk HX15.out id)
               have HX17 := Lib.hid (hkk.blk HX17.out id)
               have hw11 := hkk.size
               have h33 := blk_cell hb11 (show lc.toArray[33]? = some (.int .i64 L.devs) by rw [← HLC.out]; exact lab_devs L HL.out)
               have h00 := blk_cell hb11 (show lc.toArray[0]? = some (.int .u8 ((L.pool.getD 0 0).toNat : Int)) by rw [← HLC.out]; exact lab_first L HL.out)
               have f33 := blk_free hb11 33
               have f00 := blk_free hb11 0
               have HBS := Lib.hid (bad_stores HL.out HLC.out hb11)
               obtain ⟨py, hpy⟩ : ∃ py : Int, ((L.pool.getD 0 0).toNat : Int) = py := ⟨_, rfl⟩
               have HXO := Lib.hid (xor_one (L.pool.getD 0 0))
               rw [hpy] at h00 HXO
               clear hb11 hk11 hkk hpy)
            | ((with_reducible show wpList _ _ _ (⟨some 105, .load 25 (.tmp 19), _, _, _, _⟩ :: _) _ _)
               rw [HXO.out]
               obtain ⟨w12, hw12, hb12, hk12⟩ : ∃ w12, (w11.setCell ⟨w10.heap.size, 33, none⟩ (.int .i64 0)).setCell ⟨w10.heap.size, 0, none⟩ (vb (L.pool.getD 0 0 ^^^ 1)) = w12 ∧ w12.heap[w10.heap.size]? = some (.cells (badLab L).cells.toArray 25 (0, 0)) ∧ Keep (fun k => k = w10.heap.size) w11 w12 := ⟨_, rfl, HBS.out.1, HBS.out.2⟩
               rw [hw12]
               have HKWX := Lib.hid (HKWX.out.trans' hk12 (U := noBlk) (fun _ _ h => h) (fun i hi h => by omega))
               have HBX2 := Lib.hid (hk12.blk HBX2.out (by omega))
               have HX15 := Lib.hid (hk12.blk HX15.out (by omega))
               have HX17 := Lib.hid (hk12.blk HX17.out (by omega))
               have HBD := Lib.hid hb12
               clear hw12 hb12 hk12 h33 h00 f33 f00 HBS HXO
               obtain ⟨bc, hbc, hbcl⟩ : ∃ bc, (badLab L).cells = bc ∧ bc.length = 37 := ⟨_, rfl, (badLab L).cells_length (badLab_pool L HL.out)⟩
               rw [hbc] at HBD
               have HBC := Lib.hid hbc; have HBCL := Lib.hid hbcl
               have HSB : Hid ((Try.prog.info? 25).map (·.size) = some bc.length) := Lib.hid (by rw [hbcl]; exact sizeLab)
               clear hbc hbcl
               refine wpList_load_mid rfl 25 (.tmp 19) rfl w10.heap.size 0 rfl bc _ (rangeAt_whole HBD.out) Try.underlying25 rfl HSB.out ?_)
            | ((with_reducible show wpList _ _ _ (⟨some 106, .load 25 (.tmp 19), _, _, _, _⟩ :: _) _ _); refine wpList_load_mid rfl 25 (.tmp 19) rfl w10.heap.size 0 rfl bc _ (rangeAt_whole HBD.out) Try.underlying25 rfl HSB.out ?_)
            | ((with_reducible show wpList _ _ _ (⟨some 107, .load 25 (.tmp 5), _, _, _, _⟩ :: _) _ _); refine wpList_load_mid rfl 25 (.tmp 5) rfl w.heap.size 0 rfl lc _ (rangeAt_whole HBX2.out) Try.underlying25 rfl HSL.out ?_)
            | ((with_reducible show wpList _ _ _ (⟨some 108, .buildSlice _ _ _, _, _, _, _⟩ :: _) _ _)
               have hvss : ∀ vs ∈ [bc, bc, lc], vs.length = 37 := fun vs hvs => by
                 simp only [List.mem_cons, List.not_mem_nil, or_false] at hvs
                 rcases hvs with h | h | h <;> subst h <;> first | exact HBCL.out | exact HLL.out
               refine wpList_build_aggs rfl 42 25 3 _ rfl Try.underlying42 infoLab (by decide) [bc, bc, lc] hvss rfl (by decide) (by decide) (by simp [litParts, Act.eval, Act.put]) ?_
               have hkk : Keep noBlk w12 (w12.alloc (.cells [bc, bc, lc].flatten.toArray 25)) := (Keep.refl _ _).alloc _
               have HR3 := Lib.hid (rd_blk (n := 3) (size := 37) (heap_alloc_new w12 (.cells [bc, bc, lc].flatten.toArray 25)) (by simp [HBCL.out, HLL.out]) (by unfold maxLen; omega))
               have HKWX := Lib.hid (HKWX.out.trans hkk)
               have HBX2 := Lib.hid (hkk.blk HBX2.out id)
               have HX15 := Lib.hid (hkk.blk HX15.out id)
               have HX17 := Lib.hid (hkk.blk HX17.out id)
               generalize hw13 : w12.alloc (.cells [bc, bc, lc].flatten.toArray 25) = w13 at *
               clear hw13 hkk))
          have hbadL : Rd w13 37 (.slice (some ⟨w12.heap.size, 0, none⟩) 3 3) [badLab L, badLab L, L].length (labCells [badLab L, badLab L, L]) := by
            have := HR3.out
            rw [← HBC.out, ← HLC.out] at this
            simpa [labCells] using this
          have HRB := Lib.hid hbadL
          have hbo : LabsOk [badLab L, badLab L, L] := fun y hy => by
            simp at hy
            rcases hy with rfl | rfl
            · exact badLab_pool L HL.out
            · exact HL.out
          have HPB := Lib.hid (poolA_bad L (badLab L) HM.out (badLab_may L))
          clear hbadL HR3
          refine (HCP.out [badLab L, badLab L, L] hbo (by simp) HPB.out.1 HPB.out.2 w13 _ HRB.out).mono ?_
          rintro e w14 ⟨rfl, hk14⟩
          have hz14 := hk14.size
          have HKWX := Lib.hid (HKWX.out.trans hk14)
          have HBX2 := Lib.hid (hk14.blk HBX2.out id)
          have HX15 := Lib.hid (hk14.blk HX15.out id)
          have HX17 := Lib.hid (hk14.blk HX17.out id)
          clear hk14
          go_wp2_with (first
            | ((with_reducible show wpList _ _ _ (⟨some 20, .alloc 23, _, _, _, _⟩ :: _) _ _); refine wpList_alloc_at rfl 23 rfl zero32 zeroID (Array.replicate 32 (.int .u8 0)) rfl ?_)
            | ((with_reducible show wpList _ _ _ (⟨none, .store 23 (.tmp 20) (.tmp 110), _, _, _, _⟩ :: _) _ _); refine wpList_store_agg rfl 23 (.tmp 20) (.tmp 110) rfl w14.heap.size 0 pv rfl rfl (Array.replicate 32 (.int .u8 0)) _ (heap_alloc_new _ _) (by rw [HPVL.out, Array.size_replicate]; exact Nat.le_refl _) HSPV.out HPVO.out ?_
               intro w15 hb15 hk15
               rw [spl_whole _ _ (by rw [HPVL.out, Array.size_replicate])] at hb15
               have hkk : Keep noBlk w14 w15 := ((Keep.refl noBlk w14).alloc _).trans' hk15 (fun _ _ h => h) (fun i hi e => by omega)
               have HKWX := Lib.hid (HKWX.out.trans hkk)
               have HBX2 := Lib.hid (hkk.blk HBX2.out id)
               have HX15 := Lib.hid (hkk.blk HX15.out id)
               have HX17 := Lib.hid (hkk.blk HX17.out id)
               have hz15 := hkk.size
               have HX20 := Lib.hid hb15
               clear hb15 hk15 hkk))
          refine (HCX.out others ho (by rw [HN2.out]; omega) rfl w15 _ (by rw [HN2.out]; exact (HKWX.out.keep_rd HRW.out))).mono ?_
          rintro e w16 ⟨rfl, hk16⟩
          have hz16 := hk16.size
          have HKWX := Lib.hid (HKWX.out.trans hk16)
          have HBX2 := Lib.hid (hk16.blk HBX2.out id)
          have HX15 := Lib.hid (hk16.blk HX15.out id)
          have HX17 := Lib.hid (hk16.blk HX17.out id)
          have HX20 := Lib.hid (hk16.blk HX20.out id)
          clear hk16
          go_wp2_with (first
            | ((with_reducible show wpList _ _ _ (⟨some 22, .alloc 23, _, _, _, _⟩ :: _) _ _); refine wpList_alloc_at rfl 23 rfl zero32 zeroID (Array.replicate 32 (.int .u8 0)) rfl ?_)
            | ((with_reducible show wpList _ _ _ (⟨none, .store 23 (.tmp 22) (.tmp 115), _, _, _, _⟩ :: _) _ _); refine wpList_store_agg rfl 23 (.tmp 22) (.tmp 115) rfl w16.heap.size 0 xv rfl rfl (Array.replicate 32 (.int .u8 0)) _ (heap_alloc_new _ _) (by rw [HXVL.out, Array.size_replicate]; exact Nat.le_refl _) HSXV.out HXVO.out ?_
               intro w17 hb17 hk17
               rw [spl_whole _ _ (by rw [HXVL.out, Array.size_replicate])] at hb17
               have hkk : Keep noBlk w16 w17 := ((Keep.refl noBlk w16).alloc _).trans' hk17 (fun _ _ h => h) (fun i hi e => by omega)
               have HKWX := Lib.hid (HKWX.out.trans hkk)
               have HBX2 := Lib.hid (hkk.blk HBX2.out id)
               have HX15 := Lib.hid (hkk.blk HX15.out id)
               have HX17 := Lib.hid (hkk.blk HX17.out id)
               have HX20 := Lib.hid (hkk.blk HX20.out id)
               have hz17 := hkk.size
               have HX22 := Lib.hid hb17
               clear hb17 hk17 hkk))
          obtain ⟨wz, rfl⟩ : ∃ wz : World, wz = w17 := ⟨_, rfl⟩
          have hlx := lt_of_block HBX2.out
          have hl15 := lt_of_block HX15.out
          have hl17 := lt_of_block HX17.out
          have hl20 := lt_of_block HX20.out
          have hl22 := lt_of_block HX22.out
          have hzw := HKWX.out.size
          go_loopw [24, 25] (fun t i wr => ∃ (k q : Nat) (pa : Option Addr) (pc : Nat), k + q = n2 ∧ ((q = 0 ∧ i = .int .i64 (-1)) ∨ (∃ q' : Nat, q = q' + 1 ∧ i = .int .i64 q')) ∧ t = .slice pa k pc ∧ Hid (wr.ownsRow wz.heap.size 25 37 (.slice pa k pc) k (labCells (others.reverse.take k))) ∧ Hid (Keep (fun b => wz.heap.size ≤ b) wz wr)) (fun _ i _ => (intOf i + 1).toNat)
          case atStart =>
            refine ⟨0, n2, none, 0, by omega, ?_, rfl, Lib.hid (World.ownsRow_nil _ _ _ _), Lib.hid (Keep.refl _ _)⟩
            rcases Nat.eq_zero_or_pos n2 with h | h
            · exact .inl ⟨h, by rw [h]; rfl⟩
            · exact .inr ⟨n2 - 1, by omega, by congr 1; omega⟩
          case round =>
            obtain ⟨k3, q, pa, pc, hkq, hiq, rfl, HO, HKT⟩ := hrel
            have hsz3 := HKT.out.size
            rcases hiq with ⟨hq0, rfl⟩ | ⟨q', hq1, rfl⟩
            · obtain rfl : k3 = n2 := by omega
              have hK := HKT.out
              have HKWX := Lib.hid (HKWX.out.trans' hK (U := noBlk) (fun _ _ h => h) (fun i hi h => by omega))
              have HBX2 := Lib.hid (hK.blk HBX2.out (by omega)); have HX15 := Lib.hid (hK.blk HX15.out (by omega)); have HX17 := Lib.hid (hK.blk HX17.out (by omega)); have HX20 := Lib.hid (hK.blk HX20.out (by omega)); have HX22 := Lib.hid (hK.blk HX22.out (by omega))
              have hrT := Rd.of_owns HO.out
              rw [List.take_of_length_le (by rw [List.length_reverse, HN2.out]; exact Nat.le_refl _)] at hrT
              have HRT := Lib.hid hrT
              have HLT : Hid (others.reverse.length = k3) := Lib.hid (by rw [List.length_reverse]; exact HN2.out)
              have hoT : LabsOk others.reverse := fun y hy => ho y (List.mem_reverse.1 hy)
              have hk20 : k3 ≤ 20 := by omega
              clear hK hrT hq0 hkq HO HKT hno hge
              go_wp2_with fail
              refine (HCX.out others.reverse hoT (by rw [HLT.out]; omega) (poolA_perm (List.reverse_perm others)) wr _ (by rw [HLT.out]; exact HRT.out)).mono ?_
              rintro e w18 ⟨rfl, hk18⟩
              have hz18 := hk18.size
              have HKWX := Lib.hid (HKWX.out.trans hk18)
              have HBX2 := Lib.hid (hk18.blk HBX2.out id)
              have HX15 := Lib.hid (hk18.blk HX15.out id)
              have HX17 := Lib.hid (hk18.blk HX17.out id)
              have HX20 := Lib.hid (hk18.blk HX20.out id)
              have HX22 := Lib.hid (hk18.blk HX22.out id)
              clear hk18
              go_wp2_with (first
                | ((with_reducible show wpList _ _ _ (⟨some 26, .alloc 23, _, _, _, _⟩ :: _) _ _); refine wpList_alloc_at rfl 23 rfl zero32 zeroID (Array.replicate 32 (.int .u8 0)) rfl ?_)
                | ((with_reducible show wpList _ _ _ (⟨none, .store 23 (.tmp 26) (.tmp 134), _, _, _, _⟩ :: _) _ _); refine wpList_store_agg rfl 23 (.tmp 26) (.tmp 134) rfl w18.heap.size 0 xv rfl rfl (Array.replicate 32 (.int .u8 0)) _ (heap_alloc_new _ _) (by rw [HXVL.out, Array.size_replicate]; exact Nat.le_refl _) HSXV.out HXVO.out ?_
                   intro w19 hb19 hk19
                   rw [spl_whole _ _ (by rw [HXVL.out, Array.size_replicate])] at hb19
                   have hkk : Keep noBlk w18 w19 := ((Keep.refl noBlk w18).alloc _).trans' hk19 (fun _ _ h => h) (fun i hi e => by omega)
                   have HKWX := Lib.hid (HKWX.out.trans hkk)
                   have HBX2 := Lib.hid (hkk.blk HBX2.out id)
                   have HX15 := Lib.hid (hkk.blk HX15.out id)
                   have HX17 := Lib.hid (hkk.blk HX17.out id)
                   have HX20 := Lib.hid (hkk.blk HX20.out id)
                   have HX22 := Lib.hid (hkk.blk HX22.out id)
                   have hz19 := hkk.size
                   have HX26 := Lib.hid hb19
                   have HPQ := Lib.hid (show w19.rangeAt w.heap.size 0 pv from by rw [← HPV.out]; exact rangeAt_pool HL.out (by rw [HLC.out]; exact rangeAt_whole HBX2.out))
                   have heqp := HEP.out; have heqx := HEX.out; have hbb := HBB.out
                   clear hb19 hk19 hkk)
                | ((with_reducible show wpList _ _ _ (⟨some 141, .load 23 (.tmp 15), _, _, _, _⟩ :: _) _ _); refine wpList_load_g (by rfl) 23 (.tmp 15) rfl w6.heap.size 0 rfl pv _ (rangeAt_whole HX15.out) Try.underlying23 rfl HSPV.out ?_)
                | ((with_reducible show wpList _ _ _ (⟨some 143, .load 23 (.tmp 142), _, _, _, _⟩ :: _) _ _); refine wpList_load_g (by rfl) 23 (.tmp 142) rfl w.heap.size 0 rfl pv _ HPQ.out Try.underlying23 rfl HSPV.out ?_)
                | ((with_reducible show wpList _ _ _ (⟨some 150, .load 23 (.tmp 17), _, _, _, _⟩ :: _) _ _); refine wpList_load_g (by rfl) 23 (.tmp 17) rfl w9.heap.size 0 rfl pv _ (rangeAt_whole HX17.out) Try.underlying23 rfl HSPV.out ?_)
                | ((with_reducible show wpList _ _ _ (⟨some 152, .load 23 (.tmp 151), _, _, _, _⟩ :: _) _ _); refine wpList_load_g (by rfl) 23 (.tmp 151) rfl w.heap.size 0 rfl pv _ HPQ.out Try.underlying23 rfl HSPV.out ?_)
                | ((with_reducible show wpList _ _ _ (⟨some 159, .load 23 (.tmp 20), _, _, _, _⟩ :: _) _ _); refine wpList_load_g (by rfl) 23 (.tmp 20) rfl w14.heap.size 0 rfl pv _ (rangeAt_whole HX20.out) Try.underlying23 rfl HSPV.out ?_)
                | ((with_reducible show wpList _ _ _ (⟨some 161, .load 23 (.tmp 160), _, _, _, _⟩ :: _) _ _); refine wpList_load_g (by rfl) 23 (.tmp 160) rfl w.heap.size 0 rfl pv _ HPQ.out Try.underlying23 rfl HSPV.out ?_)
                | ((with_reducible show wpList _ _ _ (⟨some 165, .load 23 (.tmp 22), _, _, _, _⟩ :: _) _ _); refine wpList_load_g (by rfl) 23 (.tmp 22) rfl w16.heap.size 0 rfl xv _ (rangeAt_whole HX22.out) Try.underlying23 rfl HSXV.out ?_)
                | ((with_reducible show wpList _ _ _ (⟨some 166, .load 23 (.tmp 26), _, _, _, _⟩ :: _) _ _); refine wpList_load_g (by rfl) 23 (.tmp 26) rfl w18.heap.size 0 rfl xv _ (rangeAt_whole HX26.out) Try.underlying23 rfl HSXV.out ?_))
              go_ret
              exact ⟨rfl, HKWX.out⟩
            · have hq2 : q' < n2 := by omega
              obtain ⟨x, hx⟩ : ∃ x, others[q']? = some x := ⟨others[q']'(by rw [HN2.out]; exact hq2), List.getElem?_eq_getElem _⟩
              have hxo : x.pool.length = 32 := ho x (List.mem_of_getElem? hx)
              have hro := (HKWX.out.trans' HKT.out (U := noBlk) (fun _ _ h => h) (fun i hi h => by omega)).keep_rd HRW.out
              rw [← HN2.out] at hro
              obtain ⟨g, o, cap, hv, hcells⟩ := rd_lab ho hro hx
              have hvv : oa = some ⟨g, o, none⟩ := by cases hv; rfl
              subst hvv
              have HC := Lib.hid hcells
              have HVX := Lib.hid (x.cells_length hxo)
              have HSX : Hid ((Try.prog.info? 25).map (·.size) = some x.cells.length) := Lib.hid (by rw [x.cells_length hxo]; exact sizeLab)
              have hrev : others.reverse[k3]? = some x := by
                rw [List.getElem?_reverse (by rw [HN2.out]; omega), HN2.out, show n2 - 1 - k3 = q' by omega]; exact hx
              have HTK : Hid (others.reverse.take (k3 + 1) = others.reverse.take k3 ++ [x]) := Lib.hid (by rw [List.take_add_one, hrev]; rfl)
              have hq3 : (q' : Int) < (n2 : Int) := by omega
              have hq4 : (0 : Int) ≤ (q' : Int) := by omega
              have hk20 : k3 ≤ 20 := by omega
              have hq20 : (q' : Int) ≤ 20 := by omega
              have HKQ := Lib.hid hkq; have HQ1 := Lib.hid hq1
              clear hx hxo hro hv hcells hrev hkq hq1 hno hge
              go_wp2_with (first
                | ((with_reducible show wpList _ _ _ (⟨some 128, .load 25 (.tmp 127), _, _, _, _⟩ :: _) _ _); refine wpList_load_mid rfl 25 (.tmp 127) rfl g (o + q' * 37) rfl x.cells _ HC.out Try.underlying25 rfl HSX.out ?_)
                | ((with_reducible show wpList _ _ _ (⟨some 129, .buildSlice _ _ _, _, _, _, _⟩ :: _) _ _); refine wpList_build_one rfl 42 25 (.tmp 128) rfl Try.underlying42 infoLab (by decide) x.cells HVX.out (by decide) rfl ?_
                   have hkb : Keep noBlk wr (wr.alloc (.cells x.cells.toArray 25)) := (Keep.refl _ _).alloc _
                   have HRN := Lib.hid (rd_blk (n := 1) (size := 37) (heap_alloc_new wr (.cells x.cells.toArray 25)) (by rw [HVX.out]) (by unfold maxLen; omega))
                   have HO' := Lib.hid (hkb.owns HO.out fun _ _ => id)
                   have HKB := Lib.hid hkb
                   have hsb := World.size_alloc wr (.cells x.cells.toArray 25)
                   generalize hW4 : wr.alloc (.cells x.cells.toArray 25) = w4 at *
                   clear hW4 hkb)
                | (at_builtin; refine wpList_append_rd rfl (.tmp 124) (.tmp 129) 42 rfl wz.heap.size 25 (.agg zeroLab.cells.toArray) 37 72 Try.underlying42 infoLab rfl (by decide) (.slice pa k3 pc) k3 (labCells (others.reverse.take k3)) rfl HO'.out (.slice (some ⟨wr.heap.size, 0, none⟩) 1 1) 1 x.cells rfl HRN.out (oneCell_labC _) (by unfold maxLen; omega) (by omega) (by omega) ?_
                   intro v' w5 ho5 hk5 hn5 hb5
                   obtain ⟨g', cap', rfl⟩ := ownsRow_succ ho5
                   have HO5 := Lib.hid ho5; have HK5 := Lib.hid hk5; have HB5 := Lib.hid hb5
                   clear ho5 hk5 hn5 hb5))
              have HOE : Hid (w5.ownsRow wz.heap.size 25 37 (.slice (some ⟨g', 0, none⟩) (k3 + 1) cap') (k3 + 1) (labCells (others.reverse.take (k3 + 1)))) := Lib.hid (by rw [HTK.out, labCells_append, labCells_one]; exact HO5.out)
              have HKE := Lib.hid ((HKT.out.trans' HKB.out (fun _ _ h => h) (fun _ _ h => h.elim)).trans' HK5.out (U := fun b => wz.heap.size ≤ b) (fun _ _ h => h) (fun b _ h => owns_base HO.out h))
              clear HO5 HK5 HB5 HO' HRN HKB HO HKT HC
              go_roundw
              case rel =>
                refine ⟨k3 + 1, q', _, _, by have := HKQ.out; have := HQ1.out; omega, ?_, rfl, HOE, HKE⟩
                rcases Nat.eq_zero_or_pos q' with h0 | h0
                · exact .inl ⟨h0, by rw [h0]; rfl⟩
                · obtain ⟨q2, hq5⟩ : ∃ q2, q' = q2 + 1 := ⟨q' - 1, by omega⟩
                  exact .inr ⟨q2, hq5, by congr 1; omega⟩
              case measure => simp [intOf]
end Go.Proofs.Ytdlegbcdmlmbpaa
