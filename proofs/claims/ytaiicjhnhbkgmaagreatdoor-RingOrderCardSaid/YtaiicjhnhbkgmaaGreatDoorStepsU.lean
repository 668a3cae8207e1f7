/-
  Reading an uberblock, step by step.
  Conditions: those told.
-/
import Derived.Test.YtaiicjhnhbkgmaaGreatDoorPtrN
import Derived.Test.YtaiicjhnhbkgmaaGreatDoorReader1
import Derived.Test.YtaiicjhnhbkgmaaGreatDoorCopy
import Derived.Test.YtaiicjhnhbkgmaaGreatDoorErrs
import Derived.Test.YtaiicjhnhbkgmaaGreatDoorPtrH
namespace Go.Proofs.YtaiicjhnhbkgmaaGreatDoor
open Go.RowKit Go.Maps Go.ChangeMaps
set_option maxRecDepth 100000
set_option linter.unusedVariables false

set_option maxHeartbeats 1000000 in
theorem rraw_fault (w : World) (base p : Nat) (v : Value) (l : List UInt8) (at_ : Nat) (fe fa : Int) (h : Rdr w base p v l at_ fe fa) (hfe : fe ≠ 0) (n : Int) :
    Calls Tryz.prog 101 #[.pointer (some ⟨p, 0, none⟩), .int .i64 n] w (fun e w' => e = .returned (.slice none 0 0) ∧ Rdr w' base p v l at_ fe fa ∧ Keep noBlk w w') := by
  have hmf : ∀ (fn : Fn) (first cap : Array Value) (w : World), (Instr.makeFunc fn first cap).run Tryz.prog w = .ok (.func fn first cap) w := fun _ _ _ _ => rfl
  obtain ⟨W1, hW1⟩ : ∃ W1, ((w.alloc (.cells #[.pointer (some ⟨p, 0, none⟩)] 101)).alloc (.cells #[.int .i64 n] 3)).alloc (.cells #[.slice none 0 0] 51) = W1 := ⟨_, rfl⟩
  have K1 : Keep noBlk w W1 := by rw [← hW1]; exact (((Keep.refl _ _).alloc _).alloc _).alloc _
  obtain ⟨b0, b1, b2⟩ := boxes3 w (.cells #[.pointer (some ⟨p, 0, none⟩)] 101) (.cells #[.int .i64 n] 3) (.cells #[.slice none 0 0] 51)
  rw [hW1] at b0 b1 b2
  have hK := boxP_keep W1 p
  have hR := (h.keep K1 id (fun _ _ => id))
  have C := Lib.hid (read_fault W1 base p v l at_ fe fa hR hfe (.func (.func 121) #[] #[.pointer (some ⟨w.heap.size + 1, 0, none⟩), .pointer (some ⟨w.heap.size, 0, none⟩), .pointer (some ⟨w.heap.size + 2, 0, none⟩)]))
  have cb0 : W1.cell? ⟨w.heap.size, 0, none⟩ = some (.pointer (some ⟨p, 0, none⟩)) := blk_cell b0 rfl
  have HB2 := Lib.hid (hK.blk b2 id)
  have HK := Lib.hid (K1.trans hK); have HR := Lib.hid (hR.keep hK id (fun _ _ => id))
  clear h K1 b0 b1 b2 hR hK hfe
  go_enter Tryz.func101, Tryz.ntmps101
  go_wp2_with fail
  refine C.out.mono ?_
  rintro e w2 ⟨rfl, hw⟩
  subst hw
  clear hW1 C
  have co := blk_cell (i := 0) (v := .slice none 0 0) HB2.out rfl
  go_wp2_with fail
  go_ret
  exact ⟨rfl, HR.out, HK.out⟩
/-- The cells of a reading of an uberblock, step by step. -/
def stCs (p : Nat) (uv : Value) (u : Ub) (er : Value) : List Value := .pointer (some ⟨p, 0, none⟩) :: (ubCs uv u ++ [er])
theorem stCs_len {p : Nat} {uv er : Value} {u : Ub} (h1 : u.pool.length = 32) (h2 : u.root.sum.length = 32) : (stCs p uv u er).length = 71 := by simp [stCs, ubCs_len h2 h1]
/-- What stands in memory while an uberblock is read. -/
structure StW (w wr : World) (sb base p : Nat) (v : Value) (b : List UInt8) (at_ : Nat) (fe fa : Int) (uv : Value) (u : Ub) (er : Value) : Prop where
  st : wr.heap[sb]? = some (.cells (stCs p uv u er).toArray 106 (0, 0))
  rd : Rdr wr base p v b at_ fe fa
  pool : u.pool.length = 32
  sum : u.root.sum.length = 32
  keep : Keep noBlk w wr
  lb : w.heap.size ≤ base
  ls : w.heap.size ≤ sb
theorem StW.same {w wr w' : World} {sb base p : Nat} {v : Value} {b : List UInt8} {at_ : Nat} {fe fa : Int} {uv : Value} {u : Ub} {er : Value} (h : StW w wr sb base p v b at_ fe fa uv u er) (k : Keep noBlk wr w') : StW w w' sb base p v b at_ fe fa uv u er :=
  ⟨k.blk h.st id, h.rd.keep k id (fun _ _ => id), h.pool, h.sum, h.keep.trans k, h.lb, h.ls⟩
/-- Behind a call that turns the reader alone. -/
theorem StW.read {w wr w' : World} {sb base p : Nat} {v : Value} {b : List UInt8} {at_ at2 : Nat} {fe fa fe2 fa2 : Int} {uv : Value} {u : Ub} {er : Value} (h : StW w wr sb base p v b at_ fe fa uv u er) (k : Keep (fun i => i = p) wr w') (hr : Rdr w' base p v b at2 fe2 fa2) : StW w w' sb base p v b at2 fe2 fa2 uv u er := by
  refine ⟨k.blk h.st ?_, hr, h.pool, h.sum, h.keep.trans' k (fun _ _ h => h) (fun i hi e => ?_), h.lb, h.ls⟩
  · rintro rfl
    have := h.rd.blk
    rw [h.st] at this
    cases this
  · have := h.rd.le
    have := h.lb
    omega
/-- Behind what turns the reading's cells alone. -/
theorem StW.put {w wr w' : World} {sb base p : Nat} {v : Value} {b : List UInt8} {at_ : Nat} {fe fa : Int} {uv uv2 : Value} {u u2 : Ub} {er er2 : Value} (h : StW w wr sb base p v b at_ fe fa uv u er) (k : Keep (fun i => i = sb) wr w')
    (hs : w'.heap[sb]? = some (.cells (stCs p uv2 u2 er2).toArray 106 (0, 0))) (h1 : u2.pool.length = 32) (h2 : u2.root.sum.length = 32) : StW w w' sb base p v b at_ fe fa uv2 u2 er2 := by
  have hl := h.ls
  refine ⟨hs, h.rd.keep k ?_ (fun g hg e => ?_), h1, h2, h.keep.trans' k (fun _ _ h => h) (fun i hi e => by omega), h.lb, h.ls⟩
  · intro e
    have := h.rd.blk
    rw [e, h.st] at this
    cases this
  · subst e
    obtain ⟨cur, hc⟩ := owns_block h.rd.own hg
    rw [h.st] at hc
    cases hc
theorem StW.cell0 {w wr : World} {sb base p : Nat} {v : Value} {b : List UInt8} {at_ : Nat} {fe fa : Int} {uv : Value} {u : Ub} {er : Value} (h : StW w wr sb base p v b at_ fe fa uv u er) : wr.cell? ⟨sb, 0, none⟩ = some (.pointer (some ⟨p, 0, none⟩)) := blk_cell h.st rfl
theorem stCs_pool (p : Nat) (uv er : Value) (u : Ub) (s : List UInt8) (h1 : u.pool.length = 32) (h2 : u.root.sum.length = 32) (hs : s.length = 32) : spl (stCs p uv u er).toArray 38 (s.map vb) = (stCs p uv ⟨u.txg, u.root, u.len, s⟩ er).toArray := by
  apply Array.ext_getElem?
  intro j
  have hl : (s.map vb).length = 32 := by rw [List.length_map, hs]
  rw [spl_get _ _ _ _ (by rw [List.size_toArray, stCs_len h1 h2, hl]; omega), hl]
  have hp : (ptCs uv u.root).length = 35 := ptCs_len h2
  have e : ∀ (x : List UInt8), stCs p uv ⟨u.txg, u.root, u.len, x⟩ er = (.pointer (some ⟨p, 0, none⟩) :: .int .i64 u.txg :: (ptCs uv u.root ++ [.int .i64 u.len])) ++ (x.map vb ++ [er]) := fun x => by simp [stCs, ubCs]
  have hA : ((.pointer (some ⟨p, 0, none⟩) : Value) :: .int .i64 u.txg :: (ptCs uv u.root ++ [.int .i64 u.len])).length = 38 := by simp [hp]
  rw [show stCs p uv u er = stCs p uv ⟨u.txg, u.root, u.len, u.pool⟩ er from rfl, e, e]
  simp only [List.getElem?_toArray]
  by_cases hj : j < 38
  · rw [if_neg (by omega), List.getElem?_append_left (by omega), List.getElem?_append_left (by omega)]
  · by_cases hk : j < 70
    · rw [if_pos (by omega), List.getElem?_append_right (by omega), hA, List.getElem?_append_left (by omega)]
    · have key : ∀ x : List UInt8, x.length = 32 → ((.pointer (some ⟨p, 0, none⟩) :: .int .i64 u.txg :: (ptCs uv u.root ++ [.int .i64 u.len])) ++ (x.map vb ++ [er]))[j]? = [er][j - 38 - 32]? := fun x hx => by
        rw [List.getElem?_append_right (by omega), hA, List.getElem?_append_right (by rw [List.length_map]; omega), List.length_map, hx]
      rw [if_neg (by omega), key _ h1, key _ hs]
theorem stCs_txg (p : Nat) (uv er : Value) (u : Ub) (x : Int) : (stCs p uv u er).toArray.setIfInBounds 1 (.int .i64 x) = (stCs p uv ⟨x, u.root, u.len, u.pool⟩ er).toArray := by rw [List.setIfInBounds_toArray]; rfl
theorem stCs_lenS (p : Nat) (uv er : Value) (u : Ub) (x : Int) (h2 : u.root.sum.length = 32) : (stCs p uv u er).toArray.setIfInBounds 37 (.int .i64 x) = (stCs p uv ⟨u.txg, u.root, x, u.pool⟩ er).toArray := by
  rw [List.setIfInBounds_toArray]
  have hp : (ptCs uv u.root).length = 35 := ptCs_len h2
  have e : ∀ y, stCs p uv ⟨u.txg, u.root, y, u.pool⟩ er = (.pointer (some ⟨p, 0, none⟩) :: .int .i64 u.txg :: ptCs uv u.root) ++ (.int .i64 y :: (u.pool.map vb ++ [er])) := fun y => by simp [stCs, ubCs]
  rw [show stCs p uv u er = stCs p uv ⟨u.txg, u.root, u.len, u.pool⟩ er from rfl, e, e, List.set_append_right _ _ (by simp [hp])]
  congr 1
  simp [hp]
theorem stCs_get (p : Nat) (uv er : Value) (u : Ub) (h1 : u.pool.length = 32) (h2 : u.root.sum.length = 32) (i : Nat) (hi : i < 71) : ∃ x, (stCs p uv u er).toArray[i]? = some x := by
  rw [List.getElem?_toArray]
  exact ⟨_, List.getElem?_eq_getElem (by rw [stCs_len h1 h2]; exact hi)⟩
theorem stCs_er (p : Nat) (uv er : Value) (u : Ub) (h1 : u.pool.length = 32) (h2 : u.root.sum.length = 32) : (stCs p uv u er).toArray[70]? = some er := by
  rw [List.getElem?_toArray]
  have hl : (ubCs uv u).length = 69 := ubCs_len h2 h1
  unfold stCs
  rw [List.getElem?_cons_succ, List.getElem?_append_right (by omega), hl]
  rfl
theorem stCs_erS (p : Nat) (uv er x : Value) (u : Ub) (h1 : u.pool.length = 32) (h2 : u.root.sum.length = 32) : (stCs p uv u er).toArray.setIfInBounds 70 x = (stCs p uv u x).toArray := by
  rw [List.setIfInBounds_toArray]
  have hl : (ubCs uv u).length = 69 := ubCs_len h2 h1
  unfold stCs
  rw [List.set_cons_succ, List.set_append_right _ _ (by omega), hl]
  rfl

theorem StW.setTxg {w wr : World} {sb base p : Nat} {v : Value} {b : List UInt8} {at_ : Nat} {fe fa : Int} {uv : Value} {u : Ub} {er : Value} (h : StW w wr sb base p v b at_ fe fa uv u er) (x : Int) : StW w (wr.setCell ⟨sb, 1, none⟩ (.int .i64 x)) sb base p v b at_ fe fa uv ⟨x, u.root, u.len, u.pool⟩ er :=
  h.put ((Keep.refl (fun i => i = sb) wr).setCell (p := ⟨sb, 1, none⟩) (fun _ => rfl) _) (by rw [set_blk h.st, stCs_txg]) h.pool h.sum
theorem StW.setLen {w wr : World} {sb base p : Nat} {v : Value} {b : List UInt8} {at_ : Nat} {fe fa : Int} {uv : Value} {u : Ub} {er : Value} (h : StW w wr sb base p v b at_ fe fa uv u er) (x : Int) : StW w (wr.setCell ⟨sb, 37, none⟩ (.int .i64 x)) sb base p v b at_ fe fa uv ⟨u.txg, u.root, x, u.pool⟩ er :=
  h.put ((Keep.refl (fun i => i = sb) wr).setCell (p := ⟨sb, 37, none⟩) (fun _ => rfl) _) (by rw [set_blk h.st, stCs_lenS _ _ _ _ _ h.sum]) h.pool h.sum
theorem StW.setErr {w wr : World} {sb base p : Nat} {v : Value} {b : List UInt8} {at_ : Nat} {fe fa : Int} {uv : Value} {u : Ub} {er : Value} (h : StW w wr sb base p v b at_ fe fa uv u er) (x : Value) : StW w (wr.setCell ⟨sb, 70, none⟩ x) sb base p v b at_ fe fa uv u x :=
  h.put ((Keep.refl (fun i => i = sb) wr).setCell (p := ⟨sb, 70, none⟩) (fun _ => rfl) _) (by rw [set_blk h.st, stCs_erS _ _ _ _ _ h.pool h.sum]) h.pool h.sum
theorem StW.get {w wr : World} {sb base p : Nat} {v : Value} {b : List UInt8} {at_ : Nat} {fe fa : Int} {uv : Value} {u : Ub} {er : Value} (h : StW w wr sb base p v b at_ fe fa uv u er) (i : Nat) (hi : i < 71) : ∃ x, wr.cell? ⟨sb, i, none⟩ = some x := by
  obtain ⟨x, hx⟩ := stCs_get p uv er u h.pool h.sum i hi
  exact ⟨x, blk_cell h.st hx⟩
set_option maxHeartbeats 2000000 in
theorem begins_any (w wr : World) (sb base p : Nat) (v : Value) (b : List UInt8) (uv er : Value) (u : Ub) (h : StW w wr sb base p v b 0 0 0 uv u er) (hl : b.length = 256) :
    Calls Tryz.prog 70 #[.pointer (some ⟨sb, 0, none⟩)] wr fun e w' => e = .returned (.pointer (some ⟨sb, 0, none⟩)) ∧ StW w w' sb base p v b 40 0 0 uv ⟨u.txg, u.root, u.len, (b.drop 8).take 32⟩ er := by
  have H := Lib.hid h
  have HL := Lib.hid hl
  have c0 := h.cell0
  clear h hl
  go_enter Tryz.func70, Tryz.ntmps70
  go_wp2_with fail
  refine (rraw_ok wr base p v b 0 0 H.out.rd 8 (by omega) (by rw [HL.out]; omega)).mono ?_
  rintro e w2 ⟨v2, rfl, -, hrd, hk2⟩
  have H2 := Lib.hid (H.out.read hk2 hrd)
  clear hk2 hrd H c0
  go_wp2_with fail
  obtain ⟨S, hS0⟩ : ∃ S : World → Prop, S = fun w' => w'.cell? ⟨sb, 0, none⟩ = some (.pointer (some ⟨p, 0, none⟩)) := ⟨_, rfl⟩
  have HSI := Lib.hid (show ∀ w' at2 fe2 fa2 u2, StW w w' sb base p v b at2 fe2 fa2 uv u2 er → S w' from fun w' _ _ _ _ h => by rw [hS0]; exact h.cell0)
  have HSC := Lib.hid (show ∀ w', S w' → w'.cell? ⟨sb, 0, none⟩ = some (.pointer (some ⟨p, 0, none⟩)) from fun w' h => by rw [hS0] at h; exact h)
  clear hS0
  have H2 := Lib.hid (H2.out.same (w' := w2.drew) (Keep.refl noBlk w2).drew)
  have hS := HSI.out _ _ _ _ _ H2.out
  refine wp_region_held (S := S) (by kernel_rfl) ?_
  change wpAnyH _ _ _ _ _ _ _ _ w2.drew
  generalize w2.drew = w3 at hS H2 ⊢
  refine tka 0 (.pointer (some ⟨sb, 0, none⟩)) rfl hS ?_
  simp only [Act.put, List.setIfInBounds_toArray, List.set_cons_zero, List.set_cons_succ, List.getElem_toArray, List.getElem_cons_zero]
  refine tkb 1 (.pointer (some ⟨sb, 0, none⟩)) rfl hS ?_
  simp only [Act.put, List.setIfInBounds_toArray, List.set_cons_zero, List.set_cons_succ, List.getElem_toArray, List.getElem_cons_succ, List.getElem_cons_zero]
  refine tkb 2 (.pointer (some ⟨sb, 1, none⟩)) rfl hS ?_
  simp only [Act.put, List.setIfInBounds_toArray, List.set_cons_zero, List.set_cons_succ, List.getElem_toArray, List.getElem_cons_succ, List.getElem_cons_zero]
  refine tkb 3 (.pointer (some ⟨sb, 38, none⟩)) rfl hS ?_
  simp only [Act.put, List.setIfInBounds_toArray, List.set_cons_zero, List.set_cons_succ, List.getElem_toArray, List.getElem_cons_succ, List.getElem_cons_zero]
  refine tkb 4 (.slice (some ⟨sb, 38, none⟩) 32 32) rfl hS ?_
  simp only [Act.put, List.setIfInBounds_toArray, List.set_cons_zero, List.set_cons_succ, List.getElem_toArray, List.getElem_cons_succ, List.getElem_cons_zero]
  refine tka 5 (.pointer (some ⟨sb, 0, none⟩)) rfl hS ?_
  simp only [Act.put, List.setIfInBounds_toArray, List.set_cons_zero, List.set_cons_succ, List.getElem_toArray, List.getElem_cons_succ, List.getElem_cons_zero]
  refine tkb 6 (.pointer (some ⟨sb, 0, none⟩)) rfl hS ?_
  simp only [Act.put, List.setIfInBounds_toArray, List.set_cons_zero, List.set_cons_succ, List.getElem_toArray, List.getElem_cons_succ, List.getElem_cons_zero]
  refine tkb 7 (.pointer (some ⟨sb, 0, none⟩)) rfl hS ?_
  simp only [Act.put, List.setIfInBounds_toArray, List.set_cons_zero, List.set_cons_succ, List.getElem_toArray, List.getElem_cons_succ, List.getElem_cons_zero]
  refine tkd 8 (.pointer (some ⟨p, 0, none⟩)) rfl (.inl ⟨by rfl, fun w' hw' => by have c := HSC.out w' hw'; go_simp⟩) hS ?_
  simp only [Act.put, List.setIfInBounds_toArray, List.set_cons_zero, List.set_cons_succ, List.getElem_toArray, List.getElem_cons_succ, List.getElem_cons_zero]
  refine wpAnyH_one (k := 9) rfl (by kernel_rfl) ?_
  go_wp2_with fail
  refine (rraw_ok w3 base p v b 8 0 H2.out.rd 32 (by omega) (by rw [HL.out]; omega)).mono ?_
  rintro e w4 ⟨v4, rfl, hown, hrd, hk4⟩
  have H4 := Lib.hid (H2.out.read hk4 hrd)
  have hrd4 := Rd.of_owns hown
  obtain ⟨a4, c4, rfl, -, -⟩ := hrd4.form
  obtain ⟨P, hP⟩ : ∃ P, ((b.drop 8).take 32).map vb = P := ⟨_, rfl⟩
  have hpl : ((b.drop 8).take 32).length = 32 := by rw [List.length_take, List.length_drop, HL.out]; rfl
  have hPl : P.length = 32 := by rw [← hP, List.length_map, hpl]
  have hPo : ∀ u ∈ P, u.oneCell' = true := by rw [← hP]; exact oneCell_vb _
  rw [hP] at hrd4
  have HRD := Lib.hid hrd4; have HPP := Lib.hid hP; have HPL := Lib.hid hpl
  clear hrd4 hP hpl hown hrd hk4 H2
  have hS4 := HSI.out _ _ _ _ _ H4.out
  clear hS
  go_wp2_with fail
  refine ⟨hS4, ?_⟩
  refine wpAnyH_one (k := 10) rfl (by kernel_rfl) ?_
  refine wpList_copy_rd rfl (.tmp 12) (.tmp 17) 51 51 rfl 5 Tryz.underlying51 sizeU8 sb 38 32 32 rfl _ 32 P rfl HRD.out 32 rfl (stCs p uv u er).toArray _ H4.out.st (by rw [List.size_toArray, stCs_len H4.out.pool H4.out.sum]; omega) hPo ?_
  intro w5 hb5 hk5
  rw [List.take_of_length_le (by rw [hPl]; exact Nat.le_refl _), ← HPP.out, stCs_pool p uv er u _ H4.out.pool H4.out.sum HPL.out] at hb5
  have H5 := Lib.hid (H4.out.put hk5 hb5 HPL.out H4.out.sum)
  clear hb5 hk5
  refine wpList_nil ?_
  refine ⟨HSI.out _ _ _ _ _ H5.out, ?_⟩
  refine wpAnyH_done (by kernel_rfl) ?_ _
  clear H4 HRD hS4
  go_wp2_with fail
  go_ret
  exact ⟨rfl, H5.out⟩
set_option maxHeartbeats 2000000 in
theorem numbers_of (w wr : World) (sb base p : Nat) (v : Value) (b : List UInt8) (uv er : Value) (u : Ub) (at1 at2 at3 : Nat) (fe1 fa1 fe2 fa2 fe3 fa3 x y : Int) (h : StW w wr sb base p v b at1 fe1 fa1 uv u er)
    (C1 : ∀ wx, StW w wx sb base p v b at1 fe1 fa1 uv u er → Calls Tryz.prog 102 #[.pointer (some ⟨p, 0, none⟩), .int .i64 5, .int .i64 1, .int .i64 2147483648] wx fun e w' => e = .returned (.int .i64 x) ∧ StW w w' sb base p v b at2 fe2 fa2 uv u er)
    (C2 : ∀ wx, StW w wx sb base p v b at2 fe2 fa2 uv u er → Calls Tryz.prog 102 #[.pointer (some ⟨p, 0, none⟩), .int .i64 3, .int .i64 0, .int .i64 16384] wx fun e w' => e = .returned (.int .i64 y) ∧ StW w w' sb base p v b at3 fe3 fa3 uv u er) :
    Calls Tryz.prog 71 #[.pointer (some ⟨sb, 0, none⟩)] wr fun e w' => e = .returned (.pointer (some ⟨sb, 0, none⟩)) ∧ StW w w' sb base p v b at3 fe3 fa3 uv ⟨x, u.root, y, u.pool⟩ er := by
  have H := Lib.hid h
  have HC1 := Lib.hid C1; have HC2 := Lib.hid C2
  clear h C1 C2
  go_enter Tryz.func71, Tryz.ntmps71
  go_wp2_with fail
  obtain ⟨S, hS0⟩ : ∃ S : World → Prop, S = fun w' => w'.cell? ⟨sb, 0, none⟩ = some (.pointer (some ⟨p, 0, none⟩)) := ⟨_, rfl⟩
  have HSI := Lib.hid (show ∀ w' at2 fe2 fa2 u2, StW w w' sb base p v b at2 fe2 fa2 uv u2 er → S w' from fun w' _ _ _ _ h => by rw [hS0]; exact h.cell0)
  have HSC := Lib.hid (show ∀ w', S w' → w'.cell? ⟨sb, 0, none⟩ = some (.pointer (some ⟨p, 0, none⟩)) from fun w' h => by rw [hS0] at h; exact h)
  clear hS0
  have H := Lib.hid (H.out.same (w' := wr.drew) (Keep.refl noBlk wr).drew)
  have hS := HSI.out _ _ _ _ _ H.out
  refine wp_region_held (S := S) (by kernel_rfl) ?_
  change wpAnyH _ _ _ _ _ _ _ _ wr.drew
  generalize wr.drew = w3 at hS H ⊢
  refine tka 0 (.pointer (some ⟨sb, 0, none⟩)) rfl hS ?_
  simp only [Act.put, List.setIfInBounds_toArray, List.set_cons_zero, List.set_cons_succ, List.getElem_toArray, List.getElem_cons_zero]
  refine tka 1 (.pointer (some ⟨sb, 0, none⟩)) rfl hS ?_
  simp only [Act.put, List.setIfInBounds_toArray, List.set_cons_zero, List.set_cons_succ, List.getElem_toArray, List.getElem_cons_succ, List.getElem_cons_zero]
  refine tka 2 (.pointer (some ⟨sb, 0, none⟩)) rfl hS ?_
  simp only [Act.put, List.setIfInBounds_toArray, List.set_cons_zero, List.set_cons_succ, List.getElem_toArray, List.getElem_cons_succ, List.getElem_cons_zero]
  refine tkb 3 (.pointer (some ⟨sb, 0, none⟩)) rfl hS ?_
  simp only [Act.put, List.setIfInBounds_toArray, List.set_cons_zero, List.set_cons_succ, List.getElem_toArray, List.getElem_cons_succ, List.getElem_cons_zero]
  refine tkb 4 (.pointer (some ⟨sb, 0, none⟩)) rfl hS ?_
  simp only [Act.put, List.setIfInBounds_toArray, List.set_cons_zero, List.set_cons_succ, List.getElem_toArray, List.getElem_cons_succ, List.getElem_cons_zero]
  refine tkd 5 (.pointer (some ⟨p, 0, none⟩)) rfl (.inl ⟨by rfl, fun w' hw' => by have c := HSC.out w' hw'; go_simp⟩) hS ?_
  simp only [Act.put, List.setIfInBounds_toArray, List.set_cons_zero, List.set_cons_succ, List.getElem_toArray, List.getElem_cons_succ, List.getElem_cons_zero]
  refine tka 7 (.pointer (some ⟨sb, 0, none⟩)) rfl hS ?_
  simp only [Act.put, List.setIfInBounds_toArray, List.set_cons_zero, List.set_cons_succ, List.getElem_toArray, List.getElem_cons_succ, List.getElem_cons_zero]
  refine tkb 8 (.pointer (some ⟨sb, 0, none⟩)) rfl hS ?_
  simp only [Act.put, List.setIfInBounds_toArray, List.set_cons_zero, List.set_cons_succ, List.getElem_toArray, List.getElem_cons_succ, List.getElem_cons_zero]
  refine tkb 9 (.pointer (some ⟨sb, 0, none⟩)) rfl hS ?_
  simp only [Act.put, List.setIfInBounds_toArray, List.set_cons_zero, List.set_cons_succ, List.getElem_toArray, List.getElem_cons_succ, List.getElem_cons_zero]
  refine tkd 10 (.pointer (some ⟨p, 0, none⟩)) rfl (.inl ⟨by rfl, fun w' hw' => by have c := HSC.out w' hw'; go_simp⟩) hS ?_
  simp only [Act.put, List.setIfInBounds_toArray, List.set_cons_zero, List.set_cons_succ, List.getElem_toArray, List.getElem_cons_succ, List.getElem_cons_zero]
  refine wpAnyH_one (k := 6) rfl (by kernel_rfl) ?_
  go_wp2_with fail
  refine (HC1.out w3 H.out).mono ?_
  rintro e w4 ⟨rfl, h5⟩
  have H4 := Lib.hid h5
  have hS4 := HSI.out _ _ _ _ _ h5
  clear hS h5 H
  go_wp2_with fail
  refine ⟨hS4, ?_⟩
  refine wpAnyH_one (k := 11) rfl (by kernel_rfl) ?_
  go_wp2_with fail
  refine (HC2.out w4 H4.out).mono ?_
  rintro e w5 ⟨rfl, h5⟩
  have H5 := Lib.hid h5
  have hS5 := HSI.out _ _ _ _ _ h5
  clear hS4 h5 H4
  go_wp2_with fail
  refine ⟨hS5, ?_⟩
  refine tkb 12 (.pointer (some ⟨sb, 0, none⟩)) rfl hS5 ?_
  simp only [Act.put, List.setIfInBounds_toArray, List.set_cons_zero, List.set_cons_succ, List.getElem_toArray, List.getElem_cons_succ, List.getElem_cons_zero]
  refine tkb 13 (.pointer (some ⟨sb, 1, none⟩)) rfl hS5 ?_
  simp only [Act.put, List.setIfInBounds_toArray, List.set_cons_zero, List.set_cons_succ, List.getElem_toArray, List.getElem_cons_succ, List.getElem_cons_zero]
  refine tkb 14 (.pointer (some ⟨sb, 1, none⟩)) rfl hS5 ?_
  simp only [Act.put, List.setIfInBounds_toArray, List.set_cons_zero, List.set_cons_succ, List.getElem_toArray, List.getElem_cons_succ, List.getElem_cons_zero]
  obtain ⟨u15, g15⟩ := H5.out.get 1 (by omega)
  have kf15 := fun i => blk_free H5.out.st i
  have H6 := Lib.hid (H5.out.setTxg x)
  refine wpAnyH_one (k := 15) rfl (by kernel_rfl) ?_
  go_wp2_with fail
  clear g15 kf15
  generalize w5.setCell _ _ = w6 at H6 ⊢
  have hS6 := HSI.out _ _ _ _ _ H6.out
  clear H5 hS5
  refine ⟨hS6, ?_⟩
  refine tkb 16 (.pointer (some ⟨sb, 0, none⟩)) rfl hS6 ?_
  simp only [Act.put, List.setIfInBounds_toArray, List.set_cons_zero, List.set_cons_succ, List.getElem_toArray, List.getElem_cons_succ, List.getElem_cons_zero]
  refine tkb 17 (.pointer (some ⟨sb, 1, none⟩)) rfl hS6 ?_
  simp only [Act.put, List.setIfInBounds_toArray, List.set_cons_zero, List.set_cons_succ, List.getElem_toArray, List.getElem_cons_succ, List.getElem_cons_zero]
  refine tkb 18 (.pointer (some ⟨sb, 37, none⟩)) rfl hS6 ?_
  simp only [Act.put, List.setIfInBounds_toArray, List.set_cons_zero, List.set_cons_succ, List.getElem_toArray, List.getElem_cons_succ, List.getElem_cons_zero]
  obtain ⟨u19, g19⟩ := H6.out.get 37 (by omega)
  have kf19 := fun i => blk_free H6.out.st i
  have H7 := Lib.hid (H6.out.setLen y)
  refine wpAnyH_one (k := 19) rfl (by kernel_rfl) ?_
  go_wp2_with fail
  clear g19 kf19
  generalize w6.setCell _ _ = w7 at H7 ⊢
  have hS7 := HSI.out _ _ _ _ _ H7.out
  clear H6 hS6
  refine ⟨hS7, ?_⟩
  refine wpAnyH_done (by kernel_rfl) ?_ _
  go_wp2_with fail
  go_ret
  exact ⟨rfl, H7.out⟩

theorem stCs_root (p : Nat) (uv uv2 er : Value) (u : Ub) (q : Pt) (h1 : u.pool.length = 32) (h2 : u.root.sum.length = 32) (hq : q.sum.length = 32) : spl (stCs p uv u er).toArray 2 (ptCs uv2 q) = (stCs p uv2 ⟨u.txg, q, u.len, u.pool⟩ er).toArray := by
  apply Array.ext_getElem?
  intro j
  have hp : (ptCs uv u.root).length = 35 := ptCs_len h2
  have hp2 : (ptCs uv2 q).length = 35 := ptCs_len hq
  rw [spl_get _ _ _ _ (by rw [List.size_toArray, stCs_len h1 h2, hp2]; omega), hp2]
  have e : ∀ (x : Value) (r : Pt), stCs p x ⟨u.txg, r, u.len, u.pool⟩ er = [.pointer (some ⟨p, 0, none⟩), .int .i64 u.txg] ++ (ptCs x r ++ (.int .i64 u.len :: (u.pool.map vb ++ [er]))) := fun x r => by simp [stCs, ubCs]
  rw [show stCs p uv u er = stCs p uv ⟨u.txg, u.root, u.len, u.pool⟩ er from rfl, e, e]
  simp only [List.getElem?_toArray]
  have hA : ([.pointer (some ⟨p, 0, none⟩), .int .i64 u.txg] : List Value).length = 2 := rfl
  by_cases hj : j < 2
  · rw [if_neg (by omega), List.getElem?_append_left (by omega), List.getElem?_append_left (by omega)]
  · by_cases hk : j < 37
    · rw [if_pos (by omega), List.getElem?_append_right (by omega), hA, List.getElem?_append_left (by omega)]
    · have key : ∀ (x : Value) (r : Pt), (ptCs x r).length = 35 → ([.pointer (some ⟨p, 0, none⟩), .int .i64 u.txg] ++ (ptCs x r ++ (.int .i64 u.len :: (u.pool.map vb ++ [er]))))[j]? = (.int .i64 u.len :: (u.pool.map vb ++ [er]))[j - 2 - 35]? := fun x r hx => by
        rw [List.getElem?_append_right (by omega), hA, List.getElem?_append_right (by omega), hx]
      rw [if_neg (by omega), key _ _ hp, key _ _ hp2]
theorem StW.setRoot {w wr w2 : World} {sb base p : Nat} {v : Value} {b : List UInt8} {at_ : Nat} {fe fa : Int} {uv uv2 : Value} {u : Ub} {er : Value} {q : Pt} (h : StW w wr sb base p v b at_ fe fa uv u er)
    (hb : w2.heap[sb]? = some (.cells (spl (stCs p uv u er).toArray 2 (ptCs uv2 q)) 106 (0, 0))) (hk : Keep (fun i => i = sb) wr w2) (hq : q.sum.length = 32) : StW w w2 sb base p v b at_ fe fa uv2 ⟨u.txg, q, u.len, u.pool⟩ er :=
  h.put hk (by rw [hb, stCs_root _ _ _ _ _ _ h.pool h.sum hq]) h.pool hq
theorem readB_sum {b : List UInt8} (h : readB b = true) : (ptOf b).sum.length = 32 := by
  unfold readB at h
  simp only [Bool.and_eq_true, decide_eq_true_eq] at h
  show (b.drop 15).length = 32
  rw [List.length_drop, h.1.1]
set_option maxHeartbeats 4000000 in
theorem points_ok (w wr : World) (sb base p : Nat) (v : Value) (b : List UInt8) (uv er : Value) (u : Ub) (at1 at2 : Nat) (fe1 fa1 fe2 fa2 : Int) (bs : List UInt8) (hB : readB bs = true) (h : StW w wr sb base p v b at1 fe1 fa1 uv u er)
    (C1 : ∀ wx, StW w wx sb base p v b at1 fe1 fa1 uv u er → Calls Tryz.prog 101 #[.pointer (some ⟨p, 0, none⟩), .int .i64 47] wx fun e w' => ∃ bv, e = .returned bv ∧ Rd w' 1 bv bs.length (bs.map vb) ∧ StW w w' sb base p v b at2 fe2 fa2 uv u er) :
    Calls Tryz.prog 72 #[.pointer (some ⟨sb, 0, none⟩)] wr fun e w' => e = .returned (.pointer (some ⟨sb, 0, none⟩)) ∧ ∃ uv2, StW w w' sb base p v b at2 fe2 fa2 uv2 ⟨u.txg, ptOf bs, u.len, u.pool⟩ er ∧ w'.ownsRow w.heap.size 70 2 uv2 (ptOf bs).addrs.length (adCells (ptOf bs).addrs) := by
  have HC1 := Lib.hid (C1 wr h)
  have HB := Lib.hid hB; have HQS := Lib.hid (readB_sum hB)
  have HW := Lib.hid h.keep.size
  have c0 := h.cell0
  clear h C1 hB
  go_enter Tryz.func72, Tryz.ntmps72
  go_wp2_with fail
  refine HC1.out.mono ?_
  rintro e w2 ⟨bv, rfl, hrd, h2⟩
  have H2 := Lib.hid h2; have HRD := Lib.hid hrd
  obtain ⟨a2, ca2, rfl, -, -⟩ := hrd.form
  clear hrd h2 c0 HC1
  go_wp2_with fail
  refine (pread_any w2 _ bs HRD.out).mono ?_
  rintro e w3 ⟨hk3, hq⟩
  rw [if_pos HB.out] at hq
  obtain ⟨uv2, rfl, ho3⟩ := hq
  have ho3 := ownsRow_mono ho3 (H2.out.keep.size)
  have H3 := Lib.hid (H2.out.same hk3); have HO3 := Lib.hid ho3
  obtain ⟨oa, ca, hv2, -, -⟩ := (Rd.of_owns ho3).form
  subst hv2
  obtain ⟨q, hq⟩ : ∃ q, ptOf bs = q := ⟨_, rfl⟩
  have HQ := Lib.hid hq
  rw [hq] at HO3 HQS ⊢
  obtain ⟨m, hm⟩ : ∃ m, q.addrs.length = m := ⟨_, rfl⟩
  have HM := Lib.hid hm
  rw [hm] at HO3 ⊢
  obtain ⟨pc, hpc⟩ : ∃ x, ptCs (.slice oa m ca) q = x := ⟨_, rfl⟩
  have hpl : pc.length = 35 := by rw [← hpc]; exact ptCs_len HQS.out
  have hpo : ∀ u ∈ pc, u.oneCell' = true := by rw [← hpc]; exact oneCell_pt _
  have HPC := Lib.hid hpc
  rw [hpc]
  clear hk3 ho3 H2 HRD hq hm hpc
  obtain ⟨w4, hw4, k4, hb4, s4⟩ := alloc_facts w3 (ptCs (.slice none 0 0) zPt).toArray 34
  obtain ⟨w5, hw5, k5, hb5, s5⟩ := alloc_facts w4 #[.int .i64 0, .int .i64 0] 115
  obtain ⟨tb, htb⟩ : ∃ x, w3.heap.size = x := ⟨_, rfl⟩
  obtain ⟨fb, hfb⟩ : ∃ x, w4.heap.size = x := ⟨_, rfl⟩
  have HTF := Lib.hid (show tb < fb by omega)
  rw [htb] at hb4
  rw [hfb] at hb5
  have HT5 := Lib.hid (k5.blk hb4 id); have HF5 := Lib.hid hb5
  have HKN := Lib.hid (k4.trans k5); have HTB := Lib.hid htb
  have HLT := Lib.hid (show w.heap.size ≤ tb by have := H3.out.keep.size; omega)
  have hzl : (ptCs (.slice none 0 0) zPt).length = 35 := rfl
  have HSB := Lib.hid (show sb < tb by have := lt_of_block H3.out.st; omega)
  clear hb4 hb5 k4 k5 s4 s5
  go_wp2_with (first
    | ((with_reducible show wpList _ _ _ (⟨some 3, .alloc 34, _, _, _, _⟩ :: _) _ _); refine wpList_alloc_at rfl 34 rfl _ zeroPtV (ptCs (.slice none 0 0) zPt).toArray rfl ?_; rw [hw4, htb])
    | ((with_reducible show wpList _ _ _ (⟨some 4, .alloc 115, _, _, _, _⟩ :: _) _ _); refine wpList_alloc_at rfl 115 rfl _ zeroFlt #[.int .i64 0, .int .i64 0] rfl ?_; rw [hw5, hfb])
    | ((with_reducible show wpList _ _ _ (⟨none, .store 34 (.tmp 3) (.tmp 12), _, _, _, _⟩ :: _) _ _); refine wpList_store_agg rfl 34 (.tmp 3) (.tmp 12) rfl tb 0 pc rfl rfl _ 34 HT5.out (by rw [hpl, List.size_toArray, hzl]; exact Nat.le_refl _) (sizePtL hpl) hpo ?_; intro w6 hb6 hk6; rw [spl_whole _ _ (by rw [hpl, List.size_toArray, hzl])] at hb6; have HT6 := Lib.hid hb6; have HF6 := Lib.hid (hk6.blk HF5.out (by have := HTF.out; omega)); have HK6 := Lib.hid hk6; clear hb6 hk6)
    | ((with_reducible show wpList _ _ _ (⟨none, .store 115 (.tmp 4) (.tmp 13), _, _, _, _⟩ :: _) _ _); refine wpList_store_agg rfl 115 (.tmp 4) (.tmp 13) rfl fb 0 [.int .i64 0, .int .i64 0] rfl rfl #[.int .i64 0, .int .i64 0] 115 HF6.out (Nat.le_refl _) sizeFault (by simp [Value.oneCell']) ?_; intro w7 hb7 hk7; rw [spl_whole _ _ (by rfl)] at hb7; have HT7 := Lib.hid (hk7.blk HT6.out (by have := HTF.out; omega)); have HF7 := Lib.hid hb7; have HK7 := Lib.hid hk7; have hcf := blk_cell (i := 0) (v := .int .i64 0) hb7 rfl; clear hb7 hk7)
    | ((with_reducible show wpList _ _ _ (⟨some 28, .load 34 (.tmp 3), _, _, _, _⟩ :: _) _ _); refine wpList_load_g (by rfl) 34 (.tmp 3) rfl tb 0 rfl pc _ (rangeAt_whole HT7.out) ptUnder rfl (sizePtL hpl) ?_; have HK37 := Lib.hid ((HKN.out.trans' HK6.out (U := noBlk) (fun _ _ h => h) (fun i hi e => by have := HTB.out; omega)).trans' HK7.out (U := noBlk) (fun _ _ h => h) (fun i hi e => by have := HTB.out; have := HTF.out; omega)); have H7 := Lib.hid (H3.out.same HK37.out); have HO7 := Lib.hid (HK37.out.owns HO3.out (fun _ _ => id)))
    | ((with_reducible show wpList _ _ _ (⟨none, .store 34 (.tmp 31) (.tmp 28), _, _, _, _⟩ :: _) _ _); refine wpList_store_agg rfl 34 (.tmp 31) (.tmp 28) rfl sb 2 pc rfl rfl _ _ H7.out.st (by rw [hpl, List.size_toArray, stCs_len H7.out.pool H7.out.sum]; omega) (sizePtL hpl) hpo ?_; intro w8 hb8 hk8; have HB8 := Lib.hid hb8; have HK8 := Lib.hid hk8; clear hb8 hk8))
  go_ret
  rw [HQ.out]
  refine ⟨rfl, .slice oa m ca, H7.out.setRoot (by rw [HPC.out]; exact HB8.out) HK8.out HQS.out, ?_⟩
  rw [HM.out]
  exact HK8.out.owns HO7.out (fun g hg e => by
    subst e
    obtain ⟨cur, hc⟩ := owns_block HO7.out hg
    rw [H7.out.st] at hc
    cases hc)

theorem rd_lit2 (w : World) (x y : Value) (t : TypeId) : Rd (w.alloc (.cells #[x, y] t)) 1 (.slice (some ⟨w.heap.size, 0, none⟩) 2 2) 2 [x, y] := by
  refine ⟨by simp, _, _, rfl, Nat.le_refl _, by unfold maxLen; omega, (by intro h; cases h), fun _ => ⟨_, 0, rfl, fun i u hu => ?_⟩⟩
  rw [Nat.zero_add]
  exact blk_cell (heap_alloc_new _ _) (by rw [← hu]; rw [← List.getElem?_toArray])
theorem readE_ne (b : List UInt8) : ∃ er ea, readE b = (er, ea) ∧ er ≠ 0 := by
  unfold readE
  by_cases h : b.length = 47
  · rw [if_pos h]; exact ⟨_, _, rfl, by decide⟩
  · rw [if_neg h]; exact ⟨_, _, rfl, by decide⟩
set_option maxHeartbeats 4000000 in
theorem points_bad (w wr : World) (sb base p : Nat) (v : Value) (b : List UInt8) (uv : Value) (u : Ub) (at1 at2 : Nat) (fe1 fa1 fe2 fa2 : Int) (bs : List UInt8) (aR : Addr) (hG : w.cell? ⟨1, 0, none⟩ = some (esV aR)) (hB : readB bs = false) (h : StW w wr sb base p v b at1 fe1 fa1 uv u .nilIface)
    (C1 : ∀ wx, StW w wx sb base p v b at1 fe1 fa1 uv u .nilIface → Calls Tryz.prog 101 #[.pointer (some ⟨p, 0, none⟩), .int .i64 47] wx fun e w' => ∃ bv, e = .returned bv ∧ Rd w' 1 bv bs.length (bs.map vb) ∧ StW w w' sb base p v b at2 fe2 fa2 uv u .nilIface) :
    Calls Tryz.prog 72 #[.pointer (some ⟨sb, 0, none⟩)] wr fun e w' => e = .returned (.pointer (some ⟨sb, 0, none⟩)) ∧ ∃ jb, StW w w' sb base p v b at2 fe2 fa2 (.slice none 0 0) ⟨u.txg, zPt, u.len, u.pool⟩ (jeV jb) ∧ JoinIs w' jb [esV aR] := by
  have HC1 := Lib.hid (C1 wr h)
  have HB := Lib.hid hB; have HG := Lib.hid hG
  have HW := Lib.hid h.keep.size
  have c0 := h.cell0
  clear h C1 hB hG
  go_enter Tryz.func72, Tryz.ntmps72
  go_wp2_with fail
  refine HC1.out.mono ?_
  rintro e w2 ⟨bv, rfl, hrd, h2⟩
  have H2 := Lib.hid h2; have HRD := Lib.hid hrd
  obtain ⟨a2, ca2, rfl, -, -⟩ := hrd.form
  clear hrd h2 c0 HC1
  go_wp2_with fail
  refine (pread_any w2 _ bs HRD.out).mono ?_
  rintro e w3 ⟨hk3, hq⟩
  rw [HB.out, if_neg (by decide)] at hq
  obtain rfl := hq
  obtain ⟨er, ea, hre, hne⟩ := readE_ne bs
  rw [hre]
  have H3 := Lib.hid (H2.out.same hk3)
  obtain ⟨pc, hpc⟩ : ∃ x, ptCs (.slice none 0 0) zPt = x := ⟨_, rfl⟩
  have hpl : pc.length = 35 := by rw [← hpc]; rfl
  have hpo : ∀ u ∈ pc, u.oneCell' = true := by rw [← hpc]; exact oneCell_pt _
  have HPC := Lib.hid hpc
  have hzv : ∀ w, (zeroValue 34).run Tryz.prog w = .ok (.agg pc.toArray) w := by rw [← hpc]; exact zeroPtV
  rw [hpc]
  clear hk3 H2 HRD hpc hre
  obtain ⟨w4, hw4, k4, hb4, s4⟩ := alloc_facts w3 pc.toArray 34
  obtain ⟨w5, hw5, k5, hb5, s5⟩ := alloc_facts w4 #[.int .i64 0, .int .i64 0] 115
  obtain ⟨tb, htb⟩ : ∃ x, w3.heap.size = x := ⟨_, rfl⟩
  obtain ⟨fb, hfb⟩ : ∃ x, w4.heap.size = x := ⟨_, rfl⟩
  have HTF := Lib.hid (show tb < fb by omega)
  rw [htb] at hb4
  rw [hfb] at hb5
  have HT5 := Lib.hid (k5.blk hb4 id); have HF5 := Lib.hid hb5
  have HKN := Lib.hid (k4.trans k5); have HTB := Lib.hid htb
  have HSB := Lib.hid (show sb < tb by have := lt_of_block H3.out.st; omega)
  clear hb4 hb5 k4 k5 s4 s5
  go_wp2_with (first
    | ((with_reducible show wpList _ _ _ (⟨some 3, .alloc 34, _, _, _, _⟩ :: _) _ _); refine wpList_alloc_at rfl 34 rfl _ hzv pc.toArray rfl ?_; rw [hw4, htb])
    | ((with_reducible show wpList _ _ _ (⟨some 4, .alloc 115, _, _, _, _⟩ :: _) _ _); refine wpList_alloc_at rfl 115 rfl _ zeroFlt #[.int .i64 0, .int .i64 0] rfl ?_; rw [hw5, hfb])
    | ((with_reducible show wpList _ _ _ (⟨none, .store 34 (.tmp 3) (.tmp 12), _, _, _, _⟩ :: _) _ _); refine wpList_store_agg rfl 34 (.tmp 3) (.tmp 12) rfl tb 0 pc rfl rfl _ 34 HT5.out (by rw [hpl, List.size_toArray, hpl]; exact Nat.le_refl _) (sizePtL hpl) hpo ?_; intro w6 hb6 hk6; rw [spl_whole _ _ (by rw [List.size_toArray])] at hb6; have HT6 := Lib.hid hb6; have HF6 := Lib.hid (hk6.blk HF5.out (by have := HTF.out; omega)); have HK6 := Lib.hid hk6; clear hb6 hk6)
    | ((with_reducible show wpList _ _ _ (⟨none, .store 115 (.tmp 4) (.tmp 13), _, _, _, _⟩ :: _) _ _); refine wpList_store_agg rfl 115 (.tmp 4) (.tmp 13) rfl fb 0 [.int .i64 er, .int .i64 ea] rfl rfl #[.int .i64 0, .int .i64 0] 115 HF6.out (Nat.le_refl _) sizeFault (by simp [Value.oneCell']) ?_; intro w7 hb7 hk7; rw [spl_whole _ _ (by rfl)] at hb7; have HT7 := Lib.hid (hk7.blk HT6.out (by have := HTF.out; omega)); have HK7 := Lib.hid hk7; have hcf := blk_cell (i := 0) (v := .int .i64 er) hb7 rfl; clear hb7 hk7))
  have HK37 := Lib.hid ((HKN.out.trans' HK6.out (U := noBlk) (fun _ _ h => h) (fun i hi e => by have := HTB.out; omega)).trans' HK7.out (U := noBlk) (fun _ _ h => h) (fun i hi e => by have := HTB.out; have := HTF.out; omega))
  have H7 := Lib.hid (H3.out.same HK37.out)
  clear H3 HK37 HK6 HK7 HT6 HF6 HT5 HF5 HKN HTB HTF hcf hw4 hw5 htb hfb
  obtain ⟨S, hS0⟩ : ∃ S : World → Prop, S = fun w' => w'.cell? ⟨1, 0, none⟩ = some (esV aR) := ⟨_, rfl⟩
  have HSI := Lib.hid (show ∀ w', Keep noBlk w w' → S w' from fun w' k => by rw [hS0]; exact k.cell HG.out id)
  have HSC := Lib.hid (show ∀ w', S w' → w'.cell? ⟨1, 0, none⟩ = some (esV aR) from fun w' h => by rw [hS0] at h; exact h)
  clear hS0
  have HD0 := Lib.hid (H7.out.same (w' := w7.drew) (Keep.refl noBlk w7).drew)
  have HKD := Lib.hid ((Keep.refl noBlk w7).drew)
  have hS := HSI.out _ HD0.out.keep
  refine wp_region_held (S := S) (by kernel_rfl) ?_
  change wpAnyH _ _ _ _ _ _ _ _ w7.drew
  generalize w7.drew = wa at hS HD0 HKD ⊢
  refine tka 0 (.pointer (some ⟨sb, 0, none⟩)) rfl hS ?_
  simp only [Act.put, List.setIfInBounds_toArray, List.set_cons_zero, List.set_cons_succ, List.getElem_toArray, List.getElem_cons_zero]
  refine tka 1 (.pointer (some ⟨sb, 0, none⟩)) rfl hS ?_
  simp only [Act.put, List.setIfInBounds_toArray, List.set_cons_zero, List.set_cons_succ, List.getElem_toArray, List.getElem_cons_succ, List.getElem_cons_zero]
  refine tkb 2 (.pointer (some ⟨sb, 0, none⟩)) rfl hS ?_
  simp only [Act.put, List.setIfInBounds_toArray, List.set_cons_zero, List.set_cons_succ, List.getElem_toArray, List.getElem_cons_succ, List.getElem_cons_zero]
  refine tkb 3 (.pointer (some ⟨sb, 70, none⟩)) rfl hS ?_
  simp only [Act.put, List.setIfInBounds_toArray, List.set_cons_zero, List.set_cons_succ, List.getElem_toArray, List.getElem_cons_succ, List.getElem_cons_zero]
  refine tkd 5 (esV aR) rfl (.inl ⟨by rfl, fun w' hw' => by have c := HSC.out w' hw'; go_simp⟩) hS ?_
  simp only [Act.put, List.setIfInBounds_toArray, List.set_cons_zero, List.set_cons_succ, List.getElem_toArray, List.getElem_cons_succ, List.getElem_cons_zero]
  have c70 := blk_cell HD0.out.st (stCs_er _ _ _ _ HD0.out.pool HD0.out.sum)
  refine wpAnyH_one (k := 4) rfl (by kernel_rfl) ?_
  go_wp2_with fail
  refine ⟨hS, ?_⟩
  refine wpAnyH_one (k := 6) rfl (by kernel_rfl) ?_
  go_wp2_with fail
  clear c70 hS
  have HKB := Lib.hid ((Keep.refl noBlk wa).alloc (.cells #[.nilIface, esV aR] 104))
  have HD1 := Lib.hid (HD0.out.same HKB.out)
  have hS1 := HSI.out _ HD1.out.keep
  refine ⟨hS1, ?_⟩
  have HR2 : Hid (Rd (wa.alloc (.cells #[.nilIface, esV aR] 104)) 1 (.slice (some ⟨wa.heap.size, 0, none⟩) 2 2) 2 [.nilIface, esV aR]) := Lib.hid (rd_lit2 wa _ _ _)
  refine wpAnyH_one (k := 7) rfl (by kernel_rfl) ?_
  go_wp2_with fail
  refine (join_one _ _ _ _ (HR2.out)).mono ?_
  rintro e wb ⟨jb, rfl, hJ, hkj, -⟩
  have HD2 := Lib.hid (HD1.out.same hkj); have HJ := Lib.hid hJ
  have HKZ := Lib.hid ((HKD.out.trans HKB.out).trans hkj)
  clear hJ hkj hS1 HD0 HD1 HR2 HKB HKD
  have hS2 := HSI.out _ HD2.out.keep
  go_wp2_with fail
  refine ⟨hS2, ?_⟩
  refine tkb 8 (.pointer (some ⟨sb, 0, none⟩)) rfl hS2 ?_
  simp only [Act.put, List.setIfInBounds_toArray, List.set_cons_zero, List.set_cons_succ, List.getElem_toArray, List.getElem_cons_succ, List.getElem_cons_zero]
  refine tkb 9 (.pointer (some ⟨sb, 70, none⟩)) rfl hS2 ?_
  simp only [Act.put, List.setIfInBounds_toArray, List.set_cons_zero, List.set_cons_succ, List.getElem_toArray, List.getElem_cons_succ, List.getElem_cons_zero]
  have c70 := blk_cell HD2.out.st (stCs_er _ _ _ _ HD2.out.pool HD2.out.sum)
  have kf := fun i => blk_free HD2.out.st i
  have HZ := Lib.hid (HD2.out.setErr (jeV jb))
  have HKS := Lib.hid ((Keep.refl (fun i => i = sb) wb).setCell (p := ⟨sb, 70, none⟩) (fun _ => rfl) (jeV jb))
  have HJZ := Lib.hid (HJ.out.put HKS.out HD2.out.st (by decide) (by decide))
  refine wpAnyH_one (k := 10) rfl (by kernel_rfl) ?_
  go_wp2_with fail
  clear c70 kf
  have HTZ := Lib.hid (HKS.out.blk (HKZ.out.blk HT7.out id) (by have := HSB.out; omega))
  generalize wb.setCell _ _ = wz at HZ HJZ HKS HTZ ⊢
  have hS3 := HSI.out _ HZ.out.keep
  refine ⟨hS3, ?_⟩
  refine wpAnyH_done (by kernel_rfl) ?_ _
  clear hS2 hS3 HSI HSC HD2 HJ HKS HKZ S
  go_wp2_with (first
    | ((with_reducible show wpList _ _ _ (⟨some 28, .load 34 (.tmp 3), _, _, _, _⟩ :: _) _ _); refine wpList_load_g (by rfl) 34 (.tmp 3) rfl tb 0 rfl pc _ (rangeAt_whole HTZ.out) ptUnder rfl (sizePtL hpl) ?_)
    | ((with_reducible show wpList _ _ _ (⟨none, .store 34 (.tmp 31) (.tmp 28), _, _, _, _⟩ :: _) _ _); refine wpList_store_agg rfl 34 (.tmp 31) (.tmp 28) rfl sb 2 pc rfl rfl _ _ HZ.out.st (by rw [hpl, List.size_toArray, stCs_len HZ.out.pool HZ.out.sum]; omega) (sizePtL hpl) hpo ?_; intro w8 hb8 hk8; have HB8 := Lib.hid hb8; have HK8 := Lib.hid hk8; clear hb8 hk8))
  go_ret
  exact ⟨rfl, jb, HZ.out.setRoot (by rw [HPC.out]; exact HB8.out) HK8.out rfl, HJZ.out.put HK8.out HZ.out.st (by decide) (by decide)⟩

theorem fieldFaultU (x y : Int) (w : World) : (Instr.field 115 (.agg #[.int .i64 x, .int .i64 y]) 0).run Tryz.prog w = .ok (.int .i64 x) w := by kernel_rfl
set_option maxHeartbeats 1000000 in
theorem ends_ok (w wr : World) (sb base p : Nat) (v : Value) (b : List UInt8) (uv er : Value) (u : Ub) (at1 : Nat) (fa : Int) (h : StW w wr sb base p v b at1 0 fa uv u er) :
    Calls Tryz.prog 73 #[.pointer (some ⟨sb, 0, none⟩)] wr fun e w' => e = .returned (.pointer (some ⟨sb, 0, none⟩)) ∧ Keep noBlk wr w' := by
  have HC := Lib.hid (fault_any wr base p v b at1 0 fa h.rd)
  have c0 := h.cell0
  have hfd := fieldFaultU
  clear h
  go_enter Tryz.func73, Tryz.ntmps73
  go_wp2_with fail
  refine HC.out.mono ?_
  rintro e w2 ⟨rfl, hk⟩
  have HK := Lib.hid hk
  clear hk HC c0
  go_wp2_with fail
  go_ret
  exact ⟨rfl, HK.out⟩
set_option maxHeartbeats 2000000 in
theorem ends_bad (w wr : World) (sb base p : Nat) (v : Value) (b : List UInt8) (uv : Value) (u : Ub) (at1 : Nat) (fe fa : Int) (hfe : fe ≠ 0) (j0 : Nat) (l0 : List Value) (aF : Addr) (hG : w.cell? ⟨0, 0, none⟩ = some (esV aF)) (h0 : JoinIs wr j0 l0) (h : StW w wr sb base p v b at1 fe fa uv u (jeV j0)) :
    Calls Tryz.prog 73 #[.pointer (some ⟨sb, 0, none⟩)] wr fun e w' => e = .returned (.pointer (some ⟨sb, 0, none⟩)) ∧ ∃ j1, StW w w' sb base p v b at1 fe fa uv u (jeV j1) ∧ JoinIs w' j1 [jeV j0, esV aF] ∧ JoinIs w' j0 l0 := by
  have HC := Lib.hid (fault_any wr base p v b at1 fe fa h.rd)
  have c0 := h.cell0
  have H := Lib.hid h; have HG := Lib.hid hG; have HJ0 := Lib.hid h0
  have hfd := fieldFaultU
  clear h hG h0
  go_enter Tryz.func73, Tryz.ntmps73
  go_wp2_with fail
  refine HC.out.mono ?_
  rintro e w7 ⟨rfl, hk⟩
  have H7 := Lib.hid (H.out.same hk)
  have HJ7 := Lib.hid (HJ0.out.same hk)
  clear hk HC c0 H HJ0
  go_wp2_with fail
  obtain ⟨S, hS0⟩ : ∃ S : World → Prop, S = fun w' => w'.cell? ⟨0, 0, none⟩ = some (esV aF) := ⟨_, rfl⟩
  have HSI := Lib.hid (show ∀ w', Keep noBlk w w' → S w' from fun w' k => by rw [hS0]; exact k.cell HG.out id)
  have HSC := Lib.hid (show ∀ w', S w' → w'.cell? ⟨0, 0, none⟩ = some (esV aF) from fun w' h => by rw [hS0] at h; exact h)
  clear hS0
  have HD0 := Lib.hid (H7.out.same (w' := w7.drew) (Keep.refl noBlk w7).drew)
  have HKD := Lib.hid ((Keep.refl noBlk w7).drew)
  have hS := HSI.out _ HD0.out.keep
  refine wp_region_held (S := S) (by kernel_rfl) ?_
  change wpAnyH _ _ _ _ _ _ _ _ w7.drew
  generalize w7.drew = wa at hS HD0 HKD ⊢
  refine tka 0 (.pointer (some ⟨sb, 0, none⟩)) rfl hS ?_
  simp only [Act.put, List.setIfInBounds_toArray, List.set_cons_zero, List.set_cons_succ, List.getElem_toArray, List.getElem_cons_zero]
  refine tka 1 (.pointer (some ⟨sb, 0, none⟩)) rfl hS ?_
  simp only [Act.put, List.setIfInBounds_toArray, List.set_cons_zero, List.set_cons_succ, List.getElem_toArray, List.getElem_cons_succ, List.getElem_cons_zero]
  refine tkb 2 (.pointer (some ⟨sb, 0, none⟩)) rfl hS ?_
  simp only [Act.put, List.setIfInBounds_toArray, List.set_cons_zero, List.set_cons_succ, List.getElem_toArray, List.getElem_cons_succ, List.getElem_cons_zero]
  refine tkb 3 (.pointer (some ⟨sb, 70, none⟩)) rfl hS ?_
  simp only [Act.put, List.setIfInBounds_toArray, List.set_cons_zero, List.set_cons_succ, List.getElem_toArray, List.getElem_cons_succ, List.getElem_cons_zero]
  refine tkd 5 (esV aF) rfl (.inl ⟨by rfl, fun w' hw' => by have c := HSC.out w' hw'; go_simp⟩) hS ?_
  simp only [Act.put, List.setIfInBounds_toArray, List.set_cons_zero, List.set_cons_succ, List.getElem_toArray, List.getElem_cons_succ, List.getElem_cons_zero]
  have c70 := blk_cell HD0.out.st (stCs_er _ _ _ _ HD0.out.pool HD0.out.sum)
  refine wpAnyH_one (k := 4) rfl (by kernel_rfl) ?_
  go_wp2_with fail
  refine ⟨hS, ?_⟩
  refine wpAnyH_one (k := 6) rfl (by kernel_rfl) ?_
  go_wp2_with fail
  clear c70 hS
  have HKB := Lib.hid ((Keep.refl noBlk wa).alloc (.cells #[jeV j0, esV aF] 104))
  have HD1 := Lib.hid (HD0.out.same HKB.out)
  have hS1 := HSI.out _ HD1.out.keep
  refine ⟨hS1, ?_⟩
  have HR2 : Hid (Rd (wa.alloc (.cells #[jeV j0, esV aF] 104)) 1 (.slice (some ⟨wa.heap.size, 0, none⟩) 2 2) 2 [jeV j0, esV aF]) := Lib.hid (rd_lit2 wa _ _ _)
  refine wpAnyH_one (k := 7) rfl (by kernel_rfl) ?_
  go_wp2_with fail
  refine (join_two _ _ _ _ _ _ (HR2.out)).mono ?_
  rintro e wb ⟨jb, rfl, hJ, hkj, -⟩
  have HD2 := Lib.hid (HD1.out.same hkj); have HJ := Lib.hid hJ
  have HKZ := Lib.hid ((HKD.out.trans HKB.out).trans hkj)
  clear hJ hkj hS1 HD0 HD1 HR2 HKB HKD
  have hS2 := HSI.out _ HD2.out.keep
  go_wp2_with fail
  refine ⟨hS2, ?_⟩
  refine tkb 8 (.pointer (some ⟨sb, 0, none⟩)) rfl hS2 ?_
  simp only [Act.put, List.setIfInBounds_toArray, List.set_cons_zero, List.set_cons_succ, List.getElem_toArray, List.getElem_cons_succ, List.getElem_cons_zero]
  refine tkb 9 (.pointer (some ⟨sb, 70, none⟩)) rfl hS2 ?_
  simp only [Act.put, List.setIfInBounds_toArray, List.set_cons_zero, List.set_cons_succ, List.getElem_toArray, List.getElem_cons_succ, List.getElem_cons_zero]
  have c70 := blk_cell HD2.out.st (stCs_er _ _ _ _ HD2.out.pool HD2.out.sum)
  have kf := fun i => blk_free HD2.out.st i
  have HZ := Lib.hid (HD2.out.setErr (jeV jb))
  have HKS := Lib.hid ((Keep.refl (fun i => i = sb) wb).setCell (p := ⟨sb, 70, none⟩) (fun _ => rfl) (jeV jb))
  have HJZ := Lib.hid (HJ.out.put HKS.out HD2.out.st (by decide) (by decide))
  refine wpAnyH_one (k := 10) rfl (by kernel_rfl) ?_
  go_wp2_with fail
  clear c70 kf
  have HTZ := Lib.hid ((HJ7.out.same HKZ.out).put HKS.out HD2.out.st (by decide) (by decide))
  generalize wb.setCell _ _ = wz at HZ HJZ HKS HTZ ⊢
  have hS3 := HSI.out _ HZ.out.keep
  refine ⟨hS3, ?_⟩
  refine wpAnyH_done (by kernel_rfl) ?_ _
  clear hS2 hS3 HSI HSC HD2 HJ HKS HKZ S
  go_wp2_with fail
  go_ret
  exact ⟨rfl, jb, HZ.out, HJZ.out, HTZ.out⟩

end Go.Proofs.YtaiicjhnhbkgmaaGreatDoor

/-
  What an uberblock's sector is read as.
  Conditions: those told.
-/
namespace Go.Proofs.YtaiicjhnhbkgmaaGreatDoor
open Go.RowKit Go.Maps Go.ChangeMaps
set_option maxRecDepth 100000
set_option linter.unusedVariables false

def txgOf (b : List UInt8) : Nat := beN ((b.drop 40).take 5)
def lenOf (b : List UInt8) : Nat := beN ((b.drop 45).take 3)
def rootB (b : List UInt8) : List UInt8 := (b.drop 48).take 47
/-- The uberblock that stands in bytes. -/
def ubOf (b : List UInt8) : Ub := ⟨(txgOf b : Int), ptOf (rootB b), (lenOf b : Int), (b.drop 8).take 32⟩
def zUb : Ub := ⟨0, zPt, 0, zeros32⟩
/-- What Unpack tells. -/
def unpackU (b : List UInt8) : Ub × Int :=
  if b.length ≠ 256 then (zUb, 4) else if b = List.replicate 256 0 then (zUb, 6)
  else if (ubOf b).may = true ∧ packU (ubOf b) = b then (ubOf b, 0) else (zUb, 11)
def numsOk (b : List UInt8) : Prop := 1 ≤ txgOf b ∧ txgOf b ≤ 2147483648 ∧ lenOf b ≤ 16384
instance (b : List UInt8) : Decidable (numsOk b) := by unfold numsOk; infer_instance
theorem rootB_len {b : List UInt8} (h : b.length = 256) : (rootB b).length = 47 := by
  unfold rootB
  rw [List.length_take, List.length_drop, h]
  rfl
theorem ubOf_pool {b : List UInt8} (h : b.length = 256) : (ubOf b).pool.length = 32 := by
  show ((b.drop 8).take 32).length = 32
  rw [List.length_take, List.length_drop, h]
  rfl
theorem ubOf_sum {b : List UInt8} (h : b.length = 256) : (ubOf b).root.sum.length = 32 := by
  show ((rootB b).drop 15).length = 32
  rw [List.length_drop, rootB_len h]
/-- Wrong numbers, or a wrong root: damaged. -/
theorem unpackU_bad {b : List UInt8} (hl : b.length = 256) (hz : ¬ b = List.replicate 256 0) (h : ¬ numsOk b ∨ readB (rootB b) = false) : unpackU b = (zUb, 11) := by
  unfold unpackU
  rw [if_neg (by omega), if_neg hz, if_neg]
  rintro ⟨hm, hp⟩
  have hb := ub_bounds hm
  rcases h with h | h
  · exact h ⟨by have := hb.1; show 1 ≤ txgOf b; have e : (ubOf b).txg = (txgOf b : Int) := rfl; omega, by have e : (ubOf b).txg = (txgOf b : Int) := rfl; omega, by have e : (ubOf b).len = (lenOf b : Int) := rfl; omega⟩
  · have hr : ptB (ptOf (rootB b)) = rootB b := by
      have e : ptB (ptOf (rootB b)) = ptBytes (ubOf b).root := by
        unfold ptB
        exact if_pos hb.2.2.2.2
      rw [e]
      have h2 := congrArg (fun l => (l.drop 48).take 47) hp
      have e2 : ((packU (ubOf b)).drop 48).take 47 = ptBytes (ubOf b).root := by
        unfold packU
        rw [hm, if_pos rfl]
        have l4 := (ubS_lens (ubOf_pool hl) (ubOf_sum hl)).2.2.2.2.1
        have lp := ptBytes_len (ubOf_sum hl)
        show (((ubS (ubOf b) 4 ++ ptBytes (ubOf b).root) ++ List.replicate 129 0 ++ digest (ubBody (ubOf b))).drop 48).take 47 = _
        rw [List.append_assoc (ubS (ubOf b) 4 ++ ptBytes (ubOf b).root), List.append_assoc (ubS (ubOf b) 4), ← l4, List.drop_left, ← lp, List.take_left]
      rw [e2] at h2
      exact h2
    have hmy : (ptOf (rootB b)).may = true := hb.2.2.2.2
    unfold readB at h
    rw [rootB_len hl, hmy, hr] at h
    simp at h
/-- errors.Is of what was joined. -/
structure ErrG (w : World) (aF aR : Addr) : Prop where
  f : w.cell? ⟨0, 0, none⟩ = some (esV aF)
  r : w.cell? ⟨1, 0, none⟩ = some (esV aR)
  bf : ∃ c t, w.heap[aF.block]? = some (.cells c t (0, 0))
  br : ∃ c t, w.heap[aR.block]? = some (.cells c t (0, 0))
theorem ErrG.keep {w w' : World} {aF aR : Addr} (h : ErrG w aF aR) (k : Keep noBlk w w') : ErrG w' aF aR :=
  ⟨k.cell h.f id, k.cell h.r id, by obtain ⟨c, t, e⟩ := h.bf; exact ⟨c, t, k.blk e id⟩, by obtain ⟨c, t, e⟩ := h.br; exact ⟨c, t, k.blk e id⟩⟩
theorem is_two {w : World} {a b : Addr} (ha : ∃ c t, w.heap[a.block]? = some (.cells c t (0, 0))) (hb : ∃ c t, w.heap[b.block]? = some (.cells c t (0, 0))) : Calls Tryz.prog 107 #[esV a, esV b, .bool true] w (TherePost w (decide (a = b))) := by
  by_cases h : a = b
  · subst h
    rw [decide_eq_true rfl]
    exact is_same a w
  · rw [decide_eq_false h]
    obtain ⟨ca, ta, ha⟩ := ha
    obtain ⟨cb, tb, hb⟩ := hb
    exact is_other a b ca cb ta tb w h ha hb
theorem is_j0 {w : World} {aF aR a : Addr} (g : ErrG w aF aR) (hb : ∃ c t, w.heap[a.block]? = some (.cells c t (0, 0))) {j : Nat} (h : JoinIs w j [esV aR]) : Calls Tryz.prog 107 #[jeV j, esV a, .bool true] w (TherePost w (decide (aR = a))) := by
  have H := is_join w j a [esV aR] [decide (aR = a)] rfl h (fun i v t hv ht w' k => by
    have hi : i = 0 := by have := (List.getElem?_eq_some_iff.1 hv).1; simpa using this
    subst hi
    cases hv; cases ht
    have hb2 : ∃ c t, w'.heap[a.block]? = some (.cells c t (0, 0)) := by obtain ⟨c, t, e⟩ := hb; exact ⟨c, t, k.blk e id⟩
    exact is_two (g.keep k).br hb2)
  simpa using H
theorem is_j1 {w : World} {aF aR : Addr} (g : ErrG w aF aR) {j j0 : Nat} (h0 : JoinIs w j0 [esV aR]) (h : JoinIs w j [jeV j0, esV aF]) : Calls Tryz.prog 107 #[jeV j, esV aF, .bool true] w (TherePost w true) := by
  have H := is_join w j aF [jeV j0, esV aF] [decide (aR = aF), true] rfl h (fun i v t hv ht w' k => by
    have hi : i < 2 := by have := (List.getElem?_eq_some_iff.1 hv).1; simpa using this
    have hi2 : i = 0 ∨ i = 1 := by omega
    rcases hi2 with rfl | rfl
    · cases hv; cases ht
      exact is_j0 (g.keep k) (g.keep k).bf (h0.same k)
    · cases hv; cases ht
      exact is_same aF w')
  simpa using H
theorem errIs_0 {w : World} {aF aR a : Addr} (g : ErrG w aF aR) (hb : ∃ c t, w.heap[a.block]? = some (.cells c t (0, 0))) {j : Nat} (h : JoinIs w j [esV aR]) : Calls Tryz.prog 74 #[jeV j, esV a] w (TherePost w (decide (aR = a))) :=
  errIs_any w (jeV j) _ _ rfl a _ (is_j0 g hb h)
theorem errIs_1 {w : World} {aF aR : Addr} (g : ErrG w aF aR) {j j0 : Nat} (h0 : JoinIs w j0 [esV aR]) (h : JoinIs w j [jeV j0, esV aF]) : Calls Tryz.prog 74 #[jeV j, esV aF] w (TherePost w true) :=
  errIs_any w (jeV j) _ _ rfl aF _ (is_j1 g h0 h)
/-- The numbers, in all cases. -/
theorem numbers_any (w wr : World) (sb base p : Nat) (v : Value) (b : List UInt8) (uv er : Value) (u : Ub) (h : StW w wr sb base p v b 40 0 0 uv u er) (hl : b.length = 256) :
    Calls Tryz.prog 71 #[.pointer (some ⟨sb, 0, none⟩)] wr fun e w' => e = .returned (.pointer (some ⟨sb, 0, none⟩)) ∧ ∃ at2 fe fa x y, StW w w' sb base p v b at2 fe fa uv ⟨x, u.root, y, u.pool⟩ er ∧ if numsOk b then at2 = 48 ∧ fe = 0 ∧ x = (txgOf b : Int) ∧ y = (lenOf b : Int) else fe ≠ 0 := by
  by_cases h1 : 1 ≤ txgOf b ∧ txgOf b ≤ 2147483648
  · have D1 : ∀ wx, StW w wx sb base p v b 40 0 0 uv u er → Calls Tryz.prog 102 #[.pointer (some ⟨p, 0, none⟩), .int .i64 5, .int .i64 1, .int .i64 2147483648] wx fun e w' => e = .returned (.int .i64 (txgOf b : Int)) ∧ StW w w' sb base p v b 45 0 0 uv u er := fun wx hx => by
      refine (rdnum_any wx base p v b 40 0 hx.rd 5 1 2147483648 (by omega) (by omega) (by omega) (txgOf b) rfl).mono ?_
      rintro e w' ⟨hk, hq⟩
      rw [if_pos ⟨by omega, by omega⟩] at hq
      exact ⟨hq.1, hx.read hk hq.2⟩
    by_cases h2 : lenOf b ≤ 16384
    · refine (numbers_of w wr sb base p v b uv er u 40 45 48 0 0 0 0 0 0 _ (lenOf b : Int) h D1 (fun wx hx => ?_)).mono ?_
      · refine (rdnum_any wx base p v b 45 0 hx.rd 3 0 16384 (by omega) (by omega) (by omega) (lenOf b) rfl).mono ?_
        rintro e w' ⟨hk, hq⟩
        rw [if_pos ⟨by omega, by omega⟩] at hq
        exact ⟨hq.1, hx.read hk hq.2⟩
      · rintro e w' ⟨rfl, hs⟩
        exact ⟨rfl, 48, 0, 0, _, _, hs, by rw [if_pos ⟨h1.1, h1.2, h2⟩]; exact ⟨rfl, rfl, rfl, rfl⟩⟩
    · refine (numbers_of w wr sb base p v b uv er u 40 45 45 0 0 0 0 5 45 _ 0 h D1 (fun wx hx => ?_)).mono ?_
      · refine (rdnum_any wx base p v b 45 0 hx.rd 3 0 16384 (by omega) (by omega) (by omega) (lenOf b) rfl).mono ?_
        rintro e w' ⟨hk, hq⟩
        rw [if_neg (by omega)] at hq
        exact ⟨hq.1, hx.read hk hq.2⟩
      · rintro e w' ⟨rfl, hs⟩
        exact ⟨rfl, 45, 5, 45, _, _, hs, by rw [if_neg (fun h => h2 h.2.2)]; decide⟩
  · refine (numbers_of w wr sb base p v b uv er u 40 40 40 0 0 5 40 5 40 0 0 h (fun wx hx => ?_) (fun wx hx => ?_)).mono ?_
    · refine (rdnum_any wx base p v b 40 0 hx.rd 5 1 2147483648 (by omega) (by omega) (by omega) (txgOf b) rfl).mono ?_
      rintro e w' ⟨hk, hq⟩
      rw [if_neg (by omega)] at hq
      exact ⟨hq.1, hx.read hk hq.2⟩
    · refine (rdnum_fault wx base p v b 40 5 40 hx.rd (by decide) 3 0 16384).mono ?_
      rintro e w' ⟨he, hr, hk⟩
      exact ⟨he, hx.same hk⟩
    · rintro e w' ⟨rfl, hs⟩
      exact ⟨rfl, 40, 5, 40, _, _, hs, by rw [if_neg (fun h => h1 ⟨h.1, h.2.1⟩)]; decide⟩
/-- The root's bytes. -/
theorem rawroot_ok (w wr : World) (sb base p : Nat) (v : Value) (b : List UInt8) (uv er : Value) (u : Ub) (hl : b.length = 256) (fa : Int) : ∀ wx, StW w wx sb base p v b 48 0 fa uv u er → Calls Tryz.prog 101 #[.pointer (some ⟨p, 0, none⟩), .int .i64 47] wx fun e w' => ∃ bv, e = .returned bv ∧ Rd w' 1 bv (rootB b).length ((rootB b).map vb) ∧ StW w w' sb base p v b 95 0 fa uv u er := fun wx hx => by
  refine (rraw_ok wx base p v b 48 fa hx.rd 47 (by omega) (by omega)).mono ?_
  rintro e w' ⟨v', he, ho, hr, hk⟩
  exact ⟨v', he, by rw [rootB_len hl]; exact Rd.of_owns ho, hx.read hk hr⟩
theorem rawroot_no (w wr : World) (sb base p : Nat) (v : Value) (b : List UInt8) (uv er : Value) (u : Ub) (at1 : Nat) (fe fa : Int) (hfe : fe ≠ 0) : ∀ wx, StW w wx sb base p v b at1 fe fa uv u er → Calls Tryz.prog 101 #[.pointer (some ⟨p, 0, none⟩), .int .i64 47] wx fun e w' => ∃ bv, e = .returned bv ∧ Rd w' 1 bv ([] : List UInt8).length (([] : List UInt8).map vb) ∧ StW w w' sb base p v b at1 fe fa uv u er := fun wx hx => by
  refine (rraw_fault wx base p v b at1 fe fa hx.rd hfe 47).mono ?_
  rintro e w' ⟨he, hr, hk⟩
  exact ⟨_, he, Rd.of_owns (World.ownsRow_nil w' 0 5 1), hx.same hk⟩

end Go.Proofs.YtaiicjhnhbkgmaaGreatDoor
