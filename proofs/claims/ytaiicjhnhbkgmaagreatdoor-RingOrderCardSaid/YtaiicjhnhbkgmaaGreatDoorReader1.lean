/-
  The reader of package field: what its methods do to a reader in memory (first part: none, Open, need, the frame 'read').
  Conditions: the bounds on sizes that each theorem names.
-/
import Derived.Test.YtaiicjhnhbkgmaaGreatDoorField
import Derived.Test.YtaiicjhnhbkgmaaGreatDoorFill
import Derived.Test.YtaiicjhnhbkgmaaGreatDoorBase
import Derived.Defers
import Derived.Recover
import Derived.Outline
import Derived.Test.YtaiicjhnhbkgmaaGreatDoorRegion
namespace Go.Proofs.YtaiicjhnhbkgmaaGreatDoor
open Go.RowKit
set_option maxRecDepth 100000

/-- A reader at block p: v is its bytes, which read l; it stands at 'at_'; its fault. -/
structure Rdr (w : World) (base p : Nat) (v : Value) (l : List UInt8) (at_ : Nat) (fe fa : Int) : Prop where
  blk : w.heap[p]? = some (.cells #[.bool true, v, .int .i64 at_, .int .i64 fe, .int .i64 fa] 136 (0, 0))
  own : w.ownsRow base 5 1 v l.length (l.map vb)
  ne : v.ownBlock ≠ some p
  le : base ≤ p
  fit : at_ ≤ l.length
  max : l.length ≤ 65536

theorem Rdr.cells {w : World} {base p : Nat} {v : Value} {l : List UInt8} {at_ : Nat} {fe fa : Int} (h : Rdr w base p v l at_ fe fa) :
    w.cell? ⟨p, 0, none⟩ = some (.bool true) ∧ w.cell? ⟨p, 1, none⟩ = some v ∧ w.cell? ⟨p, 2, none⟩ = some (.int .i64 at_) ∧ w.cell? ⟨p, 3, none⟩ = some (.int .i64 fe) ∧ w.cell? ⟨p, 4, none⟩ = some (.int .i64 fa) ∧ (∀ i, w.frozen? ⟨p, i, none⟩ = false) := by
  refine ⟨?_, ?_, ?_, ?_, ?_, fun i => frozen_of_row w p i _ _ h.blk⟩ <;> (rw [cell_of_row w p _ _ _ _ h.blk]; rfl)
theorem Rdr.keep {w w' : World} {base p : Nat} {v : Value} {l : List UInt8} {at_ : Nat} {fe fa : Int} (h : Rdr w base p v l at_ fe fa) {S : Nat → Prop} (k : Keep S w w') (hp : ¬ S p) (hv : ∀ g, v.ownBlock = some g → ¬ S g) : Rdr w' base p v l at_ fe fa :=
  ⟨k.blk h.blk hp, k.owns h.own hv, h.ne, h.le, h.fit, h.max⟩
theorem Rdr.form {w : World} {base p : Nat} {v : Value} {l : List UInt8} {at_ : Nat} {fe fa : Int} (h : Rdr w base p v l at_ fe fa) : ∃ a cap, v = .slice a l.length cap := by
  obtain ⟨a, c, h1, -, -⟩ := (Rd.of_owns h.own).form
  exact ⟨a, c, h1⟩
/-- Stores into its place and its fault. -/
theorem Rdr.setAt {w : World} {base p : Nat} {v : Value} {l : List UInt8} {at_ : Nat} {fe fa : Int} (h : Rdr w base p v l at_ fe fa) (n : Nat) (hn : n ≤ l.length) : Rdr (w.setCell ⟨p, 2, none⟩ (.int .i64 n)) base p v l n fe fa :=
  ⟨by rw [set_blk h.blk]; rfl, ownsRow_setCell_other h.own (by simpa using h.ne) _, h.ne, h.le, hn, h.max⟩
theorem Rdr.setF {w : World} {base p : Nat} {v : Value} {l : List UInt8} {at_ : Nat} {fe fa : Int} (h : Rdr w base p v l at_ fe fa) (er ea : Int) : Rdr ((w.setCell ⟨p, 3, none⟩ (.int .i64 er)).setCell ⟨p, 4, none⟩ (.int .i64 ea)) base p v l at_ er ea := by
  have h1 := set_blk h.blk 3 (.int .i64 er)
  exact ⟨by rw [set_blk h1]; rfl, ownsRow_setCell_other (ownsRow_setCell_other h.own (by simpa using h.ne) _) (by simpa using h.ne) _, h.ne, h.le, h.fit, h.max⟩

set_option maxHeartbeats 400000 in
theorem rnone_any (w : World) (base p : Nat) (v : Value) (l : List UInt8) (at_ : Nat) (fe fa : Int) (h : Rdr w base p v l at_ fe fa) :
    Calls Tryz.prog 126 #[.pointer (some ⟨p, 0, none⟩)] w (fun e w' => e = .returned (.bool false) ∧ w = w') := by
  obtain ⟨c0, c1, c2, c3, c4, cf⟩ := h.cells
  clear h
  go_enter Tryz.func126, Tryz.ntmps126
  go_wp2_with fail
  go_ret
  exact ⟨rfl, rfl⟩

theorem ropen_any (bv : Value) (bs : List UInt8) (w : World) (hr : Rd w 1 bv bs.length (bs.map vb)) (hb : bs.length ≤ 65536) :
    Calls Tryz.prog 69 #[bv] w (fun e w' => ∃ p v, e = .returned (.pointer (some ⟨p, 0, none⟩)) ∧ Rdr w' w.heap.size p v bs 0 0 0 ∧ Keep noBlk w w') := by
  have C := Lib.hid (clone_any bv bs w hr (by omega))
  obtain ⟨a, c, rfl, -, -⟩ := hr.form
  clear hr
  go_enter Tryz.func69, Tryz.ntmps69
  go_wp2_with fail
  refine C.out.mono ?_
  rintro e w1 ⟨v, rfl, hown, hk⟩
  obtain ⟨a3, c3, rfl, -, -⟩ := (Rd.of_owns hown).form
  have HO := Lib.hid hown; have HK := Lib.hid hk
  clear hown hk
  go_wp2_with fail
  go_ret
  refine ⟨_, _, rfl, ⟨heap_alloc_new _ _, (((Keep.refl noBlk w1).alloc _).owns HO.out fun _ _ => id), ?_, HK.out.size, Nat.zero_le _, hb⟩, HK.out.alloc _⟩
  intro e
  obtain ⟨cur, hc⟩ := owns_block HO.out e
  have := lt_of_block hc
  omega

set_option maxHeartbeats 400000 in
theorem need_ok (w : World) (base p : Nat) (v : Value) (l : List UInt8) (at_ : Nat) (fe fa : Int) (h : Rdr w base p v l at_ fe fa) (n : Nat) (h1 : 1 ≤ n) (hn : at_ + n ≤ l.length) :
    Calls Tryz.prog 122 #[.pointer (some ⟨p, 0, none⟩), .int .i64 n] w (fun e w' => ∃ bv, e = .returned bv ∧ Rd w' 1 bv n (((l.drop at_).take n).map vb) ∧ Keep noBlk w w') := by
  obtain ⟨c0, c1, c2, c3, c4, cf⟩ := h.cells
  obtain ⟨g, c, hv, hlc, hcm⟩ : ∃ g c, v = .slice (some ⟨g, 0, none⟩) l.length c ∧ l.length ≤ c ∧ c ≤ 9223372036854775807 := by
    rcases h.own.2 with ⟨-, h0⟩ | ⟨g, cap, cur, rfl, _, _, h1, h2, h3, h4⟩
    · omega
    · exact ⟨g, cap, rfl, by omega, by unfold maxLen at h2; omega⟩
  subst hv
  have H := Lib.hid h
  have hm := h.max
  clear h
  have e1 : IntKind.i64.wrap ((at_ : Int) + (n : Int)) = (at_ : Int) + (n : Int) := by rw [IntWalk.i64_in _ (by omega)]
  have e2 : IntKind.i64.wrap ((l.length : Int) - (at_ : Int)) = (l.length : Int) - (at_ : Int) := by rw [IntWalk.i64_in _ (by omega)]
  have e3 : ((at_ : Int) + (n : Int)).toNat = at_ + n := by omega
  have i1 : (0 : Int) ≤ (at_ : Int) := by omega
  have i2 : (0 : Int) ≤ (at_ : Int) + (n : Int) := by omega
  have i3 : (at_ : Int) ≤ (at_ : Int) + (n : Int) := by omega
  have i4 : (at_ : Int) + (n : Int) ≤ (c : Int) := by omega
  have i5 : at_ < c := by omega
  have i6 : at_ + n ≤ c := by omega
  have i7 : at_ ≤ at_ + n := by omega
  have t1 : decide ((l.length : Int) - (at_ : Int) < (n : Int)) = false := by simp; omega
  go_enter Tryz.func122, Tryz.ntmps122
  go_wp2_with fail
  go_quiet (fail)
  go_wp2_with fail
  go_quiet (fail)
  go_wp2_with fail
  go_ret
  refine ⟨_, rfl, ?_, ?_⟩
  · refine Rd.keep (w := w) (S := noBlk) ?_ (Keep.drewN (Keep.drewN (Keep.refl _ _) _) _) (fun _ _ => id)
    refine ⟨by simp; omega, _, _, rfl, by omega, by unfold maxLen; omega, (by intro h; cases h), fun _ => ⟨g, at_, rfl, fun i u hu => ?_⟩⟩
    have := H.out.own.cells (g := g) rfl (at_ + i) u ?_
    · rwa [add_lit, Nat.zero_add] at this
    · rw [List.map_take, List.map_drop, List.getElem?_take] at hu
      split at hu
      · rwa [List.getElem?_drop] at hu
      · cases hu
  · exact Keep.drewN (Keep.drewN (Keep.refl _ _) _) _

/-- What 'panic(stop{er, ea})' leaves. -/
def stopV (er ea : Int) : List PanicEntry := [{ v := .iface 161 (.agg #[.int .i64 er, .int .i64 ea]), recovered := false }]

/-- The deferred function of 'read', where nothing is to be caught. -/
theorem catch_idle (A : Nat) (w : World) :
    CallsD Tryz.prog 132 #[.pointer (some ⟨A, 0, none⟩)] .returning w fun e u' w' => e = .returned (.tuple #[]) ∧ u' = .returning ∧ w' = w := by
  refine callsD_of_wpS Tryz.func132 rfl fun c₀ cs hu => ?_
  apply wpS_seq
  apply wpS_region
  simp [wpOpsS, go_sem, recoverD, hu, Tryz.ntmps132, Exit.thenS]
  refine wpS_of_wp ?_
  go_wp2_with fail
  cases c₀
  simp_all [bodyPostS, results, Tryz.results132]

/-- ... and where a stop is. -/
def Caught (p : Nat) (er ea : Int) (cs5 : Array Value) (w : World) (e : Ending) (u' : FrameMode) (w' : World) : Prop :=
  e = .returned (.tuple #[]) ∧ u' = .panicking [{ v := .iface 161 (.agg #[.int .i64 er, .int .i64 ea]), recovered := true }] ∧
  w'.heap[p]? = some (.cells (spl cs5 3 [.int .i64 er, .int .i64 ea]) 136 (0, 0)) ∧ Keep (fun k => k = p) w w'
theorem zeroStop (w : World) : (zeroValue 161).run Tryz.prog w = .ok (.agg #[.int .i64 0, .int .i64 0]) w := by kernel_rfl
theorem sizeStop : (Tryz.prog.info? 161).map (·.size) = some 2 := by kernel_rfl
theorem sizeFault : (Tryz.prog.info? 115).map (·.size) = some 2 := by kernel_rfl
set_option maxHeartbeats 1000000 in
theorem catch_stop (A p : Nat) (er ea : Int) (w : World) (hA : w.cell? ⟨A, 0, none⟩ = some (.pointer (some ⟨p, 0, none⟩))) (cs5 : Array Value) (h5 : cs5.size = 5) (hp : w.heap[p]? = some (.cells cs5 136 (0, 0))) :
    CallsD Tryz.prog 132 #[.pointer (some ⟨A, 0, none⟩)] (.panicking (stopV er ea)) w (Caught p er ea cs5 w) := by
  have hta : ∀ (w : World), Sem.run Tryz.prog (Instr.typeAssert (.iface 161 (.agg #[.int .i64 er, .int .i64 ea])) 20 161 true) w = .ok (.tuple #[.agg #[.int .i64 er, .int .i64 ea], .bool true]) w := fun w => by kernel_rfl
  have hlt := lt_of_block hp
  have HP := Lib.hid hp; have HA := Lib.hid hA; clear hp hA
  refine callsD_of_wpS Tryz.func132 rfl fun c₀ cs hu => ?_
  simp only [Tryz.ntmps132, List.size_toArray, List.length_cons, List.length_nil, Nat.reduceAdd, Nat.reduceSub, Array.replicate_succ,
     Array.replicate_zero, List.push_toArray, List.append_toArray, List.nil_append, List.cons_append]
  apply wpS_seq
  apply wpS_region
  simp [wpOpsS, go_sem, recoverD, hu, stopV, Exit.thenS]
  refine wpS_of_wp ?_
  obtain ⟨vs, hvs⟩ : ∃ vs : List Value, vs = [.int .i64 er, .int .i64 ea] := ⟨_, rfl⟩
  have hvl : vs.length = 2 := by rw [hvs]; rfl
  have hvo : ∀ u ∈ vs, u.oneCell' = true := by rw [hvs]; simp [Value.oneCell']
  have HVS := Lib.hid hvs
  have hta' : ∀ (w : World), Sem.run Tryz.prog (Instr.typeAssert (.iface 161 (.agg vs.toArray)) 20 161 true) w = .ok (.tuple #[.agg vs.toArray, .bool true]) w := by rw [hvs]; exact hta
  rw [show (#[Value.int .i64 er, .int .i64 ea] : Array Value) = vs.toArray by rw [hvs]]
  have hAlt : A < w.heap.size := by have := World.block_lt_of_cell? w _ HA.out; exact this
  clear hvs hta
  go_wp2_with (first
    | (refine wpList_alloc_at rfl 161 rfl _ zeroStop #[.int .i64 0, .int .i64 0] rfl ?_)
    | ((with_reducible show wpList _ _ _ (⟨none, .store 161 (.tmp 2) (.tmp 9), _, _, _, _⟩ :: _) _ _); refine wpList_store_agg rfl 161 (.tmp 2) (.tmp 9) rfl w.heap.size 0 vs rfl rfl _ _ (heap_alloc_new _ _) (by rw [hvl]; decide) (by rw [hvl]; exact sizeStop) hvo ?_; intro w2 hb2 hk2; have hA2 := hk2.cell (((Keep.refl noBlk w).alloc _).cell HA.out id) (by omega); have HB2 := Lib.hid hb2; have HP2 := Lib.hid (hk2.blk (((Keep.refl noBlk w).alloc _).blk HP.out id) (by omega)); have HK2 := Lib.hid hk2; clear hb2 hk2)
    | ((with_reducible show wpList _ _ _ (⟨some 11, .load 161 (.tmp 2), _, _, _, _⟩ :: _) _ _); refine wpList_load_mid rfl 161 (.tmp 2) rfl w.heap.size 0 rfl vs _ (rangeAt_whole (by have := HB2.out; rwa [spl_whole _ _ (by rw [hvl]; rfl)] at this)) Tryz.underlying161 rfl (by rw [hvl]; exact sizeStop) ?_)
    | ((with_reducible show wpList _ _ _ (⟨none, .store 115 (.tmp 13) (.tmp 11), _, _, _, _⟩ :: _) _ _); refine wpList_store_agg rfl 115 (.tmp 13) (.tmp 11) rfl p 3 vs rfl rfl _ _ HP2.out (by rw [hvl, h5]; omega) (by rw [hvl]; exact sizeFault) hvo ?_; intro w3 hb3 hk3; have HB3 := Lib.hid hb3; have HK3 := Lib.hid hk3; clear hb3 hk3))
  refine ⟨rfl, _, rfl, _, results_none rfl _ _ _, rfl, by rw [HVS.out], ?_, ?_⟩
  · rw [← HVS.out]; exact HB3.out
  · exact (((Keep.refl (fun k => k = p) w).alloc _).trans' HK2.out (fun _ _ h => h) (fun i hi e => by omega)).trans' HK3.out (fun _ _ h => h) (fun i hi e => e)

/-- The world in which 'read' does what it was handed. -/
def boxP (w : World) (p : Nat) : World := w.alloc (.cells #[.pointer (some ⟨p, 0, none⟩)] 101)
theorem boxP_keep (w : World) (p : Nat) : Keep noBlk w (boxP w p) := (Keep.refl _ _).alloc _
def RetQ (Q : World → Prop) (e : Ending) (w' : World) : Prop := e = .returned (.tuple #[]) ∧ Q w'
def StopQ (er ea : Int) (Q : World → Prop) (e : Ending) (w' : World) : Prop := e = .panicked (stopV er ea) ∧ Q w'

set_option maxHeartbeats 400000 in
theorem read_fault (w : World) (base p : Nat) (v : Value) (l : List UInt8) (at_ : Nat) (fe fa : Int) (h : Rdr w base p v l at_ fe fa) (hfe : fe ≠ 0) (what : Value) :
    Calls Tryz.prog 120 #[.pointer (some ⟨p, 0, none⟩), what] w (fun e w' => e = .returned (.tuple #[]) ∧ boxP w p = w') := by
  have h1 := h.keep (boxP_keep w p) id (fun _ _ => id)
  obtain ⟨c0, c1, c2, c3, c4, cf⟩ := h1.cells
  have C := Lib.hid (rnone_any _ _ _ _ _ _ _ _ h1)
  have he1 : (fe != 0) = true := by simp [hfe]
  have he2 : (fe == 0) = false := by simp [hfe]
  have HF := Lib.hid hfe; clear hfe h h1
  unfold boxP at *
  go_enter_defers Tryz.func120, Tryz.ntmps120
  go_wp2_with fail
  refine C.out.mono ?_
  rintro e w1 ⟨rfl, rfl⟩
  go_wp2_with fail
  exact ⟨_, results_none rfl _ _ _, rfl, rfl⟩

set_option maxHeartbeats 400000 in
theorem read_ret (w : World) (base p : Nat) (v : Value) (l : List UInt8) (at_ : Nat) (fa : Int) (h : Rdr w base p v l at_ 0 fa) (fn : Nat) (caps : Array Value)
    (hcf : ∀ w, Sem.run Tryz.prog (callFunc fn caps) w = .ok (.enter fn caps) w) (Q : World → Prop) (hc : Calls Tryz.prog fn caps (boxP w p) (RetQ Q)) :
    Calls Tryz.prog 120 #[.pointer (some ⟨p, 0, none⟩), .func (.func fn) #[] caps] w (RetQ Q) := by
  have h1 := h.keep (boxP_keep w p) id (fun _ _ => id)
  obtain ⟨c0, c1, c2, c3, c4, cf⟩ := h1.cells
  have C := Lib.hid (rnone_any _ _ _ _ _ _ _ _ h1)
  have HC := Lib.hid hc
  have hmf : ∀ (fn : Fn) (first cap : Array Value) (w : World), (Instr.makeFunc fn first cap).run Tryz.prog w = .ok (.func fn first cap) w := fun _ _ _ _ => rfl
  clear hc h h1
  unfold boxP at *
  go_enter_defers Tryz.func120, Tryz.ntmps120
  go_wp2_with fail
  refine C.out.mono ?_
  rintro e w1 ⟨rfl, rfl⟩
  go_wp2_with fail
  refine HC.out.mono ?_
  rintro e w1 ⟨rfl, hq⟩
  have HQ := Lib.hid hq; clear hq
  go_wp2_with fail
  refine leaves_cons (f := 132) (args := #[.pointer (some ⟨w.heap.size, 0, none⟩)]) (by simp) (by simp [go_sem]) ?_
  refine (catch_idle _ _).mono ?_
  rintro e u' w'' ⟨rfl, rfl, rfl⟩
  exact ⟨_, results_none rfl _ _ _, rfl, HQ.out⟩

/-- Behind a stop: the fault. -/
def StoppedQ (w : World) (p base : Nat) (v : Value) (l : List UInt8) (at_ : Nat) (er ea : Int) (e : Ending) (w' : World) : Prop :=
  e = .returned (.tuple #[]) ∧ Rdr w' base p v l at_ er ea ∧ Keep (fun k => k = p) w w'
set_option maxHeartbeats 400000 in
theorem read_stop (w : World) (base p : Nat) (v : Value) (l : List UInt8) (at_ : Nat) (fa : Int) (h : Rdr w base p v l at_ 0 fa) (fn : Nat) (caps : Array Value)
    (hcf : ∀ w, Sem.run Tryz.prog (callFunc fn caps) w = .ok (.enter fn caps) w) (er ea : Int) (hc : Calls Tryz.prog fn caps (boxP w p) (StopQ er ea (Keep noBlk (boxP w p)))) :
    Calls Tryz.prog 120 #[.pointer (some ⟨p, 0, none⟩), .func (.func fn) #[] caps] w (StoppedQ w p base v l at_ er ea) := by
  have h1 := h.keep (boxP_keep w p) id (fun _ _ => id)
  obtain ⟨c0, c1, c2, c3, c4, cf⟩ := h1.cells
  have C := Lib.hid (rnone_any _ _ _ _ _ _ _ _ h1)
  have HC := Lib.hid hc
  have H1 := Lib.hid h1
  have HB := Lib.hid (show (boxP w p).heap[w.heap.size]? = some (.cells #[.pointer (some ⟨p, 0, none⟩)] 101 (0, 0)) from heap_alloc_new _ _)
  have HKB := Lib.hid (boxP_keep w p)
  have hmf : ∀ (fn : Fn) (first cap : Array Value) (w : World), (Instr.makeFunc fn first cap).run Tryz.prog w = .ok (.func fn first cap) w := fun _ _ _ _ => rfl
  clear hc h h1
  unfold boxP at *
  go_enter_defers Tryz.func120, Tryz.ntmps120
  go_wp2_with fail
  refine C.out.mono ?_
  rintro e w1 ⟨rfl, rfl⟩
  go_wp2_with fail
  refine HC.out.mono ?_
  rintro e w1 ⟨rfl, hk⟩
  have HK := Lib.hid hk; clear hk
  go_wp2_with fail
  refine leaves_cons (f := 132) (args := #[.pointer (some ⟨w.heap.size, 0, none⟩)]) (by simp) (by simp [go_sem]) ?_
  have h2 := H1.out.keep HK.out id (fun _ _ => id)
  refine (catch_stop _ p er ea w1 (blk_cell (HK.out.blk HB.out id) rfl) _ rfl h2.blk).mono ?_
  rintro e u' w'' ⟨rfl, rfl, hb, hk⟩
  have K : Keep (fun k => k = p) w w'' := ((HKB.out.trans HK.out).any).trans hk
  have hfin : StoppedQ w p base v l at_ er ea (.returned (.tuple #[])) w'' :=
    ⟨rfl, ⟨by rw [hb]; rfl, hk.owns h2.own (fun k hk e => h2.ne (by rw [hk, e])), h2.ne, h2.le, h2.fit, h2.max⟩, K⟩
  exact ⟨_, results_none rfl _ _ _, hfin⟩
end Go.Proofs.YtaiicjhnhbkgmaaGreatDoor

/-
  The reader of package field: Raw and Num.
  Conditions: the bounds on sizes that each theorem names.
-/
namespace Go.Proofs.YtaiicjhnhbkgmaaGreatDoor
open Go.RowKit
set_option maxRecDepth 100000

/-- What the closure of Raw leaves. -/
def Raw1Q (w : World) (Ao base p : Nat) (v : Value) (l bs : List UInt8) (at_ n : Nat) (fa : Int) (w' : World) : Prop :=
  ∃ v', w'.heap[Ao]? = some (.cells #[v'] 51 (0, 0)) ∧ w'.ownsRow w.heap.size 5 1 v' n (bs.map vb) ∧ Rdr w' base p v l (at_ + n) 0 fa ∧ Keep (fun k => k = p ∨ k = Ao) w w'

set_option maxHeartbeats 1000000 in
theorem raw1_ok (w : World) (base p : Nat) (v : Value) (l : List UInt8) (at_ : Nat) (fa : Int) (h : Rdr w base p v l at_ 0 fa) (An Ar Ao : Nat) (n : Nat) (h1 : 1 ≤ n) (hn : at_ + n ≤ l.length)
    (hAn : w.heap[An]? = some (.cells #[.int .i64 n] 3 (0, 0))) (hAr : w.heap[Ar]? = some (.cells #[.pointer (some ⟨p, 0, none⟩)] 101 (0, 0))) (hAo : w.heap[Ao]? = some (.cells #[.slice none 0 0] 51 (0, 0))) :
    Calls Tryz.prog 121 #[.pointer (some ⟨An, 0, none⟩), .pointer (some ⟨Ar, 0, none⟩), .pointer (some ⟨Ao, 0, none⟩)] w (RetQ (Raw1Q w Ao base p v l ((l.drop at_).take n) at_ n fa)) := by
  obtain ⟨c0, c1, c2, c3, c4, cf⟩ := h.cells
  have cn : w.cell? ⟨An, 0, none⟩ = some (.int .i64 n) := blk_cell hAn rfl
  have cr : w.cell? ⟨Ar, 0, none⟩ = some (.pointer (some ⟨p, 0, none⟩)) := blk_cell hAr rfl
  have C := Lib.hid (need_ok w base p v l at_ 0 fa h n h1 hn)
  have hm := h.max
  have HH := Lib.hid h; have HAn := Lib.hid hAn; have HAr := Lib.hid hAr; have HAo := Lib.hid hAo
  have hnp : Ao ≠ p := by intro e; subst e; rw [h.blk] at hAo; cases hAo
  clear h hAn hAr hAo
  have hn0 : decide ((n : Int) < 0) = false := by simp
  go_enter Tryz.func121, Tryz.ntmps121
  go_wp2_with fail
  refine C.out.mono ?_
  rintro e w1 ⟨bv, rfl, hrd, hk1⟩
  have hlen : ((l.drop at_).take n).length = n := by simp; omega
  obtain ⟨bs, hbs⟩ : ∃ bs, (l.drop at_).take n = bs := ⟨_, rfl⟩
  rw [hbs] at hrd hlen ⊢
  have HBS := Lib.hid hbs; clear hbs
  obtain ⟨a1, cp1, rfl, -, -⟩ := hrd.form
  have hrd' : Rd w1 1 (.slice a1 n cp1) bs.length (bs.map vb) := by rw [hlen]; exact hrd
  have C2 := Lib.hid (clone_any (.slice a1 n cp1) bs w1 hrd' (by omega))
  have HK1 := Lib.hid hk1
  clear hrd hrd' hk1 c0 c1 c2 c3 c4 cf cn cr
  go_wp2_with fail
  refine C2.out.mono ?_
  rintro e w2 ⟨v2, rfl, hown2, hk2⟩
  rw [hlen] at hown2
  have HL := Lib.hid hlen; clear hlen
  obtain ⟨a2, cp2, rfl, -, -⟩ := (Rd.of_owns hown2).form
  have K2 := HK1.out.trans hk2
  have hAo2 := K2.blk HAo.out id
  have co2 : w2.cell? ⟨Ao, 0, none⟩ = some (.slice none 0 0) := blk_cell hAo2 rfl
  have fo2 := blk_free hAo2 0
  have h3 := HH.out.keep K2 id (fun _ _ => id)
  obtain ⟨w3, hw3⟩ : ∃ w3, w2.setCell ⟨Ao, 0, none⟩ (.slice a2 n cp2) = w3 := ⟨_, rfl⟩
  have hno : ∀ g, (Value.slice a2 n cp2).ownBlock = some g → g ≠ Ao := by
    intro g hg e
    subst e
    have := owns_ge hown2 hg
    have := lt_of_block (HK1.out.blk HAo.out id)
    omega
  have K3 : Keep (fun k => k = Ao) w2 w3 := by rw [← hw3]; exact (Keep.refl (fun k => k = Ao) w2).setCell (fun _ => rfl) _
  have hvo : ∀ g, v.ownBlock = some g → ¬ g = Ao := by
    intro g hg e
    subst e
    obtain ⟨cur, hc⟩ := owns_block HH.out.own hg
    rw [HAo.out] at hc
    cases hc
  have h4 := h3.keep K3 (by omega) hvo
  have hAo3 : w3.heap[Ao]? = some (.cells #[.slice a2 n cp2] 51 (0, 0)) := by rw [← hw3, set_blk hAo2]; rfl
  have hown3 := K3.owns hown2 (fun k hk => hno k hk)
  have cn : w3.cell? ⟨An, 0, none⟩ = some (.int .i64 n) := K3.cell (K2.cell (blk_cell HAn.out rfl) id) (by intro e; subst e; have := HAn.out; rw [HAo.out] at this; cases this)
  have cr : w3.cell? ⟨Ar, 0, none⟩ = some (.pointer (some ⟨p, 0, none⟩)) := K3.cell (K2.cell (blk_cell HAr.out rfl) id) (by intro e; subst e; have := HAr.out; rw [HAo.out] at this; cases this)
  obtain ⟨c0, c1, c2, c3, c4, cf⟩ := h4.cells
  have hle := HK1.out.size
  have H4 := Lib.hid h4; have HO3 := Lib.hid hown3; have HAo3 := Lib.hid hAo3
  have HK := Lib.hid (show Keep (fun k => k = p ∨ k = Ao) w w3 from (K2.any).trans (K3.mono fun _ _ h => .inr h))
  clear hown2 hk2 K2 hAo2 h3 K3 h4 hown3 hAo3 hno hvo
  go_wp2_with fail
  clear hw3 co2 fo2
  have e1 : IntKind.i64.wrap ((at_ : Int) + (n : Int)) = (at_ : Int) + (n : Int) := by rw [IntWalk.i64_in _ (by omega)]
  go_still_tail 8, (by kernel_rfl)
  clear e1
  go_wp2_with fail
  go_end0
  have KP : Keep (fun k => k = p) w3 ((w3.setCell ⟨p, 2, none⟩ (.int .i64 ((at_ + n : Nat) : Int))).drew) := ((Keep.refl (fun k => k = p) w3).setCell (fun _ => rfl) _).drew
  refine ⟨rfl, _, KP.blk HAo3.out (by omega), ?_, ((H4.out.setAt (at_ + n) hn).keep (Keep.refl noBlk _).drew id (fun _ _ => id)), HK.out.trans (KP.mono fun _ _ h => .inl h)⟩
  rw [HBS.out]
  refine ownsRow_mono (KP.owns HO3.out fun k hk e => ?_) hle
  have := owns_ge HO3.out hk
  have := lt_of_block HH.out.blk
  omega

theorem boxes2 (w : World) (x y : Obj) : ((w.alloc x).alloc y).heap[w.heap.size]? = some x ∧ ((w.alloc x).alloc y).heap[w.heap.size + 1]? = some y := by
  refine ⟨?_, ?_⟩
  · rw [heap_alloc_old _ _ (by simp)]; exact heap_alloc_new _ _
  · have := heap_alloc_new (w.alloc x) y
    rwa [World.size_alloc] at this
theorem boxes3 (w : World) (x y z : Obj) : (((w.alloc x).alloc y).alloc z).heap[w.heap.size]? = some x ∧ (((w.alloc x).alloc y).alloc z).heap[w.heap.size + 1]? = some y ∧ (((w.alloc x).alloc y).alloc z).heap[w.heap.size + 2]? = some z := by
  obtain ⟨h1, h2⟩ := boxes2 w x y
  refine ⟨?_, ?_, ?_⟩
  · rw [heap_alloc_old _ _ (lt_of_block h1)]; exact h1
  · rw [heap_alloc_old _ _ (lt_of_block h2)]; exact h2
  · have := heap_alloc_new ((w.alloc x).alloc y) z
    rwa [World.size_alloc, World.size_alloc] at this

/-- What Raw tells of a reader without a fault that has enough. -/
def RawPost (w : World) (base p : Nat) (v : Value) (l : List UInt8) (at_ n : Nat) (fa : Int) (e : Ending) (w' : World) : Prop :=
  ∃ v', e = .returned v' ∧ w'.ownsRow w.heap.size 5 1 v' n (((l.drop at_).take n).map vb) ∧ Rdr w' base p v l (at_ + n) 0 fa ∧ Keep (fun k => k = p) w w'
set_option maxHeartbeats 1000000 in
theorem rraw_ok (w : World) (base p : Nat) (v : Value) (l : List UInt8) (at_ : Nat) (fa : Int) (h : Rdr w base p v l at_ 0 fa) (n : Nat) (h1 : 1 ≤ n) (hn : at_ + n ≤ l.length) :
    Calls Tryz.prog 101 #[.pointer (some ⟨p, 0, none⟩), .int .i64 n] w (RawPost w base p v l at_ n fa) := by
  have hmf : ∀ (fn : Fn) (first cap : Array Value) (w : World), (Instr.makeFunc fn first cap).run Tryz.prog w = .ok (.func fn first cap) w := fun _ _ _ _ => rfl
  obtain ⟨W1, hW1⟩ : ∃ W1, ((w.alloc (.cells #[.pointer (some ⟨p, 0, none⟩)] 101)).alloc (.cells #[.int .i64 n] 3)).alloc (.cells #[.slice none 0 0] 51) = W1 := ⟨_, rfl⟩
  have K1 : Keep noBlk w W1 := by rw [← hW1]; exact (((Keep.refl _ _).alloc _).alloc _).alloc _
  have hs1 : w.heap.size + 3 = W1.heap.size := by rw [← hW1]; simp
  obtain ⟨b0, b1, b2⟩ := boxes3 w (.cells #[.pointer (some ⟨p, 0, none⟩)] 101) (.cells #[.int .i64 n] 3) (.cells #[.slice none 0 0] 51)
  rw [hW1] at b0 b1 b2
  have hK := boxP_keep W1 p
  have hR := (h.keep K1 id (fun _ _ => id))
  have c1 := raw1_ok (boxP W1 p) base p v l at_ fa (hR.keep hK id (fun _ _ => id)) (w.heap.size + 1) w.heap.size (w.heap.size + 2) n h1 hn (hK.blk b1 id) (hK.blk b0 id) (hK.blk b2 id)
  have C := Lib.hid (read_ret W1 base p v l at_ fa hR 121 #[.pointer (some ⟨w.heap.size + 1, 0, none⟩), .pointer (some ⟨w.heap.size, 0, none⟩), .pointer (some ⟨w.heap.size + 2, 0, none⟩)] (fun _ => rfl) _ c1)
  have hplt := lt_of_block h.blk
  have cb0 : W1.cell? ⟨w.heap.size, 0, none⟩ = some (.pointer (some ⟨p, 0, none⟩)) := blk_cell b0 rfl
  have HK := Lib.hid (K1.trans hK); have HH := Lib.hid h; have HS := Lib.hid hs1
  clear h K1 b0 b1 b2 hR c1 hK hs1
  go_enter Tryz.func101, Tryz.ntmps101
  go_wp2_with fail
  refine C.out.mono ?_
  rintro e w2 ⟨rfl, v', hb, hown, hrd, hk⟩
  clear hW1 C
  have co := blk_cell (i := 0) (v := v') hb rfl
  obtain ⟨a2, cp2, rfl, -, -⟩ := (Rd.of_owns hown).form
  have HO := Lib.hid hown; have HR := Lib.hid hrd; have HK2 := Lib.hid hk
  clear hb hown hrd hk
  go_wp2_with fail
  go_ret
  refine ⟨_, rfl, ownsRow_mono HO.out HK.out.size, HR.out, HK.out.trans' HK2.out (fun _ _ h => h.elim) (fun i hi e => ?_)⟩
  rcases e with e | e
  · exact e
  · omega

end Go.Proofs.YtaiicjhnhbkgmaaGreatDoor

/-
  The reader of package field: Num.
  Conditions: the bounds on sizes that each theorem names.
-/
namespace Go.Proofs.YtaiicjhnhbkgmaaGreatDoor
open Go.RowKit
set_option maxRecDepth 100000

/-- A number out of its bytes, the highest first. -/
def beN (l : List UInt8) : Nat := l.foldl (fun a c => a * 256 + c.toNat) 0
theorem beN_snoc (l : List UInt8) (c : UInt8) : beN (l ++ [c]) = beN l * 256 + c.toNat := by simp [beN]
theorem beN_lt' : ∀ (l : List UInt8) (a : Nat), l.foldl (fun a c => a * 256 + c.toNat) a < (a + 1) * 256 ^ l.length
  | [], a => by simp
  | c :: l, a => by
    rw [List.foldl_cons, List.length_cons]
    have h1 := beN_lt' l (a * 256 + c.toNat)
    have h2 := c.toNat_lt
    have h3 : (a * 256 + c.toNat + 1) * 256 ^ l.length ≤ (a + 1) * 256 * 256 ^ l.length := Nat.mul_le_mul_right _ (by omega)
    rw [Nat.pow_succ, Nat.mul_comm (256 ^ l.length), ← Nat.mul_assoc]
    omega
theorem beN_lt (l : List UInt8) : beN l < 256 ^ l.length := by simpa [beN] using beN_lt' l 0
theorem or_byte (x c : Nat) (hx : x < 281474976710656) (hc : c < 256) : bits .or .i64 ((x : Int) * 256) (c : Int) = ((x * 256 + c : Nat) : Int) := by
  rw [show ((x : Int) * 256) = ((x * 256 : Nat) : Int) by simp]
  have h1 : x * 256 ||| c = x * 256 + c := by
    have := Nat.shiftLeft_add_eq_or_of_lt (i := 8) (b := c) (by omega) x
    rw [Nat.shiftLeft_eq] at this
    exact this.symm
  show IntKind.i64.wrap ((BitVec.ofInt 64 ((x * 256 : Nat) : Int) ||| BitVec.ofInt 64 (c : Int)).toNat : Int) = _
  rw [BitVec.toNat_or, show (BitVec.ofInt 64 ((x * 256 : Nat) : Int)).toNat = x * 256 by simp; omega, show (BitVec.ofInt 64 (c : Int)).toNat = c by simp; omega, h1]
  rw [IntWalk.i64_in _ (by omega)]
theorem beN_le (l : List UInt8) (h : l.length ≤ 6) : beN l < 281474976710656 := by
  have h1 := beN_lt l
  have h2 : 256 ^ l.length ≤ 256 ^ 6 := Nat.pow_le_pow_right (by omega) h
  have h3 : (256 : Nat) ^ 6 = 281474976710656 := by decide
  omega

/-- The boxes of Num, as its closure finds them. -/
structure NumB (w : World) (p An Ar Al Ah Ao : Nat) (size low high : Int) : Prop where
  n : w.heap[An]? = some (.cells #[.int .i64 size] 3 (0, 0))
  r : w.heap[Ar]? = some (.cells #[.pointer (some ⟨p, 0, none⟩)] 101 (0, 0))
  l : w.heap[Al]? = some (.cells #[.int .i64 low] 3 (0, 0))
  h : w.heap[Ah]? = some (.cells #[.int .i64 high] 3 (0, 0))
  o : w.heap[Ao]? = some (.cells #[.int .i64 0] 3 (0, 0))
  ne : Ao ≠ p ∧ Ao ≠ An ∧ Ao ≠ Ar ∧ Ao ≠ Al ∧ Ao ≠ Ah
theorem NumB.keep {w w' : World} {p An Ar Al Ah Ao : Nat} {size low high : Int} (b : NumB w p An Ar Al Ah Ao size low high) (k : Keep noBlk w w') : NumB w' p An Ar Al Ah Ao size low high :=
  ⟨k.blk b.n id, k.blk b.r id, k.blk b.l id, k.blk b.h id, k.blk b.o id, b.ne⟩
theorem NumB.cells {w : World} {p An Ar Al Ah Ao : Nat} {size low high : Int} (b : NumB w p An Ar Al Ah Ao size low high) :
    w.cell? ⟨An, 0, none⟩ = some (.int .i64 size) ∧ w.cell? ⟨Ar, 0, none⟩ = some (.pointer (some ⟨p, 0, none⟩)) ∧ w.cell? ⟨Al, 0, none⟩ = some (.int .i64 low) ∧ w.cell? ⟨Ah, 0, none⟩ = some (.int .i64 high) ∧
    w.cell? ⟨Ao, 0, none⟩ = some (.int .i64 0) ∧ w.frozen? ⟨Ao, 0, none⟩ = false :=
  ⟨blk_cell b.n rfl, blk_cell b.r rfl, blk_cell b.l rfl, blk_cell b.h rfl, blk_cell b.o rfl, blk_free b.o 0⟩

def Num1Q (w : World) (Ao base p : Nat) (v : Value) (l : List UInt8) (x : Int) (at_ : Nat) (fa : Int) (w' : World) : Prop :=
  w'.heap[Ao]? = some (.cells #[.int .i64 x] 3 (0, 0)) ∧ Rdr w' base p v l at_ 0 fa ∧ Keep (fun k => k = p ∨ k = Ao) w w'
theorem num1_end {w w1 : World} {base p : Nat} {v : Value} {l : List UInt8} {at_ : Nat} {fa : Int} {An Ar Al Ah Ao : Nat} {size low high : Int} (hk : Keep noBlk w w1) (h : Rdr w1 base p v l at_ 0 fa) (hb : NumB w1 p An Ar Al Ah Ao size low high)
    (x : Int) (k : Nat) (hn : at_ + k ≤ l.length) : Num1Q w Ao base p v l x (at_ + k) fa ((w1.setCell ⟨Ao, 0, none⟩ (.int .i64 x)).setCell ⟨p, 2, none⟩ (.int .i64 ((at_ : Int) + (k : Int)))).drew := by
  have K1 : Keep (fun i => i = Ao) w1 (w1.setCell ⟨Ao, 0, none⟩ (.int .i64 x)) := (Keep.refl (fun i => i = Ao) w1).setCell (fun _ => rfl) _
  have h1 := h.keep K1 (by have := hb.ne.1; omega) (fun g hg e => by
    subst e
    obtain ⟨cur, hc⟩ := owns_block h.own hg
    rw [hb.o] at hc
    cases hc)
  have b1 : (w1.setCell ⟨Ao, 0, none⟩ (.int .i64 x)).heap[Ao]? = some (.cells #[.int .i64 x] 3 (0, 0)) := by rw [set_blk hb.o]; rfl
  have h2 := h1.setAt (at_ + k) hn
  rw [show (((at_ + k : Nat)) : Int) = (at_ : Int) + (k : Int) by simp] at h2
  have K2 : Keep (fun i => i = p) (w1.setCell ⟨Ao, 0, none⟩ (.int .i64 x)) ((w1.setCell ⟨Ao, 0, none⟩ (.int .i64 x)).setCell ⟨p, 2, none⟩ (.int .i64 ((at_ : Int) + (k : Int)))).drew := ((Keep.refl (fun i => i = p) _).setCell (fun _ => rfl) _).drew
  exact ⟨K2.blk b1 hb.ne.1, h2.keep (Keep.refl noBlk _).drew id (fun _ _ => id), ((hk.any).trans' K1 (fun _ _ h => h) (fun _ _ e => .inr e)).trans' K2 (fun _ _ h => h) (fun _ _ e => .inl e)⟩

def Num1P (w : World) (Ao base p : Nat) (v : Value) (l : List UInt8) (x low high : Int) (at_ n : Nat) (fa : Int) (e : Ending) (w' : World) : Prop :=
  if low ≤ x ∧ x ≤ high then RetQ (Num1Q w Ao base p v l x (at_ + n) fa) e w' else StopQ 5 at_ (Keep noBlk w) e w'
set_option maxHeartbeats 1000000 in
theorem num1_rok (w : World) (base p : Nat) (v : Value) (l : List UInt8) (at_ : Nat) (fa : Int) (h : Rdr w base p v l at_ 0 fa) (An Ar Al Ah Ao : Nat) (n : Nat) (low high : Int) (h1 : 1 ≤ n) (h7 : n ≤ 6) (hn : at_ + n ≤ l.length)
    (hb : NumB w p An Ar Al Ah Ao n low high) (x : Nat) (hx : beN ((l.drop at_).take n) = x) :
    Calls Tryz.prog 123 #[.pointer (some ⟨An, 0, none⟩), .pointer (some ⟨Ar, 0, none⟩), .pointer (some ⟨Al, 0, none⟩), .pointer (some ⟨Ah, 0, none⟩), .pointer (some ⟨Ao, 0, none⟩)] w
      (Num1P w Ao base p v l x low high at_ n fa) := by
  obtain ⟨cn, cr, cl, ch, co, cfo⟩ := hb.cells
  have C := Lib.hid (need_ok w base p v l at_ 0 fa h n h1 hn)
  have hm := h.max
  have HH := Lib.hid h; have HB := Lib.hid hb; have HX := Lib.hid hx
  clear h hb hx
  have hn0 : decide ((n : Int) < 1) = false := by simp; omega
  have hn1 : decide ((7 : Int) < n) = false := by simp; omega
  go_enter Tryz.func123, Tryz.ntmps123
  go_wp2_with fail
  refine C.out.mono ?_
  rintro e w1 ⟨bv, rfl, hrd, hk1⟩
  have hlen : ((l.drop at_).take n).length = n := by simp; omega
  obtain ⟨bs, hbs⟩ : ∃ bs, (l.drop at_).take n = bs := ⟨_, rfl⟩
  rw [hbs] at hrd hlen
  have HX2 := Lib.hid (show beN bs = x by rw [← hbs]; exact HX.out)
  have HBS := Lib.hid hbs; clear hbs
  obtain ⟨g, o, cp, hcp, rfl, hcells⟩ : ∃ g o cp, n ≤ cp ∧ bv = .slice (some ⟨g, o, none⟩) n cp ∧ ∀ k, (hk : k < bs.length) → w1.cell? ⟨g, o + k, none⟩ = some (.int .u8 (bs[k].toNat : Int)) := by
    obtain ⟨h0, a, cap, rfl, h2, h3, h4, h5⟩ := hrd
    obtain ⟨g, o, rfl, hc⟩ := h5 (by simp [hlen]; omega)
    exact ⟨g, o, cap, h2, rfl, fun k hk => hc k _ (by simp [hk, vb])⟩
  have HC := Lib.hid hcells; have HL := Lib.hid hlen
  have HB1 := Lib.hid (HB.out.keep hk1); have HH1 := Lib.hid (HH.out.keep hk1 id (fun _ _ => id)); have HK1 := Lib.hid hk1
  clear hrd hcells hlen hk1 cn cr cl ch co cfo
  go_wp2_with fail
  go_loop [5, 24] (fun x i => ∃ k : Nat, k ≤ n ∧ i = .int .i64 k ∧ x = .int .i64 (beN (bs.take k) : Int)) (fun _ i => n - (intOf i).toNat)
  case atStart => exact ⟨0, by omega, rfl, rfl⟩
  case round =>
    obtain ⟨k, hk, rfl, rfl⟩ := hrel
    by_cases hkn : k < n
    · have hkl : k < bs.length := by rw [HL.out]; exact hkn
      have c0 := HC.out k hkl
      have hx := beN_le (bs.take k) (by simp; omega)
      have hs := beN_snoc (bs.take k) bs[k]
      have hc8 := bs[k].toNat_lt
      rw [← List.take_succ_eq_append_getElem hkl] at hs
      obtain ⟨c, hc⟩ : ∃ c, bs[k].toNat = c := ⟨_, rfl⟩
      rw [hc] at c0 hs hc8
      obtain ⟨y, hX⟩ : ∃ y, beN (bs.take k) = y := ⟨_, rfl⟩
      rw [hX] at hs hx ⊢
      have HS := Lib.hid hs
      clear hs hX hc
      have hk0 : (0 : Int) ≤ (k : Int) := by omega
      have hk1 : (k : Int) < (n : Int) := by omega
      have hor := or_byte y c hx hc8
      go_wp2_with fail
      go_round
      case rel => exact ⟨k + 1, by omega, by go_num, by rw [HS.out]; simp⟩
      case measure => simp [intOf]; omega
    · obtain rfl : k = n := by omega
      have hx := beN_le bs (by rw [HL.out]; exact h7)
      rw [List.take_of_length_le (by rw [HL.out]; exact Nat.le_refl _)]
      rw [HX2.out] at hx ⊢
      obtain ⟨cn, cr, cl, ch, co, cfo⟩ := HB1.out.cells
      obtain ⟨c0, c1, c2, c3, c4, cf⟩ := HH1.out.cells
      have e1 : IntKind.i64.wrap ((at_ : Int) + (k : Int)) = (at_ : Int) + (k : Int) := by rw [IntWalk.i64_in _ (by omega)]
      by_cases hl : low ≤ x
      · have hl1 : decide ((x : Int) < low) = false := by simpa using hl
        by_cases hh : x ≤ high
        · have hh1 : decide (high < (x : Int)) = false := by simpa using hh
          have HQ := Lib.hid (num1_end HK1.out HH1.out HB1.out x k hn)
          go_wp2_with fail
          go_region
          all_goals go_wp2_with fail
          all_goals
            go_end0
            unfold Num1P
            rw [if_pos ⟨hl, hh⟩]
            exact ⟨rfl, HQ.out⟩
        · have hh1 : decide (high < (x : Int)) = true := by simpa using hh
          go_wp2_with fail
          refine ⟨rfl, ?_⟩
          unfold Num1P
          rw [if_neg (by omega)]
          exact ⟨rfl, HK1.out⟩
      · have hl1 : decide ((x : Int) < low) = true := by simpa using hl
        go_wp2_with fail
        refine ⟨rfl, ?_⟩
        unfold Num1P
        rw [if_neg (by omega)]
        exact ⟨rfl, HK1.out⟩

theorem boxes5 (w : World) (x y z u v : Obj) : (((((w.alloc x).alloc y).alloc z).alloc u).alloc v).heap[w.heap.size]? = some x ∧ (((((w.alloc x).alloc y).alloc z).alloc u).alloc v).heap[w.heap.size + 1]? = some y ∧
    (((((w.alloc x).alloc y).alloc z).alloc u).alloc v).heap[w.heap.size + 2]? = some z ∧ (((((w.alloc x).alloc y).alloc z).alloc u).alloc v).heap[w.heap.size + 3]? = some u ∧ (((((w.alloc x).alloc y).alloc z).alloc u).alloc v).heap[w.heap.size + 4]? = some v := by
  obtain ⟨h1, h2, h3⟩ := boxes3 w x y z
  obtain ⟨h4, h5⟩ := boxes2 (((w.alloc x).alloc y).alloc z) u v
  have e : (((w.alloc x).alloc y).alloc z).heap.size = w.heap.size + 3 := by simp
  have old : ∀ {k : Nat} {o : Obj}, (((w.alloc x).alloc y).alloc z).heap[k]? = some o → (((((w.alloc x).alloc y).alloc z).alloc u).alloc v).heap[k]? = some o := by
    intro k o h
    have hl := lt_of_block h
    rw [heap_alloc_old _ _ (by simp at hl ⊢; omega), heap_alloc_old _ _ hl]; exact h
  rw [e] at h4 h5
  exact ⟨old h1, old h2, old h3, h4, h5⟩

/-- What Num tells of a reader without a fault that has enough. -/
def RNumPost (w : World) (base p : Nat) (v : Value) (l : List UInt8) (x low high : Int) (at_ n : Nat) (fa : Int) (e : Ending) (w' : World) : Prop :=
  Keep (fun k => k = p) w w' ∧ if low ≤ x ∧ x ≤ high then e = .returned (.int .i64 x) ∧ Rdr w' base p v l (at_ + n) 0 fa else e = .returned (.int .i64 0) ∧ Rdr w' base p v l at_ 5 at_

/-- The world of Num's boxes. -/
def numW (w : World) (p : Nat) (n low high : Int) : World :=
  ((((w.alloc (.cells #[.pointer (some ⟨p, 0, none⟩)] 101)).alloc (.cells #[.int .i64 n] 3)).alloc (.cells #[.int .i64 low] 3)).alloc (.cells #[.int .i64 high] 3)).alloc (.cells #[.int .i64 0] 3)
theorem numW_keep (w : World) (p : Nat) (n low high : Int) : Keep noBlk w (numW w p n low high) := (((((Keep.refl _ _).alloc _).alloc _).alloc _).alloc _).alloc _
theorem numW_b (w : World) (p : Nat) (n low high : Int) (hp : p < w.heap.size) : NumB (numW w p n low high) p (w.heap.size + 1) w.heap.size (w.heap.size + 2) (w.heap.size + 3) (w.heap.size + 4) n low high := by
  obtain ⟨b0, b1, b2, b3, b4⟩ := boxes5 w (.cells #[.pointer (some ⟨p, 0, none⟩)] 101) (.cells #[.int .i64 n] 3) (.cells #[.int .i64 low] 3) (.cells #[.int .i64 high] 3) (.cells #[.int .i64 0] 3)
  exact ⟨b1, b0, b2, b3, b4, by omega, by omega, by omega, by omega, by omega⟩

set_option maxHeartbeats 1000000 in
theorem rdnum_any (w : World) (base p : Nat) (v : Value) (l : List UInt8) (at_ : Nat) (fa : Int) (h : Rdr w base p v l at_ 0 fa) (n : Nat) (low high : Int) (h1 : 1 ≤ n) (h6 : n ≤ 6) (hn : at_ + n ≤ l.length) (x : Nat) (hx : beN ((l.drop at_).take n) = x) :
    Calls Tryz.prog 102 #[.pointer (some ⟨p, 0, none⟩), .int .i64 n, .int .i64 low, .int .i64 high] w (RNumPost w base p v l x low high at_ n fa) := by
  have hmf : ∀ (fn : Fn) (first cap : Array Value) (w : World), (Instr.makeFunc fn first cap).run Tryz.prog w = .ok (.func fn first cap) w := fun _ _ _ _ => rfl
  have hplt := lt_of_block h.blk
  have hb := numW_b w p n low high hplt
  have K1 := numW_keep w p n low high
  have hR := (h.keep K1 id (fun _ _ => id))
  have hK := boxP_keep (numW w p n low high) p
  have c1 := num1_rok (boxP (numW w p n low high) p) base p v l at_ fa (hR.keep hK id (fun _ _ => id)) _ _ _ _ _ n low high h1 h6 hn (hb.keep hK) x hx
  have HH := Lib.hid h; have HX := Lib.hid hx
  by_cases hin : low ≤ (x : Int) ∧ (x : Int) ≤ high
  · have c2 : Calls Tryz.prog 123 #[.pointer (some ⟨w.heap.size + 1, 0, none⟩), .pointer (some ⟨w.heap.size, 0, none⟩), .pointer (some ⟨w.heap.size + 2, 0, none⟩), .pointer (some ⟨w.heap.size + 3, 0, none⟩), .pointer (some ⟨w.heap.size + 4, 0, none⟩)]
        (boxP (numW w p n low high) p) (RetQ (Num1Q (boxP (numW w p n low high) p) (w.heap.size + 4) base p v l x (at_ + n) fa)) := c1.mono fun e w' hq => by unfold Num1P at hq; rwa [if_pos hin] at hq
    have C := Lib.hid (read_ret (numW w p n low high) base p v l at_ fa hR 123 _ (fun _ => rfl) _ c2)
    have HK := Lib.hid (K1.trans hK)
    clear h hx hb K1 hR hK c1 c2
    go_enter Tryz.func102, Tryz.ntmps102
    go_wp2_with fail
    refine C.out.mono ?_
    rintro e w2 ⟨rfl, hb, hrd, hk⟩
    clear C
    have co := blk_cell (i := 0) (v := .int .i64 x) hb rfl
    have HR := Lib.hid hrd; have HK2 := Lib.hid hk
    clear hb hrd hk
    go_wp2_with fail
    go_ret
    refine ⟨HK.out.trans' HK2.out (fun _ _ h => h.elim) (fun i hi e => ?_), ?_⟩
    · rcases e with e | e
      · exact e
      · omega
    · rw [if_pos hin]; exact ⟨rfl, HR.out⟩
  · have c2 : Calls Tryz.prog 123 #[.pointer (some ⟨w.heap.size + 1, 0, none⟩), .pointer (some ⟨w.heap.size, 0, none⟩), .pointer (some ⟨w.heap.size + 2, 0, none⟩), .pointer (some ⟨w.heap.size + 3, 0, none⟩), .pointer (some ⟨w.heap.size + 4, 0, none⟩)]
        (boxP (numW w p n low high) p) (StopQ 5 at_ (Keep noBlk (boxP (numW w p n low high) p))) := c1.mono fun e w' hq => by unfold Num1P at hq; rwa [if_neg hin] at hq
    have C := Lib.hid (read_stop (numW w p n low high) base p v l at_ fa hR 123 _ (fun _ => rfl) _ _ c2)
    have HB := Lib.hid hb
    have HK := Lib.hid K1
    clear h hx hb K1 hR hK c1 c2
    go_enter Tryz.func102, Tryz.ntmps102
    go_wp2_with fail
    refine C.out.mono ?_
    rintro e w2 ⟨rfl, hrd, hk⟩
    clear C
    have co := blk_cell (i := 0) (v := .int .i64 0) (hk.blk HB.out.o (by omega)) rfl
    have HR := Lib.hid hrd; have HK2 := Lib.hid hk
    clear hrd hk
    go_wp2_with fail
    go_ret
    refine ⟨HK.out.trans' HK2.out (fun _ _ h => h.elim) (fun i hi e => e), ?_⟩
    rw [if_neg hin]; exact ⟨rfl, HR.out⟩

set_option maxHeartbeats 1000000 in
/-- What Num tells of a reader with a fault. -/
theorem rdnum_fault (w : World) (base p : Nat) (v : Value) (l : List UInt8) (at_ : Nat) (fe fa : Int) (h : Rdr w base p v l at_ fe fa) (hfe : fe ≠ 0) (n low high : Int) :
    Calls Tryz.prog 102 #[.pointer (some ⟨p, 0, none⟩), .int .i64 n, .int .i64 low, .int .i64 high] w (fun e w' => e = .returned (.int .i64 0) ∧ Rdr w' base p v l at_ fe fa ∧ Keep noBlk w w') := by
  have hmf : ∀ (fn : Fn) (first cap : Array Value) (w : World), (Instr.makeFunc fn first cap).run Tryz.prog w = .ok (.func fn first cap) w := fun _ _ _ _ => rfl
  have hplt := lt_of_block h.blk
  have hb := numW_b w p n low high hplt
  have K1 := numW_keep w p n low high
  have hR := (h.keep K1 id (fun _ _ => id))
  have hK := boxP_keep (numW w p n low high) p
  have C := Lib.hid (read_fault (numW w p n low high) base p v l at_ fe fa hR hfe (.func (.func 123) #[] #[.pointer (some ⟨w.heap.size + 1, 0, none⟩), .pointer (some ⟨w.heap.size, 0, none⟩), .pointer (some ⟨w.heap.size + 2, 0, none⟩), .pointer (some ⟨w.heap.size + 3, 0, none⟩), .pointer (some ⟨w.heap.size + 4, 0, none⟩)]))
  have HB := Lib.hid (hb.keep hK)
  have HK := Lib.hid (K1.trans hK); have HR := Lib.hid (hR.keep hK id (fun _ _ => id)); have HF := Lib.hid hfe
  clear h hb K1 hR hK hfe
  go_enter Tryz.func102, Tryz.ntmps102
  go_wp2_with fail
  refine C.out.mono ?_
  rintro e w2 ⟨rfl, rfl⟩
  clear C
  have co := blk_cell (i := 0) (v := .int .i64 0) HB.out.o rfl
  go_wp2_with fail
  go_ret
  exact ⟨rfl, HR.out, HK.out⟩

/-- The fault. -/
theorem zeroFault (w : World) : (zeroValue 115).run Tryz.prog w = .ok (.agg #[.int .i64 0, .int .i64 0]) w := by kernel_rfl
set_option maxHeartbeats 1000000 in
theorem fault_any (w : World) (base p : Nat) (v : Value) (l : List UInt8) (at_ : Nat) (fe fa : Int) (h : Rdr w base p v l at_ fe fa) :
    Calls Tryz.prog 105 #[.pointer (some ⟨p, 0, none⟩)] w (fun e w' => e = .returned (.agg #[.int .i64 fe, .int .i64 fa]) ∧ Keep noBlk w w') := by
  have K : Keep noBlk w (w.alloc (.cells #[.int .i64 0, .int .i64 0] 115)) := (Keep.refl _ _).alloc _
  have h2 := h.keep K id (fun _ _ => id)
  have C := Lib.hid (rnone_any _ base p v l at_ fe fa h2)
  have HH := Lib.hid h2; have HK := Lib.hid K
  have hblk := lt_of_block h.blk
  clear h h2 K
  obtain ⟨vs, hvs⟩ : ∃ vs : List Value, vs = [.int .i64 fe, .int .i64 fa] := ⟨_, rfl⟩
  have hvl : vs.length = 2 := by rw [hvs]; rfl
  have hvo : ∀ u ∈ vs, u.oneCell' = true := by rw [hvs]; simp [Value.oneCell']
  have hra : (w.alloc (.cells #[.int .i64 0, .int .i64 0] 115)).rangeAt p 3 vs := by
    obtain ⟨-, -, -, c3, c4, -⟩ := HH.out.cells
    intro j u hj
    rw [hvs] at hj
    match j, hj with
    | 0, hj => cases hj; exact c3
    | 1, hj => cases hj; exact c4
  have HVS := Lib.hid hvs; have HRA := Lib.hid hra
  clear hvs hra
  go_enter Tryz.func105, Tryz.ntmps105
  go_wp2_with (first
    | (refine wpList_alloc_at rfl 115 rfl _ zeroFault #[.int .i64 0, .int .i64 0] rfl ?_))
  refine C.out.mono ?_
  rintro e w1 ⟨rfl, rfl⟩
  go_wp2_with (first
    | ((with_reducible show wpList _ _ _ (⟨some 9, .load 115 (.tmp 8), _, _, _, _⟩ :: _) _ _); refine wpList_load_mid rfl 115 (.tmp 8) rfl p 3 rfl vs _ HRA.out Tryz.underlying115 rfl (by rw [hvl]; exact sizeFault) ?_)
    | ((with_reducible show wpList _ _ _ (⟨none, .store 115 (.tmp 2) (.tmp 9), _, _, _, _⟩ :: _) _ _); refine wpList_store_agg rfl 115 (.tmp 2) (.tmp 9) rfl w.heap.size 0 vs rfl rfl _ _ (heap_alloc_new _ _) (by rw [hvl]; decide) (by rw [hvl]; exact sizeFault) hvo ?_; intro w2 hb2 hk2; have HB2 := Lib.hid hb2; have HK2 := Lib.hid hk2; clear hb2 hk2))
  refine bodyPost_ret (results_cell_row rfl _ _ w.heap.size _ _ _ _ rfl HB2.out Tryz.underlying115 rfl (by rw [spl_size]; exact sizeFault)) rfl ⟨?_, ?_⟩
  · rw [spl_whole _ _ (by rw [hvl]; rfl), HVS.out]
  · exact HK.out.trans' HK2.out (fun _ _ h => h) (fun i hi e => by omega)
end Go.Proofs.YtaiicjhnhbkgmaaGreatDoor
