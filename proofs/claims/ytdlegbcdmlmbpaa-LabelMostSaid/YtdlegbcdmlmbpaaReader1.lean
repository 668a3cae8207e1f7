/-
  The reader of package field: what its methods do to a reader in memory (first part: none, Open, need, the frame 'read').
  Conditions: the bounds on sizes that each theorem names.
-/
import Derived.Test.YtdlegbcdmlmbpaaField3
import Derived.Test.YtdlegbcdmlmbpaaFill
import Derived.Test.YtdlegbcdmlmbpaaBase
import Derived.Defers
import Derived.Recover
import Derived.Outline
import Derived.Test.YtdlegbcdmlmbpaaRegion
namespace Go.Proofs.Ytdlegbcdmlmbpaa
open Go.RowKit
set_option maxRecDepth 100000

/-- A reader at block p: v is its bytes, which read l; it stands at 'at_'; its fault. -/
structure Rdr (w : World) (base p : Nat) (v : Value) (l : List UInt8) (at_ : Nat) (fe fa : Int) : Prop where
  blk : w.heap[p]? = some (.cells #[.bool true, v, .int .i64 at_, .int .i64 fe, .int .i64 fa] 93 (0, 0))
  own : w.ownsRow base 5 1 v l.length (l.map vb)
  ne : v.ownBlock ≠ some p
  le : base ≤ p
  fit : at_ ≤ l.length
  max : l.length ≤ 65536

theorem Rdr.cells {w : World} {base p : Nat} {v : Value} {l : List UInt8} {at_ : Nat} {fe fa : Int} (h : Rdr w base p v l at_ fe fa) :
    w.cell? ⟨p, 0, none⟩ = some (.bool true) ∧ w.cell? ⟨p, 1, none⟩ = some v ∧ w.cell? ⟨p, 2, none⟩ = some (.int .i64 at_) ∧ w.cell? ⟨p, 3, none⟩ = some (.int .i64 fe) ∧ w.cell? ⟨p, 4, none⟩ = some (.int .i64 fa) ∧ (∀ i, w.frozen? ⟨p, i, none⟩ = false) := by
  refine ⟨?_, ?_, ?_, ?_, ?_, fun i => frozen_of_row w p i _ _ h.blk⟩ <;> (rw [cell_of_row w p _ _ _ _ h.blk]; rfl)
theorem Rdr.keep {w w' : World} {base p : Nat} {v : Value} {l : List UInt8} {at_ : Nat} {fe fa : Int} (h : Rdr w base p v l at_ fe fa) {S : Nat → Prop} (k : Keep S w w') (hp : ¬ S p) (hv : ∀ g, v.ownBlock = some g → ¬ S g) : Rdr w' base p v l at_ fe fa :=
  ⟨k.blk h.blk hp, k.owns h.own hv, h.ne, h.le, h.fit, h.max⟩
theorem Rdr.form {w : World} {base p : Nat} {v : Value} {l : List UInt8} {at_ : Nat} {fe fa : Int} (h : Rdr w base p v l at_ fe fa) : ∃ a cap, v = .slice a l.length cap := by
  obtain ⟨a, c, h1, -, -⟩ := (Rd.of_owns h.own).form
  exact ⟨a, c, h1⟩
/-- Stores into its place and its fault. -/
theorem Rdr.setAt {w : World} {base p : Nat} {v : Value} {l : List UInt8} {at_ : Nat} {fe fa : Int} (h : Rdr w base p v l at_ fe fa) (n : Nat) (hn : n ≤ l.length) : Rdr (w.setCell ⟨p, 2, none⟩ (.int .i64 n)) base p v l n fe fa :=
  ⟨by rw [set_blk h.blk]; rfl, ownsRow_setCell_other h.own (by simpa using h.ne) _, h.ne, h.le, hn, h.max⟩
theorem Rdr.setF {w : World} {base p : Nat} {v : Value} {l : List UInt8} {at_ : Nat} {fe fa : Int} (h : Rdr w base p v l at_ fe fa) (er ea : Int) : Rdr ((w.setCell ⟨p, 3, none⟩ (.int .i64 er)).setCell ⟨p, 4, none⟩ (.int .i64 ea)) base p v l at_ er ea := by
  have h1 := set_blk h.blk 3 (.int .i64 er)
  exact ⟨by rw [set_blk h1]; rfl, ownsRow_setCell_other (ownsRow_setCell_other h.own (by simpa using h.ne) _) (by simpa using h.ne) _, h.ne, h.le, h.fit, h.max⟩

set_option maxHeartbeats 400000 in
theorem rnone_any (w : World) (base p : Nat) (v : Value) (l : List UInt8) (at_ : Nat) (fe fa : Int) (h : Rdr w base p v l at_ fe fa) :
    Calls Try.prog 77 #[.pointer (some ⟨p, 0, none⟩)] w (fun e w' => e = .returned (.bool false) ∧ w = w') := by
  obtain ⟨c0, c1, c2, c3, c4, cf⟩ := h.cells
  clear h
  go_enter Try.func77, Try.ntmps77
  go_wp2_with fail
  go_ret
  exact ⟨rfl, rfl⟩

theorem ropen_any (bv : Value) (bs : List UInt8) (w : World) (hr : Rd w 1 bv bs.length (bs.map vb)) (hb : bs.length ≤ 65536) :
    Calls Try.prog 48 #[bv] w (fun e w' => ∃ p v, e = .returned (.pointer (some ⟨p, 0, none⟩)) ∧ Rdr w' w.heap.size p v bs 0 0 0 ∧ Keep noBlk w w') := by
  have C := Lib.hid (clone_any bv bs w hr (by omega))
  obtain ⟨a, c, rfl, -, -⟩ := hr.form
  clear hr
  go_enter Try.func48, Try.ntmps48
  go_wp2_with fail
  refine C.out.mono ?_
  rintro e w1 ⟨v, rfl, hown, hk⟩
  obtain ⟨a3, c3, rfl, -, -⟩ := (Rd.of_owns hown).form
  have HO := Lib.hid hown; have HK := Lib.hid hk
  clear hown hk
  go_wp2_with fail
  go_ret
  refine ⟨_, _, rfl, ⟨heap_alloc_new _ _, (((Keep.refl noBlk w1).alloc _).owns HO.out fun _ _ => id), ?_, HK.out.size, Nat.zero_le _, hb⟩, HK.out.alloc _⟩
  intro e
  obtain ⟨cur, hc⟩ := owns_block HO.out e
  have := lt_of_block hc
  omega

set_option maxHeartbeats 400000 in
theorem need_ok (w : World) (base p : Nat) (v : Value) (l : List UInt8) (at_ : Nat) (fe fa : Int) (h : Rdr w base p v l at_ fe fa) (n : Nat) (h1 : 1 ≤ n) (hn : at_ + n ≤ l.length) :
    Calls Try.prog 75 #[.pointer (some ⟨p, 0, none⟩), .int .i64 n] w (fun e w' => ∃ bv, e = .returned bv ∧ Rd w' 1 bv n (((l.drop at_).take n).map vb) ∧ Keep noBlk w w') := by
  obtain ⟨c0, c1, c2, c3, c4, cf⟩ := h.cells
  obtain ⟨g, c, hv, hlc, hcm⟩ : ∃ g c, v = .slice (some ⟨g, 0, none⟩) l.length c ∧ l.length ≤ c ∧ c ≤ 9223372036854775807 := by
    rcases h.own.2 with ⟨-, h0⟩ | ⟨g, cap, cur, rfl, _, _, h1, h2, h3, h4⟩
    · omega
    · exact ⟨g, cap, rfl, by omega, by unfold maxLen at h2; omega⟩
  subst hv
  have H := Lib.hid h
  have hm := h.max
  clear h
  have e1 : IntKind.i64.wrap ((at_ : Int) + (n : Int)) = (at_ : Int) + (n : Int) := by rw [IntWalk.i64_in _ (by omega)]
  have e2 : IntKind.i64.wrap ((l.length : Int) - (at_ : Int)) = (l.length : Int) - (at_ : Int) := by rw [IntWalk.i64_in _ (by omega)]
  have e3 : ((at_ : Int) + (n : Int)).toNat = at_ + n := by omega
  have i1 : (0 : Int) ≤ (at_ : Int) := by omega
  have i2 : (0 : Int) ≤ (at_ : Int) + (n : Int) := by omega
  have i3 : (at_ : Int) ≤ (at_ : Int) + (n : Int) := by omega
  have i4 : (at_ : Int) + (n : Int) ≤ (c : Int) := by omega
  have i5 : at_ < c := by omega
  have i6 : at_ + n ≤ c := by omega
  have i7 : at_ ≤ at_ + n := by omega
  have t1 : decide ((l.length : Int) - (at_ : Int) < (n : Int)) = false := by simp; omega
  go_enter Try.func75, Try.ntmps75
  go_wp2_with fail
  go_quiet (fail)
  go_wp2_with fail
  go_quiet (fail)
  go_wp2_with fail
  go_ret
  refine ⟨_, rfl, ?_, ?_⟩
  · refine Rd.keep (w := w) (S := noBlk) ?_ (Keep.drewN (Keep.drewN (Keep.refl _ _) _) _) (fun _ _ => id)
    refine ⟨by simp; omega, _, _, rfl, by omega, by unfold maxLen; omega, (by intro h; cases h), fun _ => ⟨g, at_, rfl, fun i u hu => ?_⟩⟩
    have := H.out.own.cells (g := g) rfl (at_ + i) u ?_
    · rwa [add_lit, Nat.zero_add] at this
    · rw [List.map_take, List.map_drop, List.getElem?_take] at hu
      split at hu
      · rwa [List.getElem?_drop] at hu
      · cases hu
  · exact Keep.drewN (Keep.drewN (Keep.refl _ _) _) _

/-- What 'panic(stop{er, ea})' leaves. -/
def stopV (er ea : Int) : List PanicEntry := [{ v := .iface 95 (.agg #[.int .i64 er, .int .i64 ea]), recovered := false }]

/-- The deferred function of 'read', where nothing is to be caught. -/
theorem catch_idle (A : Nat) (w : World) :
    CallsD Try.prog 92 #[.pointer (some ⟨A, 0, none⟩)] .returning w fun e u' w' => e = .returned (.tuple #[]) ∧ u' = .returning ∧ w' = w := by
  refine callsD_of_wpS Try.func92 rfl fun c₀ cs hu => ?_
  apply wpS_seq
  apply wpS_region
  simp [wpOpsS, go_sem, recoverD, hu, Try.ntmps92, Exit.thenS]
  refine wpS_of_wp ?_
  go_wp2_with fail
  cases c₀
  simp_all [bodyPostS, results, Try.results92]

/-- ... and where a stop is. -/
def Caught (p : Nat) (er ea : Int) (cs5 : Array Value) (w : World) (e : Ending) (u' : FrameMode) (w' : World) : Prop :=
  e = .returned (.tuple #[]) ∧ u' = .panicking [{ v := .iface 95 (.agg #[.int .i64 er, .int .i64 ea]), recovered := true }] ∧
  w'.heap[p]? = some (.cells (spl cs5 3 [.int .i64 er, .int .i64 ea]) 93 (0, 0)) ∧ Keep (fun k => k = p) w w'
theorem zeroStop (w : World) : (zeroValue 95).run Try.prog w = .ok (.agg #[.int .i64 0, .int .i64 0]) w := by kernel_rfl
theorem sizeStop : (Try.prog.info? 95).map (·.size) = some 2 := by kernel_rfl
theorem sizeFault : (Try.prog.info? 66).map (·.size) = some 2 := by kernel_rfl
set_option maxHeartbeats 1000000 in
theorem catch_stop (A p : Nat) (er ea : Int) (w : World) (hA : w.cell? ⟨A, 0, none⟩ = some (.pointer (some ⟨p, 0, none⟩))) (cs5 : Array Value) (h5 : cs5.size = 5) (hp : w.heap[p]? = some (.cells cs5 93 (0, 0))) :
    CallsD Try.prog 92 #[.pointer (some ⟨A, 0, none⟩)] (.panicking (stopV er ea)) w (Caught p er ea cs5 w) := by
  have hta : ∀ (w : World), Sem.run Try.prog (Instr.typeAssert (.iface 95 (.agg #[.int .i64 er, .int .i64 ea])) 20 95 true) w = .ok (.tuple #[.agg #[.int .i64 er, .int .i64 ea], .bool true]) w := fun w => by kernel_rfl
  have hlt := lt_of_block hp
  have HP := Lib.hid hp; have HA := Lib.hid hA; clear hp hA
  refine callsD_of_wpS Try.func92 rfl fun c₀ cs hu => ?_
  simp only [Try.ntmps92, List.size_toArray, List.length_cons, List.length_nil, Nat.reduceAdd, Nat.reduceSub, Array.replicate_succ,
     Array.replicate_zero, List.push_toArray, List.append_toArray, List.nil_append, List.cons_append]
  apply wpS_seq
  apply wpS_region
  simp [wpOpsS, go_sem, recoverD, hu, stopV, Exit.thenS]
  refine wpS_of_wp ?_
  obtain ⟨vs, hvs⟩ : ∃ vs : List Value, vs = [.int .i64 er, .int .i64 ea] := ⟨_, rfl⟩
  have hvl : vs.length = 2 := by rw [hvs]; rfl
  have hvo : ∀ u ∈ vs, u.oneCell' = true := by rw [hvs]; simp [Value.oneCell']
  have HVS := Lib.hid hvs
  have hta' : ∀ (w : World), Sem.run Try.prog (Instr.typeAssert (.iface 95 (.agg vs.toArray)) 20 95 true) w = .ok (.tuple #[.agg vs.toArray, .bool true]) w := by rw [hvs]; exact hta
  rw [show (#[Value.int .i64 er, .int .i64 ea] : Array Value) = vs.toArray by rw [hvs]]
  have hAlt : A < w.heap.size := by have := World.block_lt_of_cell? w _ HA.out; exact this
  clear hvs hta
  go_wp2_with (first
    | (refine wpList_alloc_at rfl 95 rfl _ zeroStop #[.int .i64 0, .int .i64 0] rfl ?_)
    | ((with_reducible show wpList _ _ _ (⟨none, .store 95 (.tmp 2) (.tmp 9), _, _, _, _⟩ :: _) _ _); refine wpList_store_agg rfl 95 (.tmp 2) (.tmp 9) rfl w.heap.size 0 vs rfl rfl _ _ (heap_alloc_new _ _) (by rw [hvl]; decide) (by rw [hvl]; exact sizeStop) hvo ?_; intro w2 hb2 hk2; have hA2 := hk2.cell (((Keep.refl noBlk w).alloc _).cell HA.out id) (by omega); have HB2 := Lib.hid hb2; have HP2 := Lib.hid (hk2.blk (((Keep.refl noBlk w).alloc _).blk HP.out id) (by omega)); have HK2 := Lib.hid hk2; clear hb2 hk2)
    | ((with_reducible show wpList _ _ _ (⟨some 11, .load 95 (.tmp 2), _, _, _, _⟩ :: _) _ _); refine wpList_load_mid rfl 95 (.tmp 2) rfl w.heap.size 0 rfl vs _ (rangeAt_whole (by have := HB2.out; rwa [spl_whole _ _ (by rw [hvl]; rfl)] at this)) Try.underlying95 rfl (by rw [hvl]; exact sizeStop) ?_)
    | ((with_reducible show wpList _ _ _ (⟨none, .store 66 (.tmp 13) (.tmp 11), _, _, _, _⟩ :: _) _ _); refine wpList_store_agg rfl 66 (.tmp 13) (.tmp 11) rfl p 3 vs rfl rfl _ _ HP2.out (by rw [hvl, h5]; omega) (by rw [hvl]; exact sizeFault) hvo ?_; intro w3 hb3 hk3; have HB3 := Lib.hid hb3; have HK3 := Lib.hid hk3; clear hb3 hk3))
  refine ⟨rfl, _, rfl, _, results_none rfl _ _ _, rfl, by rw [HVS.out], ?_, ?_⟩
  · rw [← HVS.out]; exact HB3.out
  · exact (((Keep.refl (fun k => k = p) w).alloc _).trans' HK2.out (fun _ _ h => h) (fun i hi e => by omega)).trans' HK3.out (fun _ _ h => h) (fun i hi e => e)

/-- The world in which 'read' does what it was handed. -/
def boxP (w : World) (p : Nat) : World := w.alloc (.cells #[.pointer (some ⟨p, 0, none⟩)] 61)
theorem boxP_keep (w : World) (p : Nat) : Keep noBlk w (boxP w p) := (Keep.refl _ _).alloc _
def RetQ (Q : World → Prop) (e : Ending) (w' : World) : Prop := e = .returned (.tuple #[]) ∧ Q w'
def StopQ (er ea : Int) (Q : World → Prop) (e : Ending) (w' : World) : Prop := e = .panicked (stopV er ea) ∧ Q w'

set_option maxHeartbeats 400000 in
theorem read_fault (w : World) (base p : Nat) (v : Value) (l : List UInt8) (at_ : Nat) (fe fa : Int) (h : Rdr w base p v l at_ fe fa) (hfe : fe ≠ 0) (what : Value) :
    Calls Try.prog 73 #[.pointer (some ⟨p, 0, none⟩), what] w (fun e w' => e = .returned (.tuple #[]) ∧ boxP w p = w') := by
  have h1 := h.keep (boxP_keep w p) id (fun _ _ => id)
  obtain ⟨c0, c1, c2, c3, c4, cf⟩ := h1.cells
  have C := Lib.hid (rnone_any _ _ _ _ _ _ _ _ h1)
  have he1 : (fe != 0) = true := by simp [hfe]
  have he2 : (fe == 0) = false := by simp [hfe]
  have HF := Lib.hid hfe; clear hfe h h1
  unfold boxP at *
  go_enter_defers Try.func73, Try.ntmps73
  go_wp2_with fail
  refine C.out.mono ?_
  rintro e w1 ⟨rfl, rfl⟩
  go_wp2_with fail
  exact ⟨_, results_none rfl _ _ _, rfl, rfl⟩

set_option maxHeartbeats 400000 in
theorem read_ret (w : World) (base p : Nat) (v : Value) (l : List UInt8) (at_ : Nat) (fa : Int) (h : Rdr w base p v l at_ 0 fa) (fn : Nat) (caps : Array Value)
    (hcf : ∀ w, Sem.run Try.prog (callFunc fn caps) w = .ok (.enter fn caps) w) (Q : World → Prop) (hc : Calls Try.prog fn caps (boxP w p) (RetQ Q)) :
    Calls Try.prog 73 #[.pointer (some ⟨p, 0, none⟩), .func (.func fn) #[] caps] w (RetQ Q) := by
  have h1 := h.keep (boxP_keep w p) id (fun _ _ => id)
  obtain ⟨c0, c1, c2, c3, c4, cf⟩ := h1.cells
  have C := Lib.hid (rnone_any _ _ _ _ _ _ _ _ h1)
  have HC := Lib.hid hc
  have hmf : ∀ (fn : Fn) (first cap : Array Value) (w : World), (Instr.makeFunc fn first cap).run Try.prog w = .ok (.func fn first cap) w := fun _ _ _ _ => rfl
  clear hc h h1
  unfold boxP at *
  go_enter_defers Try.func73, Try.ntmps73
  go_wp2_with fail
  refine C.out.mono ?_
  rintro e w1 ⟨rfl, rfl⟩
  go_wp2_with fail
  refine HC.out.mono ?_
  rintro e w1 ⟨rfl, hq⟩
  have HQ := Lib.hid hq; clear hq
  go_wp2_with fail
  refine leaves_cons (f := 92) (args := #[.pointer (some ⟨w.heap.size, 0, none⟩)]) (by simp) (by simp [go_sem]) ?_
  refine (catch_idle _ _).mono ?_
  rintro e u' w'' ⟨rfl, rfl, rfl⟩
  exact ⟨_, results_none rfl _ _ _, rfl, HQ.out⟩

/-- Behind a stop: the fault. -/
def StoppedQ (w : World) (p base : Nat) (v : Value) (l : List UInt8) (at_ : Nat) (er ea : Int) (e : Ending) (w' : World) : Prop :=
  e = .returned (.tuple #[]) ∧ Rdr w' base p v l at_ er ea ∧ Keep (fun k => k = p) w w'
set_option maxHeartbeats 400000 in
theorem read_stop (w : World) (base p : Nat) (v : Value) (l : List UInt8) (at_ : Nat) (fa : Int) (h : Rdr w base p v l at_ 0 fa) (fn : Nat) (caps : Array Value)
    (hcf : ∀ w, Sem.run Try.prog (callFunc fn caps) w = .ok (.enter fn caps) w) (er ea : Int) (hc : Calls Try.prog fn caps (boxP w p) (StopQ er ea (Keep noBlk (boxP w p)))) :
    Calls Try.prog 73 #[.pointer (some ⟨p, 0, none⟩), .func (.func fn) #[] caps] w (StoppedQ w p base v l at_ er ea) := by
  have h1 := h.keep (boxP_keep w p) id (fun _ _ => id)
  obtain ⟨c0, c1, c2, c3, c4, cf⟩ := h1.cells
  have C := Lib.hid (rnone_any _ _ _ _ _ _ _ _ h1)
  have HC := Lib.hid hc
  have H1 := Lib.hid h1
  have HB := Lib.hid (show (boxP w p).heap[w.heap.size]? = some (.cells #[.pointer (some ⟨p, 0, none⟩)] 61 (0, 0)) from heap_alloc_new _ _)
  have HKB := Lib.hid (boxP_keep w p)
  have hmf : ∀ (fn : Fn) (first cap : Array Value) (w : World), (Instr.makeFunc fn first cap).run Try.prog w = .ok (.func fn first cap) w := fun _ _ _ _ => rfl
  clear hc h h1
  unfold boxP at *
  go_enter_defers Try.func73, Try.ntmps73
  go_wp2_with fail
  refine C.out.mono ?_
  rintro e w1 ⟨rfl, rfl⟩
  go_wp2_with fail
  refine HC.out.mono ?_
  rintro e w1 ⟨rfl, hk⟩
  have HK := Lib.hid hk; clear hk
  go_wp2_with fail
  refine leaves_cons (f := 92) (args := #[.pointer (some ⟨w.heap.size, 0, none⟩)]) (by simp) (by simp [go_sem]) ?_
  have h2 := H1.out.keep HK.out id (fun _ _ => id)
  refine (catch_stop _ p er ea w1 (blk_cell (HK.out.blk HB.out id) rfl) _ rfl h2.blk).mono ?_
  rintro e u' w'' ⟨rfl, rfl, hb, hk⟩
  have K : Keep (fun k => k = p) w w'' := ((HKB.out.trans HK.out).any).trans hk
  have hfin : StoppedQ w p base v l at_ er ea (.returned (.tuple #[])) w'' :=
    ⟨rfl, ⟨by rw [hb]; rfl, hk.owns h2.own (fun k hk e => h2.ne (by rw [hk, e])), h2.ne, h2.le, h2.fit, h2.max⟩, K⟩
  exact ⟨_, results_none rfl _ _ _, hfin⟩
end Go.Proofs.Ytdlegbcdmlmbpaa

/-
  The reader of package field: Raw and Num.
  Conditions: the bounds on sizes that each theorem names.
-/
namespace Go.Proofs.Ytdlegbcdmlmbpaa
open Go.RowKit
set_option maxRecDepth 100000

/-- What the closure of Raw leaves. -/
def Raw1Q (w : World) (Ao base p : Nat) (v : Value) (l bs : List UInt8) (at_ n : Nat) (fa : Int) (w' : World) : Prop :=
  ∃ v', w'.heap[Ao]? = some (.cells #[v'] 26 (0, 0)) ∧ w'.ownsRow w.heap.size 5 1 v' n (bs.map vb) ∧ Rdr w' base p v l (at_ + n) 0 fa ∧ Keep (fun k => k = p ∨ k = Ao) w w'

set_option maxHeartbeats 1000000 in
theorem raw1_ok (w : World) (base p : Nat) (v : Value) (l : List UInt8) (at_ : Nat) (fa : Int) (h : Rdr w base p v l at_ 0 fa) (An Ar Ao : Nat) (n : Nat) (h1 : 1 ≤ n) (hn : at_ + n ≤ l.length)
    (hAn : w.heap[An]? = some (.cells #[.int .i64 n] 3 (0, 0))) (hAr : w.heap[Ar]? = some (.cells #[.pointer (some ⟨p, 0, none⟩)] 61 (0, 0))) (hAo : w.heap[Ao]? = some (.cells #[.slice none 0 0] 26 (0, 0))) :
    Calls Try.prog 74 #[.pointer (some ⟨An, 0, none⟩), .pointer (some ⟨Ar, 0, none⟩), .pointer (some ⟨Ao, 0, none⟩)] w (RetQ (Raw1Q w Ao base p v l ((l.drop at_).take n) at_ n fa)) := by
  obtain ⟨c0, c1, c2, c3, c4, cf⟩ := h.cells
  have cn : w.cell? ⟨An, 0, none⟩ = some (.int .i64 n) := blk_cell hAn rfl
  have cr : w.cell? ⟨Ar, 0, none⟩ = some (.pointer (some ⟨p, 0, none⟩)) := blk_cell hAr rfl
  have C := Lib.hid (need_ok w base p v l at_ 0 fa h n h1 hn)
  have hm := h.max
  have HH := Lib.hid h; have HAn := Lib.hid hAn; have HAr := Lib.hid hAr; have HAo := Lib.hid hAo
  have hnp : Ao ≠ p := by intro e; subst e; rw [h.blk] at hAo; cases hAo
  clear h hAn hAr hAo
  have hn0 : decide ((n : Int) < 0) = false := by simp
  go_enter Try.func74, Try.ntmps74
  go_wp2_with fail
  refine C.out.mono ?_
  rintro e w1 ⟨bv, rfl, hrd, hk1⟩
  have hlen : ((l.drop at_).take n).length = n := by simp; omega
  obtain ⟨bs, hbs⟩ : ∃ bs, (l.drop at_).take n = bs := ⟨_, rfl⟩
  rw [hbs] at hrd hlen ⊢
  have HBS := Lib.hid hbs; clear hbs
  obtain ⟨a1, cp1, rfl, -, -⟩ := hrd.form
  have hrd' : Rd w1 1 (.slice a1 n cp1) bs.length (bs.map vb) := by rw [hlen]; exact hrd
  have C2 := Lib.hid (clone_any (.slice a1 n cp1) bs w1 hrd' (by omega))
  have HK1 := Lib.hid hk1
  clear hrd hrd' hk1 c0 c1 c2 c3 c4 cf cn cr
  go_wp2_with fail
  refine C2.out.mono ?_
  rintro e w2 ⟨v2, rfl, hown2, hk2⟩
  rw [hlen] at hown2
  have HL := Lib.hid hlen; clear hlen
  obtain ⟨a2, cp2, rfl, -, -⟩ := (Rd.of_owns hown2).form
  have K2 := HK1.out.trans hk2
  have hAo2 := K2.blk HAo.out id
  have co2 : w2.cell? ⟨Ao, 0, none⟩ = some (.slice none 0 0) := blk_cell hAo2 rfl
  have fo2 := blk_free hAo2 0
  have h3 := HH.out.keep K2 id (fun _ _ => id)
  obtain ⟨w3, hw3⟩ : ∃ w3, w2.setCell ⟨Ao, 0, none⟩ (.slice a2 n cp2) = w3 := ⟨_, rfl⟩
  have hno : ∀ g, (Value.slice a2 n cp2).ownBlock = some g → g ≠ Ao := by
    intro g hg e
    subst e
    have := owns_ge hown2 hg
    have := lt_of_block (HK1.out.blk HAo.out id)
    omega
  have K3 : Keep (fun k => k = Ao) w2 w3 := by rw [← hw3]; exact (Keep.refl (fun k => k = Ao) w2).setCell (fun _ => rfl) _
  have hvo : ∀ g, v.ownBlock = some g → ¬ g = Ao := by
    intro g hg e
    subst e
    obtain ⟨cur, hc⟩ := owns_block HH.out.own hg
    rw [HAo.out] at hc
    cases hc
  have h4 := h3.keep K3 (by omega) hvo
  have hAo3 : w3.heap[Ao]? = some (.cells #[.slice a2 n cp2] 26 (0, 0)) := by rw [← hw3, set_blk hAo2]; rfl
  have hown3 := K3.owns hown2 (fun k hk => hno k hk)
  have cn : w3.cell? ⟨An, 0, none⟩ = some (.int .i64 n) := K3.cell (K2.cell (blk_cell HAn.out rfl) id) (by intro e; subst e; have := HAn.out; rw [HAo.out] at this; cases this)
  have cr : w3.cell? ⟨Ar, 0, none⟩ = some (.pointer (some ⟨p, 0, none⟩)) := K3.cell (K2.cell (blk_cell HAr.out rfl) id) (by intro e; subst e; have := HAr.out; rw [HAo.out] at this; cases this)
  obtain ⟨c0, c1, c2, c3, c4, cf⟩ := h4.cells
  have hle := HK1.out.size
  have H4 := Lib.hid h4; have HO3 := Lib.hid hown3; have HAo3 := Lib.hid hAo3
  have HK := Lib.hid (show Keep (fun k => k = p ∨ k = Ao) w w3 from (K2.any).trans (K3.mono fun _ _ h => .inr h))
  clear hown2 hk2 K2 hAo2 h3 K3 h4 hown3 hAo3 hno hvo
  go_wp2_with fail
  clear hw3 co2 fo2
  have e1 : IntKind.i64.wrap ((at_ : Int) + (n : Int)) = (at_ : Int) + (n : Int) := by rw [IntWalk.i64_in _ (by omega)]
  go_still_tail 8, (by kernel_rfl)
  clear e1
  go_wp2_with fail
  go_end0
  have KP : Keep (fun k => k = p) w3 ((w3.setCell ⟨p, 2, none⟩ (.int .i64 ((at_ + n : Nat) : Int))).drew) := ((Keep.refl (fun k => k = p) w3).setCell (fun _ => rfl) _).drew
  refine ⟨rfl, _, KP.blk HAo3.out (by omega), ?_, ((H4.out.setAt (at_ + n) hn).keep (Keep.refl noBlk _).drew id (fun _ _ => id)), HK.out.trans (KP.mono fun _ _ h => .inl h)⟩
  rw [HBS.out]
  refine ownsRow_mono (KP.owns HO3.out fun k hk e => ?_) hle
  have := owns_ge HO3.out hk
  have := lt_of_block HH.out.blk
  omega

theorem boxes2 (w : World) (x y : Obj) : ((w.alloc x).alloc y).heap[w.heap.size]? = some x ∧ ((w.alloc x).alloc y).heap[w.heap.size + 1]? = some y := by
  refine ⟨?_, ?_⟩
  · rw [heap_alloc_old _ _ (by simp)]; exact heap_alloc_new _ _
  · have := heap_alloc_new (w.alloc x) y
    rwa [World.size_alloc] at this
theorem boxes3 (w : World) (x y z : Obj) : (((w.alloc x).alloc y).alloc z).heap[w.heap.size]? = some x ∧ (((w.alloc x).alloc y).alloc z).heap[w.heap.size + 1]? = some y ∧ (((w.alloc x).alloc y).alloc z).heap[w.heap.size + 2]? = some z := by
  obtain ⟨h1, h2⟩ := boxes2 w x y
  refine ⟨?_, ?_, ?_⟩
  · rw [heap_alloc_old _ _ (lt_of_block h1)]; exact h1
  · rw [heap_alloc_old _ _ (lt_of_block h2)]; exact h2
  · have := heap_alloc_new ((w.alloc x).alloc y) z
    rwa [World.size_alloc, World.size_alloc] at this

/-- What Raw tells of a reader without a fault that has enough. -/
def RawPost (w : World) (base p : Nat) (v : Value) (l : List UInt8) (at_ n : Nat) (fa : Int) (e : Ending) (w' : World) : Prop :=
  ∃ v', e = .returned v' ∧ w'.ownsRow w.heap.size 5 1 v' n (((l.drop at_).take n).map vb) ∧ Rdr w' base p v l (at_ + n) 0 fa ∧ Keep (fun k => k = p) w w'
set_option maxHeartbeats 1000000 in
theorem rraw_ok (w : World) (base p : Nat) (v : Value) (l : List UInt8) (at_ : Nat) (fa : Int) (h : Rdr w base p v l at_ 0 fa) (n : Nat) (h1 : 1 ≤ n) (hn : at_ + n ≤ l.length) :
    Calls Try.prog 49 #[.pointer (some ⟨p, 0, none⟩), .int .i64 n] w (RawPost w base p v l at_ n fa) := by
  have hmf : ∀ (fn : Fn) (first cap : Array Value) (w : World), (Instr.makeFunc fn first cap).run Try.prog w = .ok (.func fn first cap) w := fun _ _ _ _ => rfl
  obtain ⟨W1, hW1⟩ : ∃ W1, ((w.alloc (.cells #[.pointer (some ⟨p, 0, none⟩)] 61)).alloc (.cells #[.int .i64 n] 3)).alloc (.cells #[.slice none 0 0] 26) = W1 := ⟨_, rfl⟩
  have K1 : Keep noBlk w W1 := by rw [← hW1]; exact (((Keep.refl _ _).alloc _).alloc _).alloc _
  have hs1 : w.heap.size + 3 = W1.heap.size := by rw [← hW1]; simp
  obtain ⟨b0, b1, b2⟩ := boxes3 w (.cells #[.pointer (some ⟨p, 0, none⟩)] 61) (.cells #[.int .i64 n] 3) (.cells #[.slice none 0 0] 26)
  rw [hW1] at b0 b1 b2
  have hK := boxP_keep W1 p
  have hR := (h.keep K1 id (fun _ _ => id))
  have c1 := raw1_ok (boxP W1 p) base p v l at_ fa (hR.keep hK id (fun _ _ => id)) (w.heap.size + 1) w.heap.size (w.heap.size + 2) n h1 hn (hK.blk b1 id) (hK.blk b0 id) (hK.blk b2 id)
  have C := Lib.hid (read_ret W1 base p v l at_ fa hR 74 #[.pointer (some ⟨w.heap.size + 1, 0, none⟩), .pointer (some ⟨w.heap.size, 0, none⟩), .pointer (some ⟨w.heap.size + 2, 0, none⟩)] (fun _ => rfl) _ c1)
  have hplt := lt_of_block h.blk
  have cb0 : W1.cell? ⟨w.heap.size, 0, none⟩ = some (.pointer (some ⟨p, 0, none⟩)) := blk_cell b0 rfl
  have HK := Lib.hid (K1.trans hK); have HH := Lib.hid h; have HS := Lib.hid hs1
  clear h K1 b0 b1 b2 hR c1 hK hs1
  go_enter Try.func49, Try.ntmps49
  go_wp2_with fail
  refine C.out.mono ?_
  rintro e w2 ⟨rfl, v', hb, hown, hrd, hk⟩
  clear hW1 C
  have co := blk_cell (i := 0) (v := v') hb rfl
  obtain ⟨a2, cp2, rfl, -, -⟩ := (Rd.of_owns hown).form
  have HO := Lib.hid hown; have HR := Lib.hid hrd; have HK2 := Lib.hid hk
  clear hb hown hrd hk
  go_wp2_with fail
  go_ret
  refine ⟨_, rfl, ownsRow_mono HO.out HK.out.size, HR.out, HK.out.trans' HK2.out (fun _ _ h => h.elim) (fun i hi e => ?_)⟩
  rcases e with e | e
  · exact e
  · omega

end Go.Proofs.Ytdlegbcdmlmbpaa
