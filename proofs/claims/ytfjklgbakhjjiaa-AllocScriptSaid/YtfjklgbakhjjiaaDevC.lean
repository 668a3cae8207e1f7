/-
  A ledger's devices in memory: turn; the next free place out of the channel.
  Conditions: none but those told.
-/
import Derived.Test.YtfjklgbakhjjiaaDevB
import Derived.Conc.LoneCalls
import Derived.Conc.LoneSelect
import Derived.KernelRfl
import Derived.Laws.Rows
namespace Go.Proofs.Ytfjklgbakhjjiaa
open Go.RowKit Go.Maps Go.ChangeMaps
set_option maxRecDepth 100000
set_option linter.unusedVariables false

/-- A channel in which places wait. -/
def ChanIs (w : World) (g S : Nat) (l : List Int) : Prop := ∃ s r, w.heap[g]? = some (.chan S (l.map fun x => Value.int .i64 x).toArray false s r false)
theorem ChanIs.keep {T : Nat → Prop} {w w' : World} {g S : Nat} {l : List Int} (h : ChanIs w g S l) (k : Keep T w w') (hT : ¬ T g) : ChanIs w' g S l := by
  obtain ⟨s, r, h1⟩ := h
  exact ⟨s, r, k.blk h1 hT⟩
theorem ChanIs.lt {w : World} {g S : Nat} {l : List Int} (h : ChanIs w g S l) : g < w.heap.size := by
  obtain ⟨s, r, h1⟩ := h
  exact (Array.getElem?_eq_some_iff.1 h1).1
theorem keep_setChan {T : Nat → Prop} {a w : World} (h : Keep T a w) {c : Nat} (hc : c < a.heap.size → T c) (cap : Nat) (buf : Array Value) (cl : Bool) (s r : Nat) (tm : Bool) : Keep T a (w.setChan c cap buf cl s r tm) := by
  refine ⟨h.os, h.tape, h.output, by rw [Go.Conc.size_setChan]; exact h.size, fun k hk hn => ?_⟩
  have hne : c ≠ k := fun e => hn (e ▸ hc (e ▸ hk))
  rw [← h.block k hk hn]
  simp [World.setChan, Array.getElem?_setIfInBounds_ne hne]
open Go.Conc in
def NextPost (w : World) (g S : Nat) (x : Int) (r : List Int) (e : Ending) (w' : World) : Prop := e = .returned (.tuple #[.int .i64 x, .bool true]) ∧ ChanIs w' g S r ∧ Keep (fun k => k = g) w w'
open Go.Conc in
set_option maxHeartbeats 4000000 in
theorem next_some (w : World) (b o g S : Nat) (x : Int) (r : List Int) (hc : w.cell? ⟨b, o + 64, none⟩ = some (.chan (some g))) (h : ChanIs w g S (x :: r)) :
    Calls Try.prog 52 #[.pointer (some ⟨b, o, none⟩)] w (NextPost w g S x r) := by
  obtain ⟨s, rr, hg⟩ := h
  have hend : NextPost w g S x r (.returned (.tuple #[.int .i64 x, .bool true])) (w.setChan g S ((((x :: r).map fun x => Value.int .i64 x).toArray).extract 1 (((x :: r).map fun x => Value.int .i64 x).toArray).size) false s (rr + 1) false) := by
    refine ⟨rfl, ⟨s, rr + 1, ?_⟩, keep_setChan (T := fun k => k = g) (Keep.refl _ _) (fun _ => rfl) _ _ _ _ _ _⟩
    rw [heap_setChan _ _ _ _ _ _ _ _ (Array.getElem?_eq_some_iff.1 hg).1]
    congr 2
    simp [List.take_of_length_le]
  have HEND := Lib.hid hend
  clear hend
  have hgd : (((x :: r).map fun x => Value.int .i64 x).toArray).getD 0 undef = .int .i64 x := rfl
  have hsz : 0 < (((x :: r).map fun x => Value.int .i64 x).toArray).size := by simp
  obtain ⟨buf, hbuf⟩ : ∃ buf, ((x :: r).map fun x => Value.int .i64 x).toArray = buf := ⟨_, rfl⟩
  rw [hbuf] at hg hgd hsz HEND
  clear hbuf
  refine calls_of_loneTo fun cs => ?_
  have e : Frame.enter Try.prog 52 #[.pointer (some ⟨b, o, none⟩)] .normal = (base 52).at ⟨#[.pointer (some ⟨b, o, none⟩), undef, undef, undef, undef, undef, undef, undef, undef, undef, undef, undef, undef, undef], []⟩ [.code (Try.f52.body.getD .skip)] := by
    simp [Frame.enter, Frame.at, Try.func52, base, Try.f52]
  rw [e]
  refine LoneTo.goes (n := 40) ?_
  simp only [Try.f52, Option.getD_some]
  s_c stepG_seq
  s_reg
  s_op
  s_op
  s_c stepG_region_end
  s_c stepG_seq
  s_reg
  s_op
  s_op
  s_op
  s_op
  s_c stepG_region_end
  s_c stepG_seq
  s_reg
  s_stop
  refine LoneTo.step (step_lone_select_recv_buf (c := g) (z := .int .i64 0) (cap := S) (buf := buf) (closed := false) (s := s) (r := rr) (tm := false) (stepG_comm (cases := #[rcase g (.int .i64 0)]) (blocking := false) (shape := .select) (w' := w) rfl rfl (by decide) (by simp [go_sem, execOp, rcase, Act.eval])) hg hsz) ?_
  rw [Frame.finish_at, hgd]
  walk_nrm
  refine LoneTo.goes (n := 40) ?_
  s_op
  s_op
  s_c stepG_region_end
  s_c stepG_block
  s_cond true
  s_c stepG_seq
  s_reg
  s_op
  s_op
  s_c stepG_region_end
  s_c stepG_seq
  s_reg
  s_op
  s_op
  s_op
  s_c stepG_region_end
  s_c stepG_ret'
  s_stop
  exact LoneTo.done ⟨.returned (.tuple #[.int .i64 x, .bool true]), _, rfl, HEND.out, rfl, rfl, rfl, rfl, _, Try.func52, by simp [results, Try.f52, Frame.at]⟩
open Go.Conc in
set_option maxHeartbeats 4000000 in
theorem next_none (w : World) (b o g S : Nat) (hc : w.cell? ⟨b, o + 64, none⟩ = some (.chan (some g))) (h : ChanIs w g S []) :
    Calls Try.prog 52 #[.pointer (some ⟨b, o, none⟩)] w (fun e w' => e = .returned (.tuple #[.int .i64 0, .bool false]) ∧ w' = w) := by
  obtain ⟨s, rr, hg⟩ := h
  have hg : w.heap[g]? = some (.chan S #[] false s rr false) := hg
  refine calls_of_loneTo fun cs => ?_
  have e : Frame.enter Try.prog 52 #[.pointer (some ⟨b, o, none⟩)] .normal = (base 52).at ⟨#[.pointer (some ⟨b, o, none⟩), undef, undef, undef, undef, undef, undef, undef, undef, undef, undef, undef, undef, undef], []⟩ [.code (Try.f52.body.getD .skip)] := by
    simp [Frame.enter, Frame.at, Try.func52, base, Try.f52]
  rw [e]
  refine LoneTo.goes (n := 40) ?_
  simp only [Try.f52, Option.getD_some]
  s_c stepG_seq
  s_reg
  s_op
  s_op
  s_c stepG_region_end
  s_c stepG_seq
  s_reg
  s_op
  s_op
  s_op
  s_op
  s_c stepG_region_end
  s_c stepG_seq
  s_reg
  s_stop
  refine LoneTo.step (step_lone_select_default (c := g) (z := .int .i64 0) (cap := S) (s := s) (r := rr) (tm := false) (stepG_comm (cases := #[rcase g (.int .i64 0)]) (blocking := false) (shape := .select) (w' := w) rfl rfl (by decide) (by simp [go_sem, execOp, rcase, Act.eval])) hg) ?_
  rw [Frame.finish_at]
  walk_nrm
  refine LoneTo.goes (n := 40) ?_
  s_op
  s_op
  s_c stepG_region_end
  s_c stepG_block
  s_cond false
  s_c stepG_seq
  s_reg
  s_op
  s_op
  s_c stepG_region_end
  s_c stepG_ret'
  s_stop
  exact LoneTo.done ⟨.returned (.tuple #[.int .i64 0, .bool false]), _, rfl, ⟨rfl, rfl⟩, rfl, rfl, rfl, rfl, _, Try.func52, by simp [results, Try.f52, Frame.at]⟩

theorem bytesInt : ∃ i, Try.prog.info? 3 = some i ∧ i.bytes = 8 := by
  have h : (Try.prog.info? 3).map (·.bytes) = some 8 := by kernel_rfl
  obtain ⟨i, hi, hb⟩ := Option.map_eq_some_iff.1 h
  exact ⟨i, hi, hb⟩
open Go.Conc in
theorem mkChan (w : World) (S : Nat) (hS : S ≤ 4096) : (Instr.makeChan 74 (.int .i64 (S : Int))).run Try.prog w = .ok (.chan (some w.heap.size)) (w.alloc (.chan S #[] false 0 0 false)) := by
  obtain ⟨i, hi, hb⟩ := bytesInt
  simpa using run_makeChan (P := Try.prog) (w := w) Try.underlying74 hi .i64 S (by omega) (by rw [hb]; omega)

open Go.Conc in
theorem lone_mono {P : Program} {Q Q' : Goroutine → World → Prop} {g : Goroutine} {w : World} (h : LoneTo P Q g w) (hq : ∀ g' w', Q g' w' → Q' g' w') : LoneTo P Q' g w :=
  let ⟨g', w', s, q⟩ := h
  ⟨g', w', s, hq _ _ q⟩
def sndSeq : Code → Code | .seq _ b => b | c => c
def unBlock : Code → Code | .block _ c => c | c => c
def unLoop : Code → Code | .loop c => c | c => c
noncomputable def waitLoop : Code := unLoop (unBlock (sndSeq (sndSeq (Try.f62.body.getD .skip))))
open Go.Conc in
def WEnds (cs : List Frame) (w0 : World) (b : Nat) (c : Nat → Option Nat) (D : Nat) (L : List Ad) (d S g : Nat) (g' : Goroutine) (w' : World) : Prop :=
  ∃ e fr, g' = G fr cs ∧ (e = .returned (.tuple #[]) ∧ WordsIs w' b c D L ∧ ChanIs w' g S (freeTo L d S) ∧ Keep (fun k => k = b ∨ k = g) w0 w') ∧ fr.fn = 62 ∧ fr.leaving Try.prog w' e
open Go.Conc in
set_option maxHeartbeats 8000000 in
theorem wait_loop (w0 : World) (b o D g d S : Nat) (c : Nat → Option Nat) (L : List Ad) (cs : List Frame) (ho : d * 65 = o) (hd : d < D) (hS : S ≤ 4096) (hcd : c d = some g) (hgb : g ≠ b) : ∀ (m : Nat) (w : World) (K : Nat) (j5 j6 j7 j8 j9 j10 j11 j12 j13 j14 j15 j16 j17 j18 j19 j20 j21 j22 j23 : Value), K + m = S → 5 ≤ K → WordsIs w b c D L → ChanIs w g S (freeTo L d K) → Keep (fun k => k = b ∨ k = g) w0 w →
    LoneTo Try.prog (WEnds cs w0 b c D L d S g) (G ((base 62).at ⟨#[.pointer (some ⟨b, o, none⟩), .int .i64 (S : Int), undef, undef, .int .i64 (K : Int), j5, j6, j7, j8, j9, j10, j11, j12, j13, j14, j15, j16, j17, j18, j19, j20, j21, j22, j23], []⟩ [.code waitLoop, .inLoop waitLoop, .inBlock 0]) cs) w := by
  intro m
  induction m with
  | zero =>
    intro w K j5 j6 j7 j8 j9 j10 j11 j12 j13 j14 j15 j16 j17 j18 j19 j20 j21 j22 j23 hK h5 hw hch hk
    obtain rfl : K = S := by omega
    refine LoneTo.goes (n := 30) ?_
    simp only [waitLoop, Try.f62, Option.getD_some, sndSeq, unBlock, unLoop]
    s_c stepG_seq
    s_c stepG_seq
    s_reg
    s_op
    s_op
    s_op
    s_c stepG_region_end
    s_cond false
    s_exit
    s_c stepG_end
    s_stop
    exact LoneTo.done ⟨.returned (.tuple #[]), _, rfl, ⟨rfl, hw, hch, hk⟩, rfl, rfl, rfl, rfl, _, Try.func62, by simp [results, Try.f62, Frame.at]⟩
  | succ m ih =>
    intro w K j5 j6 j7 j8 j9 j10 j11 j12 j13 j14 j15 j16 j17 j18 j19 j20 j21 j22 j23 hK h5 hw hch hk
    have hlt : K < S := by omega
    have hlti : (K : Int) < (S : Int) := by omega
    obtain ⟨x, hc, hx⟩ := hw.word (d := d) (s := K) hd (by omega)
    have hcc := hw.chan hd
    rw [hcd] at hcc
    obtain ⟨q, hqd⟩ : ∃ q, K / 64 = q := ⟨_, rfl⟩
    obtain ⟨r, hrd⟩ : ∃ q, K % 64 = q := ⟨_, rfl⟩
    have hq64 : q < 64 := by omega
    have hr64 : r < 64 := by omega
    rw [hqd] at hc
    rw [hrd] at hx
    have h1 := shr_any x r
    have h2 := bits_and (x >>> r) 1#64
    have h3 := has_bit x r
    rw [hx] at h3
    obtain ⟨xv, hxv⟩ : ∃ n : Int, (x.toNat : Int) = n := ⟨_, rfl⟩
    obtain ⟨sv, hsv⟩ : ∃ n : Int, ((x >>> r).toNat : Int) = n := ⟨_, rfl⟩
    obtain ⟨rv, hrv⟩ : ∃ n : Int, ((x >>> r &&& 1#64).toNat : Int) = n := ⟨_, rfl⟩
    obtain ⟨bb, hbb⟩ : ∃ b, usedB L d K = b := ⟨_, rfl⟩
    have e1 : (((1#64 : BitVec 64).toNat : Nat) : Int) = 1 := rfl
    unfold wv at hc
    rw [e1] at h2
    rw [hxv] at hc h1
    rw [hsv] at h1 h2
    rw [hrv] at h2 h3
    rw [hbb] at h3
    have h3' : (rv == 1) = bb := h3
    rw [ho] at hc hcc
    have hq : (K : Int) / 64 = (q : Int) := by omega
    have hm : (K : Int) % 64 = (r : Int) := by omega
    have hs0 : (0 : Int) ≤ (K : Int) := by omega
    have hqd2 : (K : Int).tdiv 64 = (q : Int) := by rw [Int.tdiv_eq_ediv_of_nonneg (by omega)]; omega
    have hmd2 : (K : Int).tmod 64 = (r : Int) := by rw [Int.tmod_eq_emod_of_nonneg (by omega)]; omega
    have hwq : IntKind.i64.wrap (q : Int) = (q : Int) := by rw [IntWalk.i64_in _ (by omega)]
    have hwr : IntKind.i64.wrap (r : Int) = (r : Int) := by rw [IntWalk.i64_in _ (by omega)]
    have hwk : IntKind.i64.wrap ((K : Int) + 1) = ((K + 1 : Nat) : Int) := by rw [IntWalk.i64_in _ (by omega)]; omega
    have hq0 : (0 : Int) ≤ (q : Int) := by omega
    have hq1 : (q : Int) < 64 := by omega
    have hr0 : (0 : Int) ≤ (r : Int) := by omega
    have hr1 : (r : Int) < 64 := by omega
    have HTS := Lib.hid (freeTo_succ L d K)
    have HFR : Hid (isFree L d K = !bb) := Lib.hid (by unfold isFree; rw [decide_eq_true h5, hbb]; rfl)
    have HLEN : Hid ((freeTo L d K).length < S) := Lib.hid (by have := freeTo_len L d K; omega)
    have HW := Lib.hid hw; have HCH := Lib.hid hch; have HK := Lib.hid hk
    clear hw hch hk hx hxv hsv hrv hbb e1 hqd hrd h3 hcd
    refine LoneTo.goes (n := 90) ?_
    simp only [waitLoop, Try.f62, Option.getD_some, sndSeq, unBlock, unLoop]
    s_c stepG_seq
    s_c stepG_seq
    s_reg
    s_op
    s_op
    s_op
    s_c stepG_region_end
    s_cond true
    s_c stepG_skip
    s_c stepG_seq
    s_c stepG_block
    s_c stepG_seq
    s_reg
    s_op
    s_op
    s_call Try.func37 (by kernel_rfl) Try.f37
    s_c stepG_seq
    s_reg
    s_op
    s_c stepG_region_end
    s_c stepG_seq
    s_reg
    s_op
    s_op
    s_op
    s_op
    s_op
    s_op
    s_op
    s_op
    s_op
    s_op
    s_op
    s_op
    s_op
    s_c stepG_region_end
    s_c stepG_ret'
    s_leave1 Try.func37
    s_op
    s_c stepG_region_end
    cases bb
    · s_cond true
      s_reg
      s_op
      s_op
      s_op
      s_op
      s_op
      s_stop
      obtain ⟨sn, rn, hg⟩ := HCH.out
      have hroom : (((freeTo L d K).map fun x => Value.int .i64 x).toArray).size < S := by rw [List.size_toArray, List.length_map]; exact HLEN.out
      refine LoneTo.step (step_lone_send_room (c := g) (cap := S) (v := .int .i64 (K : Int)) (z' := .tuple #[]) (buf := ((freeTo L d K).map fun x => Value.int .i64 x).toArray) (s := sn) (r := rn) (tm := false) (stepG_comm (cases := #[scase g (.int .i64 (K : Int)) (.tuple #[])]) (blocking := true) (shape := .send) (w' := w) rfl rfl (by decide) (by simp [go_sem, execOp, scase, Act.eval])) hg hroom) ?_
      have hkc := keep_setChan (T := fun k => k = g) (Keep.refl _ w) (fun _ => rfl) S (((freeTo L d K).map fun x => Value.int .i64 x).toArray.push (.int .i64 (K : Int))) false (sn + 1) rn false
      have hch2 : ChanIs (w.setChan g S (((freeTo L d K).map fun x => Value.int .i64 x).toArray.push (.int .i64 (K : Int))) false (sn + 1) rn false) g S (freeTo L d (K + 1)) := by
        refine ⟨sn + 1, rn, ?_⟩
        rw [heap_setChan _ _ _ _ _ _ _ _ (Array.getElem?_eq_some_iff.1 hg).1, HTS.out, HFR.out]
        congr 2
        simp
      have hw2 := HW.out.keep hkc (fun e => hgb e.symm)
      have hk2 := HK.out.trans' hkc (U := fun k => k = b ∨ k = g) (fun _ _ h => h) (fun _ _ h => .inr h)
      have HZ := Lib.hid (And.intro hw2 (And.intro hch2 hk2))
      obtain ⟨w2, hw2e⟩ : ∃ w2, w.setChan g S (((freeTo L d K).map fun x => Value.int .i64 x).toArray.push (.int .i64 (K : Int))) false (sn + 1) rn false = w2 := ⟨_, rfl⟩
      rw [hw2e] at HZ ⊢
      clear hkc hch2 hw2 hk2 hw2e hg hroom
      rw [Frame.finish_at]
      walk_nrm
      refine LoneTo.goes (n := 40) ?_
      s_c stepG_region_end
      s_c stepG_inBlock
      s_reg
      s_op
      s_op
      s_op
      s_c stepG_region_end
      s_c stepG_inLoop
      s_stop
      exact ih w2 (K + 1) _ _ _ _ _ _ _ _ _ _ _ _ _ _ _ _ _ _ _ (by omega) (by omega) HZ.out.1 HZ.out.2.1 HZ.out.2.2
    · s_cond false
      s_c stepG_skip
      s_c stepG_inBlock
      s_reg
      s_op
      s_op
      s_op
      s_c stepG_region_end
      s_c stepG_inLoop
      s_stop
      exact ih w (K + 1) _ _ _ _ _ _ _ _ _ _ _ _ _ _ _ _ _ _ _ (by omega) (by omega) HW.out (by rw [HTS.out, HFR.out]; simpa using HCH.out) HK.out
def WaitPost (w : World) (b : Nat) (c : Nat → Option Nat) (D : Nat) (L : List Ad) (d S : Nat) (e : Ending) (w' : World) : Prop :=
  e = .returned (.tuple #[]) ∧ ∃ g, WordsIs w' b (fun e => if e = d then some g else c e) D L ∧ ChanIs w' g S (freeTo L d S) ∧ w.heap.size ≤ g ∧ Keep (fun k => k = b) w w'
open Go.Conc in
set_option maxHeartbeats 4000000 in
theorem dwait_any (w : World) (b D : Nat) (c : Nat → Option Nat) (L : List Ad) (h : WordsIs w b c D L) (d S : Nat) (hd : d < D) (hS5 : 5 ≤ S) (hS : S ≤ 4096) :
    Calls Try.prog 62 #[.pointer (some ⟨b, d * 65, none⟩), .int .i64 (S : Int)] w (WaitPost w b c D L d S) := by
  have hblt := h.lt
  have hkA := (Keep.refl noBlk w).alloc (.chan S #[] false 0 0 false)
  obtain ⟨w1, hw1⟩ : ∃ w1, w.alloc (.chan S #[] false 0 0 false) = w1 := ⟨_, rfl⟩
  have hg1 : w1.heap[w.heap.size]? = some (.chan S #[] false 0 0 false) := by rw [← hw1]; exact heap_alloc_new w _
  rw [hw1] at hkA
  have h1 := h.keep hkA id
  have hlay := h1.lay hd (some w.heap.size)
  have hc1 := h1.chan hd
  have hf1 := h1.free (d * 65 + 64)
  have hmc := mkChan w S hS
  rw [hw1] at hmc
  have e : Frame.enter Try.prog 62 #[.pointer (some ⟨b, d * 65, none⟩), .int .i64 (S : Int)] .normal = (base 62).at ⟨#[.pointer (some ⟨b, d * 65, none⟩), .int .i64 (S : Int), undef, undef, undef, undef, undef, undef, undef, undef, undef, undef, undef, undef, undef, undef, undef, undef, undef, undef, undef, undef, undef, undef], []⟩ [.code (Try.f62.body.getD .skip)] := by
    simp [Frame.enter, Frame.at, Try.func62, base, Try.f62]
  refine calls_of_loneTo fun cs => ?_
  rw [e]
  clear e
  have HLAY := Lib.hid hlay
  clear hlay h1
  refine LoneTo.goes (n := 40) ?_
  simp only [Try.f62, Option.getD_some]
  s_c stepG_seq
  s_reg
  s_op
  s_op
  s_op
  s_op
  s_op
  s_op
  s_c stepG_region_end
  s_c stepG_seq
  s_reg
  s_op
  s_c stepG_region_end
  s_c stepG_block
  s_c stepG_loop
  s_stop
  obtain ⟨w2, hw2⟩ : ∃ w2, w1.setCell ⟨b, d * 65 + 64, none⟩ (.chan (some w.heap.size)) = w2 := ⟨_, rfl⟩
  rw [hw2] at HLAY ⊢
  have hne : w.heap.size ≠ b := by omega
  have hg2 := HLAY.out.2.blk hg1 hne
  have hch : ChanIs w2 w.heap.size S (freeTo L d 5) := ⟨0, 0, by rw [freeTo_five]; exact hg2⟩
  refine lone_mono (wait_loop w2 b (d * 65) D w.heap.size d S (fun e => if e = d then some w.heap.size else c e) L cs rfl hd hS (if_pos rfl) hne (S - 5) w2 5 _ _ _ _ _ _ _ _ _ _ _ _ _ _ _ _ _ _ _ (by omega) (by omega) HLAY.out.1 hch (Keep.refl _ _)) ?_
  rintro g' w' ⟨e, fr, he, ⟨h4, h5, h6, h7⟩, h8, h9⟩
  exact ⟨e, fr, he, ⟨h4, w.heap.size, h5, h6, Nat.le_refl _, (hkA.trans' HLAY.out.2 (U := fun k => k = b) (fun _ _ h => h.elim) (fun _ _ h => h)).trans' h7 (U := fun k => k = b) (fun _ _ h => h) (fun i hi h => h.elim id (fun e => by omega))⟩, h8, h9⟩
end Go.Proofs.Ytfjklgbakhjjiaa
