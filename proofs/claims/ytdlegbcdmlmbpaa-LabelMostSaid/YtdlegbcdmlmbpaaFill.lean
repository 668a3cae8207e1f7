/-
  The filling up of bytes to pieces: the program's Fill.
  Conditions: the bounds on sizes that each theorem names.
-/
import Derived.Test.YtdlegbcdmlmbpaaChunk
import Derived.Test.YtdlegbcdmlmbpaaLate
import Derived.Test.YtdlegbcdmlmbpaaPlain2
import Derived.Test.YtdlegbcdmlmbpaaHash3
namespace Go.Proofs.Ytdlegbcdmlmbpaa
set_option linter.unusedVariables false
open Go.RowKit
set_option maxRecDepth 100000
attribute [local go_sem] Oper.semAt_some

def vlen : Value → Nat
  | .slice _ n _ => n
  | _ => 0

theorem owns_block {w : World} {base e size n : Nat} {v : Value} {xs : List Value} (h : w.ownsRow base e size v n xs) {k : Nat} (hb : v.ownBlock = some k) : ∃ cur, w.heap[k]? = some (.cells cur e (0, 0)) := by
  rcases h.2 with ⟨rfl, -⟩ | ⟨g, cap, cur, rfl, _, hh, -⟩
  · cases hb
  · cases hb; exact ⟨cur, hh⟩

/-- The pieces, each in a block of its own kind. -/
def PcsAre (w : World) (base : Nat) (bs : List UInt8) (xs : List Nat) (ps : List Value) : Prop :=
  ps.length = xs.length ∧ ∀ (i : Nat) (p : Value), ps[i]? = some p → ∃ x, xs[i]? = some x ∧ w.ownsRow base 5 1 p 64 ((piece bs (x % many bs.length)).map vb)
theorem PcsAre.keep {S : Nat → Prop} {w w' : World} {base : Nat} {bs : List UInt8} {xs : List Nat} {ps : List Value} (h : PcsAre w base bs xs ps) (hk : Keep S w w') (hS : ∀ k cur, w.heap[k]? = some (.cells cur 5 (0, 0)) → ¬ S k) : PcsAre w' base bs xs ps :=
  ⟨h.1, fun i p hp => by
    obtain ⟨x, hx, ho⟩ := h.2 i p hp
    exact ⟨x, hx, hk.owns ho fun k hb => by obtain ⟨cur, hc⟩ := owns_block ho hb; exact hS k cur hc⟩⟩
theorem PcsAre.snoc {w : World} {base : Nat} {bs : List UInt8} {xs : List Nat} {ps : List Value} (h : PcsAre w base bs xs ps) (x : Nat) (p : Value) (hp : w.ownsRow base 5 1 p 64 ((piece bs (x % many bs.length)).map vb)) : PcsAre w base bs (xs ++ [x]) (ps ++ [p]) := by
  refine ⟨by simp [h.1], fun i q hq => ?_⟩
  rcases Nat.lt_trichotomy i ps.length with hi | hi | hi
  · rw [List.getElem?_append_left hi] at hq
    obtain ⟨y, hy, ho⟩ := h.2 i q hq
    exact ⟨y, by rw [List.getElem?_append_left (by rw [← h.1]; exact hi)]; exact hy, ho⟩
  · subst hi
    have : q = p := by simpa using hq.symm
    subst this
    exact ⟨x, by rw [h.1]; simp, hp⟩
  · rw [List.getElem?_eq_none (by simp; omega)] at hq; cases hq

theorem infoS8 : (Try.prog.info? 26).map (fun i => (i.zero, i.size, i.bytes)) = some (some (.slice none 0 0), 1, 24) := by kernel_rfl

/-- What the rounds over the pieces keep up. -/
def FI (B : Nat) (w3 : World) (bs : List UInt8) (pre : List Nat) (W : World) : Prop :=
  (∃ v ps, W.heap[B]? = some (.cells #[v] 73 (0, 0)) ∧ W.ownsRow w3.heap.size 26 1 v pre.length ps ∧ PcsAre W w3.heap.size bs pre ps) ∧ Keep (fun k => k = B) w3 W
theorem FI.own {B : Nat} {w3 : World} (hB : B < w3.heap.size) (bs : List UInt8) : OwnFrom w3.heap.size (FI B w3 bs) := by
  rintro pre W W' row ⟨⟨v, ps, h1, h2, h3⟩, hk⟩ hg hr
  have kg := Keep.of_grown hg
  have no : ∀ k cur e, W.heap[k]? = some (.cells cur e (0, 0)) → ¬ row = some k := fun k cur e hc e1 => by
    obtain ⟨_, o, ho, hcs⟩ := hr k e1
    rw [hc] at ho
    cases ho
    cases hcs
  refine ⟨⟨v, ps, kg.blk h1 (no _ _ _ h1), kg.owns h2 (fun k hb => by obtain ⟨cur, hc⟩ := owns_block h2 hb; exact no _ _ _ hc), h3.keep kg (fun k cur hc => no _ _ _ hc)⟩, hk.grown hg fun k e1 hlt => ?_⟩
  have := (hr k e1).1
  omega

theorem KeepsOthers_of_keep {S : Nat → Prop} {W W' : World} (h : Keep S W W') (hS : ∀ k o, W.heap[k]? = some o → S k → o.isCells = true) : KeepsOthers W W' :=
  ⟨h.size, fun k o hk ho => h.blk hk fun hs => by rw [hS k o hk hs] at ho; cases ho⟩

theorem fill_mid {B : Nat} {w3 W Wd Wp Wr : World} {bs : List UInt8} {pre : List Nat} {ps : List Value} {v p : Value} (hB : B + 2 < w3.heap.size)
    (h1 : W.heap[B]? = some (.cells #[v] 73 (0, 0))) (h2 : W.ownsRow w3.heap.size 26 1 v pre.length ps)
    (hkd : Keep noBlk W Wd) (hkp : Keep (fun k => (Value.slice none 0 0).ownBlock = some k) Wd Wp) (hkr : Keep (fun k => v.ownBlock = some k) (Wp.alloc (.cells #[p] 26)) Wr) :
    Wr.heap[B]? = some (.cells #[v] 73 (0, 0)) := by
  have k1 : Keep noBlk W Wp := hkd.trans' hkp (fun _ _ h => h) (fun i _ h => by cases h)
  refine hkr.blk ((k1.alloc _).blk h1 id) fun h => ?_
  have := (h2.lt B h).1
  omega

theorem fill_end {B : Nat} {w3 W Wd Wp Wr : World} {bs : List UInt8} {pre : List Nat} {x : Nat} {ps : List Value} {v v' p : Value} (hB : B + 2 < w3.heap.size)
    (h1 : W.heap[B]? = some (.cells #[v] 73 (0, 0))) (h2 : W.ownsRow w3.heap.size 26 1 v pre.length ps) (h3 : PcsAre W w3.heap.size bs pre ps) (hk : Keep (fun k => k = B) w3 W)
    (hkd : Keep noBlk W Wd) (hp : Wp.ownsRow w3.heap.size 5 1 p (0 + 64) ([] ++ (piece bs (x % many bs.length)).map vb)) (hkp : Keep (fun k => (Value.slice none 0 0).ownBlock = some k) Wd Wp)
    (hr : Wr.ownsRow w3.heap.size 26 1 v' (pre.length + 1) (ps ++ [p])) (hkr : Keep (fun k => v.ownBlock = some k) (Wp.alloc (.cells #[p] 26)) Wr) :
    KeepsOthers W (Wr.setCell ⟨B, 0, none⟩ v') ∧ ChunkKp (B + 1) (B + 1 + 1) W (Wr.setCell ⟨B, 0, none⟩ v') ∧ FI B w3 bs (pre ++ [x]) (Wr.setCell ⟨B, 0, none⟩ v') := by
  have hm := fill_mid (bs := bs) hB h1 h2 hkd hkp hkr
  have k1 : Keep noBlk W Wp := hkd.trans' hkp (fun _ _ h => h) (fun i _ h => by cases h)
  have k2 : Keep noBlk W (Wp.alloc (.cells #[p] 26)) := k1.alloc _
  have kt : Keep (fun k => k = B ∨ v.ownBlock = some k) W (Wr.setCell ⟨B, 0, none⟩ v') :=
    (k2.trans' hkr (fun _ _ h => h.elim) (fun i _ h => .inr h)).setCell (fun _ => .inl rfl) _
  have ks : Keep (fun k => k = B) Wr (Wr.setCell ⟨B, 0, none⟩ v') := Keep.setCell (S := fun k => k = B) (p := ⟨B, 0, none⟩) (Keep.refl _ _) (fun _ => rfl) _
  have far : ∀ k, v.ownBlock = some k → w3.heap.size ≤ k := fun k h => (h2.lt k h).1
  refine ⟨KeepsOthers_of_keep kt ?_, ⟨kt.block _ (by have := hk.size; omega) ?_, kt.block _ (by have := hk.size; omega) ?_⟩, ⟨v', ps ++ [p], ?_, ?_, ?_⟩, hk.trans' kt (fun _ _ h => h) ?_⟩
  · rintro k o ho (rfl | h)
    · rw [h1] at ho; cases ho; rfl
    · obtain ⟨cur, hc⟩ := owns_block h2 h
      rw [hc] at ho; cases ho; rfl
  · rintro (h | h)
    · omega
    · have := far _ h; omega
  · rintro (h | h)
    · omega
    · have := far _ h; omega
  · exact set_blk hm 0 v'
  · rw [List.length_append]
    exact ks.owns hr fun k hb e => by have := (hr.lt k hb).1; omega
  · refine PcsAre.keep ?_ ks (fun k cur hc e => by subst e; rw [hm] at hc; cases hc)
    refine PcsAre.keep (w := Wp.alloc (.cells #[p] 26)) ?_ hkr (fun k cur hc e => by obtain ⟨c2, h⟩ := owns_block (k2.owns h2 fun _ _ => id) e; rw [hc] at h; cases h)
    refine PcsAre.keep (w := Wp) (S := noBlk) ?_ ((Keep.refl _ _).alloc _) (fun _ _ _ => id)
    exact (h3.keep k1 fun _ _ _ => id).snoc x p (by simpa using hp)
  · rintro i hi (h | h)
    · exact h
    · have := far _ h; omega

def FillPost (w : World) (bs : List UInt8) (e : Ending) (w' : World) : Prop :=
  ∃ v ps, e = .returned v ∧ w'.ownsRow w.heap.size 26 1 v (many bs.length) ps ∧ PcsAre w' w.heap.size bs (List.range (many bs.length)) ps ∧ Keep noBlk w w'

set_option maxHeartbeats 400000 in
theorem clone2_any (bv : Value) (bs : List UInt8) (w : World) (hr : Rd w 1 bv bs.length (bs.map vb)) (hb : bs.length ≤ 140737488351232) :
    Calls Try.prog 87 #[bv] w (MadeB w bs) := by
  obtain ⟨hl, a, cap, rfl, h1, h2, h3, h4⟩ := hr
  cases a with
  | none =>
    have hc := h3 rfl
    subst hc
    have hb0 : bs = [] := List.eq_nil_of_length_eq_zero (by omega)
    subst hb0
    clear h1 h2 h3 h4 hl
    have hq := fun (w : World) (a : Option Addr) (n c : Nat) => Lib.run_eql_slice_nil (P := Try.prog) w 26 5 a n c 0 0 Try.underlying26
    go_enter Try.func87, Try.ntmps87
    go_wp2_with fail
    go_ret
    exact ⟨_, rfl, World.ownsRow_nil _ _ _ _, Keep.refl _ _⟩
  | some ad =>
    have K : Keep noBlk w (w.alloc (.cells #[] 5)) := (Keep.refl _ _).alloc _
    have HR := Lib.hid ((show Rd w 1 (.slice (some ad) bs.length cap) bs.length (bs.map vb) from ⟨hl, _, _, rfl, h1, h2, h3, h4⟩).keep K fun _ _ => id)
    have HK := Lib.hid K
    have hx1 : 0 + bs.length ≤ maxLen := by unfold maxLen; omega
    have HX := Lib.hid hx1
    clear h1 h2 h3 h4 hl K hx1
    have hq := fun (w : World) (a : Option Addr) (n c : Nat) => Lib.run_eql_slice_nil (P := Try.prog) w 26 5 a n c 0 0 Try.underlying26
    go_enter Try.func87, Try.ntmps87
    go_wp2_with (at_builtin; refine wpList_append_rd rfl (.tmp 5) (.tmp 6) 26 rfl w.heap.size 5 _ 1 1 Try.underlying26 infoU8 rfl (by omega) _ 0 [] rfl (World.ownsRow_made w #[] 0 (Nat.le_refl _) (by unfold maxLen; omega) (by simp)) _ bs.length (bs.map vb) rfl HR.out (oneCell_vb _) HX.out (by omega) (by simp) ?_; intro v' w2 hown2 hk2 hnil hat; obtain ⟨a3, c3, rfl, -, -⟩ := (Rd.of_owns hown2).form; have HO := Lib.hid hown2; have HK2 := Lib.hid hk2; clear hown2 hk2 hnil hat)
    go_ret
    refine ⟨_, rfl, by simpa using HO.out, HK.out.trans' HK2.out (fun _ _ h => h) (fun i hi h => ?_)⟩
    have h' : w.heap.size = i := Option.some.inj h
    omega

/-- One more byte at the end of a row of bytes of one's own. -/
theorem push_rel {w wr w2 : World} {v v' : Value} {l : List UInt8} {b : UInt8} {x : Value} (hx : x = vb b) {N : Nat} (_hN : N = l.length) (hown : wr.ownsRow w.heap.size 5 1 v N (l.map vb)) (hkp : Keep noBlk w wr)
    (hown2 : w2.ownsRow w.heap.size 5 1 v' (N + 1) (l.map vb ++ [x]))
    (hk2 : Keep (fun i => v.ownBlock = some i) (wr.alloc (.cells #[x] 5)) w2) :
    Hid (w2.ownsRow w.heap.size 5 1 v' (N + 1) ((l ++ [b]).map vb)) ∧ Hid (Keep noBlk w w2) := by
  subst hx
  refine ⟨Lib.hid (by simpa using hown2), Lib.hid ?_⟩
  refine (hkp.alloc _).trans' hk2 (fun _ _ h => h) (fun i hi h => ?_)
  have := (hown.lt i h).1
  omega

theorem fill_done {w w3 W : World} {bs : List UInt8} {v : Value} {ps : List Value} {D : Nat} {o o' : Obj} (ho : o.isCells = false) (hD : W.heap[D]? = some o) (h2 : W.ownsRow w3.heap.size 26 1 v (many bs.length) ps) (h3 : PcsAre W w3.heap.size bs (List.range (many bs.length)) ps)
    (hk : Keep noBlk w W) (hs : w.heap.size ≤ w3.heap.size ∧ w3.heap.size ≤ D) : FillPost w bs (.returned v) (W.putObj D o') := by
  have kd := Keep.of_grown (grownBy_putObj' W D o')
  have no : ∀ k cur e, W.heap[k]? = some (.cells cur e (0, 0)) → ¬ some D = some k := fun k cur e hc e1 => by
    cases e1
    rw [hD] at hc
    cases hc
    cases ho
  refine ⟨v, ps, rfl, ?_, ?_, hk.trans' kd (fun _ _ h => h) (fun i hi e => by cases e; omega)⟩
  · exact ownsRow_mono (kd.owns h2 fun k hb => by obtain ⟨cur, hc⟩ := owns_block h2 hb; exact no _ _ _ hc) hs.1
  · have := h3.keep kd fun k cur hc => no _ _ _ hc
    exact ⟨this.1, fun i p hp => by obtain ⟨x, hx, ho⟩ := this.2 i p hp; exact ⟨x, hx, ownsRow_mono ho hs.1⟩⟩

set_option maxHeartbeats 4000000 in
theorem fill_any (bv : Value) (bs : List UInt8) (w : World) (hr : Rd w 1 bv bs.length (bs.map vb)) (hb : bs.length ≤ 140737488350208) :
    Calls Try.prog 69 #[bv] w (FillPost w bs) := by
  have C := Lib.hid (clone2_any bv bs w hr (by omega))
  obtain ⟨a, c, rfl, -, -⟩ := hr.form
  clear hr
  refine callsIn_wide.1 (callsIn_of_wp_marks (F := Fence.wide) (n := 3) Try.func69 rfl trivial (wpIn_wide.2 ?_))
  simp only [Try.ntmps69, List.size_toArray, List.length_cons, List.length_nil, Nat.reduceAdd, Nat.reduceSub, Array.replicate_succ, Array.replicate_zero, List.push_toArray, List.append_toArray, List.nil_append, List.cons_append]
  go_wp2_with fail
  refine C.out.mono ?_
  rintro e w1 ⟨v, rfl, hown, hk⟩
  have H128 := Lib.hid (show (Value.int .u8 128) = vb 128 from rfl)
  have H0 := Lib.hid (show (Value.int .u8 0) = vb 0 from rfl)
  have hml : bs.length + 1 ≤ maxLen := by unfold maxLen; omega
  have HML := Lib.hid hml; clear hml
  have HO := Lib.hid hown; have HK := Lib.hid hk; clear hown hk
  have hone : ∀ k : Int, ∀ u ∈ [Value.int .u8 k], u.oneCell' = true := by simp [Value.oneCell']
  have HONE := Lib.hid hone; clear hone
  have hsz : w.heap.size ≤ (w1.alloc (.cells #[.int .u8 128] 5)).heap.size := by have := HK.out.size; simp; omega
  have HS := Lib.hid hsz; clear hsz
  go_wp2_with (at_builtin; refine wpList_append_rd rfl (.tmp 9) (.tmp 10) 26 rfl w.heap.size 5 _ 1 1 Try.underlying26 infoU8 rfl (by omega) _ bs.length _ rfl (HO.out.alloc _) _ 1 _ rfl (rd_one _ _ _) (HONE.out _) HML.out (by omega) HS.out ?_; intro v' w2 hown2 hk2 hnil hat; have R := push_rel H128.out rfl HO.out HK.out hown2 hk2; obtain ⟨a3, c3, rfl, -, -⟩ := (Rd.of_owns hown2).form; clear hown2 hk2 hnil hat HO HK HS)
  obtain ⟨HO, HK⟩ := R
  go_loopw [3] (fun v wr => ∃ k N : Nat, k ≤ padN bs.length ∧ N = bs.length + 1 + k ∧ (∃ a c, v = .slice a N c) ∧ Hid (wr.ownsRow w.heap.size 5 1 v N ((bs ++ [128] ++ List.replicate k 0).map vb)) ∧ Hid (Keep noBlk w wr)) (fun v _ => bs.length + 1 + padN bs.length - vlen v)
  case atStart => exact ⟨0, _, by omega, rfl, ⟨_, _, rfl⟩, by simpa using HO, HK⟩
  case round =>
    clear HO HK HML
    obtain ⟨k, N, hk, hN, ⟨a4, c4, rfl⟩, HO, HK⟩ := hrel
    have hp := padN_lt bs.length
    have hNb : N ≤ 140737488350400 := by omega
    have HN0 := Lib.hid hN
    by_cases hlt : k < padN bs.length
    · have hmod : ((N : Int) % 64) ≠ 56 := by
        have := padN_step bs.length k hk
        rw [← hN] at this
        omega
      have hsz : w.heap.size ≤ (wr.alloc (.cells #[.int .u8 0] 5)).heap.size := by have := HK.out.size; simp; omega
      have HS := Lib.hid hsz; clear hsz
      have hml : N + 1 ≤ maxLen := by unfold maxLen; omega
      have HML := Lib.hid hml; clear hml
      have HN := Lib.hid (show N = (bs ++ [128] ++ List.replicate k 0).length by simp [hN]; omega)
      clear hN
      go_wp2_with (at_builtin; refine wpList_append_rd rfl (.tmp 16) (.tmp 17) 26 rfl w.heap.size 5 _ 1 1 Try.underlying26 infoU8 rfl (by omega) _ N _ rfl (HO.out.alloc _) _ 1 _ rfl (rd_one _ _ _) (HONE.out _) HML.out (by omega) HS.out ?_; intro v' w2 hown2 hk2 hnil hat; have R := push_rel H0.out HN.out HO.out HK.out hown2 hk2; obtain ⟨a5, c5, rfl, -, -⟩ := (Rd.of_owns hown2).form; clear hown2 hk2 hnil hat HO HK HS HN)
      go_roundw
      case rel => exact ⟨k + 1, N + 1, by omega, by rw [HN0.out]; omega, ⟨_, _, rfl⟩, by rw [List.replicate_succ', ← List.append_assoc]; exact R.1, R.2⟩
      case measure => have := HN0.out; simp [vlen]; omega
    · obtain rfl : k = padN bs.length := by omega
      have hmod : ((N : Int) % 64) = 56 := by
        have := padN_step bs.length _ hk
        rw [← hN] at this
        omega
      clear hN
      go_wp2_with fail
      obtain ⟨L, hL⟩ : ∃ L, L = bs ++ [128] ++ List.replicate (padN bs.length) 0 := ⟨_, rfl⟩
      rw [← hL] at HO
      have hNL : N = L.length := by rw [HN0.out, hL]; simp; omega
      obtain ⟨M, hM⟩ : ∃ M : Nat, M = 8 * bs.length := ⟨_, rfl⟩
      have hMi : (bs.length : Int) * 8 = (M : Int) := by omega
      rw [hMi]
      have hMb : M < 2251799813685248 := by omega
      have HL := Lib.hid hL; have HM := Lib.hid hM; have HNL := Lib.hid hNL
      clear hL hM hMi hNL hlt hk hmod
      obtain ⟨wo, rfl⟩ : ∃ wo : World, wo = wr := ⟨_, rfl⟩
      go_loopw [3, 23] (fun v i wr => ∃ k N1 : Nat, k ≤ 8 ∧ N1 = N + k ∧ i = .int .i64 k ∧ (∃ a c, v = .slice a N1 c) ∧ Hid (wr.ownsRow w.heap.size 5 1 v N1 ((L ++ (List.range k).map (beAt M 8)).map vb)) ∧ Hid (Keep noBlk w wr)) (fun _ i _ => 8 - (intOf i).toNat)
      case atStart => exact ⟨0, N, by omega, rfl, rfl, ⟨_, _, rfl⟩, by simpa using HO, HK⟩
      case round =>
        clear HO HK
        obtain ⟨k, N1, hk, hN1, rfl, ⟨a5, c5, rfl⟩, HO, HK⟩ := hrel
        have hNb1 : N1 ≤ 140737488350500 := by omega
        have HN1 := Lib.hid hN1; clear hN1
        by_cases hlt : k < 8
        · have hml : N1 + 1 ≤ maxLen := by unfold maxLen; omega
          have HML := Lib.hid hml; clear hml
          have HV := Lib.hid (show (Value.int .u8 ((M : Int) / 2 ^ (56 - 8 * k) % 256)) = vb (beAt M 8 k) by rw [vb_eq, beAt_toNat, show 8 * (8 - k - 1) = 56 - 8 * k by omega])
          have HN := Lib.hid (show N1 = (L ++ (List.range k).map (beAt M 8)).length by rw [HN1.out, HNL.out]; simp)
          have hsz : w.heap.size ≤ (wr.alloc (.cells #[.int .u8 ((M : Int) / 2 ^ (56 - 8 * k) % 256)] 5)).heap.size := by have := HK.out.size; simp; omega
          have HS := Lib.hid hsz; clear hsz
          go_wp2_with (at_builtin; refine wpList_append_rd rfl (.tmp 26) (.tmp 33) 26 rfl w.heap.size 5 _ 1 1 Try.underlying26 infoU8 rfl (by omega) _ N1 _ rfl (HO.out.alloc _) _ 1 _ rfl (rd_one _ _ _) (HONE.out _) HML.out (by omega) HS.out ?_; intro v' w2 hown2 hk2 hnil hat; have R := push_rel HV.out HN.out HO.out HK.out hown2 hk2; obtain ⟨a6, c6, rfl, -, -⟩ := (Rd.of_owns hown2).form; clear hown2 hk2 hnil hat HO HK HS HN HV)
          go_roundw
          case rel => exact ⟨k + 1, N1 + 1, by omega, by rw [HN1.out]; omega, by go_num, ⟨_, _, rfl⟩, by rw [range_succ_map, ← List.append_assoc]; exact R.1, R.2⟩
          case measure => simp [intOf]; omega
        · obtain rfl : k = 8 := by omega
          have HF : Hid (wr.ownsRow w.heap.size 5 1 (.slice a5 N1 c5) N1 ((filled bs).map vb)) := by
            refine Lib.hid ?_
            have := HO.out
            rw [HL.out, HM.out] at this
            exact this
          have HNF := Lib.hid (show N1 = 64 * many bs.length by rw [← many_eq, HN1.out, HN0.out])
          clear HO HL HM HN1 HNL HN0 hlt hk
          go_wp2_with fail
          refine (chunk_any _ _ ⟨_, _, _, rfl⟩).mono ?_
          rintro e w3 ⟨rfl, hw3⟩
          obtain ⟨w4, hw4⟩ : ∃ w4, wr.alloc (.cells #[.slice none 0 0] 73) = w4 := ⟨_, rfl⟩
          rw [hw4] at hw3
          have HW3 := Lib.hid hw3; have HW4 := Lib.hid hw4
          clear hw3 hw4
          go_wp2_with fail
          have hsz4 : w4.heap.size = wr.heap.size + 1 := by rw [← HW4.out]; simp
          have hsz3 : w3.heap.size = wr.heap.size + 3 := by rw [HW3.out]; simp [hsz4]
          obtain ⟨g, cap, cur, hv, hgb, hgh, hgc, hgm, hgs, hgt⟩ : ∃ g cap cur, Value.slice a5 N1 c5 = .slice (some ⟨g, 0, none⟩) N1 cap ∧ w.heap.size ≤ g ∧ wr.heap[g]? = some (.cells cur 5 (0, 0)) ∧ N1 ≤ cap ∧ cap ≤ maxLen ∧ cur.size = cap * 1 ∧ cur.toList.take (N1 * 1) = (filled bs).map vb := by
            rcases HF.out.2 with ⟨h, h0⟩ | h
            · have := many_pos bs.length; have := HNF.out; omega
            · exact h
          cases hv
          have hb1 : w3.heap[wr.heap.size + 1]? = some (.cells #[.slice (some ⟨g, 0, none⟩) (64 * many bs.length) c5] 26 (0, 0)) := by
            rw [HW3.out, ← hsz4, ← HNF.out]; exact heap_alloc2_old _ _ _
          have hb2 : w3.heap[wr.heap.size + 1 + 1]? = some (.cells #[.int .i64 64] 3 (0, 0)) := by
            rw [HW3.out, ← hsz4]; exact heap_alloc2_new _ _ _
          refine wpIn_wide (n := 3).1 ?_
          refine' wpIn_rangeFunc_ownF rfl (by omega) (gf := 97) rfl trivial (enters_of Try.func97 (by kernel_rfl) rfl) (chunk_stops _ (wr.heap.size + 1) (wr.heap.size + 1 + 1) g 0 (many bs.length) c5 (by rw [← HNF.out]; exact hgc) hgm w3 hb1 hb2) ?hKt ?hKb (Below.refl _ _) (fun _ => rfl) (FI wr.heap.size w3 bs) (fun _ _ _ => False) (FI.own (by omega) bs) (fun c s A B row hs _ _ => hs) ?h0 _ ?assign ?body ?done ?stop
          case hKt => exact fun h k => ⟨k.1.trans h.1, k.2.trans h.2⟩
          case hKb => exact fun W l o o' hl _ _ _ => ⟨World.putObj_heap_other (by omega), World.putObj_heap_other (by omega)⟩
          case h0 =>
            refine ⟨⟨.slice none 0 0, [], ?_, World.ownsRow_nil _ _ _ _, rfl, fun i p h => by simp at h⟩, Keep.refl _ _⟩
            rw [HW3.out, ← HW4.out]
            exact (((Keep.refl noBlk _).alloc _).alloc _).blk (heap_alloc_new _ _) id
          case assign =>
            intro l x W K hK
            gi_wp2_with fail
            exact hK
          case body =>
            rintro l pre x W ⟨⟨v, ps, h1, h2, h3⟩, hk⟩ hlen
            obtain ⟨av, cv, rfl, -, -⟩ := (Rd.of_owns h2).form
            have hlt : x % many bs.length < many bs.length := Nat.mod_lt _ (many_pos _)
            have HP : Hid (Rd W 1 (.slice (some ⟨g, 0 + 64 * (x % many bs.length), none⟩) 64 64) 64 ((piece bs (x % many bs.length)).map vb)) := by
              refine Lib.hid ⟨by simp [piece_length bs _ hlt], _, 64, rfl, Nat.le_refl _, by unfold maxLen; omega, (by intro h; cases h), fun _ => ⟨g, _, rfl, fun i u hu => ?_⟩⟩
              have hi : i < 64 := by
                have := (List.getElem?_eq_some_iff.1 hu).1
                simpa [piece_length bs _ hlt] using this
              have hg3 : w3.heap[g]? = some (.cells cur 5 (0, 0)) := by
                rw [HW3.out, ← HW4.out]
                exact ((((Keep.refl noBlk _).alloc _).alloc _).alloc _).blk hgh id
              have hgW := hk.blk hg3 (by have := lt_of_block hgh; omega)
              refine blk_cell hgW ?_
              rw [List.getElem?_map, piece_get _ _ _ hi, ← List.getElem?_map, ← hgt, List.getElem?_take] at hu
              split at hu
              · rw [Nat.zero_add]; simpa using hu
              · cases hu
            have HB := Lib.hid h1; have H2 := Lib.hid h2; have H3 := Lib.hid h3; have HK3 := Lib.hid hk
            clear h1 h2 h3 hk
            gi_wp2_with fail
            refine regionIn_any (by kernel_rfl) (by kernel_rfl) (fun ⟨_, _, h⟩ => h) ?_
            refine wpAny_late (v := .slice av pre.length cv) (S := fun w' => w'.heap[wr.heap.size]? = some (.cells #[.slice av pre.length cv] 73 (0, 0))) rfl (by kernel_rfl) (by decide) (by kernel_rfl) (by kernel_rfl) (by kernel_rfl) (fun _ _ _ h => h) (.inl ⟨by rfl, ?_⟩) HB.out ?_
            · intro w' hS
              have hc := cell_of_one hS
              go_simp
            · obtain ⟨Wd, hWd, HKd⟩ : ∃ Wd, ({ W with drawn := W.drawn + 1 } : World) = Wd ∧ Hid (Keep noBlk W Wd) := ⟨_, rfl, Lib.hid (Keep.refl noBlk W).drew⟩
              rw [hWd]
              clear hWd
              have HPd : Hid (Rd Wd 1 (.slice (some ⟨g, 64 * (x % many bs.length), none⟩) 64 64) 64 ((piece bs (x % many bs.length)).map vb)) := by
                have := HP.out.keep HKd.out fun _ _ => id
                rw [Nat.zero_add] at this
                exact Lib.hid this
              have HBd := Lib.hid (HKd.out.blk HB.out id)
              have hbd : w3.heap.size ≤ Wd.heap.size := Nat.le_trans HK3.out.size HKd.out.size
              have HBs := Lib.hid hbd; clear hbd
              change wpList _ _ (Exit.then _ _) [_] _ _
              go_wp2_with fail
              refine ⟨fun _ => HBd.out, ?_⟩
              change wpList _ _ (Exit.then _ _) [_] _ _
              refine wpList_append_rd rfl (.const (.slice none 0 0)) (.tmp 40) 26 rfl w3.heap.size 5 _ 1 1 Try.underlying26 infoU8 rfl (by omega) _ 0 [] rfl (World.ownsRow_nil _ _ _ _) _ 64 _ rfl HPd.out (oneCell_vb _) (by unfold maxLen; omega) (by omega) HBs.out ?_
              intro p Wp hop hkp hnil hat
              have HOp := Lib.hid hop; have HKp := Lib.hid hkp
              obtain ⟨ap, cp, rfl, -, -⟩ := (Rd.of_owns hop).form
              clear hop hkp hnil hat
              refine wpList_nil ⟨fun _ => HKp.out.blk HBd.out (fun h => by cases h), ?_⟩
              change wpList _ _ (Exit.then _ _) [_] _ _
              go_wp2_with fail
              refine ⟨fun _ => ((Keep.refl noBlk Wp).alloc _).blk (HKp.out.blk HBd.out (fun h => by cases h)) id, ?_⟩
              refine wpListT_of_all [_, _] 4 _ _ (by kernel_rfl) ?_
              have hml : pre.length + 1 ≤ maxLen ∧ (pre.length + 1) * 24 ≤ 140737488355328 := by have := many_eq bs.length; have := padN_lt bs.length; unfold maxLen; omega
              have HML := Lib.hid hml; clear hml
              have hone : ∀ u ∈ [Value.slice ap (0 + 64) cp], u.oneCell' = true := by simp [Value.oneCell']
              have HONE2 := Lib.hid hone; clear hone
              have hKv : Keep noBlk W (Wp.alloc (.cells #[.slice ap (0 + 64) cp] 26)) := (HKd.out.trans' HKp.out (fun _ _ h => h) (fun i _ h => by cases h)).alloc _
              have HOv := Lib.hid (hKv.owns H2.out fun _ _ => id)
              have hbv : w3.heap.size ≤ (Wp.alloc (.cells #[.slice ap (0 + 64) cp] 26)).heap.size := Nat.le_trans HK3.out.size hKv.size
              have HBv := Lib.hid hbv; clear hbv hKv
              refine wpList_append_rd rfl (.tmp 39) (.tmp 42) 73 rfl w3.heap.size 26 _ 1 24 Try.underlying73 infoS8 rfl (by omega) _ pre.length ps rfl HOv.out _ 1 _ rfl (rd_one _ _ _) HONE2.out HML.out.1 HML.out.2 HBv.out ?_
              intro v' Wr hor hkr hnil hat
              have HM := fill_mid (bs := bs) (by omega) HB.out H2.out HKd.out HKp.out hkr
              have R := Lib.hid (fill_end (x := x) (by omega) HB.out H2.out H3.out HK3.out HKd.out HOp.out HKp.out hor hkr)
              have cM := cell_of_one HM
              have fM := blk_free HM 0
              obtain ⟨ar, cr, rfl, -, -⟩ := (Rd.of_owns hor).form
              clear hor hkr hnil hat HM
              go_wp2_with fail
              exact R.out
          case done =>
            intro D xs W hD hS hI hDd
            obtain ⟨⟨v, ps, h1, h2, h3⟩, hk⟩ := hI
            have c1 := cell_of_one h1
            subst hS
            rw [List.length_range] at h2
            obtain ⟨ar, cr, rfl, -, -⟩ := (Rd.of_owns h2).form
            have H2 := Lib.hid h2; have H3 := Lib.hid h3; have HK3 := Lib.hid hk; have HD := Lib.hid hDd
            have hkw : Keep noBlk w W := by
              refine Keep.trans' (S := noBlk) (T := fun k => k = wr.heap.size) (b := w3) ?_ hk (fun _ _ h => h) (fun i hi e => by have := HK.out.size; omega)
              rw [HW3.out, ← HW4.out]
              exact ((HK.out.alloc _).alloc _).alloc _
            have HKW := Lib.hid hkw
            clear h1 h2 h3 hk hDd hkw
            go_wp2_with fail
            refine ⟨by simp, .inl ⟨_, _, rfl, run_takeDeferred HD.out, ?_⟩⟩
            refine ⟨_, results_tmp rfl _ _ _, ?_⟩
            exact fill_done rfl HD.out H2.out H3.out HKW.out ⟨by have := HK.out.size; omega, hD⟩
          case stop => exact fun D c pre W _ _ h _ => h.elim
end Go.Proofs.Ytdlegbcdmlmbpaa
