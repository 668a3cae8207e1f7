/-
  The filling up of bytes to pieces: the program's Fill.
  Conditions: the bounds on sizes that each theorem names.
-/
import Derived.Test.YtaiicjhnhbkgmaaGreatDoorChunk
import Derived.Test.YtaiicjhnhbkgmaaGreatDoorLate
import Derived.Test.YtaiicjhnhbkgmaaGreatDoorPlain2
import Derived.Test.YtaiicjhnhbkgmaaGreatDoorHash1
namespace Go.Proofs.YtaiicjhnhbkgmaaGreatDoor
set_option linter.unusedVariables false
open Go.RowKit
set_option maxRecDepth 100000
attribute [local go_sem] Oper.semAt_some

def vlen : Value → Nat
  | .slice _ n _ => n
  | _ => 0

theorem owns_block {w : World} {base e size n : Nat} {v : Value} {xs : List Value} (h : w.ownsRow base e size v n xs) {k : Nat} (hb : v.ownBlock = some k) : ∃ cur, w.heap[k]? = some (.cells cur e (0, 0)) := by
  rcases h.2 with ⟨rfl, -⟩ | ⟨g, cap, cur, rfl, _, hh, -⟩
  · cases hb
  · cases hb; exact ⟨cur, hh⟩

/-- The pieces, each in a block of its own kind. -/
def PcsAre (w : World) (base : Nat) (bs : List UInt8) (xs : List Nat) (ps : List Value) : Prop :=
  ps.length = xs.length ∧ ∀ (i : Nat) (p : Value), ps[i]? = some p → ∃ x, xs[i]? = some x ∧ w.ownsRow base 5 1 p 64 ((piece bs (x % many bs.length)).map vb)
theorem PcsAre.keep {S : Nat → Prop} {w w' : World} {base : Nat} {bs : List UInt8} {xs : List Nat} {ps : List Value} (h : PcsAre w base bs xs ps) (hk : Keep S w w') (hS : ∀ k cur, w.heap[k]? = some (.cells cur 5 (0, 0)) → ¬ S k) : PcsAre w' base bs xs ps :=
  ⟨h.1, fun i p hp => by
    obtain ⟨x, hx, ho⟩ := h.2 i p hp
    exact ⟨x, hx, hk.owns ho fun k hb => by obtain ⟨cur, hc⟩ := owns_block ho hb; exact hS k cur hc⟩⟩
theorem PcsAre.snoc {w : World} {base : Nat} {bs : List UInt8} {xs : List Nat} {ps : List Value} (h : PcsAre w base bs xs ps) (x : Nat) (p : Value) (hp : w.ownsRow base 5 1 p 64 ((piece bs (x % many bs.length)).map vb)) : PcsAre w base bs (xs ++ [x]) (ps ++ [p]) := by
  refine ⟨by simp [h.1], fun i q hq => ?_⟩
  rcases Nat.lt_trichotomy i ps.length with hi | hi | hi
  · rw [List.getElem?_append_left hi] at hq
    obtain ⟨y, hy, ho⟩ := h.2 i q hq
    exact ⟨y, by rw [List.getElem?_append_left (by rw [← h.1]; exact hi)]; exact hy, ho⟩
  · subst hi
    have : q = p := by simpa using hq.symm
    subst this
    exact ⟨x, by rw [h.1]; simp, hp⟩
  · rw [List.getElem?_eq_none (by simp; omega)] at hq; cases hq

theorem infoS8 : (Tryz.prog.info? 51).map (fun i => (i.zero, i.size, i.bytes)) = some (some (.slice none 0 0), 1, 24) := by kernel_rfl

/-- What the rounds over the pieces keep up. -/
def FI (B : Nat) (w3 : World) (bs : List UInt8) (pre : List Nat) (W : World) : Prop :=
  (∃ v ps, W.heap[B]? = some (.cells #[v] 41 (0, 0)) ∧ W.ownsRow w3.heap.size 51 1 v pre.length ps ∧ PcsAre W w3.heap.size bs pre ps) ∧ Keep (fun k => k = B) w3 W
theorem FI.own {B : Nat} {w3 : World} (hB : B < w3.heap.size) (bs : List UInt8) : OwnFrom w3.heap.size (FI B w3 bs) := by
  rintro pre W W' row ⟨⟨v, ps, h1, h2, h3⟩, hk⟩ hg hr
  have kg := Keep.of_grown hg
  have no : ∀ k cur e, W.heap[k]? = some (.cells cur e (0, 0)) → ¬ row = some k := fun k cur e hc e1 => by
    obtain ⟨_, o, ho, hcs⟩ := hr k e1
    rw [hc] at ho
    cases ho
    cases hcs
  refine ⟨⟨v, ps, kg.blk h1 (no _ _ _ h1), kg.owns h2 (fun k hb => by obtain ⟨cur, hc⟩ := owns_block h2 hb; exact no _ _ _ hc), h3.keep kg (fun k cur hc => no _ _ _ hc)⟩, hk.grown hg fun k e1 hlt => ?_⟩
  have := (hr k e1).1
  omega

theorem KeepsOthers_of_keep {S : Nat → Prop} {W W' : World} (h : Keep S W W') (hS : ∀ k o, W.heap[k]? = some o → S k → o.isCells = true) : KeepsOthers W W' :=
  ⟨h.size, fun k o hk ho => h.blk hk fun hs => by rw [hS k o hk hs] at ho; cases ho⟩

theorem fill_mid {B : Nat} {w3 W Wd Wp Wr : World} {bs : List UInt8} {pre : List Nat} {ps : List Value} {v p : Value} (hB : B + 2 < w3.heap.size)
    (h1 : W.heap[B]? = some (.cells #[v] 41 (0, 0))) (h2 : W.ownsRow w3.heap.size 51 1 v pre.length ps)
    (hkd : Keep noBlk W Wd) (hkp : Keep (fun k => (Value.slice none 0 0).ownBlock = some k) Wd Wp) (hkr : Keep (fun k => v.ownBlock = some k) (Wp.alloc (.cells #[p] 51)) Wr) :
    Wr.heap[B]? = some (.cells #[v] 41 (0, 0)) := by
  have k1 : Keep noBlk W Wp := hkd.trans' hkp (fun _ _ h => h) (fun i _ h => by cases h)
  refine hkr.blk ((k1.alloc _).blk h1 id) fun h => ?_
  have := (h2.lt B h).1
  omega

theorem fill_end {B : Nat} {w3 W Wd Wp Wr : World} {bs : List UInt8} {pre : List Nat} {x : Nat} {ps : List Value} {v v' p : Value} (hB : B + 2 < w3.heap.size)
    (h1 : W.heap[B]? = some (.cells #[v] 41 (0, 0))) (h2 : W.ownsRow w3.heap.size 51 1 v pre.length ps) (h3 : PcsAre W w3.heap.size bs pre ps) (hk : Keep (fun k => k = B) w3 W)
    (hkd : Keep noBlk W Wd) (hp : Wp.ownsRow w3.heap.size 5 1 p (0 + 64) ([] ++ (piece bs (x % many bs.length)).map vb)) (hkp : Keep (fun k => (Value.slice none 0 0).ownBlock = some k) Wd Wp)
    (hr : Wr.ownsRow w3.heap.size 51 1 v' (pre.length + 1) (ps ++ [p])) (hkr : Keep (fun k => v.ownBlock = some k) (Wp.alloc (.cells #[p] 51)) Wr) :
    KeepsOthers W (Wr.setCell ⟨B, 0, none⟩ v') ∧ ChunkKp (B + 1) (B + 1 + 1) W (Wr.setCell ⟨B, 0, none⟩ v') ∧ FI B w3 bs (pre ++ [x]) (Wr.setCell ⟨B, 0, none⟩ v') := by
  have hm := fill_mid (bs := bs) hB h1 h2 hkd hkp hkr
  have k1 : Keep noBlk W Wp := hkd.trans' hkp (fun _ _ h => h) (fun i _ h => by cases h)
  have k2 : Keep noBlk W (Wp.alloc (.cells #[p] 51)) := k1.alloc _
  have kt : Keep (fun k => k = B ∨ v.ownBlock = some k) W (Wr.setCell ⟨B, 0, none⟩ v') :=
    (k2.trans' hkr (fun _ _ h => h.elim) (fun i _ h => .inr h)).setCell (fun _ => .inl rfl) _
  have ks : Keep (fun k => k = B) Wr (Wr.setCell ⟨B, 0, none⟩ v') := Keep.setCell (S := fun k => k = B) (p := ⟨B, 0, none⟩) (Keep.refl _ _) (fun _ => rfl) _
  have far : ∀ k, v.ownBlock = some k → w3.heap.size ≤ k := fun k h => (h2.lt k h).1
  refine ⟨KeepsOthers_of_keep kt ?_, ⟨kt.block _ (by have := hk.size; omega) ?_, kt.block _ (by have := hk.size; omega) ?_⟩, ⟨v', ps ++ [p], ?_, ?_, ?_⟩, hk.trans' kt (fun _ _ h => h) ?_⟩
  · rintro k o ho (rfl | h)
    · rw [h1] at ho; cases ho; rfl
    · obtain ⟨cur, hc⟩ := owns_block h2 h
      rw [hc] at ho; cases ho; rfl
  · rintro (h | h)
    · omega
    · have := far _ h; omega
  · rintro (h | h)
    · omega
    · have := far _ h; omega
  · exact set_blk hm 0 v'
  · rw [List.length_append]
    exact ks.owns hr fun k hb e => by have := (hr.lt k hb).1; omega
  · refine PcsAre.keep ?_ ks (fun k cur hc e => by subst e; rw [hm] at hc; cases hc)
    refine PcsAre.keep (w := Wp.alloc (.cells #[p] 51)) ?_ hkr (fun k cur hc e => by obtain ⟨c2, h⟩ := owns_block (k2.owns h2 fun _ _ => id) e; rw [hc] at h; cases h)
    refine PcsAre.keep (w := Wp) (S := noBlk) ?_ ((Keep.refl _ _).alloc _) (fun _ _ _ => id)
    exact (h3.keep k1 fun _ _ _ => id).snoc x p (by simpa using hp)
  · rintro i hi (h | h)
    · exact h
    · have := far _ h; omega

def FillPost (w : World) (bs : List UInt8) (e : Ending) (w' : World) : Prop :=
  ∃ v ps, e = .returned v ∧ w'.ownsRow w.heap.size 51 1 v (many bs.length) ps ∧ PcsAre w' w.heap.size bs (List.range (many bs.length)) ps ∧ Keep noBlk w w'

set_option maxHeartbeats 400000 in
theorem clone2_any (bv : Value) (bs : List UInt8) (w : World) (hr : Rd w 1 bv bs.length (bs.map vb)) (hb : bs.length ≤ 140737488351232) :
    Calls Tryz.prog 111 #[bv] w (MadeB w bs) := by
  obtain ⟨hl, a, cap, rfl, h1, h2, h3, h4⟩ := hr
  cases a with
  | none =>
    have hc := h3 rfl
    subst hc
    have hb0 : bs = [] := List.eq_nil_of_length_eq_zero (by omega)
    subst hb0
    clear h1 h2 h3 h4 hl
    have hq := fun (w : World) (a : Option Addr) (n c : Nat) => Lib.run_eql_slice_nil (P := Tryz.prog) w 51 5 a n c 0 0 Tryz.underlying51
    go_enter Tryz.func111, Tryz.ntmps111
    go_wp2_with fail
    go_ret
    exact ⟨_, rfl, World.ownsRow_nil _ _ _ _, Keep.refl _ _⟩
  | some ad =>
    have K : Keep noBlk w (w.alloc (.cells #[] 5)) := (Keep.refl _ _).alloc _
    have HR := Lib.hid ((show Rd w 1 (.slice (some ad) bs.length cap) bs.length (bs.map vb) from ⟨hl, _, _, rfl, h1, h2, h3, h4⟩).keep K fun _ _ => id)
    have HK := Lib.hid K
    have hx1 : 0 + bs.length ≤ maxLen := by unfold maxLen; omega
    have HX := Lib.hid hx1
    clear h1 h2 h3 h4 hl K hx1
    have hq := fun (w : World) (a : Option Addr) (n c : Nat) => Lib.run_eql_slice_nil (P := Tryz.prog) w 51 5 a n c 0 0 Tryz.underlying51
    go_enter Tryz.func111, Tryz.ntmps111
    go_wp2_with (at_builtin; refine wpList_append_rd rfl (.tmp 5) (.tmp 6) 51 rfl w.heap.size 5 _ 1 1 Tryz.underlying51 infoU8 rfl (by omega) _ 0 [] rfl (World.ownsRow_made w #[] 0 (Nat.le_refl _) (by unfold maxLen; omega) (by simp)) _ bs.length (bs.map vb) rfl HR.out (oneCell_vb _) HX.out (by omega) (by simp) ?_; intro v' w2 hown2 hk2 hnil hat; obtain ⟨a3, c3, rfl, -, -⟩ := (Rd.of_owns hown2).form; have HO := Lib.hid hown2; have HK2 := Lib.hid hk2; clear hown2 hk2 hnil hat)
    go_ret
    refine ⟨_, rfl, by simpa using HO.out, HK.out.trans' HK2.out (fun _ _ h => h) (fun i hi h => ?_)⟩
    have h' : w.heap.size = i := Option.some.inj h
    omega

/-- One more byte at the end of a row of bytes of one's own. -/
theorem push_rel {w wr w2 : World} {v v' : Value} {l : List UInt8} {b : UInt8} {x : Value} (hx : x = vb b) {N : Nat} (_hN : N = l.length) (hown : wr.ownsRow w.heap.size 5 1 v N (l.map vb)) (hkp : Keep noBlk w wr)
    (hown2 : w2.ownsRow w.heap.size 5 1 v' (N + 1) (l.map vb ++ [x]))
    (hk2 : Keep (fun i => v.ownBlock = some i) (wr.alloc (.cells #[x] 5)) w2) :
    Hid (w2.ownsRow w.heap.size 5 1 v' (N + 1) ((l ++ [b]).map vb)) ∧ Hid (Keep noBlk w w2) := by
  subst hx
  refine ⟨Lib.hid (by simpa using hown2), Lib.hid ?_⟩
  refine (hkp.alloc _).trans' hk2 (fun _ _ h => h) (fun i hi h => ?_)
  have := (hown.lt i h).1
  omega

theorem fill_done {w w3 W : World} {bs : List UInt8} {v : Value} {ps : List Value} {D : Nat} {o o' : Obj} (ho : o.isCells = false) (hD : W.heap[D]? = some o) (h2 : W.ownsRow w3.heap.size 51 1 v (many bs.length) ps) (h3 : PcsAre W w3.heap.size bs (List.range (many bs.length)) ps)
    (hk : Keep noBlk w W) (hs : w.heap.size ≤ w3.heap.size ∧ w3.heap.size ≤ D) : FillPost w bs (.returned v) (W.putObj D o') := by
  have kd := Keep.of_grown (grownBy_putObj' W D o')
  have no : ∀ k cur e, W.heap[k]? = some (.cells cur e (0, 0)) → ¬ some D = some k := fun k cur e hc e1 => by
    cases e1
    rw [hD] at hc
    cases hc
    cases ho
  refine ⟨v, ps, rfl, ?_, ?_, hk.trans' kd (fun _ _ h => h) (fun i hi e => by cases e; omega)⟩
  · exact ownsRow_mono (kd.owns h2 fun k hb => by obtain ⟨cur, hc⟩ := owns_block h2 hb; exact no _ _ _ hc) hs.1
  · have := h3.keep kd fun k cur hc => no _ _ _ hc
    exact ⟨this.1, fun i p hp => by obtain ⟨x, hx, ho⟩ := this.2 i p hp; exact ⟨x, hx, ownsRow_mono ho hs.1⟩⟩

set_option maxHeartbeats 4000000 in
theorem fill_any (bv : Value) (bs : List UInt8) (w : World) (hr : Rd w 1 bv bs.length (bs.map vb)) (hb : bs.length ≤ 140737488350208) :
    Calls Tryz.prog 89 #[bv] w (FillPost w bs) := by
  have C := Lib.hid (clone2_any bv bs w hr (by omega))
  obtain ⟨a, c, rfl, -, -⟩ := hr.form
  clear hr
  refine callsIn_wide.1 (callsIn_of_wp_marks (F := Fence.wide) (n := 3) Tryz.func89 rfl trivial (wpIn_wide.2 ?_))
  simp only [Tryz.ntmps89, List.size_toArray, List.length_cons, List.length_nil, Nat.reduceAdd, Nat.reduceSub, Array.replicate_succ, Array.replicate_zero, List.push_toArray, List.append_toArray, List.nil_append, List.cons_append]
  go_wp2_with fail
  refine C.out.mono ?_
  rintro e w1 ⟨v, rfl, hown, hk⟩
  have H128 := Lib.hid (show (Value.int .u8 128) = vb 128 from rfl)
  have H0 := Lib.hid (show (Value.int .u8 0) = vb 0 from rfl)
  have hml : bs.length + 1 ≤ maxLen := by unfold maxLen; omega
  have HML := Lib.hid hml; clear hml
  have HO := Lib.hid hown; have HK := Lib.hid hk; clear hown hk
  have hone : ∀ k : Int, ∀ u ∈ [Value.int .u8 k], u.oneCell' = true := by simp [Value.oneCell']
  have HONE := Lib.hid hone; clear hone
  have hsz : w.heap.size ≤ (w1.alloc (.cells #[.int .u8 128] 5)).heap.size := by have := HK.out.size; simp; omega
  have HS := Lib.hid hsz; clear hsz
  go_wp2_with (at_builtin; refine wpList_append_rd rfl (.tmp 9) (.tmp 10) 51 rfl w.heap.size 5 _ 1 1 Tryz.underlying51 infoU8 rfl (by omega) _ bs.length _ rfl (HO.out.alloc _) _ 1 _ rfl (rd_one _ _ _) (HONE.out _) HML.out (by omega) HS.out ?_; intro v' w2 hown2 hk2 hnil hat; have R := push_rel H128.out rfl HO.out HK.out hown2 hk2; obtain ⟨a3, c3, rfl, -, -⟩ := (Rd.of_owns hown2).form; clear hown2 hk2 hnil hat HO HK HS)
  obtain ⟨HO, HK⟩ := R
  go_loopw [3] (fun v wr => ∃ k N : Nat, k ≤ padN bs.length ∧ N = bs.length + 1 + k ∧ (∃ a c, v = .slice a N c) ∧ Hid (wr.ownsRow w.heap.size 5 1 v N ((bs ++ [128] ++ List.replicate k 0).map vb)) ∧ Hid (Keep noBlk w wr)) (fun v _ => bs.length + 1 + padN bs.length - vlen v)
  case atStart => exact ⟨0, _, by omega, rfl, ⟨_, _, rfl⟩, by simpa using HO, HK⟩
  case round =>
    clear HO HK HML
    obtain ⟨k, N, hk, hN, ⟨a4, c4, rfl⟩, HO, HK⟩ := hrel
    have hp := padN_lt bs.length
    have hNb : N ≤ 140737488350400 := by omega
    have HN0 := Lib.hid hN
    by_cases hlt : k < padN bs.length
    · have hmod : ((N : Int) % 64) ≠ 56 := by
        have := padN_step bs.length k hk
        rw [← hN] at this
        omega
      have hsz : w.heap.size ≤ (wr.alloc (.cells #[.int .u8 0] 5)).heap.size := by have := HK.out.size; simp; omega
      have HS := Lib.hid hsz; clear hsz
      have hml : N + 1 ≤ maxLen := by unfold maxLen; omega
      have HML := Lib.hid hml; clear hml
      have HN := Lib.hid (show N = (bs ++ [128] ++ List.replicate k 0).length by simp [hN]; omega)
      clear hN
      go_wp2_with (at_builtin; refine wpList_append_rd rfl (.tmp 16) (.tmp 17) 51 rfl w.heap.size 5 _ 1 1 Tryz.underlying51 infoU8 rfl (by omega) _ N _ rfl (HO.out.alloc _) _ 1 _ rfl (rd_one _ _ _) (HONE.out _) HML.out (by omega) HS.out ?_; intro v' w2 hown2 hk2 hnil hat; have R := push_rel H0.out HN.out HO.out HK.out hown2 hk2; obtain ⟨a5, c5, rfl, -, -⟩ := (Rd.of_owns hown2).form; clear hown2 hk2 hnil hat HO HK HS HN)
      go_roundw
      case rel => exact ⟨k + 1, N + 1, by omega, by rw [HN0.out]; omega, ⟨_, _, rfl⟩, by rw [List.replicate_succ', ← List.append_assoc]; exact R.1, R.2⟩
      case measure => have := HN0.out; simp [vlen]; omega
    · obtain rfl : k = padN bs.length := by omega
      have hmod : ((N : Int) % 64) = 56 := by
        have := padN_step bs.length _ hk
        rw [← hN] at this
        omega
      clear hN
      go_wp2_with fail
      obtain ⟨L, hL⟩ : ∃ L, L = bs ++ [128] ++ List.replicate (padN bs.length) 0 := ⟨_, rfl⟩
      rw [← hL] at HO
      have hNL : N = L.length := by rw [HN0.out, hL]; simp; omega
      obtain ⟨M, hM⟩ : ∃ M : Nat, M = 8 * bs.length := ⟨_, rfl⟩
      have hMi : (bs.length : Int) * 8 = (M : Int) := by omega
      rw [hMi]
      have hMb : M < 2251799813685248 := by omega
      have HL := Lib.hid hL; have HM := Lib.hid hM; have HNL := Lib.hid hNL
      clear hL hM hMi hNL hlt hk hmod
      obtain ⟨wo, rfl⟩ : ∃ wo : World, wo = wr := ⟨_, rfl⟩
      go_loopw [3, 23] (fun v i wr => ∃ k N1 : Nat, k ≤ 8 ∧ N1 = N + k ∧ i = .int .i64 k ∧ (∃ a c, v = .slice a N1 c) ∧ Hid (wr.ownsRow w.heap.size 5 1 v N1 ((L ++ (List.range k).map (beAt M 8)).map vb)) ∧ Hid (Keep noBlk w wr)) (fun _ i _ => 8 - (intOf i).toNat)
      case atStart => exact ⟨0, N, by omega, rfl, rfl, ⟨_, _, rfl⟩, by simpa using HO, HK⟩
      case round =>
        clear HO HK
        obtain ⟨k, N1, hk, hN1, rfl, ⟨a5, c5, rfl⟩, HO, HK⟩ := hrel
        have hNb1 : N1 ≤ 140737488350500 := by omega
        have HN1 := Lib.hid hN1; clear hN1
        by_cases hlt : k < 8
        · have hml : N1 + 1 ≤ maxLen := by unfold maxLen; omega
          have HML := Lib.hid hml; clear hml
          have HV := Lib.hid (show (Value.int .u8 ((M : Int) / 2 ^ (56 - 8 * k) % 256)) = vb (beAt M 8 k) by rw [vb_eq, beAt_toNat, show 8 * (8 - k - 1) = 56 - 8 * k by omega])
          have HN := Lib.hid (show N1 = (L ++ (List.range k).map (beAt M 8)).length by rw [HN1.out, HNL.out]; simp)
          have hsz : w.heap.size ≤ (wr.alloc (.cells #[.int .u8 ((M : Int) / 2 ^ (56 - 8 * k) % 256)] 5)).heap.size := by have := HK.out.size; simp; omega
          have HS := Lib.hid hsz; clear hsz
          go_wp2_with (at_builtin; refine wpList_append_rd rfl (.tmp 26) (.tmp 33) 51 rfl w.heap.size 5 _ 1 1 Tryz.underlying51 infoU8 rfl (by omega) _ N1 _ rfl (HO.out.alloc _) _ 1 _ rfl (rd_one _ _ _) (HONE.out _) HML.out (by omega) HS.out ?_; intro v' w2 hown2 hk2 hnil hat; have R := push_rel HV.out HN.out HO.out HK.out hown2 hk2; obtain ⟨a6, c6, rfl, -, -⟩ := (Rd.of_owns hown2).form; clear hown2 hk2 hnil hat HO HK HS HN HV)
          go_roundw
          case rel => exact ⟨k + 1, N1 + 1, by omega, by rw [HN1.out]; omega, by go_num, ⟨_, _, rfl⟩, by rw [range_succ_map, ← List.append_assoc]; exact R.1, R.2⟩
          case measure => simp [intOf]; omega
        · obtain rfl : k = 8 := by omega
          have HF : Hid (wr.ownsRow w.heap.size 5 1 (.slice a5 N1 c5) N1 ((filled bs).map vb)) := by
            refine Lib.hid ?_
            have := HO.out
            rw [HL.out, HM.out] at this
            exact this
          have HNF := Lib.hid (show N1 = 64 * many bs.length by rw [← many_eq, HN1.out, HN0.out])
          clear HO HL HM HN1 HNL HN0 hlt hk
          go_wp2_with fail
          refine (chunk_any _ _ ⟨_, _, _, rfl⟩).mono ?_
          rintro e w3 ⟨rfl, hw3⟩
          obtain ⟨w4, hw4⟩ : ∃ w4, wr.alloc (.cells #[.slice none 0 0] 41) = w4 := ⟨_, rfl⟩
          rw [hw4] at hw3
          have HW3 := Lib.hid hw3; have HW4 := Lib.hid hw4
          clear hw3 hw4
          go_wp2_with fail
          have hsz4 : w4.heap.size = wr.heap.size + 1 := by rw [← HW4.out]; simp
          have hsz3 : w3.heap.size = wr.heap.size + 3 := by rw [HW3.out]; simp [hsz4]
          obtain ⟨g, cap, cur, hv, hgb, hgh, hgc, hgm, hgs, hgt⟩ : ∃ g cap cur, Value.slice a5 N1 c5 = .slice (some ⟨g, 0, none⟩) N1 cap ∧ w.heap.size ≤ g ∧ wr.heap[g]? = some (.cells cur 5 (0, 0)) ∧ N1 ≤ cap ∧ cap ≤ maxLen ∧ cur.size = cap * 1 ∧ cur.toList.take (N1 * 1) = (filled bs).map vb := by
            rcases HF.out.2 with ⟨h, h0⟩ | h
            · have := many_pos bs.length; have := HNF.out; omega
            · exact h
          cases hv
          have hb1 : w3.heap[wr.heap.size + 1]? = some (.cells #[.slice (some ⟨g, 0, none⟩) (64 * many bs.length) c5] 51 (0, 0)) := by
            rw [HW3.out, ← hsz4, ← HNF.out]; exact heap_alloc2_old _ _ _
          have hb2 : w3.heap[wr.heap.size + 1 + 1]? = some (.cells #[.int .i64 64] 3 (0, 0)) := by
            rw [HW3.out, ← hsz4]; exact heap_alloc2_new _ _ _
          refine wpIn_wide (n := 3).1 ?_
          refine' wpIn_rangeFunc_ownF rfl (by omega) (gf := 127) rfl trivial (enters_of Tryz.func127 (by kernel_rfl) rfl) (chunk_stops _ (wr.heap.size + 1) (wr.heap.size + 1 + 1) g 0 (many bs.length) c5 (by rw [← HNF.out]; exact hgc) hgm w3 hb1 hb2) ?hKt ?hKb (Below.refl _ _) (fun _ => rfl) (FI wr.heap.size w3 bs) (fun _ _ _ => False) (FI.own (by omega) bs) (fun c s A B row hs _ _ => hs) ?h0 _ ?assign ?body ?done ?stop
          case hKt => exact fun h k => ⟨k.1.trans h.1, k.2.trans h.2⟩
          case hKb => exact fun W l o o' hl _ _ _ => ⟨World.putObj_heap_other (by omega), World.putObj_heap_other (by omega)⟩
          case h0 =>
            refine ⟨⟨.slice none 0 0, [], ?_, World.ownsRow_nil _ _ _ _, rfl, fun i p h => by simp at h⟩, Keep.refl _ _⟩
            rw [HW3.out, ← HW4.out]
            exact (((Keep.refl noBlk _).alloc _).alloc _).blk (heap_alloc_new _ _) id
          case assign =>
            intro l x W K hK
            gi_wp2_with fail
            exact hK
          case body =>
            rintro l pre x W ⟨⟨v, ps, h1, h2, h3⟩, hk⟩ hlen
            obtain ⟨av, cv, rfl, -, -⟩ := (Rd.of_owns h2).form
            have hlt : x % many bs.length < many bs.length := Nat.mod_lt _ (many_pos _)
            have HP : Hid (Rd W 1 (.slice (some ⟨g, 0 + 64 * (x % many bs.length), none⟩) 64 64) 64 ((piece bs (x % many bs.length)).map vb)) := by
              refine Lib.hid ⟨by simp [piece_length bs _ hlt], _, 64, rfl, Nat.le_refl _, by unfold maxLen; omega, (by intro h; cases h), fun _ => ⟨g, _, rfl, fun i u hu => ?_⟩⟩
              have hi : i < 64 := by
                have := (List.getElem?_eq_some_iff.1 hu).1
                simpa [piece_length bs _ hlt] using this
              have hg3 : w3.heap[g]? = some (.cells cur 5 (0, 0)) := by
                rw [HW3.out, ← HW4.out]
                exact ((((Keep.refl noBlk _).alloc _).alloc _).alloc _).blk hgh id
              have hgW := hk.blk hg3 (by have := lt_of_block hgh; omega)
              refine blk_cell hgW ?_
              rw [List.getElem?_map, piece_get _ _ _ hi, ← List.getElem?_map, ← hgt, List.getElem?_take] at hu
              split at hu
              · rw [Nat.zero_add]; simpa using hu
              · cases hu
            have HB := Lib.hid h1; have H2 := Lib.hid h2; have H3 := Lib.hid h3; have HK3 := Lib.hid hk
            clear h1 h2 h3 hk
            gi_wp2_with fail
            refine regionIn_any (by kernel_rfl) (by kernel_rfl) (fun ⟨_, _, h⟩ => h) ?_
            refine wpAny_late (v := .slice av pre.length cv) (S := fun w' => w'.heap[wr.heap.size]? = some (.cells #[.slice av pre.length cv] 41 (0, 0))) rfl (by kernel_rfl) (by decide) (by kernel_rfl) (by kernel_rfl) (by kernel_rfl) (fun _ _ _ h => h) (.inl ⟨by rfl, ?_⟩) HB.out ?_
            · intro w' hS
              have hc := cell_of_one hS
              go_simp
            · obtain ⟨Wd, hWd, HKd⟩ : ∃ Wd, ({ W with drawn := W.drawn + 1 } : World) = Wd ∧ Hid (Keep noBlk W Wd) := ⟨_, rfl, Lib.hid (Keep.refl noBlk W).drew⟩
              rw [hWd]
              clear hWd
              have HPd : Hid (Rd Wd 1 (.slice (some ⟨g, 64 * (x % many bs.length), none⟩) 64 64) 64 ((piece bs (x % many bs.length)).map vb)) := by
                have := HP.out.keep HKd.out fun _ _ => id
                rw [Nat.zero_add] at this
                exact Lib.hid this
              have HBd := Lib.hid (HKd.out.blk HB.out id)
              have hbd : w3.heap.size ≤ Wd.heap.size := Nat.le_trans HK3.out.size HKd.out.size
              have HBs := Lib.hid hbd; clear hbd
              change wpList _ _ (Exit.then _ _) [_] _ _
              go_wp2_with fail
              refine ⟨fun _ => HBd.out, ?_⟩
              change wpList _ _ (Exit.then _ _) [_] _ _
              refine wpList_append_rd rfl (.const (.slice none 0 0)) (.tmp 40) 51 rfl w3.heap.size 5 _ 1 1 Tryz.underlying51 infoU8 rfl (by omega) _ 0 [] rfl (World.ownsRow_nil _ _ _ _) _ 64 _ rfl HPd.out (oneCell_vb _) (by unfold maxLen; omega) (by omega) HBs.out ?_
              intro p Wp hop hkp hnil hat
              have HOp := Lib.hid hop; have HKp := Lib.hid hkp
              obtain ⟨ap, cp, rfl, -, -⟩ := (Rd.of_owns hop).form
              clear hop hkp hnil hat
              refine wpList_nil ⟨fun _ => HKp.out.blk HBd.out (fun h => by cases h), ?_⟩
              change wpList _ _ (Exit.then _ _) [_] _ _
              go_wp2_with fail
              refine ⟨fun _ => ((Keep.refl noBlk Wp).alloc _).blk (HKp.out.blk HBd.out (fun h => by cases h)) id, ?_⟩
              refine wpListT_of_all [_, _] 4 _ _ (by kernel_rfl) ?_
              have hml : pre.length + 1 ≤ maxLen ∧ (pre.length + 1) * 24 ≤ 140737488355328 := by have := many_eq bs.length; have := padN_lt bs.length; unfold maxLen; omega
              have HML := Lib.hid hml; clear hml
              have hone : ∀ u ∈ [Value.slice ap (0 + 64) cp], u.oneCell' = true := by simp [Value.oneCell']
              have HONE2 := Lib.hid hone; clear hone
              have hKv : Keep noBlk W (Wp.alloc (.cells #[.slice ap (0 + 64) cp] 51)) := (HKd.out.trans' HKp.out (fun _ _ h => h) (fun i _ h => by cases h)).alloc _
              have HOv := Lib.hid (hKv.owns H2.out fun _ _ => id)
              have hbv : w3.heap.size ≤ (Wp.alloc (.cells #[.slice ap (0 + 64) cp] 51)).heap.size := Nat.le_trans HK3.out.size hKv.size
              have HBv := Lib.hid hbv; clear hbv hKv
              refine wpList_append_rd rfl (.tmp 39) (.tmp 42) 41 rfl w3.heap.size 51 _ 1 24 Tryz.underlying41 infoS8 rfl (by omega) _ pre.length ps rfl HOv.out _ 1 _ rfl (rd_one _ _ _) HONE2.out HML.out.1 HML.out.2 HBv.out ?_
              intro v' Wr hor hkr hnil hat
              have HM := fill_mid (bs := bs) (by omega) HB.out H2.out HKd.out HKp.out hkr
              have R := Lib.hid (fill_end (x := x) (by omega) HB.out H2.out H3.out HK3.out HKd.out HOp.out HKp.out hor hkr)
              have cM := cell_of_one HM
              have fM := blk_free HM 0
              obtain ⟨ar, cr, rfl, -, -⟩ := (Rd.of_owns hor).form
              clear hor hkr hnil hat HM
              go_wp2_with fail
              exact R.out
          case done =>
            intro D xs W hD hS hI hDd
            obtain ⟨⟨v, ps, h1, h2, h3⟩, hk⟩ := hI
            have c1 := cell_of_one h1
            subst hS
            rw [List.length_range] at h2
            obtain ⟨ar, cr, rfl, -, -⟩ := (Rd.of_owns h2).form
            have H2 := Lib.hid h2; have H3 := Lib.hid h3; have HK3 := Lib.hid hk; have HD := Lib.hid hDd
            have hkw : Keep noBlk w W := by
              refine Keep.trans' (S := noBlk) (T := fun k => k = wr.heap.size) (b := w3) ?_ hk (fun _ _ h => h) (fun i hi e => by have := HK.out.size; omega)
              rw [HW3.out, ← HW4.out]
              exact ((HK.out.alloc _).alloc _).alloc _
            have HKW := Lib.hid hkw
            clear h1 h2 h3 hk hDd hkw
            go_wp2_with fail
            refine ⟨by simp, .inl ⟨_, _, rfl, run_takeDeferred HD.out, ?_⟩⟩
            refine ⟨_, results_tmp rfl _ _ _, ?_⟩
            exact fill_done rfl HD.out H2.out H3.out HKW.out ⟨by have := HK.out.size; omega, hD⟩
          case stop => exact fun D c pre W _ _ h _ => h.elim
end Go.Proofs.YtaiicjhnhbkgmaaGreatDoor

/-
  The digest: the program's Sum.
  Conditions: the bounds on sizes that each theorem names.
-/
namespace Go.Proofs.YtaiicjhnhbkgmaaGreatDoor
open Go.RowKit
set_option maxRecDepth 100000

def startS : St := ⟨1779033703, 3144134277, 1013904242, 2773480762, 1359893119, 2600822924, 528734635, 1541459225⟩
theorem startS_l : startS.l = startL := rfl
/-- The state behind so many pieces. -/
def sumS (bs : List UInt8) : Nat → St
  | 0 => startS
  | k + 1 => turn (byt (piece bs k)) (sumS bs k)
/-- The j-th byte of a state. -/
def dgB (s : St) (j : Nat) : UInt8 := UInt8.ofNat (s.at (j / 4) / 2 ^ (24 - 8 * (j % 4)) % 256).toNat
theorem vb_dgB (s : St) (j : Nat) : vb (dgB s j) = .int .u8 (s.at (j / 4) / 2 ^ (24 - 8 * (j % 4)) % 256) := by
  unfold vb dgB
  have h1 := Int.emod_nonneg (s.at (j / 4) / 2 ^ (24 - 8 * (j % 4))) (show (256 : Int) ≠ 0 by omega)
  have h2 := Int.emod_lt_of_pos (s.at (j / 4) / 2 ^ (24 - 8 * (j % 4))) (show (0 : Int) < 256 by omega)
  generalize s.at (j / 4) / 2 ^ (24 - 8 * (j % 4)) % 256 = y at *
  obtain ⟨n, rfl⟩ := Int.eq_ofNat_of_zero_le h1
  have : n < 256 := by omega
  simp
  omega
/-- The digest. -/
def digest (bs : List UInt8) : List UInt8 := (List.range 32).map (dgB (sumS bs (many bs.length)))
theorem digest_length (bs : List UInt8) : (digest bs).length = 32 := by simp [digest]
def dgCells (s : St) (n : Nat) : List Value := (List.range 32).map fun j => if j < n then vb (dgB s j) else .int .u8 0
theorem dgCells_length (s : St) (n : Nat) : (dgCells s n).length = 32 := by simp [dgCells]
theorem dgCells_step (s : St) (n : Nat) : (dgCells s n).set n (vb (dgB s n)) = dgCells s (n + 1) := by
  apply List.ext_getElem
  · simp [dgCells]
  · intro i h1 h2
    simp only [List.getElem_set, dgCells, List.getElem_map, List.getElem_range]
    by_cases e : n = i
    · subst e; simp
    · rw [if_neg e]
      by_cases h : i < n
      · rw [if_pos h, if_pos (by omega)]
      · rw [if_neg h, if_neg (by omega)]
theorem dgCells_zero (s : St) : dgCells s 0 = List.replicate 32 (.int .u8 0) := rfl
theorem dgCells_all (bs : List UInt8) : dgCells (sumS bs (many bs.length)) 32 = (digest bs).map vb := by
  apply List.ext_getElem
  · simp [dgCells, digest]
  · intro i h1 h2
    have : i < 32 := by simpa [dgCells] using h1
    simp [dgCells, digest, this]
theorem oneCell_dg (s : St) (n : Nat) : ∀ u ∈ dgCells s n, u.oneCell' = true := by
  intro u hu
  obtain ⟨j, _, rfl⟩ := List.mem_map.1 hu
  split <;> rfl
theorem dgCells_get (s : St) (n : Nat) {j : Nat} (hj : j < 32) : ∃ u, (dgCells s n)[j]? = some u := ⟨_, by simp [dgCells, hj]; rfl⟩

def SumPost (w : World) (bs : List UInt8) (e : Ending) (w' : World) : Prop := e = .returned (.agg ((digest bs).map vb).toArray) ∧ Keep noBlk w w'

def zero32 : Value := .agg (Array.replicate 32 (.int .u8 0))
theorem zeroID (w : World) : (zeroValue 32).run Tryz.prog w = .ok zero32 w := by kernel_rfl
theorem sizeID : (Tryz.prog.info? 32).map (·.size) = some 32 := by kernel_rfl

/-- What the rounds over the pieces keep up. -/
structure SR (T : TypeId) (w wr : World) (bs : List UInt8) (v : Value) (ps : List Value) (base b3 k : Nat) : Prop where
  st : wr.heap[b3]? = some (.cells ((sumS bs k).l.map vW).toArray T (0, 0))
  res : wr.heap[w.heap.size]? = some (.cells (Array.replicate 32 (.int .u8 0)) 32 (0, 0))
  own : wr.ownsRow base 51 1 v (many bs.length) ps
  pcs : PcsAre wr base bs (List.range (many bs.length)) ps
  keep : Keep noBlk w wr
  lt : w.heap.size < b3
  typ : T ≠ 5 ∧ T ≠ 51 ∧ T ≠ 32

theorem SR.same {T : TypeId} {w wr w2 : World} {bs : List UInt8} {v : Value} {ps : List Value} {base b3 k : Nat} (h : SR T w wr bs v ps base b3 k) (hk : Keep noBlk wr w2) : SR T w w2 bs v ps base b3 k :=
  ⟨hk.blk h.st id, hk.blk h.res id, hk.owns h.own fun _ _ => id, h.pcs.keep hk fun _ _ _ => id, h.keep.trans hk, h.lt, h.typ⟩
theorem SR.turn {T : TypeId} {w wr w2 w3 : World} {bs : List UInt8} {v : Value} {ps : List Value} {base b3 k : Nat} (h : SR T w wr bs v ps base b3 k) (hk : Keep noBlk wr w2)
    (hst : w3.heap[b3]? = some (.cells (spl ((sumS bs k).l.map vW).toArray 0 ((turn (byt (piece bs k)) (sumS bs k)).l.map vW)) T (0, 0))) (hk3 : Keep (fun i => i = b3) w2 w3) : Hid (SR T w w3 bs v ps base b3 (k + 1)) := by
  have h2 := h.same hk
  have lt := h.lt
  refine Lib.hid ⟨?_, hk3.blk h2.res (by omega), hk3.owns h2.own (fun i hi e => ?_), h2.pcs.keep hk3 (fun i cur hc e => ?_), h2.keep.trans' hk3 (fun _ _ h => h) (fun i hi e => by omega), h.lt, h.typ⟩
  · rw [spl_whole _ _ (by simp [St.l])] at hst; exact hst
  · subst e
    obtain ⟨cur, hc⟩ := owns_block h2.own hi
    rw [h2.st] at hc
    cases hc
    exact h.typ.2.1 rfl
  · subst e
    rw [h2.st] at hc
    cases hc
    exact h.typ.1 rfl

/-- The k-th piece. -/
theorem SR.piece {T : TypeId} {w wr : World} {bs : List UInt8} {v : Value} {ps : List Value} {base b3 k : Nat} (h : SR T w wr bs v ps base b3 k) (hk : k < many bs.length) :
    ∃ ap cp g cap, v = .slice (some ⟨g, 0, none⟩) (many bs.length) cap ∧ wr.cell? ⟨g, k, none⟩ = some (.slice ap 64 cp) ∧ Rd wr 1 (.slice ap 64 cp) 64 ((piece bs k).map vb) := by
  have hl : ps.length = many bs.length := by rw [h.pcs.1]; simp
  obtain ⟨p, hp⟩ : ∃ p, ps[k]? = some p := ⟨ps[k], by simp [hl, hk]⟩
  obtain ⟨x, hx, ho⟩ := h.pcs.2 k p hp
  have : x = k := by rw [List.getElem?_range hk] at hx; exact (Option.some.inj hx).symm
  subst this
  rw [Nat.mod_eq_of_lt hk] at ho
  obtain ⟨ap, cp, rfl, -, -⟩ := (Rd.of_owns ho).form
  rcases h.own.2 with ⟨-, h0⟩ | ⟨g, cap, cur, rfl, -⟩
  · omega
  · refine ⟨ap, cp, g, cap, rfl, ?_, Rd.of_owns ho⟩
    have := h.own.cells (g := g) rfl x _ hp
    rwa [add_lit, Nat.zero_add] at this

/-- The bytes of the digest, as they come. -/
structure DR (T : TypeId) (w wr : World) (s : St) (b3 b6 n : Nat) : Prop where
  st : wr.heap[b3]? = some (.cells (s.l.map vW).toArray T (0, 0))
  res : wr.heap[w.heap.size]? = some (.cells (Array.replicate 32 (.int .u8 0)) 32 (0, 0))
  out : wr.heap[b6]? = some (.cells (dgCells s n).toArray 32 (0, 0))
  keep : Keep noBlk w wr
  l3 : w.heap.size < b3
  l6 : b3 < b6
theorem DR.step {T : TypeId} {w wr : World} {s : St} {b3 b6 n : Nat} (h : DR T w wr s b3 b6 n) {x : Value} (hx : x = vb (dgB s n)) : Hid (DR T w (wr.setCell ⟨b6, n, none⟩ x) s b3 b6 (n + 1)) := by
  subst hx
  have l3 := h.l3
  have l6 := h.l6
  have K : Keep (fun k => k = b6) wr (wr.setCell ⟨b6, n, none⟩ (vb (dgB s n))) := Keep.setCell (S := fun k => k = b6) (p := ⟨b6, n, none⟩) (Keep.refl _ _) (fun _ => rfl) _
  refine Lib.hid ⟨K.blk h.st (by omega), K.blk h.res (by omega), ?_, h.keep.trans' K (fun _ _ h => h) (fun i hi e => by omega), l3, l6⟩
  have := set_blk h.out n (vb (dgB s n))
  rw [List.setIfInBounds_toArray, dgCells_step] at this
  exact this

theorem idx8 (S : St) (j : Nat) (hj : j < 8) : ∀ w : World, Sem.run Tryz.prog (Instr.index 126 (.agg (S.l.map vW).toArray) (.int .i64 (j : Int))) w = .ok (vW (S.at j)) w := by
  intro w
  have h : j = 0 ∨ j = 1 ∨ j = 2 ∨ j = 3 ∨ j = 4 ∨ j = 5 ∨ j = 6 ∨ j = 7 := by omega
  rcases h with rfl | rfl | rfl | rfl | rfl | rfl | rfl | rfl <;> (show _ = _; kernel_rfl)
theorem DR.free {T : TypeId} {w wr : World} {s : St} {b3 b6 n : Nat} (h : DR T w wr s b3 b6 n) (hn : n < 32) : (∃ u, wr.cell? ⟨b6, n, none⟩ = some u) ∧ wr.frozen? ⟨b6, n, none⟩ = false := by
  obtain ⟨u, hu⟩ := dgCells_get s n hn
  exact ⟨⟨u, blk_cell h.out (by simpa using hu)⟩, blk_free h.out n⟩

set_option maxHeartbeats 4000000 in
theorem sum_any (bv : Value) (bs : List UInt8) (w : World) (hr : Rd w 1 bv bs.length (bs.map vb)) (hb : bs.length ≤ 140737488350208) :
    Calls Tryz.prog 55 #[bv] w (SumPost w bs) := by
  obtain ⟨a, c, rfl, -, -⟩ := hr.form
  have HR := Lib.hid hr; clear hr
  go_enter Tryz.func55, Tryz.ntmps55
  go_wp2_with (first
    | (refine wpList_alloc_at rfl 32 rfl zero32 zeroID (Array.replicate 32 (.int .u8 0)) rfl ?_))
  refine (start_any _).mono ?_
  rintro e w1 ⟨rfl, hk1⟩
  have hvs : ∃ vs, startL.map vW = vs ∧ vs.length = 8 := ⟨_, rfl, rfl⟩
  obtain ⟨vs, hvs, hlen⟩ := hvs
  rw [hvs]
  have hone : ∀ u ∈ vs, u.oneCell' = true := by rw [← hvs]; exact oneCell_vW _
  have HVS := Lib.hid hvs; have HK1 := Lib.hid hk1
  clear hvs hk1
  have hlt : w.heap.size < w1.heap.size := by have := HK1.out.size; simp at this; omega
  go_wp2_with (first
    | (refine wpList_alloc_at rfl 126 rfl zero8 zeroState (Array.replicate 8 (.int .u32 0)) rfl ?_)
    | (with_reducible show wpList _ _ _ (⟨none, .store 126 (.tmp 3) (.tmp 10), _, _, _, _⟩ :: _) _ _; refine wpList_store_agg rfl 126 (.tmp 3) (.tmp 10) rfl w1.heap.size 0 vs rfl rfl _ _ (heap_alloc_new _ _) (by rw [hlen]; decide) (by rw [hlen]; exact sizeState) hone ?_; intro w2 hb2 hk2; have HB2 := Lib.hid hb2; have HK2 := Lib.hid hk2; clear hb2 hk2))
  have hkw : Keep noBlk w w2 := (((Keep.refl noBlk w).alloc _).trans HK1.out |>.alloc _).trans' HK2.out (fun _ _ h => h) (fun i hi e => by omega)
  have HKW := Lib.hid hkw; clear hkw
  refine (fill_any _ bs w2 (HR.out.keep HKW.out fun _ _ => id) hb).mono ?_
  rintro e w3 ⟨v, ps, rfl, hown, hpcs, hk3⟩
  have R0 : Hid (SR 126 w w3 bs v ps w2.heap.size w1.heap.size 0) := by
    refine Lib.hid ⟨?_, hk3.blk (HK2.out.blk (((HK1.out.alloc _).blk (heap_alloc_new _ _) id)) (by omega)) id, hown, hpcs, HKW.out.trans hk3, hlt, by decide⟩
    have := HB2.out
    rw [spl_whole _ _ (by rw [hlen]; rfl), ← HVS.out] at this
    exact hk3.blk this id
  obtain ⟨av, cv, rfl, -, -⟩ := (Rd.of_owns hown).form
  clear hown hpcs hk3 HB2 HK2 HKW HK1 HVS
  have hm := many_eq bs.length
  have hp := padN_lt bs.length
  obtain ⟨M, hM⟩ : ∃ M, M = many bs.length := ⟨_, rfl⟩
  rw [← hM] at hm R0 ⊢
  have HM := Lib.hid hM; clear hM
  go_wp2_with fail
  go_loopw [14] (fun i wr => ∃ k : Nat, k ≤ M ∧ i = .int .i64 k ∧ Hid (SR 126 w wr bs (.slice av M cv) ps w2.heap.size w1.heap.size k)) (fun i _ => M - (intOf i).toNat)
  case atStart => exact ⟨0, by omega, rfl, R0⟩
  case round =>
    clear R0
    obtain ⟨k, hk, rfl, hR⟩ := hrel
    by_cases hk2 : k < M
    · obtain ⟨ap, cp, g, cap, hv, c0, hrd⟩ := hR.out.piece (by rw [← HM.out]; exact hk2)
      rw [← HM.out] at hv
      cases hv
      have hb0 : (0 : Int) ≤ (k : Int) := by omega
      have hb1 : (k : Int) < (M : Int) := by omega
      have HP := Lib.hid hrd; clear hrd
      obtain ⟨us, hus⟩ : ∃ us, (sumS bs k).l.map vW = us := ⟨_, rfl⟩
      have hul : us.length = 8 := by rw [← hus]; rfl
      have HUS := Lib.hid hus; clear hus
      go_wp2_with (first
        | (with_reducible show wpList _ _ _ (⟨some 18, .load 126 (.tmp 3), _, _, _, _⟩ :: _) _ _; refine wpList_load_mid rfl 126 (.tmp 3) rfl w1.heap.size 0 rfl us _ (rangeAt_whole (by rw [← HUS.out]; exact hR.out.st)) Tryz.underlying126 rfl (by rw [hul]; exact sizeState) ?_))
      rw [← HUS.out]
      refine (turned_any (sumS bs k) _ (piece bs k) _ (piece_length bs k (by rw [← HM.out]; exact hk2)) HP.out).mono ?_
      rintro e w4 ⟨rfl, hk4⟩
      obtain ⟨ts, hts⟩ : ∃ ts, (turn (byt (piece bs k)) (sumS bs k)).l.map vW = ts := ⟨_, rfl⟩
      have htl : ts.length = 8 := by rw [← hts]; rfl
      have hto : ∀ u ∈ ts, u.oneCell' = true := by rw [← hts]; exact oneCell_vW _
      rw [hts]
      have HTS := Lib.hid hts; have HK4 := Lib.hid hk4
      clear hts hk4
      go_wp2_with (first
        | (with_reducible show wpList _ _ _ (⟨none, .store 126 (.tmp 3) (.tmp 20), _, _, _, _⟩ :: _) _ _; refine wpList_store_agg rfl 126 (.tmp 3) (.tmp 20) rfl w1.heap.size 0 ts rfl rfl _ _ (HK4.out.blk hR.out.st id) (by rw [htl]; simp [St.l]) (by rw [htl]; exact sizeState) hto ?_; intro w5 hb5 hk5; rw [← HTS.out] at hb5; have hR2 := hR.out.turn HK4.out hb5 hk5; clear hb5 hk5))
      go_roundw
      case rel => exact ⟨k + 1, by omega, by go_num, hR2⟩
      case measure => simp [intOf]; omega
    · obtain rfl : k = M := by omega
      obtain ⟨S, hS⟩ : ∃ S, sumS bs k = S := ⟨_, rfl⟩
      have D0 : Hid (DR 126 w (wr.alloc (.cells (Array.replicate 32 (.int .u8 0)) 32)) S w1.heap.size wr.heap.size 0) := by
        have h := hR.out
        have K : Keep noBlk wr (wr.alloc (.cells (Array.replicate 32 (.int .u8 0)) 32)) := (Keep.refl _ _).alloc _
        exact Lib.hid ⟨by rw [← hS]; exact K.blk h.st id, K.blk h.res id, heap_alloc_new _ _, h.keep.trans K, h.lt, lt_of_block h.st⟩
      have HSd := Lib.hid hS
      clear hS hR
      have hul : (S.l.map vW).length = 8 := rfl
      go_wp2_with (first
        | (refine wpList_alloc_at rfl 32 rfl zero32 zeroID (Array.replicate 32 (.int .u8 0)) rfl ?_)
        | (with_reducible show wpList _ _ _ (⟨some 22, .load 126 (.tmp 3), _, _, _, _⟩ :: _) _ _; refine wpList_load_mid rfl 126 (.tmp 3) rfl w1.heap.size 0 rfl (S.l.map vW) _ (rangeAt_whole D0.out.st) Tryz.underlying126 rfl (by rw [hul]; exact sizeState) ?_))
      generalize wr.alloc (.cells (Array.replicate 32 (.int .u8 0)) 32) = w0 at *
      generalize wr.heap.size = b6 at *
      go_loopw [23] (fun i wr => ∃ j : Nat, j ≤ 8 ∧ i = .int .i64 j ∧ Hid (DR 126 w wr S w1.heap.size b6 (4 * j))) (fun i _ => 8 - (intOf i).toNat)
      case atStart => exact ⟨0, by omega, rfl, D0⟩
      case round =>
        clear D0
        obtain ⟨j, hj, rfl, hD⟩ := hrel
        by_cases hj8 : j < 8
        · have hx : (S.l.map vW).toArray[j]? = some (vW (S.at j)) := by simp [S.at_get j hj8]
          have hj0 : (0 : Int) ≤ (j : Int) := by omega
          have hj1 : (j : Int) < 8 := by omega
          have hix := idx8 S j hj8
          obtain ⟨x, hx⟩ : ∃ x, S.at j = x := ⟨_, rfl⟩
          simp only [hx, show vW x = .int .u32 x from rfl] at hix
          have HX := Lib.hid hx; clear hx
          go_wp2_with fail
          obtain ⟨wo, rfl⟩ : ∃ wo : World, wo = wr := ⟨_, rfl⟩
          go_loopw [27] (fun i wr => ∃ k : Nat, k ≤ 4 ∧ i = .int .i64 k ∧ Hid (DR 126 w wr S w1.heap.size b6 (4 * j + k))) (fun i _ => 4 - (intOf i).toNat)
          case atStart => exact ⟨0, by omega, rfl, hD⟩
          case round =>
            clear hD
            obtain ⟨q, hq, rfl, hD⟩ := hrel
            by_cases hq4 : q < 4
            · obtain ⟨⟨u, hcu⟩, hfu⟩ := hD.out.free (show 4 * j + q < 32 by omega)
              have hq0 : (0 : Int) ≤ (q : Int) := by omega
              have hq1 : (q : Int) < 4 := by omega
              have HV := Lib.hid (show (Value.int .u8 (x / 2 ^ (24 - 8 * q) % 256)) = vb (dgB S (4 * j + q)) by rw [vb_dgB, ← HX.out, show (4 * j + q) / 4 = j by omega, show (4 * j + q) % 4 = q by omega])
              have hD2 := hD.out.step HV.out
              go_wp2_with fail
              refine ⟨⟨q + 1, by omega, by go_num, hD2⟩, ?_⟩
              simp [intOf]; omega
            · obtain rfl : q = 4 := by omega
              go_wp2_with fail
              go_roundw
              case rel => exact ⟨j + 1, by omega, by go_num, by rw [show 4 * (j + 1) = 4 * j + 4 by omega]; exact hD⟩
              case measure => simp [intOf]; omega
        · obtain rfl : j = 8 := by omega
          obtain ⟨ds, hds⟩ : ∃ ds, (digest bs).map vb = ds := ⟨_, rfl⟩
          have hdl : ds.length = 32 := by rw [← hds]; simp [digest_length]
          have hdo : ∀ u ∈ ds, u.oneCell' = true := by rw [← hds]; exact oneCell_vb _
          have hout : wr.heap[b6]? = some (.cells ds.toArray 32 (0, 0)) := by
            have := hD.out.out
            rw [← hds, ← dgCells_all, ← HM.out, HSd.out]
            exact this
          have HDS := Lib.hid hds; have HOUT := Lib.hid hout
          clear hds hout
          go_wp2_with (first
            | (with_reducible show wpList _ _ _ (⟨some 43, .load 32 (.tmp 6), _, _, _, _⟩ :: _) _ _; refine wpList_load_mid rfl 32 (.tmp 6) rfl b6 0 rfl ds _ (rangeAt_whole HOUT.out) Tryz.underlying32 rfl (by rw [hdl]; exact sizeID) ?_)
            | (with_reducible show wpList _ _ _ (⟨none, .store 32 (.tmp 2) (.tmp 43), _, _, _, _⟩ :: _) _ _; refine wpList_store_agg rfl 32 (.tmp 2) (.tmp 43) rfl w.heap.size 0 ds rfl rfl _ _ hD.out.res (by rw [hdl]; simp) (by rw [hdl]; exact sizeID) hdo ?_; intro w5 hb5 hk5; have HB5 := Lib.hid hb5; have HK5 := Lib.hid hk5; clear hb5 hk5))
          refine bodyPost_ret (results_cell_row rfl _ _ w.heap.size _ _ _ _ rfl HB5.out Tryz.underlying32 rfl (by rw [spl_size]; simp [sizeID])) rfl ⟨?_, ?_⟩
          · rw [spl_whole _ _ (by rw [hdl]; simp), HDS.out]
          · exact hD.out.keep.trans' HK5.out (fun _ _ h => h) (fun i hi e => by omega)
end Go.Proofs.YtaiicjhnhbkgmaaGreatDoor

/-
  The filling up of bytes to pieces: the reference's Fill.
  Conditions: the bounds on sizes that each theorem names.
-/
namespace Go.Proofs.YtaiicjhnhbkgmaaGreatDoor
open Go.RowKit
set_option maxRecDepth 100000

/-- What the rounds over the pieces keep up. -/
structure RF (w wr : World) (bs : List UInt8) (all v : Value) (ps : List Value) (k : Nat) : Prop where
  own : wr.ownsRow w.heap.size 51 1 v k ps
  pcs : PcsAre wr w.heap.size bs (List.range k) ps
  all : wr.ownsRow w.heap.size 5 1 all (64 * many bs.length) ((filled bs).map vb)
  keep : Keep noBlk w wr

theorem RF.pc {w wr : World} {bs : List UInt8} {v : Value} {ps : List Value} {k g cap c2 : Nat} (h : RF w wr bs (.slice (some ⟨g, 0, none⟩) (64 * many bs.length) cap) v ps k) (hk : k < many bs.length) (hc2 : c2 = cap - 64 * k) (hcap : 64 * many bs.length ≤ cap) (hm : cap ≤ maxLen) :
    Rd wr 1 (.slice (some ⟨g, 64 * k, none⟩) 64 c2) 64 ((piece bs k).map vb) := by
  subst hc2
  refine ⟨by simp [piece_length bs k hk], _, _, rfl, by omega, by omega, (by intro h; cases h), fun _ => ⟨g, _, rfl, fun i u hu => ?_⟩⟩
  have hi : i < 64 := by
    have := (List.getElem?_eq_some_iff.1 hu).1
    simpa [piece_length bs k hk] using this
  rw [List.getElem?_map, piece_get _ _ _ hi, ← List.getElem?_map] at hu
  have := h.all.cells (g := g) rfl _ _ hu
  rwa [add_lit, Nat.zero_add] at this

theorem RF.step {w wr wp wr2 : World} {bs : List UInt8} {all v v' p : Value} {ps : List Value} {k : Nat} (h : RF w wr bs all v ps k) (hk : k < many bs.length)
    (hp : wp.ownsRow w.heap.size 5 1 p (0 + 64) ([] ++ (piece bs k).map vb)) {o : Obj} {z : Value} (hz : z.ownBlock = some wr.heap.size) (hkp : Keep (fun k => z.ownBlock = some k) (wr.alloc o) wp)
    (hr : wr2.ownsRow w.heap.size 51 1 v' (k + 1) (ps ++ [p])) (hkr : Keep (fun k => v.ownBlock = some k) (wp.alloc (.cells #[p] 51)) wr2) : Hid (RF w wr2 bs all v' (ps ++ [p]) (k + 1)) := by
  have k1 : Keep noBlk wr wp := ((Keep.refl noBlk wr).alloc o).trans' hkp (fun _ _ h => h) (fun i hi e => by rw [hz] at e; cases e; omega)
  have k2 : Keep noBlk wr (wp.alloc (.cells #[p] 51)) := k1.alloc _
  have hv := k2.owns h.own fun _ _ => id
  have no : ∀ i cur, (wp.alloc (.cells #[p] 51)).heap[i]? = some (.cells cur 5 (0, 0)) → ¬ v.ownBlock = some i := fun i cur hc e => by
    obtain ⟨c2, h2⟩ := owns_block hv e
    rw [hc] at h2
    cases h2
  refine Lib.hid ⟨hr, ?_, ?_, (h.keep.trans k2).trans' hkr (fun _ _ h => h) (fun i hi e => by have := (h.own.lt i e).1; omega)⟩
  · rw [List.range_succ]
    refine PcsAre.keep (w := wp.alloc (.cells #[p] 51)) ?_ hkr no
    refine PcsAre.keep (w := wp) (S := noBlk) ?_ ((Keep.refl _ _).alloc _) (fun _ _ _ => id)
    exact (h.pcs.keep k1 fun _ _ _ => id).snoc k p (by rw [Nat.mod_eq_of_lt hk]; simpa using hp)
  · have ha := k2.owns h.all fun _ _ => id
    exact hkr.owns ha fun i hi => by obtain ⟨cur, hc⟩ := owns_block ha hi; exact no i cur hc

set_option maxHeartbeats 4000000 in
theorem rfill_any (bv : Value) (bs : List UInt8) (w : World) (hr : Rd w 1 bv bs.length (bs.map vb)) (hb : bs.length ≤ 140737488350208) :
    Calls Tryz.prog 118 #[bv] w (FillPost w bs) := by
  obtain ⟨a, c, rfl, -, -⟩ := hr.form
  have K : Keep noBlk w (w.alloc (.cells #[] 5)) := (Keep.refl _ _).alloc _
  have HR := Lib.hid (hr.keep K fun _ _ => id)
  have HK := Lib.hid K
  clear hr K
  have H128 := Lib.hid (show (Value.int .u8 128) = vb 128 from rfl)
  have H0 := Lib.hid (show (Value.int .u8 0) = vb 0 from rfl)
  have hone : ∀ k : Int, ∀ u ∈ [Value.int .u8 k], u.oneCell' = true := by simp [Value.oneCell']
  have HONE := Lib.hid hone; clear hone
  go_enter Tryz.func118, Tryz.ntmps118
  go_wp2_with (first
    | (at_builtin; refine wpList_append_rd rfl (.tmp 8) (.tmp 9) 51 rfl w.heap.size 5 _ 1 1 Tryz.underlying51 infoU8 rfl (by omega) _ 0 [] rfl (World.ownsRow_made w #[] 0 (Nat.le_refl _) (by unfold maxLen; omega) (by simp)) _ bs.length (bs.map vb) rfl HR.out (oneCell_vb _) (by unfold maxLen; omega) (by omega) (by simp) ?_; intro v' w2 hown2 hk2 hnil hat; rw [Nat.zero_add, List.nil_append] at hown2; obtain ⟨a3, c3, rfl, -, -⟩ := (Rd.of_owns hown2).form; have HO := Lib.hid hown2; have HK2 := Lib.hid (show Keep noBlk w w2 from HK.out.trans' hk2 (fun _ _ h => h) (fun i hi h => by have h' : w.heap.size = i := Option.some.inj h; omega)); clear hown2 hk2 hnil hat)
    | (at_builtin; refine wpList_append_rd rfl (.tmp 10) (.tmp 11) 51 rfl w.heap.size 5 _ 1 1 Tryz.underlying51 infoU8 rfl (by omega) _ bs.length _ rfl (HO.out.alloc _) _ 1 _ rfl (rd_one _ _ _) (HONE.out _) (by unfold maxLen; omega) (by omega) (by have := HK2.out.size; simp; omega) ?_; intro v' w3 hown2 hk2 hnil hat; have R := push_rel H128.out rfl HO.out HK2.out hown2 hk2; obtain ⟨a3, c3, rfl, -, -⟩ := (Rd.of_owns hown2).form; clear hown2 hk2 hnil hat HO HK2))
  obtain ⟨HO, HK⟩ := R
  go_loopw [3] (fun v wr => ∃ k N : Nat, k ≤ padN bs.length ∧ N = bs.length + 1 + k ∧ (∃ a c, v = .slice a N c) ∧ Hid (wr.ownsRow w.heap.size 5 1 v N ((bs ++ [128] ++ List.replicate k 0).map vb)) ∧ Hid (Keep noBlk w wr)) (fun v _ => bs.length + 1 + padN bs.length - vlen v)
  case atStart => exact ⟨0, _, by omega, rfl, ⟨_, _, rfl⟩, by simpa using HO, HK⟩
  case round =>
    clear HO HK
    obtain ⟨k, N, hk, hN, ⟨a4, c4, rfl⟩, HO, HK⟩ := hrel
    have hp := padN_lt bs.length
    have hNb : N ≤ 140737488350400 := by omega
    have HN0 := Lib.hid hN
    by_cases hlt : k < padN bs.length
    · have hmod : ((N : Int) % 64) ≠ 56 := by
        have := padN_step bs.length k hk
        rw [← hN] at this
        omega
      have hsz : w.heap.size ≤ (wr.alloc (.cells #[.int .u8 0] 5)).heap.size := by have := HK.out.size; simp; omega
      have HS := Lib.hid hsz; clear hsz
      have hml : N + 1 ≤ maxLen := by unfold maxLen; omega
      have HML := Lib.hid hml; clear hml
      have HN := Lib.hid (show N = (bs ++ [128] ++ List.replicate k 0).length by simp [hN]; omega)
      clear hN
      go_wp2_with (at_builtin; refine wpList_append_rd rfl (.tmp 17) (.tmp 18) 51 rfl w.heap.size 5 _ 1 1 Tryz.underlying51 infoU8 rfl (by omega) _ N _ rfl (HO.out.alloc _) _ 1 _ rfl (rd_one _ _ _) (HONE.out _) HML.out (by omega) HS.out ?_; intro v' w2 hown2 hk2 hnil hat; have R := push_rel H0.out HN.out HO.out HK.out hown2 hk2; obtain ⟨a5, c5, rfl, -, -⟩ := (Rd.of_owns hown2).form; clear hown2 hk2 hnil hat HO HK HS HN)
      go_roundw
      case rel => exact ⟨k + 1, N + 1, by omega, by rw [HN0.out]; omega, ⟨_, _, rfl⟩, by rw [List.replicate_succ', ← List.append_assoc]; exact R.1, R.2⟩
      case measure => have := HN0.out; simp [vlen]; omega
    · obtain rfl : k = padN bs.length := by omega
      have hmod : ((N : Int) % 64) = 56 := by
        have := padN_step bs.length _ hk
        rw [← hN] at this
        omega
      clear hN
      go_wp2_with fail
      obtain ⟨L, hL⟩ : ∃ L, L = bs ++ [128] ++ List.replicate (padN bs.length) 0 := ⟨_, rfl⟩
      rw [← hL] at HO
      have hNL : N = L.length := by rw [HN0.out, hL]; simp; omega
      obtain ⟨M, hM⟩ : ∃ M : Nat, M = 8 * bs.length := ⟨_, rfl⟩
      have hMi : 8 * (bs.length : Int) = (M : Int) := by omega
      rw [hMi]
      have hMb : M < 2251799813685248 := by omega
      have HL := Lib.hid hL; have HM := Lib.hid hM; have HNL := Lib.hid hNL
      clear hL hM hMi hNL hlt hk hmod
      obtain ⟨wo, rfl⟩ : ∃ wo : World, wo = wr := ⟨_, rfl⟩
      go_loopw [3, 5] (fun v i wr => ∃ k N1 : Nat, k ≤ 8 ∧ N1 = N + k ∧ i = .int .i64 (7 - (k : Int)) ∧ (∃ a c, v = .slice a N1 c) ∧ Hid (wr.ownsRow w.heap.size 5 1 v N1 ((L ++ (List.range k).map (beAt M 8)).map vb)) ∧ Hid (Keep noBlk w wr)) (fun _ i _ => (intOf i + 1).toNat)
      case atStart => exact ⟨0, N, by omega, rfl, rfl, ⟨_, _, rfl⟩, by simpa using HO, HK⟩
      case round =>
        clear HO HK
        obtain ⟨k, N1, hk, hN1, rfl, ⟨a5, c5, rfl⟩, HO, HK⟩ := hrel
        have hNb1 : N1 ≤ 140737488350500 := by omega
        have HN1 := Lib.hid hN1; clear hN1
        by_cases hlt : k < 8
        · obtain ⟨r, hr⟩ : ∃ r : Nat, r = 7 - k := ⟨_, rfl⟩
          have hri : (7 : Int) - (k : Int) = (r : Int) := by omega
          have hr7 : r ≤ 7 := by omega
          rw [hri]
          have HRR := Lib.hid hr; clear hri hr
          have hml : N1 + 1 ≤ maxLen := by unfold maxLen; omega
          have HML := Lib.hid hml; clear hml
          have HV := Lib.hid (show (Value.int .u8 ((M : Int) / 2 ^ (8 * r) % 256)) = vb (beAt M 8 k) by rw [vb_eq, beAt_toNat, HRR.out, show 8 * (8 - k - 1) = 8 * (7 - k) by omega])
          have HN := Lib.hid (show N1 = (L ++ (List.range k).map (beAt M 8)).length by rw [HN1.out, HNL.out]; simp)
          have hsz : w.heap.size ≤ (wr.alloc (.cells #[.int .u8 ((M : Int) / 2 ^ (8 * r) % 256)] 5)).heap.size := by have := HK.out.size; simp; omega
          have HS := Lib.hid hsz; clear hsz
          go_wp2_with (at_builtin; refine wpList_append_rd rfl (.tmp 27) (.tmp 33) 51 rfl w.heap.size 5 _ 1 1 Tryz.underlying51 infoU8 rfl (by omega) _ N1 _ rfl (HO.out.alloc _) _ 1 _ rfl (rd_one _ _ _) (HONE.out _) HML.out (by omega) HS.out ?_; intro v' w2 hown2 hk2 hnil hat; have R := push_rel HV.out HN.out HO.out HK.out hown2 hk2; obtain ⟨a6, c6, rfl, -, -⟩ := (Rd.of_owns hown2).form; clear hown2 hk2 hnil hat HO HK HS HN HV)
          go_roundw
          case rel => exact ⟨k + 1, N1 + 1, by omega, by rw [HN1.out]; omega, by have := HRR.out; congr 1; omega, ⟨_, _, rfl⟩, by rw [range_succ_map, ← List.append_assoc]; exact R.1, R.2⟩
          case measure => simp [intOf]
        · obtain rfl : k = 8 := by omega
          rw [show (7 : Int) - ((8 : Nat) : Int) = -1 from rfl]
          have HF : Hid (wr.ownsRow w.heap.size 5 1 (.slice a5 N1 c5) N1 ((filled bs).map vb)) := by
            refine Lib.hid ?_
            have := HO.out
            rw [HL.out, HM.out] at this
            exact this
          have hNF : N1 = 64 * many bs.length := by rw [← many_eq, HN1.out, HN0.out]
          clear HO HL HM HN1 HNL HN0 hlt hk
          have hmp := many_pos bs.length
          obtain ⟨g, cap, cur, hv, hgb, hgh, hgc, hgm, hgs, hgt⟩ : ∃ g cap cur, Value.slice a5 N1 c5 = .slice (some ⟨g, 0, none⟩) N1 cap ∧ w.heap.size ≤ g ∧ wr.heap[g]? = some (.cells cur 5 (0, 0)) ∧ N1 ≤ cap ∧ cap ≤ maxLen ∧ cur.size = cap * 1 ∧ cur.toList.take (N1 * 1) = (filled bs).map vb := by
            rcases HF.out.2 with ⟨h, h0⟩ | h
            · omega
            · exact h
          cases hv
          clear hgb hgh hgs hgt
          have hgm' : c5 ≤ 9223372036854775807 := hgm
          have HGM := Lib.hid hgm; clear hgm
          obtain ⟨m, hm⟩ : ∃ m, m = many bs.length := ⟨_, rfl⟩
          rw [← hm] at hNF hmp
          have R0 : Hid (RF w wr bs (.slice (some ⟨g, 0, none⟩) (64 * many bs.length) c5) (.slice none 0 0) [] 0) := Lib.hid ⟨World.ownsRow_nil _ _ _ _, ⟨rfl, fun i p h => by simp at h⟩, by have := HF.out; rw [hNF, hm] at this; exact this, HK.out⟩
          have HMM := Lib.hid hm; have HNF := Lib.hid hNF
          clear hm HF HK
          go_wp2_with fail
          obtain ⟨wo, rfl⟩ : ∃ wo : World, wo = wr := ⟨_, rfl⟩
          go_loopw [6, 7] (fun v i wr => ∃ k X : Nat, k ≤ m ∧ X = 64 * k ∧ i = .int .i64 (X : Int) ∧ ∃ a c ps, v = .slice a k c ∧ Hid (RF w wr bs (.slice (some ⟨g, 0, none⟩) (64 * many bs.length) c5) v ps k)) (fun _ i _ => 64 * m - (intOf i).toNat)
          case atStart => exact ⟨0, 0, by omega, rfl, rfl, _, _, _, rfl, R0⟩
          case round =>
            clear R0
            obtain ⟨k, X, hk, hX, rfl, av, cv, ps, rfl, hR⟩ := hrel
            have HX := Lib.hid hX
            by_cases hkm : k < m
            · have hX1 : X + 64 ≤ N1 := by omega
              have hX0 : (0 : Int) ≤ (X : Int) := by omega
              have hX2 : (X : Int) < (N1 : Int) := by omega
              have hX3 : (X : Int) + 64 ≤ (c5 : Int) := by omega
              have hX4 : (X : Int) ≤ (X : Int) + 64 := by omega
              have hml : k + 1 ≤ maxLen ∧ (k + 1) * 24 ≤ 140737488355328 := by unfold maxLen; omega
              have HML := Lib.hid hml; clear hml
              clear hX hNF
              have hpc : Rd (wr.alloc (.cells #[] 5)) 1 (.slice (some ⟨g, X, none⟩) 64 (c5 - X)) 64 ((piece bs k).map vb) := by
                have := hR.out.pc (by rw [← HMM.out]; exact hkm) (c2 := c5 - 64 * k) rfl (by rw [← HMM.out, ← HNF.out]; exact hgc) HGM.out
                rw [← HX.out] at this
                exact this.keep ((Keep.refl noBlk wr).alloc _) fun _ _ => id
              have HPC : Hid (Rd (wr.alloc (.cells #[] 5)) 1 (.slice (some ⟨g, X, none⟩) (X + 64 - X) (c5 - X)) 64 ((piece bs k).map vb)) := Lib.hid (by rw [show X + 64 - X = 64 by omega]; exact hpc)
              clear hpc
              have hwr : w.heap.size ≤ wr.heap.size := hR.out.keep.size
              have HWR := Lib.hid hwr; clear hwr
              go_wp2_with (first
                | (at_builtin; refine wpList_append_rd rfl (.tmp 42) (.tmp 47) 51 rfl w.heap.size 5 _ 1 1 Tryz.underlying51 infoU8 rfl (by omega) _ 0 [] rfl (World.ownsRow_made wr #[] 0 HWR.out (by unfold maxLen; omega) (by simp)) _ 64 _ rfl HPC.out (oneCell_vb _) (by unfold maxLen; omega) (by omega) (by have := HWR.out; simp; omega) ?_; intro v' wp hown2 hk2 hnil hat; rw [Nat.zero_add] at hown2; obtain ⟨a5, c6, rfl, -, -⟩ := (Rd.of_owns hown2).form; have HP := Lib.hid hown2; have HKP := Lib.hid hk2; have HK1 := Lib.hid (show Keep noBlk wr wp from ((Keep.refl noBlk wr).alloc _).trans' hk2 (fun _ _ h => h) (fun i hi h => by have h' : wr.heap.size = i := Option.some.inj h; omega)); clear hown2 hk2 hnil hat; have HOv := Lib.hid ((HK1.out.alloc (.cells #[.slice a5 64 c6] 51)).owns hR.out.own fun _ _ => id))
                | (at_builtin; refine wpList_append_rd rfl (.tmp 41) (.tmp 49) 41 rfl w.heap.size 51 _ 1 24 Tryz.underlying41 infoS8 rfl (by omega) _ k ps rfl HOv.out _ 1 _ rfl (rd_one _ _ _) (by simp [Value.oneCell']) HML.out.1 HML.out.2 (by have := HWR.out; have := HK1.out.size; simp; omega) ?_; intro v' w5 hown2 hk2 hnil hat; have R2 := hR.out.step (by rw [← HMM.out]; exact hkm) HP.out rfl HKP.out hown2 hk2; obtain ⟨a6, c7, rfl, -, -⟩ := (Rd.of_owns hown2).form; clear hown2 hk2 hnil hat HOv))
              go_roundw
              case rel => exact ⟨k + 1, X + 64, by omega, by rw [HX.out]; omega, by go_num, _, _, _, rfl, R2⟩
              case measure => have := HNF.out; simp [intOf]; omega
            · obtain rfl : k = m := by omega
              have hXN : X = N1 := by rw [hX, ← HNF.out]
              subst hXN
              clear hX
              go_wp2_with fail
              go_ret
              have h := hR.out
              rw [HMM.out] at h ⊢
              exact ⟨_, ps, rfl, h.own, h.pcs, h.keep⟩
end Go.Proofs.YtaiicjhnhbkgmaaGreatDoor
