/-
  The reference's reader (caulkerref01.Reader): Open, Raw and Num, where there is no fault and enough is left.
  Conditions: the bounds on sizes that each theorem names.
-/
import Derived.Test.YtpkpopgcfgonoaaGreatDoorReader1
import Derived.Test.YtpkpopgcfgonoaaGreatDoorRef01
import Derived.Deep.RegionHeld3
import Derived.Deep.AppendLies
namespace Go.Proofs.YtpkpopgcfgonoaaGreatDoor
open Go.RowKit
set_option maxRecDepth 100000

/-- The reference's reader at block p over bytes v, which read l. -/
structure RRd (w : World) (p : Nat) (v : Value) (l : List UInt8) (at_ : Nat) (fe fa : Int) : Prop where
  blk : w.heap[p]? = some (.cells #[v, .int .i64 at_, .int .i64 fe, .int .i64 fa] 106 (0, 0))
  rd : Rd w 1 v l.length (l.map vb)
  ne : v.ownBlock ≠ some p
  fit : at_ ≤ l.length
  max : l.length ≤ 65536
theorem RRd.cells {w : World} {p : Nat} {v : Value} {l : List UInt8} {at_ : Nat} {fe fa : Int} (h : RRd w p v l at_ fe fa) :
    w.cell? ⟨p, 0, none⟩ = some v ∧ w.cell? ⟨p, 1, none⟩ = some (.int .i64 at_) ∧ w.cell? ⟨p, 2, none⟩ = some (.int .i64 fe) ∧ w.cell? ⟨p, 3, none⟩ = some (.int .i64 fa) ∧ (∀ i, w.frozen? ⟨p, i, none⟩ = false) := by
  refine ⟨?_, ?_, ?_, ?_, fun i => frozen_of_row w p i _ _ h.blk⟩ <;> (rw [cell_of_row w p _ _ _ _ h.blk]; rfl)
theorem RRd.keep {w w' : World} {p : Nat} {v : Value} {l : List UInt8} {at_ : Nat} {fe fa : Int} (h : RRd w p v l at_ fe fa) {S : Nat → Prop} (k : Keep S w w') (hp : ¬ S p) (hv : ∀ g, v.ownBlock = some g → ¬ S g) : RRd w' p v l at_ fe fa :=
  ⟨k.blk h.blk hp, h.rd.keep k hv, h.ne, h.fit, h.max⟩
theorem RRd.setAt {w : World} {p : Nat} {v : Value} {l : List UInt8} {at_ : Nat} {fe fa : Int} (h : RRd w p v l at_ fe fa) (n : Nat) (hn : n ≤ l.length) : RRd (w.setCell ⟨p, 1, none⟩ (.int .i64 n)) p v l n fe fa :=
  ⟨by rw [set_blk h.blk]; rfl, h.rd.keep ((Keep.refl (fun k => k = p) w).setCell (fun _ => rfl) _) (fun k hk e => h.ne (by rw [hk, e])), h.ne, hn, h.max⟩

theorem rropen_any (bv : Value) (bs : List UInt8) (w : World) (hr : Rd w 1 bv bs.length (bs.map vb)) (hb : bs.length ≤ 65536) (hlt : ∀ g, bv.ownBlock = some g → g < w.heap.size) :
    Calls Tryz.prog 51 #[bv] w (fun e w' => e = .returned (.pointer (some ⟨w.heap.size, 0, none⟩)) ∧ RRd w' w.heap.size bv bs 0 0 0 ∧ Keep noBlk w w') := by
  have K : Keep noBlk w (w.alloc (.cells #[bv, .int .i64 0, .int .i64 0, .int .i64 0] 106)) := (Keep.refl _ _).alloc _
  have H : RRd (w.alloc (.cells #[bv, .int .i64 0, .int .i64 0, .int .i64 0] 106)) w.heap.size bv bs 0 0 0 :=
    ⟨heap_alloc_new _ _, hr.keep K fun _ _ => id, fun e => by have := hlt _ e; omega, Nat.zero_le _, hb⟩
  have HH := Lib.hid H; have HK := Lib.hid K
  obtain ⟨a, c, rfl, -, -⟩ := hr.form
  clear H K hr hlt
  go_enter Tryz.func51, Tryz.ntmps51
  go_wp2_with fail
  go_ret
  exact ⟨rfl, HH.out, HK.out⟩

set_option maxHeartbeats 400000 in
theorem rrsome_ok (w : World) (p : Nat) (v : Value) (l : List UInt8) (at_ : Nat) (fa : Int) (h : RRd w p v l at_ 0 fa) (n : Nat) (hn : at_ + n ≤ l.length) :
    Calls Tryz.prog 84 #[.pointer (some ⟨p, 0, none⟩), .int .i64 n] w (fun e w' => e = .returned (.bool true) ∧ Keep noBlk w w') := by
  obtain ⟨c0, c1, c2, c3, cf⟩ := h.cells
  obtain ⟨a, c, rfl, -, -⟩ := h.rd.form
  have hm := h.max
  clear h
  have e2 : IntKind.i64.wrap ((l.length : Int) - (at_ : Int)) = (l.length : Int) - (at_ : Int) := by rw [IntWalk.i64_in _ (by omega)]
  have t1 : decide ((l.length : Int) - (at_ : Int) < (n : Int)) = false := by simp; omega
  go_enter Tryz.func84, Tryz.ntmps84
  go_wp2_with fail
  go_quiet (fail)
  go_wp2_with fail
  go_ret
  exact ⟨rfl, (Keep.refl _ _).drewN _⟩

/-- What Raw tells. -/
def RRawPost (w : World) (p : Nat) (v : Value) (l : List UInt8) (at_ n : Nat) (fa : Int) (e : Ending) (w' : World) : Prop :=
  ∃ v', e = .returned v' ∧ w'.ownsRow w.heap.size 5 1 v' n (((l.drop at_).take n).map vb) ∧ RRd w' p v l (at_ + n) 0 fa ∧ Keep (fun k => k = p) w w'
set_option maxHeartbeats 1000000 in
theorem rrraw_ok (w : World) (p : Nat) (v : Value) (l : List UInt8) (at_ : Nat) (fa : Int) (h : RRd w p v l at_ 0 fa) (n : Nat) (h1 : 1 ≤ n) (hn : at_ + n ≤ l.length) :
    Calls Tryz.prog 52 #[.pointer (some ⟨p, 0, none⟩), .int .i64 n] w (RRawPost w p v l at_ n fa) := by
  have C := Lib.hid (rrsome_ok w p v l at_ fa h n hn)
  have hm := h.max
  obtain ⟨g, o, c, hv, hlc, hcm, hcells⟩ : ∃ g o c, v = .slice (some ⟨g, o, none⟩) l.length c ∧ l.length ≤ c ∧ c ≤ 9223372036854775807 ∧ ∀ i u, (l.map vb)[i]? = some u → w.cell? ⟨g, o + i, none⟩ = some u := by
    obtain ⟨h0, a, cap, rfl, h2, h3, h4, h5⟩ := h.rd
    obtain ⟨g, o, rfl, hc⟩ := h5 (by simp; omega)
    exact ⟨g, o, cap, rfl, h2, by unfold maxLen at h3; omega, hc⟩
  subst hv
  have HC := Lib.hid hcells
  have HH := Lib.hid h
  clear h hcells
  have hn0 : decide ((n : Int) < 0) = false := by simp
  have e1 : IntKind.i64.wrap ((at_ : Int) + (n : Int)) = (at_ : Int) + (n : Int) := by rw [IntWalk.i64_in _ (by omega)]
  go_enter Tryz.func52, Tryz.ntmps52
  go_wp2_with fail
  refine C.out.mono ?_
  rintro e w1 ⟨rfl, hk1⟩
  have h1' := HH.out.keep hk1 id (fun _ _ => id)
  obtain ⟨c0, c1, c2, c3, cf⟩ := h1'.cells
  obtain ⟨w2, hw2⟩ : ∃ w2, w1.setCell ⟨p, 1, none⟩ (.int .i64 ((at_ : Int) + (n : Int))) = w2 := ⟨_, rfl⟩
  have h2 : RRd w2 p (.slice (some ⟨g, o, none⟩) l.length c) l (at_ + n) 0 fa := by
    rw [← hw2]; have := h1'.setAt (at_ + n) hn; rwa [show (((at_ + n : Nat)) : Int) = (at_ : Int) + (n : Int) by simp] at this
  have K2 : Keep (fun k => k = p) w w2 := by rw [← hw2]; exact (show Keep (fun k => k = p) w w1 from hk1.any).setCell (p := ⟨p, 1, none⟩) (fun _ => rfl) _
  have H2 := Lib.hid h2; have HK2 := Lib.hid K2
  clear h1' hk1 h2 K2
  go_wp2_with fail
  clear hw2 c0 c1 c2 c3 cf
  obtain ⟨d0, d1, d2, d3, df⟩ := H2.out.cells
  rw [show (((at_ + n : Nat)) : Int) = (at_ : Int) + (n : Int) by simp] at d1
  have e3 : IntKind.i64.wrap ((at_ : Int) + (n : Int) - (n : Int)) = (at_ : Int) := by rw [IntWalk.i64_in _ (by omega)]; omega
  have e5 : IntKind.i64.wrap (at_ : Int) = (at_ : Int) := by rw [IntWalk.i64_in _ (by omega)]
  have e4 : ((at_ : Int) + (n : Int)).toNat = at_ + n := by omega
  have i2 : (0 : Int) ≤ (at_ : Int) + (n : Int) := by omega
  have i1 : (0 : Int) ≤ (at_ : Int) := by omega
  have i3 : (at_ : Int) ≤ (at_ : Int) + (n : Int) := by omega
  have i4 : (at_ : Int) + (n : Int) ≤ (c : Int) := by omega
  have i5 : at_ < c := by omega
  have i6 : at_ + n ≤ c := by omega
  have i7 : at_ ≤ at_ + n := by omega
  have i8 : ¬ c = at_ := by omega
  have hpl : p < w2.heap.size := lt_of_block H2.out.blk
  have D0 := Lib.hid (show ((w2.alloc (.cells #[] 5)).drew).cell? ⟨p, 0, none⟩ = some (.slice (some ⟨g, o, none⟩) l.length c) from (World.cell?_alloc_lt _ (a := ⟨p, 0, none⟩) _ hpl).trans d0)
  have D1 := Lib.hid (show ((w2.alloc (.cells #[] 5)).drew).cell? ⟨p, 1, none⟩ = some (.int .i64 ((at_ : Int) + (n : Int))) from (World.cell?_alloc_lt _ (a := ⟨p, 1, none⟩) _ hpl).trans d1)
  obtain ⟨i0, hi0, hz0, hz1, hz2⟩ := info_parts infoU8
  have hown := (World.ownsRow_made (base := w2.heap.size) (e := 5) (size := 1) w2 #[] 0 (Nat.le_refl _) (by unfold maxLen; omega) (by simp)).drew
  have hnews : ∀ j u, (((l.drop at_).take n).map vb)[j]? = some u → ((w2.alloc (.cells #[] 5)).drew).cell? ((⟨g, o + at_, none⟩ : Addr).add j) = some u := by
    intro j u hu
    obtain ⟨h0, a, cap, hv, -, -, -, h5⟩ := H2.out.rd
    cases hv
    obtain ⟨g', o', he, hc⟩ := h5 (by simp; omega)
    cases he
    rw [add_lit]
    refine Keep.cell (((Keep.refl noBlk w2).alloc _).drew) (S := noBlk) ?_ id
    rw [Nat.add_assoc]
    refine hc _ _ ?_
    rw [List.map_take, List.map_drop, List.getElem?_take] at hu
    split at hu
    · rwa [List.getElem?_drop] at hu
    · cases hu
  have HO := Lib.hid hown; have HN := Lib.hid hnews
  clear hown hnews
  have hll : (((l.drop at_).take n).map vb).length = n := by simp; omega
  obtain ⟨nw, hnw⟩ : ∃ nw, ((l.drop at_).take n).map vb = nw := ⟨_, rfl⟩
  have hon : ∀ u ∈ nw, u.oneCell' = true := by rw [← hnw]; exact oneCell_vb _
  rw [hnw] at HN hll
  have HNW := Lib.hid hnw; have HLL := Lib.hid hll
  clear hnw hll
  go_region_held3 (fun w' => w'.cell? ⟨p, 0, none⟩ = some (.slice (some ⟨g, o, none⟩) l.length c) ∧ w'.cell? ⟨p, 1, none⟩ = some (.int .i64 ((at_ : Int) + (n : Int))))
    (first
      | go_keep
      | (go_split_ands
         refine ⟨?_, ?_⟩
         · (rw [hgrow.cell_far _ (by simp; omega) (by intro e; have e' := Option.some.inj e; simp at e'; omega)]; exact D0.out)
         · (rw [hgrow.cell_far _ (by simp; omega) (by intro e; have e' := Option.some.inj e; simp at e'; omega)]; exact D1.out)))
    ((refine step_append_lies _ (by rfl) _ _ _ (by rfl) w2.heap.size 5 i0 _ 1 1 Tryz.underlying32 hi0 hz0 hz1 hz2 rfl (by omega) _ 0 [] (by rfl) HO.out ⟨g, o + at_, none⟩ n (c - at_) nw (by rfl) (by rw [HLL.out]; omega) HN.out hon (by omega) (by unfold maxLen; omega) (by omega) (by simp) (w2.heap.size + 1) (by simp) ?_; intro gg cap w3 hown3 hgrow hat hlt))
  have HO3 := Lib.hid hown3; have HG3 := Lib.hid hgrow
  clear hown3 hgrow
  go_wp2_with fail
  go_ret
  have K3 : Keep noBlk w2 w3 := (((Keep.refl noBlk w2).alloc _).drew).trans' (Keep.of_grown HG3.out) (fun _ _ h => h) (fun i hi e => by have e' := Option.some.inj e; simp at e'; omega)
  refine ⟨_, rfl, ?_, H2.out.keep K3 id (fun _ _ => id), HK2.out.trans' K3 (fun _ _ h => h) (fun _ _ h => h.elim)⟩
  rw [HNW.out]
  have := HO3.out
  rw [Nat.zero_add, List.nil_append] at this
  exact ownsRow_mono this HK2.out.size

/-- What Num tells. -/
def RRNumPost (w : World) (p : Nat) (v : Value) (l : List UInt8) (x : Int) (at_ n : Nat) (fa : Int) (e : Ending) (w' : World) : Prop :=
  e = .returned (.int .i64 x) ∧ RRd w' p v l (at_ + n) 0 fa ∧ Keep (fun k => k = p) w w'
set_option maxHeartbeats 1000000 in
theorem rrnum_ok (w : World) (p : Nat) (v : Value) (l : List UInt8) (at_ : Nat) (fa : Int) (h : RRd w p v l at_ 0 fa) (n : Nat) (low high : Int) (h1 : 1 ≤ n) (h6 : n ≤ 6) (hn : at_ + n ≤ l.length)
    (x : Nat) (hx : beN ((l.drop at_).take n) = x) (hlo : low ≤ (x : Int)) (hhi : (x : Int) ≤ high) :
    Calls Tryz.prog 53 #[.pointer (some ⟨p, 0, none⟩), .int .i64 n, .int .i64 low, .int .i64 high] w (RRNumPost w p v l x at_ n fa) := by
  have C := Lib.hid (rrsome_ok w p v l at_ fa h n hn)
  have CS := fun w => Lib.hid (rsize_any (n : Int) w)
  have hm := h.max
  have hlen : ((l.drop at_).take n).length = n := by simp; omega
  obtain ⟨g, o, c, hv, hlc, hcm, hcells⟩ : ∃ g o c, v = .slice (some ⟨g, o, none⟩) l.length c ∧ l.length ≤ c ∧ c ≤ 9223372036854775807 ∧ ∀ i u, (l.map vb)[i]? = some u → w.cell? ⟨g, o + i, none⟩ = some u := by
    obtain ⟨h0, a, cap, rfl, h2, h3, h4, h5⟩ := h.rd
    obtain ⟨g, o, rfl, hc⟩ := h5 (by simp; omega)
    exact ⟨g, o, cap, rfl, h2, by unfold maxLen at h3; omega, hc⟩
  subst hv
  obtain ⟨bs, hbs⟩ : ∃ bs, (l.drop at_).take n = bs := ⟨_, rfl⟩
  rw [hbs] at hx hlen
  have HC : Hid (∀ k, (hk : k < bs.length) → w.cell? ⟨g, o + (at_ + k), none⟩ = some (.int .u8 (bs[k].toNat : Int))) := Lib.hid (by
    intro k hk
    subst hbs
    refine hcells _ _ ?_
    simp at hk ⊢
    rw [List.getElem?_eq_getElem (by omega)]
    simp [vb])
  have HH := Lib.hid h; have HX := Lib.hid hx; have HL := Lib.hid hlen
  clear h hcells hx hlen hbs
  have hn0 : decide ((1 : Int) ≤ n) = true := by simp; omega
  have hn1 : decide ((n : Int) ≤ 7) = true := by simp; omega
  have e1 : IntKind.i64.wrap ((at_ : Int) + (n : Int)) = (at_ : Int) + (n : Int) := by rw [IntWalk.i64_in _ (by omega)]
  go_enter Tryz.func53, Tryz.ntmps53
  go_wp2_with fail
  refine (CS _).out.mono ?_
  rintro e w' ⟨rfl, rfl⟩
  rw [hn0, hn1]
  go_wp2_with fail
  refine C.out.mono ?_
  rintro e w1 ⟨rfl, hk1⟩
  have H1 := Lib.hid (HH.out.keep hk1 id (fun _ _ => id))
  have HK1 := Lib.hid hk1
  clear hk1
  go_wp2_with fail
  go_loopw [9, 10] (fun x i wr => ∃ k : Nat, k ≤ n ∧ i = .int .i64 k ∧ x = .int .i64 (beN (bs.take k) : Int) ∧ Hid (Keep noBlk w1 wr)) (fun _ i _ => n - (intOf i).toNat)
  case atStart => exact ⟨0, by omega, rfl, rfl, Lib.hid (Keep.refl _ _)⟩
  case round =>
    obtain ⟨k, hk, rfl, rfl, HK⟩ := hrel
    obtain ⟨c0, c1, c2, c3, cf⟩ := (H1.out.keep HK.out id (fun _ _ => id)).cells
    by_cases hkn : k < n
    · have hkl : k < bs.length := by rw [HL.out]; exact hkn
      have cc := (HK1.out.trans HK.out).cell (HC.out k hkl) id
      have hb := beN_le (bs.take k) (by simp; omega)
      have hs := beN_snoc (bs.take k) bs[k]
      have hc8 := bs[k].toNat_lt
      rw [← List.take_succ_eq_append_getElem hkl] at hs
      obtain ⟨q, hc⟩ : ∃ q, bs[k].toNat = q := ⟨_, rfl⟩
      rw [hc] at cc hs hc8
      obtain ⟨y, hX⟩ : ∃ y, beN (bs.take k) = y := ⟨_, rfl⟩
      rw [hX] at hs hb ⊢
      have HS := Lib.hid hs
      clear hs hX hc
      have hk0 : (0 : Int) ≤ (k : Int) := by omega
      have hk1 : (k : Int) < (n : Int) := by omega
      have s1 : IntKind.i64.wrap ((at_ : Int) + (k : Int)) = (at_ : Int) + (k : Int) := by rw [IntWalk.i64_in _ (by omega)]
      have s2 : IntKind.i64.wrap (256 * (y : Int)) = 256 * (y : Int) := by rw [IntWalk.i64_in _ (by omega)]
      have s3 : IntKind.i64.wrap (256 * (y : Int) + (q : Int)) = 256 * (y : Int) + (q : Int) := by rw [IntWalk.i64_in _ (by omega)]
      have s4 : IntKind.i64.wrap (q : Int) = (q : Int) := by rw [IntWalk.i64_in _ (by omega)]
      have s5 : ((at_ : Int) + (k : Int)).toNat = at_ + k := by omega
      have i1 : (0 : Int) ≤ (at_ : Int) + (k : Int) := by omega
      have i2 : (at_ : Int) + (k : Int) < (l.length : Int) := by omega
      go_wp2_with fail
      go_quiet (fail)
      go_wp2_with fail
      go_roundw
      case rel => exact ⟨k + 1, by omega, by go_num, by rw [HS.out]; simp; omega, Lib.hid (HK.out.drewN _)⟩
      case measure => simp [intOf]; omega
    · obtain rfl : k = n := by omega
      rw [List.take_of_length_le (by rw [HL.out]; exact Nat.le_refl _), HX.out]
      have t1 : decide ((x : Int) < low) = false := by simp; omega
      have t2 : decide (high < (x : Int)) = false := by simp; omega
      have hR := H1.out.keep HK.out id (fun _ _ => id)
      have hfin : RRNumPost w p (.slice (some ⟨g, o, none⟩) l.length c) l x at_ k fa (.returned (.int .i64 x)) (wr.setCell ⟨p, 1, none⟩ (.int .i64 ((at_ : Int) + (k : Int)))) := by
        refine ⟨rfl, ?_, (show Keep (fun k => k = p) w wr from (HK1.out.trans HK.out).any).setCell (p := ⟨p, 1, none⟩) (fun _ => rfl) _⟩
        have := hR.setAt (at_ + k) hn
        rwa [show (((at_ + k : Nat)) : Int) = (at_ : Int) + (k : Int) by simp] at this
      have HF := Lib.hid hfin
      clear hR hfin
      go_wp2_with fail
      go_ret
      exact HF.out
end Go.Proofs.YtpkpopgcfgonoaaGreatDoor
