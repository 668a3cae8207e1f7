/-
  The reference's reader (caulkerref01.Reader): Open, Raw and Num, where there is no fault and enough is left.
  Conditions: the bounds on sizes that each theorem names.
-/
import Derived.Test.YtaiicjhnhbkgmaaGreatDoorReader1
import Derived.Test.YtaiicjhnhbkgmaaGreatDoorRef01
import Derived.Deep.RegionHeld3
import Derived.Deep.AppendLies
import Derived.Test.YtaiicjhnhbkgmaaGreatDoorUnpackU
import Derived.Test.YtaiicjhnhbkgmaaGreatDoorRsum
namespace Go.Proofs.YtaiicjhnhbkgmaaGreatDoor
open Go.RowKit
set_option maxRecDepth 100000

/-- The reference's reader at block p over bytes v, which read l. -/
structure RRd (w : World) (p : Nat) (v : Value) (l : List UInt8) (at_ : Nat) (fe fa : Int) : Prop where
  blk : w.heap[p]? = some (.cells #[v, .int .i64 at_, .int .i64 fe, .int .i64 fa] 144 (0, 0))
  rd : Rd w 1 v l.length (l.map vb)
  ne : v.ownBlock ≠ some p
  fit : at_ ≤ l.length
  max : l.length ≤ 65536
theorem RRd.cells {w : World} {p : Nat} {v : Value} {l : List UInt8} {at_ : Nat} {fe fa : Int} (h : RRd w p v l at_ fe fa) :
    w.cell? ⟨p, 0, none⟩ = some v ∧ w.cell? ⟨p, 1, none⟩ = some (.int .i64 at_) ∧ w.cell? ⟨p, 2, none⟩ = some (.int .i64 fe) ∧ w.cell? ⟨p, 3, none⟩ = some (.int .i64 fa) ∧ (∀ i, w.frozen? ⟨p, i, none⟩ = false) := by
  refine ⟨?_, ?_, ?_, ?_, fun i => frozen_of_row w p i _ _ h.blk⟩ <;> (rw [cell_of_row w p _ _ _ _ h.blk]; rfl)
theorem RRd.keep {w w' : World} {p : Nat} {v : Value} {l : List UInt8} {at_ : Nat} {fe fa : Int} (h : RRd w p v l at_ fe fa) {S : Nat → Prop} (k : Keep S w w') (hp : ¬ S p) (hv : ∀ g, v.ownBlock = some g → ¬ S g) : RRd w' p v l at_ fe fa :=
  ⟨k.blk h.blk hp, h.rd.keep k hv, h.ne, h.fit, h.max⟩
theorem RRd.setAt {w : World} {p : Nat} {v : Value} {l : List UInt8} {at_ : Nat} {fe fa : Int} (h : RRd w p v l at_ fe fa) (n : Nat) (hn : n ≤ l.length) : RRd (w.setCell ⟨p, 1, none⟩ (.int .i64 n)) p v l n fe fa :=
  ⟨by rw [set_blk h.blk]; rfl, h.rd.keep ((Keep.refl (fun k => k = p) w).setCell (fun _ => rfl) _) (fun k hk e => h.ne (by rw [hk, e])), h.ne, hn, h.max⟩

theorem rropen_any (bv : Value) (bs : List UInt8) (w : World) (hr : Rd w 1 bv bs.length (bs.map vb)) (hb : bs.length ≤ 65536) (hlt : ∀ g, bv.ownBlock = some g → g < w.heap.size) :
    Calls Tryz.prog 76 #[bv] w (fun e w' => e = .returned (.pointer (some ⟨w.heap.size, 0, none⟩)) ∧ RRd w' w.heap.size bv bs 0 0 0 ∧ Keep noBlk w w') := by
  have K : Keep noBlk w (w.alloc (.cells #[bv, .int .i64 0, .int .i64 0, .int .i64 0] 144)) := (Keep.refl _ _).alloc _
  have H : RRd (w.alloc (.cells #[bv, .int .i64 0, .int .i64 0, .int .i64 0] 144)) w.heap.size bv bs 0 0 0 :=
    ⟨heap_alloc_new _ _, hr.keep K fun _ _ => id, fun e => by have := hlt _ e; omega, Nat.zero_le _, hb⟩
  have HH := Lib.hid H; have HK := Lib.hid K
  obtain ⟨a, c, rfl, -, -⟩ := hr.form
  clear H K hr hlt
  go_enter Tryz.func76, Tryz.ntmps76
  go_wp2_with fail
  go_ret
  exact ⟨rfl, HH.out, HK.out⟩

set_option maxHeartbeats 400000 in
theorem rrsome_ok (w : World) (p : Nat) (v : Value) (l : List UInt8) (at_ : Nat) (fa : Int) (h : RRd w p v l at_ 0 fa) (n : Nat) (hn : at_ + n ≤ l.length) :
    Calls Tryz.prog 109 #[.pointer (some ⟨p, 0, none⟩), .int .i64 n] w (fun e w' => e = .returned (.bool true) ∧ Keep noBlk w w') := by
  obtain ⟨c0, c1, c2, c3, cf⟩ := h.cells
  obtain ⟨a, c, rfl, -, -⟩ := h.rd.form
  have hm := h.max
  clear h
  have e2 : IntKind.i64.wrap ((l.length : Int) - (at_ : Int)) = (l.length : Int) - (at_ : Int) := by rw [IntWalk.i64_in _ (by omega)]
  have t1 : decide ((l.length : Int) - (at_ : Int) < (n : Int)) = false := by simp; omega
  go_enter Tryz.func109, Tryz.ntmps109
  go_wp2_with fail
  go_quiet (fail)
  go_wp2_with fail
  go_ret
  exact ⟨rfl, (Keep.refl _ _).drewN _⟩

/-- What Raw tells. -/
def RRawPost (w : World) (p : Nat) (v : Value) (l : List UInt8) (at_ n : Nat) (fa : Int) (e : Ending) (w' : World) : Prop :=
  ∃ v', e = .returned v' ∧ w'.ownsRow w.heap.size 5 1 v' n (((l.drop at_).take n).map vb) ∧ RRd w' p v l (at_ + n) 0 fa ∧ Keep (fun k => k = p) w w'
set_option maxHeartbeats 1000000 in
theorem rrraw_ok (w : World) (p : Nat) (v : Value) (l : List UInt8) (at_ : Nat) (fa : Int) (h : RRd w p v l at_ 0 fa) (n : Nat) (h1 : 1 ≤ n) (hn : at_ + n ≤ l.length) :
    Calls Tryz.prog 77 #[.pointer (some ⟨p, 0, none⟩), .int .i64 n] w (RRawPost w p v l at_ n fa) := by
  have C := Lib.hid (rrsome_ok w p v l at_ fa h n hn)
  have hm := h.max
  obtain ⟨g, o, c, hv, hlc, hcm, hcells⟩ : ∃ g o c, v = .slice (some ⟨g, o, none⟩) l.length c ∧ l.length ≤ c ∧ c ≤ 9223372036854775807 ∧ ∀ i u, (l.map vb)[i]? = some u → w.cell? ⟨g, o + i, none⟩ = some u := by
    obtain ⟨h0, a, cap, rfl, h2, h3, h4, h5⟩ := h.rd
    obtain ⟨g, o, rfl, hc⟩ := h5 (by simp; omega)
    exact ⟨g, o, cap, rfl, h2, by unfold maxLen at h3; omega, hc⟩
  subst hv
  have HC := Lib.hid hcells
  have HH := Lib.hid h
  clear h hcells
  have hn0 : decide ((n : Int) < 0) = false := by simp
  have e1 : IntKind.i64.wrap ((at_ : Int) + (n : Int)) = (at_ : Int) + (n : Int) := by rw [IntWalk.i64_in _ (by omega)]
  go_enter Tryz.func77, Tryz.ntmps77
  go_wp2_with fail
  refine C.out.mono ?_
  rintro e w1 ⟨rfl, hk1⟩
  have h1' := HH.out.keep hk1 id (fun _ _ => id)
  obtain ⟨c0, c1, c2, c3, cf⟩ := h1'.cells
  obtain ⟨w2, hw2⟩ : ∃ w2, w1.setCell ⟨p, 1, none⟩ (.int .i64 ((at_ : Int) + (n : Int))) = w2 := ⟨_, rfl⟩
  have h2 : RRd w2 p (.slice (some ⟨g, o, none⟩) l.length c) l (at_ + n) 0 fa := by
    rw [← hw2]; have := h1'.setAt (at_ + n) hn; rwa [show (((at_ + n : Nat)) : Int) = (at_ : Int) + (n : Int) by simp] at this
  have K2 : Keep (fun k => k = p) w w2 := by rw [← hw2]; exact (show Keep (fun k => k = p) w w1 from hk1.any).setCell (p := ⟨p, 1, none⟩) (fun _ => rfl) _
  have H2 := Lib.hid h2; have HK2 := Lib.hid K2
  clear h1' hk1 h2 K2
  go_wp2_with fail
  clear hw2 c0 c1 c2 c3 cf
  obtain ⟨d0, d1, d2, d3, df⟩ := H2.out.cells
  rw [show (((at_ + n : Nat)) : Int) = (at_ : Int) + (n : Int) by simp] at d1
  have e3 : IntKind.i64.wrap ((at_ : Int) + (n : Int) - (n : Int)) = (at_ : Int) := by rw [IntWalk.i64_in _ (by omega)]; omega
  have e5 : IntKind.i64.wrap (at_ : Int) = (at_ : Int) := by rw [IntWalk.i64_in _ (by omega)]
  have e4 : ((at_ : Int) + (n : Int)).toNat = at_ + n := by omega
  have i2 : (0 : Int) ≤ (at_ : Int) + (n : Int) := by omega
  have i1 : (0 : Int) ≤ (at_ : Int) := by omega
  have i3 : (at_ : Int) ≤ (at_ : Int) + (n : Int) := by omega
  have i4 : (at_ : Int) + (n : Int) ≤ (c : Int) := by omega
  have i5 : at_ < c := by omega
  have i6 : at_ + n ≤ c := by omega
  have i7 : at_ ≤ at_ + n := by omega
  have i8 : ¬ c = at_ := by omega
  have hpl : p < w2.heap.size := lt_of_block H2.out.blk
  have D0 := Lib.hid (show ((w2.alloc (.cells #[] 5)).drew).cell? ⟨p, 0, none⟩ = some (.slice (some ⟨g, o, none⟩) l.length c) from (World.cell?_alloc_lt _ (a := ⟨p, 0, none⟩) _ hpl).trans d0)
  have D1 := Lib.hid (show ((w2.alloc (.cells #[] 5)).drew).cell? ⟨p, 1, none⟩ = some (.int .i64 ((at_ : Int) + (n : Int))) from (World.cell?_alloc_lt _ (a := ⟨p, 1, none⟩) _ hpl).trans d1)
  obtain ⟨i0, hi0, hz0, hz1, hz2⟩ := info_parts infoU8
  have hown := (World.ownsRow_made (base := w2.heap.size) (e := 5) (size := 1) w2 #[] 0 (Nat.le_refl _) (by unfold maxLen; omega) (by simp)).drew
  have hnews : ∀ j u, (((l.drop at_).take n).map vb)[j]? = some u → ((w2.alloc (.cells #[] 5)).drew).cell? ((⟨g, o + at_, none⟩ : Addr).add j) = some u := by
    intro j u hu
    obtain ⟨h0, a, cap, hv, -, -, -, h5⟩ := H2.out.rd
    cases hv
    obtain ⟨g', o', he, hc⟩ := h5 (by simp; omega)
    cases he
    rw [add_lit]
    refine Keep.cell (((Keep.refl noBlk w2).alloc _).drew) (S := noBlk) ?_ id
    rw [Nat.add_assoc]
    refine hc _ _ ?_
    rw [List.map_take, List.map_drop, List.getElem?_take] at hu
    split at hu
    · rwa [List.getElem?_drop] at hu
    · cases hu
  have HO := Lib.hid hown; have HN := Lib.hid hnews
  clear hown hnews
  have hll : (((l.drop at_).take n).map vb).length = n := by simp; omega
  obtain ⟨nw, hnw⟩ : ∃ nw, ((l.drop at_).take n).map vb = nw := ⟨_, rfl⟩
  have hon : ∀ u ∈ nw, u.oneCell' = true := by rw [← hnw]; exact oneCell_vb _
  rw [hnw] at HN hll
  have HNW := Lib.hid hnw; have HLL := Lib.hid hll
  clear hnw hll
  go_region_held3 (fun w' => w'.cell? ⟨p, 0, none⟩ = some (.slice (some ⟨g, o, none⟩) l.length c) ∧ w'.cell? ⟨p, 1, none⟩ = some (.int .i64 ((at_ : Int) + (n : Int))))
    (first
      | go_keep
      | (go_split_ands
         refine ⟨?_, ?_⟩
         · (rw [hgrow.cell_far _ (by simp; omega) (by intro e; have e' := Option.some.inj e; simp at e'; omega)]; exact D0.out)
         · (rw [hgrow.cell_far _ (by simp; omega) (by intro e; have e' := Option.some.inj e; simp at e'; omega)]; exact D1.out)))
    ((refine step_append_lies _ (by rfl) _ _ _ (by rfl) w2.heap.size 5 i0 _ 1 1 Tryz.underlying51 hi0 hz0 hz1 hz2 rfl (by omega) _ 0 [] (by rfl) HO.out ⟨g, o + at_, none⟩ n (c - at_) nw (by rfl) (by rw [HLL.out]; omega) HN.out hon (by omega) (by unfold maxLen; omega) (by omega) (by simp) (w2.heap.size + 1) (by simp) ?_; intro gg cap w3 hown3 hgrow hat hlt))
  have HO3 := Lib.hid hown3; have HG3 := Lib.hid hgrow
  clear hown3 hgrow
  go_wp2_with fail
  go_ret
  have K3 : Keep noBlk w2 w3 := (((Keep.refl noBlk w2).alloc _).drew).trans' (Keep.of_grown HG3.out) (fun _ _ h => h) (fun i hi e => by have e' := Option.some.inj e; simp at e'; omega)
  refine ⟨_, rfl, ?_, H2.out.keep K3 id (fun _ _ => id), HK2.out.trans' K3 (fun _ _ h => h) (fun _ _ h => h.elim)⟩
  rw [HNW.out]
  have := HO3.out
  rw [Nat.zero_add, List.nil_append] at this
  exact ownsRow_mono this HK2.out.size

/-- What Num tells. -/
def RRNumPost (w : World) (p : Nat) (v : Value) (l : List UInt8) (x : Int) (at_ n : Nat) (fa : Int) (e : Ending) (w' : World) : Prop :=
  e = .returned (.int .i64 x) ∧ RRd w' p v l (at_ + n) 0 fa ∧ Keep (fun k => k = p) w w'
set_option maxHeartbeats 1000000 in
theorem rrnum_ok (w : World) (p : Nat) (v : Value) (l : List UInt8) (at_ : Nat) (fa : Int) (h : RRd w p v l at_ 0 fa) (n : Nat) (low high : Int) (h1 : 1 ≤ n) (h6 : n ≤ 6) (hn : at_ + n ≤ l.length)
    (x : Nat) (hx : beN ((l.drop at_).take n) = x) (hlo : low ≤ (x : Int)) (hhi : (x : Int) ≤ high) :
    Calls Tryz.prog 78 #[.pointer (some ⟨p, 0, none⟩), .int .i64 n, .int .i64 low, .int .i64 high] w (RRNumPost w p v l x at_ n fa) := by
  have C := Lib.hid (rrsome_ok w p v l at_ fa h n hn)
  have CS := fun w => Lib.hid (rsize_any (n : Int) w)
  have hm := h.max
  have hlen : ((l.drop at_).take n).length = n := by simp; omega
  obtain ⟨g, o, c, hv, hlc, hcm, hcells⟩ : ∃ g o c, v = .slice (some ⟨g, o, none⟩) l.length c ∧ l.length ≤ c ∧ c ≤ 9223372036854775807 ∧ ∀ i u, (l.map vb)[i]? = some u → w.cell? ⟨g, o + i, none⟩ = some u := by
    obtain ⟨h0, a, cap, rfl, h2, h3, h4, h5⟩ := h.rd
    obtain ⟨g, o, rfl, hc⟩ := h5 (by simp; omega)
    exact ⟨g, o, cap, rfl, h2, by unfold maxLen at h3; omega, hc⟩
  subst hv
  obtain ⟨bs, hbs⟩ : ∃ bs, (l.drop at_).take n = bs := ⟨_, rfl⟩
  rw [hbs] at hx hlen
  have HC : Hid (∀ k, (hk : k < bs.length) → w.cell? ⟨g, o + (at_ + k), none⟩ = some (.int .u8 (bs[k].toNat : Int))) := Lib.hid (by
    intro k hk
    subst hbs
    refine hcells _ _ ?_
    simp at hk ⊢
    rw [List.getElem?_eq_getElem (by omega)]
    simp [vb])
  have HH := Lib.hid h; have HX := Lib.hid hx; have HL := Lib.hid hlen
  clear h hcells hx hlen hbs
  have hn0 : decide ((1 : Int) ≤ n) = true := by simp; omega
  have hn1 : decide ((n : Int) ≤ 7) = true := by simp; omega
  have e1 : IntKind.i64.wrap ((at_ : Int) + (n : Int)) = (at_ : Int) + (n : Int) := by rw [IntWalk.i64_in _ (by omega)]
  go_enter Tryz.func78, Tryz.ntmps78
  go_wp2_with fail
  refine (CS _).out.mono ?_
  rintro e w' ⟨rfl, rfl⟩
  rw [hn0, hn1]
  go_wp2_with fail
  refine C.out.mono ?_
  rintro e w1 ⟨rfl, hk1⟩
  have H1 := Lib.hid (HH.out.keep hk1 id (fun _ _ => id))
  have HK1 := Lib.hid hk1
  clear hk1
  go_wp2_with fail
  go_loopw [9, 10] (fun x i wr => ∃ k : Nat, k ≤ n ∧ i = .int .i64 k ∧ x = .int .i64 (beN (bs.take k) : Int) ∧ Hid (Keep noBlk w1 wr)) (fun _ i _ => n - (intOf i).toNat)
  case atStart => exact ⟨0, by omega, rfl, rfl, Lib.hid (Keep.refl _ _)⟩
  case round =>
    obtain ⟨k, hk, rfl, rfl, HK⟩ := hrel
    obtain ⟨c0, c1, c2, c3, cf⟩ := (H1.out.keep HK.out id (fun _ _ => id)).cells
    by_cases hkn : k < n
    · have hkl : k < bs.length := by rw [HL.out]; exact hkn
      have cc := (HK1.out.trans HK.out).cell (HC.out k hkl) id
      have hb := beN_le (bs.take k) (by simp; omega)
      have hs := beN_snoc (bs.take k) bs[k]
      have hc8 := bs[k].toNat_lt
      rw [← List.take_succ_eq_append_getElem hkl] at hs
      obtain ⟨q, hc⟩ : ∃ q, bs[k].toNat = q := ⟨_, rfl⟩
      rw [hc] at cc hs hc8
      obtain ⟨y, hX⟩ : ∃ y, beN (bs.take k) = y := ⟨_, rfl⟩
      rw [hX] at hs hb ⊢
      have HS := Lib.hid hs
      clear hs hX hc
      have hk0 : (0 : Int) ≤ (k : Int) := by omega
      have hk1 : (k : Int) < (n : Int) := by omega
      have s1 : IntKind.i64.wrap ((at_ : Int) + (k : Int)) = (at_ : Int) + (k : Int) := by rw [IntWalk.i64_in _ (by omega)]
      have s2 : IntKind.i64.wrap (256 * (y : Int)) = 256 * (y : Int) := by rw [IntWalk.i64_in _ (by omega)]
      have s3 : IntKind.i64.wrap (256 * (y : Int) + (q : Int)) = 256 * (y : Int) + (q : Int) := by rw [IntWalk.i64_in _ (by omega)]
      have s4 : IntKind.i64.wrap (q : Int) = (q : Int) := by rw [IntWalk.i64_in _ (by omega)]
      have s5 : ((at_ : Int) + (k : Int)).toNat = at_ + k := by omega
      have i1 : (0 : Int) ≤ (at_ : Int) + (k : Int) := by omega
      have i2 : (at_ : Int) + (k : Int) < (l.length : Int) := by omega
      go_wp2_with fail
      go_quiet (fail)
      go_wp2_with fail
      go_roundw
      case rel => exact ⟨k + 1, by omega, by go_num, by rw [HS.out]; simp; omega, Lib.hid (HK.out.drewN _)⟩
      case measure => simp [intOf]; omega
    · obtain rfl : k = n := by omega
      rw [List.take_of_length_le (by rw [HL.out]; exact Nat.le_refl _), HX.out]
      have t1 : decide ((x : Int) < low) = false := by simp; omega
      have t2 : decide (high < (x : Int)) = false := by simp; omega
      have hR := H1.out.keep HK.out id (fun _ _ => id)
      have hfin : RRNumPost w p (.slice (some ⟨g, o, none⟩) l.length c) l x at_ k fa (.returned (.int .i64 x)) (wr.setCell ⟨p, 1, none⟩ (.int .i64 ((at_ : Int) + (k : Int)))) := by
        refine ⟨rfl, ?_, (show Keep (fun k => k = p) w wr from (HK1.out.trans HK.out).any).setCell (p := ⟨p, 1, none⟩) (fun _ => rfl) _⟩
        have := hR.setAt (at_ + k) hn
        rwa [show (((at_ + k : Nat)) : Int) = (at_ : Int) + (k : Int) by simp] at this
      have HF := Lib.hid hfin
      clear hR hfin
      go_wp2_with fail
      go_ret
      exact HF.out
end Go.Proofs.YtaiicjhnhbkgmaaGreatDoor

/-
  The document's Unpack.
  Conditions: those told.
-/
namespace Go.Proofs.YtaiicjhnhbkgmaaGreatDoor
open Go.RowKit Go.Maps Go.ChangeMaps
set_option maxRecDepth 100000
set_option linter.unusedVariables false
set_option maxHeartbeats 400000 in
theorem runought_any (w : World) (bv : Value) (b : List UInt8) (hr : Rd w 1 bv b.length (b.map vb)) (r : Bool) (hres : decide (b = List.replicate b.length 0) = r) (hlen : b.length ≤ 65536) :
    Calls Tryz.prog 75 #[bv] w (fun e w' => e = .returned (.bool r) ∧ w = w') := by
  have hcells : ∀ k, (hk : k < b.length) → ∃ g o, bv.ownBlock = some g ∧ (∃ c, bv = .slice (some ⟨g, o, none⟩) b.length c) ∧ w.cell? ⟨g, o + k, none⟩ = some (.int .u8 (b[k].toNat : Int)) := by
    intro k hk
    obtain ⟨h0, a, cap, rfl, h2, h3, h4, h5⟩ := hr
    obtain ⟨g, o, rfl, hc⟩ := h5 (by simp; omega)
    exact ⟨g, o, rfl, ⟨cap, rfl⟩, hc k _ (by simp [hk, vb])⟩
  obtain ⟨a, c, rfl, -, -⟩ := hr.form
  have HC := Lib.hid hcells; have HRS := Lib.hid hres
  clear hr hcells hres
  obtain ⟨n, hn⟩ : ∃ n, b.length = n := ⟨_, rfl⟩
  rw [hn] at hlen ⊢
  have HN := Lib.hid hn; clear hn
  go_enter Tryz.func75, Tryz.ntmps75
  go_wp2_with fail
  go_loop [3] (fun i => ∃ k : Nat, k ≤ n ∧ i = .int .i64 k ∧ Hid (∀ j, j < k → b[j]? = some 0)) (fun i => n - (intOf i).toNat)
  case atStart => exact ⟨0, by omega, rfl, Lib.hid (by intro j hj; omega)⟩
  case round =>
    obtain ⟨k, hk, rfl, hz⟩ := hrel
    by_cases hkn : k < n
    · have hkb : k < b.length := by rw [HN.out]; exact hkn
      obtain ⟨g, o, -, ⟨c', hv⟩, hc⟩ := HC.out k hkb
      rw [HN.out] at hv
      cases hv
      have hk0 : (0 : Int) ≤ (k : Int) := by omega
      have hk1 : (k : Int) < (n : Int) := by omega
      by_cases h0 : b[k] = 0
      · rw [h0] at hc
        simp only [show ((0 : UInt8).toNat : Int) = 0 from rfl] at hc
        have hz2 : Hid (∀ j, j < k + 1 → b[j]? = some 0) := Lib.hid (by
          intro j hj
          by_cases e : j = k
          · subst e; rw [List.getElem?_eq_getElem hkb, h0]
          · exact hz.out j (by omega))
        clear h0
        go_wp2_with fail
        go_round
        case rel => exact ⟨k + 1, by omega, by go_num, hz2⟩
        case measure => simp [intOf]; omega
      · have hb1 : ((b[k].toNat : Int) != 0) = true := by
          simp
          intro e
          exact h0 (UInt8.toNat_inj.1 (by simpa using e))
        have hrf : r = false := by
          rw [← HRS.out]
          refine decide_eq_false (fun e => h0 ?_)
          have : b[k]? = (List.replicate b.length (0 : UInt8))[k]? := by rw [← e]
          rw [List.getElem?_eq_getElem hkb, List.getElem?_replicate, if_pos hkb] at this
          exact Option.some.inj this
        have HRF := Lib.hid hrf
        obtain ⟨x, hx⟩ : ∃ x : Int, (b[k].toNat : Int) = x := ⟨_, rfl⟩
        rw [hx] at hc hb1
        clear hx h0 hrf
        go_wp2_with fail
        go_ret
        rw [HRF.out]
        exact ⟨rfl, rfl⟩
    · obtain rfl : k = n := by omega
      have hrt : r = true := by
        rw [← HRS.out]
        refine decide_eq_true (List.ext_getElem? fun j => ?_)
        by_cases hj : j < k
        · rw [hz.out j hj, HN.out, List.getElem?_replicate, if_pos hj]
        · rw [List.getElem?_eq_none (by rw [HN.out]; omega), List.getElem?_eq_none (by simp [HN.out]; omega)]
      have HRT := Lib.hid hrt
      clear hrt
      go_wp2_with fail
      go_ret
      rw [HRT.out]
      exact ⟨rfl, rfl⟩

set_option maxHeartbeats 1000000 in
theorem ruunpack_len (w : World) (bv : Value) (b : List UInt8) (hr : Rd w 1 bv b.length (b.map vb)) (hb : b.length ≤ 65536) (hl : b.length ≠ 256) :
    Calls Tryz.prog 45 #[bv] w (UUnpackPost w (zUb, 4)) := by
  obtain ⟨a, c, rfl, -, -⟩ := hr.form
  clear hr
  obtain ⟨zc, hzc, hzl, hzo⟩ : ∃ zc, ubCs (.slice none 0 0) zUb = zc ∧ zc.length = 69 ∧ ∀ u ∈ zc, u.oneCell' = true := ⟨_, rfl, rfl, oneCell_ub _⟩
  have hzv : ∀ w, (zeroValue 36).run Tryz.prog w = .ok (.agg zc.toArray) w := by rw [← hzc]; exact zeroValUb
  have hbd : ∀ w, (Instr.build 36 #[]).run Tryz.prog w = .ok (.agg zc.toArray) w := by rw [← hzc]; exact buildUbZ
  have HZ := Lib.hid hzc; clear hzc
  have ht : ((b.length : Int) != 256) = true := by simp; omega
  go_enter Tryz.func45, Tryz.ntmps45
  go_wp2_with (first
    | (refine wpList_alloc_at rfl 36 rfl _ hzv zc.toArray rfl ?_)
    | ((with_reducible show wpList _ _ _ (⟨none, .store 36 (.tmp 2) (.tmp 13), _, _, _, _⟩ :: _) _ _); refine wpList_store_agg rfl 36 (.tmp 2) (.tmp 13) rfl w.heap.size 0 zc rfl rfl _ _ (heap_alloc_new _ _) (by simp) (sizeUbL hzl) hzo ?_; intro w2 hb2 hk2; have HB2 := Lib.hid hb2; have HK2 := Lib.hid hk2; clear hb2 hk2))
  refine bodyPost_ret (results_cell_row_tmp rfl _ _ w.heap.size _ _ _ _ rfl HB2.out ubUnder rfl (by rw [spl_size, List.size_toArray]; exact sizeUbL hzl)) rfl ⟨.slice none 0 0, ?_, World.ownsRow_nil _ _ _ _, ?_⟩
  · rw [spl_whole _ _ (by simp), HZ.out]; rfl
  · exact ((Keep.refl noBlk w).alloc _).trans' HK2.out (fun _ _ h => h) (fun i hi e => by omega)
set_option maxHeartbeats 4000000 in
theorem ruunpack_zero (w : World) (bv : Value) (b : List UInt8) (hr : Rd w 1 bv b.length (b.map vb)) (hl : b.length = 256) (hz : b = List.replicate 256 0) :
    Calls Tryz.prog 45 #[bv] w (UUnpackPost w (unpackU b)) := by
  have hlt : ∀ g, bv.ownBlock = some g → g < w.heap.size := by
    obtain ⟨k, hk, hk2⟩ := hr.lt (by simp; omega)
    intro g hg
    rw [hg] at hk; cases hk; exact hk2
  obtain ⟨a, c, hv, -, -⟩ := hr.form
  rw [hl] at hv
  subst hv
  have HR := Lib.hid hr
  clear hr
  obtain ⟨zc, hzc, hzl, hzo⟩ : ∃ zc, ubCs (.slice none 0 0) zUb = zc ∧ zc.length = 69 ∧ ∀ u ∈ zc, u.oneCell' = true := ⟨_, rfl, rfl, oneCell_ub _⟩
  have hzv : ∀ w, (zeroValue 36).run Tryz.prog w = .ok (.agg zc.toArray) w := by rw [← hzc]; exact zeroValUb
  have hbd : ∀ w, (Instr.build 36 #[]).run Tryz.prog w = .ok (.agg zc.toArray) w := by rw [← hzc]; exact buildUbZ
  have HZ := Lib.hid hzc; clear hzc
  have HL := Lib.hid hl
  clear hl
  have HZB := Lib.hid hz
  clear hz
  go_enter Tryz.func45, Tryz.ntmps45
  go_wp2_with (first
    | (refine wpList_alloc_at rfl 36 rfl _ hzv zc.toArray rfl ?_))
  obtain ⟨w1, hw1⟩ : ∃ w1, w.alloc (.cells zc.toArray 36) = w1 := ⟨_, rfl⟩
  have HK1 : Hid (Keep noBlk w w1) := Lib.hid (by rw [← hw1]; exact (Keep.refl _ _).alloc _)
  have HRES : Hid (w1.heap[w.heap.size]? = some (.cells zc.toArray 36 (0, 0))) := Lib.hid (by rw [← hw1]; exact heap_alloc_new _ _)
  rw [hw1]
  clear hw1
  refine (runought_any w1 _ b (HR.out.keep HK1.out fun _ _ => id) true (by rw [HL.out]; exact decide_eq_true HZB.out) (by rw [HL.out]; omega)).mono ?_
  rintro e w3 ⟨rfl, rfl⟩
  have HUR := Lib.hid (show unpackU b = (zUb, 6) by unfold unpackU; rw [if_neg (by rw [HL.out]; simp), if_pos HZB.out])
  go_wp2_with (first
    | ((with_reducible show wpList _ _ _ (⟨none, .store 36 (.tmp 2) (.tmp 16), _, _, _, _⟩ :: _) _ _); refine wpList_store_agg rfl 36 (.tmp 2) (.tmp 16) rfl w.heap.size 0 zc rfl rfl _ _ HRES.out (by simp) (sizeUbL hzl) hzo ?_; intro w4 hb4 hk4; have HB4 := Lib.hid hb4; have HK4 := Lib.hid hk4; clear hb4 hk4))
  refine bodyPost_ret (results_cell_row_tmp rfl _ _ w.heap.size _ _ _ _ rfl HB4.out ubUnder rfl (by rw [spl_size, List.size_toArray]; exact sizeUbL hzl)) rfl ?_
  rw [HUR.out]
  refine ⟨.slice none 0 0, ?_, World.ownsRow_nil _ _ _ _, ?_⟩
  · rw [spl_whole _ _ (by simp), HZ.out]; rfl
  · exact HK1.out.trans' HK4.out (fun _ _ h => h) (fun i hi e => by omega)

/-- What stands in memory while the document reads an uberblock. -/
structure RuW (w wr : World) (ub p : Nat) (v : Value) (b : List UInt8) (at_ : Nat) (uv : Value) (u : Ub) : Prop where
  st : wr.heap[ub]? = some (.cells (ubCs uv u).toArray 36 (0, 0))
  rd : RRd wr p v b at_ 0 0
  pool : u.pool.length = 32
  sum : u.root.sum.length = 32
  keep : Keep noBlk w wr
  lv : ∀ g, v.ownBlock = some g → g < w.heap.size
  lp : w.heap.size ≤ p
  l5 : w.heap.size ≤ ub
theorem RuW.same {w wr w' : World} {ub p : Nat} {v : Value} {b : List UInt8} {at_ : Nat} {uv : Value} {u : Ub} (h : RuW w wr ub p v b at_ uv u) (k : Keep noBlk wr w') : RuW w w' ub p v b at_ uv u :=
  ⟨k.blk h.st id, h.rd.keep k id (fun _ _ => id), h.pool, h.sum, h.keep.trans k, h.lv, h.lp, h.l5⟩
theorem RuW.read {w wr w' : World} {ub p : Nat} {v : Value} {b : List UInt8} {at_ at2 : Nat} {uv : Value} {u : Ub} (h : RuW w wr ub p v b at_ uv u) (k : Keep (fun i => i = p) wr w') (hr : RRd w' p v b at2 0 0) : RuW w w' ub p v b at2 uv u := by
  have := h.lp
  refine ⟨k.blk h.st ?_, hr, h.pool, h.sum, h.keep.trans' k (fun _ _ h => h) (fun i hi e => by omega), h.lv, h.lp, h.l5⟩
  rintro rfl
  have := h.rd.blk
  rw [h.st] at this
  have e := Option.some.inj this
  injection e with _ e2 _
  exact absurd e2 (by decide)
theorem RuW.put {w wr w' : World} {ub p : Nat} {v : Value} {b : List UInt8} {at_ : Nat} {uv uv2 : Value} {u u2 : Ub} (h : RuW w wr ub p v b at_ uv u) (k : Keep (fun i => i = ub) wr w') (hs : w'.heap[ub]? = some (.cells (ubCs uv2 u2).toArray 36 (0, 0))) (h1 : u2.pool.length = 32) (h2 : u2.root.sum.length = 32) :
    RuW w w' ub p v b at_ uv2 u2 := by
  have hl := h.l5
  refine ⟨hs, h.rd.keep k ?_ (fun g hg e => ?_), h1, h2, h.keep.trans' k (fun _ _ h => h) (fun i hi e => by omega), h.lv, h.lp, h.l5⟩
  · intro e
    have := h.rd.blk
    rw [e, h.st] at this
    have e := Option.some.inj this
    injection e with _ e2 _
    exact absurd e2 (by decide)
  · have := h.lv g hg; omega
theorem ubCs_txg (uv : Value) (u : Ub) (x : Int) : (ubCs uv u).toArray.setIfInBounds 0 (.int .i64 x) = (ubCs uv ⟨x, u.root, u.len, u.pool⟩).toArray := by rw [List.setIfInBounds_toArray]; rfl
theorem ubCs_lenS (uv : Value) (u : Ub) (x : Int) (h2 : u.root.sum.length = 32) : (ubCs uv u).toArray.setIfInBounds 36 (.int .i64 x) = (ubCs uv ⟨u.txg, u.root, x, u.pool⟩).toArray := by
  rw [List.setIfInBounds_toArray]
  have hp : (ptCs uv u.root).length = 35 := ptCs_len h2
  unfold ubCs
  rw [List.set_cons_succ, List.set_append_right _ _ (by omega), hp]
  rfl
theorem ubCs_spl (uv uv2 : Value) (u u2 : Ub) (o : Nat) (vs : List Value) (p : Nat) (er : Value) (h1 : u.pool.length = 32) (h2 : u.root.sum.length = 32) (hf : o + vs.length ≤ 69) (h : spl (stCs p uv u er).toArray (o + 1) vs = (stCs p uv2 u2 er).toArray) (h3 : u2.pool.length = 32) (h4 : u2.root.sum.length = 32) :
    spl (ubCs uv u).toArray o vs = (ubCs uv2 u2).toArray := by
  have l1 : (ubCs uv u).length = 69 := ubCs_len h2 h1
  have l2 : (ubCs uv2 u2).length = 69 := ubCs_len h4 h3
  apply Array.ext_getElem?
  intro j
  rw [spl_get _ _ _ _ (by rw [List.size_toArray, l1]; omega)]
  have hj : (spl (stCs p uv u er).toArray (o + 1) vs)[j + 1]? = (stCs p uv2 u2 er).toArray[j + 1]? := by rw [h]
  rw [spl_get _ _ _ _ (by rw [List.size_toArray, stCs_len h1 h2]; omega)] at hj
  simp only [List.getElem?_toArray] at hj ⊢
  unfold stCs at hj
  simp only [List.getElem?_cons_succ] at hj
  by_cases hlt : j < 69
  · rw [List.getElem?_append_left (by omega), List.getElem?_append_left (by omega)] at hj
    by_cases hc : o ≤ j ∧ j < o + vs.length
    · rw [if_pos hc]
      rw [if_pos ⟨by omega, by omega⟩, show j + 1 - (o + 1) = j - o by omega] at hj
      exact hj
    · rw [if_neg hc]
      rw [if_neg (by omega)] at hj
      exact hj
  · rw [if_neg (by omega), List.getElem?_eq_none (by omega), List.getElem?_eq_none (by omega)]
theorem ubCs_root (uv uv2 : Value) (u : Ub) (q : Pt) (h1 : u.pool.length = 32) (h2 : u.root.sum.length = 32) (hq : q.sum.length = 32) : spl (ubCs uv u).toArray 1 (ptCs uv2 q) = (ubCs uv2 ⟨u.txg, q, u.len, u.pool⟩).toArray :=
  ubCs_spl uv uv2 u ⟨u.txg, q, u.len, u.pool⟩ 1 _ 0 .nilIface h1 h2 (by rw [ptCs_len hq]; omega) (stCs_root 0 uv uv2 .nilIface u q h1 h2 hq) h1 hq
theorem ubCs_pool (uv : Value) (u : Ub) (s : List UInt8) (h1 : u.pool.length = 32) (h2 : u.root.sum.length = 32) (hs : s.length = 32) : spl (ubCs uv u).toArray 37 (s.map vb) = (ubCs uv ⟨u.txg, u.root, u.len, s⟩).toArray :=
  ubCs_spl uv uv u ⟨u.txg, u.root, u.len, s⟩ 37 _ 0 .nilIface h1 h2 (by rw [List.length_map, hs]; omega) (stCs_pool 0 uv .nilIface u s h1 h2 hs) hs h2

end Go.Proofs.YtaiicjhnhbkgmaaGreatDoor

/-
  The document's Unpack, the whole contract.
  Conditions: those told.
-/
namespace Go.Proofs.YtaiicjhnhbkgmaaGreatDoor
open Go.RowKit Go.Maps Go.ChangeMaps
set_option maxRecDepth 100000
set_option linter.unusedVariables false
theorem RuW.setTxg {w wr : World} {ub p : Nat} {v : Value} {b : List UInt8} {at_ : Nat} {uv : Value} {u : Ub} (h : RuW w wr ub p v b at_ uv u) (x : Int) : RuW w (wr.setCell ⟨ub, 0, none⟩ (.int .i64 x)) ub p v b at_ uv ⟨x, u.root, u.len, u.pool⟩ :=
  h.put ((Keep.refl (fun i => i = ub) wr).setCell (p := ⟨ub, 0, none⟩) (fun _ => rfl) _) (by rw [set_blk h.st, ubCs_txg]) h.pool h.sum
theorem RuW.setLen {w wr : World} {ub p : Nat} {v : Value} {b : List UInt8} {at_ : Nat} {uv : Value} {u : Ub} (h : RuW w wr ub p v b at_ uv u) (x : Int) : RuW w (wr.setCell ⟨ub, 36, none⟩ (.int .i64 x)) ub p v b at_ uv ⟨u.txg, u.root, x, u.pool⟩ :=
  h.put ((Keep.refl (fun i => i = ub) wr).setCell (p := ⟨ub, 36, none⟩) (fun _ => rfl) _) (by rw [set_blk h.st, ubCs_lenS _ _ _ h.sum]) h.pool h.sum
theorem RuW.get {w wr : World} {ub p : Nat} {v : Value} {b : List UInt8} {at_ : Nat} {uv : Value} {u : Ub} (h : RuW w wr ub p v b at_ uv u) (i : Nat) (hi : i < 69) : ∃ x, wr.cell? ⟨ub, i, none⟩ = some x :=
  ⟨_, blk_cell h.st (by rw [List.getElem?_toArray]; exact List.getElem?_eq_getElem (by rw [ubCs_len h.sum h.pool]; exact hi))⟩
theorem beN5 {b : List UInt8} (h : b.length = 256) : (txgOf b : Int) ≤ 1099511627776 := by
  have h1 := beN_lt ((b.drop 40).take 5)
  have h2 : 256 ^ ((b.drop 40).take 5).length ≤ 256 ^ 5 := Nat.pow_le_pow_right (by omega) (by rw [List.length_take]; omega)
  unfold txgOf
  have h3 : (256 : Nat) ^ 5 = 1099511627776 := by decide
  omega
theorem beN3 {b : List UInt8} (h : b.length = 256) : (lenOf b : Int) ≤ 16777216 := by
  have h1 := beN_lt ((b.drop 45).take 3)
  have h2 : 256 ^ ((b.drop 45).take 3).length ≤ 256 ^ 3 := Nat.pow_le_pow_right (by omega) (by rw [List.length_take]; omega)
  unfold lenOf
  have h3 : (256 : Nat) ^ 3 = 16777216 := by decide
  omega
set_option maxHeartbeats 8000000 in
theorem ruunpack_rest (w : World) (bv : Value) (b : List UInt8) (hr : Rd w 1 bv b.length (b.map vb)) (hl : b.length = 256) (hz : ¬ b = List.replicate 256 0) :
    Calls Tryz.prog 45 #[bv] w (UUnpackPost w (unpackU b)) := by
  have hlt : ∀ g, bv.ownBlock = some g → g < w.heap.size := by
    obtain ⟨k, hk, hk2⟩ := hr.lt (by simp; omega)
    intro g hg
    rw [hg] at hk; cases hk; exact hk2
  obtain ⟨a, c, hv, -, -⟩ := hr.form
  rw [hl] at hv
  subst hv
  have HR := Lib.hid hr
  clear hr
  obtain ⟨zc, hzc, hzl, hzo⟩ : ∃ zc, ubCs (.slice none 0 0) zUb = zc ∧ zc.length = 69 ∧ ∀ u ∈ zc, u.oneCell' = true := ⟨_, rfl, rfl, oneCell_ub _⟩
  have hzv : ∀ w, (zeroValue 36).run Tryz.prog w = .ok (.agg zc.toArray) w := by rw [← hzc]; exact zeroValUb
  have hbd : ∀ w, (Instr.build 36 #[]).run Tryz.prog w = .ok (.agg zc.toArray) w := by rw [← hzc]; exact buildUbZ
  have HZ := Lib.hid hzc; clear hzc
  have HL := Lib.hid hl
  clear hl
  have HZN := Lib.hid hz
  clear hz
  go_enter Tryz.func45, Tryz.ntmps45
  go_wp2_with (first
    | (refine wpList_alloc_at rfl 36 rfl _ hzv zc.toArray rfl ?_))
  obtain ⟨w1, hw1⟩ : ∃ w1, w.alloc (.cells zc.toArray 36) = w1 := ⟨_, rfl⟩
  have HK1 : Hid (Keep noBlk w w1) := Lib.hid (by rw [← hw1]; exact (Keep.refl _ _).alloc _)
  have HRES : Hid (w1.heap[w.heap.size]? = some (.cells zc.toArray 36 (0, 0))) := Lib.hid (by rw [← hw1]; exact heap_alloc_new _ _)
  rw [hw1]
  clear hw1
  have hltw : w.heap.size ≤ w1.heap.size := HK1.out.size
  refine (runought_any w1 _ b (HR.out.keep HK1.out fun _ _ => id) false (by rw [HL.out]; exact decide_eq_false HZN.out) (by rw [HL.out]; omega)).mono ?_
  rintro e w3 ⟨rfl, rfl⟩
  go_wp2_with fail
  refine (rropen_any _ b w1 (HR.out.keep HK1.out fun _ _ => id) (by rw [HL.out]; omega) (fun g hg => by have := hlt g hg; omega)).mono ?_
  rintro e w3 ⟨rfl, hrd, hk3⟩
  obtain ⟨p, hp⟩ : ∃ p, w1.heap.size = p := ⟨_, rfl⟩
  rw [hp] at hrd ⊢
  go_wp2_with fail
  refine (rrraw_ok w3 p _ b 0 0 hrd 8 (by omega) (by rw [HL.out]; omega)).mono ?_
  rintro e w4 ⟨v4, rfl, -, hrd4, hk4⟩
  have hk14 : Keep noBlk w1 w4 := hk3.trans' hk4 (fun _ _ h => h) (fun i hi e => by omega)
  have H5 : Hid (RuW w1 (w4.alloc (.cells zc.toArray 36)) w4.heap.size p (.slice a 256 c) b 8 (.slice none 0 0) zUb) := by
    have K : Keep noBlk w4 (w4.alloc (.cells zc.toArray 36)) := (Keep.refl _ _).alloc _
    exact Lib.hid ⟨by rw [HZ.out]; exact heap_alloc_new w4 _, hrd4.keep K id (fun _ _ => id), rfl, rfl, hk14.trans K, fun g hg => by have := hlt g hg; omega, by omega, hk14.size⟩
  clear hrd hk3 hrd4 hk4 hk14
  obtain ⟨ub, hub⟩ : ∃ x, w4.heap.size = x := ⟨_, rfl⟩
  go_wp2_with (first
    | ((with_reducible show wpList _ _ _ (⟨some 5, .alloc 36, _, _, _, _⟩ :: _) _ _); refine wpList_alloc_at rfl 36 rfl _ hzv zc.toArray rfl ?_; rw [hub]))
  rw [hub] at H5
  obtain ⟨wx, hwx⟩ : ∃ x, w4.alloc (.cells zc.toArray 36) = x := ⟨_, rfl⟩
  rw [hwx] at H5 ⊢
  clear hub hwx hp
  have H5 := Lib.hid (H5.out.same (w' := wx.drew) (Keep.refl noBlk wx).drew)
  have hS : (fun _ : World => True) wx.drew := True.intro
  refine wp_region_held (S := fun _ : World => True) (by kernel_rfl) ?_
  change wpAnyH _ _ _ _ _ _ _ _ wx.drew
  generalize wx.drew = w5 at hS H5 ⊢
  refine wpAnyH_take (i := 0) (v := .pointer (some ⟨ub, 37, none⟩)) rfl (by kernel_rfl) (by kernel_rfl) (by kernel_rfl) (fun _ _ _ h => h) (.inl ⟨by rfl, fun _ _ => by go_simp⟩) hS ?_
  simp only [Act.put, List.setIfInBounds_toArray, List.set_cons_zero, List.set_cons_succ, List.getElem_toArray, List.getElem_cons_zero]
  refine wpAnyH_take (i := 1) (v := .slice (some ⟨ub, 37, none⟩) 32 32) rfl (by kernel_rfl) (by kernel_rfl) (by kernel_rfl) (fun _ _ _ h => h) (.inl ⟨by rfl, fun _ _ => by go_simp⟩) hS ?_
  simp only [Act.put, List.setIfInBounds_toArray, List.set_cons_zero, List.set_cons_succ, List.getElem_toArray, List.getElem_cons_succ, List.getElem_cons_zero]
  refine wpAnyH_take (i := 2) (v := .pointer (some ⟨p, 0, none⟩)) rfl (by kernel_rfl) (by kernel_rfl) (by kernel_rfl) (fun _ _ _ h => h) (.inl ⟨by rfl, fun _ _ => rfl⟩) hS ?_
  simp only [Act.put, List.setIfInBounds_toArray, List.set_cons_zero, List.set_cons_succ, List.getElem_toArray, List.getElem_cons_succ, List.getElem_cons_zero]
  refine wpAnyH_one (k := 3) rfl (by kernel_rfl) ?_
  go_wp2_with fail
  refine (rrraw_ok w5 p _ b 8 0 H5.out.rd 32 (by omega) (by rw [HL.out]; omega)).mono ?_
  rintro e w6 ⟨v6, rfl, hown, hrd, hk6⟩
  have H6 := Lib.hid (H5.out.read hk6 hrd)
  have hrd6 := Rd.of_owns hown
  obtain ⟨a6, c6, rfl, -, -⟩ := hrd6.form
  obtain ⟨P, hP⟩ : ∃ P, ((b.drop 8).take 32).map vb = P := ⟨_, rfl⟩
  have hpl : ((b.drop 8).take 32).length = 32 := ubOf_pool HL.out
  have hPl : P.length = 32 := by rw [← hP, List.length_map, hpl]
  have hPo : ∀ u ∈ P, u.oneCell' = true := by rw [← hP]; exact oneCell_vb _
  rw [hP] at hrd6
  have HRD := Lib.hid hrd6; have HPP := Lib.hid hP; have HPL := Lib.hid hpl
  clear hrd6 hP hpl hown hrd hk6 H5
  go_wp2_with fail
  refine ⟨True.intro, ?_⟩
  refine wpAnyH_one (k := 4) rfl (by kernel_rfl) ?_
  refine wpList_copy_rd rfl (.tmp 22) (.tmp 24) 51 51 rfl 5 Tryz.underlying51 sizeU8 ub 37 32 32 rfl _ 32 P rfl HRD.out 32 rfl (ubCs (.slice none 0 0) zUb).toArray _ H6.out.st (by rw [List.size_toArray, ubCs_len H6.out.sum H6.out.pool]; omega) hPo ?_
  intro w7 hb7 hk7
  rw [List.take_of_length_le (by rw [hPl]; exact Nat.le_refl _), ← HPP.out, ubCs_pool _ _ _ H6.out.pool H6.out.sum HPL.out] at hb7
  have H7 := Lib.hid (H6.out.put hk7 hb7 HPL.out H6.out.sum)
  clear hb7 hk7 H6 HRD
  refine wpList_nil ?_
  refine ⟨True.intro, ?_⟩
  refine wpAnyH_done (by kernel_rfl) ?_ _
  go_wp2_with fail
  refine (rrnum_ok w7 p _ b 40 0 H7.out.rd 5 0 1099511627776 (by omega) (by omega) (by rw [HL.out]; omega) (txgOf b) rfl (by omega) (beN5 HL.out)).mono ?_
  rintro e w8 h1
  obtain ⟨he, hrd, hk⟩ := h1
  subst he
  have H8 := Lib.hid (H7.out.read hk hrd)
  clear hk hrd H7
  obtain ⟨u0, g0⟩ := H8.out.get 0 (by omega)
  have kf0 := fun i => blk_free H8.out.st i
  have H9 := Lib.hid (H8.out.setTxg (txgOf b : Int))
  obtain ⟨w9, hw0⟩ : ∃ x, w8.setCell ⟨ub, 0, none⟩ (.int .i64 (txgOf b : Int)) = x := ⟨_, rfl⟩
  rw [hw0] at H9
  go_wp2_with fail
  clear g0 kf0 hw0 H8
  refine (rrnum_ok w9 p _ b 45 0 H9.out.rd 3 0 16777216 (by omega) (by omega) (by rw [HL.out]; omega) (lenOf b) rfl (by omega) (beN3 HL.out)).mono ?_
  rintro e w10 h1
  obtain ⟨he, hrd, hk⟩ := h1
  subst he
  have H10 := Lib.hid (H9.out.read hk hrd)
  clear hk hrd H9
  obtain ⟨u1, g1⟩ := H10.out.get 36 (by omega)
  have kf1 := fun i => blk_free H10.out.st i
  have H11 := Lib.hid (H10.out.setLen (lenOf b : Int))
  obtain ⟨w11, hw1⟩ : ∃ x, w10.setCell ⟨ub, 36, none⟩ (.int .i64 (lenOf b : Int)) = x := ⟨_, rfl⟩
  rw [hw1] at H11
  go_wp2_with fail
  clear g1 kf1 hw1 H10
  refine (rrraw_ok w11 p _ b 48 0 H11.out.rd 47 (by omega) (by rw [HL.out]; omega)).mono ?_
  rintro e w12 ⟨v12, rfl, hown, hrd, hk12⟩
  have H12 := Lib.hid (H11.out.read hk12 hrd)
  have hrr : Rd w12 1 v12 (rootB b).length ((rootB b).map vb) := by rw [rootB_len HL.out]; exact Rd.of_owns hown
  obtain ⟨a12, c12, rfl, -, -⟩ := hrr.form
  have HRR := Lib.hid hrr
  clear hrr hown hrd hk12 H11
  go_wp2_with fail
  refine (rread_any w12 _ (rootB b) HRR.out).mono ?_
  rintro e w13 ⟨hk13, hq⟩
  have H13 := Lib.hid (H12.out.same hk13)
  clear hk13 HRR
  rcases hB : readB (rootB b) with _ | _
  · have HUR := Lib.hid (unpackU_bad HL.out HZN.out (.inr hB))
    rw [hB, if_neg (by decide)] at hq
    subst hq
    obtain ⟨er, ea, hre, hne⟩ := readE_ne (rootB b)
    rw [hre]
    obtain ⟨pc, hpc⟩ : ∃ x, ptCs (.slice none 0 0) zPt = x := ⟨_, rfl⟩
    have hpl : pc.length = 35 := by rw [← hpc]; rfl
    have hpo : ∀ u ∈ pc, u.oneCell' = true := by rw [← hpc]; exact oneCell_pt _
    obtain ⟨w14, hw14, k14, hb14, s14⟩ := alloc_facts w13 (ptCs (.slice none 0 0) zPt).toArray 34
    obtain ⟨w15, hw15, k15, hb15, s15⟩ := alloc_facts w14 #[.int .i64 0, .int .i64 0] 115
    obtain ⟨tb, htb⟩ : ∃ x, w13.heap.size = x := ⟨_, rfl⟩
    obtain ⟨fb, hfb⟩ : ∃ x, w14.heap.size = x := ⟨_, rfl⟩
    have HTF := Lib.hid (show tb < fb by omega)
    rw [htb] at hb14
    rw [hfb] at hb15
    have HT5 := Lib.hid (k15.blk hb14 id); have HF5 := Lib.hid hb15
    have HKN := Lib.hid (k14.trans k15); have HTB := Lib.hid htb
    have hzl2 : (ptCs (.slice none 0 0) zPt).length = 35 := rfl
    clear hb14 hb15 k14 k15 s14 s15
    rw [hpc] at hw14 HT5 hzl2 ⊢
    have hzv2 : ∀ w, (zeroValue 34).run Tryz.prog w = .ok (.agg pc.toArray) w := by rw [← hpc]; exact zeroPtV
    clear hpc hre hB
    go_wp2_with (first
      | ((with_reducible show wpList _ _ _ (⟨some 6, .alloc 34, _, _, _, _⟩ :: _) _ _); refine wpList_alloc_at rfl 34 rfl _ hzv2 pc.toArray rfl ?_; rw [hw14, htb])
      | ((with_reducible show wpList _ _ _ (⟨some 7, .alloc 115, _, _, _, _⟩ :: _) _ _); refine wpList_alloc_at rfl 115 rfl _ zeroFlt #[.int .i64 0, .int .i64 0] rfl ?_; rw [hw15, hfb])
      | ((with_reducible show wpList _ _ _ (⟨none, .store 34 (.tmp 6) (.tmp 36), _, _, _, _⟩ :: _) _ _); refine wpList_store_agg rfl 34 (.tmp 6) (.tmp 36) rfl tb 0 pc rfl rfl _ 34 HT5.out (by rw [hpl, List.size_toArray, hzl2]; exact Nat.le_refl _) (sizePtL hpl) hpo ?_; intro w16 hb6 hk6; rw [spl_whole _ _ (by rw [hpl, List.size_toArray, hzl2])] at hb6; have HT6 := Lib.hid hb6; have HF6 := Lib.hid (hk6.blk HF5.out (by have := HTF.out; omega)); have HK6 := Lib.hid hk6; clear hb6 hk6)
      | ((with_reducible show wpList _ _ _ (⟨none, .store 115 (.tmp 7) (.tmp 37), _, _, _, _⟩ :: _) _ _); refine wpList_store_agg rfl 115 (.tmp 7) (.tmp 37) rfl fb 0 [.int .i64 er, .int .i64 ea] rfl rfl #[.int .i64 0, .int .i64 0] 115 HF6.out (Nat.le_refl _) sizeFault (by simp [Value.oneCell']) ?_; intro w17 hb7 hk7; rw [spl_whole _ _ (by rfl)] at hb7; have HT7 := Lib.hid (hk7.blk HT6.out (by have := HTF.out; omega)); have hcf := blk_cell (i := 0) (v := .int .i64 er) hb7 rfl; have HK37 := Lib.hid ((HKN.out.trans' HK6.out (U := noBlk) (fun _ _ h => h) (fun i hi e => by have := HTB.out; omega)).trans' hk7 (U := noBlk) (fun _ _ h => h) (fun i hi e => by have := HTB.out; have := HTF.out; omega)); have H17 := Lib.hid (H13.out.same HK37.out); clear hb7 hk7)
      | ((with_reducible show wpList _ _ _ (⟨none, .store 36 (.tmp 2) (.tmp 41), _, _, _, _⟩ :: _) _ _); refine wpList_store_agg rfl 36 (.tmp 2) (.tmp 41) rfl w.heap.size 0 zc rfl rfl _ _ (H17.out.keep.blk HRES.out id) (by simp) (sizeUbL hzl) hzo ?_; intro w20 hb4 hk4; have HB4 := Lib.hid hb4; have HK4 := Lib.hid hk4; clear hb4 hk4))
    refine bodyPost_ret (results_cell_row_tmp rfl _ _ w.heap.size _ _ _ _ rfl HB4.out ubUnder rfl (by rw [spl_size, List.size_toArray]; exact sizeUbL hzl)) rfl ?_
    rw [HUR.out]
    refine ⟨.slice none 0 0, ?_, World.ownsRow_nil _ _ _ _, ?_⟩
    · rw [spl_whole _ _ (by simp), HZ.out]; rfl
    · exact (HK1.out.trans H17.out.keep).trans' HK4.out (fun _ _ h => h) (fun i hi e => by omega)

  · rw [hB, if_pos rfl] at hq
    obtain ⟨uv2, rfl, ho3⟩ := hq
    have HQS := Lib.hid (readB_sum hB)
    have HO13 := Lib.hid (ownsRow_mono ho3 (H12.out.keep.size))
    obtain ⟨oa, ca, hv2, -, -⟩ := (Rd.of_owns ho3).form
    subst hv2
    clear ho3 hB
    obtain ⟨pc, hpc⟩ : ∃ x, ptCs (.slice oa (ptOf (rootB b)).addrs.length ca) (ptOf (rootB b)) = x := ⟨_, rfl⟩
    have hpl : pc.length = 35 := by rw [← hpc]; exact ptCs_len HQS.out
    have hpo : ∀ u ∈ pc, u.oneCell' = true := by rw [← hpc]; exact oneCell_pt _
    have HPC := Lib.hid hpc
    rw [hpc]
    clear hpc
    obtain ⟨w14, hw14, k14, hb14, s14⟩ := alloc_facts w13 (ptCs (.slice none 0 0) zPt).toArray 34
    obtain ⟨w15, hw15, k15, hb15, s15⟩ := alloc_facts w14 #[.int .i64 0, .int .i64 0] 115
    obtain ⟨tb, htb⟩ : ∃ x, w13.heap.size = x := ⟨_, rfl⟩
    obtain ⟨fb, hfb⟩ : ∃ x, w14.heap.size = x := ⟨_, rfl⟩
    have HTF := Lib.hid (show tb < fb by omega)
    rw [htb] at hb14
    rw [hfb] at hb15
    have HT5 := Lib.hid (k15.blk hb14 id); have HF5 := Lib.hid hb15
    have HKN := Lib.hid (k14.trans k15); have HTB := Lib.hid htb
    have hzl2 : (ptCs (.slice none 0 0) zPt).length = 35 := rfl
    clear hb14 hb15 k14 k15 s14 s15
    go_wp2_with (first
      | ((with_reducible show wpList _ _ _ (⟨some 6, .alloc 34, _, _, _, _⟩ :: _) _ _); refine wpList_alloc_at rfl 34 rfl _ zeroPtV (ptCs (.slice none 0 0) zPt).toArray rfl ?_; rw [hw14, htb])
      | ((with_reducible show wpList _ _ _ (⟨some 7, .alloc 115, _, _, _, _⟩ :: _) _ _); refine wpList_alloc_at rfl 115 rfl _ zeroFlt #[.int .i64 0, .int .i64 0] rfl ?_; rw [hw15, hfb])
      | ((with_reducible show wpList _ _ _ (⟨none, .store 34 (.tmp 6) (.tmp 36), _, _, _, _⟩ :: _) _ _); refine wpList_store_agg rfl 34 (.tmp 6) (.tmp 36) rfl tb 0 pc rfl rfl _ 34 HT5.out (by rw [hpl, List.size_toArray, hzl2]; exact Nat.le_refl _) (sizePtL hpl) hpo ?_; intro w16 hb6 hk6; rw [spl_whole _ _ (by rw [hpl, List.size_toArray, hzl2])] at hb6; have HT6 := Lib.hid hb6; have HF6 := Lib.hid (hk6.blk HF5.out (by have := HTF.out; omega)); have HK6 := Lib.hid hk6; clear hb6 hk6)
      | ((with_reducible show wpList _ _ _ (⟨none, .store 115 (.tmp 7) (.tmp 37), _, _, _, _⟩ :: _) _ _); refine wpList_store_agg rfl 115 (.tmp 7) (.tmp 37) rfl fb 0 [.int .i64 0, .int .i64 0] rfl rfl #[.int .i64 0, .int .i64 0] 115 HF6.out (Nat.le_refl _) sizeFault (by simp [Value.oneCell']) ?_; intro w17 hb7 hk7; rw [spl_whole _ _ (by rfl)] at hb7; have HT7 := Lib.hid (hk7.blk HT6.out (by have := HTF.out; omega)); have hcf := blk_cell (i := 0) (v := .int .i64 0) hb7 rfl; have HK37 := Lib.hid ((HKN.out.trans' HK6.out (U := noBlk) (fun _ _ h => h) (fun i hi e => by have := HTB.out; omega)).trans' hk7 (U := noBlk) (fun _ _ h => h) (fun i hi e => by have := HTB.out; have := HTF.out; omega)); have H17 := Lib.hid (H13.out.same HK37.out); clear hb7 hk7)
      | ((with_reducible show wpList _ _ _ (⟨some 42, .load 34 (.tmp 6), _, _, _, _⟩ :: _) _ _); refine wpList_load_g (by rfl) 34 (.tmp 6) rfl tb 0 rfl pc _ (rangeAt_whole HT7.out) ptUnder rfl (sizePtL hpl) ?_; have HO17 := Lib.hid (HK37.out.owns HO13.out (fun _ _ => id)))
      | ((with_reducible show wpList _ _ _ (⟨none, .store 34 (.tmp 43) (.tmp 42), _, _, _, _⟩ :: _) _ _); refine wpList_store_agg rfl 34 (.tmp 43) (.tmp 42) rfl ub 1 pc rfl rfl _ _ H17.out.st (by rw [hpl, List.size_toArray, ubCs_len H17.out.sum H17.out.pool]; omega) (sizePtL hpl) hpo ?_; intro w18 hb8 hk8; rw [← HPC.out, ubCs_root _ _ _ _ H17.out.pool H17.out.sum HQS.out] at hb8; have H18 := Lib.hid (H17.out.put hk8 hb8 H17.out.pool HQS.out); have HO18 := Lib.hid (hk8.owns HO17.out (fun g hg e => by subst e; obtain ⟨cur, hc⟩ := owns_block HO17.out hg; rw [H17.out.st] at hc; have e := Option.some.inj hc; injection e with _ e2 _; exact absurd e2 (by decide))); have HST := Lib.hid (rangeAt_whole H18.out.st); clear hb8 hk8)
      | ((with_reducible show wpList _ _ _ (⟨some 45, .load 36 (.tmp 5), _, _, _, _⟩ :: _) _ _); refine wpList_load_g (by rfl) 36 (.tmp 5) rfl ub 0 rfl _ _ HST.out ubUnder rfl (sizeUbL (ubCs_len H18.out.sum H18.out.pool)) ?_))
    have H18 : Hid (RuW w1 w18 ub p (.slice a 256 c) b 95 (.slice oa (ubOf b).root.addrs.length ca) (ubOf b)) := H18
    have HO18 : Hid (w18.ownsRow w1.heap.size 70 2 (.slice oa (ubOf b).root.addrs.length ca) (ubOf b).root.addrs.length (adCells (ubOf b).root.addrs)) := HO18
    have HUV : Hid (UbV w18 (.slice oa (ubOf b).root.addrs.length ca) (ubOf b)) := Lib.hid ⟨⟨Rd.of_owns HO18.out, adsOf_ok _ _, ubOf_sum HL.out⟩, ubOf_pool HL.out⟩
    refine (rupack_any w18 _ (ubOf b) HUV.out).mono ?_
    rintro e w19 ⟨pv, rfl, hop, hk19⟩
    have H19 := Lib.hid (H18.out.same hk19); have HO19 := Lib.hid (hk19.owns HO18.out (fun _ _ => id))
    have HOP := Lib.hid hop
    have hk1 := conv_rd (Rd.of_owns hop)
    have hk2 := conv_rd (HR.out.keep (HK1.out.trans H19.out.keep) (fun _ _ => id))
    obtain ⟨ap, cp, rfl, -, -⟩ := (Rd.of_owns hop).form
    obtain ⟨m, hm⟩ : ∃ m, (ubOf b).root.addrs.length = m := ⟨_, rfl⟩
    have HM := Lib.hid hm
    rw [hm] at H19 HO19
    have HUBR := Lib.hid (rangeAt_whole H19.out.st)
    obtain ⟨uc, huc⟩ : ∃ x, ubCs (.slice oa m ca) (ubOf b) = x := ⟨_, rfl⟩
    have hul : uc.length = 69 := by rw [← huc]; exact ubCs_len (ubOf_sum HL.out) (ubOf_pool HL.out)
    have huo : ∀ u ∈ uc, u.oneCell' = true := by rw [← huc]; exact oneCell_ub _
    have HUC := Lib.hid huc
    rw [huc] at HUBR
    clear H18 HO18 hk19 hm huc HUV hop H13 H17 HO17 HO13 HK37 HT7 HST hcf
    obtain ⟨t, ht⟩ : ∃ t, (ubOf b).may = t := ⟨_, rfl⟩
    have HT := Lib.hid ht
    rw [ht]
    clear ht
    cases t
    · have HUR := Lib.hid (show unpackU b = (zUb, 11) by unfold unpackU; rw [if_neg (by rw [HL.out]; simp), if_neg HZN.out, if_neg (by rw [HT.out]; simp)])
      go_wp2_with (first
        | ((with_reducible show wpList _ _ _ (⟨none, .store 36 (.tmp 2) (.tmp 58), _, _, _, _⟩ :: _) _ _); refine wpList_store_agg rfl 36 (.tmp 2) (.tmp 58) rfl w.heap.size 0 zc rfl rfl _ _ (H19.out.keep.blk HRES.out id) (by simp) (sizeUbL hzl) hzo ?_; intro w20 hb4 hk4; have HB4 := Lib.hid hb4; have HK4 := Lib.hid hk4; clear hb4 hk4))
      refine bodyPost_ret (results_cell_row_tmp rfl _ _ w.heap.size _ _ _ _ rfl HB4.out ubUnder rfl (by rw [spl_size, List.size_toArray]; exact sizeUbL hzl)) rfl ?_
      rw [HUR.out]
      refine ⟨.slice none 0 0, ?_, World.ownsRow_nil _ _ _ _, ?_⟩
      · rw [spl_whole _ _ (by simp), HZ.out]; rfl
      · exact (HK1.out.trans H19.out.keep).trans' HK4.out (fun _ _ h => h) (fun i hi e => by omega)

    · obtain ⟨q, hq⟩ : ∃ q, decide (packU (ubOf b) = b) = q := ⟨_, rfl⟩
      have HQ := Lib.hid hq
      have hcmp : ((strB (packU (ubOf b))).toList == (strB b).toList) = q := by rw [strB_eq]; exact hq
      have hcmp2 : ((strB (packU (ubOf b))).toList != (strB b).toList) = !q := by simp only [bne, hcmp]
      clear hq
      cases q
      · have HUR := Lib.hid (show unpackU b = (zUb, 11) by unfold unpackU; rw [if_neg (by rw [HL.out]; simp), if_neg HZN.out, if_neg (by intro h; exact of_decide_eq_false HQ.out h.2)])
        go_wp2_with (first
          | ((with_reducible show wpList _ _ _ (⟨none, .store 36 (.tmp 2) (.tmp 58), _, _, _, _⟩ :: _) _ _); refine wpList_store_agg rfl 36 (.tmp 2) (.tmp 58) rfl w.heap.size 0 zc rfl rfl _ _ (H19.out.keep.blk HRES.out id) (by simp) (sizeUbL hzl) hzo ?_; intro w20 hb4 hk4; have HB4 := Lib.hid hb4; have HK4 := Lib.hid hk4; clear hb4 hk4))
        refine bodyPost_ret (results_cell_row_tmp rfl _ _ w.heap.size _ _ _ _ rfl HB4.out ubUnder rfl (by rw [spl_size, List.size_toArray]; exact sizeUbL hzl)) rfl ?_
        rw [HUR.out]
        refine ⟨.slice none 0 0, ?_, World.ownsRow_nil _ _ _ _, ?_⟩
        · rw [spl_whole _ _ (by simp), HZ.out]; rfl
        · exact (HK1.out.trans H19.out.keep).trans' HK4.out (fun _ _ h => h) (fun i hi e => by omega)

      · have HUR := Lib.hid (show unpackU b = (ubOf b, 0) by unfold unpackU; rw [if_neg (by rw [HL.out]; simp), if_neg HZN.out, if_pos ⟨HT.out, of_decide_eq_true HQ.out⟩])
        go_wp2_with (first
          | ((with_reducible show wpList _ _ _ (⟨some 59, .load 36 (.tmp 5), _, _, _, _⟩ :: _) _ _); refine wpList_load_g (by rfl) 36 (.tmp 5) rfl ub 0 rfl uc _ HUBR.out ubUnder rfl (sizeUbL hul) ?_)
          | ((with_reducible show wpList _ _ _ (⟨none, .store 36 (.tmp 2) (.tmp 59), _, _, _, _⟩ :: _) _ _); refine wpList_store_agg rfl 36 (.tmp 2) (.tmp 59) rfl w.heap.size 0 uc rfl rfl _ _ (H19.out.keep.blk HRES.out id) (by rw [List.size_toArray, hzl, hul]; exact Nat.le_refl _) (sizeUbL hul) huo ?_; intro w20 hb4 hk4; have HB4 := Lib.hid hb4; have HK4 := Lib.hid hk4; clear hb4 hk4))
        refine bodyPost_ret (results_cell_row_tmp rfl _ _ w.heap.size _ _ _ _ rfl HB4.out ubUnder rfl (by rw [spl_size, List.size_toArray]; exact sizeUbL hzl)) rfl ?_
        rw [HUR.out]
        have hws : w.heap.size < w1.heap.size := lt_of_block HRES.out
        refine ⟨.slice oa m ca, ?_, ?_, ?_⟩
        · rw [spl_whole _ _ (by rw [List.size_toArray, hzl, hul]), ← HUC.out]; rfl
        · rw [HM.out]
          exact ownsRow_mono (HK4.out.owns HO19.out (fun g hg e => by have := owns_base HO19.out hg; omega)) (by omega)
        · exact (HK1.out.trans H19.out.keep).trans' HK4.out (fun _ _ h => h) (fun i hi e => by omega)

/-- Unpack, the document's. -/
theorem ruunpack_any (w : World) (bv : Value) (b : List UInt8) (hr : Rd w 1 bv b.length (b.map vb)) (hb : b.length ≤ 65536) :
    Calls Tryz.prog 45 #[bv] w (UUnpackPost w (unpackU b)) := by
  by_cases hl : b.length = 256
  · by_cases hz : b = List.replicate 256 0
    · exact ruunpack_zero w bv b hr hl hz
    · exact ruunpack_rest w bv b hr hl hz
  · have e : unpackU b = (zUb, 4) := by unfold unpackU; rw [if_pos hl]
    rw [e]
    exact ruunpack_len w bv b hr hb hl

end Go.Proofs.YtaiicjhnhbkgmaaGreatDoor
