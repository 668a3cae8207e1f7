/-
  The reader of package field: Raw and Num.
  Conditions: the bounds on sizes that each theorem names.
-/
import Derived.Test.YtdlegbcdmlmbpaaReader1
namespace Go.Proofs.Ytdlegbcdmlmbpaa
open Go.RowKit
set_option maxRecDepth 100000

/-- What the closure of Raw leaves. -/
def Raw1Q (w : World) (Ao base p : Nat) (v : Value) (l bs : List UInt8) (at_ n : Nat) (fa : Int) (w' : World) : Prop :=
  ∃ v', w'.heap[Ao]? = some (.cells #[v'] 26 (0, 0)) ∧ w'.ownsRow w.heap.size 5 1 v' n (bs.map vb) ∧ Rdr w' base p v l (at_ + n) 0 fa ∧ Keep (fun k => k = p ∨ k = Ao) w w'

set_option maxHeartbeats 1000000 in
theorem raw1_ok (w : World) (base p : Nat) (v : Value) (l : List UInt8) (at_ : Nat) (fa : Int) (h : Rdr w base p v l at_ 0 fa) (An Ar Ao : Nat) (n : Nat) (h1 : 1 ≤ n) (hn : at_ + n ≤ l.length)
    (hAn : w.heap[An]? = some (.cells #[.int .i64 n] 3 (0, 0))) (hAr : w.heap[Ar]? = some (.cells #[.pointer (some ⟨p, 0, none⟩)] 61 (0, 0))) (hAo : w.heap[Ao]? = some (.cells #[.slice none 0 0] 26 (0, 0))) :
    Calls Try.prog 74 #[.pointer (some ⟨An, 0, none⟩), .pointer (some ⟨Ar, 0, none⟩), .pointer (some ⟨Ao, 0, none⟩)] w (RetQ (Raw1Q w Ao base p v l ((l.drop at_).take n) at_ n fa)) := by
  obtain ⟨c0, c1, c2, c3, c4, cf⟩ := h.cells
  have cn : w.cell? ⟨An, 0, none⟩ = some (.int .i64 n) := blk_cell hAn rfl
  have cr : w.cell? ⟨Ar, 0, none⟩ = some (.pointer (some ⟨p, 0, none⟩)) := blk_cell hAr rfl
  have C := Lib.hid (need_ok w base p v l at_ 0 fa h n h1 hn)
  have hm := h.max
  have HH := Lib.hid h; have HAn := Lib.hid hAn; have HAr := Lib.hid hAr; have HAo := Lib.hid hAo
  have hnp : Ao ≠ p := by intro e; subst e; rw [h.blk] at hAo; cases hAo
  clear h hAn hAr hAo
  have hn0 : decide ((n : Int) < 0) = false := by simp
  go_enter Try.func74, Try.ntmps74
  go_wp2_with fail
  refine C.out.mono ?_
  rintro e w1 ⟨bv, rfl, hrd, hk1⟩
  have hlen : ((l.drop at_).take n).length = n := by simp; omega
  obtain ⟨bs, hbs⟩ : ∃ bs, (l.drop at_).take n = bs := ⟨_, rfl⟩
  rw [hbs] at hrd hlen ⊢
  have HBS := Lib.hid hbs; clear hbs
  obtain ⟨a1, cp1, rfl, -, -⟩ := hrd.form
  have hrd' : Rd w1 1 (.slice a1 n cp1) bs.length (bs.map vb) := by rw [hlen]; exact hrd
  have C2 := Lib.hid (clone_any (.slice a1 n cp1) bs w1 hrd' (by omega))
  have HK1 := Lib.hid hk1
  clear hrd hrd' hk1 c0 c1 c2 c3 c4 cf cn cr
  go_wp2_with fail
  refine C2.out.mono ?_
  rintro e w2 ⟨v2, rfl, hown2, hk2⟩
  rw [hlen] at hown2
  have HL := Lib.hid hlen; clear hlen
  obtain ⟨a2, cp2, rfl, -, -⟩ := (Rd.of_owns hown2).form
  have K2 := HK1.out.trans hk2
  have hAo2 := K2.blk HAo.out id
  have co2 : w2.cell? ⟨Ao, 0, none⟩ = some (.slice none 0 0) := blk_cell hAo2 rfl
  have fo2 := blk_free hAo2 0
  have h3 := HH.out.keep K2 id (fun _ _ => id)
  obtain ⟨w3, hw3⟩ : ∃ w3, w2.setCell ⟨Ao, 0, none⟩ (.slice a2 n cp2) = w3 := ⟨_, rfl⟩
  have hno : ∀ g, (Value.slice a2 n cp2).ownBlock = some g → g ≠ Ao := by
    intro g hg e
    subst e
    have := owns_ge hown2 hg
    have := lt_of_block (HK1.out.blk HAo.out id)
    omega
  have K3 : Keep (fun k => k = Ao) w2 w3 := by rw [← hw3]; exact (Keep.refl (fun k => k = Ao) w2).setCell (fun _ => rfl) _
  have hvo : ∀ g, v.ownBlock = some g → ¬ g = Ao := by
    intro g hg e
    subst e
    obtain ⟨cur, hc⟩ := owns_block HH.out.own hg
    rw [HAo.out] at hc
    cases hc
  have h4 := h3.keep K3 (by omega) hvo
  have hAo3 : w3.heap[Ao]? = some (.cells #[.slice a2 n cp2] 26 (0, 0)) := by rw [← hw3, set_blk hAo2]; rfl
  have hown3 := K3.owns hown2 (fun k hk => hno k hk)
  have cn : w3.cell? ⟨An, 0, none⟩ = some (.int .i64 n) := K3.cell (K2.cell (blk_cell HAn.out rfl) id) (by intro e; subst e; have := HAn.out; rw [HAo.out] at this; cases this)
  have cr : w3.cell? ⟨Ar, 0, none⟩ = some (.pointer (some ⟨p, 0, none⟩)) := K3.cell (K2.cell (blk_cell HAr.out rfl) id) (by intro e; subst e; have := HAr.out; rw [HAo.out] at this; cases this)
  obtain ⟨c0, c1, c2, c3, c4, cf⟩ := h4.cells
  have hle := HK1.out.size
  have H4 := Lib.hid h4; have HO3 := Lib.hid hown3; have HAo3 := Lib.hid hAo3
  have HK := Lib.hid (show Keep (fun k => k = p ∨ k = Ao) w w3 from (K2.any).trans (K3.mono fun _ _ h => .inr h))
  clear hown2 hk2 K2 hAo2 h3 K3 h4 hown3 hAo3 hno hvo
  go_wp2_with fail
  clear hw3 co2 fo2
  have e1 : IntKind.i64.wrap ((at_ : Int) + (n : Int)) = (at_ : Int) + (n : Int) := by rw [IntWalk.i64_in _ (by omega)]
  go_still_tail 8, (by kernel_rfl)
  clear e1
  go_wp2_with fail
  go_end0
  have KP : Keep (fun k => k = p) w3 ((w3.setCell ⟨p, 2, none⟩ (.int .i64 ((at_ + n : Nat) : Int))).drew) := ((Keep.refl (fun k => k = p) w3).setCell (fun _ => rfl) _).drew
  refine ⟨rfl, _, KP.blk HAo3.out (by omega), ?_, ((H4.out.setAt (at_ + n) hn).keep (Keep.refl noBlk _).drew id (fun _ _ => id)), HK.out.trans (KP.mono fun _ _ h => .inl h)⟩
  rw [HBS.out]
  refine ownsRow_mono (KP.owns HO3.out fun k hk e => ?_) hle
  have := owns_ge HO3.out hk
  have := lt_of_block HH.out.blk
  omega

theorem boxes2 (w : World) (x y : Obj) : ((w.alloc x).alloc y).heap[w.heap.size]? = some x ∧ ((w.alloc x).alloc y).heap[w.heap.size + 1]? = some y := by
  refine ⟨?_, ?_⟩
  · rw [heap_alloc_old _ _ (by simp)]; exact heap_alloc_new _ _
  · have := heap_alloc_new (w.alloc x) y
    rwa [World.size_alloc] at this
theorem boxes3 (w : World) (x y z : Obj) : (((w.alloc x).alloc y).alloc z).heap[w.heap.size]? = some x ∧ (((w.alloc x).alloc y).alloc z).heap[w.heap.size + 1]? = some y ∧ (((w.alloc x).alloc y).alloc z).heap[w.heap.size + 2]? = some z := by
  obtain ⟨h1, h2⟩ := boxes2 w x y
  refine ⟨?_, ?_, ?_⟩
  · rw [heap_alloc_old _ _ (lt_of_block h1)]; exact h1
  · rw [heap_alloc_old _ _ (lt_of_block h2)]; exact h2
  · have := heap_alloc_new ((w.alloc x).alloc y) z
    rwa [World.size_alloc, World.size_alloc] at this

/-- What Raw tells of a reader without a fault that has enough. -/
def RawPost (w : World) (base p : Nat) (v : Value) (l : List UInt8) (at_ n : Nat) (fa : Int) (e : Ending) (w' : World) : Prop :=
  ∃ v', e = .returned v' ∧ w'.ownsRow w.heap.size 5 1 v' n (((l.drop at_).take n).map vb) ∧ Rdr w' base p v l (at_ + n) 0 fa ∧ Keep (fun k => k = p) w w'
set_option maxHeartbeats 1000000 in
theorem rraw_ok (w : World) (base p : Nat) (v : Value) (l : List UInt8) (at_ : Nat) (fa : Int) (h : Rdr w base p v l at_ 0 fa) (n : Nat) (h1 : 1 ≤ n) (hn : at_ + n ≤ l.length) :
    Calls Try.prog 49 #[.pointer (some ⟨p, 0, none⟩), .int .i64 n] w (RawPost w base p v l at_ n fa) := by
  have hmf : ∀ (fn : Fn) (first cap : Array Value) (w : World), (Instr.makeFunc fn first cap).run Try.prog w = .ok (.func fn first cap) w := fun _ _ _ _ => rfl
  obtain ⟨W1, hW1⟩ : ∃ W1, ((w.alloc (.cells #[.pointer (some ⟨p, 0, none⟩)] 61)).alloc (.cells #[.int .i64 n] 3)).alloc (.cells #[.slice none 0 0] 26) = W1 := ⟨_, rfl⟩
  have K1 : Keep noBlk w W1 := by rw [← hW1]; exact (((Keep.refl _ _).alloc _).alloc _).alloc _
  have hs1 : w.heap.size + 3 = W1.heap.size := by rw [← hW1]; simp
  obtain ⟨b0, b1, b2⟩ := boxes3 w (.cells #[.pointer (some ⟨p, 0, none⟩)] 61) (.cells #[.int .i64 n] 3) (.cells #[.slice none 0 0] 26)
  rw [hW1] at b0 b1 b2
  have hK := boxP_keep W1 p
  have hR := (h.keep K1 id (fun _ _ => id))
  have c1 := raw1_ok (boxP W1 p) base p v l at_ fa (hR.keep hK id (fun _ _ => id)) (w.heap.size + 1) w.heap.size (w.heap.size + 2) n h1 hn (hK.blk b1 id) (hK.blk b0 id) (hK.blk b2 id)
  have C := Lib.hid (read_ret W1 base p v l at_ fa hR 74 #[.pointer (some ⟨w.heap.size + 1, 0, none⟩), .pointer (some ⟨w.heap.size, 0, none⟩), .pointer (some ⟨w.heap.size + 2, 0, none⟩)] (fun _ => rfl) _ c1)
  have hplt := lt_of_block h.blk
  have cb0 : W1.cell? ⟨w.heap.size, 0, none⟩ = some (.pointer (some ⟨p, 0, none⟩)) := blk_cell b0 rfl
  have HK := Lib.hid (K1.trans hK); have HH := Lib.hid h; have HS := Lib.hid hs1
  clear h K1 b0 b1 b2 hR c1 hK hs1
  go_enter Try.func49, Try.ntmps49
  go_wp2_with fail
  refine C.out.mono ?_
  rintro e w2 ⟨rfl, v', hb, hown, hrd, hk⟩
  clear hW1 C
  have co := blk_cell (i := 0) (v := v') hb rfl
  obtain ⟨a2, cp2, rfl, -, -⟩ := (Rd.of_owns hown).form
  have HO := Lib.hid hown; have HR := Lib.hid hrd; have HK2 := Lib.hid hk
  clear hb hown hrd hk
  go_wp2_with fail
  go_ret
  refine ⟨_, rfl, ownsRow_mono HO.out HK.out.size, HR.out, HK.out.trans' HK2.out (fun _ _ h => h.elim) (fun i hi e => ?_)⟩
  rcases e with e | e
  · exact e
  · omega

end Go.Proofs.Ytdlegbcdmlmbpaa
