/-
  The reader of package field: Num.
  Conditions: the bounds on sizes that each theorem names.
-/
import Derived.Test.YtdlegbcdmlmbpaaReader1
namespace Go.Proofs.Ytdlegbcdmlmbpaa
open Go.RowKit
set_option maxRecDepth 100000

/-- A number out of its bytes, the highest first. -/
def beN (l : List UInt8) : Nat := l.foldl (fun a c => a * 256 + c.toNat) 0
theorem beN_snoc (l : List UInt8) (c : UInt8) : beN (l ++ [c]) = beN l * 256 + c.toNat := by simp [beN]
theorem beN_lt' : ∀ (l : List UInt8) (a : Nat), l.foldl (fun a c => a * 256 + c.toNat) a < (a + 1) * 256 ^ l.length
  | [], a => by simp
  | c :: l, a => by
    rw [List.foldl_cons, List.length_cons]
    have h1 := beN_lt' l (a * 256 + c.toNat)
    have h2 := c.toNat_lt
    have h3 : (a * 256 + c.toNat + 1) * 256 ^ l.length ≤ (a + 1) * 256 * 256 ^ l.length := Nat.mul_le_mul_right _ (by omega)
    rw [Nat.pow_succ, Nat.mul_comm (256 ^ l.length), ← Nat.mul_assoc]
    omega
theorem beN_lt (l : List UInt8) : beN l < 256 ^ l.length := by simpa [beN] using beN_lt' l 0
theorem or_byte (x c : Nat) (hx : x < 281474976710656) (hc : c < 256) : bits .or .i64 ((x : Int) * 256) (c : Int) = ((x * 256 + c : Nat) : Int) := by
  rw [show ((x : Int) * 256) = ((x * 256 : Nat) : Int) by simp]
  have h1 : x * 256 ||| c = x * 256 + c := by
    have := Nat.shiftLeft_add_eq_or_of_lt (i := 8) (b := c) (by omega) x
    rw [Nat.shiftLeft_eq] at this
    exact this.symm
  show IntKind.i64.wrap ((BitVec.ofInt 64 ((x * 256 : Nat) : Int) ||| BitVec.ofInt 64 (c : Int)).toNat : Int) = _
  rw [BitVec.toNat_or, show (BitVec.ofInt 64 ((x * 256 : Nat) : Int)).toNat = x * 256 by simp; omega, show (BitVec.ofInt 64 (c : Int)).toNat = c by simp; omega, h1]
  rw [IntWalk.i64_in _ (by omega)]
theorem beN_le (l : List UInt8) (h : l.length ≤ 6) : beN l < 281474976710656 := by
  have h1 := beN_lt l
  have h2 : 256 ^ l.length ≤ 256 ^ 6 := Nat.pow_le_pow_right (by omega) h
  have h3 : (256 : Nat) ^ 6 = 281474976710656 := by decide
  omega

/-- The boxes of Num, as its closure finds them. -/
structure NumB (w : World) (p An Ar Al Ah Ao : Nat) (size low high : Int) : Prop where
  n : w.heap[An]? = some (.cells #[.int .i64 size] 3 (0, 0))
  r : w.heap[Ar]? = some (.cells #[.pointer (some ⟨p, 0, none⟩)] 61 (0, 0))
  l : w.heap[Al]? = some (.cells #[.int .i64 low] 3 (0, 0))
  h : w.heap[Ah]? = some (.cells #[.int .i64 high] 3 (0, 0))
  o : w.heap[Ao]? = some (.cells #[.int .i64 0] 3 (0, 0))
  ne : Ao ≠ p ∧ Ao ≠ An ∧ Ao ≠ Ar ∧ Ao ≠ Al ∧ Ao ≠ Ah
theorem NumB.keep {w w' : World} {p An Ar Al Ah Ao : Nat} {size low high : Int} (b : NumB w p An Ar Al Ah Ao size low high) (k : Keep noBlk w w') : NumB w' p An Ar Al Ah Ao size low high :=
  ⟨k.blk b.n id, k.blk b.r id, k.blk b.l id, k.blk b.h id, k.blk b.o id, b.ne⟩
theorem NumB.cells {w : World} {p An Ar Al Ah Ao : Nat} {size low high : Int} (b : NumB w p An Ar Al Ah Ao size low high) :
    w.cell? ⟨An, 0, none⟩ = some (.int .i64 size) ∧ w.cell? ⟨Ar, 0, none⟩ = some (.pointer (some ⟨p, 0, none⟩)) ∧ w.cell? ⟨Al, 0, none⟩ = some (.int .i64 low) ∧ w.cell? ⟨Ah, 0, none⟩ = some (.int .i64 high) ∧
    w.cell? ⟨Ao, 0, none⟩ = some (.int .i64 0) ∧ w.frozen? ⟨Ao, 0, none⟩ = false :=
  ⟨blk_cell b.n rfl, blk_cell b.r rfl, blk_cell b.l rfl, blk_cell b.h rfl, blk_cell b.o rfl, blk_free b.o 0⟩

def Num1Q (w : World) (Ao base p : Nat) (v : Value) (l : List UInt8) (x : Int) (at_ : Nat) (fa : Int) (w' : World) : Prop :=
  w'.heap[Ao]? = some (.cells #[.int .i64 x] 3 (0, 0)) ∧ Rdr w' base p v l at_ 0 fa ∧ Keep (fun k => k = p ∨ k = Ao) w w'
theorem num1_end {w w1 : World} {base p : Nat} {v : Value} {l : List UInt8} {at_ : Nat} {fa : Int} {An Ar Al Ah Ao : Nat} {size low high : Int} (hk : Keep noBlk w w1) (h : Rdr w1 base p v l at_ 0 fa) (hb : NumB w1 p An Ar Al Ah Ao size low high)
    (x : Int) (k : Nat) (hn : at_ + k ≤ l.length) : Num1Q w Ao base p v l x (at_ + k) fa ((w1.setCell ⟨Ao, 0, none⟩ (.int .i64 x)).setCell ⟨p, 2, none⟩ (.int .i64 ((at_ : Int) + (k : Int)))).drew := by
  have K1 : Keep (fun i => i = Ao) w1 (w1.setCell ⟨Ao, 0, none⟩ (.int .i64 x)) := (Keep.refl (fun i => i = Ao) w1).setCell (fun _ => rfl) _
  have h1 := h.keep K1 (by have := hb.ne.1; omega) (fun g hg e => by
    subst e
    obtain ⟨cur, hc⟩ := owns_block h.own hg
    rw [hb.o] at hc
    cases hc)
  have b1 : (w1.setCell ⟨Ao, 0, none⟩ (.int .i64 x)).heap[Ao]? = some (.cells #[.int .i64 x] 3 (0, 0)) := by rw [set_blk hb.o]; rfl
  have h2 := h1.setAt (at_ + k) hn
  rw [show (((at_ + k : Nat)) : Int) = (at_ : Int) + (k : Int) by simp] at h2
  have K2 : Keep (fun i => i = p) (w1.setCell ⟨Ao, 0, none⟩ (.int .i64 x)) ((w1.setCell ⟨Ao, 0, none⟩ (.int .i64 x)).setCell ⟨p, 2, none⟩ (.int .i64 ((at_ : Int) + (k : Int)))).drew := ((Keep.refl (fun i => i = p) _).setCell (fun _ => rfl) _).drew
  exact ⟨K2.blk b1 hb.ne.1, h2.keep (Keep.refl noBlk _).drew id (fun _ _ => id), ((hk.any).trans' K1 (fun _ _ h => h) (fun _ _ e => .inr e)).trans' K2 (fun _ _ h => h) (fun _ _ e => .inl e)⟩

def Num1P (w : World) (Ao base p : Nat) (v : Value) (l : List UInt8) (x low high : Int) (at_ n : Nat) (fa : Int) (e : Ending) (w' : World) : Prop :=
  if low ≤ x ∧ x ≤ high then RetQ (Num1Q w Ao base p v l x (at_ + n) fa) e w' else StopQ 5 at_ (Keep noBlk w) e w'
set_option maxHeartbeats 1000000 in
theorem num1_rok (w : World) (base p : Nat) (v : Value) (l : List UInt8) (at_ : Nat) (fa : Int) (h : Rdr w base p v l at_ 0 fa) (An Ar Al Ah Ao : Nat) (n : Nat) (low high : Int) (h1 : 1 ≤ n) (h7 : n ≤ 6) (hn : at_ + n ≤ l.length)
    (hb : NumB w p An Ar Al Ah Ao n low high) (x : Nat) (hx : beN ((l.drop at_).take n) = x) :
    Calls Try.prog 76 #[.pointer (some ⟨An, 0, none⟩), .pointer (some ⟨Ar, 0, none⟩), .pointer (some ⟨Al, 0, none⟩), .pointer (some ⟨Ah, 0, none⟩), .pointer (some ⟨Ao, 0, none⟩)] w
      (Num1P w Ao base p v l x low high at_ n fa) := by
  obtain ⟨cn, cr, cl, ch, co, cfo⟩ := hb.cells
  have C := Lib.hid (need_ok w base p v l at_ 0 fa h n h1 hn)
  have hm := h.max
  have HH := Lib.hid h; have HB := Lib.hid hb; have HX := Lib.hid hx
  clear h hb hx
  have hn0 : decide ((n : Int) < 1) = false := by simp; omega
  have hn1 : decide ((7 : Int) < n) = false := by simp; omega
  go_enter Try.func76, Try.ntmps76
  go_wp2_with fail
  refine C.out.mono ?_
  rintro e w1 ⟨bv, rfl, hrd, hk1⟩
  have hlen : ((l.drop at_).take n).length = n := by simp; omega
  obtain ⟨bs, hbs⟩ : ∃ bs, (l.drop at_).take n = bs := ⟨_, rfl⟩
  rw [hbs] at hrd hlen
  have HX2 := Lib.hid (show beN bs = x by rw [← hbs]; exact HX.out)
  have HBS := Lib.hid hbs; clear hbs
  obtain ⟨g, o, cp, hcp, rfl, hcells⟩ : ∃ g o cp, n ≤ cp ∧ bv = .slice (some ⟨g, o, none⟩) n cp ∧ ∀ k, (hk : k < bs.length) → w1.cell? ⟨g, o + k, none⟩ = some (.int .u8 (bs[k].toNat : Int)) := by
    obtain ⟨h0, a, cap, rfl, h2, h3, h4, h5⟩ := hrd
    obtain ⟨g, o, rfl, hc⟩ := h5 (by simp [hlen]; omega)
    exact ⟨g, o, cap, h2, rfl, fun k hk => hc k _ (by simp [hk, vb])⟩
  have HC := Lib.hid hcells; have HL := Lib.hid hlen
  have HB1 := Lib.hid (HB.out.keep hk1); have HH1 := Lib.hid (HH.out.keep hk1 id (fun _ _ => id)); have HK1 := Lib.hid hk1
  clear hrd hcells hlen hk1 cn cr cl ch co cfo
  go_wp2_with fail
  go_loop [5, 24] (fun x i => ∃ k : Nat, k ≤ n ∧ i = .int .i64 k ∧ x = .int .i64 (beN (bs.take k) : Int)) (fun _ i => n - (intOf i).toNat)
  case atStart => exact ⟨0, by omega, rfl, rfl⟩
  case round =>
    obtain ⟨k, hk, rfl, rfl⟩ := hrel
    by_cases hkn : k < n
    · have hkl : k < bs.length := by rw [HL.out]; exact hkn
      have c0 := HC.out k hkl
      have hx := beN_le (bs.take k) (by simp; omega)
      have hs := beN_snoc (bs.take k) bs[k]
      have hc8 := bs[k].toNat_lt
      rw [← List.take_succ_eq_append_getElem hkl] at hs
      obtain ⟨c, hc⟩ : ∃ c, bs[k].toNat = c := ⟨_, rfl⟩
      rw [hc] at c0 hs hc8
      obtain ⟨y, hX⟩ : ∃ y, beN (bs.take k) = y := ⟨_, rfl⟩
      rw [hX] at hs hx ⊢
      have HS := Lib.hid hs
      clear hs hX hc
      have hk0 : (0 : Int) ≤ (k : Int) := by omega
      have hk1 : (k : Int) < (n : Int) := by omega
      have hor := or_byte y c hx hc8
      go_wp2_with fail
      go_round
      case rel => exact ⟨k + 1, by omega, by go_num, by rw [HS.out]; simp⟩
      case measure => simp [intOf]; omega
    · obtain rfl : k = n := by omega
      have hx := beN_le bs (by rw [HL.out]; exact h7)
      rw [List.take_of_length_le (by rw [HL.out]; exact Nat.le_refl _)]
      rw [HX2.out] at hx ⊢
      obtain ⟨cn, cr, cl, ch, co, cfo⟩ := HB1.out.cells
      obtain ⟨c0, c1, c2, c3, c4, cf⟩ := HH1.out.cells
      have e1 : IntKind.i64.wrap ((at_ : Int) + (k : Int)) = (at_ : Int) + (k : Int) := by rw [IntWalk.i64_in _ (by omega)]
      by_cases hl : low ≤ x
      · have hl1 : decide ((x : Int) < low) = false := by simpa using hl
        by_cases hh : x ≤ high
        · have hh1 : decide (high < (x : Int)) = false := by simpa using hh
          have HQ := Lib.hid (num1_end HK1.out HH1.out HB1.out x k hn)
          go_wp2_with fail
          go_region
          all_goals go_wp2_with fail
          all_goals
            go_end0
            unfold Num1P
            rw [if_pos ⟨hl, hh⟩]
            exact ⟨rfl, HQ.out⟩
        · have hh1 : decide (high < (x : Int)) = true := by simpa using hh
          go_wp2_with fail
          refine ⟨rfl, ?_⟩
          unfold Num1P
          rw [if_neg (by omega)]
          exact ⟨rfl, HK1.out⟩
      · have hl1 : decide ((x : Int) < low) = true := by simpa using hl
        go_wp2_with fail
        refine ⟨rfl, ?_⟩
        unfold Num1P
        rw [if_neg (by omega)]
        exact ⟨rfl, HK1.out⟩

theorem boxes5 (w : World) (x y z u v : Obj) : (((((w.alloc x).alloc y).alloc z).alloc u).alloc v).heap[w.heap.size]? = some x ∧ (((((w.alloc x).alloc y).alloc z).alloc u).alloc v).heap[w.heap.size + 1]? = some y ∧
    (((((w.alloc x).alloc y).alloc z).alloc u).alloc v).heap[w.heap.size + 2]? = some z ∧ (((((w.alloc x).alloc y).alloc z).alloc u).alloc v).heap[w.heap.size + 3]? = some u ∧ (((((w.alloc x).alloc y).alloc z).alloc u).alloc v).heap[w.heap.size + 4]? = some v := by
  obtain ⟨h1, h2, h3⟩ := boxes3 w x y z
  obtain ⟨h4, h5⟩ := boxes2 (((w.alloc x).alloc y).alloc z) u v
  have e : (((w.alloc x).alloc y).alloc z).heap.size = w.heap.size + 3 := by simp
  have old : ∀ {k : Nat} {o : Obj}, (((w.alloc x).alloc y).alloc z).heap[k]? = some o → (((((w.alloc x).alloc y).alloc z).alloc u).alloc v).heap[k]? = some o := by
    intro k o h
    have hl := lt_of_block h
    rw [heap_alloc_old _ _ (by simp at hl ⊢; omega), heap_alloc_old _ _ hl]; exact h
  rw [e] at h4 h5
  exact ⟨old h1, old h2, old h3, h4, h5⟩

/-- What Num tells of a reader without a fault that has enough. -/
def RNumPost (w : World) (base p : Nat) (v : Value) (l : List UInt8) (x low high : Int) (at_ n : Nat) (fa : Int) (e : Ending) (w' : World) : Prop :=
  Keep (fun k => k = p) w w' ∧ if low ≤ x ∧ x ≤ high then e = .returned (.int .i64 x) ∧ Rdr w' base p v l (at_ + n) 0 fa else e = .returned (.int .i64 0) ∧ Rdr w' base p v l at_ 5 at_

/-- The world of Num's boxes. -/
def numW (w : World) (p : Nat) (n low high : Int) : World :=
  ((((w.alloc (.cells #[.pointer (some ⟨p, 0, none⟩)] 61)).alloc (.cells #[.int .i64 n] 3)).alloc (.cells #[.int .i64 low] 3)).alloc (.cells #[.int .i64 high] 3)).alloc (.cells #[.int .i64 0] 3)
theorem numW_keep (w : World) (p : Nat) (n low high : Int) : Keep noBlk w (numW w p n low high) := (((((Keep.refl _ _).alloc _).alloc _).alloc _).alloc _).alloc _
theorem numW_b (w : World) (p : Nat) (n low high : Int) (hp : p < w.heap.size) : NumB (numW w p n low high) p (w.heap.size + 1) w.heap.size (w.heap.size + 2) (w.heap.size + 3) (w.heap.size + 4) n low high := by
  obtain ⟨b0, b1, b2, b3, b4⟩ := boxes5 w (.cells #[.pointer (some ⟨p, 0, none⟩)] 61) (.cells #[.int .i64 n] 3) (.cells #[.int .i64 low] 3) (.cells #[.int .i64 high] 3) (.cells #[.int .i64 0] 3)
  exact ⟨b1, b0, b2, b3, b4, by omega, by omega, by omega, by omega, by omega⟩

set_option maxHeartbeats 1000000 in
theorem rdnum_any (w : World) (base p : Nat) (v : Value) (l : List UInt8) (at_ : Nat) (fa : Int) (h : Rdr w base p v l at_ 0 fa) (n : Nat) (low high : Int) (h1 : 1 ≤ n) (h6 : n ≤ 6) (hn : at_ + n ≤ l.length) (x : Nat) (hx : beN ((l.drop at_).take n) = x) :
    Calls Try.prog 50 #[.pointer (some ⟨p, 0, none⟩), .int .i64 n, .int .i64 low, .int .i64 high] w (RNumPost w base p v l x low high at_ n fa) := by
  have hmf : ∀ (fn : Fn) (first cap : Array Value) (w : World), (Instr.makeFunc fn first cap).run Try.prog w = .ok (.func fn first cap) w := fun _ _ _ _ => rfl
  have hplt := lt_of_block h.blk
  have hb := numW_b w p n low high hplt
  have K1 := numW_keep w p n low high
  have hR := (h.keep K1 id (fun _ _ => id))
  have hK := boxP_keep (numW w p n low high) p
  have c1 := num1_rok (boxP (numW w p n low high) p) base p v l at_ fa (hR.keep hK id (fun _ _ => id)) _ _ _ _ _ n low high h1 h6 hn (hb.keep hK) x hx
  have HH := Lib.hid h; have HX := Lib.hid hx
  by_cases hin : low ≤ (x : Int) ∧ (x : Int) ≤ high
  · have c2 : Calls Try.prog 76 #[.pointer (some ⟨w.heap.size + 1, 0, none⟩), .pointer (some ⟨w.heap.size, 0, none⟩), .pointer (some ⟨w.heap.size + 2, 0, none⟩), .pointer (some ⟨w.heap.size + 3, 0, none⟩), .pointer (some ⟨w.heap.size + 4, 0, none⟩)]
        (boxP (numW w p n low high) p) (RetQ (Num1Q (boxP (numW w p n low high) p) (w.heap.size + 4) base p v l x (at_ + n) fa)) := c1.mono fun e w' hq => by unfold Num1P at hq; rwa [if_pos hin] at hq
    have C := Lib.hid (read_ret (numW w p n low high) base p v l at_ fa hR 76 _ (fun _ => rfl) _ c2)
    have HK := Lib.hid (K1.trans hK)
    clear h hx hb K1 hR hK c1 c2
    go_enter Try.func50, Try.ntmps50
    go_wp2_with fail
    refine C.out.mono ?_
    rintro e w2 ⟨rfl, hb, hrd, hk⟩
    clear C
    have co := blk_cell (i := 0) (v := .int .i64 x) hb rfl
    have HR := Lib.hid hrd; have HK2 := Lib.hid hk
    clear hb hrd hk
    go_wp2_with fail
    go_ret
    refine ⟨HK.out.trans' HK2.out (fun _ _ h => h.elim) (fun i hi e => ?_), ?_⟩
    · rcases e with e | e
      · exact e
      · omega
    · rw [if_pos hin]; exact ⟨rfl, HR.out⟩
  · have c2 : Calls Try.prog 76 #[.pointer (some ⟨w.heap.size + 1, 0, none⟩), .pointer (some ⟨w.heap.size, 0, none⟩), .pointer (some ⟨w.heap.size + 2, 0, none⟩), .pointer (some ⟨w.heap.size + 3, 0, none⟩), .pointer (some ⟨w.heap.size + 4, 0, none⟩)]
        (boxP (numW w p n low high) p) (StopQ 5 at_ (Keep noBlk (boxP (numW w p n low high) p))) := c1.mono fun e w' hq => by unfold Num1P at hq; rwa [if_neg hin] at hq
    have C := Lib.hid (read_stop (numW w p n low high) base p v l at_ fa hR 76 _ (fun _ => rfl) _ _ c2)
    have HB := Lib.hid hb
    have HK := Lib.hid K1
    clear h hx hb K1 hR hK c1 c2
    go_enter Try.func50, Try.ntmps50
    go_wp2_with fail
    refine C.out.mono ?_
    rintro e w2 ⟨rfl, hrd, hk⟩
    clear C
    have co := blk_cell (i := 0) (v := .int .i64 0) (hk.blk HB.out.o (by omega)) rfl
    have HR := Lib.hid hrd; have HK2 := Lib.hid hk
    clear hrd hk
    go_wp2_with fail
    go_ret
    refine ⟨HK.out.trans' HK2.out (fun _ _ h => h.elim) (fun i hi e => e), ?_⟩
    rw [if_neg hin]; exact ⟨rfl, HR.out⟩

set_option maxHeartbeats 1000000 in
/-- What Num tells of a reader with a fault. -/
theorem rdnum_fault (w : World) (base p : Nat) (v : Value) (l : List UInt8) (at_ : Nat) (fe fa : Int) (h : Rdr w base p v l at_ fe fa) (hfe : fe ≠ 0) (n low high : Int) :
    Calls Try.prog 50 #[.pointer (some ⟨p, 0, none⟩), .int .i64 n, .int .i64 low, .int .i64 high] w (fun e w' => e = .returned (.int .i64 0) ∧ Rdr w' base p v l at_ fe fa ∧ Keep noBlk w w') := by
  have hmf : ∀ (fn : Fn) (first cap : Array Value) (w : World), (Instr.makeFunc fn first cap).run Try.prog w = .ok (.func fn first cap) w := fun _ _ _ _ => rfl
  have hplt := lt_of_block h.blk
  have hb := numW_b w p n low high hplt
  have K1 := numW_keep w p n low high
  have hR := (h.keep K1 id (fun _ _ => id))
  have hK := boxP_keep (numW w p n low high) p
  have C := Lib.hid (read_fault (numW w p n low high) base p v l at_ fe fa hR hfe (.func (.func 76) #[] #[.pointer (some ⟨w.heap.size + 1, 0, none⟩), .pointer (some ⟨w.heap.size, 0, none⟩), .pointer (some ⟨w.heap.size + 2, 0, none⟩), .pointer (some ⟨w.heap.size + 3, 0, none⟩), .pointer (some ⟨w.heap.size + 4, 0, none⟩)]))
  have HB := Lib.hid (hb.keep hK)
  have HK := Lib.hid (K1.trans hK); have HR := Lib.hid (hR.keep hK id (fun _ _ => id)); have HF := Lib.hid hfe
  clear h hb K1 hR hK hfe
  go_enter Try.func50, Try.ntmps50
  go_wp2_with fail
  refine C.out.mono ?_
  rintro e w2 ⟨rfl, rfl⟩
  clear C
  have co := blk_cell (i := 0) (v := .int .i64 0) HB.out.o rfl
  go_wp2_with fail
  go_ret
  exact ⟨rfl, HR.out, HK.out⟩

/-- The fault. -/
theorem zeroFault (w : World) : (zeroValue 66).run Try.prog w = .ok (.agg #[.int .i64 0, .int .i64 0]) w := by kernel_rfl
set_option maxHeartbeats 1000000 in
theorem fault_any (w : World) (base p : Nat) (v : Value) (l : List UInt8) (at_ : Nat) (fe fa : Int) (h : Rdr w base p v l at_ fe fa) :
    Calls Try.prog 51 #[.pointer (some ⟨p, 0, none⟩)] w (fun e w' => e = .returned (.agg #[.int .i64 fe, .int .i64 fa]) ∧ Keep noBlk w w') := by
  have K : Keep noBlk w (w.alloc (.cells #[.int .i64 0, .int .i64 0] 66)) := (Keep.refl _ _).alloc _
  have h2 := h.keep K id (fun _ _ => id)
  have C := Lib.hid (rnone_any _ base p v l at_ fe fa h2)
  have HH := Lib.hid h2; have HK := Lib.hid K
  have hblk := lt_of_block h.blk
  clear h h2 K
  obtain ⟨vs, hvs⟩ : ∃ vs : List Value, vs = [.int .i64 fe, .int .i64 fa] := ⟨_, rfl⟩
  have hvl : vs.length = 2 := by rw [hvs]; rfl
  have hvo : ∀ u ∈ vs, u.oneCell' = true := by rw [hvs]; simp [Value.oneCell']
  have hra : (w.alloc (.cells #[.int .i64 0, .int .i64 0] 66)).rangeAt p 3 vs := by
    obtain ⟨-, -, -, c3, c4, -⟩ := HH.out.cells
    intro j u hj
    rw [hvs] at hj
    match j, hj with
    | 0, hj => cases hj; exact c3
    | 1, hj => cases hj; exact c4
  have HVS := Lib.hid hvs; have HRA := Lib.hid hra
  clear hvs hra
  go_enter Try.func51, Try.ntmps51
  go_wp2_with (first
    | (refine wpList_alloc_at rfl 66 rfl _ zeroFault #[.int .i64 0, .int .i64 0] rfl ?_))
  refine C.out.mono ?_
  rintro e w1 ⟨rfl, rfl⟩
  go_wp2_with (first
    | ((with_reducible show wpList _ _ _ (⟨some 9, .load 66 (.tmp 8), _, _, _, _⟩ :: _) _ _); refine wpList_load_mid rfl 66 (.tmp 8) rfl p 3 rfl vs _ HRA.out Try.underlying66 rfl (by rw [hvl]; exact sizeFault) ?_)
    | ((with_reducible show wpList _ _ _ (⟨none, .store 66 (.tmp 2) (.tmp 9), _, _, _, _⟩ :: _) _ _); refine wpList_store_agg rfl 66 (.tmp 2) (.tmp 9) rfl w.heap.size 0 vs rfl rfl _ _ (heap_alloc_new _ _) (by rw [hvl]; decide) (by rw [hvl]; exact sizeFault) hvo ?_; intro w2 hb2 hk2; have HB2 := Lib.hid hb2; have HK2 := Lib.hid hk2; clear hb2 hk2))
  refine bodyPost_ret (results_cell_row rfl _ _ w.heap.size _ _ _ _ rfl HB2.out Try.underlying66 rfl (by rw [spl_size]; exact sizeFault)) rfl ⟨?_, ?_⟩
  · rw [spl_whole _ _ (by rw [hvl]; rfl), HVS.out]
  · exact HK.out.trans' HK2.out (fun _ _ h => h) (fun i hi e => by omega)
end Go.Proofs.Ytdlegbcdmlmbpaa
