/-
  The document's writer (caulkerref01): what each of its methods does to a writer in memory.
  Conditions: the bounds on sizes that each theorem names.
-/
import Derived.Test.YtaiicjhnhbkgmaaGreatDoorField
namespace Go.Proofs.YtaiicjhnhbkgmaaGreatDoor
open Go.RowKit
set_option maxRecDepth 100000

/-- The document's writer at block p. -/
structure RW (w : World) (base p : Nat) (v : Value) (l : List UInt8) (e : Int) : Prop where
  blk : w.heap[p]? = some (.cells #[v, .int .i64 e] 133 (0, 0))
  own : w.ownsRow base 5 1 v l.length (l.map vb)
  ne : v.ownBlock ≠ some p
  le : base ≤ p

def RPost (w : World) (base p : Nat) (v : Value) (r : List UInt8 × Int) (e : Ending) (w' : World) : Prop :=
  e = .returned (.tuple #[]) ∧ ∃ v', RW w' base p v' r.1 r.2 ∧ Keep (fun k => k = p ∨ v.ownBlock = some k) w w' ∧ (v'.ownBlock = v.ownBlock ∨ ∃ g, v'.ownBlock = some g ∧ w.heap.size ≤ g)

theorem RW.cells {w : World} {base p : Nat} {v : Value} {l : List UInt8} {e : Int} (h : RW w base p v l e) :
    w.cell? ⟨p, 0, none⟩ = some v ∧ w.cell? ⟨p, 1, none⟩ = some (.int .i64 e) ∧ (∀ i, w.frozen? ⟨p, i, none⟩ = false) := by
  refine ⟨?_, ?_, fun i => frozen_of_row w p i _ _ h.blk⟩ <;> (rw [cell_of_row w p _ _ _ _ h.blk]; rfl)
theorem RW.keep {w w' : World} {base p : Nat} {v : Value} {l : List UInt8} {e : Int} (h : RW w base p v l e) {S : Nat → Prop} (k : Keep S w w') (hp : ¬ S p) (hv : ∀ g, v.ownBlock = some g → ¬ S g) : RW w' base p v l e :=
  ⟨k.blk h.blk hp, k.owns h.own hv, h.ne, h.le⟩
theorem RW.setErr {w : World} {base p : Nat} {v : Value} {l : List UInt8} {e : Int} (h : RW w base p v l e) (e' : Int) : RW (w.setCell ⟨p, 1, none⟩ (.int .i64 e')) base p v l e' :=
  ⟨by rw [set_blk h.blk]; rfl, ownsRow_setCell_other h.own (by simpa using h.ne) _, h.ne, h.le⟩
theorem RW.app {w w1 w2 : World} {base p : Nat} {v v' : Value} {l bs : List UInt8} (HH : RW w1 base p v l 0) (HK : Keep (fun k => k = p ∨ v.ownBlock = some k) w w1)
    (hown2 : w2.ownsRow base 5 1 v' (l.length + bs.length) (l.map vb ++ bs.map vb)) (hk2 : Keep (fun k => v.ownBlock = some k) w1 w2) (hat : v'.ownBlock = v.ownBlock ∨ v'.ownBlock = some w1.heap.size) :
    w2.cell? ⟨p, 0, none⟩ = some v ∧ w2.frozen? ⟨p, 0, none⟩ = false ∧
    Hid (RW (w2.setCell ⟨p, 0, none⟩ v') base p v' (l ++ bs) 0 ∧ Keep (fun k => k = p ∨ v.ownBlock = some k) w (w2.setCell ⟨p, 0, none⟩ v') ∧ (v'.ownBlock = v.ownBlock ∨ ∃ g, v'.ownBlock = some g ∧ w.heap.size ≤ g)) := by
  have hb2 := hk2.blk HH.blk HH.ne
  refine ⟨by rw [cell_of_row w2 p _ _ _ _ hb2]; rfl, frozen_of_row w2 p _ _ _ hb2, Lib.hid ⟨?_, ?_, ?_⟩⟩
  · have hne : v'.ownBlock ≠ some p := by
      rcases hat with h | h
      · rw [h]; exact HH.ne
      · rw [h]; have := lt_of_block HH.blk; intro e; simp only [Option.some.injEq] at e; omega
    refine ⟨by rw [set_blk hb2]; rfl, ?_, hne, HH.le⟩
    have := ownsRow_setCell_other hown2 (a := ⟨p, 0, none⟩) hne v'
    simpa using this
  · exact (HK.trans (hk2.mono fun _ _ h => .inr h)).setCell (fun _ => .inl rfl) _
  · rcases hat with h | h
    · exact .inl h
    · exact .inr ⟨_, h, HK.size⟩

set_option maxHeartbeats 400000 in
theorem put_err (p : Nat) (e er : Int) (w : World) (bv : Value) (base : Nat) (v : Value) (l : List UInt8) (h : RW w base p v l e) (he : e ≠ 0) :
    Calls Tryz.prog 116 #[.pointer (some ⟨p, 0, none⟩), bv, .int .i64 er] w (RPost w base p v (l, e)) := by
  obtain ⟨hp1, hp2, hf⟩ := h.cells
  have he1 : (e != 0) = true := by simp [he]
  have H := Lib.hid h; clear h he
  go_enter Tryz.func116, Tryz.ntmps116
  go_wp2_with fail
  refine ret0 rfl rfl ?_
  exact ⟨rfl, v, H.out, Keep.refl _ _, .inl rfl⟩

set_option maxHeartbeats 400000 in
theorem put_no (p : Nat) (er : Int) (w : World) (bv : Value) (base : Nat) (v : Value) (l : List UInt8) (h : RW w base p v l 0) (he : er ≠ 0) :
    Calls Tryz.prog 116 #[.pointer (some ⟨p, 0, none⟩), bv, .int .i64 er] w (RPost w base p v (l, er)) := by
  obtain ⟨hp1, hp2, hf⟩ := h.cells
  have he1 : (er != 0) = true := by simp [he]
  have he2 : (er == 0) = false := by simp [he]
  have H := Lib.hid h; clear h he
  go_enter Tryz.func116, Tryz.ntmps116
  go_wp2_with fail
  go_end0
  exact ⟨rfl, v, H.out.setErr er, (Keep.refl _ _).setCell (fun _ => .inl rfl) _, .inl rfl⟩

set_option maxHeartbeats 400000 in
theorem put_long (p : Nat) (w : World) (bv : Value) (base : Nat) (v : Value) (l bs : List UInt8) (h : RW w base p v l 0) (hr : Rd w 1 bv bs.length (bs.map vb))
    (hl : l.length ≤ 65536) (hb : bs.length ≤ 140737488351232) (hlong : 65536 < l.length + bs.length) :
    Calls Tryz.prog 116 #[.pointer (some ⟨p, 0, none⟩), bv, .int .i64 0] w (RPost w base p v (l, 3)) := by
  obtain ⟨hp1, hp2, hf⟩ := h.cells
  obtain ⟨a, cp, hv, -, -⟩ := (Rd.of_owns h.own).form
  obtain ⟨a2, cp2, rfl, -, -⟩ := hr.form
  rw [hv] at hp1
  have HV := Lib.hid hv
  have H := Lib.hid h; clear h hr hv
  go_enter Tryz.func116, Tryz.ntmps116
  go_wp2_with fail
  go_end0
  exact ⟨rfl, v, H.out.setErr 3, (Keep.refl _ _).setCell (fun _ => .inl rfl) _, .inl rfl⟩

set_option maxHeartbeats 400000 in
theorem put_ok (p : Nat) (w : World) (bv : Value) (base : Nat) (v : Value) (l bs : List UInt8) (h : RW w base p v l 0) (hr : Rd w 1 bv bs.length (bs.map vb))
    (hlong : l.length + bs.length ≤ 65536) :
    Calls Tryz.prog 116 #[.pointer (some ⟨p, 0, none⟩), bv, .int .i64 0] w (RPost w base p v (l ++ bs, 0)) := by
  obtain ⟨hp1, hp2, hf⟩ := h.cells
  obtain ⟨a, cp, hv, -, -⟩ := (Rd.of_owns h.own).form
  obtain ⟨a2, cp2, rfl, -, -⟩ := hr.form
  rw [hv] at hp1
  have HV := Lib.hid hv
  have H2 := h.setErr 0
  have hk2 : Keep (fun k => k = p ∨ v.ownBlock = some k) w (w.setCell ⟨p, 1, none⟩ (.int .i64 0)) := (Keep.refl _ _).setCell (fun _ => .inl rfl) _
  have hrd2 : Rd (w.setCell ⟨p, 1, none⟩ (.int .i64 0)) 1 (.slice a2 bs.length cp2) bs.length (bs.map vb) := hr.setCell hp2 (by simp [vb]) _
  have hsz : base ≤ (w.setCell ⟨p, 1, none⟩ (.int .i64 0)).heap.size := by have := H2.le; have := lt_of_block H2.blk; omega
  have HS := Lib.hid hsz
  have HK := Lib.hid hk2
  have HH := Lib.hid H2
  have HR := Lib.hid hrd2
  have hx1 : l.length + bs.length ≤ maxLen := by unfold maxLen; omega
  have HX := Lib.hid hx1
  clear h hr hv H2 hk2 hrd2 hsz hx1
  go_enter Tryz.func116, Tryz.ntmps116
  go_wp2_with (at_builtin; refine wpList_append_rd rfl (.tmp 34) (.tmp 35) 51 rfl base 5 _ 1 1 Tryz.underlying51 infoU8 rfl (by omega) v l.length (l.map vb) (by exact HV.out.symm) HH.out.own _ bs.length (bs.map vb) rfl HR.out (oneCell_vb _) HX.out (by omega) HS.out ?_; intro v' w2 hown2 hk2 hnil hat; obtain ⟨a3, c3, rfl, -, -⟩ := (Rd.of_owns hown2).form; obtain ⟨c1, f1, HW⟩ := RW.app HH.out HK.out hown2 hk2 hat; clear hown2 hk2 hnil hat hp1 hp2)
  go_end0
  exact ⟨rfl, _, HW.out⟩

theorem put_any (p : Nat) (er : Int) (w : World) (bv : Value) (base : Nat) (v : Value) (l bs : List UInt8) (e : Int) (h : RW w base p v l e) (hr : Rd w 1 bv bs.length (bs.map vb))
    (hl : l.length ≤ 65536) (hb : bs.length ≤ 140737488351232) :
    Calls Tryz.prog 116 #[.pointer (some ⟨p, 0, none⟩), bv, .int .i64 er] w (RPost w base p v (wst (l, e) (bs, er))) := by
  by_cases he : e = 0
  · subst he
    by_cases her : er = 0
    · subst her
      by_cases hlen : 65536 < l.length + bs.length
      · have : wst (l, 0) (bs, 0) = (l, 3) := by simp [wst, hlen]
        rw [this]; exact put_long p w bv base v l bs h hr hl hb hlen
      · have : wst (l, 0) (bs, 0) = (l ++ bs, 0) := by simp [wst, hlen]
        rw [this]; exact put_ok p w bv base v l bs h hr (by omega)
    · have : wst (l, 0) (bs, er) = (l, er) := by simp [wst, her]
      rw [this]; exact put_no p er w bv base v l h her
  · have : wst (l, e) (bs, er) = (l, e) := by simp [wst, he]
    rw [this]; exact put_err p e er w bv base v l h he

theorem RPost.of {w w2 : World} {base p : Nat} {v : Value} {r : List UInt8 × Int} {e : Ending} {w' : World} (hk : Keep noBlk w w2) (h : RPost w2 base p v r e w') : RPost w base p v r e w' := by
  obtain ⟨he, v', h1, h2, h3⟩ := h
  refine ⟨he, v', h1, hk.trans' h2 (fun _ _ h => h.elim) (fun _ _ h => h), ?_⟩
  rcases h3 with h | ⟨g, h, hg⟩
  · exact .inl h
  · exact .inr ⟨g, h, Nat.le_trans hk.size hg⟩
theorem end_put {p : Nat} {w w2 : World} {base : Nat} {v : Value} {r : List UInt8 × Int} (hk : Keep noBlk w w2) {e : Ending} {w' : World} (h : RPost w2 base p v r e w') : e = .returned (.tuple #[]) ∧ Hid (RPost w base p v r e w') :=
  ⟨h.1, RPost.of hk h⟩

set_option maxHeartbeats 400000 in
theorem rraw_any (p : Nat) (w : World) (bv : Value) (base : Nat) (v : Value) (l bs : List UInt8) (e : Int) (h : RW w base p v l e) (hr : Rd w 1 bv bs.length (bs.map vb))
    (hl : l.length ≤ 65536) (hb : bs.length ≤ 140737488351232) :
    Calls Tryz.prog 94 #[.pointer (some ⟨p, 0, none⟩), bv] w (RPost w base p v (wst (l, e) (bs, 0))) := by
  have c := Lib.hid (put_any p 0 w bv base v l bs e h hr hl hb)
  obtain ⟨a2, cp2, rfl, -, -⟩ := hr.form
  clear h hr
  go_enter Tryz.func94, Tryz.ntmps94
  go_wp2_with fail
  refine c.out.mono ?_
  rintro e w1 h
  obtain ⟨rfl, h2⟩ := end_put (Keep.refl _ _) h
  go_wp2_with fail
  go_end0
  exact h2.out

set_option maxHeartbeats 400000 in
theorem rsize_any (n : Int) (w : World) : Calls Tryz.prog 110 #[.int .i64 n] w fun e w' => e = .returned (.bool (decide (1 ≤ n) && decide (n ≤ 7))) ∧ w = w' := by
  by_cases h : 1 ≤ n
  · have h1 : decide (1 ≤ n) = true := by simpa using h
    go_enter Tryz.func110, Tryz.ntmps110
    go_wp2_with fail
    go_ret
    rw [h1]
    exact ⟨by simp, rfl⟩
  · have h1 : decide (1 ≤ n) = false := by simpa using h
    go_enter Tryz.func110, Tryz.ntmps110
    go_wp2_with fail
    go_ret
    exact ⟨rfl, rfl⟩

set_option maxHeartbeats 400000 in
theorem rnum_bad (p : Nat) (n size : Int) (w : World) (base : Nat) (v : Value) (l : List UInt8) (e : Int) (h : RW w base p v l e) (hl : l.length ≤ 65536) (hs : size < 1 ∨ 7 < size) :
    Calls Tryz.prog 95 #[.pointer (some ⟨p, 0, none⟩), .int .i64 n, .int .i64 size] w (RPost w base p v (wst (l, e) ([], 2))) := by
  have c := Lib.hid (put_any p 2 w (.slice none 0 0) base v l [] e h (Rd.nil _ _) hl (by simp))
  have hd : (decide (1 ≤ size) && decide (size ≤ 7)) = false := by
    rcases hs with h | h
    · simp; omega
    · simp; omega
  clear h hs
  go_enter Tryz.func95, Tryz.ntmps95
  go_wp2_with (go_at_call 110; refine (rsize_any _ _).mono ?_; rintro e w' ⟨rfl, rfl⟩)
  refine c.out.mono ?_
  rintro e w1 h
  obtain ⟨rfl, h2⟩ := end_put (Keep.refl _ _) h
  go_wp2_with fail
  refine ret0 rfl rfl ?_
  exact h2.out

set_option maxHeartbeats 400000 in
theorem rnum_range (p : Nat) (n : Int) (s : Nat) (w : World) (base : Nat) (v : Value) (l : List UInt8) (e : Int) (h : RW w base p v l e) (hl : l.length ≤ 65536) (hs1 : 1 ≤ s) (hs7 : s ≤ 7) (hn : n < 0 ∨ n / 2 ^ (8 * s) ≠ 0) :
    Calls Tryz.prog 95 #[.pointer (some ⟨p, 0, none⟩), .int .i64 n, .int .i64 s] w (RPost w base p v (wst (l, e) ([], 5))) := by
  have c := Lib.hid (put_any p 5 w (.slice none 0 0) base v l [] e h (Rd.nil _ _) hl (by simp))
  have hd : (decide (1 ≤ (s : Int)) && decide ((s : Int) ≤ 7)) = true := by simp; omega
  by_cases h0 : n < 0
  · clear h hn
    go_enter Tryz.func95, Tryz.ntmps95
    go_wp2_with (go_at_call 110; refine (rsize_any _ _).mono ?_; rintro e w' ⟨rfl, rfl⟩)
    refine c.out.mono ?_
    rintro e w1 h
    obtain ⟨rfl, h2⟩ := end_put (Keep.refl _ _) h
    go_wp2_with fail
    refine ret0 rfl rfl ?_
    exact h2.out
  · have h0' : 0 ≤ n := by omega
    have h1 : 0 < n / 2 ^ (8 * s) := by
      rcases hn with h | h
      · omega
      · have : 0 ≤ n / 2 ^ (8 * s) := Int.ediv_nonneg h0' (Int.le_of_lt (Int.pow_pos (by omega)))
        omega
    clear h hn h0
    go_enter Tryz.func95, Tryz.ntmps95
    go_wp2_with (go_at_call 110; refine (rsize_any _ _).mono ?_; rintro e w' ⟨rfl, rfl⟩)
    refine c.out.mono ?_
    rintro e w1 h
    obtain ⟨rfl, h2⟩ := end_put (Keep.refl _ _) h
    go_wp2_with fail
    refine ret0 rfl rfl ?_
    exact h2.out

theorem Num_rel2 {w wr w2 : World} {k n s : Nat} {v v' : Value} (hks : k < s) (hown : wr.ownsRow w.heap.size 5 1 v k (((List.range k).map (beAt n s)).map vb)) (hkp : Keep noBlk w wr)
    (hown2 : w2.ownsRow w.heap.size 5 1 v' (k + 1) (((List.range k).map (beAt n s)).map vb ++ [.int .u8 ((n : Int) / 2 ^ (8 * (s - 1 - k)) % 256)]))
    (hk2 : Keep (fun i => v.ownBlock = some i) (wr.alloc (.cells #[.int .u8 ((n : Int) / 2 ^ (8 * (s - 1 - k)) % 256)] 5)) w2) :
    Hid (w2.ownsRow w.heap.size 5 1 v' (k + 1) (((List.range (k + 1)).map (beAt n s)).map vb)) ∧ Hid (Keep noBlk w w2) := by
  rw [show s - 1 - k = s - k - 1 by omega] at hown2 hk2
  exact Num_rel hown hkp hown2 hk2

set_option maxHeartbeats 1000000 in
theorem rnum_ok (p : Nat) (n : Nat) (s : Nat) (w : World) (base : Nat) (v : Value) (l : List UInt8) (e : Int) (h : RW w base p v l e) (hl : l.length ≤ 65536) (hs1 : 1 ≤ s) (hs7 : s ≤ 7) (hn : n < 2 ^ (8 * s)) :
    Calls Tryz.prog 95 #[.pointer (some ⟨p, 0, none⟩), .int .i64 n, .int .i64 s] w (RPost w base p v (wst (l, e) (be n s, 0))) := by
  have hn56 : n < 72057594037927936 := Nat.lt_of_lt_of_le hn (Nat.pow_le_pow_right (by omega) (show 8 * s ≤ 56 by omega))
  have hz : n / 2 ^ (8 * s) = 0 := Nat.div_eq_of_lt hn
  have hz' : decide (0 < (n : Int) / 2 ^ (8 * s)) = false := by
    have : ((n : Int) / 2 ^ (8 * s)) = ((n / 2 ^ (8 * s) : Nat) : Int) := by simp
    rw [this, hz]; rfl
  have hd : (decide (1 ≤ (s : Int)) && decide ((s : Int) ≤ 7)) = true := by simp; omega
  have hn0 : decide ((n : Int) < 0) = false := by simp
  have HH := Lib.hid h; have HN := Lib.hid hn; have HZ := Lib.hid hz
  clear h hn hz
  go_enter Tryz.func95, Tryz.ntmps95
  go_wp2_with (go_at_call 110; refine (rsize_any _ _).mono ?_; rintro e w' ⟨rfl, rfl⟩)
  go_loopw [6, 7] (fun v i wr => ∃ k : Nat, k ≤ s ∧ i = .int .i64 ((s : Int) - 1 - k) ∧ Hid (wr.ownsRow w.heap.size 5 1 v k (((List.range k).map (beAt n s)).map vb)) ∧ Hid (Keep noBlk w wr)) (fun _ i _ => (intOf i + 1).toNat)
  case atStart => exact ⟨0, by omega, by simp, Lib.hid (World.ownsRow_nil _ _ _ _), Lib.hid (Keep.refl _ _)⟩
  case round =>
    obtain ⟨k, hk, rfl, hown, hkp⟩ := hrel
    by_cases hlt : k < s
    · have hsz : w.heap.size ≤ (wr.alloc (.cells #[.int .u8 ((n : Int) / 2 ^ (8 * (s - 1 - k)) % 256)] 5)).heap.size := by have := hkp.out.size; simp; omega
      have HS := Lib.hid hsz; clear hsz
      have hml : k + 1 ≤ maxLen := by unfold maxLen; omega
      have HML := Lib.hid hml; clear hml
      have h1 : ∀ u ∈ [Value.int .u8 ((n : Int) / 2 ^ (8 * (s - 1 - k)) % 256)], u.oneCell' = true := by simp [Value.oneCell']
      have H1 := Lib.hid h1; clear h1
      go_wp2_with (at_builtin; refine wpList_append_rd rfl (.tmp 30) (.tmp 36) 51 rfl w.heap.size 5 _ 1 1 Tryz.underlying51 infoU8 rfl (by omega) _ k _ rfl (hown.out.alloc _) _ 1 _ rfl (rd_one _ _ _) H1.out HML.out (by omega) HS.out ?_; intro v' w2 hown2 hk2 hnil hat; have R := Num_rel2 (by omega) hown.out hkp.out hown2 hk2; clear hown2 hk2 hnil hat hown hkp)
      go_roundw
      case rel => exact ⟨k + 1, by omega, by go_num, R⟩
      case measure => simp [intOf]; omega
    · obtain rfl : k = s := by omega
      have hr := Rd.of_owns hown.out
      have H2 := HH.out.keep hkp.out id (fun _ _ => id)
      have c := Lib.hid (put_any p 0 wr _ base v l (be n k) e H2 (by rw [be_length]; exact hr) hl (by rw [be_length]; omega))
      have HK := Lib.hid hkp.out
      clear hr H2
      go_wp2_with fail
      refine c.out.mono ?_
      rintro e w1 h
      obtain ⟨rfl, h2⟩ := end_put HK.out h
      go_wp2_with fail
      go_end0
      exact h2.out

theorem rnum_any (p : Nat) (n size : Int) (w : World) (base : Nat) (v : Value) (l : List UInt8) (e : Int) (h : RW w base p v l e) (hl : l.length ≤ 65536) :
    Calls Tryz.prog 95 #[.pointer (some ⟨p, 0, none⟩), .int .i64 n, .int .i64 size] w (RPost w base p v (wst (l, e) (numRes n size))) := by
  unfold numRes
  by_cases hs : size < 1 ∨ 7 < size
  · rw [if_pos hs]; exact rnum_bad p n size w base v l e h hl hs
  · rw [if_neg hs]
    obtain ⟨s, rfl⟩ := Int.eq_ofNat_of_zero_le (show 0 ≤ size by omega)
    have e1 : (8 * (s : Int)).toNat = 8 * s := by omega
    rw [e1]
    by_cases hn : n < 0 ∨ n / 2 ^ (8 * s) ≠ 0
    · rw [if_pos hn]; exact rnum_range p n s w base v l e h hl (by omega) (by omega) hn
    · rw [if_neg hn]
      obtain ⟨m, rfl⟩ := Int.eq_ofNat_of_zero_le (show 0 ≤ n by omega)
      have hm : m < 2 ^ (8 * s) := by
        have : (m : Int) / 2 ^ (8 * s) = 0 := by
          rcases Classical.em ((m : Int) / 2 ^ (8 * s) = 0) with h | h
          · exact h
          · exact absurd (.inr h) hn
        have h2 : m / 2 ^ (8 * s) = 0 := by
          have h3 : ((m / 2 ^ (8 * s) : Nat) : Int) = 0 := by simpa using this
          omega
        rcases Nat.lt_or_ge m (2 ^ (8 * s)) with h | h
        · exact h
        · have := Nat.div_pos h (Nat.pos_of_ne_zero (by simp)); omega
      exact rnum_ok p m s w base v l e h hl (by omega) (by omega) hm

set_option maxHeartbeats 400000 in
theorem rpad_no (p : Nat) (to : Int) (w : World) (base : Nat) (v : Value) (l : List UInt8) (e : Int) (h : RW w base p v l e) (hl : l.length ≤ 65536) (hto : 65536 < to ∨ to < l.length) :
    Calls Tryz.prog 96 #[.pointer (some ⟨p, 0, none⟩), .int .i64 to] w (RPost w base p v (wst (l, e) ([], 2))) := by
  have c := Lib.hid (put_any p 2 w (.slice none 0 0) base v l [] e h (Rd.nil _ _) hl (by simp))
  obtain ⟨hp1, hp2, hf⟩ := h.cells
  obtain ⟨a, cp, hv, -, -⟩ := (Rd.of_owns h.own).form
  rw [hv] at hp1
  have HV := Lib.hid hv
  clear h hv
  by_cases h1 : 65536 < to
  · clear hto
    go_enter Tryz.func96, Tryz.ntmps96
    go_wp2_with fail
    refine c.out.mono ?_
    rintro e w1 h
    obtain ⟨rfl, h2⟩ := end_put (Keep.refl _ _) h
    go_wp2_with fail
    refine ret0 rfl rfl ?_
    exact h2.out
  · have h2 : to < l.length := by omega
    clear hto
    go_enter Tryz.func96, Tryz.ntmps96
    go_wp2_with fail
    refine c.out.mono ?_
    rintro e w1 h
    obtain ⟨rfl, h2⟩ := end_put (Keep.refl _ _) h
    go_wp2_with fail
    refine ret0 rfl rfl ?_
    exact h2.out

set_option maxHeartbeats 400000 in
theorem rpad_ok (p : Nat) (to : Nat) (w : World) (base : Nat) (v : Value) (l : List UInt8) (e : Int) (h : RW w base p v l e) (hl : l.length ≤ to) (hto : to ≤ 65536) :
    Calls Tryz.prog 96 #[.pointer (some ⟨p, 0, none⟩), .int .i64 to] w (RPost w base p v (wst (l, e) (List.replicate (to - l.length) 0, 0))) := by
  obtain ⟨hp1, hp2, hf⟩ := h.cells
  obtain ⟨a, cp, hv, -, -⟩ := (Rd.of_owns h.own).form
  rw [hv] at hp1
  have HV := Lib.hid hv
  have HH := Lib.hid h
  have hw : IntKind.i64.wrap ((to : Int) - l.length) = ((to - l.length : Nat) : Int) := by rw [IntWalk.i64_in _ (by omega)]; omega
  have hd : (to : Int) - l.length = ((to - l.length : Nat) : Int) := by omega
  have HD := Lib.hid hd
  have hm : to - l.length ≤ maxLen := by unfold maxLen; omega
  have HM := Lib.hid hm
  have hnl : ¬ (to : Int) < l.length := by omega
  clear h hv hd hm
  go_enter Tryz.func96, Tryz.ntmps96
  go_wp2_with (at_make; refine wpList_make_one rfl (.tmp 24) (.tmp 24) 51 rfl w.heap.size 5 _ 1 Tryz.underlying51 infoU8 rfl (to - l.length) (by first | rfl | exact congrArg (Value.int .i64) HD.out) (by first | rfl | exact congrArg (Value.int .i64) HD.out) (by omega) HM.out (Nat.le_refl _) ?_; intro w3 hown hk; have HO := Lib.hid hown; have HK := Lib.hid hk; clear hown hk)
  have hr : Rd w3 1 (.slice (some ⟨w.heap.size, 0, none⟩) (to - l.length) (to - l.length)) (List.replicate (to - l.length) (0 : UInt8)).length ((List.replicate (to - l.length) (0 : UInt8)).map vb) := by
    have := Rd.of_owns HO.out
    simpa [vb] using this
  refine (put_any p 0 w3 _ base v l _ e (HH.out.keep HK.out id fun _ _ => id) hr (by omega) (by simp; omega)).mono ?_
  clear hr
  rintro e w1 h
  obtain ⟨rfl, h2⟩ := end_put HK.out h
  go_wp2_with fail
  go_end0
  exact h2.out

theorem rpad_any (p : Nat) (to : Int) (w : World) (base : Nat) (v : Value) (l : List UInt8) (e : Int) (h : RW w base p v l e) (hl : l.length ≤ 65536) :
    Calls Tryz.prog 96 #[.pointer (some ⟨p, 0, none⟩), .int .i64 to] w (RPost w base p v (wst (l, e) (padRes to l))) := by
  unfold padRes
  by_cases hto : 65536 < to ∨ to < l.length
  · rw [if_pos hto]; exact rpad_no p to w base v l e h hl hto
  · rw [if_neg hto]
    obtain ⟨n, rfl⟩ := Int.eq_ofNat_of_zero_le (show 0 ≤ to by omega)
    exact rpad_ok p n w base v l e h (by omega) (by omega)

set_option maxHeartbeats 400000 in
theorem rout_any (p : Nat) (w : World) (base : Nat) (v : Value) (l : List UInt8) (e : Int) (h : RW w base p v l e) (hl : l.length ≤ 65536) :
    Calls Tryz.prog 98 #[.pointer (some ⟨p, 0, none⟩)] w (OutPost w l e) := by
  obtain ⟨hp1, hp2, hf⟩ := h.cells
  by_cases he : e = 0
  · subst he
    have K : Keep noBlk w (w.alloc (.cells #[] 5)) := (Keep.refl _ _).alloc _
    have hr := (Rd.of_owns h.own).keep K fun _ _ => id
    obtain ⟨a, cp, hv, -, -⟩ := hr.form
    rw [hv] at hp1
    rw [hv] at hr
    have HR := Lib.hid hr
    have HK := Lib.hid K
    have hx1 : 0 + l.length ≤ maxLen := by unfold maxLen; omega
    have HX := Lib.hid hx1
    have hplt := lt_of_block h.blk
    clear h hr hv K hx1
    go_enter Tryz.func98, Tryz.ntmps98
    go_wp2_with (at_builtin; refine wpList_append_rd rfl (.tmp 13) (.tmp 17) 51 rfl w.heap.size 5 _ 1 1 Tryz.underlying51 infoU8 rfl (by omega) _ 0 [] rfl (World.ownsRow_made w #[] 0 (Nat.le_refl _) (by unfold maxLen; omega) (by simp)) _ l.length (l.map vb) rfl HR.out (oneCell_vb _) HX.out (by omega) (by simp) ?_; intro v' w2 hown2 hk2 hnil hat; obtain ⟨a3, c3, rfl, -, -⟩ := (Rd.of_owns hown2).form; have HO := Lib.hid hown2; have HK2 := Lib.hid hk2; clear hown2 hk2 hnil hat)
    go_ret2
    refine ⟨_, rfl, by simpa using HO.out, HK.out.trans' HK2.out (fun _ _ h => h) (fun i hi h => ?_)⟩
    have h' : w.heap.size = i := Option.some.inj h
    omega
  · have he1 : (e != 0) = true := by simp [he]
    have HE := Lib.hid he; clear he h
    go_enter Tryz.func98, Tryz.ntmps98
    go_wp2_with fail
    go_quiet (fail)
    go_wp2_with fail
    go_ret2
    refine ⟨_, rfl, ?_, (Keep.refl _ _).drewN _⟩
    rw [if_neg HE.out]
    exact World.ownsRow_nil _ _ _ _
end Go.Proofs.YtaiicjhnhbkgmaaGreatDoor
