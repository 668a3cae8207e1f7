/-
  The writer of package field: what each of its methods does to a writer in memory.
  Conditions: the bounds on sizes that each theorem names.
-/
import Derived.Test.YtaiicjhnhbkgmaaGreatDoorBase
import Derived.Test.YtaiicjhnhbkgmaaGreatDoorPlain1
namespace Go.Proofs.YtaiicjhnhbkgmaaGreatDoor
open Go.RowKit
set_option maxRecDepth 100000

theorem infoU8 : (Tryz.prog.info? 5).map (fun i => (i.zero, i.size, i.bytes)) = some (some (.int .u8 0), 1, 1) := by kernel_rfl
theorem ret0 {P : Program} {fn : Func} {R : Ending → World → Prop} {a : Act} {w : World} (hf : fn.results = #[]) (hd : a.defers = []) (hR : R (.returned (.tuple #[])) w) : bodyPost P fn R .ret a w :=
  bodyPost_ret (results_none hf _ _ _) hd hR

/-- A writer at block p: v is its buffer, which reads l; e is its error. -/
structure Wr (w : World) (base p : Nat) (v : Value) (l : List UInt8) (e : Int) : Prop where
  blk : w.heap[p]? = some (.cells #[.bool true, v, .int .i64 e] 122 (0, 0))
  own : w.ownsRow base 5 1 v l.length (l.map vb)
  ne : v.ownBlock ≠ some p
  le : base ≤ p


/-- The post of each of its methods. -/
def WPost (w : World) (base p : Nat) (v : Value) (r : List UInt8 × Int) (e : Ending) (w' : World) : Prop :=
  e = .returned (.tuple #[]) ∧ ∃ v', Wr w' base p v' r.1 r.2 ∧ Keep (fun k => k = p ∨ v.ownBlock = some k) w w' ∧ (v'.ownBlock = v.ownBlock ∨ ∃ g, v'.ownBlock = some g ∧ w.heap.size ≤ g)

/-- The post of what is handed to 'write'. -/
def CPost (w : World) (bs : List UInt8) (er : Int) (e : Ending) (w' : World) : Prop :=
  ∃ bv, e = .returned (.tuple #[bv, .int .i64 er]) ∧ Keep noBlk w w' ∧ Rd w' 1 bv bs.length (bs.map vb)

theorem Wr.cells {w : World} {base p : Nat} {v : Value} {l : List UInt8} {e : Int} (h : Wr w base p v l e) :
    w.cell? ⟨p, 0, none⟩ = some (.bool true) ∧ w.cell? ⟨p, 1, none⟩ = some v ∧ w.cell? ⟨p, 2, none⟩ = some (.int .i64 e) ∧ (∀ i, w.frozen? ⟨p, i, none⟩ = false) := by
  refine ⟨?_, ?_, ?_, fun i => frozen_of_row w p i _ _ h.blk⟩ <;> (rw [cell_of_row w p _ _ _ _ h.blk]; rfl)
theorem Wr.keep {w w' : World} {base p : Nat} {v : Value} {l : List UInt8} {e : Int} (h : Wr w base p v l e) {S : Nat → Prop} (k : Keep S w w') (hp : ¬ S p) (hv : ∀ g, v.ownBlock = some g → ¬ S g) : Wr w' base p v l e :=
  ⟨k.blk h.blk hp, k.owns h.own hv, h.ne, h.le⟩
theorem Wr.setErr {w : World} {base p : Nat} {v : Value} {l : List UInt8} {e : Int} (h : Wr w base p v l e) (e' : Int) : Wr (w.setCell ⟨p, 2, none⟩ (.int .i64 e')) base p v l e' :=
  ⟨by rw [set_blk h.blk]; rfl, ownsRow_setCell_other h.own (by simpa using h.ne) _, h.ne, h.le⟩

/-- What stands behind the append and ahead of the store of its result. -/
theorem Wr.app {w w1 w2 : World} {base p : Nat} {v v' : Value} {l bs : List UInt8} (HH : Wr w1 base p v l 0) (HK : Keep (fun k => k = p ∨ v.ownBlock = some k) w w1)
    (hown2 : w2.ownsRow base 5 1 v' (l.length + bs.length) (l.map vb ++ bs.map vb)) (hk2 : Keep (fun k => v.ownBlock = some k) w1 w2) (hat : v'.ownBlock = v.ownBlock ∨ v'.ownBlock = some w1.heap.size) :
    w2.cell? ⟨p, 1, none⟩ = some v ∧ w2.frozen? ⟨p, 1, none⟩ = false ∧
    Hid (Wr (w2.setCell ⟨p, 1, none⟩ v') base p v' (l ++ bs) 0 ∧ Keep (fun k => k = p ∨ v.ownBlock = some k) w (w2.setCell ⟨p, 1, none⟩ v') ∧ (v'.ownBlock = v.ownBlock ∨ ∃ g, v'.ownBlock = some g ∧ w.heap.size ≤ g)) := by
  have hb2 := hk2.blk HH.blk HH.ne
  refine ⟨by rw [cell_of_row w2 p _ _ _ _ hb2]; rfl, frozen_of_row w2 p _ _ _ hb2, Lib.hid ⟨?_, ?_, ?_⟩⟩
  · have hne : v'.ownBlock ≠ some p := by
      rcases hat with h | h
      · rw [h]; exact HH.ne
      · rw [h]; have := lt_of_block HH.blk; intro e; simp only [Option.some.injEq] at e; omega
    refine ⟨by rw [set_blk hb2]; rfl, ?_, hne, HH.le⟩
    have := ownsRow_setCell_other hown2 (a := ⟨p, 1, none⟩) hne v'
    simpa using this
  · exact (HK.trans (hk2.mono fun _ _ h => .inr h)).setCell (fun _ => .inl rfl) _
  · rcases hat with h | h
    · exact .inl h
    · exact .inr ⟨_, h, HK.size⟩

set_option maxHeartbeats 400000 in
theorem write_err (p : Nat) (e : Int) (w : World) (fn : Nat) (caps : Array Value) (base : Nat) (v : Value) (l : List UInt8) (h : Wr w base p v l e) (he : e ≠ 0) :
    Calls Tryz.prog 83 #[.pointer (some ⟨p, 0, none⟩), .func (.func fn) #[] caps] w (WPost w base p v (l, e)) := by
  obtain ⟨hp0, hp1, hp2, hf⟩ := h.cells
  have he1 : (e != 0) = true := by simp [he]
  have he2 : (e == 0) = false := by simp [he]
  have he3 := Lib.hid he; clear he
  have H := Lib.hid h; clear h
  go_enter Tryz.func83, Tryz.ntmps83
  go_wp2_with fail
  refine ret0 rfl rfl ?_
  exact ⟨rfl, v, H.out, Keep.refl _ _, .inl rfl⟩

set_option maxHeartbeats 400000 in
theorem write_no (p : Nat) (w : World) (fn : Nat) (caps : Array Value) (base : Nat) (v : Value) (l : List UInt8) (h : Wr w base p v l 0)
    (hcf : ∀ w, Sem.run Tryz.prog (callFunc fn caps) w = .ok (.enter fn caps) w)
    (bs : List UInt8) (er : Int) (her : er ≠ 0) (hc : Calls Tryz.prog fn caps w (CPost w bs er)) :
    Calls Tryz.prog 83 #[.pointer (some ⟨p, 0, none⟩), .func (.func fn) #[] caps] w (WPost w base p v (l, er)) := by
  obtain ⟨hp0, hp1, hp2, hf⟩ := h.cells
  have he1 : (er != 0) = true := by simp [her]
  have he2 : (er == 0) = false := by simp [her]
  have he3 := Lib.hid her; clear her
  have H := Lib.hid h; clear h
  have C := Lib.hid hc; clear hc
  go_enter Tryz.func83, Tryz.ntmps83
  go_wp2_with fail
  refine C.out.mono ?_
  rintro e w1 ⟨bv, rfl, hk, -⟩
  have H1 := H.out.keep hk (fun h => h) (fun _ _ h => h)
  clear hp0 hp1 hp2 hf
  obtain ⟨hp0, hp1, hp2, hf⟩ := H1.cells
  have HK := Lib.hid hk; clear hk
  have HH := Lib.hid H1; clear H1
  go_wp2_with fail
  refine ret0 rfl rfl ?_
  refine ⟨rfl, v, HH.out.setErr er, ?_, .inl rfl⟩
  exact (HK.out.any).setCell (fun _ => .inl rfl) _

set_option maxHeartbeats 400000 in
theorem write_long (p : Nat) (w : World) (fn : Nat) (caps : Array Value) (base : Nat) (v : Value) (l : List UInt8) (h : Wr w base p v l 0)
    (hcf : ∀ w, Sem.run Tryz.prog (callFunc fn caps) w = .ok (.enter fn caps) w)
    (bs : List UInt8) (hl : l.length ≤ 65536) (hb : bs.length ≤ 140737488351232) (hlong : 65536 < l.length + bs.length) (hc : Calls Tryz.prog fn caps w (CPost w bs 0)) :
    Calls Tryz.prog 83 #[.pointer (some ⟨p, 0, none⟩), .func (.func fn) #[] caps] w (WPost w base p v (l, 3)) := by
  obtain ⟨hp0, hp1, hp2, hf⟩ := h.cells
  have H := Lib.hid h; clear h
  have C := Lib.hid hc; clear hc
  obtain ⟨a, n, cap, hv, hn⟩ : ∃ a n cap, v = .slice a n cap ∧ n = l.length := by
    rcases H.out.own.2 with ⟨h1, h2⟩ | ⟨g, cap, cur, h1, _⟩
    · exact ⟨_, _, _, h1, h2.symm⟩
    · exact ⟨_, _, _, h1, rfl⟩
  rw [hv] at hp1
  have HV := Lib.hid hv; clear hv
  have hn1 : n ≤ 65536 := by omega
  have hn2 : 65536 < n + bs.length := by omega
  have HN := Lib.hid hn; clear hn
  go_enter Tryz.func83, Tryz.ntmps83
  go_wp2_with fail
  refine C.out.mono ?_
  rintro e w1 ⟨bv, rfl, hk, hrd⟩
  have H1 := H.out.keep hk (fun h => h) (fun _ _ h => h)
  clear hp0 hp1 hp2 hf
  obtain ⟨hp0, hp1, hp2, hf⟩ := H1.cells
  rw [HV.out] at hp1
  obtain ⟨a2, cap2, rfl, -, -⟩ := hrd.form
  have HK := Lib.hid hk; clear hk
  have HH := Lib.hid H1; clear H1
  have HR := Lib.hid hrd; clear hrd
  go_wp2_with fail
  refine ret0 rfl rfl ?_
  refine ⟨rfl, v, HH.out.setErr 3, ?_, .inl rfl⟩
  exact (HK.out.any).setCell (fun _ => .inl rfl) _

set_option maxHeartbeats 400000 in
theorem write_ok (p : Nat) (w : World) (fn : Nat) (caps : Array Value) (base : Nat) (v : Value) (l : List UInt8) (h : Wr w base p v l 0)
    (hcf : ∀ w, Sem.run Tryz.prog (callFunc fn caps) w = .ok (.enter fn caps) w)
    (bs : List UInt8) (hlong : l.length + bs.length ≤ 65536) (hc : Calls Tryz.prog fn caps w (CPost w bs 0)) :
    Calls Tryz.prog 83 #[.pointer (some ⟨p, 0, none⟩), .func (.func fn) #[] caps] w (WPost w base p v (l ++ bs, 0)) := by
  obtain ⟨hp0, hp1, hp2, hf⟩ := h.cells
  have H := Lib.hid h; clear h
  have C := Lib.hid hc; clear hc
  obtain ⟨a, n, cap, hv, hn⟩ : ∃ a n cap, v = .slice a n cap ∧ n = l.length := by
    rcases H.out.own.2 with ⟨h1, h2⟩ | ⟨g, cap, cur, h1, _⟩
    · exact ⟨_, _, _, h1, h2.symm⟩
    · exact ⟨_, _, _, h1, rfl⟩
  rw [hv] at hp1
  have HV := Lib.hid hv; clear hv
  have hn2 : n + bs.length ≤ 65536 := by omega
  have HN := Lib.hid hn; clear hn
  go_enter Tryz.func83, Tryz.ntmps83
  go_wp2_with fail
  refine C.out.mono ?_
  rintro e w1 ⟨bv, rfl, hk, hrd⟩
  have H1 := H.out.keep hk (fun h => h) (fun _ _ h => h)
  clear hp0 hp1 hp2 hf
  obtain ⟨hp0, hp1, hp2, hf⟩ := H1.cells
  rw [HV.out] at hp1
  obtain ⟨a2, cap2, rfl, -, -⟩ := hrd.form
  have H2 := H1.setErr 0
  have hk2 : Keep (fun k => k = p ∨ v.ownBlock = some k) w (w1.setCell ⟨p, 2, none⟩ (.int .i64 0)) := (hk.any).setCell (fun _ => .inl rfl) _
  have hrd2 : Rd (w1.setCell ⟨p, 2, none⟩ (.int .i64 0)) 1 (.slice a2 bs.length cap2) bs.length (bs.map vb) := hrd.setCell hp2 (by simp [vb]) _
  have hsz : base ≤ (w1.setCell ⟨p, 2, none⟩ (.int .i64 0)).heap.size := by have := H2.le; have := lt_of_block H2.blk; omega
  have HS := Lib.hid hsz; clear hsz
  have HK := Lib.hid hk2; clear hk hk2
  have HH := Lib.hid H2; clear H2 H1
  have HR := Lib.hid hrd2; clear hrd2 hrd
  have hx1 : l.length + bs.length ≤ maxLen := by unfold maxLen; omega
  have HX := Lib.hid hx1; clear hx1
  go_wp2_with (at_builtin; refine wpList_append_rd rfl (.tmp 50) (.tmp 51) 51 rfl base 5 _ 1 1 Tryz.underlying51 infoU8 rfl (by omega) v l.length (l.map vb) (by exact HV.out.symm) HH.out.own _ bs.length (bs.map vb) rfl HR.out (oneCell_vb _) HX.out (by omega) HS.out ?_; intro v' w2 hown2 hk2 hnil hat; obtain ⟨a3, c3, rfl, -, -⟩ := (Rd.of_owns hown2).form; obtain ⟨c1, f1, HW⟩ := Wr.app HH.out HK.out hown2 hk2 hat; clear hown2 hk2 hnil hat hp0 hp1 hp2)
  go_end0
  exact ⟨rfl, _, HW.out⟩

theorem write_any (p : Nat) (w : World) (fn : Nat) (caps : Array Value) (base : Nat) (v : Value) (l : List UInt8) (e : Int) (h : Wr w base p v l e) (hl : l.length ≤ 65536)
    (hcf : ∀ w, Sem.run Tryz.prog (callFunc fn caps) w = .ok (.enter fn caps) w)
    (bs : List UInt8) (er : Int) (hb : bs.length ≤ 140737488351232) (hc : Calls Tryz.prog fn caps w (CPost w bs er)) :
    Calls Tryz.prog 83 #[.pointer (some ⟨p, 0, none⟩), .func (.func fn) #[] caps] w (WPost w base p v (wst (l, e) (bs, er))) := by
  by_cases he : e = 0
  · subst he
    by_cases her : er = 0
    · subst her
      by_cases hlen : 65536 < l.length + bs.length
      · have : wst (l, 0) (bs, 0) = (l, 3) := by simp [wst, hlen]
        rw [this]; exact write_long p w fn caps base v l h hcf bs hl hb hlen hc
      · have : wst (l, 0) (bs, 0) = (l ++ bs, 0) := by simp [wst, hlen]
        rw [this]; exact write_ok p w fn caps base v l h hcf bs (by omega) hc
    · have : wst (l, 0) (bs, er) = (l, er) := by simp [wst, her]
      rw [this]; exact write_no p w fn caps base v l h hcf bs er her hc
  · have : wst (l, e) (bs, er) = (l, e) := by simp [wst, he]
    rw [this]; exact write_err p e w fn caps base v l h he
end Go.Proofs.YtaiicjhnhbkgmaaGreatDoor

/-
  The writer of package field, its numbers.
  Conditions: the bounds on sizes that each theorem names.
-/
namespace Go.Proofs.YtaiicjhnhbkgmaaGreatDoor
open Go.RowKit
set_option maxRecDepth 100000

theorem Num_rel {w wr w2 : World} {k n s : Nat} {v v' : Value} (hown : wr.ownsRow w.heap.size 5 1 v k (((List.range k).map (beAt n s)).map vb)) (hkp : Keep noBlk w wr)
    (hown2 : w2.ownsRow w.heap.size 5 1 v' (k + 1) (((List.range k).map (beAt n s)).map vb ++ [.int .u8 ((n : Int) / 2 ^ (8 * (s - k - 1)) % 256)]))
    (hk2 : Keep (fun i => v.ownBlock = some i) (wr.alloc (.cells #[.int .u8 ((n : Int) / 2 ^ (8 * (s - k - 1)) % 256)] 5)) w2) :
    Hid (w2.ownsRow w.heap.size 5 1 v' (k + 1) (((List.range (k + 1)).map (beAt n s)).map vb)) ∧ Hid (Keep noBlk w w2) := by
  refine ⟨Lib.hid ?_, Lib.hid ?_⟩
  · rw [range_succ_map, List.map_append]
    simpa [vb, beAt_toNat] using hown2
  · refine (hkp.alloc _).trans' hk2 (fun _ _ h => h) (fun i hi h => ?_)
    have := (hown.lt i h).1
    omega

set_option maxHeartbeats 1000000 in
theorem num1_ok (A B s : Nat) (n : Nat) (w : World) (hs1 : 1 ≤ s) (hs7 : s ≤ 7) (hn : n < 2 ^ (8 * s))
    (hA : w.heap[A]? = some (.cells #[.int .i64 n] 3 (0, 0))) (hB : w.heap[B]? = some (.cells #[.int .i64 s] 3 (0, 0))) :
    Calls Tryz.prog 85 #[.pointer (some ⟨B, 0, none⟩), .pointer (some ⟨A, 0, none⟩)] w (CPost w (be n s) 0) := by
  have hn56 : n < 72057594037927936 := Nat.lt_of_lt_of_le hn (Nat.pow_le_pow_right (by omega) (show 8 * s ≤ 56 by omega))
  have hz : n / 2 ^ (8 * s) = 0 := Nat.div_eq_of_lt hn
  have hz' : ((n : Int) / 2 ^ (8 * s) != 0) = false := by
    have : ((n : Int) / 2 ^ (8 * s)) = ((n / 2 ^ (8 * s) : Nat) : Int) := by simp
    rw [this, hz]; rfl
  have hA' := cell_of_one hA
  have hB' := cell_of_one hB
  have HA := Lib.hid hA; have HB := Lib.hid hB; have HN := Lib.hid hn; have HZ := Lib.hid hz
  clear hA hB hn hz
  go_enter Tryz.func85, Tryz.ntmps85
  go_wp2_with fail
  go_loopw [4, 5] (fun v i wr => ∃ k : Nat, k ≤ s ∧ i = .int .i64 (s - k : Nat) ∧ Hid (wr.ownsRow w.heap.size 5 1 v k (((List.range k).map (beAt n s)).map vb)) ∧ Hid (Keep noBlk w wr)) (fun _ i _ => (intOf i).toNat)
  case atStart => exact ⟨0, by omega, rfl, Lib.hid (World.ownsRow_nil _ _ _ _), Lib.hid (Keep.refl _ _)⟩
  case round =>
    obtain ⟨k, hk, rfl, hown, hkp⟩ := hrel
    have hA2 := hkp.out.cell hA' id
    have hB2 := hkp.out.cell hB' id
    clear hA' hB'
    by_cases hlt : k < s
    · have hsz : w.heap.size ≤ (wr.alloc (.cells #[.int .u8 ((n : Int) / 2 ^ (8 * (s - k - 1)) % 256)] 5)).heap.size := by have := hkp.out.size; simp; omega
      have HS := Lib.hid hsz; clear hsz
      have hml : k + 1 ≤ maxLen := by unfold maxLen; omega
      have HML := Lib.hid hml; clear hml
      have h1 : ∀ u ∈ [Value.int .u8 ((n : Int) / 2 ^ (8 * (s - k - 1)) % 256)], u.oneCell' = true := by simp [Value.oneCell']
      have H1 := Lib.hid h1; clear h1
      go_wp2_with (at_builtin; refine wpList_append_rd rfl (.tmp 28) (.tmp 35) 51 rfl w.heap.size 5 _ 1 1 Tryz.underlying51 infoU8 rfl (by omega) _ k _ rfl (hown.out.alloc _) _ 1 _ rfl (rd_one _ _ _) H1.out HML.out (by omega) HS.out ?_; intro v' w2 hown2 hk2 hnil hat; have R := Num_rel hown.out hkp.out hown2 hk2; clear hown2 hk2 hnil hat hown hkp hA2 hB2)
      go_roundw
      case rel => exact ⟨k + 1, by omega, by rw [show s - (k + 1) = s - k - 1 by omega]; go_num, R⟩
      case measure => simp [intOf]; omega
    · obtain rfl : k = s := by omega
      go_wp2_with fail
      go_ret2
      exact ⟨_, rfl, hkp.out, by have := Rd.of_owns hown.out; rw [be_length]; exact this⟩

theorem CPost_nil {w : World} {er : Int} {e : Ending} {w' : World} (he : e = .returned (.tuple #[.slice none 0 0, .int .i64 er])) (hw : w = w') : CPost w [] er e w' := by
  subst hw
  exact ⟨_, he, Keep.refl _ _, Rd.nil _ _⟩

set_option maxHeartbeats 1000000 in
theorem num1_size (A B : Nat) (size : Int) (w : World) (hs : size < 1 ∨ 7 < size)
    (hB : w.heap[B]? = some (.cells #[.int .i64 size] 3 (0, 0))) :
    Calls Tryz.prog 85 #[.pointer (some ⟨B, 0, none⟩), .pointer (some ⟨A, 0, none⟩)] w (CPost w [] 2) := by
  have hB' := cell_of_one hB
  clear hB
  rcases hs with hs | hs
  · go_enter Tryz.func85, Tryz.ntmps85
    go_wp2_with fail
    go_ret2
    exact CPost_nil rfl rfl
  · have hs' : ¬ size < 1 := by omega
    go_enter Tryz.func85, Tryz.ntmps85
    go_wp2_with fail
    go_ret2
    exact CPost_nil rfl rfl

set_option maxHeartbeats 1000000 in
theorem num1_range (A B s : Nat) (n : Int) (w : World) (hs1 : 1 ≤ s) (hs7 : s ≤ 7) (hn : n < 0 ∨ n / 2 ^ (8 * s) ≠ 0)
    (hA : w.heap[A]? = some (.cells #[.int .i64 n] 3 (0, 0))) (hB : w.heap[B]? = some (.cells #[.int .i64 s] 3 (0, 0))) :
    Calls Tryz.prog 85 #[.pointer (some ⟨B, 0, none⟩), .pointer (some ⟨A, 0, none⟩)] w (CPost w [] 5) := by
  have hA' := cell_of_one hA
  have hB' := cell_of_one hB
  clear hA hB
  by_cases h0 : n < 0
  · clear hn
    go_enter Tryz.func85, Tryz.ntmps85
    go_wp2_with fail
    go_ret2
    exact CPost_nil rfl rfl
  · have h1 : (n / 2 ^ (8 * s) != 0) = true := by
      rcases hn with h | h
      · exact absurd h h0
      · simpa using h
    have h0' : 0 ≤ n := by omega
    clear hn h0
    go_enter Tryz.func85, Tryz.ntmps85
    go_wp2_with fail
    go_ret2
    exact CPost_nil rfl rfl

theorem num1_any (A B : Nat) (n size : Int) (w : World)
    (hA : w.heap[A]? = some (.cells #[.int .i64 n] 3 (0, 0))) (hB : w.heap[B]? = some (.cells #[.int .i64 size] 3 (0, 0))) :
    Calls Tryz.prog 85 #[.pointer (some ⟨B, 0, none⟩), .pointer (some ⟨A, 0, none⟩)] w (CPost w (numRes n size).1 (numRes n size).2) := by
  unfold numRes
  by_cases hs : size < 1 ∨ 7 < size
  · rw [if_pos hs]; exact num1_size A B size w hs hB
  · rw [if_neg hs]
    obtain ⟨s, rfl⟩ := Int.eq_ofNat_of_zero_le (show 0 ≤ size by omega)
    have e1 : (8 * (s : Int)).toNat = 8 * s := by omega
    rw [e1]
    by_cases hn : n < 0 ∨ n / 2 ^ (8 * s) ≠ 0
    · rw [if_pos hn]; exact num1_range A B s n w (by omega) (by omega) hn hA hB
    · rw [if_neg hn]
      obtain ⟨m, rfl⟩ := Int.eq_ofNat_of_zero_le (show 0 ≤ n by omega)
      have hm : m < 2 ^ (8 * s) := by
        have : (m : Int) / 2 ^ (8 * s) = 0 := by
          rcases Classical.em ((m : Int) / 2 ^ (8 * s) = 0) with h | h
          · exact h
          · exact absurd (.inr h) hn
        have h2 : m / 2 ^ (8 * s) = 0 := by
          have h3 : ((m / 2 ^ (8 * s) : Nat) : Int) = 0 := by simpa using this
          omega
        rcases Nat.lt_or_ge m (2 ^ (8 * s)) with h | h
        · exact h
        · have := Nat.div_pos h (Nat.pos_of_ne_zero (by simp)); omega
      exact num1_ok A B s m w (by omega) (by omega) hm hA hB

theorem WPost.of {w w2 : World} {base p : Nat} {v : Value} {r : List UInt8 × Int} {e : Ending} {w' : World} (hk : Keep noBlk w w2) (h : WPost w2 base p v r e w') : WPost w base p v r e w' := by
  obtain ⟨he, v', h1, h2, h3⟩ := h
  refine ⟨he, v', h1, hk.trans' h2 (fun _ _ h => h.elim) (fun _ _ h => h), ?_⟩
  rcases h3 with h | ⟨g, h, hg⟩
  · exact .inl h
  · exact .inr ⟨g, h, Nat.le_trans hk.size hg⟩

theorem numRes_len (n size : Int) : (numRes n size).1.length ≤ 7 := by
  unfold numRes
  split
  · simp
  · split
    · simp
    · rw [be_length]; omega

theorem end_write {p : Nat} {w w2 : World} {base : Nat} {v : Value} {r : List UInt8 × Int} (hk : Keep noBlk w w2) {e : Ending} {w' : World} (h : WPost w2 base p v r e w') : e = .returned (.tuple #[]) ∧ Hid (WPost w base p v r e w') :=
  ⟨h.1, WPost.of hk h⟩

set_option maxHeartbeats 1000000 in
theorem num_any (p : Nat) (n size : Int) (w : World) (base : Nat) (v : Value) (l : List UInt8) (e : Int) (h : Wr w base p v l e) (hl : l.length ≤ 65536) :
    Calls Tryz.prog 52 #[.pointer (some ⟨p, 0, none⟩), .int .i64 n, .int .i64 size] w (WPost w base p v (wst (l, e) (numRes n size))) := by
  have K : Keep noBlk w ((w.alloc (.cells #[.int .i64 n] 3)).alloc (.cells #[.int .i64 size] 3)) := ((Keep.refl _ _).alloc _).alloc _
  have H2 := h.keep K id (fun _ _ h => h)
  have c := num1_any w.heap.size (w.heap.size + 1) n size ((w.alloc (.cells #[.int .i64 n] 3)).alloc (.cells #[.int .i64 size] 3)) (heap_alloc2_old _ _ _) (heap_alloc2_new _ _ _)
  have W := write_any p _ 85 _ base v l e H2 hl (fun _ => rfl) _ _ (by have := numRes_len n size; omega) c
  have HW := Lib.hid W; have HK := Lib.hid K
  clear h H2 c W K
  go_enter Tryz.func52, Tryz.ntmps52
  go_wp2_with fail
  refine HW.out.mono ?_
  rintro e w1 h
  obtain ⟨rfl, h2⟩ := end_write HK.out h
  go_wp2_with fail
  go_end0
  exact h2.out
end Go.Proofs.YtaiicjhnhbkgmaaGreatDoor

/-
  The writer of package field, its bytes: Raw, Pad, New, Out; and bytes.Clone.
  Conditions: the bounds on sizes that each theorem names.
-/
namespace Go.Proofs.YtaiicjhnhbkgmaaGreatDoor
open Go.RowKit
set_option maxRecDepth 100000

set_option maxHeartbeats 400000 in
theorem new_any (w : World) : Calls Tryz.prog 50 #[] w fun e w' => ∃ p, e = .returned (.pointer (some ⟨p, 0, none⟩)) ∧ Wr w' w.heap.size p (.slice none 0 0) [] 0 ∧ Keep noBlk w w' ∧ w.heap.size ≤ p := by
  go_enter Tryz.func50, Tryz.ntmps50
  go_wp2_with fail
  go_ret
  refine ⟨_, rfl, ⟨?_, World.ownsRow_nil _ _ _ _, by simp [Value.ownBlock], Nat.le_refl _⟩, (Keep.refl _ _).alloc _, Nat.le_refl _⟩
  exact heap_alloc_new w _

set_option maxHeartbeats 400000 in
theorem raw1_any (A : Nat) (bv : Value) (bs : List UInt8) (w : World) (hA : w.heap[A]? = some (.cells #[bv] 51 (0, 0))) (hr : Rd w 1 bv bs.length (bs.map vb)) :
    Calls Tryz.prog 84 #[.pointer (some ⟨A, 0, none⟩)] w (CPost w bs 0) := by
  have hA' := cell_of_one hA
  obtain ⟨a, c, rfl, -, -⟩ := hr.form
  have HR := Lib.hid hr; clear hr hA
  go_enter Tryz.func84, Tryz.ntmps84
  go_wp2_with fail
  go_ret2
  exact ⟨_, rfl, Keep.refl _ _, HR.out⟩

set_option maxHeartbeats 400000 in
theorem raw_any (p : Nat) (bv : Value) (bs : List UInt8) (w : World) (base : Nat) (v : Value) (l : List UInt8) (e : Int) (h : Wr w base p v l e) (hl : l.length ≤ 65536) (hr : Rd w 1 bv bs.length (bs.map vb)) (hb : bs.length ≤ 140737488351232) :
    Calls Tryz.prog 51 #[.pointer (some ⟨p, 0, none⟩), bv] w (WPost w base p v (wst (l, e) (bs, 0))) := by
  have K : Keep noBlk w (w.alloc (.cells #[bv] 51)) := (Keep.refl _ _).alloc _
  have H2 := h.keep K id (fun _ _ h => h)
  have c := raw1_any w.heap.size bv bs (w.alloc (.cells #[bv] 51)) (heap_alloc_new _ _) (hr.keep K fun _ _ => id)
  have W := write_any p _ 84 _ base v l e H2 hl (fun _ => rfl) bs 0 hb c
  obtain ⟨a, cp, rfl, -, -⟩ := hr.form
  have HW := Lib.hid W; have HK := Lib.hid K
  clear h H2 c W K hr
  go_enter Tryz.func51, Tryz.ntmps51
  go_wp2_with fail
  refine HW.out.mono ?_
  rintro e w1 h
  obtain ⟨rfl, h2⟩ := end_write HK.out h
  go_wp2_with fail
  go_end0
  exact h2.out

set_option maxHeartbeats 1000000 in
theorem pad1_no (A B p : Nat) (to : Int) (w : World) (base : Nat) (v : Value) (l : List UInt8) (e : Int) (h : Wr w base p v l e) (hto : 65536 < to ∨ to < l.length)
    (hA : w.heap[A]? = some (.cells #[.pointer (some ⟨p, 0, none⟩)] 85 (0, 0))) (hB : w.heap[B]? = some (.cells #[.int .i64 to] 3 (0, 0))) :
    Calls Tryz.prog 86 #[.pointer (some ⟨B, 0, none⟩), .pointer (some ⟨A, 0, none⟩)] w (CPost w [] 2) := by
  obtain ⟨hp0, hp1, hp2, hf⟩ := h.cells
  obtain ⟨a, cp, rfl, -, -⟩ := (Rd.of_owns h.own).form
  have hA' := cell_of_one hA
  have hB' := cell_of_one hB
  clear h hA hB
  by_cases h1 : 65536 < to
  · clear hto
    go_enter Tryz.func86, Tryz.ntmps86
    go_wp2_with fail
    go_quiet (fail)
    go_wp2_with fail
    go_ret2
    exact ⟨_, rfl, (Keep.refl _ _).drewN _, Rd.nil _ _⟩
  · have h2 : to < l.length := by omega
    have h1' : decide (65536 < to) = false := by simpa using h1
    clear hto
    go_enter Tryz.func86, Tryz.ntmps86
    go_wp2_with fail
    go_quiet (fail)
    go_wp2_with fail
    go_ret2
    exact ⟨_, rfl, (Keep.refl _ _).drewN _, Rd.nil _ _⟩

set_option maxHeartbeats 1000000 in
theorem pad1_ok (A B p : Nat) (to : Nat) (w : World) (base : Nat) (v : Value) (l : List UInt8) (e : Int) (h : Wr w base p v l e) (hl : l.length ≤ to) (hto : to ≤ 65536)
    (hA : w.heap[A]? = some (.cells #[.pointer (some ⟨p, 0, none⟩)] 85 (0, 0))) (hB : w.heap[B]? = some (.cells #[.int .i64 to] 3 (0, 0))) :
    Calls Tryz.prog 86 #[.pointer (some ⟨B, 0, none⟩), .pointer (some ⟨A, 0, none⟩)] w (CPost w (List.replicate (to - l.length) 0) 0) := by
  obtain ⟨hp0, hp1, hp2, hf⟩ := h.cells
  obtain ⟨a, cp, rfl, -, -⟩ := (Rd.of_owns h.own).form
  have hA' := cell_of_one hA
  have hB' := cell_of_one hB
  have h1' : decide (65536 < (to : Int)) = false := by simp; omega
  have hw : IntKind.i64.wrap ((to : Int) - l.length) = ((to - l.length : Nat) : Int) := by rw [IntWalk.i64_in _ (by omega)]; omega
  clear h hA hB
  go_enter Tryz.func86, Tryz.ntmps86
  go_wp2_with fail
  go_quiet (fail)
  go_wp2_with fail
  obtain ⟨w2, hw2, c1, cA, cB⟩ : ∃ w2, w.drewN nq = w2 ∧ w2.cell? ⟨p, 1, none⟩ = some (.slice a l.length cp) ∧ w2.cell? ⟨A, 0, none⟩ = some (.pointer (some ⟨p, 0, none⟩)) ∧ w2.cell? ⟨B, 0, none⟩ = some (.int .i64 to) := ⟨_, rfl, hp1, hA', hB'⟩
  rw [hw2]
  have HW2 := Lib.hid hw2; clear hw2 hp0 hp1 hp2 hA' hB'
  go_still_tail 7, (by kernel_rfl)
  refine wpList_make_one rfl (.tmp 21) (.tmp 21) 51 rfl w.heap.size 5 _ 1 Tryz.underlying51 infoU8 rfl (to - l.length) (by rfl) (by rfl) (by omega) (by unfold maxLen; omega) (by rw [← HW2.out]; exact Nat.le_refl _) ?_
  intro w3 hown hk
  have HK : Hid (Keep noBlk w w3) := by
    refine Lib.hid ?_
    have : Keep noBlk w w2 := by rw [← HW2.out]; exact (Keep.refl _ _).drewN _
    exact this.trans' (show Keep noBlk w2 w3 from ⟨hk.os, hk.tape, hk.output, hk.size, hk.block⟩) (fun _ _ h => h) (fun _ _ h => h)
  have HO := Lib.hid hown
  clear hown hk hw
  go_wp2_with fail
  go_ret2
  refine ⟨_, rfl, HK.out, ?_⟩
  have := Rd.of_owns HO.out
  simpa [vb] using this

theorem pad1_any (A B p : Nat) (to : Int) (w : World) (base : Nat) (v : Value) (l : List UInt8) (e : Int) (h : Wr w base p v l e)
    (hA : w.heap[A]? = some (.cells #[.pointer (some ⟨p, 0, none⟩)] 85 (0, 0))) (hB : w.heap[B]? = some (.cells #[.int .i64 to] 3 (0, 0))) :
    Calls Tryz.prog 86 #[.pointer (some ⟨B, 0, none⟩), .pointer (some ⟨A, 0, none⟩)] w (CPost w (padRes to l).1 (padRes to l).2) := by
  unfold padRes
  by_cases hto : 65536 < to ∨ to < l.length
  · rw [if_pos hto]; exact pad1_no A B p to w base v l e h hto hA hB
  · rw [if_neg hto]
    obtain ⟨n, rfl⟩ := Int.eq_ofNat_of_zero_le (show 0 ≤ to by omega)
    exact pad1_ok A B p n w base v l e h (by omega) (by omega) hA hB

set_option maxHeartbeats 400000 in
theorem pad_any (p : Nat) (to : Int) (w : World) (base : Nat) (v : Value) (l : List UInt8) (e : Int) (h : Wr w base p v l e) (hl : l.length ≤ 65536) :
    Calls Tryz.prog 53 #[.pointer (some ⟨p, 0, none⟩), .int .i64 to] w (WPost w base p v (wst (l, e) (padRes to l))) := by
  have K : Keep noBlk w ((w.alloc (.cells #[.pointer (some ⟨p, 0, none⟩)] 85)).alloc (.cells #[.int .i64 to] 3)) := ((Keep.refl _ _).alloc _).alloc _
  have H2 := h.keep K id (fun _ _ h => h)
  have c := pad1_any w.heap.size (w.heap.size + 1) p to ((w.alloc (.cells #[.pointer (some ⟨p, 0, none⟩)] 85)).alloc (.cells #[.int .i64 to] 3)) base v l e H2 (heap_alloc2_old _ _ _) (heap_alloc2_new _ _ _)
  have W := write_any p _ 86 _ base v l e H2 hl (fun _ => rfl) _ _ (by have := padRes_len to l; omega) c
  have HW := Lib.hid W; have HK := Lib.hid K
  clear h H2 c W K
  go_enter Tryz.func53, Tryz.ntmps53
  go_wp2_with fail
  refine HW.out.mono ?_
  rintro e w1 h
  obtain ⟨rfl, h2⟩ := end_write HK.out h
  go_wp2_with fail
  go_end0
  exact h2.out

/-- The post of what makes a slice of bytes of its own. -/
def MadeB (w : World) (bs : List UInt8) (e : Ending) (w' : World) : Prop :=
  ∃ v', e = .returned v' ∧ w'.ownsRow w.heap.size 5 1 v' bs.length (bs.map vb) ∧ Keep noBlk w w'

set_option maxHeartbeats 400000 in
theorem clone_any (bv : Value) (bs : List UInt8) (w : World) (hr : Rd w 1 bv bs.length (bs.map vb)) (hb : bs.length ≤ 140737488351232) :
    Calls Tryz.prog 87 #[bv] w (MadeB w bs) := by
  obtain ⟨hl, a, cap, rfl, h1, h2, h3, h4⟩ := hr
  cases a with
  | none =>
    have hc := h3 rfl
    subst hc
    have hb0 : bs = [] := List.eq_nil_of_length_eq_zero (by omega)
    subst hb0
    clear h1 h2 h3 h4 hl
    have hq := fun (w : World) (a : Option Addr) (n c : Nat) => Lib.run_eql_slice_nil (P := Tryz.prog) w 51 5 a n c 0 0 Tryz.underlying51
    go_enter Tryz.func87, Tryz.ntmps87
    go_wp2_with fail
    go_ret
    exact ⟨_, rfl, World.ownsRow_nil _ _ _ _, Keep.refl _ _⟩
  | some ad =>
    have K : Keep noBlk w (w.alloc (.cells #[] 5)) := (Keep.refl _ _).alloc _
    have HR := Lib.hid ((show Rd w 1 (.slice (some ad) bs.length cap) bs.length (bs.map vb) from ⟨hl, _, _, rfl, h1, h2, h3, h4⟩).keep K fun _ _ => id)
    have HK := Lib.hid K
    have hx1 : 0 + bs.length ≤ maxLen := by unfold maxLen; omega
    have HX := Lib.hid hx1
    clear h1 h2 h3 h4 hl K hx1
    have hq := fun (w : World) (a : Option Addr) (n c : Nat) => Lib.run_eql_slice_nil (P := Tryz.prog) w 51 5 a n c 0 0 Tryz.underlying51
    go_enter Tryz.func87, Tryz.ntmps87
    go_wp2_with (at_builtin; refine wpList_append_rd rfl (.tmp 5) (.tmp 6) 51 rfl w.heap.size 5 _ 1 1 Tryz.underlying51 infoU8 rfl (by omega) _ 0 [] rfl (World.ownsRow_made w #[] 0 (Nat.le_refl _) (by unfold maxLen; omega) (by simp)) _ bs.length (bs.map vb) rfl HR.out (oneCell_vb _) HX.out (by omega) (by simp) ?_; intro v' w2 hown2 hk2 hnil hat; obtain ⟨a3, c3, rfl, -, -⟩ := (Rd.of_owns hown2).form; have HO := Lib.hid hown2; have HK2 := Lib.hid hk2; clear hown2 hk2 hnil hat)
    go_ret
    refine ⟨_, rfl, by simpa using HO.out, HK.out.trans' HK2.out (fun _ _ h => h) (fun i hi h => ?_)⟩
    have h' : w.heap.size = i := Option.some.inj h
    omega

/-- What Out tells: a copy, or the error. -/
def OutPost (w : World) (l : List UInt8) (er : Int) (e : Ending) (w' : World) : Prop :=
  ∃ v', e = .returned (.tuple #[v', .int .i64 er]) ∧ w'.ownsRow w.heap.size 5 1 v' (if er = 0 then l else []).length ((if er = 0 then l else []).map vb) ∧ Keep noBlk w w'

set_option maxHeartbeats 400000 in
theorem out_any (p : Nat) (w : World) (base : Nat) (v : Value) (l : List UInt8) (e : Int) (h : Wr w base p v l e) (hl : l.length ≤ 65536) :
    Calls Tryz.prog 54 #[.pointer (some ⟨p, 0, none⟩)] w (OutPost w l e) := by
  obtain ⟨hp0, hp1, hp2, hf⟩ := h.cells
  by_cases he : e = 0
  · subst he
    have c := clone_any v l w (Rd.of_owns h.own) (by omega)
    have C := Lib.hid c; clear c
    obtain ⟨a, cp, rfl, -, -⟩ := (Rd.of_owns h.own).form
    clear h
    go_enter Tryz.func54, Tryz.ntmps54
    go_wp2_with fail
    refine C.out.mono ?_
    rintro e w1 ⟨v', rfl, hown, hk⟩
    have HO := Lib.hid hown; have HK := Lib.hid hk
    obtain ⟨a3, c3, rfl, -, -⟩ := (Rd.of_owns hown).form
    clear hown hk
    go_wp2_with fail
    go_ret2
    exact ⟨_, rfl, HO.out, HK.out⟩
  · have he1 : (e != 0) = true := by simp [he]
    have HE := Lib.hid he; clear he h
    go_enter Tryz.func54, Tryz.ntmps54
    go_wp2_with fail
    go_quiet (fail)
    go_wp2_with fail
    go_ret2
    refine ⟨_, rfl, ?_, (Keep.refl _ _).drewN _⟩
    rw [if_neg HE.out]
    exact World.ownsRow_nil _ _ _ _
end Go.Proofs.YtaiicjhnhbkgmaaGreatDoor
