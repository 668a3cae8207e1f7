/-
  The writer of package field: what each of its methods does to a writer in memory.
  Conditions: the bounds on sizes that each theorem names.
-/
import Derived.Test.YtdlegbcdmlmbpaaBase
import Derived.Test.YtdlegbcdmlmbpaaPlain1
namespace Go.Proofs.Ytdlegbcdmlmbpaa
open Go.RowKit
set_option maxRecDepth 100000

theorem infoU8 : (Try.prog.info? 5).map (fun i => (i.zero, i.size, i.bytes)) = some (some (.int .u8 0), 1, 1) := by kernel_rfl
theorem ret0 {P : Program} {fn : Func} {R : Ending → World → Prop} {a : Act} {w : World} (hf : fn.results = #[]) (hd : a.defers = []) (hR : R (.returned (.tuple #[])) w) : bodyPost P fn R .ret a w :=
  bodyPost_ret (results_none hf _ _ _) hd hR

/-- A writer at block p: v is its buffer, which reads l; e is its error. -/
structure Wr (w : World) (base p : Nat) (v : Value) (l : List UInt8) (e : Int) : Prop where
  blk : w.heap[p]? = some (.cells #[.bool true, v, .int .i64 e] 86 (0, 0))
  own : w.ownsRow base 5 1 v l.length (l.map vb)
  ne : v.ownBlock ≠ some p
  le : base ≤ p


/-- The post of each of its methods. -/
def WPost (w : World) (base p : Nat) (v : Value) (r : List UInt8 × Int) (e : Ending) (w' : World) : Prop :=
  e = .returned (.tuple #[]) ∧ ∃ v', Wr w' base p v' r.1 r.2 ∧ Keep (fun k => k = p ∨ v.ownBlock = some k) w w' ∧ (v'.ownBlock = v.ownBlock ∨ ∃ g, v'.ownBlock = some g ∧ w.heap.size ≤ g)

/-- The post of what is handed to 'write'. -/
def CPost (w : World) (bs : List UInt8) (er : Int) (e : Ending) (w' : World) : Prop :=
  ∃ bv, e = .returned (.tuple #[bv, .int .i64 er]) ∧ Keep noBlk w w' ∧ Rd w' 1 bv bs.length (bs.map vb)

theorem Wr.cells {w : World} {base p : Nat} {v : Value} {l : List UInt8} {e : Int} (h : Wr w base p v l e) :
    w.cell? ⟨p, 0, none⟩ = some (.bool true) ∧ w.cell? ⟨p, 1, none⟩ = some v ∧ w.cell? ⟨p, 2, none⟩ = some (.int .i64 e) ∧ (∀ i, w.frozen? ⟨p, i, none⟩ = false) := by
  refine ⟨?_, ?_, ?_, fun i => frozen_of_row w p i _ _ h.blk⟩ <;> (rw [cell_of_row w p _ _ _ _ h.blk]; rfl)
theorem Wr.keep {w w' : World} {base p : Nat} {v : Value} {l : List UInt8} {e : Int} (h : Wr w base p v l e) {S : Nat → Prop} (k : Keep S w w') (hp : ¬ S p) (hv : ∀ g, v.ownBlock = some g → ¬ S g) : Wr w' base p v l e :=
  ⟨k.blk h.blk hp, k.owns h.own hv, h.ne, h.le⟩
theorem Wr.setErr {w : World} {base p : Nat} {v : Value} {l : List UInt8} {e : Int} (h : Wr w base p v l e) (e' : Int) : Wr (w.setCell ⟨p, 2, none⟩ (.int .i64 e')) base p v l e' :=
  ⟨by rw [set_blk h.blk]; rfl, ownsRow_setCell_other h.own (by simpa using h.ne) _, h.ne, h.le⟩

/-- What stands behind the append and ahead of the store of its result. -/
theorem Wr.app {w w1 w2 : World} {base p : Nat} {v v' : Value} {l bs : List UInt8} (HH : Wr w1 base p v l 0) (HK : Keep (fun k => k = p ∨ v.ownBlock = some k) w w1)
    (hown2 : w2.ownsRow base 5 1 v' (l.length + bs.length) (l.map vb ++ bs.map vb)) (hk2 : Keep (fun k => v.ownBlock = some k) w1 w2) (hat : v'.ownBlock = v.ownBlock ∨ v'.ownBlock = some w1.heap.size) :
    w2.cell? ⟨p, 1, none⟩ = some v ∧ w2.frozen? ⟨p, 1, none⟩ = false ∧
    Hid (Wr (w2.setCell ⟨p, 1, none⟩ v') base p v' (l ++ bs) 0 ∧ Keep (fun k => k = p ∨ v.ownBlock = some k) w (w2.setCell ⟨p, 1, none⟩ v') ∧ (v'.ownBlock = v.ownBlock ∨ ∃ g, v'.ownBlock = some g ∧ w.heap.size ≤ g)) := by
  have hb2 := hk2.blk HH.blk HH.ne
  refine ⟨by rw [cell_of_row w2 p _ _ _ _ hb2]; rfl, frozen_of_row w2 p _ _ _ hb2, Lib.hid ⟨?_, ?_, ?_⟩⟩
  · have hne : v'.ownBlock ≠ some p := by
      rcases hat with h | h
      · rw [h]; exact HH.ne
      · rw [h]; have := lt_of_block HH.blk; intro e; simp only [Option.some.injEq] at e; omega
    refine ⟨by rw [set_blk hb2]; rfl, ?_, hne, HH.le⟩
    have := ownsRow_setCell_other hown2 (a := ⟨p, 1, none⟩) hne v'
    simpa using this
  · exact (HK.trans (hk2.mono fun _ _ h => .inr h)).setCell (fun _ => .inl rfl) _
  · rcases hat with h | h
    · exact .inl h
    · exact .inr ⟨_, h, HK.size⟩

set_option maxHeartbeats 400000 in
theorem write_err (p : Nat) (e : Int) (w : World) (fn : Nat) (caps : Array Value) (base : Nat) (v : Value) (l : List UInt8) (h : Wr w base p v l e) (he : e ≠ 0) :
    Calls Try.prog 63 #[.pointer (some ⟨p, 0, none⟩), .func (.func fn) #[] caps] w (WPost w base p v (l, e)) := by
  obtain ⟨hp0, hp1, hp2, hf⟩ := h.cells
  have he1 : (e != 0) = true := by simp [he]
  have he2 : (e == 0) = false := by simp [he]
  have he3 := Lib.hid he; clear he
  have H := Lib.hid h; clear h
  go_enter Try.func63, Try.ntmps63
  go_wp2_with fail
  refine ret0 rfl rfl ?_
  exact ⟨rfl, v, H.out, Keep.refl _ _, .inl rfl⟩

set_option maxHeartbeats 400000 in
theorem write_no (p : Nat) (w : World) (fn : Nat) (caps : Array Value) (base : Nat) (v : Value) (l : List UInt8) (h : Wr w base p v l 0)
    (hcf : ∀ w, Sem.run Try.prog (callFunc fn caps) w = .ok (.enter fn caps) w)
    (bs : List UInt8) (er : Int) (her : er ≠ 0) (hc : Calls Try.prog fn caps w (CPost w bs er)) :
    Calls Try.prog 63 #[.pointer (some ⟨p, 0, none⟩), .func (.func fn) #[] caps] w (WPost w base p v (l, er)) := by
  obtain ⟨hp0, hp1, hp2, hf⟩ := h.cells
  have he1 : (er != 0) = true := by simp [her]
  have he2 : (er == 0) = false := by simp [her]
  have he3 := Lib.hid her; clear her
  have H := Lib.hid h; clear h
  have C := Lib.hid hc; clear hc
  go_enter Try.func63, Try.ntmps63
  go_wp2_with fail
  refine C.out.mono ?_
  rintro e w1 ⟨bv, rfl, hk, -⟩
  have H1 := H.out.keep hk (fun h => h) (fun _ _ h => h)
  clear hp0 hp1 hp2 hf
  obtain ⟨hp0, hp1, hp2, hf⟩ := H1.cells
  have HK := Lib.hid hk; clear hk
  have HH := Lib.hid H1; clear H1
  go_wp2_with fail
  refine ret0 rfl rfl ?_
  refine ⟨rfl, v, HH.out.setErr er, ?_, .inl rfl⟩
  exact (HK.out.any).setCell (fun _ => .inl rfl) _

set_option maxHeartbeats 400000 in
theorem write_long (p : Nat) (w : World) (fn : Nat) (caps : Array Value) (base : Nat) (v : Value) (l : List UInt8) (h : Wr w base p v l 0)
    (hcf : ∀ w, Sem.run Try.prog (callFunc fn caps) w = .ok (.enter fn caps) w)
    (bs : List UInt8) (hl : l.length ≤ 65536) (hb : bs.length ≤ 140737488351232) (hlong : 65536 < l.length + bs.length) (hc : Calls Try.prog fn caps w (CPost w bs 0)) :
    Calls Try.prog 63 #[.pointer (some ⟨p, 0, none⟩), .func (.func fn) #[] caps] w (WPost w base p v (l, 3)) := by
  obtain ⟨hp0, hp1, hp2, hf⟩ := h.cells
  have H := Lib.hid h; clear h
  have C := Lib.hid hc; clear hc
  obtain ⟨a, n, cap, hv, hn⟩ : ∃ a n cap, v = .slice a n cap ∧ n = l.length := by
    rcases H.out.own.2 with ⟨h1, h2⟩ | ⟨g, cap, cur, h1, _⟩
    · exact ⟨_, _, _, h1, h2.symm⟩
    · exact ⟨_, _, _, h1, rfl⟩
  rw [hv] at hp1
  have HV := Lib.hid hv; clear hv
  have hn1 : n ≤ 65536 := by omega
  have hn2 : 65536 < n + bs.length := by omega
  have HN := Lib.hid hn; clear hn
  go_enter Try.func63, Try.ntmps63
  go_wp2_with fail
  refine C.out.mono ?_
  rintro e w1 ⟨bv, rfl, hk, hrd⟩
  have H1 := H.out.keep hk (fun h => h) (fun _ _ h => h)
  clear hp0 hp1 hp2 hf
  obtain ⟨hp0, hp1, hp2, hf⟩ := H1.cells
  rw [HV.out] at hp1
  obtain ⟨a2, cap2, rfl, -, -⟩ := hrd.form
  have HK := Lib.hid hk; clear hk
  have HH := Lib.hid H1; clear H1
  have HR := Lib.hid hrd; clear hrd
  go_wp2_with fail
  refine ret0 rfl rfl ?_
  refine ⟨rfl, v, HH.out.setErr 3, ?_, .inl rfl⟩
  exact (HK.out.any).setCell (fun _ => .inl rfl) _

set_option maxHeartbeats 400000 in
theorem write_ok (p : Nat) (w : World) (fn : Nat) (caps : Array Value) (base : Nat) (v : Value) (l : List UInt8) (h : Wr w base p v l 0)
    (hcf : ∀ w, Sem.run Try.prog (callFunc fn caps) w = .ok (.enter fn caps) w)
    (bs : List UInt8) (hlong : l.length + bs.length ≤ 65536) (hc : Calls Try.prog fn caps w (CPost w bs 0)) :
    Calls Try.prog 63 #[.pointer (some ⟨p, 0, none⟩), .func (.func fn) #[] caps] w (WPost w base p v (l ++ bs, 0)) := by
  obtain ⟨hp0, hp1, hp2, hf⟩ := h.cells
  have H := Lib.hid h; clear h
  have C := Lib.hid hc; clear hc
  obtain ⟨a, n, cap, hv, hn⟩ : ∃ a n cap, v = .slice a n cap ∧ n = l.length := by
    rcases H.out.own.2 with ⟨h1, h2⟩ | ⟨g, cap, cur, h1, _⟩
    · exact ⟨_, _, _, h1, h2.symm⟩
    · exact ⟨_, _, _, h1, rfl⟩
  rw [hv] at hp1
  have HV := Lib.hid hv; clear hv
  have hn2 : n + bs.length ≤ 65536 := by omega
  have HN := Lib.hid hn; clear hn
  go_enter Try.func63, Try.ntmps63
  go_wp2_with fail
  refine C.out.mono ?_
  rintro e w1 ⟨bv, rfl, hk, hrd⟩
  have H1 := H.out.keep hk (fun h => h) (fun _ _ h => h)
  clear hp0 hp1 hp2 hf
  obtain ⟨hp0, hp1, hp2, hf⟩ := H1.cells
  rw [HV.out] at hp1
  obtain ⟨a2, cap2, rfl, -, -⟩ := hrd.form
  have H2 := H1.setErr 0
  have hk2 : Keep (fun k => k = p ∨ v.ownBlock = some k) w (w1.setCell ⟨p, 2, none⟩ (.int .i64 0)) := (hk.any).setCell (fun _ => .inl rfl) _
  have hrd2 : Rd (w1.setCell ⟨p, 2, none⟩ (.int .i64 0)) 1 (.slice a2 bs.length cap2) bs.length (bs.map vb) := hrd.setCell hp2 (by simp [vb]) _
  have hsz : base ≤ (w1.setCell ⟨p, 2, none⟩ (.int .i64 0)).heap.size := by have := H2.le; have := lt_of_block H2.blk; omega
  have HS := Lib.hid hsz; clear hsz
  have HK := Lib.hid hk2; clear hk hk2
  have HH := Lib.hid H2; clear H2 H1
  have HR := Lib.hid hrd2; clear hrd2 hrd
  have hx1 : l.length + bs.length ≤ maxLen := by unfold maxLen; omega
  have HX := Lib.hid hx1; clear hx1
  go_wp2_with (at_builtin; refine wpList_append_rd rfl (.tmp 50) (.tmp 51) 26 rfl base 5 _ 1 1 Try.underlying26 infoU8 rfl (by omega) v l.length (l.map vb) (by exact HV.out.symm) HH.out.own _ bs.length (bs.map vb) rfl HR.out (oneCell_vb _) HX.out (by omega) HS.out ?_; intro v' w2 hown2 hk2 hnil hat; obtain ⟨a3, c3, rfl, -, -⟩ := (Rd.of_owns hown2).form; obtain ⟨c1, f1, HW⟩ := Wr.app HH.out HK.out hown2 hk2 hat; clear hown2 hk2 hnil hat hp0 hp1 hp2)
  go_end0
  exact ⟨rfl, _, HW.out⟩

theorem write_any (p : Nat) (w : World) (fn : Nat) (caps : Array Value) (base : Nat) (v : Value) (l : List UInt8) (e : Int) (h : Wr w base p v l e) (hl : l.length ≤ 65536)
    (hcf : ∀ w, Sem.run Try.prog (callFunc fn caps) w = .ok (.enter fn caps) w)
    (bs : List UInt8) (er : Int) (hb : bs.length ≤ 140737488351232) (hc : Calls Try.prog fn caps w (CPost w bs er)) :
    Calls Try.prog 63 #[.pointer (some ⟨p, 0, none⟩), .func (.func fn) #[] caps] w (WPost w base p v (wst (l, e) (bs, er))) := by
  by_cases he : e = 0
  · subst he
    by_cases her : er = 0
    · subst her
      by_cases hlen : 65536 < l.length + bs.length
      · have : wst (l, 0) (bs, 0) = (l, 3) := by simp [wst, hlen]
        rw [this]; exact write_long p w fn caps base v l h hcf bs hl hb hlen hc
      · have : wst (l, 0) (bs, 0) = (l ++ bs, 0) := by simp [wst, hlen]
        rw [this]; exact write_ok p w fn caps base v l h hcf bs (by omega) hc
    · have : wst (l, 0) (bs, er) = (l, er) := by simp [wst, her]
      rw [this]; exact write_no p w fn caps base v l h hcf bs er her hc
  · have : wst (l, e) (bs, er) = (l, e) := by simp [wst, he]
    rw [this]; exact write_err p e w fn caps base v l h he
end Go.Proofs.Ytdlegbcdmlmbpaa
