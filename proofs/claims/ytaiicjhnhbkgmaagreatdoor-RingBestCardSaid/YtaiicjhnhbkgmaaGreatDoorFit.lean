/-
  What stands in the spare room of a slice of one's own: append keeps up whatever holds of each cell of its block.
  Conditions: none; plain laws over any program.
-/
import Derived.Test.YtaiicjhnhbkgmaaGreatDoorBase
import Derived.Test.YtaiicjhnhbkgmaaGreatDoorField
namespace Go.Proofs.YtaiicjhnhbkgmaaGreatDoor
open Go.RowKit

/-- p holds of each cell of the block in which a slice lies. -/
def Fit (p : Value → Prop) (w : World) (v : Value) : Prop := ∀ g cur e fr, v.ownBlock = some g → w.heap[g]? = some (.cells cur e fr) → ∀ c ∈ cur.toList, p c

theorem Fit.nil (p : Value → Prop) (w : World) : Fit p w (.slice none 0 0) := fun _ _ _ _ h => by cases h
theorem Fit.keep {p : Value → Prop} {S : Nat → Prop} {w w' : World} {v : Value} (h : Fit p w v) (hk : Keep S w w') (hlt : ∀ g, v.ownBlock = some g → g < w.heap.size ∧ ¬ S g) : Fit p w' v := by
  intro g cur e fr hg hc
  obtain ⟨h1, h2⟩ := hlt g hg
  rw [hk.block g h1 h2] at hc
  exact h g cur e fr hg hc
theorem Fit.made {p : Value → Prop} (w : World) (l : List Value) (t : TypeId) (fr : Nat × Nat) (n c : Nat) (h : ∀ u ∈ l, p u) : Fit p (w.alloc (.cells l.toArray t fr)) (.slice (some ⟨w.heap.size, 0, none⟩) n c) := by
  intro g cur e fr hg hc
  have : w.heap.size = g := by simpa [Value.ownBlock] using hg
  subst this
  rw [heap_alloc_new] at hc
  cases hc
  simpa using h
theorem mem_zeroCells {z : Array Value} {n : Nat} {c : Value} (hz : 0 < z.size) (h : c ∈ (Builtin.zeroCells z n).toList) : c ∈ z.toList := by
  simp only [Builtin.zeroCells, Array.toList_map, List.mem_map] at h
  obtain ⟨i, -, rfl⟩ := h
  have hlt : i % z.size < z.size := Nat.mod_lt _ hz
  rw [getElem!_pos z _ hlt]
  exact Array.getElem_mem_toList hlt

section
variable {P : Program} (w : World)
theorem run_append_fit (base : Nat) (t ty e : TypeId) (i : TypeInfo) (z : Value) (ht : P.underlying t = some (.slice e)) (hi : P.info? e = some i) (hz : i.zero = some z) (hzs : z.cells.size = i.size) (hsz : 0 < i.size)
    (v : Value) (n : Nat) (xs : List Value) (hown : w.ownsRow base e i.size v n xs)
    (a : Addr) (m c : Nat) (news : List Value) (hl : news.length = m * i.size) (hnews : ∀ j u, news[j]? = some u → w.cell? (a.add j) = some u) (h1 : ∀ u ∈ news, u.oneCell' = true)
    (h63 : n + m ≤ maxLen) (hbytes : (n + m) * i.bytes ≤ 140737488355328) (p : Value → Prop) (hpz : ∀ u ∈ z.cells.toList, p u) (hpn : ∀ u ∈ news, p u) (hf : Fit p w v) :
    ∃ v' w', (Builtin.append_ #[t, t] ty #[v, .slice (some a) m c]).run P w = .ok v' w' ∧ Fit p w' v' := by
  have h63' : n + m ≤ 9223372036854775807 := by simpa [maxLen] using h63
  have hz0 : 0 < z.cells.size := by rw [hzs]; exact hsz
  have fresh : ∀ (cs : List Value) (k cap : Nat), (∀ u ∈ cs, p u) → Fit p (w.drew.alloc (.cells (cs.toArray ++ Builtin.zeroCells z.cells k) e)) (.slice (some ⟨w.heap.size, 0, none⟩) (n + m) cap) := by
    intro cs k cap hcs g cur e' fr hg hc
    have : w.heap.size = g := by simpa [Value.ownBlock] using hg
    subst this
    rw [show w.heap.size = w.drew.heap.size from rfl, heap_alloc_new] at hc
    cases hc
    intro u hu
    simp only [Array.toList_append, List.mem_append] at hu
    rcases hu with hu | hu
    · exact hcs u hu
    · exact hpz u (mem_zeroCells hz0 hu)
  rcases hown.2 with ⟨rfl, rfl⟩ | ⟨g, cap, cur, rfl, hbg, hg, hnc, hcm, hcs, htake⟩
  · by_cases hm : m = 0
    · subst hm
      have hn : news = [] := List.eq_nil_of_length_eq_zero (by simpa using hl)
      subst hn
      refine ⟨.slice none 0 0, w, ?_, Fit.nil p w⟩
      simp [Builtin.append_, run_underlying ht, sizeOf, typeInfo, hi, Builtin.lenOf, Builtin.firstCells, loadCells, loadCellsFrom]
    · refine ⟨_, _, run_append_nil (P := P) w t ty e i z ht hi hz a m c news hl hnews (by omega) (by omega) (by rw [Nat.zero_add] at hbytes; omega), ?_⟩
      have := fresh news (grownCap w m 0 e - m) (grownCap w m 0 e) hpn
      rwa [Nat.zero_add] at this
  · have hcur : ∀ u ∈ cur.toList, p u := hf g cur e (0, 0) rfl hg
    by_cases hroom : n + m ≤ cap
    · refine ⟨_, _, run_append_room (P := P) w t ty e i ht hi g n cap cur hg a m c news hl hnews h1 hroom (by rw [hl, hcs, ← Nat.add_mul]; exact Nat.mul_le_mul_right _ hroom), ?_⟩
      intro g' cur' e' fr hg' hc
      have : g = g' := by simpa [Value.ownBlock] using hg'
      subst this
      rw [setRow_heap w g cur _ e _ hg] at hc
      cases hc
      intro u hu
      simp only [List.mem_append] at hu
      rcases hu with (hu | hu) | hu
      · exact hcur u (List.mem_of_mem_take hu)
      · exact hpn u hu
      · exact hcur u (List.mem_of_mem_drop hu)
    · refine ⟨_, _, run_append_grow (P := P) w t ty e i z ht hi hz ⟨g, 0, none⟩ n cap xs hown.1 (hown.cells (g := g) rfl) a m c news hl hnews (by omega) (by omega) (growslice_fits (by omega) hbytes), ?_⟩
      have hfr := fresh (xs ++ news) (grownCap w (n + m) cap e - (n + m)) (grownCap w (n + m) cap e) ?_
      · rwa [show (xs ++ news).toArray = xs.toArray ++ news.toArray by simp] at hfr
      intro u hu
      rcases List.mem_append.1 hu with hu | hu
      · rw [← htake] at hu; exact hcur u (List.mem_of_mem_take hu)
      · exact hpn u hu
end

/-- 'append(d, s...)', as 'wpList_append_rd', and what holds of each cell. -/
theorem wpList_append_rdf {P : Program} {w : World} {ops : Array Oper} {rest : List Oper} {o : Oper} {a : Act} {Q : Exit → Act → World → Prop} (hgd : o.guard = none) (s x : Operand) (t : TypeId)
    (ho : o.op = .call { callee := .builtin .append, args := #[s, x], argTypes := #[t, t] })
    (base : Nat) (e : TypeId) (z : Value) (size bytes : Nat) (ht : P.underlying t = some (.slice e)) (hinf : (P.info? e).map (fun i => (i.zero, i.size, i.bytes)) = some (some z, size, bytes)) (hzs : z.cells.size = size) (hsz : 0 < size)
    (v : Value) (n : Nat) (xs : List Value) (hs : a.eval s = v) (hown : w.ownsRow base e size v n xs)
    (v2 : Value) (m : Nat) (news : List Value) (hx : a.eval x = v2) (hrd : Rd w size v2 m news) (h1 : ∀ u ∈ news, u.oneCell' = true)
    (h63 : n + m ≤ maxLen) (hbytes : (n + m) * bytes ≤ 140737488355328) (hbase : base ≤ w.heap.size) (p : Value → Prop) (hpz : ∀ u ∈ z.cells.toList, p u) (hpn : ∀ u ∈ news, p u) (hf : Fit p w v)
    (h : ∀ v' w', w'.ownsRow base e size v' (n + m) (xs ++ news) → Keep (fun k => v.ownBlock = some k) w w' →
      (v' = .slice none 0 0 ↔ v = .slice none 0 0 ∧ m = 0) →
      (v'.ownBlock = v.ownBlock ∨ v'.ownBlock = some w.heap.size) → Fit p w' v' → wpList P ops Q rest (a.put o.dst v') w') : wpList P ops Q (o :: rest) a w := by
  obtain ⟨i, hi, hz0, hz1, hz2⟩ := info_parts hinf
  subst hz1
  subst hz2
  obtain ⟨hlen, ad, cap, rfl, h2, h3, h4, h5⟩ := hrd
  cases ad with
  | none =>
    have hc := h4 rfl
    have hl : m = 0 := by omega
    subst hl
    have hn : news = [] := List.eq_nil_of_length_eq_zero (by simpa using hlen)
    subst hn
    subst hc
    exact wpList_append_own_none hgd s x t ho base e i _ ht hi v n xs hs hown hx (h v w (by simpa using hown) (Keep.refl _ _) (by simp) (.inl rfl) hf)
  | some ad =>
    have hcells : ∀ j u, news[j]? = some u → w.cell? (ad.add j) = some u := by
      intro j u hu
      have hlen : 0 < news.length := by
        rcases Nat.eq_zero_or_pos news.length with h0 | h0
        · rw [List.eq_nil_of_length_eq_zero h0] at hu; simp at hu
        · exact h0
      obtain ⟨g, o', hh, hc⟩ := h5 hlen
      cases hh
      rw [add_lit]
      exact hc j u hu
    refine wpList_plain hgd fun K hK => ?_
    obtain ⟨v', w', hr, g2, g3, g4, g5⟩ := run_append_own_at (P := P) w base t o.type e i z _ _ ht hi hz0 rfl rfl hzs hsz v n xs hown ad m cap news hlen hcells h1 h63 hbytes hbase
    obtain ⟨v'', w'', hr', g6⟩ := run_append_fit (P := P) w base t o.type e i z ht hi hz0 hzs hsz v n xs hown ad m cap news hlen hcells h1 h63 hbytes p hpz hpn hf
    rw [hr] at hr'
    cases hr'
    unfold Oper.wp
    simp [execOp, ho, resolve, invoke, builtin, hs, hx, hr, Result.andThen]
    exact hK _ _ (h v' w' g2 (Keep.of_grown g3) g4 g5 g6)
end Go.Proofs.YtaiicjhnhbkgmaaGreatDoor

/-
  Slices of bytes of one's own, their spare room too: bytes.Clone, Writer.Out.
  Conditions: the bounds on sizes that each theorem names.
-/
namespace Go.Proofs.YtaiicjhnhbkgmaaGreatDoor
open Go.RowKit
set_option maxRecDepth 100000

/-- A cell that is a byte. -/
def IsB (u : Value) : Prop := ∃ b : UInt8, u = vb b
theorem isB_map (l : List UInt8) : ∀ u ∈ l.map vb, IsB u := by
  intro u hu
  obtain ⟨b, -, rfl⟩ := List.mem_map.1 hu
  exact ⟨b, rfl⟩
theorem isB_zero : ∀ u ∈ (Value.int IntKind.u8 0).cells.toList, IsB u := by
  intro u hu
  have : u = .int .u8 0 := by simpa [Value.cells] using hu
  exact ⟨0, this⟩
/-- All cells of the block are bytes. -/
theorem Fit.bytes {w : World} {v : Value} (h : Fit IsB w v) {base n : Nat} {l : List Value} (ho : w.ownsRow base 5 1 v n l) : ∃ k : List UInt8, ∀ g c, v = .slice (some ⟨g, 0, none⟩) n c → w.heap[g]? = some (.cells (k.map vb).toArray 5 (0, 0)) ∧ k.length = c ∧ (k.take n).map vb = l := by
  rcases ho.2 with ⟨h1, -⟩ | ⟨g, cap, cur, rfl, hb, hg, h1, h2, h3, h4⟩
  · exact ⟨[], fun g c e => by rw [h1] at e; cases e⟩
  · have hc := h g cur _ _ rfl hg
    have : ∀ l : List Value, (∀ c ∈ l, IsB c) → ∃ k : List UInt8, l = k.map vb := by
      intro l
      induction l with
      | nil => intro _; exact ⟨[], rfl⟩
      | cons c l ih =>
        intro hl
        obtain ⟨b, rfl⟩ := hl _ (List.mem_cons_self ..)
        obtain ⟨k, rfl⟩ := ih fun c hc => hl c (List.mem_cons_of_mem _ hc)
        exact ⟨b :: k, rfl⟩
    obtain ⟨k, hk⟩ := this cur.toList hc
    refine ⟨k, fun g' c e => ?_⟩
    cases e
    refine ⟨?_, ?_, ?_⟩
    · rw [hg, ← hk]
    · have := congrArg List.length hk
      simp at this
      omega
    · rw [List.map_take, ← hk, ← h4, Nat.mul_one]

def MadeBF (w : World) (bs : List UInt8) (e : Ending) (w' : World) : Prop :=
  ∃ v', e = .returned v' ∧ w'.ownsRow w.heap.size 5 1 v' bs.length (bs.map vb) ∧ Keep noBlk w w' ∧ Fit IsB w' v'
set_option maxHeartbeats 400000 in
theorem clone_fit (bv : Value) (bs : List UInt8) (w : World) (hr : Rd w 1 bv bs.length (bs.map vb)) (hb : bs.length ≤ 140737488351232) :
    Calls Tryz.prog 87 #[bv] w (MadeBF w bs) := by
  obtain ⟨hl, a, cap, rfl, h1, h2, h3, h4⟩ := hr
  cases a with
  | none =>
    have hc := h3 rfl
    subst hc
    have hb0 : bs = [] := List.eq_nil_of_length_eq_zero (by omega)
    subst hb0
    clear h1 h2 h3 h4 hl
    have hq := fun (w : World) (a : Option Addr) (n c : Nat) => Lib.run_eql_slice_nil (P := Tryz.prog) w 51 5 a n c 0 0 Tryz.underlying51
    go_enter Tryz.func87, Tryz.ntmps87
    go_wp2_with fail
    go_ret
    exact ⟨_, rfl, World.ownsRow_nil _ _ _ _, Keep.refl _ _, Fit.nil _ _⟩
  | some ad =>
    have K : Keep noBlk w (w.alloc (.cells #[] 5)) := (Keep.refl _ _).alloc _
    have HR := Lib.hid ((show Rd w 1 (.slice (some ad) bs.length cap) bs.length (bs.map vb) from ⟨hl, _, _, rfl, h1, h2, h3, h4⟩).keep K fun _ _ => id)
    have HK := Lib.hid K
    have hx1 : 0 + bs.length ≤ maxLen := by unfold maxLen; omega
    have HX := Lib.hid hx1
    clear h1 h2 h3 h4 hl K hx1
    have hq := fun (w : World) (a : Option Addr) (n c : Nat) => Lib.run_eql_slice_nil (P := Tryz.prog) w 51 5 a n c 0 0 Tryz.underlying51
    go_enter Tryz.func87, Tryz.ntmps87
    go_wp2_with (at_builtin; refine wpList_append_rdf rfl (.tmp 5) (.tmp 6) 51 rfl w.heap.size 5 _ 1 1 Tryz.underlying51 infoU8 rfl (by omega) _ 0 [] rfl (World.ownsRow_made w #[] 0 (Nat.le_refl _) (by unfold maxLen; omega) (by simp)) _ bs.length (bs.map vb) rfl HR.out (oneCell_vb _) HX.out (by omega) (by simp) IsB isB_zero (isB_map bs) (Fit.made w [] 5 (0, 0) 0 0 (by simp)) ?_; intro v' w2 hown2 hk2 hnil hat hft; obtain ⟨a3, c3, rfl, -, -⟩ := (Rd.of_owns hown2).form; have HO := Lib.hid hown2; have HK2 := Lib.hid hk2; have HF2 := Lib.hid hft; clear hown2 hk2 hnil hat hft)
    go_ret
    refine ⟨_, rfl, by simpa using HO.out, HK.out.trans' HK2.out (fun _ _ h => h) (fun i hi h => ?_), by simpa using HF2.out⟩
    have h' : w.heap.size = i := Option.some.inj h
    omega

def OutPostF (w : World) (l : List UInt8) (er : Int) (e : Ending) (w' : World) : Prop :=
  ∃ v', e = .returned (.tuple #[v', .int .i64 er]) ∧ w'.ownsRow w.heap.size 5 1 v' (if er = 0 then l else []).length ((if er = 0 then l else []).map vb) ∧ Keep noBlk w w' ∧ Fit IsB w' v'
set_option maxHeartbeats 400000 in
theorem out_fit (p : Nat) (w : World) (base : Nat) (v : Value) (l : List UInt8) (e : Int) (h : Wr w base p v l e) (hl : l.length ≤ 65536) :
    Calls Tryz.prog 54 #[.pointer (some ⟨p, 0, none⟩)] w (OutPostF w l e) := by
  obtain ⟨hp0, hp1, hp2, hf⟩ := h.cells
  by_cases he : e = 0
  · subst he
    have c := clone_fit v l w (Rd.of_owns h.own) (by omega)
    have C := Lib.hid c; clear c
    obtain ⟨a, cp, rfl, -, -⟩ := (Rd.of_owns h.own).form
    clear h
    go_enter Tryz.func54, Tryz.ntmps54
    go_wp2_with fail
    refine C.out.mono ?_
    rintro e w1 ⟨v', rfl, hown, hk, hft⟩
    have HO := Lib.hid hown; have HK := Lib.hid hk; have HF := Lib.hid hft
    obtain ⟨a3, c3, rfl, -, -⟩ := (Rd.of_owns hown).form
    clear hown hk hft
    go_wp2_with fail
    go_ret2
    exact ⟨_, rfl, HO.out, HK.out, HF.out⟩
  · have he1 : (e != 0) = true := by simp [he]
    have HE := Lib.hid he; clear he h
    go_enter Tryz.func54, Tryz.ntmps54
    go_wp2_with fail
    go_quiet (fail)
    go_wp2_with fail
    go_ret2
    refine ⟨_, rfl, ?_, (Keep.refl _ _).drewN _, Fit.nil _ _⟩
    rw [if_neg HE.out]
    exact World.ownsRow_nil _ _ _ _
end Go.Proofs.YtaiicjhnhbkgmaaGreatDoor
