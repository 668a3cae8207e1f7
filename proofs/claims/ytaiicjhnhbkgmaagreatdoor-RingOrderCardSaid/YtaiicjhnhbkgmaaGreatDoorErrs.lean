/-
  errors.Join, errors.Is over errors of errors.New's make: what is joined, and whether one is among it.
  Conditions: those told.
-/
import Derived.Test.YtaiicjhnhbkgmaaGreatDoorPtrL
import Derived.Test.YtaiicjhnhbkgmaaGreatDoorCopy
import Derived.WalkKit
import Derived.LaidEql
import Derived.Stop.Asserts
import Derived.RowKitTokens
import Derived.OwnWalk
namespace Go.Proofs.YtaiicjhnhbkgmaaGreatDoor
open Go.RowKit
set_option maxRecDepth 100000
set_option linter.unusedVariables false

/-- An error of errors.New's make; a joined one. -/
abbrev esV (a : Addr) : Value := .iface 187 (.pointer (some a))
abbrev jeV (b : Nat) : Value := .iface 167 (.pointer (some ⟨b, 0, none⟩))

theorem isTypeOf (v : Value) (w : World) : (Extern.ReflectliteType.typeOf #[.iface 187 v]).run Tryz.prog w = .ok (.iface 171 (.agg #[.pointer (some ⟨2, 187, none⟩)])) w := by kernel_rfl
theorem isComparable (w : World) : ((Extern.ReflectliteType.method fun t => do Extern.Rtype.noPackHeld "Comparable" t; (fun a => Value.bool a.comparable) <$> typeInfo t) #[.agg #[.pointer (some ⟨2, 187, none⟩)]]).run Tryz.prog w = .ok (.bool true) w := by kernel_rfl
theorem isMethodComparable (v : Value) (w : World) : (Go.method 330 171 v "Comparable").run Tryz.prog w = .ok (168, v) w := by kernel_rfl
theorem isMethodUnwrap (v : Value) (w : World) : (Go.method 330 167 v "Unwrap").run Tryz.prog w = .ok (164, v) w := by kernel_rfl
theorem isComp : (Tryz.prog.info? 187).map (·.comparable) = some true := by kernel_rfl
theorem isSize : (Tryz.prog.info? 218).map (·.size) = some 1 := by kernel_rfl
theorem noIsE (v : Value) (xT : TypeId) (w : World) : (Instr.typeAssert (.iface 187 v) xT 173 true).run Tryz.prog w = .ok (.tuple #[.nilIface, .bool false]) w := run_typeAssert_lacksB Tryz.underlying173 (by kernel_rfl) (by kernel_rfl) v xT w
theorem noUnwrapE (v : Value) (xT : TypeId) (w : World) : (Instr.typeAssert (.iface 187 v) xT 176 true).run Tryz.prog w = .ok (.tuple #[.nilIface, .bool false]) w := run_typeAssert_lacksB Tryz.underlying176 (by kernel_rfl) (by kernel_rfl) v xT w
theorem noUnwrapsE (v : Value) (xT : TypeId) (w : World) : (Instr.typeAssert (.iface 187 v) xT 178 true).run Tryz.prog w = .ok (.tuple #[.nilIface, .bool false]) w := run_typeAssert_lacksB Tryz.underlying178 (by kernel_rfl) (by kernel_rfl) v xT w
theorem noIsJ (v : Value) (xT : TypeId) (w : World) : (Instr.typeAssert (.iface 167 v) xT 173 true).run Tryz.prog w = .ok (.tuple #[.nilIface, .bool false]) w := run_typeAssert_lacksB Tryz.underlying173 (by kernel_rfl) (by kernel_rfl) v xT w
theorem noUnwrapJ (v : Value) (xT : TypeId) (w : World) : (Instr.typeAssert (.iface 167 v) xT 176 true).run Tryz.prog w = .ok (.tuple #[.nilIface, .bool false]) w := run_typeAssert_lacksB Tryz.underlying176 (by kernel_rfl) (by kernel_rfl) v xT w
theorem hasUnwrapsJ (v : Value) (xT : TypeId) (w : World) : (Instr.typeAssert (.iface 167 v) xT 178 true).run Tryz.prog w = .ok (.tuple #[.iface 167 v, .bool true]) w := run_typeAssert_hasB Tryz.underlying178 (by kernel_rfl) v xT w

/-- errors.is(x, x). -/
theorem is_same (a : Addr) (w : World) : Calls Tryz.prog 107 #[esV a, esV a, .bool true] w (TherePost w true) := by
  obtain ⟨i, hi, hcmp⟩ := Option.map_eq_some_iff.1 isComp
  obtain ⟨j, hj, hjs⟩ := Option.map_eq_some_iff.1 isSize
  have heq := run_eql_iface_ptr_same (P := Tryz.prog) w a Tryz.underlying104 Tryz.underlying187 hi hcmp hj
  go_enter Tryz.func107, Tryz.ntmps107
  go_wp2
  refine wp_loop_rounds 1 ?_
  rw [rounds_succ]
  go_wp2
  go_ret
  exact ⟨rfl, Keep.refl _ _⟩
/-- errors.is(x, y). -/
theorem is_other (a b : Addr) (ca cb : Array Value) (ta tb : TypeId) (w : World) (hne : a ≠ b) (ha : w.heap[a.block]? = some (.cells ca ta (0, 0))) (hb : w.heap[b.block]? = some (.cells cb tb (0, 0))) :
    Calls Tryz.prog 107 #[esV a, esV b, .bool true] w (TherePost w false) := by
  obtain ⟨i, hi, hcmp⟩ := Option.map_eq_some_iff.1 isComp
  obtain ⟨j, hj, hjs⟩ := Option.map_eq_some_iff.1 isSize
  have nE := noIsE
  have uE := noUnwrapE
  have vE := noUnwrapsE
  have heq := run_eql_iface_ptr_other (P := Tryz.prog) w Tryz.underlying104 Tryz.underlying187 hi hcmp hj (by rw [hjs]; decide) hne ha hb
  go_enter Tryz.func107, Tryz.ntmps107
  go_wp2
  refine wp_loop_rounds 1 ?_
  rw [rounds_succ]
  go_wp2
  go_ret
  exact ⟨rfl, Keep.refl _ _⟩
/-- A joined error holds those of a list. -/
def JoinIs (w : World) (b : Nat) (l : List Value) : Prop := ∃ sv base, w.heap[b]? = some (.cells #[sv] 169 (0, 0)) ∧ w.ownsRow base 104 1 sv l.length l
theorem JoinIs.same {w w' : World} {b : Nat} {l : List Value} (h : JoinIs w b l) (k : Keep noBlk w w') : JoinIs w' b l := by
  obtain ⟨sv, base, h1, h2⟩ := h
  exact ⟨sv, base, k.blk h1 id, k.owns h2 fun _ _ => id⟩
/-- Behind what turns a block of another kind. -/
theorem JoinIs.put {w w' : World} {b s : Nat} {l : List Value} {cs : Array Value} {t : TypeId} {fr : Nat × Nat} (h : JoinIs w b l) (k : Keep (fun i => i = s) w w') (hs : w.heap[s]? = some (.cells cs t fr)) (h1 : t ≠ 169) (h2 : t ≠ 104) : JoinIs w' b l := by
  obtain ⟨sv, base, g1, g2⟩ := h
  refine ⟨sv, base, k.blk g1 ?_, k.owns g2 fun g hg e => ?_⟩
  · rintro rfl
    rw [hs] at g1
    cases g1
    exact h1 rfl
  · subst e
    obtain ⟨cur, hc⟩ := owns_block g2 hg
    rw [hs] at hc
    cases hc
    exact h2 rfl
theorem unwrap_any (w : World) (b : Nat) (sv : Value) (h : w.heap[b]? = some (.cells #[sv] 169 (0, 0))) : Calls Tryz.prog 164 #[.pointer (some ⟨b, 0, none⟩)] w fun e w' => e = .returned sv ∧ w' = w := by
  have h0 := blk_cell (i := 0) (v := sv) h rfl
  go_enter Tryz.func164, Tryz.ntmps164
  go_wp2
  go_ret
  exact ⟨rfl, rfl⟩
set_option maxHeartbeats 1000000 in
/-- errors.is(a joined one, x): is it among them? -/
theorem is_join (w : World) (b : Nat) (a : Addr) (l : List Value) (B : List Bool) (hB : B.length = l.length) (h : JoinIs w b l)
    (hl : ∀ (i : Nat) v t, l[i]? = some v → B[i]? = some t → ∀ w', Keep noBlk w w' → Calls Tryz.prog 107 #[v, esV a, .bool true] w' (TherePost w' t)) :
    Calls Tryz.prog 107 #[jeV b, esV a, .bool true] w (TherePost w (B.any id)) := by
  obtain ⟨sv, base, h1, ho⟩ := h
  have hr := Rd.of_owns ho
  clear ho
  obtain ⟨oa, ca, rfl, -, -⟩ := hr.form
  have HU := Lib.hid (unwrap_any w b _ h1)
  obtain ⟨n, hn⟩ : ∃ n, l.length = n := ⟨_, rfl⟩
  have HR := Lib.hid hr; have HL := Lib.hid hl; have HN := Lib.hid hn; have HB := Lib.hid hB
  rw [hn] at HU
  have nE := noIsJ
  have uE := noUnwrapJ
  have vE := hasUnwrapsJ
  have mU := isMethodUnwrap
  have hty := run_eql_iface_types (P := Tryz.prog) 167 187 (.pointer (some ⟨b, 0, none⟩)) (.pointer (some a)) Tryz.underlying104 (by decide) w
  have hmx : n ≤ maxLen := by obtain ⟨_, a', c', h1, h2, h3, -⟩ := hr; omega
  unfold maxLen at hmx
  clear hr hl hn hB h1
  go_enter Tryz.func107, Tryz.ntmps107
  go_wp2
  refine wp_loop_rounds 1 ?_
  rw [rounds_succ]
  go_wp2_with fail
  refine HU.out.mono ?_
  rintro e w2 ⟨rfl, hw⟩
  rw [hw]
  clear nE uE vE mU hty hw w2
  go_wp2_with fail
  go_loopw [45] (fun i wr => ∃ k : Nat, k ≤ n ∧ i = .int .i64 k ∧ Hid (Keep noBlk w wr) ∧ Hid ((B.take k).any id = false)) (fun i _ => n - (intOf i).toNat)
  case atStart => exact ⟨0, Nat.zero_le _, rfl, Lib.hid (Keep.refl _ _), Lib.hid rfl⟩
  case round =>
  obtain ⟨k, hk, rfl, HK, HT⟩ := hrel
  by_cases hlt : k < n
  · obtain ⟨x, hx⟩ : ∃ x, l[k]? = some x := ⟨l[k]'(by rw [HN.out]; exact hlt), List.getElem?_eq_getElem _⟩
    obtain ⟨t, ht⟩ : ∃ t, B[k]? = some t := ⟨B[k]'(by rw [HB.out, HN.out]; exact hlt), List.getElem?_eq_getElem _⟩
    have HX := Lib.hid hx; have HTT := Lib.hid ht
    have hki : (k : Int) < (n : Int) := by omega
    have hk0 : (0 : Int) ≤ (k : Int) := by omega
    obtain ⟨g, o, rfl, hc⟩ : ∃ g o, oa = some ⟨g, o, none⟩ ∧ wr.cell? ⟨g, o + k, none⟩ = some x := by
      obtain ⟨h0, a2, c2, e2, h2, h3, h4, h5⟩ := HR.out
      obtain ⟨g, o, rfl, hc⟩ := h5 (by rw [HN.out]; omega)
      exact ⟨g, o, by cases e2; rfl, by have := HK.out.cell (by simpa using hc k x hx) id; simpa using this⟩
    clear hx ht
    go_wp2_with fail
    refine (HL.out k x t HX.out HTT.out wr HK.out).mono ?_
    rintro e w3 ⟨rfl, hk3⟩
    have HK3 := Lib.hid (HK.out.trans hk3)
    clear hk3
    have HTK : Hid ((B.take (k + 1)).any id = t) := Lib.hid (by rw [List.take_add_one, HTT.out, List.any_append, HT.out]; simp)
    cases t
    · go_wp2_with fail
      go_roundw
      case rel => exact ⟨k + 1, by omega, by go_num, HK3, HTK⟩
      case measure => simp [intOf]; omega
    · go_wp2_with fail
      go_ret
      refine ⟨?_, HK3.out⟩
      have h : B.any id = true := by
        rw [← List.take_append_drop (k + 1) B, List.any_append, HTK.out]
        rfl
      rw [h]
      rfl
  · obtain rfl : k = n := by omega
    have hki : ¬ ((k : Int) < (k : Int)) := by omega
    go_wp2_with fail
    go_ret
    refine ⟨?_, HK.out⟩
    have h := HT.out
    rw [List.take_of_length_le (by rw [HB.out, HN.out]; exact Nat.le_refl _)] at h
    rw [h]
    rfl
/-- errors.Is of one that is no nil. -/
theorem errIs_any (w : World) (x : Value) (tx : TypeId) (v : Value) (hx : x = .iface tx v) (a : Addr) (t : Bool) (h : Calls Tryz.prog 107 #[x, esV a, .bool true] w (TherePost w t)) : Calls Tryz.prog 74 #[x, esV a] w (TherePost w t) := by
  subst hx
  have H := Lib.hid h
  clear h
  have h8 := @run_callFunc_extern Tryz.prog 106 _ Extern.ReflectliteType.typeOf Tryz.func106 (by kernel_rfl) (by kernel_rfl) (by kernel_rfl) (by kernel_rfl)
  have h32 := @run_callFunc_extern Tryz.prog 168 _ (Extern.ReflectliteType.method fun t => do Extern.Rtype.noPackHeld "Comparable" t; pure (.bool (← typeInfo t).comparable)) Tryz.func168 (by kernel_rfl) (by kernel_rfl) (by kernel_rfl) (by kernel_rfl)
  have tT := isTypeOf
  have cT := isComparable
  have mR := isMethodComparable
  go_enter Tryz.func74, Tryz.ntmps74
  go_wp2_with fail
  refine H.out.mono ?_
  rintro e w' ⟨rfl, hk⟩
  have HK := Lib.hid hk
  clear hk
  go_wp2_with fail
  go_ret
  exact ⟨rfl, HK.out⟩
theorem errIs_nil (w : World) (a : Addr) : Calls Tryz.prog 74 #[.nilIface, esV a] w (TherePost w false) := by
  have hn := run_eql_iface_nil_left (P := Tryz.prog) w 187 (.pointer (some a)) Tryz.underlying104
  go_enter Tryz.func74, Tryz.ntmps74
  go_wp2_with fail
  go_ret
  exact ⟨rfl, Keep.refl _ _⟩
end Go.Proofs.YtaiicjhnhbkgmaaGreatDoor

/-
  errors.Join of two, of which the first may be nil.
  Conditions: those told.
-/
namespace Go.Proofs.YtaiicjhnhbkgmaaGreatDoor
open Go.RowKit
set_option maxRecDepth 100000
set_option linter.unusedVariables false

theorem infoErr : (Tryz.prog.info? 104).map (fun i => (i.zero, i.size, i.bytes)) = some (some .nilIface, 1, 16) := by kernel_rfl
/-- What is joined so far. -/
structure JSt (w wr : World) (base jb : Nat) (sv : Value) (l : List Value) : Prop where
  blk : wr.heap[jb]? = some (.cells #[sv] 169 (0, 0))
  own : wr.ownsRow base 104 1 sv l.length l
  keep : Keep noBlk w wr
  le : w.heap.size ≤ base
  bj : base ≤ jb
  ne : sv.ownBlock ≠ some jb
theorem JSt.same {w wr w' : World} {base jb : Nat} {sv : Value} {l : List Value} (h : JSt w wr base jb sv l) (k : Keep noBlk wr w') : JSt w w' base jb sv l :=
  ⟨k.blk h.blk id, k.owns h.own (fun _ _ => id), h.keep.trans k, h.le, h.bj, h.ne⟩
theorem JSt.put {w wr w' : World} {base jb : Nat} {sv v' x : Value} {l : List Value} (h : JSt w wr base jb sv l) (ho : w'.ownsRow base 104 1 v' (l.length + 1) (l ++ [x])) (hk : Keep (fun k => sv.ownBlock = some k) wr w')
    (hat : v'.ownBlock = sv.ownBlock ∨ v'.ownBlock = some wr.heap.size) : JSt w (w'.setCell ⟨jb, 0, none⟩ v') base jb v' (l ++ [x]) := by
  have hb := hk.blk h.blk h.ne
  have hne : v'.ownBlock ≠ some jb := by
    rcases hat with e | e
    · rw [e]; exact h.ne
    · rw [e]
      intro h2
      have := lt_of_block h.blk
      cases h2
      omega
  refine ⟨by rw [set_blk hb]; rfl, ?_, ?_, h.le, h.bj, hne⟩
  · rw [List.length_append]
    exact ownsRow_setCell_other ho hne _
  · refine (h.keep.trans' hk (fun _ _ h => h) (fun i hi h3 => ?_)).trans' ((Keep.refl (fun i => i = jb) w').setCell (p := ⟨jb, 0, none⟩) (fun _ => rfl) _) (fun _ _ h => h) (fun i hi h3 => ?_)
    · have := owns_ge h.own h3
      have := h.le
      omega
    · have := h.le
      have := h.bj
      omega
def JoinPost (w : World) (l : List Value) (e : Ending) (w' : World) : Prop := ∃ jb, e = .returned (jeV jb) ∧ JoinIs w' jb l ∧ Keep noBlk w w' ∧ w.heap.size ≤ jb
theorem JSt.post {w wr : World} {base jb : Nat} {sv : Value} {l : List Value} (h : JSt w wr base jb sv l) : JoinPost w l (.returned (jeV jb)) wr := ⟨jb, rfl, ⟨sv, base, h.blk, h.own⟩, h.keep, by have := h.le; have := h.bj; omega⟩
theorem two_cells {w : World} {v x y : Value} (hr : Rd w 1 v 2 [x, y]) : ∃ g o c, v = .slice (some ⟨g, o, none⟩) 2 c ∧ w.cell? ⟨g, o, none⟩ = some x ∧ w.cell? ⟨g, o + 1, none⟩ = some y := by
  obtain ⟨h0, a, c, rfl, h2, h3, h4, h5⟩ := hr
  obtain ⟨g, o, rfl, hc⟩ := h5 (by omega)
  exact ⟨g, o, c, rfl, by simpa using hc 0 x rfl, by simpa using hc 1 y rfl⟩

theorem rd_lit1 (w : World) (x : Value) (t : TypeId) : Rd (w.alloc (.cells #[x] t)) 1 (.slice (some ⟨w.heap.size, 0, none⟩) 1 1) 1 [x] := by
  refine ⟨by simp, _, _, rfl, Nat.le_refl _, by unfold maxLen; omega, (by intro h; cases h), fun _ => ⟨_, 0, rfl, fun i u hu => ?_⟩⟩
  rw [Nat.zero_add]
  exact blk_cell (heap_alloc_new _ _) (by simpa using hu)
set_option maxHeartbeats 2000000 in
theorem join_one (w : World) (v : Value) (ty : TypeId) (vy : Value) (hr : Rd w 1 v 2 [.nilIface, .iface ty vy]) : Calls Tryz.prog 104 #[v] w (JoinPost w [.iface ty vy]) := by
  obtain ⟨g, o, c, rfl, c0, c1⟩ := two_cells hr
  have HC := Lib.hid (fun wr (k : Keep noBlk w wr) => And.intro (k.cell c0 id) (k.cell c1 id))
  clear hr
  go_enter Tryz.func104, Tryz.ntmps104
  go_wp2_with fail
  refine wp_loop_rounds 3 ?_
  rw [rounds_succ]
  go_wp2_with fail
  rw [rounds_succ]
  go_wp2_with fail
  rw [rounds_succ]
  obtain ⟨ie, hie, hie2⟩ := Option.map_eq_some_iff.1 infoErr
  go_wp2_with ((with_reducible show wpList _ _ _ (⟨some 23, .makeSlice _ _ _, _, _, _, _⟩ :: _) _ _); refine wpList_make_own w rfl (.const (.int .i64 0)) (.tmp 22) 166 rfl w.heap.size 104 ie .nilIface 1 Tryz.underlying166 hie (by simp only [Prod.mk.injEq] at hie2; exact hie2.1) (by simp only [Prod.mk.injEq] at hie2; exact hie2.2.1) .i64 .i64 1 1 rfl rfl rfl (by simp only [Prod.mk.injEq] at hie2; rw [hie2.2.2]; omega) (by unfold maxLen; omega) (Nat.le_refl _) ?_; intro w1 ho1 hg1; have HO1 := Lib.hid ho1; have HK1 := Lib.hid (Keep.of_grown hg1); clear ho1 hg1)
  have HJ : Hid (JSt w (w1.alloc (.cells #[.slice (some ⟨w.heap.size, 0, none⟩) 0 1] 169)) w.heap.size w1.heap.size (.slice (some ⟨w.heap.size, 0, none⟩) 0 1) []) := by
    have K : Keep noBlk w1 (w1.alloc (.cells #[.slice (some ⟨w.heap.size, 0, none⟩) 0 1] 169)) := (Keep.refl _ _).alloc _
    exact Lib.hid ⟨heap_alloc_new _ _, K.owns HO1.out (fun _ _ => id), (HK1.out.mono (fun _ _ h => by cases h)).trans K, Nat.le_refl _, HK1.out.size, by obtain ⟨cur, hc⟩ := owns_block HO1.out rfl; have := lt_of_block hc; intro h; have h2 : w.heap.size = w1.heap.size := (by simpa [Value.ownBlock] using h); have h3 : w.heap.size < w1.heap.size := this; omega⟩
  clear HO1 HK1 c0 c1
  obtain ⟨sv0, hsv⟩ : ∃ x, (Value.slice (some ⟨w.heap.size, 0, none⟩) 0 1) = x := ⟨_, rfl⟩
  rw [hsv] at HJ ⊢
  obtain ⟨wj0, hwj⟩ : ∃ x, w1.alloc (.cells #[sv0] 169) = x := ⟨_, rfl⟩
  obtain ⟨jb, hjb⟩ : ∃ x, w1.heap.size = x := ⟨_, rfl⟩
  rw [hwj, hjb] at HJ ⊢
  have HJ0 := HJ
  clear HJ hsv hwj hjb
  refine wp_loop_rounds 3 ?_
  obtain ⟨d0, d1⟩ := HC.out _ HJ0.out.keep
  rw [rounds_succ]
  go_wp2_with fail
  clear d0 d1
  have hcj := blk_cell (i := 0) (v := sv0) HJ0.out.blk rfl
  obtain ⟨d0, d1⟩ := HC.out _ HJ0.out.keep
  have HJS := Lib.hid (HJ0.out.same (w' := wj0.alloc (.cells #[.iface ty vy] 104)) ((Keep.refl _ _).alloc _))
  have HRL := Lib.hid (rd_lit1 wj0 (.iface ty vy) 104)
  rw [rounds_succ]
  go_wp2_with (at_builtin; go_loud (refine wpList_append_rd rfl (.tmp 38) (.tmp 40) 166 rfl w.heap.size 104 .nilIface 1 16 Tryz.underlying166 infoErr rfl (by omega) sv0 _ _ rfl HJS.out.own (.slice (some ⟨wj0.heap.size, 0, none⟩) 1 1) 1 _ rfl HRL.out ?_ ?_ ?_ ?_ ?_; (simp [Value.oneCell']); (unfold maxLen; simp); simp; (have := HJS.out.keep.size; omega); intro v' w4 hown hk hnil hat; obtain ⟨av, cv, rfl, -, -⟩ := (Rd.of_owns hown).form; have HJP : Hid (JSt w (w4.setCell ⟨jb, 0, none⟩ (.slice av 1 cv)) w.heap.size jb (.slice av 1 cv) [.iface ty vy]) := Lib.hid (HJS.out.put hown hk (by simpa using hat)); have hb4 := hk.blk HJS.out.blk HJS.out.ne; have hc4 := blk_cell (i := 0) (v := sv0) hb4 rfl; have hf4 := fun i => frozen_of_row w4 jb i _ _ hb4; clear hown hk hnil hat hb4))
  clear hc4 hf4 hcj d0 d1 HJS HRL
  obtain ⟨sv1, hsv⟩ : ∃ x, Value.slice av 1 cv = x := ⟨_, rfl⟩
  rw [hsv] at HJP ⊢
  clear hsv
  obtain ⟨wj1, hwj⟩ : ∃ x, w4.setCell ⟨jb, 0, none⟩ sv1 = x := ⟨_, rfl⟩
  rw [hwj] at HJP ⊢
  have HJ1 := HJP
  clear HJP hwj
  rw [rounds_succ]
  go_wp2_with fail
  go_ret
  exact HJ1.out.post
set_option maxHeartbeats 2000000 in
theorem join_two (w : World) (v : Value) (tx : TypeId) (vx : Value) (ty : TypeId) (vy : Value) (hr : Rd w 1 v 2 [.iface tx vx, .iface ty vy]) : Calls Tryz.prog 104 #[v] w (JoinPost w [.iface tx vx, .iface ty vy]) := by
  obtain ⟨g, o, c, rfl, c0, c1⟩ := two_cells hr
  have HC := Lib.hid (fun wr (k : Keep noBlk w wr) => And.intro (k.cell c0 id) (k.cell c1 id))
  clear hr
  go_enter Tryz.func104, Tryz.ntmps104
  go_wp2_with fail
  refine wp_loop_rounds 3 ?_
  rw [rounds_succ]
  go_wp2_with fail
  rw [rounds_succ]
  go_wp2_with fail
  rw [rounds_succ]
  obtain ⟨ie, hie, hie2⟩ := Option.map_eq_some_iff.1 infoErr
  go_wp2_with ((with_reducible show wpList _ _ _ (⟨some 23, .makeSlice _ _ _, _, _, _, _⟩ :: _) _ _); refine wpList_make_own w rfl (.const (.int .i64 0)) (.tmp 22) 166 rfl w.heap.size 104 ie .nilIface 1 Tryz.underlying166 hie (by simp only [Prod.mk.injEq] at hie2; exact hie2.1) (by simp only [Prod.mk.injEq] at hie2; exact hie2.2.1) .i64 .i64 2 2 rfl rfl rfl (by simp only [Prod.mk.injEq] at hie2; rw [hie2.2.2]; omega) (by unfold maxLen; omega) (Nat.le_refl _) ?_; intro w1 ho1 hg1; have HO1 := Lib.hid ho1; have HK1 := Lib.hid (Keep.of_grown hg1); clear ho1 hg1)
  have HJ : Hid (JSt w (w1.alloc (.cells #[.slice (some ⟨w.heap.size, 0, none⟩) 0 2] 169)) w.heap.size w1.heap.size (.slice (some ⟨w.heap.size, 0, none⟩) 0 2) []) := by
    have K : Keep noBlk w1 (w1.alloc (.cells #[.slice (some ⟨w.heap.size, 0, none⟩) 0 2] 169)) := (Keep.refl _ _).alloc _
    exact Lib.hid ⟨heap_alloc_new _ _, K.owns HO1.out (fun _ _ => id), (HK1.out.mono (fun _ _ h => by cases h)).trans K, Nat.le_refl _, HK1.out.size, by obtain ⟨cur, hc⟩ := owns_block HO1.out rfl; have := lt_of_block hc; intro h; have h2 : w.heap.size = w1.heap.size := (by simpa [Value.ownBlock] using h); have h3 : w.heap.size < w1.heap.size := this; omega⟩
  clear HO1 HK1 c0 c1
  obtain ⟨sv0, hsv⟩ : ∃ x, (Value.slice (some ⟨w.heap.size, 0, none⟩) 0 2) = x := ⟨_, rfl⟩
  rw [hsv] at HJ ⊢
  obtain ⟨wj0, hwj⟩ : ∃ x, w1.alloc (.cells #[sv0] 169) = x := ⟨_, rfl⟩
  obtain ⟨jb, hjb⟩ : ∃ x, w1.heap.size = x := ⟨_, rfl⟩
  rw [hwj, hjb] at HJ ⊢
  have HJ0 := HJ
  clear HJ hsv hwj hjb
  refine wp_loop_rounds 3 ?_
  have hcj := blk_cell (i := 0) (v := sv0) HJ0.out.blk rfl
  obtain ⟨d0, d1⟩ := HC.out _ HJ0.out.keep
  have HJS := Lib.hid (HJ0.out.same (w' := wj0.alloc (.cells #[.iface tx vx] 104)) ((Keep.refl _ _).alloc _))
  have HRL := Lib.hid (rd_lit1 wj0 (.iface tx vx) 104)
  rw [rounds_succ]
  go_wp2_with (at_builtin; go_loud (refine wpList_append_rd rfl (.tmp 38) (.tmp 40) 166 rfl w.heap.size 104 .nilIface 1 16 Tryz.underlying166 infoErr rfl (by omega) sv0 _ _ rfl HJS.out.own (.slice (some ⟨wj0.heap.size, 0, none⟩) 1 1) 1 _ rfl HRL.out ?_ ?_ ?_ ?_ ?_; (simp [Value.oneCell']); (unfold maxLen; simp); simp; (have := HJS.out.keep.size; omega); intro v' w4 hown hk hnil hat; obtain ⟨av, cv, rfl, -, -⟩ := (Rd.of_owns hown).form; have HJP : Hid (JSt w (w4.setCell ⟨jb, 0, none⟩ (.slice av 1 cv)) w.heap.size jb (.slice av 1 cv) [.iface tx vx]) := Lib.hid (HJS.out.put hown hk (by simpa using hat)); have hb4 := hk.blk HJS.out.blk HJS.out.ne; have hc4 := blk_cell (i := 0) (v := sv0) hb4 rfl; have hf4 := fun i => frozen_of_row w4 jb i _ _ hb4; clear hown hk hnil hat hb4))
  clear hc4 hf4 hcj d0 d1 HJS HRL
  obtain ⟨sv1, hsv⟩ : ∃ x, Value.slice av 1 cv = x := ⟨_, rfl⟩
  rw [hsv] at HJP ⊢
  clear hsv
  obtain ⟨wj1, hwj⟩ : ∃ x, w4.setCell ⟨jb, 0, none⟩ sv1 = x := ⟨_, rfl⟩
  rw [hwj] at HJP ⊢
  have HJ1 := HJP
  clear HJP hwj
  have hcj := blk_cell (i := 0) (v := sv1) HJ1.out.blk rfl
  obtain ⟨d0, d1⟩ := HC.out _ HJ1.out.keep
  have HJS := Lib.hid (HJ1.out.same (w' := wj1.alloc (.cells #[.iface ty vy] 104)) ((Keep.refl _ _).alloc _))
  have HRL := Lib.hid (rd_lit1 wj1 (.iface ty vy) 104)
  rw [rounds_succ]
  go_wp2_with (at_builtin; go_loud (refine wpList_append_rd rfl (.tmp 38) (.tmp 40) 166 rfl w.heap.size 104 .nilIface 1 16 Tryz.underlying166 infoErr rfl (by omega) sv1 _ _ rfl HJS.out.own (.slice (some ⟨wj1.heap.size, 0, none⟩) 1 1) 1 _ rfl HRL.out ?_ ?_ ?_ ?_ ?_; (simp [Value.oneCell']); (unfold maxLen; simp); simp; (have := HJS.out.keep.size; omega); intro v' w4 hown hk hnil hat; obtain ⟨av, cv, rfl, -, -⟩ := (Rd.of_owns hown).form; have HJP : Hid (JSt w (w4.setCell ⟨jb, 0, none⟩ (.slice av 2 cv)) w.heap.size jb (.slice av 2 cv) [.iface tx vx, .iface ty vy]) := Lib.hid (HJS.out.put hown hk (by simpa using hat)); have hb4 := hk.blk HJS.out.blk HJS.out.ne; have hc4 := blk_cell (i := 0) (v := sv1) hb4 rfl; have hf4 := fun i => frozen_of_row w4 jb i _ _ hb4; clear hown hk hnil hat hb4))
  clear hc4 hf4 hcj d0 d1 HJS HRL
  obtain ⟨sv2, hsv⟩ : ∃ x, Value.slice av 2 cv = x := ⟨_, rfl⟩
  rw [hsv] at HJP ⊢
  clear hsv
  obtain ⟨wj2, hwj⟩ : ∃ x, w4.setCell ⟨jb, 0, none⟩ sv2 = x := ⟨_, rfl⟩
  rw [hwj] at HJP ⊢
  have HJ2 := HJP
  clear HJP hwj
  rw [rounds_succ]
  go_wp2_with fail
  go_ret
  exact HJ2.out.post
end Go.Proofs.YtaiicjhnhbkgmaaGreatDoor
