/-
  ring's heap of entries (container/heap's down).
  Conditions: at most 64 entries.
-/
import Derived.Test.YtaiicjhnhbkgmaaGreatDoorRingC
import Derived.Test.YtaiicjhnhbkgmaaGreatDoorFill
import Derived.Test.YtaiicjhnhbkgmaaGreatDoorCopyU
namespace Go.Proofs.YtaiicjhnhbkgmaaGreatDoor
open Go.RowKit Go.Maps Go.ChangeMaps
set_option maxRecDepth 100000
set_option linter.unusedVariables false

/-- A queue in memory: its variable (block qb), its row. -/
structure QIs (w : World) (B qb : Nat) (v : Value) (es : List (Value × Ub)) : Prop where
  box : w.heap[qb]? = some (.cells #[v] 60 (0, 0))
  own : w.ownsRow B 64 70 v es.length (entRow es)
  lens : UbLens es
  sls : ∀ e ∈ es, ∃ a n c, e.1 = .slice a n c
def QK (qb : Nat) (v : Value) : Nat → Prop := fun j => j = qb ∨ v.ownBlock = some j
theorem QIs.form {w : World} {B qb : Nat} {v : Value} {es : List (Value × Ub)} (h : QIs w B qb v es) : ∃ a c, v = .slice a es.length c := by
  obtain ⟨a, c, hv, -, -⟩ := (Rd.of_owns h.own).form
  exact ⟨a, c, hv⟩
theorem QIs.keep {w w' : World} {B qb : Nat} {v : Value} {es : List (Value × Ub)} (h : QIs w B qb v es) (k : Keep noBlk w w') : QIs w' B qb v es := ⟨k.blk h.box id, k.owns h.own fun _ _ => id, h.lens, h.sls⟩
theorem QIs.apart {w : World} {B qb : Nat} {v : Value} {es : List (Value × Ub)} (h : QIs w B qb v es) : v.ownBlock ≠ some qb := by
  intro hv
  obtain ⟨cur, hc⟩ := owns_block h.own hv
  rw [h.box] at hc
  cases hc
theorem swapL_mem {es : List (Value × Ub)} {i k : Nat} (hi : i < es.length) (hk : k < es.length) {p : Value × Ub → Prop} (h : ∀ e ∈ es, p e) : ∀ e ∈ swapL es i k, p e := fun e he => h e ((swapL_perm hi hk).mem_iff.1 he)
theorem QIs.swap {w w' : World} {B qb g c : Nat} {es : List (Value × Ub)} {i k : Nat} (h : QIs w B qb (.slice (some ⟨g, 0, none⟩) es.length c) es) (hi : i < es.length) (hk : k < es.length)
    (ho : w'.ownsRow B 64 70 (.slice (some ⟨g, 0, none⟩) es.length c) es.length (entRow (swapL es i k))) (hkp : Keep (fun j => j = g) w w') : QIs w' B qb (.slice (some ⟨g, 0, none⟩) es.length c) (swapL es i k) ∧ Keep (QK qb (.slice (some ⟨g, 0, none⟩) es.length c)) w w' := by
  refine ⟨⟨hkp.blk h.box (fun e => h.apart (by rw [e]; rfl)), by rw [swapL_len]; exact ho, swapL_mem hi hk h.lens, swapL_mem hi hk h.sls⟩, hkp.mono fun j _ e => .inr (by rw [e]; rfl)⟩
theorem downF_stop {q : List (Value × Ub)} {i n : Nat} (h : ¬ 2 * i + 1 < n) : ∀ f, downF lessE f q i n = (q, i)
  | 0 => rfl
  | f + 1 => by unfold downF; rw [if_neg h]
theorem downF_stay {q : List (Value × Ub)} {i n j : Nat} (h : 2 * i + 1 < n) (hj : kidF lessE q (2 * i + 1) n = j) (hl : lessE (gD q j) (gD q i) = false) (f : Nat) : downF lessE (f + 1) q i n = (q, i) := by
  unfold downF; rw [if_pos h, hj, if_neg (by rw [hl]; decide)]
theorem downF_go {q : List (Value × Ub)} {i n j : Nat} (h : 2 * i + 1 < n) (hj : kidF lessE q (2 * i + 1) n = j) (hl : lessE (gD q j) (gD q i) = true) (f : Nat) : downF lessE (f + 1) q i n = downF lessE f (swapL q i j) j n := by
  conv => lhs; unfold downF
  rw [if_pos h, hj, if_pos hl]

theorem methLen1 (w : World) (qb : Nat) : Sem.run Tryz.prog (method (Tryz.prog.types.size + Made.depth) 66 (.pointer (some ⟨qb, 0, none⟩)) "Len") w = Sem.run Tryz.prog (do let x ← loadVar 60 ⟨qb, 0, none⟩; pure ((152 : FuncId), x)) w := by kernel_rfl
theorem methLen {w : World} {qb n c : Nat} {a : Option Addr} (hb : w.heap[qb]? = some (.cells #[.slice a n c] 60 (0, 0))) : Sem.run Tryz.prog (method 330 66 (.pointer (some ⟨qb, 0, none⟩)) "Len") w = .ok (152, .slice a n c) w := by
  have hc := cell_of_one hb
  rw [show (330 : Nat) = Tryz.prog.types.size + Made.depth by kernel_rfl, methLen1]
  go_simp

theorem methLess1 (w : World) (qb : Nat) : Sem.run Tryz.prog (method (Tryz.prog.types.size + Made.depth) 66 (.pointer (some ⟨qb, 0, none⟩)) "Less") w = Sem.run Tryz.prog (do let x ← loadVar 60 ⟨qb, 0, none⟩; pure ((153 : FuncId), x)) w := by kernel_rfl
theorem methLess {w : World} {qb n c : Nat} {a : Option Addr} (hb : w.heap[qb]? = some (.cells #[.slice a n c] 60 (0, 0))) : Sem.run Tryz.prog (method 330 66 (.pointer (some ⟨qb, 0, none⟩)) "Less") w = .ok (153, .slice a n c) w := by
  have hc := cell_of_one hb
  rw [show (330 : Nat) = Tryz.prog.types.size + Made.depth by kernel_rfl, methLess1]
  go_simp

theorem methSwap1 (w : World) (qb : Nat) : Sem.run Tryz.prog (method (Tryz.prog.types.size + Made.depth) 66 (.pointer (some ⟨qb, 0, none⟩)) "Swap") w = Sem.run Tryz.prog (do let x ← loadVar 60 ⟨qb, 0, none⟩; pure ((154 : FuncId), x)) w := by kernel_rfl
theorem methSwap {w : World} {qb n c : Nat} {a : Option Addr} (hb : w.heap[qb]? = some (.cells #[.slice a n c] 60 (0, 0))) : Sem.run Tryz.prog (method 330 66 (.pointer (some ⟨qb, 0, none⟩)) "Swap") w = .ok (154, .slice a n c) w := by
  have hc := cell_of_one hb
  rw [show (330 : Nat) = Tryz.prog.types.size + Made.depth by kernel_rfl, methSwap1]
  go_simp

def DownPost (w : World) (B qb : Nat) (v : Value) (q : List (Value × Ub)) (e : Ending) (w' : World) : Prop := (∃ b, e = .returned (.bool b)) ∧ QIs w' B qb v q ∧ Keep (QK qb v) w w'
set_option maxHeartbeats 32000000 in
theorem down_any (w : World) (B qb : Nat) (v : Value) (es : List (Value × Ub)) (h : QIs w B qb v es) (n i : Nat) (hn : es.length = n) (hm : n ≤ 64) (hi : i ≤ n) (iv nv : Int) (hiv : iv = (i : Int)) (hnv : nv = (n : Int)) :
    Calls Tryz.prog 56 #[.iface 66 (.pointer (some ⟨qb, 0, none⟩)), .int .i64 iv, .int .i64 nv] w (DownPost w B qb v (downF lessE n es i n).1) := by
  subst hiv; subst hnv
  obtain ⟨va, vc, rfl⟩ := h.form
  rw [hn] at h ⊢
  have H := Lib.hid h; have HN := Lib.hid hn
  clear h hn
  go_enter Tryz.func56, Tryz.ntmps56
  go_wp2_with fail
  go_loopw [7] (fun t wr => ∃ (ic f : Nat) (q : List (Value × Ub)), t = .int .i64 ic ∧ ic ≤ n ∧ n - ic ≤ f ∧ Hid (q.length = n) ∧ Hid (downF lessE n es i n = downF lessE f q ic n) ∧ Hid (QIs wr B qb (.slice va n vc) q) ∧ Hid (Keep (QK qb (.slice va n vc)) w wr)) (fun t _ => n - (intOf t).toNat)
  case atStart => exact ⟨i, n, es, rfl, hi, by omega, HN, Lib.hid rfl, H, Lib.hid (Keep.refl _ _)⟩
  case round =>
  obtain ⟨ic, f, q, rfl, hic, hf, HL, HD, HQ, HK⟩ := hrel
  have hi0 : (0 : Int) ≤ (ic : Int) := by omega
  have hin : (ic : Int) ≤ 64 := by omega
  have hn0 : (n : Int) ≤ 64 := by omega
  by_cases h1 : 2 * ic + 1 < n
  · have hc1 : 2 * (ic : Int) + 1 < (n : Int) := by omega
    have hc1' : ¬ (n : Int) ≤ 2 * (ic : Int) + 1 := by omega
    have hc2 : ¬ (2 * (ic : Int) + 1 < 0) := by omega
    obtain ⟨f', rfl⟩ : ∃ f', f = f' + 1 := ⟨f - 1, by omega⟩
    have hc2' : 0 ≤ 2 * (ic : Int) + 1 := by omega
    by_cases h2 : 2 * ic + 2 < n
    · have hc3 : 2 * (ic : Int) + 1 + 1 < (n : Int) := by omega
      have hm1 := methLess HQ.out.box
      go_wp2_with fail
      obtain ⟨b2, hb2⟩ : ∃ x, lessE (gD q (2 * ic + 2)) (gD q (2 * ic + 1)) = x := ⟨_, rfl⟩
      have C : Calls Tryz.prog 153 #[.slice va n vc, .int .i64 (2 * (ic : Int) + 1 + 1), .int .i64 (2 * (ic : Int) + 1)] wr (TherePost wr b2) := by
        rw [← hb2]
        have hr := Rd.of_owns HQ.out.own
        exact less_any wr _ q hr HQ.out.lens (2 * ic + 2) (2 * ic + 1) _ _ (by omega) (by omega) (by rw [HL.out]; omega) (by rw [HL.out]; omega)
      refine C.mono ?_
      clear C
      rintro e wb ⟨rfl, hk⟩
      have HQ := Lib.hid (HQ.out.keep hk)
      have HK := Lib.hid (HK.out.trans hk.any)
      clear hk
      have Hb2 := Lib.hid hb2
      clear hb2
      clear hm1
      cases b2
      · have HJ : Hid (kidF lessE q (2 * ic + 1) n = 2 * ic + 1) := Lib.hid (by unfold kidF; rw [show lessE (gD q (2 * ic + 1 + 1)) (gD q (2 * ic + 1)) = false from Hb2.out, Bool.and_false, if_neg Bool.false_ne_true])
        have hm2 := methLess HQ.out.box
        go_wp2_with fail
        obtain ⟨b3, hb3⟩ : ∃ x, lessE (gD q (2 * ic + 1)) (gD q (ic)) = x := ⟨_, rfl⟩
        have C : Calls Tryz.prog 153 #[.slice va n vc, .int .i64 (2 * (ic : Int) + 1), .int .i64 ((ic : Int))] wb (TherePost wb b3) := by
          rw [← hb3]
          have hr := Rd.of_owns HQ.out.own
          exact less_any wb _ q hr HQ.out.lens (2 * ic + 1) (ic) _ _ (by omega) (by omega) (by rw [HL.out]; omega) (by rw [HL.out]; omega)
        refine C.mono ?_
        clear C
        rintro e wc ⟨rfl, hk⟩
        have HQ := Lib.hid (HQ.out.keep hk)
        have HK := Lib.hid (HK.out.trans hk.any)
        clear hk
        have Hb3 := Lib.hid hb3
        clear hb3
        cases b3
        · have HE : Hid ((downF lessE n es i n).1 = q) := Lib.hid (by rw [HD.out, downF_stay h1 HJ.out Hb3.out f'])
          have HP : Hid (∀ b, DownPost w B qb (.slice va n vc) (downF lessE n es i n).1 (.returned (.bool b)) wc) := Lib.hid (fun b => ⟨⟨_, rfl⟩, by rw [HE.out]; exact HQ.out, HK.out⟩)
          clear HE
          go_wp2_with fail
          go_ret
          exact HP.out _
        · have hm3 := methSwap HQ.out.box
          go_wp2_with fail
          obtain ⟨sg, sc, hsv⟩ : ∃ g c, Value.slice va n vc = .slice (some ⟨g, 0, none⟩) n c := by
            have ho0 := HQ.out.own
            rw [HL.out] at ho0
            obtain ⟨g, cur, h, -⟩ := owns_cells ho0 (by omega)
            exact ⟨g, vc, by rw [h]⟩
          injection hsv with hva _ hvc
          subst hva; subst hvc
          have C : Calls Tryz.prog 154 #[.slice (some ⟨sg, 0, none⟩) n vc, .int .i64 (ic : Int), .int .i64 (2 * (ic : Int) + 1)] wc fun e w' => e = .returned (.tuple #[]) ∧ QIs w' B qb (.slice (some ⟨sg, 0, none⟩) n vc) (swapL q ic (2 * ic + 1)) ∧ Keep (QK qb (.slice (some ⟨sg, 0, none⟩) n vc)) wc w' := by
            have ho := HQ.out.own
            have c := swap_any wc B sg vc q (by rw [HL.out] at ho ⊢; exact ho) HQ.out.lens HQ.out.sls ic (2 * ic + 1) _ _ rfl (show 2 * (ic : Int) + 1 = (((2 * ic + 1) : Nat) : Int) by omega) (by rw [HL.out]; omega) (by rw [HL.out]; omega)
            rw [HL.out] at c
            refine c.mono fun e w' ⟨h1, h2, h3⟩ => ?_
            have hq := HQ.out
            rw [← HL.out] at hq h2
            have r := hq.swap (k := 2 * ic + 1) (by rw [HL.out]; omega) (by rw [HL.out]; omega) h2 h3
            rw [HL.out] at r
            exact ⟨h1, r⟩
          refine C.mono ?_
          clear C
          rintro e ww ⟨rfl, hq, hk⟩
          have HQ := Lib.hid hq
          have HK := Lib.hid (HK.out.trans hk)
          have HD2 : Hid (downF lessE n es i n = downF lessE f' (swapL q ic (2 * ic + 1)) (2 * ic + 1) n) := Lib.hid (by rw [HD.out, downF_go h1 HJ.out Hb3.out])
          have HL2 : Hid ((swapL q ic (2 * ic + 1)).length = n) := Lib.hid (by rw [swapL_len]; exact HL.out)
          clear hq hk hm3
          go_wp2_with fail
          go_roundw
          case rel => exact ⟨2 * ic + 1, f', swapL q ic (2 * ic + 1), by go_num, by omega, by omega, HL2, HD2, HQ, HK⟩
          case measure => simp [intOf]; omega
      · have HJ : Hid (kidF lessE q (2 * ic + 1) n = 2 * ic + 2) := Lib.hid (by unfold kidF; rw [show lessE (gD q (2 * ic + 1 + 1)) (gD q (2 * ic + 1)) = true from Hb2.out, Bool.and_true, if_pos (decide_eq_true (by omega))])
        have hm2 := methLess HQ.out.box
        go_wp2_with fail
        obtain ⟨b3, hb3⟩ : ∃ x, lessE (gD q (2 * ic + 2)) (gD q (ic)) = x := ⟨_, rfl⟩
        have C : Calls Tryz.prog 153 #[.slice va n vc, .int .i64 (2 * (ic : Int) + 1 + 1), .int .i64 ((ic : Int))] wb (TherePost wb b3) := by
          rw [← hb3]
          have hr := Rd.of_owns HQ.out.own
          exact less_any wb _ q hr HQ.out.lens (2 * ic + 2) (ic) _ _ (by omega) (by omega) (by rw [HL.out]; omega) (by rw [HL.out]; omega)
        refine C.mono ?_
        clear C
        rintro e wc ⟨rfl, hk⟩
        have HQ := Lib.hid (HQ.out.keep hk)
        have HK := Lib.hid (HK.out.trans hk.any)
        clear hk
        have Hb3 := Lib.hid hb3
        clear hb3
        cases b3
        · have HE : Hid ((downF lessE n es i n).1 = q) := Lib.hid (by rw [HD.out, downF_stay h1 HJ.out Hb3.out f'])
          have HP : Hid (∀ b, DownPost w B qb (.slice va n vc) (downF lessE n es i n).1 (.returned (.bool b)) wc) := Lib.hid (fun b => ⟨⟨_, rfl⟩, by rw [HE.out]; exact HQ.out, HK.out⟩)
          clear HE
          go_wp2_with fail
          go_ret
          exact HP.out _
        · have hm3 := methSwap HQ.out.box
          go_wp2_with fail
          obtain ⟨sg, sc, hsv⟩ : ∃ g c, Value.slice va n vc = .slice (some ⟨g, 0, none⟩) n c := by
            have ho0 := HQ.out.own
            rw [HL.out] at ho0
            obtain ⟨g, cur, h, -⟩ := owns_cells ho0 (by omega)
            exact ⟨g, vc, by rw [h]⟩
          injection hsv with hva _ hvc
          subst hva; subst hvc
          have C : Calls Tryz.prog 154 #[.slice (some ⟨sg, 0, none⟩) n vc, .int .i64 (ic : Int), .int .i64 (2 * (ic : Int) + 1 + 1)] wc fun e w' => e = .returned (.tuple #[]) ∧ QIs w' B qb (.slice (some ⟨sg, 0, none⟩) n vc) (swapL q ic (2 * ic + 2)) ∧ Keep (QK qb (.slice (some ⟨sg, 0, none⟩) n vc)) wc w' := by
            have ho := HQ.out.own
            have c := swap_any wc B sg vc q (by rw [HL.out] at ho ⊢; exact ho) HQ.out.lens HQ.out.sls ic (2 * ic + 2) _ _ rfl (show 2 * (ic : Int) + 1 + 1 = (((2 * ic + 2) : Nat) : Int) by omega) (by rw [HL.out]; omega) (by rw [HL.out]; omega)
            rw [HL.out] at c
            refine c.mono fun e w' ⟨h1, h2, h3⟩ => ?_
            have hq := HQ.out
            rw [← HL.out] at hq h2
            have r := hq.swap (k := 2 * ic + 2) (by rw [HL.out]; omega) (by rw [HL.out]; omega) h2 h3
            rw [HL.out] at r
            exact ⟨h1, r⟩
          refine C.mono ?_
          clear C
          rintro e ww ⟨rfl, hq, hk⟩
          have HQ := Lib.hid hq
          have HK := Lib.hid (HK.out.trans hk)
          have HD2 : Hid (downF lessE n es i n = downF lessE f' (swapL q ic (2 * ic + 2)) (2 * ic + 2) n) := Lib.hid (by rw [HD.out, downF_go h1 HJ.out Hb3.out])
          have HL2 : Hid ((swapL q ic (2 * ic + 2)).length = n) := Lib.hid (by rw [swapL_len]; exact HL.out)
          clear hq hk hm3
          go_wp2_with fail
          go_roundw
          case rel => exact ⟨2 * ic + 2, f', swapL q ic (2 * ic + 2), by go_num, by omega, by omega, HL2, HD2, HQ, HK⟩
          case measure => simp [intOf]; omega
    · have hc3 : ¬ 2 * (ic : Int) + 1 + 1 < (n : Int) := by omega
      have HJ : Hid (kidF lessE q (2 * ic + 1) n = 2 * ic + 1) := Lib.hid (by unfold kidF; rw [decide_eq_false (by omega), Bool.false_and, if_neg Bool.false_ne_true])
      have hm2 := methLess HQ.out.box
      go_wp2_with fail
      obtain ⟨b3, hb3⟩ : ∃ x, lessE (gD q (2 * ic + 1)) (gD q (ic)) = x := ⟨_, rfl⟩
      have C : Calls Tryz.prog 153 #[.slice va n vc, .int .i64 (2 * (ic : Int) + 1), .int .i64 ((ic : Int))] wr (TherePost wr b3) := by
        rw [← hb3]
        have hr := Rd.of_owns HQ.out.own
        exact less_any wr _ q hr HQ.out.lens (2 * ic + 1) (ic) _ _ (by omega) (by omega) (by rw [HL.out]; omega) (by rw [HL.out]; omega)
      refine C.mono ?_
      clear C
      rintro e wb ⟨rfl, hk⟩
      have HQ := Lib.hid (HQ.out.keep hk)
      have HK := Lib.hid (HK.out.trans hk.any)
      clear hk
      have Hb3 := Lib.hid hb3
      clear hb3
      cases b3
      · have HE : Hid ((downF lessE n es i n).1 = q) := Lib.hid (by rw [HD.out, downF_stay h1 HJ.out Hb3.out f'])
        have HP : Hid (∀ b, DownPost w B qb (.slice va n vc) (downF lessE n es i n).1 (.returned (.bool b)) wb) := Lib.hid (fun b => ⟨⟨_, rfl⟩, by rw [HE.out]; exact HQ.out, HK.out⟩)
        clear HE
        go_wp2_with fail
        go_ret
        exact HP.out _
      · have hm3 := methSwap HQ.out.box
        go_wp2_with fail
        obtain ⟨sg, sc, hsv⟩ : ∃ g c, Value.slice va n vc = .slice (some ⟨g, 0, none⟩) n c := by
          have ho0 := HQ.out.own
          rw [HL.out] at ho0
          obtain ⟨g, cur, h, -⟩ := owns_cells ho0 (by omega)
          exact ⟨g, vc, by rw [h]⟩
        injection hsv with hva _ hvc
        subst hva; subst hvc
        have C : Calls Tryz.prog 154 #[.slice (some ⟨sg, 0, none⟩) n vc, .int .i64 (ic : Int), .int .i64 (2 * (ic : Int) + 1)] wb fun e w' => e = .returned (.tuple #[]) ∧ QIs w' B qb (.slice (some ⟨sg, 0, none⟩) n vc) (swapL q ic (2 * ic + 1)) ∧ Keep (QK qb (.slice (some ⟨sg, 0, none⟩) n vc)) wb w' := by
          have ho := HQ.out.own
          have c := swap_any wb B sg vc q (by rw [HL.out] at ho ⊢; exact ho) HQ.out.lens HQ.out.sls ic (2 * ic + 1) _ _ rfl (show 2 * (ic : Int) + 1 = (((2 * ic + 1) : Nat) : Int) by omega) (by rw [HL.out]; omega) (by rw [HL.out]; omega)
          rw [HL.out] at c
          refine c.mono fun e w' ⟨h1, h2, h3⟩ => ?_
          have hq := HQ.out
          rw [← HL.out] at hq h2
          have r := hq.swap (k := 2 * ic + 1) (by rw [HL.out]; omega) (by rw [HL.out]; omega) h2 h3
          rw [HL.out] at r
          exact ⟨h1, r⟩
        refine C.mono ?_
        clear C
        rintro e ww ⟨rfl, hq, hk⟩
        have HQ := Lib.hid hq
        have HK := Lib.hid (HK.out.trans hk)
        have HD2 : Hid (downF lessE n es i n = downF lessE f' (swapL q ic (2 * ic + 1)) (2 * ic + 1) n) := Lib.hid (by rw [HD.out, downF_go h1 HJ.out Hb3.out])
        have HL2 : Hid ((swapL q ic (2 * ic + 1)).length = n) := Lib.hid (by rw [swapL_len]; exact HL.out)
        clear hq hk hm3
        go_wp2_with fail
        go_roundw
        case rel => exact ⟨2 * ic + 1, f', swapL q ic (2 * ic + 1), by go_num, by omega, by omega, HL2, HD2, HQ, HK⟩
        case measure => simp [intOf]; omega
  · have hc1 : (n : Int) ≤ 2 * (ic : Int) + 1 := by omega
    have HE : Hid ((downF lessE n es i n).1 = q) := Lib.hid (by rw [HD.out, downF_stop h1])
    have HP : Hid (∀ b, DownPost w B qb (.slice va n vc) (downF lessE n es i n).1 (.returned (.bool b)) wr) := Lib.hid (fun b => ⟨⟨_, rfl⟩, by rw [HE.out]; exact HQ.out, HK.out⟩)
    clear HE
    go_wp2_with fail
    go_ret
    exact HP.out _

end Go.Proofs.YtaiicjhnhbkgmaaGreatDoor

/-
  ring's heap of entries (container/heap's Init, Fix; queue.next).
  Conditions: at most 64 entries.
-/
namespace Go.Proofs.YtaiicjhnhbkgmaaGreatDoor
open Go.RowKit Go.Maps Go.ChangeMaps
set_option maxRecDepth 100000
set_option linter.unusedVariables false

theorem lenq_any (w : World) (a : Option Addr) (n c : Nat) : Calls Tryz.prog 152 #[.slice a n c] w fun e w' => e = .returned (.int .i64 (n : Int)) ∧ w = w' := by
  go_enter Tryz.func152, Tryz.ntmps152
  go_wp2_with fail
  go_ret
  exact ⟨rfl, rfl⟩
theorem initF_go {q : List (Value × Ub)} {n k : Nat} (hn : q.length = n) : initF lessE q (k + 1) = initF lessE (downF lessE n q k n).1 k := by
  conv => lhs; unfold initF
  rw [hn]
set_option maxHeartbeats 16000000 in
theorem init_any (w : World) (B qb : Nat) (v : Value) (es : List (Value × Ub)) (h : QIs w B qb v es) (hm : es.length ≤ 64) :
    Calls Tryz.prog 31 #[.iface 66 (.pointer (some ⟨qb, 0, none⟩))] w fun e w' => e = .returned (.tuple #[]) ∧ QIs w' B qb v (heapF lessE es) ∧ Keep (QK qb v) w w' := by
  obtain ⟨va, vc, rfl⟩ := h.form
  obtain ⟨n, hn⟩ : ∃ n, es.length = n := ⟨_, rfl⟩
  rw [hn] at h hm ⊢
  have H := Lib.hid h; have HN := Lib.hid hn
  have hm1 := methLen h.box
  have hq : (n : Int).tdiv 2 = ((n / 2 : Nat) : Int) := by rw [Int.tdiv_eq_ediv_of_nonneg (by omega)]; omega
  have HQD := Lib.hid hq
  clear h hn hq
  go_enter Tryz.func31, Tryz.ntmps31
  go_wp2_with fail
  refine (lenq_any w va n vc).mono ?_
  rintro e w1 ⟨rfl, rfl⟩
  go_wp2_with fail
  clear hm1
  go_loopw [3] (fun t wr => ∃ (j : Int) (k : Nat) (q : List (Value × Ub)), t = .int .i64 j ∧ -1 ≤ j ∧ j ≤ 64 ∧ Hid (j = (k : Int) - 1 ∧ k ≤ n / 2) ∧ Hid (q.length = n) ∧ Hid (initF lessE es (n / 2) = initF lessE q k) ∧ Hid (QIs wr B qb (.slice va n vc) q) ∧ Hid (Keep (QK qb (.slice va n vc)) w wr)) (fun t _ => (intOf t + 1).toNat)
  case atStart => exact ⟨((n / 2 : Nat) : Int) - 1, n / 2, es, by first | rfl | (rw [HQD.out]; rfl) | (rw [HQD.out]; go_num) | go_num, by omega, by omega, Lib.hid ⟨rfl, Nat.le_refl _⟩, HN, Lib.hid rfl, H, Lib.hid (Keep.refl _ _)⟩
  case round =>
  obtain ⟨j, k, q, rfl, hj1, hj2, HJ, HL, HD, HQ, HK⟩ := hrel
  by_cases hj0 : 0 ≤ j
  · have C : Calls Tryz.prog 56 #[.iface 66 (.pointer (some ⟨qb, 0, none⟩)), .int .i64 j, .int .i64 (n : Int)] wr (DownPost wr B qb (.slice va n vc) (downF lessE n q (k - 1) n).1) := down_any wr B qb _ q HQ.out n (k - 1) HL.out hm (by have := HJ.out; omega) _ _ (by have := HJ.out; omega) rfl
    have HC := Lib.hid C
    clear C
    go_wp2_with fail
    refine HC.out.mono ?_
    rintro e w2 ⟨⟨b, rfl⟩, hq2, hk2⟩
    have HQ2 := Lib.hid hq2; have HK2 := Lib.hid (HK.out.trans hk2)
    have hk1 : k = (k - 1) + 1 := by have := HJ.out; omega
    have HD2 : Hid (initF lessE es (n / 2) = initF lessE (downF lessE n q (k - 1) n).1 (k - 1)) := Lib.hid (by
      rw [HD.out]
      conv => lhs; rw [hk1]
      exact initF_go HL.out)
    have HL2 : Hid ((downF lessE n q (k - 1) n).1.length = n) := Lib.hid (by rw [(downF_perm lessE n q (k - 1) n (by rw [HL.out]; exact Nat.le_refl _)).length_eq]; exact HL.out)
    have HJ2 : Hid (j - 1 = ((k - 1 : Nat) : Int) - 1 ∧ k - 1 ≤ n / 2) := Lib.hid (by have := HJ.out; omega)
    clear hq2 hk2 hk1 HC
    go_wp2_with fail
    go_roundw
    case rel => exact ⟨j - 1, k - 1, _, rfl, by omega, by omega, HJ2, HL2, HD2, HQ2, HK2⟩
    case measure => simp [intOf]; omega
  · have HE : Hid (heapF lessE es = q) := Lib.hid (by
      have h := HJ.out
      obtain rfl : k = 0 := by omega
      unfold heapF; rw [HN.out, HD.out]; rfl)
    go_wp2_with fail
    go_end0
    exact ⟨rfl, by rw [HE.out]; exact HQ.out, HK.out⟩
theorem up0_any (w : World) (qb : Nat) : Calls Tryz.prog 91 #[.iface 66 (.pointer (some ⟨qb, 0, none⟩)), .int .i64 0] w fun e w' => e = .returned (.tuple #[]) ∧ Keep noBlk w w' := by
  go_enter Tryz.func91, Tryz.ntmps91
  go_wp2_with fail
  go_loopw [1] (fun t wr => t = .int .i64 0 ∧ Hid (Keep noBlk w wr)) (fun _ _ => 0)
  case atStart => exact ⟨rfl, Lib.hid (Keep.refl _ _)⟩
  case round =>
  obtain ⟨rfl, HK⟩ := hrel
  go_wp2_with fail
  go_end0
  exact ⟨rfl, HK.out⟩
set_option maxHeartbeats 4000000 in
theorem fix_any (w : World) (B qb : Nat) (v : Value) (es : List (Value × Ub)) (h : QIs w B qb v es) (hm : es.length ≤ 64) :
    Calls Tryz.prog 57 #[.iface 66 (.pointer (some ⟨qb, 0, none⟩)), .int .i64 0] w fun e w' => e = .returned (.tuple #[]) ∧ QIs w' B qb v (downF lessE es.length es 0 es.length).1 ∧ Keep (QK qb v) w w' := by
  obtain ⟨va, vc, rfl⟩ := h.form
  have HC := Lib.hid (down_any w B qb _ es h es.length 0 rfl hm (Nat.zero_le _) 0 _ rfl rfl)
  obtain ⟨q, hq⟩ : ∃ q, (downF lessE es.length es 0 es.length).1 = q := ⟨_, rfl⟩
  rw [hq] at HC ⊢
  obtain ⟨n, hn⟩ : ∃ n, es.length = n := ⟨_, rfl⟩
  rw [hn] at HC h hm ⊢
  have hm1 := methLen h.box
  clear hq hn h
  go_enter Tryz.func57, Tryz.ntmps57
  go_wp2_with fail
  refine (lenq_any w va n vc).mono ?_
  rintro e w1 ⟨rfl, rfl⟩
  go_wp2_with fail
  refine HC.out.mono ?_
  rintro e w2 ⟨⟨b, rfl⟩, hq2, hk2⟩
  have HQ2 := Lib.hid hq2; have HK2 := Lib.hid hk2
  clear hq2 hk2 hm1
  cases b
  · go_wp2_with fail
    refine (up0_any w2 qb).mono ?_
    rintro e w3 ⟨rfl, hk3⟩
    have HQ3 := Lib.hid (HQ2.out.keep hk3); have HK3 := Lib.hid (HK2.out.trans hk3.any)
    clear hk3
    go_wp2_with fail
    go_end0
    exact ⟨rfl, HQ3.out, HK3.out⟩
  · go_wp2_with fail
    go_end0
    exact ⟨rfl, HQ2.out, HK2.out⟩


end Go.Proofs.YtaiicjhnhbkgmaaGreatDoor

/-
  The first of a queue taken (queue.next).
  Conditions: at most 64 entries.
-/
namespace Go.Proofs.YtaiicjhnhbkgmaaGreatDoor
open Go.RowKit Go.Maps Go.ChangeMaps
set_option maxRecDepth 100000
set_option linter.unusedVariables false

theorem flat_take {α : Type} {f : α → List Value} {sz : Nat} : ∀ (l : List α) (k : Nat), (∀ y ∈ l, (f y).length = sz) → (l.flatMap f).take (k * sz) = (l.take k).flatMap f
  | [], k, _ => by simp
  | x :: l, 0, _ => by simp
  | x :: l, k + 1, h => by
    have hx := h x (List.mem_cons_self ..)
    rw [List.flatMap_cons, List.take_succ_cons, List.flatMap_cons, List.take_append, hx, Nat.succ_mul, List.take_of_length_le (by rw [hx]; omega), show k * sz + sz - sz = k * sz by omega, flat_take l k (fun y hy => h y (List.mem_cons_of_mem _ hy))]
theorem owns_cut {w : World} {B e sz n c k : Nat} {a : Option Addr} {xs : List Value} (h : w.ownsRow B e sz (.slice a n c) n xs) (hk : k ≤ n) (hn : 0 < n) : w.ownsRow B e sz (.slice a k c) k (xs.take (k * sz)) := by
  have hkn : k * sz ≤ n * sz := Nat.mul_le_mul_right _ hk
  refine ⟨by rw [List.length_take, h.1]; omega, .inr ?_⟩
  rcases h.2 with ⟨h1, h2⟩ | ⟨g, cap, cur, h1, h2, h3, h4, h5, h6, h7⟩
  · omega
  · injection h1 with h1 _ h1c
    subst h1; subst h1c
    refine ⟨g, c, cur, rfl, h2, h3, by omega, h5, h6, ?_⟩
    rw [← h7, List.take_take, Nat.min_eq_left hkn]
theorem cutF_mem {es : List (Value × Ub)} {p : Value × Ub → Prop} (hne : 0 < es.length) (h : ∀ e ∈ es, p e) : ∀ e ∈ cutF es, p e := fun e he => by
  have h1 : e ∈ es.set 0 (gD es (es.length - 1)) := List.mem_of_mem_take he
  rcases List.mem_or_eq_of_mem_set h1 with h2 | h2
  · exact h e h2
  · rw [h2]; exact h _ (List.mem_of_getElem? (gD_get (by omega)))
theorem QIs.cut {w w2 w3 : World} {B qb g c : Nat} {es : List (Value × Ub)} (h : QIs w B qb (.slice (some ⟨g, 0, none⟩) es.length c) es) (hne : 0 < es.length) {cur : Array Value} (hg : w.heap[g]? = some (.cells cur 64 (0, 0)))
    (hg2 : w2.heap[g]? = some (.cells (spl cur 0 (entCs (gD es (es.length - 1)))) 64 (0, 0))) (hb3 : w3.heap[qb]? = some (.cells #[.slice (some ⟨g, 0, none⟩) (es.length - 1) c] 60 (0, 0))) (k3 : Keep (fun j => j = qb) w2 w3) :
    QIs w3 B qb (.slice (some ⟨g, 0, none⟩) (cutF es).length c) (cutF es) := by
  have hl0 := h.lens _ (List.mem_of_getElem? (gD_get (q := es) (i := es.length - 1) (by omega)))
  have h1 := owns_set h.lens h.own hne hl0 hg (by rw [Nat.zero_mul]; exact hg2)
  rw [List.length_set] at h1
  have h2 := owns_cut h1 (k := es.length - 1) (by omega) hne
  have hl2 : UbLens (es.set 0 (gD es (es.length - 1))) := fun q hq => by
    rcases List.mem_or_eq_of_mem_set hq with h' | h'
    · exact h.lens q h'
    · rw [h']; exact hl0
  have e : (entRow (es.set 0 (gD es (es.length - 1)))).take ((es.length - 1) * 70) = entRow (cutF es) := flat_take _ _ fun y hy => entCs_len (hl2 y hy)
  rw [e] at h2
  have hne2 : g ≠ qb := fun e => h.apart (by rw [e]; rfl)
  refine ⟨by rw [cutF_len]; exact hb3, ?_, cutF_mem hne h.lens, cutF_mem hne h.sls⟩
  rw [cutF_len]
  exact k3.owns h2 fun i hi e => hne2 (by cases hi; exact e)
theorem nextF_go {es : List (Value × Ub)} (h : 0 < es.length - 1) : nextF lessE es = (downF lessE (cutF es).length (cutF es) 0 (cutF es).length).1 := by
  unfold nextF; rw [if_pos h, cutF_len]
theorem nextF_no {es : List (Value × Ub)} (h : ¬ 0 < es.length - 1) : nextF lessE es = cutF es := by
  unfold nextF; rw [if_neg h]
def zEnt : List Value := ubCs (.slice none 0 0) zUb ++ [.string ⟨#[]⟩]
theorem zEnt_len : zEnt.length = 70 := rfl
theorem zeroEnt (w : World) : (zeroValue 64).run Tryz.prog w = .ok (.agg zEnt.toArray) w := by kernel_rfl
set_option maxHeartbeats 16000000 in
theorem next_any (w : World) (B qb : Nat) (v : Value) (es : List (Value × Ub)) (h : QIs w B qb v es) (hne : 0 < es.length) (hm : es.length ≤ 64) :
    Calls Tryz.prog 32 #[.pointer (some ⟨qb, 0, none⟩)] w fun e w' => e = .returned (.agg (entCs (gD es 0)).toArray) ∧ ∃ v', QIs w' B qb v' (nextF lessE es) ∧ v'.ownBlock = v.ownBlock ∧ Keep (QK qb v) w w' := by
  obtain ⟨va, vc, hv0, hnc, hcm⟩ := (Rd.of_owns h.own).form
  subst hv0
  unfold maxLen at hcm
  obtain ⟨g, cur, hva, hcur, hsz, -⟩ := owns_cells h.own hne
  subst hva
  have h0cur := hcur
  obtain ⟨m, hm0⟩ : ∃ m, es.length - 1 = m := ⟨_, rfl⟩
  obtain ⟨n, hn⟩ : ∃ n, es.length = n := ⟨_, rfl⟩
  have hnm : n = m + 1 := by omega
  have hx0 := gD_get hne; have hxm := gD_get (q := es) (i := m) (by omega)
  obtain ⟨x, hx⟩ : ∃ x, gD es 0 = x := ⟨_, rfl⟩
  obtain ⟨y, hy⟩ : ∃ y, gD es m = y := ⟨_, rfl⟩
  rw [hx] at hx0 ⊢; rw [hy] at hxm
  have hr := Rd.of_owns h.own
  obtain ⟨g1, o1, cap1, hv, hata⟩ := rd_ent h.lens hr hx0
  obtain ⟨g2, o2, cap2, hv2, hatb⟩ := rd_ent h.lens hr hxm
  have e1 : g = g1 ∧ 0 = o1 := by cases hv; exact ⟨rfl, rfl⟩
  obtain ⟨rfl, rfl⟩ := e1
  have e1 : g = g2 ∧ 0 = o2 := by cases hv2; exact ⟨rfl, rfl⟩
  obtain ⟨rfl, rfl⟩ := e1
  have hlx := entCs_len (h.lens _ (List.mem_of_getElem? hx0)); have hly := entCs_len (h.lens _ (List.mem_of_getElem? hxm))
  have h1x : ∀ u ∈ entCs x, u.oneCell' = true := by
    obtain ⟨a, n, c, h⟩ := h.sls x (List.mem_of_getElem? hx0)
    obtain ⟨xv, xu⟩ := x
    subst h
    exact oneCell_ent xu
  have h1y : ∀ u ∈ entCs y, u.oneCell' = true := by
    obtain ⟨a, n, c, h⟩ := h.sls y (List.mem_of_getElem? hxm)
    obtain ⟨yv, yu⟩ := y
    subst h
    exact oneCell_ent yu
  have hqg : ¬ qb = g := fun e => h.apart (by rw [e]; rfl)
  have H := Lib.hid h; have HNE := Lib.hid hne; have HQG := Lib.hid hqg
  rw [Nat.zero_mul] at hata
  rw [Nat.zero_add] at hata hatb
  obtain ⟨lx, hlx_⟩ : ∃ l, entCs x = l := ⟨_, rfl⟩
  obtain ⟨ly, hly_⟩ : ∃ l, entCs y = l := ⟨_, rfl⟩
  rw [hlx_] at hlx hata h1x ⊢; rw [hly_] at hly hatb h1y
  have HATA := Lib.hid hata; have HATB := Lib.hid hatb; have HCUR := Lib.hid hcur; have H1X := Lib.hid h1x; have H1Y := Lib.hid h1y
  have HLY : Hid (entCs (gD es (es.length - 1)) = ly) := Lib.hid (by rw [hm0, hy]; exact hly_)
  have HBOX := Lib.hid h.box
  rw [hn] at hsz HBOX
  have HN := Lib.hid hn; have HM0 := Lib.hid hm0
  obtain ⟨ze, hze⟩ : ∃ z, zEnt = z := ⟨_, rfl⟩
  have hzl : ze.length = 70 := by rw [← hze]; rfl
  have HZE : Hid (∀ w, (zeroValue 64).run Tryz.prog w = .ok (.agg ze.toArray) w) := Lib.hid (by rw [← hze]; exact zeroEnt)
  obtain ⟨w1, hw1, hk1, hb1, hs1⟩ := alloc_facts w ze.toArray 64
  have hbx := hk1.blk HBOX.out id
  have hcq := cell_of_one hbx
  have HBOX := Lib.hid hbx
  have HATA := Lib.hid (hk1.rangeAt HATA.out); have HATB := Lib.hid (hk1.rangeAt HATB.out); have HCUR := Lib.hid (hk1.blk HCUR.out id)
  have HK := Lib.hid hk1; have HRB := Lib.hid hb1
  obtain ⟨rb, hrb⟩ : ∃ b, w.heap.size = b := ⟨_, rfl⟩
  have HRBN := Lib.hid hrb
  rw [hrb] at HRB
  have hrlt : rb < w1.heap.size := by omega
  have hn1 : (0 : Int) < (n : Int) := by omega
  have hn64 : (n : Int) ≤ 64 := by omega
  have hfit : 70 ≤ cur.size := by omega
  have hfy : 0 + ly.length ≤ cur.size := by omega
  rw [hn] at hm ⊢
  have HNM := Lib.hid hnm
  clear hnm
  have HCUR0 := Lib.hid h0cur
  have HH0 := Lib.hid h
  have hgw : g < w.heap.size := lt_of_block h0cur
  have hqw : qb < w.heap.size := lt_of_block h.box
  have HGW := Lib.hid hgw; have HQW := Lib.hid hqw
  clear hgw hqw h0cur
  clear h hne hqg hata hatb hcur h1x h1y hx hy hx0 hxm hv hv2 hr hlx_ hly_ hm0 hn hze hk1 hb1 hs1 hbx hsz
  go_enter Tryz.func32, Tryz.ntmps32
  go_wp2_with (first
    | ((with_reducible show wpList _ _ _ (⟨some 2, .alloc 64, _, _, _, _⟩ :: _) _ _); refine wpList_alloc_at rfl 64 rfl _ HZE.out ze.toArray rfl ?_; rw [hw1, hrb]; clear hw1 hrb)
    | ((with_reducible show wpList _ _ _ (⟨_, .load 64 (.tmp 8), _, _, _, _⟩ :: _) _ _); refine wpList_load_mid rfl 64 (.tmp 8) rfl g 0 rfl lx _ HATA.out entUnder rfl (sizeEntL hlx) ?_)
    | ((with_reducible show wpList _ _ _ (⟨_, .alloc 64, _, _, _, _⟩ :: _) _ _); refine wpList_alloc_at rfl 64 rfl _ HZE.out ze.toArray rfl ?_)
    | ((with_reducible show wpList _ _ _ (⟨none, .store 64 (.tmp 3) (.tmp 9), _, _, _, _⟩ :: _) _ _)
       refine wpList_store_agg rfl 64 (.tmp 3) (.tmp 9) rfl w1.heap.size 0 lx rfl rfl ze.toArray _ (heap_alloc_new _ _) (by rw [hlx, List.size_toArray, hzl]; exact Nat.le_refl _) (sizeEntL hlx) H1X.out ?_
       intro w2 hb2 hk2
       rw [spl_whole _ _ (by rw [hlx, List.size_toArray, hzl])] at hb2
       have hkb : Keep noBlk w1 w2 := ((Keep.refl noBlk w1).alloc _).trans' hk2 (fun _ _ h => h.elim) (fun i hi e => by omega)
       clear hk2
       obtain ⟨tb, htb⟩ : ∃ b, w1.heap.size = b := ⟨_, rfl⟩
       rw [htb] at hb2 ⊢
       have HTB := Lib.hid hb2; have HTN := Lib.hid htb
       have HK := Lib.hid (HK.out.trans hkb)
       have hbx := hkb.blk HBOX.out id
       have hcq := cell_of_one hbx
       have HBOX := Lib.hid hbx
       have HATB := Lib.hid (hkb.rangeAt HATB.out); have HCUR := Lib.hid (hkb.blk HCUR.out id); have HRB := Lib.hid (hkb.blk HRB.out id)
       have hrt : rb ≠ tb := by omega
       clear hb2 htb hkb hbx))
  have hmi : (n : Int) - 1 = (m : Int) := by have := HNM.out; omega
  rw [hmi]
  have hmn : (m : Int) < (n : Int) := by have := HNM.out; omega
  have hm0 : (0 : Int) ≤ (m : Int) := by omega
  have hmc : (m : Int) ≤ (vc : Int) := by have := HN.out; have := HNM.out; omega
  have hcm2 : (vc : Int) ≤ 9223372036854775807 := by omega
  clear hmi
  obtain ⟨S, hS0⟩ : ∃ S : World → Prop, S = fun w' => Keep (fun j => j = g) w2 w' := ⟨_, rfl⟩
  have HSE := Lib.hid (show ∀ w', S w' → Keep (fun j => j = g) w2 w' from fun w' h => by rw [hS0] at h; exact h)
  have HSI := Lib.hid (show ∀ w', Keep (fun j => j = g) w2 w' → S w' from fun w' h => by rw [hS0]; exact h)
  have hS : S w2.drew := by rw [hS0]; exact (Keep.refl _ _).drew
  clear hS0
  refine wp_region_held (S := S) (by kernel_rfl) ?_
  change wpAnyH _ _ _ _ _ _ _ _ w2.drew
  have HCD : w2.drew.heap[g]? = some (.cells cur 64 (0, 0)) := HCUR.out
  have HBD : w2.drew.rangeAt g (m * 70) ly := HATB.out
  generalize w2.drew = wb at hS HCD HBD ⊢
  refine tka 0 (.pointer (some ⟨qb, 0, none⟩)) rfl hS ?_
  simp only [Act.put, List.setIfInBounds_toArray, List.set_cons_zero, List.set_cons_succ, List.getElem_toArray, List.getElem_cons_zero]
  refine tkb 1 (.pointer (some ⟨qb, 0, none⟩)) rfl hS ?_
  simp only [Act.put, List.setIfInBounds_toArray, List.set_cons_zero, List.set_cons_succ, List.getElem_toArray, List.getElem_cons_succ, List.getElem_cons_zero]
  refine tkd 2 (.slice (some ⟨g, 0, none⟩) n vc) rfl (.inl ⟨by rfl, fun w' hw' => by have c := (HSE.out w' hw').cell hcq HQG.out; go_simp⟩) hS ?_
  simp only [Act.put, List.setIfInBounds_toArray, List.set_cons_zero, List.set_cons_succ, List.getElem_toArray, List.getElem_cons_succ, List.getElem_cons_zero]
  refine tka 3 (.pointer (some ⟨qb, 0, none⟩)) rfl hS ?_
  simp only [Act.put, List.setIfInBounds_toArray, List.set_cons_zero, List.set_cons_succ, List.getElem_toArray, List.getElem_cons_succ, List.getElem_cons_zero]
  refine tkb 4 (.pointer (some ⟨qb, 0, none⟩)) rfl hS ?_
  simp only [Act.put, List.setIfInBounds_toArray, List.set_cons_zero, List.set_cons_succ, List.getElem_toArray, List.getElem_cons_succ, List.getElem_cons_zero]
  refine tkd 5 (.slice (some ⟨g, 0, none⟩) n vc) rfl (.inl ⟨by rfl, fun w' hw' => by have c := (HSE.out w' hw').cell hcq HQG.out; go_simp⟩) hS ?_
  simp only [Act.put, List.setIfInBounds_toArray, List.set_cons_zero, List.set_cons_succ, List.getElem_toArray, List.getElem_cons_succ, List.getElem_cons_zero]
  refine tka 6 (.int .i64 (m : Int)) rfl hS ?_
  simp only [Act.put, List.setIfInBounds_toArray, List.set_cons_zero, List.set_cons_succ, List.getElem_toArray, List.getElem_cons_succ, List.getElem_cons_zero]
  refine tkb 7 (.pointer (some ⟨g, m * 70, none⟩)) rfl hS ?_
  simp only [Act.put, List.setIfInBounds_toArray, List.set_cons_zero, List.set_cons_succ, List.getElem_toArray, List.getElem_cons_succ, List.getElem_cons_zero]
  refine wpAnyH_one (k := 8) rfl (by kernel_rfl) ?_
  refine wpList_load_mid (by rfl) 64 (.tmp 22) (by rfl) g (m * 70) (by rfl) ly _ HBD entUnder rfl (sizeEntL hly) ?_
  go_wp2_with fail
  refine ⟨hS, ?_⟩
  refine tkd 9 (.pointer (some ⟨g, 0, none⟩)) rfl (.inl ⟨by rfl, fun _ _ => by go_simp; first | done | (intro h; omega)⟩) hS ?_
  simp only [Act.put, List.setIfInBounds_toArray, List.set_cons_zero, List.set_cons_succ, List.getElem_toArray, List.getElem_cons_succ, List.getElem_cons_zero]
  refine wpAnyH_one (k := 10) rfl (by kernel_rfl) ?_
  refine wpList_store_agg (by rfl) 64 (.tmp 24) (.tmp 23) (by rfl) g 0 ly (by rfl) (by rfl) cur 64 HCD hfy (sizeEntL hly) H1Y.out ?_
  intro wc hb_ hk
  have HGB := Lib.hid hb_
  clear hb_
  have hS1 := HSI.out _ ((HSE.out _ hS).trans hk)
  clear hS hk
  go_wp2_with fail
  refine ⟨hS1, ?_⟩
  refine wpAnyH_done (by kernel_rfl) ?_ _
  have HKR := Lib.hid (HSE.out _ hS1)
  clear hS1 HSE HSI HCD HBD hcq
  obtain ⟨w3, hw3⟩ : ∃ w3, wc.setCell ⟨qb, 0, none⟩ (.slice (some ⟨g, 0, none⟩) m vc) = w3 := ⟨_, rfl⟩
  have hbx := HKR.out.blk HBOX.out HQG.out
  have hcq := cell_of_one hbx
  have hfq := blk_free hbx 0
  have hb3 := set_blk hbx 0 (.slice (some ⟨g, 0, none⟩) m vc)
  rw [hw3] at hb3
  have hb3 : w3.heap[qb]? = some (.cells #[.slice (some ⟨g, 0, none⟩) m vc] 60 (0, 0)) := hb3
  have K3 : Keep (fun j => j = qb) wc w3 := by rw [← hw3]; exact (Keep.refl (fun j => j = qb) wc).setCell (p := ⟨qb, 0, none⟩) (fun _ => rfl) _
  have hq3 : QIs w3 B qb (.slice (some ⟨g, 0, none⟩) (cutF es).length vc) (cutF es) := HH0.out.cut HNE.out HCUR0.out (by rw [HLY.out]; exact HGB.out) (by rw [HM0.out]; exact hb3) K3
  have hcl : (cutF es).length = m := by rw [cutF_len]; exact HM0.out
  rw [hcl] at hq3
  have HQ3 := Lib.hid hq3; have HCL := Lib.hid hcl
  have hne1 : tb ≠ qb ∧ tb ≠ g ∧ rb ≠ qb ∧ rb ≠ g := by have := HGW.out; have := HQW.out; have := HRBN.out; have := HTN.out; omega
  have HN1 := Lib.hid hne1
  have HTB := Lib.hid (K3.blk (HKR.out.blk HTB.out hne1.2.1) hne1.1)
  have HRB := Lib.hid (K3.blk (HKR.out.blk HRB.out hne1.2.2.2) hne1.2.2.1)
  have HK := Lib.hid (((HK.out.any (S := QK qb (.slice (some ⟨g, 0, none⟩) n vc))).trans (HKR.out.mono (T := QK qb (.slice (some ⟨g, 0, none⟩) n vc)) (fun j _ e => .inr (by rw [e]; rfl)))).trans (K3.mono fun j _ e => .inl e))
  clear hbx hb3 K3 hq3 hcl hne1 HBOX
  by_cases hm00 : m = 0
  · have HNF : Hid (nextF lessE es = cutF es) := Lib.hid (nextF_no (by rw [HM0.out]; omega))
    have hmz : ¬ (0 : Int) < (m : Int) := by omega
    have hmz2 : (m : Int) ≤ 0 := by omega
    clear hm00
    go_wp2_with (first
      | ((with_reducible show wpList _ _ _ (⟨_, .load 64 (.tmp 3), _, _, _, _⟩ :: _) _ _); refine wpList_load_mid rfl 64 (.tmp 3) rfl tb 0 rfl lx _ (rangeAt_whole HTB.out) entUnder rfl (sizeEntL hlx) ?_)
      | ((with_reducible show wpList _ _ _ (⟨none, .store 64 (.tmp 2) (.tmp 37), _, _, _, _⟩ :: _) _ _)
         refine wpList_store_agg rfl 64 (.tmp 2) (.tmp 37) rfl rb 0 lx rfl rfl ze.toArray _ HRB.out (by rw [hlx, List.size_toArray, hzl]; exact Nat.le_refl _) (sizeEntL hlx) H1X.out ?_
         intro w6 hb6 hk6
         rw [spl_whole _ _ (by rw [hlx, List.size_toArray, hzl])] at hb6
         have HB6 := Lib.hid hb6; have HK6 := Lib.hid hk6
         clear hb6 hk6))
    refine bodyPost_ret (results_cell_row rfl _ _ rb _ _ _ _ rfl HB6.out entUnder rfl (by rw [List.size_toArray]; exact sizeEntL hlx)) rfl ⟨rfl, .slice (some ⟨g, 0, none⟩) m vc, ?_, rfl, ?_⟩
    · rw [HNF.out]
      have hq := HQ3.out
      exact ⟨HK6.out.blk hq.box (fun e => HN1.out.2.2.1 e.symm), HK6.out.owns hq.own (fun i hi e => HN1.out.2.2.2 (by cases hi; exact e.symm)), hq.lens, hq.sls⟩
    · exact HK.out.trans' HK6.out (fun _ _ h => h) (fun i hi e => by have := HRBN.out; omega)
  · have HNF : Hid (nextF lessE es = (downF lessE (cutF es).length (cutF es) 0 (cutF es).length).1) := Lib.hid (nextF_go (by rw [HM0.out]; omega))
    have hmz : (0 : Int) < (m : Int) := by omega
    have C := Lib.hid (fix_any w3 B qb _ (cutF es) (by rw [← HCL.out] at HQ3; exact HQ3.out) (by rw [HCL.out]; omega))
    rw [HCL.out] at C HNF
    clear hm00
    go_wp2_with fail
    refine C.out.mono ?_
    rintro e w4 ⟨rfl, hq4, hk4⟩
    have HQ3 := Lib.hid hq4
    have HTB := Lib.hid (hk4.blk HTB.out (fun e => e.elim (fun e => HN1.out.1 e) (fun e => HN1.out.2.1 (by cases e; rfl))))
    have HRB := Lib.hid (hk4.blk HRB.out (fun e => e.elim (fun e => HN1.out.2.2.1 e) (fun e => HN1.out.2.2.2 (by cases e; rfl))))
    have HK := Lib.hid (HK.out.trans (hk4.mono fun j _ e => e.elim .inl (fun e => .inr (by rw [← e]; rfl))))
    clear hq4 hk4 C
    go_wp2_with (first
      | ((with_reducible show wpList _ _ _ (⟨_, .load 64 (.tmp 3), _, _, _, _⟩ :: _) _ _); refine wpList_load_mid rfl 64 (.tmp 3) rfl tb 0 rfl lx _ (rangeAt_whole HTB.out) entUnder rfl (sizeEntL hlx) ?_)
      | ((with_reducible show wpList _ _ _ (⟨none, .store 64 (.tmp 2) (.tmp 37), _, _, _, _⟩ :: _) _ _)
         refine wpList_store_agg rfl 64 (.tmp 2) (.tmp 37) rfl rb 0 lx rfl rfl ze.toArray _ HRB.out (by rw [hlx, List.size_toArray, hzl]; exact Nat.le_refl _) (sizeEntL hlx) H1X.out ?_
         intro w6 hb6 hk6
         rw [spl_whole _ _ (by rw [hlx, List.size_toArray, hzl])] at hb6
         have HB6 := Lib.hid hb6; have HK6 := Lib.hid hk6
         clear hb6 hk6))
    refine bodyPost_ret (results_cell_row rfl _ _ rb _ _ _ _ rfl HB6.out entUnder rfl (by rw [List.size_toArray]; exact sizeEntL hlx)) rfl ⟨rfl, .slice (some ⟨g, 0, none⟩) m vc, ?_, rfl, ?_⟩
    · rw [HNF.out]
      have hq := HQ3.out
      exact ⟨HK6.out.blk hq.box (fun e => HN1.out.2.2.1 e.symm), HK6.out.owns hq.own (fun i hi e => HN1.out.2.2.2 (by cases hi; exact e.symm)), hq.lens, hq.sls⟩
    · exact HK.out.trans' HK6.out (fun _ _ h => h) (fun i hi e => by have := HRBN.out; omega)

end Go.Proofs.YtaiicjhnhbkgmaaGreatDoor

/-
  A list of addresses in memory of its own (slices.Clone); an entry built.
  Conditions: at most 65536 addresses.
-/
namespace Go.Proofs.YtaiicjhnhbkgmaaGreatDoor
open Go.RowKit Go.Maps Go.ChangeMaps
set_option maxRecDepth 100000
set_option linter.unusedVariables false

def CloneAPost (w : World) (l : List Ad) (e : Ending) (w' : World) : Prop := ∃ v', e = .returned v' ∧ w'.ownsRow w.heap.size 70 2 v' l.length (adCells l) ∧ Keep noBlk w w'
theorem nilSl (w : World) : Sem.run Tryz.prog (binOp .eql 30 (.slice none 0 0) (.slice none 0 0)) w = .ok (.bool true) w := by kernel_rfl
theorem someSl (w : World) (a : Addr) (n c : Nat) : Sem.run Tryz.prog (binOp .eql 30 (.slice (some a) n c) (.slice none 0 0)) w = .ok (.bool false) w := by kernel_rfl
set_option maxHeartbeats 2000000 in
theorem cloneAd_any (w : World) (v : Value) (l : List Ad) (hr : Rd w 2 v l.length (adCells l)) (hl : l.length ≤ 65536) : Calls Tryz.prog 33 #[v] w (CloneAPost w l) := by
  obtain ⟨h0, oa, ca, hv, h1, h2, h3, h4⟩ := hr
  have hr : Rd w 2 v l.length (adCells l) := ⟨h0, oa, ca, hv, h1, h2, h3, h4⟩
  subst hv
  cases oa with
  | none =>
    obtain rfl : ca = 0 := h3 rfl
    have hln : l.length = 0 := by omega
    have hx : l = [] := List.eq_nil_of_length_eq_zero hln
    subst hx
    clear h0 h1 h2 h3 h4 hr hl hln
    have hns := nilSl w
    go_enter Tryz.func33, Tryz.ntmps33
    go_wp2_with fail
    go_ret
    exact ⟨_, rfl, World.ownsRow_nil _ _ _ _, Keep.refl _ _⟩
  | some oa =>
    obtain ⟨w3, hw3, k3, hb3, s3⟩ := alloc_facts w #[] 70
    have HK3 := Lib.hid k3; have HS3 := Lib.hid s3
    have HO3 : Hid (w3.ownsRow w.heap.size 70 2 (.slice (some ⟨w.heap.size, 0, none⟩) 0 0) 0 []) := Lib.hid (by rw [← hw3]; exact World.ownsRow_made w #[] 0 (Nat.le_refl _) (by unfold maxLen; omega) rfl)
    have HR3 := Lib.hid (hr.keep k3 fun _ _ => id)
    have HPO : Hid (∀ v' w', w'.ownsRow w.heap.size 70 2 v' l.length (adCells l) → Keep noBlk w w' → CloneAPost w l (.returned v') w') := Lib.hid (fun v' w' a b => ⟨v', rfl, a, b⟩)
    obtain ⟨n, hn⟩ : ∃ n, l.length = n := ⟨_, rfl⟩
    obtain ⟨cs, hcs⟩ : ∃ cs, adCells l = cs := ⟨_, rfl⟩
    have HO1 : Hid (∀ u ∈ cs, u.oneCell' = true) := Lib.hid (by rw [← hcs]; exact oneCell_ads _)
    rw [hn, hcs] at HR3 HPO
    rw [hn] at hl ⊢
    have hsz : w.heap.size ≤ w3.heap.size := k3.size
    clear h0 h1 h2 h3 h4 hr k3 hb3 s3 hn hcs
    have hns := someSl w oa n ca
    go_enter Tryz.func33, Tryz.ntmps33
    go_wp2_with (first
      | (at_builtin; refine wpList_append_rd rfl (.tmp 5) (.tmp 6) 30 rfl w.heap.size 70 zeroAdU 2 16 Tryz.underlying30 infoAdU rfl (by decide) (.slice (some ⟨w.heap.size, 0, none⟩) 0 0) 0 ([]) rfl HO3.out (.slice (some oa) n ca) n cs rfl HR3.out HO1.out (by unfold maxLen; omega) (by omega) (by omega) ?_
         intro v' w4 ho4 hk4 hn4 hbo4
         rw [Nat.zero_add, List.nil_append] at ho4
         have HO4 := Lib.hid ho4
         have HK4 := Lib.hid (HK3.out.trans' hk4 (fun _ _ h => h) (U := noBlk) (fun i hi e => by have e' : w.heap.size = i := Option.some.inj e; omega))
         clear ho4 hk4 hn4 hbo4))
    go_ret
    exact HPO.out _ _ HO4.out HK4.out

theorem infoEnt : (Tryz.prog.info? 64).map (fun i => (i.zero, i.size, i.bytes)) = some (some (.agg zEnt.toArray), 70, 136) := by kernel_rfl
theorem range69 (uc : List Value) (h : uc.length = 69) : uc = (List.range 69).map fun i => uc.getD i undef := by
  apply List.ext_getElem?
  intro i
  rw [List.getElem?_map]
  by_cases hi : i < 69
  · rw [List.getElem?_range hi, List.getElem?_eq_getElem (by omega)]
    simp [List.getD, List.getElem?_eq_getElem (show i < uc.length by omega)]
  · rw [List.getElem?_eq_none (by omega), List.getElem?_eq_none (by simp; omega)]; rfl
theorem built_ent (f : Nat → Value) (s : Value) : Tryz.prog.built 64 [(0, .agg ((List.range 69).map f).toArray), (1, .string ⟨#[]⟩)] = some ((List.range 69).map f ++ [Value.string ⟨#[]⟩]).toArray := by kernel_rfl
theorem built_ent2 (f : Nat → Value) (s : ByteArray) : Tryz.prog.built 64 [(0, .agg ((List.range 69).map f).toArray), (1, .string s)] = some ((List.range 69).map f ++ [Value.string s]).toArray := by kernel_rfl
theorem buildEnt (uc : List Value) (h : uc.length = 69) (s : ByteArray) (w : World) : (Instr.build 64 #[(0, .agg uc.toArray), (1, .string s)]).run Tryz.prog w = .ok (.agg (uc ++ [Value.string s]).toArray) w := by
  refine run_build w 64 _ _ ?_
  rw [range69 uc h]
  exact built_ent2 _ s
theorem entCs_put1 (v v' : Value) (u : Ub) : (entCs (v, u)).toArray.setIfInBounds 1 v' = (entCs (v', u)).toArray := by rw [List.setIfInBounds_toArray]; rfl

end Go.Proofs.YtaiicjhnhbkgmaaGreatDoor
