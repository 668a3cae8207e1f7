/-
  Bytes compared: bytes.Equal and the kit's SameBytes; Pick; OverBytes, LentBytes, KeptBytes.
  Conditions: the bounds on sizes that each theorem names.
-/
import Derived.Test.YtpkpopgcfgonoaaGreatDoorBase
import Derived.Laws.BytesArg
import Derived.Laws.BitsAllLaws
import Derived.Test.YtpkpopgcfgonoaaGreatDoorFit
import Derived.Outline
namespace Go.Proofs.YtpkpopgcfgonoaaGreatDoor
set_option linter.unusedVariables false
open Go.RowKit
set_option maxRecDepth 100000

def strB (l : List UInt8) : ByteArray := ⟨l.toArray⟩
theorem conv_rd {w : World} {v : Value} {l : List UInt8} (h : Rd w 1 v l.length (l.map vb)) : Sem.run Tryz.prog (convert 32 9 v) w = .ok (.string (strB l)) w := by
  obtain ⟨h0, a, cap, rfl, h1, h2, h3, h4⟩ := h
  rcases Nat.eq_zero_or_pos l.length with hz | hz
  · have : l = [] := List.eq_nil_of_length_eq_zero hz
    subst this
    cases a with
    | none => exact run_convert_bytes_nil w _ 5 Tryz.underlying32 Tryz.underlying5 _ _ _ Tryz.underlying9
    | some a => 
      rw [run_convert_bytes_string w _ _ 5 _ _ _ Tryz.underlying32 Tryz.underlying5 Tryz.underlying9]
      exact run_bytesToString w a 0 cap [] rfl
  · obtain ⟨g, o, rfl, hc⟩ := h4 (by simpa using hz)
    have := run_convert_bytes_arg (P := Tryz.prog) w 32 5 Tryz.underlying32 Tryz.underlying5 g o l.length cap (l.map fun b => (b.toNat : Int)) (by simp) (fun i hi => by
      rw [hc i (vb l[i]) (by simp [hi])]
      simp [vb, List.getD, hi]) _ Tryz.underlying9
    rw [this]
    simp [strOfNums, strB, Function.comp_def]

theorem strB_eq (a b : List UInt8) : ((strB a).toList == (strB b).toList) = decide (a = b) := by
  unfold strB
  rw [ByteArray.toList_mk, ByteArray.toList_mk]
  by_cases h : a = b
  · subst h; simp
  · simp [h]

set_option maxHeartbeats 400000 in
theorem beq_any (w : World) (av bv : Value) (xs ys : List UInt8) (ha : Rd w 1 av xs.length (xs.map vb)) (hb : Rd w 1 bv ys.length (ys.map vb)) (b : Bool) (he : decide (xs = ys) = b) :
    Calls Tryz.prog 43 #[av, bv] w (fun e w' => e = .returned (.bool b) ∧ w = w') := by
  have k1 := conv_rd ha
  have k2 := conv_rd hb
  have HE := Lib.hid (show ((strB xs).toList == (strB ys).toList) = b by rw [strB_eq]; exact he)
  clear he
  obtain ⟨a1, c1, rfl, -, -⟩ := ha.form
  obtain ⟨a2, c2, rfl, -, -⟩ := hb.form
  clear ha hb
  go_enter Tryz.func43, Tryz.ntmps43
  go_wp2_with fail
  go_ret
  exact ⟨by rw [← HE.out]; rfl, rfl⟩
set_option maxHeartbeats 400000 in
theorem same_any (w : World) (av bv : Value) (xs ys : List UInt8) (ha : Rd w 1 av xs.length (xs.map vb)) (hb : Rd w 1 bv ys.length (ys.map vb)) (b : Bool) (he : decide (xs = ys) = b) :
    Calls Tryz.prog 9 #[av, bv] w (fun e w' => e = .returned (.bool b) ∧ w = w') := by
  have k1 := conv_rd ha
  have k2 := conv_rd hb
  have HE := Lib.hid (show ((strB xs).toList == (strB ys).toList) = b by rw [strB_eq]; exact he)
  clear he
  obtain ⟨a1, c1, rfl, -, -⟩ := ha.form
  obtain ⟨a2, c2, rfl, -, -⟩ := hb.form
  clear ha hb
  go_enter Tryz.func9, Tryz.ntmps9
  go_wp2_with fail
  go_ret
  exact ⟨by rw [← HE.out]; rfl, rfl⟩

theorem tmod_pick (x n : Int) (h : 1 ≤ n) : x % n = if x.tmod n < 0 then x.tmod n + n else x.tmod n := by
  by_cases hx : 0 ≤ x
  · rw [Int.tmod_eq_emod_of_nonneg hx, if_neg (by have := Int.emod_nonneg x (show n ≠ 0 by omega); omega)]
  · have h1 : x.tmod n = -((-x) % n) := by
      have := Int.neg_tmod (-x) n
      rw [Int.neg_neg] at this
      rw [this, Int.tmod_eq_emod_of_nonneg (by omega)]
    have h2 := Int.emod_nonneg (-x) (show n ≠ 0 by omega)
    have h3 := Int.emod_lt_of_pos (-x) (show 0 < n by omega)
    have h4 := Int.emod_add_mul_ediv (-x) n
    have h5 : x = -((-x) % n) + n * (-((-x) / n)) := by rw [Int.mul_neg]; omega
    have h6 : x % n = (-((-x) % n)) % n := by
      have := Int.add_mul_emod_self_left (-((-x) % n)) n (-((-x) / n))
      rw [← h5] at this
      exact this
    rw [h6, h1]
    generalize (-x) % n = r at *
    by_cases hr : r = 0
    · subst hr; simp
    · rw [if_pos (by omega)]
      have := Int.add_emod_right (-r) n
      rw [← this]
      exact Int.emod_eq_of_lt (by omega) (by omega)

/-- Bytes turned about: their block alone. -/
theorem xor_byte (b : UInt8) : ∃ c : UInt8, Value.int .u8 (bits .xor .u8 (b.toNat : Int) 90) = vb c := by
  have h := u8_xor_nat b.toNat 90 b.toNat_lt (by omega)
  have hl : b.toNat ^^^ 90 < 256 := Nat.xor_lt_two_pow (n := 8) b.toNat_lt (by omega)
  refine ⟨UInt8.ofNat (b.toNat ^^^ 90), ?_⟩
  rw [show (90 : Int) = ((90 : Nat) : Int) from rfl, h]
  unfold vb
  simp
def OverPost (w : World) (v : Value) (e : Ending) (w' : World) : Prop := e = .returned (.tuple #[]) ∧ Keep (fun k => v.ownBlock = some k) w w'
set_option maxHeartbeats 1000000 in
theorem over_any (w : World) (base n : Nat) (v : Value) (l : List Value) (ho : w.ownsRow base 5 1 v n l) (hf : Fit IsB w v) :
    Calls Tryz.prog 14 #[v] w (OverPost w v) := by
  obtain ⟨k0, hk0⟩ := hf.bytes ho
  rcases ho.2 with ⟨rfl, -⟩ | ⟨g, cap, cur, rfl, hb, hg, h1, h2, h3, h4⟩
  · clear ho hf hk0
    go_enter Tryz.func14, Tryz.ntmps14
    go_wp2_with fail
    go_loopw [3] (fun i wr => i = .int .i64 0 ∧ w = wr) (fun _ _ => 0)
    case atStart => exact ⟨rfl, rfl⟩
    case round =>
      obtain ⟨rfl, rfl⟩ := hrel
      go_wp2_with fail
      go_end0
      exact ⟨rfl, Keep.refl _ _⟩
  · obtain ⟨hb0, hl0, -⟩ := hk0 g cap rfl
    clear hk0 ho hf hg h4
    unfold maxLen at h2
    have HB0 := Lib.hid hb0; have HL0 := Lib.hid hl0
    clear hb0 hl0 h3
    go_enter Tryz.func14, Tryz.ntmps14
    go_wp2_with fail
    go_loopw [3] (fun i wr => ∃ j : Nat, j ≤ cap ∧ i = .int .i64 j ∧ Hid (∃ ks : List UInt8, ks.length = cap ∧ wr.heap[g]? = some (.cells (ks.map vb).toArray 5 (0, 0)) ∧ Keep (fun k => k = g) w wr)) (fun i _ => cap - (intOf i).toNat)
    case atStart => exact ⟨0, by omega, rfl, Lib.hid ⟨k0, HL0.out, HB0.out, Keep.refl _ _⟩⟩
    case round =>
      obtain ⟨j, hj, rfl, hR⟩ := hrel
      obtain ⟨ks, hl, hbl, hkp⟩ := hR.out
      by_cases hjc : j < cap
      · have hc := blk_cell (i := j) (v := .int .u8 (ks[j].toNat : Int)) hbl (by simp [hl, hjc, vb])
        have hfz := blk_free hbl j
        obtain ⟨c, hx⟩ := xor_byte ks[j]
        have HX : Hid (∃ ks' : List UInt8, ks'.length = cap ∧ (wr.setCell ⟨g, j, none⟩ (.int .u8 (bits .xor .u8 (ks[j].toNat : Int) 90))).heap[g]? = some (.cells (ks'.map vb).toArray 5 (0, 0)) ∧ Keep (fun k => k = g) w (wr.setCell ⟨g, j, none⟩ (.int .u8 (bits .xor .u8 (ks[j].toNat : Int) 90)))) := by
          refine Lib.hid ⟨ks.set j c, by simp [hl], ?_, hkp.setCell (fun _ => rfl) _⟩
          rw [set_blk hbl, hx]
          simp [List.map_set]
        obtain ⟨y, hy⟩ : ∃ y : Int, (ks[j].toNat : Int) = y := ⟨_, rfl⟩
        rw [hy] at hc HX
        have hj0 : (0 : Int) ≤ (j : Int) := by omega
        have hj1 : (j : Int) < (cap : Int) := by omega
        clear hy hx hbl hl hkp hR
        go_wp2_with fail
        go_roundw
        case rel => exact ⟨j + 1, by omega, by go_num, HX⟩
        case measure => simp [intOf]; omega
      · obtain rfl : j = cap := by omega
        have HK := Lib.hid hkp
        clear hl hbl hkp hR
        go_wp2_with fail
        go_end0
        exact ⟨rfl, HK.out.mono fun k _ e => by rw [e]; rfl⟩
end Go.Proofs.YtpkpopgcfgonoaaGreatDoor
