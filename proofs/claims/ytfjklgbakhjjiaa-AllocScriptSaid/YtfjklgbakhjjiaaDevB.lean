/-
  A ledger's devices in memory: turn; the next free place out of the channel.
  Conditions: none but those told.
-/
import Derived.Test.YtfjklgbakhjjiaaDevA
import Derived.Conc.LoneCalls
import Derived.Conc.LoneSelect
import Derived.KernelRfl
import Derived.Laws.Rows
namespace Go.Proofs.Ytfjklgbakhjjiaa
open Go.RowKit Go.Maps Go.ChangeMaps
set_option maxRecDepth 100000
set_option linter.unusedVariables false

def TurnPost (w : World) (b : Nat) (c : Nat → Option Nat) (D : Nat) (M : List Ad) (e : Ending) (w' : World) : Prop := e = .returned (.tuple #[]) ∧ WordsIs w' b c D M ∧ Keep (fun k => k = b) w w'
set_option maxHeartbeats 4000000 in
theorem dturn_any (w : World) (b D : Nat) (c : Nat → Option Nat) (L M : List Ad) (h : WordsIs w b c D L) (d s : Nat) (hd : d < D) (hs : s < 4096)
    (hM : ∀ e t, e < D → t < 4096 → usedB M e t = (usedB L e t != (decide (e = d) && decide (t = s)))) :
    Calls Try.prog 38 #[.pointer (some ⟨b, d * 65, none⟩), .int .i64 (s : Int)] w (TurnPost w b c D M) := by
  obtain ⟨x, hc, -⟩ := h.word hd hs
  have HF := Lib.hid (h.flip hd hs hc hM)
  have hfz := h.free (d * 65 + s / 64)
  obtain ⟨q, hqd⟩ : ∃ q, s / 64 = q := ⟨_, rfl⟩
  obtain ⟨r, hrd⟩ : ∃ q, s % 64 = q := ⟨_, rfl⟩
  have hq64 : q < 64 := by omega
  have hr64 : r < 64 := by omega
  rw [hqd] at hc hfz HF
  rw [hrd] at HF
  have h1 := shl_one r hr64
  have h2 := bits_xor x (BitVec.twoPow 64 r)
  unfold wv at hc HF
  obtain ⟨xv, hxv⟩ : ∃ n : Int, (x.toNat : Int) = n := ⟨_, rfl⟩
  obtain ⟨sv, hsv⟩ : ∃ n : Int, ((BitVec.twoPow 64 r).toNat : Int) = n := ⟨_, rfl⟩
  obtain ⟨rv, hrv⟩ : ∃ n : Int, ((x ^^^ BitVec.twoPow 64 r).toNat : Int) = n := ⟨_, rfl⟩
  rw [hxv] at hc h2
  rw [hsv] at h1 h2
  rw [hrv] at h2 HF
  obtain ⟨o, ho⟩ : ∃ o, d * 65 = o := ⟨_, rfl⟩
  rw [ho] at hc hfz HF ⊢
  have hq : (s : Int) / 64 = (q : Int) := by omega
  have hm : (s : Int) % 64 = (r : Int) := by omega
  have hs0 : (0 : Int) ≤ (s : Int) := by omega
  have hqd2 : (s : Int).tdiv 64 = (q : Int) := by rw [Int.tdiv_eq_ediv_of_nonneg (by omega)]; omega
  have hmd2 : (s : Int).tmod 64 = (r : Int) := by rw [Int.tmod_eq_emod_of_nonneg (by omega)]; omega
  have hwq : IntKind.i64.wrap (q : Int) = (q : Int) := by rw [IntWalk.i64_in _ (by omega)]
  have hwr : IntKind.i64.wrap (r : Int) = (r : Int) := by rw [IntWalk.i64_in _ (by omega)]
  have hq0 : (0 : Int) ≤ (q : Int) := by omega
  have hq1 : (q : Int) < 64 := by omega
  have hr0 : (0 : Int) ≤ (r : Int) := by omega
  have hr1 : (r : Int) < 64 := by omega
  have hrt : (r : Int).toNat = r := by omega
  clear h hxv hsv hrv ho hqd hrd hM
  go_enter Try.func38, Try.ntmps38
  go_still_tail 14, (by kernel_rfl)
  go_wp2_with fail
  go_end0
  exact ⟨rfl, HF.out.1.keep (Keep.refl noBlk _).drew id, HF.out.2.drew⟩
end Go.Proofs.Ytfjklgbakhjjiaa
