/-
  A ledger's devices in memory: a word's bits, the channel of free places; has and turn.
  Conditions: none but those told.
-/
import Derived.Test.YtfjklgbakhjjiaaLedgerL
import Derived.Test.YtfjklgbakhjjiaaGen
import Derived.StillTailTactics
namespace Go.Proofs.Ytfjklgbakhjjiaa
open Go.RowKit Go.Maps Go.ChangeMaps
set_option maxRecDepth 100000
set_option linter.unusedVariables false

/-- A word as a cell. -/
def wv (x : BitVec 64) : Value := .int .u64 (x.toNat : Int)
theorem ofInt_toNat (x : BitVec 64) : BitVec.ofInt 64 (x.toNat : Int) = x := by simp
theorem wrap_u64 (n : Nat) (h : n < 18446744073709551616) : IntKind.u64.wrap (n : Int) = (n : Int) := by
  show ((n : Int) % 18446744073709551616) = n
  omega
theorem u64_lt (x : BitVec 64) : x.toNat < 18446744073709551616 := x.isLt
theorem bits_or (x y : BitVec 64) : bits .or .u64 (x.toNat : Int) (y.toNat : Int) = ((x ||| y).toNat : Int) := by
  show IntKind.u64.wrap ((BitVec.ofInt 64 (x.toNat : Int) ||| BitVec.ofInt 64 (y.toNat : Int)).toNat : Int) = _
  rw [ofInt_toNat, ofInt_toNat, wrap_u64 _ (u64_lt _)]
theorem bits_and (x y : BitVec 64) : bits .and .u64 (x.toNat : Int) (y.toNat : Int) = ((x &&& y).toNat : Int) := by
  show IntKind.u64.wrap ((BitVec.ofInt 64 (x.toNat : Int) &&& BitVec.ofInt 64 (y.toNat : Int)).toNat : Int) = _
  rw [ofInt_toNat, ofInt_toNat, wrap_u64 _ (u64_lt _)]
theorem bits_andNot (x y : BitVec 64) : bits .andNot .u64 (x.toNat : Int) (y.toNat : Int) = ((x &&& ~~~y).toNat : Int) := by
  show IntKind.u64.wrap ((BitVec.ofInt 64 (x.toNat : Int) &&& ~~~BitVec.ofInt 64 (y.toNat : Int)).toNat : Int) = _
  rw [ofInt_toNat, ofInt_toNat, wrap_u64 _ (u64_lt _)]
theorem shl_one (i : Nat) (h : i < 64) : IntKind.u64.wrap ((2 : Int) ^ i) = ((BitVec.twoPow 64 i).toNat : Int) := by
  rw [BitVec.toNat_twoPow, Nat.mod_eq_of_lt (Nat.pow_lt_pow_right (by decide) h)]
  have : ((2 : Int) ^ i) = ((2 ^ i : Nat) : Int) := by simp
  rw [this, wrap_u64 _ (Nat.pow_lt_pow_right (by decide) h)]
theorem shr_any (x : BitVec 64) (i : Nat) : (x.toNat : Int) / 2 ^ i = ((x >>> i).toNat : Int) := by
  rw [BitVec.toNat_ushiftRight, Nat.shiftRight_eq_div_pow]
  simp
theorem set_bit (x : BitVec 64) (i j : Nat) (hi : i < 64) : (x ||| BitVec.twoPow 64 i).getLsbD j = (x.getLsbD j || decide (i = j)) := by
  rw [BitVec.getLsbD_or, BitVec.getLsbD_twoPow]
  simp [hi]
theorem has_bit (x : BitVec 64) (i : Nat) : decide (((x >>> i &&& 1#64).toNat : Int) = 1) = x.getLsbD i := by
  have h : x >>> i &&& 1#64 = if x.getLsbD i then 1#64 else 0#64 := by
    apply BitVec.eq_of_getLsbD_eq
    intro j hj
    rw [BitVec.getLsbD_and, BitVec.getLsbD_ushiftRight]
    by_cases h0 : j = 0
    · subst h0
      cases x.getLsbD i <;> simp
    · have : (1#64).getLsbD j = false := by simp [BitVec.getLsbD_one, h0]
      rw [this]
      cases x.getLsbD i <;> simp [BitVec.getLsbD_one, h0]
  rw [h]
  cases x.getLsbD i <;> rfl
theorem bits_xor (x y : BitVec 64) : bits .xor .u64 (x.toNat : Int) (y.toNat : Int) = ((x ^^^ y).toNat : Int) := by
  show IntKind.u64.wrap ((BitVec.ofInt 64 (x.toNat : Int) ^^^ BitVec.ofInt 64 (y.toNat : Int)).toNat : Int) = _
  rw [ofInt_toNat, ofInt_toNat, wrap_u64 _ (u64_lt _)]
theorem flip_bit (x : BitVec 64) (i j : Nat) (hi : i < 64) : (x ^^^ BitVec.twoPow 64 i).getLsbD j = (x.getLsbD j != decide (i = j)) := by
  rw [BitVec.getLsbD_xor, BitVec.getLsbD_twoPow]
  simp [hi]
/-- The words of a ledger's devices, and where their channels are, in block b: L is what is used. -/
structure WordsIs (w : World) (b : Nat) (c : Nat → Option Nat) (D : Nat) (L : List Ad) : Prop where
  row : ∃ cs : Array Value, w.heap[b]? = some (.cells cs 76 (0, 0)) ∧ cs.size = D * 65 ∧
    (∀ d, d < D → ∀ k, k < 64 → ∃ x : BitVec 64, cs[d * 65 + k]? = some (wv x) ∧ ∀ j, j < 64 → x.getLsbD j = usedB L d (64 * k + j)) ∧
    ∀ d, d < D → cs[d * 65 + 64]? = some (.chan (c d))
theorem WordsIs.keep {S : Nat → Prop} {w w' : World} {b D : Nat} {c : Nat → Option Nat} {L : List Ad} (h : WordsIs w b c D L) (k : Keep S w w') (hS : ¬ S b) : WordsIs w' b c D L := by
  obtain ⟨cs, h1, h2⟩ := h.row
  exact ⟨cs, k.blk h1 hS, h2⟩
theorem WordsIs.congr {w : World} {b D : Nat} {c : Nat → Option Nat} {L M : List Ad} (h : WordsIs w b c D L) (he : ∀ x, x ∈ L ↔ x ∈ M) : WordsIs w b c D M := by
  obtain ⟨cs, h1, h2, h3, h4⟩ := h.row
  refine ⟨cs, h1, h2, fun d hd k hk => ?_, h4⟩
  obtain ⟨x, h5, h6⟩ := h3 d hd k hk
  exact ⟨x, h5, fun j hj => by rw [h6 j hj, usedB_congr he]⟩
theorem WordsIs.lt {w : World} {b D : Nat} {c : Nat → Option Nat} {L : List Ad} (h : WordsIs w b c D L) : b < w.heap.size := by
  obtain ⟨cs, h1, -⟩ := h.row
  exact (Array.getElem?_eq_some_iff.1 h1).1
theorem WordsIs.word {w : World} {b D : Nat} {c : Nat → Option Nat} {L : List Ad} (h : WordsIs w b c D L) {d s : Nat} (hd : d < D) (hs : s < 4096) : ∃ x : BitVec 64, w.cell? ⟨b, d * 65 + s / 64, none⟩ = some (wv x) ∧ x.getLsbD (s % 64) = usedB L d s := by
  obtain ⟨cs, h1, h2, h3, h4⟩ := h.row
  obtain ⟨x, h5, h6⟩ := h3 d hd (s / 64) (by omega)
  refine ⟨x, blk_cell h1 h5, ?_⟩
  rw [h6 _ (Nat.mod_lt _ (by decide)), Nat.div_add_mod]
theorem WordsIs.chan {w : World} {b D : Nat} {c : Nat → Option Nat} {L : List Ad} (h : WordsIs w b c D L) {d : Nat} (hd : d < D) : w.cell? ⟨b, d * 65 + 64, none⟩ = some (.chan (c d)) := by
  obtain ⟨cs, h1, h2, h3, h4⟩ := h.row
  exact blk_cell h1 (h4 d hd)
theorem WordsIs.free {w : World} {b D : Nat} {c : Nat → Option Nat} {L : List Ad} (h : WordsIs w b c D L) (i : Nat) : w.frozen? ⟨b, i, none⟩ = false := by
  obtain ⟨cs, h1, -⟩ := h.row
  exact blk_free h1 i
theorem at65 {d e k l : Nat} (hk : k < 65) (hl : l < 65) (h : d * 65 + k = e * 65 + l) : d = e ∧ k = l := by omega
/-- One bit turned about. -/
theorem WordsIs.flip {w : World} {b D : Nat} {c : Nat → Option Nat} {L M : List Ad} (h : WordsIs w b c D L) {d s : Nat} (hd : d < D) (hs : s < 4096) {x : BitVec 64} (hx : w.cell? ⟨b, d * 65 + s / 64, none⟩ = some (wv x))
    (hM : ∀ e t, e < D → t < 4096 → usedB M e t = (usedB L e t != (decide (e = d) && decide (t = s)))) :
    WordsIs (w.setCell ⟨b, d * 65 + s / 64, none⟩ (wv (x ^^^ BitVec.twoPow 64 (s % 64)))) b c D M ∧ Keep (fun k => k = b) w (w.setCell ⟨b, d * 65 + s / 64, none⟩ (wv (x ^^^ BitVec.twoPow 64 (s % 64)))) := by
  obtain ⟨cs, h1, h2, h3, h4⟩ := h.row
  have hb := set_blk h1 (d * 65 + s / 64) (wv (x ^^^ BitVec.twoPow 64 (s % 64)))
  have hsz : d * 65 + s / 64 < cs.size := by rw [h2]; have : d * 65 + 65 ≤ D * 65 := by omega
                                             omega
  have hxc : cs[d * 65 + s / 64]? = some (wv x) := by
    obtain ⟨y, h5, -⟩ := h3 d hd (s / 64) (by omega)
    have := blk_cell h1 h5
    rw [hx] at this
    rw [h5, ← this]
  refine ⟨⟨_, hb, by rw [Array.size_setIfInBounds]; exact h2, fun e he k hk => ?_, fun e he => ?_⟩, (Keep.refl (fun k => k = b) w).setCell (p := ⟨b, _, none⟩) (fun _ => rfl) _⟩
  · obtain ⟨y, h5, h6⟩ := h3 e he k hk
    by_cases hek : d * 65 + s / 64 = e * 65 + k
    · obtain ⟨rfl, rfl⟩ := at65 (by omega) (by omega) hek
      refine ⟨_, by rw [Array.getElem?_setIfInBounds_self_of_lt hsz], fun j hj => ?_⟩
      rw [hxc] at h5
      have hxy : x = y := by
        have e1 : wv x = wv y := Option.some.inj h5
        unfold wv at e1
        injection e1 with _ e2
        exact BitVec.eq_of_toNat_eq (by omega)
      subst hxy
      rw [flip_bit _ _ _ (Nat.mod_lt _ (by decide)), h6 j hj, hM _ _ hd (by omega), decide_eq_true rfl, Bool.true_and]
      congr 1
      rw [decide_eq_decide]
      omega
    · refine ⟨y, by rw [Array.getElem?_setIfInBounds_ne hek]; exact h5, fun j hj => ?_⟩
      rw [h6 j hj, hM _ _ he (by omega)]
      have : (decide (e = d) && decide (64 * k + j = s)) = false := by
        rw [Bool.and_eq_false_iff, decide_eq_false_iff_not, decide_eq_false_iff_not]
        by_cases e1 : e = d
        · subst e1
          refine .inr fun e2 => hek ?_
          omega
        · exact .inl e1
      rw [this]
      simp
  · rw [Array.getElem?_setIfInBounds_ne (by omega)]
    exact h4 e he
/-- A channel laid down. -/
theorem WordsIs.lay {w : World} {b D : Nat} {c : Nat → Option Nat} {L : List Ad} (h : WordsIs w b c D L) {d : Nat} (hd : d < D) (v : Option Nat) :
    WordsIs (w.setCell ⟨b, d * 65 + 64, none⟩ (.chan v)) b (fun e => if e = d then v else c e) D L ∧ Keep (fun k => k = b) w (w.setCell ⟨b, d * 65 + 64, none⟩ (.chan v)) := by
  obtain ⟨cs, h1, h2, h3, h4⟩ := h.row
  have hb := set_blk h1 (d * 65 + 64) (.chan v)
  have hsz : d * 65 + 64 < cs.size := by rw [h2]; have : d * 65 + 65 ≤ D * 65 := by omega
                                         omega
  refine ⟨⟨_, hb, by rw [Array.size_setIfInBounds]; exact h2, fun e he k hk => ?_, fun e he => ?_⟩, (Keep.refl (fun k => k = b) w).setCell (p := ⟨b, _, none⟩) (fun _ => rfl) _⟩
  · obtain ⟨y, h5, h6⟩ := h3 e he k hk
    exact ⟨y, by rw [Array.getElem?_setIfInBounds_ne (by omega)]; exact h5, h6⟩
  · by_cases e1 : e = d
    · subst e1
      rw [Array.getElem?_setIfInBounds_self_of_lt hsz, if_pos rfl]
    · rw [Array.getElem?_setIfInBounds_ne (by omega), if_neg e1]
      exact h4 e he

set_option maxHeartbeats 4000000 in
theorem dhas_any (w : World) (b D : Nat) (c : Nat → Option Nat) (L : List Ad) (h : WordsIs w b c D L) (d s : Nat) (hd : d < D) (hs : s < 4096) :
    Calls Try.prog 37 #[.pointer (some ⟨b, d * 65, none⟩), .int .i64 (s : Int)] w fun e w' => e = .returned (.bool (usedB L d s)) ∧ w = w' := by
  obtain ⟨x, hc, hx⟩ := h.word hd hs
  obtain ⟨q, hqd⟩ : ∃ q, s / 64 = q := ⟨_, rfl⟩
  obtain ⟨r, hrd⟩ : ∃ q, s % 64 = q := ⟨_, rfl⟩
  have hq64 : q < 64 := by omega
  have hr64 : r < 64 := by omega
  rw [hqd] at hc
  rw [hrd] at hx
  have h1 := shr_any x r
  have h2 := bits_and (x >>> r) 1#64
  have h3 := has_bit x r
  rw [hx] at h3
  obtain ⟨xv, hxv⟩ : ∃ n : Int, (x.toNat : Int) = n := ⟨_, rfl⟩
  obtain ⟨sv, hsv⟩ : ∃ n : Int, ((x >>> r).toNat : Int) = n := ⟨_, rfl⟩
  obtain ⟨rv, hrv⟩ : ∃ n : Int, ((x >>> r &&& 1#64).toNat : Int) = n := ⟨_, rfl⟩
  obtain ⟨bb, hbb⟩ : ∃ b, usedB L d s = b := ⟨_, rfl⟩
  have e1 : (((1#64 : BitVec 64).toNat : Nat) : Int) = 1 := rfl
  unfold wv at hc
  rw [e1] at h2
  rw [hxv] at hc h1
  rw [hsv] at h1 h2
  rw [hrv] at h2 h3
  rw [hbb] at h3 ⊢
  have h3' : (rv == 1) = bb := h3
  obtain ⟨o, ho⟩ : ∃ o, d * 65 = o := ⟨_, rfl⟩
  rw [ho] at hc ⊢
  have hq : (s : Int) / 64 = (q : Int) := by omega
  have hm : (s : Int) % 64 = (r : Int) := by omega
  have hs0 : (0 : Int) ≤ (s : Int) := by omega
  have hqd2 : (s : Int).tdiv 64 = (q : Int) := by rw [Int.tdiv_eq_ediv_of_nonneg (by omega)]; omega
  have hmd2 : (s : Int).tmod 64 = (r : Int) := by rw [Int.tmod_eq_emod_of_nonneg (by omega)]; omega
  have hwq : IntKind.i64.wrap (q : Int) = (q : Int) := by rw [IntWalk.i64_in _ (by omega)]
  have hwr : IntKind.i64.wrap (r : Int) = (r : Int) := by rw [IntWalk.i64_in _ (by omega)]
  have hq0 : (0 : Int) ≤ (q : Int) := by omega
  have hq1 : (q : Int) < 64 := by omega
  have hr0 : (0 : Int) ≤ (r : Int) := by omega
  have hr1 : (r : Int) < 64 := by omega
  clear h hx hxv hsv hrv hbb e1 ho hqd hrd
  go_enter Try.func37, Try.ntmps37
  go_wp2_with fail
  go_ret
  exact ⟨rfl, rfl⟩
end Go.Proofs.Ytfjklgbakhjjiaa
