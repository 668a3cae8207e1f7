/-
  Addresses: their cells, their order, as keys of maps.
  Conditions: none but that numbers are of their kind.
-/
import Derived.Test.YtfjklgbakhjjiaaGen
namespace Go.Proofs.Ytfjklgbakhjjiaa
open Go.RowKit Go.Maps Go.ChangeMaps
set_option maxRecDepth 100000
set_option linter.unusedVariables false

/-- An address: device and sector. (No pair: simp takes quantifiers over pairs apart.) -/
@[ext] structure Ad where
  dev : Int
  sec : Int
deriving DecidableEq
def In64 (n : Int) : Prop := -9223372036854775808 ≤ n ∧ n ≤ 9223372036854775807
def AdOk (a : Ad) : Prop := In64 a.1 ∧ In64 a.2
def adCs (a : Ad) : List Value := [.int .i64 a.1, .int .i64 a.2]
def adV (a : Ad) : Value := .agg (adCs a).toArray
theorem adCs_len (a : Ad) : (adCs a).length = 2 := rfl
theorem oneCell_ad (a : Ad) : ∀ u ∈ adCs a, u.oneCell' = true := by
  intro u hu
  simp only [adCs, List.mem_cons, List.not_mem_nil, or_false] at hu
  rcases hu with rfl | rfl <;> rfl
theorem adCs_inj {a b : Ad} (h : adCs a = adCs b) : a = b := by
  unfold adCs at h
  injection h with h1 h2
  injection h2 with h3 h4
  injection h1 with _ h5
  injection h3 with _ h6
  exact Ad.ext h5 h6
theorem sizeAd : (Try.prog.info? 50).map (·.size) = some 2 := by kernel_rfl
def zeroAd : Value := .agg #[.int .i64 0, .int .i64 0]
theorem zeroAddr (w : World) : (zeroValue 50).run Try.prog w = .ok zeroAd w := by kernel_rfl
theorem infoAd : (Try.prog.info? 50).map (fun i => (i.zero, i.size, i.bytes)) = some (some zeroAd, 2, 16) := by kernel_rfl

theorem keyLits_int64 (d : Nat) (n : Int) (h : In64 n) : Try.prog.keyLits (d + 1) 3 [.int .i64 n] = some [.int .i64 n] := by
  have hw : (Lit.int .i64 n).wf = true := Go.WalkArith.wf_i64 h
  simp [Program.keyLits, Try.underlying3, hw]
theorem adLaidOut : laidOutB Try.prog = true := by kernel_rfl
theorem adUnder : Try.prog.underlying 50 = some (.struct (Try.prog.fieldsOf 50)) := by kernel_rfl
theorem adFields : (Try.prog.fieldsOf 50).toList.map (fun f => (f.name, f.type, f.offset)) = [("Dev", 3, 0), ("At", 3, 1)] := by kernel_rfl
theorem adKeyed : Keyed Try.prog 50 := Keyed.of_law (deep_law_gate adLaidOut (of_decide_eq_true (by kernel_rfl)) (of_decide_eq_true (by kernel_rfl)) (by kernel_rfl) (by rw [adUnder]))
theorem adKey (a : Ad) (h : AdOk a) : ∃ x, keyOf Try.prog 50 (adV a) = some x := by
  have h1 : Try.prog.keyType 50 = true := by kernel_rfl
  have hc : Try.prog.cellsOf 50 = 2 := by kernel_rfl
  have hu : Try.prog.cellsOf 3 = 1 := by kernel_rfl
  have h2 : (adV a).formed Try.prog 50 = true := by
    simp [Value.formed, adV, hc, adCs]
  have h3 : ∃ ys, Try.prog.keyLits (Try.prog.types.size + 1) 50 (adV a).cells.toList = some ys := by
    obtain ⟨d, hd⟩ : ∃ d, Try.prog.types.size = d + 1 := ⟨Try.prog.types.size - 1, by have : 0 < Try.prog.types.size := of_decide_eq_true (by kernel_rfl); omega⟩
    rw [hd]
    have hl : (adV a).cells.toList = adCs a := by simp [adV, Value.cells]
    rw [hl]
    unfold Program.keyLits
    rw [adUnder]
    have hb : ((Try.prog.fieldsOf 50).all (·.name != "_")) = true := by kernel_rfl
    simp only [hc, adCs_len, hb, and_self, if_true]
    obtain ⟨f, g, hfs, hf1, hf2, hg1, hg2⟩ : ∃ f g, (Try.prog.fieldsOf 50).toList = [f, g] ∧ f.type = 3 ∧ f.offset = 0 ∧ g.type = 3 ∧ g.offset = 1 := ⟨_, _, rfl, rfl, rfl, rfl, rfl⟩
    rw [hfs]
    simp only [List.mapM_cons, List.mapM_nil, hf1, hf2, hg1, hg2, hu, adCs, List.drop_zero, List.take_succ_cons, List.take_zero, List.drop_succ_cons, keyLits_int64 d _ h.1, keyLits_int64 d _ h.2]
    exact ⟨_, rfl⟩
  obtain ⟨ys, hys⟩ := h3
  refine ⟨.string (keyBytes ys), ?_⟩
  unfold keyOf
  rw [adUnder]
  simp only [h1, h2, Bool.and_self, if_true]
  rw [hys]; rfl
theorem adEnc : KeyEnc Try.prog 50 AdOk adV where
  law := adKeyed
  key := adKey
  inj a c _ _ h := by
    unfold adV at h
    injection h with h1
    exact adCs_inj (congrArg Array.toList h1)

/-- Nothing, as a map's value. -/
inductive Nix where
  | nix
def unitV (_ : Nix) : Value := .agg #[]

/-- The order of addresses. -/
def adLt (a b : Ad) : Bool := decide (a.1 < b.1) || (decide (a.1 = b.1) && decide (a.2 < b.2))
theorem adLt_iff (a b : Ad) : adLt a b = true ↔ a.1 < b.1 ∨ (a.1 = b.1 ∧ a.2 < b.2) := by simp [adLt]
theorem adLt_false (a b : Ad) : adLt a b = false ↔ ¬ (a.1 < b.1 ∨ (a.1 = b.1 ∧ a.2 < b.2)) := by rw [← adLt_iff]; simp
/-- What comparing two numbers tells, and two addresses. -/
def cmpI (x y : Int) : Int := if x < y then -1 else if y < x then 1 else 0
def cmpAd (a b : Ad) : Int := if cmpI a.1 b.1 ≠ 0 then cmpI a.1 b.1 else cmpI a.2 b.2
theorem cmpAd_lt (a b : Ad) : decide (cmpAd a b < 0) = adLt a b := by
  rw [Bool.eq_iff_iff, adLt_iff, decide_eq_true_iff]
  unfold cmpAd cmpI
  split <;> split <;> (try split) <;> omega
end Go.Proofs.Ytfjklgbakhjjiaa

/-
  Slices of slices: what they read; as an operation of a region that draws its order.
  Conditions: the bounds are within the slice.
-/
namespace Go.Proofs.Ytfjklgbakhjjiaa
open Go.RowKit
set_option maxRecDepth 100000
set_option linter.unusedVariables false

theorem Rd.cut_to {w : World} {s n c k : Nat} {a : Option Addr} {xs : List Value} (h : Rd w s (.slice a n c) n xs) (hk : k ≤ n) : Rd w s (.slice a k c) k (xs.take (k * s)) := by
  obtain ⟨h0, a', c', hv, h1, h2, h3, h4⟩ := h
  cases hv
  have hks : k * s ≤ n * s := Nat.mul_le_mul_right s hk
  refine ⟨by rw [List.length_take, h0]; omega, a, c, rfl, by omega, h2, h3, fun hp => ?_⟩
  obtain ⟨g, o, rfl, hc⟩ := h4 (by rw [List.length_take] at hp; omega)
  refine ⟨g, o, rfl, fun i u hu => hc i u ?_⟩
  rw [List.getElem?_take] at hu
  split at hu
  · exact hu
  · cases hu
theorem Rd.cut_from {w : World} {s n c k : Nat} {a : Option Addr} {xs : List Value} (h : Rd w s (.slice a n c) n xs) (hk : k ≤ n) : Rd w s (sliced a k n c s) (n - k) (xs.drop (k * s)) := by
  obtain ⟨h0, a', c', hv, h1, h2, h3, h4⟩ := h
  cases hv
  unfold sliced
  refine ⟨by rw [List.length_drop, h0, Nat.sub_mul], _, c - k, rfl, by omega, by omega, ?_, fun hp => ?_⟩
  · intro e
    split at e
    · omega
    · rcases a with _ | a
      · have := h3 rfl; omega
      · cases e
  · rw [List.length_drop, h0] at hp
    have hkn : k < n := by
      rcases Nat.lt_or_ge k n with h | h
      · exact h
      · have : n = k := by omega
        subst this; omega
    obtain ⟨g, o, rfl, hc⟩ := h4 (by rw [h0]; omega)
    rw [if_neg (by omega)]
    refine ⟨g, o + k * s, by simp [add_lit], fun i u hu => ?_⟩
    rw [List.getElem?_drop] at hu
    have := hc _ _ hu
    rwa [← Nat.add_assoc] at this
theorem sliced_form {w : World} {s n c k : Nat} {a : Option Addr} {xs : List Value} (h : Rd w s (sliced a k n c s) (n - k) xs) : ∃ a', sliced a k n c s = .slice a' (n - k) (c - k) := ⟨_, rfl⟩
theorem run_cut_to {P : Program} {t e : TypeId} (ht : P.underlying t = some (.slice e)) (a : Option Addr) (n c k : Nat) (hk : k ≤ c) {s : Nat} (hs : ∀ w, (sizeOf e).run P w = .ok s w) (w : World) :
    (Instr.sliceAt t (.slice a n c) none (some (.int .i64 k)) none).run P w = .ok (.slice a k c) w := by
  have he : P.elem t = e := by simp [Program.elem, ht]
  have ht' : P.underlying t = some (.slice (P.elem t)) := by rw [he]; exact ht
  have : (k : Int) ≤ (c : Int) := by omega
  rw [run_sliceAt_slice w t _ _ _ _ ht', run_slice_h w t a n c ht' .i64 (k : Int) (by omega) this, he, hs]
  simp only [Result.andThen, sliced, Int.toNat_natCast, Nat.zero_mul, Nat.sub_zero]
  congr 2
  split
  · rfl
  · rcases a with _ | a <;> simp [Addr.add]
theorem run_cut_from {P : Program} {t e : TypeId} (ht : P.underlying t = some (.slice e)) (a : Option Addr) (n c k : Nat) (hk : k ≤ n) {s : Nat} (hs : ∀ w, (sizeOf e).run P w = .ok s w) (w : World) :
    (Instr.sliceAt t (.slice a n c) (some (.int .i64 k)) none none).run P w = .ok (sliced a k n c s) w := by
  have he : P.elem t = e := by simp [Program.elem, ht]
  have ht' : P.underlying t = some (.slice (P.elem t)) := by rw [he]; exact ht
  have : (k : Int) ≤ (n : Int) := by omega
  rw [run_sliceAt_slice w t _ _ _ _ ht', run_slice_l w t a n c ht' .i64 (k : Int) (by omega) this, he, hs]
  simp only [Result.andThen, Int.toNat_natCast]
theorem yieldsIf_slice {P : Program} {ops : Array Oper} {S : World → Prop} {op : Oper} {a : Act} {v : Value} (hw : Region.wanted op (yielded ops a.tmps) = true) (t : TypeId) (x : Operand) (lo hi mx : Option Operand) (ho : op.op = .slice t x lo hi mx)
    (xv : Value) (lov hiv mxv : Option Value) (hx : a.eval x = xv) (h1 : lo.map a.eval = lov) (h2 : hi.map a.eval = hiv) (h3 : mx.map a.eval = mxv) (h : ∀ w, (Instr.sliceAt t xv lov hiv mxv).run P w = .ok v w) : YieldsIf P ops S op v a :=
  .inl ⟨hw, fun w _ => by
    unfold execOp
    simp only [ho, hx, h1, h2, h3, Sem.run_bind, h w, Result.andThen_ok, Sem.run_pure]⟩
end Go.Proofs.Ytfjklgbakhjjiaa
