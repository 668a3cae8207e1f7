/-
  Sets of addresses: of a list, told rising; addr.Sort.
  Conditions: at most 65,536 addresses.
-/
import Derived.Test.YtfjklgbakhjjiaaSortAddr
namespace Go.Proofs.Ytfjklgbakhjjiaa
open Go.RowKit Go.Maps Go.ChangeMaps
set_option maxRecDepth 100000
set_option linter.unusedVariables false

def AdsOk (l : List Ad) : Prop := ∀ x ∈ l, AdOk x
theorem adCells_len (l : List Ad) : (adCells l).length = l.length * 2 := flat_len adCs_len l
theorem adCells_at {l : List Ad} {k : Nat} {x : Ad} (h : l[k]? = some x) {j : Nat} (hj : j < 2) : (adCells l)[k * 2 + j]? = (adCs x)[j]? := by
  unfold adCells
  rw [flat_get adCs_len (by decide), show (k * 2 + j) / 2 = k by omega, show (k * 2 + j) % 2 = j by omega, h, Option.bind_some]
theorem rd_ad {w : World} {v : Value} {l : List Ad} (h : Rd w 2 v l.length (adCells l)) {k : Nat} {x : Ad} (hk : l[k]? = some x) :
    ∃ g o cap, v = .slice (some ⟨g, o, none⟩) l.length cap ∧ w.rangeAt g (o + k * 2) (adCs x) := by
  obtain ⟨h0, a, cap, rfl, h1, h2, h3, h4⟩ := h
  have hlt := (List.getElem?_eq_some_iff.1 hk).1
  obtain ⟨g, o, rfl, hc⟩ := h4 (by rw [adCells_len]; omega)
  refine ⟨g, o, cap, rfl, fun j u hj => ?_⟩
  have hj2 : j < 2 := (List.getElem?_eq_some_iff.1 hj).1
  have := hc (k * 2 + j) u (by rw [adCells_at hk hj2]; exact hj)
  rwa [← Nat.add_assoc] at this
theorem adCells_append (a b : List Ad) : adCells (a ++ b) = adCells a ++ adCells b := by simp [adCells]
theorem adCells_one (x : Ad) : adCells [x] = adCs x := by simp [adCells]
theorem oneCell_ads (l : List Ad) : ∀ u ∈ adCells l, u.oneCell' = true := by
  intro u hu
  obtain ⟨x, _, hx⟩ := List.mem_flatMap.1 hu
  exact oneCell_ad x u hx

/-- The set that a list makes, in the order in which it comes about. -/
def setOf (l : List Ad) : List (Ad × Nix) := l.foldl (fun s a => upsert s a .nix) []
theorem setOf_snoc (l : List Ad) (x : Ad) : setOf (l ++ [x]) = upsert (setOf l) x .nix := by simp [setOf]
theorem upsert_len (s : List (Ad × Nix)) (a : Ad) : (upsert s a .nix).length ≤ s.length + 1 := by
  unfold upsert
  split <;> simp
theorem setOf_len (l : List Ad) : (setOf l).length ≤ l.length := by
  suffices h : ∀ (l : List Ad) (s : List (Ad × Nix)), (l.foldl (fun s a => upsert s a .nix) s).length ≤ s.length + l.length by simpa [setOf] using h l []
  intro l
  induction l with
  | nil => intro s; simp
  | cons x l ih => intro s; have h1 := ih (upsert s x .nix); have h2 := upsert_len s x; simp only [List.foldl_cons, List.length_cons]; omega
theorem rd_far {w : World} {v : Value} {n : Nat} {l : List Ad} (h : Rd w 2 v n (adCells l)) (hn : n = l.length) {b : Nat} (hb : w.heap.size ≤ b) : ¬ (0 < n ∧ v.ownBlock = some b) := fun ⟨h0, e⟩ => by
  have := h.lt (by rw [adCells_len]; omega)
  obtain ⟨b', hb', hlt⟩ := this
  rw [e] at hb'; cases hb'; omega

def OfPost (w : World) (l : List Ad) (e : Ending) (w' : World) : Prop := ∃ b, e = .returned (.map (some b)) ∧ MapIs AdOk adV unitV w' b (setOf l) ∧ w.heap.size ≤ b ∧ Keep noBlk w w'

set_option maxHeartbeats 2000000 in
theorem of_any (w : World) (v : Value) (l : List Ad) (ho : AdsOk l) (hr : Rd w 2 v l.length (adCells l)) : Calls Try.prog 55 #[v] w (OfPost w l) := by
  have hmm := @run_makeMap Try.prog
  obtain ⟨av, cv, rfl, hlc, hlm⟩ := hr.form
  have hlen : l.length ≤ maxLen := by omega
  unfold maxLen at hlen
  clear hlc hlm
  obtain ⟨n, hn⟩ : ∃ n, l.length = n := ⟨_, rfl⟩
  have HR := Lib.hid hr; have HN := Lib.hid hn
  clear hr
  rw [hn] at HR hlen ⊢
  clear hn
  go_enter Try.func55, Try.ntmps55
  go_wp2_with fail
  obtain ⟨w2, hw2⟩ : ∃ w2, w.alloc (.map #[] 0) = w2 := ⟨_, rfl⟩
  have hk2 : Keep noBlk w w2 := by rw [← hw2]; exact (Keep.refl _ _).alloc _
  have hs2 : w2.heap.size = w.heap.size + 1 := by rw [← hw2, World.size_alloc]
  have hm2 : MapIs AdOk adV unitV w2 w.heap.size (setOf []) := by rw [← hw2]; exact MapIs.made _
  rw [hw2]
  have HK2 := Lib.hid hk2; have HM2 := Lib.hid hm2
  clear hw2 hk2 hm2 hmm
  go_loopw [9] (fun i wr => ∃ k : Nat, k ≤ n ∧ i = .int .i64 k ∧ Hid (MapIs AdOk adV unitV wr w.heap.size (setOf (l.take k))) ∧ Hid (Keep (fun j => j = w.heap.size) w2 wr)) (fun i _ => n - (intOf i).toNat)
  case atStart => exact ⟨0, Nat.zero_le _, rfl, HM2, Lib.hid (Keep.refl _ _)⟩
  case round =>
    obtain ⟨k, hk, rfl, HM, HK⟩ := hrel
    by_cases hlt : k < n
    · obtain ⟨x, hx⟩ : ∃ x, l[k]? = some x := ⟨l[k]'(by rw [HN.out]; exact hlt), List.getElem?_eq_getElem _⟩
      have hxo : AdOk x := ho x (List.mem_of_getElem? hx)
      have hkw : Keep (fun j => j = w.heap.size) w wr := HK2.out.trans' HK.out (fun _ _ h => h.elim) (fun _ _ h => h)
      have hrw := HR.out.keep hkw (fun b hb e => rd_far HR.out HN.out.symm (Nat.le_of_eq e.symm) ⟨by omega, hb⟩)
      rw [← HN.out] at hrw
      obtain ⟨g, o, cap, hv, hcells⟩ := rd_ad hrw hx
      have hvv : av = some ⟨g, o, none⟩ := by cases hv; rfl
      subst hvv
      have HC := Lib.hid hcells; have HXO := Lib.hid hxo
      have HTK : Hid (setOf (l.take (k + 1)) = upsert (setOf (l.take k)) x .nix) := Lib.hid (by rw [List.take_add_one, hx, ← setOf_snoc]; rfl)
      have hxv : adV x = .agg (adCs x).toArray := rfl
      obtain ⟨xc, hxc⟩ : ∃ xc, adCs x = xc := ⟨_, rfl⟩
      have HXC := Lib.hid hxc
      have HSX : Hid ((Try.prog.info? 50).map (·.size) = some xc.length) := Lib.hid (by rw [← hxc]; exact sizeAd)
      have HXL : Hid (xc.length = 2) := Lib.hid (by rw [← hxc]; rfl)
      have HXE : Hid (∀ u ∈ xc, u.oneCell' = true) := Lib.hid (by rw [← hxc]; exact oneCell_ad x)
      have HXV : Hid (adV x = .agg xc.toArray) := Lib.hid (by rw [← hxc]; rfl)
      rw [hxc] at HC
      have hwr := HK.out.size
      clear hx hxo hkw hrw hv hcells hxv hxc
      go_wp2_with (first
        | ((with_reducible show wpList _ _ _ (⟨some 12, .load 50 (.tmp 11), _, _, _, _⟩ :: _) _ _); refine wpList_load_mid rfl 50 (.tmp 11) rfl g (o + k * 2) rfl xc _ HC.out adUnder rfl HSX.out ?_)
        | ((with_reducible show wpList _ _ _ (⟨some 5, .alloc 50, _, _, _, _⟩ :: _) _ _); refine wpList_alloc_at rfl 50 rfl zeroAd zeroAddr #[.int .i64 0, .int .i64 0] rfl ?_)
        | ((with_reducible show wpList _ _ _ (⟨none, .store 50 (.tmp 5) (.tmp 12), _, _, _, _⟩ :: _) _ _); refine wpList_store_agg rfl 50 (.tmp 5) (.tmp 12) rfl wr.heap.size 0 xc rfl rfl #[.int .i64 0, .int .i64 0] 50 (heap_alloc_new _ _) (by rw [HXL.out]; exact Nat.le_refl _) HSX.out HXE.out ?_
           intro w3 hb3 hk3
           rw [spl_whole _ _ (by rw [HXL.out]; rfl)] at hb3
           have hkr : Keep noBlk wr w3 := ((Keep.refl noBlk wr).alloc _).trans' hk3 (fun _ _ h => h) (fun i hi e => by omega)
           have HB3 := Lib.hid hb3; have HKR := Lib.hid hkr
           have HM3 := Lib.hid (HM.out.keep hkr id)
           clear hb3 hk3 hkr)
        | ((with_reducible show wpList _ _ _ (⟨some 14, .load 50 (.tmp 5), _, _, _, _⟩ :: _) _ _); refine wpList_load_mid rfl 50 (.tmp 5) rfl wr.heap.size 0 rfl xc _ (rangeAt_whole HB3.out) adUnder rfl HSX.out ?_)
        | ((with_reducible show wpList _ _ _ (⟨none, .mapUpdate 91 (.tmp 13) (.tmp 14) (.tmp 15), _, _, _, _⟩ :: _) _ _); refine wpList_mapUpdate_is rfl rfl (.tmp 13) (.tmp 14) (.tmp 15) 91 rfl adEnc Try.underlying91 x HXO.out Nix.nix rfl HXV.out.symm rfl HM3.out ?_
           intro w4 hm4 hk4
           have HM4 := Lib.hid hm4; have HK4 := Lib.hid hk4
           clear hm4 hk4))
      have HME := Lib.hid (show MapIs AdOk adV unitV w4 w.heap.size (setOf (l.take (k + 1))) by rw [HTK.out]; exact HM4.out)
      have HKE := Lib.hid ((HK.out.trans' HKR.out (fun _ _ h => h) (fun _ _ h => h.elim)).trans' HK4.out (U := fun j => j = w.heap.size) (fun _ _ h => h) (fun _ _ h => h))
      clear HM4 HK4 HM3 HKR HK HM HB3 HC
      go_roundw
      case rel => exact ⟨k + 1, by omega, by go_num, HME, HKE⟩
      case measure => simp [intOf]; omega
    · obtain rfl : k = n := by omega
      have HMN : Hid (MapIs AdOk adV unitV wr w.heap.size (setOf l)) := Lib.hid (by have := HM.out; rwa [List.take_of_length_le (by rw [HN.out]; exact Nat.le_refl _)] at this)
      go_wp2_with fail
      go_ret
      exact ⟨_, rfl, HMN.out, Nat.le_refl _, HK2.out.trans' HK.out (fun _ _ h => h) (fun i hi e => by omega)⟩

/-- What a set tells, rising. -/
def keysA (s : List (Ad × Nix)) : List Ad := s.map (·.1)
def ListPost (w : World) (l : List Ad) (e : Ending) (w' : World) : Prop := ∃ v, e = .returned v ∧ w'.ownsRow w.heap.size 50 2 v l.length (adCells l) ∧ Keep noBlk w w'
theorem sortA_len (l : List Ad) : (sortA l).length = l.length := List.length_mergeSort _
set_option maxHeartbeats 800000 in
theorem list_any (w : World) (b : Nat) (s : List (Ad × Nix)) (h : MapIs AdOk adV unitV w b s) (hl : s.length ≤ 65536) : Calls Try.prog 56 #[.map (some b)] w (ListPost w (sortA (keysA s))) := by
  obtain ⟨w1, hw1⟩ : ∃ w1, w.alloc (.cells #[.map (some b)] 91) = w1 := ⟨_, rfl⟩
  have hk1 : Keep noBlk w w1 := by rw [← hw1]; exact (Keep.refl _ _).alloc _
  have hb1 : w1.heap[w.heap.size]? = some (.cells #[.map (some b)] 91 (0, 0)) := by rw [← hw1]; exact heap_alloc_new _ _
  have C := Lib.hid (sortedAd w1 s w.heap.size b hb1 (h.keep hk1 id) hl)
  have HK1 := Lib.hid hk1; have HW1 := Lib.hid hw1
  have hs1 := hk1.size
  have K := Lib.hid (keysAd_call (some b) w)
  clear h hk1 hb1 hw1
  go_enter Try.func56, Try.ntmps56
  go_wp2_with fail
  refine K.out.mono ?_
  rintro e w2 ⟨rfl, rfl⟩
  rw [HW1.out]
  go_wp2_with fail
  refine C.out.mono ?_
  rintro e w3 ⟨v, rfl, ho, hk⟩
  rw [List.length_map] at ho
  obtain ⟨a, c, rfl, -, -⟩ := (Rd.of_owns ho).form
  have HO := Lib.hid ho; have HK := Lib.hid (HK1.out.trans hk)
  clear ho hk
  go_wp2_with fail
  go_ret
  refine ⟨_, rfl, ?_, HK.out⟩
  rw [sortA_len, show (keysA s).length = s.length from List.length_map _]
  exact ownsRow_mono HO.out hs1

theorem sort_any (w : World) (v : Value) (l : List Ad) (ho : AdsOk l) (hr : Rd w 2 v l.length (adCells l)) (hl : l.length ≤ 65536) : Calls Try.prog 29 #[v] w (ListPost w (sortA (keysA (setOf l)))) := by
  have O := Lib.hid (of_any w v l ho hr)
  obtain ⟨av, cv, rfl, -, hlen⟩ := hr.form
  have hsl : (setOf l).length ≤ 65536 := Nat.le_trans (setOf_len l) hl
  obtain ⟨n, hn⟩ : ∃ n, l.length = n := ⟨_, rfl⟩
  rw [hn] at O ⊢
  clear hr hlen hn hl
  go_enter Try.func29, Try.ntmps29
  go_wp2_with fail
  refine O.out.mono ?_
  rintro e w1 ⟨b, rfl, hm, hb, hk⟩
  have L := Lib.hid (list_any w1 b _ hm hsl)
  have HK := Lib.hid hk
  have hs := hk.size
  clear hm hk
  go_wp2_with fail
  refine L.out.mono ?_
  rintro e w2 ⟨v2, rfl, ho2, hk2⟩
  obtain ⟨a, c, rfl, -, -⟩ := (Rd.of_owns ho2).form
  have HO := Lib.hid ho2; have HK2 := Lib.hid (HK.out.trans hk2)
  clear ho2 hk2
  go_wp2_with fail
  go_ret
  exact ⟨_, rfl, ownsRow_mono HO.out hs, HK2.out⟩
end Go.Proofs.Ytfjklgbakhjjiaa
