/-
  slices.SortFunc and slices.SortedFunc at addresses: rising, each once.
  Conditions: at most 65,536 addresses.
-/
import Derived.Test.YtfjklgbakhjjiaaSeqAddr
import Derived.Test.YtfjklgbakhjjiaaCmpAddr
import Derived.Test.YtfjklgbakhjjiaaSortK
import Derived.Test.YtfjklgbakhjjiaaLaySort
namespace Go.Proofs.Ytfjklgbakhjjiaa
open Go.RowKit Go.Sort Go.Maps
set_option maxRecDepth 100000
set_option linter.unusedVariables false

instance : Inhabited Adr := ⟨⟨⟨0, 0⟩, by unfold AdOk In64; exact ⟨⟨by decide, by decide⟩, by decide, by decide⟩⟩⟩
def encAd (x : Adr) : List Value := adCs x.1
theorem encAd_len (x : Adr) : (encAd x).length = 2 := rfl
theorem encAd_one (x : Adr) : ∀ v ∈ encAd x, v.oneCell' = true := oneCell_ad _
def cfAd (x y : Adr) : Int := cmpAd x.1 y.1
theorem ltAd (x y : Adr) : ltOf cfAd x y = adLt x.1 y.1 := cmpAd_lt x.1 y.1
theorem adLt_irrefl (a : Ad) : adLt a a = false := by rw [adLt_false]; omega
theorem adLt_trans {a b c : Ad} (h : adLt a b = true) (k : adLt b c = true) : adLt a c = true := by rw [adLt_iff] at *; omega
theorem adLt_total {a b : Ad} (h : adLt a b = false) (k : adLt b a = false) : a = b := by
  rw [adLt_false] at *
  exact Ad.ext (by omega) (by omega)
theorem swoAd : SWO (ltOf cfAd) where
  irrefl x := by rw [ltAd]; exact adLt_irrefl _
  trans x y z h k := by rw [ltAd] at *; exact adLt_trans h k
  ntrans x y z h k := by
    rw [ltAd] at *
    rw [adLt_false] at *
    omega
/-- A list of addresses, rising. -/
def sortA (l : List Ad) : List Ad := l.mergeSort fun x y => !adLt y x
theorem sortA_tr (x y z : Ad) : (!adLt y x) = true → (!adLt z y) = true → (!adLt z x) = true := by
  simp only [Bool.not_eq_true', adLt_false]
  omega
theorem sortA_tot (x y : Ad) : (!adLt y x || !adLt x y) = true := by
  cases h : adLt y x
  · rfl
  · have : adLt x y = false := by rw [adLt_iff] at h; rw [adLt_false]; omega
    rw [this]; rfl
theorem sortA_perm {a b : List Ad} (h : a.Perm b) : sortA a = sortA b := by
  refine List.Perm.eq_of_pairwise (le := fun x y => (!adLt y x) = true) ?_ (List.pairwise_mergeSort sortA_tr sortA_tot a) (List.pairwise_mergeSort sortA_tr sortA_tot b) (((List.mergeSort_perm a _).trans h).trans (List.mergeSort_perm b _).symm)
  intro x y _ _ h k
  simp only [Bool.not_eq_true'] at h k
  exact adLt_total k h
theorem mem_sortA {a : List Ad} {x : Ad} : x ∈ sortA a ↔ x ∈ a := (List.mergeSort_perm a _).mem_iff
theorem isAggAd (w : World) : (isAgg 50).run Try.prog w = .ok true w := by kernel_rfl
theorem sizeOfAd (w : World) : (Go.sizeOf 50).run Try.prog w = .ok 2 w := by kernel_rfl
theorem cmpLaysAd (blk off size : Nat) (w : World) : CmpLays Try.prog 78 #[] encAd 2 cfAd blk off size w :=
  fun m os dk hs x y => by
    have := order_any x.1 y.1 (sortWorldK encAd 2 w blk off m dk os)
    exact this.mono fun e w' h => h

theorem sortA_map (ys : List Adr) : (ys.mergeSort fun x y => !(ltOf cfAd) y x).map (·.1) = sortA (ys.map (·.1)) :=
  List.map_mergeSort fun a _ b _ => by rw [ltAd]
theorem adCells_flat (ys : List Adr) : ys.flatMap encAd = adCells (ys.map (·.1)) := by
  unfold adCells encAd
  rw [List.flatMap_map]

theorem sortAd_any (w : World) (base : Nat) (v : Value) (ys : List Adr) (ho : w.ownsRow base 50 2 v ys.length (adCells (ys.map (·.1)))) (hl : ys.length ≤ 65536) :
    Calls Try.prog 90 #[v, .func (.func 78) #[] #[]] w fun e w' => e = .returned (.tuple #[]) ∧ w'.ownsRow base 50 2 v ys.length (adCells (sortA (ys.map (·.1)))) ∧ Keep (fun k => v.ownBlock = some k) w w' := by
  rcases ho.2 with ⟨rfl, h0⟩ | ⟨g, cap, cur, rfl, hb, hh, h1, h2, h3, h4⟩
  · have hy : ys = [] := List.eq_nil_of_length_eq_zero h0
    subst hy
    have hc := AnyF.slices_SortFunc_none sortAddr none 0 (.func (.func 78) #[] #[]) w
    change Calls Try.prog 90 _ _ _ at hc
    refine hc.mono ?_
    rintro e w' ⟨rfl, rfl⟩
    exact ⟨rfl, by simpa [sortA] using ho, Keep.refl _ _⟩
  · have eg : ∀ args w, (callFunc 78 args).run Try.prog w = .ok (.enter 78 args) w := enters_of Try.func78 (by kernel_rfl) rfl
    have hH : HoldsK encAd 2 w g 0 ys.toArray := holdsK_of encAd_len (by decide) hh (by rw [h4, adCells_flat])
    have hc := AnyQ.slices_SortFunc_total sortAddr 2 isAggAd sizeOfAd encAd encAd_len encAd_one cfAd swoAd 78 #[] g 0 cap ys.toArray w eg (cmpLaysAd g 0 _ w) hH (Array.getElem?_eq_some_iff.1 hh).1 (by simp; omega)
      (fun x y hx hy => by rw [ltAd] at hx hy; exact Subtype.ext (adLt_total hx hy))
    change Calls Try.prog 90 _ _ _ at hc
    rw [List.size_toArray] at hc
    refine hc.mono ?_
    rintro e w' ⟨rfl, n, os, rfl⟩
    refine ⟨rfl, ?_, ?_⟩
    · have := sorted_owns (m := n) (os := os) encAd_len (by decide) ho (dk := (ys.mergeSort fun x y => !(ltOf cfAd) y x).toArray) (by simp)
      rw [List.toList_toArray, adCells_flat, sortA_map] at this
      exact this
    · exact (sorted_keep encAd 2 w g n _ os).mono fun k _ h => by rw [h]; rfl

theorem collectAd (w : World) (lst : List (Ad × Nix)) (B1 b : Nat) (h1 : w.heap[B1]? = some (.cells #[.map (some b)] 91 (0, 0))) (h2 : MapIs AdOk adV unitV w b lst) (hlen : lst.length ≤ 65536) :
    Calls Try.prog 89 #[.func (.func 91) #[] #[.pointer (some ⟨B1, 0, none⟩)]] w (SeqPost w (lst.map (·.1))) := by
  have C := Lib.hid (appendSeqAd w lst B1 b h1 h2 hlen)
  clear h1 h2
  go_enter Try.func89, Try.ntmps89
  go_wp2_with fail
  refine C.out.mono ?_
  rintro e w' ⟨v, ys, rfl, hp, ho, hk⟩
  obtain ⟨a, c, rfl, -, -⟩ := (Rd.of_owns ho).form
  have HP := Lib.hid hp; have HO := Lib.hid ho; have HK := Lib.hid hk
  clear hp ho hk
  go_wp2_with fail
  go_ret
  exact ⟨_, ys, rfl, HP.out, HO.out, HK.out⟩

/-- What SortedFunc tells: the keys, rising. -/
def SortedPost (w : World) (l : List Ad) (e : Ending) (w' : World) : Prop :=
  ∃ v, e = .returned v ∧ w'.ownsRow w.heap.size 50 2 v l.length (adCells (sortA l)) ∧ Keep noBlk w w'

theorem sortedAd (w : World) (lst : List (Ad × Nix)) (B1 b : Nat) (h1 : w.heap[B1]? = some (.cells #[.map (some b)] 91 (0, 0))) (h2 : MapIs AdOk adV unitV w b lst) (hlen : lst.length ≤ 65536) :
    Calls Try.prog 76 #[.func (.func 91) #[] #[.pointer (some ⟨B1, 0, none⟩)], .func (.func 78) #[] #[]] w (SortedPost w (lst.map (·.1))) := by
  have C := Lib.hid (collectAd w lst B1 b h1 h2 hlen)
  have hok : ∀ y ∈ lst.map (·.1), AdOk y := by
    obtain ⟨es, clock, -, hm⟩ := h2
    intro y hy
    obtain ⟨p, hp, rfl⟩ := List.mem_map.1 hy
    exact hm.2.2.2.2 p hp
  have HOK := Lib.hid hok
  clear h1 h2 hok
  go_enter Try.func76, Try.ntmps76
  go_wp2_with fail
  refine C.out.mono ?_
  rintro e w1 ⟨v, ys, rfl, hp, ho, hk⟩
  obtain ⟨a, c, rfl, -, -⟩ := (Rd.of_owns ho).form
  obtain ⟨zs, rfl⟩ : ∃ zs : List Adr, zs.map (·.1) = ys := ⟨ys.attach.map fun y => ⟨y.1, HOK.out _ (hp.subset y.2)⟩, by simp⟩
  have hzl : (zs.map (·.1)).length = zs.length := List.length_map _
  have hzn : zs.length ≤ 65536 := by have := hp.length_eq; simp only [List.length_map] at this; omega
  rw [hzl] at ho
  have D := Lib.hid (sortAd_any w1 w.heap.size _ zs ho hzn)
  have HP := Lib.hid hp; have HK := Lib.hid hk
  have hob : ∀ k, w.heap.size ≤ k ∨ ¬ (Value.slice a zs.length c).ownBlock = some k := fun k => by
    by_cases e : (Value.slice a zs.length c).ownBlock = some k
    · exact .inl (owns_base ho e)
    · exact .inr e
  have HOB := Lib.hid hob
  clear hp ho hk hob
  rw [hzl]
  go_wp2_with fail
  refine D.out.mono ?_
  rintro e w2 ⟨rfl, ho2, hk2⟩
  have HO2 := Lib.hid ho2; have HK2 := Lib.hid hk2
  clear ho2 hk2
  go_wp2_with fail
  go_ret
  refine ⟨_, rfl, ?_, HK.out.trans' HK2.out (fun _ _ h => h) fun i hi e => ?_⟩
  · have e1 := HP.out.length_eq
    rw [← sortA_perm HP.out, ← e1, hzl]; exact HO2.out
  · rcases HOB.out i with h | h
    · omega
    · exact h e
end Go.Proofs.Ytfjklgbakhjjiaa
