/-
  slices.SortFunc and slices.SortedFunc at IDs: rising, each once.
  Conditions: at most 65,536 IDs.
-/
import Derived.Test.YtdlegbcdmlmbpaaSortK
import Derived.Test.YtdlegbcdmlmbpaaLaySort
import Derived.Test.YtdlegbcdmlmbpaaPlain7
import Derived.Test.YtdlegbcdmlmbpaaSeqID
namespace Go.Proofs.Ytdlegbcdmlmbpaa
open Go.RowKit Go.Sort Go.Maps
set_option maxRecDepth 100000
set_option linter.unusedVariables false

instance : Inhabited Id := ⟨⟨List.replicate 32 0, by simp⟩⟩
def encId (x : Id) : List Value := x.1.map vb
theorem encId_len (x : Id) : (encId x).length = 32 := by unfold encId; rw [List.length_map]; exact x.2
theorem encId_one (x : Id) : ∀ v ∈ encId x, v.oneCell' = true := oneCell_vb _
def cfId (x y : Id) : Int := orderI x.1 y.1
theorem ltId (x y : Id) : ltOf cfId x y = idLt x.1 y.1 := by
  unfold ltOf cfId orderI
  cases h : idLt x.1 y.1
  · cases idLt y.1 x.1 <;> simp
  · simp
theorem swoId : SWO (ltOf cfId) where
  irrefl x := by rw [ltId]; exact idLt_irrefl _
  trans x y z h k := by rw [ltId] at *; exact idLt_trans h k
  ntrans x y z h k := by
    rw [ltId] at *
    cases h1 : idLt x.1 z.1
    · rfl
    · cases h2 : idLt y.1 x.1
      · rw [idLt_total h h2, k] at h1; cases h1
      · rw [idLt_trans h2 h1] at k; cases k
theorem isAggID (w : World) : (isAgg 23).run Try.prog w = .ok true w := by kernel_rfl
theorem sizeOfID (w : World) : (Go.sizeOf 23).run Try.prog w = .ok 32 w := by kernel_rfl
theorem cmpLaysID (blk off size : Nat) (w : World) : CmpLays Try.prog 61 #[] encId 32 cfId blk off size w :=
  fun m os dk hs x y => by
    have := order_any x.1 y.1 x.2 y.2 (sortWorldK encId 32 w blk off m dk os)
    exact this.mono fun e w' h => h

theorem sortL_map (ys : List Id) : (ys.mergeSort fun x y => !(ltOf cfId) y x).map (·.1) = sortL (ys.map (·.1)) :=
  List.map_mergeSort fun a _ b _ => by rw [ltId]
theorem idCells_flat (ys : List Id) : ys.flatMap encId = idCells (ys.map (·.1)) := by
  unfold idCells encId
  rw [List.flatMap_map]

theorem sortID_any (w : World) (base : Nat) (v : Value) (ys : List Id) (ho : w.ownsRow base 23 32 v ys.length (idCells (ys.map (·.1)))) (hl : ys.length ≤ 65536) :
    Calls Try.prog 84 #[v, .func (.func 61) #[] #[]] w fun e w' => e = .returned (.tuple #[]) ∧ w'.ownsRow base 23 32 v ys.length (idCells (sortL (ys.map (·.1)))) ∧ Keep (fun k => v.ownBlock = some k) w w' := by
  rcases ho.2 with ⟨rfl, h0⟩ | ⟨g, cap, cur, rfl, hb, hh, h1, h2, h3, h4⟩
  · have hy : ys = [] := List.eq_nil_of_length_eq_zero h0
    subst hy
    have hc := AnyF.slices_SortFunc_none sortID none 0 (.func (.func 61) #[] #[]) w
    change Calls Try.prog 84 _ _ _ at hc
    refine hc.mono ?_
    rintro e w' ⟨rfl, rfl⟩
    exact ⟨rfl, by simpa [sortL] using ho, Keep.refl _ _⟩
  · have eg : ∀ args w, (callFunc 61 args).run Try.prog w = .ok (.enter 61 args) w := enters_of Try.func61 (by kernel_rfl) rfl
    have hH : HoldsK encId 32 w g 0 ys.toArray := holdsK_of encId_len (by decide) hh (by rw [h4, idCells_flat])
    have hc := AnyQ.slices_SortFunc_total sortID 32 isAggID sizeOfID encId encId_len encId_one cfId swoId 61 #[] g 0 cap ys.toArray w eg (cmpLaysID g 0 _ w) hH (Array.getElem?_eq_some_iff.1 hh).1 (by simp; omega)
      (fun x y hx hy => by rw [ltId] at hx hy; exact Subtype.ext (idLt_total hx hy))
    change Calls Try.prog 84 _ _ _ at hc
    rw [List.size_toArray] at hc
    refine hc.mono ?_
    rintro e w' ⟨rfl, n, os, rfl⟩
    refine ⟨rfl, ?_, ?_⟩
    · have := sorted_owns (m := n) (os := os) encId_len (by decide) ho (dk := (ys.mergeSort fun x y => !(ltOf cfId) y x).toArray) (by simp)
      rw [List.toList_toArray, idCells_flat, sortL_map] at this
      exact this
    · exact (sorted_keep encId 32 w g n _ os).mono fun k _ h => by rw [h]; rfl

theorem collectID (w : World) (lst : List (List UInt8 × Int)) (B1 b : Nat) (h1 : w.heap[B1]? = some (.cells #[.map (some b)] 77 (0, 0))) (h2 : MapIs IdOk idV intV w b lst) (hlen : lst.length ≤ 65536) :
    Calls Try.prog 83 #[.func (.func 85) #[] #[.pointer (some ⟨B1, 0, none⟩)]] w (SeqPost w (lst.map (·.1))) := by
  have C := Lib.hid (appendSeqID w lst B1 b h1 h2 hlen)
  clear h1 h2
  go_enter Try.func83, Try.ntmps83
  go_wp2_with fail
  refine C.out.mono ?_
  rintro e w' ⟨v, ys, rfl, hp, ho, hk⟩
  obtain ⟨a, c, rfl, -, -⟩ := (Rd.of_owns ho).form
  have HP := Lib.hid hp; have HO := Lib.hid ho; have HK := Lib.hid hk
  clear hp ho hk
  go_wp2_with fail
  go_ret
  exact ⟨_, ys, rfl, HP.out, HO.out, HK.out⟩

/-- What SortedFunc tells: the keys, rising. -/
def SortedPost (w : World) (l : List (List UInt8)) (e : Ending) (w' : World) : Prop :=
  ∃ v, e = .returned v ∧ w'.ownsRow w.heap.size 23 32 v l.length (idCells (sortL l)) ∧ Keep noBlk w w'

theorem sortedID (w : World) (lst : List (List UInt8 × Int)) (B1 b : Nat) (h1 : w.heap[B1]? = some (.cells #[.map (some b)] 77 (0, 0))) (h2 : MapIs IdOk idV intV w b lst) (hlen : lst.length ≤ 65536) :
    Calls Try.prog 59 #[.func (.func 85) #[] #[.pointer (some ⟨B1, 0, none⟩)], .func (.func 61) #[] #[]] w (SortedPost w (lst.map (·.1))) := by
  have C := Lib.hid (collectID w lst B1 b h1 h2 hlen)
  have hok : ∀ y ∈ lst.map (·.1), y.length = 32 := by
    obtain ⟨es, clock, -, hm⟩ := h2
    intro y hy
    obtain ⟨p, hp, rfl⟩ := List.mem_map.1 hy
    exact hm.2.2.2.2 p hp
  have HOK := Lib.hid hok
  clear h1 h2 hok
  go_enter Try.func59, Try.ntmps59
  go_wp2_with fail
  refine C.out.mono ?_
  rintro e w1 ⟨v, ys, rfl, hp, ho, hk⟩
  obtain ⟨a, c, rfl, -, -⟩ := (Rd.of_owns ho).form
  obtain ⟨zs, rfl⟩ : ∃ zs : List Id, zs.map (·.1) = ys := ⟨ys.attach.map fun y => ⟨y.1, HOK.out _ (hp.subset y.2)⟩, by simp⟩
  have hzl : (zs.map (·.1)).length = zs.length := List.length_map _
  have hzn : zs.length ≤ 65536 := by have := hp.length_eq; simp only [List.length_map] at this; omega
  rw [hzl] at ho
  have D := Lib.hid (sortID_any w1 w.heap.size _ zs ho hzn)
  have HP := Lib.hid hp; have HK := Lib.hid hk
  have hob : ∀ k, w.heap.size ≤ k ∨ ¬ (Value.slice a zs.length c).ownBlock = some k := fun k => by
    by_cases e : (Value.slice a zs.length c).ownBlock = some k
    · exact .inl (owns_base ho e)
    · exact .inr e
  have HOB := Lib.hid hob
  clear hp ho hk hob
  rw [hzl]
  go_wp2_with fail
  refine D.out.mono ?_
  rintro e w2 ⟨rfl, ho2, hk2⟩
  have HO2 := Lib.hid ho2; have HK2 := Lib.hid hk2
  clear ho2 hk2
  go_wp2_with fail
  go_ret
  refine ⟨_, rfl, ?_, HK.out.trans' HK2.out (fun _ _ h => h) fun i hi e => ?_⟩
  · have e1 := HP.out.length_eq
    rw [← sortL_perm HP.out, ← e1, hzl]; exact HO2.out
  · rcases HOB.out i with h | h
    · omega
    · exact h e
end Go.Proofs.Ytdlegbcdmlmbpaa
