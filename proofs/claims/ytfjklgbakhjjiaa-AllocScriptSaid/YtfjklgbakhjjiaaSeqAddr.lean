/-
  slices.AppendSeq over maps.Keys of a set of addresses: each once, in some order, in new memory.
  Conditions: fewer addresses than fit.
-/
import Derived.Test.YtfjklgbakhjjiaaKeysAddr
namespace Go.Proofs.Ytfjklgbakhjjiaa
open Go.RowKit Go.Maps Go.ChangeMaps
set_option maxRecDepth 100000
set_option linter.unusedVariables false

/-- The cells of a row of addresses. -/
def adCells (ys : List Ad) : List Value := ys.flatMap adCs

def SeqPost (w : World) (lst : List Ad) (e : Ending) (w' : World) : Prop :=
  ∃ v ys, e = .returned v ∧ ys.Perm lst ∧ w'.ownsRow w.heap.size 50 2 v ys.length (adCells ys) ∧ Keep noBlk w w'

/-- What the rounds keep: the box at s holds a row of the IDs so far. -/
def SeqI (s : Nat) (w3 : World) (ys : List Adr) (W : World) : Prop :=
  (∃ v, W.heap[s]? = some (.cells #[v] 22 (0, 0)) ∧ W.ownsRow w3.heap.size 50 2 v ys.length (adCells (ys.map (·.1)))) ∧ Keep (fun k => k = s) w3 W

theorem SeqI.own {s : Nat} {w3 : World} (hB : s < w3.heap.size) : OwnFrom w3.heap.size (SeqI s w3) := by
  rintro pre W W' row ⟨⟨v, h1, h2⟩, hk⟩ hg hr
  have kg := Keep.of_grown hg
  have no : ∀ k cur e, W.heap[k]? = some (.cells cur e (0, 0)) → ¬ row = some k := fun k cur e hc e1 => by
    obtain ⟨_, o, ho, hcs⟩ := hr k e1
    rw [hc] at ho
    cases ho
    cases hcs
  refine ⟨⟨v, kg.blk h1 (no _ _ _ h1), kg.owns h2 (fun k hb => by obtain ⟨cur, hc⟩ := owns_block h2 hb; exact no _ _ _ hc)⟩, hk.grown hg fun k e1 hlt => ?_⟩
  have := (hr k e1).1
  omega

theorem seq_end {s B1 n : Nat} {w3 W W4 w5 : World} {v v' : Value} {xs : List Value} {pre : List Adr} {x : Adr} (hs : s < w3.heap.size) (hB1 : B1 < w3.heap.size) (hne : B1 ≠ s) (hn : n = pre.length)
    (h1 : W.heap[s]? = some (.cells #[v] 22 (0, 0))) (h2 : W.ownsRow w3.heap.size 50 2 v n xs) (hk : Keep (fun k => k = s) w3 W) (hk4 : Keep noBlk W W4) (hk5 : Keep (fun k => v.ownBlock = some k) W4 w5)
    (h5 : w5.heap[s]? = some (.cells #[v] 22 (0, 0))) (ho : w5.ownsRow w3.heap.size 50 2 v' (n + 1) (adCells (pre.map (·.1)) ++ adCs x.1)) :
    KeepsFrom w3.heap.size W (w5.setCell ⟨s, 0, none⟩ v') ∧ KeysKp B1 W (w5.setCell ⟨s, 0, none⟩ v') ∧ SeqI s w3 (pre ++ [x]) (w5.setCell ⟨s, 0, none⟩ v') := by
  subst hn
  have kt : Keep (fun k => k = s ∨ v.ownBlock = some k) W (w5.setCell ⟨s, 0, none⟩ v') :=
    (hk4.trans' hk5 (fun _ _ h => h.elim) (fun i _ h => .inr h)).setCell (fun _ => .inl rfl) _
  have ks : Keep (fun k => k = s) w5 (w5.setCell ⟨s, 0, none⟩ v') := Keep.setCell (S := fun k => k = s) (p := ⟨s, 0, none⟩) (Keep.refl _ _) (fun _ => rfl) _
  have hc : ∀ k o, W.heap[k]? = some o → (k = s ∨ v.ownBlock = some k) → o.isCells = true := by
    rintro k o ho (rfl | h)
    · rw [h1] at ho; cases ho; rfl
    · obtain ⟨cur, hc⟩ := owns_block h2 h
      rw [hc] at ho; cases ho; rfl
  refine ⟨(KeepsOthers_of_keep kt hc).from _, ⟨⟨kt.size, fun i o hi hw => kt.blk hi fun h => ?_⟩, kt.block _ (by have := hk.size; omega) ?_⟩, ⟨v', ?_, ?_⟩, hk.trans' kt (fun _ _ h => h) ?_⟩
  · have := hc i o hi h
    rw [Obj.not_cells_of_walk hw] at this; cases this
  · rintro (h | h)
    · exact hne h
    · have := owns_base h2 h; omega
  · exact set_blk h5 0 v'
  · rw [List.length_append]
    have e : adCells ((pre ++ [x]).map (·.1)) = adCells (pre.map (·.1)) ++ adCs x.1 := by simp [adCells]
    rw [e]
    exact ks.owns ho fun k hb e => by have := owns_base ho hb; omega
  · rintro i hi (h | h)
    · exact h
    · have := owns_base h2 h; omega

theorem seq_done {w w3 W : World} {lst : List Ad} {v : Value} {ys : List Ad} {D : Nat} {o o' : Obj} (ho : o.isCells = false) (hD : W.heap[D]? = some o) (h2 : W.ownsRow w3.heap.size 50 2 v ys.length (adCells ys)) (hp : ys.Perm lst)
    (hk : Keep noBlk w W) (hs : w.heap.size ≤ w3.heap.size ∧ w3.heap.size ≤ D) : SeqPost w lst (.returned v) (W.putObj D o') := by
  have kd := Keep.of_grown (grownBy_putObj' W D o')
  have no : ∀ k cur e, W.heap[k]? = some (.cells cur e (0, 0)) → ¬ some D = some k := fun k cur e hc e1 => by
    cases e1
    rw [hD] at hc
    cases hc
    cases ho
  refine ⟨v, ys, rfl, hp, ?_, hk.trans' kd (fun _ _ h => h) (fun i hi e => by cases e; omega)⟩
  exact ownsRow_mono (kd.owns h2 fun k hb => by obtain ⟨cur, hc⟩ := owns_block h2 hb; exact no _ _ _ hc) hs.1

/-- The frame of a round: the loop's variable lies in a block of its own. -/
def SeqAct (s B1 p : Nat) (x : Adr) : Act :=
  { tmps := #[.slice none 0 0, .func (.func 91) #[] #[.pointer (some ⟨B1, 0, none⟩)], .pointer (some ⟨s, 0, none⟩), undef, .slice none 0 0, .pointer (some ⟨p, 0, none⟩), .func (.func 91) #[] #[.pointer (some ⟨B1, 0, none⟩)], .agg (adCs x.1).toArray, undef, undef, undef, undef, undef], defers := [] }
def SeqAx (s B1 : Nat) (x : Adr) (a : Act) (W : World) : Prop := ∃ p, a = SeqAct s B1 p x ∧ W.heap[p]? = some (.cells (adCs x.1).toArray 50 (0, 0))
theorem SeqAx.own {s B1 : Nat} (B : Nat) (x : Adr) (a : Act) : OwnFrom B (fun (_ : Unit) W => SeqAx s B1 x a W) := by
  rintro _ W W' row ⟨p, ha, hp⟩ hg hr
  refine ⟨p, ha, (Keep.of_grown hg).blk hp fun e1 => ?_⟩
  obtain ⟨_, o, ho, hcs⟩ := hr p e1
  rw [hp] at ho
  cases ho
  cases hcs

set_option maxHeartbeats 4000000 in
theorem appendSeqAd (w : World) (lst : List (Ad × Nix)) (B1 b : Nat) (h1 : w.heap[B1]? = some (.cells #[.map (some b)] 91 (0, 0))) (h2 : MapIs AdOk adV unitV w b lst) (hlen : lst.length ≤ 65536) :
    Calls Try.prog 98 #[.slice none 0 0, .func (.func 91) #[] #[.pointer (some ⟨B1, 0, none⟩)]] w (SeqPost w (lst.map (·.1))) := by
  have H1 := Lib.hid h1; have H2 := Lib.hid h2
  clear h1 h2
  refine callsIn_wide.1 (callsIn_of_wp_marks (F := Fence.wide) (n := 3) Try.func98 rfl trivial (wpIn_wide.2 ?_))
  simp only [Try.ntmps98, List.size_toArray, List.length_cons, List.length_nil, Nat.reduceAdd, Nat.reduceSub, Array.replicate_succ, Array.replicate_zero, List.push_toArray, List.append_toArray, List.nil_append, List.cons_append]
  go_wp2_with fail
  obtain ⟨w3, hw3⟩ : ∃ w3, w.alloc (.cells #[.slice none 0 0] 22) = w3 := ⟨_, rfl⟩
  have hk3 : Keep noBlk w w3 := by rw [← hw3]; exact (Keep.refl _ _).alloc _
  have hs3 : w3.heap.size = w.heap.size + 1 := by rw [← hw3]; exact World.size_alloc _ _
  have hbx : w3.heap[w.heap.size]? = some (.cells #[.slice none 0 0] 22 (0, 0)) := by rw [← hw3]; exact heap_alloc_new _ _
  have hB1 : B1 < w3.heap.size := by have := lt_of_block H1.out; omega
  rw [hw3]
  refine wpIn_wide (n := 3).1 ?_
  refine' wpIn_rangeFunc_ownH rfl (by omega) (gf := 91) rfl trivial (enters_of Try.func91 (by kernel_rfl) rfl)
    (keysAd_stops _ B1 b lst w3 (hk3.blk H1.out id) (H2.out.keep hk3 id)) ?hKt ?hKb (Below.refl _ _) (fun _ => rfl) (SeqI w.heap.size w3) (fun _ _ _ => False) (SeqI.own (by omega)) (fun c s A B row hs _ _ => hs) ?h0 (SeqAx w.heap.size B1) (SeqAx.own _) ?assign ?body ?done ?stop
  case hKt => exact fun h k => ⟨h.1.trans k.1, k.2.trans h.2⟩
  case hKb => exact fun W l o o' hl ho hc hw => ⟨KeepsWalks.putObj o' ho hw, World.putObj_heap_other (by omega)⟩
  case h0 => exact ⟨⟨.slice none 0 0, hbx, World.ownsRow_nil _ _ _ _⟩, Keep.refl _ _⟩
  case assign =>
    intro l pre x W K hI hK
    have hvl : (adCs x.1).length = 2 := rfl
    refine regionIn_plain (by kernel_rfl) (fun ⟨_, _, h⟩ => h) ?_
    unfold adV
    rw [fold_one]
    simp only [List.setIfInBounds_toArray, List.set_cons_zero, List.set_cons_succ]
    go_wp2_with (first
      | (refine wpList_alloc_at rfl 50 rfl zeroAd zeroAddr #[.int .i64 0, .int .i64 0] rfl ?_)
      | ((with_reducible show wpList _ _ _ (⟨none, .store 50 (.tmp 5) (.tmp 7), _, _, _, _⟩ :: _) _ _); refine wpList_store_agg rfl 50 (.tmp 5) (.tmp 7) rfl W.heap.size 0 (adCs x.1) rfl rfl #[.int .i64 0, .int .i64 0] _ (heap_alloc_new _ _) (by rw [hvl]; simp) (by rw [hvl]; exact sizeAd) (oneCell_ad _) ?_; intro W2 hb2 hk2))
    rw [spl_whole _ _ (by rw [hvl]; simp)] at hb2
    have hkw : Keep noBlk W W2 := ((Keep.refl noBlk W).alloc _).trans' hk2 (fun _ _ h => h) (fun i hi e => by omega)
    refine hK _ _ ((KeepsOthers_of_keep hkw (fun _ _ _ h => h.elim)).from _) ⟨⟨hkw.size, fun i o hi ho => hkw.blk hi id⟩, hkw.block _ ?_ id⟩ ?_ ⟨W.heap.size, rfl, hb2⟩
    · have := hI.2.size; omega
    · exact SeqI.own (by omega) pre W W2 none hI (grown_of_keep0 hkw) (fun r e => by cases e)
  case body =>
    rintro l pre x a' W hl hrec ⟨⟨v, h1, h2⟩, hk⟩ ⟨p, rfl, hp⟩ hlen'
    have hvl : (adCs x.1).length = 2 := rfl
    obtain ⟨av, cv, rfl, -, -⟩ := (Rd.of_owns h2).form
    have c1 := cell_of_one h1
    have f1 := blk_free h1 0
    have HB := Lib.hid h1; have H2' := Lib.hid h2; have HK := Lib.hid hk; have HP := Lib.hid hp
    clear h1 h2 hk hp hrec hw3 hbx
    unfold SeqAct
    refine wpIn_block ?_
    refine regionIn_plain (by kernel_rfl) (fun ⟨_, _, h⟩ => h) ?_
    go_wp2_with (first
      | ((with_reducible show wpList _ _ _ (⟨some 9, .load 50 (.tmp 5), _, _, _, _⟩ :: _) _ _); refine wpList_load_mid rfl 50 (.tmp 5) rfl p 0 rfl (adCs x.1) _ (rangeAt_whole HP.out) adUnder rfl (by rw [hvl]; exact sizeAd) ?_)
      | ((with_reducible show wpList _ _ _ (⟨some 10, .buildSlice _ _ _, _, _, _, _⟩ :: _) _ _); refine wpList_build_one rfl 22 50 (.tmp 9) rfl Try.underlying22 infoAd (by decide) (adCs x.1) hvl (by decide) rfl ?_
         have hk4 : Keep noBlk W (W.alloc (.cells (adCs x.1).toArray 50)) := (Keep.refl _ _).alloc _
         have HO4 := Lib.hid (hk4.owns H2'.out (fun _ _ h => h))
         have HR4 := Lib.hid (rd_blk (n := 1) (size := 2) (heap_alloc_new W (.cells (adCs x.1).toArray 50)) (by rw [hvl]) (by unfold maxLen; omega))
         have HB4 := Lib.hid (hk4.blk HB.out id)
         have HK4 := Lib.hid hk4
         have hs4 := World.size_alloc W (.cells (adCs x.1).toArray 50)
         generalize hW4 : W.alloc (.cells (adCs x.1).toArray 50) = W4 at *
         clear hW4 hk4)
      | (at_builtin; refine wpList_append_rd rfl (.tmp 8) (.tmp 10) 22 rfl w3.heap.size 50 zeroAd 2 16 Try.underlying22 infoAd rfl (by decide) (.slice av pre.length cv) pre.length (adCells (pre.map (·.1))) rfl HO4.out (.slice (some ⟨W.heap.size, 0, none⟩) 1 1) 1 (adCs x.1) rfl HR4.out (oneCell_ad _) (by unfold maxLen; omega) (by omega) (by have := HK.out.size; omega) ?_
         intro v' w5 ho5 hk5 hn5 hb5
         obtain ⟨g', cap', rfl⟩ := ownsRow_succ ho5
         have HB5 := hk5.blk HB4.out (fun e => by have := owns_base HO4.out e; omega)
         have c5 := cell_of_one HB5
         have f5 := blk_free HB5 0
         have HO5 := Lib.hid ho5; have HK5 := Lib.hid hk5; have HBX5 := Lib.hid HB5
         clear ho5 hk5 hn5 hb5 HB5 c1 f1))
    exact seq_end (by omega) hB1 (by have := lt_of_block H1.out; omega) rfl HB.out H2'.out HK.out HK4.out HK5.out HBX5.out HO5.out
  case done =>
    intro D xs W hD hS hI hDd
    obtain ⟨⟨v, h1, h2⟩, hk⟩ := hI
    have c1 := cell_of_one h1
    obtain ⟨ar, cr, rfl, -, -⟩ := (Rd.of_owns h2).form
    have hkw : Keep noBlk w W := Keep.trans' (S := noBlk) (T := fun k => k = w.heap.size) (b := w3) hk3 hk (fun _ _ h => h) (fun i hi e => by omega)
    have H2' := Lib.hid h2; have HD := Lib.hid hDd; have HKW := Lib.hid hkw; have HS := Lib.hid hS
    clear h1 h2 hk hDd hkw hS hw3 hbx
    go_wp2_with fail
    refine ⟨by simp, .inl ⟨_, _, rfl, run_takeDeferred HD.out, ?_⟩⟩
    refine ⟨_, results_tmp rfl _ _ _, ?_⟩
    refine seq_done rfl HD.out (ys := xs.map (·.1)) (by simpa using H2'.out) HS.out HKW.out ⟨by omega, hD⟩
  case stop => exact fun D c pre W _ _ h _ => h.elim
end Go.Proofs.Ytfjklgbakhjjiaa
