/-
  AddrApart: a list is apart just if each device has at most one of it, and stays so.
  Conditions: none but those of the given statement.
-/
import Derived.Test.YtnpmiocajmhjoaaApartAddr
namespace Go.Proofs.Ytnpmiocajmhjoaa
open Go.RowKit Go.Maps Go.ChangeMaps
set_option maxRecDepth 100000
set_option linter.unusedVariables false

/-- How many of a list are on a device. -/
def cntD (l : List Ad) (d : Int) : Nat := (l.filter fun y => decide (y.dev = d)).length
theorem cntD_snoc (l : List Ad) (y : Ad) (d : Int) : cntD (l ++ [y]) d = cntD l d + if y.dev = d then 1 else 0 := by
  unfold cntD
  rw [List.filter_append, List.length_append]
  by_cases h : y.dev = d
  · rw [if_pos h, List.filter_cons_of_pos (by simpa using h)]; rfl
  · rw [if_neg h, List.filter_cons_of_neg (by simpa using h)]; rfl
theorem each_apart : ∀ l : List Ad, (∀ x ∈ l, cntD l x.dev = 1) ↔ (l.map (·.dev)).Nodup
  | [] => by simp
  | x :: l => by
    have hc : ∀ d, cntD (x :: l) d = cntD l d + if x.dev = d then 1 else 0 := fun d => by
      unfold cntD
      by_cases h : x.dev = d
      · rw [if_pos h, List.filter_cons_of_pos (by simpa using h)]; rfl
      · rw [if_neg h, List.filter_cons_of_neg (by simpa using h)]; rfl
    have h0 : ∀ d, cntD l d = 0 ↔ d ∉ l.map (·.dev) := fun d => by
      unfold cntD
      rw [List.length_eq_zero_iff, List.filter_eq_nil_iff, List.mem_map]
      constructor
      · rintro h ⟨y, hy, e⟩
        exact h y hy (by simpa using e)
      · intro h y hy hd
        exact h ⟨y, hy, by simpa using hd⟩
    rw [List.map_cons, List.nodup_cons, ← h0, ← each_apart l]
    constructor
    · intro h
      have hx := h x (by simp)
      rw [hc, if_pos rfl] at hx
      have hx0 : cntD l x.dev = 0 := by omega
      refine ⟨hx0, fun y hy => ?_⟩
      have hy1 := h y (by simp [hy])
      rw [hc] at hy1
      have hne : ¬ x.dev = y.dev := fun e => (h0 x.dev).1 hx0 (List.mem_map.2 ⟨y, hy, e.symm⟩)
      rw [if_neg hne] at hy1
      exact hy1
    · rintro ⟨hx, h⟩ y hy
      rw [hc]
      rcases List.mem_cons.1 hy with rfl | hy
      · rw [hx, if_pos rfl]
      · have hne : ¬ x.dev = y.dev := fun e => (h0 x.dev).1 hx (List.mem_map.2 ⟨y, hy, e.symm⟩)
        rw [if_neg hne, h y hy]
def eachB (xs l : List Ad) : Bool := l.all fun x => decide (cntD xs x.dev = 1)
theorem eachB_apart (xs : List Ad) : eachB xs xs = decide ((xs.map (·.dev)).Nodup) := by
  rw [Bool.eq_iff_iff, decide_eq_true_iff, ← each_apart]
  simp [eachB]
theorem rises_nodup {l : List Ad} (h : Rises l) : l.Nodup := h.imp fun h => adLt_ne h
theorem perm_of_nodup {l m : List Ad} (hl : l.Nodup) (hm : m.Nodup) (h : ∀ x, x ∈ l ↔ x ∈ m) : l.Perm m := (List.perm_ext_iff_of_nodup hl hm).2 h
theorem apart_laws {xs : List Ad} (h : (xs.map (·.dev)).Nodup) (ys : List Ad) : ((canon xs).map (·.dev)).Nodup ∧ (canon xs).length = xs.length ∧ ((canon (xs.filter fun x => !decide (x ∈ ys))).map (·.dev)).Nodup := by
  have hn : xs.Nodup := (List.pairwise_map.1 h).imp fun h e => h (congrArg Ad.dev e)
  have hp : (canon xs).Perm xs := perm_of_nodup (rises_nodup (canon_rises xs)) hn fun x => mem_canon
  have hnf : (xs.filter fun x => !decide (x ∈ ys)).Nodup := hn.sublist List.filter_sublist
  have hpf : (canon (xs.filter fun x => !decide (x ∈ ys))).Perm (xs.filter fun x => !decide (x ∈ ys)) := perm_of_nodup (rises_nodup (canon_rises _)) hnf fun x => mem_canon
  exact ⟨(hp.map _).nodup_iff.2 h, hp.length_eq, (hpf.map _).nodup_iff.2 (h.sublist (List.filter_sublist.map _))⟩

set_option maxHeartbeats 8000000 in
theorem addrApart_walk (w : World) (va : Value) (xs : List Ad) (ho : AdsOk xs) (hr : Rd w 2 va xs.length (adCells xs)) (vb : Value) (ys : List Ad) (hoy : AdsOk ys) (hrb : Rd w 2 vb ys.length (adCells ys)) :
    Calls Try.prog 5 #[va, vb] w (TherePost w true) := by
  have CW := Lib.hid (fun w => (awake_any w).mono fun e w' (h : TherePost w true e w') => (show e = .returned (.bool true) ∧ Keep noBlk w w' from h))
  have CA := Lib.hid (fun w v (h : Rd w 2 v xs.length (adCells xs)) => apart_any w v xs ho h)
  have HCS := Lib.hid (fun w v (h : Rd w 2 v xs.length (adCells xs)) (hl : xs.length ≤ 65536) => sort_any w v xs ho h hl)
  have HCM := Lib.hid (fun w v v' (h : Rd w 2 v xs.length (adCells xs)) (h' : Rd w 2 v' ys.length (adCells ys)) (hl : xs.length ≤ 65536) => minus_any w v v' xs ys ho hoy h h' hl)
  have HCC := Lib.hid (fun w v (h : Rd w 2 v (canon xs).length (adCells (canon xs))) => apart_any w v (canon xs) (adsOk_canon ho) h)
  have HCF := Lib.hid (fun w v (h : Rd w 2 v (canon (xs.filter fun x => !decide (x ∈ ys))).length (adCells (canon (xs.filter fun x => !decide (x ∈ ys))))) => apart_any w v _ (adsOk_canon (fun x hx => ho x (List.mem_filter.1 hx).1)) h)
  obtain ⟨U, hU⟩ : ∃ U, canon xs = U := ⟨_, rfl⟩
  obtain ⟨V, hV⟩ : ∃ V, canon (xs.filter fun x => !decide (x ∈ ys)) = V := ⟨_, rfl⟩
  have HAE := Lib.hid (fun (h : (xs.map (·.dev)).Nodup) => apart_laws h ys)
  rw [hU, hV] at HAE
  rw [hU] at HCC
  rw [hV] at HCF HCM
  have HSE : Hid (sortA (keysA (setOf xs)) = U) := Lib.hid hU
  rw [HSE.out] at HCS
  have HEA := Lib.hid (eachB_apart xs)
  obtain ⟨bb, hbb⟩ : ∃ b, decide ((xs.map (·.dev)).Nodup) = b := ⟨_, rfl⟩
  rw [hbb] at CA
  have HBB := Lib.hid hbb
  have he : ∀ w, (binOp .neq 4 (.bool bb) (.bool bb)).run Try.prog w = .ok (.bool false) w := fun w => by cases bb <;> kernel_rfl
  have HEQ := Lib.hid he
  clear hU hV hbb he
  obtain ⟨oa, ca, rfl, -, hmm⟩ := hr.form
  have hmx_n : xs.length ≤ maxLen := by have h := hr.2; obtain ⟨a', cap', h1, h2, h3, -⟩ := h; omega
  unfold maxLen at hmx_n
  clear hmm
  have HR := Lib.hid hr
  obtain ⟨n, hn_n⟩ : ∃ n, xs.length = n := ⟨_, rfl⟩
  have HN := Lib.hid hn_n
  rw [hn_n] at HR hmx_n
  try rw [hn_n]
  clear hr hn_n
  obtain ⟨ob, cb, rfl, -, hmm⟩ := hrb.form
  have hmx_m : ys.length ≤ maxLen := by have h := hrb.2; obtain ⟨a', cap', h1, h2, h3, -⟩ := h; omega
  unfold maxLen at hmx_m
  clear hmm
  have HRB := Lib.hid hrb
  obtain ⟨m, hn_m⟩ : ∃ n, ys.length = n := ⟨_, rfl⟩
  have HM := Lib.hid hn_m
  rw [hn_m] at HRB hmx_m
  try rw [hn_m]
  clear hrb hn_m
  rw [HN.out, HM.out] at HCM
  rw [HN.out] at CA HCS HAE
  have HK := Lib.hid (Keep.refl noBlk w)
  go_enter Try.func5, Try.ntmps5
  go_wp2_with fail
  refine (CW.out _).mono ?_
  rintro e w1 ⟨rfl, hk⟩
  have HR := Lib.hid (HR.out.keep hk fun _ _ => id)
  have HRB := Lib.hid (HRB.out.keep hk fun _ _ => id)
  have HK := Lib.hid (HK.out.trans hk)
  clear hk
  go_wp2_with fail
  refine (long_any _ _ _ n m _ _).mono ?_
  rintro e w2 ⟨rfl, rfl⟩
  by_cases hlong : 200 < n ∨ 200 < m
  · rw [decide_eq_true hlong]
    go_wp2_with fail
    go_ret
    exact ⟨rfl, HK.out⟩
  · rw [decide_eq_false hlong]
    have hn200 : n ≤ 200 := by omega
    clear hlong
    obtain ⟨wz, rfl⟩ : ∃ wz : World, wz = w1 := ⟨_, rfl⟩
    go_wp2_with fail
    go_loopw [6, 7] (fun t i wr => ∃ (k : Nat) (b : Bool), k ≤ n ∧ i = .int .i64 k ∧ t = .bool b ∧ Hid (b = eachB xs (xs.take k)) ∧ Hid (Keep noBlk wz wr)) (fun _ i _ => n - (intOf i).toNat)
    case atStart => exact ⟨0, true, Nat.zero_le _, rfl, rfl, Lib.hid rfl, Lib.hid (Keep.refl _ _)⟩
    case round =>
    obtain ⟨k, b, hk, rfl, rfl, HT, HKR⟩ := hrel
    have HKZ := Lib.hid (Keep.refl noBlk wz)
    by_cases hlt : k < n
    · have HR := Lib.hid (HR.out.keep HKR.out fun _ _ => id)
      have HRB := Lib.hid (HRB.out.keep HKR.out fun _ _ => id)
      have HK := Lib.hid (HK.out.trans HKR.out)
      have HKZ := Lib.hid (HKZ.out.trans HKR.out)
      obtain ⟨x, h_x⟩ : ∃ x, xs[k]? = some x := ⟨xs[k]'(by rw [HN.out]; exact hlt), List.getElem?_eq_getElem _⟩
      have h_r := HR.out
      rw [← HN.out] at h_r
      obtain ⟨g, o, cap', h_v, h_at⟩ := rd_ad h_r h_x
      have e1 : oa = some ⟨g, o, none⟩ := by cases h_v; rfl
      subst e1
      have HX := Lib.hid h_at; have HE := Lib.hid h_x
      clear h_x h_r h_v h_at
      have HTX : Hid (xs.take (k + 1) = xs.take k ++ [x]) := Lib.hid (by rw [List.take_add_one, HE.out]; rfl)
      have hki : (k : Int) < (n : Int) := by omega
      have hk0 : (0 : Int) ≤ (k : Int) := by omega
      obtain ⟨xd, hxd⟩ : ∃ d, x.dev = d := ⟨_, rfl⟩
      have HXD := Lib.hid hxd
      clear hxd
      obtain ⟨wo, rfl⟩ : ∃ wo : World, wo = wr := ⟨_, rfl⟩
      go_wp2_with fail
      go_loopw [8, 9] (fun c i wr => ∃ (j q : Nat), j ≤ n ∧ q ≤ j ∧ i = .int .i64 j ∧ c = .int .i64 q ∧ Hid (cntD (xs.take j) xd = q) ∧ Hid (Keep noBlk wo wr)) (fun _ i _ => n - (intOf i).toNat)
      case atStart => exact ⟨0, 0, Nat.zero_le _, Nat.le_refl _, rfl, rfl, Lib.hid rfl, Lib.hid (Keep.refl _ _)⟩
      case round =>
      obtain ⟨j, q, hj, hqj, rfl, rfl, HC, HKI⟩ := hrel
      have HKO := Lib.hid (Keep.refl noBlk wo)
      by_cases hlt2 : j < n
      · have HR := Lib.hid (HR.out.keep HKI.out fun _ _ => id)
        have HRB := Lib.hid (HRB.out.keep HKI.out fun _ _ => id)
        have HK := Lib.hid (HK.out.trans HKI.out)
        have HKZ := Lib.hid (HKZ.out.trans HKI.out)
        have HX := Lib.hid (HKI.out.rangeAt HX.out)
        have HKO := Lib.hid (HKO.out.trans HKI.out)
        obtain ⟨y, h_x⟩ : ∃ x, xs[j]? = some x := ⟨xs[j]'(by rw [HN.out]; exact hlt2), List.getElem?_eq_getElem _⟩
        have h_r := HR.out
        rw [← HN.out] at h_r
        have h_at : wr.rangeAt g (o + j * 2) (adCs y) := by
          obtain ⟨g', o', cap', h_v, h_at⟩ := rd_ad h_r h_x
          cases h_v
          exact h_at
        have HY := Lib.hid h_at; have HYE := Lib.hid h_x
        clear h_x h_r h_at
        have HTY : Hid (xs.take (j + 1) = xs.take j ++ [y]) := Lib.hid (by rw [List.take_add_one, HYE.out]; rfl)
        obtain ⟨yd, hyd⟩ : ∃ d, y.dev = d := ⟨_, rfl⟩
        have HYD := Lib.hid hyd
        have hcx := HX.out 0 _ rfl
        have hcy := HY.out 0 _ rfl
        rw [HXD.out] at hcx
        rw [hyd] at hcy
        have HCX : Hid (wr.cell? ⟨g, o + k * 2, none⟩ = some (.int .i64 xd)) := Lib.hid hcx
        have HCY : Hid (wr.cell? ⟨g, o + j * 2, none⟩ = some (.int .i64 yd)) := Lib.hid hcy
        have hji : (j : Int) < (n : Int) := by omega
        have hj0 : (0 : Int) ≤ (j : Int) := by omega
        clear hyd hcx hcy
        by_cases hd : yd = xd
        · subst hd
          go_wp2_with fail
          obtain ⟨S, hS0⟩ : ∃ S : World → Prop, S = fun w' => Keep noBlk wr w' := ⟨_, rfl⟩
          have HSE := Lib.hid (show ∀ w', S w' → Keep noBlk wr w' from fun w' h => by rw [hS0] at h; exact h)
          have HSI := Lib.hid (show ∀ w', Keep noBlk wr w' → S w' from fun w' h => by rw [hS0]; exact h)
          have hS : S wr.drew := by rw [hS0]; exact (Keep.refl _ _).drew
          clear hS0
          refine wp_region_held (S := S) (by kernel_rfl) ?_
          change wpAnyH _ _ _ _ _ _ _ _ wr.drew
          generalize wr.drew = w2 at hS ⊢
          refine wpAnyH_take (i := 0) (v := .slice (some ⟨g, o, none⟩) n ca) rfl (by kernel_rfl) (by kernel_rfl) (by kernel_rfl) (fun _ _ _ h => h) (.inl ⟨by rfl, fun _ _ => rfl⟩) hS ?_
          simp only [Act.put, List.setIfInBounds_toArray, List.set_cons_zero, List.set_cons_succ, List.getElem_toArray, List.getElem_cons_zero]
          refine wpAnyH_take (i := 1) (v := .int .i64 j) rfl (by kernel_rfl) (by kernel_rfl) (by kernel_rfl) (fun _ _ _ h => h) (.inl ⟨by rfl, fun _ _ => rfl⟩) hS ?_
          simp only [Act.put, List.setIfInBounds_toArray, List.set_cons_zero, List.set_cons_succ, List.getElem_toArray, List.getElem_cons_succ, List.getElem_cons_zero]
          refine wpAnyH_take (i := 2) (v := .pointer (some ⟨g, o + j * 2, none⟩)) rfl (by kernel_rfl) (by kernel_rfl) (by kernel_rfl) (fun _ _ _ h => h) (.inl ⟨by rfl, fun _ _ => by go_simp⟩) hS ?_
          simp only [Act.put, List.setIfInBounds_toArray, List.set_cons_zero, List.set_cons_succ, List.getElem_toArray, List.getElem_cons_succ, List.getElem_cons_zero]
          refine wpAnyH_take (i := 3) (v := .pointer (some ⟨g, o + j * 2, none⟩)) rfl (by kernel_rfl) (by kernel_rfl) (by kernel_rfl) (fun _ _ _ h => h) (.inl ⟨by rfl, fun _ _ => by go_simp⟩) hS ?_
          simp only [Act.put, List.setIfInBounds_toArray, List.set_cons_zero, List.set_cons_succ, List.getElem_toArray, List.getElem_cons_succ, List.getElem_cons_zero]
          refine wpAnyH_take (i := 4) (v := .int .i64 yd) rfl (by kernel_rfl) (by kernel_rfl) (by kernel_rfl) (fun _ _ _ h => h) (.inl ⟨by rfl, fun w' hw' => by have c := (HSE.out w' hw').cell HCY.out id; go_simp⟩) hS ?_
          simp only [Act.put, List.setIfInBounds_toArray, List.set_cons_zero, List.set_cons_succ, List.getElem_toArray, List.getElem_cons_succ, List.getElem_cons_zero]
          refine wpAnyH_take (i := 5) (v := .slice (some ⟨g, o, none⟩) n ca) rfl (by kernel_rfl) (by kernel_rfl) (by kernel_rfl) (fun _ _ _ h => h) (.inl ⟨by rfl, fun _ _ => rfl⟩) hS ?_
          simp only [Act.put, List.setIfInBounds_toArray, List.set_cons_zero, List.set_cons_succ, List.getElem_toArray, List.getElem_cons_succ, List.getElem_cons_zero]
          refine wpAnyH_take (i := 6) (v := .int .i64 k) rfl (by kernel_rfl) (by kernel_rfl) (by kernel_rfl) (fun _ _ _ h => h) (.inl ⟨by rfl, fun _ _ => rfl⟩) hS ?_
          simp only [Act.put, List.setIfInBounds_toArray, List.set_cons_zero, List.set_cons_succ, List.getElem_toArray, List.getElem_cons_succ, List.getElem_cons_zero]
          refine wpAnyH_take (i := 7) (v := .pointer (some ⟨g, o + k * 2, none⟩)) rfl (by kernel_rfl) (by kernel_rfl) (by kernel_rfl) (fun _ _ _ h => h) (.inl ⟨by rfl, fun _ _ => by go_simp⟩) hS ?_
          simp only [Act.put, List.setIfInBounds_toArray, List.set_cons_zero, List.set_cons_succ, List.getElem_toArray, List.getElem_cons_succ, List.getElem_cons_zero]
          refine wpAnyH_take (i := 8) (v := .pointer (some ⟨g, o + k * 2, none⟩)) rfl (by kernel_rfl) (by kernel_rfl) (by kernel_rfl) (fun _ _ _ h => h) (.inl ⟨by rfl, fun _ _ => by go_simp⟩) hS ?_
          simp only [Act.put, List.setIfInBounds_toArray, List.set_cons_zero, List.set_cons_succ, List.getElem_toArray, List.getElem_cons_succ, List.getElem_cons_zero]
          refine wpAnyH_take (i := 9) (v := .int .i64 yd) rfl (by kernel_rfl) (by kernel_rfl) (by kernel_rfl) (fun _ _ _ h => h) (.inl ⟨by rfl, fun w' hw' => by have c := (HSE.out w' hw').cell HCX.out id; go_simp⟩) hS ?_
          simp only [Act.put, List.setIfInBounds_toArray, List.set_cons_zero, List.set_cons_succ, List.getElem_toArray, List.getElem_cons_succ, List.getElem_cons_zero]
          refine wpAnyH_take (i := 10) (v := .bool true) rfl (by kernel_rfl) (by kernel_rfl) (by kernel_rfl) (fun _ _ _ h => h) (.inl ⟨by rfl, fun _ _ => by go_simp⟩) hS ?_
          simp only [Act.put, List.setIfInBounds_toArray, List.set_cons_zero, List.set_cons_succ, List.getElem_toArray, List.getElem_cons_succ, List.getElem_cons_zero]
          refine wpAnyH_done (by kernel_rfl) ?_ _
          have HKR := Lib.hid (HSE.out _ hS)
          clear hS HSE HSI
          have HR := Lib.hid (HR.out.keep HKR.out fun _ _ => id)
          have HRB := Lib.hid (HRB.out.keep HKR.out fun _ _ => id)
          have HK := Lib.hid (HK.out.trans HKR.out)
          have HKZ := Lib.hid (HKZ.out.trans HKR.out)
          have HX := Lib.hid (HKR.out.rangeAt HX.out)
          have HKO := Lib.hid (HKO.out.trans HKR.out)
          have HY := Lib.hid (HKR.out.rangeAt HY.out)
          have HCE : Hid (cntD (xs.take (j + 1)) yd = q + 1) := Lib.hid (by rw [HTY.out, cntD_snoc, HC.out, if_pos HYD.out])
          go_wp2_with fail
          go_roundw
          case rel => exact ⟨j + 1, q + 1, by omega, by omega, by go_num, by go_num, HCE, HKO⟩
          case measure => simp [intOf]; omega
        · have hd2 : decide (yd = xd) = false := decide_eq_false hd
          go_wp2_with fail
          obtain ⟨S, hS0⟩ : ∃ S : World → Prop, S = fun w' => Keep noBlk wr w' := ⟨_, rfl⟩
          have HSE := Lib.hid (show ∀ w', S w' → Keep noBlk wr w' from fun w' h => by rw [hS0] at h; exact h)
          have HSI := Lib.hid (show ∀ w', Keep noBlk wr w' → S w' from fun w' h => by rw [hS0]; exact h)
          have hS : S wr.drew := by rw [hS0]; exact (Keep.refl _ _).drew
          clear hS0
          refine wp_region_held (S := S) (by kernel_rfl) ?_
          change wpAnyH _ _ _ _ _ _ _ _ wr.drew
          generalize wr.drew = w2 at hS ⊢
          refine wpAnyH_take (i := 0) (v := .slice (some ⟨g, o, none⟩) n ca) rfl (by kernel_rfl) (by kernel_rfl) (by kernel_rfl) (fun _ _ _ h => h) (.inl ⟨by rfl, fun _ _ => rfl⟩) hS ?_
          simp only [Act.put, List.setIfInBounds_toArray, List.set_cons_zero, List.set_cons_succ, List.getElem_toArray, List.getElem_cons_zero]
          refine wpAnyH_take (i := 1) (v := .int .i64 j) rfl (by kernel_rfl) (by kernel_rfl) (by kernel_rfl) (fun _ _ _ h => h) (.inl ⟨by rfl, fun _ _ => rfl⟩) hS ?_
          simp only [Act.put, List.setIfInBounds_toArray, List.set_cons_zero, List.set_cons_succ, List.getElem_toArray, List.getElem_cons_succ, List.getElem_cons_zero]
          refine wpAnyH_take (i := 2) (v := .pointer (some ⟨g, o + j * 2, none⟩)) rfl (by kernel_rfl) (by kernel_rfl) (by kernel_rfl) (fun _ _ _ h => h) (.inl ⟨by rfl, fun _ _ => by go_simp⟩) hS ?_
          simp only [Act.put, List.setIfInBounds_toArray, List.set_cons_zero, List.set_cons_succ, List.getElem_toArray, List.getElem_cons_succ, List.getElem_cons_zero]
          refine wpAnyH_take (i := 3) (v := .pointer (some ⟨g, o + j * 2, none⟩)) rfl (by kernel_rfl) (by kernel_rfl) (by kernel_rfl) (fun _ _ _ h => h) (.inl ⟨by rfl, fun _ _ => by go_simp⟩) hS ?_
          simp only [Act.put, List.setIfInBounds_toArray, List.set_cons_zero, List.set_cons_succ, List.getElem_toArray, List.getElem_cons_succ, List.getElem_cons_zero]
          refine wpAnyH_take (i := 4) (v := .int .i64 yd) rfl (by kernel_rfl) (by kernel_rfl) (by kernel_rfl) (fun _ _ _ h => h) (.inl ⟨by rfl, fun w' hw' => by have c := (HSE.out w' hw').cell HCY.out id; go_simp⟩) hS ?_
          simp only [Act.put, List.setIfInBounds_toArray, List.set_cons_zero, List.set_cons_succ, List.getElem_toArray, List.getElem_cons_succ, List.getElem_cons_zero]
          refine wpAnyH_take (i := 5) (v := .slice (some ⟨g, o, none⟩) n ca) rfl (by kernel_rfl) (by kernel_rfl) (by kernel_rfl) (fun _ _ _ h => h) (.inl ⟨by rfl, fun _ _ => rfl⟩) hS ?_
          simp only [Act.put, List.setIfInBounds_toArray, List.set_cons_zero, List.set_cons_succ, List.getElem_toArray, List.getElem_cons_succ, List.getElem_cons_zero]
          refine wpAnyH_take (i := 6) (v := .int .i64 k) rfl (by kernel_rfl) (by kernel_rfl) (by kernel_rfl) (fun _ _ _ h => h) (.inl ⟨by rfl, fun _ _ => rfl⟩) hS ?_
          simp only [Act.put, List.setIfInBounds_toArray, List.set_cons_zero, List.set_cons_succ, List.getElem_toArray, List.getElem_cons_succ, List.getElem_cons_zero]
          refine wpAnyH_take (i := 7) (v := .pointer (some ⟨g, o + k * 2, none⟩)) rfl (by kernel_rfl) (by kernel_rfl) (by kernel_rfl) (fun _ _ _ h => h) (.inl ⟨by rfl, fun _ _ => by go_simp⟩) hS ?_
          simp only [Act.put, List.setIfInBounds_toArray, List.set_cons_zero, List.set_cons_succ, List.getElem_toArray, List.getElem_cons_succ, List.getElem_cons_zero]
          refine wpAnyH_take (i := 8) (v := .pointer (some ⟨g, o + k * 2, none⟩)) rfl (by kernel_rfl) (by kernel_rfl) (by kernel_rfl) (fun _ _ _ h => h) (.inl ⟨by rfl, fun _ _ => by go_simp⟩) hS ?_
          simp only [Act.put, List.setIfInBounds_toArray, List.set_cons_zero, List.set_cons_succ, List.getElem_toArray, List.getElem_cons_succ, List.getElem_cons_zero]
          refine wpAnyH_take (i := 9) (v := .int .i64 xd) rfl (by kernel_rfl) (by kernel_rfl) (by kernel_rfl) (fun _ _ _ h => h) (.inl ⟨by rfl, fun w' hw' => by have c := (HSE.out w' hw').cell HCX.out id; go_simp⟩) hS ?_
          simp only [Act.put, List.setIfInBounds_toArray, List.set_cons_zero, List.set_cons_succ, List.getElem_toArray, List.getElem_cons_succ, List.getElem_cons_zero]
          refine wpAnyH_take (i := 10) (v := .bool false) rfl (by kernel_rfl) (by kernel_rfl) (by kernel_rfl) (fun _ _ _ h => h) (.inl ⟨by rfl, fun _ _ => by go_simp⟩) hS ?_
          simp only [Act.put, List.setIfInBounds_toArray, List.set_cons_zero, List.set_cons_succ, List.getElem_toArray, List.getElem_cons_succ, List.getElem_cons_zero]
          refine wpAnyH_done (by kernel_rfl) ?_ _
          have HKR := Lib.hid (HSE.out _ hS)
          clear hS HSE HSI
          have HR := Lib.hid (HR.out.keep HKR.out fun _ _ => id)
          have HRB := Lib.hid (HRB.out.keep HKR.out fun _ _ => id)
          have HK := Lib.hid (HK.out.trans HKR.out)
          have HKZ := Lib.hid (HKZ.out.trans HKR.out)
          have HX := Lib.hid (HKR.out.rangeAt HX.out)
          have HKO := Lib.hid (HKO.out.trans HKR.out)
          have HY := Lib.hid (HKR.out.rangeAt HY.out)
          have HCE : Hid (cntD (xs.take (j + 1)) xd = q) := Lib.hid (by rw [HTY.out, cntD_snoc, HC.out, if_neg (by rw [HYD.out]; exact hd)]; rfl)
          clear hd
          go_wp2_with fail
          go_roundw
          case rel => exact ⟨j + 1, q, by omega, by omega, by go_num, rfl, HCE, HKO⟩
          case measure => simp [intOf]; omega
      · obtain rfl : j = n := by omega
        have HR := Lib.hid (HR.out.keep HKI.out fun _ _ => id)
        have HRB := Lib.hid (HRB.out.keep HKI.out fun _ _ => id)
        have HK := Lib.hid (HK.out.trans HKI.out)
        have HKZ := Lib.hid (HKZ.out.trans HKI.out)
        have HX := Lib.hid (HKI.out.rangeAt HX.out)
        have HKO := Lib.hid (HKO.out.trans HKI.out)
        have hcq : cntD xs xd = q := by have := HC.out; rwa [List.take_of_length_le (by rw [HN.out]; exact Nat.le_refl _)] at this
        have HTE : Hid (eachB xs (xs.take (k + 1)) = (b && decide (q = 1))) := Lib.hid (by
          rw [HTX.out, HT.out, ← hcq, ← HXD.out]
          simp [eachB])
        clear hcq
        cases b
        · go_wp2_with fail
          go_roundw
          case rel => exact ⟨k + 1, false, by omega, by go_num, rfl, Lib.hid (by rw [HTE.out]; rfl), HKZ⟩
          case measure => simp [intOf]; omega
        · by_cases hq1 : q = 1
          · subst hq1
            go_wp2_with fail
            go_roundw
            case rel => exact ⟨k + 1, true, by omega, by go_num, rfl, Lib.hid (by rw [HTE.out]; rfl), HKZ⟩
            case measure => simp [intOf]; omega
          · have hqi : ¬ (q : Int) = 1 := by omega
            have hqd : decide ((q : Int) = 1) = false := decide_eq_false hqi
            have hqb : ((q : Int) == 1) = false := beq_eq_false_iff_ne.2 hqi
            have hqn : decide (q = 1) = false := decide_eq_false hq1
            have HTE2 : Hid (false = eachB xs (xs.take (k + 1))) := Lib.hid (by rw [HTE.out, hqn]; rfl)
            go_wp2_with fail
            go_roundw
            case rel => exact ⟨k + 1, false, by omega, by go_num, rfl, HTE2, HKZ⟩
            case measure => simp [intOf]; omega
    · obtain rfl : k = n := by omega
      have HR := Lib.hid (HR.out.keep HKR.out fun _ _ => id)
      have HRB := Lib.hid (HRB.out.keep HKR.out fun _ _ => id)
      have HK := Lib.hid (HK.out.trans HKR.out)
      have HKZ := Lib.hid (HKZ.out.trans HKR.out)
      have hb : b = bb := by
        have := HT.out
        rw [List.take_of_length_le (by rw [HN.out]; exact Nat.le_refl _)] at this
        rw [this, ← HBB.out]
        exact HEA.out
      subst hb
      have he := HEQ.out
      go_wp2_with fail
      refine (CA.out _ _ HR.out).mono ?_
      rintro e w2 ⟨rfl, hk⟩
      have HR := Lib.hid (HR.out.keep hk fun _ _ => id)
      have HRB := Lib.hid (HRB.out.keep hk fun _ _ => id)
      have HK := Lib.hid (HK.out.trans hk)
      have HKZ := Lib.hid (HKZ.out.trans hk)
      clear hk
      clear CA
      cases b
      · go_wp2_with fail
        go_ret
        exact ⟨rfl, HK.out⟩
      · obtain ⟨he1, he2, he3⟩ := HAE.out (of_decide_eq_true HBB.out)
        have hul : U.length = k := he2
        rw [decide_eq_true he1, hul] at HCC
        rw [decide_eq_true he3] at HCF
        have HUL := Lib.hid hul
        clear he1 he2 he3 hul
        go_wp2_with fail
        refine (HCS.out _ _ HR.out (by omega)).mono ?_
        rintro e ws ⟨v, rfl, ho2, hk2⟩
        rw [HUL.out] at ho2
        obtain ⟨va, vc, rfl, -, -⟩ := (Rd.of_owns ho2).form
        have HR := Lib.hid (HR.out.keep hk2 fun _ _ => id)
        have HRB := Lib.hid (HRB.out.keep hk2 fun _ _ => id)
        have HK := Lib.hid (HK.out.trans hk2)
        have HKZ := Lib.hid (HKZ.out.trans hk2)
        have HU := Lib.hid (Rd.of_owns ho2)
        clear ho2 hk2
        go_wp2_with fail
        refine (HCC.out _ _ HU.out).mono ?_
        rintro e w3 ⟨rfl, hk⟩
        have HR := Lib.hid (HR.out.keep hk fun _ _ => id)
        have HRB := Lib.hid (HRB.out.keep hk fun _ _ => id)
        have HK := Lib.hid (HK.out.trans hk)
        have HKZ := Lib.hid (HKZ.out.trans hk)
        have HU := Lib.hid (HU.out.keep hk fun _ _ => id)
        clear hk
        go_wp2_with fail
        refine (HCS.out _ _ HR.out (by omega)).mono ?_
        rintro e ws2 ⟨v, rfl, ho2, hk2⟩
        rw [HUL.out] at ho2
        obtain ⟨va2, vc2, rfl, -, -⟩ := (Rd.of_owns ho2).form
        have HR := Lib.hid (HR.out.keep hk2 fun _ _ => id)
        have HRB := Lib.hid (HRB.out.keep hk2 fun _ _ => id)
        have HK := Lib.hid (HK.out.trans hk2)
        have HKZ := Lib.hid (HKZ.out.trans hk2)
        have HU := Lib.hid (HU.out.keep hk2 fun _ _ => id)
        clear ho2 hk2
        go_wp2_with fail
        refine (HCM.out _ _ _ HR.out HRB.out (by omega)).mono ?_
        rintro e ws3 ⟨v, rfl, ho2, hk2⟩
        obtain ⟨va3, vc3, rfl, -, -⟩ := (Rd.of_owns ho2).form
        have HR := Lib.hid (HR.out.keep hk2 fun _ _ => id)
        have HRB := Lib.hid (HRB.out.keep hk2 fun _ _ => id)
        have HK := Lib.hid (HK.out.trans hk2)
        have HKZ := Lib.hid (HKZ.out.trans hk2)
        have HU := Lib.hid (HU.out.keep hk2 fun _ _ => id)
        have HV := Lib.hid (Rd.of_owns ho2)
        clear ho2 hk2
        go_wp2_with fail
        refine (HCF.out _ _ HV.out).mono ?_
        rintro e w4 ⟨rfl, hk⟩
        have HR := Lib.hid (HR.out.keep hk fun _ _ => id)
        have HRB := Lib.hid (HRB.out.keep hk fun _ _ => id)
        have HK := Lib.hid (HK.out.trans hk)
        have HKZ := Lib.hid (HKZ.out.trans hk)
        have HU := Lib.hid (HU.out.keep hk fun _ _ => id)
        have HV := Lib.hid (HV.out.keep hk fun _ _ => id)
        clear hk
        go_wp2_with fail
        go_ret
        exact ⟨rfl, HK.out⟩
end Go.Proofs.Ytnpmiocajmhjoaa
