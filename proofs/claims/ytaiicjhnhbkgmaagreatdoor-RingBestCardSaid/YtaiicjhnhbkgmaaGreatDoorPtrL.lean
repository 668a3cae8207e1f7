/-
  Block pointers: what they are, which may be, their bytes; as cells.
  Conditions: those told.
-/
import Derived.Test.YtaiicjhnhbkgmaaGreatDoorAdU
import Derived.Test.YtaiicjhnhbkgmaaGreatDoorFill
import Derived.Stop.BytesEq
namespace Go.Proofs.YtaiicjhnhbkgmaaGreatDoor
open Go.RowKit Go.Maps Go.ChangeMaps
set_option maxRecDepth 100000
set_option linter.unusedVariables false

/-- A pointer. -/
structure Pt where
  addrs : List Ad
  birth : Int
  level : Int
  sum : List UInt8
def zeros32 : List UInt8 := List.replicate 32 0
theorem zeros32_len : zeros32.length = 32 := rfl
def Pt.noth (p : Pt) : Bool := (p.birth == 0) && (p.level == 0) && decide (p.sum = zeros32)
def Pt.hole (p : Pt) : Bool := ((p.addrs.length : Int) == 0) && p.noth
def adIn (a : Ad) : Bool := decide (0 ≤ a.dev) && decide (a.dev < 8) && decide (5 ≤ a.sec) && decide (a.sec < 4096)
def adsB (l : List Ad) : Bool := l.all adIn && decide ((l.map (·.dev)).Nodup) && decide (1 ≤ l.length) && decide (l.length ≤ 3)
def Pt.numsB (p : Pt) : Bool := decide (1 ≤ p.birth) && decide (p.birth ≤ 2147483648) && decide (0 ≤ p.level) && decide (p.level ≤ 3)
def Pt.may (p : Pt) : Bool := p.hole || (adsB p.addrs && p.numsB)
def Pt.like (p q : Pt) : Bool := (p.birth == q.birth) && (p.level == q.level) && decide (p.sum = q.sum) && (decide (0 < p.addrs.length) == decide (0 < q.addrs.length))
/-- An uberblock. -/
structure Ub where
  txg : Int
  root : Pt
  len : Int
  pool : List UInt8
def Ub.may (u : Ub) : Bool := decide (1 ≤ u.txg) && decide (u.txg ≤ 2147483648) && decide (0 ≤ u.len) && decide (u.len ≤ 16384) && (u.root.hole || (u.root.may && (u.root.level == 3) && decide (u.root.birth ≤ u.txg)))

/-- A pointer's cells. -/
def ptCs (v : Value) (p : Pt) : List Value := v :: .int .i64 p.birth :: .int .i64 p.level :: p.sum.map vb
def ubCs (v : Value) (u : Ub) : List Value := .int .i64 u.txg :: (ptCs v u.root ++ (.int .i64 u.len :: u.pool.map vb))
theorem ptCs_len {v : Value} {p : Pt} (h : p.sum.length = 32) : (ptCs v p).length = 35 := by simp [ptCs, h]
theorem ubCs_len {v : Value} {u : Ub} (h : u.root.sum.length = 32) (h' : u.pool.length = 32) : (ubCs v u).length = 69 := by simp [ubCs, ptCs, h, h']
theorem range_mid {w : World} {b o : Nat} {A B C : List Value} (h : w.rangeAt b o (A ++ (B ++ C))) : w.rangeAt b (o + A.length) B := fun j v hj => by
  have hl := (List.getElem?_eq_some_iff.1 hj).1
  have := h (A.length + j) v (by rw [List.getElem?_append_right (by omega), show A.length + j - A.length = j by omega, List.getElem?_append_left hl]; exact hj)
  rwa [← Nat.add_assoc] at this
theorem pt_mem {w : World} {b o : Nat} {v : Value} {p : Pt} (h : w.rangeAt b o (ptCs v p)) : w.cell? ⟨b, o, none⟩ = some v ∧ w.cell? ⟨b, o + 1, none⟩ = some (.int .i64 p.birth) ∧ w.cell? ⟨b, o + 2, none⟩ = some (.int .i64 p.level) ∧ w.rangeAt b (o + 3) (p.sum.map vb) := by
  refine ⟨h 0 _ rfl, h 1 _ rfl, h 2 _ rfl, ?_⟩
  have h2 : w.rangeAt b o ([v, .int .i64 p.birth, .int .i64 p.level] ++ (p.sum.map vb ++ [])) := by rw [List.append_nil]; exact h
  exact range_mid h2
theorem ub_mem {w : World} {b o : Nat} {v : Value} {u : Ub} (hs : u.root.sum.length = 32) (h : w.rangeAt b o (ubCs v u)) : w.cell? ⟨b, o, none⟩ = some (.int .i64 u.txg) ∧ w.rangeAt b (o + 1) (ptCs v u.root) ∧ w.cell? ⟨b, o + 36, none⟩ = some (.int .i64 u.len) ∧ w.rangeAt b (o + 37) (u.pool.map vb) := by
  refine ⟨h 0 _ rfl, ?_, ?_, ?_⟩
  · have h2 : w.rangeAt b o ([.int .i64 u.txg] ++ (ptCs v u.root ++ (.int .i64 u.len :: u.pool.map vb))) := h
    exact range_mid h2
  · have h2 : w.rangeAt b o ((.int .i64 u.txg :: ptCs v u.root) ++ ([.int .i64 u.len] ++ u.pool.map vb)) := h
    have h3 := range_mid h2 0 _ rfl
    rw [show (Value.int .i64 u.txg :: ptCs v u.root).length = 36 by rw [List.length_cons, ptCs_len hs]] at h3
    exact h3
  · have h2 : w.rangeAt b o ((.int .i64 u.txg :: (ptCs v u.root ++ [.int .i64 u.len])) ++ (u.pool.map vb ++ [])) := by
      have e : ubCs v u = (.int .i64 u.txg :: (ptCs v u.root ++ [.int .i64 u.len])) ++ (u.pool.map vb ++ []) := by simp [ubCs]
      rw [← e]; exact h
    have h3 := range_mid h2
    rw [show (Value.int .i64 u.txg :: (ptCs v u.root ++ [.int .i64 u.len])).length = 37 by rw [List.length_cons, List.length_append, ptCs_len hs]; rfl] at h3
    exact h3
theorem ptUnder : Tryz.prog.underlying 34 = some (.struct (Tryz.prog.fieldsOf 34)) := by kernel_rfl
theorem sizePt : (Tryz.prog.info? 34).map (·.size) = some 35 := by kernel_rfl
theorem ubUnder : Tryz.prog.underlying 36 = some (.struct (Tryz.prog.fieldsOf 36)) := by kernel_rfl
theorem sizeUb : (Tryz.prog.info? 36).map (·.size) = some 69 := by kernel_rfl
theorem sizePtL {l : List Value} (h : l.length = 35) : (Tryz.prog.info? 34).map (·.size) = some l.length := by rw [h]; exact sizePt
theorem sizeUbL {l : List Value} (h : l.length = 69) : (Tryz.prog.info? 36).map (·.size) = some l.length := by rw [h]; exact sizeUb
theorem sizeIDL {l : List Value} (h : l.length = 32) : (Tryz.prog.info? 32).map (·.size) = some l.length := by rw [h]; exact sizeID
theorem sizeOfU8 (w : World) : (sizeOf 5).run Tryz.prog w = .ok 1 w := by kernel_rfl
theorem eqID (xs ys : List UInt8) (hx : xs.length = 32) (hy : ys.length = 32) (w : World) : Sem.run Tryz.prog (binOp .eql 32 (.agg (xs.map vb).toArray) (.agg (ys.map vb).toArray)) w = .ok (.bool (decide (xs = ys))) w := by
  have := run_eql_bytes (P := Tryz.prog) w 32 5 32 Tryz.underlying32 Tryz.underlying5 sizeOfU8 xs ys hx hy
  rw [show decide (xs = ys) = (xs == ys) by rw [Bool.eq_iff_iff]; simp]
  exact this
theorem idGuard : Tryz.prog.eqGuardType Tryz.prog.depth 32 = false := by kernel_rfl
theorem zero32_eq : Array.replicate 32 (Value.int .u8 0) = (zeros32.map vb).toArray := rfl
theorem buildID (w : World) : (Instr.build 32 #[]).run Tryz.prog w = .ok (.agg (zeros32.map vb).toArray) w := by kernel_rfl
/-- What a pointer's value reads. -/
structure PtV (w : World) (v : Value) (p : Pt) : Prop where
  rd : Rd w 2 v p.addrs.length (adCells p.addrs)
  ads : AdsOk p.addrs
  sum : p.sum.length = 32
theorem PtV.keep {T : Nat → Prop} {w w' : World} {v : Value} {p : Pt} (h : PtV w v p) (k : Keep T w w') (hT : ∀ i, v.ownBlock = some i → ¬ T i) : PtV w' v p := ⟨h.rd.keep k hT, h.ads, h.sum⟩
structure UbV (w : World) (v : Value) (u : Ub) : Prop where
  root : PtV w v u.root
  pool : u.pool.length = 32
theorem UbV.keep {T : Nat → Prop} {w w' : World} {v : Value} {u : Ub} (h : UbV w v u) (k : Keep T w w') (hT : ∀ i, v.ownBlock = some i → ¬ T i) : UbV w' v u := ⟨h.root.keep k hT, h.pool⟩
theorem len_zero {n : Nat} : ((n : Int) == 0) = decide (n = 0) := by rw [Bool.eq_iff_iff]; simp
end Go.Proofs.YtaiicjhnhbkgmaaGreatDoor
