/- A part of the proof. Conditions: those told. -/
namespace Go.Proofs.YthihofpfonfjfaaGreatDoor
set_option maxHeartbeats 64000000
set_option maxRecDepth 100000
set_option linter.unusedVariables false
section
def wst(s:List UInt8×Int)(r:List UInt8×Int):List UInt8×Int:=
 if s.2=0 then (if r.2=0 then (if 65536<s.1.length+r.1.length then (s.1,3) else (s.1++r.1,0)) else (s.1,r.2)) else s
theorem Lb(s r:List UInt8×Int)(h:s.1.length≤65536):(wst s r).1.length≤65536:=by
 unfold wst;split
 ·split
  ·split
   ·exact h
   ·simp only[List.length_append];omega
  ·exact h
 ·exact h
def iE(n size j:Nat):UInt8:=UInt8.ofNat (n / 2 ^ (8*(size-1-j)))
def be(n size:Nat):List UInt8:=(List.range size).map (iE n size)
theorem bD(n size:Nat):(be n size).length=size:=by simp[be]
theorem rA(n s k:Nat):((iE n s k).toNat:Int)=(n:Int) / 2 ^ (8*(s-k-1)) % 256:=by
 unfold iE;rw[show s-1-k=s-k-1 by omega];simp
theorem qN{α:Type}(f:Nat->α)(k:Nat):(List.range (k+1)).map f=(List.range k).map f++[f k]:=by simp[List.range_succ]
def eS(n size:Int):List UInt8×Int:=
 if size<1\/7<size then ([],2) else if n<0\/n / 2 ^ (8*size).toNat≠0 then ([],5) else (be n.toNat size.toNat,0)
def kA(to:Int)(l:List UInt8):List UInt8×Int:=
 if 65536<to\/to<l.length then ([],2) else (List.replicate (to.toNat-l.length) 0,0)
theorem EU(to:Int)(l:List UInt8):(kA to l).1.length≤65536:=by
 unfold kA;split
 ·simp
 ·simp;omega
structure Lab where
 pool:List UInt8
 dev:Int
 devs:Int
 copies:Int
 sectors:Int
 life:Int
def Lab.may(L:Lab):Bool:=decide ((2≤L.devs/\L.devs≤8)/\(0≤L.dev/\L.dev≤L.devs-1)/\(1≤L.copies/\L.copies≤3/\L.copies≤L.devs)/\(8≤L.sectors/\L.sectors≤4096)/\(0≤L.life/\L.life≤2147483648))
def bV:List UInt8:=[67,65,85,76,75,69,82,49]
def lW(L:Lab)(k:Nat)(l:List UInt8):List UInt8×Int:=
 match k with
 | 0=>(bV,0)
 | 1=>(L.pool,0)
 | 2=>eS L.dev 1
 | 3=>eS L.devs 1
 | 4=>eS L.copies 1
 | 5=>eS L.sectors 2
 | 6=>eS L.life 5
 | _=>kA 224 l
def dE(L:Lab):Nat->List UInt8×Int
 | 0=>([],0)
 | k+1=>wst (dE L k) (lW L k (dE L k).1)
theorem C4(L:Lab):∀k,(dE L k).1.length≤65536
 | 0=>by simp[dE]
 | k+1=>Lb _ _ (C4 L k)
def iB(L:Lab):List UInt8:=bV++L.pool++be L.dev.toNat 1++be L.devs.toNat 1++be L.copies.toNat 1++be L.sectors.toNat 2++be L.life.toNat 5
def bP(L:Lab):List UInt8:=iB L++List.replicate 174 0
theorem nK(L:Lab)(h:L.pool.length=32):(iB L).length=50:=by simp[iB,bV,bD,h]
theorem qT(L:Lab)(h:L.pool.length=32):(bP L).length=224:=by
 unfold bP;rw[List.length_append,List.length_replicate,nK L h]
theorem nA{n size:Int}(h1:1≤size)(h2:size≤7)(h3:0≤n)(h4:n<2 ^ (8*size).toNat):eS n size=(be n.toNat size.toNat,0):=by
 unfold eS;rw[if_neg (by omega),if_neg];intro h;rcases h with h|h
 ·omega
 ·exact h (Int.ediv_eq_zero_of_lt h3 h4)
theorem nC(l b:List UInt8)(h:l.length+b.length≤65536):wst (l,0) (b,0)=(l++b,0):=by
 simp only[wst];rw[if_pos trivial,if_pos trivial,if_neg (by omega)]
theorem LS(L:Lab)(h:L.pool.length=32)(hm:L.may=true):dE L 8=(bP L,0):=by
 have hm:=of_decide_eq_true hm;have e2:lW L 2 (dE L 2).1=(be L.dev.toNat 1,0):=nA (by omega) (by omega) (by omega) (by simp;omega);have e3:lW L 3 (dE L 3).1=(be L.devs.toNat 1,0):=nA (by omega) (by omega) (by omega) (by simp;omega);have e4:lW L 4 (dE L 4).1=(be L.copies.toNat 1,0):=nA (by omega) (by omega) (by omega) (by simp;omega);have e5:lW L 5 (dE L 5).1=(be L.sectors.toNat 2,0):=nA (by omega) (by omega) (by omega) (by simp;omega);have e6:lW L 6 (dE L 6).1=(be L.life.toNat 5,0):=nA (by omega) (by omega) (by omega) (by simp;omega)
 have s1:dE L 1=(bV,0):=by
  show wst ([],0) (bV,0)=_;rw[nC _ _ (by simp[bV])];rfl
 have s2:dE L 2=(bV++L.pool,0):=by
  show wst (dE L 1) (L.pool,0)=_;rw[s1,nC _ _ (by simp[bV,h])]
 have s3:dE L 3=(bV++L.pool++be L.dev.toNat 1,0):=by
  show wst (dE L 2) (lW L 2 (dE L 2).1)=_;rw[e2,s2,nC _ _ (by simp[bV,h,bD])]
 have s4:dE L 4=(bV++L.pool++be L.dev.toNat 1++be L.devs.toNat 1,0):=by
  show wst (dE L 3) (lW L 3 (dE L 3).1)=_;rw[e3,s3,nC _ _ (by simp[bV,h,bD])]
 have s5:dE L 5=(bV++L.pool++be L.dev.toNat 1++be L.devs.toNat 1++be L.copies.toNat 1,0):=by
  show wst (dE L 4) (lW L 4 (dE L 4).1)=_;rw[e4,s4,nC _ _ (by simp[bV,h,bD])]
 have s6:dE L 6=(bV++L.pool++be L.dev.toNat 1++be L.devs.toNat 1++be L.copies.toNat 1++be L.sectors.toNat 2,0):=by
  show wst (dE L 5) (lW L 5 (dE L 5).1)=_;rw[e5,s5,nC _ _ (by simp[bV,h,bD])]
 have s7:dE L 7=(iB L,0):=by
  show wst (dE L 6) (lW L 6 (dE L 6).1)=_;rw[e6,s6,nC _ _ (by simp[bV,h,bD])];rfl
 have e7:lW L 7 (iB L)=(List.replicate 174 0,0):=by
  show kA 224 (iB L)=_;unfold kA;rw[nK L h,if_neg (by omega)];rfl
 show wst (dE L 7) (lW L 7 (dE L 7).1)=_;rw[s7,e7,nC _ _ (by rw[List.length_replicate,nK L h];omega)];rfl
end
end Go.Proofs.YthihofpfonfjfaaGreatDoor
