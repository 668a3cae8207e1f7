namespace Go.Proofs.YtiinnfhjpaeffaaGreat
set_option maxHeartbeats 64000000
set_option maxRecDepth 100000
set_option linter.unusedVariables false
section
def wst(s:List UInt8×Int)(r:List UInt8×Int):List UInt8×Int:=
 if s.2=0 then (if r.2=0 then (if 65536<s.1.length+r.1.length then (s.1,3) else (s.1++r.1,0)) else (s.1,r.2)) else s
theorem LQ(s r:List UInt8×Int)(h:s.1.length≤65536):(wst s r).1.length≤65536:=by
 unfold wst;split
 ·split
  ·split
   ·exact h
   ·simp only[List.length_append];omega
  ·exact h
 ·exact h
def iF(n size j:Nat):UInt8:=UInt8.ofNat (n / 2 ^ (8*(size-1-j)))
def be(n size:Nat):List UInt8:=(List.range size).map (iF n size)
theorem bH(n size:Nat):(be n size).length=size:=by simp[be]
theorem sD(n s k:Nat):((iF n s k).toNat:Int)=(n:Int) / 2 ^ (8*(s-k-1)) % 256:=by
 unfold iF;rw[show s-1-k=s-k-1 by omega];simp
theorem rE{α:Type}(f:Nat->α)(k:Nat):(List.range (k+1)).map f=(List.range k).map f++[f k]:=by simp[List.range_succ]
def eK(n size:Int):List UInt8×Int:=
 if size<1\/7<size then ([],2) else if n<0\/n / 2 ^ (8*size).toNat≠0 then ([],5) else (be n.toNat size.toNat,0)
def iL(to:Int)(l:List UInt8):List UInt8×Int:=
 if 65536<to\/to<l.length then ([],2) else (List.replicate (to.toNat-l.length) 0,0)
theorem FB(to:Int)(l:List UInt8):(iL to l).1.length≤65536:=by
 unfold iL;split
 ·simp
 ·simp;omega
structure Lab where
 pool:List UInt8
 dev:Int
 devs:Int
 copies:Int
 sectors:Int
 life:Int
def Lab.may(L:Lab):Bool:=decide ((2≤L.devs/\L.devs≤8)/\(0≤L.dev/\L.dev≤L.devs-1)/\(1≤L.copies/\L.copies≤3/\L.copies≤L.devs)/\(8≤L.sectors/\L.sectors≤4096)/\(0≤L.life/\L.life≤2147483648))
def bU:List UInt8:=[67,65,85,76,75,69,82,49]
def mM(L:Lab)(k:Nat)(l:List UInt8):List UInt8×Int:=
 match k with
 | 0=>(bU,0)
 | 1=>(L.pool,0)
 | 2=>eK L.dev 1
 | 3=>eK L.devs 1
 | 4=>eK L.copies 1
 | 5=>eK L.sectors 2
 | 6=>eK L.life 5
 | _=>iL 224 l
def dH(L:Lab):Nat->List UInt8×Int
 | 0=>([],0)
 | k+1=>wst (dH L k) (mM L k (dH L k).1)
theorem De(L:Lab):∀k,(dH L k).1.length≤65536
 | 0=>by simp[dH]
 | k+1=>LQ _ _ (De L k)
def iB(L:Lab):List UInt8:=bU++L.pool++be L.dev.toNat 1++be L.devs.toNat 1++be L.copies.toNat 1++be L.sectors.toNat 2++be L.life.toNat 5
def bQ(L:Lab):List UInt8:=iB L++List.replicate 174 0
theorem oH(L:Lab)(h:L.pool.length=32):(iB L).length=50:=by simp[iB,bU,bH,h]
theorem rJ(L:Lab)(h:L.pool.length=32):(bQ L).length=224:=by
 unfold bQ;rw[List.length_append,List.length_replicate,oH L h]
theorem jM{n size:Int}(h1:1≤size)(h2:size≤7)(h3:0≤n)(h4:n<2 ^ (8*size).toNat):eK n size=(be n.toNat size.toNat,0):=by
 unfold eK;rw[if_neg (by omega),if_neg];intro h;rcases h with h|h
 ·omega
 ·exact h (Int.ediv_eq_zero_of_lt h3 h4)
theorem lP(l b:List UInt8)(h:l.length+b.length≤65536):wst (l,0) (b,0)=(l++b,0):=by
 simp only[wst];rw[if_pos trivial,if_pos trivial,if_neg (by omega)]
theorem Mn(L:Lab)(h:L.pool.length=32)(hm:L.may=true):dH L 8=(bQ L,0):=by
 have hm:=of_decide_eq_true hm;have e2:mM L 2 (dH L 2).1=(be L.dev.toNat 1,0):=jM (by omega) (by omega) (by omega) (by simp;omega);have e3:mM L 3 (dH L 3).1=(be L.devs.toNat 1,0):=jM (by omega) (by omega) (by omega) (by simp;omega);have e4:mM L 4 (dH L 4).1=(be L.copies.toNat 1,0):=jM (by omega) (by omega) (by omega) (by simp;omega);have e5:mM L 5 (dH L 5).1=(be L.sectors.toNat 2,0):=jM (by omega) (by omega) (by omega) (by simp;omega);have e6:mM L 6 (dH L 6).1=(be L.life.toNat 5,0):=jM (by omega) (by omega) (by omega) (by simp;omega)
 have s1:dH L 1=(bU,0):=by
  show wst ([],0) (bU,0)=_;rw[lP _ _ (by simp[bU])];rfl
 have s2:dH L 2=(bU++L.pool,0):=by
  show wst (dH L 1) (L.pool,0)=_;rw[s1,lP _ _ (by simp[bU,h])]
 have s3:dH L 3=(bU++L.pool++be L.dev.toNat 1,0):=by
  show wst (dH L 2) (mM L 2 (dH L 2).1)=_;rw[e2,s2,lP _ _ (by simp[bU,h,bH])]
 have s4:dH L 4=(bU++L.pool++be L.dev.toNat 1++be L.devs.toNat 1,0):=by
  show wst (dH L 3) (mM L 3 (dH L 3).1)=_;rw[e3,s3,lP _ _ (by simp[bU,h,bH])]
 have s5:dH L 5=(bU++L.pool++be L.dev.toNat 1++be L.devs.toNat 1++be L.copies.toNat 1,0):=by
  show wst (dH L 4) (mM L 4 (dH L 4).1)=_;rw[e4,s4,lP _ _ (by simp[bU,h,bH])]
 have s6:dH L 6=(bU++L.pool++be L.dev.toNat 1++be L.devs.toNat 1++be L.copies.toNat 1++be L.sectors.toNat 2,0):=by
  show wst (dH L 5) (mM L 5 (dH L 5).1)=_;rw[e5,s5,lP _ _ (by simp[bU,h,bH])]
 have s7:dH L 7=(iB L,0):=by
  show wst (dH L 6) (mM L 6 (dH L 6).1)=_;rw[e6,s6,lP _ _ (by simp[bU,h,bH])];rfl
 have e7:mM L 7 (iB L)=(List.replicate 174 0,0):=by
  show iL 224 (iB L)=_;unfold iL;rw[oH L h,if_neg (by omega)];rfl
 show wst (dH L 7) (mM L 7 (dH L 7).1)=_;rw[s7,e7,lP _ _ (by rw[List.length_replicate,oH L h];omega)];rfl
end
end Go.Proofs.YtiinnfhjpaeffaaGreat
