namespace Go.Proofs.YtiinnfhjpaeffaaGreat
set_option maxHeartbeats 0
set_option maxRecDepth 100000
set_option linter.unusedVariables false
section
def wst(s:List UInt8×Int)(r:List UInt8×Int):List UInt8×Int:=
 if s.2=0 then (if r.2=0 then (if 65536<s.1.length+r.1.length then (s.1,3) else (s.1++r.1,0)) else (s.1,r.2)) else s
theorem NY(s r:List UInt8×Int)(h:s.1.length≤65536):(wst s r).1.length≤65536:=by
 unfold wst;split
 ·split
  ·split
   ·exact h
   ·simp only[List.length_append];omega
  ·exact h
 ·exact h
def jI(n size j:Nat):UInt8:=UInt8.ofNat (n / 2 ^ (8*(size-1-j)))
def be(n size:Nat):List UInt8:=(List.range size).map (jI n size)
theorem bL(n size:Nat):(be n size).length=size:=by simp[be]
theorem uO(n s k:Nat):((jI n s k).toNat:Int)=(n:Int) / 2 ^ (8*(s-k-1)) % 256:=by
 unfold jI;rw[show s-1-k=s-k-1 by omega];simp
theorem tI{α:Type}(f:Nat->α)(k:Nat):(List.range (k+1)).map f=(List.range k).map f++[f k]:=by simp[List.range_succ]
def fB(n size:Int):List UInt8×Int:=
 if size<1\/7<size then ([],2) else if n<0\/n / 2 ^ (8*size).toNat≠0 then ([],5) else (be n.toNat size.toNat,0)
def jR(to:Int)(l:List UInt8):List UInt8×Int:=
 if 65536<to\/to<l.length then ([],2) else (List.replicate (to.toNat-l.length) 0,0)
theorem Ia(to:Int)(l:List UInt8):(jR to l).1.length≤65536:=by
 unfold jR;split
 ·simp
 ·simp;omega
structure Lab where
 pool:List UInt8
 dev:Int
 devs:Int
 copies:Int
 sectors:Int
 life:Int
def Lab.may(L:Lab):Bool:=decide ((2≤L.devs/\L.devs≤8)/\(0≤L.dev/\L.dev≤L.devs-1)/\(1≤L.copies/\L.copies≤3/\L.copies≤L.devs)/\(8≤L.sectors/\L.sectors≤4096)/\(0≤L.life/\L.life≤2147483648))
def cH:List UInt8:=[67,65,85,76,75,69,82,49]
def oD(L:Lab)(k:Nat)(l:List UInt8):List UInt8×Int:=
 match k with
 | 0=>(cH,0)
 | 1=>(L.pool,0)
 | 2=>fB L.dev 1
 | 3=>fB L.devs 1
 | 4=>fB L.copies 1
 | 5=>fB L.sectors 2
 | 6=>fB L.life 5
 | _=>jR 224 l
def dP(L:Lab):Nat->List UInt8×Int
 | 0=>([],0)
 | k+1=>wst (dP L k) (oD L k (dP L k).1)
theorem EQ(L:Lab):∀k,(dP L k).1.length≤65536
 | 0=>by simp[dP]
 | k+1=>NY _ _ (EQ L k)
def iZ(L:Lab):List UInt8:=cH++L.pool++be L.dev.toNat 1++be L.devs.toNat 1++be L.copies.toNat 1++be L.sectors.toNat 2++be L.life.toNat 5
def bY(L:Lab):List UInt8:=iZ L++List.replicate 174 0
theorem pW(L:Lab)(h:L.pool.length=32):(iZ L).length=50:=by simp[iZ,cH,bL,h]
theorem tP(L:Lab)(h:L.pool.length=32):(bY L).length=224:=by
 unfold bY;rw[List.length_append,List.length_replicate,pW L h]
theorem kQ{n size:Int}(c:1≤size)(d:size≤7)(a:0≤n)(b:n<2 ^ (8*size).toNat):fB n size=(be n.toNat size.toNat,0):=by
 unfold fB;rw[if_neg (by omega),if_neg];intro h;rcases h with h|h
 ·omega
 ·exact h (Int.ediv_eq_zero_of_lt a b)
theorem nC(l b:List UInt8)(h:l.length+b.length≤65536):wst (l,0) (b,0)=(l++b,0):=by
 simp only[wst];rw[if_pos trivial,if_pos trivial,if_neg (by omega)]
theorem Ow(L:Lab)(h:L.pool.length=32)(a:L.may=true):dP L 8=(bY L,0):=by
 have a:=of_decide_eq_true a;have b:oD L 2 (dP L 2).1=(be L.dev.toNat 1,0):=kQ (by omega) (by omega) (by omega) (by simp;omega);have c:oD L 3 (dP L 3).1=(be L.devs.toNat 1,0):=kQ (by omega) (by omega) (by omega) (by simp;omega);have d:oD L 4 (dP L 4).1=(be L.copies.toNat 1,0):=kQ (by omega) (by omega) (by omega) (by simp;omega);have e:oD L 5 (dP L 5).1=(be L.sectors.toNat 2,0):=kQ (by omega) (by omega) (by omega) (by simp;omega);have f:oD L 6 (dP L 6).1=(be L.life.toNat 5,0):=kQ (by omega) (by omega) (by omega) (by simp;omega)
 have s1:dP L 1=(cH,0):=by
  show wst ([],0) (cH,0)=_;rw[nC _ _ (by simp[cH])];rfl
 have s2:dP L 2=(cH++L.pool,0):=by
  show wst (dP L 1) (L.pool,0)=_;rw[s1,nC _ _ (by simp[cH,h])]
 have i:dP L 3=(cH++L.pool++be L.dev.toNat 1,0):=by
  show wst (dP L 2) (oD L 2 (dP L 2).1)=_;rw[b,s2,nC _ _ (by simp[cH,h,bL])]
 have j:dP L 4=(cH++L.pool++be L.dev.toNat 1++be L.devs.toNat 1,0):=by
  show wst (dP L 3) (oD L 3 (dP L 3).1)=_;rw[c,i,nC _ _ (by simp[cH,h,bL])]
 have k:dP L 5=(cH++L.pool++be L.dev.toNat 1++be L.devs.toNat 1++be L.copies.toNat 1,0):=by
  show wst (dP L 4) (oD L 4 (dP L 4).1)=_;rw[d,j,nC _ _ (by simp[cH,h,bL])]
 have l:dP L 6=(cH++L.pool++be L.dev.toNat 1++be L.devs.toNat 1++be L.copies.toNat 1++be L.sectors.toNat 2,0):=by
  show wst (dP L 5) (oD L 5 (dP L 5).1)=_;rw[e,k,nC _ _ (by simp[cH,h,bL])]
 have m:dP L 7=(iZ L,0):=by
  show wst (dP L 6) (oD L 6 (dP L 6).1)=_;rw[f,l,nC _ _ (by simp[cH,h,bL])];rfl
 have g:oD L 7 (iZ L)=(List.replicate 174 0,0):=by
  show jR 224 (iZ L)=_;unfold jR;rw[pW L h,if_neg (by omega)];rfl
 show wst (dP L 7) (oD L 7 (dP L 7).1)=_;rw[m,g,nC _ _ (by rw[List.length_replicate,pW L h];omega)];rfl
end
end Go.Proofs.YtiinnfhjpaeffaaGreat
