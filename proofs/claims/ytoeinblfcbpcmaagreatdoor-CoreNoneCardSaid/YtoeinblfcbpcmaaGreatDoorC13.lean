namespace Go.Proofs.YtoeinblfcbpcmaaGreatDoor
set_option maxHeartbeats 0
set_option maxRecDepth 100000
set_option linter.unusedVariables false
section
def wst(s:List UInt8×Int)(r:List UInt8×Int):List UInt8×Int:=
 if s.2=0 then (if r.2=0 then (if 65536<s.1.length+r.1.length then (s.1,3) else (s.1++r.1,0)) else (s.1,r.2)) else s
theorem OU(s r:List UInt8×Int)(h:s.1.length≤65536):(wst s r).1.length≤65536:=by
 unfold wst;split
 ·split
  ·split
   ·exact h
   ·simp only[List.length_append];omega
  ·exact h
 ·exact h
def jH(n size j:Nat):UInt8:=UInt8.ofNat (n / 2 ^ (8*(size-1-j)))
def be(n size:Nat):List UInt8:=(List.range size).map (jH n size)
theorem bK(n size:Nat):(be n size).length=size:=by simp[be]
theorem uS(n s k:Nat):((jH n s k).toNat:Int)=(n:Int) / 2 ^ (8*(s-k-1)) % 256:=by
 unfold jH;rw[show s-1-k=s-k-1 by omega];simp
theorem tJ{α:Type}(f:Nat->α)(k:Nat):(List.range (k+1)).map f=(List.range k).map f++[f k]:=by simp[List.range_succ]
def eV(n size:Int):List UInt8×Int:=
 if size<1\/7<size then ([],2) else if n<0\/n / 2 ^ (8*size).toNat≠0 then ([],5) else (be n.toNat size.toNat,0)
def jO(a:Int)(l:List UInt8):List UInt8×Int:=
 if 65536<a\/a<l.length then ([],2) else (List.replicate (a.toNat-l.length) 0,0)
theorem Ij(a:Int)(l:List UInt8):(jO a l).1.length≤65536:=by
 unfold jO;split
 ·simp
 ·simp;omega
structure Lab where
 pool:List UInt8
 dev:Int
 devs:Int
 copies:Int
 sectors:Int
 life:Int
def Lab.may(L:Lab):Bool:=decide ((2≤L.devs/\L.devs≤8)/\(0≤L.dev/\L.dev≤L.devs-1)/\(1≤L.copies/\L.copies≤3/\L.copies≤L.devs)/\(8≤L.sectors/\L.sectors≤4096)/\(0≤L.life/\L.life≤2147483648))
def cL:List UInt8:=[67,65,85,76,75,69,82,49]
def oD(L:Lab)(k:Nat)(l:List UInt8):List UInt8×Int:=
 match k with
 | 0=>(cL,0)
 | 1=>(L.pool,0)
 | 2=>eV L.dev 1
 | 3=>eV L.devs 1
 | 4=>eV L.copies 1
 | 5=>eV L.sectors 2
 | 6=>eV L.life 5
 | _=>jO 224 l
def dO(L:Lab):Nat->List UInt8×Int
 | 0=>([],0)
 | k+1=>wst (dO L k) (oD L k (dO L k).1)
theorem Fc(L:Lab):∀k,(dO L k).1.length≤65536
 | 0=>by simp[dO]
 | k+1=>OU _ _ (Fc L k)
def iX(L:Lab):List UInt8:=cL++L.pool++be L.dev.toNat 1++be L.devs.toNat 1++be L.copies.toNat 1++be L.sectors.toNat 2++be L.life.toNat 5
def cE(L:Lab):List UInt8:=iX L++List.replicate 174 0
theorem pT(L:Lab)(h:L.pool.length=32):(iX L).length=50:=by simp[iX,cL,bK,h]
theorem tV(L:Lab)(h:L.pool.length=32):(cE L).length=224:=by
 unfold cE;rw[List.length_append,List.length_replicate,pT L h]
theorem kM{n size:Int}(c:1≤size)(d:size≤7)(a:0≤n)(b:n<2 ^ (8*size).toNat):eV n size=(be n.toNat size.toNat,0):=by
 unfold eV;rw[if_neg (by omega),if_neg];intro h;rcases h with h|h
 ·omega
 ·exact h (Int.ediv_eq_zero_of_lt a b)
theorem nB(l b:List UInt8)(h:l.length+b.length≤65536):wst (l,0) (b,0)=(l++b,0):=by
 simp only[wst];rw[if_pos trivial,if_pos trivial,if_neg (by omega)]
theorem Pj(L:Lab)(h:L.pool.length=32)(a:L.may=true):dO L 8=(cE L,0):=by
 have a:=of_decide_eq_true a;have b:oD L 2 (dO L 2).1=(be L.dev.toNat 1,0):=kM (by omega) (by omega) (by omega) (by simp;omega);have c:oD L 3 (dO L 3).1=(be L.devs.toNat 1,0):=kM (by omega) (by omega) (by omega) (by simp;omega);have d:oD L 4 (dO L 4).1=(be L.copies.toNat 1,0):=kM (by omega) (by omega) (by omega) (by simp;omega);have e:oD L 5 (dO L 5).1=(be L.sectors.toNat 2,0):=kM (by omega) (by omega) (by omega) (by simp;omega);have f:oD L 6 (dO L 6).1=(be L.life.toNat 5,0):=kM (by omega) (by omega) (by omega) (by simp;omega)
 have i:dO L 1=(cL,0):=by
  show wst ([],0) (cL,0)=_;rw[nB _ _ (by simp[cL])];rfl
 have j:dO L 2=(cL++L.pool,0):=by
  show wst (dO L 1) (L.pool,0)=_;rw[i,nB _ _ (by simp[cL,h])]
 have k:dO L 3=(cL++L.pool++be L.dev.toNat 1,0):=by
  show wst (dO L 2) (oD L 2 (dO L 2).1)=_;rw[b,j,nB _ _ (by simp[cL,h,bK])]
 have l:dO L 4=(cL++L.pool++be L.dev.toNat 1++be L.devs.toNat 1,0):=by
  show wst (dO L 3) (oD L 3 (dO L 3).1)=_;rw[c,k,nB _ _ (by simp[cL,h,bK])]
 have m:dO L 5=(cL++L.pool++be L.dev.toNat 1++be L.devs.toNat 1++be L.copies.toNat 1,0):=by
  show wst (dO L 4) (oD L 4 (dO L 4).1)=_;rw[d,l,nB _ _ (by simp[cL,h,bK])]
 have n:dO L 6=(cL++L.pool++be L.dev.toNat 1++be L.devs.toNat 1++be L.copies.toNat 1++be L.sectors.toNat 2,0):=by
  show wst (dO L 5) (oD L 5 (dO L 5).1)=_;rw[e,m,nB _ _ (by simp[cL,h,bK])]
 have o:dO L 7=(iX L,0):=by
  show wst (dO L 6) (oD L 6 (dO L 6).1)=_;rw[f,n,nB _ _ (by simp[cL,h,bK])];rfl
 have g:oD L 7 (iX L)=(List.replicate 174 0,0):=by
  show jO 224 (iX L)=_;unfold jO;rw[pT L h,if_neg (by omega)];rfl
 show wst (dO L 7) (oD L 7 (dO L 7).1)=_;rw[o,g,nB _ _ (by rw[List.length_replicate,pT L h];omega)];rfl
end
end Go.Proofs.YtoeinblfcbpcmaaGreatDoor
