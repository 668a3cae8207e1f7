namespace Go.Proofs.YtiinnfhjpaeffaaGreat
set_option maxHeartbeats 64000000
set_option maxRecDepth 100000
set_option linter.unusedVariables false
section
def wst(s:List UInt8×Int)(r:List UInt8×Int):List UInt8×Int:=
 if s.2=0 then (if r.2=0 then (if 65536<s.1.length+r.1.length then (s.1,3) else (s.1++r.1,0)) else (s.1,r.2)) else s
theorem Mi(s r:List UInt8×Int)(h:s.1.length≤65536):(wst s r).1.length≤65536:=by
 unfold wst;split
 ·split
  ·split
   ·exact h
   ·simp only[List.length_append];omega
  ·exact h
 ·exact h
def iN(n size j:Nat):UInt8:=UInt8.ofNat (n / 2 ^ (8*(size-1-j)))
def be(n size:Nat):List UInt8:=(List.range size).map (iN n size)
theorem bM(n size:Nat):(be n size).length=size:=by simp[be]
theorem sJ(n s k:Nat):((iN n s k).toNat:Int)=(n:Int) / 2 ^ (8*(s-k-1)) % 256:=by
 unfold iN;rw[show s-1-k=s-k-1 by omega];simp
theorem rL{α:Type}(f:Nat->α)(k:Nat):(List.range (k+1)).map f=(List.range k).map f++[f k]:=by simp[List.range_succ]
def eO(n size:Int):List UInt8×Int:=
 if size<1\/7<size then ([],2) else if n<0\/n / 2 ^ (8*size).toNat≠0 then ([],5) else (be n.toNat size.toNat,0)
def iT(a:Int)(l:List UInt8):List UInt8×Int:=
 if 65536<a\/a<l.length then ([],2) else (List.replicate (a.toNat-l.length) 0,0)
theorem F9(a:Int)(l:List UInt8):(iT a l).1.length≤65536:=by
 unfold iT;split
 ·simp
 ·simp;omega
structure Lab where
 pool:List UInt8
 dev:Int
 devs:Int
 copies:Int
 sectors:Int
 life:Int
def Lab.may(L:Lab):Bool:=decide ((2≤L.devs/\L.devs≤8)/\(0≤L.dev/\L.dev≤L.devs-1)/\(1≤L.copies/\L.copies≤3/\L.copies≤L.devs)/\(8≤L.sectors/\L.sectors≤4096)/\(0≤L.life/\L.life≤2147483648))
def bZ:List UInt8:=[67,65,85,76,75,69,82,49]
def mO(L:Lab)(k:Nat)(l:List UInt8):List UInt8×Int:=
 match k with
 | 0=>(bZ,0)
 | 1=>(L.pool,0)
 | 2=>eO L.dev 1
 | 3=>eO L.devs 1
 | 4=>eO L.copies 1
 | 5=>eO L.sectors 2
 | 6=>eO L.life 5
 | _=>iT 224 l
def dP(L:Lab):Nat->List UInt8×Int
 | 0=>([],0)
 | k+1=>wst (dP L k) (mO L k (dP L k).1)
theorem Dz(L:Lab):∀k,(dP L k).1.length≤65536
 | 0=>by simp[dP]
 | k+1=>Mi _ _ (Dz L k)
def iJ(L:Lab):List UInt8:=bZ++L.pool++be L.dev.toNat 1++be L.devs.toNat 1++be L.copies.toNat 1++be L.sectors.toNat 2++be L.life.toNat 5
def bV(L:Lab):List UInt8:=iJ L++List.replicate 174 0
theorem oJ(L:Lab)(h:L.pool.length=32):(iJ L).length=50:=by simp[iJ,bZ,bM,h]
theorem rR(L:Lab)(h:L.pool.length=32):(bV L).length=224:=by
 unfold bV;rw[List.length_append,List.length_replicate,oJ L h]
theorem jQ{n size:Int}(c:1≤size)(d:size≤7)(a:0≤n)(b:n<2 ^ (8*size).toNat):eO n size=(be n.toNat size.toNat,0):=by
 unfold eO;rw[if_neg (by omega),if_neg];intro h;rcases h with h|h
 ·omega
 ·exact h (Int.ediv_eq_zero_of_lt a b)
theorem lT(l b:List UInt8)(h:l.length+b.length≤65536):wst (l,0) (b,0)=(l++b,0):=by
 simp only[wst];rw[if_pos trivial,if_pos trivial,if_neg (by omega)]
theorem MK(L:Lab)(h:L.pool.length=32)(a:L.may=true):dP L 8=(bV L,0):=by
 have a:=of_decide_eq_true a;have b:mO L 2 (dP L 2).1=(be L.dev.toNat 1,0):=jQ (by omega) (by omega) (by omega) (by simp;omega);have c:mO L 3 (dP L 3).1=(be L.devs.toNat 1,0):=jQ (by omega) (by omega) (by omega) (by simp;omega);have d:mO L 4 (dP L 4).1=(be L.copies.toNat 1,0):=jQ (by omega) (by omega) (by omega) (by simp;omega);have e:mO L 5 (dP L 5).1=(be L.sectors.toNat 2,0):=jQ (by omega) (by omega) (by omega) (by simp;omega);have f:mO L 6 (dP L 6).1=(be L.life.toNat 5,0):=jQ (by omega) (by omega) (by omega) (by simp;omega)
 have s1:dP L 1=(bZ,0):=by
  show wst ([],0) (bZ,0)=_;rw[lT _ _ (by simp[bZ])];rfl
 have s2:dP L 2=(bZ++L.pool,0):=by
  show wst (dP L 1) (L.pool,0)=_;rw[s1,lT _ _ (by simp[bZ,h])]
 have i:dP L 3=(bZ++L.pool++be L.dev.toNat 1,0):=by
  show wst (dP L 2) (mO L 2 (dP L 2).1)=_;rw[b,s2,lT _ _ (by simp[bZ,h,bM])]
 have j:dP L 4=(bZ++L.pool++be L.dev.toNat 1++be L.devs.toNat 1,0):=by
  show wst (dP L 3) (mO L 3 (dP L 3).1)=_;rw[c,i,lT _ _ (by simp[bZ,h,bM])]
 have k:dP L 5=(bZ++L.pool++be L.dev.toNat 1++be L.devs.toNat 1++be L.copies.toNat 1,0):=by
  show wst (dP L 4) (mO L 4 (dP L 4).1)=_;rw[d,j,lT _ _ (by simp[bZ,h,bM])]
 have l:dP L 6=(bZ++L.pool++be L.dev.toNat 1++be L.devs.toNat 1++be L.copies.toNat 1++be L.sectors.toNat 2,0):=by
  show wst (dP L 5) (mO L 5 (dP L 5).1)=_;rw[e,k,lT _ _ (by simp[bZ,h,bM])]
 have m:dP L 7=(iJ L,0):=by
  show wst (dP L 6) (mO L 6 (dP L 6).1)=_;rw[f,l,lT _ _ (by simp[bZ,h,bM])];rfl
 have g:mO L 7 (iJ L)=(List.replicate 174 0,0):=by
  show iT 224 (iJ L)=_;unfold iT;rw[oJ L h,if_neg (by omega)];rfl
 show wst (dP L 7) (mO L 7 (dP L 7).1)=_;rw[m,g,lT _ _ (by rw[List.length_replicate,oJ L h];omega)];rfl
end
end Go.Proofs.YtiinnfhjpaeffaaGreat
