namespace Go.Proofs.YtoeinblfcbpcmaaGreat
set_option maxHeartbeats 0
set_option maxRecDepth 100000
set_option linter.unusedVariables false
section
def wst(s:List UInt8×Int)(r:List UInt8×Int):List UInt8×Int:=
 if s.2=0 then (if r.2=0 then (if 65536<s.1.length+r.1.length then (s.1,3) else (s.1++r.1,0)) else (s.1,r.2)) else s
theorem Oo(s r:List UInt8×Int)(h:s.1.length≤65536):(wst s r).1.length≤65536:=by
 unfold wst;split
 ·split
  ·split
   ·exact h
   ·simp only[List.length_append];omega
  ·exact h
 ·exact h
def iY(n size j:Nat):UInt8:=UInt8.ofNat (n / 2 ^ (8*(size-1-j)))
def be(n size:Nat):List UInt8:=(List.range size).map (iY n size)
theorem bJ(n size:Nat):(be n size).length=size:=by simp[be]
theorem uI(n s k:Nat):((iY n s k).toNat:Int)=(n:Int) / 2 ^ (8*(s-k-1)) % 256:=by
 unfold iY;rw[show s-1-k=s-k-1 by omega];simp
theorem tD{α:Type}(f:Nat->α)(k:Nat):(List.range (k+1)).map f=(List.range k).map f++[f k]:=by simp[List.range_succ]
def eT(n size:Int):List UInt8×Int:=
 if size<1\/7<size then ([],2) else if n<0\/n / 2 ^ (8*size).toNat≠0 then ([],5) else (be n.toNat size.toNat,0)
def jJ(to:Int)(l:List UInt8):List UInt8×Int:=
 if 65536<to\/to<l.length then ([],2) else (List.replicate (to.toNat-l.length) 0,0)
theorem In(to:Int)(l:List UInt8):(jJ to l).1.length≤65536:=by
 unfold jJ;split
 ·simp
 ·simp;omega
structure Lab where
 pool:List UInt8
 dev:Int
 devs:Int
 copies:Int
 sectors:Int
 life:Int
def Lab.may(L:Lab):Bool:=decide ((2≤L.devs/\L.devs≤8)/\(0≤L.dev/\L.dev≤L.devs-1)/\(1≤L.copies/\L.copies≤3/\L.copies≤L.devs)/\(8≤L.sectors/\L.sectors≤4096)/\(0≤L.life/\L.life≤2147483648))
def cG:List UInt8:=[67,65,85,76,75,69,82,49]
def nO(L:Lab)(k:Nat)(l:List UInt8):List UInt8×Int:=
 match k with
 | 0=>(cG,0)
 | 1=>(L.pool,0)
 | 2=>eT L.dev 1
 | 3=>eT L.devs 1
 | 4=>eT L.copies 1
 | 5=>eT L.sectors 2
 | 6=>eT L.life 5
 | _=>jJ 224 l
def dL(L:Lab):Nat->List UInt8×Int
 | 0=>([],0)
 | k+1=>wst (dL L k) (nO L k (dL L k).1)
theorem EV(L:Lab):∀k,(dL L k).1.length≤65536
 | 0=>by simp[dL]
 | k+1=>Oo _ _ (EV L k)
def iS(L:Lab):List UInt8:=cG++L.pool++be L.dev.toNat 1++be L.devs.toNat 1++be L.copies.toNat 1++be L.sectors.toNat 2++be L.life.toNat 5
def bV(L:Lab):List UInt8:=iS L++List.replicate 174 0
theorem pO(L:Lab)(h:L.pool.length=32):(iS L).length=50:=by simp[iS,cG,bJ,h]
theorem tK(L:Lab)(h:L.pool.length=32):(bV L).length=224:=by
 unfold bV;rw[List.length_append,List.length_replicate,pO L h]
theorem kC{n size:Int}(c:1≤size)(d:size≤7)(a:0≤n)(b:n<2 ^ (8*size).toNat):eT n size=(be n.toNat size.toNat,0):=by
 unfold eT;rw[if_neg (by omega),if_neg];intro h;rcases h with h|h
 ·omega
 ·exact h (Int.ediv_eq_zero_of_lt a b)
theorem mN(l b:List UInt8)(h:l.length+b.length≤65536):wst (l,0) (b,0)=(l++b,0):=by
 simp only[wst];rw[if_pos trivial,if_pos trivial,if_neg (by omega)]
theorem OT(L:Lab)(h:L.pool.length=32)(a:L.may=true):dL L 8=(bV L,0):=by
 have a:=of_decide_eq_true a;have b:nO L 2 (dL L 2).1=(be L.dev.toNat 1,0):=kC (by omega) (by omega) (by omega) (by simp;omega);have c:nO L 3 (dL L 3).1=(be L.devs.toNat 1,0):=kC (by omega) (by omega) (by omega) (by simp;omega);have d:nO L 4 (dL L 4).1=(be L.copies.toNat 1,0):=kC (by omega) (by omega) (by omega) (by simp;omega);have e:nO L 5 (dL L 5).1=(be L.sectors.toNat 2,0):=kC (by omega) (by omega) (by omega) (by simp;omega);have f:nO L 6 (dL L 6).1=(be L.life.toNat 5,0):=kC (by omega) (by omega) (by omega) (by simp;omega)
 have s1:dL L 1=(cG,0):=by
  show wst ([],0) (cG,0)=_;rw[mN _ _ (by simp[cG])];rfl
 have s2:dL L 2=(cG++L.pool,0):=by
  show wst (dL L 1) (L.pool,0)=_;rw[s1,mN _ _ (by simp[cG,h])]
 have i:dL L 3=(cG++L.pool++be L.dev.toNat 1,0):=by
  show wst (dL L 2) (nO L 2 (dL L 2).1)=_;rw[b,s2,mN _ _ (by simp[cG,h,bJ])]
 have j:dL L 4=(cG++L.pool++be L.dev.toNat 1++be L.devs.toNat 1,0):=by
  show wst (dL L 3) (nO L 3 (dL L 3).1)=_;rw[c,i,mN _ _ (by simp[cG,h,bJ])]
 have k:dL L 5=(cG++L.pool++be L.dev.toNat 1++be L.devs.toNat 1++be L.copies.toNat 1,0):=by
  show wst (dL L 4) (nO L 4 (dL L 4).1)=_;rw[d,j,mN _ _ (by simp[cG,h,bJ])]
 have l:dL L 6=(cG++L.pool++be L.dev.toNat 1++be L.devs.toNat 1++be L.copies.toNat 1++be L.sectors.toNat 2,0):=by
  show wst (dL L 5) (nO L 5 (dL L 5).1)=_;rw[e,k,mN _ _ (by simp[cG,h,bJ])]
 have m:dL L 7=(iS L,0):=by
  show wst (dL L 6) (nO L 6 (dL L 6).1)=_;rw[f,l,mN _ _ (by simp[cG,h,bJ])];rfl
 have g:nO L 7 (iS L)=(List.replicate 174 0,0):=by
  show jJ 224 (iS L)=_;unfold jJ;rw[pO L h,if_neg (by omega)];rfl
 show wst (dL L 7) (nO L 7 (dL L 7).1)=_;rw[m,g,mN _ _ (by rw[List.length_replicate,pO L h];omega)];rfl
end
end Go.Proofs.YtoeinblfcbpcmaaGreat
