/- A part of the proof. Conditions: those told. -/
namespace Go.Proofs.YtjkbekifgobeaaaGreat
set_option maxHeartbeats 64000000
set_option maxRecDepth 100000
set_option linter.unusedVariables false
section
def wst(s:List UInt8×Int)(r:List UInt8×Int):List UInt8×Int:=
 if s.2=0 then (if r.2=0 then (if 65536<s.1.length+r.1.length then (s.1,3) else (s.1++r.1,0)) else (s.1,r.2)) else s
theorem JI(s r:List UInt8×Int)(h:s.1.length≤65536):(wst s r).1.length≤65536:=by
 unfold wst;split
 ·split
  ·split
   ·exact h
   ·simp only[List.length_append];omega
  ·exact h
 ·exact h
def iG(n size j:Nat):UInt8:=UInt8.ofNat (n / 2 ^ (8*(size-1-j)))
def be(n size:Nat):List UInt8:=(List.range size).map (iG n size)
theorem bJ(n size:Nat):(be n size).length=size:=by simp[be]
theorem rA(n s k:Nat):((iG n s k).toNat:Int)=(n:Int) / 2 ^ (8*(s-k-1)) % 256:=by
 unfold iG;rw[show s-1-k=s-k-1 by omega];simp
theorem qF{α:Type}(f:Nat->α)(k:Nat):(List.range (k+1)).map f=(List.range k).map f++[f k]:=by simp[List.range_succ]
def eY(n size:Int):List UInt8×Int:=
 if size<1\/7<size then ([],2) else if n<0\/n / 2 ^ (8*size).toNat≠0 then ([],5) else (be n.toNat size.toNat,0)
def jX(to:Int)(l:List UInt8):List UInt8×Int:=
 if 65536<to\/to<l.length then ([],2) else (List.replicate (to.toNat-l.length) 0,0)
theorem Ee(to:Int)(l:List UInt8):(jX to l).1.length≤65536:=by
 unfold jX;split
 ·simp
 ·simp;omega
structure Lab where
 pool:List UInt8
 dev:Int
 devs:Int
 copies:Int
 sectors:Int
 life:Int
def Lab.may(L:Lab):Bool:=decide ((2≤L.devs/\L.devs≤8)/\(0≤L.dev/\L.dev≤L.devs-1)/\(1≤L.copies/\L.copies≤3/\L.copies≤L.devs)/\(8≤L.sectors/\L.sectors≤4096)/\(0≤L.life/\L.life≤2147483648))
def cC:List UInt8:=[67,65,85,76,75,69,82,49]
def lP(L:Lab)(k:Nat)(l:List UInt8):List UInt8×Int:=
 match k with
 | 0=>(cC,0)
 | 1=>(L.pool,0)
 | 2=>eY L.dev 1
 | 3=>eY L.devs 1
 | 4=>eY L.copies 1
 | 5=>eY L.sectors 2
 | 6=>eY L.life 5
 | _=>jX 224 l
def dI(L:Lab):Nat->List UInt8×Int
 | 0=>([],0)
 | k+1=>wst (dI L k) (lP L k (dI L k).1)
theorem Cd(L:Lab):∀k,(dI L k).1.length≤65536
 | 0=>by simp[dI]
 | k+1=>JI _ _ (Cd L k)
def gZ(L:Lab):List UInt8:=cC++L.pool++be L.dev.toNat 1++be L.devs.toNat 1++be L.copies.toNat 1++be L.sectors.toNat 2++be L.life.toNat 5
def bU(L:Lab):List UInt8:=gZ L++List.replicate 174 0
theorem nE(L:Lab)(h:L.pool.length=32):(gZ L).length=50:=by simp[gZ,cC,bJ,h]
theorem qK(L:Lab)(h:L.pool.length=32):(bU L).length=224:=by
 unfold bU;rw[List.length_append,List.length_replicate,nE L h]
theorem mT{n size:Int}(h1:1≤size)(h2:size≤7)(h3:0≤n)(h4:n<2 ^ (8*size).toNat):eY n size=(be n.toNat size.toNat,0):=by
 unfold eY;rw[if_neg (by omega),if_neg];intro h;rcases h with h|h
 ·omega
 ·exact h (Int.ediv_eq_zero_of_lt h3 h4)
theorem mV(l b:List UInt8)(h:l.length+b.length≤65536):wst (l,0) (b,0)=(l++b,0):=by
 simp only[wst];rw[if_pos trivial,if_pos trivial,if_neg (by omega)]
theorem Kf(L:Lab)(h:L.pool.length=32)(hm:L.may=true):dI L 8=(bU L,0):=by
 have hm:=of_decide_eq_true hm;have e2:lP L 2 (dI L 2).1=(be L.dev.toNat 1,0):=mT (by omega) (by omega) (by omega) (by simp;omega);have e3:lP L 3 (dI L 3).1=(be L.devs.toNat 1,0):=mT (by omega) (by omega) (by omega) (by simp;omega);have e4:lP L 4 (dI L 4).1=(be L.copies.toNat 1,0):=mT (by omega) (by omega) (by omega) (by simp;omega);have e5:lP L 5 (dI L 5).1=(be L.sectors.toNat 2,0):=mT (by omega) (by omega) (by omega) (by simp;omega);have e6:lP L 6 (dI L 6).1=(be L.life.toNat 5,0):=mT (by omega) (by omega) (by omega) (by simp;omega)
 have s1:dI L 1=(cC,0):=by
  show wst ([],0) (cC,0)=_;rw[mV _ _ (by simp[cC])];rfl
 have s2:dI L 2=(cC++L.pool,0):=by
  show wst (dI L 1) (L.pool,0)=_;rw[s1,mV _ _ (by simp[cC,h])]
 have s3:dI L 3=(cC++L.pool++be L.dev.toNat 1,0):=by
  show wst (dI L 2) (lP L 2 (dI L 2).1)=_;rw[e2,s2,mV _ _ (by simp[cC,h,bJ])]
 have s4:dI L 4=(cC++L.pool++be L.dev.toNat 1++be L.devs.toNat 1,0):=by
  show wst (dI L 3) (lP L 3 (dI L 3).1)=_;rw[e3,s3,mV _ _ (by simp[cC,h,bJ])]
 have s5:dI L 5=(cC++L.pool++be L.dev.toNat 1++be L.devs.toNat 1++be L.copies.toNat 1,0):=by
  show wst (dI L 4) (lP L 4 (dI L 4).1)=_;rw[e4,s4,mV _ _ (by simp[cC,h,bJ])]
 have s6:dI L 6=(cC++L.pool++be L.dev.toNat 1++be L.devs.toNat 1++be L.copies.toNat 1++be L.sectors.toNat 2,0):=by
  show wst (dI L 5) (lP L 5 (dI L 5).1)=_;rw[e5,s5,mV _ _ (by simp[cC,h,bJ])]
 have s7:dI L 7=(gZ L,0):=by
  show wst (dI L 6) (lP L 6 (dI L 6).1)=_;rw[e6,s6,mV _ _ (by simp[cC,h,bJ])];rfl
 have e7:lP L 7 (gZ L)=(List.replicate 174 0,0):=by
  show jX 224 (gZ L)=_;unfold jX;rw[nE L h,if_neg (by omega)];rfl
 show wst (dI L 7) (lP L 7 (dI L 7).1)=_;rw[s7,e7,mV _ _ (by rw[List.length_replicate,nE L h];omega)];rfl
end
end Go.Proofs.YtjkbekifgobeaaaGreat
