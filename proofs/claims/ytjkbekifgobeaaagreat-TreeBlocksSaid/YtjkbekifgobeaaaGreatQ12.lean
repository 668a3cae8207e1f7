/- A part of the proof. Conditions: those told. -/
namespace Go.Proofs.YtjkbekifgobeaaaGreat
set_option maxHeartbeats 64000000
set_option maxRecDepth 100000
set_option linter.unusedVariables false
section
def wst(s:List UInt8×Int)(r:List UInt8×Int):List UInt8×Int:=
 if s.2=0 then (if r.2=0 then (if 65536<s.1.length+r.1.length then (s.1,3) else (s.1++r.1,0)) else (s.1,r.2)) else s
theorem Kt(s r:List UInt8×Int)(h:s.1.length≤65536):(wst s r).1.length≤65536:=by
 unfold wst;split
 ·split
  ·split
   ·exact h
   ·simp only[List.length_append];omega
  ·exact h
 ·exact h
def iI(n size j:Nat):UInt8:=UInt8.ofNat (n / 2 ^ (8*(size-1-j)))
def be(n size:Nat):List UInt8:=(List.range size).map (iI n size)
theorem bH(n size:Nat):(be n size).length=size:=by simp[be]
theorem rD(n s k:Nat):((iI n s k).toNat:Int)=(n:Int) / 2 ^ (8*(s-k-1)) % 256:=by
 unfold iI;rw[show s-1-k=s-k-1 by omega];simp
theorem qG{α:Type}(f:Nat->α)(k:Nat):(List.range (k+1)).map f=(List.range k).map f++[f k]:=by simp[List.range_succ]
def fA(n size:Int):List UInt8×Int:=
 if size<1\/7<size then ([],2) else if n<0\/n / 2 ^ (8*size).toNat≠0 then ([],5) else (be n.toNat size.toNat,0)
def kA(to:Int)(l:List UInt8):List UInt8×Int:=
 if 65536<to\/to<l.length then ([],2) else (List.replicate (to.toNat-l.length) 0,0)
theorem EN(to:Int)(l:List UInt8):(kA to l).1.length≤65536:=by
 unfold kA;split
 ·simp
 ·simp;omega
structure Lab where
 pool:List UInt8
 dev:Int
 devs:Int
 copies:Int
 sectors:Int
 life:Int
def Lab.may(L:Lab):Bool:=decide ((2≤L.devs/\L.devs≤8)/\(0≤L.dev/\L.dev≤L.devs-1)/\(1≤L.copies/\L.copies≤3/\L.copies≤L.devs)/\(8≤L.sectors/\L.sectors≤4096)/\(0≤L.life/\L.life≤2147483648))
def bY:List UInt8:=[67,65,85,76,75,69,82,49]
def lP(L:Lab)(k:Nat)(l:List UInt8):List UInt8×Int:=
 match k with
 | 0=>(bY,0)
 | 1=>(L.pool,0)
 | 2=>fA L.dev 1
 | 3=>fA L.devs 1
 | 4=>fA L.copies 1
 | 5=>fA L.sectors 2
 | 6=>fA L.life 5
 | _=>kA 224 l
def dI(L:Lab):Nat->List UInt8×Int
 | 0=>([],0)
 | k+1=>wst (dI L k) (lP L k (dI L k).1)
theorem CH(L:Lab):∀k,(dI L k).1.length≤65536
 | 0=>by simp[dI]
 | k+1=>Kt _ _ (CH L k)
def hE(L:Lab):List UInt8:=bY++L.pool++be L.dev.toNat 1++be L.devs.toNat 1++be L.copies.toNat 1++be L.sectors.toNat 2++be L.life.toNat 5
def bS(L:Lab):List UInt8:=hE L++List.replicate 174 0
theorem nH(L:Lab)(h:L.pool.length=32):(hE L).length=50:=by simp[hE,bY,bH,h]
theorem qM(L:Lab)(h:L.pool.length=32):(bS L).length=224:=by
 unfold bS;rw[List.length_append,List.length_replicate,nH L h]
theorem mY{n size:Int}(h1:1≤size)(h2:size≤7)(h3:0≤n)(h4:n<2 ^ (8*size).toNat):fA n size=(be n.toNat size.toNat,0):=by
 unfold fA;rw[if_neg (by omega),if_neg];intro h;rcases h with h|h
 ·omega
 ·exact h (Int.ediv_eq_zero_of_lt h3 h4)
theorem mZ(l b:List UInt8)(h:l.length+b.length≤65536):wst (l,0) (b,0)=(l++b,0):=by
 simp only[wst];rw[if_pos trivial,if_pos trivial,if_neg (by omega)]
theorem K5(L:Lab)(h:L.pool.length=32)(hm:L.may=true):dI L 8=(bS L,0):=by
 have hm:=of_decide_eq_true hm;have e2:lP L 2 (dI L 2).1=(be L.dev.toNat 1,0):=mY (by omega) (by omega) (by omega) (by simp;omega);have e3:lP L 3 (dI L 3).1=(be L.devs.toNat 1,0):=mY (by omega) (by omega) (by omega) (by simp;omega);have e4:lP L 4 (dI L 4).1=(be L.copies.toNat 1,0):=mY (by omega) (by omega) (by omega) (by simp;omega);have e5:lP L 5 (dI L 5).1=(be L.sectors.toNat 2,0):=mY (by omega) (by omega) (by omega) (by simp;omega);have e6:lP L 6 (dI L 6).1=(be L.life.toNat 5,0):=mY (by omega) (by omega) (by omega) (by simp;omega)
 have s1:dI L 1=(bY,0):=by
  show wst ([],0) (bY,0)=_;rw[mZ _ _ (by simp[bY])];rfl
 have s2:dI L 2=(bY++L.pool,0):=by
  show wst (dI L 1) (L.pool,0)=_;rw[s1,mZ _ _ (by simp[bY,h])]
 have s3:dI L 3=(bY++L.pool++be L.dev.toNat 1,0):=by
  show wst (dI L 2) (lP L 2 (dI L 2).1)=_;rw[e2,s2,mZ _ _ (by simp[bY,h,bH])]
 have s4:dI L 4=(bY++L.pool++be L.dev.toNat 1++be L.devs.toNat 1,0):=by
  show wst (dI L 3) (lP L 3 (dI L 3).1)=_;rw[e3,s3,mZ _ _ (by simp[bY,h,bH])]
 have s5:dI L 5=(bY++L.pool++be L.dev.toNat 1++be L.devs.toNat 1++be L.copies.toNat 1,0):=by
  show wst (dI L 4) (lP L 4 (dI L 4).1)=_;rw[e4,s4,mZ _ _ (by simp[bY,h,bH])]
 have s6:dI L 6=(bY++L.pool++be L.dev.toNat 1++be L.devs.toNat 1++be L.copies.toNat 1++be L.sectors.toNat 2,0):=by
  show wst (dI L 5) (lP L 5 (dI L 5).1)=_;rw[e5,s5,mZ _ _ (by simp[bY,h,bH])]
 have s7:dI L 7=(hE L,0):=by
  show wst (dI L 6) (lP L 6 (dI L 6).1)=_;rw[e6,s6,mZ _ _ (by simp[bY,h,bH])];rfl
 have e7:lP L 7 (hE L)=(List.replicate 174 0,0):=by
  show kA 224 (hE L)=_;unfold kA;rw[nH L h,if_neg (by omega)];rfl
 show wst (dI L 7) (lP L 7 (dI L 7).1)=_;rw[s7,e7,mZ _ _ (by rw[List.length_replicate,nH L h];omega)];rfl
end
end Go.Proofs.YtjkbekifgobeaaaGreat
