/- A part of the proof. Conditions: those told. -/
namespace Go.Proofs.YtjkbekifgobeaaaGreatDoor
set_option maxHeartbeats 64000000
set_option maxRecDepth 100000
set_option linter.unusedVariables false
section
def wst(s:List UInt8×Int)(r:List UInt8×Int):List UInt8×Int:=
 if s.2=0 then (if r.2=0 then (if 65536<s.1.length+r.1.length then (s.1,3) else (s.1++r.1,0)) else (s.1,r.2)) else s
theorem JV(s r:List UInt8×Int)(h:s.1.length≤65536):(wst s r).1.length≤65536:=by
 unfold wst;split
 ·split
  ·split
   ·exact h
   ·simp only[List.length_append];omega
  ·exact h
 ·exact h
def gM(n size j:Nat):UInt8:=UInt8.ofNat (n / 2 ^ (8*(size-1-j)))
def be(n size:Nat):List UInt8:=(List.range size).map (gM n size)
theorem bA(n size:Nat):(be n size).length=size:=by simp[be]
theorem qC(n s k:Nat):((gM n s k).toNat:Int)=(n:Int) / 2 ^ (8*(s-k-1)) % 256:=by
 unfold gM;rw[show s-1-k=s-k-1 by omega];simp
theorem pM{α:Type}(f:Nat->α)(k:Nat):(List.range (k+1)).map f=(List.range k).map f++[f k]:=by simp[List.range_succ]
def eK(n size:Int):List UInt8×Int:=
 if size<1\/7<size then ([],2) else if n<0\/n / 2 ^ (8*size).toNat≠0 then ([],5) else (be n.toNat size.toNat,0)
def jF(to:Int)(l:List UInt8):List UInt8×Int:=
 if 65536<to\/to<l.length then ([],2) else (List.replicate (to.toNat-l.length) 0,0)
theorem D1(to:Int)(l:List UInt8):(jF to l).1.length≤65536:=by
 unfold jF;split
 ·simp
 ·simp;omega
structure Lab where
 pool:List UInt8
 dev:Int
 devs:Int
 copies:Int
 sectors:Int
 life:Int
def Lab.may(L:Lab):Bool:=decide ((2≤L.devs/\L.devs≤8)/\(0≤L.dev/\L.dev≤L.devs-1)/\(1≤L.copies/\L.copies≤3/\L.copies≤L.devs)/\(8≤L.sectors/\L.sectors≤4096)/\(0≤L.life/\L.life≤2147483648))
def bQ:List UInt8:=[67,65,85,76,75,69,82,49]
def kV(L:Lab)(k:Nat)(l:List UInt8):List UInt8×Int:=
 match k with
 | 0=>(bQ,0)
 | 1=>(L.pool,0)
 | 2=>eK L.dev 1
 | 3=>eK L.devs 1
 | 4=>eK L.copies 1
 | 5=>eK L.sectors 2
 | 6=>eK L.life 5
 | _=>jF 224 l
def cQ(L:Lab):Nat->List UInt8×Int
 | 0=>([],0)
 | k+1=>wst (cQ L k) (kV L k (cQ L k).1)
theorem Ci(L:Lab):∀k,(cQ L k).1.length≤65536
 | 0=>by simp[cQ]
 | k+1=>JV _ _ (Ci L k)
def gK(L:Lab):List UInt8:=bQ++L.pool++be L.dev.toNat 1++be L.devs.toNat 1++be L.copies.toNat 1++be L.sectors.toNat 2++be L.life.toNat 5
def bM(L:Lab):List UInt8:=gK L++List.replicate 174 0
theorem mK(L:Lab)(h:L.pool.length=32):(gK L).length=50:=by simp[gK,bQ,bA,h]
theorem pW(L:Lab)(h:L.pool.length=32):(bM L).length=224:=by
 unfold bM;rw[List.length_append,List.length_replicate,mK L h]
theorem mA{n size:Int}(h1:1≤size)(h2:size≤7)(h3:0≤n)(h4:n<2 ^ (8*size).toNat):eK n size=(be n.toNat size.toNat,0):=by
 unfold eK;rw[if_neg (by omega),if_neg];intro h;rcases h with h|h
 ·omega
 ·exact h (Int.ediv_eq_zero_of_lt h3 h4)
theorem mB(l b:List UInt8)(h:l.length+b.length≤65536):wst (l,0) (b,0)=(l++b,0):=by
 simp only[wst];rw[if_pos trivial,if_pos trivial,if_neg (by omega)]
theorem KF(L:Lab)(h:L.pool.length=32)(hm:L.may=true):cQ L 8=(bM L,0):=by
 have hm:=of_decide_eq_true hm;have e2:kV L 2 (cQ L 2).1=(be L.dev.toNat 1,0):=mA (by omega) (by omega) (by omega) (by simp;omega);have e3:kV L 3 (cQ L 3).1=(be L.devs.toNat 1,0):=mA (by omega) (by omega) (by omega) (by simp;omega);have e4:kV L 4 (cQ L 4).1=(be L.copies.toNat 1,0):=mA (by omega) (by omega) (by omega) (by simp;omega);have e5:kV L 5 (cQ L 5).1=(be L.sectors.toNat 2,0):=mA (by omega) (by omega) (by omega) (by simp;omega);have e6:kV L 6 (cQ L 6).1=(be L.life.toNat 5,0):=mA (by omega) (by omega) (by omega) (by simp;omega)
 have s1:cQ L 1=(bQ,0):=by
  show wst ([],0) (bQ,0)=_;rw[mB _ _ (by simp[bQ])];rfl
 have s2:cQ L 2=(bQ++L.pool,0):=by
  show wst (cQ L 1) (L.pool,0)=_;rw[s1,mB _ _ (by simp[bQ,h])]
 have s3:cQ L 3=(bQ++L.pool++be L.dev.toNat 1,0):=by
  show wst (cQ L 2) (kV L 2 (cQ L 2).1)=_;rw[e2,s2,mB _ _ (by simp[bQ,h,bA])]
 have s4:cQ L 4=(bQ++L.pool++be L.dev.toNat 1++be L.devs.toNat 1,0):=by
  show wst (cQ L 3) (kV L 3 (cQ L 3).1)=_;rw[e3,s3,mB _ _ (by simp[bQ,h,bA])]
 have s5:cQ L 5=(bQ++L.pool++be L.dev.toNat 1++be L.devs.toNat 1++be L.copies.toNat 1,0):=by
  show wst (cQ L 4) (kV L 4 (cQ L 4).1)=_;rw[e4,s4,mB _ _ (by simp[bQ,h,bA])]
 have s6:cQ L 6=(bQ++L.pool++be L.dev.toNat 1++be L.devs.toNat 1++be L.copies.toNat 1++be L.sectors.toNat 2,0):=by
  show wst (cQ L 5) (kV L 5 (cQ L 5).1)=_;rw[e5,s5,mB _ _ (by simp[bQ,h,bA])]
 have s7:cQ L 7=(gK L,0):=by
  show wst (cQ L 6) (kV L 6 (cQ L 6).1)=_;rw[e6,s6,mB _ _ (by simp[bQ,h,bA])];rfl
 have e7:kV L 7 (gK L)=(List.replicate 174 0,0):=by
  show jF 224 (gK L)=_;unfold jF;rw[mK L h,if_neg (by omega)];rfl
 show wst (cQ L 7) (kV L 7 (cQ L 7).1)=_;rw[s7,e7,mB _ _ (by rw[List.length_replicate,mK L h];omega)];rfl
end
end Go.Proofs.YtjkbekifgobeaaaGreatDoor
