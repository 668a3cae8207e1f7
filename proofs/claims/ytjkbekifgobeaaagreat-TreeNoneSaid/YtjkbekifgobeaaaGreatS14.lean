/- A part of the proof. Conditions: those told. -/
import Derived.Test.YtjkbekifgobeaaaGreatS12
import Derived.WalkKit
namespace Go.Proofs.YtjkbekifgobeaaaGreat
set_option maxHeartbeats 64000000
set_option maxRecDepth 100000
set_option linter.unusedVariables false
section
open Go.RowKit
def rot(x:Int)(n:Nat):Int:=bits .or .u32 (x / 2 ^ n) (x*2 ^ (32-n) % 4294967296)
theorem Bm(x y:Int):bits .or .u32 x y=bits .or .u32 y x:=by
 simp only[bits,BitVec.or_comm]
def jI(x y:Int):Int:=bits .xor .u32 x y
def qV(x y:Int):Int:=bits .and .u32 x y
def bI(x y:Int):Int:=IntKind.u32.wrap (x+y)
def wK(a b c d:Int):Int:=bits .or .u32 (bits .or .u32 (bits .or .u32 (a*16777216) (b*65536)) (c*256)) d
def sg0(x:Int):Int:=jI (jI (rot x 7) (rot x 18)) (x / 8)
def sg1(x:Int):Int:=jI (jI (rot x 17) (rot x 19)) (x / 1024)
def wrd(p:Nat->Int)(i:Nat):Int:=
 if h:i<16 then wK (p (4*i)) (p (4*i+1)) (p (4*i+2)) (p (4*i+3))
 else bI (bI (bI (wrd p (i-16)) (sg0 (wrd p (i-15)))) (wrd p (i-7))) (sg1 (wrd p (i-2)))
termination_by i
structure St where
 a:Int
 b:Int
 c:Int
 d:Int
 e:Int
 f:Int
 g:Int
 h:Int
def St.l(s:St):List Int:=[s.a,s.b,s.c,s.d,s.e,s.f,s.g,s.h]
def Jc(x:Int):Int:=bits .xor .u32 IntKind.u32.max x
def Bn(s:St)(k x:Int):Int:=
 bI (bI (bI (bI s.h (jI (jI (rot s.e 6) (rot s.e 11)) (rot s.e 25))) (jI (qV s.e s.f) (qV (Jc s.e) s.g))) k) x
def D5(s:St):Int:=bI (jI (jI (rot s.a 2) (rot s.a 13)) (rot s.a 22)) (jI (jI (qV s.a s.b) (qV s.a s.c)) (qV s.b s.c))
def rnd(s:St)(k x:Int):St:=⟨bI (Bn s k x) (D5 s),s.a,s.b,s.c,bI s.d (Bn s k x),s.e,s.f,s.g⟩
def vW(x:Int):Value:=.int .u32 x
def iW:List Int:=[1116352408,1899447441,3049323471,3921009573,961987163,1508970993,2453635748,2870763221,3624381080,310598401,607225278,1426881987,1925078388,2162078206,2614888103,3248222580,3835390401,4022224774,264347078,604807628,770255983,1249150122,1555081692,1996064986,2554220882,2821834349,2952996808,3210313671,3336571891,3584528711,113926993,338241895,666307205,773529912,1294757372,1396182291,1695183700,1986661051,2177026350,2456956037,2730485921,2820302411,3259730800,3345764771,3516065817,3600352804,4094571909,275423344,430227734,506948616,659060556,883997877,958139571,1322822218,1537002063,1747873779,1955562222,2024104815,2227730452,2361852424,2428436474,2756734187,3204031479,3329325298]
def mG:List Int:=[1779033703,3144134277,1013904242,2773480762,1359893119,2600822924,528734635,1541459225]
def qW(p:Nat->Int)(s:St):Nat->St
 | 0=>s
 | i+1=>rnd (qW p s i) (iW.getD i 0) (wrd p i)
def sH(p:Nat->Int)(s:St):St:=
 let x:=qW p s 64
 ⟨bI x.a s.a,bI x.b s.b,bI x.c s.c,bI x.d s.d,bI x.e s.e,bI x.f s.f,bI x.g s.g,bI x.h s.h⟩
def St.at(s:St)(j:Nat):Int:=s.l.getD j 0
def mX(x s:St)(j:Nat):List Int:=(List.range 8).map fun m=>if m<j then bI (x.at m) (s.at m) else x.at m
theorem Hh(p:Nat->Int)(s:St):mX (qW p s 64) s 8=(sH p s).l:=rfl
theorem Fy(x s:St)(j:Nat):(mX x s j).set j (bI (x.at j) (s.at j))=mX x s (j+1):=by
 apply List.ext_getElem
 ·simp[mX]
 ·intro i h1 h2
  simp only[List.getElem_set,mX,List.getElem_map,List.getElem_range]
  by_cases e:j=i
  ·subst e;simp
  ·rw[if_neg e]
   by_cases h:i<j
   ·rw[if_pos h,if_pos (by omega)]
   ·rw[if_neg h,if_neg (by omega)]
theorem Hi(x s:St)(j:Nat)(h:j<8):(mX x s j)[j]?=some (x.at j):=by
 simp[mX,h]
theorem St.at_get(s:St)(j:Nat)(h:j<8):s.l[j]?=some (s.at j):=by
 have:j<s.l.length:=h;simp[St.at,this]
def win(p:Nat->Int):Nat->Array Value
 | 0=>Array.replicate 16 (.int .u32 0)
 | i+1=>(win p i).setIfInBounds (i % 16) (vW (wrd p i))
theorem uZ(p:Nat->Int)(i:Nat):(win p i).size=16:=by
 induction i with
 | zero=>simp[win]
 | succ i ih=>simp[win,ih]
theorem pY(p:Nat->Int):∀(i j:Nat),j<i->i≤j+16->(win p i)[j % 16]?=some (vW (wrd p j))
 | 0,_,h,_=>by omega
 | i+1,j,h,h2=>by
   rw[win]
   by_cases e:j=i
   ·subst e
    have:j % 16<(win p j).size:=by rw[uZ];omega
    simp[this]
   ·rw[Array.getElem?_setIfInBounds_ne (by omega)]
    exact pY p i j (by omega) (by omega)
def lD(n:Nat):Nat:=(119-n % 64) % 64
def many(n:Nat):Nat:=(n+9+lD n) / 64
theorem yA(n:Nat):lD n<64:=Nat.mod_lt _ (by omega)
theorem zH(n k:Nat)(hk:k≤lD n):(n+1+k) % 64=56↔k=lD n:=by unfold lD at *;omega
theorem pZ(n:Nat):n+1+lD n+8=64*many n:=by unfold many lD;omega
theorem Bo(n:Nat):0<many n:=by have:=pZ n;omega
def qA(bs:List UInt8):List UInt8:=bs++[128]++List.replicate (lD bs.length) 0++be (8*bs.length) 8
theorem AG(bs:List UInt8):(qA bs).length=64*many bs.length:=by
 rw[←pZ];simp[qA,bJ];omega
def iZ(bs:List UInt8)(i:Nat):List UInt8:=((qA bs).drop (64*i)).take 64
theorem oG(bs:List UInt8)(i:Nat)(h:i<many bs.length):(iZ bs i).length=64:=by
 simp[iZ,AG];omega
theorem Fz(bs:List UInt8)(i j:Nat)(hj:j<64):(iZ bs i)[j]?=(qA bs)[64*i+j]?:=by
 simp[iZ,hj]
end
end Go.Proofs.YtjkbekifgobeaaaGreat
