import Derived.Test.YtiinnfhjpaeffaaGreatU12
import Derived.WalkKit
namespace Go.Proofs.YtiinnfhjpaeffaaGreat
set_option maxHeartbeats 0
set_option maxRecDepth 100000
set_option linter.unusedVariables false
section
open Go.RowKit
def rot(x:Int)(n:Nat):Int:=bits .or .u32 (x / 2 ^ n) (x*2 ^ (32-n) % 4294967296)
theorem Ed(x y:Int):bits .or .u32 x y=bits .or .u32 y x:=by
 simp only[bits,BitVec.or_comm]
def lD(x y:Int):Int:=bits .xor .u32 x y
def uP(x y:Int):Int:=bits .and .u32 x y
def bJ(x y:Int):Int:=IntKind.u32.wrap (x+y)
def A5(a b c d:Int):Int:=bits .or .u32 (bits .or .u32 (bits .or .u32 (a*16777216) (b*65536)) (c*256)) d
def sg0(x:Int):Int:=lD (lD (rot x 7) (rot x 18)) (x / 8)
def sg1(x:Int):Int:=lD (lD (rot x 17) (rot x 19)) (x / 1024)
def wrd(p:Nat->Int)(i:Nat):Int:=
 if h:i<16 then A5 (p (4*i)) (p (4*i+1)) (p (4*i+2)) (p (4*i+3))
 else bJ (bJ (bJ (wrd p (i-16)) (sg0 (wrd p (i-15)))) (wrd p (i-7))) (sg1 (wrd p (i-2)))
termination_by i
structure St where
 a:Int
 b:Int
 c:Int
 d:Int
 e:Int
 f:Int
 g:Int
 h:Int
def St.l(s:St):List Int:=[s.a,s.b,s.c,s.d,s.e,s.f,s.g,s.h]
def Nz(x:Int):Int:=bits .xor .u32 IntKind.u32.max x
def Ee(s:St)(k x:Int):Int:=
 bJ (bJ (bJ (bJ s.h (lD (lD (rot s.e 6) (rot s.e 11)) (rot s.e 25))) (lD (uP s.e s.f) (uP (Nz s.e) s.g))) k) x
def Ib(s:St):Int:=bJ (lD (lD (rot s.a 2) (rot s.a 13)) (rot s.a 22)) (lD (lD (uP s.a s.b) (uP s.a s.c)) (uP s.b s.c))
def rnd(s:St)(k x:Int):St:=⟨bJ (Ee s k x) (Ib s),s.a,s.b,s.c,bJ s.d (Ee s k x),s.e,s.f,s.g⟩
def vW(x:Int):Value:=.int .u32 x
def kC:List Int:=[1116352408,1899447441,3049323471,3921009573,961987163,1508970993,2453635748,2870763221,3624381080,310598401,607225278,1426881987,1925078388,2162078206,2614888103,3248222580,3835390401,4022224774,264347078,604807628,770255983,1249150122,1555081692,1996064986,2554220882,2821834349,2952996808,3210313671,3336571891,3584528711,113926993,338241895,666307205,773529912,1294757372,1396182291,1695183700,1986661051,2177026350,2456956037,2730485921,2820302411,3259730800,3345764771,3516065817,3600352804,4094571909,275423344,430227734,506948616,659060556,883997877,958139571,1322822218,1537002063,1747873779,1955562222,2024104815,2227730452,2361852424,2428436474,2756734187,3204031479,3329325298]
def pG:List Int:=[1779033703,3144134277,1013904242,2773480762,1359893119,2600822924,528734635,1541459225]
def uQ(p:Nat->Int)(s:St):Nat->St
 | 0=>s
 | i+1=>rnd (uQ p s i) (kC.getD i 0) (wrd p i)
def wW(p:Nat->Int)(s:St):St:=
 let x:=uQ p s 64
 ⟨bJ x.a s.a,bJ x.b s.b,bJ x.c s.c,bJ x.d s.d,bJ x.e s.e,bJ x.f s.f,bJ x.g s.g,bJ x.h s.h⟩
def St.at(s:St)(j:Nat):Int:=s.l.getD j 0
def pV(x s:St)(j:Nat):List Int:=(List.range 8).map fun m=>if m<j then bJ (x.at m) (s.at m) else x.at m
theorem LY(p:Nat->Int)(s:St):pV (uQ p s 64) s 8=(wW p s).l:=rfl
theorem JK(x s:St)(j:Nat):(pV x s j).set j (bJ (x.at j) (s.at j))=pV x s (j+1):=by
 apply List.ext_getElem
 ·simp[pV]
 ·intro i a b
  simp only[List.getElem_set,pV,List.getElem_map,List.getElem_range]
  by_cases e:j=i
  ·subst e;simp
  ·rw[if_neg e]
   by_cases h:i<j
   ·rw[if_pos h,if_pos (by omega)]
   ·rw[if_neg h,if_neg (by omega)]
theorem LZ(x s:St)(j:Nat)(h:j<8):(pV x s j)[j]?=some (x.at j):=by
 simp[pV,h]
theorem St.at_get(s:St)(j:Nat)(h:j<8):s.l[j]?=some (s.at j):=by
 have:j<s.l.length:=h;simp[St.at,this]
def win(p:Nat->Int):Nat->Array Value
 | 0=>Array.replicate 16 (.int .u32 0)
 | i+1=>(win p i).setIfInBounds (i % 16) (vW (wrd p i))
theorem Ak(p:Nat->Int)(i:Nat):(win p i).size=16:=by
 induction i with
 | zero=>simp[win]
 | succ i a=>simp[win,a]
theorem tJ(p:Nat->Int):∀(i j:Nat),j<i->i≤j+16->(win p i)[j % 16]?=some (vW (wrd p j))
 | 0,_,h,_=>by omega
 | i+1,j,h,a=>by
   rw[win]
   by_cases e:j=i
   ·subst e
    have:j % 16<(win p j).size:=by rw[Ak];omega
    simp[this]
   ·rw[Array.getElem?_setIfInBounds_ne (by omega)]
    exact tJ p i j (by omega) (by omega)
def nX(n:Nat):Nat:=(119-n % 64) % 64
def many(n:Nat):Nat:=(n+9+nX n) / 64
theorem BV(n:Nat):nX n<64:=Nat.mod_lt _ (by omega)
theorem CH(n k:Nat)(a:k≤nX n):(n+1+k) % 64=56↔k=nX n:=by unfold nX at *;omega
theorem tK(n:Nat):n+1+nX n+8=64*many n:=by unfold many nX;omega
theorem Ef(n:Nat):0<many n:=by have:=tK n;omega
def tL(a:List UInt8):List UInt8:=a++[128]++List.replicate (nX a.length) 0++be (8*a.length) 8
theorem Dv(a:List UInt8):(tL a).length=64*many a.length:=by
 rw[←tK];simp[tL,bL];omega
def kG(a:List UInt8)(i:Nat):List UInt8:=((tL a).drop (64*i)).take 64
theorem rA(a:List UInt8)(i:Nat)(h:i<many a.length):(kG a i).length=64:=by
 simp[kG,Dv];omega
theorem JL(a:List UInt8)(i j:Nat)(b:j<64):(kG a i)[j]?=(tL a)[64*i+j]?:=by
 simp[kG,b]
end
end Go.Proofs.YtiinnfhjpaeffaaGreat
