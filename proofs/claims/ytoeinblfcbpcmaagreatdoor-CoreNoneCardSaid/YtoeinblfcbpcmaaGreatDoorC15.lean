import Derived.Test.YtoeinblfcbpcmaaGreatDoorC13
import Derived.WalkKit
namespace Go.Proofs.YtoeinblfcbpcmaaGreatDoor
set_option maxHeartbeats 0
set_option maxRecDepth 100000
set_option linter.unusedVariables false
section
open Go.RowKit
def rot(x:Int)(n:Nat):Int:=bits .or .u32 (x / 2 ^ n) (x*2 ^ (32-n) % 4294967296)
theorem Ey(x y:Int):bits .or .u32 x y=bits .or .u32 y x:=by
 simp only[bits,BitVec.or_comm]
def kW(x y:Int):Int:=bits .xor .u32 x y
def uT(x y:Int):Int:=bits .and .u32 x y
def bH(x y:Int):Int:=IntKind.u32.wrap (x+y)
def Bi(a b c d:Int):Int:=bits .or .u32 (bits .or .u32 (bits .or .u32 (a*16777216) (b*65536)) (c*256)) d
def sg0(x:Int):Int:=kW (kW (rot x 7) (rot x 18)) (x / 8)
def sg1(x:Int):Int:=kW (kW (rot x 17) (rot x 19)) (x / 1024)
def wrd(p:Nat->Int)(i:Nat):Int:=
 if h:i<16 then Bi (p (4*i)) (p (4*i+1)) (p (4*i+2)) (p (4*i+3))
 else bH (bH (bH (wrd p (i-16)) (sg0 (wrd p (i-15)))) (wrd p (i-7))) (sg1 (wrd p (i-2)))
termination_by i
structure St where
 a:Int
 b:Int
 c:Int
 d:Int
 e:Int
 f:Int
 g:Int
 h:Int
def St.l(s:St):List Int:=[s.a,s.b,s.c,s.d,s.e,s.f,s.g,s.h]
def Ox(x:Int):Int:=bits .xor .u32 IntKind.u32.max x
def Ez(s:St)(k x:Int):Int:=
 bH (bH (bH (bH s.h (kW (kW (rot s.e 6) (rot s.e 11)) (rot s.e 25))) (kW (uT s.e s.f) (uT (Ox s.e) s.g))) k) x
def Ik(s:St):Int:=bH (kW (kW (rot s.a 2) (rot s.a 13)) (rot s.a 22)) (kW (kW (uT s.a s.b) (uT s.a s.c)) (uT s.b s.c))
def rnd(s:St)(k x:Int):St:=⟨bH (Ez s k x) (Ik s),s.a,s.b,s.c,bH s.d (Ez s k x),s.e,s.f,s.g⟩
def vW(x:Int):Value:=.int .u32 x
def jZ:List Int:=[1116352408,1899447441,3049323471,3921009573,961987163,1508970993,2453635748,2870763221,3624381080,310598401,607225278,1426881987,1925078388,2162078206,2614888103,3248222580,3835390401,4022224774,264347078,604807628,770255983,1249150122,1555081692,1996064986,2554220882,2821834349,2952996808,3210313671,3336571891,3584528711,113926993,338241895,666307205,773529912,1294757372,1396182291,1695183700,1986661051,2177026350,2456956037,2730485921,2820302411,3259730800,3345764771,3516065817,3600352804,4094571909,275423344,430227734,506948616,659060556,883997877,958139571,1322822218,1537002063,1747873779,1955562222,2024104815,2227730452,2361852424,2428436474,2756734187,3204031479,3329325298]
def pA:List Int:=[1779033703,3144134277,1013904242,2773480762,1359893119,2600822924,528734635,1541459225]
def uU(p:Nat->Int)(s:St):Nat->St
 | 0=>s
 | i+1=>rnd (uU p s i) (jZ.getD i 0) (wrd p i)
def xB(p:Nat->Int)(s:St):St:=
 let x:=uU p s 64
 ⟨bH x.a s.a,bH x.b s.b,bH x.c s.c,bH x.d s.d,bH x.e s.e,bH x.f s.f,bH x.g s.g,bH x.h s.h⟩
def St.at(s:St)(j:Nat):Int:=s.l.getD j 0
def pR(x s:St)(j:Nat):List Int:=(List.range 8).map fun m=>if m<j then bH (x.at m) (s.at m) else x.at m
theorem MC(p:Nat->Int)(s:St):pR (uU p s 64) s 8=(xB p s).l:=rfl
theorem Kd(x s:St)(j:Nat):(pR x s j).set j (bH (x.at j) (s.at j))=pR x s (j+1):=by
 apply List.ext_getElem
 ·simp[pR]
 ·intro i a b
  simp only[List.getElem_set,pR,List.getElem_map,List.getElem_range]
  by_cases e:j=i
  ·subst e;simp
  ·rw[if_neg e]
   by_cases h:i<j
   ·rw[if_pos h,if_pos (by omega)]
   ·rw[if_neg h,if_neg (by omega)]
theorem MD(x s:St)(j:Nat)(h:j<8):(pR x s j)[j]?=some (x.at j):=by
 simp[pR,h]
theorem St.at_get(s:St)(j:Nat)(h:j<8):s.l[j]?=some (s.at j):=by
 have:j<s.l.length:=h;simp[St.at,this]
def win(p:Nat->Int):Nat->Array Value
 | 0=>Array.replicate 16 (.int .u32 0)
 | i+1=>(win p i).setIfInBounds (i % 16) (vW (wrd p i))
theorem AE(p:Nat->Int)(i:Nat):(win p i).size=16:=by
 induction i with
 | zero=>simp[win]
 | succ i a=>simp[win,a]
theorem tK(p:Nat->Int):∀(i j:Nat),j<i->i≤j+16->(win p i)[j % 16]?=some (vW (wrd p j))
 | 0,_,h,_=>by omega
 | i+1,j,h,a=>by
   rw[win]
   by_cases e:j=i
   ·subst e
    have:j % 16<(win p j).size:=by rw[AE];omega
    simp[this]
   ·rw[Array.getElem?_setIfInBounds_ne (by omega)]
    exact tK p i j (by omega) (by omega)
def nW(n:Nat):Nat:=(119-n % 64) % 64
def many(n:Nat):Nat:=(n+9+nW n) / 64
theorem Cm(n:Nat):nW n<64:=Nat.mod_lt _ (by omega)
theorem CT(n k:Nat)(a:k≤nW n):(n+1+k) % 64=56↔k=nW n:=by unfold nW at *;omega
theorem tL(n:Nat):n+1+nW n+8=64*many n:=by unfold many nW;omega
theorem EA(n:Nat):0<many n:=by have:=tL n;omega
def tM(a:List UInt8):List UInt8:=a++[128]++List.replicate (nW a.length) 0++be (8*a.length) 8
theorem DK(a:List UInt8):(tM a).length=64*many a.length:=by
 rw[←tL];simp[tM,bK];omega
def kD(a:List UInt8)(i:Nat):List UInt8:=((tM a).drop (64*i)).take 64
theorem rC(a:List UInt8)(i:Nat)(h:i<many a.length):(kD a i).length=64:=by
 simp[kD,DK];omega
theorem Ke(a:List UInt8)(i j:Nat)(b:j<64):(kD a i)[j]?=(tM a)[64*i+j]?:=by
 simp[kD,b]
end
end Go.Proofs.YtoeinblfcbpcmaaGreatDoor
