import Derived.Test.YtoeinblfcbpcmaaGreatR12
import Derived.WalkKit
namespace Go.Proofs.YtoeinblfcbpcmaaGreat
set_option maxHeartbeats 0
set_option maxRecDepth 100000
set_option linter.unusedVariables false
section
open Go.RowKit
def rot(x:Int)(n:Nat):Int:=bits .or .u32 (x / 2 ^ n) (x*2 ^ (32-n) % 4294967296)
theorem Ei(x y:Int):bits .or .u32 x y=bits .or .u32 y x:=by
 simp only[bits,BitVec.or_comm]
def kS(x y:Int):Int:=bits .xor .u32 x y
def uJ(x y:Int):Int:=bits .and .u32 x y
def bI(x y:Int):Int:=IntKind.u32.wrap (x+y)
def AR(a b c d:Int):Int:=bits .or .u32 (bits .or .u32 (bits .or .u32 (a*16777216) (b*65536)) (c*256)) d
def sg0(x:Int):Int:=kS (kS (rot x 7) (rot x 18)) (x / 8)
def sg1(x:Int):Int:=kS (kS (rot x 17) (rot x 19)) (x / 1024)
def wrd(p:Nat->Int)(i:Nat):Int:=
 if h:i<16 then AR (p (4*i)) (p (4*i+1)) (p (4*i+2)) (p (4*i+3))
 else bI (bI (bI (wrd p (i-16)) (sg0 (wrd p (i-15)))) (wrd p (i-7))) (sg1 (wrd p (i-2)))
termination_by i
structure St where
 a:Int
 b:Int
 c:Int
 d:Int
 e:Int
 f:Int
 g:Int
 h:Int
def St.l(s:St):List Int:=[s.a,s.b,s.c,s.d,s.e,s.f,s.g,s.h]
def NX(x:Int):Int:=bits .xor .u32 IntKind.u32.max x
def Ej(s:St)(k x:Int):Int:=
 bI (bI (bI (bI s.h (kS (kS (rot s.e 6) (rot s.e 11)) (rot s.e 25))) (kS (uJ s.e s.f) (uJ (NX s.e) s.g))) k) x
def Io(s:St):Int:=bI (kS (kS (rot s.a 2) (rot s.a 13)) (rot s.a 22)) (kS (kS (uJ s.a s.b) (uJ s.a s.c)) (uJ s.b s.c))
def rnd(s:St)(k x:Int):St:=⟨bI (Ej s k x) (Io s),s.a,s.b,s.c,bI s.d (Ej s k x),s.e,s.f,s.g⟩
def vW(x:Int):Value:=.int .u32 x
def jP:List Int:=[1116352408,1899447441,3049323471,3921009573,961987163,1508970993,2453635748,2870763221,3624381080,310598401,607225278,1426881987,1925078388,2162078206,2614888103,3248222580,3835390401,4022224774,264347078,604807628,770255983,1249150122,1555081692,1996064986,2554220882,2821834349,2952996808,3210313671,3336571891,3584528711,113926993,338241895,666307205,773529912,1294757372,1396182291,1695183700,1986661051,2177026350,2456956037,2730485921,2820302411,3259730800,3345764771,3516065817,3600352804,4094571909,275423344,430227734,506948616,659060556,883997877,958139571,1322822218,1537002063,1747873779,1955562222,2024104815,2227730452,2361852424,2428436474,2756734187,3204031479,3329325298]
def oW:List Int:=[1779033703,3144134277,1013904242,2773480762,1359893119,2600822924,528734635,1541459225]
def uK(p:Nat->Int)(s:St):Nat->St
 | 0=>s
 | i+1=>rnd (uK p s i) (jP.getD i 0) (wrd p i)
def wQ(p:Nat->Int)(s:St):St:=
 let x:=uK p s 64
 ⟨bI x.a s.a,bI x.b s.b,bI x.c s.c,bI x.d s.d,bI x.e s.e,bI x.f s.f,bI x.g s.g,bI x.h s.h⟩
def St.at(s:St)(j:Nat):Int:=s.l.getD j 0
def pN(x s:St)(j:Nat):List Int:=(List.range 8).map fun m=>if m<j then bI (x.at m) (s.at m) else x.at m
theorem Mi(p:Nat->Int)(s:St):pN (uK p s 64) s 8=(wQ p s).l:=rfl
theorem JY(x s:St)(j:Nat):(pN x s j).set j (bI (x.at j) (s.at j))=pN x s (j+1):=by
 apply List.ext_getElem
 ·simp[pN]
 ·intro i a b
  simp only[List.getElem_set,pN,List.getElem_map,List.getElem_range]
  by_cases e:j=i
  ·subst e;simp
  ·rw[if_neg e]
   by_cases h:i<j
   ·rw[if_pos h,if_pos (by omega)]
   ·rw[if_neg h,if_neg (by omega)]
theorem Mj(x s:St)(j:Nat)(h:j<8):(pN x s j)[j]?=some (x.at j):=by
 simp[pN,h]
theorem St.at_get(s:St)(j:Nat)(h:j<8):s.l[j]?=some (s.at j):=by
 have:j<s.l.length:=h;simp[St.at,this]
def win(p:Nat->Int):Nat->Array Value
 | 0=>Array.replicate 16 (.int .u32 0)
 | i+1=>(win p i).setIfInBounds (i % 16) (vW (wrd p i))
theorem zY(p:Nat->Int)(i:Nat):(win p i).size=16:=by
 induction i with
 | zero=>simp[win]
 | succ i a=>simp[win,a]
theorem tE(p:Nat->Int):∀(i j:Nat),j<i->i≤j+16->(win p i)[j % 16]?=some (vW (wrd p j))
 | 0,_,h,_=>by omega
 | i+1,j,h,a=>by
   rw[win]
   by_cases e:j=i
   ·subst e
    have:j % 16<(win p j).size:=by rw[zY];omega
    simp[this]
   ·rw[Array.getElem?_setIfInBounds_ne (by omega)]
    exact tE p i j (by omega) (by omega)
def nF(n:Nat):Nat:=(119-n % 64) % 64
def many(n:Nat):Nat:=(n+9+nF n) / 64
theorem BP(n:Nat):nF n<64:=Nat.mod_lt _ (by omega)
theorem CA(n k:Nat)(a:k≤nF n):(n+1+k) % 64=56↔k=nF n:=by unfold nF at *;omega
theorem tF(n:Nat):n+1+nF n+8=64*many n:=by unfold many nF;omega
theorem Ek(n:Nat):0<many n:=by have:=tF n;omega
def tG(a:List UInt8):List UInt8:=a++[128]++List.replicate (nF a.length) 0++be (8*a.length) 8
theorem Dy(a:List UInt8):(tG a).length=64*many a.length:=by
 rw[←tF];simp[tG,bJ];omega
def jT(a:List UInt8)(i:Nat):List UInt8:=((tG a).drop (64*i)).take 64
theorem qT(a:List UInt8)(i:Nat)(h:i<many a.length):(jT a i).length=64:=by
 simp[jT,Dy];omega
theorem JZ(a:List UInt8)(i j:Nat)(b:j<64):(jT a i)[j]?=(tG a)[64*i+j]?:=by
 simp[jT,b]
end
end Go.Proofs.YtoeinblfcbpcmaaGreat
