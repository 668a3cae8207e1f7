/- A part of the proof. Conditions: those told. -/
import Derived.Test.YtjkbekifgobeaaaGreatDoorQ4
import Derived.WalkKit
namespace Go.Proofs.YtjkbekifgobeaaaGreatDoor
set_option maxHeartbeats 64000000
set_option maxRecDepth 100000
set_option linter.unusedVariables false
section
open Go.RowKit
def rot(x:Int)(n:Nat):Int:=bits .or .u32 (x / 2 ^ n) (x*2 ^ (32-n) % 4294967296)
theorem Bn(x y:Int):bits .or .u32 x y=bits .or .u32 y x:=by
 simp only[bits,BitVec.or_comm]
def iT(x y:Int):Int:=bits .xor .u32 x y
def qH(x y:Int):Int:=bits .and .u32 x y
def aZ(x y:Int):Int:=IntKind.u32.wrap (x+y)
def wF(a b c d:Int):Int:=bits .or .u32 (bits .or .u32 (bits .or .u32 (a*16777216) (b*65536)) (c*256)) d
def sg0(x:Int):Int:=iT (iT (rot x 7) (rot x 18)) (x / 8)
def sg1(x:Int):Int:=iT (iT (rot x 17) (rot x 19)) (x / 1024)
def wrd(p:Nat->Int)(i:Nat):Int:=
 if h:i<16 then wF (p (4*i)) (p (4*i+1)) (p (4*i+2)) (p (4*i+3))
 else aZ (aZ (aZ (wrd p (i-16)) (sg0 (wrd p (i-15)))) (wrd p (i-7))) (sg1 (wrd p (i-2)))
termination_by i
structure St where
 a:Int
 b:Int
 c:Int
 d:Int
 e:Int
 f:Int
 g:Int
 h:Int
def St.l(s:St):List Int:=[s.a,s.b,s.c,s.d,s.e,s.f,s.g,s.h]
def JJ(x:Int):Int:=bits .xor .u32 IntKind.u32.max x
def Bo(s:St)(k x:Int):Int:=
 aZ (aZ (aZ (aZ s.h (iT (iT (rot s.e 6) (rot s.e 11)) (rot s.e 25))) (iT (qH s.e s.f) (qH (JJ s.e) s.g))) k) x
def Eh(s:St):Int:=aZ (iT (iT (rot s.a 2) (rot s.a 13)) (rot s.a 22)) (iT (iT (qH s.a s.b) (qH s.a s.c)) (qH s.b s.c))
def rnd(s:St)(k x:Int):St:=⟨aZ (Bo s k x) (Eh s),s.a,s.b,s.c,aZ s.d (Bo s k x),s.e,s.f,s.g⟩
def vW(x:Int):Value:=.int .u32 x
def iC:List Int:=[1116352408,1899447441,3049323471,3921009573,961987163,1508970993,2453635748,2870763221,3624381080,310598401,607225278,1426881987,1925078388,2162078206,2614888103,3248222580,3835390401,4022224774,264347078,604807628,770255983,1249150122,1555081692,1996064986,2554220882,2821834349,2952996808,3210313671,3336571891,3584528711,113926993,338241895,666307205,773529912,1294757372,1396182291,1695183700,1986661051,2177026350,2456956037,2730485921,2820302411,3259730800,3345764771,3516065817,3600352804,4094571909,275423344,430227734,506948616,659060556,883997877,958139571,1322822218,1537002063,1747873779,1955562222,2024104815,2227730452,2361852424,2428436474,2756734187,3204031479,3329325298]
def lQ:List Int:=[1779033703,3144134277,1013904242,2773480762,1359893119,2600822924,528734635,1541459225]
def qI(p:Nat->Int)(s:St):Nat->St
 | 0=>s
 | i+1=>rnd (qI p s i) (iC.getD i 0) (wrd p i)
def rZ(p:Nat->Int)(s:St):St:=
 let x:=qI p s 64
 ⟨aZ x.a s.a,aZ x.b s.b,aZ x.c s.c,aZ x.d s.d,aZ x.e s.e,aZ x.f s.f,aZ x.g s.g,aZ x.h s.h⟩
def St.at(s:St)(j:Nat):Int:=s.l.getD j 0
def mJ(x s:St)(j:Nat):List Int:=(List.range 8).map fun m=>if m<j then aZ (x.at m) (s.at m) else x.at m
theorem Hz(p:Nat->Int)(s:St):mJ (qI p s 64) s 8=(rZ p s).l:=rfl
theorem FN(x s:St)(j:Nat):(mJ x s j).set j (aZ (x.at j) (s.at j))=mJ x s (j+1):=by
 apply List.ext_getElem
 ·simp[mJ]
 ·intro i h1 h2
  simp only[List.getElem_set,mJ,List.getElem_map,List.getElem_range]
  by_cases e:j=i
  ·subst e;simp
  ·rw[if_neg e]
   by_cases h:i<j
   ·rw[if_pos h,if_pos (by omega)]
   ·rw[if_neg h,if_neg (by omega)]
theorem H6(x s:St)(j:Nat)(h:j<8):(mJ x s j)[j]?=some (x.at j):=by
 simp[mJ,h]
theorem St.at_get(s:St)(j:Nat)(h:j<8):s.l[j]?=some (s.at j):=by
 have:j<s.l.length:=h;simp[St.at,this]
def win(p:Nat->Int):Nat->Array Value
 | 0=>Array.replicate 16 (.int .u32 0)
 | i+1=>(win p i).setIfInBounds (i % 16) (vW (wrd p i))
theorem uV(p:Nat->Int)(i:Nat):(win p i).size=16:=by
 induction i with
 | zero=>simp[win]
 | succ i ih=>simp[win,ih]
theorem pS(p:Nat->Int):∀(i j:Nat),j<i->i≤j+16->(win p i)[j % 16]?=some (vW (wrd p j))
 | 0,_,h,_=>by omega
 | i+1,j,h,h2=>by
   rw[win]
   by_cases e:j=i
   ·subst e
    have:j % 16<(win p j).size:=by rw[uV];omega
    simp[this]
   ·rw[Array.getElem?_setIfInBounds_ne (by omega)]
    exact pS p i j (by omega) (by omega)
def kN(n:Nat):Nat:=(119-n % 64) % 64
def many(n:Nat):Nat:=(n+9+kN n) / 64
theorem yE(n:Nat):kN n<64:=Nat.mod_lt _ (by omega)
theorem zM(n k:Nat)(hk:k≤kN n):(n+1+k) % 64=56↔k=kN n:=by unfold kN at *;omega
theorem pT(n:Nat):n+1+kN n+8=64*many n:=by unfold many kN;omega
theorem Bp(n:Nat):0<many n:=by have:=pT n;omega
def pU(bs:List UInt8):List UInt8:=bs++[128]++List.replicate (kN bs.length) 0++be (8*bs.length) 8
theorem AP(bs:List UInt8):(pU bs).length=64*many bs.length:=by
 rw[←pT];simp[pU,bA];omega
def iE(bs:List UInt8)(i:Nat):List UInt8:=((pU bs).drop (64*i)).take 64
theorem nU(bs:List UInt8)(i:Nat)(h:i<many bs.length):(iE bs i).length=64:=by
 simp[iE,AP];omega
theorem FO(bs:List UInt8)(i j:Nat)(hj:j<64):(iE bs i)[j]?=(pU bs)[64*i+j]?:=by
 simp[iE,hj]
end
end Go.Proofs.YtjkbekifgobeaaaGreatDoor
