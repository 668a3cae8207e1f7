/- A part of the proof. Conditions: those told. -/
import Derived.Test.YtjkbekifgobeaaaGreatDoorB1
import Derived.Test.YtjkbekifgobeaaaGreatDoorB28
namespace Go.Proofs.YtjkbekifgobeaaaGreatDoor
set_option maxHeartbeats 64000000
set_option maxRecDepth 100000
set_option linter.unusedVariables false
section
open Go.RowKit Go.Maps Go.ChangeMaps
def Dz(w:World)(Z:Nat)(e:Ending)(w':World):Prop:=∃c M B,e=.returned (.pointer (some ⟨c,0,none⟩))/\KI w' c ⟨2,Z,2,[],M,0⟩ B/\(∀k,B k->w.heap.size≤k)/\aA aB w w'
theorem EZ{w:World}{base:Nat}{B:Nat->Prop}{v:Value}{xs:List Value}(ho:w.ownsRow base 5 1 v 256 xs)(hB:∀i,B i->i<base):∀i,v.ownBlock=some i->¬B i/\i<w.heap.size:=fun i hi =>
 ⟨fun e=>by have:=aQ ho hi;have:=hB i e;omega,by obtain⟨cur,hc⟩:=aL ho hi;exact lt_of_block hc⟩
theorem DA{P:Program}{ops:Array Oper}{Q:Exit->Act->World->Prop}{id:Nat}{a:Act}{w:World}{α β γ δ:Type}(F:α->β->γ->δ->Act)(R:α->β->γ->δ->World->Prop)(h:(Code.region id ops true).wp P (fun x a w=>x=.normal/\∃p q r s,a=F p q r s/\R p q r s w) a w)(hR:∀p q r s w,R p q r s w->Q .normal (F p q r s) w):(Code.region id ops true).wp P Q a w:=
 wp_mono h fun e a w h=>by obtain⟨rfl,p,q,r,s,rfl,h2⟩:=h;exact hR p q r s w h2
theorem Gs(w:World)(av bv:Value)(xs ys:List UInt8)(ha:Rd w 1 av xs.length (xs.map vb))(hb:Rd w 1 bv ys.length (ys.map vb))(b:Bool)(he:decide (xs=ys)=b):Calls Tryz.prog 24 #[av,bv] w (bF w b):=
 (AI w av bv xs ys ha hb b he).mono fun e w' h=>by obtain⟨h1,rfl⟩:=h;exact⟨h1,aA.refl _ _⟩
theorem Loc.turn2{S B L L':Nat->Prop}{w0 w w':World}{l:List (Nat×Array Value×TypeId)}(h:Loc S L w0 w l)(k:aA B w w')(hL:∀k,B k->L k)(hS:∀k,k<w0.heap.size->B k->S k)(hB:∀k,k<w.heap.size->L' k->L k):Loc S L' w0 w' l:=
 ⟨h.keep.trans' k (fun _ _ h=>h) hS,h.ge,h.nd,fun x hx=>k.blk (h.at_ x hx) (fun e=>h.ap x hx (hL _ e)),fun x hx hb=>h.ap x hx (hB _ (lt_of_block (h.at_ x hx)) hb)⟩
def Lv(w:World)(e:Ending)(w':World):Prop:=e=.returned (.bool true)/\aA aB w w'
def LR(B:Nat->Prop)(rs:List (Value×Pt))(k:Nat):Prop:=B k\/∃r∈rs,r.1.ownBlock=some k
structure Cs(B0:Nat->Prop)(w0:World)(c:Nat)(S:Kor)(B:Nat->Prop)(rs:List (Value×Pt))(w:World)(l:List (Nat×Array Value×TypeId)):Prop where
 loc:Loc B0 (LR B rs) w0 w l
 ki:KI w c S B
 pv:∀r∈rs,aM w B r.1 r.2
 bb:∀i,B i->B0 i\/w0.heap.size≤i
section
variable {B0:Nat->Prop}{w0 w w':World}{c:Nat}{S T:Kor}{B B':Nat->Prop}{rs rs':List (Value×Pt)}{l:List (Nat×Array Value×TypeId)}
theorem Cs.lt_(h:Cs B0 w0 c S B rs w l){k:Nat}(hk:LR B rs k):k<w.heap.size:=by
 rcases hk with hk|⟨r,hr,hk⟩
 ·exact h.ki.lt hk
 ·exact((h.pv r hr).off k hk).2.lt
theorem Cs.keep(h:Cs B0 w0 c S B rs w l):aA B0 w0 w:=h.loc.keep
theorem Cs.b(h:Cs B0 w0 c S B rs w l)(i:Nat){b:Nat}{cs:Array Value}{t:TypeId}(hi:l[i]?=some (b,cs,t):=by rfl):w.heap[b]?=some (.cells cs t (0,0)):=h.loc.b i hi
theorem Cs.ne(h:Cs B0 w0 c S B rs w l)(i j:Nat){b b':Nat}{cs cs':Array Value}{t t':TypeId}(hij:j≠i:=by decide)(hi:l[i]?=some (b,cs,t):=by rfl)(hj:l[j]?=some (b',cs',t'):=by rfl):b'≠b:=bK h.loc.nd hi j hij hj
theorem Cs.keeps(h:Cs B0 w0 c S B rs w l)(k:aA aB w w'):Cs B0 w0 c S B rs w' l:=⟨h.loc.keeps k,h.ki.keep0 k,fun r hr=>(h.pv r hr).keep0 k,h.bb⟩
theorem Cs.new(h:Cs B0 w0 c S B rs w l){b:Nat}{cs:Array Value}{t:TypeId}(_:True)(hb:w.heap.size=b)(k:aA aB w w')(hn:w'.heap[b]?=some (.cells cs t (0,0))):Cs B0 w0 c S B rs w' ((b,cs,t)::l):=
 ⟨h.loc.new (fun _ e=>h.lt_ e) hb k hn,h.ki.keep0 k,fun r hr=>(h.pv r hr).keep0 k,h.bb⟩
theorem Cs.set(h:Cs B0 w0 c S B rs w l)(i:Nat){b:Nat}{cs cs':Array Value}{t:TypeId}(k:aA (fun k=>k=b) w w')(hn:w'.heap[b]?=some (.cells cs' t (0,0)))(hi:l[i]?=some (b,cs,t):=by rfl):Cs B0 w0 c S B rs w' (l.set i (b,cs',t)):=by
 have ha:=h.loc.ap _ (List.mem_of_getElem? hi);exact⟨h.loc.set i k hn hi,h.ki.keepT k (fun i e hq=>by subst e;exact ha (.inl hq)),fun r hr=>(h.pv r hr).keepT k (fun i hq e=>by subst e;exact ha (.inr ⟨r,hr,hq⟩)),h.bb⟩
theorem Cs.laid(h:Cs B0 w0 c S B rs w l){v:Value}{p:Pt}(hp:aM w' B' v p)(hk:KI w' c T B')(hb:∀k,B' k->B k\/w.heap.size≤k)(hn:dJ w v)(k:aA B w w'):Cs B0 w0 c T B' ((v,p)::rs) w' l:=by
 refine⟨h.loc.turn2 k (fun _ e=>.inl e) (fun i hi e=>(h.bb i e).elim id fun e=>by omega) ?_,hk,?_,fun i e=>(hb i e).elim (h.bb i) fun e=>.inr (Nat.le_trans h.keep.size e)⟩
 ·rintro i hi (e|⟨r,hr,e⟩)
  ·exact(hb i e).elim .inl fun e=>by omega
  ·rcases List.mem_cons.1 hr with rfl|hr
   ·have:=hn i e;omega
   ·exact .inr ⟨r,hr,e⟩
 ·intro r hr
  rcases List.mem_cons.1 hr with rfl|hr
  ·exact hp
  ·exact(h.pv r hr).keep k hb
theorem Cs.start(h:KI w c S B):Cs B w c S B [] w []:=⟨Loc.nil _ _ w,h,(fun r hr=>by cases hr),fun _ e=>.inl e⟩
theorem Cs.pv0{v:Value}{p:Pt}(h:Cs B0 w0 c S B rs w l)(i:Nat)(hi:rs[i]?=some (v,p):=by rfl):aM w B v p:=h.pv _ (List.mem_of_getElem? hi)
theorem Cs.fin{w2:World}(h:Cs B0 w0 c S B rs w l)(hB:∀k,B0 k->w2.heap.size≤k)(k:aA aB w2 w0):aA aB w2 w:=
 k.trans' h.keep (fun _ _ h=>h.elim) (fun i hi e=>by have:=hB i e;omega)
end
theorem nmP{w:World}{B:Nat->Prop}{v:Value}{p:Pt}(h:aM w B v p):∃c,Hid (aF v p=c)/\c.length=35/\Hid (∀u∈c,u.oneCell'=true):=⟨_,O rfl,aN h.pt.sum,O (bO h.pt)⟩
theorem vB{w:World}{v:Value}(h:v=.slice none 0 0\/dJ w v):dJ w v:=h.elim (fun e=>by rw[e];exact dJ.nil w) id
structure Ds(SP:Nat->Prop)(wd:World)(B0:Nat->Prop)(w0:World)(c:Nat)(S:Kor)(B:Nat->Prop)(rs:List (Value×Pt))(w:World)(l:List (Nat×Array Value×TypeId)):Prop extends Cs B0 w0 c S B rs w l where
 dr:aA SP wd w
section
variable {SP:Nat->Prop}{wd:World}{B0:Nat->Prop}{w0 w w':World}{c:Nat}{Sk T:Kor}{B B':Nat->Prop}{rs rs':List (Value×Pt)}{l:List (Nat×Array Value×TypeId)}{P:Program}{ops:Array Oper}{o:Oper}{a:Act}{Q:Exit->Act->World->Prop}{md:Region.Mode}{S:World->Prop}{fuel:Nat}{L:Array Bool}
theorem Ds.keeps(h:Ds SP wd B0 w0 c Sk B rs w l)(k:aA aB w w'):Ds SP wd B0 w0 c Sk B rs w' l:=⟨h.toCs.keeps k,h.dr.trans k.any⟩
theorem Ds.laid(h:Ds SP wd B0 w0 c Sk B rs w l)(hSP:∀i,i<wd.heap.size->B i->SP i){v:Value}{p:Pt}(hp:aM w' B' v p)(hk:KI w' c T B')(hb:∀k,B' k->B k\/w.heap.size≤k)(hn:dJ w v)(k:aA B w w'):Ds SP wd B0 w0 c T B' ((v,p)::rs) w' l:=
 ⟨h.toCs.laid hp hk hb hn k,h.dr.trans' k (fun _ _ e=>e) hSP⟩
theorem Ds.own(h:Ds B wd B0 w0 c Sk B rs wd l)(k:aA B wd w')(i:Nat){b:Nat}{cs:Array Value}{t:TypeId}(hi:l[i]?=some (b,cs,t):=by rfl):w'.heap[b]?=some (.cells cs t (0,0)):=k.blk (h.b i hi) fun e=>h.loc.ap _ (List.mem_of_getElem? hi) (.inl e)
theorem alD(HL:Hid (Ds SP wd B0 w0 c Sk B rs w l))(HSI:Hid (∀w',aA SP wd w'->S w'))(T:TypeId)(z:Value)(cs:Array Value)(hz:Hid (∀w,(zeroValue T).run P w=.ok z w))
 (h:∀b w',wd.heap.size≤b->aA aB w w'->Hid (Ds SP wd B0 w0 c Sk B rs w' ((b,cs,T)::l))->wpAnyH P md ops Q S fuel L (a.put o.dst (.pointer (some ⟨b,0,none⟩))) w')
 (hcs:z.cells=cs:=by rfl) (hg:o.guard=none:=by rfl) (ho:o.op=.alloc T:=by rfl):wpList P ops (Exit.then (fun a' w'=>S w'/\wpAnyH P md ops Q S fuel L a' w') Q) [o] a w:=
 al T z cs hz (fun b w' hbs hk hb=>wpList_nil ⟨HSI.out _ (HL.out.dr.trans hk.any),h b w' (by have:=HL.out.dr.size;omega) hk (O ⟨HL.out.toCs.new trivial hbs hk hb,HL.out.dr.trans hk.any⟩)⟩) hcs hg ho
theorem stD(HL:Hid (Ds SP wd B0 w0 c Sk B rs w l))(HSI:Hid (∀w',aA SP wd w'->S w'))(i:Nat){b:Nat}{cs:Array Value}{t:TypeId}(hi:l[i]?=some (b,cs,t))(T:TypeId)(x y:Operand)(vs:List Value)(hb9:wd.heap.size≤b\/SP b)
 (hfit:vs.length=cs.size) (hs:(P.info? T).map (·.size)=some vs.length) (h1:∀v∈vs,v.oneCell'=true)
 (h:∀w',Hid (Ds SP wd B0 w0 c Sk B rs w' (l.set i (b,vs.toArray,t)))->wpAnyH P md ops Q S fuel L (a.put o.dst undef) w')
 (hx:a.eval x=.pointer (some ⟨b,0,none⟩):=by rfl) (hy:(a.eval y).cells=vs.toArray:=by rfl) (hg:o.guard=none:=by rfl) (ho:o.op=.store T x y:=by rfl):wpList P ops (Exit.then (fun a' w'=>S w'/\wpAnyH P md ops Q S fuel L a' w') Q) [o] a w:=
 sta T x y b 0 vs (HL.out.b i hi) (by omega) hs h1 (fun w' hk hb=>by
  rw[aH _ _ hfit] at hb;have hd:aA SP wd w':=HL.out.dr.trans' hk (fun _ _ h=>h) (fun j hj e=>hb9.elim (fun h=>by omega) (fun h=>by rw[e];exact h));exact wpList_nil ⟨HSI.out _ hd,h w' (O ⟨HL.out.toCs.set i hk hb hi,hd⟩)⟩) hx hy hg ho
end
theorem Gt{P:Program}{ops:Array Oper}{Q:Exit->Act->World->Prop}{id:Nat}{a:Act}{B0:Nat->Prop}{w0 w:World}{c:Nat}{Sk:Kor}{B:Nat->Prop}{rs:List (Value×Pt)}{l:List (Nat×Array Value×TypeId)}(SP:Nat->Prop)(HL:Hid (Cs B0 w0 c Sk B rs w l))(hm:P.follows .mixedOrders=true)
 (h:∀wd (S:World->Prop),Hid (∀w',S w'->aA SP wd w')->Hid (∀w',aA SP wd w'->S w')->aA aB w wd->Hid (Ds SP wd B0 w0 c Sk B rs wd l)->wpAnyH P .any ops (As Q) S ops.size (Array.replicate ops.size false) a wd):(Code.region id ops true).wp P Q a w:=by
 have hd:=(aA.refl aB w).drew;exact eF (S:=fun w'=>aA SP w.drew w') hm (h w.drew (fun w'=>aA SP w.drew w') (O fun _ h=>h) (O fun _ h=>h) hd (O ⟨HL.out.keeps hd,aA.refl _ _⟩))
theorem ldD{P:Program}{ops:Array Oper}{S:World->Prop}{o:Oper}{a:Act}(ty:TypeId)(x:Operand)(b k:Nat)(cs:List Value)(d:TypeDesc)(hc:∀w,S w->w.rangeAt b k cs)(hu:P.underlying ty=some d)(hi:(P.info? ty).map (·.size)=some cs.length)(hw:Region.wanted o (yielded ops a.tmps)=true:=by rfl)
 (ho:o.op=.load ty x:=by rfl) (hx:a.eval x=.pointer (some ⟨b,k,none⟩):=by rfl) (hd:d.isRow=true:=by rfl):YieldsIf P ops S o (.agg cs.toArray) a:=
 yieldsIf_load_mid hw ty x ho b k hx cs d hc hu hd hi
theorem sD9 {SP:Nat->Prop}{wd:World}{B0:Nat->Prop}{w0 w:World}{c:Nat}{Sk:Kor}{B:Nat->Prop}{rs:List (Value×Pt)}{l:List (Nat×Array Value×TypeId)}{S:World->Prop}(h:Hid (∀w',aA SP wd w'->S w'))(k:Hid (Ds SP wd B0 w0 c Sk B rs w l)):S w:=h.out _ k.out.dr
def gH(e:Int):List PanicEntry:=[{ v:=.iface 112 (.agg #[.int .i64 e]),recovered:=false }]
theorem KY(e:Int)(w:World):(Instr.build 112 #[(0,.int .i64 e)]).run Tryz.prog w=.ok (.agg #[.int .i64 e]) w:=by kernel_rfl
def jK(w:World)(c:Nat)(B:Nat->Prop)(r:Option Tr)(T:Kor)(e:Ending)(w':World):Prop:=
 match r with
 | some t=>∃v B',e=.returned (.agg (aF v t.ptr).toArray)/\aM w' B' v t.ptr/\KI w' c T B'/\(∀k,B' k->B k\/w.heap.size≤k)/\Cl w w' B B'/\dJ w v/\aA B w w'
 | none=>e=.panicked (gH 15)/\aA B w w'
def DB(w:World)(c:Nat)(B:Nat->Prop)(r:Option (Pt×Kor))(e:Ending)(w':World):Prop:=
 match r with
 | some (p,T)=>∃v B',e=.returned (.agg (aF v p).toArray)/\aM w' B' v p/\KI w' c T B'/\(∀k,B' k->B k\/w.heap.size≤k)/\Cl w w' B B'/\dJ w v/\aA B w w'
 | none=>e=.panicked (gH 15)/\aA B w w'
theorem Bt{w:World}{c:Nat}{S:Kor}{B:Nat->Prop}(hK:KI w c S B){lv:Nat}(hlv:lv≤3){vv:Value}{bs:List UInt8}(hbl:bs.length=256)(hr:Rd w 1 vv 256 (bs.map vb))(hvb:∀i,vv.ownBlock=some i->¬B i):Calls Tryz.prog 55 #[.pointer (some ⟨c,0,none⟩),.int .i64 (lv:Int),vv] w (DB w c B (S.put lv bs)):=by
 have HL:=O (Cs.start hK);have HCL:=O (Cl.refl w w B (aA.refl _ _));obtain⟨va,vc,rfl,-,-⟩:=hr.form;have HR:=O hr;have HBL:=O hbl;have HVB:=O hvb;obtain⟨r,hpr⟩:∃r,S.put lv bs=r:=⟨_,rfl⟩
 have HPR:=O hpr;rw[hpr];have hzp:(aF (.slice none 0 0) zPt).length=35:=rfl;have hzb:=gG;obtain⟨zp,hzpe⟩:∃l,aF (.slice none 0 0) zPt=l:=⟨_,rfl⟩
 have HOZP:Hid (∀u∈zp,u.oneCell'=true):=O (by rw[←hzpe];exact bQ zPt);have HZPE:=O hzpe;rw[hzpe] at hzp hzb;have HZB:=O hzb;clear hzpe hzb;clear hr hbl hvb hpr hK;go_enter Tryz.func55,Tryz.ntmps55
 go_wp2_with ((with_reducible show WL _ _);refine al 26 (.agg aG.toArray) (aG.toArray) bD ?_)
 intro b6 w1 hbs hk hb;replace HL:=O (HL.out.new (trivial) hbs hk hb);replace HR:=O (HR.out.keep hk fun _ _=>id);replace HCL:=O (HCL.out.trans (Cl.refl _ _ _ hk));clear hbs hk hb;go_wp2_with fail;have HW1:=O HL.out.keep;refine((by have h:=KI.put HL.out.ki (lv:=lv) hlv HBL.out HR.out HVB.out;rw[HPR.out] at h;exact h:Calls _ _ _ w1 (mA w1 c B r S))).mono ?_;rintro e w2 hm;cases r with
 | none =>
   obtain⟨rfl,-,hk⟩:=hm;replace HL:=O (HL.out.keeps hk);have hbf:=KY 15;rw[HZPE.out];clear hk HR HCL HW1
   go_wp2_with ((with_reducible show WL _ _);refine al 26 (.agg aG.toArray) (aG.toArray) bD ?_)
   intro b7 w3 hbs hk0 hb0_
   go_wp2_with ((with_reducible show WL _ _);refine sta 26 (.tmp 7) (.tmp 14) b7 0 zp hb0_ (by first|decide|(rw[List.size_toArray,hzp];exact Nat.le_refl _)|simp[hzp,aE]) (szP9 hzp) HOZP.out ?_)
   intro w4 hk hb;rw[aH _ _ (by first|rfl|(rw[List.size_toArray,hzp];rfl)|simp[hzp,aE])] at hb;replace hk:=hk0.trans' hk (U:=aB) (fun _ _ h=>h) (fun i hi e=>by omega);replace HL:=O (HL.out.new (trivial) hbs hk hb);clear hbs hk hb hk0 hb0_;go_wp2_with fail;have HP:Hid (DB w c B none (.panicked (gH 15)) w4):=O ⟨rfl,HL.out.keep⟩;go_wp2_with fail;exact⟨rfl,HP.out⟩
 | some x =>
   obtain⟨p,T⟩:=x;obtain⟨v,B',rfl,hpv,hki,hbb,hcl,hnw,hk⟩:=hm;have HNW:=O (hnw.from HW1.out.size);replace HCL:=O (HCL.out.trans hcl);replace HL:=O (HL.out.laid hpv hki hbb hnw hk);obtain⟨qc,HQC,hqc,HOQ⟩:=nmP hpv;rw[HQC.out];clear hpv hki hbb hcl hnw hk HR HW1
   go_wp2_with ((with_reducible show WL _ _);refine al 26 (.agg aG.toArray) (aG.toArray) bD ?_)
   intro b7 w3 hbs hk0 hb0_
   go_wp2_with ((with_reducible show WL _ _);refine sta 26 (.tmp 7) (.tmp 14) b7 0 qc hb0_ (by first|decide|(rw[List.size_toArray,hqc];exact Nat.le_refl _)|simp[hqc,aE]) (szP9 hqc) HOQ.out ?_)
   intro w4 hk hb;rw[aH _ _ (by first|rfl|(rw[List.size_toArray,hqc];rfl)|simp[hqc,aE])] at hb;replace hk:=hk0.trans' hk (U:=aB) (fun _ _ h=>h) (fun i hi e=>by omega);replace HL:=O (HL.out.new (trivial) hbs hk hb);replace HCL:=O (HCL.out.trans (Cl.refl _ _ _ hk));clear hbs hk hb hk0 hb0_
   go_wp2_with ((with_reducible show WL _ _);first
    | refine wpList_load_mid rfl 26 (.tmp 7) rfl b7 0 rfl qc _ (aD (HL.out.b 0)) aI rfl (szP9 hqc) ?_
    | refine sta 26 (.tmp 6) (.tmp 21) b6 0 qc (HL.out.b 1) (by first|decide|(rw[hqc];exact Nat.le_refl _)|simp[hqc,aE]) (szP9 hqc) HOQ.out ?_)
   intro w5 hk hb;rw[aH _ _ (by first|rfl|simp[hqc,aE])] at hb;replace HL:=O (HL.out.set 1 hk hb);replace HCL:=O (Cl.onT HCL.out hk fun i hq e=>by rw[e] at hq;first|exact (HL.out.loc.aq 0) (.inl hq)|exact (HL.out.loc.aq 1) (.inl hq)|exact (HL.out.loc.aq 2) (.inl hq)|exact (HL.out.loc.aq 3) (.inl hq));clear hk hb;go_wp2_with fail;have HB6:=O (HL.out.b 1);have HP:Hid (DB w c B (some (p,T)) (.returned (.agg qc.toArray)) w5):=O ⟨v,B',by rw[HQC.out],HL.out.pv0 0,HL.out.ki,HL.out.bb,HCL.out,HNW.out,HL.out.keep⟩;clear HL HCL;go_wp2_with fail;refine bodyPost_ret (results_cell_row rfl _ _ b6 _ _ _ _ rfl HB6.out aI rfl (by rw[List.size_toArray,hqc];exact cI)) rfl ?_;exact HP.out
def vC(g o q:Nat)(k:Nat):Array Value:=#[.slice (some ⟨g,o+k*q,none⟩) q q]
theorem wD{w:World}{Res:Nat->Prop}{B1 B2 g o q cap L:Nat}(hL:L=4*q)(hq:1≤q)(hc:L≤cap)(hcap:cap≤maxLen)
 (h1:w.heap[B1]?=some (.cells #[.slice (some ⟨g,o,none⟩) L cap] 27 (0,0))) (h2:w.heap[B2]?=some (.cells #[.int .i64 (q:Int)] 3 (0,0))) (hR1:¬Res B1) (hR2:¬Res B2) :
 ∀(l:Nat) (J:Nat->World->Prop) (Jp:List PanicEntry->World->Prop) (W:World),(∀k W W',J k W->aA aB W W'->J k W')->aA aB w W->J 0 W ->
  (∀k W1,k<4->J k W1->YieldAt Fence.wide (3-1-1) Tryz.prog l (vC g o q k) W1 fun e W'=>(e=.returned (.bool true)/\J (k+1) W'/\KpC Res W1 W')\/(∃ch,e=.panicked ch/\Jp ch W')) ->
  CallsIn Fence.wide (3-1) Tryz.prog 132 (#[.func (.yield l) #[] #[]]++#[.pointer (some ⟨B1,0,none⟩),.pointer (some ⟨B2,0,none⟩)]) W fun e W'=>((∃v,e=.returned v)/\J 4 W')\/(∃ch,e=.panicked ch/\Jp ch W'):=by
 intro l J Jp W hJK hkW hJ0 hY;have HJK:=O hJK;clear hJK;have HS:=O (And.intro (hkW.blk h1 id) (hkW.blk h2 id));have HYY:=O hY;have HLQ:=O hL;unfold maxLen at hcap;clear h1 h2 hY hkW hL;refine callsIn_of_wp Tryz.func132 rfl trivial ?_ rfl;simp only[Tryz.ntmps132,List.size_toArray,List.length_cons,List.length_nil,Nat.reduceAdd,Nat.reduceSub,Array.replicate_succ,Array.replicate_zero,List.push_toArray,List.append_toArray,List.nil_append,List.cons_append]
 gi_wp2
 gi_loopw [4] (fun v wr=>∃k i:Nat,k≤4/\v=.int .i64 (i:Int)/\Hid (i=k*q)/\J k wr/\Hid (wr.heap[B1]?=some (.cells #[.slice (some ⟨g,o,none⟩) L cap] 27 (0,0))/\wr.heap[B2]?=some (.cells #[.int .i64 (q:Int)] 3 (0,0)))) (fun v _=>L-(intOf v).toNat)
 case atStart=>exact⟨0,0,by omega,rfl,O (by rw[Nat.zero_mul]),hJ0,HS⟩
 case round =>
  obtain⟨k,i,hk,rfl,HI,hJ,hH⟩:=hrel;have c1:=cell_of_one hH.out.1;have c2:=cell_of_one hH.out.2
  by_cases hlt:k<4
  ·have hle:i+q≤L:=by
    have h:=Nat.mul_le_mul_right q (show k+1≤4 by omega);rw[Nat.succ_mul] at h;have:=HI.out;have:=HLQ.out;omega
   have hil:(i:Int)<(L:Int):=by omega
   have hb0:(0:Int)≤(i:Int):=by omega
   have hmin:min (q:Int) ((L-i:Nat):Int)=(q:Int):=by omega
   have hmin2:min (q:Int) ((L:Int)-(i:Int))=(q:Int):=by omega
   have hne:¬i=cap:=by omega
   gi_wp2
   refine wpIn_wide.2 ?_
   go_quiet (fail)
   obtain⟨w1,hw1,hJ1,hH1⟩:∃w1,wr.drewN nq=w1/\J k w1/\Hid (w1.heap[B1]?=some (.cells #[.slice (some ⟨g,o,none⟩) L cap] 27 (0,0))/\w1.heap[B2]?=some (.cells #[.int .i64 (q:Int)] 3 (0,0))):=
    ⟨_,rfl,HJK.out k _ _ hJ ((aA.refl _ _).drewN _),hH⟩
   rw[hw1];clear hw1 hJ hH c1 c2;have c1:=cell_of_one hH1.out.1;have c2:=cell_of_one hH1.out.2;have hYk:=HYY.out k w1 hlt hJ1;unfold vC at hYk;rw[show o+k*q=o+i by rw[HI.out]] at hYk;obtain⟨fn,tmps,assign,body,hy,hR⟩:=hYk;have hwr:IntKind.i64.wrap ((i:Int)+(q:Int))=(i:Int)+(q:Int):=IntWalk.i64_in _ (by omega);have hi0:(0:Int)≤(i:Int)+(q:Int):=by omega
   have hi1:(i:Int)+(q:Int)≤(cap:Int):=by omega
   have hi2:(i:Int)≤(i:Int)+(q:Int):=by omega
   have hic:i+q≤cap:=by omega
   have hw64:(i:Int)+(q:Int)≤9223372036854775807:=by omega
   gi_wp2
   refine hR.mono ?_;rintro e W3 (⟨rfl,hJ3,hk3⟩|⟨ch,rfl,hJp⟩)
   ·have hH3:Hid (W3.heap[B1]?=some (.cells #[.slice (some ⟨g,o,none⟩) L cap] 27 (0,0))/\W3.heap[B2]?=some (.cells #[.int .i64 (q:Int)] 3 (0,0))):=O ⟨hk3 _ _ _ _ hR1 hH1.out.1,hk3 _ _ _ _ hR2 hH1.out.2⟩
    have c1':=cell_of_one hH3.out.1;have c2':=cell_of_one hH3.out.2;have hJ4:=O hJ3;clear hJ3 hk3 hJ1 hR hy hH1 c1 c2
    gi_wp2
    go_roundw
    case rel=>exact⟨k+1,i+q,by omega,by first|rfl|go_num|(congr 1;omega),O (by rw[Nat.succ_mul,HI.out]),hJ4.out,hH3⟩
    case measure=>simp[intOf];omega
   ·have HJP:=O hJp
    clear hJp;exact⟨rfl,.inr ⟨ch,rfl,HJP.out⟩⟩
  ·obtain rfl:k=4:=by omega
   have hil:¬(i:Int)<(L:Int):=by have:=HI.out;have:=HLQ.out;omega
   gi_wp2
   go_end0
   exact .inl ⟨⟨_,rfl⟩,hJ⟩
def xH(l:Nat):Prop:=∀{w:World}{c:Nat}{S:Kor}{B:Nat->Prop}(_:KI w c S B) (vv:Value) (bs:List UInt8) (_:bs.length=256*4 ^ l) (_:Rd w 1 vv bs.length (bs.map vb)) (_:∀i,vv.ownBlock=some i->¬B i) (r:Option Tr) (T:Kor) (_:dN l S bs=(r,T)),
 Calls Tryz.prog 28 #[.pointer (some ⟨c,0,none⟩),vv,.int .i64 (l:Int)] w (jK w c B r T)
theorem DC{l:Nat}(H:xH l){w:World}{c:Nat}{S:Kor}{B:Nat->Prop}(hK:KI w c S B)(vv:Value)(bs:List UInt8)(hbl:bs.length=256*4 ^ l)(hr:Rd w 1 vv bs.length (bs.map vb))(hvb:∀i,vv.ownBlock=some i->¬B i)(r:Option Tr)(T:Kor)(hm:dN l S bs=(r,T))(hl:l≤3)
 {b1 b2:Nat}(hb1:w.heap[b1]?=some (.cells #[.pointer (some ⟨c,0,none⟩)] 36 (0,0))) (hb2:w.heap[b2]?=some (.cells #[.int .i64 ((l+1:Nat):Int)] 3 (0,0))):Calls Tryz.prog 57 #[vv,.pointer (some ⟨b1,0,none⟩),.pointer (some ⟨b2,0,none⟩)] w (jK w c B r T):=by
 have HL:=O (Cs.start hK);have HCL:=O (Cl.refl w w B (aA.refl _ _));have HH:Hid (xH l):=O H;have HBL:=O hbl;have HVB:=O hvb;have HM:=O hm;have HR:=O hr;have HB1:=O hb1;have HB2:=O hb2;have hw64:IntKind.i64.wrap ((l:Int)+1-1)=(l:Int):=by rw[Int.add_sub_cancel];exact IntWalk.i64_in _ (by omega)
 obtain⟨va,vc,rfl,-,-⟩:=hr.form;obtain⟨m,hmm⟩:∃m,bs.length=m:=⟨_,rfl⟩
 have HMM:=O hmm;rw[hmm] at HR HVB ⊢;clear hr hbl hvb hm hK hb1 hb2 hmm H;go_enter Tryz.func57,Tryz.ntmps57
 go_wp2_with ((with_reducible show WL _ _);refine al 26 (.agg aG.toArray) (aG.toArray) bD ?_)
 intro b4 w1 hbs hk hb;replace HL:=O (HL.out.new (trivial) hbs hk hb);replace HR:=O (HR.out.keep hk fun _ _=>id);replace HCL:=O (HCL.out.trans (Cl.refl _ _ _ hk));replace HB1:=O (hk.blk HB1.out id);replace HB2:=O (hk.blk HB2.out id);clear hbs hk hb;have c1:w1.cell? ⟨b1,0,none⟩=some (.pointer (some ⟨c,0,none⟩)):=(cell_of_one HB1.out)
 have c2:w1.cell? ⟨b2,0,none⟩=some (.int .i64 ((l+1:Nat):Int)):=(cell_of_one HB2.out)
 go_wp2_with fail;clear c1 c2;have HW1:=O HL.out.keep;refine((HH.out HL.out.ki (.slice va m vc) bs HBL.out (by rw[HMM.out];exact HR.out) HVB.out r T HM.out:Calls _ _ _ w1 (jK w1 c B r T))).mono ?_;rintro e w2 hm;cases r with
 | none =>
   obtain⟨rfl,hk⟩:=hm;have HP:Hid (jK w c B none T (.panicked (gH 15)) w2):=O ⟨rfl,HW1.out.trans' hk (fun _ _ h=>h) (fun _ _ h=>h)⟩;go_wp2_with fail;exact⟨rfl,HP.out⟩
 | some t =>
   obtain⟨v,B',rfl,hpv,hki,hbb,hcl,hnw,hk⟩:=hm;have HNW:=O (hnw.from HW1.out.size);replace HCL:=O (HCL.out.trans hcl);replace HL:=O (HL.out.laid hpv hki hbb hnw hk);obtain⟨qc,HQC,hqc,HOQ⟩:=nmP hpv;rw[HQC.out];clear hpv hki hbb hcl hnw hk HR HW1 HB1 HB2
   go_wp2_with ((with_reducible show WL _ _);refine sta 26 (.tmp 4) (.tmp 9) b4 0 qc (HL.out.b 0) (by first|decide|(rw[hqc];exact Nat.le_refl _)|simp[hqc,aE]) (szP9 hqc) HOQ.out ?_)
   intro w3 hk hb;rw[aH _ _ (by first|rfl|simp[hqc,aE])] at hb;replace HL:=O (HL.out.set 0 hk hb);replace HCL:=O (Cl.onT HCL.out hk fun i hq e=>by rw[e] at hq;first|exact (HL.out.loc.aq 0) (.inl hq)|exact (HL.out.loc.aq 1) (.inl hq)|exact (HL.out.loc.aq 2) (.inl hq)|exact (HL.out.loc.aq 3) (.inl hq));clear hk hb;have HB6:=O (HL.out.b 0);have HP:Hid (jK w c B (some t) T (.returned (.agg qc.toArray)) w3):=O ⟨v,B',by rw[HQC.out],HL.out.pv0 0,HL.out.ki,HL.out.bb,HCL.out,HNW.out,HL.out.keep⟩;clear HL HCL;go_wp2_with fail;refine bodyPost_ret (results_cell_row rfl _ _ b4 _ _ _ _ rfl HB6.out aI rfl (by rw[List.size_toArray,hqc];exact cI)) rfl ?_;exact HP.out
theorem zG(v:Value)(w:World)(q:Nat)(hq:1≤q)(hv:∃a n c,v=.slice a n c) :
 Calls Tryz.prog 97 #[v,.int .i64 (q:Int)] w fun e w'=>∃B1 B2,e=.returned (.func (.func 132) #[] #[.pointer (some ⟨B1,0,none⟩),.pointer (some ⟨B2,0,none⟩)])/\w'.heap[B1]?=some (.cells #[v] 27 (0,0))/\w'.heap[B2]?=some (.cells #[.int .i64 (q:Int)] 3 (0,0))/\w.heap.size≤B1/\w.heap.size≤B2/\aA aB w w':=by
 obtain⟨a,n,c,rfl⟩:=hv;have hq1:¬((q:Int)<1):=by omega
 have HL:=O (Loc.nil aB aB w);go_enter Tryz.func97,Tryz.ntmps97
 go_wp2_with ((with_reducible show WL _ _);refine bxL HL 27 (.tmp 0) (#[.slice a n c]) ?_)
 intro b2 w1 hk HL;clear hk
 go_wp2_with ((with_reducible show WL _ _);refine bxL HL 3 (.tmp 1) (#[.int .i64 (q:Int)]) ?_)
 intro b3 w2 hk HL;clear hk;have HP:=O (And.intro (HL.out.b 1) (And.intro (HL.out.b 0) (And.intro (HL.out.lt 1).1 (And.intro (HL.out.lt 0).1 HL.out.keep))));have c1:w2.cell? ⟨b3,0,none⟩=some (.int .i64 (q:Int)):=(aC (i:=0) (HL.out.b 0) rfl)
 go_wp2_with fail;clear c1;go_ret;exact⟨_,_,rfl,HP.out.1,HP.out.2.1,HP.out.2.2.1,HP.out.2.2.2.1,HP.out.2.2.2.2⟩
theorem rB:(Tryz.prog.info? 26).map (fun i=>(i.zero,i.size,i.bytes))=some (some (.agg aG.toArray),35,72):=by kernel_rfl
def fB(vs:Nat->Value)(ks:Nat->Pt)(k:Nat):List Value:=(List.range k).flatMap fun i=>aF (vs i) (ks i)
theorem Gu(vs:Nat->Value)(ks:Nat->Pt)(k:Nat):fB vs ks (k+1)=fB vs ks k++aF (vs k) (ks k):=by
 unfold fB;rw[List.range_succ,List.flatMap_append,List.flatMap_singleton]
theorem En{vs vs':Nat->Value}{ks ks':Nat->Pt}{k:Nat}(h:∀i,i<k->vs i=vs' i/\ks i=ks' i):fB vs ks k=fB vs' ks' k:=by
 unfold fB
 induction k with
 | zero=>rfl
 | succ k ih =>
   rw[List.range_succ,List.flatMap_append,List.flatMap_append,List.flatMap_singleton,List.flatMap_singleton,ih fun i hi=>h i (by omega),(h k (by omega)).1,(h k (by omega)).2]
theorem zH{lay:Kor->List UInt8->Option Tr×Kor}{l:Nat}{S:Kor}{b:List UInt8}:∀{i j:Nat},(fA lay l S b i).1=none->i≤j->(fA lay l S b j).1=none
 | i,0,h,hij=>by
    obtain rfl:i=0:=by omega
    exact h
 | i,j+1,h,hij=>by
   by_cases e:i=j+1
   ·rw[←e];exact h
   ·have ih:=zH (i:=i) (j:=j) h (by omega)
    unfold fA;cases hm:fA lay l S b j with
    | mk r T =>
      rw[hm] at ih;simp only at ih;subst ih;rfl
def kO(w0:World)(B0:Nat->Prop)(c:Nat)(N0 l:Nat)(bs:List UInt8)(S0:Kor)(bo b3:Nat)(cl:Array Value×TypeId)(k:Nat)(W:World):Prop:=
 (W.heap[b3]?=some (.cells cl.1 cl.2 (0,0))/\b3<N0/\b3≠bo/\¬B0 b3)/\∃kk T vs v B',fA (dN l) l S0 bs k=(some kk,T)/\W.heap[bo]?=some (.cells #[v] 64 (0,0))/\W.ownsRow N0 26 35 v k (fB vs (fun i=>(kk i).ptr) k) /\
   (∀i,i<k->aM W B' (vs i) (kk i).ptr/\dJ w0 (vs i)/\∀b,(vs i).ownBlock=some b->N0≤b/\¬v.ownBlock=some b) /\
   KI W c T B'/\(∀i,B' i->B0 i\/N0≤i)/\Cl w0 W B0 B'/\(∀i,v.ownBlock=some i->¬B' i)/\(w0.heap.size≤N0/\N0≤W.heap.size)/\aA B0 w0 W
theorem kO.keep0{w0 W W':World}{B0:Nat->Prop}{c N0 l:Nat}{bs:List UInt8}{S0:Kor}{bo b3 k:Nat}{cl:Array Value×TypeId}(h:kO w0 B0 c N0 l bs S0 bo b3 cl k W)(hk:aA aB W W'):kO w0 B0 c N0 l bs S0 bo b3 cl k W':=by
 obtain⟨h0,kk,T,vs,v,B',h1,h2,h3,h4,h5,h6,h7,h8,h9,h10⟩:=h;exact⟨⟨hk.blk h0.1 id,h0.2⟩,kk,T,vs,v,B',h1,hk.blk h2 id,hk.owns h3 fun _ _=>id,fun i hi=>⟨(h4 i hi).1.keep0 hk,(h4 i hi).2⟩,h5.keep0 hk,h6,h7.trans (Cl.refl _ _ _ hk),h8,⟨h9.1,Nat.le_trans h9.2 hk.size⟩,h10.trans hk.any⟩
theorem pH{W:World}{l i:Nat}{o:Obj}(ho:W.heap[l]?=some o)(hc:o.isCells=false)(h:IsC W i):l≠i:=fun e=>by
 obtain⟨cs,t,h⟩:=h;rw[←e,ho] at h;cases h
 cases hc
theorem kO.put{w0 W:World}{B0:Nat->Prop}{c N0 l:Nat}{bs:List UInt8}{S0:Kor}{bo b3 k:Nat}{cl:Array Value×TypeId}(h:kO w0 B0 c N0 l bs S0 bo b3 cl k W)(hB0:∀i,B0 i->i<w0.heap.size){j:Nat}{o:Obj}(hj:N0≤j)(ho:W.heap[j]?=some o)(hc:o.isCells=false)(o':Obj):kO w0 B0 c N0 l bs S0 bo b3 cl k (W.putObj j o'):=by
 obtain⟨h0,kk,T,vs,v,B',h1,h2,h3,h4,h5,h6,h7,h8,h9,h10⟩:=h;have kd:aA (fun i=>some j=some i) W (W.putObj j o'):=aA.of_grown (grownBy_putObj' W j o')
 have nb:∀i,some j=some i->¬B' i:=fun i e hb=>by
  injection e with e
  subst e;rcases h7 j hb with h|h
  ·exact pH ho hc h rfl
  ·have:=hB0 j h.1;omega
 refine⟨⟨kd.blk h0.1 (fun e=>by injection e with e;have:=h0.2.1;omega),h0.2⟩,kk,T,vs,v,B',h1,kd.blk h2 (fun e=>?_),kd.owns h3 fun i hi e=>?_,fun i hi=>⟨(h4 i hi).1.keepT kd fun b hb e=>?_,(h4 i hi).2⟩,h5.keepT kd nb,h6,Cl.onT h7 kd fun i hb e=>nb i e hb,h8,⟨h9.1,Nat.le_trans h9.2 kd.size⟩,h10.trans' kd (fun _ _ h=>h) fun i hi e=>?_⟩
 ·injection e with e
  exact pH ho hc ⟨_,_,h2⟩ e
 ·injection e with e
  obtain⟨cur,hcu⟩:=aL h3 hi;exact pH ho hc ⟨_,_,hcu⟩ e
 ·injection e with e
  exact pH ho hc ((h4 i hi).1.off b hb).2 e
 ·injection e with e
  omega
theorem kO.step{w0 W wd w3 w4 w8 w9:World}{B0 B' B1:Nat->Prop}{c N0 l:Nat}{bs:List UInt8}{S0 T U:Kor}{bo b3 k:Nat}{cl:Array Value×TypeId}{kk:Nat->Tr}{vs:Nat->Value}{v v1 v2:Value}{u:Tr}
 (h0:W.heap[b3]?=some (.cells cl.1 cl.2 (0,0))/\b3<N0/\b3≠bo/\¬B0 b3) (h1:fA (dN l) l S0 bs k=(some kk,T)) (h4:∀i,i<k->aM W B' (vs i) (kk i).ptr/\dJ w0 (vs i)/\∀b,(vs i).ownBlock=some b->N0≤b/\¬v.ownBlock=some b) (h3:W.ownsRow N0 26 35 v k (fB vs (fun i=>(kk i).ptr) k))
 (h6:∀i,B' i->B0 i\/N0≤i) (h7:Cl w0 W B0 B') (h8:∀i,v.ownBlock=some i->¬B' i) (h9:w0.heap.size≤N0/\N0≤W.heap.size) (h10:aA B0 w0 W) (hbo:bo<N0/\w0.heap.size≤bo) (hB0:∀i,B0 i->i<w0.heap.size)
 (kd:aA aB W wd) (hm:dN l T (bH l bs k)=(some u,U)) (hp:aM w3 B1 v1 u.ptr) (hki:KI w3 c U B1) (hb1:∀i,B1 i->B' i\/wd.heap.size≤i) (hcl:Cl wd w3 B' B1) (hnw:dJ wd v1) (k3:aA B' wd w3)
 (k4:aA aB w3 w4) (k8:aA (fun i=>v.ownBlock=some i) w4 w8) (ho8:w8.ownsRow N0 26 35 v2 (k+1) (fB vs (fun i=>(kk i).ptr) k++aF v1 u.ptr)) (hv2:v2.ownBlock=v.ownBlock\/v2.ownBlock=some w4.heap.size)
 (k9:aA (fun i=>i=bo) w8 w9) (h99:w9.heap[bo]?=some (.cells #[v2] 64 (0,0))) :
 kO w0 B0 c N0 l bs S0 bo b3 cl (k+1) w9/\KpN N0 W w9/\KpC (fun i=>B0 i\/i=bo\/N0≤i) W w9:=by
 have s3:=k3.size;have s4:=k4.size;have s8:=k8.size;have sd:=kd.size;have vlt:∀i,v.ownBlock=some i->N0≤i/\i<W.heap.size:=fun i hi=>⟨aQ h3 hi,by obtain⟨cur,hc⟩:=aL h3 hi;exact lt_of_block hc⟩
 have B1lt:∀i,B1 i->B0 i\/N0≤i:=fun i hi=>(hb1 i hi).elim (h6 i) fun e=>.inr (by omega)
 have vB1:∀i,v.ownBlock=some i->¬B1 i:=fun i hi e=>(hb1 i e).elim (h8 i hi) fun e=>by have:=(vlt i hi).2;omega
 have bB1:∀i,i=bo->¬B1 i:=fun i hi e=>by
  rcases B1lt i e with e|e
  ·have:=hB0 i e;omega
  ·omega
 have k38:aA (fun i=>v.ownBlock=some i) w3 w8:=k4.any.trans k8;have k39:aA (fun i=>v.ownBlock=some i\/i=bo) w3 w9:=k38.trans' k9 (fun _ _ h=>.inl h) (fun _ _ h=>.inr h)
 have n1:∀i,v1.ownBlock=some i->¬(v.ownBlock=some i\/i=bo):=fun i hi e=>by
  have:=hnw i hi;rcases e with e|e
  ·have:=(vlt i e).2;omega
  ·omega
 have v2B:∀i,v2.ownBlock=some i->¬B1 i:=fun i hi e=>by
  rcases hv2 with e2|e2
  ·rw[e2] at hi;exact vB1 i hi e
  ·rw[e2] at hi;injection hi with hi
   have:=hki.lt e;omega
 have hn4:dJ w0 v1:=hnw.from (by have:=h10.size;omega)
 have hnew:∀b,v1.ownBlock=some b->N0≤b/\¬v2.ownBlock=some b:=fun b hb=>by
  have h:=hnw b hb;refine⟨by omega,fun e=>?_⟩;rcases hv2 with e2|e2
  ·rw[e2] at e;have:=(vlt b e).2;omega
  ·rw[e2] at e;injection e with e;have:=(hp.off b hb).2.lt;omega
 have kW:aA (fun i=>B' i\/v.ownBlock=some i\/i=bo) W w9:=(kd.any.trans (k3.mono fun _ _ h=>.inl h)).trans' k39 (fun _ _ h=>h) fun i _ h=>.inr h
 refine⟨⟨⟨kW.blk h0.1 (fun e=>e.elim (fun e=>(h6 _ e).elim h0.2.2.2 fun e=>by have:=h0.2.1;omega) fun e=>e.elim (fun e=>by have:=(vlt _ e).1;have:=h0.2.1;omega) h0.2.2.1),h0.2⟩,eX kk k u,U,fun i=>if i=k then v1 else vs i,v2,B1,?_,h99,?_,?_,hki.keepT k39 ?_,B1lt,?_,v2B,⟨h9.1,Nat.le_trans h9.2 kW.size⟩,?_⟩,KpN.of kW ?_,KpC.of kW ?_⟩
 ·unfold fA
  rw[h1];simp only[];rw[hm]
 ·rw[Gu]
  simp only[if_pos];rw[fP,En (vs':=vs) (ks':=fun i=>(kk i).ptr) fun i hi=>⟨by rw[if_neg (by omega)],by rw[eW _ _ (by omega)]⟩];exact k9.owns ho8 fun i hi e=>by have:=aQ ho8 hi;omega
 ·intro i hi
  by_cases e:i=k
  ·subst e
   simp only[if_pos];rw[fP];exact⟨hp.keepT k39 n1,hn4,hnew⟩
  ·simp only[if_neg e]
   rw[eW _ _ e];obtain⟨a1,a2,a3⟩:=h4 i (by omega);refine⟨(((a1.keep0 kd).keep k3 hb1)).keepT k39 fun b hb e=>?_,a2,fun b hb=>⟨(a3 b hb).1,fun e=>?_⟩⟩
   ·rcases e with e|e
    ·exact(a3 b hb).2 e
    ·have:=(a3 b hb).1;omega
   ·rcases hv2 with e2|e2
    ·rw[e2] at e;exact(a3 b hb).2 e
    ·rw[e2] at e;injection e with e;have:=(a1.off b hb).2.lt;omega
 ·rintro i (e|e) hb
  ·exact vB1 i e hb
  ·exact bB1 i e hb
 ·exact Cl.onT ((h7.trans (Cl.refl _ _ _ kd)).trans hcl) k39 fun i hb e=>e.elim (fun e=>vB1 i e hb) fun e=>bB1 i e hb
 ·exact h10.trans' kW (fun _ _ h=>h) fun i hi e=>by
   rcases e with e|e|e
   ·exact(h6 i e).elim id fun e=>by omega
   ·have:=(vlt i e).1;omega
   ·omega
 ·intro i o e hn ho
  rcases e with e|e|e
  ·rcases h7 i e with⟨cs,t,hc⟩|hc
   ·rw[hc] at ho;cases ho;rfl
   ·have:=hB0 i hc.1;omega
  ·obtain⟨cur,hc⟩:=aL h3 e
   rw[hc] at ho;cases ho;rfl
  ·omega
 ·rintro i (e|e|e)
  ·exact(h6 i e).imp id .inr
  ·exact .inr (.inr (vlt i e).1)
  ·exact .inr (.inl e)
theorem Bu{w:World}{g o l q k:Nat}{bs:List UInt8}(hbl:bs.length=256*4 ^ (l+1))(hq:256*4 ^ l=q)(hk:k<4)(hq2:q≤4096)(h:w.rangeAt g o (bs.map vb)):Rd w 1 (.slice (some ⟨g,o+k*q,none⟩) q q) (bH l bs k).length ((bH l bs k).map vb):=by
 have hp:=gO hbl hk;refine⟨by simp,some ⟨g,o+k*q,none⟩,q,by rw[hp,hq],by rw[hp,hq];exact Nat.le_refl _,by unfold maxLen;omega,(fun e=>by cases e),fun _=>⟨g,o+k*q,rfl,fun j v hj=>?_⟩⟩;rw[List.getElem?_map] at hj;unfold bH at hj;rw[hq,List.getElem?_take] at hj;split at hj
 ·rw[List.getElem?_drop] at hj
  have:=h (k*q+j) v (by rw[List.getElem?_map];exact hj)
  rwa [←Nat.add_assoc] at this
 ·cases hj
theorem Bv(T:Array Value)(p:Tmp)(a:Value):((#[p].zip #[a]).foldl (fun(t:Array Value) (x:Tmp×Value)=>match x with|(p,v)=>t.setIfInBounds p v) T)=T.setIfInBounds p a:=by simp
def AB(w:World)(c:Nat)(B:Nat->Prop)(r:Option (Nat->Tr))(T:Kor)(e:Ending)(w':World):Prop:=
 match r with
 | some kk=>∃v vs B',e=.returned v/\w'.ownsRow w.heap.size 26 35 v 4 (fB vs (fun i=>(kk i).ptr) 4)/\cC w' B' vs (fun i=>(kk i).ptr)/\(∀i,i<4->dJ w (vs i))/\KI w' c T B'/\(∀i,B' i->B i\/w.heap.size≤i)/\Cl w w' B B'/\(∀i,v.ownBlock=some i->¬B' i)/\aA B w w'
 | none=>e=.panicked (gH 15)/\aA B w w'
theorem NH:Hid (∀w,(zeroValue 64).run Tryz.prog w=.ok (.slice none 0 0) w):=O fun w=>by kernel_rfl
theorem Gv{l:Nat}(H:xH l)(hl:l≤2){w:World}{c:Nat}{S:Kor}{B:Nat->Prop}(hK:KI w c S B)(vv:Value)(bs:List UInt8)(hbl:bs.length=256*4 ^ (l+1))(hr:Rd w 1 vv bs.length (bs.map vb))(hvb:∀i,vv.ownBlock=some i->¬B i)(r:Option (Nat->Tr))(T:Kor)(hm:fA (dN l) l S bs 4=(r,T))
 {b1 b2:Nat}(hb1:w.heap[b1]?=some (.cells #[.pointer (some ⟨c,0,none⟩)] 36 (0,0))) (hb2:w.heap[b2]?=some (.cells #[.int .i64 ((l+1:Nat):Int)] 3 (0,0))) (hn1:¬B b1) (hn2:¬B b2):Calls Tryz.prog 56 #[vv,.func (.func 57) #[] #[.pointer (some ⟨b1,0,none⟩),.pointer (some ⟨b2,0,none⟩)]] w (AB w c B r T):=by
 have HH:Hid (xH l):=O H;have HBLT:=O (fun i (e:B i)=>hK.lt e);have HK:=O hK;have HVB:=O hvb;have HM:=O hm;have HB1:=O hb1;have HB2:=O hb2;have HN12:=O (And.intro hn1 hn2);obtain⟨q,hq⟩:∃q,256*4 ^ l=q:=⟨_,rfl⟩
 have hq1:1≤q:=by rw[←hq];exact Nat.mul_pos (by omega) (Nat.pos_of_ne_zero (by simp))
 have hq2:q≤4096:=by rw[←hq];exact Nat.mul_le_mul_left 256 (Nat.pow_le_pow_right (by omega) hl:4 ^ l≤4 ^ 2)
 obtain⟨L,hL⟩:∃L,bs.length=L:=⟨_,rfl⟩
 have hL4:L=4*q:=by rw[←hL,hbl,←hq,Nat.pow_succ];omega
 have HBL:=O hbl;have HQ:=O hq;have HLE:=O hL;have HL4:=O hL4;obtain⟨va,cap,rfl,hcap,hrd⟩:=wU hr;obtain⟨g,o,rfl,hra⟩:=hrd (by omega);rw[hL] at hcap ⊢;have HCAP:=O hcap;have HRA:=O hra;have HGB:=O (hvb g rfl)
 have HGL:Hid (g<w.heap.size):=O (by
  obtain⟨x,hx⟩:∃x,bs[0]?=some x:=⟨_,List.getElem?_eq_getElem (by omega)⟩
  exact World.block_lt_of_cell? w _ (hra 0 (vb x) (by rw[List.getElem?_map,hx];rfl)))
 have hdiv:(L:Int).tdiv 4=(q:Int):=by rw[hL4,Int.tdiv_eq_ediv_of_nonneg (by omega)];omega
 have hLL:L≤16384:=by omega
 have HL:=O (Loc.nil aB aB w);clear hr hbl hvb hm hK hb1 hb2 hn1 hn2 H hrd hra hL hq hL4;refine sS Tryz.func56 rfl ?_;simp only[Tryz.ntmps56,List.size_toArray,List.length_cons,List.length_nil,Nat.reduceAdd,Nat.reduceSub,Array.replicate_succ,Array.replicate_zero,List.push_toArray,List.append_toArray,List.nil_append,List.cons_append];refine lJ ?_
 go_wp2_with ((with_reducible show WL _ _);refine bxL HL 115 (.tmp 1) (#[.func (.func 57) #[] #[.pointer (some ⟨b1,0,none⟩),.pointer (some ⟨b2,0,none⟩)]]) ?_)
 intro b3 w1 hk HL;clear hk;go_wp2_with fail;refine lJ ?_
 go_wp2_with ((with_reducible show WL _ _);refine alL HL 64 (.slice none 0 0) (#[.slice none 0 0]) NH ?_)
 intro b5 w2 hk HL;clear hk;go_wp2_with fail;refine xP ?_;refine lJ ?_;have HB5W:=O (HL.out.lt 0).2;go_wp2_with fail;have HLW:=O HL.out.keep;refine(zG (.slice (some ⟨g,o,none⟩) L cap) w2 q hq1 ⟨_,_,_,rfl⟩).mono ?_;rintro e w3 ⟨B1,B2,rfl,hc1,hc2,hn1,hn2,hk⟩;have HC1:=O hc1;have HC2:=O hc2;have HCN:=O (And.intro hn1 hn2);clear hc1 hc2 hn1 hn2;replace HL:=O (HL.out.keeps hk);clear hk;go_wp2_with fail;have hb3l:=HL.out.lt 1;have hb5l:=HL.out.lt 0;have h35:b3≠b5:=bK HL.out.nd (i:=0) rfl 1 (by decide) rfl;obtain⟨N0,hN0⟩:∃N,w3.heap.size=N:=⟨_,rfl⟩
 have HN0:=O hN0;have hlw2:=HLW.out.size;have hcn:=HCN.out;have HG:=O (And.intro (show w.heap.size≤b3/\b3<N0 by omega) (And.intro (show w.heap.size≤b5/\b5<N0 by omega) (show w.heap.size≤N0 by have:=HL.out.keep.size;omega)));have HKW:=O HL.out.keep;have H3:=O (HL.out.b 1)
 have HR12:Hid (¬(B B1\/B1=b5\/N0≤B1)/\¬(B B2\/B2=b5\/N0≤B2)):=O (by
  have a1:=lt_of_block HC1.out;have a2:=lt_of_block HC2.out;have b5l2:=HB5W.out;constructor<;>rintro (e|e|e)<;>first|(have:=HBLT.out _ e;omega)|omega)
 have HCH:=wD (Res:=fun i=>B i\/i=b5\/N0≤i) HL4.out hq1 HCAP.out.1 HCAP.out.2 HC1.out HC2.out HR12.out.1 HR12.out.2;have HI0:Hid (∀W,aA aB w3 W->kO w B c N0 l bs S b5 b3 (#[.func (.func 57) #[] #[.pointer (some ⟨b1,0,none⟩),.pointer (some ⟨b2,0,none⟩)]],115) 0 W):=O fun W hk=>⟨⟨hk.blk H3.out id,by have:=HG.out;omega,h35,fun e=>by have:=HBLT.out _ e;have:=HG.out;omega⟩,fun _=>.hole,S,fun _=>.slice none 0 0,.slice none 0 0,B,rfl,hk.blk (HL.out.b 0) id,World.ownsRow_nil _ _ _ _,(fun i hi=>by omega),(HK.out.keep0 HKW.out).keep0 hk,fun i h=>.inl h,(Cl.refl _ _ _ HKW.out).trans (Cl.refl _ _ _ hk),(fun i hi=>by cases hi),⟨HG.out.2.2,by rw[←HN0.out];exact hk.size⟩,(HKW.out.trans hk).any⟩
 clear hb3l hb5l hlw2 hcn;subst hN0;refine xQ ?_;refine oM (Res:=fun i=>B i\/i=b5\/w3.heap.size≤i) Tryz.func56 (gf:=132) rfl (enters_of Tryz.func132 (by kernel_rfl) rfl) (N:=4) (encs:=vC g o q) HCH (fun _=>rfl) (kO w B c w3.heap.size l bs S b5 b3 (#[.func (.func 57) #[] #[.pointer (some ⟨b1,0,none⟩),.pointer (some ⟨b2,0,none⟩)]],115)) (fun ch W=>ch=gH 15/\r=none/\aA B w W) HI0.out (fun k W W' h hk=>h.keep0 hk) (fun k W l o hl h ho hc o'=>h.put HBLT.out hl ho hc o') ?round ?done ?throw
 case throw =>
  rintro D W ch hD ⟨rfl,rfl,hkw⟩ hDd;have kd:=aA.of_grown (grownBy_putObj' W D (.deferred none));have hwd:=HG.out.2.2;show bodyPostM _ _ _ _ _ (.panic _) _ _;exact⟨by simp,.inl ⟨_,_,rfl,run_takeDeferred hDd,⟨rfl,hkw.trans' kd (fun _ _ h=>h) (fun i hi e=>by injection e with e;omega)⟩⟩⟩
 case done =>
  rintro D W hD hI hDd;obtain⟨-,kk,T',vs,v,B',h1,h2,h3,h4,h5,h6,h7,h8,h9,h10⟩:=hI;rw[HM.out] at h1;injection h1 with e1 e2
  subst e1 e2;have hwd:=HG.out.2.2;have kd:=aA.of_grown (grownBy_putObj' W D (.deferred none));have no:=fun {i:Nat}(h:IsC W i)=>kF hDd rfl h
  have nB:∀i,some D=some i->¬B' i:=fun i e hb=>(h7 i hb).elim (fun h=>no h e) fun h=>by have:=HBLT.out i h.1;injection e with e;omega
  have HP:Hid (AB w c B (some kk) T (.returned v) (W.putObj D (.deferred none))):=O ⟨v,vs,B',rfl,aU (kd.owns h3 fun i hi e=>(by obtain⟨cur,hc⟩:=aL h3 hi;exact no ⟨_,_,hc⟩ e)) hwd,fun i hi=>(h4 i hi).1.keepT kd fun b hb=>no ((h4 i hi).1.off b hb).2,fun i hi=>(h4 i hi).2.1,h5.keepT kd nB,fun i hi=>(h6 i hi).imp id fun e=>Nat.le_trans hwd e,Cl.onT h7 kd fun i hb e=>nB i e hb,h8,h10.trans' kd (fun _ _ h=>h) fun i hi e=>by injection e with e;omega⟩;have HDD:=O hDd;have c5:=cell_of_one h2;clear kd no nB h2 h3 h4 h5 h6 h7 h8 h9 h10 hDd HCH;go_wp2_with fail;exact⟨by simp,.inl ⟨_,_,rfl,run_takeDeferred HDD.out,⟨v,(results_tmp (t:=4) rfl _ _ _).trans (by rfl),HP.out⟩⟩⟩
 case round =>
  intro l' k W1 hk4 hI hl';have HI:=O hI;have HL':=O hl';clear hI hl' HCH;unfold vC;rw[Bv];simp only[List.setIfInBounds_toArray,List.set_cons_zero,List.set_cons_succ];refine cE (by kernel_rfl) (fun ⟨_,_,h⟩=>h) ?_;go_wp2_with fail;refine⟨KpN.of (aA.refl aB _) (fun _ _ h=>h.elim),KpC.of (aA.refl aB _) (fun _ h=>h.elim),fun o9 o' hoo hoc=>?_⟩;have HIV:=O (HI.out.put HBLT.out (Nat.le_of_lt HL'.out) hoo hoc o');clear hoo hoc HI;generalize World.putObj W1 l' o'=V at HIV ⊢;refine wpIn_block ?_;obtain⟨h0,kk,T',vs,v,B',h1,h2,h3,h4,h5,h6,h7,h8,h9,h10⟩:=HIV.out;obtain⟨⟨rr,U⟩,hrr⟩:∃x,dN l T' (bH l bs k)=x:=⟨_,rfl⟩
  have HRR:=O hrr;have H1:=O h1;have H4:=O h4;have H7:=O h7;have H8:=O h8;have H00:=O h0
  have HNO:Hid (rr=none->r=none):=O (fun e=>by
   have h:=zH (lay:=dN l) (l:=l) (S:=S) (b:=bs) (i:=k+1) (j:=4) (by unfold fA;rw[h1];simp only[];rw[hrr,e]) (by omega);rw[HM.out] at h;exact h)
  have H0:=O h0.1;have H2:=O h2;have H3v:=O h3;have H5:=O h5;have H9:=O h9;have H10:=O h10;have HB6:=O h6
  have HBC:Hid (∀i o,B' i->w3.heap.size≤i->V.heap[i]?=some o->o.isCells=true):=O fun i o e hn ho=>by
   rcases h7 i e with⟨cs,t,hc⟩|hc
   ·rw[hc] at ho;cases ho;rfl
   ·have:=HBLT.out i hc.1;have:=HG.out;omega
  have HX1:=O (H10.out.blk HB1.out HN12.out.1);have HX2:=O (H10.out.blk HB2.out HN12.out.2);have HP0:=O (Bu (k:=k) HBL.out HQ.out hk4 hq2 (H10.out.rangeAt2 HRA.out HGB.out))
  have HPO:Hid (∀i,(Value.slice (some ⟨g,o+k*q,none⟩) q q).ownBlock=some i->¬B' i):=O fun i hi e=>by
   have e2:g=i:=by injection hi
   subst e2;rcases HB6.out g e with h|h
   ·exact HGB.out h
   ·have:=HGL.out;have:=HG.out;omega
  clear h0 h1 h2 h3 h4 h5 h6 h7 h8 h9 h10 hrr HIV;obtain⟨pc,hpc⟩:∃x,(Value.slice (some ⟨g,o+k*q,none⟩) q q)=x:=⟨_,rfl⟩
  rw[hpc] at HP0 HPO ⊢;have hkd:=(aA.refl aB V).drew;refine gX (by kernel_rfl) (by kernel_rfl) (fun ⟨_,_,h⟩=>h) (wpAny_of_held (S:=fun w'=>w'.heap[b3]?=some (.cells #[.func (.func 57) #[] #[.pointer (some ⟨b1,0,none⟩),.pointer (some ⟨b2,0,none⟩)]] 115 (0,0))) _ _ _ _ ?_);change wpAnyH _ _ _ _ _ _ _ _ V.drew;have hS:V.drew.heap[b3]?=some (.cells #[.func (.func 57) #[] #[.pointer (some ⟨b1,0,none⟩),.pointer (some ⟨b2,0,none⟩)]] 115 (0,0)):=hkd.blk H0.out id;have HKD:=O hkd;generalize V.drew=wd at hS HKD ⊢;clear hkd;have H2:=O (HKD.out.blk H2.out id);have H3w:=O (HKD.out.owns H3v.out fun _ _=>id);have H5:=O (H5.out.keep0 HKD.out);replace HX1:=O (HKD.out.blk HX1.out id);replace HX2:=O (HKD.out.blk HX2.out id);replace HP0:=O (HP0.out.keep HKD.out fun _ _=>id);have HVW:=O (fun i (hi:v.ownBlock=some i)=>(by obtain⟨cur,hc⟩:=aL H3v.out hi;have:=lt_of_block hc;have:=HKD.out.size;exact⟨aQ H3v.out hi,by omega⟩:w3.heap.size≤i/\i<wd.heap.size));have HVS:=O (Nat.le_trans H9.out.2 HKD.out.size);refine tnd 1 (.func (.func 57) #[] #[.pointer (some ⟨b1,0,none⟩),.pointer (some ⟨b2,0,none⟩)]) rfl (.inl ⟨by rfl,fun w' hw'=>by have c:World.cell? w' ⟨b3,0,none⟩=some (.func (.func 57) #[] #[.pointer (some ⟨b1,0,none⟩),.pointer (some ⟨b2,0,none⟩)]):=cell_of_one hw';go_simp⟩) hS ?_;refine tna 2 pc rfl hS ?_;refine eL (k:=0) (l:=3) rfl rfl (by kernel_rfl) ?_ ?_
  ·have c5:wd.cell? ⟨b5,0,none⟩=some v:=cell_of_one H2.out
   go_wp2_with fail;clear c5
   try refine⟨hS,?_⟩
   refine wA9 3 ?_;go_wp2_with fail;refine((DC HH.out H5.out pc (bH l bs k) (gO HBL.out hk4) HP0.out HPO.out rr U HRR.out (by omega) HX1.out HX2.out:Calls _ _ _ wd (jK wd c B' rr U))).mono ?_;rintro e wc hmm;cases rr with
   | none =>
     obtain⟨rfl,hk⟩:=hmm;have HPN:Hid (E3 (fun i=>B i\/i=b5\/w3.heap.size≤i) w3.heap.size (kO w B c w3.heap.size l bs S b5 b3 (#[.func (.func 57) #[] #[.pointer (some ⟨b1,0,none⟩),.pointer (some ⟨b2,0,none⟩)]],115)) (fun ch W=>ch=gH 15/\r=none/\aA B w W) k V (.panic (gH 15)) ⟨#[],[]⟩ wc):=O ⟨rfl,KpN.of (HKD.out.any.trans hk) (fun i o e hn ho=>HBC.out i o e hn ho),rfl,HNO.out rfl,H10.out.trans' (HKD.out.any.trans hk) (fun _ _ h=>h) (fun i hi e=>(HB6.out i e).elim id fun h=>by have:=HG.out;omega)⟩;go_wp2_with fail;exact HPN.out
   | some u =>
     obtain⟨v1,B1',rfl,hpv,hki,hbb,hcl,hnw,hk⟩:=hmm;have HPV:=O hpv;have HKI:=O hki;have HBB:=O hbb;have HCL:=O hcl;have HNW:=O hnw;have HK3:=O hk;have HBO5:Hid (¬B' b5/\¬B' b3):=O ⟨fun e=>(HB6.out _ e).elim (fun e=>by have:=HBLT.out _ e;have:=HG.out;omega) fun e=>by have:=HG.out;omega,fun e=>(HB6.out _ e).elim (fun e=>by have:=HBLT.out _ e;have:=HG.out;omega) fun e=>by have:=HG.out;omega⟩;have H2c:=O (hk.blk H2.out HBO5.out.1);have hSc:wc.heap[b3]?=some (.cells #[.func (.func 57) #[] #[.pointer (some ⟨b1,0,none⟩),.pointer (some ⟨b2,0,none⟩)]] 115 (0,0)):=hk.blk hS HBO5.out.2;have H3c:=O (hk.owns H3w.out fun i hi=>H8.out i hi);obtain⟨qc,HQC,hqc,HOQ⟩:=nmP hpv;rw[HQC.out];clear hpv hki hbb hcl hnw hk;go_wp2_with fail;refine⟨hSc,?_⟩;refine wA9 4 ?_;obtain⟨we,hwe,hke,hbe,-⟩:=aT wc qc.toArray 26;obtain⟨bx,hbx⟩:∃x,wc.heap.size=x:=⟨_,rfl⟩
     rw[hbx] at hbe;have HRN:Hid (Rd we 35 (.slice (some ⟨bx,0,none⟩) 1 1) 1 qc):=O (cQ (n:=1) (size:=35) hbe (by rw[hqc]) (by unfold maxLen;omega));have H3e:=O (hke.owns H3c.out fun _ _=>id);have H2e:=O (hke.blk H2c.out id);have hSe:we.heap[b3]?=some (.cells #[.func (.func 57) #[] #[.pointer (some ⟨b1,0,none⟩),.pointer (some ⟨b2,0,none⟩)]] 115 (0,0)):=hke.blk hSc id;have HKE:=O hke;clear hbe hke;refine bP rfl 64 26 (.tmp 16) rfl Tryz.underlying64 rB (by decide) qc hqc (by decide) rfl ?_;rw[hwe,hbx];refine wpList_nil ?_;refine⟨hSe,?_⟩;clear hwe hbx;refine wA9 5 ?_;refine aK rfl (.tmp 13) (.tmp 17) 64 rfl w3.heap.size 26 (.agg aG.toArray) 35 72 Tryz.underlying64 rB rfl (by decide) v k (fB vs (fun i=>(kk i).ptr) k) rfl H3e.out (.slice (some ⟨bx,0,none⟩) 1 1) 1 qc rfl HRN.out HOQ.out (by unfold maxLen;omega) (by omega) (by have:=HKE.out.size;have:=HK3.out.size;have:=HVS.out;omega) ?_;intro v2 w8 ho5 hk5 hn5 hb5;obtain⟨g2,c2,rfl,-,-⟩:=(Rd.of_owns ho5).form;have HO5:=O ho5;have HK5:=O hk5;have HB5:=O hb5;have HBO8:=O (hk5.blk H2e.out (fun e=>by have:=HVW.out _ e;have:=HG.out;omega));have hS8:w8.heap[b3]?=some (.cells #[.func (.func 57) #[] #[.pointer (some ⟨b1,0,none⟩),.pointer (some ⟨b2,0,none⟩)]] 115 (0,0)):=hk5.blk hSe (fun e=>by have:=HVW.out _ e;have:=HG.out;omega);clear ho5 hk5 hn5 hb5 HRN;refine wpList_nil ?_;refine⟨hS8,?_⟩;refine wA9 6 ?_;refine sta 64 (.tmp 5) (.tmp 18) b5 0 [.slice g2 (k+1) c2] HBO8.out (by simp) (by kernel_rfl) (one9) ?_;intro w9 hk hb;replace hb:w9.heap[b5]?=some (.cells #[.slice g2 (k+1) c2] 64 (0,0)):=hb;have hS9:w9.heap[b3]?=some (.cells #[.func (.func 57) #[] #[.pointer (some ⟨b1,0,none⟩),.pointer (some ⟨b2,0,none⟩)]] 115 (0,0)):=hk.blk hS8 h35;refine wpList_nil ?_;refine⟨hS9,?_⟩;refine wpAnyH_done (by kernel_rfl) ?_ _;have h:=kO.step (b3:=b3) (cl:=(#[.func (.func 57) #[] #[.pointer (some ⟨b1,0,none⟩),.pointer (some ⟨b2,0,none⟩)]],115)) H00.out H1.out H4.out H3v.out HB6.out H7.out H8.out H9.out H10.out (And.intro HG.out.2.1.2 HG.out.2.1.1) HBLT.out HKD.out HRR.out HPV.out HKI.out HBB.out HCL.out HNW.out HK3.out HKE.out HK5.out (by rw[HQC.out];exact HO5.out) HB5.out hk hb;exact⟨h.2.1,h.2.2,h.1⟩
  ·go_wp2_with fail
   refine((DC HH.out H5.out pc (bH l bs k) (gO HBL.out hk4) HP0.out HPO.out rr U HRR.out (by omega) HX1.out HX2.out:Calls _ _ _ wd (jK wd c B' rr U))).mono ?_;rintro e wc hmm;cases rr with
   | none =>
     obtain⟨rfl,hk⟩:=hmm;have HPN:Hid (E3 (fun i=>B i\/i=b5\/w3.heap.size≤i) w3.heap.size (kO w B c w3.heap.size l bs S b5 b3 (#[.func (.func 57) #[] #[.pointer (some ⟨b1,0,none⟩),.pointer (some ⟨b2,0,none⟩)]],115)) (fun ch W=>ch=gH 15/\r=none/\aA B w W) k V (.panic (gH 15)) ⟨#[],[]⟩ wc):=O ⟨rfl,KpN.of (HKD.out.any.trans hk) (fun i o e hn ho=>HBC.out i o e hn ho),rfl,HNO.out rfl,H10.out.trans' (HKD.out.any.trans hk) (fun _ _ h=>h) (fun i hi e=>(HB6.out i e).elim id fun h=>by have:=HG.out;omega)⟩;go_wp2_with fail;exact HPN.out
   | some u =>
     obtain⟨v1,B1',rfl,hpv,hki,hbb,hcl,hnw,hk⟩:=hmm;have HPV:=O hpv;have HKI:=O hki;have HBB:=O hbb;have HCL:=O hcl;have HNW:=O hnw;have HK3:=O hk;have HBO5:Hid (¬B' b5/\¬B' b3):=O ⟨fun e=>(HB6.out _ e).elim (fun e=>by have:=HBLT.out _ e;have:=HG.out;omega) fun e=>by have:=HG.out;omega,fun e=>(HB6.out _ e).elim (fun e=>by have:=HBLT.out _ e;have:=HG.out;omega) fun e=>by have:=HG.out;omega⟩;have H2c:=O (hk.blk H2.out HBO5.out.1);have hSc:wc.heap[b3]?=some (.cells #[.func (.func 57) #[] #[.pointer (some ⟨b1,0,none⟩),.pointer (some ⟨b2,0,none⟩)]] 115 (0,0)):=hk.blk hS HBO5.out.2;have H3c:=O (hk.owns H3w.out fun i hi=>H8.out i hi);obtain⟨qc,HQC,hqc,HOQ⟩:=nmP hpv;rw[HQC.out];clear hpv hki hbb hcl hnw hk;go_wp2_with fail;refine⟨hSc,?_⟩;refine eL (k:=0) (l:=4) rfl rfl (by kernel_rfl) ?_ ?_
     ·have c5:wc.cell? ⟨b5,0,none⟩=some v:=cell_of_one H2c.out
      go_wp2_with fail;clear c5
      try refine⟨hSc,?_⟩
      refine wA9 4 ?_;obtain⟨we,hwe,hke,hbe,-⟩:=aT wc qc.toArray 26;obtain⟨bx,hbx⟩:∃x,wc.heap.size=x:=⟨_,rfl⟩
      rw[hbx] at hbe;have HRN:Hid (Rd we 35 (.slice (some ⟨bx,0,none⟩) 1 1) 1 qc):=O (cQ (n:=1) (size:=35) hbe (by rw[hqc]) (by unfold maxLen;omega));have H3e:=O (hke.owns H3c.out fun _ _=>id);have H2e:=O (hke.blk H2c.out id);have hSe:we.heap[b3]?=some (.cells #[.func (.func 57) #[] #[.pointer (some ⟨b1,0,none⟩),.pointer (some ⟨b2,0,none⟩)]] 115 (0,0)):=hke.blk hSc id;have HKE:=O hke;clear hbe hke;refine bP rfl 64 26 (.tmp 16) rfl Tryz.underlying64 rB (by decide) qc hqc (by decide) rfl ?_;rw[hwe,hbx];refine wpList_nil ?_;refine⟨hSe,?_⟩;clear hwe hbx;refine wA9 5 ?_;refine aK rfl (.tmp 13) (.tmp 17) 64 rfl w3.heap.size 26 (.agg aG.toArray) 35 72 Tryz.underlying64 rB rfl (by decide) v k (fB vs (fun i=>(kk i).ptr) k) rfl H3e.out (.slice (some ⟨bx,0,none⟩) 1 1) 1 qc rfl HRN.out HOQ.out (by unfold maxLen;omega) (by omega) (by have:=HKE.out.size;have:=HK3.out.size;have:=HVS.out;omega) ?_;intro v2 w8 ho5 hk5 hn5 hb5;obtain⟨g2,c2,rfl,-,-⟩:=(Rd.of_owns ho5).form;have HO5:=O ho5;have HK5:=O hk5;have HB5:=O hb5;have HBO8:=O (hk5.blk H2e.out (fun e=>by have:=HVW.out _ e;have:=HG.out;omega));have hS8:w8.heap[b3]?=some (.cells #[.func (.func 57) #[] #[.pointer (some ⟨b1,0,none⟩),.pointer (some ⟨b2,0,none⟩)]] 115 (0,0)):=hk5.blk hSe (fun e=>by have:=HVW.out _ e;have:=HG.out;omega);clear ho5 hk5 hn5 hb5 HRN;refine wpList_nil ?_;refine⟨hS8,?_⟩;refine wA9 6 ?_;refine sta 64 (.tmp 5) (.tmp 18) b5 0 [.slice g2 (k+1) c2] HBO8.out (by simp) (by kernel_rfl) (one9) ?_;intro w9 hk hb;replace hb:w9.heap[b5]?=some (.cells #[.slice g2 (k+1) c2] 64 (0,0)):=hb;have hS9:w9.heap[b3]?=some (.cells #[.func (.func 57) #[] #[.pointer (some ⟨b1,0,none⟩),.pointer (some ⟨b2,0,none⟩)]] 115 (0,0)):=hk.blk hS8 h35;refine wpList_nil ?_;refine⟨hS9,?_⟩;refine wpAnyH_done (by kernel_rfl) ?_ _;have h:=kO.step (b3:=b3) (cl:=(#[.func (.func 57) #[] #[.pointer (some ⟨b1,0,none⟩),.pointer (some ⟨b2,0,none⟩)]],115)) H00.out H1.out H4.out H3v.out HB6.out H7.out H8.out H9.out H10.out (And.intro HG.out.2.1.2 HG.out.2.1.1) HBLT.out HKD.out HRR.out HPV.out HKI.out HBB.out HCL.out HNW.out HK3.out HKE.out HK5.out (by rw[HQC.out];exact HO5.out) HB5.out hk hb;exact⟨h.2.1,h.2.2,h.1⟩
     ·obtain⟨we,hwe,hke,hbe,-⟩:=aT wc qc.toArray 26
      obtain⟨bx,hbx⟩:∃x,wc.heap.size=x:=⟨_,rfl⟩
      rw[hbx] at hbe;have HRN:Hid (Rd we 35 (.slice (some ⟨bx,0,none⟩) 1 1) 1 qc):=O (cQ (n:=1) (size:=35) hbe (by rw[hqc]) (by unfold maxLen;omega));have H3e:=O (hke.owns H3c.out fun _ _=>id);have H2e:=O (hke.blk H2c.out id);have hSe:we.heap[b3]?=some (.cells #[.func (.func 57) #[] #[.pointer (some ⟨b1,0,none⟩),.pointer (some ⟨b2,0,none⟩)]] 115 (0,0)):=hke.blk hSc id;have HKE:=O hke;clear hbe hke;refine bP rfl 64 26 (.tmp 16) rfl Tryz.underlying64 rB (by decide) qc hqc (by decide) rfl ?_;rw[hwe,hbx];refine wpList_nil ?_;refine⟨hSe,?_⟩;clear hwe hbx;refine wA9 0 ?_;have c5:we.cell? ⟨b5,0,none⟩=some v:=cell_of_one H2e.out;go_wp2_with fail;clear c5
      try refine⟨hSe,?_⟩
      refine wA9 5 ?_;refine aK rfl (.tmp 13) (.tmp 17) 64 rfl w3.heap.size 26 (.agg aG.toArray) 35 72 Tryz.underlying64 rB rfl (by decide) v k (fB vs (fun i=>(kk i).ptr) k) rfl H3e.out (.slice (some ⟨bx,0,none⟩) 1 1) 1 qc rfl HRN.out HOQ.out (by unfold maxLen;omega) (by omega) (by have:=HKE.out.size;have:=HK3.out.size;have:=HVS.out;omega) ?_;intro v2 w8 ho5 hk5 hn5 hb5;obtain⟨g2,c2,rfl,-,-⟩:=(Rd.of_owns ho5).form;have HO5:=O ho5;have HK5:=O hk5;have HB5:=O hb5;have HBO8:=O (hk5.blk H2e.out (fun e=>by have:=HVW.out _ e;have:=HG.out;omega));have hS8:w8.heap[b3]?=some (.cells #[.func (.func 57) #[] #[.pointer (some ⟨b1,0,none⟩),.pointer (some ⟨b2,0,none⟩)]] 115 (0,0)):=hk5.blk hSe (fun e=>by have:=HVW.out _ e;have:=HG.out;omega);clear ho5 hk5 hn5 hb5 HRN;refine wpList_nil ?_;refine⟨hS8,?_⟩;refine wA9 6 ?_;refine sta 64 (.tmp 5) (.tmp 18) b5 0 [.slice g2 (k+1) c2] HBO8.out (by simp) (by kernel_rfl) (one9) ?_;intro w9 hk hb;replace hb:w9.heap[b5]?=some (.cells #[.slice g2 (k+1) c2] 64 (0,0)):=hb;have hS9:w9.heap[b3]?=some (.cells #[.func (.func 57) #[] #[.pointer (some ⟨b1,0,none⟩),.pointer (some ⟨b2,0,none⟩)]] 115 (0,0)):=hk.blk hS8 h35;refine wpList_nil ?_;refine⟨hS9,?_⟩;refine wpAnyH_done (by kernel_rfl) ?_ _;have h:=kO.step (b3:=b3) (cl:=(#[.func (.func 57) #[] #[.pointer (some ⟨b1,0,none⟩),.pointer (some ⟨b2,0,none⟩)]],115)) H00.out H1.out H4.out H3v.out HB6.out H7.out H8.out H9.out H10.out (And.intro HG.out.2.1.2 HG.out.2.1.1) HBLT.out HKD.out HRR.out HPV.out HKI.out HBB.out HCL.out HNW.out HK3.out HKE.out HK5.out (by rw[HQC.out];exact HO5.out) HB5.out hk hb;exact⟨h.2.1,h.2.2,h.1⟩
theorem BU{P:Program}{w:World}{ops:Array Oper}{rest:List Oper}{o:Oper}{a:Act}{Q:Exit->Act->World->Prop}(hgd:o.guard=none)(d s:Operand)(dT sT:TypeId)
 (ho:o.op=.call { callee:=.builtin .copy,args:=#[d,s],argTypes:=#[dT,sT] }) (elem:TypeId) (sz:Nat) (hu:P.underlying dT=some (.slice elem)) (hsz:(P.info? elem).map (·.size)=some sz)
 (g off n dCap:Nat) (hd:a.eval d=.slice (some ⟨g,off,none⟩) n dCap) (v2:Value) (news:List Value) (hs:a.eval s=v2) (hrd:Rd w sz v2 n news) (hn:0<n) (hz:0<sz)
 (cur:Array Value) (t:TypeId) (hg:w.heap[g]?=some (.cells cur t (0,0))) (hfit:off+n*sz≤cur.size) (h1:∀u∈news,u.oneCell'=true)
 (h:∀w',w'.heap[g]?=some (.cells (spl cur off news) t (0,0))->aA (fun i=>i=g) w w'->wpList P ops Q rest (a.put o.dst (goInt n)) w'):wpList P ops Q (o::rest) a w:=by
 obtain⟨hlen,ad,cap,rfl,h2,h3,h4,h5⟩:=hrd;have hpos:0<news.length:=by rw[hlen];exact Nat.mul_pos hn hz
 obtain⟨g2,o2,rfl,hc⟩:=h5 hpos;refine wpList_plain hgd fun K hK=>?_
 have hl:=run_loadCells_list (P:=P) w ⟨g2,o2,none⟩ news (fun j v hj=>by rw[jM];exact hc j v hj);have hst:=run_storeCells_at P g off t news 0 cur w hg (by rw[hlen];simpa using hfit) h1
 have hrun:(Builtin.copy_ #[dT,sT] o.type #[.slice (some ⟨g,off,none⟩) n dCap,.slice (some ⟨g2,o2,none⟩) n cap]).run P w=.ok (goInt n) (w.setRow g (cur.toList.take off++news++cur.toList.drop (off+news.length)).toArray):=by
  cases hq:P.info? elem with
  | none=>simp[hq] at hsz
  | some i =>
    have hi:i.size=sz:=by simpa [hq] using hsz
    simp[Builtin.copy_,run_underlying hu,Builtin.lenOf,Builtin.firstCells,sizeOf,typeInfo,hq,hi,←hlen,hl,hst]
 have hf:=h (w.setRow g (cur.toList.take off++news++cur.toList.drop (off+news.length)).toArray) (by
  rw[List.append_assoc,oN cur off _ (by rw[hlen];exact hfit)];exact setRow_heap w g _ _ t _ hg) ⟨rfl,rfl,rfl,by simp[World.setRow],fun i _ hi=>setRow_other w g i _ hi⟩
 unfold Oper.wp;simp[execOp,ho,resolve,invoke,builtin,hd,hs,hrun,Result.andThen];rw[List.append_assoc] at hf;exact hK _ _ hf
theorem zI(vs:Nat->Value)(ks:Nat->Pt):fB vs ks 4=aF (vs 0) (ks 0)++(aF (vs 1) (ks 1)++(aF (vs 2) (ks 2)++aF (vs 3) (ks 3))):=by
 unfold fB;simp[List.range_succ]
theorem KZ(lv:Int)(vs:Nat->Value)(ks:Nat->Pt)(hl:(fB vs ks 4).length=140):spl (bX lv (fun _=>.slice none 0 0) (fun _=>zPt)).toArray 1 (fB vs ks 4)=(bX lv vs ks).toArray:=by
 have h:=kQ [.int .i64 lv] (fB (fun _=>.slice none 0 0) (fun _=>zPt) 4) (fB vs ks 4) [] (by rw[hl];rfl);rw[List.append_nil,List.append_nil] at h;rw[zI (fun _=>.slice none 0 0) (fun _=>zPt)] at h;unfold bX;rw[←zI vs ks];exact h
theorem I4{w:World}{vs:Nat->Value}{ks:Nat->Pt}(h:cS w vs ks):(fB vs ks 4).length=140:=by
 have:=dZ 0 vs h;unfold bX at this;rw[←zI] at this
 simpa using this
theorem I5{w:World}{vs:Nat->Value}{ks:Nat->Pt}(h:cS w vs ks):∀u∈fB vs ks 4,u.oneCell'=true:=fun u hu=>by
 refine dI 0 h u ?_;unfold bX;rw[←zI];exact List.mem_cons_of_mem _ hu
section
variable {B0:Nat->Prop}{w0 w w':World}{c:Nat}{S T:Kor}{B B':Nat->Prop}{rs:List (Value×Pt)}{l:List (Nat×Array Value×TypeId)}
theorem Cs.lays(h:Cs B0 w0 c S B rs w l){ns:List (Value×Pt)}(hp:∀r∈ns,aM w' B' r.1 r.2)(hk:KI w' c T B')(hb:∀k,B' k->B k\/w.heap.size≤k)(hn:∀r∈ns,dJ w r.1)(k:aA B w w'):Cs B0 w0 c T B' (ns++rs) w' l:=by
 refine⟨h.loc.turn2 k (fun _ e=>.inl e) (fun i hi e=>(h.bb i e).elim id fun e=>by omega) ?_,hk,?_,fun i e=>(hb i e).elim (h.bb i) fun e=>.inr (Nat.le_trans h.keep.size e)⟩
 ·rintro i hi (e|⟨r,hr,e⟩)
  ·exact(hb i e).elim .inl fun e=>by omega
  ·rcases List.mem_append.1 hr with hr|hr
   ·have:=hn r hr i e;omega
   ·exact .inr ⟨r,hr,e⟩
 ·intro r hr
  rcases List.mem_append.1 hr with hr|hr
  ·exact hp r hr
  ·exact(h.pv r hr).keep k hb
theorem Ds.lays{SP:Nat->Prop}{wd:World}(h:Ds SP wd B0 w0 c S B rs w l)(hSP:∀i,i<wd.heap.size->B i->SP i){ns:List (Value×Pt)}(hp:∀r∈ns,aM w' B' r.1 r.2)(hk:KI w' c T B')(hb:∀k,B' k->B k\/w.heap.size≤k)(hn:∀r∈ns,dJ w r.1)(k:aA B w w'):Ds SP wd B0 w0 c T B' (ns++rs) w' l:=
 ⟨h.toCs.lays hp hk hb hn k,h.dr.trans' k (fun _ _ e=>e) hSP⟩
theorem Ds.set{SP:Nat->Prop}{wd:World}(h:Ds SP wd B0 w0 c S B rs w l)(i:Nat){b:Nat}{cs cs':Array Value}{t:TypeId}(k:aA (fun k=>k=b) w w')(hn:w'.heap[b]?=some (.cells cs' t (0,0)))(hs:SP b)(hi:l[i]?=some (b,cs,t):=by rfl):Ds SP wd B0 w0 c S B rs w' (l.set i (b,cs',t)):=
 ⟨h.toCs.set i k hn hi,h.dr.trans' k (fun _ _ e=>e) fun j _ e=>by rw[e];exact hs⟩
end
def nG(vs:Nat->Value)(ks:Nat->Pt):List (Value×Pt):=[(vs 0,ks 0),(vs 1,ks 1),(vs 2,ks 2),(vs 3,ks 3)]
theorem zJ{vs:Nat->Value}{ks:Nat->Pt}{P:Value->Pt->Prop}(h:∀i,i<4->P (vs i) (ks i)):∀r∈nG vs ks,P r.1 r.2:=fun r hr=>by
 simp only[nG,List.mem_cons,List.not_mem_nil,or_false] at hr;rcases hr with rfl|rfl|rfl|rfl
 ·exact h 0 (by omega)
 ·exact h 1 (by omega)
 ·exact h 2 (by omega)
 ·exact h 3 (by omega)
theorem Gw{w:World}{B:Nat->Prop}{vs:Nat->Value}{ks:Nat->Pt}{rs:List (Value×Pt)}(h:∀r∈nG vs ks++rs,aM w B r.1 r.2):cC w B vs ks:=fun i hi=>by
 have e:(vs i,ks i)∈nG vs ks:=by
  rcases i with _|_|_|_|i
  ·simp[nG]
  ·simp[nG]
  ·simp[nG]
  ·simp[nG]
  ·omega
 exact h _ (List.mem_append_left _ e)
theorem NI{P:Program}{ops:Array Oper}{Q:Exit->Act->World->Prop}{id:Nat}{a:Act}{B0:Nat->Prop}{w0 w:World}{c:Nat}{Sk:Kor}{B:Nat->Prop}{rs:List (Value×Pt)}{l:List (Nat×Array Value×TypeId)}(SP:Nat->Prop)(HL:Hid (Cs B0 w0 c Sk B rs w l))(hm:P.follows .mixedOrders=true)
 (h:∀wd (S:World->Prop),Hid (∀w',S w'->aA SP wd w')->Hid (∀w',aA SP wd w'->S w')->aA aB w wd->Hid (Ds SP wd B0 w0 c Sk B rs wd l)->wpAnyH P .any ops Q S ops.size (Array.replicate ops.size false) a wd):(Code.region id ops true).wp P Q a w:=by
 have hd:=(aA.refl aB w).drew;exact wp_region_held (S:=fun w'=>aA SP w.drew w') hm (h w.drew (fun w'=>aA SP w.drew w') (O fun _ h=>h) (O fun _ h=>h) hd (O ⟨HL.out.keeps hd,aA.refl _ _⟩))
theorem wF{w:World}{c:Nat}{S:Kor}{B:Nat->Prop}(hK:KI w c S B)(vv:Value)(bs:List UInt8)(hr:Rd w 1 vv bs.length (bs.map vb))(hvb:∀i,vv.ownBlock=some i->¬B i)(l:Nat)(hz:cP bs=true):Calls Tryz.prog 28 #[.pointer (some ⟨c,0,none⟩),vv,.int .i64 (l:Int)] w (jK w c B (some .hole) S):=by
 have HL:=O (Cs.start hK);have HCL:=O (Cl.refl w w B (aA.refl _ _));have HVB:=O hvb;have HR:=O hr;have HBLT:=O (fun i (e:B i)=>hK.lt e);have HAZ:=O hz;have hzp:(aF (.slice none 0 0) zPt).length=35:=rfl;have hzb:=gG;obtain⟨zp,hzpe⟩:∃l,aF (.slice none 0 0) zPt=l:=⟨_,rfl⟩
 have HOZP:Hid (∀u∈zp,u.oneCell'=true):=O (by rw[←hzpe];exact bQ zPt);have HZPE:=O hzpe;rw[hzpe] at hzp hzb;have HZB:=O hzb;clear hzpe hzb;obtain⟨va,vc,rfl,-,-⟩:=hr.form;obtain⟨m,hmm⟩:∃m,bs.length=m:=⟨_,rfl⟩
 have HMM:=O hmm;rw[hmm] at HR HVB ⊢;clear hr hvb hmm hK hz;go_enter Tryz.func28,Tryz.ntmps28
 go_wp2_with ((with_reducible show WL _ _);refine bx 36 (.tmp 0) (#[.pointer (some ⟨c,0,none⟩)]) ?_)
 intro b3 w1 hbs hk hb;replace HL:=O (HL.out.new (trivial) hbs hk hb);replace HR:=O (HR.out.keep hk fun _ _=>id);replace HCL:=O (HCL.out.trans (Cl.refl _ _ _ hk));clear hbs hk hb
 go_wp2_with ((with_reducible show WL _ _);refine bx 3 (.tmp 2) (#[.int .i64 (l:Int)]) ?_)
 intro b5 w2 hbs hk hb;replace HL:=O (HL.out.new (trivial) hbs hk hb);replace HR:=O (HR.out.keep hk fun _ _=>id);replace HCL:=O (HCL.out.trans (Cl.refl _ _ _ hk));clear hbs hk hb
 go_wp2_with ((with_reducible show WL _ _);refine al 26 (.agg aG.toArray) (aG.toArray) bD ?_)
 intro b6 w3 hbs hk hb;replace HL:=O (HL.out.new (trivial) hbs hk hb);replace HR:=O (HR.out.keep hk fun _ _=>id);replace HCL:=O (HCL.out.trans (Cl.refl _ _ _ hk));clear hbs hk hb;go_wp2_with fail;refine((by have h:=fY w3 (.slice va m vc) bs (by rw[HMM.out];exact HR.out);rw[HAZ.out] at h;exact h:Calls _ _ _ w3 (aJ w3 (.bool true)))).mono ?_;rintro e w4 ⟨rfl,hk⟩;replace HL:=O (HL.out.keeps hk);replace HR:=O (HR.out.keep hk fun _ _=>id);replace HCL:=O (HCL.out.trans (Cl.refl _ _ _ hk));clear hk
 go_wp2_with ((with_reducible show WL _ _);first
  | refine bld 26 #[] [] (.agg zp.toArray) HZB.out ?_
  | refine sta 26 (.tmp 6) (.tmp 13) b6 0 zp (HL.out.b 0) (by first|decide|(rw[hzp];exact Nat.le_refl _)|simp[hzp,aE]) (szP9 hzp) HOZP.out ?_)
 intro w5 hk hb;rw[aH _ _ (by first|rfl|simp[hzp,aE])] at hb;replace HL:=O (HL.out.set 0 hk hb);replace HCL:=O (Cl.onT HCL.out hk fun i hq e=>by rw[e] at hq;first|exact (HL.out.loc.aq 0) (.inl hq)|exact (HL.out.loc.aq 1) (.inl hq)|exact (HL.out.loc.aq 2) (.inl hq)|exact (HL.out.loc.aq 3) (.inl hq));clear hk hb;have HB6:=O (HL.out.b 0);have HP:Hid (jK w c B (some .hole) S (.returned (.agg zp.toArray)) w5):=O ⟨.slice none 0 0,B,by rw[←HZPE.out];rfl,aM.hole _ _,HL.out.ki,fun _ h=>.inl h,HCL.out,dJ.nil w,HL.out.keep⟩;clear HL HCL;go_wp2_with fail;refine bodyPost_ret (results_cell_row rfl _ _ b6 _ _ _ _ rfl HB6.out aI rfl (by rw[List.size_toArray,hzp];exact cI)) rfl ?_;exact HP.out
theorem I6{w:World}{c:Nat}{S:Kor}{B:Nat->Prop}(hK:KI w c S B)(vv:Value)(bs:List UInt8)(hr:Rd w 1 vv bs.length (bs.map vb))(hvb:∀i,vv.ownBlock=some i->¬B i)(hbl:bs.length=256)(hz:cP bs=false)(r:Option Tr)(T:Kor)(hm:S.leaf bs=(r,T)):Calls Tryz.prog 28 #[.pointer (some ⟨c,0,none⟩),vv,.int .i64 0] w (jK w c B r T):=by
 have HL:=O (Cs.start hK);have HCL:=O (Cl.refl w w B (aA.refl _ _));have HVB:=O hvb;have HR:=O hr;have HBLT:=O (fun i (e:B i)=>hK.lt e);have HAZ:=O hz;have HBL:=O hbl
 have HPT:Hid (match S.put 0 bs with|none=>r=none|some (p,U)=>r=some (.leaf p bs)/\T=U):=O (by
  unfold Kor.leaf at hm;rw[if_neg (fun e=>by rw[(lU hbl).2 e] at hz;cases hz)] at hm;cases hp:S.put 0 bs with
  | none=>rw[hp] at hm;injection hm with h1 h2;exact h1.symm
  | some x=>obtain⟨p,U⟩:=x;rw[hp] at hm;injection hm with h1 h2;exact⟨h1.symm,h2.symm⟩)
 have hzp:(aF (.slice none 0 0) zPt).length=35:=rfl;have hzb:=gG;obtain⟨zp,hzpe⟩:∃l,aF (.slice none 0 0) zPt=l:=⟨_,rfl⟩
 have HOZP:Hid (∀u∈zp,u.oneCell'=true):=O (by rw[←hzpe];exact bQ zPt);have HZPE:=O hzpe;rw[hzpe] at hzp hzb;have HZB:=O hzb;clear hzpe hzb;obtain⟨va,vc,rfl,-,-⟩:=hr.form;obtain⟨m,hmm⟩:∃m,bs.length=m:=⟨_,rfl⟩
 have HMM:=O hmm;rw[hmm] at HR HVB ⊢;clear hr hvb hmm hK hz hm hbl;go_enter Tryz.func28,Tryz.ntmps28
 go_wp2_with ((with_reducible show WL _ _);refine bx 36 (.tmp 0) (#[.pointer (some ⟨c,0,none⟩)]) ?_)
 intro b3 w1 hbs hk hb;replace HL:=O (HL.out.new (trivial) hbs hk hb);replace HR:=O (HR.out.keep hk fun _ _=>id);replace HCL:=O (HCL.out.trans (Cl.refl _ _ _ hk));clear hbs hk hb
 go_wp2_with ((with_reducible show WL _ _);refine bx 3 (.tmp 2) (#[.int .i64 0]) ?_)
 intro b5 w2 hbs hk hb;replace HL:=O (HL.out.new (trivial) hbs hk hb);replace HR:=O (HR.out.keep hk fun _ _=>id);replace HCL:=O (HCL.out.trans (Cl.refl _ _ _ hk));clear hbs hk hb
 go_wp2_with ((with_reducible show WL _ _);refine al 26 (.agg aG.toArray) (aG.toArray) bD ?_)
 intro b6 w3 hbs hk hb;replace HL:=O (HL.out.new (trivial) hbs hk hb);replace HR:=O (HR.out.keep hk fun _ _=>id);replace HCL:=O (HCL.out.trans (Cl.refl _ _ _ hk));clear hbs hk hb;go_wp2_with fail;refine((by have h:=fY w3 (.slice va m vc) bs (by rw[HMM.out];exact HR.out);rw[HAZ.out] at h;exact h:Calls _ _ _ w3 (aJ w3 (.bool false)))).mono ?_;rintro e w4 ⟨rfl,hk⟩;replace HL:=O (HL.out.keeps hk);replace HR:=O (HR.out.keep hk fun _ _=>id);replace HCL:=O (HCL.out.trans (Cl.refl _ _ _ hk));clear hk;have c1:w4.cell? ⟨b5,0,none⟩=some (.int .i64 0):=(aC (i:=0) (HL.out.b 1) rfl)
 have c2:w4.cell? ⟨b3,0,none⟩=some (.pointer (some ⟨c,0,none⟩)):=(aC (i:=0) (HL.out.b 2) rfl)
 go_wp2_with fail;clear c1 c2;have HW1:=O HL.out.keep;have HPP:=HPT.out;refine((Bt HL.out.ki (lv:=0) (by omega) HBL.out (by rw[show (256:Nat)=m from HBL.out.symm.trans HMM.out];exact HR.out) HVB.out:Calls _ _ _ w4 (DB w4 c B (S.put 0 bs)))).mono ?_;rintro e w8 hm;cases hp:S.put 0 bs with
 | none =>
   rw[hp] at hm HPP;obtain⟨rfl,hk⟩:=hm;have hrn:r=none:=HPP;subst hrn;have HP:Hid (jK w c B none T (.panicked (gH 15)) w8):=O ⟨rfl,HW1.out.trans' hk (fun _ _ h=>h) (fun i hi e=>(HL.out.bb i e).elim id fun e=>by omega)⟩;go_wp2_with fail;exact⟨rfl,HP.out⟩
 | some x =>
   obtain⟨p,U⟩:=x;rw[hp] at hm HPP;obtain⟨v,B',rfl,hpv,hki,hbb,hcl,hnw,hk⟩:=hm;have HNW:=O (hnw.from HW1.out.size);replace HCL:=O (HCL.out.trans hcl);replace HL:=O (HL.out.laid hpv hki hbb hnw hk);obtain⟨qc,HQC,hqc,HOQ⟩:=nmP hpv;rw[HQC.out];obtain⟨hr1,hr2⟩:r=some (.leaf p bs)/\T=U:=HPP;have HRT:=O (And.intro hr1 hr2);clear hpv hki hbb hcl hnw hk HW1 HPT hr1 hr2 hp
   go_wp2_with ((with_reducible show WL _ _);refine sta 26 (.tmp 6) (.tmp 19) b6 0 qc (HL.out.b 0) (by first|decide|(rw[hqc];exact Nat.le_refl _)|simp[hqc,aE]) (szP9 hqc) HOQ.out ?_)
   intro w9 hk hb;rw[aH _ _ (by first|rfl|simp[hqc,aE])] at hb;replace HL:=O (HL.out.set 0 hk hb);replace HCL:=O (Cl.onT HCL.out hk fun i hq e=>by rw[e] at hq;first|exact (HL.out.loc.aq 0) (.inl hq)|exact (HL.out.loc.aq 1) (.inl hq)|exact (HL.out.loc.aq 2) (.inl hq)|exact (HL.out.loc.aq 3) (.inl hq));clear hk hb;have HB6:=O (HL.out.b 0);have HP:Hid (jK w c B r T (.returned (.agg qc.toArray)) w9):=O (by rw[HRT.out.1,HRT.out.2];exact⟨v,B',by rw[←HQC.out];rfl,HL.out.pv0 0,HL.out.ki,HL.out.bb,HCL.out,HNW.out,HL.out.keep⟩);clear HL HCL;go_wp2_with fail;refine bodyPost_ret (results_cell_row rfl _ _ b6 _ _ _ _ rfl HB6.out aI rfl (by rw[List.size_toArray,hqc];exact cI)) rfl ?_;exact HP.out
theorem K5{l:Nat}(H:xH l)(hl:l≤2){w:World}{c:Nat}{S:Kor}{B:Nat->Prop}(hK:KI w c S B)(vv:Value)(bs:List UInt8)(hr:Rd w 1 vv bs.length (bs.map vb))(hvb:∀i,vv.ownBlock=some i->¬B i)(hbl:bs.length=256*4 ^ (l+1))(hz:cP bs=false)(r:Option Tr)(T:Kor)(hm:dN (l+1) S bs=(r,T)):Calls Tryz.prog 28 #[.pointer (some ⟨c,0,none⟩),vv,.int .i64 ((l+1:Nat):Int)] w (jK w c B r T):=by
 obtain⟨⟨rk,Tk⟩,hmk⟩:∃x,fA (dN l) l S bs 4=x:=⟨_,rfl⟩
 have HMK:=O hmk;have hbd:=hK.bd
 have HKK:Hid (∀kk,rk=some kk->(∀i,i<4->Tr.Ok Tk l (kk i))/\(match Tk.put (l+1) (cL (l+1) (eT kk)) with|none=>r=none|some (p,U)=>r=some (.node p kk)/\T=U)):=O (fun kk e=>by
  have g:=lC hbd hbl (fun hb hl h=>mZ (by omega) hb hl h) 4 (by omega) (by rw[hmk,e])
  have hh:eD kk=false:=by
   cases hh:eD kk with
   | false=>rfl
   | true=>rw[sE (S:=S) hbl g.blks hh] at hz;cases hz
  refine⟨g.parts.ok,?_⟩;unfold dN at hm;rw[if_neg (by rw[hz];decide),hmk,e] at hm;simp only[] at hm;unfold Kor.lay at hm;rw[hh] at hm;cases hp:Tk.put (l+1) (cL (l+1) (eT kk)) with
  | none=>rw[hp] at hm;injection hm with h1 h2;exact h1.symm
  | some x=>obtain⟨p,U⟩:=x;rw[hp] at hm;injection hm with h1 h2;exact⟨h1.symm,h2.symm⟩)
 have HKN:Hid (rk=none->r=none):=O (fun e=>by
  unfold dN at hm;rw[if_neg (by rw[hz];decide),hmk,e] at hm;injection hm with h1 h2;exact h1.symm)
 have HH:Hid (xH l):=O H;have hl1:¬((l+1:Nat):Int)=0:=by omega
 have HL:=O (Cs.start hK);have HCL:=O (Cl.refl w w B (aA.refl _ _));have HVB:=O hvb;have HR:=O hr;have HBLT:=O (fun i (e:B i)=>hK.lt e);have HAZ:=O hz;have HBL:=O hbl;have hnz:(bX ((l+1:Nat):Int) (fun _=>.slice none 0 0) (fun _=>zPt)).length=141:=rfl;have hbn:=Av ((l+1:Nat):Int);obtain⟨nz,hnze⟩:∃x,bX ((l+1:Nat):Int) (fun _=>.slice none 0 0) (fun _=>zPt)=x:=⟨_,rfl⟩
 have HOZ:Hid (∀u∈nz,u.oneCell'=true):=O (by rw[←hnze];exact dI (w:=w) _ fun _ _=>sL w);have HNZ:=O hnze;rw[hnze] at hnz hbn;have HBN:=O hbn;obtain⟨lv,hlv⟩:∃x,((l+1:Nat):Int)=x:=⟨_,rfl⟩
 have HLV:=O hlv;rw[hlv] at HBN hl1 ⊢;have hzp:(aF (.slice none 0 0) zPt).length=35:=rfl;have hzb:=gG;obtain⟨zp,hzpe⟩:∃l,aF (.slice none 0 0) zPt=l:=⟨_,rfl⟩
 have HOZP:Hid (∀u∈zp,u.oneCell'=true):=O (by rw[←hzpe];exact bQ zPt);have HZPE:=O hzpe;rw[hzpe] at hzp hzb;have HZB:=O hzb;clear hzpe hzb;obtain⟨va,vc,rfl,-,-⟩:=hr.form;obtain⟨m,hmm⟩:∃m,bs.length=m:=⟨_,rfl⟩
 have HMM:=O hmm;rw[hmm] at HR HVB ⊢;clear hr hvb hmm hK hz hm hbl hnze hbn hlv hmk H hbd;go_enter Tryz.func28,Tryz.ntmps28
 go_wp2_with ((with_reducible show WL _ _);refine bx 36 (.tmp 0) (#[.pointer (some ⟨c,0,none⟩)]) ?_)
 intro b3 w1 hbs hk hb;replace HL:=O (HL.out.new (trivial) hbs hk hb);replace HR:=O (HR.out.keep hk fun _ _=>id);replace HCL:=O (HCL.out.trans (Cl.refl _ _ _ hk));clear hbs hk hb
 go_wp2_with ((with_reducible show WL _ _);refine bx 3 (.tmp 2) (#[.int .i64 lv]) ?_)
 intro b5 w2 hbs hk hb;replace HL:=O (HL.out.new (trivial) hbs hk hb);replace HR:=O (HR.out.keep hk fun _ _=>id);replace HCL:=O (HCL.out.trans (Cl.refl _ _ _ hk));clear hbs hk hb
 go_wp2_with ((with_reducible show WL _ _);refine al 26 (.agg aG.toArray) (aG.toArray) bD ?_)
 intro b6 w3 hbs hk hb;replace HL:=O (HL.out.new (trivial) hbs hk hb);replace HR:=O (HR.out.keep hk fun _ _=>id);replace HCL:=O (HCL.out.trans (Cl.refl _ _ _ hk));clear hbs hk hb;go_wp2_with fail;refine((by have h:=fY w3 (.slice va m vc) bs (by rw[HMM.out];exact HR.out);rw[HAZ.out] at h;exact h:Calls _ _ _ w3 (aJ w3 (.bool false)))).mono ?_;rintro e w4 ⟨rfl,hk⟩;replace HL:=O (HL.out.keeps hk);replace HR:=O (HR.out.keep hk fun _ _=>id);replace HCL:=O (HCL.out.trans (Cl.refl _ _ _ hk));clear hk;have c1:w4.cell? ⟨b5,0,none⟩=some (.int .i64 lv):=(aC (i:=0) (HL.out.b 1) rfl)
 have c2:w4.cell? ⟨b5,0,none⟩=some (.int .i64 lv):=(aC (i:=0) (HL.out.b 1) rfl)
 go_wp2_with ((with_reducible show WL _ _);first
  | refine bld 107 #[(0,.tmp 20)] [(0,.int .i64 lv)] (.agg nz.toArray) HBN.out ?_
  | refine al 107 (.agg eI.toArray) (eI.toArray) mT ?_)
 clear c1 c2;intro b7 w5 hbs hk0 hb0_
 go_wp2_with ((with_reducible show WL _ _);refine sta 107 (.tmp 7) (.tmp 21) b7 0 nz hb0_ (by first|decide|(rw[List.size_toArray,hnz];exact Nat.le_refl _)|simp[hnz,cW]) (by rw[hnz];exact eJ) HOZ.out ?_)
 intro w6 hk hb;rw[aH _ _ (by first|rfl|(rw[List.size_toArray,hnz];rfl)|simp[hnz,cW])] at hb;replace hk:=hk0.trans' hk (U:=aB) (fun _ _ h=>h) (fun i hi e=>by omega);replace HL:=O (HL.out.new (trivial) hbs hk hb);replace HR:=O (HR.out.keep hk fun _ _=>id);replace HCL:=O (HCL.out.trans (Cl.refl _ _ _ hk));clear hbs hk hb hk0 hb0_;go_wp2_with fail;go_wp2_with fail;refine NI (fun k=>B k\/k=b7) HL (by kernel_rfl) ?_;intro w7 SW HSE HSI hkd HL;replace HR:=O (HR.out.keep hkd fun _ _=>id);replace HCL:=O (HCL.out.trans (Cl.refl _ _ _ hkd));clear hkd;have HLs:=HL;have HRs:=HR;have HCLs:=HCL;refine tnb 0 (.pointer (some ⟨b7,1,none⟩)) rfl (sD9 HSI HL) ?_;refine tnb 1 (.slice (some ⟨b7,1,none⟩) 4 4) rfl (sD9 HSI HL) ?_;refine tna 2 (.slice va m vc) rfl (sD9 HSI HL) ?_;refine tnb 3 (.func (.func 57) #[] #[.pointer (some ⟨b3,0,none⟩),.pointer (some ⟨b5,0,none⟩)]) rfl (sD9 HSI HL) ?_;refine wA9 4 ?_;go_wp2_with fail;have HWM:=O HL.out.keep;have HB7L:=O (HL.out.loc.lt 0).2;refine((Gv HH.out hl HL.out.ki (.slice va m vc) bs HBL.out (by rw[HMM.out];exact HR.out) HVB.out rk Tk HMK.out (HL.out.b 3) (by rw[HLV.out];exact HL.out.b 2) (fun e=>(HL.out.loc.aq 3) (.inl e)) (fun e=>(HL.out.loc.aq 2) (.inl e)):Calls _ _ _ w7 (AB w7 c B rk Tk))).mono ?_;rintro e w8 hm;cases rk with
 | none =>
   obtain⟨rfl,hk⟩:=hm;have hrn:=HKN.out rfl;subst hrn;have HP:Hid (jK w c B none T (.panicked (gH 15)) w8):=O ⟨rfl,HWM.out.trans' hk (fun _ _ h=>h) (fun i hi e=>e)⟩;go_wp2_with fail;exact⟨rfl,HP.out⟩
 | some kk =>
   obtain⟨v,vs,B2,rfl,ho,hnv,hnb,hki,hbb,hcl,hvo,hk⟩:=hm;have HOK:=O (HKK.out kk rfl).1;have HPT:=O (HKK.out kk rfl).2;replace HCL:=O (HCL.out.trans hcl);replace HL:=O (HL.out.lays (fun _ _ e=>.inl e) (zJ hnv) hki hbb (zJ (P:=fun v _=>dJ _ v) hnb) hk);have HROW:=O ho;have HNBW:Hid (∀i,i<4->dJ w (vs i)):=O fun i hi=>(hnb i hi).from HWM.out.size
   have HVB7:Hid (∀i,v.ownBlock=some i->¬i=b7):=O fun i hi e=>by have:=aQ ho hi;have:=HB7L.out;omega
   obtain⟨row,hrow⟩:∃x,fB vs (fun i=>(kk i).ptr) 4=x:=⟨_,rfl⟩
   have hrl:=I4 hnv.nv;have hr1:=I5 hnv.nv;have hspl:=KZ ((l+1:Nat):Int) vs (fun i=>(kk i).ptr) hrl;rw[HNZ.out] at hspl;rw[hrow] at hrl hr1 hspl HROW;have HR1:=O hr1;have HRL:=O hrl;have HSPL:=O hspl;obtain⟨nc,hnce⟩:∃x,bX ((l+1:Nat):Int) vs (fun i=>(kk i).ptr)=x:=⟨_,rfl⟩
   have HON:Hid (∀u∈nc,u.oneCell'=true):=O (by rw[←hnce];exact dI _ hnv.nv);have hnc:=dZ ((l+1:Nat):Int) vs hnv.nv;rw[hnce] at hnc;have HNC:=O hnce;rw[hnce] at HSPL;clear ho hnv hnb hki hbb hcl hvo hk hrow hrl hr1 hspl hnce HR;go_wp2_with fail;refine⟨HSI.out _ HL.out.dr,?_⟩;refine wA9 5 ?_;refine BU rfl (.tmp 23) (.tmp 26) 64 64 rfl 26 35 Tryz.underlying64 cI b7 1 4 4 rfl v row rfl (Rd.of_owns HROW.out) (by decide) (by decide) nz.toArray 107 (HL.out.b 0) (by rw[List.size_toArray,hnz];decide) HR1.out ?_;intro w9 hb hk;rw[HSPL.out] at hb;replace HL:=O (HL.out.set 0 hk hb (.inr rfl));replace HCL:=O (Cl.onT HCL.out hk fun i hq e=>by rw[e] at hq;first|exact (HL.out.toCs.loc.aq 0) (.inl hq)|exact (HL.out.toCs.loc.aq 1) (.inl hq)|exact (HL.out.toCs.loc.aq 2) (.inl hq)|exact (HL.out.toCs.loc.aq 3) (.inl hq));clear hk hb HROW;refine wpList_nil ?_;refine⟨HSI.out _ HL.out.dr,?_⟩;refine wpAnyH_done (by kernel_rfl) ?_ _;replace HL:=O HL.out.toCs;clear HLs HSE HSI
   go_wp2_with ((with_reducible show WL _ _);refine wpList_load_mid rfl 107 (.tmp 7) rfl b7 0 rfl nc _ (aD (HL.out.b 0)) L0 rfl (by rw[hnc];exact eJ) ?_)
   have HSZ:=O HL.out.keep.size;have HBL2:=O (fun i (e:B2 i)=>HL.out.ki.lt e);refine((by rw[←HNC.out];exact uO w9 (l+1) vs (fun i=>(kk i).ptr) (Gw HL.out.pv).nv (by omega) (by omega) (fun i hi=>by have:=(HOK.out i hi).fit;exact this):Calls _ _ _ w9 (pR w9 (l+1) (fun i=>(kk i).ptr)))).mono ?_;rintro e wa ⟨v1,rfl,ho,hk⟩;rw[←Dq,Tr.Ok.nb_eq (l+1) HOK.out] at ho;obtain⟨pa,pcc,rfl,-,-⟩:=(Rd.of_owns ho).form;have HO:=O ho;have HVB2:Hid (∀i,(Value.slice pa 256 pcc).ownBlock=some i->¬B2 i):=O (fun i hi e=>by have:=aQ ho hi;have:=HBL2.out i e;omega);clear ho HSZ HBL2;replace HL:=O (HL.out.keeps hk);replace HCL:=O (HCL.out.trans (Cl.refl _ _ _ hk));clear hk;have c1:wa.cell? ⟨b3,0,none⟩=some (.pointer (some ⟨c,0,none⟩)):=(aC (i:=0) (HL.out.b 3) rfl)
   have c2:wa.cell? ⟨b5,0,none⟩=some (.int .i64 lv):=(aC (i:=0) (HL.out.b 2) rfl)
   go_wp2_with fail;clear c1 c2;have HBLN:Hid ((cL (l+1) (eT kk)).length=256):=O (uX HOK.out);have HW1:=O HL.out.keep;have HPP:=HPT.out;refine((by rw[←HLV.out];exact Bt HL.out.ki (lv:=l+1) (by omega) HBLN.out (Rd.of_owns HO.out) HVB2.out:Calls _ _ _ wa (DB wa c B2 (Tk.put (l+1) (cL (l+1) (eT kk)))))).mono ?_;rintro e w8 hm;cases hp:Tk.put (l+1) (cL (l+1) (eT kk)) with
   | none =>
     rw[hp] at hm HPP;obtain⟨rfl,hk⟩:=hm;have hrn:r=none:=HPP;subst hrn;have HP:Hid (jK w c B none T (.panicked (gH 15)) w8):=O ⟨rfl,HW1.out.trans' hk (fun _ _ h=>h) (fun i hi e=>(HL.out.bb i e).elim id fun e=>by omega)⟩;go_wp2_with fail;exact⟨rfl,HP.out⟩
   | some x =>
     obtain⟨p,U⟩:=x;rw[hp] at hm HPP;obtain⟨v,B',rfl,hpv,hki,hbb,hcl,hnw,hk⟩:=hm;have HNW:=O (hnw.from HW1.out.size);replace HCL:=O (HCL.out.trans hcl);replace HL:=O (HL.out.laid hpv hki hbb hnw hk);obtain⟨qc,HQC,hqc,HOQ⟩:=nmP hpv;rw[HQC.out];obtain⟨hr1,hr2⟩:r=some (.node p kk)/\T=U:=HPP;have HRT:=O (And.intro hr1 hr2);clear hpv hki hbb hcl hnw hk HW1 HPT hr1 hr2 hp
     go_wp2_with ((with_reducible show WL _ _);refine sta 26 (.tmp 6) (.tmp 41) b6 0 qc (HL.out.b 1) (by first|decide|(rw[hqc];exact Nat.le_refl _)|simp[hqc,aE]) (szP9 hqc) HOQ.out ?_)
     intro w9 hk hb;rw[aH _ _ (by first|rfl|simp[hqc,aE])] at hb;replace HL:=O (HL.out.set 1 hk hb);replace HCL:=O (Cl.onT HCL.out hk fun i hq e=>by rw[e] at hq;first|exact (HL.out.loc.aq 0) (.inl hq)|exact (HL.out.loc.aq 1) (.inl hq)|exact (HL.out.loc.aq 2) (.inl hq)|exact (HL.out.loc.aq 3) (.inl hq));clear hk hb;have HB6:=O (HL.out.b 1);have HP:Hid (jK w c B r T (.returned (.agg qc.toArray)) w9):=O (by rw[HRT.out.1,HRT.out.2];exact⟨v,B',by rw[←HQC.out];rfl,HL.out.pv0 0,HL.out.ki,HL.out.bb,HCL.out,HNW.out,HL.out.keep⟩);clear HL HCL;go_wp2_with fail;refine bodyPost_ret (results_cell_row rfl _ _ b6 _ _ _ _ rfl HB6.out aI rfl (by rw[List.size_toArray,hqc];exact cI)) rfl ?_;exact HP.out
theorem E0:∀{l:Nat},l≤3->xH l
 | 0,_=>by
   rename_i w c S B _;intro hK vv bs hbl hr hvb r T hm;cases hz:cP bs with
   | true =>
     have e:dN 0 S bs=(some .hole,S):=by unfold dN Kor.leaf;rw[if_pos ((lU (by rw[hbl])).1 hz)]
     rw[e] at hm;injection hm with h1 h2
     subst h1 h2;exact wF hK vv bs hr hvb 0 hz
   | false=>exact I6 hK vv bs hr hvb (by rw[hbl]) hz r T hm
 | l+1,hl=>by
   rename_i w c S B;intro hK vv bs hbl hr hvb r T hm;cases hz:cP bs with
   | true =>
     have e:dN (l+1) S bs=(some .hole,S):=by unfold dN;rw[if_pos hz]
     rw[e] at hm;injection hm with h1 h2
     subst h1 h2;exact wF hK vv bs hr hvb (l+1) hz
   | false=>exact K5 (E0 (by omega)) (by omega) hK vv bs hr hvb hbl hz r T hm
end
end Go.Proofs.YtjkbekifgobeaaaGreatDoor
