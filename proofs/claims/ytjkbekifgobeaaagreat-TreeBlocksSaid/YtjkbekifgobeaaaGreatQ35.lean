/- A part of the proof. Conditions: those told. -/
import Derived.Test.YtjkbekifgobeaaaGreatQ1
import Derived.Test.YtjkbekifgobeaaaGreatQ33
import Derived.Test.YtjkbekifgobeaaaGreatQ34
namespace Go.Proofs.YtjkbekifgobeaaaGreat
set_option maxHeartbeats 64000000
set_option maxRecDepth 100000
set_option linter.unusedVariables false
section
open Go.ChangeShapes Go.WideShapes Go.ChangeAt Go.RowKit
theorem own:ownKnob Tryz.prog.godebug=none:=by kernel_rfl
theorem Eo:laidOutB Tryz.prog=true:=by kernel_rfl
def C7(x:EdV):Prop:=sM x.n/\sM x.many
theorem yP{cs l:List Value}{o k:Nat}(m:Nat)(h:(cs.drop o).take k=l)(hm:o+k=m):cs.drop o=l++cs.drop m:=by
 rw[←h,←hm,←List.drop_drop];exact(List.take_append_drop k (cs.drop o)).symm
section
variable {H:Type}{enc:TypeId×Value->H}{w:World}{base:Nat}{spare:Nat->Bool}{held:Bool}{fuel:Nat}
theorem Ma{t:TypeId}{cs:List Value}{x:DataW H×List MemPlace}{fs:List (String×TypeId×Nat)}(hu:Tryz.prog.underlying t=some (.struct (Tryz.prog.fieldsOf t)))
 (hF:(Tryz.prog.fieldsOf t).toList.map (fun f=>(f.name,f.type,f.offset))=fs) (h:DataW.trod enc Tryz.prog w base spare held fuel t cs=some x) :
 cs.length=Tryz.prog.cellsOf t/\∃m,∀(i:Nat) (n:String) (u:TypeId) (o:Nat),fs[i]?=some (n,u,o)->∃y,DataW.trod enc Tryz.prog w base spare held m u ((cs.drop o).take (Tryz.prog.cellsOf u))=some y:=by
 obtain⟨xs,m,-,-,hl,hx,hf⟩:=DataW.trod_struct hu h;refine⟨hl,m,fun i n u o h2=>?_⟩;rw[←hF,List.getElem?_map] at h2;obtain⟨f,hf1,hf2⟩:=Option.map_eq_some_iff.1 h2;have h3:=hf i f (by simpa using hf1);cases hf2
 have hi:i<xs.length:=by
  have:=(List.getElem?_eq_some_iff.1 hf1).1;rw[hx];simpa using this
 rw[List.getElem?_eq_getElem hi] at h3;exact⟨_,h3⟩
theorem MP:Tryz.prog.cellsOf 3=1:=by kernel_rfl
theorem cU8:Tryz.prog.cellsOf 5=1:=by kernel_rfl
theorem MC:Tryz.prog.cellsOf 4=1:=by kernel_rfl
theorem cEd:Tryz.prog.cellsOf 65=4:=by kernel_rfl
theorem uEd:Tryz.prog.underlying 65=some (.struct (Tryz.prog.fieldsOf 65)):=by kernel_rfl
theorem fEd : (Tryz.prog.fieldsOf 65).toList.map (fun f => (f.name, f.type, f.offset)) = [("N", 3, 0), ("Many", 3, 1), ("Cut", 4, 2), ("B", 5, 3)] := by kernel_rfl
theorem Ie{cs:List Value}{x:DataW H×List MemPlace}(h:DataW.trod enc Tryz.prog w base spare held fuel 3 cs=some x):∃a:Int,sM a/\cs=[.int .i64 a]:=by
 obtain⟨a,e0,-,wa⟩:=DataW.trod_int Tryz.underlying3 h;exact⟨a,bounds_i64 wa,e0⟩
theorem Lx{cs:List Value}{x:DataW H×List MemPlace}(h:DataW.trod enc Tryz.prog w base spare held fuel 5 cs=some x):∃b:UInt8,cs=[vb b]:=by
 obtain⟨a,e0,rfl,wa⟩:=DataW.trod_int Tryz.underlying5 h;have hb:=bounds_u8 wa;refine⟨UInt8.ofNat a.toNat,?_⟩;rw[e0];unfold vb;simp;omega
theorem MD{cs:List Value}{x:DataW H×List MemPlace}(h:DataW.trod enc Tryz.prog w base spare held fuel 65 cs=some x):∃a:EdV,C7 a/\cs=kR a:=by
 obtain⟨hl,m,hf⟩:=Ma uEd fEd h;rw[cEd] at hl;obtain⟨_,h0⟩:=hf 0 _ _ _ rfl;obtain⟨_,h1⟩:=hf 1 _ _ _ rfl;obtain⟨_,h2⟩:=hf 2 _ _ _ rfl;obtain⟨_,h3⟩:=hf 3 _ _ _ rfl;obtain⟨a0,o0,e0⟩:=Ie h0;obtain⟨a1,o1,e1⟩:=Ie h1;obtain⟨a2,e2,-⟩:=DataW.trod_bool Tryz.underlying4 h2;obtain⟨a3,e3⟩:=Lx h3;rw[MP] at e0 e1;rw[MC] at e2;rw[cU8] at e3;refine⟨⟨a0,a1,a2,a3⟩,⟨o0,o1⟩,?_⟩;have q0:=yP 1 e0 rfl;rw[yP 2 e1 rfl,yP 3 e2 rfl,yP 4 e3 rfl,List.drop_eq_nil_of_le (i:=4) (by omega)] at q0;exact q0
theorem DN{a:Option Addr}{len cap:Nat}{x:DataW H×List MemPlace}(h:DataW.trod enc Tryz.prog w base spare held fuel 59 [.slice a len cap]=some x) :
 ∃l:List EdV,l.length=len/\(∀y∈l,C7 y)/\Rd w 4 (.slice a len cap) len (BC l):=
 C6 (f:=kR) (ok:=C7) Tryz.underlying59 cEd (by decide) (fun y hy=>rfl) (fun n cs x hx=>MD hx) h
end
theorem ME{w:World}{v:Value}{l:List EdV}(h:Rd w 4 v l.length (BC l)){k:Nat}{x:EdV}(hk:l[k]?=some x):∃g o cap,v=.slice (some ⟨g,o,none⟩) l.length cap/\w.rangeAt g (o+k*4) (kR x):=by
 obtain⟨h0,a,cap,rfl,h1,h2,h3,h4⟩:=h;have hlt:=(List.getElem?_eq_some_iff.1 hk).1;obtain⟨g,o,rfl,hc⟩:=h4 (by rw[h0];omega);refine⟨g,o,cap,rfl,fun j u hj=>?_⟩;have hj5:j<4:=(List.getElem?_eq_some_iff.1 hj).1;have h5:=mJ (f:=kR) (k:=4) (l:=l) (fun _ _=>rfl) k hk j hj5;rw[hj] at h5;have:=hc (k*4+j) u h5
 rwa [←Nat.add_assoc] at this
end
section
open Go.RowKit Go.Maps Go.ChangeMaps
structure Rt where
 v:Value
 t:Tr
 bl:Nat->UInt8
def dG(ts:List Rt):List (Value×Pt):=ts.map fun x=>(x.v,x.t.ptr)
def zX(ts:List Rt):List Value:=ts.flatMap fun x=>aH x.v x.t.ptr
def wW(ts:List Rt):List Value:=ts.flatMap fun x=>blC x.bl
def C8(S:Kor)(ts:List Rt):Prop:=∀x∈ts,Tr.Ok S 3 x.t/\gJ x.t x.bl
theorem C8.ext{S T:Kor}{ts:List Rt}(h:C8 S ts)(e:Ext S T):C8 T ts:=fun x hx=>⟨(h x hx).1.ext e,(h x hx).2⟩
theorem If(ts:List Rt)(x:Rt):zX (ts++[x])=zX ts++aH x.v x.t.ptr:=by unfold zX;rw[List.flatMap_append];simp
theorem Ig(ts:List Rt)(x:Rt):wW (ts++[x])=wW ts++blC x.bl:=by unfold wW;rw[List.flatMap_append];simp
theorem sB{ts:List Rt}{x:Rt}:∀r∈dG (ts++[x]),r∈(x.v,x.t.ptr)::dG ts:=fun r hr=>by
 unfold dG at hr;rw[List.map_append] at hr;rcases List.mem_append.1 hr with h|h
 ·exact List.mem_cons_of_mem _ h
 ·exact List.mem_cons.2 (.inl (by simpa using h))
theorem C9{w:World}{base b size:Nat}{T:TypeId}{cs:List Value}(hb:w.heap[b]?=some (.cells cs.toArray T (0,0)))(hl:cs.length=size)(hge:base≤b):w.ownsRow base T size (.slice (some ⟨b,0,none⟩) 1 1) 1 cs:=by
 refine⟨by simp[hl],.inr ⟨b,1,cs.toArray,rfl,hge,hb,Nat.le_refl _,by unfold maxLen;omega,by simp[hl],?_⟩⟩;rw[List.toList_toArray,←hl];simp
theorem Ke{α:Type}{f:α->List Value}{s:Nat}{w:World}{g cap:Nat}{l:List α}(hf:∀y∈l,(f y).length=s)(h:Rd w s (.slice (some ⟨g,0,none⟩) l.length cap) l.length (l.flatMap f)){k:Nat}{x:α}(hk:l[k]?=some x)(hs:0<s):w.rangeAt g (k*s) (f x):=by
 obtain⟨h0,a,cap,he,h1,h2,h3,h4⟩:=h;have hlt:=(List.getElem?_eq_some_iff.1 hk).1;obtain⟨g',o,rfl,hc⟩:=h4 (by rw[h0];exact Nat.mul_pos (by omega) hs);cases he
 intro j u hj;have hj5:j<s:=by have:=(List.getElem?_eq_some_iff.1 hj).1;rwa [hf x (List.mem_of_getElem? hk)] at this
 have h5:=mJ (f:=f) (k:=s) (l:=l) hf k hk j hj5;rw[hj] at h5;have:=hc (k*s+j) u h5
 rwa [Nat.zero_add] at this
structure jB(L:Nat->Prop)(w0 w:World)(m ga ca gb cb:Nat)(ts:List Rt):Prop where
 a:w.ownsRow w0.heap.size 26 35 (.slice (some ⟨ga,0,none⟩) m ca) m (zX ts)
 b:w.ownsRow w0.heap.size 61 64 (.slice (some ⟨gb,0,none⟩) m cb) m (wW ts)
 na:¬L ga
 nb:¬L gb
 ne:ga≠gb
section
variable {L L' T:Nat->Prop}{w0 w w':World}{m ga ca gb cb:Nat}{ts:List Rt}
theorem jB.keep(h:jB L w0 w m ga ca gb cb ts)(k:aA T w w')(ha:¬T ga)(hb:¬T gb):jB L w0 w' m ga ca gb cb ts:=
 ⟨k.owns h.a fun i e q=>by cases e;exact ha q,k.owns h.b fun i e q=>by cases e;exact hb q,h.na,h.nb,h.ne⟩
theorem jB.keep0(h:jB L w0 w m ga ca gb cb ts)(k:aA aB w w'):jB L w0 w' m ga ca gb cb ts:=h.keep k id id
theorem jB.lt(h:jB L w0 w m ga ca gb cb ts):ga<w.heap.size/\gb<w.heap.size:=by
 obtain⟨c1,h1⟩:=aN h.a (k:=ga) rfl;obtain⟨c2,h2⟩:=aN h.b (k:=gb) rfl;exact⟨lt_of_block h1,lt_of_block h2⟩
theorem jB.to(h:jB L w0 w m ga ca gb cb ts)(hL:∀k,k<w.heap.size->L' k->L k):jB L' w0 w m ga ca gb cb ts:=
 ⟨h.a,h.b,fun e=>h.na (hL _ h.lt.1 e),fun e=>h.nb (hL _ h.lt.2 e),h.ne⟩
theorem jB.ra(h:jB L w0 w m ga ca gb cb ts)(hm:ts.length=m)(hp:∀x∈ts,(aH x.v x.t.ptr).length=35){j:Nat}{x:Rt}(hj:ts[j]?=some x):w.rangeAt ga (j*35) (aH x.v x.t.ptr):=
 Ke (f:=fun x:Rt=>aH x.v x.t.ptr) hp (by rw[hm];exact Rd.of_owns h.a) hj (by omega)
theorem jB.rb(h:jB L w0 w m ga ca gb cb ts)(hm:ts.length=m){j:Nat}{x:Rt}(hj:ts[j]?=some x):w.rangeAt gb (j*64) (blC x.bl):=
 Ke (f:=fun x:Rt=>blC x.bl) (fun y _=>iB y.bl) (by rw[hm];exact Rd.of_owns h.b) hj (by omega)
end
section
variable {B0 B:Nat->Prop}{w0 w we w':World}{c:Nat}{S:Kor}{rs:List (Value×Pt)}{l:List (Nat×Array Value×TypeId)}
theorem Cs.grown(h:Cs B0 w0 c S B rs w l){g n ca:Nat}(hge:w0.heap.size≤g)(hn:¬LR B rs g)(hl:∀x∈l,x.1≠g)(ke:aA aB w we)(k:aA (fun k=>(Value.slice (some ⟨g,0,none⟩) n ca).ownBlock=some k) we w'):Cs B0 w0 c S B rs w' l:=by
 have h2:=h.keeps ke;have e:∀i,(Value.slice (some ⟨g,0,none⟩) n ca).ownBlock=some i->i=g:=fun i hi=>by cases hi;rfl
 refine⟨⟨h2.keep.trans' k (fun _ _ h=>h) (fun i hi q=>by have:=e i q;omega),h2.loc.ge,h2.loc.nd,fun x hx=>k.blk (h2.loc.at_ x hx) (fun q=>hl x hx (e _ q)),h2.loc.ap⟩,h2.ki.keepT k (fun i q hb=>hn (by rw[←e i q];exact .inl hb)),fun r hr=>(h2.pv r hr).keepT k (fun i hi q=>hn (by rw[←e i q];exact .inr ⟨r,hr,hi⟩)),h2.bb⟩
end
theorem Da:(Tryz.prog.info? 26).map (fun i=>(i.zero,i.size,i.bytes))=some (some (.agg aF.toArray),35,72):=by kernel_rfl
theorem Db:(Tryz.prog.info? 61).map (fun i=>(i.zero,i.size,i.bytes))=some (some (.agg zbl.toArray),64,64):=by kernel_rfl
theorem Ly(w:World):(Instr.build 61 #[]).run Tryz.prog w=.ok (.agg zbl.toArray) w:=by kernel_rfl
theorem yQ(W:World)(v:Value)(l:List EdV)(ho:∀y∈l,C7 y)(hr:Rd W 4 v l.length (BC l))(n:Int)(hn0:-9223372036854775808≤n)(hn1:n≤9223372036854775807):Calls Tryz.prog 6 #[v,.int .i64 n] W (BB W):=by
 obtain⟨oa,oc,rfl,hlc,hcm⟩:=hr.form;have hlm:l.length≤maxLen:=by omega
 unfold maxLen at hlm;obtain⟨N,hn⟩:∃n,l.length=n:=⟨_,rfl⟩
 have HN:=O hn;have HR:=O hr;have HOK:=O ho;have HNN:=O (And.intro hn0 hn1);rw[hn] at HR hlm ⊢;clear hr hn hlc hcm ho hn0 hn1;have hzp:(aH (.slice none 0 0) zPt).length=35:=rfl;have hzb:=fQ;obtain⟨zp,hzpe⟩:∃l,aH (.slice none 0 0) zPt=l:=⟨_,rfl⟩
 have HOZP:Hid (∀u∈zp,u.oneCell'=true):=O (by rw[←hzpe];exact bO zPt);have HZPE:=O hzpe;rw[hzpe] at hzp hzb;have HZB:=O hzb;clear hzpe hzb;go_enter Tryz.func6,Tryz.ntmps6;have HKW:=O (aA.refl aB W);go_wp2_with fail;refine((zW W)).mono ?_;rintro e w1 ⟨rfl,hk⟩;replace HKW:=O (HKW.out.trans hk);clear hk;go_wp2_with fail;refine((rZ w1 200 (by omega))).mono ?_;rintro e w2 ⟨c,M,B,rfl,hki,hB,hk⟩;have HBN:Hid (∀k,B k->W.heap.size≤k):=O (fun k h=>Nat.le_trans HKW.out.size (hB k h));replace HKW:=O (HKW.out.trans hk);have HL:=O (Cs.start hki);clear hki hB hk
 by_cases h30:40<N
 ·have hi:(40:Int)<(N:Int):=by omega
  have d1:decide ((40:Int)<(N:Int))=true:=decide_eq_true hi;go_wp2_with fail;go_ret;exact⟨rfl,HKW.out⟩
 ·have hi:¬(40:Int)<(N:Int):=by omega
  have d1:decide ((40:Int)<(N:Int))=false:=decide_eq_false hi
  go_wp2_with ((with_reducible show WL _ _);first
   | refine bld 26 #[] [] (.agg zp.toArray) HZB.out ?_
   | refine bsA 75 26 (.tmp 30) Tryz.underlying75 Da (by omega) (zp) hzp (by omega) ?_)
  intro b31 w3 hbs hk hb;replace HL:=O (HL.out.new trivial hbs hk hb);clear hbs hk hb
  go_wp2_with ((with_reducible show WL _ _);first
   | refine bld 61 #[] [] (.agg zbl.toArray) Ly ?_
   | refine bsA 76 61 (.tmp 32) Tryz.underlying76 Db (by omega) (zbl) iC (by omega) ?_)
  intro b33 w4 hbs hk hb;replace HL:=O (HL.out.new trivial hbs hk hb);clear hbs hk hb;go_wp2_with fail;have hN40:N≤40:=by omega
  have HROW:Hid (jB (LR B (dG [⟨.slice none 0 0,.hole,fun _=>0⟩])) w2 w4 1 b31 1 b33 1 [⟨.slice none 0 0,.hole,fun _=>0⟩]):=O (by
   have hz:∀k,LR B (dG [⟨.slice none 0 0,.hole,fun _=>0⟩]) k->LR B [] k:=fun k h=>h.elim .inl fun ⟨r,hr,e⟩=>by cases List.mem_singleton.1 hr;cases e
   refine⟨C9 (cs:=zX [_]) (by have h:=HL.out.b 1;rw[←HZPE.out] at h;exact h) rfl (HL.out.loc.lt 1).1,C9 (cs:=wW [_]) (by have h:=HL.out.b 0;rw[Lv] at h;exact(show blC (fun _=>0)=wW [⟨.slice none 0 0,.hole,fun _=>0⟩] from(List.append_nil _).symm)▸h) (by show (blC _++[]).length=64;rw[List.append_nil];exact iB _) (HL.out.loc.lt 0).1,fun e=>(HL.out.loc.aq 1) (hz _ e),fun e=>(HL.out.loc.aq 0) (hz _ e),HL.out.ne 0 1 (by decide) rfl rfl⟩)
  have HL0:Hid (Cs B w2 c (⟨2,200,2,[],M,0⟩:Kor) B (dG [⟨.slice none 0 0,.hole,fun _=>0⟩]) w4 []):=O (by
   have h:=HL.out.tail.tail;exact⟨⟨h.loc.keep,h.loc.ge,h.loc.nd,h.loc.at_,fun x hx hb=>(by cases hx)⟩,h.ki,fun r hr=>(by cases List.mem_singleton.1 hr;exact aJ.hole _ _),h.bb⟩)
  clear HL
  go_loopw [7,8,9] (fun s u i wr=>∃(k ga ca gb cb:Nat) (S:Kor) (B':Nat->Prop) (ts:List Rt),k≤N/\s=.slice (some ⟨ga,0,none⟩) (k+1) ca/\u=.slice (some ⟨gb,0,none⟩) (k+1) cb/\i=.int .i64 (k:Int)/\Hid (ts.length=k+1/\C8 S ts)/\Hid (Cs B w2 c S B' (dG ts) wr [])/\Hid (jB (LR B' (dG ts)) w2 wr (k+1) ga ca gb cb ts)) (fun _ _ i _=>N-(intOf i).toNat)
  case atStart=>exact⟨0,b31,1,b33,1,_,B,_,Nat.zero_le _,rfl,rfl,rfl,O ⟨rfl,fun x hx=>by cases List.mem_singleton.1 hx;exact⟨Tr.ok_hole _ 3,gJ.hole⟩⟩,HL0,HROW⟩
  case round =>
  clear HL0 HROW;obtain⟨k,ga,ca,gb,cb,S,B',ts,hk,rfl,rfl,rfl,HT,HL,HRW⟩:=hrel
  by_cases hlt:k<N
  ·have hki:(k:Int)<(N:Int):=by omega
   have hk0:(0:Int)≤(k:Int):=by omega
   obtain⟨x,hx⟩:∃x,l[k]?=some x:=⟨l[k]'(by rw[HN.out];exact hlt),List.getElem?_eq_getElem _⟩
   have HXO:=O (HOK.out x (List.mem_of_getElem? hx));have hr2:=HR.out;rw[←HN.out] at hr2;obtain⟨g,o,cap,hv,hc0⟩:=ME hr2 hx;rw[HN.out] at hv;have e1:oa=some ⟨g,o,none⟩:=by cases hv;rfl
   subst e1;have hgl:g<W.heap.size:=World.block_lt_of_cell? W _ (hc0 0 _ rfl);have HGW:Hid (∀i,B' i->i≠g):=O (fun i e h=>(HL.out.bb i e).elim (fun h2=>by have:=HBN.out i h2;omega) fun h2=>by have:=HKW.out.size;omega);have HX:=O ((HL.out.fin HBN.out HKW.out).rangeAt2 hc0 id);obtain⟨ec,hece⟩:∃q,kR x=q:=⟨_,rfl⟩
   have HEC:=O hece;have hec:ec.length=4:=by rw[←hece];rfl
   rw[hece] at HX;obtain⟨z,hz⟩:∃z,ts[k]?=some z:=⟨ts[k]'(by rw[HT.out.1];omega),List.getElem?_eq_getElem _⟩
   have hzm:=List.mem_of_getElem? hz;have HTZ:=O (HT.out.2 z hzm);have HPZ:=O (List.mem_map.2 ⟨z,hzm,rfl⟩:(z.v,z.t.ptr)∈dG ts);have HXA:=O (HRW.out.ra HT.out.1 (fun x hx=>aL (HL.out.pv _ (List.mem_map.2 ⟨x,hx,rfl⟩)).pt.sum) hz);have HXB:=O (HRW.out.rb HT.out.1 hz);obtain⟨v,t,bl⟩:=z;dsimp only at HTZ HPZ HXA HXB;obtain⟨pc,HPC,hpc,HOP⟩:=nmP (HL.out.pv _ HPZ.out);obtain⟨bc,HBC,hbc,HOBC⟩:=uC bl;rw[HPC.out] at HXA;rw[HBC.out] at HXB;obtain⟨rr,hrr⟩:∃r,edR S t x=r:=⟨_,rfl⟩
   obtain⟨r,T⟩:=rr;have HED:=O hrr;have HEO:=O (Mz HL.out.ki.bd HTZ.out.1 HTZ.out.2 hrr);obtain⟨dc,HDC,hdc,HODC⟩:=uC (edB x bl);obtain⟨rs,hrs⟩:∃b,r.isSome=b:=⟨_,rfl⟩
   have HRS:=O hrs;have HGL:=O HRW.out.lt;clear hece hrr hx hr2 hv hc0 hgl hrs hz hzm;go_wp2_with fail;apply CT (R:=fun(b11:Nat) (b12:Nat) (rc:List Value) w'=>Hid (∃v2 B2,aH v2 (cI r)=rc/\Cs B w2 c T B2 ((v2,cI r)::dG ts) w' [(b12,dc.toArray,61),(b11,rc.toArray,26)]/\aA B' wr w'/\wr.heap.size≤b11/\wr.heap.size≤b12/\∀k,k<wr.heap.size->LR B2 ((v2,cI r)::dG ts) k->LR B' (dG ts) k))
   case h =>
    refine jG (B') HL (by kernel_rfl) ?_;intro w5 SW HSE HSI hkd HL;replace HX:=O (hkd.rangeAt2 HX.out id);replace HXA:=O (hkd.rangeAt2 HXA.out id);replace HXB:=O (hkd.rangeAt2 HXB.out id);have HKD:=O hkd;clear hkd;have HLs:=HL;have HXs:=HX;have HXAs:=HXA;have HXBs:=HXB;refine tna 0 (.pointer (some ⟨c,0,none⟩)) rfl (sD9 HSI HL) ?_;refine tna 1 (.slice (some ⟨ga,0,none⟩) (k+1) ca) rfl (sD9 HSI HL) ?_;refine tna 2 (.int .i64 (k:Int)) rfl (sD9 HSI HL) ?_;refine tnd 3 (.pointer (some ⟨ga,k*35,none⟩)) rfl (.inl ⟨by rfl,fun _ _=>by have hq:¬((k:Int)+1≤(k:Int)):=(by omega);go_simp⟩) (sD9 HSI HL) ?_;refine tnd 4 (.agg pc.toArray) rfl (ldD 26 (.tmp 47) ga (k*35) pc _ (fun w' h=>(HSE.out w' h).rangeAt2 HXAs.out (fun e=>HRW.out.na (.inl e))) aG (szP9 hpc)) (sD9 HSI HL) ?_;refine tna 5 (.slice (some ⟨gb,0,none⟩) (k+1) cb) rfl (sD9 HSI HL) ?_;refine tna 6 (.int .i64 (k:Int)) rfl (sD9 HSI HL) ?_;refine tnd 7 (.pointer (some ⟨gb,k*64,none⟩)) rfl (.inl ⟨by rfl,fun _ _=>by have hq:¬((k:Int)+1≤(k:Int)):=(by omega);go_simp⟩) (sD9 HSI HL) ?_;refine tnd 8 (.agg bc.toArray) rfl (ldD 61 (.tmp 51) gb (k*64) bc _ (fun w' h=>(HSE.out w' h).rangeAt2 HXBs.out (fun e=>HRW.out.nb (.inl e))) Tryz.underlying61 (by rw[hbc];exact gH)) (sD9 HSI HL) ?_;refine tna 9 (.slice (some ⟨g,o,none⟩) N oc) rfl (sD9 HSI HL) ?_;refine tna 10 (.int .i64 (k:Int)) rfl (sD9 HSI HL) ?_;refine tnb 11 (.pointer (some ⟨g,o+k*4,none⟩)) rfl (sD9 HSI HL) ?_;refine tnd 12 (.agg ec.toArray) rfl (ldD 65 (.tmp 55) g (o+k*4) ec _ (fun w' h=>(HSE.out w' h).rangeAt2 HXs.out (fun e=>HGW.out _ e rfl)) MB (by rw[hec];exact L9)) (sD9 HSI HL) ?_;refine C4 13 19 20 rfl rfl rfl (by kernel_rfl) ?_ ?_ ?_
    ·go_wp2_with fail
     have hsz9:=Nat.le_trans HKD.out.size HL.out.dr.size;refine((by rw[←HPC.out,←HBC.out,←HEC.out];have h:=lD HL.out.ki v t HTZ.out.1 (HL.out.pv _ HPZ.out) bl x HXO.out;rw[HED.out] at h;exact h:Calls _ _ _ w5 (kD w5 c B' r T (edB x bl)))).mono ?_;rintro e w6 ⟨v2,B2,rfl,hpv,hki2,hbb,hnw,hk2⟩
     have HLR:Hid (∀k,k<wr.heap.size->LR B2 ((v2,cI r)::dG ts) k->LR B' (dG ts) k):=O (fun k hk h=>by
      rcases h with h|⟨q,hq,h⟩
      ·exact(hbb k h).elim .inl fun e=>by omega
      ·rcases List.mem_cons.1 hq with rfl|hq
       ·have:=hnw k h;omega
       ·exact .inr ⟨q,hq,h⟩)
     replace HL:=O (HL.out.laid (fun _ _ e=>e) hpv hki2 hbb hnw hk2);obtain⟨rc,HRC,hrc,HORC⟩:=nmP hpv;rw[HRC.out,HDC.out,HRS.out];clear hpv hki2 hbb hnw hk2 hsz9;go_wp2_with fail;refine⟨HSI.out _ HL.out.dr,?_⟩;refine tna 14 (.tuple #[.agg rc.toArray,.agg dc.toArray,.bool rs,.bool true]) rfl (sD9 HSI HL) ?_;refine tnb 15 (.agg rc.toArray) rfl (sD9 HSI HL) ?_;refine tnb 16 (.agg dc.toArray) rfl (sD9 HSI HL) ?_;refine tnb 17 (.bool rs) rfl (sD9 HSI HL) ?_;refine tnb 18 (.bool true) rfl (sD9 HSI HL) ?_;refine cS (k:=19) (l:=20) rfl rfl (by kernel_rfl) ?_ ?_
     ·refine alD HL HSI 26 (.agg aF.toArray) (aF.toArray) aQ ?_
      intro b11 w7 hb11 hk HL;clear hk;refine wA9 20 ?_;refine alD HL HSI 61 (.agg zbl.toArray) (zbl.toArray) zV ?_;intro b12 w8 hb12 hk HL;clear hk;refine wA9 21 ?_;refine stD HL HSI 1 rfl 26 (.tmp 11) (.tmp 58) rc (.inl hb11) (by first|rfl|simp[hrc,aE]) (szP9 hrc) HORC.out ?_;intro w9 HL;refine wA9 22 ?_;refine stD HL HSI 0 rfl 61 (.tmp 12) (.tmp 59) dc (.inl hb12) (by first|rfl|simp[hdc,iC]) (by rw[hdc];exact gH) HODC.out ?_;intro wa HL;refine tna 23 (.bool rs) rfl (sD9 HSI HL) ?_;refine tna 24 (.bool true) rfl (sD9 HSI HL) ?_;refine wpAnyH_done (by kernel_rfl) ?_ _;refine noP ?_;exact⟨rfl,b11,b12,rc,rfl,O ⟨v2,B2,HRC.out,HL.out.toCs,HKD.out.any.trans HL.out.dr,Nat.le_trans HKD.out.size hb11,Nat.le_trans HKD.out.size hb12,HLR.out⟩⟩
     ·refine alD HL HSI 61 (.agg zbl.toArray) (zbl.toArray) zV ?_
      intro b12 w7 hb12 hk HL;clear hk;refine wA9 19 ?_;refine alD HL HSI 26 (.agg aF.toArray) (aF.toArray) aQ ?_;intro b11 w8 hb11 hk HL;clear hk;refine wA9 21 ?_;refine stD HL HSI 0 rfl 26 (.tmp 11) (.tmp 58) rc (.inl hb11) (by first|rfl|simp[hrc,aE]) (szP9 hrc) HORC.out ?_;intro w9 HL;refine wA9 22 ?_;refine stD HL HSI 1 rfl 61 (.tmp 12) (.tmp 59) dc (.inl hb12) (by first|rfl|simp[hdc,iC]) (by rw[hdc];exact gH) HODC.out ?_;intro wa HL;refine tna 23 (.bool rs) rfl (sD9 HSI HL) ?_;refine tna 24 (.bool true) rfl (sD9 HSI HL) ?_;refine wpAnyH_done (by kernel_rfl) ?_ _;refine noP ?_;exact⟨rfl,b11,b12,rc,rfl,O ⟨v2,B2,HRC.out,HL.out.toCs.swap,HKD.out.any.trans HL.out.dr,Nat.le_trans HKD.out.size hb11,Nat.le_trans HKD.out.size hb12,HLR.out⟩⟩
    ·refine alD HL HSI 26 (.agg aF.toArray) (aF.toArray) aQ ?_
     intro b11 w6 hb11 hk HL;replace HX:=O (hk.rangeAt2 HX.out id);replace HXA:=O (hk.rangeAt2 HXA.out id);replace HXB:=O (hk.rangeAt2 HXB.out id);clear hk;refine cS (k:=13) (l:=20) rfl rfl (by kernel_rfl) ?_ ?_
     ·go_wp2_with fail
      have hsz9:=Nat.le_trans HKD.out.size HL.out.dr.size;refine((by rw[←HPC.out,←HBC.out,←HEC.out];have h:=lD HL.out.ki v t HTZ.out.1 (HL.out.pv _ HPZ.out) bl x HXO.out;rw[HED.out] at h;exact h:Calls _ _ _ w6 (kD w6 c B' r T (edB x bl)))).mono ?_;rintro e w7 ⟨v2,B2,rfl,hpv,hki2,hbb,hnw,hk2⟩
      have HLR:Hid (∀k,k<wr.heap.size->LR B2 ((v2,cI r)::dG ts) k->LR B' (dG ts) k):=O (fun k hk h=>by
       rcases h with h|⟨q,hq,h⟩
       ·exact(hbb k h).elim .inl fun e=>by omega
       ·rcases List.mem_cons.1 hq with rfl|hq
        ·have:=hnw k h;omega
        ·exact .inr ⟨q,hq,h⟩)
      replace HL:=O (HL.out.laid (fun _ _ e=>e) hpv hki2 hbb hnw hk2);obtain⟨rc,HRC,hrc,HORC⟩:=nmP hpv;rw[HRC.out,HDC.out,HRS.out];clear hpv hki2 hbb hnw hk2 hsz9;go_wp2_with fail;refine⟨HSI.out _ HL.out.dr,?_⟩;refine tna 14 (.tuple #[.agg rc.toArray,.agg dc.toArray,.bool rs,.bool true]) rfl (sD9 HSI HL) ?_;refine tnb 15 (.agg rc.toArray) rfl (sD9 HSI HL) ?_;refine tnb 16 (.agg dc.toArray) rfl (sD9 HSI HL) ?_;refine tnb 17 (.bool rs) rfl (sD9 HSI HL) ?_;refine tnb 18 (.bool true) rfl (sD9 HSI HL) ?_;refine wA9 20 ?_;refine alD HL HSI 61 (.agg zbl.toArray) (zbl.toArray) zV ?_;intro b12 w8 hb12 hk HL;clear hk;refine wA9 21 ?_;refine stD HL HSI 1 rfl 26 (.tmp 11) (.tmp 58) rc (.inl hb11) (by first|rfl|simp[hrc,aE]) (szP9 hrc) HORC.out ?_;intro w9 HL;refine wA9 22 ?_;refine stD HL HSI 0 rfl 61 (.tmp 12) (.tmp 59) dc (.inl hb12) (by first|rfl|simp[hdc,iC]) (by rw[hdc];exact gH) HODC.out ?_;intro wa HL;refine tna 23 (.bool rs) rfl (sD9 HSI HL) ?_;refine tna 24 (.bool true) rfl (sD9 HSI HL) ?_;refine wpAnyH_done (by kernel_rfl) ?_ _;refine noP ?_;exact⟨rfl,b11,b12,rc,rfl,O ⟨v2,B2,HRC.out,HL.out.toCs,HKD.out.any.trans HL.out.dr,Nat.le_trans HKD.out.size hb11,Nat.le_trans HKD.out.size hb12,HLR.out⟩⟩
     ·refine alD HL HSI 61 (.agg zbl.toArray) (zbl.toArray) zV ?_
      intro b12 w7 hb12 hk HL;replace HX:=O (hk.rangeAt2 HX.out id);replace HXA:=O (hk.rangeAt2 HXA.out id);replace HXB:=O (hk.rangeAt2 HXB.out id);clear hk;refine wA9 13 ?_;go_wp2_with fail;have hsz9:=Nat.le_trans HKD.out.size HL.out.dr.size;refine((by rw[←HPC.out,←HBC.out,←HEC.out];have h:=lD HL.out.ki v t HTZ.out.1 (HL.out.pv _ HPZ.out) bl x HXO.out;rw[HED.out] at h;exact h:Calls _ _ _ w7 (kD w7 c B' r T (edB x bl)))).mono ?_;rintro e w8 ⟨v2,B2,rfl,hpv,hki2,hbb,hnw,hk2⟩
      have HLR:Hid (∀k,k<wr.heap.size->LR B2 ((v2,cI r)::dG ts) k->LR B' (dG ts) k):=O (fun k hk h=>by
       rcases h with h|⟨q,hq,h⟩
       ·exact(hbb k h).elim .inl fun e=>by omega
       ·rcases List.mem_cons.1 hq with rfl|hq
        ·have:=hnw k h;omega
        ·exact .inr ⟨q,hq,h⟩)
      replace HL:=O (HL.out.laid (fun _ _ e=>e) hpv hki2 hbb hnw hk2);obtain⟨rc,HRC,hrc,HORC⟩:=nmP hpv;rw[HRC.out,HDC.out,HRS.out];clear hpv hki2 hbb hnw hk2 hsz9;go_wp2_with fail;refine⟨HSI.out _ HL.out.dr,?_⟩;refine tna 14 (.tuple #[.agg rc.toArray,.agg dc.toArray,.bool rs,.bool true]) rfl (sD9 HSI HL) ?_;refine tnb 15 (.agg rc.toArray) rfl (sD9 HSI HL) ?_;refine tnb 16 (.agg dc.toArray) rfl (sD9 HSI HL) ?_;refine tnb 17 (.bool rs) rfl (sD9 HSI HL) ?_;refine tnb 18 (.bool true) rfl (sD9 HSI HL) ?_;refine wA9 21 ?_;refine stD HL HSI 1 rfl 26 (.tmp 11) (.tmp 58) rc (.inl hb11) (by first|rfl|simp[hrc,aE]) (szP9 hrc) HORC.out ?_;intro w9 HL;refine wA9 22 ?_;refine stD HL HSI 0 rfl 61 (.tmp 12) (.tmp 59) dc (.inl hb12) (by first|rfl|simp[hdc,iC]) (by rw[hdc];exact gH) HODC.out ?_;intro wa HL;refine tna 23 (.bool rs) rfl (sD9 HSI HL) ?_;refine tna 24 (.bool true) rfl (sD9 HSI HL) ?_;refine wpAnyH_done (by kernel_rfl) ?_ _;refine noP ?_;exact⟨rfl,b11,b12,rc,rfl,O ⟨v2,B2,HRC.out,HL.out.toCs,HKD.out.any.trans HL.out.dr,Nat.le_trans HKD.out.size hb11,Nat.le_trans HKD.out.size hb12,HLR.out⟩⟩
    ·refine alD HL HSI 61 (.agg zbl.toArray) (zbl.toArray) zV ?_
     intro b12 w6 hb12 hk HL;replace HX:=O (hk.rangeAt2 HX.out id);replace HXA:=O (hk.rangeAt2 HXA.out id);replace HXB:=O (hk.rangeAt2 HXB.out id);clear hk;refine cS (k:=13) (l:=19) rfl rfl (by kernel_rfl) ?_ ?_
     ·go_wp2_with fail
      have hsz9:=Nat.le_trans HKD.out.size HL.out.dr.size;refine((by rw[←HPC.out,←HBC.out,←HEC.out];have h:=lD HL.out.ki v t HTZ.out.1 (HL.out.pv _ HPZ.out) bl x HXO.out;rw[HED.out] at h;exact h:Calls _ _ _ w6 (kD w6 c B' r T (edB x bl)))).mono ?_;rintro e w7 ⟨v2,B2,rfl,hpv,hki2,hbb,hnw,hk2⟩
      have HLR:Hid (∀k,k<wr.heap.size->LR B2 ((v2,cI r)::dG ts) k->LR B' (dG ts) k):=O (fun k hk h=>by
       rcases h with h|⟨q,hq,h⟩
       ·exact(hbb k h).elim .inl fun e=>by omega
       ·rcases List.mem_cons.1 hq with rfl|hq
        ·have:=hnw k h;omega
        ·exact .inr ⟨q,hq,h⟩)
      replace HL:=O (HL.out.laid (fun _ _ e=>e) hpv hki2 hbb hnw hk2);obtain⟨rc,HRC,hrc,HORC⟩:=nmP hpv;rw[HRC.out,HDC.out,HRS.out];clear hpv hki2 hbb hnw hk2 hsz9;go_wp2_with fail;refine⟨HSI.out _ HL.out.dr,?_⟩;refine tna 14 (.tuple #[.agg rc.toArray,.agg dc.toArray,.bool rs,.bool true]) rfl (sD9 HSI HL) ?_;refine tnb 15 (.agg rc.toArray) rfl (sD9 HSI HL) ?_;refine tnb 16 (.agg dc.toArray) rfl (sD9 HSI HL) ?_;refine tnb 17 (.bool rs) rfl (sD9 HSI HL) ?_;refine tnb 18 (.bool true) rfl (sD9 HSI HL) ?_;refine wA9 19 ?_;refine alD HL HSI 26 (.agg aF.toArray) (aF.toArray) aQ ?_;intro b11 w8 hb11 hk HL;clear hk;refine wA9 21 ?_;refine stD HL HSI 0 rfl 26 (.tmp 11) (.tmp 58) rc (.inl hb11) (by first|rfl|simp[hrc,aE]) (szP9 hrc) HORC.out ?_;intro w9 HL;refine wA9 22 ?_;refine stD HL HSI 1 rfl 61 (.tmp 12) (.tmp 59) dc (.inl hb12) (by first|rfl|simp[hdc,iC]) (by rw[hdc];exact gH) HODC.out ?_;intro wa HL;refine tna 23 (.bool rs) rfl (sD9 HSI HL) ?_;refine tna 24 (.bool true) rfl (sD9 HSI HL) ?_;refine wpAnyH_done (by kernel_rfl) ?_ _;refine noP ?_;exact⟨rfl,b11,b12,rc,rfl,O ⟨v2,B2,HRC.out,HL.out.toCs.swap,HKD.out.any.trans HL.out.dr,Nat.le_trans HKD.out.size hb11,Nat.le_trans HKD.out.size hb12,HLR.out⟩⟩
     ·refine alD HL HSI 26 (.agg aF.toArray) (aF.toArray) aQ ?_
      intro b11 w7 hb11 hk HL;replace HX:=O (hk.rangeAt2 HX.out id);replace HXA:=O (hk.rangeAt2 HXA.out id);replace HXB:=O (hk.rangeAt2 HXB.out id);clear hk;refine wA9 13 ?_;go_wp2_with fail;have hsz9:=Nat.le_trans HKD.out.size HL.out.dr.size;refine((by rw[←HPC.out,←HBC.out,←HEC.out];have h:=lD HL.out.ki v t HTZ.out.1 (HL.out.pv _ HPZ.out) bl x HXO.out;rw[HED.out] at h;exact h:Calls _ _ _ w7 (kD w7 c B' r T (edB x bl)))).mono ?_;rintro e w8 ⟨v2,B2,rfl,hpv,hki2,hbb,hnw,hk2⟩
      have HLR:Hid (∀k,k<wr.heap.size->LR B2 ((v2,cI r)::dG ts) k->LR B' (dG ts) k):=O (fun k hk h=>by
       rcases h with h|⟨q,hq,h⟩
       ·exact(hbb k h).elim .inl fun e=>by omega
       ·rcases List.mem_cons.1 hq with rfl|hq
        ·have:=hnw k h;omega
        ·exact .inr ⟨q,hq,h⟩)
      replace HL:=O (HL.out.laid (fun _ _ e=>e) hpv hki2 hbb hnw hk2);obtain⟨rc,HRC,hrc,HORC⟩:=nmP hpv;rw[HRC.out,HDC.out,HRS.out];clear hpv hki2 hbb hnw hk2 hsz9;go_wp2_with fail;refine⟨HSI.out _ HL.out.dr,?_⟩;refine tna 14 (.tuple #[.agg rc.toArray,.agg dc.toArray,.bool rs,.bool true]) rfl (sD9 HSI HL) ?_;refine tnb 15 (.agg rc.toArray) rfl (sD9 HSI HL) ?_;refine tnb 16 (.agg dc.toArray) rfl (sD9 HSI HL) ?_;refine tnb 17 (.bool rs) rfl (sD9 HSI HL) ?_;refine tnb 18 (.bool true) rfl (sD9 HSI HL) ?_;refine wA9 21 ?_;refine stD HL HSI 0 rfl 26 (.tmp 11) (.tmp 58) rc (.inl hb11) (by first|rfl|simp[hrc,aE]) (szP9 hrc) HORC.out ?_;intro w9 HL;refine wA9 22 ?_;refine stD HL HSI 1 rfl 61 (.tmp 12) (.tmp 59) dc (.inl hb12) (by first|rfl|simp[hdc,iC]) (by rw[hdc];exact gH) HODC.out ?_;intro wa HL;refine tna 23 (.bool rs) rfl (sD9 HSI HL) ?_;refine tna 24 (.bool true) rfl (sD9 HSI HL) ?_;refine wpAnyH_done (by kernel_rfl) ?_ _;refine noP ?_;exact⟨rfl,b11,b12,rc,rfl,O ⟨v2,B2,HRC.out,HL.out.toCs.swap,HKD.out.any.trans HL.out.dr,Nat.le_trans HKD.out.size hb11,Nat.le_trans HKD.out.size hb12,HLR.out⟩⟩
   case hR =>
    rintro b11 b12 rc wb HF;obtain⟨v2,B2,hcs,hl,hkk,hb11,hb12,hlr⟩:=HF.out;replace HL:=O hl;have HRC:=O hcs;have hrc:rc.length=35:=by rw[←hcs];exact aL (HL.out.pv0 0).pt.sum
    have HORC:Hid (∀u∈rc,u.oneCell'=true):=O (by rw[←hcs];exact bD (HL.out.pv0 0).pt);replace HRW:=O ((HRW.out.to hlr).keep hkk (fun e=>HRW.out.na (.inl e)) (fun e=>HRW.out.nb (.inl e)));have HB1:=O (And.intro hb11 hb12);replace HT:Hid (ts.length=k+1/\C8 T ts):=O ⟨HT.out.1,HT.out.2.ext HEO.out.1.ext⟩;have HMM:Hid (∀r0,r0∈dG ts->r0∈(v2,cI r)::dG ts):=O (fun r0 h=>List.mem_cons_of_mem _ h);clear hcs hl HF HX HXA HXB hkk hb11 hb12 hlr;cases rs with
    | false =>
      have hm0:=Int.emod_nonneg n (show ((k:Int)+1)≠0 by omega);have hm1:=Int.emod_lt_of_pos n (show (0:Int)<(k:Int)+1 by omega);obtain⟨j,hj⟩:∃j:Nat,n % ((k:Int)+1)=(j:Int):=⟨(n % ((k:Int)+1)).toNat,by omega⟩
      have HJ:=O hj;have hj1:j<k+1:=by omega
      have hj2:(j:Int)<(k:Int)+1:=by omega
      have hj0:(0:Int)≤(j:Int):=by omega
      obtain⟨z,hz⟩:∃z,ts[j]?=some z:=⟨ts[j]'(by rw[HT.out.1];exact hj1),List.getElem?_eq_getElem _⟩
      have hzm:=List.mem_of_getElem? hz;have HTZ:=O (HT.out.2 z hzm);have HPZ:=O (List.mem_map.2 ⟨z,hzm,rfl⟩:(z.v,z.t.ptr)∈dG ts);have HRA:=O (HRW.out.ra HT.out.1 (fun x hx=>aL (HL.out.pv _ (HMM.out _ (List.mem_map.2 ⟨x,hx,rfl⟩))).pt.sum) hz);have HRB:=O (HRW.out.rb HT.out.1 hz);have HGA:=O (fun(e:B2 ga)=>HRW.out.na (.inl e));have HGB:=O (fun(e:B2 gb)=>HRW.out.nb (.inl e));obtain⟨zc,HZC,hzc,HOZC⟩:=nmP (HL.out.pv _ (HMM.out _ HPZ.out));obtain⟨yc,HYC,hyc,HOYC⟩:=uC z.bl;rw[HZC.out] at HRA;rw[HYC.out] at HRB;clear hm0 hm1 hj hz hzm;go_wp2_with fail;refine(rJ wb n ((k:Int)+1) (by omega) (by omega) HNN.out.1 HNN.out.2).mono ?_;rintro e wc ⟨rfl,rfl⟩;rw[HJ.out];go_wp2_with fail;refine jG B2 HL (by kernel_rfl) ?_;intro wd SW HSE HSI hkd HL;replace HRA:=O (hkd.rangeAt2 HRA.out id);replace HRB:=O (hkd.rangeAt2 HRB.out id);clear hkd;have HLs:=HL;have HRAs:=HRA;have HRBs:=HRB;refine tna 0 (.bool true) rfl (sD9 HSI HL) ?_;refine tna 1 (.bool true) rfl (sD9 HSI HL) ?_;refine tna 2 (.pointer (some ⟨c,0,none⟩)) rfl (sD9 HSI HL) ?_;refine tna 3 (.slice (some ⟨ga,0,none⟩) (k+1) ca) rfl (sD9 HSI HL) ?_;refine tna 4 (.int .i64 (j:Int)) rfl (sD9 HSI HL) ?_;refine tnd 5 (.pointer (some ⟨ga,j*35,none⟩)) rfl (.inl ⟨by rfl,fun _ _=>by have hq:¬((k:Int)+1≤(j:Int)):=(by omega);go_simp⟩) (sD9 HSI HL) ?_;refine tnd 6 (.agg zc.toArray) rfl (ldD 26 (.tmp 88) ga (j*35) zc _ (fun w' h=>(HSE.out w' h).rangeAt2 HRAs.out HGA.out) aG (szP9 hzc)) (sD9 HSI HL) ?_;refine tna 7 (.slice (some ⟨gb,0,none⟩) (k+1) cb) rfl (sD9 HSI HL) ?_;refine tna 8 (.int .i64 (j:Int)) rfl (sD9 HSI HL) ?_;refine tnd 9 (.pointer (some ⟨gb,j*64,none⟩)) rfl (.inl ⟨by rfl,fun _ _=>by have hq:¬((k:Int)+1≤(j:Int)):=(by omega);go_simp⟩) (sD9 HSI HL) ?_;refine tnd 10 (.agg yc.toArray) rfl (ldD 61 (.tmp 92) gb (j*64) yc _ (fun w' h=>(HSE.out w' h).rangeAt2 HRBs.out HGB.out) Tryz.underlying61 (by rw[hyc];exact gH)) (sD9 HSI HL) ?_;refine wA9 11 ?_;go_wp2_with fail;refine((by rw[←HZC.out,←HYC.out];exact qB HL.out.ki z.v z.t HTZ.out.1 (HL.out.pv _ (HMM.out _ HPZ.out)) z.bl HTZ.out.2:Calls _ _ _ wd (aT wd true))).mono ?_;rintro e we ⟨rfl,hk9⟩;replace HL:=O (HL.out.keeps hk9);clear hk9;go_wp2_with fail;refine⟨HSI.out _ HL.out.dr,?_⟩;refine tna 12 (.bool true) rfl (sD9 HSI HL) ?_;refine tna 13 (.bool true) rfl (sD9 HSI HL) ?_;refine wpAnyH_done (by kernel_rfl) ?_ _;refine noP ?_;have HP:=O (HL.out.fin HBN.out HKW.out);clear HL HLs HSE HSI;go_wp2_with fail;go_ret;exact⟨rfl,HP.out⟩
    | true =>
      obtain⟨u,hu⟩:=Option.isSome_iff_exists.1 HRS.out;have HO:Hid (Tr.Ok T 3 u/\gJ u (edB x bl)):=O (HEO.out.2 u hu);have HRC2:Hid (aH v2 u.ptr=rc):=O (by rw[hu] at HRC;exact HRC.out);replace HL:=O (by rw[hu] at HL;exact HL.out);replace HRW:=O (by rw[hu] at HRW;exact HRW.out);replace HRW:Hid (jB (LR B2 ((v2,u.ptr)::dG ts)) w2 wb (k+1) ga ca gb cb ts):=HRW;replace HL:Hid (Cs B w2 c T B2 ((v2,u.ptr)::dG ts) wb [(b12,dc.toArray,61),(b11,rc.toArray,26)]):=HL;clear HRC HRS HED hu HMM HEO
      go_wp2_with ((with_reducible show WL _ _);first
       | refine wpList_load_mid rfl 26 (.tmp 11) rfl b11 0 rfl rc _ (aC (HL.out.b 1)) aG rfl (szP9 hrc) ?_
       | refine wpList_load_mid rfl 61 (.tmp 12) rfl b12 0 rfl dc _ (aC (HL.out.b 0)) Tryz.underlying61 rfl (by rw[hdc];exact gH) ?_)
      refine((by rw[←HRC2.out,←HDC.out];exact qB HL.out.ki v2 u HO.out.1 (HL.out.pv0 0) (edB x bl) HO.out.2:Calls _ _ _ wb (aT wb true))).mono ?_;rintro e wc ⟨rfl,hk⟩;replace HL:=O (HL.out.keeps hk);replace HRW:=O (HRW.out.keep0 hk);clear hk;have hsz0:=HL.out.keep.size;have HRA:=O HRW.out.a;have hk40:k<40:=by omega
      obtain⟨we,hwe,hke,hbe,-⟩:=aV wc rc.toArray 26;obtain⟨bx,hbx⟩:∃x,wc.heap.size=x:=⟨_,rfl⟩
      rw[hbx] at hbe;have HRN:Hid (Rd we 35 (.slice (some ⟨bx,0,none⟩) 1 1) 1 rc):=O (dL (n:=1) (size:=35) hbe (by rw[hrc]) (by unfold maxLen;omega));have HO_:=O (hke.owns HRA.out fun _ _=>id);have hsz_:=hke.size;have HKE:=O hke;have HBX:=O hbx;clear hbe hke
      go_wp2_with (first
       | ((with_reducible show WL (some 72) (.load 26 _));refine wpList_load_mid rfl 26 (.tmp 11) rfl b11 0 rfl rc _ (aC (HL.out.b 1)) aG rfl (szP9 hrc) ?_)
       | ((with_reducible show WL _ (.buildSlice _ 1 _));refine bQ rfl 75 26 (.tmp 72) rfl Tryz.underlying75 Da (by decide) rc hrc (by decide) rfl ?_;rw[hwe,hbx])
       | (at_builtin;refine aM rfl (.tmp 71) (.tmp 73) 75 rfl w2.heap.size 26 (.agg aF.toArray) 35 72 Tryz.underlying75 Da rfl (by decide) (.slice (some ⟨ga,0,none⟩) (k+1) ca) (k+1) (zX ts) rfl HO_.out (.slice (some ⟨bx,0,none⟩) 1 1) 1 rc rfl HRN.out HORC.out (by unfold maxLen;omega) (by omega) (by omega) ?_))
      intro v2 wp8 ho5 hk5 hn5 hb5;obtain⟨gp,cp,rfl⟩:=ownsRow_succ ho5;clear hwe hbx hn5 HRN HO_;have HGE:=O (And.intro (bA HRW.out.a (k:=ga) rfl) (bA HRW.out.b (k:=gb) rfl));have HNga:=O HRW.out.na;have HNgb:=O HRW.out.nb;have HNE:=O HRW.out.ne;have HLT:=O HRW.out.lt;have HO5:=O ho5;have HLc:=HL
      replace HL:=O (HL.out.grown HGE.out.1 HNga.out (fun x hx q=>by
       have h1:=HGL.out;have h2:=HB1.out;rcases List.mem_cons.1 hx with rfl|hx
       ·dsimp only at q;omega
       ·cases List.mem_singleton.1 hx;dsimp only at q;omega) HKE.out hk5)
      have hg9:gp=ga\/wc.heap.size≤gp:=hb5.elim (fun e=>.inl (by cases e;rfl)) (fun e=>.inr (by cases e;exact hsz_));have HNgp:Hid (¬LR B2 ((v2,u.ptr)::dG ts) gp):=O (fun h=>hg9.elim (fun e=>HNga.out (by rw[←e];exact h)) fun e=>by have:=HLc.out.lt_ h;omega);have HNPB:Hid (gp≠gb):=O (fun e=>hg9.elim (fun h=>HNE.out (by rw[←h];exact e)) fun h=>by have:=HLT.out;omega);have HRB:=O (hk5.owns (HKE.out.owns HRW.out.b fun _ _=>id) (fun i e q=>HNE.out (by cases e;cases q;rfl)));have HPL:=O (show gp<wp8.heap.size from by obtain⟨c9,h9⟩:=aN HO5.out (k:=gp) rfl;exact lt_of_block h9);have HOA:=HO5;have hsz1:=HL.out.keep.size;clear ho5 hk5 hb5 hsz_ HKE HBX HO5 HLc hg9 HRW HRA hsz0;obtain⟨wf,hwe,hke,hbe,-⟩:=aV wp8 dc.toArray 61;obtain⟨bx,hbx⟩:∃x,wp8.heap.size=x:=⟨_,rfl⟩
      rw[hbx] at hbe;have HRN:Hid (Rd wf 64 (.slice (some ⟨bx,0,none⟩) 1 1) 1 dc):=O (dL (n:=1) (size:=64) hbe (by rw[hdc]) (by unfold maxLen;omega));have HO_:=O (hke.owns HRB.out fun _ _=>id);have hsz_:=hke.size;have HKE:=O hke;have HBX:=O hbx;clear hbe hke
      go_wp2_with (first
       | ((with_reducible show WL (some 76) (.load 61 _));refine wpList_load_mid rfl 61 (.tmp 12) rfl b12 0 rfl dc _ (aC (HL.out.b 0)) Tryz.underlying61 rfl (by rw[hdc];exact gH) ?_)
       | ((with_reducible show WL _ (.buildSlice _ 1 _));refine bQ rfl 76 61 (.tmp 76) rfl Tryz.underlying76 Db (by decide) dc hdc (by decide) rfl ?_;rw[hwe,hbx])
       | (at_builtin;refine aM rfl (.tmp 75) (.tmp 77) 76 rfl w2.heap.size 61 (.agg zbl.toArray) 64 64 Tryz.underlying76 Db rfl (by decide) (.slice (some ⟨gb,0,none⟩) (k+1) cb) (k+1) (wW ts) rfl HO_.out (.slice (some ⟨bx,0,none⟩) 1 1) 1 dc rfl HRN.out HODC.out (by unfold maxLen;omega) (by omega) (by omega) ?_))
      intro v2 wq8 ho5 hk5 hn5 hb5;obtain⟨gq,cq,rfl⟩:=ownsRow_succ ho5;clear hwe hbx hn5 HRN HO_;have HO5:=O ho5;have HLc:=HL
      replace HL:=O (HL.out.grown HGE.out.2 HNgb.out (fun x hx q=>by
       have h1:=HGL.out;have h2:=HB1.out;rcases List.mem_cons.1 hx with rfl|hx
       ·dsimp only at q;omega
       ·cases List.mem_singleton.1 hx;dsimp only at q;omega) HKE.out hk5)
      have hg9:gq=gb\/wp8.heap.size≤gq:=hb5.elim (fun e=>.inl (by cases e;rfl)) (fun e=>.inr (by cases e;exact hsz_));have HNgq:Hid (¬LR B2 ((v2,u.ptr)::dG ts) gq):=O (fun h=>hg9.elim (fun e=>HNgb.out (by rw[←e];exact h)) fun e=>by have:=HLc.out.lt_ h;omega);have HNE2:Hid (gp≠gq):=O (fun e=>hg9.elim (fun h=>HNPB.out (by rw[e,h])) fun h=>by have:=HPL.out;omega);have HOA2:=O (hk5.owns (HKE.out.owns HOA.out fun _ _=>id) (fun i e q=>HNPB.out (by cases e;cases q;rfl)));clear ho5 hk5 hb5 hsz_ HKE HBX HLc hg9 HRB HOA hsz1;go_wp2_with fail
      go_roundw
      case rel=>exact⟨k+1,gp,cp,gq,cq,T,B2,ts++[⟨v2,u,edB x bl⟩],by omega,rfl,rfl,by go_num,O ⟨by rw[List.length_append,HT.out.1];rfl,fun y hy=>(List.mem_append.1 hy).elim (HT.out.2 y) fun h=>by cases List.mem_singleton.1 h;exact HO.out⟩,O (HL.out.tail.tail.sub sB),O ⟨by rw[If,show aH (Rt.mk v2 u (edB x bl)).v (Rt.mk v2 u (edB x bl)).t.ptr=rc from HRC2.out];exact HOA2.out,by rw[Ig,show blC (Rt.mk v2 u (edB x bl)).bl=dc from HDC.out];exact HO5.out,fun e=>HNgp.out (e.imp id fun ⟨r,hr,q⟩=>⟨r,sB r hr,q⟩),fun e=>HNgq.out (e.imp id fun ⟨r,hr,q⟩=>⟨r,sB r hr,q⟩),HNE2.out⟩⟩
      case measure=>simp[intOf];omega
  ·obtain rfl:N=k:=by omega
   have HMM:Hid (∀r0,r0∈dG ts->r0∈dG ts):=O (fun _ h=>h);have hm0:=Int.emod_nonneg n (show ((N:Int)+1)≠0 by omega);have hm1:=Int.emod_lt_of_pos n (show (0:Int)<(N:Int)+1 by omega);obtain⟨j,hj⟩:∃j:Nat,n % ((N:Int)+1)=(j:Int):=⟨(n % ((N:Int)+1)).toNat,by omega⟩
   have HJ:=O hj;have hj1:j<N+1:=by omega
   have hj2:(j:Int)<(N:Int)+1:=by omega
   have hj0:(0:Int)≤(j:Int):=by omega
   obtain⟨z,hz⟩:∃z,ts[j]?=some z:=⟨ts[j]'(by rw[HT.out.1];exact hj1),List.getElem?_eq_getElem _⟩
   have hzm:=List.mem_of_getElem? hz;have HTZ:=O (HT.out.2 z hzm);have HPZ:=O (List.mem_map.2 ⟨z,hzm,rfl⟩:(z.v,z.t.ptr)∈dG ts);have HRA:=O (HRW.out.ra HT.out.1 (fun x hx=>aL (HL.out.pv _ (HMM.out _ (List.mem_map.2 ⟨x,hx,rfl⟩))).pt.sum) hz);have HRB:=O (HRW.out.rb HT.out.1 hz);have HGA:=O (fun(e:B' ga)=>HRW.out.na (.inl e));have HGB:=O (fun(e:B' gb)=>HRW.out.nb (.inl e));obtain⟨zc,HZC,hzc,HOZC⟩:=nmP (HL.out.pv _ (HMM.out _ HPZ.out));obtain⟨yc,HYC,hyc,HOYC⟩:=uC z.bl;rw[HZC.out] at HRA;rw[HYC.out] at HRB;clear hm0 hm1 hj hz hzm;go_wp2_with fail;refine(rJ wr n ((N:Int)+1) (by omega) (by omega) HNN.out.1 HNN.out.2).mono ?_;rintro e wd ⟨rfl,rfl⟩;rw[HJ.out];go_wp2_with fail;refine jG (B') HL (by kernel_rfl) ?_;intro we SW HSE HSI hkd HL;replace HRA:=O (hkd.rangeAt2 HRA.out id);replace HRB:=O (hkd.rangeAt2 HRB.out id);clear hkd;have HLs:=HL;have HRAs:=HRA;have HRBs:=HRB;refine tna 0 (.bool true) rfl (sD9 HSI HL) ?_;refine tna 1 (.bool true) rfl (sD9 HSI HL) ?_;refine tna 2 (.pointer (some ⟨c,0,none⟩)) rfl (sD9 HSI HL) ?_;refine tna 3 (.slice (some ⟨ga,0,none⟩) (N+1) ca) rfl (sD9 HSI HL) ?_;refine tna 4 (.int .i64 (j:Int)) rfl (sD9 HSI HL) ?_;refine tnd 5 (.pointer (some ⟨ga,j*35,none⟩)) rfl (.inl ⟨by rfl,fun _ _=>by have hq:¬((N:Int)+1≤(j:Int)):=(by omega);go_simp⟩) (sD9 HSI HL) ?_;refine tnd 6 (.agg zc.toArray) rfl (ldD 26 (.tmp 88) ga (j*35) zc _ (fun w' h=>(HSE.out w' h).rangeAt2 HRAs.out HGA.out) aG (szP9 hzc)) (sD9 HSI HL) ?_;refine tna 7 (.slice (some ⟨gb,0,none⟩) (N+1) cb) rfl (sD9 HSI HL) ?_;refine tna 8 (.int .i64 (j:Int)) rfl (sD9 HSI HL) ?_;refine tnd 9 (.pointer (some ⟨gb,j*64,none⟩)) rfl (.inl ⟨by rfl,fun _ _=>by have hq:¬((N:Int)+1≤(j:Int)):=(by omega);go_simp⟩) (sD9 HSI HL) ?_;refine tnd 10 (.agg yc.toArray) rfl (ldD 61 (.tmp 92) gb (j*64) yc _ (fun w' h=>(HSE.out w' h).rangeAt2 HRBs.out HGB.out) Tryz.underlying61 (by rw[hyc];exact gH)) (sD9 HSI HL) ?_;refine wA9 11 ?_;go_wp2_with fail;refine((by rw[←HZC.out,←HYC.out];exact qB HL.out.ki z.v z.t HTZ.out.1 (HL.out.pv _ (HMM.out _ HPZ.out)) z.bl HTZ.out.2:Calls _ _ _ we (aT we true))).mono ?_;rintro e wf ⟨rfl,hk9⟩;replace HL:=O (HL.out.keeps hk9);clear hk9;go_wp2_with fail;refine⟨HSI.out _ HL.out.dr,?_⟩;refine tna 12 (.bool true) rfl (sD9 HSI HL) ?_;refine tna 13 (.bool true) rfl (sD9 HSI HL) ?_;refine wpAnyH_done (by kernel_rfl) ?_ _;refine noP ?_;have HP:=O (HL.out.fin HBN.out HKW.out);clear HL HLs HSE HSI;go_wp2_with fail;go_ret;exact⟨rfl,HP.out⟩
end
section
open Go.ChangeShapes Go.WideShapes Go.ChangeAt Go.RowKit
theorem uV(os:Os)(started:os.Started)(H:Type)(enc:TypeId×Value->H) :
 ReturnsInHanded {} Tryz.checked os 6 .any (Rows.treeBlocksSpec.pre6 enc Tryz.prog Tryz.f6 Rows.treeBlocksRow.domain false) (Rows.treeBlocksSpec.post enc Tryz.prog Tryz.f6 false true false false):=by
 refine returnsInHanded_of_change (C:=Tryz.checked) own started (by kernel_rfl) Tryz.func6
  (ChangeSpec.witness6 (enc:=enc) (C:=Tryz.checked) false ⟨#[],#[.slice none 0 0,.int .i64 0],[]⟩ 64 (by kernel_rfl) (by kernel_rfl) (by kernel_rfl) (by kernel_rfl)) ?_
 intro W base args ds gs before hval0 hW hcnd _;have hval:∀(j:Nat) t v,Tryz.f6.params[j]?=some t->args[j]?=some v->Value.okWide Tryz.prog W .any base t v:=hval0;have hW':=hW;obtain⟨p,q,hA0,hV,rfl,hfz,hnd⟩:=hW;have hA:DataW.TrodAll enc Tryz.prog W 0 (fun _=>true) true Tryz.f6.params.toList args.toList ds p:=hA0;rw[Tryz.params6] at hA hval;obtain⟨v0,vs0,d0,ds0,p0,q0,hargs0,rfl,rfl,h0,r0⟩:=trodAll_cons hA;obtain⟨v1,vs1,d1,ds1,p1,q1,hargs1,rfl,rfl,h1,r1⟩:=trodAll_cons r0;obtain⟨hv1,rfl,rfl⟩:=trodAll_nil r1;obtain rfl:args=#[v0,v1]:=by apply Array.toList_inj.1;rw[hargs0];simp only[hargs1,hv1]
 clear hargs0 hargs1 hv1;obtain⟨rfl,rfl⟩:=trodVars_none hV;obtain⟨a0,len0,cap0,rfl⟩:=okWide_slice Tryz.underlying59 (hval 0 59 v0 rfl rfl);obtain⟨n1,rfl⟩:=okWide_int Tryz.underlying3 (hval 1 3 v1 rfl rfl);have k0:=h0;have lt0:∀x∈p0,x.block<W.heap.size:=by obtain⟨m,hm⟩:=k0;exact DataW.trod_lt m _ _ _ hm
 have k1:=h1;have lt1:∀x∈p1,x.block<W.heap.size:=by obtain⟨m,hm⟩:=k1;exact DataW.trod_lt m _ _ _ hm
 clear hA0 hval0 hval
 obtain⟨l0,hll0,hlo0,hrd0⟩:∃l:List EdV,l.length=len0/\(∀y∈l,C7 y)/\Rd W 4 (.slice a0 len0 cap0) len0 (BC l):=by
  obtain⟨fuel,hf⟩:=h0;exact DN (by simpa [Value.cells] using hf)
 subst hll0
 have hn1:-9223372036854775808≤n1/\n1≤9223372036854775807:=by
  obtain⟨fuel,hf⟩:=h1;obtain⟨a,e0,-,wa⟩:=DataW.trod_int Tryz.underlying3 hf;simp[Value.cells] at e0;subst e0;exact bounds_i64 wa
 refine(yQ W _ l0 hlo0 hrd0 n1 hn1.1 hn1.2).mono fun e W' ⟨he,hk⟩=>?_
 subst he;have bel:=hk.below;exact⟨_,rfl,_,_,_,[],_,[],hW',trodAll_mk1 (shut_bool Tryz.underlying4 _),(trodAll_cons_mk (Below.trod Eo (by kernel_rfl) (of_decide_eq_true (by kernel_rfl)) k0 bel lt0) (trodAll_cons_mk (Below.trod Eo (by kernel_rfl) (of_decide_eq_true (by kernel_rfl)) k1 bel lt1) trodAll_mk0)),rfl,bel.frame _,fun h=>by cases h⟩
theorem cL{a b:Bool}(h:a=true)(k:b=true):(a && b)=true:=by rw[h,k];rfl
theorem cl0:(Rows.treeBlocksRow.wf (OpenSpec.ofChange Rows.treeBlocksSpec))=true:=by kernel_rfl
theorem cl1:(laidOutB Tryz.pinned.checked.prog)=true:=by kernel_rfl
theorem cl2:(mapsRowed Tryz.pinned.checked.prog)=true:=by kernel_rfl
theorem cl3:(Tryz.f6.params.all (Tryz.pinned.checked.prog.readableRec ·))=true:=by kernel_rfl
theorem cl4:(namedTie Tryz.pinned.checked.prog Rows.treeBlocksRow.named Rows.treeBlocksSpec.vars)=true:=by kernel_rfl
theorem cl5:(Rows.treeBlocksRow.stops == [])=true:=by kernel_rfl
theorem cl6:(Tryz.pinned.checked.prog.stops == [])=true:=by kernel_rfl
theorem cl7:(Rows.treeBlocksRow.knobs == [])=true:=by kernel_rfl
theorem cl8:(Tryz.pinned.checked.prog.stopKnobs == [])=true:=by kernel_rfl
theorem cl9:(Rows.treeBlocksRow.inPlace == Tryz.pinned.checked.prog.inPlace 6)=true:=by kernel_rfl
theorem MQ:(Rows.treeBlocksRow.unfollowed == Tryz.pinned.checked.prog.unfollowed 6)=true:=by kernel_rfl
theorem MR:(Rows.treeBlocksRow.recurses == Tryz.pinned.checked.prog.recurses 6)=true:=by kernel_rfl
theorem MS:(Rows.treeBlocksRow.named == Tryz.pinned.checked.prog.varsNamed 6)=true:=by kernel_rfl
theorem MT:(Rows.treeBlocksRow.maps == (Tryz.f6.params.toList++Rows.treeBlocksSpec.plain.varTypes Tryz.pinned.checked.prog).any (Tryz.pinned.checked.prog.mapsRec ·))=true:=by kernel_rfl
theorem MU:(Rows.treeBlocksRow.ifaces == (Tryz.f6.params.toList++Rows.treeBlocksSpec.plain.varTypes Tryz.pinned.checked.prog).any (Tryz.pinned.checked.prog.ifacesRec ·))=true:=by kernel_rfl
theorem MV:(Rows.treeBlocksRow.mapsOut == Tryz.pinned.checked.prog.mapsAmong Tryz.f6.resultTypes.toList)=true:=by kernel_rfl
theorem MW:(Rows.treeBlocksRow.loops == (Tryz.f6.params.toList++Rows.treeBlocksSpec.plain.varTypes Tryz.pinned.checked.prog).any (Tryz.pinned.checked.prog.loopsFrom ·))=true:=by kernel_rfl
theorem MX:(Rows.treeBlocksRow.wideKeys == ((Tryz.f6.params.toList++Rows.treeBlocksSpec.plain.varTypes Tryz.pinned.checked.prog)++Tryz.f6.resultTypes.toList).any (Tryz.pinned.checked.prog.wideKeysFrom ·))=true:=by kernel_rfl
theorem MY:(Rows.treeBlocksSpec.vars.all (Tryz.pinned.checked.prog.varReadable ·))=true:=by kernel_rfl
theorem MZ:(Tryz.f6.resultTypes.all (fun t=>Tryz.pinned.checked.prog.readableRec t && decide (t<Tryz.pinned.checked.prog.types.size)))=true:=by kernel_rfl
theorem M1:(Rows.treeBlocksRow.ifacesOut == Tryz.f6.resultTypes.toList.any (Tryz.pinned.checked.prog.ifacesRec ·))=true:=by kernel_rfl
theorem M2:(Rows.treeBlocksRow.loopsOut == Tryz.f6.resultTypes.toList.any (Tryz.pinned.checked.prog.loopsFrom ·))=true:=by kernel_rfl
theorem M3:(Rows.treeBlocksRow.plainKeys == Tryz.pinned.checked.prog.plainKeys)=true:=by kernel_rfl
theorem M4:(Rows.treeBlocksRow.shortTexts.isNone)=true:=by kernel_rfl
theorem M5:(Tryz.pinned.checked.prog.stopsHeard)=true:=by kernel_rfl
theorem M6:(Tryz.pinned.checked.prog.mayEnter)=true:=by kernel_rfl
theorem M7:(Rows.treeBlocksRow.lifted == Tryz.pinned.checked.prog.liftsFinal)=true:=by kernel_rfl
theorem M8:(Tryz.pinned.checked.prog.make == some Rows.treeBlocksRow.make)=true:=by kernel_rfl
theorem M9:(Rows.treeBlocksRow.kinds == (if Rows.treeBlocksRow.domain.isEmpty then [] else Tryz.f6.params.toList.map fun t=>match Tryz.pinned.checked.prog.underlying t with|some (.int k)=>some k|_=>none))=true:=by kernel_rfl
theorem Na:(Rows.treeBlocksRow.pinned == Rows.treeBlocksRow.pinnedBy)=true:=by kernel_rfl
theorem Nb:(Rows.treeBlocksRow.veiled == ((Tryz.f6.params.toList++Rows.treeBlocksSpec.plain.varTypes Tryz.pinned.checked.prog)++Tryz.f6.resultTypes.toList).any (Tryz.pinned.checked.prog.veiledRec ·))=true:=by kernel_rfl
theorem Nc:(Rows.treeBlocksRow.veiledFits Tryz.pinned.checked.prog Tryz.f6.params.toList ((Tryz.f6.params.toList++Rows.treeBlocksSpec.plain.varTypes Tryz.pinned.checked.prog)++Tryz.f6.resultTypes.toList))=true:=by kernel_rfl
theorem uW:joinedFacts Tryz.pinned.checked.prog 6 Tryz.f6 Rows.treeBlocksSpec Rows.treeBlocksRow=true:=by
 unfold joinedFacts;exact(cL (cL (cL (cL (cL (cL (cL (cL (cL (cL (cL (cL (cL (cL (cL (cL (cL (cL (cL (cL (cL (cL (cL (cL (cL (cL (cL (cL (cL (cL (cL cl0 cl1) cl2) cl3) cl4) cl5) cl6) cl7) cl8) cl9) MQ) MR) MS) MT) MU) MV) MW) MX) MY) MZ) M1) M2) M3) M4) M5) M6) M7) M8) M9) Na) Nb) Nc)
theorem yR:Tryz.f6.isWrapper Tryz.pinned.checked.prog Rows.treeBlocksRow.wrapper Rows.treeBlocksRow.mainSum:=by unfold Func.isWrapper;first|(rw[if_pos (by decide +kernel)];kernel_rfl)|(rw[if_neg (by decide +kernel)];exact⟨rfl,rfl⟩)
theorem wX:Tryz.pinned.checked.prog.funcNamed Rows.treeBlocksRow.func=some 6:=by kernel_rfl
theorem treeBlocks_proved:Rows.TreeBlocksSaid:=
 OpenClaim.holds_of_wide 6 Tryz.f6 rfl rfl rfl rfl rfl rfl rfl ⟨rfl,rfl,rfl,rfl,rfl⟩ rfl rfl rfl rfl rfl wX Tryz.func6 uW (of_decide_eq_true (by kernel_rfl)) yR
  (fun os started H enc _=>uV os started H enc)
end
end Go.Proofs.YtjkbekifgobeaaaGreat
