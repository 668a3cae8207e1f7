import Derived.Test.YtiinnfhjpaeffaaGreatW1
import Derived.Test.YtiinnfhjpaeffaaGreatW24
import Derived.Test.YtiinnfhjpaeffaaGreatW26
namespace Go.Proofs.YtiinnfhjpaeffaaGreat
set_option maxHeartbeats 64000000
set_option maxRecDepth 100000
set_option linter.unusedVariables false
section
open Go.RowKit Go.Maps Go.ChangeMaps
theorem bs1{P:Program}{w:World}{ops:Array Oper}{rest:List Oper}{o:Oper}{a:Act}{Q:Exit->Act->World->Prop}(t e:TypeId)(x:Operand)(v:Value)(hsz:(P.info? e).map (·.size)=some 1)(hz:((P.info? e).bind (·.zero)).isSome=true)(hu:P.underlying t=some (.slice e))(h1:v.cells=#[v])
 (h:∀b w',w.heap.size=b->aA aB w w'->w'.heap[b]?=some (.cells #[v] e (0,0))->wpList P ops Q rest (a.put o.dst (.slice (some ⟨b,0,none⟩) 1 1)) w') (hx:a.eval x=v:=by rfl) (hg:o.guard=none:=by rfl) (ho:o.op=.buildSlice t 1 #[(0,x)]:=by rfl):wpList P ops Q (o::rest) a w:=by
 cases hie:P.info? e with
 | none=>simp[hie] at hsz
 | some ie =>
   simp only[hie,Option.map_some,Option.some.injEq,Option.bind_some] at hsz hz;obtain⟨z,hzz⟩:=Option.isSome_iff_exists.1 hz;refine wpList_buildSlice hg t e 1 _ ho #[v] ie z hu hie hzz (by rw[hsz];omega) (by rw[hsz];omega) ?_ (h _ _ rfl ((aA.refl _ _).alloc _) (heap_alloc_new _ _));rw[hsz];have e1:((#[((0:Nat),x)]:Array (Nat×Operand)).map fun(i,x)=>(i,a.eval x)).toList=([v].zipIdx 0).map fun x=>(x.2,x.1):=by simp[hx]
   rw[e1];exact Great.fill_flat [v] _ (fun u hu=>by rcases List.mem_singleton.1 hu with rfl;exact h1) (by simp)
abbrev nF:TypeId:=47
structure Lst where
 rv:Value
 u:Ub
 ov:Value
 ol:List Ad
 vv:Value
 vl:List Ad
def mN:Lst:=⟨.slice none 0 0,⟨0,zPt,0,List.replicate 32 0⟩,.slice none 0 0,[],.slice none 0 0,[]⟩
def Lst.Own(t:Lst)(i:Nat):Prop:=t.rv.ownBlock=some i\/t.ov.ownBlock=some i\/t.vv.ownBlock=some i
theorem pS{i:Nat}:¬mN.Own i:=fun h=>by rcases h with h|h|h<;>cases h
structure lQ(w:World)(t:Lst):Prop where
 ub:UbV w t.rv t.u
 old:Rd w 2 t.ov t.ol.length (aQ t.ol)
 live:Rd w 2 t.vv t.vl.length (aQ t.vl)
 oads:jU t.ol
 lads:jU t.vl
 isc:∀i,t.Own i->∃cs T,w.heap[i]?=some (.cells cs T (0,0))
 few:t.u.root.addrs.length≤65536/\t.ol.length≤65536/\t.vl.length≤65536
theorem lQ.keep{T:Nat->Prop}{w w':World}{t:Lst}(h:lQ w t)(k:aA T w w')(hT:∀i,T i->¬t.Own i):lQ w' t:=
 ⟨h.ub.keep k fun i hi e=>hT i e (.inl hi),h.old.keep k fun i hi e=>hT i e (.inr (.inl hi)),h.live.keep k fun i hi e=>hT i e (.inr (.inr hi)),h.oads,h.lads,fun i hi=>by
  obtain⟨cs,T,hc⟩:=h.isc i hi;exact⟨cs,T,k.blk hc fun e=>hT i e hi⟩,h.few⟩
theorem lQ.zero(w:World):lQ w mN:=⟨⟨⟨Rd.nil w 2,fun x hx=>(by cases hx),rfl⟩,rfl⟩,Rd.nil w 2,Rd.nil w 2,fun x hx=>(by cases hx),fun x hx=>(by cases hx),fun i hi=>by (rcases hi with h|h|h<;>cases h),by decide⟩
theorem lQ.lt{w:World}{t:Lst}(h:lQ w t){i:Nat}(hi:t.Own i):i<w.heap.size:=by
 obtain⟨cs,T,hc⟩:=h.isc i hi;exact lt_of_block hc
def gC(t:Lst):List Value:=dP t.rv t.u++[.bool false]
theorem Di{w:World}{t:Lst}(h:lQ w t):(gC t).length=70:=by
 unfold gC;rw[List.length_append,kS h.ub.root.sum h.ub.pool];rfl
def eU(a m:Nat)(pid:List UInt8)(cp:Nat)(lv gv:Value)(t:Lst):List Value:=
 .pointer (some ⟨a,0,none⟩)::.pointer (some ⟨m,0,none⟩)::(pid.map vb++(.int .i64 (cp:Int)::lv::gv::t.ov::t.vv::gC t))
structure aZ(w:World)(c a m:Nat)(pid:List UInt8)(cp:Nat)(lv gv:Value)(t:Lst):Prop where
 top:w.heap[c]?=some (.cells (eU a m pid cp lv gv t).toArray nF (0,0))
 idl:pid.length=32
 lst:lQ w t
section
variable {w:World}{c a m:Nat}{pid:List UInt8}{cp:Nat}{lv gv:Value}{t:Lst}
theorem aZ.keep{T:Nat->Prop}{w':World}(h:aZ w c a m pid cp lv gv t)(k:aA T w w')(hT:¬T c)(hT2:∀i,T i->¬t.Own i):aZ w' c a m pid cp lv gv t:=⟨k.blk h.top hT,h.idl,h.lst.keep k hT2⟩
theorem aZ.keep0{w':World}(h:aZ w c a m pid cp lv gv t)(k:aA aB w w'):aZ w' c a m pid cp lv gv t:=h.keep k (fun h=>h) fun _ h=>h.elim
theorem sP(h:pid.length=32)(h1:(gC t).length=70):(eU a m pid cp lv gv t).length=109:=by
 unfold eU;simp only[List.length_cons,List.length_append,List.length_map,h,h1]
theorem aZ.c0(h:aZ w c a m pid cp lv gv t):w.cell? ⟨c,0,none⟩=some (.pointer (some ⟨a,0,none⟩)):=aC h.top rfl
theorem aZ.c1(h:aZ w c a m pid cp lv gv t):w.cell? ⟨c,1,none⟩=some (.pointer (some ⟨m,0,none⟩)):=aC h.top rfl
theorem aZ.id_(h:aZ w c a m pid cp lv gv t):w.rangeAt c 2 (pid.map vb):=fun j v hj=>by
 refine aC h.top ?_;rw[List.getElem?_toArray];unfold eU;have e:2+j=j+1+1:=by omega
 rw[e,List.getElem?_cons_succ,List.getElem?_cons_succ,List.getElem?_append_left (List.getElem?_eq_some_iff.1 hj).1];exact hj
theorem aZ.at_(h:aZ w c a m pid cp lv gv t){k:Nat}{v:Value}(hk:(.int .i64 (cp:Int)::lv::gv::t.ov::t.vv::gC t)[k]?=some v):w.cell? ⟨c,34+k,none⟩=some v:=by
 refine aC h.top ?_;rw[List.getElem?_toArray];unfold eU;have e:34+k=(32+k)+1+1:=by omega
 have hl:(pid.map vb).length=32:=by rw[List.length_map,h.idl]
 rw[e,List.getElem?_cons_succ,List.getElem?_cons_succ,List.getElem?_append_right (by omega),hl];have e2:32+k-32=k:=by omega
 rw[e2];exact hk
theorem aZ.cp_(h:aZ w c a m pid cp lv gv t):w.cell? ⟨c,34,none⟩=some (.int .i64 (cp:Int)):=h.at_ (k:=0) rfl
theorem aZ.lv_(h:aZ w c a m pid cp lv gv t):w.cell? ⟨c,35,none⟩=some lv:=h.at_ (k:=1) rfl
theorem aZ.gv_(h:aZ w c a m pid cp lv gv t):w.cell? ⟨c,36,none⟩=some gv:=h.at_ (k:=2) rfl
theorem aZ.old_(h:aZ w c a m pid cp lv gv t):w.cell? ⟨c,37,none⟩=some t.ov:=h.at_ (k:=3) rfl
theorem aZ.live_(h:aZ w c a m pid cp lv gv t):w.cell? ⟨c,38,none⟩=some t.vv:=h.at_ (k:=4) rfl
theorem aZ.txg_(h:aZ w c a m pid cp lv gv t):w.cell? ⟨c,39,none⟩=some (.int .i64 t.u.txg):=h.at_ (k:=5) rfl
theorem aZ.out_(h:aZ w c a m pid cp lv gv t):w.cell? ⟨c,108,none⟩=some (.bool false):=h.at_ (k:=74) (by
 have hl:=kS h.lst.ub.root.sum h.lst.ub.pool (v:=t.rv);simp only[List.getElem?_cons_succ];unfold gC;rw[List.getElem?_append_right (by omega),hl];rfl)
end
theorem uU{w:World}{c a m:Nat}{pid:List UInt8}{cp:Nat}{lv gv:Value}{t:Lst}(h:aZ w c a m pid cp lv gv t):Calls Tryz.prog 56 #[.pointer (some ⟨c,0,none⟩)] w (aK w (.bool false)):=by
 have HC:=O h;have HL:=lN w;clear h;go_in;have c1:w.cell? ⟨c,0,none⟩=some (.pointer (some ⟨a,0,none⟩)):=(aZ.c0 HC.out)
 go_wp2_with fail;clear c1;go_ret;exact aK.of HL.out.keep
theorem A9{w:World}{a:Nat}{D Z nw:Nat}{B:Nat->Prop}{Mm:Nat->Nat->List UInt8}(ha:bM w a B D Z Mm nw):Calls Tryz.prog 77 #[.pointer (some ⟨a,0,none⟩)] w (aK w (.bool false)):=by
 have HA:=O ha;have HL:=lN w;clear ha;go_in;go_wp2_with fail;refine(Mk HA.out).mono ?_;rintro e w1 ⟨rfl,hk⟩;replace HL:=kL HL hk;replace HA:=O (HA.out.keep0 hk);clear hk;go_wp2;go_ret;exact aK.of HL.out.keep
theorem qI{w:World}{c a m:Nat}{pid:List UInt8}{cp:Nat}{lv gv:Value}{t:Lst}(h:aZ w c a m pid cp lv gv t){D Z nw:Nat}{B:Nat->Prop}{Mm:Nat->Nat->List UInt8}(ha:bM w a B D Z Mm nw):Calls Tryz.prog 49 #[.pointer (some ⟨c,0,none⟩)] w (aK w (.int .i64 0)):=by
 have HC:=O h;have HA:=O ha;have HL:=lN w;clear h ha;go_in;go_wp2_with fail;refine(uU HC.out).mono ?_;rintro e w1 ⟨rfl,hk⟩;replace HL:=kL HL hk;replace HC:=O (HC.out.keep0 hk);replace HA:=O (HA.out.keep0 hk);clear hk;have c1:w1.cell? ⟨c,108,none⟩=some (.bool false):=(aZ.out_ HC.out)
 have c2:w1.cell? ⟨c,0,none⟩=some (.pointer (some ⟨a,0,none⟩)):=(aZ.c0 HC.out)
 go_wp2_with fail;clear c1 c2;refine(A9 HA.out).mono ?_;rintro e w2 ⟨rfl,hk⟩;replace HL:=kL HL hk;replace HC:=O (HC.out.keep0 hk);replace HA:=O (HA.out.keep0 hk);clear hk;go_wp2;go_ret;exact aK.of HL.out.keep
theorem Ej{w:World}{c a m:Nat}{pid:List UInt8}{cp:Nat}{lv gv:Value}{t:Lst}(h:aZ w c a m pid cp lv gv t):Calls Tryz.prog 70 #[.pointer (some ⟨c,0,none⟩)] w (aK w (.int .i64 (cp:Int))):=by
 have HC:=O h;have HL:=lN w;clear h;go_in;go_wp2_with fail;refine(uU HC.out).mono ?_;rintro e w1 ⟨rfl,hk⟩;replace HL:=kL HL hk;replace HC:=O (HC.out.keep0 hk);clear hk;have c1:w1.cell? ⟨c,34,none⟩=some (.int .i64 (cp:Int)):=(aZ.cp_ HC.out)
 go_wp2_with fail;clear c1;go_ret;exact aK.of HL.out.keep
theorem Dj:(Tryz.prog.info? 3).map (fun i=>(i.zero,i.size,i.bytes))=some (some (.int .i64 0),1,8):=by kernel_rfl
theorem IF:(Tryz.prog.info? 4).map (fun i=>(i.zero,i.size,i.bytes))=some (some (.bool false),1,1):=by kernel_rfl
def qJ(k:Nat):List Value:=(List.range k).map fun(i:Nat)=>Value.int .i64 (i:Int)
theorem Gb(k:Nat):qJ (k+1)=qJ k++[.int .i64 (k:Int)]:=by unfold qJ;rw[List.range_succ,List.map_append];rfl
theorem xI{w wr we w8:World}{v:Value}{T:TypeId}{n:Nat}{xs:List Value}(h:aA aB w wr)(ho:we.ownsRow w.heap.size T 1 v n xs)(k:aA aB wr we)(k5:aA (fun k=>v.ownBlock=some k) we w8):aA aB w w8:=
 (h.trans k).trans' k5 (fun _ _ h=>h) (fun i hi e=>by have:=aS ho e;omega)
def KC(w:World)(D:Nat)(e:Ending)(w':World):Prop:=∃v,e=.returned v/\w'.ownsRow w.heap.size 3 1 v D (qJ D)/\aA aB w w'
theorem qK{w:World}{c a m:Nat}{pid:List UInt8}{cp:Nat}{lv gv:Value}{t:Lst}(h:aZ w c a m pid cp lv gv t){D Z nw:Nat}{B:Nat->Prop}{Mm:Nat->Nat->List UInt8}(ha:bM w a B D Z Mm nw):Calls Tryz.prog 80 #[.pointer (some ⟨c,0,none⟩)] w (KC w D):=by
 have hbd:=ha.bd;have HC:=O h;have HA:=O ha;have HL:=lN w;clear h ha;go_in;have c1:w.cell? ⟨c,0,none⟩=some (.pointer (some ⟨a,0,none⟩)):=(aZ.c0 HC.out)
 go_wp2_with fail;clear c1;refine(kK HA.out).mono ?_;rintro e w1 ⟨rfl,hk⟩;replace HL:=kL HL hk;replace HC:=O (HC.out.keep0 hk);replace HA:=O (HA.out.keep0 hk);clear hk;go_wp2_with fail;have HK0:=O HL.out.keep;clear HL HC HA
 go_loopw [3,10] (fun v i wr=>∃(k:Nat) (p:Option Addr) (cq:Nat),k≤D/\i=.int .i64 k/\v=.slice p k cq/\Hid (aA aB w wr)/\Hid (wr.ownsRow w.heap.size 3 1 (.slice p k cq) k (qJ k))) (fun _ i _=>D-(intOf i).toNat)
 case atStart=>exact⟨0,none,0,by omega,rfl,rfl,HK0,O (World.ownsRow_nil _ _ _ _)⟩
 case round =>
  obtain⟨k,p,cq,hk,rfl,rfl,HK,HO⟩:=hrel
  by_cases hk8:k<D
  ·have HL:=lN wr
   have HW:=O HK.out.size;have hk1:(k:Int)<(D:Int):=by omega
   go_wp2_with ((with_reducible show WL _ _);refine bs1 42 3 (.tmp 14) (.int .i64 (k:Int)) (by kernel_rfl) (by kernel_rfl) Tryz.underlying42 rfl ?_)
   intro b15 w2 hbs hk hb;replace HL:=lW HL hbs hk hb;replace HO:=O (hk.owns HO.out fun _ _=>id);clear hbs hk hb;have hrd_:Rd w2 1 (.slice (some ⟨b15,0,none⟩) 1 1) 1 [.int .i64 (k:Int)]:=eE (n:=1) (size:=1) (HL.out.b 0) rfl (by unfold maxLen;omega);have HRD_:=O hrd_;have HOE:=HO;have HKE:=O HL.out.keep;clear hrd_
   go_wp2_with (first
    | (at_builtin;refine aN rfl (.tmp 13) (.tmp 15) 42 rfl w.heap.size 3 (.int .i64 0) 1 8 Tryz.underlying42 Dj rfl (by decide) (.slice p k cq) k (qJ k) rfl HO.out (.slice (some ⟨b15,0,none⟩) 1 1) 1 [.int .i64 (k:Int)] rfl HRD_.out (by intro u hu;rcases List.mem_singleton.1 hu with rfl;rfl) (by unfold maxLen;omega) (by omega) (Nat.le_trans HW.out HKE.out.size) ?_))
   intro v2 w8 ho5 hk5 hn5 hb5;obtain⟨g2,c2,rfl⟩:=ownsRow_succ ho5;have HO5:=O ho5;have HK5:=O hk5;clear ho5 hk5 hn5 hb5 HRD_ HL HO;go_wp2_with fail;have HK8:=O (xI HK.out HOE.out HKE.out HK5.out)
   go_roundw
   case rel=>exact⟨k+1,some ⟨g2,0,none⟩,c2,by omega,by go_num,rfl,HK8,by rw[Gb];exact HO5⟩
   case measure=>simp[intOf];omega
  ·obtain rfl:k=D:=by omega
   go_wp2;go_ret;exact⟨_,rfl,HO.out,HK.out⟩
def dD(pid:List UInt8)(d D cp Z:Nat):Lab:=⟨pid,(d:Int),(D:Int),(cp:Int),(Z:Int),0⟩
theorem sQ{pid:List UInt8}{d D cp Z:Nat}(hd:d<D)(hb:2≤D/\D≤8/\8≤Z/\Z≤4096)(h1:1≤cp)(h3:cp≤3)(hc:cp≤D):(dD pid d D cp Z).may=true:=by
 unfold Lab.may dD;simp only[decide_eq_true_eq];omega
def EX(w:World)(L:Lab)(e:Ending)(w':World):Prop:=e=.returned (.tuple #[.agg L.cells.toArray,.bool true])/\aA aB w w'
theorem Dk{w:World}{a:Nat}{D Z nw:Nat}{B:Nat->Prop}{Mm:Nat->Nat->List UInt8}(ha:bM w a B D Z Mm nw){pid:List UInt8}{d cp:Nat}(hpid:pid.length=32)(hd:d<D)(hcp:1≤cp/\cp≤3/\cp≤D)(hlab:Mm d 0=dW (dD pid d D cp Z)) :
 Calls Tryz.prog 128 #[.pointer (some ⟨a,0,none⟩),.int .i64 (d:Int)] w (EX w (dD pid d D cp Z)):=by
 have hbd:=ha.bd;have hmay:=sQ (pid:=pid) hd hbd hcp.1 hcp.2.1 hcp.2.2;have HUR:=O (Dh (dD pid d D cp Z) hpid hmay);have HLB:=O hlab;have HPID:=O hpid;have HMAY:=O hmay;have HML:=O (ha.len hd (show 0<Z by omega));have HD0:=O hd;have HZ0:=O (show 0<Z by omega);obtain⟨lc,hlce⟩:∃l,(dD pid d D cp Z).cells=l:=⟨_,rfl⟩
 have hlc:lc.length=37:=by rw[←hlce];exact Lab.cells_length _ hpid
 have HOC:Hid (∀u∈lc,u.oneCell'=true):=O (by rw[←hlce];exact nE _);have hnum:∀i,lc.toArray[32+i]?=(dD pid d D cp Z).nums[i]?:=fun i=>by rw[List.getElem?_toArray,←hlce];exact Lab.cells_num _ hpid i
 have HLF32:Hid (lc.toArray[32]?=some (.int .i64 (d:Int))):=O (hnum 0);have HLF33:Hid (lc.toArray[33]?=some (.int .i64 (D:Int))):=O (hnum 1);have HLF34:Hid (lc.toArray[34]?=some (.int .i64 (cp:Int))):=O (hnum 2);have HLF35:Hid (lc.toArray[35]?=some (.int .i64 (Z:Int))):=O (hnum 3);have HLF36:Hid (lc.toArray[36]?=some (.int .i64 0)):=O (hnum 4);have HLC:=O hlce;have HA:=O ha;have HL:=lN w;unfold EX;rw[hlce];clear ha hmay hlab hlce hnum hpid;have HA0:=HA;go_in
 go_wp2_with ((with_reducible show WL _ _);refine alL HL 192 (.agg fI.cells.toArray) (fI.cells.toArray) (O oU) ?_)
 intro b4 w1 hk HL;replace HA:=O (HA.out.keep0 hk);clear hk;go_wp2_with fail;refine(N6 HA.out HD0.out HZ0.out).mono ?_;rintro e w2 ⟨v0,rfl,ho,hk⟩;obtain⟨pv,cv,rfl,-,-⟩:=(Rd.of_owns ho).form;have HO:=O ho;clear ho;replace HL:=kL HL hk;replace HA:=O (HA.out.keep0 hk);clear hk;go_wp2_with fail;refine(BN w2 (.slice pv 256 cv) (dD pid d D cp Z) HPID.out HMAY.out (Mm d 0) HLB.out (by rw[HML.out];exact Rd.of_owns HO.out)).mono ?_;rintro e w3 ⟨rfl,hk⟩;replace HL:=kL HL hk;replace HA:=O (HA.out.keep0 hk);replace HO:=O (hk.owns HO.out fun _ _=>id);clear hk;rw[HLB.out,HUR.out];dsimp only;rw[HLC.out]
 go_wp2_with ((with_reducible show WL _ _);refine al 192 (.agg fI.cells.toArray) (fI.cells.toArray) (O oU) ?_)
 intro b8 w4 hbs hk0 hb0_
 go_wp2_with ((with_reducible show WL _ _);refine sta 192 (.tmp 8) (.tmp 22) b8 0 lc hb0_ (by first|decide|(rw[List.size_toArray,hlc];exact Nat.le_refl _)|simp[hlc,iQ]) (by rw[hlc];exact fV) HOC.out ?_)
 intro w5 hk hb;rw[aI _ _ (by first|rfl|(rw[List.size_toArray,hlc];rfl)|simp[hlc,iQ])] at hb;replace hk:=tX hk0 hk (fun i hi e=>by omega);replace HL:=lW HL hbs hk hb;replace HA:=O (HA.out.keep0 hk);replace HO:=O (hk.owns HO.out fun _ _=>id);clear hbs hk hb hk0 hb0_;clear HO;go_wp2_with fail;refine dwA (fun k=>k=b4) (by kernel_rfl) ?_;intro w6 S HSE HSI hS hkd;replace HL:=kL HL hkd;replace HA:=O (HA.out.keep0 hkd);clear hkd;have HLs:=HL;have HAs:=HA;refine tnd 0 (.agg lc.toArray) rfl (yieldsIf_load_mid (by rfl) 192 (.tmp 8) rfl b8 0 rfl lc _ (fun w' h=>aD ((HSE.out w' h).blk (HLs.out.b 0) (fun e=>by exact bF (i:=1) HLs.out.nd rfl 0 (by decide) rfl e))) Tryz.underlying192 rfl (by rw[hlc];exact fV)) hS ?_;refine tna 1 (.int .i64 0) rfl hS ?_;refine tnb 2 (.bool true) rfl hS ?_;refine tna 3 (.bool true) rfl hS ?_;refine tnb 4 (.pointer (some ⟨b8,32,none⟩)) rfl hS ?_;refine tnd 5 (.int .i64 (d:Int)) rfl (.inl ⟨by rfl,fun w' hw'=>by have c:World.cell? w' ⟨b8,32,none⟩=some (.int .i64 (d:Int)):=(aC (i:=32) ((HSE.out w' hw').blk (HLs.out.b 0) (fun e=>by exact bF (i:=1) HLs.out.nd rfl 0 (by decide) rfl e)) (HLF32.out));go_simp⟩) hS ?_;refine tna 6 (.int .i64 (d:Int)) rfl hS ?_;refine tnb 7 (.bool true) rfl hS ?_;refine tna 8 (.bool true) rfl hS ?_;refine tna 9 (.bool true) rfl hS ?_;refine tnb 10 (.pointer (some ⟨b8,33,none⟩)) rfl hS ?_;refine tnd 11 (.int .i64 (D:Int)) rfl (.inl ⟨by rfl,fun w' hw'=>by have c:World.cell? w' ⟨b8,33,none⟩=some (.int .i64 (D:Int)):=(aC (i:=33) ((HSE.out w' hw').blk (HLs.out.b 0) (fun e=>by exact bF (i:=1) HLs.out.nd rfl 0 (by decide) rfl e)) (HLF33.out));go_simp⟩) hS ?_;refine tna 12 (.pointer (some ⟨a,0,none⟩)) rfl hS ?_;refine wA9 13 ?_;go_wp2_with fail;refine(kK HA.out).mono ?_;rintro e w7 ⟨rfl,hk⟩;have hS1:=HSI.out _ ((HSE.out _ hS).trans hk.any);replace HL:=kL HL hk;replace HA:=O (HA.out.keep0 hk);clear hS hk;go_wp2_with fail;refine⟨hS1,?_⟩;refine tnb 14 (.bool true) rfl hS1 ?_;refine tna 15 (.bool true) rfl hS1 ?_;refine tna 16 (.bool true) rfl hS1 ?_;refine tnb 17 (.pointer (some ⟨b8,35,none⟩)) rfl hS1 ?_;refine tnd 18 (.int .i64 (Z:Int)) rfl (.inl ⟨by rfl,fun w' hw'=>by have c:World.cell? w' ⟨b8,35,none⟩=some (.int .i64 (Z:Int)):=(aC (i:=35) ((HSE.out w' hw').blk (HLs.out.b 0) (fun e=>by exact bF (i:=1) HLs.out.nd rfl 0 (by decide) rfl e)) (HLF35.out));go_simp⟩) hS1 ?_;refine tna 19 (.pointer (some ⟨a,0,none⟩)) rfl hS1 ?_;refine wA9 20 ?_;go_wp2_with fail;refine(uM HA.out).mono ?_;rintro e w8 ⟨rfl,hk⟩;have hS2:=HSI.out _ ((HSE.out _ hS1).trans hk.any);replace HL:=kL HL hk;replace HA:=O (HA.out.keep0 hk);clear hS1 hk;go_wp2_with fail;refine⟨hS2,?_⟩;refine tnb 21 (.bool true) rfl hS2 ?_;refine tna 22 (.bool true) rfl hS2 ?_;refine wA9 23 ?_;refine sta 192 (.tmp 4) (.tmp 24) b4 0 lc (HL.out.b 1) (by first|decide|(rw[hlc];exact Nat.le_refl _)|simp[hlc,iQ]) (by rw[hlc];exact fV) HOC.out ?_;intro w9 hk hb;rw[aI _ _ (by first|rfl|simp[hlc,iQ])] at hb;have hS3:=HSI.out _ ((HSE.out _ hS2).trans' hk (fun _ _ h=>h) (fun i hi e=>(e)));clear hS2;replace HL:=O (HL.out.set 1 hk hb);replace HA:=O (HA0.out.keep0 HL.out.keep);clear hk hb;refine wpList_nil ?_;refine⟨hS3,?_⟩;refine tna 24 (.bool true) rfl hS3 ?_;refine wpAnyH_done (by kernel_rfl) ?_ _;clear hS3 HSE HSI HLs HAs;have HR:Hid (aA aB w w9):=O HL.out.keep;have HB:=O (HL.out.b 1);clear HL HA HA0;go_wp2_with fail;refine bodyPost_ret (bI rfl _ _ b4 _ _ _ _ rfl HB.out Tryz.underlying192 rfl (by rw[List.size_toArray,hlc];exact fV)) rfl ?_;exact⟨rfl,HR.out⟩
theorem oV{w:World}{c a m lb:Nat}{pid:List UInt8}{cp:Nat}{gv:Value}{t:Lst}{D Z nw:Nat}{B:Nat->Prop}{Mm:Nat->Nat->List UInt8}(ha:bM w a B D Z Mm nw)(h:aZ w c a m pid cp (.slice (some ⟨lb,0,none⟩) D D) gv t)(hlv:w.heap[lb]?=some (.cells (Array.replicate D (.int .i64 0)) 3 (0,0))){d:Nat}(hd:d<D)(hcp:1≤cp/\cp≤3/\cp≤D)(hlab:Mm d 0=dW (dD pid d D cp Z)) :
 Calls Tryz.prog 97 #[.pointer (some ⟨c,0,none⟩),.int .i64 (d:Int)] w (aK w (.bool true)):=by
 have hbd:=ha.bd;have hpid:=h.idl;have hmay:=sQ (pid:=pid) hd hbd hcp.1 hcp.2.1 hcp.2.2;have hd0:(0:Int)≤(d:Int):=by omega
 have hd1:(d:Int)<(D:Int):=by omega
 have HTB:Hid (pR (dD pid d D cp Z) pid (d:Int) 0=true):=O (by unfold pR;rw[hmay];simp[dD]);obtain⟨lc,hlce⟩:∃l,(dD pid d D cp Z).cells=l:=⟨_,rfl⟩
 have hlc:lc.length=37:=by rw[←hlce];exact Lab.cells_length _ hpid
 have HOC:Hid (∀u∈lc,u.oneCell'=true):=O (by rw[←hlce];exact nE _);have hnum:∀i,lc.toArray[32+i]?=(dD pid d D cp Z).nums[i]?:=fun i=>by rw[List.getElem?_toArray,←hlce];exact Lab.cells_num _ hpid i
 have HLF32:Hid (lc.toArray[32]?=some (.int .i64 (d:Int))):=O (hnum 0);have HLF33:Hid (lc.toArray[33]?=some (.int .i64 (D:Int))):=O (hnum 1);have HLF34:Hid (lc.toArray[34]?=some (.int .i64 (cp:Int))):=O (hnum 2);have HLF35:Hid (lc.toArray[35]?=some (.int .i64 (Z:Int))):=O (hnum 3);have HLF36:Hid (lc.toArray[36]?=some (.int .i64 0)):=O (hnum 4);have HLC:=O hlce;have HLB:=O hlab;have HCP:=O hcp;have HD:=O hd;have hpl:(pid.map vb).length=32:=by rw[List.length_map];exact hpid
 have HPID:=O hpid;have HV:Hid (w.cell? ⟨lb,d,none⟩=some (.int .i64 0)):=O (by rw[cell_of_row _ _ _ _ _ _ hlv];simp[hd]);have HC:=O h;have HA:=O ha;have HL:=lN w;clear ha h hmay hlab hlce hnum hpid hcp hlv;go_in;go_wp2_with fail;refine(uU HC.out).mono ?_;rintro e w1 ⟨rfl,hk⟩;replace HL:=kL HL hk;replace HC:=O (HC.out.keep0 hk);replace HA:=O (HA.out.keep0 hk);replace HV:=O (hk.cell HV.out id);clear hk;have c1:w1.cell? ⟨c,0,none⟩=some (.pointer (some ⟨a,0,none⟩)):=(aZ.c0 HC.out)
 go_wp2_with fail;clear c1;refine(Dk HA.out HPID.out HD.out HCP.out HLB.out).mono ?_;rintro e w2 ⟨rfl,hk⟩;replace HL:=kL HL hk;replace HC:=O (HC.out.keep0 hk);replace HA:=O (HA.out.keep0 hk);replace HV:=O (hk.cell HV.out id);clear hk;rw[HLC.out]
 go_wp2_with ((with_reducible show WL _ _);refine al 192 (.agg fI.cells.toArray) (fI.cells.toArray) (O oU) ?_)
 intro b5 w3 hbs hk0 hb0_
 go_wp2_with ((with_reducible show WL _ _);refine sta 192 (.tmp 5) (.tmp 17) b5 0 lc hb0_ (by first|decide|(rw[List.size_toArray,hlc];exact Nat.le_refl _)|simp[hlc,iQ]) (by rw[hlc];exact fV) HOC.out ?_)
 intro w4 hk hb;rw[aI _ _ (by first|rfl|(rw[List.size_toArray,hlc];rfl)|simp[hlc,iQ])] at hb;replace hk:=tX hk0 hk (fun i hi e=>by omega);replace HL:=lW HL hbs hk hb;replace HC:=O (HC.out.keep0 hk);replace HA:=O (HA.out.keep0 hk);replace HV:=O (hk.cell HV.out id);clear hbs hk hb hk0 hb0_;go_wp2_with fail;refine dwA aB (by kernel_rfl) ?_;intro w5 S HSE HSI hS hkd;replace HL:=kL HL hkd;replace HC:=O (HC.out.keep0 hkd);replace HA:=O (HA.out.keep0 hkd);replace HV:=O (hkd.cell HV.out id);clear hkd;have HLs:=HL;have HCs:=HC;have HAs:=HA;have HVs:=HV;refine tna 0 (.bool true) rfl hS ?_;refine tnb 1 (.bool false) rfl hS ?_;refine tna 2 (.bool false) rfl hS ?_;refine tnb 3 (.pointer (some ⟨b5,34,none⟩)) rfl hS ?_;refine tnd 4 (.int .i64 (cp:Int)) rfl (.inl ⟨by rfl,fun w' hw'=>by have c:World.cell? w' ⟨b5,34,none⟩=some (.int .i64 (cp:Int)):=(aC (i:=34) ((HSE.out w' hw').blk (HLs.out.b 0) id) (HLF34.out));go_simp⟩) hS ?_;refine tna 5 (.pointer (some ⟨c,0,none⟩)) rfl hS ?_;refine tnb 6 (.pointer (some ⟨c,0,none⟩)) rfl hS ?_;refine tnb 7 (.pointer (some ⟨c,34,none⟩)) rfl hS ?_;refine tnd 8 (.int .i64 (cp:Int)) rfl (.inl ⟨by rfl,fun w' hw'=>by have c:World.cell? w' ⟨c,34,none⟩=some (.int .i64 (cp:Int)):=(HSE.out w' hw').cell (aZ.cp_ HCs.out) id;go_simp⟩) hS ?_;refine tnb 9 (.bool false) rfl hS ?_;refine tna 10 (.bool false) rfl hS ?_;refine wpAnyH_done (by kernel_rfl) ?_ _;clear hS HSE HSI HLs HCs HAs HVs;have c1:w5.cell? ⟨b5,36,none⟩=some (.int .i64 0):=(aC (i:=36) (HL.out.b 0) (HLF36.out))
 have c2:w5.cell? ⟨c,35,none⟩=some (.slice (some ⟨lb,0,none⟩) D D):=(aZ.lv_ HC.out)
 have c3:w5.cell? ⟨c,35,none⟩=some (.slice (some ⟨lb,0,none⟩) D D):=(aZ.lv_ HC.out)
 have c4:w5.cell? ⟨lb,d,none⟩=some (.int .i64 0):=HV.out;go_wp2_with fail;clear c1 c2 c3 c4;refine dwA aB (by kernel_rfl) ?_;intro w6 S HSE HSI hS hkd;replace HL:=kL HL hkd;replace HC:=O (HC.out.keep0 hkd);replace HA:=O (HA.out.keep0 hkd);replace HV:=O (hkd.cell HV.out id);clear hkd;have HLs:=HL;have HCs:=HC;have HAs:=HA;have HVs:=HV;refine tnd 0 (.agg lc.toArray) rfl (yieldsIf_load_mid (by rfl) 192 (.tmp 5) rfl b5 0 rfl lc _ (fun w' h=>aD ((HSE.out w' h).blk (HLs.out.b 0) id)) Tryz.underlying192 rfl (by rw[hlc];exact fV)) hS ?_;refine tna 1 (.pointer (some ⟨c,0,none⟩)) rfl hS ?_;refine tnb 2 (.pointer (some ⟨c,0,none⟩)) rfl hS ?_;refine tnb 3 (.pointer (some ⟨c,2,none⟩)) rfl hS ?_;refine tnd 4 (.agg (pid.map vb).toArray) rfl (yieldsIf_load_mid (by rfl) 25 (.tmp 47) rfl c 2 rfl (pid.map vb) _ (fun w' h=>(HSE.out w' h).rangeAt (aZ.id_ HCs.out)) Tryz.underlying25 rfl (by rw[hpl];exact uH)) hS ?_;refine tna 5 (.int .i64 (d:Int)) rfl hS ?_;refine tna 6 (.int .i64 0) rfl hS ?_;refine wA9 7 ?_;go_wp2_with fail;refine((by rw[←HLC.out];exact IE w6 (dD pid d D cp Z) pid (d:Int) 0 HPID.out HPID.out:Calls _ _ _ w6 (aX w6 (pR (dD pid d D cp Z) pid (d:Int) 0)))).mono ?_;rintro e w7 ⟨rfl,hk⟩;have hS1:=HSI.out _ ((HSE.out _ hS).trans hk);replace HL:=kL HL hk;replace HC:=O (HC.out.keep0 hk);replace HA:=O (HA.out.keep0 hk);replace HV:=O (hk.cell HV.out id);clear hS hk;rw[HTB.out];go_wp2_with fail;refine⟨hS1,?_⟩;refine tna 8 (.bool true) rfl hS1 ?_;refine wpAnyH_done (by kernel_rfl) ?_ _;clear hS1 HSE HSI HLs HCs HAs HVs;have HR:Hid (aA aB w w7):=O HL.out.keep;clear HL HA HC;go_wp2;go_ret;exact aK.of HR.out
structure gE(w:World)(c a m lb:Nat)(pid:List UInt8)(cp:Nat)(gv:Value)(t:Lst)(B:Nat->Prop)(D Z:Nat)(Mm:Nat->Nat->List UInt8)(nw:Nat):Prop where
 cor:aZ w c a m pid cp (.slice (some ⟨lb,0,none⟩) D D) gv t
 arr:bM w a B D Z Mm nw
 mir:eL w m a
 liv:w.heap[lb]?=some (.cells (Array.replicate D (.int .i64 0)) 3 (0,0))
 cpb:1≤cp/\cp≤3/\cp≤D
 lab:∀d,d<D->Mm d 0=dW (dD pid d D cp Z)
theorem gE.keep{T:Nat->Prop}{w':World}{w:World}{c a m lb:Nat}{pid:List UInt8}{cp:Nat}{gv:Value}{t:Lst}{D Z nw:Nat}{B:Nat->Prop}{Mm:Nat->Nat->List UInt8}(h:gE w c a m lb pid cp gv t B D Z Mm nw)(k:aA T w w')(hT:∀i,T i->i≠c/\i≠m/\i≠lb/\¬B i/\¬t.Own i):gE w' c a m lb pid cp gv t B D Z Mm nw:=
 ⟨h.cor.keep k (fun e=>(hT _ e).1 rfl) fun i e=>(hT i e).2.2.2.2,h.arr.keep k fun i e=>(hT i e).2.2.2.1,k.blk h.mir fun e=>(hT _ e).2.1 rfl,k.blk h.liv fun e=>(hT _ e).2.2.1 rfl,h.cpb,h.lab⟩
theorem gE.keep0{w':World}{w:World}{c a m lb:Nat}{pid:List UInt8}{cp:Nat}{gv:Value}{t:Lst}{D Z nw:Nat}{B:Nat->Prop}{Mm:Nat->Nat->List UInt8}(h:gE w c a m lb pid cp gv t B D Z Mm nw)(k:aA aB w w'):gE w' c a m lb pid cp gv t B D Z Mm nw:=h.keep k fun _ h=>h.elim
theorem oW{w:World}{v:Value}{n k:Nat}{xs:List Value}{u:Value}(h:Rd w 1 v n xs)(hk:xs[k]?=some u):∃g o cap,v=.slice (some ⟨g,o,none⟩) n cap/\w.cell? ⟨g,o+k,none⟩=some u:=by
 obtain⟨h0,a,cap,rfl,h1,h2,h3,h4⟩:=h;obtain⟨g,o,rfl,hc⟩:=h4 (by have:=(List.getElem?_eq_some_iff.1 hk).1;omega);exact⟨g,o,cap,rfl,hc k u hk⟩
theorem kY{k n:Nat}(h:k<n):(qJ n)[k]?=some (.int .i64 (k:Int)):=by
 unfold qJ;rw[List.getElem?_map,List.getElem?_range h];rfl
def kB(k:Nat):List Value:=List.replicate k (.bool true)
theorem Gc(k:Nat):kB (k+1)=kB k++[.bool true]:=by unfold kB;rw[List.replicate_succ']
def Mr(w:World)(D:Nat)(e:Ending)(w':World):Prop:=∃v,e=.returned v/\w'.ownsRow w.heap.size 4 1 v D (kB D)/\aA aB w w'
theorem As{w:World}{c a m lb:Nat}{pid:List UInt8}{cp:Nat}{gv:Value}{t:Lst}{D Z nw:Nat}{B:Nat->Prop}{Mm:Nat->Nat->List UInt8}(h:gE w c a m lb pid cp gv t B D Z Mm nw):Calls Tryz.prog 53 #[.pointer (some ⟨c,0,none⟩)] w (Mr w D):=by
 have hbd:=h.arr.bd;have HB:=O h;have HL:=lN w;clear h;go_in;go_wp2_with fail;refine(qK HB.out.cor HB.out.arr).mono ?_;rintro e w1 ⟨v0,rfl,ho,hk⟩;obtain⟨g,o,dc,rfl,-⟩:=oW (Rd.of_owns ho) (kY (show 0<D by omega))
 have HDO:=O (fun(k:Nat) (hk:k<D)=>show ∃cap',Value.slice (some ⟨g,o,none⟩) D dc=.slice (some ⟨g,o,none⟩) D cap'/\World.cell? w1 ⟨g,o+k,none⟩=some (.int .i64 (k:Int)) from by
  obtain⟨g',o',cap',he,hc⟩:=oW (Rd.of_owns ho) (kY hk);cases he
  exact⟨_,rfl,hc⟩)
 clear ho;replace HL:=kL HL hk;replace HB:=O (HB.out.keep0 hk);clear hk;go_wp2_with fail;have HK0:=O HL.out.keep;clear HL
 go_loopw [3,5,9] (fun v _ i wr=>∃(k:Nat) (p:Option Addr) (cq:Nat),k≤D/\i=.int .i64 k/\v=.slice p k cq/\Hid (aA aB w1 wr)/\Hid (wr.ownsRow w1.heap.size 4 1 (.slice p k cq) k (kB k))) (fun _ _ i _=>D-(intOf i).toNat)
 case atStart=>exact⟨0,none,0,by omega,rfl,rfl,O (aA.refl _ _),O (World.ownsRow_nil _ _ _ _)⟩
 case round =>
  obtain⟨k,p,cq,hk,rfl,rfl,HK1,HO⟩:=hrel
  by_cases hk8:k<D
  ·have HL:=lN wr
   have HW:=O HK1.out.size;have hk0:(0:Int)≤(k:Int):=by omega
   have hk1:(k:Int)<(D:Int):=by omega
   have HX:Hid (World.cell? wr ⟨g,o+k,none⟩=some (.int .i64 (k:Int))):=O (by obtain⟨_,_,hc⟩:=HDO.out k hk8;exact HK1.out.cell hc id);have HB2:=O (HB.out.keep0 HK1.out);have c1:wr.cell? ⟨g,o+k,none⟩=some (.int .i64 (k:Int)):=HX.out;go_wp2_with fail;clear c1;refine(oV HB2.out.arr HB2.out.cor HB2.out.liv hk8 HB2.out.cpb (HB2.out.lab _ hk8)).mono ?_;rintro e w2 ⟨rfl,hk⟩;replace HL:=kL HL hk;replace HO:=O (hk.owns HO.out fun _ _=>id);replace HB2:=O (HB2.out.keep0 hk);replace HX:=O (hk.cell HX.out id);clear hk
   go_wp2_with ((with_reducible show WL _ _);refine bs1 116 4 (.tmp 16) (.bool true) (by kernel_rfl) (by kernel_rfl) Tryz.underlying116 rfl ?_)
   intro b17 w3 hbs hk hb;replace HL:=lW HL hbs hk hb;replace HO:=O (hk.owns HO.out fun _ _=>id);replace HB2:=O (HB2.out.keep0 hk);replace HX:=O (hk.cell HX.out id);clear hbs hk hb;have hrd_:Rd w3 1 (.slice (some ⟨b17,0,none⟩) 1 1) 1 [.bool true]:=eE (n:=1) (size:=1) (HL.out.b 0) rfl (by unfold maxLen;omega);have HRD_:=O hrd_;have HOE:=HO;have HKE:=O HL.out.keep;clear hrd_
   go_wp2_with (first
    | (at_builtin;refine aN rfl (.tmp 13) (.tmp 17) 116 rfl w1.heap.size 4 (.bool false) 1 1 Tryz.underlying116 IF rfl (by decide) (.slice p k cq) k (kB k) rfl HO.out (.slice (some ⟨b17,0,none⟩) 1 1) 1 [.bool true] rfl HRD_.out (by intro u hu;rcases List.mem_singleton.1 hu with rfl;rfl) (by unfold maxLen;omega) (by omega) (Nat.le_trans HW.out HKE.out.size) ?_))
   intro v2 w8 ho5 hk5 hn5 hb5;obtain⟨g2,c2,rfl⟩:=ownsRow_succ ho5;have HO5:=O ho5;have HK5:=O hk5;clear ho5 hk5 hn5 hb5 HRD_ HL HO HB2 HX;go_wp2_with fail;have HK8:=O (xI HK1.out HOE.out HKE.out HK5.out)
   go_roundw
   case rel=>exact⟨k+1,some ⟨g2,0,none⟩,c2,by omega,by go_num,rfl,HK8,by rw[Gc];exact HO5⟩
   case measure=>simp[intOf];omega
  ·obtain rfl:k=D:=by omega
   go_wp2;go_ret;exact⟨_,rfl,aV HO.out HK0.out.size,HK0.out.trans HK1.out⟩
theorem Ms:(Tryz.prog.info? 82).map (fun i=>(i.zero,i.size,i.bytes))=some (some (.agg #[.int .i64 0,.int .i64 0]),2,16):=by kernel_rfl
def yX(w:World)(l:List Ad)(e:Ending)(w':World):Prop:=∃v',e=.returned v'/\w'.ownsRow w.heap.size 82 2 v' l.length (aQ l)/\aA aB w w'
theorem N7(w:World):Sem.run Tryz.prog (binOp .eql 23 (.slice none 0 0) (.slice none 0 0)) w=.ok (.bool true) w:=by kernel_rfl
theorem Nv(w:World)(a:Addr)(n c:Nat):Sem.run Tryz.prog (binOp .eql 23 (.slice (some a) n c) (.slice none 0 0)) w=.ok (.bool false) w:=by kernel_rfl
theorem nG(w:World)(v:Value)(l:List Ad)(hr:Rd w 2 v l.length (aQ l))(hl:l.length≤65536):Calls Tryz.prog 50 #[v] w (yX w l):=by
 obtain⟨h0,oa,ca,hv,h1,h2,h3,h4⟩:=hr;have hr:Rd w 2 v l.length (aQ l):=⟨h0,oa,ca,hv,h1,h2,h3,h4⟩
 subst hv;cases oa with
 | none =>
   obtain rfl:ca=0:=h3 rfl;have hln:l.length=0:=by omega
   have hx:l=[]:=List.eq_nil_of_length_eq_zero hln;subst hx;clear h0 h1 h2 h3 h4 hr hl hln;have hns:=N7 w;go_in;go_wp2;go_ret;exact⟨_,rfl,World.ownsRow_nil _ _ _ _,aA.refl _ _⟩
 | some oa =>
   obtain⟨w3,hw3,k3,hb3,s3⟩:=aT w #[] 82;have HK3:=O k3;have HS3:=O s3;have HO3:Hid (w3.ownsRow w.heap.size 82 2 (.slice (some ⟨w.heap.size,0,none⟩) 0 0) 0 []):=O (by rw[←hw3];exact World.ownsRow_made w #[] 0 (Nat.le_refl _) (by unfold maxLen;omega) rfl);have HR3:=O (hr.keep k3 fun _ _=>id);have HPO:Hid (∀v' w',w'.ownsRow w.heap.size 82 2 v' l.length (aQ l)->aA aB w w'->yX w l (.returned v') w'):=O (fun v' w' a b=>⟨v',rfl,a,b⟩);obtain⟨n,hn⟩:∃n,l.length=n:=⟨_,rfl⟩
   obtain⟨cs,hcs⟩:∃cs,aQ l=cs:=⟨_,rfl⟩
   have HO1:Hid (∀u∈cs,u.oneCell'=true):=O (by rw[←hcs];exact wB _);rw[hn,hcs] at HR3 HPO;rw[hn] at hl ⊢;have hsz:w.heap.size≤w3.heap.size:=k3.size;clear h0 h1 h2 h3 h4 hr k3 hb3 s3 hn hcs;have hns:=Nv w oa n ca;go_in
   go_wp2_with (first
    | (at_builtin;refine aN rfl (.tmp 5) (.tmp 6) 23 rfl w.heap.size 82 (.agg #[.int .i64 0,.int .i64 0]) 2 16 Tryz.underlying23 Ms rfl (by decide) (.slice (some ⟨w.heap.size,0,none⟩) 0 0) 0 ([]) rfl HO3.out (.slice (some oa) n ca) n cs rfl HR3.out HO1.out (by unfold maxLen;omega) (by omega) (by omega) ?_
       intro v' w4 ho4 hk4 hn4 hbo4;rw[Nat.zero_add,List.nil_append] at ho4;have HO4:=O ho4;have HK4:=O (HK3.out.trans' hk4 (fun _ _ h=>h) (U:=aB) (fun i hi e=>by have e':w.heap.size=i:=Option.some.inj e;omega));clear ho4 hk4 hn4 hbo4))
   go_ret;exact HPO.out _ _ HO4.out HK4.out
theorem Gd{w:World}{c a m lb:Nat}{pid:List UInt8}{cp:Nat}{gv:Value}{t:Lst}{D Z nw:Nat}{B:Nat->Prop}{Mm:Nat->Nat->List UInt8}(h:gE w c a m lb pid cp gv t B D Z Mm nw)(x:Ad)(hx:dZ x D Z):Calls Tryz.prog 157 #[.pointer (some ⟨c,0,none⟩),.agg (aO x).toArray] w (aK w (.bool true)):=by
 have HM:Hid (eV x D Z=true):=O ((zZ h.arr.bd).2 hx);have HB:=O h;have HL:=lN w;clear h hx;go_in
 go_wp2_with ((with_reducible show WL _ _);refine bxL HL 82 (.tmp 1) ((aO x).toArray) ?_)
 intro b3 w1 hk HL;replace HB:=O (HB.out.keep0 hk);clear hk;go_wp2_with fail;refine dwA aB (by kernel_rfl) ?_;intro w2 S HSE HSI hS hkd;replace HL:=kL HL hkd;replace HB:=O (HB.out.keep0 hkd);clear hkd;have HLs:=HL;have HBs:=HB;refine tnd 0 (.agg (aO x).toArray) rfl (yieldsIf_load_mid (by rfl) 82 (.tmp 3) rfl b3 0 rfl (aO x) _ (fun w' h=>aD ((HSE.out w' h).blk (HLs.out.b 0) id)) bS rfl (by rw[bC];exact iM)) hS ?_;refine tna 1 (.pointer (some ⟨c,0,none⟩)) rfl hS ?_;refine tnb 2 (.pointer (some ⟨c,0,none⟩)) rfl hS ?_;refine tnb 3 (.pointer (some ⟨c,0,none⟩)) rfl hS ?_;refine tnd 4 (.pointer (some ⟨a,0,none⟩)) rfl (.inl ⟨by rfl,fun w' hw'=>by have c:World.cell? w' ⟨c,0,none⟩=some (.pointer (some ⟨a,0,none⟩)):=(HSE.out w' hw').cell (aZ.c0 HBs.out.cor) id;go_simp⟩) hS ?_;refine tna 6 (.pointer (some ⟨c,0,none⟩)) rfl hS ?_;refine tnb 7 (.pointer (some ⟨c,0,none⟩)) rfl hS ?_;refine tnb 8 (.pointer (some ⟨c,0,none⟩)) rfl hS ?_;refine tnd 9 (.pointer (some ⟨a,0,none⟩)) rfl (.inl ⟨by rfl,fun w' hw'=>by have c:World.cell? w' ⟨c,0,none⟩=some (.pointer (some ⟨a,0,none⟩)):=(HSE.out w' hw').cell (aZ.c0 HBs.out.cor) id;go_simp⟩) hS ?_;refine wA9 5 ?_;go_wp2_with fail;refine(kK HB.out.arr).mono ?_;rintro e w3 ⟨rfl,hk⟩;have hS1:=HSI.out _ ((HSE.out _ hS).trans hk);replace HL:=kL HL hk;replace HB:=O (HB.out.keep0 hk);clear hS hk;go_wp2_with fail;refine⟨hS1,?_⟩;refine wA9 10 ?_;go_wp2_with fail;refine(uM HB.out.arr).mono ?_;rintro e w4 ⟨rfl,hk⟩;have hS2:=HSI.out _ ((HSE.out _ hS1).trans hk);replace HL:=kL HL hk;replace HB:=O (HB.out.keep0 hk);clear hS1 hk;go_wp2_with fail;refine⟨hS2,?_⟩;refine wA9 11 ?_;go_wp2_with fail;refine(EG x (D:Int) (Z:Int) w4).mono ?_;rintro e w5 ⟨rfl,hk⟩;have hS3:=HSI.out _ ((HSE.out _ hS2).trans hk);replace HL:=kL HL hk;replace HB:=O (HB.out.keep0 hk);clear hS2 hk;rw[HM.out];go_wp2_with fail;refine⟨hS3,?_⟩;refine tna 12 (.bool true) rfl hS3 ?_;refine wpAnyH_done (by kernel_rfl) ?_ _;clear hS3 HSE HSI HLs HBs;go_wp2;go_ret;exact aK.of HL.out.keep
theorem IG{w:World}{c a m lb:Nat}{pid:List UInt8}{cp:Nat}{gv:Value}{t:Lst}{D Z nw:Nat}{B:Nat->Prop}{Mm:Nat->Nat->List UInt8}(h:gE w c a m lb pid cp gv t B D Z Mm nw){bc:Nat}(hb:w.heap[bc]?=some (.cells #[.pointer (some ⟨c,0,none⟩)] 39 (0,0)))(x:Ad)(hx:dZ x D Z):Calls Tryz.prog 156 #[.agg (aO x).toArray,.pointer (some ⟨bc,0,none⟩)] w (aK w (.bool false)):=by
 have HBC:=O (cell_of_one hb);have HX:=O hx;have HB:=O h;have HL:=lN w;clear h hx hb;go_in
 go_wp2_with ((with_reducible show WL _ _);refine bxL HL 82 (.tmp 0) ((aO x).toArray) ?_)
 intro b2 w1 hk HL;replace HB:=O (HB.out.keep0 hk);replace HBC:=O (hk.cell HBC.out id);clear hk;have c1:w1.cell? ⟨bc,0,none⟩=some (.pointer (some ⟨c,0,none⟩)):=HBC.out
 go_wp2_with ((with_reducible show WL _ _);refine wpList_load_mid rfl 82 (.tmp 2) rfl b2 0 rfl (aO x) _ (aD (HL.out.b 0)) bS rfl (by rw[bC];exact iM) ?_)
 clear c1;refine(Gd HB.out x HX.out).mono ?_;rintro e w2 ⟨rfl,hk⟩;replace HL:=kL HL hk;replace HB:=O (HB.out.keep0 hk);replace HBC:=O (hk.cell HBC.out id);clear hk;go_wp2;go_ret;exact aK.of HL.out.keep
theorem II{w:World}{c a m lb:Nat}{pid:List UInt8}{cp:Nat}{gv:Value}{t:Lst}{D Z nw:Nat}{B:Nat->Prop}{Mm:Nat->Nat->List UInt8}(h:gE w c a m lb pid cp gv t B D Z Mm nw){bc:Nat}(hb:w.heap[bc]?=some (.cells #[.pointer (some ⟨c,0,none⟩)] 39 (0,0)))(x:Ad)(hx:dZ x D Z):Calls Tryz.prog 159 #[.agg (aO x).toArray,.pointer (some ⟨bc,0,none⟩)] w (aK w (.bool false)):=by
 have HBC:=O (cell_of_one hb);obtain⟨d,s,rfl,hd,hs5,hsZ⟩:=lO hx;have HB:=O h;have HL:=lN w;have HD:=O hd;clear h hx hb;go_in
 go_wp2_with ((with_reducible show WL _ _);refine bxL HL 82 (.tmp 0) ((aO ⟨(d:Int),(s:Int)⟩).toArray) ?_)
 intro b2 w1 hk HL;replace HB:=O (HB.out.keep0 hk);replace HBC:=O (hk.cell HBC.out id);clear hk;have c1:w1.cell? ⟨bc,0,none⟩=some (.pointer (some ⟨c,0,none⟩)):=HBC.out;have c2:w1.cell? ⟨b2,0,none⟩=some (.int .i64 (d:Int)):=(aC (i:=0) (HL.out.b 0) rfl)
 go_wp2_with fail;clear c1 c2;refine(oV HB.out.arr HB.out.cor HB.out.liv HD.out HB.out.cpb (HB.out.lab _ HD.out)).mono ?_;rintro e w2 ⟨rfl,hk⟩;replace HL:=kL HL hk;replace HB:=O (HB.out.keep0 hk);replace HBC:=O (hk.cell HBC.out id);clear hk;go_wp2;go_ret;exact aK.of HL.out.keep
theorem yY(w:World)(v:Value)(l:List Ad)(hr:Rd w 2 v l.length (aQ l))(h8:l.length≤65536)(gf bc:Nat)(eg:∀args w,(callFunc gf args).run Tryz.prog w=.ok (.enter gf args) w)(hno:∀x∈l,∀w',aA aB w w'->Calls Tryz.prog gf #[.agg (aO x).toArray,.pointer (some ⟨bc,0,none⟩)] w' (aK w' (.bool false))) :
 Calls Tryz.prog 206 #[v,.func (.func gf) #[] #[.pointer (some ⟨bc,0,none⟩)]] w (aK w (.int .i64 (-1))):=by
 obtain⟨oa,ca,rfl,-,-⟩:=hr.form;obtain⟨n,hn⟩:∃n,l.length=n:=⟨_,rfl⟩
 have HN:=O hn;rw[hn] at hr h8 ⊢;have hnc:n≤ca:=by obtain⟨_,a',c',h1,h2,h3,-⟩:=hr;cases h1;exact h2
 have HR:=O hr;have HNO:=O hno;clear hr hno hn;go_in;go_wp2_with fail
 go_loopw [5,8] (fun _ i wr=>∃k:Nat,k≤n/\i=.int .i64 k/\Hid (aA aB w wr)) (fun _ i _=>n-(intOf i).toNat)
 case atStart=>exact⟨0,by omega,rfl,O (aA.refl _ _)⟩
 case round =>
  obtain⟨k,hk,rfl,HK⟩:=hrel
  by_cases hk8:k<n
  ·obtain⟨x,hx⟩:∃x,l[k]?=some x:=⟨l[k]'(by rw[HN.out];exact hk8),List.getElem?_eq_getElem _⟩
   have hrr:=HR.out;rw[←HN.out] at hrr;obtain⟨g,o,cap',hv,hat⟩:=iX hrr hx;obtain rfl:oa=some ⟨g,o,none⟩:=by cases hv;rfl
   have HX:=O (HK.out.rangeAt hat);have HC:=O (HNO.out x (List.mem_of_getElem? hx) wr HK.out);have HL:=lN wr;have hk0:(0:Int)≤(k:Int):=by omega
   have hk1:(k:Int)<(n:Int):=by omega
   have hkc:(k:Int)≤(ca:Int):=by omega
   clear hx hrr hat hv
   go_wp2_with ((with_reducible show WL _ _);refine wpList_load_mid rfl 82 (.tmp 14) rfl g (o+k*2) rfl (aO x) _ HX.out bS rfl (by rw[bC];exact iM) ?_)
   refine(HC.out).mono ?_;rintro e w1 ⟨rfl,hk⟩;replace HL:=kL HL hk;replace HX:=O (hk.rangeAt HX.out);clear hk;go_wp2_with fail;have HK8:=O (HK.out.trans HL.out.keep);clear HL HC HX
   go_roundw
   case rel=>exact⟨k+1,by omega,by go_num,HK8⟩
   case measure=>simp[intOf];omega
  ·obtain rfl:k=n:=by omega
   go_wp2;go_ret;exact aK.of HK.out
def vK(Q:Exit->Act->World->Prop):Exit->Act->World->Prop
 | .panic _,_,_=>False
 | e,a,w=>Q e a w
theorem noP{Q:Exit->Act->World->Prop}{a:Act}{w:World}(h:Q .normal a w):vK Q .normal a w:=h
theorem lR{P:Program}{ops:Array Oper}{Q:Exit->Act->World->Prop}{S:World->Prop}{id:Nat}{a:Act}{w:World}(hm:P.follows .mixedOrders=true)
 (h:wpAnyH P .any ops (vK Q) S ops.size (Array.replicate ops.size false) a { w with drawn:=w.drawn+1 }):(Code.region id ops true).wp P Q a w:=
 wp_mono (wp_region_held hm h) fun e a w h=>by
  cases e<;>first|exact h|exact h.elim
theorem dwB{P:Program}{ops:Array Oper}{Q:Exit->Act->World->Prop}{id:Nat}{a:Act}{w:World}(U:Nat->Prop)(hm:P.follows .mixedOrders=true)(h:∀wd (S:World->Prop),Hid (∀w',S w'->aA U wd w')->Hid (∀w',aA U wd w'->S w')->S wd->aA aB w wd->wpAnyH P .any ops (vK Q) S ops.size (Array.replicate ops.size false) a wd):(Code.region id ops true).wp P Q a w:=
 have hd:=(aA.refl aB w).drew
 lR (S:=fun w'=>aA U w.drew w') hm (h w.drew (fun w'=>aA U w.drew w') (O fun _ h=>h) (O fun _ h=>h) (aA.refl _ _) hd)
theorem BO(w:World)(v:Value)(l:List Ad)(hr:Rd w 2 v l.length (aQ l))(h8:l.length≤65536)(gf bc:Nat)(eg:∀args w,(callFunc gf args).run Tryz.prog w=.ok (.enter gf args) w)(hno:∀x∈l,∀w',aA aB w w'->Calls Tryz.prog gf #[.agg (aO x).toArray,.pointer (some ⟨bc,0,none⟩)] w' (aK w' (.bool false))) :
 Calls Tryz.prog 155 #[v,.func (.func gf) #[] #[.pointer (some ⟨bc,0,none⟩)]] w (aK w (.bool false)):=by
 have HI:=O (yY w v l hr h8 gf bc eg hno);have HL:=lN w;clear hr hno h8;go_in;go_wp2_with fail;refine(HI.out).mono ?_;rintro e w1 ⟨rfl,hk⟩;replace HL:=kL HL hk;clear hk;go_wp2;go_ret;exact aK.of HL.out.keep
theorem Ek(w:World)(v:Value)(l:List Ad)(hr:Rd w 2 v l.length (aQ l))(h8:l.length≤65536)(gf bc:Nat)(eg:∀args w,(callFunc gf args).run Tryz.prog w=.ok (.enter gf args) w)(hno:∀x∈l,∀w',aA aB w w'->Calls Tryz.prog gf #[.agg (aO x).toArray,.pointer (some ⟨bc,0,none⟩)] w' (aK w' (.bool false))) :
 Calls Tryz.prog 158 #[v,.func (.func gf) #[] #[.pointer (some ⟨bc,0,none⟩)]] w (aK w v):=by
 have HI:=O (yY w v l hr h8 gf bc eg hno);have HL:=lN w;clear hr hno h8;go_in;go_wp2_with fail;refine(HI.out).mono ?_;rintro e w1 ⟨rfl,hk⟩;replace HL:=kL HL hk;clear hk;go_wp2;go_ret;exact aK.of HL.out.keep
theorem Dl(v v':Value)(p:Pt):spl (aE v p).toArray 0 [v']=(aE v' p).toArray:=by
 unfold aE spl spl;simp
def xJ(w:World)(p:Pt)(e:Ending)(w':World):Prop:=∃v,e=.returned (.tuple #[.agg (aE v p).toArray,.int .i64 0])/\w'.ownsRow w.heap.size 82 2 v p.addrs.length (aQ p.addrs)/\aA aB w w'
theorem KD{w:World}{c a m lb:Nat}{pid:List UInt8}{cp:Nat}{gv:Value}{t:Lst}{D Z nw:Nat}{B:Nat->Prop}{Mm:Nat->Nat->List UInt8}(h:gE w c a m lb pid cp gv t B D Z Mm nw)(pv:Value)(p:Pt)(hp:PtV w pv p)(hmay:p.may=true)(hh:p.hole=false)(hpl:∀x∈p.addrs,dZ x D Z)(hlen:p.addrs.length≤65536):Calls Tryz.prog 110 #[.pointer (some ⟨c,0,none⟩),.agg (aE pv p).toArray] w (xJ w p):=by
 have hpc:=aJ (v:=pv) hp.sum;obtain⟨oa,ca,hpv,-,-⟩:=hp.rd.form;obtain⟨pc,hpcs⟩:∃l,aE pv p=l:=⟨_,rfl⟩
 have HOP:Hid (∀u∈pc,u.oneCell'=true):=O (by rw[←hpcs,hpv];exact cS p);have HPS:=O hpcs;have HP0:Hid (∃r,pc=pv::r):=O ⟨_,hpcs.symm⟩;rw[hpcs] at hpc ⊢;have HB:=O h;have HPT:=O hp;have HMA:=O hmay;have HH:=O hh;have HPL:=O hpl;have HLN:=O hlen;have HL:=lN w;clear h hp hpcs hmay hh hpl hlen hpv;have HB0:=HB;have HPT0:=HPT;go_in
 go_wp2_with ((with_reducible show WL _ _);refine bxL HL 39 (.tmp 0) (#[.pointer (some ⟨c,0,none⟩)]) ?_)
 intro b2 w1 hk HL;replace HB:=O (HB.out.keep0 hk);replace HPT:=O (HPT.out.keep hk fun _ _=>id);clear hk
 go_wp2_with ((with_reducible show WL _ _);refine bxL HL 27 (.tmp 1) (pc.toArray) ?_)
 intro b3 w2 hk HL;replace HB:=O (HB.out.keep0 hk);replace HPT:=O (HPT.out.keep hk fun _ _=>id);clear hk
 go_wp2_with ((with_reducible show WL _ _);refine alL HL 27 (.agg aH.toArray) (aH.toArray) bG ?_)
 intro b4 w3 hk HL;replace HB:=O (HB.out.keep0 hk);replace HPT:=O (HPT.out.keep hk fun _ _=>id);clear hk;have c1:w3.cell? ⟨b2,0,none⟩=some (.pointer (some ⟨c,0,none⟩)):=(aC (i:=0) (HL.out.b 2) rfl)
 go_wp2_with fail;clear c1;refine(qI HB.out.cor HB.out.arr).mono ?_;rintro e w4 ⟨rfl,hk⟩;replace HL:=kL HL hk;replace HB:=O (HB.out.keep0 hk);replace HPT:=O (HPT.out.keep hk fun _ _=>id);clear hk
 go_wp2_with ((with_reducible show WL _ _);refine wpList_load_mid rfl 27 (.tmp 3) rfl b3 0 rfl pc _ (aD (HL.out.b 1)) aF rfl (szP9 hpc) ?_)
 refine((by rw[←HPS.out];exact jX w4 pv p HPT.out:Calls _ _ _ w4 (lL w4 p.may))).mono ?_;rintro e w5 ⟨rfl,hk⟩;replace HL:=kL HL hk;replace HB:=O (HB.out.keep0 hk);replace HPT:=O (HPT.out.keep hk fun _ _=>id);clear hk;rw[HMA.out]
 go_wp2_with ((with_reducible show WL _ _);refine aM (by rfl) 27 (.tmp 3) rfl b3 0 rfl pc _ (aD (HL.out.b 1)) aF rfl (szP9 hpc) ?_)
 refine((by rw[←HPS.out];exact cJ w5 pv p HPT.out:Calls _ _ _ w5 (aX w5 p.hole))).mono ?_;rintro e w6 ⟨rfl,hk⟩;replace HL:=kL HL hk;replace HB:=O (HB.out.keep0 hk);replace HPT:=O (HPT.out.keep hk fun _ _=>id);clear hk;rw[HH.out];have c1:w6.cell? ⟨b3,0,none⟩=some (pv):=(by obtain⟨r,e⟩:=HP0.out;exact aC (i:=0) (HL.out.b 1) (by rw[e];rfl))
 go_wp2_with fail;clear c1;refine(BO w6 pv p.addrs HPT.out.rd HLN.out 156 b2 (enters_of Tryz.func156 (by kernel_rfl) rfl) (fun x hx w' k=>IG (HB.out.keep0 k) (k.blk (HL.out.b 2) id) x (HPL.out x hx))).mono ?_;rintro e w7 ⟨rfl,hk⟩;replace HL:=kL HL hk;replace HB:=O (HB.out.keep0 hk);replace HPT:=O (HPT.out.keep hk fun _ _=>id);clear hk;have c1:w7.cell? ⟨b3,0,none⟩=some (pv):=(by obtain⟨r,e⟩:=HP0.out;exact aC (i:=0) (HL.out.b 1) (by rw[e];rfl))
 go_wp2_with fail;clear c1;have HSZ:=O HL.out.keep.size;have HB3:=O (HL.out.lt 1).2;have HB4:=O (HL.out.lt 0).2;refine(nG w7 pv p.addrs HPT.out.rd HLN.out).mono ?_;rintro e w8 ⟨v1,rfl,ho,hk⟩;obtain⟨aa1,ca1,rfl,-,-⟩:=(Rd.of_owns ho).form;replace HL:=kL HL hk;replace HB:=O (HB.out.keep0 hk);replace HPT:=O (HPT.out.keep hk fun _ _=>id);clear hk;have HLB:=O (fun(i:Nat) (hi:(Value.slice aa1 p.addrs.length ca1).ownBlock=some i)=>show w7.heap.size≤i from aS ho hi);have HO:=O (aV ho HSZ.out);clear ho;go_wp2_with fail;refine(Ek w8 (.slice aa1 p.addrs.length ca1) p.addrs (Rd.of_owns HO.out) HLN.out 159 b2 (enters_of Tryz.func159 (by kernel_rfl) rfl) (fun x hx w' k=>II (HB.out.keep0 k) (k.blk (HL.out.b 2) id) x (HPL.out x hx))).mono ?_;rintro e w9 ⟨rfl,hk⟩;replace HL:=kL HL hk;replace HB:=O (HB.out.keep0 hk);replace HPT:=O (HPT.out.keep hk fun _ _=>id);replace HO:=O (hk.owns HO.out fun _ _=>id);clear hk
 go_wp2_with ((with_reducible show WL _ _);refine sta 23 (.tmp 32) (.tmp 31) b3 0 ([.slice aa1 p.addrs.length ca1]) (HL.out.b 1) (by first|decide|(rw[rfl];exact Nat.le_refl _)|simp[hpc]) (by kernel_rfl) (one9) ?_)
 intro wa hk hb;have hpd:(aE (.slice aa1 p.addrs.length ca1) p).length=35:=aJ HPT0.out.sum;obtain⟨pd,hpde⟩:∃l,aE (.slice aa1 p.addrs.length ca1) p=l:=⟨_,rfl⟩
 have HPD:=O hpde;have HOD:Hid (∀u∈pd,u.oneCell'=true):=O (by rw[←hpde];exact cS p);rw[hpde] at hpd;replace hb:wa.heap[b3]?=some (.cells pd.toArray 27 (0,0)):=by rw[hb,←HPS.out,Dl,hpde]
 clear hpde;replace HL:=O (HL.out.set 1 hk hb);replace HB:=O (HB0.out.keep0 HL.out.keep);replace HPT:=O (HPT0.out.keep HL.out.keep fun _ _=>id);replace HO:=O (hk.owns HO.out fun i hi e=>by have:=HLB.out i hi;have:=HB3.out;have:=HB4.out;omega);clear hk hb
 go_wp2_with ((with_reducible show WL _ _);first
  | refine wpList_load_mid rfl 27 (.tmp 3) rfl b3 0 rfl pd _ (aD (HL.out.b 1)) aF rfl (szP9 hpd) ?_
  | refine sta 27 (.tmp 4) (.tmp 33) b4 0 pd (HL.out.b 0) (by first|decide|(rw[hpd];exact Nat.le_refl _)|simp[hpd,aG]) (szP9 hpd) HOD.out ?_)
 intro wb hk hb;rw[aI _ _ (by first|rfl|simp[hpd,aG])] at hb;replace HL:=O (HL.out.set 0 hk hb);replace HB:=O (HB0.out.keep0 HL.out.keep);replace HPT:=O (HPT0.out.keep HL.out.keep fun _ _=>id);replace HO:=O (hk.owns HO.out fun i hi e=>by have:=HLB.out i hi;have:=HB3.out;have:=HB4.out;omega);clear hk hb;have HR:Hid (xJ w p (.returned (.tuple #[.agg pd.toArray,.int .i64 0])) wb):=O ⟨_,by rw[HPD.out],HO.out,HL.out.keep⟩;have HBK:=O (HL.out.b 0);clear HL HB HPT HO HB0 HPT0;go_wp2_with fail;refine bodyPost_ret (bI rfl _ _ b4 _ _ _ _ rfl HBK.out aF rfl (by rw[List.size_toArray,hpd];exact dF)) rfl ?_;exact HR.out
theorem nH(w:World)(c e:Nat)(er:Int)(tt:TypeId)(he:w.heap[e]?=some (.cells #[.int .i64 er] tt (0,0)))(h10:er≠10):CallsD Tryz.prog 48 #[.pointer (some ⟨c,0,none⟩),.pointer (some ⟨e,0,none⟩)] .returning w fun en u w'=>u=.returning/\aK w (.tuple #[]) en w':=by
 have HE:=O (cell_of_one he);have e1:(er == 10)=false:=by rw[beq_eq_false_iff_ne];exact h10
 have HL:=lN w;clear he
 go_enter_d Tryz.func48,Tryz.ntmps48
 have c1:w.cell? ⟨e,0,none⟩=some (.int .i64 er):=HE.out;go_wp2_with fail;clear c1;refine bodyPost_ret (results_none rfl _ _ _) rfl ?_;exact aK.of HL.out.keep
theorem xK{fn:Func}{u p:Tmp}{tp:TypeId}(h:fn.results=#[.tmp u,.cell p tp])(tmps:Array Value)(P:Program)(w:World)(a:Addr)(x:Value)(h1:tmps.getD p undef=.pointer (some a))(hx:(loadVar tp a).run P w=.ok x w) :
 (results fn tmps).run P w=.ok (.tuple #[tmps.getD u undef,x]) w:=by
 simp only[results,h];simp only[Array.getD_eq_getD_getElem?] at h1;simp[Result.andThen,asAddr,h1,hx]
theorem KE{w:World}{c a m lb:Nat}{pid:List UInt8}{cp:Nat}{gv:Value}{t:Lst}{D Z nw:Nat}{B:Nat->Prop}{Mm:Nat->Nat->List UInt8}(h:gE w c a m lb pid cp gv t B D Z Mm nw)(pv:Value)(p:Pt)(hp:PtV w pv p)(hmay:p.may=true)(hh:p.hole=false)(hpl:∀x∈p.addrs,dZ x D Z)(hlen:p.addrs.length≤65536){d s:Nat}{rest:List Ad}(hpa:p.addrs=⟨(d:Int),(s:Int)⟩::rest)(hsum:p.sum=cR (Mm d s)):Calls Tryz.prog 74 #[.pointer (some ⟨c,0,none⟩),.agg (aE pv p).toArray] w (fK w (Mm d s)):=by
 have hpc:=aJ (v:=pv) hp.sum;obtain⟨oa,ca,hpv,-,-⟩:=hp.rd.form;obtain⟨pc,hpcs⟩:∃l,aE pv p=l:=⟨_,rfl⟩
 have HOP:Hid (∀u∈pc,u.oneCell'=true):=O (by rw[←hpcs,hpv];exact cS p);have HPS:=O hpcs;have hn0:(((p.addrs.length:Nat):Int) == 0)=false:=by rw[beq_eq_false_iff_ne,hpa];simp;omega
 rw[hpcs] at hpc ⊢;obtain⟨n,hn⟩:∃n,p.addrs.length=n:=⟨_,rfl⟩
 rw[hn] at hn0;have HN:=O hn;have HB:=O h;have HPT:=O hp;have HMA:=O hmay;have HH:=O hh;have HPL:=O hpl;have HLN:=O hlen;have HPA:=O hpa;have HSM:=O hsum;have HL:=lN w;clear h hp hpcs hmay hh hpl hlen hpv hpa hsum hn
 go_enter_defers Tryz.func74,Tryz.ntmps74
 have HB0:=HB;have HPT0:=HPT
 go_wp2_with ((with_reducible show WL _ _);refine bxL HL 27 (.tmp 1) (pc.toArray) ?_)
 intro b3 w1 hk HL;replace HB:=O (HB.out.keep0 hk);replace HPT:=O (HPT.out.keep hk fun _ _=>id);clear hk
 go_wp2_with ((with_reducible show WL _ _);refine alL HL 49 (.int .i64 0) (#[.int .i64 0]) jZ ?_)
 intro b5 w2 hk HL;replace HB:=O (HB.out.keep0 hk);replace HPT:=O (HPT.out.keep hk fun _ _=>id);clear hk
 go_wp2_with ((with_reducible show WL _ _);refine wpList_load_mid rfl 27 (.tmp 3) rfl b3 0 rfl pc _ (aD (HL.out.b 1)) aF rfl (szP9 hpc) ?_)
 have HB5:=O (HL.out.lt 0).2;refine((by rw[←HPS.out];exact KD HB.out pv p HPT.out HMA.out HH.out HPL.out HLN.out:Calls _ _ _ w2 (xJ w2 p))).mono ?_;rintro e w3 ⟨v1,rfl,ho,hk⟩;obtain⟨aa1,ca1,rfl,-,-⟩:=(Rd.of_owns ho).form;have HLA:=O (fun(i:Nat) (hi:(Value.slice aa1 p.addrs.length ca1).ownBlock=some i) (e:i=b5)=>show False from by have:=aS ho hi;have:=HB5.out;omega);have HO:=O ho;clear ho;replace HL:=kL HL hk;replace HB:=O (HB.out.keep0 hk);replace HPT:=O (HPT.out.keep hk fun _ _=>id);clear hk;have hpd:(aE (.slice aa1 p.addrs.length ca1) p).length=35:=aJ HPT0.out.sum;have HPV:=O (show PtV w3 (.slice aa1 p.addrs.length ca1) p from⟨Rd.of_owns HO.out,HPT0.out.ads,HPT0.out.sum⟩);obtain⟨pd,hpde⟩:∃l,aE (.slice aa1 p.addrs.length ca1) p=l:=⟨_,rfl⟩
 have HPD:=O hpde;have HOD:Hid (∀u∈pd,u.oneCell'=true):=O (by rw[←hpde];exact cS p);have HPD0:Hid (∃r,pd=.slice aa1 n ca1::r):=O ⟨_,by rw[←HN.out];exact hpde.symm⟩;rw[hpde] at hpd;rw[hpde];clear hpde
 go_wp2_with ((with_reducible show WL _ _);refine al 27 (.agg aH.toArray) (aH.toArray) bG ?_)
 intro b6 w4 hbs hk0 hb0_
 go_wp2_with ((with_reducible show WL _ _);refine sta 27 (.tmp 6) (.tmp 12) b6 0 pd hb0_ (by first|decide|(rw[List.size_toArray,hpd];exact Nat.le_refl _)|simp[hpd,aG]) (szP9 hpd) HOD.out ?_)
 intro w5 hk hb;rw[aI _ _ (by first|rfl|(rw[List.size_toArray,hpd];rfl)|simp[hpd,aG])] at hb;replace hk:=tX hk0 hk (fun i hi e=>by omega);replace HL:=lW HL hbs hk hb;replace HB:=O (HB.out.keep0 hk);replace HPT:=O (HPT.out.keep hk fun _ _=>id);replace HPV:=O (HPV.out.keep hk fun _ _=>id);clear hbs hk hb hk0 hb0_
 go_wp2_with ((with_reducible show WL _ _);refine sta 49 (.tmp 5) (.tmp 13) b5 0 ([.int .i64 0]) (HL.out.b 1) (by simp) (by kernel_rfl) (one9) ?_)
 intro w6 hk hb;replace hb:w6.heap[b5]?=some (.cells #[.int .i64 0] 49 (0,0)):=hb;replace HL:=O (HL.out.set 1 hk hb);replace HB:=O (HB0.out.keep0 HL.out.keep);replace HPT:=O (HPT0.out.keep HL.out.keep fun _ _=>id);replace HPV:=O (HPV.out.keep hk fun i hi e=>HLA.out i hi e);clear hk hb;have c1:w6.cell? ⟨b5,0,none⟩=some (.int .i64 0):=(aC (i:=0) (HL.out.b 1) rfl)
 have c2:w6.cell? ⟨b6,0,none⟩=some (.slice aa1 n ca1):=(by obtain⟨r,e⟩:=HPD0.out;exact aC (i:=0) (HL.out.b 0) (by rw[e];rfl))
 go_wp2_with fail;clear c1 c2;have HCB:Hid (¬c=b5):=O (fun e=>by have:=lt_of_block HB0.out.cor.top;have:=(HL.out.lt 1).1;omega);go_wp2_with fail;refine dwB (fun k=>k=b5) (by kernel_rfl) ?_;intro w7 S HSE HSI hS hkd;replace HL:=kL HL hkd;replace HB:=O (HB.out.keep0 hkd);replace HPT:=O (HPT.out.keep hkd fun _ _=>id);replace HPV:=O (HPV.out.keep hkd fun _ _=>id);clear hkd;have HLs:=HL;have HBs:=HB;have HPTs:=HPT;have HPVs:=HPV;refine tna 0 (.pointer (some ⟨c,0,none⟩)) rfl hS ?_;refine tnb 1 (.pointer (some ⟨c,0,none⟩)) rfl hS ?_;refine tnb 2 (.pointer (some ⟨c,1,none⟩)) rfl hS ?_;refine tnd 3 (.pointer (some ⟨m,0,none⟩)) rfl (.inl ⟨by rfl,fun w' hw'=>by have c:World.cell? w' ⟨c,1,none⟩=some (.pointer (some ⟨m,0,none⟩)):=(HSE.out w' hw').cell (aZ.c1 HBs.out.cor) HCB.out;go_simp⟩) hS ?_;refine tnd 4 (.agg pd.toArray) rfl (yieldsIf_load_mid (by rfl) 27 (.tmp 6) rfl b6 0 rfl pd _ (fun w' h=>aD ((HSE.out w' h).blk (HLs.out.b 0) (fun e=>by exact bF (i:=1) HLs.out.nd rfl 0 (by decide) rfl e))) aF rfl (szP9 hpd)) hS ?_;refine wA9 5 ?_;go_wp2_with fail;have HSZ:=O HL.out.keep.size;have HB5:=O (HL.out.lt 1).2;refine((by rw[←HPD.out];exact Kw HB.out.arr HB.out.mir (.slice aa1 p.addrs.length ca1) p HPV.out HMA.out HH.out HPL.out HPA.out HSM.out:Calls _ _ _ w7 (fK w7 (Mm d s)))).mono ?_;rintro e w8 ⟨v2,rfl,ho,hk⟩;obtain⟨ga,gc,rfl,-,-⟩:=(Rd.of_owns ho).form;have hS1:=HSI.out _ ((HSE.out _ hS).trans hk.any);replace HL:=kL HL hk;replace HB:=O (HB.out.keep0 hk);replace HPT:=O (HPT.out.keep hk fun _ _=>id);replace HPV:=O (HPV.out.keep hk fun _ _=>id);clear hS hk;have HLB:=O (fun(i:Nat) (hi:(Value.slice ga 256 gc).ownBlock=some i) (e:i=b5)=>show False from by have:=aS ho hi;have:=HB5.out;omega);have HG:=O (aV ho HSZ.out);clear ho;go_wp2_with fail;refine⟨hS1,?_⟩;refine tnb 6 (.slice ga 256 gc) rfl hS1 ?_;refine tnb 7 (.int .i64 0) rfl hS1 ?_;refine tna 8 (.slice ga 256 gc) rfl hS1 ?_;refine wA9 9 ?_;refine sta 49 (.tmp 5) (.tmp 30) b5 0 ([.int .i64 0]) (HL.out.b 1) (by simp) (by kernel_rfl) (one9) ?_;intro w9 hk hb;replace hb:w9.heap[b5]?=some (.cells #[.int .i64 0] 49 (0,0)):=hb;have hS2:=HSI.out _ ((HSE.out _ hS1).trans' hk (fun _ _ h=>h) (fun i hi e=>(e)));clear hS1;replace HL:=O (HL.out.set 1 hk hb);replace HB:=O (HB0.out.keep0 HL.out.keep);replace HPT:=O (HPT0.out.keep HL.out.keep fun _ _=>id);replace HPV:=O (HPV.out.keep hk fun i hi e=>HLA.out i hi e);replace HG:=O (hk.owns HG.out fun i hi e=>HLB.out i hi e);clear hk hb;refine wpList_nil ?_;refine⟨hS2,?_⟩;refine wpAnyH_done (by kernel_rfl) ?_ _;clear hS2 HSE HSI HLs HBs HPTs HPVs;refine noP ?_;have HR:=O HL.out.keep;have HBK:=O (HL.out.b 1);clear HL HB HPT HB0 HPT0 HPV;go_wp2_with fail;refine leaves_cons (f:=48) (args:=#[.pointer (some ⟨c,0,none⟩),.pointer (some ⟨b5,0,none⟩)]) (by simp) (by simp[go_sem]) ?_;refine(nH w9 c b5 0 _ HBK.out (by decide)).mono ?_;rintro e u' w'' ⟨rfl,rfl,hk⟩;have c5:w''.cell? ⟨b5,0,none⟩=some (.int .i64 0):=aC (i:=0) (hk.blk HBK.out id) rfl;refine⟨_,xK rfl _ _ _ ⟨b5,0,none⟩ (.int .i64 0) rfl (by go_simp),?_⟩;exact⟨_,rfl,hk.owns HG.out fun _ _=>id,HR.out.trans hk⟩
structure gM(w:World)(c a m lb g b2:Nat)(lc:Nat->Option Nat)(pid:List UInt8)(cp:Nat)(t:Lst)(B:Nat->Prop)(D Z:Nat)(Mm:Nat->Nat->List UInt8)(nw:Nat)(Ls:List Ad):Prop where
 cor:gE w c a m lb pid cp (.pointer (some ⟨g,0,none⟩)) t B D Z Mm nw
 led:dM w 0 g b2 lc D Z Ls
 far:∀k,Own g b2 lc D k->¬B k/\k≠c/\k≠m/\k≠lb/\¬t.Own k
 top:¬B c/\¬B m/\¬B lb/\∀i,t.Own i->¬B i/\i≠c/\i≠m/\i≠lb
 many:nw+rU (bX Ls D Z)≤40000+8*t.u.txg.toNat
theorem gM.keep0{w':World}{w:World}{c a m lb g b2:Nat}{lc:Nat->Option Nat}{pid:List UInt8}{cp:Nat}{t:Lst}{D Z nw:Nat}{B:Nat->Prop}{Mm:Nat->Nat->List UInt8}{Ls:List Ad}(h:gM w c a m lb g b2 lc pid cp t B D Z Mm nw Ls)(k:aA aB w w'):gM w' c a m lb g b2 lc pid cp t B D Z Mm nw Ls:=⟨h.cor.keep0 k,h.led.keep0 k,h.far,h.top,h.many⟩
theorem IJ(D:Nat):(List.replicate D true).map Value.bool=kB D:=by unfold kB;rw[List.map_replicate]
theorem IK{w:World}{base D:Nat}{v:Value}(h:w.ownsRow base 4 1 v D (kB D)):Rd w 1 v (List.replicate D true).length ((List.replicate D true).map Value.bool):=by
 rw[IJ,List.length_replicate];exact Rd.of_owns h
theorem Ge{M:List Ad}{D Z cp:Nat}{th:List Bool}{l:List Nat}(hc:bV (bX M D Z) th cp=some l):rU (bX (M++bB M Z l) D Z)+l.length=rU (bX M D Z):=by
 rw[wF hc];have hcs:=eZ hc;refine LD l _ hcs.2.2.2.1 fun i hi=>⟨(hcs.2.2.2.2 i hi).1,?_⟩
 have:=(hcs.2.2.2.2 i hi).2;unfold eJ at this;simp only[Bool.and_eq_true,decide_eq_true_eq] at this;omega
theorem KF{D Z:Nat}(b:List UInt8)(l:List Ad)(Mm:Nat->Nat->List UInt8)(hl:∀x∈l,dZ x D Z)(d:Nat):kX b l Mm d 0=Mm d 0:=
 xE b l Mm d 0 fun x hx e=>by
  have:=(hl x hx).2.2;have:=e.2;omega
theorem gM.lt{w:World}{c a m lb g b2:Nat}{lc:Nat->Option Nat}{pid:List UInt8}{cp:Nat}{t:Lst}{D Z nw:Nat}{B:Nat->Prop}{Mm:Nat->Nat->List UInt8}{Ls:List Ad}(h:gM w c a m lb g b2 lc pid cp t B D Z Mm nw Ls){k:Nat}(hk:B k\/Own g b2 lc D k):k<w.heap.size:=
 hk.elim (fun h1=>h.cor.arr.lt h1) fun h1=>(h.led.own_lt h1).2
theorem Mt(v:Value)(p:Pt)(h:p.sum.length=32):spl (spl (spl (spl aH.toArray 0 [v]) 1 [.int .i64 p.birth]) 2 [.int .i64 p.level]) 3 (p.sum.map vb)=(aE v p).toArray:=by
 have e:spl (spl (spl aH.toArray 0 [v]) 1 [.int .i64 p.birth]) 2 [.int .i64 p.level]=(v::.int .i64 p.birth::.int .i64 p.level::(List.replicate 32 (Value.int .u8 0))).toArray:=by rfl
 rw[e];have hl:(p.sum.map vb).length=32:=by rw[List.length_map,h]
 apply Array.ext_getElem?;intro j;rw[mA _ _ _ _ (by rw[hl];simp),hl];unfold aE;rw[List.getElem?_toArray,List.getElem?_toArray]
 match j with
 | 0=>rfl
 | 1=>rfl
 | 2=>rfl
 | j+3 =>
   by_cases h3:j<32
   ·rw[if_pos ⟨by omega,by omega⟩,Nat.add_sub_cancel];rfl
   ·rw[if_neg (by omega),List.getElem?_eq_none (by simp;omega),List.getElem?_eq_none (by simp[h];omega)]
theorem gM.keepT{T:Nat->Prop}{w':World}{w:World}{c a m lb g b2:Nat}{lc:Nat->Option Nat}{pid:List UInt8}{cp:Nat}{t:Lst}{D Z nw:Nat}{B:Nat->Prop}{Mm:Nat->Nat->List UInt8}{Ls:List Ad}(h:gM w c a m lb g b2 lc pid cp t B D Z Mm nw Ls)(k:aA T w w')(hT:∀i,T i->i≠c/\i≠m/\i≠lb/\¬B i/\¬Own g b2 lc D i/\¬t.Own i):gM w' c a m lb g b2 lc pid cp t B D Z Mm nw Ls:=
 ⟨h.cor.keep k fun i e=>⟨(hT i e).1,(hT i e).2.1,(hT i e).2.2.1,(hT i e).2.2.2.1,(hT i e).2.2.2.2.2⟩,h.led.keep k fun i e=>(hT i e).2.2.2.2.1,h.far,h.top,h.many⟩
theorem gM.fresh{w:World}{c a m lb g b2:Nat}{lc:Nat->Option Nat}{pid:List UInt8}{cp:Nat}{t:Lst}{D Z nw:Nat}{B:Nat->Prop}{Mm:Nat->Nat->List UInt8}{Ls:List Ad}(h:gM w c a m lb g b2 lc pid cp t B D Z Mm nw Ls){b:Nat}(hb:w.heap.size≤b):∀i,i=b->i≠c/\i≠m/\i≠lb/\¬B i/\¬Own g b2 lc D i/\¬t.Own i:=by
 rintro i rfl;have h1:=lt_of_block h.cor.cor.top;have h2:=lt_of_block h.cor.mir;have h3:=lt_of_block h.cor.liv;exact⟨by omega,by omega,by omega,fun e=>by have:=h.lt (.inl e);omega,fun e=>by have:=h.lt (.inr e);omega,fun e=>by have:=h.cor.cor.lst.lt e;omega⟩
theorem eY{P:Program}{fn:Func}{p q:Tmp}{ty uy:TypeId}(h:fn.results=#[.cell p ty,.cell q uy])(tmps:Array Value)(w:World)(g:Nat)(t:TypeId)(cs:Array Value)(fr:Nat×Nat)(d:TypeDesc)
 (hp:tmps.getD p undef=.pointer (some ⟨g,0,none⟩)) (hg:w.heap[g]?=some (.cells cs t fr)) (hu:P.underlying ty=some d) (hd:(match d with|.struct _|.array _ _=>true|_=>false)=true) (hi:(P.info? ty).map (·.size)=some cs.size)
 (a:Addr) (x:Value) (hq:tmps.getD q undef=.pointer (some a)) (hx:(loadVar uy a).run P w=.ok x w):(results fn tmps).run P w=.ok (.tuple #[.agg cs,x]) w:=by
 simp only[Array.getD_eq_getD_getElem?] at hp hq;simp[results,h,hp,hq,asAddr,Sem.run_bind,Result.andThen,run_loadVar_row w g t ty cs fr d hg hu hd hi,hx]
def Dm(w:World)(c a m lb g b2:Nat)(lc:Nat->Option Nat)(pid:List UInt8)(cp:Nat)(t:Lst)(B:Nat->Prop)(D Z:Nat)(Mm:Nat->Nat->List UInt8)(nw:Nat)(Ls:List Ad)(lv:Nat)(bs:List UInt8)(gg:List Ad)(e:Ending)(w':World):Prop:=
 ∃v B',e=.returned (.tuple #[.agg (aE v ⟨gg,t.u.txg+1,(lv:Int),cR bs⟩).toArray,.int .i64 0])/\w'.ownsRow w.heap.size 82 2 v gg.length (aQ gg)/\gM w' c a m lb g b2 lc pid cp t B' D Z (kX bs gg Mm) (nw+gg.length) (Ls++gg)/\(∀k,B' k->B k\/w.heap.size≤k)/\(∀k,v.ownBlock=some k->¬B' k/\¬Own g b2 lc D k)/\aA (fun k=>B k\/Own g b2 lc D k) w w'
theorem Mu{w:World}{c a m lb g b2:Nat}{lc:Nat->Option Nat}{pid:List UInt8}{cp:Nat}{t:Lst}{D Z nw:Nat}{B:Nat->Prop}{Mm:Nat->Nat->List UInt8}{Ls:List Ad}(h:gM w c a m lb g b2 lc pid cp t B D Z Mm nw Ls)(ht:0≤t.u.txg/\t.u.txg<2147483648)(lv:Nat)(hlv:lv≤3)(vv:Value)(bs:List UInt8)(hbl:bs.length=256)(hb:Rd w 1 vv 256 (bs.map vb))(hvb:∀i,vv.ownBlock=some i->¬B i/\¬Own g b2 lc D i)(hc:bV (bX Ls D Z) (List.replicate D true) cp=none):Calls Tryz.prog 124 #[.pointer (some ⟨c,0,none⟩),.int .i64 (lv:Int),vv] w (aK w (.tuple #[.agg aH.toArray,.int .i64 15])):=by
 obtain⟨vp,vc,rfl,-,-⟩:=hb.form;have hbd:=h.led.bd;have hcp:=h.cor.cpb;have HCK:=O (Cu (L:=Ls) hbd (List.length_replicate (n:=D) (a:=true)) hcp.1 hcp.2.1);have HCH:=O hc;have hlv0:¬((lv:Int)<0):=by omega
 have hlv1:¬((3:Int)<(lv:Int)):=by omega
 have ht1:¬((2147483648:Int)≤t.u.txg):=by omega
 have HT:=O ht;have HBL:=O hbl;have HVB:=O hvb;have HCP:=O hcp
 have HVL:Hid (∀i,(Value.slice vp 256 vc).ownBlock=some i->i<w.heap.size):=O (fun i hi=>by
  obtain⟨k,h1,h2⟩:=hb.lt (by rw[List.length_map,hbl];decide);rw[h1] at hi;cases hi;exact h2)
 have HI:=O h;have HVV:=O hb;have HIW:=O h;have HL:=lN w;clear h hb hvb ht hbl hc
 go_enter_defers Tryz.func124,Tryz.ntmps124
 go_wp2_with ((with_reducible show WL _ _);refine alL HL 27 (.agg aH.toArray) (aH.toArray) bG ?_)
 intro b6 w1 hk HL;replace HI:=O (HI.out.keep0 hk);replace HVV:=O (HVV.out.keep hk fun _ _=>id);clear hk
 go_wp2_with ((with_reducible show WL _ _);refine alL HL 49 (.int .i64 0) (#[.int .i64 0]) jZ ?_)
 intro b7 w2 hk HL;replace HI:=O (HI.out.keep0 hk);replace HVV:=O (HVV.out.keep hk fun _ _=>id);clear hk;go_wp2_with fail;refine(qI HI.out.cor.cor HI.out.cor.arr).mono ?_;rintro e w3 ⟨rfl,hk⟩;replace HL:=kL HL hk;replace HI:=O (HI.out.keep0 hk);replace HVV:=O (HVV.out.keep hk fun _ _=>id);clear hk;have c1:w3.cell? ⟨c,36,none⟩=some (.pointer (some ⟨g,0,none⟩)):=(aZ.gv_ HI.out.cor.cor)
 have c2:w3.cell? ⟨c,39,none⟩=some (.int .i64 t.u.txg):=(aZ.txg_ HI.out.cor.cor)
 go_wp2_with fail;clear c1 c2
 have HN7:Hid (¬(c=b7\/B c\/Own g b2 lc D c)):=O (by
  rintro (e|e|e)
  ·have:=lt_of_block HIW.out.cor.cor.top;have:=(HL.out.lt 0).1;omega
  ·exact HI.out.top.1 e
  ·exact(HI.out.far c e).2.1 rfl)
 have H7B:=O (HL.out.lt 0);have HF7:=O (HIW.out.fresh H7B.out.1);go_wp2_with fail;refine dwB (fun k=>k=b7\/B k\/Own g b2 lc D k) (by kernel_rfl) ?_;intro w4 S HSE HSI hS hkd;replace HL:=kL HL hkd;replace HI:=O (HI.out.keep0 hkd);replace HVV:=O (HVV.out.keep hkd fun _ _=>id);clear hkd;have HLs:=HL;have HIs:=HI;have HVVs:=HVV;refine tna 0 (.pointer (some ⟨c,0,none⟩)) rfl hS ?_;refine tnb 1 (.pointer (some ⟨c,0,none⟩)) rfl hS ?_;refine tnb 2 (.pointer (some ⟨c,36,none⟩)) rfl hS ?_;refine tnd 3 (.pointer (some ⟨g,0,none⟩)) rfl (.inl ⟨by rfl,fun w' hw'=>by have c:World.cell? w' ⟨c,36,none⟩=some (.pointer (some ⟨g,0,none⟩)):=(HSE.out w' hw').cell (aZ.gv_ HIs.out.cor.cor) HN7.out;go_simp⟩) hS ?_;refine tna 4 (.pointer (some ⟨c,0,none⟩)) rfl hS ?_;refine tna 6 (.pointer (some ⟨c,0,none⟩)) rfl hS ?_;refine tnb 7 (.pointer (some ⟨c,0,none⟩)) rfl hS ?_;refine tnb 8 (.pointer (some ⟨c,34,none⟩)) rfl hS ?_;refine tnd 9 (.int .i64 (cp:Int)) rfl (.inl ⟨by rfl,fun w' hw'=>by have c:World.cell? w' ⟨c,34,none⟩=some (.int .i64 (cp:Int)):=(HSE.out w' hw').cell (aZ.cp_ HIs.out.cor.cor) HN7.out;go_simp⟩) hS ?_;refine wA9 5 ?_;go_wp2_with fail;refine(As HI.out.cor).mono ?_;rintro e w5 ⟨v1,rfl,ho,hk⟩;obtain⟨wa,wc,rfl,-,-⟩:=(Rd.of_owns ho).form;have HO:=O ho;clear ho;have hS1:=HSI.out _ ((HSE.out _ hS).trans hk.any);replace HL:=kL HL hk;replace HI:=O (HI.out.keep0 hk);replace HVV:=O (HVV.out.keep hk fun _ _=>id);clear hS hk;go_wp2_with fail;refine⟨hS1,?_⟩;refine wA9 10 ?_;go_wp2_with fail;refine(Ct w5 0 g b2 D Z lc Ls HI.out.led (.slice wa D wc) (List.replicate D true) (cp:Int) (IK HO.out)).mono ?_;rintro e w6 hm;unfold iE at hm;rw[if_pos HCK.out,Int.toNat_natCast,HCH.out] at hm;obtain⟨rfl,hk⟩:=hm;have hS2:=HSI.out _ ((HSE.out _ hS1).trans hk.any);replace HL:=kL HL hk;replace HI:=O (HI.out.keep0 hk);replace HVV:=O (HVV.out.keep hk fun _ _=>id);replace HO:=O (hk.owns HO.out fun _ _=>id);clear hS1 hk;go_wp2_with fail;refine⟨hS2,?_⟩;refine tna 11 (.tuple #[.slice none 0 0,.int .i64 15]) rfl hS2 ?_;refine tnb 12 (.slice none 0 0) rfl hS2 ?_;refine tnb 13 (.int .i64 15) rfl hS2 ?_;refine tna 14 (.slice none 0 0) rfl hS2 ?_;refine wA9 15 ?_;refine sta 49 (.tmp 7) (.tmp 60) b7 0 ([.int .i64 15]) (HL.out.b 0) (by simp) (by kernel_rfl) (one9) ?_;intro w7 hk hb;replace hb:w7.heap[b7]?=some (.cells #[.int .i64 15] 49 (0,0)):=hb;have hS3:=HSI.out _ ((HSE.out _ hS2).trans' hk (fun _ _ h=>h) (fun i hi e=>.inl e));clear hS2;replace HL:=O (HL.out.set 0 hk hb);replace HI:=O (HI.out.keepT hk HF7.out);replace HVV:=O (HVV.out.keep hk (fun i hi e=>by have:=HVL.out i hi;have:=H7B.out.1;omega));replace HO:=O (hk.owns HO.out fun i hi e=>by have:=aS HO.out hi;have:=(HLs.out.lt 0).2;omega);clear hk hb;refine wpList_nil ?_;refine⟨hS3,?_⟩;refine wpAnyH_done (by kernel_rfl) ?_ _;clear hS3 HSE HSI HLs HIs HVVs;refine noP ?_;have c1:w7.cell? ⟨b7,0,none⟩=some (.int .i64 15):=(aC (i:=0) (HL.out.b 0) rfl)
 go_wp2_with fail;clear c1;have HB6:=O (HL.out.b 1);have HB7:=O (HL.out.b 0);have HGE:=O (And.intro (HL.out.lt 1).1 (HL.out.lt 0).1);have HK0:Hid (aA aB w w7):=O HL.out.keep;clear HL HI HVV HO;obtain⟨S,hS0⟩:∃S:World->Prop,S=fun w'=>aA aB w w'/\w'.heap[b6]?=some (.cells aH.toArray 27 (0,0))/\w'.heap[b7]?=some (.cells #[.int .i64 15] 49 (0,0)):=⟨_,rfl⟩
 have HSE:=O (show ∀w',S w'->_ from fun w' h=>by rw[hS0] at h;exact h);have HSI:=O (show ∀w',_->S w' from fun w' h=>by rw[hS0];exact h);have hS:S w7.drew:=HSI.out _ ⟨HK0.out.drew,HB6.out,HB7.out⟩;clear hS0 HB6 HB7 HK0;refine lR (S:=S) (by kernel_rfl) ?_;change wpAnyH _ _ _ _ _ _ _ _ w7.drew;generalize w7.drew=wy at hS ⊢;refine tnd 0 (.agg aH.toArray) rfl (yieldsIf_load_mid (by rfl) 27 (.tmp 6) rfl b6 0 rfl aH _ (fun w' h=>aD (HSE.out w' h).2.1) aF rfl (szP9 aG)) hS ?_;refine tnd 1 (.int .i64 15) rfl (.inl ⟨by rfl,fun w' hw'=>by have c:World.cell? w' ⟨b7,0,none⟩=some (.int .i64 15):=aC (i:=0) (HSE.out w' hw').2.2 rfl;go_simp⟩) hS ?_;have HNE:=HGE;refine wA9 2 ?_;refine sta 27 (.tmp 6) (.tmp 63) b6 0 aH (HSE.out _ hS).2.1 (by rw[List.size_toArray,Nat.zero_add];exact Nat.le_refl _) (szP9 aG) (cS zPt) ?_;intro wz hk hb;rw[aI _ _ (by rw[List.size_toArray])] at hb
 have hS1:S wz:=HSI.out _ ⟨(HSE.out _ hS).1.trans' hk (fun _ _ h=>h) (fun i hi e=>by have:=HGE.out.1;omega),hb,by
  by_cases e:b7=b6
  ·have h1:=(HSE.out _ hS).2.1;have h2:=(HSE.out _ hS).2.2
   rw[e,h1] at h2;cases h2
  ·exact hk.blk (HSE.out _ hS).2.2 e⟩
 clear hS hk hb;refine wpList_nil ?_;refine⟨hS1,?_⟩;refine wA9 3 ?_;refine sta 49 (.tmp 7) (.tmp 64) b7 0 [.int .i64 15] (HSE.out _ hS1).2.2 (by simp) (by kernel_rfl) (one9) ?_;intro wu hk hb;replace hb:wu.heap[b7]?=some (.cells #[.int .i64 15] 49 (0,0)):=hb
 have hS2:S wu:=HSI.out _ ⟨(HSE.out _ hS1).1.trans' hk (fun _ _ h=>h) (fun i hi e=>by have:=HGE.out.2;omega),by
  by_cases e:b6=b7
  ·have h1:=(HSE.out _ hS1).2.1;have h2:=(HSE.out _ hS1).2.2
   rw[e,h2] at h1;cases h1
  ·exact hk.blk (HSE.out _ hS1).2.1 e,hb⟩
 clear hS1 hk hb;refine wpList_nil ?_;refine⟨hS2,?_⟩;refine wpAnyH_done (by kernel_rfl) ?_ _;refine noP ?_;have HR:=O (HSE.out _ hS2);clear HSE HSI hS2;have HBK:=O HR.out.2.2;have HBP:=O HR.out.2.1;go_wp2_with fail;refine leaves_cons (f:=48) (args:=#[.pointer (some ⟨c,0,none⟩),.pointer (some ⟨b7,0,none⟩)]) (by simp) (by simp[go_sem]) ?_;refine(nH wu c b7 15 _ HBK.out (by decide)).mono ?_;rintro e u' w'' ⟨rfl,rfl,hk⟩;have c7:w''.cell? ⟨b7,0,none⟩=some (.int .i64 15):=aC (i:=0) (hk.blk HBK.out id) rfl;refine⟨_,eY rfl _ _ b6 _ _ _ _ rfl (hk.blk HBP.out id) aF rfl (by rw[List.size_toArray,aG];exact dF) ⟨b7,0,none⟩ (.int .i64 15) rfl (by go_simp),?_⟩;exact⟨rfl,HR.out.1.trans hk⟩
theorem Gf{L:List Ad}{Z:Nat}{l:List Nat}(h:l.Nodup):((bB L Z l).map (·.dev)).Nodup:=by
 unfold bB;rw[List.map_map];have:((fun(x:Ad)=>x.dev) ∘ fun(d:Nat)=>(⟨(d:Int),(aY L d Z).headD 0⟩:Ad))=fun(d:Nat)=>(d:Int):=rfl
 rw[this];show List.Pairwise _ _;rw[List.pairwise_map];exact h.imp fun h e=>h (by exact_mod_cast e)
theorem IL{D Z cp:Nat}{Ls:List Ad}{l:List Nat}(hc:bV (bX Ls D Z) (List.replicate D true) cp=some l)(h1:1≤cp)(h3:cp≤3)(hD:cp≤D):1≤(bB Ls Z l).length/\(bB Ls Z l).length≤3:=by
 have:=(eZ hc).2.1;have hu:upN (List.replicate D true)=D:=by unfold upN;rw[List.countP_replicate];rfl
 rw[lK,this];unfold kO;rw[hu];omega
theorem IM{w:World}{c a m lb g b2:Nat}{lc:Nat->Option Nat}{pid:List UInt8}{cp:Nat}{t:Lst}{D Z nw:Nat}{B:Nat->Prop}{Mm:Nat->Nat->List UInt8}{Ls:List Ad}(h:gM w c a m lb g b2 lc pid cp t B D Z Mm nw Ls)(ht:0≤t.u.txg/\t.u.txg<2147483648)(lv:Nat)(hlv:lv≤3)(vv:Value)(bs:List UInt8)(hbl:bs.length=256)(hb:Rd w 1 vv 256 (bs.map vb))(hvb:∀i,vv.ownBlock=some i->¬B i/\¬Own g b2 lc D i)(hao:∀x,dZ x D Z->eM x){l:List Nat}(hc:bV (bX Ls D Z) (List.replicate D true) cp=some l):Calls Tryz.prog 124 #[.pointer (some ⟨c,0,none⟩),.int .i64 (lv:Int),vv] w (Dm w c a m lb g b2 lc pid cp t B D Z Mm nw Ls lv bs (bB Ls Z l)):=by
 have hgl:=IL hc h.cor.cpb.1 h.cor.cpb.2.1 h.cor.cpb.2.2;have HPL:Hid (∀x∈bB Ls Z l,dZ x D Z):=O fun x hx=>(zZ h.led.bd).1 (AQ h.led.bd hc hx).1
 have HDV:=O (Gf (L:=Ls) (Z:=Z) (eZ hc).2.2.2.1);have HSN:=O (Ge hc);have HLN:Hid (l.length=(bB Ls Z l).length):=O (lK _ _ _).symm;have HMN:=O h.many;have HTOP:=O h.top;have HFAR:=O h.far;obtain⟨gg,hgg⟩:∃gg,bB Ls Z l=gg:=⟨_,rfl⟩
 have HGG:=O hgg;rw[hgg] at hgl HPL HDV HSN HLN ⊢;have HGL:=O hgl;have HAO:Hid (jU gg):=O fun x hx=>hao x (HPL.out x hx)
 clear hgl hgg hao;obtain⟨vp,vc,rfl,-,-⟩:=hb.form;have hbd:=h.led.bd;have hcp:=h.cor.cpb;have HCK:=O (Cu (L:=Ls) hbd (List.length_replicate (n:=D) (a:=true)) hcp.1 hcp.2.1);have HCH:=O hc;have hlv0:¬((lv:Int)<0):=by omega
 have hlv1:¬((3:Int)<(lv:Int)):=by omega
 have ht1:¬((2147483648:Int)≤t.u.txg):=by omega
 have HT:=O ht;have HBL:=O hbl;have HVB:=O hvb;have HCP:=O hcp
 have HVL:Hid (∀i,(Value.slice vp 256 vc).ownBlock=some i->i<w.heap.size):=O (fun i hi=>by
  obtain⟨k,h1,h2⟩:=hb.lt (by rw[List.length_map,hbl];decide);rw[h1] at hi;cases hi;exact h2)
 have HI:=O h;have HVV:=O hb;have HIW:=O h;have HL:=O (Loc.nil (fun k=>B k\/Own g b2 lc D k) (fun k=>B k\/Own g b2 lc D k) w);clear h hb hvb ht hbl hc
 go_enter_defers Tryz.func124,Tryz.ntmps124
 go_wp2_with ((with_reducible show WL _ _);refine al 27 (.agg aH.toArray) (aH.toArray) bG ?_)
 intro b6 w1 hbs hk hb;replace HL:=O (HL.out.new (fun k h=>HI.out.lt h) hbs hk hb);replace HI:=O (HI.out.keep0 hk);replace HVV:=O (HVV.out.keep hk fun _ _=>id);clear hbs hk hb
 go_wp2_with ((with_reducible show WL _ _);refine al 49 (.int .i64 0) (#[.int .i64 0]) jZ ?_)
 intro b7 w2 hbs hk hb;replace HL:=O (HL.out.new (fun k h=>HI.out.lt h) hbs hk hb);replace HI:=O (HI.out.keep0 hk);replace HVV:=O (HVV.out.keep hk fun _ _=>id);clear hbs hk hb;go_wp2_with fail;refine(qI HI.out.cor.cor HI.out.cor.arr).mono ?_;rintro e w3 ⟨rfl,hk⟩;replace HL:=kL HL hk;replace HI:=O (HI.out.keep0 hk);replace HVV:=O (HVV.out.keep hk fun _ _=>id);clear hk;have c1:w3.cell? ⟨c,36,none⟩=some (.pointer (some ⟨g,0,none⟩)):=(aZ.gv_ HI.out.cor.cor)
 have c2:w3.cell? ⟨c,39,none⟩=some (.int .i64 t.u.txg):=(aZ.txg_ HI.out.cor.cor)
 go_wp2_with fail;clear c1 c2
 have HN7:Hid (¬(c=b7\/B c\/Own g b2 lc D c)):=O (by
  rintro (e|e|e)
  ·have:=lt_of_block HIW.out.cor.cor.top;have:=(HL.out.lt 0).1;omega
  ·exact HI.out.top.1 e
  ·exact(HI.out.far c e).2.1 rfl)
 have H7B:=O (HL.out.lt 0);have HF7:=O (HIW.out.fresh H7B.out.1);go_wp2_with fail;refine dwB (fun k=>k=b7\/B k\/Own g b2 lc D k) (by kernel_rfl) ?_;intro w4 S HSE HSI hS hkd;replace HL:=kL HL hkd;replace HI:=O (HI.out.keep0 hkd);replace HVV:=O (HVV.out.keep hkd fun _ _=>id);clear hkd;have HLs:=HL;have HIs:=HI;have HVVs:=HVV;refine tna 0 (.pointer (some ⟨c,0,none⟩)) rfl hS ?_;refine tnb 1 (.pointer (some ⟨c,0,none⟩)) rfl hS ?_;refine tnb 2 (.pointer (some ⟨c,36,none⟩)) rfl hS ?_;refine tnd 3 (.pointer (some ⟨g,0,none⟩)) rfl (.inl ⟨by rfl,fun w' hw'=>by have c:World.cell? w' ⟨c,36,none⟩=some (.pointer (some ⟨g,0,none⟩)):=(HSE.out w' hw').cell (aZ.gv_ HIs.out.cor.cor) HN7.out;go_simp⟩) hS ?_;refine tna 4 (.pointer (some ⟨c,0,none⟩)) rfl hS ?_;refine tna 6 (.pointer (some ⟨c,0,none⟩)) rfl hS ?_;refine tnb 7 (.pointer (some ⟨c,0,none⟩)) rfl hS ?_;refine tnb 8 (.pointer (some ⟨c,34,none⟩)) rfl hS ?_;refine tnd 9 (.int .i64 (cp:Int)) rfl (.inl ⟨by rfl,fun w' hw'=>by have c:World.cell? w' ⟨c,34,none⟩=some (.int .i64 (cp:Int)):=(HSE.out w' hw').cell (aZ.cp_ HIs.out.cor.cor) HN7.out;go_simp⟩) hS ?_;refine wA9 5 ?_;go_wp2_with fail;refine(As HI.out.cor).mono ?_;rintro e w5 ⟨v1,rfl,ho,hk⟩;obtain⟨wa,wc,rfl,-,-⟩:=(Rd.of_owns ho).form;have HO:=O ho;clear ho;have hS1:=HSI.out _ ((HSE.out _ hS).trans hk.any);replace HL:=kL HL hk;replace HI:=O (HI.out.keep0 hk);replace HVV:=O (HVV.out.keep hk fun _ _=>id);clear hS hk;go_wp2_with fail;refine⟨hS1,?_⟩;refine wA9 10 ?_;go_wp2_with fail;have H7L:=O (HL.out.lt 0).2;have H6L:=O (HL.out.lt 1).2;have HWS:=O HL.out.keep.size;refine(Ct w5 0 g b2 D Z lc Ls HI.out.led (.slice wa D wc) (List.replicate D true) (cp:Int) (IK HO.out)).mono ?_;rintro e w6 hm;unfold iE at hm;rw[if_pos HCK.out,Int.toNat_natCast,HCH.out] at hm;dsimp only at hm;obtain⟨v1,rfl,hled,ho,hk⟩:=hm;rw[HGG.out] at hled ho;rw[HLN.out] at ho;obtain⟨ta,tc,rfl,-,-⟩:=(Rd.of_owns ho).form;have hS2:=HSI.out _ ((HSE.out _ hS1).trans (hk.mono fun k _ e=>.inr (.inr e)));have HCB:=O (HI.out.cor.keep hk (fun i e=>⟨(HI.out.far i e).2.1,(HI.out.far i e).2.2.1,(HI.out.far i e).2.2.2.1,(HI.out.far i e).1,(HI.out.far i e).2.2.2.2⟩));have HLE:=O hled;have HTN:=O (fun(i:Nat) (hi:(Value.slice ta gg.length tc).ownBlock=some i)=>show w.heap.size≤i from by have:=aS ho hi;have:=HWS.out;omega);have HT7:=O (fun(i:Nat) (hi:(Value.slice ta gg.length tc).ownBlock=some i)=>show b7<i from by have:=aS ho hi;have:=H7L.out;omega);have HT6:=O (fun(i:Nat) (hi:(Value.slice ta gg.length tc).ownBlock=some i)=>show b6<i from by have:=aS ho hi;have:=H6L.out;omega);have HTR:=O (aV ho HWS.out);replace HVV:=O (HVV.out.keep hk fun i hi e=>(HVB.out i hi).2 e);replace HL:=O (HL.out.turn (B':=(fun k=>B k\/Own g b2 lc D k)) (hk.mono fun k _ e=>.inr e) (fun _ _ h=>h) (fun _ _ h=>h));clear HI HO hk hled ho hS1;go_wp2_with fail;refine⟨hS2,?_⟩;refine tna 11 (.tuple #[.slice ta gg.length tc,.int .i64 0]) rfl hS2 ?_;refine tnb 12 (.slice ta gg.length tc) rfl hS2 ?_;refine tnb 13 (.int .i64 0) rfl hS2 ?_;refine tna 14 (.slice ta gg.length tc) rfl hS2 ?_;refine wA9 15 ?_;refine sta 49 (.tmp 7) (.tmp 60) b7 0 ([.int .i64 0]) (HL.out.b 0) (by simp) (by kernel_rfl) (one9) ?_;intro w7 hk hb;replace hb:w7.heap[b7]?=some (.cells #[.int .i64 0] 49 (0,0)):=hb;have hS3:=HSI.out _ ((HSE.out _ hS2).trans' hk (fun _ _ h=>h) (fun i hi e=>.inl e));clear hS2;replace HL:=O (HL.out.set 0 hk hb);replace HVV:=O (HVV.out.keep hk (fun i hi e=>by have:=HVL.out i hi;have:=H7B.out.1;omega));replace HCB:=O (HCB.out.keep hk (fun i e=>⟨(HF7.out i e).1,(HF7.out i e).2.1,(HF7.out i e).2.2.1,(HF7.out i e).2.2.2.1,(HF7.out i e).2.2.2.2.2⟩));replace HLE:=O (HLE.out.keep hk (fun i e=>(HF7.out i e).2.2.2.2.1));replace HTR:=O (hk.owns HTR.out fun i hi e=>by have:=HT7.out i hi;omega);clear hk hb;refine wpList_nil ?_;refine⟨hS3,?_⟩;refine wpAnyH_done (by kernel_rfl) ?_ _;clear hS3 HSE HSI HLs HIs HVVs;refine noP ?_;have c1:w7.cell? ⟨b7,0,none⟩=some (.int .i64 0):=(aC (i:=0) (HL.out.b 0) rfl)
 have c2:w7.cell? ⟨c,1,none⟩=some (.pointer (some ⟨m,0,none⟩)):=(aZ.c1 HCB.out.cor)
 go_wp2_with fail;clear c1 c2;have HWT:=O HL.out.keep.size;have HT7L:=O (fun(i:Nat) (hi:(Value.slice ta gg.length tc).ownBlock=some i)=>show i<w7.heap.size from by obtain⟨k,h1,h2⟩:=(Rd.of_owns HTR.out).lt (by rw[qP];have:=HGL.out.1;omega);rw[hi] at h1;cases h1;exact h2);refine(Ks HCB.out.arr HCB.out.mir HTOP.out.2.1 (.slice ta gg.length tc) gg (Rd.of_owns HTR.out) HPL.out HDV.out HAO.out HGL.out.1 HGL.out.2 (fun i hi e=>by have:=HTN.out i hi;have:=HIW.out.lt (.inl e);omega) (.slice vp 256 vc) bs HBL.out HVV.out (fun i hi=>(HVB.out i hi).1) (by have:=HMN.out;have:=HT.out;omega)).mono ?_;rintro e w8 ⟨rfl,B2,ha2,hg2,hk2⟩;have HCB2:Hid (gE w8 c a m lb pid cp (.pointer (some ⟨g,0,none⟩)) t B2 D Z (kX bs gg Mm) (nw+gg.length)):=O ⟨HCB.out.cor.keep hk2 HTOP.out.1 (fun i e h=>(HTOP.out.2.2.2 i h).1 e),ha2,hk2.blk HCB.out.mir HTOP.out.2.1,hk2.blk HCB.out.liv HTOP.out.2.2.1,HCB.out.cpb,fun d hd=>by rw[KF bs gg Mm HPL.out d];exact HCB.out.lab d hd⟩;replace HLE:=O (HLE.out.keep hk2 (fun i e h=>(HFAR.out i h).1 e));replace HTR:=O (hk2.owns HTR.out (fun i hi e=>by have:=HTN.out i hi;have:=HIW.out.lt (.inl e);omega));replace HVV:=O (HVV.out.keep hk2 (fun i hi e=>(HVB.out i hi).1 e));have HTB:=O (fun(i:Nat) (hi:(Value.slice ta gg.length tc).ownBlock=some i)=>show ¬B2 i/\¬Own g b2 lc D i from⟨fun e=>by have h1:=HTN.out i hi;have h2:=HT7L.out i hi;rcases hg2 i e with h|h;(have:=HIW.out.lt (.inl h);omega);omega,fun e=>by have h1:=HTN.out i hi;have:=HIW.out.lt (.inr e);omega⟩);have HG2:=O (fun(k:Nat) (e:B2 k)=>show B k\/w.heap.size≤k from(hg2 k e).imp (fun h=>h) (fun h=>Nat.le_trans HWT.out h));replace HL:=O (HL.out.turn (B':=fun k=>B2 k\/Own g b2 lc D k) (hk2.mono fun k _ e=>.inl e) (fun _ _ h=>h) (fun k hk e=>e.elim (fun e=>(hg2 k e).elim (fun h=>.inl h) (fun h=>absurd hk (by omega))) (fun h=>.inr h)));clear HCB ha2 hg2 hk2;go_wp2_with fail
 have HF8:Hid (∀i,(i=b6\/i=b7)->i≠c/\i≠m/\i≠lb/\¬B2 i/\¬Own g b2 lc D i/\¬t.Own i):=O (by
  rintro i (rfl|rfl)
  ·have h:=HIW.out.fresh (HL.out.lt 1).1 _ rfl
   exact⟨h.1,h.2.1,h.2.2.1,fun e=>((HL.out.aq 1)) (.inl e),h.2.2.2.2⟩
  ·have h:=HIW.out.fresh (HL.out.lt 0).1 _ rfl
   exact⟨h.1,h.2.1,h.2.2.1,fun e=>((HL.out.aq 0)) (.inl e),h.2.2.2.2⟩)
 have HNC:Hid (¬(c=b6\/c=b7)):=O (fun e=>(HF8.out c e).1 rfl);have H6W:=O (HL.out.lt 1).1;have H7W:=O (HL.out.lt 0).1;obtain⟨dg,hdge⟩:∃l,(cR bs).map vb=l:=⟨_,rfl⟩
 have hdg:dg.length=32:=by rw[←hdge,List.length_map,cP]
 have HDO:Hid (∀u∈dg,u.oneCell'=true):=O (by rw[←hdge];exact bN _);have HDG:=O hdge;have ht0:0≤t.u.txg:=HT.out.1;clear hdge HF7;go_wp2_with fail;refine dwB (fun k=>k=b6\/k=b7) (by kernel_rfl) ?_;intro w9 S HSE HSI hS hkd;replace HL:=kL HL hkd;replace HVV:=O (HVV.out.keep hkd fun _ _=>id);replace HLE:=O (HLE.out.keep0 hkd);replace HTR:=O (hkd.owns HTR.out fun _ _=>id);replace HCB2:=O (HCB2.out.keep0 hkd);clear hkd;have HLs:=HL;have HVVs:=HVV;have HLEs:=HLE;have HTRs:=HTR;have HCB2s:=HCB2;refine tna 0 (.slice ta gg.length tc) rfl hS ?_;refine tna 1 (.pointer (some ⟨c,0,none⟩)) rfl hS ?_;refine tnb 2 (.pointer (some ⟨c,0,none⟩)) rfl hS ?_;refine tnb 3 (.pointer (some ⟨c,39,none⟩)) rfl hS ?_;refine tnb 4 (.pointer (some ⟨c,39,none⟩)) rfl hS ?_;refine tnd 5 (.int .i64 t.u.txg) rfl (.inl ⟨by rfl,fun w' hw'=>by have c:World.cell? w' ⟨c,39,none⟩=some (.int .i64 t.u.txg):=(HSE.out w' hw').cell (aZ.txg_ HCB2s.out.cor) HNC.out;go_simp⟩) hS ?_;refine tnd 6 (.int .i64 (t.u.txg+1)) rfl (.inl ⟨by rfl,fun _ _=>by go_simp;exact IntWalk.i64_in _ (by omega)⟩) hS ?_;refine tna 7 (.int .i64 (lv:Int)) rfl hS ?_;refine tna 8 (.slice vp 256 vc) rfl hS ?_;refine wA9 9 ?_;go_wp2_with fail;refine(vH _ bs w9 (by rw[HBL.out];exact HVV.out) (by rw[HBL.out];decide)).mono ?_;rintro e wa ⟨rfl,hk⟩;have hS1:=HSI.out _ ((HSE.out _ hS).trans hk.any);replace HL:=kL HL hk;replace HVV:=O (HVV.out.keep hk fun _ _=>id);replace HLE:=O (HLE.out.keep0 hk);replace HTR:=O (hk.owns HTR.out fun _ _=>id);replace HCB2:=O (HCB2.out.keep0 hk);clear hS hk;rw[HDG.out];go_wp2_with fail;refine⟨hS1,?_⟩;refine wA9 10 ?_;refine sta 27 (.tmp 6) (.const (.agg #[.slice none 0 0,.int .i64 0,.int .i64 0,.int .u8 0,.int .u8 0,.int .u8 0,.int .u8 0,.int .u8 0,.int .u8 0,.int .u8 0,.int .u8 0,.int .u8 0,.int .u8 0,.int .u8 0,.int .u8 0,.int .u8 0,.int .u8 0,.int .u8 0,.int .u8 0,.int .u8 0,.int .u8 0,.int .u8 0,.int .u8 0,.int .u8 0,.int .u8 0,.int .u8 0,.int .u8 0,.int .u8 0,.int .u8 0,.int .u8 0,.int .u8 0,.int .u8 0,.int .u8 0,.int .u8 0,.int .u8 0])) b6 0 (aH) (HL.out.b 1) (by simp[aG]) (szP9 aG) (cS zPt) ?_;intro wb hk hb;rw[aI _ _ (by rw[List.size_toArray])] at hb;have hS2:=HSI.out _ ((HSE.out _ hS1).trans (hk.mono fun k _ e=>.inl e));clear hS1;replace HL:=O (HL.out.set 1 hk hb);replace HVV:=O (HVV.out.keep hk (fun i hi e=>by have:=HVL.out i hi;have:=H6W.out;have:=H7W.out;omega));replace HLE:=O (HLE.out.keep hk (fun i e=>(HF8.out i (.inl e)).2.2.2.2.1));replace HTR:=O (hk.owns HTR.out fun i hi e=>by have:=HT7.out i hi;have:=HT6.out i hi;omega);replace HCB2:=O (HCB2.out.keep hk (fun i e=>have h:=HF8.out i (.inl e);⟨h.1,h.2.1,h.2.2.1,h.2.2.2.1,h.2.2.2.2.2⟩));clear hk hb;refine wpList_nil ?_;refine⟨hS2,?_⟩;refine tnb 11 (.pointer (some ⟨b6,0,none⟩)) rfl hS2 ?_;refine wA9 12 ?_;refine sta 23 (.tmp 89) (.tmp 79) b6 0 ([.slice ta gg.length tc]) (HL.out.b 1) (by simp[aG]) (by kernel_rfl) (one9) ?_;intro wc hk hb;have hS3:=HSI.out _ ((HSE.out _ hS2).trans (hk.mono fun k _ e=>.inl e));clear hS2;replace HL:=O (HL.out.set 1 hk hb);replace HVV:=O (HVV.out.keep hk (fun i hi e=>by have:=HVL.out i hi;have:=H6W.out;have:=H7W.out;omega));replace HLE:=O (HLE.out.keep hk (fun i e=>(HF8.out i (.inl e)).2.2.2.2.1));replace HTR:=O (hk.owns HTR.out fun i hi e=>by have:=HT7.out i hi;have:=HT6.out i hi;omega);replace HCB2:=O (HCB2.out.keep hk (fun i e=>have h:=HF8.out i (.inl e);⟨h.1,h.2.1,h.2.2.1,h.2.2.2.1,h.2.2.2.2.2⟩));clear hk hb;refine wpList_nil ?_;refine⟨hS3,?_⟩;refine tnb 13 (.pointer (some ⟨b6,1,none⟩)) rfl hS3 ?_;refine wA9 14 ?_;refine sta 3 (.tmp 90) (.tmp 85) b6 1 ([.int .i64 (t.u.txg+1)]) (HL.out.b 1) (by simp[fJ,aG]) (by kernel_rfl) (one9) ?_;intro wd hk hb;have hS4:=HSI.out _ ((HSE.out _ hS3).trans (hk.mono fun k _ e=>.inl e));clear hS3;replace HL:=O (HL.out.set 1 hk hb);replace HVV:=O (HVV.out.keep hk (fun i hi e=>by have:=HVL.out i hi;have:=H6W.out;have:=H7W.out;omega));replace HLE:=O (HLE.out.keep hk (fun i e=>(HF8.out i (.inl e)).2.2.2.2.1));replace HTR:=O (hk.owns HTR.out fun i hi e=>by have:=HT7.out i hi;have:=HT6.out i hi;omega);replace HCB2:=O (HCB2.out.keep hk (fun i e=>have h:=HF8.out i (.inl e);⟨h.1,h.2.1,h.2.2.1,h.2.2.2.1,h.2.2.2.2.2⟩));clear hk hb;refine wpList_nil ?_;refine⟨hS4,?_⟩;refine tnb 15 (.pointer (some ⟨b6,2,none⟩)) rfl hS4 ?_;refine wA9 16 ?_;refine sta 3 (.tmp 91) (.tmp 86) b6 2 ([.int .i64 (lv:Int)]) (HL.out.b 1) (by simp[fJ,aG]) (by kernel_rfl) (one9) ?_;intro we hk hb;have hS5:=HSI.out _ ((HSE.out _ hS4).trans (hk.mono fun k _ e=>.inl e));clear hS4;replace HL:=O (HL.out.set 1 hk hb);replace HVV:=O (HVV.out.keep hk (fun i hi e=>by have:=HVL.out i hi;have:=H6W.out;have:=H7W.out;omega));replace HLE:=O (HLE.out.keep hk (fun i e=>(HF8.out i (.inl e)).2.2.2.2.1));replace HTR:=O (hk.owns HTR.out fun i hi e=>by have:=HT7.out i hi;have:=HT6.out i hi;omega);replace HCB2:=O (HCB2.out.keep hk (fun i e=>have h:=HF8.out i (.inl e);⟨h.1,h.2.1,h.2.2.1,h.2.2.2.1,h.2.2.2.2.2⟩));clear hk hb;refine wpList_nil ?_;refine⟨hS5,?_⟩;refine tnb 17 (.pointer (some ⟨b6,3,none⟩)) rfl hS5 ?_;refine wA9 18 ?_;refine sta 25 (.tmp 92) (.tmp 88) b6 3 (dg) (HL.out.b 1) (by simp[fJ,aG,hdg]) (by rw[hdg];exact uH) HDO.out ?_;intro wf hk hb;have hS6:=HSI.out _ ((HSE.out _ hS5).trans (hk.mono fun k _ e=>.inl e));clear hS5;replace HL:=O (HL.out.set 1 hk hb);replace HVV:=O (HVV.out.keep hk (fun i hi e=>by have:=HVL.out i hi;have:=H6W.out;have:=H7W.out;omega));replace HLE:=O (HLE.out.keep hk (fun i e=>(HF8.out i (.inl e)).2.2.2.2.1));replace HTR:=O (hk.owns HTR.out fun i hi e=>by have:=HT7.out i hi;have:=HT6.out i hi;omega);replace HCB2:=O (HCB2.out.keep hk (fun i e=>have h:=HF8.out i (.inl e);⟨h.1,h.2.1,h.2.2.1,h.2.2.2.1,h.2.2.2.2.2⟩));clear hk hb;refine wpList_nil ?_;refine⟨hS6,?_⟩;refine wA9 19 ?_;refine sta 49 (.tmp 7) (.const (.int .i64 0)) b7 0 ([.int .i64 0]) (HL.out.b 0) (by simp) (by kernel_rfl) (one9) ?_;intro wg hk hb;replace hb:wg.heap[b7]?=some (.cells #[.int .i64 0] 49 (0,0)):=hb;have hS7:=HSI.out _ ((HSE.out _ hS6).trans (hk.mono fun k _ e=>.inr e));clear hS6;replace HL:=O (HL.out.set 0 hk hb);replace HVV:=O (HVV.out.keep hk (fun i hi e=>by have:=HVL.out i hi;have:=H6W.out;have:=H7W.out;omega));replace HLE:=O (HLE.out.keep hk (fun i e=>(HF8.out i (.inr e)).2.2.2.2.1));replace HTR:=O (hk.owns HTR.out fun i hi e=>by have:=HT7.out i hi;have:=HT6.out i hi;omega);replace HCB2:=O (HCB2.out.keep hk (fun i e=>have h:=HF8.out i (.inr e);⟨h.1,h.2.1,h.2.2.1,h.2.2.2.1,h.2.2.2.2.2⟩));clear hk hb;refine wpList_nil ?_;refine⟨hS7,?_⟩;refine wpAnyH_done (by kernel_rfl) ?_ _;clear hS7 HSE HSI HLs HVVs HLEs HTRs HCB2s;refine noP ?_;have HBK:=O (HL.out.b 0);have HBP:Hid (wg.heap[b6]?=some (.cells (aE (.slice ta gg.length tc) ⟨gg,t.u.txg+1,(lv:Int),cR bs⟩).toArray 27 (0,0))):=O (by rw[HL.out.b 1,←Mt _ _ (by rw[cP]),←HDG.out])
 have HPO:Hid (Dm w c a m lb g b2 lc pid cp t B D Z Mm nw Ls lv bs gg (.returned (.tuple #[.agg (aE (.slice ta gg.length tc) ⟨gg,t.u.txg+1,(lv:Int),cR bs⟩).toArray,.int .i64 0])) wg):=O ⟨_,B2,rfl,HTR.out,⟨HCB2.out,HLE.out,fun k hk=>by
  have h:=HFAR.out k hk;exact⟨fun e=>(HG2.out k e).elim h.1 (fun e=>by have:=HIW.out.lt (.inr hk);omega),h.2⟩,by
  have h1:=lt_of_block HIW.out.cor.cor.top;have h2:=lt_of_block HIW.out.cor.mir;have h3:=lt_of_block HIW.out.cor.liv;exact⟨fun e=>(HG2.out c e).elim HTOP.out.1 (by omega),fun e=>(HG2.out m e).elim HTOP.out.2.1 (by omega),fun e=>(HG2.out lb e).elim HTOP.out.2.2.1 (by omega),fun i h=>⟨fun e=>(HG2.out i e).elim (HTOP.out.2.2.2 i h).1 fun e=>by have:=HIW.out.cor.cor.lst.lt h;omega,(HTOP.out.2.2.2 i h).2⟩⟩,by
  have:=HSN.out;have:=HLN.out;have:=HMN.out;omega⟩,HG2.out,HTB.out,HL.out.keep⟩
 clear HL HCB2 HLE HVV HTR;go_wp2_with fail;refine leaves_cons (f:=48) (args:=#[.pointer (some ⟨c,0,none⟩),.pointer (some ⟨b7,0,none⟩)]) (by simp) (by simp[go_sem]) ?_;refine(nH wg c b7 0 _ HBK.out (by decide)).mono ?_;rintro e u' w'' ⟨rfl,rfl,hk⟩;have c7:w''.cell? ⟨b7,0,none⟩=some (.int .i64 0):=aC (i:=0) (hk.blk HBK.out id) rfl;refine⟨_,eY rfl _ _ b6 _ _ _ _ rfl (hk.blk HBP.out id) aF rfl (by rw[List.size_toArray,aJ (by rw[cP])];exact dF) ⟨b7,0,none⟩ (.int .i64 0) rfl (by go_simp),?_⟩;obtain⟨v,B3,h1,h2,h3,h4,h6,h5⟩:=HPO.out;exact⟨v,B3,h1,hk.owns h2 fun _ _=>id,h3.keep0 hk,h4,h6,h5.trans hk.any⟩
theorem IN(w:World)(pv:Value)(p:Pt)(hp:PtV w pv p)(hh:p.hole=true)(lv:Int):Calls Tryz.prog 215 #[.agg (aE pv p).toArray,.int .i64 lv] w (aK w (.bool true)):=by
 have hpc:=aJ (v:=pv) hp.sum;obtain⟨oa,ca,hpv,-,-⟩:=hp.rd.form;obtain⟨pc,hpcs⟩:∃l,aE pv p=l:=⟨_,rfl⟩
 have HOP:Hid (∀u∈pc,u.oneCell'=true):=O (by rw[←hpcs,hpv];exact cS p);have HPS:=O hpcs;rw[hpcs] at hpc ⊢;have HPT:=O hp;have HL:=lN w;have HH:=O hh;clear hp hpcs hpv hh;go_in
 go_wp2_with ((with_reducible show WL _ _);refine bxL HL 27 (.tmp 0) (pc.toArray) ?_)
 intro b2 w1 hk HL;replace HPT:=O (HPT.out.keep hk fun _ _=>id);clear hk
 go_wp2_with ((with_reducible show WL _ _);refine wpList_load_mid rfl 27 (.tmp 2) rfl b2 0 rfl pc _ (aD (HL.out.b 0)) aF rfl (szP9 hpc) ?_)
 refine((by rw[←HPS.out];exact cJ w1 pv p HPT.out:Calls _ _ _ w1 (aX w1 p.hole))).mono ?_;rintro e w2 ⟨rfl,hk⟩;replace HL:=kL HL hk;replace HPT:=O (HPT.out.keep hk fun _ _=>id);clear hk;rw[HH.out];go_wp2;go_ret;exact aK.of HL.out.keep
theorem KG(w:World)(pv:Value)(p:Pt)(hp:PtV w pv p)(hh:p.hole=false)(hm:p.may=true)(lv:Int)(h0:0≤lv)(h4:lv≤4)(hl:p.level=lv-1):Calls Tryz.prog 215 #[.agg (aE pv p).toArray,.int .i64 lv] w (aK w (.bool true)):=by
 have hpc:=aJ (v:=pv) hp.sum;obtain⟨oa,ca,hpv,-,-⟩:=hp.rd.form;obtain⟨pc,hpcs⟩:∃l,aE pv p=l:=⟨_,rfl⟩
 have HOP:Hid (∀u∈pc,u.oneCell'=true):=O (by rw[←hpcs,hpv];exact cS p);have HPS:=O hpcs;rw[hpcs] at hpc ⊢;have HPT:=O hp;have HL:=lN w;have HH:=O hh;have HMA:=O hm;have HLV:=O hl;have hwr:IntKind.i64.wrap (lv-1)=lv-1:=IntWalk.i64_in _ (by omega);clear hp hpcs hpv hh hm hl;go_in
 go_wp2_with ((with_reducible show WL _ _);refine bxL HL 27 (.tmp 0) (pc.toArray) ?_)
 intro b2 w1 hk HL;replace HPT:=O (HPT.out.keep hk fun _ _=>id);clear hk
 go_wp2_with ((with_reducible show WL _ _);refine wpList_load_mid rfl 27 (.tmp 2) rfl b2 0 rfl pc _ (aD (HL.out.b 0)) aF rfl (szP9 hpc) ?_)
 refine((by rw[←HPS.out];exact cJ w1 pv p HPT.out:Calls _ _ _ w1 (aX w1 p.hole))).mono ?_;rintro e w2 ⟨rfl,hk⟩;replace HL:=kL HL hk;replace HPT:=O (HPT.out.keep hk fun _ _=>id);clear hk;rw[HH.out]
 go_wp2_with ((with_reducible show WL _ _);refine aM (by rfl) 27 (.tmp 2) rfl b2 0 rfl pc _ (aD (HL.out.b 0)) aF rfl (szP9 hpc) ?_)
 refine((by rw[←HPS.out];exact jX w2 pv p HPT.out:Calls _ _ _ w2 (lL w2 p.may))).mono ?_;rintro e w3 ⟨rfl,hk⟩;replace HL:=kL HL hk;replace HPT:=O (HPT.out.keep hk fun _ _=>id);clear hk;rw[HMA.out];have c1:w3.cell? ⟨b2,2,none⟩=some (.int .i64 (lv-1)):=(by rw[←HLV.out];exact(bO (aD (by rw[HPS.out];exact(HL.out.b 0)))).2.2.1)
 go_wp2_with fail;clear c1;go_ret;exact aK.of HL.out.keep
def cE(lv:Int)(vs:Nat->Value)(ps:Nat->Pt):List Value:=.int .i64 lv::(aE (vs 0) (ps 0)++(aE (vs 1) (ps 1)++(aE (vs 2) (ps 2)++aE (vs 3) (ps 3))))
def dE(w:World)(vs:Nat->Value)(ps:Nat->Pt):Prop:=∀k,k<4->PtV w (vs k) (ps k)
theorem dE.keep{w w':World}{vs:Nat->Value}{ps:Nat->Pt}(h:dE w vs ps)(k:aA aB w w'):dE w' vs ps:=fun i hi=>(h i hi).keep k fun _ _=>id
theorem dY{w:World}(lv:Int)(vs:Nat->Value){ps:Nat->Pt}(h:dE w vs ps):(cE lv vs ps).length=141:=by
 simp[cE,aJ (h 0 (by omega)).sum,aJ (h 1 (by omega)).sum,aJ (h 2 (by omega)).sum,aJ (h 3 (by omega)).sum]
theorem aU{w:World}{v:Value}{p:Pt}(h:PtV w v p):∀u∈aE v p,u.oneCell'=true:=by
 obtain⟨oa,ca,rfl,-,-⟩:=h.rd.form;exact cS p
theorem dI{w:World}(lv:Int){vs:Nat->Value}{ps:Nat->Pt}(h:dE w vs ps):∀u∈cE lv vs ps,u.oneCell'=true:=by
 intro u hu;unfold cE at hu;rcases List.mem_cons.1 hu with rfl|hu
 ·rfl
 rcases List.mem_append.1 hu with hu|hu
 ·exact aU (h 0 (by omega)) u hu
 rcases List.mem_append.1 hu with hu|hu
 ·exact aU (h 1 (by omega)) u hu
 rcases List.mem_append.1 hu with hu|hu
 ·exact aU (h 2 (by omega)) u hu
 ·exact aU (h 3 (by omega)) u hu
theorem yZ{w:World}{b o:Nat}{v:Value}{C:List Value}(h:w.rangeAt b o (v::C)):w.rangeAt b (o+1) C:=fun j u hj=>by
 have:=h (j+1) u (by rw[List.getElem?_cons_succ];exact hj);rw[show o+1+j=o+(j+1) by omega];exact this
theorem uV{w:World}{b o n:Nat}{A C:List Value}(h:w.rangeAt b o (A++C))(hn:A.length=n):w.rangeAt b o A/\w.rangeAt b (o+n) C:=by
 subst hn;refine⟨fun j u hj=>h j u (by rw[List.getElem?_append_left (List.getElem?_eq_some_iff.1 hj).1];exact hj),fun j u hj=>?_⟩;have:=h (A.length+j) u (by rw[List.getElem?_append_right (by omega),Nat.add_sub_cancel_left];exact hj);rw[show o+A.length+j=o+(A.length+j) by omega];exact this
theorem pT{w w0:World}{b:Nat}{lv:Int}{vs:Nat->Value}{ps:Nat->Pt}(hv:dE w0 vs ps)(h:w.rangeAt b 0 (cE lv vs ps)){k:Nat}(hk:k<4):w.rangeAt b (1+k*35) (aE (vs k) (ps k)):=by
 have h1:=yZ h;obtain⟨a0,h2⟩:=uV h1 (aJ (hv 0 (by omega)).sum);obtain⟨a1,h3⟩:=uV h2 (aJ (hv 1 (by omega)).sum);obtain⟨a2,a3⟩:=uV h3 (aJ (hv 2 (by omega)).sum);rcases k with _|_|_|_|k
 ·exact a0
 ·exact a1
 ·exact a2
 ·exact a3
 ·omega
def jN(ps:Nat->Pt):Bool:=(ps 0).hole && (ps 1).hole && (ps 2).hole && (ps 3).hole
theorem Gg{ps:Nat->Pt}(h:∀k,k<4->(ps k).hole=true):jN ps=true:=by
 unfold jN;rw[h 0 (by omega),h 1 (by omega),h 2 (by omega),h 3 (by omega)];rfl
theorem IP{ps:Nat->Pt}{k:Nat}(hk:k<4)(h:(ps k).hole=false):jN ps=false:=by
 unfold jN;rcases k with _|_|_|_|k
 ·rw[h];rfl
 ·rw[h];simp
 ·rw[h];simp
 ·rw[h];simp
 ·omega
theorem Ba(w:World)(lv:Int)(vs:Nat->Value)(ps:Nat->Pt)(h:dE w vs ps):Calls Tryz.prog 123 #[.agg (cE lv vs ps).toArray] w (aK w (.bool (jN ps))):=by
 have hnc:=dY lv vs h;obtain⟨nc,hnce⟩:∃l,cE lv vs ps=l:=⟨_,rfl⟩
 have HON:Hid (∀u∈nc,u.oneCell'=true):=O (by rw[←hnce];exact dI lv h);have HNS:=O hnce;rw[hnce] at hnc ⊢;have HNV:=O h;have HL:=lN w;clear h hnce;go_in
 go_wp2_with ((with_reducible show WL _ _);refine bxL HL 98 (.tmp 0) (nc.toArray) ?_)
 intro b1 w1 hk HL;replace HNV:=O (dE.keep HNV.out hk);clear hk;go_wp2_with fail;have HB:=O (HL.out.b 0);have HK0:=O HL.out.keep;clear HL
 go_loopw [3,4] (fun _ i wr=>∃k:Nat,k≤4/\i=.int .i64 k/\Hid (aA aB w1 wr)/\Hid (∀j,j<k->(ps j).hole=true)) (fun _ i _=>4-(intOf i).toNat)
 case atStart=>exact⟨0,by omega,rfl,O (aA.refl _ _),O (fun j hj=>by omega)⟩
 case round =>
  obtain⟨k,hk,rfl,HK,HH⟩:=hrel
  by_cases hk8:k<4
  ·have HBW:=O (HK.out.blk HB.out id)
   have HNW:=O (dE.keep HNV.out HK.out);have hpk:=aJ (v:=vs k) (HNV.out k hk8).sum;obtain⟨pk,hpke⟩:∃l,aE (vs k) (ps k)=l:=⟨_,rfl⟩
   have HOK:Hid (∀u∈pk,u.oneCell'=true):=O (by rw[←hpke];exact aU (HNV.out k hk8));have HX:Hid (World.rangeAt wr b1 (1+k*35) pk):=O (by rw[←hpke];exact pT HNV.out (by rw[HNS.out];exact aD HBW.out) hk8);have HPK:=O hpke;rw[hpke] at hpk;have HL:=lN wr;have hk0:(0:Int)≤(k:Int):=by omega
   have hk1:(k:Int)<4:=by omega
   clear hpke;cases hh:(ps k).hole
   ·have HHK:=O hh
    clear hh
    go_wp2_with ((with_reducible show WL _ _);refine wpList_load_mid rfl 27 (.tmp 9) rfl b1 (1+k*35) rfl pk _ HX.out aF rfl (szP9 hpk) ?_)
    refine((by rw[←HPK.out];exact cJ wr (vs k) (ps k) (HNW.out k hk8):Calls _ _ _ wr (aX wr (ps k).hole))).mono ?_;rintro e w2 ⟨rfl,hk⟩;replace HL:=kL HL hk;replace HX:=O (hk.rangeAt HX.out);replace HNW:=O (dE.keep HNW.out hk);clear hk;rw[HHK.out];go_wp2_with fail;have HR:=O (HK0.out.trans (HK.out.trans HL.out.keep));clear HL HX;go_wp2;go_ret;rw[IP hk8 HHK.out];exact aK.of HR.out
   ·have HHK:=O hh
    clear hh
    go_wp2_with ((with_reducible show WL _ _);refine wpList_load_mid rfl 27 (.tmp 9) rfl b1 (1+k*35) rfl pk _ HX.out aF rfl (szP9 hpk) ?_)
    refine((by rw[←HPK.out];exact cJ wr (vs k) (ps k) (HNW.out k hk8):Calls _ _ _ wr (aX wr (ps k).hole))).mono ?_;rintro e w2 ⟨rfl,hk⟩;replace HL:=kL HL hk;replace HX:=O (hk.rangeAt HX.out);replace HNW:=O (dE.keep HNW.out hk);clear hk;rw[HHK.out];go_wp2_with fail;have HK8:=O (HK.out.trans HL.out.keep)
    have HH8:Hid (∀j,j<k+1->(ps j).hole=true):=O (fun j hj=>by
     by_cases e:j=k
     ·subst e;exact HHK.out
     ·exact HH.out j (by omega))
    clear HL HX
    go_roundw
    case rel=>exact⟨k+1,by omega,by go_num,HK8,HH8⟩
    case measure=>simp[intOf];omega
  ·obtain rfl:k=4:=by omega
   go_wp2;go_ret;rw[Gg HH.out];exact aK.of (HK0.out.trans HK.out)
def Au(lv:Int)(p:Pt):Prop:=p.hole=true\/(p.hole=false/\p.may=true/\p.level=lv-1)
theorem KH(w:World)(pv:Value)(p:Pt)(hp:PtV w pv p)(lv:Int)(h0:0≤lv)(h4:lv≤4)(hf:Au lv p):Calls Tryz.prog 215 #[.agg (aE pv p).toArray,.int .i64 lv] w (aK w (.bool true)):=
 hf.elim (fun h=>IN w pv p hp h lv) fun h=>KG w pv p hp h.1 h.2.1 lv h0 h4 h.2.2
theorem Gh(w:World)(lv:Int)(vs:Nat->Value)(ps:Nat->Pt)(h:dE w vs ps)(h1:1≤lv)(h3:lv≤3)(hf:∀k,k<4->Au lv (ps k)):Calls Tryz.prog 165 #[.agg (cE lv vs ps).toArray] w (aK w (.int .i64 0)):=by
 have hnc:=dY lv vs h;obtain⟨nc,hnce⟩:∃l,cE lv vs ps=l:=⟨_,rfl⟩
 have HON:Hid (∀u∈nc,u.oneCell'=true):=O (by rw[←hnce];exact dI lv h);have HNS:=O hnce;rw[hnce] at hnc ⊢;have HNV:=O h;have HL:=lN w;have HF:=O hf;have HN0:Hid (∃r,nc=.int .i64 lv::r):=O ⟨_,hnce.symm⟩;have e1:¬lv<1:=by omega
 have e3:¬3<lv:=by omega
 clear h hnce hf;go_in
 go_wp2_with ((with_reducible show WL _ _);refine bxL HL 98 (.tmp 0) (nc.toArray) ?_)
 intro b1 w1 hk HL;replace HNV:=O (dE.keep HNV.out hk);clear hk;have c1:w1.cell? ⟨b1,0,none⟩=some (.int .i64 lv):=(by obtain⟨r,e⟩:=HN0.out;exact aC (i:=0) (HL.out.b 0) (by rw[e];rfl))
 have c2:w1.cell? ⟨b1,0,none⟩=some (.int .i64 lv):=(by obtain⟨r,e⟩:=HN0.out;exact aC (i:=0) (HL.out.b 0) (by rw[e];rfl))
 go_wp2_with fail;clear c1 c2;go_wp2_with fail;have HB:=O (HL.out.b 0);have HK0:=O HL.out.keep;clear HL
 go_loopw [3,12] (fun _ i wr=>∃k:Nat,k≤4/\i=.int .i64 k/\Hid (aA aB w1 wr)) (fun _ i _=>4-(intOf i).toNat)
 case atStart=>exact⟨0,by omega,rfl,O (aA.refl _ _)⟩
 case round =>
  obtain⟨k,hk,rfl,HK⟩:=hrel
  by_cases hk8:k<4
  ·have HBW:=O (HK.out.blk HB.out id)
   have HNW:=O (dE.keep HNV.out HK.out);have hpk:=aJ (v:=vs k) (HNV.out k hk8).sum;obtain⟨pk,hpke⟩:∃l,aE (vs k) (ps k)=l:=⟨_,rfl⟩
   have HOK:Hid (∀u∈pk,u.oneCell'=true):=O (by rw[←hpke];exact aU (HNV.out k hk8));have HX:Hid (World.rangeAt wr b1 (1+k*35) pk):=O (by rw[←hpke];exact pT HNV.out (by rw[HNS.out];exact aD HBW.out) hk8);have HY:Hid (World.cell? wr ⟨b1,0,none⟩=some (.int .i64 lv)):=O (by obtain⟨r,e⟩:=HN0.out;exact aC (i:=0) HBW.out (by rw[e];rfl));have HPK:=O hpke;rw[hpke] at hpk;have HL:=lN wr;have hk0:(0:Int)≤(k:Int):=by omega
   have hk1:(k:Int)<4:=by omega
   clear hpke;go_wp2_with fail;refine dwA aB (by kernel_rfl) ?_;intro w2 S HSE HSI hS hkd;replace HL:=kL HL hkd;replace HX:=O (hkd.rangeAt HX.out);replace HNW:=O (dE.keep HNW.out hkd);replace HY:=O (hkd.cell HY.out id);clear hkd;have HLs:=HL;have HXs:=HX;have HNWs:=HNW;have HYs:=HY;refine tna 0 (.int .i64 (k:Int)) rfl hS ?_;refine tnb 1 (.pointer (some ⟨b1,1,none⟩)) rfl hS ?_;refine tnd 2 (.pointer (some ⟨b1,1+k*35,none⟩)) rfl (.inl ⟨by rfl,fun _ _=>by go_simp<;>omega⟩) hS ?_;refine tnd 3 (.agg pk.toArray) rfl (yieldsIf_load_mid (by rfl) 27 (.tmp 17) rfl b1 (1+k*35) rfl pk _ (fun w' h=>(HSE.out w' h).rangeAt HXs.out) aF rfl (szP9 hpk)) hS ?_;refine tnb 4 (.pointer (some ⟨b1,0,none⟩)) rfl hS ?_;refine tnd 5 (.int .i64 lv) rfl (.inl ⟨by rfl,fun w' hw'=>by have c:World.cell? w' ⟨b1,0,none⟩=some (.int .i64 lv):=(HSE.out w' hw').cell HYs.out id;go_simp⟩) hS ?_;refine wA9 6 ?_;go_wp2_with fail;refine((by rw[←HPK.out];exact KH w2 (vs k) (ps k) (HNW.out k hk8) lv (by omega) (by omega) (HF.out k hk8):Calls _ _ _ w2 (aK w2 (.bool true)))).mono ?_;rintro e w3 ⟨rfl,hk⟩;have hS1:=HSI.out _ ((HSE.out _ hS).trans hk);replace HL:=kL HL hk;replace HX:=O (hk.rangeAt HX.out);replace HNW:=O (dE.keep HNW.out hk);replace HY:=O (hk.cell HY.out id);clear hS hk;go_wp2_with fail;refine⟨hS1,?_⟩;refine tnb 7 (.bool false) rfl hS1 ?_;refine wpAnyH_done (by kernel_rfl) ?_ _;clear hS1 HSE HSI HLs HXs HNWs HYs;go_wp2_with fail;have HK8:=O (HK.out.trans HL.out.keep);clear HL HX HY;go_wp2
   go_roundw
   case rel=>exact⟨k+1,by omega,by go_num,HK8⟩
   case measure=>simp[intOf];omega
  ·obtain rfl:k=4:=by omega
   go_wp2;go_ret;exact aK.of (HK0.out.trans HK.out)
theorem nmPt {w:World} {v:Value} {p:Pt} (h:PtV w v p):∃c,Hid (aE v p=c)/\c.length=35/\Hid (∀u∈c,u.oneCell'=true):=⟨_,O rfl,aJ h.sum,O (aU h)⟩
theorem Av(uc:List Value)(h:uc.length=32):uc=(List.range 32).map fun i=>uc.getD i undef:=by
 apply List.ext_getElem?;intro i;rw[List.getElem?_map]
 by_cases hi:i<32
 ·rw[List.getElem?_range hi,List.getElem?_eq_getElem (by omega)]
  simp[List.getD,List.getElem?_eq_getElem (show i<uc.length by omega)]
 ·rw[List.getElem?_eq_none (by omega),List.getElem?_eq_none (by simp;omega)];rfl
theorem Gi(a m:Nat)(f:Nat->Value)(cp:Int):Tryz.prog.built nF [(0,.pointer (some ⟨a,0,none⟩)),(1,.pointer (some ⟨m,0,none⟩)),(2,.agg ((List.range 32).map f).toArray),(3,.int .i64 cp)]=some (Value.pointer (some ⟨a,0,none⟩)::.pointer (some ⟨m,0,none⟩)::((List.range 32).map f++(.int .i64 cp::.slice none 0 0::.pointer none::.slice none 0 0::.slice none 0 0::gC mN))).toArray:=by kernel_rfl
theorem IQ(a m cp:Nat)(pid:List UInt8)(h:pid.length=32)(w:World):(Instr.build nF #[(0,.pointer (some ⟨a,0,none⟩)),(1,.pointer (some ⟨m,0,none⟩)),(2,.agg (pid.map vb).toArray),(3,.int .i64 (cp:Int))]).run Tryz.prog w=.ok (.agg (eU a m pid cp (.slice none 0 0) (.pointer none) mN).toArray) w:=by
 refine run_build w nF _ _ ?_;unfold eU;rw[Av (pid.map vb) (by rw[List.length_map,h])];exact Gi a m _ _
def Bb(w:World)(a:Nat)(pid:List UInt8)(cp:Nat)(e:Ending)(w':World):Prop:=∃c m,e=.returned (.pointer (some ⟨c,0,none⟩))/\aZ w' c a m pid cp (.slice none 0 0) (.pointer none) mN/\eL w' m a/\w.heap.size≤c/\w.heap.size≤m/\m<c/\aA aB w w'
theorem KJ{w:World}{a:Nat}{D Z nw:Nat}{B:Nat->Prop}{Mm:Nat->Nat->List UInt8}(ha:bM w a B D Z Mm nw)(pid:List UInt8)(hpid:pid.length=32)(cp:Nat):Calls Tryz.prog 78 #[.pointer (some ⟨a,0,none⟩),.agg (pid.map vb).toArray,.int .i64 (cp:Int)] w (Bb w a pid cp):=by
 have hpl:(pid.map vb).length=32:=by rw[List.length_map];exact hpid
 have HPID:=O hpid;have HA:=O ha;have HL:=lN w;clear ha hpid;go_in
 go_wp2_with ((with_reducible show WL _ _);refine bxL HL 25 (.tmp 1) ((pid.map vb).toArray) ?_)
 intro b4 w1 hk HL;replace HA:=O (HA.out.keep0 hk);clear hk;go_wp2_with fail;have HSZ:=O HL.out.keep.size;refine(Kr HA.out).mono ?_;rintro e w2 ⟨m,rfl,hmg,hm,hk⟩;replace HL:=kL HL hk;replace HA:=O (HA.out.keep0 hk);clear hk;have HM:=O hm;have HMG:=O (Nat.le_trans HSZ.out hmg);clear hm hmg;have hbC:=IQ a m cp pid HPID.out;have HKX:=O HL.out.keep;have HB4:=O (HL.out.b 0);have hmw:m<w2.heap.size:=lt_of_block HM.out;clear HL HA
 go_wp2_with ((with_reducible show WL _ _);first
  | refine wpList_load_mid rfl 25 (.tmp 4) rfl b4 0 rfl (pid.map vb) _ (aD HB4.out) Tryz.underlying25 rfl (by rw[hpl];exact uH) ?_
  | refine bld nF #[(0,.tmp 14),(1,.tmp 15),(2,.tmp 16),(3,.tmp 17)] [(0,.pointer (some ⟨a,0,none⟩)),(1,.pointer (some ⟨m,0,none⟩)),(2,.agg (pid.map vb).toArray),(3,.int .i64 (cp:Int))] (.agg (eU a m pid cp (.slice none 0 0) (.pointer none) mN).toArray) hbC ?_
  | refine bx nF (.tmp 18) (eU a m pid cp (.slice none 0 0) (.pointer none) mN).toArray ?_)
 intro c w9 hb hk hn;have HP:Hid (Bb w a pid cp (.returned (.pointer (some ⟨c,0,none⟩))) w9):=O ⟨c,m,rfl,⟨hn,HPID.out,lQ.zero _⟩,hk.blk HM.out id,by have:=HKX.out.size;omega,HMG.out,by omega,HKX.out.trans hk⟩;clear hb hk hn;go_wp2;go_ret;exact HP.out
theorem El{w:World}{a:Nat}{D Z nw:Nat}{B:Nat->Prop}{Mm:Nat->Nat->List UInt8}(ha:bM w a B D Z Mm nw){bc:Nat}(hb:w.heap[bc]?=some (.cells #[.pointer (some ⟨a,0,none⟩)] 40 (0,0)))(d:Int)(h0:0≤d)(hd:d<(D:Int)):Calls Tryz.prog 81 #[.int .i64 d,.pointer (some ⟨bc,0,none⟩)] w (aK w (.bool false)):=by
 have HBC:=O (cell_of_one hb);have HU:Hid ((decide (0≤d) && decide (d<(D:Int)))=true):=O (by rw[decide_eq_true h0,decide_eq_true hd];rfl);have HA:=O ha;have HL:=lN w;clear ha hb h0 hd;go_in;have c1:w.cell? ⟨bc,0,none⟩=some (.pointer (some ⟨a,0,none⟩)):=HBC.out;go_wp2_with fail;clear c1;refine(Om HA.out d).mono ?_;rintro e w1 ⟨rfl,hk⟩;replace HL:=kL HL hk;replace HA:=O (HA.out.keep0 hk);replace HBC:=O (hk.cell HBC.out id);clear hk;rw[HU.out];go_wp2;go_ret;exact aK.of HL.out.keep
theorem Gj(w:World)(v:Value)(l:List Int)(hr:Rd w 1 v l.length (l.map fun x=>.int .i64 x))(h8:l.length≤65536)(gf bc:Nat)(eg:∀args w,(callFunc gf args).run Tryz.prog w=.ok (.enter gf args) w)(hno:∀x∈l,∀w',aA aB w w'->Calls Tryz.prog gf #[.int .i64 x,.pointer (some ⟨bc,0,none⟩)] w' (aK w' (.bool false))) :
 Calls Tryz.prog 117 #[v,.func (.func gf) #[] #[.pointer (some ⟨bc,0,none⟩)]] w (aK w (.int .i64 (-1))):=by
 obtain⟨oa,ca,rfl,-,-⟩:=hr.form;obtain⟨n,hn⟩:∃n,l.length=n:=⟨_,rfl⟩
 have HN:=O hn;rw[hn] at hr h8 ⊢;have hnc:n≤ca:=by obtain⟨_,a',c',h1,h2,h3,-⟩:=hr;cases h1;exact h2
 have HR:=O hr;have HNO:=O hno;clear hr hno hn;go_in;go_wp2_with fail
 go_loopw [5,8] (fun _ i wr=>∃k:Nat,k≤n/\i=.int .i64 k/\Hid (aA aB w wr)) (fun _ i _=>n-(intOf i).toNat)
 case atStart=>exact⟨0,by omega,rfl,O (aA.refl _ _)⟩
 case round =>
  obtain⟨k,hk,rfl,HK⟩:=hrel
  by_cases hk8:k<n
  ·obtain⟨x,hx⟩:∃x,l[k]?=some x:=⟨l[k]'(by rw[HN.out];exact hk8),List.getElem?_eq_getElem _⟩
   obtain⟨g,o,cap',hv,hat⟩:=oW HR.out (k:=k) (u:=.int .i64 x) (by rw[List.getElem?_map,hx];rfl);obtain rfl:oa=some ⟨g,o,none⟩:=by cases hv;rfl
   have HX:=O (HK.out.cell hat id);have HC:=O (HNO.out x (List.mem_of_getElem? hx) wr HK.out);have HL:=lN wr;have hk0:(0:Int)≤(k:Int):=by omega
   have hk1:(k:Int)<(n:Int):=by omega
   have hkc:(k:Int)≤(ca:Int):=by omega
   clear hx hat hv;have c1:wr.cell? ⟨g,o+k,none⟩=some (.int .i64 x):=HX.out;go_wp2_with fail;clear c1;refine(HC.out).mono ?_;rintro e w1 ⟨rfl,hk⟩;replace HL:=kL HL hk;replace HX:=O (hk.cell HX.out id);clear hk;go_wp2_with fail;have HK8:=O (HK.out.trans HL.out.keep);clear HL HC HX
   go_roundw
   case rel=>exact⟨k+1,by omega,by go_num,HK8⟩
   case measure=>simp[intOf];omega
  ·obtain rfl:k=n:=by omega
   go_wp2;go_ret;exact aK.of HK.out
theorem Em(w:World)(v:Value)(l:List Int)(hr:Rd w 1 v l.length (l.map fun x=>.int .i64 x))(h8:l.length≤65536)(gf bc:Nat)(eg:∀args w,(callFunc gf args).run Tryz.prog w=.ok (.enter gf args) w)(hno:∀x∈l,∀w',aA aB w w'->Calls Tryz.prog gf #[.int .i64 x,.pointer (some ⟨bc,0,none⟩)] w' (aK w' (.bool false))) :
 Calls Tryz.prog 79 #[v,.func (.func gf) #[] #[.pointer (some ⟨bc,0,none⟩)]] w (aK w v):=by
 have HI:=O (Gj w v l hr h8 gf bc eg hno);have HL:=lN w;clear hr hno h8;go_in;go_wp2_with fail;refine(HI.out).mono ?_;rintro e w1 ⟨rfl,hk⟩;replace HL:=kL HL hk;clear hk;go_wp2;go_ret;exact aK.of HL.out.keep
def dL(w:World)(cv:Value):Prop:=cv=.pointer none\/∃b cs,cv=.pointer (some ⟨b,0,none⟩)/\w.heap[b]?=some (.cells cs nF (0,0))/\cs[0]?=some (.pointer none)
theorem dL.keep0{w w':World}{cv:Value}(h:dL w cv)(k:aA aB w w'):dL w' cv:=h.imp id fun ⟨b,cs,h1,h2,h3⟩=>⟨b,cs,h1,k.blk h2 id,h3⟩
theorem dL.one{w:World}{cv:Value}(h:dL w cv):cv.cells=#[cv]/\cv.oneCell'=true:=by
 rcases h with rfl|⟨b,cs,rfl,-,-⟩<;>exact⟨rfl,rfl⟩
theorem Jo{w:World}{cv:Value}(hN:dL w cv):Calls Tryz.prog 56 #[cv] w (aK w (.bool true)):=by
 have HL:=lN w;rcases hN with rfl|⟨b,cs,rfl,hb,h0⟩
 ·go_in
  go_wp2;go_ret;exact⟨rfl,HL.out.keep⟩
 ·go_in
  have c1:w.cell? ⟨b,0,none⟩=some (.pointer none):=aC hb h0;go_wp2;go_ret;exact⟨rfl,HL.out.keep⟩
theorem GO{w:World}{cv:Value}(hN:dL w cv):Calls Tryz.prog 70 #[cv] w (aK w (.int .i64 0)):=by
 have HN:=O hN;have HOC:=O hN.one;have HL:=lN w;clear hN;have HN0:=HN;go_in;go_wp2_with fail;refine((Jo HN.out)).mono ?_;rintro e w1 ⟨rfl,hk⟩;replace HL:=kL HL hk;replace HN:=O (dL.keep0 HN.out hk);clear hk;go_wp2;go_ret;exact⟨rfl,HL.out.keep⟩
end
end Go.Proofs.YtiinnfhjpaeffaaGreat
