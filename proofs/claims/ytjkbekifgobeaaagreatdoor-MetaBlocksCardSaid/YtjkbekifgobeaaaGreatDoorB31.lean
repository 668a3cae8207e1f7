/- A part of the proof. Conditions: those told. -/
import Derived.Test.YtjkbekifgobeaaaGreatDoorB1
import Derived.Test.YtjkbekifgobeaaaGreatDoorB29
import Derived.Test.YtjkbekifgobeaaaGreatDoorB30
import Derived.Lib.AppendZerosOnto
namespace Go.Proofs.YtjkbekifgobeaaaGreatDoor
set_option maxHeartbeats 64000000
set_option maxRecDepth 100000
set_option linter.unusedVariables false
section
open Go.RowKit Go.Maps Go.ChangeMaps
theorem rC(z:Value)(m:Nat):(Builtin.zeroCells #[z] m).toList=List.replicate m z:=by
 unfold Builtin.zeroCells;apply List.ext_getElem
 ·simp
 ·intro i h1 h2
  simp[Nat.mod_one]
theorem AC{P:Program}(w:World)(t tn ty e:TypeId)(i:TypeInfo)(z:Value)(k kn:IntKind)(ht:P.underlying t=some (.slice e))(htn:P.underlying tn=some (.int kn))(hi:P.info? e=some i)(hz:i.zero=some z)(hs:i.size=1)(hb:i.bytes=1)(hzc:z.cells=#[z])(hz1:z.oneCell'=true)
 (g n cap m:Nat) (cur:Array Value) (hg:w.heap[g]?=some (.cells cur e (0,0))) (hm:m≤65536) (hroom:n+m≤cap) (hfit:n+m≤cur.size) :
 (Builtin.append_ #[t,tn] ty #[.slice (some ⟨g,0,none⟩) n cap,.int k m]).run P w=.ok (.slice (some ⟨g,0,none⟩) (n+m) cap) (w.setRow g (cur.toList.take n++List.replicate m z++cur.toList.drop (n+m)).toArray):=by
 have hw:IntKind.i64.wrap (m:Int)=m:=by rw[IntKind.wrap_i64];omega
 have hneg:¬((m:Int)<0):=by omega
 have hbig:¬(281474976710656<(m:Int)):=by omega
 have hst:=run_storeCells_at P g n e (List.replicate m z) 0 cur w hg (by simpa using hfit) (fun v hv=>by rw[(List.mem_replicate.1 hv).2];exact hz1);simp only[Nat.add_zero,List.length_replicate] at hst
 by_cases h0:m=0
 ·subst h0
  simp only[List.replicate_zero] at hst ⊢;have hw0:IntKind.i64.wrap 0=0:=by rw[IntKind.wrap_i64];rfl
  have hr0:n≤cap:=by omega
  simp[Builtin.append_,run_underlying ht,run_underlying htn,sizeOf,typeInfo,hi,hs,hb,asInt,asIntOf,hw0,Addr.add_lit,hr0];have hst2:(storeCells ⟨g,n,none⟩ []).run P w=.ok () (w.setRow g cur):=by simpa using hst
  rw[hst2];rfl
 ·have hzl:=rC z m
  simp[Builtin.append_,run_underlying ht,run_underlying htn,sizeOf,typeInfo,zeroValue,hi,hz,hs,hb,asInt,asIntOf,hw,h0,hneg,hbig,hroom,Addr.add_lit,hzc,hzl,hst]
theorem pI{P:Program}{w:World}{ops:Array Oper}{rest:List Oper}{o:Oper}{a:Act}{Q:Exit->Act->World->Prop}(hgd:o.guard=none)(s x:Operand)(t tn:TypeId)
 (ho:o.op=.call { callee:=.builtin .append,args:=#[s,x],argTypes:=#[t,tn] }) (base:Nat) (e:TypeId) (z:Value) (k kn:IntKind) (ht:P.underlying t=some (.slice e)) (htn:P.underlying tn=some (.int kn))
 (hinf:(P.info? e).map (fun i=>(i.zero,i.size,i.bytes))=some (some z,1,1)) (hzc:z.cells=#[z]) (hz1:z.oneCell'=true) (v:Value) (n m:Nat) (xs:List Value) (hs:a.eval s=v) (hx:a.eval x=.int k (m:Int)) (hown:w.ownsRow base e 1 v n xs) (hn:n≤65536) (hm:m≤65536) (hbase:base≤w.heap.size)
 (h:∀v' w',w'.ownsRow base e 1 v' (n+m) (xs++List.replicate m z)->aA (fun i=>v.ownBlock=some i) w w'->wpList P ops Q rest (a.put o.dst v') w'):wpList P ops Q (o::rest) a w:=by
 obtain⟨i,hi,hz,hsz,hby⟩:=info_parts hinf;have hlen:(xs++List.replicate m z).length=(n+m)*1:=by rw[List.length_append,hown.1,List.length_replicate];omega
 have fin:∀v' w',(Builtin.append_ #[t,tn] o.type #[v,.int k m]).run P w=.ok v' w'->w'.ownsRow base e 1 v' (n+m) (xs++List.replicate m z)->aA (fun i=>v.ownBlock=some i) w w'->wpList P ops Q (o::rest) a w:=
  fun v' w' hr h1 h2=>Lib.wpList_append_run w hgd s x t tn ho v (.int k m) hs hx v' w' hr (h v' w' h1 h2)
 have grown:∀(old:Nat),old<n+m ->
  (w.drew.alloc (.cells (xs.toArray++Builtin.zeroCells z.cells m++Builtin.zeroCells z.cells (grownCap w (n+m) old e-(n+m))) e)).ownsRow base e 1
    (.slice (some ⟨w.heap.size,0,none⟩) (n+m) (grownCap w (n+m) old e)) (n+m) (xs++List.replicate m z) /\
  aA aB w (w.drew.alloc (.cells (xs.toArray++Builtin.zeroCells z.cells m++Builtin.zeroCells z.cells (grownCap w (n+m) old e-(n+m))) e)):=by
  intro old ho;have hge:=grownCap_ge w (n+m) old e;have hcm:grownCap w (n+m) old e≤maxLen:=grownCap_le_maxLen w (n+m) old e (by unfold maxLen;omega);refine⟨⟨hlen,.inr ⟨w.heap.size,_,_,rfl,hbase,heap_alloc_new w.drew _,hge,hcm,?_,?_⟩⟩,(aA.refl _ _).drew.alloc _⟩
  ·simp only[Array.size_append,List.size_toArray,size_zeroCells,hzc,hown.1,List.size_toArray,List.length_cons,List.length_nil]
   omega
  ·simp only[Array.toList_append,List.append_assoc,hzc,rC]
   rw[←List.append_assoc,←hlen];exact List.take_left
 rcases hown.2 with⟨rfl,rfl⟩|⟨g,cap,cur,rfl,hbg,hg,hnc,hcm,hcs,htake⟩
 ·have hxx:xs=[]:=List.eq_nil_of_length_eq_zero (by simpa using hown.1)
  subst hxx
  by_cases h0:m=0
  ·subst h0
   have hw0:IntKind.i64.wrap 0=0:=by rw[IntKind.wrap_i64];rfl
   refine fin (.slice none 0 0) w ?_ (World.ownsRow_nil w base e 1) (aA.refl _ _);simp[Builtin.append_,run_underlying ht,run_underlying htn,sizeOf,typeInfo,hi,hby,asInt,asIntOf,hw0]
  ·have hr:=Lib.run_append_nil_zeros (P:=P) w t tn o.type e i z k kn ht htn hi hz m (by omega) (by omega) (by omega) (by rw[hby];omega)
   have hgr:=grown 0 (by omega);simp only[Nat.zero_add,List.nil_append,Array.empty_append] at hgr hr fin;exact fin _ _ hr hgr.1 hgr.2.any
 ·by_cases hroom:n+m≤cap
  ·have hfit:n+m≤cur.size:=by omega
   have hr:=AC (P:=P) w t tn o.type e i z k kn ht htn hi hz hsz hby hzc hz1 g n cap m cur hg hm hroom hfit;refine fin _ _ hr ⟨hlen,.inr ⟨g,cap,_,rfl,hbg,setRow_heap w g cur _ e _ hg,hroom,hcm,?_,?_⟩⟩ ⟨rfl,rfl,rfl,by simp[World.setRow],fun k _ hk=>setRow_other w g k _ (fun e=>hk (by simp[Value.ownBlock,e]))⟩
   ·simp only[List.size_toArray,List.length_append,List.length_take,List.length_drop,Array.length_toList,List.length_replicate]
    omega
   ·rw[Nat.mul_one] at htake
    rw[htake,←hlen];exact List.take_left
  ·have holds:=run_firstCells_some (P:=P) w.drew i.size n ⟨g,0,none⟩ n cap xs (by rw[hsz];exact hown.1) (hown.cells (g:=g) rfl)
   have hr:=Lib.run_append_grow_zeros (P:=P) w t tn o.type e i z k kn ht htn hi hz (some ⟨g,0,none⟩) n cap xs holds m (by omega) (by omega) (by omega) (by omega) (by rw[hby];omega) (growslice_fits (by omega) (by rw[hby];omega));have hgr:=grown cap (by omega);exact fin _ _ hr hgr.1 hgr.2.any
theorem zK(w:World)(v:Value)(b:List UInt8)(hr:Rd w 1 v b.length (b.map vb))(hb:b.length≤16384):Calls Tryz.prog 29 #[v] w (rG w (b++List.replicate (16384-b.length) 0)):=by
 have C:=O (xZ v b w hr (by omega));obtain⟨a,c,rfl,-,-⟩:=hr.form;clear hr;obtain⟨n,hn⟩:∃n,b.length=n:=⟨_,rfl⟩
 have HN:=O hn;rw[hn] at hb C ⊢;obtain⟨m,hm⟩:∃m,16384-n=m:=⟨_,rfl⟩
 rw[hm];have hmi:16384-(n:Int)=(m:Int):=by omega
 have hm2:m≤16384:=by omega
 have HNM:=O (show n+m=16384 by omega);clear hn;go_enter Tryz.func29,Tryz.ntmps29;go_wp2_with fail;refine C.out.mono ?_;rintro e w1 ⟨v1,rfl,ho,hk⟩;have HO:=O ho;have HK:=O hk;rw[HN.out] at HO;have hsz:=hk.size;have HSZ:=O hsz;obtain⟨a1,c1,rfl,-,-⟩:=(Rd.of_owns HO.out).form;clear ho hk hsz
 go_wp2_with (at_builtin;refine pI rfl (.tmp 4) (.tmp 7) 27 3 rfl w.heap.size 5 (.int .u8 0) .i64 .i64 Tryz.underlying27 Tryz.underlying3 dW rfl rfl _ n m (b.map vb) rfl rfl HO.out (by omega) (by omega) HSZ.out ?_)
 intro v2 w2 ho2 hk2;obtain⟨a2,c2,rfl,-,-⟩:=(Rd.of_owns ho2).form;have HO2:=O ho2;have HK2:=O (HK.out.trans' hk2 (fun _ _ h=>h) (fun i hi e=>by have:=aQ HO.out e;omega));clear ho2 hk2;go_wp2_with fail;go_ret;have hl:(b++List.replicate m (0:UInt8)).length=n+m:=by rw[List.length_append,List.length_replicate,HN.out]
 refine⟨_,rfl,?_,HK2.out⟩;rw[hl,List.map_append,List.map_replicate];exact HO2.out
theorem Eo(E:Nat)(w:World) :
 CallsD Tryz.prog 27 #[.pointer (some ⟨E,0,none⟩)] .returning w fun e u' w'=>e=.returned (.tuple #[])/\u'=.returning/\w'=w:=by
 refine callsD_of_wpS Tryz.func27 rfl fun c₀ cs hu=>?_
 apply wpS_seq;apply wpS_region;simp[wpOpsS,go_sem,recoverD,hu,Tryz.ntmps27,Exit.thenS];refine wpS_of_wp ?_;go_wp2_with fail;cases c₀
 simp_all [bodyPostS,results,Tryz.results27]
def E1(E:Nat)(er:Int)(w:World)(e:Ending)(u':FrameMode)(w':World):Prop:=
 e=.returned (.tuple #[])/\u'=.panicking [{ v:=.iface 112 (.agg #[.int .i64 er]),recovered:=true }]/\w'.heap[E]?=some (.cells #[.int .i64 er] 46 (0,0))/\aA (fun k=>k=E) w w'
theorem K6:Hid (∀w,(zeroValue 112).run Tryz.prog w=.ok (.agg #[.int .i64 0]) w):=O fun w=>by kernel_rfl
theorem Ep(E:Nat)(er x:Int)(w:World)(hE:w.heap[E]?=some (.cells #[.int .i64 x] 46 (0,0))) :
 CallsD Tryz.prog 27 #[.pointer (some ⟨E,0,none⟩)] (.panicking (gH er)) w (E1 E er w):=by
 have hta:∀(w:World),Sem.run Tryz.prog (Instr.typeAssert (.iface 112 (.agg #[.int .i64 er])) 20 112 true) w=.ok (.tuple #[.agg #[.int .i64 er],.bool true]) w:=fun w=>by kernel_rfl
 have HE:=O hE;have HL:=O (Loc.nil aB aB w);clear hE;refine callsD_of_wpS Tryz.func27 rfl fun c₀ cs hu=>?_
 simp only[Tryz.ntmps27,List.size_toArray,List.length_cons,List.length_nil,Nat.reduceAdd,Nat.reduceSub,Array.replicate_succ,
  Array.replicate_zero,List.push_toArray,List.append_toArray,List.nil_append,List.cons_append]
 apply wpS_seq;apply wpS_region;simp[wpOpsS,go_sem,recoverD,hu,gH,Exit.thenS];refine wpS_of_wp ?_;have HU:=O hu;clear hu
 go_wp2_with ((with_reducible show WL _ _);refine alL HL 112 (.agg #[.int .i64 0]) (#[.int .i64 0]) K6 ?_)
 intro b3 w1 hk HL;replace HE:=O (hk.blk HE.out id);clear hk
 go_wp2_with ((with_reducible show WL _ _);refine sta 112 (.tmp 3) (.tmp 10) b3 0 [.int .i64 er] (HL.out.b 0) (by simp) (by kernel_rfl) (by intro v hv;rw[List.mem_singleton] at hv;rw[hv];rfl) ?_)
 intro w2 hk hb;replace hb:w2.heap[b3]?=some (.cells #[.int .i64 er] 112 (0,0)):=hb;have hbE:E≠b3:=fun e=>by subst e;have h:=HE.out;rw[HL.out.b 0] at h;cases h
 replace HL:=O (HL.out.set 0 hk hb);replace HE:=O (hk.blk HE.out hbE);clear hk hb hbE hta;have c1:w2.cell? ⟨b3,0,none⟩=some (.int .i64 er):=aC (i:=0) (HL.out.b 0) rfl
 go_wp2_with ((with_reducible show WL _ _);refine sta 46 (.tmp 14) (.tmp 13) E 0 [.int .i64 er] HE.out (by simp) (by kernel_rfl) (by intro v hv;rw[List.mem_singleton] at hv;rw[hv];rfl) ?_)
 intro w3 hk hb;replace hb:w3.heap[E]?=some (.cells #[.int .i64 er] 46 (0,0)):=hb;have HP:Hid (E1 E er w (.returned (.tuple #[])) (.panicking [{ v:=.iface 112 (.agg #[.int .i64 er]),recovered:=true }]) w3):=O ⟨rfl,rfl,hb,HL.out.keep.any.trans' hk (fun _ _ h=>h) (fun _ _ e=>e)⟩;clear hk hb HE HL;go_wp2_with fail;exact⟨rfl,_,rfl,_,results_none rfl _ _ _,HP.out⟩
def uP(w:World)(c:Nat)(B:Nat->Prop)(r:Option Tr)(T:Kor)(e:Ending)(w':World):Prop:=
 match r with
 | some t=>∃v B',e=.returned (.tuple #[.agg (aF v t.ptr).toArray,.int .i64 0])/\aM w' B' v t.ptr/\KI w' c T B'/\(∀k,B' k->B k\/w.heap.size≤k)/\Cl w w' B B'/\dJ w v/\aA B w w'
 | none=>e=.returned (.tuple #[.agg (aF (.slice none 0 0) zPt).toArray,.int .i64 15])/\aA B w w'
def bJ(bs:List UInt8):List UInt8:=bs++List.replicate (16384-bs.length) 0
theorem jL{bs:List UInt8}(h:bs.length≤16384):(bJ bs).length=256*4 ^ 3:=by
 unfold bJ;rw[List.length_append,List.length_replicate];show _=16384;omega
theorem zL{w:World}{c:Nat}{S:Kor}{B:Nat->Prop}(hK:KI w c S B)(vv:Value)(bs:List UInt8)(hbl:bs.length≤16384)(hr:Rd w 1 vv bs.length (bs.map vb))(r:Option Tr)(T:Kor)(hm:dN 3 S (bJ bs)=(r,T)):Calls Tryz.prog 9 #[.pointer (some ⟨c,0,none⟩),vv] w (uP w c B r T):=by
 have HL:=O (Cs.start hK);have HCL:=O (Cl.refl w w B (aA.refl _ _));have HM:=O hm;have HR:=O hr;have HBL:=O hbl;have HFL:=O (jL hbl);have HCP:=O (by have:=hK.bd.c1;omega:¬((S.cp:Nat):Int)=0);have HBLT:=O (fun i (e:B i)=>hK.lt e);obtain⟨va,vc,rfl,-,-⟩:=hr.form;obtain⟨m,hmm⟩:∃m,bs.length=m:=⟨_,rfl⟩
 have HMM:=O hmm;rw[hmm] at HR hbl ⊢;have hm1:¬((16384:Int)<(m:Int)):=by omega
 have hzp:(aF (.slice none 0 0) zPt).length=35:=rfl;have hzb:=gG;obtain⟨zp,hzpe⟩:∃l,aF (.slice none 0 0) zPt=l:=⟨_,rfl⟩
 have HOZP:Hid (∀u∈zp,u.oneCell'=true):=O (by rw[←hzpe];exact bQ zPt);have HZPE:=O hzpe;rw[hzpe] at hzp hzb;have HZB:=O hzb;clear hzpe hzb;clear hr hm hmm hK hbl
 go_enter_defers Tryz.func9,Tryz.ntmps9
 go_wp2_with ((with_reducible show WL _ _);refine al 26 (.agg aG.toArray) (aG.toArray) bD ?_)
 intro b4 w1 hbs hk hb;replace HL:=O (HL.out.new (trivial) hbs hk hb);replace HR:=O (HR.out.keep hk fun _ _=>id);replace HCL:=O (HCL.out.trans (Cl.refl _ _ _ hk));clear hbs hk hb
 go_wp2_with ((with_reducible show WL _ _);refine al 46 (.int .i64 0) (#[.int .i64 0]) jR ?_)
 intro b5 w2 hbs hk hb;replace HL:=O (HL.out.new (trivial) hbs hk hb);replace HR:=O (HR.out.keep hk fun _ _=>id);replace HCL:=O (HCL.out.trans (Cl.refl _ _ _ hk));clear hbs hk hb;have hcp:=HCP.out;go_wp2_with fail;refine((KI.copies HL.out.ki:Calls _ _ _ w2 (aJ w2 (.int .i64 (S.cp:Int))))).mono ?_;rintro e w3 ⟨rfl,hk⟩;replace HL:=O (HL.out.keeps hk);replace HR:=O (HR.out.keep hk fun _ _=>id);replace HCL:=O (HCL.out.trans (Cl.refl _ _ _ hk));clear hk;go_wp2_with fail;have HSZ:=O HL.out.keep.size;refine((by have h:=zK w3 (.slice va m vc) bs (by rw[HMM.out];exact HR.out) HBL.out;exact h:Calls _ _ _ w3 (rG w3 (bJ bs)))).mono ?_;rintro e w4 ⟨fv,rfl,ho,hk⟩;rw[show (bJ bs).length=16384 from HFL.out] at ho;obtain⟨fa,fc,rfl,-,-⟩:=(Rd.of_owns ho).form;have HO:=O ho;have HVB:Hid (∀i,(Value.slice fa 16384 fc).ownBlock=some i->¬B i):=O (fun i hi e=>by have:=aQ ho hi;have:=HBLT.out i e;have:=HSZ.out;omega);clear ho HSZ;replace HL:=O (HL.out.keeps hk);replace HR:=O (HR.out.keep hk fun _ _=>id);replace HCL:=O (HCL.out.trans (Cl.refl _ _ _ hk));clear hk;go_wp2_with fail;have HW1:=O HL.out.keep;refine((E0 (l:=3) (by omega) HL.out.ki (.slice fa 16384 fc) (bJ bs) HFL.out (by rw[show (bJ bs).length=16384 from HFL.out];exact Rd.of_owns HO.out) HVB.out r T HM.out:Calls _ _ _ w4 (jK w4 c B r T))).mono ?_;rintro e w8 hm;cases r with
 | none =>
   obtain⟨rfl,hk⟩:=hm;have HB4:=O (hk.blk (HL.out.b 1) (fun e=>(HL.out.loc.aq 1) (.inl e)));have HB5:=O (hk.blk (HL.out.b 0) (fun e=>(HL.out.loc.aq 0) (.inl e)));have HN45:=O (And.intro (HL.out.ne 0 1) (And.intro (HL.out.loc.lt 0).1 (HL.out.loc.lt 1).1));have HKP:Hid (aA B w w8):=O (HW1.out.trans' hk (fun _ _ h=>h) (fun i hi e=>e));go_wp2_with fail;refine leaves_cons (f:=27) (args:=#[.pointer (some ⟨b5,0,none⟩)]) (by simp) (by simp[go_sem]) ?_;refine(Ep b5 15 0 w8 HB5.out).mono ?_;rintro e u' w9 ⟨rfl,rfl,hb,hk9⟩;have c7:w9.cell? ⟨b5,0,none⟩=some (.int .i64 15):=aC (i:=0) hb rfl;have hfin:uP w c B none T (.returned (.tuple #[.agg (aF (.slice none 0 0) zPt).toArray,.int .i64 15])) w9:=⟨rfl,HKP.out.trans' hk9 (fun _ _ h=>h) (fun i hi e=>by have:=HN45.out;omega)⟩
   exact⟨_,dY rfl _ _ b4 _ _ _ _ rfl (hk9.blk HB4.out HN45.out.1) aI rfl (by rw[List.size_toArray,aE];exact cI) ⟨b5,0,none⟩ (.int .i64 15) rfl (by go_simp),hfin⟩
 | some t =>
   obtain⟨v,B',rfl,hpv,hki,hbb,hcl,hnw,hk⟩:=hm;have HNW:=O (hnw.from HW1.out.size);replace HCL:=O (HCL.out.trans hcl);replace HL:=O (HL.out.laid hpv hki hbb hnw hk);obtain⟨qc,HQC,hqc,HOQ⟩:=nmP hpv;rw[HQC.out];clear hpv hki hbb hcl hnw hk HR HO HW1
   go_wp2_with ((with_reducible show WL _ _);refine sta 26 (.tmp 4) (.tmp 19) b4 0 qc (HL.out.b 1) (by first|decide|(rw[hqc];exact Nat.le_refl _)|simp[hqc,aE]) (szP9 hqc) HOQ.out ?_)
   intro w9 hk hb;rw[aH _ _ (by first|rfl|simp[hqc,aE])] at hb;replace HL:=O (HL.out.set 1 hk hb);replace HCL:=O (Cl.onT HCL.out hk fun i hq e=>by rw[e] at hq;first|exact (HL.out.loc.aq 0) (.inl hq)|exact (HL.out.loc.aq 1) (.inl hq)|exact (HL.out.loc.aq 2) (.inl hq)|exact (HL.out.loc.aq 3) (.inl hq));clear hk hb
   go_wp2_with ((with_reducible show WL _ _);refine sta 46 (.tmp 5) (.const (.int .i64 0)) b5 0 ([.int .i64 0]) (HL.out.b 0) (by simp) (by kernel_rfl) (one9) ?_)
   intro wa hk hb;replace hb:wa.heap[b5]?=some (.cells #[.int .i64 0] 46 (0,0)):=hb;replace HL:=O (HL.out.set 0 hk hb);replace HCL:=O (Cl.onT HCL.out hk fun i hq e=>by rw[e] at hq;first|exact (HL.out.loc.aq 0) (.inl hq)|exact (HL.out.loc.aq 1) (.inl hq)|exact (HL.out.loc.aq 2) (.inl hq)|exact (HL.out.loc.aq 3) (.inl hq));clear hk hb;have HB4:=O (HL.out.b 1);have HB5:=O (HL.out.b 0);have HP:Hid (uP w c B (some t) T (.returned (.tuple #[.agg qc.toArray,.int .i64 0])) wa):=O ⟨v,B',by rw[HQC.out],HL.out.pv0 0,HL.out.ki,HL.out.bb,HCL.out,HNW.out,HL.out.keep⟩;clear HL HCL;go_wp2_with fail;refine leaves_cons (f:=27) (args:=#[.pointer (some ⟨b5,0,none⟩)]) (by simp) (by simp[go_sem]) ?_;refine(Eo b5 _).mono ?_;rintro e u' w'' ⟨rfl,rfl,rfl⟩;have c7:=aC (i:=0) HB5.out rfl;exact⟨_,dY rfl _ _ b4 _ _ _ _ rfl HB4.out aI rfl (by rw[List.size_toArray,hqc];exact cI) ⟨b5,0,none⟩ (.int .i64 0) rfl (by go_simp),HP.out⟩
theorem I7{w:World}{base m g cap:Nat}{xs:List Value}(h:w.ownsRow base 5 1 (.slice (some ⟨g,0,none⟩) m cap) m xs):w.ownsRow base 5 1 (.slice (some ⟨g,0,none⟩) 0 cap) 0 []:=by
 refine⟨by simp,?_⟩;rcases h.2 with⟨h,-⟩|⟨g2,cap2,cur,h1,h2,h3,h4,h5,h6,-⟩
 ·cases h
 ·injection h1 with h1 _ h7
  injection h1 with h1
  injection h1 with h1
  subst h1 h7;exact .inr ⟨g,cap,cur,rfl,h2,h3,Nat.zero_le _,h5,h6,by simp⟩
def K7(w:World)(e:Ending)(w':World):Prop:=∃v,e=.returned v/\w'.ownsRow w.heap.size 5 1 v 0 []/\aA aB w w'
theorem K8(w:World)(m:Nat)(hm:m≤65536):Calls Tryz.prog 63 #[.slice none 0 0,.int .i64 (m:Int)] w (K7 w):=by
 have h0:¬((m:Int)<0):=by omega
 by_cases hz:m=0
 ·subst hz
  go_enter Tryz.func63,Tryz.ntmps63;go_wp2_with fail;go_ret;exact⟨_,rfl,World.ownsRow_nil _ _ _ _,aA.refl _ _⟩
 ·have h1:(0:Int)<(m:Int):=by omega
  have HZ:=O hz;clear hz;go_enter Tryz.func63,Tryz.ntmps63
  go_wp2_with (at_builtin;refine pI rfl (.tmp 20) (.tmp 21) 27 3 rfl w.heap.size 5 (.int .u8 0) .i64 .i64 Tryz.underlying27 Tryz.underlying3 dW rfl rfl (.slice none 0 0) 0 m [] rfl rfl (World.ownsRow_nil _ _ _ _) (by omega) hm (Nat.le_refl _) ?_)
  intro v2 w2 ho2 hk2
  obtain⟨g,cap,rfl⟩:∃g cap,v2=.slice (some ⟨g,0,none⟩) m cap:=by
   rcases ho2.2 with⟨-,h⟩|⟨g,cap,cur,h,-⟩
   ·exact absurd h HZ.out
   ·exact⟨g,cap,h⟩
  have HO:=O (I7 ho2);have HK:=O (hk2.mono (T:=aB) fun _ _ e=>by cases e);clear ho2 hk2;go_wp2_with fail;go_ret;exact⟨_,rfl,HO.out,HK.out⟩
structure vD(w:World)(v:Value)(vs:List Value)(R:List (List UInt8)):Prop where
 row:Rd w 1 v R.length vs
 at_:∀(j:Nat) (b:List UInt8),R[j]?=some b->∃u,vs[j]?=some u/\Rd w 1 u b.length (b.map vb)
def flN(R:List (List UInt8))(k:Nat):Nat:=(R.take k).flatten.length
def flB(R:List (List UInt8))(k:Nat):List Value:=(R.take k).flatten.map vb
theorem xI{R:List (List UInt8)}{k:Nat}{b:List UInt8}(h:R[k]?=some b):(R.take (k+1)).flatten=(R.take k).flatten++b:=by
 rw[List.take_add_one,h,List.flatten_append];simp
theorem I8(R:List (List UInt8))(k:Nat):flN R k≤R.flatten.length:=by
 have h:R.flatten=(R.take k).flatten++(R.drop k).flatten:=by rw[←List.flatten_append,List.take_append_drop]
 rw[h,List.length_append];exact Nat.le_add_right _ _
theorem Gx(w:World)(v:Value)(vs:List Value)(R:List (List UInt8))(h:vD w v vs R)(hn:R.length≤1000)(hl:R.flatten.length≤65536):Calls Tryz.prog 31 #[v] w (rG w R.flatten):=by
 have H:=O h;obtain⟨va,vc,rfl,-,-⟩:=h.row.form;obtain⟨n,hnn⟩:∃n,R.length=n:=⟨_,rfl⟩
 have HN:=O hnn;have HL:=O hl;rw[hnn] at hn ⊢
 have HC:Hid (∀(w':World) (k:Nat) (b:List UInt8),aA aB w w'->R[k]?=some b->∃g o ua uc,va=some ⟨g,o,none⟩/\w'.cell? ⟨g,o+k,none⟩=some (.slice ua b.length uc)/\Rd w' 1 (.slice ua b.length uc) b.length (b.map vb)):=O (fun w' k b hk hb=>by
  obtain⟨u,hu,hr⟩:=H.out.at_ k b hb;obtain⟨ua,uc,rfl,-,-⟩:=hr.form;obtain⟨hl0,a',c',hv',-,-,-,h4⟩:=H.out.row;cases hv'
  have hp:0<vs.length:=by
   rcases Nat.eq_zero_or_pos vs.length with e|e
   ·rw[List.eq_nil_of_length_eq_zero e] at hu;cases hu
   ·exact e
  obtain⟨g,o,rfl,hc⟩:=h4 hp;exact⟨g,o,ua,uc,rfl,hk.cell (hc k _ hu) id,hr.keep hk fun _ _=>id⟩)
 clear h hnn hl;go_enter Tryz.func31,Tryz.ntmps31;go_wp2_with fail
 go_loopw [3,11] (fun s i wr=>∃k q:Nat,k≤n/\i=.int .i64 (k:Int)/\s=.int .i64 (q:Int)/\q≤65536/\Hid (q=flN R k)/\w=wr) (fun _ i _=>n-(intOf i).toNat)
 case atStart=>exact⟨0,0,Nat.zero_le _,rfl,rfl,by omega,O (by unfold flN;rfl),rfl⟩
 case round =>
  obtain⟨k,q,hk,rfl,rfl,hq,HQ,rfl⟩:=hrel
  by_cases hlt:k<n
  ·obtain⟨b,hb⟩:∃b,R[k]?=some b:=⟨_,List.getElem?_eq_getElem (by have:=HN.out;omega)⟩
   obtain⟨g,o,ua,uc,hva,hcell,-⟩:=HC.out w k b (aA.refl _ _) hb;subst hva;obtain⟨m,hm⟩:∃m,b.length=m:=⟨_,rfl⟩
   have HB:Hid (flN R (k+1)=q+m):=O (by unfold flN;rw[xI hb,List.length_append,hm,HQ.out];rfl);have hqm:q+m≤65536:=by have:=I8 R (k+1);have:=HL.out;have:=HB.out;omega
   have hki:(k:Int)<(n:Int):=by omega
   have hk0:(0:Int)≤(k:Int):=by omega
   have hw0:¬((q:Int)+(m:Int)<0):=by omega
   rw[hm] at hcell;clear hb hm;go_wp2_with fail
   go_roundw
   case rel=>exact⟨k+1,q+m,by omega,by first|rfl|go_num,by first|rfl|go_num,hqm,O HB.out.symm,by first|rfl|trivial⟩
   case measure=>simp[intOf];omega
  ·obtain rfl:n=k:=by omega
   go_wp2_with fail;refine(K8 w q hq).mono ?_;rintro e w1 ⟨v1,rfl,ho,hk1⟩;obtain⟨a1,c1,rfl,-,-⟩:=(Rd.of_owns ho).form;have HO:=O ho;have HK:=O hk1;clear ho hk1;go_wp2_with fail
   go_loopw [6,27] (fun s i wr=>∃k q:Nat,k≤n/\i=.int .i64 (k:Int)/\(∃a c,s=.slice a q c)/\Hid (wr.ownsRow w.heap.size 5 1 s q (flB R k))/\q≤65536/\Hid (q=flN R k)/\Hid (aA aB w wr)) (fun _ i _=>n-(intOf i).toNat)
   case atStart=>exact⟨0,0,Nat.zero_le _,rfl,⟨_,_,rfl⟩,O (by unfold flB;simpa using HO.out),by omega,O (by unfold flN;rfl),HK⟩
   case round =>
    clear HO HK;obtain⟨k,q2,hk2,rfl,⟨sa,sc,rfl⟩,HO,hq2,HQ2,HK⟩:=hrel
    by_cases hlt2:k<n
    ·obtain⟨b,hb⟩:∃b,R[k]?=some b:=⟨_,List.getElem?_eq_getElem (by have:=HN.out;omega)⟩
     obtain⟨g,o,ua,uc,hva,hcell,hrd⟩:=HC.out wr k b HK.out hb;subst hva;obtain⟨m,hm⟩:∃m,b.length=m:=⟨_,rfl⟩
     have HM:=O hm;have HF:=O (xI hb);have HB:Hid (flN R (k+1)=q2+m):=O (by unfold flN;rw[xI hb,List.length_append,hm,HQ2.out];rfl);have hqm:q2+m≤65536:=by have:=I8 R (k+1);have:=HL.out;have:=HB.out;omega
     have hki:(k:Int)<(n:Int):=by omega
     have hk0:(0:Int)≤(k:Int):=by omega
     rw[hm] at hcell hrd;have HR:=O hrd;have HSZ:=O HK.out.size;clear hb hm hrd
     go_wp2_with (at_builtin;refine aK rfl (.tmp 31) (.tmp 32) 27 rfl w.heap.size 5 _ 1 1 Tryz.underlying27 dW rfl (by omega) _ q2 _ rfl HO.out _ m (b.map vb) rfl HR.out (bL _) (by unfold maxLen;omega) (by omega) HSZ.out ?_)
     intro v5 w5 ho5 hk5 hn5 hb5;obtain⟨a5,c5,rfl,-,-⟩:=(Rd.of_owns ho5).form;have HO5:Hid (w5.ownsRow w.heap.size 5 1 (.slice a5 (q2+m) c5) (q2+m) (flB R (k+1))):=O (by unfold flB;rw[HF.out,List.map_append];exact ho5);have HK5:=O (HK.out.trans' hk5 (fun _ _ h=>h) (fun i hi e=>by have:=aQ HO.out e;omega));clear ho5 hk5 hn5 hb5 HO HK;go_wp2_with fail
     go_roundw
     case rel=>exact⟨k+1,q2+m,by omega,by first|rfl|go_num,⟨_,_,rfl⟩,HO5,hqm,O HB.out.symm,HK5⟩
     case measure=>simp[intOf];omega
    ·obtain rfl:n=k:=by omega
     have HT:Hid (R.take n=R):=O (List.take_of_length_le (by rw[HN.out];exact Nat.le_refl _));go_wp2_with fail;go_ret;have hl:R.flatten.length=q2:=by have h:=HQ2.out;unfold flN at h;rw[HT.out] at h;exact h.symm
     refine⟨_,rfl,?_,HK.out⟩;have h:=HO.out;unfold flB at h;rw[HT.out] at h;rw[hl];exact h
def eK(t:Tr):List UInt8:=(t.blocks 3).flatten
theorem MC{L:List (List UInt8)}(h:∀b∈L,b.length=256):L.flatten.length=256*L.length:=by
 induction L with
 | nil=>rfl
 | cons a l ih =>
   rw[List.flatten_cons,List.length_append,ih fun b hb=>h b (List.mem_cons_of_mem _ hb),h a (List.mem_cons_self ..),List.length_cons];omega
theorem Tr.Ok.bytes_len{S:Kor}{t:Tr}(h:Tr.Ok S 3 t):(eK t).length=16384:=by
 unfold eK;rw[MC,h.blocks_len]
 ·rw[h.blocks_eq]
  intro b hb;obtain⟨i,-,rfl⟩:=List.mem_map.1 hb;exact h.blk_len i
theorem MD{w:World}{g o L c n:Nat}{b:List UInt8}(h:Rd w 1 (.slice (some ⟨g,o,none⟩) L c) b.length (b.map vb))(hL:b.length=L)(hn:n≤L){a:Option Addr}(ha:n<L->a=some ⟨g,o+n,none⟩)(hs:a≠none):Rd w 1 (.slice a (L-n) (c-n)) (b.drop n).length ((b.drop n).map vb):=by
 obtain⟨h0,a',c',e,h1,h2,h3,h4⟩:=h;cases e
 refine⟨by simp,a,c-n,by rw[List.length_drop,hL],by rw[List.length_drop];omega,by unfold maxLen at *;omega,fun e=>absurd e hs,fun hp=>?_⟩;rw[List.length_map,List.length_drop] at hp;obtain⟨g2,o2,e2,hc⟩:=h4 (by rw[List.length_map];omega);injection e2 with e2
 injection e2 with e2 e3
 subst e2 e3;refine⟨g,o+n,ha (by omega),fun j v hj=>?_⟩;have:=hc (n+j) v (by rw[List.getElem?_map] at hj ⊢;rw[List.getElem?_drop] at hj;exact hj)
 rwa [←Nat.add_assoc] at this
theorem ME{w:World}{g o L c n:Nat}{b:List UInt8}(h:Rd w 1 (.slice (some ⟨g,o,none⟩) L c) b.length (b.map vb))(hL:b.length=L)(hn:n≤L):Rd w 1 (.slice (some ⟨g,o,none⟩) n n) (b.take n).length ((b.take n).map vb):=by
 obtain⟨h0,a',c',e,h1,h2,h3,h4⟩:=h;cases e
 have hl:(b.take n).length=n:=by rw[List.length_take];omega
 refine⟨by simp,some ⟨g,o,none⟩,n,by rw[hl],by rw[hl];exact Nat.le_refl _,by unfold maxLen at *;omega,(fun e=>by cases e),fun hp=>?_⟩;obtain⟨g2,o2,e2,hc⟩:=h4 (by rw[List.length_map] at *;omega);refine⟨g2,o2,e2,fun j v hj=>hc j v ?_⟩;rw[List.getElem?_map,List.getElem?_take] at hj;rw[List.getElem?_map];split at hj
 ·exact hj
 ·cases hj
theorem vD.keep{w w':World}{v:Value}{vs:List Value}{R:List (List UInt8)}(h:vD w v vs R)(k:aA aB w w'):vD w' v vs R:=
 ⟨h.row.keep k fun _ _=>id,fun j b hj=>(h.at_ j b hj).imp fun u hu=>⟨hu.1,hu.2.keep k fun _ _=>id⟩⟩
def mC(w:World)(t:Tr)(n:Nat)(e:Ending)(w':World):Prop:=
 if cP ((eK t).drop n) then ∃v,e=.returned (.tuple #[v,.int .i64 0])/\Rd w' 1 v ((eK t).take n).length (((eK t).take n).map vb)/\lZ w w' v/\aA aB w w'
 else e=.returned (.tuple #[.slice none 0 0,.int .i64 12])/\aA aB w w'
theorem Jd{w:World}{c:Nat}{S:Kor}{B:Nat->Prop}(hK:KI w c S B)(pv:Value)(t:Tr)(ht:Tr.Ok S 3 t)(hp:aM w B pv t.ptr)(n:Nat)(hn:n≤16384):Calls Tryz.prog 10 #[.pointer (some ⟨c,0,none⟩),.agg (aF pv t.ptr).toArray,.int .i64 (n:Int)] w (mC w t n):=by
 have HT:=O ht;have HK:=O hK;have HPT:=O hp;have HBT:=O ht.bytes_len;have HCP:=O (by have:=hK.bd.c1;omega:¬((S.cp:Nat):Int)=0);obtain⟨p,hpe⟩:∃p,t.ptr=p:=⟨_,rfl⟩
 have HPE:=O hpe;rw[hpe] at HPT hp ⊢;obtain⟨pc,HPC,hpc,HOP⟩:=nmPt hp.pt;rw[HPC.out];have HL:=O (Loc.nil aB aB w);have hn0:¬((n:Int)<0):=by omega
 have hn1:¬((16384:Int)<(n:Int)):=by omega
 clear hp ht hK hpe;go_enter Tryz.func10,Tryz.ntmps10
 go_wp2_with ((with_reducible show WL _ _);refine bxL HL 26 (.tmp 1) (pc.toArray) ?_)
 intro b4 w1 hk HL;replace HPT:=O (aM.keep0 HPT.out hk);replace HK:=O (KI.keep0 HK.out hk);clear hk;have hcp:=HCP.out;go_wp2_with fail;refine((KI.copies HK.out:Calls _ _ _ w1 (aJ w1 (.int .i64 (S.cp:Int))))).mono ?_;rintro e w2 ⟨rfl,hk⟩;replace HL:=O (HL.out.keeps hk);replace HPT:=O (aM.keep0 HPT.out hk);replace HK:=O (KI.keep0 HK.out hk);clear hk
 go_wp2_with ((with_reducible show WL _ _);refine wpList_load_mid rfl 26 (.tmp 4) rfl b4 0 rfl pc _ (aD (HL.out.b 0)) aI rfl (szP9 hpc) ?_)
 refine((by rw[←HPC.out];exact wA w2 pv p HPT.out.pt (by rw[←HPE.out];exact HT.out.root):Calls _ _ _ w2 (aJ w2 (.int .i64 0)))).mono ?_;rintro e w3 ⟨rfl,hk⟩;replace HL:=O (HL.out.keeps hk);replace HPT:=O (aM.keep0 HPT.out hk);replace HK:=O (KI.keep0 HK.out hk);clear hk
 go_wp2_with ((with_reducible show WL _ _);refine wpList_load_mid rfl 26 (.tmp 4) rfl b4 0 rfl pc _ (aD (HL.out.b 0)) aI rfl (szP9 hpc) ?_)
 refine((by rw[←HPC.out,←HPE.out];exact Lb HK.out pv t HT.out (by rw[HPE.out];exact HPT.out):Calls _ _ _ w3 (xK w3 t))).mono ?_;rintro e w4 ⟨lv,vs,rfl,ho,hrb,hk⟩;have hbl:(t.blocks 3).length=64:=HT.out.blocks_len;rw[hbl] at ho;obtain⟨la,lc,rfl,-,-⟩:=(Rd.of_owns ho).form;have HRR:Hid (vD w4 (Value.slice la 64 lc) vs (t.blocks 3)):=O ⟨by rw[hbl];exact Rd.of_owns ho,fun j b hj=>(hrb.2 j b hj).imp fun u hu=>⟨hu.1,hu.2.1⟩⟩;have HBL64:=O hbl;clear ho hrb hbl;replace HL:=O (HL.out.keeps hk);replace HPT:=O (aM.keep0 HPT.out hk);replace HK:=O (KI.keep0 HK.out hk);clear hk;go_wp2_with fail;have HSZ:=O HL.out.keep.size;refine((by exact Gx w4 (.slice la 64 lc) vs (t.blocks 3) HRR.out (by rw[HBL64.out];decide) (by rw[show (t.blocks 3).flatten.length=16384 from HBT.out];decide):Calls _ _ _ w4 (rG w4 (eK t)))).mono ?_;rintro e w5 ⟨bv,rfl,ho,hk⟩;rw[HBT.out] at ho
 obtain⟨g,cap,rfl,hcap⟩:∃g cap,bv=.slice (some ⟨g,0,none⟩) 16384 cap/\16384≤cap:=by
  rcases ho.2 with⟨-,h⟩|⟨g,cap,cur,h,-,-,h2,-⟩
  ·cases h
  ·exact⟨g,cap,h,h2⟩
 have HO:=O (Rd.of_owns ho);have HOG:=O (fun i (hi:(Value.slice (some ⟨g,0,none⟩) 16384 cap).ownBlock=some i)=>(by have:=aQ ho hi;have:=HSZ.out;obtain⟨cur,hc⟩:=aL ho hi;exact⟨by omega,⟨_,_,hc⟩⟩:w.heap.size≤i/\IsC w5 i));clear ho HSZ;replace HL:=O (HL.out.keeps hk);replace HPT:=O (aM.keep0 HPT.out hk);replace HK:=O (KI.keep0 HK.out hk);replace HRR:=O (vD.keep HRR.out hk);clear hk
 have HPF:Hid (cP ((eK t).drop n)=true->∀w',aA aB w5 w'->mC w t n (.returned (.tuple #[.slice (some ⟨g,0,none⟩) n n,.int .i64 0])) w'):=O fun hz w' hk=>by
  unfold mC;rw[if_pos hz];refine⟨_,rfl,(ME (by rw[HBT.out];exact HO.out) HBT.out hn).keep hk fun _ _=>id,fun i hi=>?_,HL.out.keep.trans hk⟩;have h:=HOG.out i hi;exact⟨h.1,h.2.keep hk id⟩
 have HPN:Hid (cP ((eK t).drop n)=false->∀w',aA aB w5 w'->mC w t n (.returned (.tuple #[.slice none 0 0,.int .i64 12])) w'):=O fun hz w' hk=>by
  unfold mC;rw[hz,if_neg (by decide)];exact⟨rfl,HL.out.keep.trans hk⟩
 have HMK:=O (fun(a:Option Addr) (ha:n<16384->a=some ⟨g,0+n,none⟩) (hs:a≠none)=>(MD (by rw[HBT.out];exact HO.out) HBT.out hn ha hs:Rd w5 1 (.slice a (16384-n) (cap-n)) ((eK t).drop n).length (((eK t).drop n).map vb)));have hn2:(n:Int)≤(cap:Int):=by omega
 clear HL HO HPT HK HRR;rcases Nat.lt_or_ge n cap with hnc|hnc
 ·have hnc2:¬cap=n:=by omega
  go_wp2_with fail;refine(fY w5 (.slice (some ⟨g,n,none⟩) (16384-n) (cap-n)) _ (by have h:=HMK.out (some ⟨g,n,none⟩) (fun _=>by rw[Nat.zero_add]) (by simp);exact h)).mono ?_;rintro e w9 ⟨rfl,hk9⟩;have HK9:=O hk9;cases hz:cP ((eK t).drop n) with
  | true =>
    have HP:=O (HPF.out hz w9 HK9.out);clear hk9 hz;go_wp2_with fail
    go_ret2
    exact HP.out
  | false =>
    have HP:=O (HPN.out hz w9 HK9.out);clear hk9 hz;go_wp2_with fail
    go_ret2
    exact HP.out
 ·have hn16:¬n<16384:=by omega
  have HN16:=O hn16;obtain rfl:cap=n:=by omega
  rw[Nat.sub_self] at HMK;clear hn16 hcap;go_wp2_with fail;refine(fY w5 (.slice (some ⟨g,0,none⟩) (16384-cap) (0)) _ (by have h:=HMK.out (some ⟨g,0,none⟩) (fun h=>absurd h HN16.out) (by simp);exact h)).mono ?_;rintro e w9 ⟨rfl,hk9⟩;have HK9:=O hk9;cases hz:cP ((eK t).drop cap) with
  | true =>
    have HP:=O (HPF.out hz w9 HK9.out);clear hk9 hz;go_wp2_with fail
    go_ret2
    exact HP.out
  | false =>
    have HP:=O (HPN.out hz w9 HK9.out);clear hk9 hz;go_wp2_with fail
    go_ret2
    exact HP.out
theorem NJ:Hid (∀w,(zeroValue 39).run Tryz.prog w=.ok (.slice none 0 0) w):=O fun w=>by kernel_rfl
theorem wG:∀{l:Nat}{b:List UInt8},aY l b+1≤2*4 ^ l
 | 0,b=>by unfold aY;split<;>simp
 | l+1,b=>by
   have h:=fun i=>wG (l:=l) (b:=bH l b i)
   have h0:=h 0;have h1:=h 1;have h2:=h 2;have h3:=h 3;unfold aY;rw[Nat.pow_succ];have hp:1≤4 ^ l:=Nat.pos_of_ne_zero (by simp);split<;>omega
theorem Lc{l:Nat}(hl:l≤3)(b:List UInt8):aY l b≤127:=by
 have h:=wG (l:=l) (b:=b);have:4 ^ l≤4 ^ 3:=Nat.pow_le_pow_right (by omega) hl;omega
theorem Bw{l:Nat}(hl:l≤2)(b:List UInt8):∀k,k≤4->eP l b k≤127*k
 | 0,_=>Nat.zero_le _
 | k+1,h=>by
   have h1:=Bw hl b k (by omega);have h2:=Lc (show l≤3 by omega) (bH l b k);show eP l b k+aY l (bH l b k)≤_;omega
def sO(l:Nat):Prop:=∀{w:World}(vv:Value) (bs:List UInt8) (_:bs.length=256*4 ^ l) (_:Rd w 1 vv bs.length (bs.map vb)),Calls Tryz.prog 37 #[vv,.int .i64 (l:Int)] w (aJ w (.int .i64 (aY l bs:Int)))
theorem Bx{l:Nat}(H:sO l)(hl:l≤3){w:World}(vv:Value)(bs:List UInt8)(hbl:bs.length=256*4 ^ l)(hr:Rd w 1 vv bs.length (bs.map vb)){b2:Nat}(hb2:w.heap[b2]?=some (.cells #[.int .i64 ((l+1:Nat):Int)] 3 (0,0))):Calls Tryz.prog 75 #[vv,.pointer (some ⟨b2,0,none⟩)] w (aJ w (.int .i64 (aY l bs:Int))):=by
 have HH:Hid (sO l):=O H;have HC:=O (HH.out vv bs hbl hr);have hw64:IntKind.i64.wrap ((l:Int)+1-1)=(l:Int):=by rw[Int.add_sub_cancel];exact IntWalk.i64_in _ (by omega)
 obtain⟨va,vc,rfl,-,-⟩:=hr.form;have c2:w.cell? ⟨b2,0,none⟩=some (.int .i64 ((l:Int)+1)):=(cell_of_one hb2).trans (by rw[Int.natCast_succ]);obtain⟨q,hq⟩:∃q,aY l bs=q:=⟨_,rfl⟩
 rw[hq] at HC ⊢;clear hr hbl hb2 H HH hq;go_enter Tryz.func75,Tryz.ntmps75;go_wp2_with fail;refine HC.out.mono ?_;rintro e w1 ⟨rfl,hk⟩;have HK:=O hk;clear hk c2;go_wp2_with fail;go_ret;exact⟨rfl,HK.out⟩
def jU(l:Nat)(bs:List UInt8)(k:Nat):List Value:=(List.range k).map fun i=>.int .i64 (aY l (bH l bs i):Int)
theorem Gy(l:Nat)(bs:List UInt8)(k:Nat):jU l bs (k+1)=jU l bs k++[.int .i64 (aY l (bH l bs k):Int)]:=by unfold jU;rw[List.range_succ,List.map_append];rfl
def NdI(w0:World)(N0 l:Nat)(bs:List UInt8)(bo b3:Nat)(cl:Array Value×TypeId)(k:Nat)(W:World):Prop:=
 W.heap[b3]?=some (.cells cl.1 cl.2 (0,0))/\∃v,W.heap[bo]?=some (.cells #[v] 39 (0,0))/\W.ownsRow N0 3 1 v k (jU l bs k)/\(w0.heap.size≤N0/\N0≤W.heap.size)/\aA aB w0 W
theorem NdI.keep0{w0 W W':World}{N0 l:Nat}{bs:List UInt8}{bo b3 k:Nat}{cl:Array Value×TypeId}(h:NdI w0 N0 l bs bo b3 cl k W)(hk:aA aB W W'):NdI w0 N0 l bs bo b3 cl k W':=by
 obtain⟨h0,v,h1,h2,h3,h4⟩:=h;exact⟨hk.blk h0 id,v,hk.blk h1 id,hk.owns h2 fun _ _=>id,⟨h3.1,Nat.le_trans h3.2 hk.size⟩,h4.trans hk⟩
theorem NdI.put{w0 W:World}{N0 l:Nat}{bs:List UInt8}{bo b3 k:Nat}{cl:Array Value×TypeId}(h:NdI w0 N0 l bs bo b3 cl k W){j:Nat}{o:Obj}(hj:N0≤j)(ho:W.heap[j]?=some o)(hc:o.isCells=false)(o':Obj):NdI w0 N0 l bs bo b3 cl k (W.putObj j o'):=by
 obtain⟨h0,v,h1,h2,h3,h4⟩:=h;have kd:aA (fun i=>some j=some i) W (W.putObj j o'):=aA.of_grown (grownBy_putObj' W j o');refine⟨kd.blk h0 (fun e=>by injection e with e;exact pH ho hc ⟨_,_,h0⟩ e),v,kd.blk h1 (fun e=>by injection e with e;exact pH ho hc ⟨_,_,h1⟩ e),kd.owns h2 fun i hi e=>?_,⟨h3.1,Nat.le_trans h3.2 kd.size⟩,h4.trans' kd (fun _ _ h=>h) fun i hi e=>by injection e with e;omega⟩;injection e with e
 obtain⟨cur,hcu⟩:=aL h2 hi;exact pH ho hc ⟨_,_,hcu⟩ e
theorem NdI.step{w0 W w4 w8 w9:World}{N0 l:Nat}{bs:List UInt8}{bo b3 k:Nat}{cl:Array Value×TypeId}{v v2:Value}(h0:W.heap[b3]?=some (.cells cl.1 cl.2 (0,0)))(h2:W.ownsRow N0 3 1 v k (jU l bs k))(h3:w0.heap.size≤N0/\N0≤W.heap.size)(h4:aA aB w0 W)(hbo:(bo<N0/\w0.heap.size≤bo)/\b3<N0/\b3≠bo)
 (kd:aA aB W w4) (k8:aA (fun i=>v.ownBlock=some i) w4 w8) (ho8:w8.ownsRow N0 3 1 v2 (k+1) (jU l bs k++[.int .i64 (aY l (bH l bs k):Int)])) (k9:aA (fun i=>i=bo) w8 w9) (h9:w9.heap[bo]?=some (.cells #[v2] 39 (0,0))) :
 NdI w0 N0 l bs bo b3 cl (k+1) w9/\KpN N0 W w9/\KpC (fun i=>i=bo\/N0≤i) W w9:=by
 have kW:aA (fun i=>v.ownBlock=some i\/i=bo) W w9:=(kd.any.trans k8).trans' k9 (fun _ _ h=>.inl h) (fun _ _ h=>.inr h);refine⟨⟨kW.blk h0 (fun e=>e.elim (fun e=>by have:=aQ h2 e;omega) fun e=>hbo.2.2 e),v2,h9,?_,⟨h3.1,Nat.le_trans h3.2 kW.size⟩,h4.trans' kW (fun _ _ h=>h) fun i hi e=>e.elim (fun e=>by have:=aQ h2 e;omega) fun e=>by omega⟩,KpN.of kW ?_,KpC.of kW fun i e=>e.elim (fun e=>.inr (aQ h2 e)) .inl⟩
 ·rw[Gy]
  exact k9.owns ho8 fun i hi e=>by have:=aQ ho8 hi;omega
 ·intro i o e hn ho
  rcases e with e|e
  ·obtain⟨cur,hc⟩:=aL h2 e
   rw[hc] at ho;cases ho;rfl
  ·omega
def DD(w:World)(l:Nat)(bs:List UInt8)(e:Ending)(w':World):Prop:=∃v,e=.returned v/\w'.ownsRow w.heap.size 3 1 v 4 (jU l bs 4)/\aA aB w w'
theorem Er{l:Nat}(H:sO l)(hl:l≤2){w:World}(vv:Value)(bs:List UInt8)(hbl:bs.length=256*4 ^ (l+1))(hr:Rd w 1 vv bs.length (bs.map vb)){b2:Nat}(hb2:w.heap[b2]?=some (.cells #[.int .i64 ((l+1:Nat):Int)] 3 (0,0))):Calls Tryz.prog 74 #[vv,.func (.func 75) #[] #[.pointer (some ⟨b2,0,none⟩)]] w (DD w l bs):=by
 have HH:Hid (sO l):=O H;have HB2:=O hb2;obtain⟨q,hq⟩:∃q,256*4 ^ l=q:=⟨_,rfl⟩
 have hq1:1≤q:=by rw[←hq];exact Nat.mul_pos (by omega) (Nat.pos_of_ne_zero (by simp))
 have hq2:q≤4096:=by rw[←hq];exact Nat.mul_le_mul_left 256 (Nat.pow_le_pow_right (by omega) hl:4 ^ l≤4 ^ 2)
 obtain⟨L,hL⟩:∃L,bs.length=L:=⟨_,rfl⟩
 have hL4:L=4*q:=by rw[←hL,hbl,←hq,Nat.pow_succ];omega
 have HBL:=O hbl;have HQ:=O hq;have HL4:=O hL4;obtain⟨va,cap,rfl,hcap,hrd⟩:=wU hr;obtain⟨g,o,rfl,hra⟩:=hrd (by omega);rw[hL] at hcap ⊢;have HCAP:=O hcap;have HRA:=O hra;have hdiv:(L:Int).tdiv 4=(q:Int):=by rw[hL4,Int.tdiv_eq_ediv_of_nonneg (by omega)];omega
 have hLL:L≤16384:=by omega
 have HL:=O (Loc.nil aB aB w);clear hr hbl hb2 H hrd hra hL hq hL4;refine sS Tryz.func74 rfl ?_;simp only[Tryz.ntmps74,List.size_toArray,List.length_cons,List.length_nil,Nat.reduceAdd,Nat.reduceSub,Array.replicate_succ,Array.replicate_zero,List.push_toArray,List.append_toArray,List.nil_append,List.cons_append];refine lJ ?_
 go_wp2_with ((with_reducible show WL _ _);refine bxL HL 137 (.tmp 1) (#[.func (.func 75) #[] #[.pointer (some ⟨b2,0,none⟩)]]) ?_)
 intro b3 w1 hk HL;clear hk;go_wp2_with fail;refine lJ ?_
 go_wp2_with ((with_reducible show WL _ _);refine alL HL 39 (.slice none 0 0) (#[.slice none 0 0]) NJ ?_)
 intro b5 w2 hk HL;clear hk;go_wp2_with fail;refine xP ?_;refine lJ ?_;have HB5W:=O (HL.out.lt 0).2;go_wp2_with fail;have HLW:=O HL.out.keep;refine(zG (.slice (some ⟨g,o,none⟩) L cap) w2 q hq1 ⟨_,_,_,rfl⟩).mono ?_;rintro e w3 ⟨B1,B2,rfl,hc1,hc2,hn1,hn2,hk⟩;have HC1:=O hc1;have HC2:=O hc2;have HCN:=O (And.intro hn1 hn2);clear hc1 hc2 hn1 hn2;replace HL:=O (HL.out.keeps hk);clear hk;go_wp2_with fail;have hb3l:=HL.out.lt 1;have hb5l:=HL.out.lt 0;have h35:b3≠b5:=bK HL.out.nd (i:=0) rfl 1 (by decide) rfl;have hlw2:=HLW.out.size;have hcn:=HCN.out;have HG:=O (And.intro (show w.heap.size≤b3/\b3<w3.heap.size by omega) (And.intro (show w.heap.size≤b5/\b5<w3.heap.size by omega) (show w.heap.size≤w3.heap.size by have:=HL.out.keep.size;omega)));have HKW:=O HL.out.keep;have H3:=O (HL.out.b 1)
 have HR12:Hid (¬(B1=b5\/w3.heap.size≤B1)/\¬(B2=b5\/w3.heap.size≤B2)):=O (by
  have a1:=lt_of_block HC1.out;have a2:=lt_of_block HC2.out;have b5l2:=HB5W.out;constructor<;>rintro (e|e)<;>omega)
 have HCH:=wD (Res:=fun i=>i=b5\/w3.heap.size≤i) HL4.out hq1 HCAP.out.1 HCAP.out.2 HC1.out HC2.out HR12.out.1 HR12.out.2;have HI0:Hid (∀W,aA aB w3 W->NdI w w3.heap.size l bs b5 b3 (#[.func (.func 75) #[] #[.pointer (some ⟨b2,0,none⟩)]],137) 0 W):=O fun W hk=>⟨hk.blk H3.out id,.slice none 0 0,hk.blk (HL.out.b 0) id,World.ownsRow_nil _ _ _ _,⟨HG.out.2.2,hk.size⟩,HKW.out.trans hk⟩
 clear hb3l hb5l hlw2 hcn;refine xQ ?_;refine oM (Res:=fun i=>i=b5\/w3.heap.size≤i) Tryz.func74 (gf:=132) rfl (enters_of Tryz.func132 (by kernel_rfl) rfl) (N:=4) (encs:=vC g o q) HCH (fun _=>rfl) (NdI w w3.heap.size l bs b5 b3 (#[.func (.func 75) #[] #[.pointer (some ⟨b2,0,none⟩)]],137)) (fun _ _=>False) HI0.out (fun k W W' h hk=>h.keep0 hk) (fun k W l o hl h ho hc o'=>h.put hl ho hc o') ?round ?done (fun _ _ _ _ h _=>h.elim)
 case done =>
  rintro D W hD hI hDd;obtain⟨-,v,h2,h3,h9,h10⟩:=hI;have hwd:=HG.out.2.2;have kd:=aA.of_grown (grownBy_putObj' W D (.deferred none));have no:=fun {i:Nat}(h:IsC W i)=>kF hDd rfl h
  have HP:Hid (DD w l bs (.returned v) (W.putObj D (.deferred none))):=O ⟨v,rfl,aU (kd.owns h3 fun i hi e=>(by obtain⟨cur,hc⟩:=aL h3 hi;exact no ⟨_,_,hc⟩ e)) hwd,h10.trans' kd (fun _ _ h=>h) fun i hi e=>by injection e with e;omega⟩;have HDD:=O hDd;have c5:=cell_of_one h2;clear kd no h2 h3 h9 h10 hDd HCH;go_wp2_with fail;exact⟨by simp,.inl ⟨_,_,rfl,run_takeDeferred HDD.out,⟨v,(results_tmp (t:=4) rfl _ _ _).trans (by rfl),HP.out⟩⟩⟩
 case round =>
  intro l' k W1 hk4 hI hl';have HI:=O hI;have HL':=O hl';clear hI hl' HCH;unfold vC;rw[Bv];simp only[List.setIfInBounds_toArray,List.set_cons_zero,List.set_cons_succ];refine cE (by kernel_rfl) (fun ⟨_,_,h⟩=>h) ?_;go_wp2_with fail;refine⟨KpN.of (aA.refl aB _) (fun _ _ h=>h.elim),KpC.of (aA.refl aB _) (fun _ h=>h.elim),fun o9 o' hoo hoc=>?_⟩;have HIV:=O (HI.out.put (Nat.le_of_lt HL'.out) hoo hoc o');clear hoo hoc HI;generalize World.putObj W1 l' o'=V at HIV ⊢;refine wpIn_block ?_;obtain⟨h0,v,h2,h3,h9,h10⟩:=HIV.out;have H0:=O h0;have H2:=O h2;have H3v:=O h3;have H9:=O h9;have H10:=O h10;have HX2:=O (H10.out.blk HB2.out id);have HP0:=O (Bu (k:=k) HBL.out HQ.out hk4 hq2 (H10.out.rangeAt HRA.out));clear h0 h2 h3 h9 h10 HIV;obtain⟨pc,hpc⟩:∃x,(Value.slice (some ⟨g,o+k*q,none⟩) q q)=x:=⟨_,rfl⟩
  rw[hpc] at HP0 ⊢;have hkd:=(aA.refl aB V).drew;refine gX (by kernel_rfl) (by kernel_rfl) (fun ⟨_,_,h⟩=>h) (wpAny_of_held (S:=fun w'=>w'.heap[b3]?=some (.cells #[.func (.func 75) #[] #[.pointer (some ⟨b2,0,none⟩)]] 137 (0,0))) _ _ _ _ ?_);change wpAnyH _ _ _ _ _ _ _ _ V.drew;have hS:V.drew.heap[b3]?=some (.cells #[.func (.func 75) #[] #[.pointer (some ⟨b2,0,none⟩)]] 137 (0,0)):=hkd.blk H0.out id;have HKD:=O hkd;generalize V.drew=wd at hS HKD ⊢;clear hkd;have H2:=O (HKD.out.blk H2.out id);have H3w:=O (HKD.out.owns H3v.out fun _ _=>id);replace HX2:=O (HKD.out.blk HX2.out id);replace HP0:=O (HP0.out.keep HKD.out fun _ _=>id);have HVW:=O (fun i (hi:v.ownBlock=some i)=>(by obtain⟨cur,hc⟩:=aL H3v.out hi;have:=lt_of_block hc;have:=HKD.out.size;exact⟨aQ H3v.out hi,by omega⟩:w3.heap.size≤i/\i<wd.heap.size));have HVS:=O (Nat.le_trans H9.out.2 HKD.out.size);obtain⟨nq,hnq⟩:∃x,aY l (bH l bs k)=x:=⟨_,rfl⟩
  have HNQ:=O hnq;refine tnd 1 (.func (.func 75) #[] #[.pointer (some ⟨b2,0,none⟩)]) rfl (.inl ⟨by rfl,fun w' hw'=>by have c:World.cell? w' ⟨b3,0,none⟩=some (.func (.func 75) #[] #[.pointer (some ⟨b2,0,none⟩)]):=cell_of_one hw';go_simp⟩) hS ?_;refine tna 2 pc rfl hS ?_;refine eL (k:=0) (l:=3) rfl rfl (by kernel_rfl) ?_ ?_
  ·have c5:wd.cell? ⟨b5,0,none⟩=some v:=cell_of_one H2.out
   go_wp2_with fail;clear c5
   try refine⟨hS,?_⟩
   refine wA9 3 ?_;go_wp2_with fail;refine((by rw[←HNQ.out];exact Bx HH.out (by omega) pc (bH l bs k) (gO HBL.out hk4) HP0.out HX2.out:Calls _ _ _ wd (aJ wd (.int .i64 (nq:Int))))).mono ?_;rintro e wc ⟨rfl,hk⟩;have HK3:=O hk;have H2c:=O (hk.blk H2.out id);have hSc:wc.heap[b3]?=some (.cells #[.func (.func 75) #[] #[.pointer (some ⟨b2,0,none⟩)]] 137 (0,0)):=hk.blk hS id;have H3c:=O (hk.owns H3w.out fun _ _=>id);clear hk;go_wp2_with fail;refine⟨hSc,?_⟩;refine wA9 4 ?_;refine bs1 39 3 (.tmp 16) (.int .i64 (nq:Int)) (by kernel_rfl) (by kernel_rfl) Tryz.underlying39 rfl ?_;intro bx we hbs hke hbe;have HRN:Hid (Rd we 1 (.slice (some ⟨bx,0,none⟩) 1 1) 1 [.int .i64 (nq:Int)]):=O (cQ (n:=1) (size:=1) hbe rfl (by unfold maxLen;omega));have H3e:=O (hke.owns H3c.out fun _ _=>id);have H2e:=O (hke.blk H2c.out id);have hSe:we.heap[b3]?=some (.cells #[.func (.func 75) #[] #[.pointer (some ⟨b2,0,none⟩)]] 137 (0,0)):=hke.blk hSc id;have HKE:=O hke;clear hbe hke hbs;refine wpList_nil ?_;refine⟨hSe,?_⟩;refine wA9 5 ?_;refine aK rfl (.tmp 13) (.tmp 17) 39 rfl w3.heap.size 3 (.int .i64 0) 1 8 Tryz.underlying39 sG rfl (by decide) v k (jU l bs k) rfl H3e.out (.slice (some ⟨bx,0,none⟩) 1 1) 1 [.int .i64 (nq:Int)] rfl HRN.out (by intro u hu;rcases List.mem_singleton.1 hu with rfl;rfl) (by unfold maxLen;omega) (by omega) (by have:=HKE.out.size;have:=HK3.out.size;have:=HVS.out;omega) ?_;intro v2 w8 ho5 hk5 hn5 hb5;obtain⟨g2,c2,rfl,-,-⟩:=(Rd.of_owns ho5).form;have HO5:=O ho5;have HK5:=O hk5;have HBO8:=O (hk5.blk H2e.out (fun e=>by have:=HVW.out _ e;have:=HG.out;omega));have hS8:w8.heap[b3]?=some (.cells #[.func (.func 75) #[] #[.pointer (some ⟨b2,0,none⟩)]] 137 (0,0)):=hk5.blk hSe (fun e=>by have:=HVW.out _ e;have:=HG.out;omega);clear ho5 hk5 hn5 hb5 HRN;refine wpList_nil ?_;refine⟨hS8,?_⟩;refine wA9 6 ?_;refine sta 39 (.tmp 5) (.tmp 18) b5 0 [.slice g2 (k+1) c2] HBO8.out (by simp) (by kernel_rfl) (one9) ?_;intro w9 hk hb;replace hb:w9.heap[b5]?=some (.cells #[.slice g2 (k+1) c2] 39 (0,0)):=hb;have hS9:w9.heap[b3]?=some (.cells #[.func (.func 75) #[] #[.pointer (some ⟨b2,0,none⟩)]] 137 (0,0)):=hk.blk hS8 h35;refine wpList_nil ?_;refine⟨hS9,?_⟩;refine wpAnyH_done (by kernel_rfl) ?_ _;have h:=NdI.step (b3:=b3) (cl:=(#[.func (.func 75) #[] #[.pointer (some ⟨b2,0,none⟩)]],137)) H0.out H3v.out H9.out H10.out (And.intro (And.intro HG.out.2.1.2 HG.out.2.1.1) (And.intro HG.out.1.2 h35)) ((HKD.out.trans HK3.out).trans HKE.out) HK5.out (by rw[HNQ.out];exact HO5.out) hk hb;exact⟨h.2.1,h.2.2,h.1⟩
  ·go_wp2_with fail
   refine((by rw[←HNQ.out];exact Bx HH.out (by omega) pc (bH l bs k) (gO HBL.out hk4) HP0.out HX2.out:Calls _ _ _ wd (aJ wd (.int .i64 (nq:Int))))).mono ?_;rintro e wc ⟨rfl,hk⟩;have HK3:=O hk;have H2c:=O (hk.blk H2.out id);have hSc:wc.heap[b3]?=some (.cells #[.func (.func 75) #[] #[.pointer (some ⟨b2,0,none⟩)]] 137 (0,0)):=hk.blk hS id;have H3c:=O (hk.owns H3w.out fun _ _=>id);clear hk;go_wp2_with fail;refine⟨hSc,?_⟩;refine eL (k:=0) (l:=4) rfl rfl (by kernel_rfl) ?_ ?_
   ·have c5:wc.cell? ⟨b5,0,none⟩=some v:=cell_of_one H2c.out
    go_wp2_with fail;clear c5
    try refine⟨hSc,?_⟩
    refine wA9 4 ?_;refine bs1 39 3 (.tmp 16) (.int .i64 (nq:Int)) (by kernel_rfl) (by kernel_rfl) Tryz.underlying39 rfl ?_;intro bx we hbs hke hbe;have HRN:Hid (Rd we 1 (.slice (some ⟨bx,0,none⟩) 1 1) 1 [.int .i64 (nq:Int)]):=O (cQ (n:=1) (size:=1) hbe rfl (by unfold maxLen;omega));have H3e:=O (hke.owns H3c.out fun _ _=>id);have H2e:=O (hke.blk H2c.out id);have hSe:we.heap[b3]?=some (.cells #[.func (.func 75) #[] #[.pointer (some ⟨b2,0,none⟩)]] 137 (0,0)):=hke.blk hSc id;have HKE:=O hke;clear hbe hke hbs;refine wpList_nil ?_;refine⟨hSe,?_⟩;refine wA9 5 ?_;refine aK rfl (.tmp 13) (.tmp 17) 39 rfl w3.heap.size 3 (.int .i64 0) 1 8 Tryz.underlying39 sG rfl (by decide) v k (jU l bs k) rfl H3e.out (.slice (some ⟨bx,0,none⟩) 1 1) 1 [.int .i64 (nq:Int)] rfl HRN.out (by intro u hu;rcases List.mem_singleton.1 hu with rfl;rfl) (by unfold maxLen;omega) (by omega) (by have:=HKE.out.size;have:=HK3.out.size;have:=HVS.out;omega) ?_;intro v2 w8 ho5 hk5 hn5 hb5;obtain⟨g2,c2,rfl,-,-⟩:=(Rd.of_owns ho5).form;have HO5:=O ho5;have HK5:=O hk5;have HBO8:=O (hk5.blk H2e.out (fun e=>by have:=HVW.out _ e;have:=HG.out;omega));have hS8:w8.heap[b3]?=some (.cells #[.func (.func 75) #[] #[.pointer (some ⟨b2,0,none⟩)]] 137 (0,0)):=hk5.blk hSe (fun e=>by have:=HVW.out _ e;have:=HG.out;omega);clear ho5 hk5 hn5 hb5 HRN;refine wpList_nil ?_;refine⟨hS8,?_⟩;refine wA9 6 ?_;refine sta 39 (.tmp 5) (.tmp 18) b5 0 [.slice g2 (k+1) c2] HBO8.out (by simp) (by kernel_rfl) (one9) ?_;intro w9 hk hb;replace hb:w9.heap[b5]?=some (.cells #[.slice g2 (k+1) c2] 39 (0,0)):=hb;have hS9:w9.heap[b3]?=some (.cells #[.func (.func 75) #[] #[.pointer (some ⟨b2,0,none⟩)]] 137 (0,0)):=hk.blk hS8 h35;refine wpList_nil ?_;refine⟨hS9,?_⟩;refine wpAnyH_done (by kernel_rfl) ?_ _;have h:=NdI.step (b3:=b3) (cl:=(#[.func (.func 75) #[] #[.pointer (some ⟨b2,0,none⟩)]],137)) H0.out H3v.out H9.out H10.out (And.intro (And.intro HG.out.2.1.2 HG.out.2.1.1) (And.intro HG.out.1.2 h35)) ((HKD.out.trans HK3.out).trans HKE.out) HK5.out (by rw[HNQ.out];exact HO5.out) hk hb;exact⟨h.2.1,h.2.2,h.1⟩
   ·refine bs1 39 3 (.tmp 16) (.int .i64 (nq:Int)) (by kernel_rfl) (by kernel_rfl) Tryz.underlying39 rfl ?_
    intro bx we hbs hke hbe;have HRN:Hid (Rd we 1 (.slice (some ⟨bx,0,none⟩) 1 1) 1 [.int .i64 (nq:Int)]):=O (cQ (n:=1) (size:=1) hbe rfl (by unfold maxLen;omega));have H3e:=O (hke.owns H3c.out fun _ _=>id);have H2e:=O (hke.blk H2c.out id);have hSe:we.heap[b3]?=some (.cells #[.func (.func 75) #[] #[.pointer (some ⟨b2,0,none⟩)]] 137 (0,0)):=hke.blk hSc id;have HKE:=O hke;clear hbe hke hbs;refine wpList_nil ?_;refine⟨hSe,?_⟩;refine wA9 0 ?_;have c5:we.cell? ⟨b5,0,none⟩=some v:=cell_of_one H2e.out;go_wp2_with fail;clear c5
    try refine⟨hSe,?_⟩
    refine wA9 5 ?_;refine aK rfl (.tmp 13) (.tmp 17) 39 rfl w3.heap.size 3 (.int .i64 0) 1 8 Tryz.underlying39 sG rfl (by decide) v k (jU l bs k) rfl H3e.out (.slice (some ⟨bx,0,none⟩) 1 1) 1 [.int .i64 (nq:Int)] rfl HRN.out (by intro u hu;rcases List.mem_singleton.1 hu with rfl;rfl) (by unfold maxLen;omega) (by omega) (by have:=HKE.out.size;have:=HK3.out.size;have:=HVS.out;omega) ?_;intro v2 w8 ho5 hk5 hn5 hb5;obtain⟨g2,c2,rfl,-,-⟩:=(Rd.of_owns ho5).form;have HO5:=O ho5;have HK5:=O hk5;have HBO8:=O (hk5.blk H2e.out (fun e=>by have:=HVW.out _ e;have:=HG.out;omega));have hS8:w8.heap[b3]?=some (.cells #[.func (.func 75) #[] #[.pointer (some ⟨b2,0,none⟩)]] 137 (0,0)):=hk5.blk hSe (fun e=>by have:=HVW.out _ e;have:=HG.out;omega);clear ho5 hk5 hn5 hb5 HRN;refine wpList_nil ?_;refine⟨hS8,?_⟩;refine wA9 6 ?_;refine sta 39 (.tmp 5) (.tmp 18) b5 0 [.slice g2 (k+1) c2] HBO8.out (by simp) (by kernel_rfl) (one9) ?_;intro w9 hk hb;replace hb:w9.heap[b5]?=some (.cells #[.slice g2 (k+1) c2] 39 (0,0)):=hb;have hS9:w9.heap[b3]?=some (.cells #[.func (.func 75) #[] #[.pointer (some ⟨b2,0,none⟩)]] 137 (0,0)):=hk.blk hS8 h35;refine wpList_nil ?_;refine⟨hS9,?_⟩;refine wpAnyH_done (by kernel_rfl) ?_ _;have h:=NdI.step (b3:=b3) (cl:=(#[.func (.func 75) #[] #[.pointer (some ⟨b2,0,none⟩)]],137)) H0.out H3v.out H9.out H10.out (And.intro (And.intro HG.out.2.1.2 HG.out.2.1.1) (And.intro HG.out.1.2 h35)) ((HKD.out.trans HK3.out).trans HKE.out) HK5.out (by rw[HNQ.out];exact HO5.out) hk hb;exact⟨h.2.1,h.2.2,h.1⟩
theorem uQ{w:World}(vv:Value)(bs:List UInt8)(hr:Rd w 1 vv bs.length (bs.map vb))(l:Nat)(hz:cP bs=true):Calls Tryz.prog 37 #[vv,.int .i64 (l:Int)] w (aJ w (.int .i64 0)):=by
 have HR:=O hr;have HAZ:=O hz;obtain⟨va,vc,rfl,-,-⟩:=hr.form;obtain⟨m,hmm⟩:∃m,bs.length=m:=⟨_,rfl⟩
 have HMM:=O hmm;rw[hmm] at HR ⊢;have HL:=O (Loc.nil aB aB w);clear hr hmm hz;go_enter Tryz.func37,Tryz.ntmps37
 go_wp2_with ((with_reducible show WL _ _);refine bxL HL 3 (.tmp 1) (#[.int .i64 (l:Int)]) ?_)
 intro b3 w1 hk HL;replace HR:=O (HR.out.keep hk fun _ _=>id);clear hk;go_wp2_with fail;refine((by have h:=fY w1 (.slice va m vc) bs (by rw[HMM.out];exact HR.out);rw[HAZ.out] at h;exact h:Calls _ _ _ w1 (aJ w1 (.bool true)))).mono ?_;rintro e w2 ⟨rfl,hk⟩;replace HL:=O (HL.out.keeps hk);replace HR:=O (HR.out.keep hk fun _ _=>id);clear hk;go_wp2_with fail;go_ret;exact aJ.of HL.out.keep
theorem Gz{w:World}(vv:Value)(bs:List UInt8)(hr:Rd w 1 vv bs.length (bs.map vb))(hz:cP bs=false):Calls Tryz.prog 37 #[vv,.int .i64 0] w (aJ w (.int .i64 1)):=by
 have HR:=O hr;have HAZ:=O hz;obtain⟨va,vc,rfl,-,-⟩:=hr.form;obtain⟨m,hmm⟩:∃m,bs.length=m:=⟨_,rfl⟩
 have HMM:=O hmm;rw[hmm] at HR ⊢;have HL:=O (Loc.nil aB aB w);clear hr hmm hz;go_enter Tryz.func37,Tryz.ntmps37
 go_wp2_with ((with_reducible show WL _ _);refine bxL HL 3 (.tmp 1) (#[.int .i64 0]) ?_)
 intro b3 w1 hk HL;replace HR:=O (HR.out.keep hk fun _ _=>id);clear hk;go_wp2_with fail;refine((by have h:=fY w1 (.slice va m vc) bs (by rw[HMM.out];exact HR.out);rw[HAZ.out] at h;exact h:Calls _ _ _ w1 (aJ w1 (.bool false)))).mono ?_;rintro e w2 ⟨rfl,hk⟩;replace HL:=O (HL.out.keeps hk);replace HR:=O (HR.out.keep hk fun _ _=>id);clear hk;have c1:w2.cell? ⟨b3,0,none⟩=some (.int .i64 0):=(aC (i:=0) (HL.out.b 0) rfl)
 go_wp2_with fail;clear c1;go_ret;exact aJ.of HL.out.keep
theorem Je{l:Nat}(H:sO l)(hl:l≤2){w:World}(vv:Value)(bs:List UInt8)(hr:Rd w 1 vv bs.length (bs.map vb))(hbl:bs.length=256*4 ^ (l+1))(hz:cP bs=false):Calls Tryz.prog 37 #[vv,.int .i64 ((l+1:Nat):Int)] w (aJ w (.int .i64 (aY (l+1) bs:Int))):=by
 have HR:=O hr;have HAZ:=O hz;have HH:Hid (sO l):=O H;have HBL:=O hbl;have HM:=O (sC l bs);have HKL:=O (Bw hl bs);have hl1:(0:Int)<((l+1:Nat):Int):=by omega
 obtain⟨lv,hlv⟩:∃x,((l+1:Nat):Int)=x:=⟨_,rfl⟩
 have HLV:=O hlv;rw[hlv] at hl1 ⊢;obtain⟨va,vc,rfl,-,-⟩:=hr.form;obtain⟨m,hmm⟩:∃m,bs.length=m:=⟨_,rfl⟩
 have HMM:=O hmm;rw[hmm] at HR ⊢;have HL:=O (Loc.nil aB aB w);clear hr hmm hz H hbl hlv;go_enter Tryz.func37,Tryz.ntmps37
 go_wp2_with ((with_reducible show WL _ _);refine bxL HL 3 (.tmp 1) (#[.int .i64 lv]) ?_)
 intro b3 w1 hk HL;replace HR:=O (HR.out.keep hk fun _ _=>id);clear hk;go_wp2_with fail;refine((by have h:=fY w1 (.slice va m vc) bs (by rw[HMM.out];exact HR.out);rw[HAZ.out] at h;exact h:Calls _ _ _ w1 (aJ w1 (.bool false)))).mono ?_;rintro e w2 ⟨rfl,hk⟩;replace HL:=O (HL.out.keeps hk);replace HR:=O (HR.out.keep hk fun _ _=>id);clear hk;have c1:w2.cell? ⟨b3,0,none⟩=some (.int .i64 lv):=(aC (i:=0) (HL.out.b 0) rfl)
 go_wp2_with fail;clear c1;refine((Er HH.out hl (.slice va m vc) bs HBL.out (by rw[HMM.out];exact HR.out) (b2:=b3) (by rw[HLV.out];exact HL.out.b 0):Calls _ _ _ w2 (DD w2 l bs))).mono ?_;rintro e w3 ⟨rv,rfl,ho,hk⟩;obtain⟨ra,rc,rfl,-,-⟩:=(Rd.of_owns ho).form;have HO:=O (Rd.of_owns ho);clear ho;replace HL:=O (HL.out.keeps hk);replace HR:=O (HR.out.keep hk fun _ _=>id);clear hk;go_wp2_with fail
 obtain⟨g,o,hra⟩:∃g o,ra=some ⟨g,o,none⟩:=by
  obtain⟨-,a',c',e,-,-,-,h4⟩:=HO.out;cases e
  obtain⟨g,o,h,-⟩:=h4 (by unfold jU;simp);exact⟨g,o,h⟩
 subst hra
 have HC:Hid (∀k:Nat,k<4->w3.cell? ⟨g,o+k,none⟩=some (.int .i64 (aY l (bH l bs k):Int))):=O (fun k hk=>by
  obtain⟨-,a',c',e,-,-,-,h4⟩:=HO.out;cases e
  obtain⟨g',o',h,hc⟩:=h4 (by unfold jU;simp);cases h
  exact hc k _ (by unfold jU;rw[List.getElem?_map,List.getElem?_range hk];rfl))
 have HK:=O HL.out.keep;clear HL HR HO
 go_loopw [5,16] (fun s i wr=>∃k q:Nat,k≤4/\i=.int .i64 (k:Int)/\s=.int .i64 (q:Int)/\q≤1000/\Hid (q=1+eP l bs k)/\w3=wr) (fun _ i _=>4-(intOf i).toNat)
 case atStart=>exact⟨0,1,by omega,rfl,rfl,by omega,O rfl,rfl⟩
 case round =>
  obtain⟨k,q,hk,rfl,rfl,hq,HQ,rfl⟩:=hrel
  by_cases hlt:k<4
  ·have hki:(k:Int)<4:=by omega
   have hk0:(0:Int)≤(k:Int):=by omega
   have c1:=HC.out k hlt;obtain⟨z,hzz⟩:∃x,aY l (bH l bs k)=x:=⟨_,rfl⟩
   have HZZ:=O hzz;have HQ2:Hid (q+z=1+eP l bs (k+1)):=O (by show q+z=1+(eP l bs k+aY l (bH l bs k));rw[hzz,HQ.out];omega);have hz2:q+z≤1000:=by have:=HQ2.out;have:=HKL.out (k+1) (by omega);omega
   rw[hzz] at c1;clear hzz;go_wp2_with fail
   go_roundw
   case rel=>exact⟨k+1,q+z,by omega,by first|rfl|go_num,by first|rfl|go_num,hz2,HQ2,by first|rfl|trivial⟩
   case measure=>simp[intOf];omega
  ·obtain rfl:k=4:=by omega
   have hfin:(aY (l+1) bs:Int)=(q:Int):=by
    have h:=HM.out;rw[if_neg (by rw[HAZ.out];decide)] at h;have:=HQ.out;omega
   have HFIN:=O hfin;clear hfin;go_wp2_with fail;go_ret;exact⟨by rw[HFIN.out];rfl,HK.out⟩
theorem DE:∀{l:Nat},l≤3->sO l
 | 0,_=>by
   rename_i w _;intro vv bs hbl hr;cases hz:cP bs with
   | true=>rw[sD hz];exact uQ vv bs hr 0 hz
   | false =>
     have e:aY 0 bs=1:=by unfold aY;rw[if_neg (by rw[hz];decide)]
     rw[e];exact Gz vv bs hr hz
 | l+1,hl=>by
   rename_i w;intro vv bs hbl hr;cases hz:cP bs with
   | true=>rw[sD hz];exact uQ vv bs hr (l+1) hz
   | false=>exact Je (DE (by omega)) (by omega) vv bs hr hbl hz
theorem Ld{w:World}(vv:Value)(bs:List UInt8)(hbl:bs.length≤16384)(hr:Rd w 1 vv bs.length (bs.map vb)):Calls Tryz.prog 18 #[vv] w (aJ w (.tuple #[.int .i64 (aY 3 (bJ bs):Int),.int .i64 0])):=by
 have HR:=O hr;have HBL:=O hbl;have HFL:=O (jL hbl);obtain⟨va,vc,rfl,-,-⟩:=hr.form;obtain⟨m,hmm⟩:∃m,bs.length=m:=⟨_,rfl⟩
 have HMM:=O hmm;rw[hmm] at HR hbl ⊢;have hm1:¬((16384:Int)<(m:Int)):=by omega
 have HL:=O (Loc.nil aB aB w);obtain⟨q,hq⟩:∃x,aY 3 (bJ bs)=x:=⟨_,rfl⟩
 have HQ:=O hq;rw[hq];clear hr hmm hbl hq;go_enter Tryz.func18,Tryz.ntmps18;go_wp2_with fail;refine((by have h:=zK w (.slice va m vc) bs (by rw[HMM.out];exact HR.out) HBL.out;exact h:Calls _ _ _ w (rG w (bJ bs)))).mono ?_;rintro e w1 ⟨fv,rfl,ho,hk⟩;rw[show (bJ bs).length=16384 from HFL.out] at ho;obtain⟨fa,fc,rfl,-,-⟩:=(Rd.of_owns ho).form;have HO:=O (Rd.of_owns ho);clear ho;replace HL:=O (HL.out.keeps hk);replace HR:=O (HR.out.keep hk fun _ _=>id);clear hk;go_wp2_with fail;refine((by rw[←HQ.out];exact DE (l:=3) (by omega) (.slice fa 16384 fc) (bJ bs) HFL.out (by rw[show (bJ bs).length=16384 from HFL.out];exact HO.out):Calls _ _ _ w1 (aJ w1 (.int .i64 (q:Int))))).mono ?_;rintro e w2 ⟨rfl,hk⟩;replace HL:=O (HL.out.keeps hk);replace HR:=O (HR.out.keep hk fun _ _=>id);replace HO:=O (HO.out.keep hk fun _ _=>id);clear hk;go_wp2_with fail
 go_ret2
 exact aJ.of HL.out.keep
def sP(p:Nat->Bool):Nat->Bool
 | 0=>false
 | n+1=>sP p n || p n
theorem sQ{p:Nat->Bool}:∀{n:Nat},sP p n=true↔∃i,i<n/\p i=true
 | 0=>by simp[sP]
 | n+1=>by
   unfold sP;rw[Bool.or_eq_true,sQ];constructor
   ·rintro (⟨i,h,e⟩|e)
    ·exact⟨i,by omega,e⟩
    ·exact⟨n,by omega,e⟩
   ·rintro⟨i,h,e⟩
    rcases Nat.lt_or_ge i n with h2|h2
    ·exact .inl ⟨i,h2,e⟩
    ·obtain rfl:i=n:=by omega
     exact .inr e
def jV:Nat->(Nat->Bool)->Nat
 | 0,p=>if p 0 then 1 else 0
 | l+1,p=>if sP p (4 ^ (l+1)) then 1+(jV l (fun i=>p (0*4 ^ l+i))+jV l (fun i=>p (1*4 ^ l+i))+jV l (fun i=>p (2*4 ^ l+i))+jV l (fun i=>p (3*4 ^ l+i))) else 0
theorem iX:∀{l:Nat}{p q:Nat->Bool},(∀i,i<4 ^ l->p i=q i)->jV l p=jV l q
 | 0,p,q,h=>by unfold jV;rw[h 0 (by simp)]
 | l+1,p,q,h=>by
   have e:sP p (4 ^ (l+1))=sP q (4 ^ (l+1)):=by
    rw[Bool.eq_iff_iff,sQ,sQ];exact⟨fun ⟨i,h1,h2⟩=>⟨i,h1,by rw[←h i h1];exact h2⟩,fun ⟨i,h1,h2⟩=>⟨i,h1,by rw[h i h1];exact h2⟩⟩
   have hq:∀k,k<4->∀i,i<4 ^ l->k*4 ^ l+i<4 ^ (l+1):=fun k hk i hi=>by
    rw[Nat.pow_succ];have:=Nat.mul_le_mul_right (4 ^ l) (show k≤3 by omega);omega
   unfold jV;rw[e,iX fun i hi=>h _ (hq 0 (by omega) i hi),iX fun i hi=>h _ (hq 1 (by omega) i hi),iX fun i hi=>h _ (hq 2 (by omega) i hi),iX fun i hi=>h _ (hq 3 (by omega) i hi)]
def qI(b:List UInt8)(i:Nat):Bool:=!cP (bkM b i)
theorem Es{b:List UInt8}{l:Nat}(hl:b.length=256*4 ^ l):cP b=!sP (qI b) (4 ^ l):=by
 rw[Bool.eq_iff_iff,Bool.not_eq_true',←Bool.not_eq_true,sQ];constructor
 ·rintro h ⟨i,hi,e⟩
  unfold qI at e;rw[Df h hl hi] at e;revert e;rw[show cP zB=true from by rw[gE];exact fun x hx=>(List.mem_replicate.1 hx).2]
  decide
 ·intro h
  rw[gE];intro x hx;obtain⟨n,hn,rfl⟩:=List.getElem_of_mem hx;have hi:n / 256<4 ^ l:=(Nat.div_lt_iff_lt_mul (by omega)).2 (by omega)
  have hz:cP (bkM b (n / 256))=true:=by
   cases hz:cP (bkM b (n / 256)) with
   | true=>rfl
   | false=>exact absurd ⟨n / 256,hi,by unfold qI;rw[hz];rfl⟩ h
  rw[gE] at hz;refine hz _ ?_;have e:n=256*(n / 256)+n % 256:=(Nat.div_add_mod n 256).symm;have hm:=Nat.mod_lt n (show 0<256 by omega);unfold bkM;refine List.mem_iff_getElem.2 ⟨n % 256,?_,?_⟩
  ·rw[List.length_take,List.length_drop];omega
  ·rw[List.getElem_take,List.getElem_drop]
   congr 1
   exact e.symm
theorem By:∀{l:Nat}{b:List UInt8},b.length=256*4 ^ l->aY l b=jV l (qI b)
 | 0,b,hl=>by
   have e:bkM b 0=b:=by unfold bkM;rw[Nat.mul_zero,List.drop_zero,List.take_of_length_le (by omega)]
   unfold aY jV qI;rw[e];cases cP b<;>rfl
 | l+1,b,hl=>by
   have hp:∀q,q<4->aY l (bH l b q)=jV l (fun i=>qI b (q*4 ^ l+i)):=fun q hq=>by
    rw[By (gO hl hq)];exact iX fun i hi=>by unfold qI;rw[De l b q i hi]
   unfold aY jV;rw[hp 0 (by omega),hp 1 (by omega),hp 2 (by omega),hp 3 (by omega),Es hl];cases sP (qI b) (4 ^ (l+1))<;>rfl
theorem qJ(b:List UInt8):∀k,((List.range k).map (bkM b)).flatten=b.take (256*k)
 | 0=>by simp
 | k+1=>by
   rw[List.range_succ,List.map_append,List.flatten_append,qJ b k];simp only[List.map_cons,List.map_nil,List.flatten_cons,List.flatten_nil,List.append_nil];unfold bkM;rw[show 256*(k+1)=256*k+256 by omega,List.take_add]
theorem Et{S T:Kor}{b:List UInt8}{u:Tr}(h:FU S T 3 b u)(hl:b.length=256*4 ^ 3)(ho:Tr.Ok T 3 u):eK u=b:=by
 unfold eK;rw[ho.blocks_eq,show (List.range (4 ^ 3)).map (u.blk 3)=(List.range 64).map (bkM b) from List.map_congr_left fun i hi=>h.blks i (List.mem_range.1 hi),qJ];exact List.take_of_length_le (by rw[hl];decide)
theorem GA(b:List UInt8)(m:Nat)(h:b.length+m≤16384):bJ (b++List.replicate m 0)=bJ b:=by
 unfold bJ;rw[List.length_append,List.length_replicate,List.append_assoc,List.replicate_append_replicate]
 congr 2
 omega
theorem GB(b:List UInt8):(bJ b).take b.length=b:=by unfold bJ;rw[List.take_left]
theorem GC(b:List UInt8):cP ((bJ b).drop b.length)=true:=by
 unfold bJ;rw[List.drop_left,gE];exact fun x hx=>(List.mem_replicate.1 hx).2
theorem Le{b:List UInt8}{i:Nat}:qI (bJ b) i=true↔∃j x,256*i≤j/\j<256*i+256/\b[j]?=some x/\x≠0:=by
 unfold qI;rw[Bool.not_eq_true',←Bool.not_eq_true,gE];constructor
 ·intro h
  obtain⟨x,hx⟩:=Classical.not_forall.1 h;obtain⟨hm,hx0⟩:=Classical.not_imp.1 hx;unfold bkM at hm;obtain⟨j,hj⟩:=List.getElem?_of_mem hm;rw[List.getElem?_take] at hj;split at hj
  ·next hlt =>
   rw[List.getElem?_drop] at hj;refine⟨256*i+j,x,by omega,by omega,?_,hx0⟩;unfold bJ at hj;rcases Nat.lt_or_ge (256*i+j) b.length with h2|h2
   ·rwa [List.getElem?_append_left h2] at hj
   ·rw[List.getElem?_append_right h2] at hj
    exact absurd (List.mem_replicate.1 (List.mem_of_getElem? hj)).2 hx0
  ·cases hj
 ·rintro⟨j,x,h1,h2,h3,h4⟩ h
  refine h4 (h x ?_);unfold bkM bJ;have hl:=(List.getElem?_eq_some_iff.1 h3).1;refine List.mem_of_getElem? (i:=j-256*i) ?_;rw[List.getElem?_take,if_pos (by omega),List.getElem?_drop,show 256*i+(j-256*i)=j by omega,List.getElem?_append_left hl];exact h3
theorem MF{b:List UInt8}(hb:b.length≤16384){p:Nat->Bool}(hp:∀i,i<64->(p i=true↔∃j x,256*i≤j/\j<256*i+256/\b[j]?=some x/\x≠0)):aY 3 (bJ b)=jV 3 p:=by
 rw[By (jL hb)];exact iX fun i hi=>by rw[Bool.eq_iff_iff,Le,hp i hi]
def ex1:List UInt8:=List.replicate 256 1++[2]
theorem iF:ex1.length=257:=by unfold ex1;rw[List.length_append,List.length_replicate];rfl
theorem AD{j:Nat}{x:UInt8}:ex1[j]?=some x↔(j<256/\x=1)\/(j=256/\x=2):=by
 unfold ex1;rcases Nat.lt_or_ge j 256 with h|h
 ·rw[List.getElem?_append_left (by rw[List.length_replicate];exact h),List.getElem?_replicate,if_pos h]
  constructor
  ·intro e;injection e with e;exact .inl ⟨h,e.symm⟩
  ·rintro (⟨-,e⟩|⟨e,-⟩)
   ·rw[e]
   ·omega
 ·rw[List.getElem?_append_right (by rw[List.length_replicate];exact h),List.length_replicate]
  rcases Nat.eq_or_lt_of_le h with e|e
  ·subst e
   constructor
   ·intro e;injection e with e;exact .inr ⟨rfl,e.symm⟩
   ·rintro (⟨e,-⟩|⟨-,e⟩)
    ·omega
    ·rw[e];rfl
  ·rw[List.getElem?_eq_none (by simp;omega)]
   constructor
   ·intro e;cases e
   ·rintro (⟨e,-⟩|⟨e,-⟩)<;>omega
theorem DF:aY 3 (bJ ex1)=5:=by
 rw[MF (p:=fun i=>decide (i<2)) (by rw[iF];decide) fun i _=>?_]
 ·decide
 ·rw[decide_eq_true_iff]
  constructor
  ·intro h
   rcases i with _|_|i
   ·exact⟨0,1,by omega,by omega,AD.2 (.inl ⟨by omega,rfl⟩),by decide⟩
   ·exact⟨256,2,by omega,by omega,AD.2 (.inr ⟨rfl,rfl⟩),by decide⟩
   ·omega
  ·rintro⟨j,x,h1,h2,h3,h4⟩
   rcases AD.1 h3 with h|h<;>omega
theorem DG{S:Kor}(hb:S.Bd){N:Nat}(hN:S.room N){b:List UInt8}(hl:b.length≤16384)(hn:aY 3 (bJ b)≤N):∃u T,dN 3 S (bJ b)=(some u,T)/\T.room (N-aY 3 (bJ b))/\FU S T 3 (bJ b) u/\Tr.Ok T 3 u/\eK u=bJ b:=by
 have h:=Ba (l:=3) (by omega) hb hN (jL hl);rw[if_pos hn] at h;obtain⟨u,T,h1,h2⟩:=h;have g:=mZ (l:=3) (by omega) hb (jL hl) h1;exact⟨u,T,h1,h2,g,g.kept.ok,Et g (jL hl) g.kept.ok⟩
def ofN(x:UInt8)(n k:Nat):List Value:=(List.range n).map fun i=>if i<k then vb x else .int .u8 0
theorem rE(x:UInt8)(n k:Nat):(ofN x n k).length=n:=by unfold ofN;simp
theorem Lf(x:UInt8)(n:Nat):ofN x n 0=List.replicate n (.int .u8 0):=by
 refine List.eq_replicate_iff.2 ⟨rE x n 0,fun v hv=>?_⟩;unfold ofN at hv;obtain⟨i,-,rfl⟩:=List.mem_map.1 hv;exact if_neg (by omega)
theorem Lg(x:UInt8)(n:Nat):ofN x n n=(List.replicate n x).map vb:=by
 unfold ofN;rw[List.map_replicate];refine List.eq_replicate_iff.2 ⟨by simp,fun v hv=>?_⟩;obtain⟨i,hi,rfl⟩:=List.mem_map.1 hv;exact if_pos (List.mem_range.1 hi)
theorem MG(x:UInt8)(n k:Nat)(hk:k<n):spl (ofN x n k).toArray k [vb x]=(ofN x n (k+1)).toArray:=by
 show (ofN x n k).toArray.setIfInBounds k (vb x)=_;rw[List.setIfInBounds_toArray]
 congr 1
 refine List.ext_getElem (by rw[List.length_set,rE,rE]) fun i h1 h2=>?_
 rw[List.getElem_set];have q:∀j h,(ofN x n j)[i]'h=if i<j then vb x else .int .u8 0:=fun j h=>by simp[ofN]
 rw[q,q]
 by_cases e:k=i
 ·subst e;rw[if_pos rfl,if_pos (by omega)]
 ·rw[if_neg e]
  by_cases d:i<k
  ·rw[if_pos d,if_pos (by omega)]
  ·rw[if_neg d,if_neg (by omega)]
theorem Jf{w:World}{base b n:Nat}{cs:List Value}(h:w.heap[b]?=some (.cells cs.toArray 5 (0,0)))(hl:cs.length=n)(hn:n≤maxLen)(hb:base≤b):w.ownsRow base 5 1 (.slice (some ⟨b,0,none⟩) n n) n cs:=
 ⟨by rw[hl,Nat.mul_one],.inr ⟨b,n,cs.toArray,rfl,hb,h,Nat.le_refl _,hn,by rw[List.size_toArray,hl,Nat.mul_one],by rw[List.toList_toArray,Nat.mul_one,←hl,List.take_length]⟩⟩
def vE(w:World)(x:UInt8)(n:Nat)(e:Ending)(w':World):Prop:=∃v,e=.returned v/\w'.ownsRow w.heap.size 5 1 v n ((List.replicate n x).map vb)/\aA aB w w'
theorem sR(w:World)(x:UInt8)(n:Nat)(hn:n≤65536):Calls Tryz.prog 13 #[.int .i64 (n:Int),vb x] w (vE w x n):=by
 obtain⟨xv,hxv⟩:∃v,vb x=v:=⟨_,rfl⟩
 have HXV:=O hxv;have hx1:xv.oneCell'=true:=by rw[←hxv];rfl
 have hxc:xv.cells=#[xv]:=by rw[←hxv];rfl
 rw[hxv];clear hxv;go_enter Tryz.func13,Tryz.ntmps13
 go_wp2_with ((with_reducible show WL _ _);refine kU rfl (.tmp 7) (.tmp 7) 27 rfl w.heap.size 5 (.int .u8 0) 1 Tryz.underlying27 dW rfl n rfl rfl (by omega) (by unfold maxLen;omega) (Nat.le_refl _) ?_)
 intro w1 ho hk;obtain⟨b5,hb5⟩:∃b,w.heap.size=b:=⟨_,rfl⟩
 have HB5:=O hb5;rw[hb5] at ho ⊢
 have HI:Hid (w1.heap[b5]?=some (.cells (ofN x n 0).toArray 5 (0,0))/\aA aB w w1):=O (by
  refine⟨?_,hk⟩;rcases ho.2 with⟨h,-⟩|⟨g,cap,cur,h1,h2,h3,h4,h5,h6,h7⟩
  ·cases h
  ·injection h1 with h1 h8 h9
   injection h1 with h1
   injection h1 with h1
   subst h1 h9;rw[Nat.mul_one] at h6 h7;rw[h3,Lf,←h7,List.take_of_length_le (by rw[Array.length_toList];omega)])
 clear ho hk hb5;go_wp2_with fail
 go_loopw [6] (fun i wr=>∃k:Nat,k≤n/\i=.int .i64 (k:Int)/\Hid (wr.heap[b5]?=some (.cells (ofN x n k).toArray 5 (0,0))/\aA aB w wr)) (fun i _=>n-(intOf i).toNat)
 case atStart=>exact⟨0,by omega,rfl,HI⟩
 case round =>
  clear HI;obtain⟨k,hk,rfl,HJ⟩:=hrel
  by_cases hk8:k<n
  ·have hk9:(k:Int)<(n:Int):=by omega
   have hk0:(0:Int)≤(k:Int):=by omega
   go_wp2_with ((with_reducible show WL _ _);refine sta 5 (.tmp 17) (.tmp 16) b5 k [xv] HJ.out.1 (by rw[List.size_toArray,rE];exact hk8) (by kernel_rfl) (by intro v hv;rw[List.mem_singleton] at hv;rw[hv];exact hx1) ?_ (hy:=hxc))
   intro w2 hk2 hb2;rw[←HXV.out,MG x n k hk8] at hb2;have HN:Hid (w2.heap[b5]?=some (.cells (ofN x n (k+1)).toArray 5 (0,0))/\aA aB w w2):=O ⟨hb2,HJ.out.2.trans' hk2 (fun _ _ h=>h) (fun i hi e=>by have:=HB5.out;omega)⟩;clear hk2 hb2 HJ;go_wp2_with fail
   go_roundw
   case rel=>exact⟨k+1,by omega,by go_num,HN⟩
   case measure=>simp[intOf];omega
  ·obtain rfl:n=k:=by omega
   go_wp2_with fail;go_ret;exact⟨_,rfl,by rw[←Lg x];exact Jf HJ.out.1 (rE x n n) (by unfold maxLen;omega) (by have:=HB5.out;omega),HJ.out.2⟩
theorem zN(w:World)(Z:Nat)(hZ:8≤Z/\Z≤4096):Calls Tryz.prog 12 #[.int .i64 (Z:Int)] w (Dz w Z):=by
 have HL:=O (Loc.nil aB aB w);have HZ:=O hZ;have hbid:=LU;have hpl:(eN.map vb).length=32:=by rw[List.length_map];rfl
 obtain⟨ic,hice⟩:∃l,eN.map vb=l:=⟨_,rfl⟩
 have HIC:=O hice;rw[hice] at hbid;have HBI:=O hbid;clear hbid hice hpl;go_enter Tryz.func12,Tryz.ntmps12
 go_wp2_with ((with_reducible show WL _ _);refine bld 24 #[] [] (.agg ic.toArray) HBI.out ?_)
 refine((Kh w 2 Z ⟨by omega,by omega,HZ.out.1,HZ.out.2⟩)).mono ?_;rintro e w1 ⟨a,BA,rfl,harr,hBA,hk⟩;have HA:=O harr;have HBA:=O hBA;clear harr hBA;replace HL:=O (HL.out.keeps hk);clear hk
 go_wp2_with ((with_reducible show WL _ _);refine bld 24 #[] [] (.agg ic.toArray) HBI.out ?_)
 refine((by rw[←HIC.out];exact Em HA.out eN rfl 2 ⟨by omega,by omega,by omega⟩ (by omega):Calls _ _ _ w1 (qH w1 BA 2 Z 2))).mono ?_;rintro e w2 ⟨c,M,B,rfl,hki,hB,hk⟩;have HP:Hid (Dz w Z (.returned (.pointer (some ⟨c,0,none⟩))) w2):=O ⟨c,M,B,rfl,hki,fun k h=>(hB k h).elim (HBA.out k) fun e=>by have:=HL.out.keep.size;omega,HL.out.keep.trans' hk (fun _ _ h=>h) (fun i hi e=>by have:=HBA.out i e;omega)⟩;clear HL HA hki hB hk
 go_wp2_with ((with_reducible show WL _ _);refine bld 24 #[] [] (.agg ic.toArray) HBI.out ?_)
 go_ret;exact HP.out
theorem qK{w:World}{c:Nat}{S:Kor}{B:Nat->Prop}(hK:KI w c S B)(pv:Value)(t:Tr)(ht:Tr.Ok S 3 t)(hp:aM w B pv t.ptr)(vv:Value)(bs:List UInt8)(hbl:bs.length≤16384)(hr:Rd w 1 vv bs.length (bs.map vb))(hb:eK t=bJ bs):Calls Tryz.prog 15 #[.pointer (some ⟨c,0,none⟩),.agg (aF pv t.ptr).toArray,vv] w (bF w true):=by
 have HT:=O ht;have HK:=O hK;have HPT:=O hp;have HR:=O hr;have HBL:=O hbl;have HZ:Hid (cP ((eK t).drop bs.length)=true/\(eK t).take bs.length=bs):=O (by rw[hb];exact⟨GC bs,GB bs⟩);obtain⟨va,vc,rfl,-,-⟩:=hr.form;obtain⟨m,hmm⟩:∃m,bs.length=m:=⟨_,rfl⟩
 have HMM:=O hmm;rw[hmm] at HR HZ ⊢;obtain⟨p,hpe⟩:∃p,t.ptr=p:=⟨_,rfl⟩
 have HPE:=O hpe;rw[hpe] at HPT hp ⊢;obtain⟨pc,HPC,hpc,HOP⟩:=nmP hp;rw[HPC.out];have HL:=O (Loc.nil aB aB w);clear hp ht hK hpe hr hbl hmm hb;go_enter Tryz.func15,Tryz.ntmps15
 go_wp2_with ((with_reducible show WL _ _);refine bxL HL 26 (.tmp 1) (pc.toArray) ?_)
 intro b4 w1 hk HL;replace HPT:=O (aM.keep0 HPT.out hk);replace HK:=O (KI.keep0 HK.out hk);replace HR:=O (HR.out.keep hk fun _ _=>id);clear hk
 go_wp2_with ((with_reducible show WL _ _);refine wpList_load_mid rfl 26 (.tmp 4) rfl b4 0 rfl pc _ (aD (HL.out.b 0)) aI rfl (szP9 hpc) ?_)
 refine((by rw[←HPC.out,←HPE.out];exact Jd HK.out pv t HT.out (by rw[HPE.out];exact HPT.out) m (by rw[←HMM.out];exact HBL.out):Calls _ _ _ w1 (mC w1 t m))).mono ?_;rintro e w2 hml;unfold mC at hml;rw[if_pos HZ.out.1] at hml;obtain⟨lv,rfl,hrl,-,hk⟩:=hml;rw[HZ.out.2] at hrl;obtain⟨la,lc,rfl,-,-⟩:=hrl.form;have HRL:=O hrl;rw[HMM.out] at HRL ⊢;clear hrl;replace HL:=O (HL.out.keeps hk);replace HPT:=O (aM.keep0 HPT.out hk);replace HK:=O (KI.keep0 HK.out hk);replace HR:=O (HR.out.keep hk fun _ _=>id);clear hk;go_wp2_with fail;refine(AI w2 _ _ bs bs (by rw[HMM.out];exact HRL.out) (by rw[HMM.out];exact HR.out) true (decide_eq_true rfl)).mono ?_;rintro e w3 ⟨rfl,rfl⟩;go_wp2_with fail;go_ret;exact⟨rfl,HL.out.keep⟩
theorem uP.tr{w w':World}{c:Nat}{B:Nat->Prop}{t:Tr}{T:Kor}{e:Ending}{v0:Value}(h:uP w c B (some t) T e w'):bY w c B v0 (some t) T e w':=by
 obtain⟨v,B',h1,h2,h3,h4,h5,h6,h7⟩:=h;exact⟨v,B',h1,h2,h3,h4,h5,.inr h6,h7⟩
theorem wH{P:Program}{ops:Array Oper}{Q:Exit->Act->World->Prop}{rest:List Oper}{o:Oper}{a:Act}{w:World}(hw:Region.wanted o (yielded ops a.tmps)=true)(h:wpList P ops Q ({ o with guard:=none }::rest) a w):wpList P ops Q (o::rest) a w:=by
 unfold wpList at h ⊢;rw[if_pos hw];rw[if_pos (by simp[Region.wanted])] at h;exact h
theorem Tr.Ok.lev3{S:Kor}{t:Tr}(h:Tr.Ok S 3 t)(hh:t.isHole=false):t.ptr.level=3:=by
 cases t with
 | hole=>cases hh
 | leaf p b=>exact h.elim
 | node p k=>exact h.1.lev
theorem MH{S:Kor}(hb:S.Bd){N q:Nat}(hN:S.room N){b:List UInt8}(hl:b.length≤16384)(hq:aY 3 (bJ b)=q)(hqN:q≤N):∃u T,dN 3 S (bJ b)=(some u,T)/\T.room (N-q)/\T.Bd/\Ext S T/\Tr.Ok T 3 u/\eK u=bJ b/\(gS 3 u).length=q:=by
 obtain⟨u,T,h1,h2,h3,h4,h5⟩:=DG hb hN hl (by rw[hq];exact hqN);exact⟨u,T,h1,by rw[←hq];exact h2,h3.beh.bd,h3.beh.ext,h4,h5,by rw[←hq];exact h3.many⟩
theorem MI{t:Tr}{q:Nat}(h:(gS 3 t).length=q+1):t.isHole=false:=by
 cases t with
 | hole=>rw[pP] at h;cases h
 | leaf p b=>rfl
 | node p k=>rfl
theorem Cs.off{B0 B T:Nat->Prop}{w0 w w':World}{c:Nat}{S:Kor}{rs:List (Value×Pt)}{l:List (Nat×Array Value×TypeId)}(h:Cs B0 w0 c S B rs w l)(k:aA T w w')(hT:∀i,T i->w0.heap.size≤i/\¬B i/\(∀r∈rs,r.1.ownBlock≠some i)/\∀x∈l,x.1≠i):Cs B0 w0 c S B rs w' l:=
 ⟨⟨h.loc.keep.trans' k (fun _ _ h=>h) fun i hi e=>by have:=(hT i e).1;omega,h.loc.ge,h.loc.nd,fun x hx=>k.blk (h.loc.at_ x hx) fun e=>(hT _ e).2.2.2 x hx rfl,h.loc.ap⟩,h.ki.keepT k fun i e=>(hT i e).2.1,fun r hr=>(h.pv r hr).keepT k fun i hi e=>(hT i e).2.2.1 r hr hi,h.bb⟩
theorem Ds.off{SP B0 B T:Nat->Prop}{wd w0 w w':World}{c:Nat}{S:Kor}{rs:List (Value×Pt)}{l:List (Nat×Array Value×TypeId)}(h:Ds SP wd B0 w0 c S B rs w l)(k:aA T w w')(hT:∀i,T i->w0.heap.size≤i/\¬B i/\(∀r∈rs,r.1.ownBlock≠some i)/\∀x∈l,x.1≠i)(hS:∀i,T i->SP i):Ds SP wd B0 w0 c S B rs w' l:=
 ⟨h.toCs.off k hT,h.dr.trans' k (fun _ _ e=>e) fun i _ e=>hS i e⟩
theorem Eu(w:World):Calls Tryz.prog 8 #[] w (Lv w):=by
 go_enter Tryz.func8,Tryz.ntmps8;go_wp2_with fail;refine((zN w 40 (by omega))).mono ?_;rintro e w1 ⟨c,M,B,rfl,hki,hB,hk⟩;have HBN:=O hB;have HKW:=O hk;have HL:=O (Cs.start hki);have HBLT:=O (fun i (e:B i)=>hki.lt e);clear hki hB hk;obtain⟨u,S1,hlay,hroom,hbd1,hext1,huo,hbt,hpts⟩:=MH HL.out.ki.bd (Kor.room_new 40 M 0) (b:=ex1) (q:=5) (by rw[iF];decide) DF (by omega);have HLAY:=O hlay;have HUO:=O huo;have HBT:=O hbt;have HLEV:=O (huo.lev3 (MI hpts));clear hlay hroom hbd1 hext1 huo hbt hpts;go_wp2_with fail;have HSZ0:=O HL.out.keep.size;refine((sR w1 1 256 (by omega))).mono ?_;rintro e w2 ⟨ov,rfl,ho,hk⟩;obtain⟨oa,oc,rfl,-,-⟩:=(Rd.of_owns ho).form;have HO:=O ho;clear ho;replace HL:=O (HL.out.keeps hk);clear hk;have HML:Hid (256+1≤maxLen):=O (by unfold maxLen;omega);have HBS:Hid (w1.heap.size≤(w2.alloc (.cells #[.int .u8 2] 5)).heap.size):=O (by have:=HL.out.keep.size;simp;omega);have HO1:=O (aU HO.out HSZ0.out)
 go_wp2_with (at_builtin;refine aK rfl (.tmp 10) (.tmp 11) 27 rfl w1.heap.size 5 _ 1 1 Tryz.underlying27 dW rfl (by omega) _ 256 _ rfl (HO1.out.alloc _) _ 1 _ rfl (qL _ _ _) (by intro u hu;rcases List.mem_singleton.1 hu with rfl;rfl) HML.out (by omega) HBS.out ?_)
 intro v2 wc ho5 hk5 hn5 hb5;have hko:=((aA.refl aB w2).alloc (.cells #[.int .u8 2] 5)).any.trans hk5;obtain⟨a2,c2,rfl,-,-⟩:=(Rd.of_owns ho5).form;replace HL:=O (HL.out.off hko (fun i e=>⟨aQ HO1.out e,fun e2=>by have h1:=aQ HO1.out e;have h2:=HBLT.out i e2;omega,(fun r hr=>by cases hr),(fun x hx=>by cases hx)⟩));have HE:Hid (wc.ownsRow w1.heap.size 5 1 (.slice a2 257 c2) 257 (ex1.map vb)):=O (by
 have e:ex1.map vb=(List.replicate 256 1).map vb++[.int .u8 2]:=by unfold ex1;rw[List.map_append];rfl
 rw[e];exact ho5)
 clear ho5 hk5 hn5 hb5 hko HO HO1;have HEI:=O (fun i (hi:(Value.slice a2 257 c2).ownBlock=some i)=>(by obtain⟨cur,hc⟩:=aL HE.out hi;exact⟨aQ HE.out hi,lt_of_block hc⟩:w1.heap.size≤i/\i<wc.heap.size));have hzp:(aF (.slice none 0 0) zPt).length=35:=rfl;have hzb:=gG;obtain⟨zp,hzpe⟩:∃l,aF (.slice none 0 0) zPt=l:=⟨_,rfl⟩
 have HOZP:Hid (∀u∈zp,u.oneCell'=true):=O (by rw[←hzpe];exact bQ zPt);have HZPE:=O hzpe;rw[hzpe] at hzp hzb;have HZB:=O hzb;clear hzpe hzb;go_wp2_with fail;have hsz:=HL.out.keep.size;refine(((zL HL.out.ki (.slice a2 257 c2) ex1 (by rw[iF];decide) (by rw[iF];exact Rd.of_owns HE.out) (some u) S1 HLAY.out).mono fun e w h=>h.tr:Calls _ _ _ wc (bY wc c B (.slice none 0 0) (some u) S1))).mono ?_;rintro e wd ⟨vrc,B2,rfl,hpv,hki,hbb,-,hnw,hk⟩;have HNRC:Hid (dJ wc vrc):=O (vB hnw);have HB2B:=O hbb;have HKS:=O hk.size;replace HE:=O (hk.owns HE.out fun i hi e=>by have h1:=HEI.out i hi;have h2:=HBLT.out i e;omega);replace hpv:aM wd B2 vrc u.ptr:=hpv;rw[show gJ (some u)=u.ptr from rfl,show lF (some u)=0 from rfl];replace HL:=O (HL.out.laid hpv hki hbb (vB hnw) hk);obtain⟨rc,HRC,hrc,HORC⟩:=nmP hpv;rw[HRC.out];clear hsz hpv hki hbb hnw hk
 go_wp2_with ((with_reducible show WL _ _);refine al 26 (.agg aG.toArray) (aG.toArray) bD ?_)
 intro b3 we hbs hk0 hb0_
 go_wp2_with ((with_reducible show WL _ _);refine sta 26 (.tmp 3) (.tmp 17) b3 0 rc hb0_ (by first|decide|(rw[List.size_toArray,hrc];exact Nat.le_refl _)|simp[hrc,aE]) (szP9 hrc) HORC.out ?_)
 intro wf hk hb;rw[aH _ _ (by first|rfl|(rw[List.size_toArray,hrc];rfl)|simp[hrc,aE])] at hb;replace hk:=hk0.trans' hk (U:=aB) (fun _ _ h=>h) (fun i hi e=>by omega);have HNb3:=O (show wd.heap.size≤b3 from Nat.le_of_eq hbs);replace HL:=O (HL.out.new (trivial) hbs hk hb);replace HE:=O (hk.owns HE.out fun _ _=>id);clear hbs hk hb hk0 hb0_;go_wp2_with fail;go_wp2_with fail;refine((by have h:=Ld (.slice a2 257 c2) ex1 (by rw[iF];decide) (by rw[iF];exact Rd.of_owns HE.out);rw[DF] at h;exact h:Calls _ _ _ wf (aJ wf (.tuple #[.int .i64 ((5:Nat):Int),.int .i64 0])))).mono ?_;rintro e wg ⟨rfl,hk⟩;replace HL:=O (HL.out.keeps hk);replace HE:=O (hk.owns HE.out fun _ _=>id);clear hk;go_wp2_with fail;refine Gt (fun k=>B2 k\/(.slice a2 257 c2:Value).ownBlock=some k) HL (by kernel_rfl) ?_;intro wh SW HSE HSI hkd HL;replace HE:=O (hkd.owns HE.out fun _ _=>id);clear hkd;have HLs:=HL;have HEs:=HE;refine tna 0 (.int .i64 0) rfl (sD9 HSI HL) ?_;refine tnb 1 (.bool true) rfl (sD9 HSI HL) ?_;refine tna 2 (.bool true) rfl (sD9 HSI HL) ?_;refine tnb 3 (.pointer (some ⟨b3,2,none⟩)) rfl (sD9 HSI HL) ?_;refine tnd 4 (.int .i64 3) rfl (.inl ⟨by rfl,fun w' h=>by have c:World.cell? w' ⟨b3,2,none⟩=some (.int .i64 3):=(aC (i:=2) ((HSE.out w' h).blk (HLs.out.b 0) (by rintro (e|e);exact (HLs.out.loc.aq 0) (.inl e);have h1:=HEI.out _ e;have h2:=HKS.out;have h3:=HNb3.out;omega)) (by rw[←HRC.out,←HLEV.out];rfl));go_simp⟩) (sD9 HSI HL) ?_;refine tnb 5 (.bool true) rfl (sD9 HSI HL) ?_;refine tna 6 (.bool true) rfl (sD9 HSI HL) ?_;refine tna 7 (.bool true) rfl (sD9 HSI HL) ?_;refine tna 8 (.int .i64 0) rfl (sD9 HSI HL) ?_;refine tnb 9 (.bool true) rfl (sD9 HSI HL) ?_;refine tna 10 (.bool true) rfl (sD9 HSI HL) ?_;refine tna 11 (.bool true) rfl (sD9 HSI HL) ?_;refine tna 12 (.int .i64 5) rfl (sD9 HSI HL) ?_;refine tnb 13 (.bool true) rfl (sD9 HSI HL) ?_;refine tna 14 (.bool true) rfl (sD9 HSI HL) ?_;refine tna 15 (.bool true) rfl (sD9 HSI HL) ?_;refine tna 16 (.pointer (some ⟨c,0,none⟩)) rfl (sD9 HSI HL) ?_;refine tnd 17 (.agg rc.toArray) rfl (ldD 26 (.tmp 3) b3 0 rc _ (fun w' h=>aD ((HSE.out w' h).blk (HLs.out.b 0) (by rintro (e|e);exact (HLs.out.loc.aq 0) (.inl e);have h1:=HEI.out _ e;have h2:=HKS.out;have h3:=HNb3.out;omega))) aI (szP9 hrc)) (sD9 HSI HL) ?_;refine tna 18 (.slice a2 257 c2) rfl (sD9 HSI HL) ?_;refine wA9 19 ?_;go_wp2_with fail;refine((by rw[←HRC.out];exact qK HL.out.ki vrc u HUO.out (HL.out.pv0 0) (.slice a2 257 c2) (ex1) (by rw[iF];decide) (by rw[iF];exact Rd.of_owns HE.out) HBT.out:Calls _ _ _ wh (bF wh true))).mono ?_;rintro e wi ⟨rfl,hk⟩;replace HL:=O (HL.out.keeps hk);replace HE:=O (hk.owns HE.out fun _ _=>id);clear hk;go_wp2_with fail;refine⟨HSI.out _ HL.out.dr,?_⟩;refine tna 20 (.bool true) rfl (sD9 HSI HL) ?_;refine tna 21 (.bool true) rfl (sD9 HSI HL) ?_;refine tna 22 (.pointer (some ⟨c,0,none⟩)) rfl (sD9 HSI HL) ?_;refine tnd 23 (.agg rc.toArray) rfl (ldD 26 (.tmp 3) b3 0 rc _ (fun w' h=>aD ((HSE.out w' h).blk (HLs.out.b 0) (by rintro (e|e);exact (HLs.out.loc.aq 0) (.inl e);have h1:=HEI.out _ e;have h2:=HKS.out;have h3:=HNb3.out;omega))) aI (szP9 hrc)) (sD9 HSI HL) ?_;refine tna 24 (.slice a2 257 c2) rfl (sD9 HSI HL) ?_;refine wA9 25 ?_;refine wH (by rfl) ?_;refine bs1 27 5 (.const (.int .u8 0)) (.int .u8 0) (by kernel_rfl) (by kernel_rfl) Tryz.underlying27 rfl ?_;intro b49 wj hbs hk hb;have HRN:Hid (Rd wj 1 (.slice (some ⟨b49,0,none⟩) 1 1) 1 [.int .u8 0]):=O (cQ (n:=1) (size:=1) hb rfl (by unfold maxLen;omega));replace HL:=O (HL.out.keeps hk);replace HE:=O (hk.owns HE.out fun _ _=>id);clear hbs hk hb;refine wpList_nil ?_;refine⟨HSI.out _ HL.out.dr,?_⟩;refine wA9 26 ?_;have HML2:Hid (257+1≤maxLen/\w1.heap.size≤wj.heap.size):=O ⟨by unfold maxLen;omega,HL.out.keep.size⟩;refine wH (by rfl) ?_;refine aK rfl (.tmp 48) (.tmp 49) 27 rfl w1.heap.size 5 (.int .u8 0) 1 1 Tryz.underlying27 dW rfl (by decide) (.slice a2 257 c2) 257 (ex1.map vb) rfl HE.out (.slice (some ⟨b49,0,none⟩) 1 1) 1 [.int .u8 0] rfl HRN.out (by intro u hu;rcases List.mem_singleton.1 hu with rfl;rfl) HML2.out.1 (by omega) HML2.out.2 ?_;intro v5 wk ho5 hk5 hn5 hb5;obtain⟨a5,c5,rfl,-,-⟩:=(Rd.of_owns ho5).form;have HE2:Hid (wk.ownsRow w1.heap.size 5 1 (.slice a5 258 c5) 258 ((ex1++List.replicate 1 0).map vb)):=O (by rw[List.map_append];exact ho5);replace HL:=O (HL.out.off hk5 (fun i e=>⟨(HEI.out i e).1,fun e2=>(HB2B.out i e2).elim (fun e3=>by have h1:=HEI.out i e;have h2:=HBLT.out i e3;omega) (fun e3=>by have h1:=HEI.out i e;omega),(fun r hr=>by rw[List.mem_singleton] at hr;subst hr;exact fun e3=>by have h1:=HEI.out i e;have h2:=HNRC.out i e3;omega),(fun y hy=>by rw[List.mem_singleton] at hy;subst hy;exact fun e3=>by have h1:=HEI.out i e;have h2:=HKS.out;have h3:=HNb3.out;simp only at e3;omega)⟩) (fun i e=>.inr e));clear ho5 hk5 hn5 hb5 HRN HE HML2;refine wpList_nil ?_;refine⟨HSI.out _ HL.out.dr,?_⟩;refine wA9 27 ?_;go_wp2_with fail;refine((by rw[←HRC.out];exact qK HL.out.ki vrc u HUO.out (HL.out.pv0 0) (.slice a5 258 c5) (ex1++List.replicate 1 0) (by rw[show (ex1++List.replicate 1 (0:UInt8)).length=258 from by rw[List.length_append,iF,List.length_replicate]];decide) (by rw[show (ex1++List.replicate 1 (0:UInt8)).length=258 from by rw[List.length_append,iF,List.length_replicate]];exact Rd.of_owns HE2.out) (HBT.out.trans (GA ex1 1 (by rw[iF];decide)).symm):Calls _ _ _ wk (bF wk true))).mono ?_;rintro e wl ⟨rfl,hk⟩;replace HL:=O (HL.out.keeps hk);replace HE2:=O (hk.owns HE2.out fun _ _=>id);clear hk;go_wp2_with fail;refine⟨HSI.out _ HL.out.dr,?_⟩;refine tna 28 (.bool true) rfl (sD9 HSI HL) ?_;refine tna 29 (.bool true) rfl (sD9 HSI HL) ?_;refine wpAnyH_done (by kernel_rfl) ?_ _;refine noP ?_;have HP:=O (HL.out.toCs.fin HBN.out HKW.out);clear HL HLs HSE HSI;go_wp2_with fail;go_ret;exact⟨rfl,HP.out⟩
theorem bs0{P:Program}{w:World}{ops:Array Oper}{rest:List Oper}{o:Oper}{a:Act}{Q:Exit->Act->World->Prop}(t e:TypeId)(hsz:(P.info? e).map (·.size)=some 1)(hu:P.underlying t=some (.slice e))
 (h:∀b w',w.heap.size=b->aA aB w w'->w'.heap[b]?=some (.cells #[] e (0,0))->wpList P ops Q rest (a.put o.dst (.slice (some ⟨b,0,none⟩) 0 0)) w') (hg:o.guard=none:=by rfl) (ho:o.op=.buildSlice t 0 #[]:=by rfl):wpList P ops Q (o::rest) a w:=by
 cases hie:P.info? e with
 | none=>simp[hie] at hsz
 | some ie =>
   have hr:(Instr.buildSlice t 0 #[]).run P w=.ok (.slice (some ⟨w.heap.size,0,none⟩) 0 0) (w.alloc (.cells #[] e)):=by
    simp[Instr.buildSlice,run_underlying hu,sizeOf,typeInfo,hie,newRow,Instr.fill]
    congr 2
    exact Array.eq_empty_of_size_eq_zero (by simp)
   refine wpList_plain hg fun K hK=>?_
   unfold Oper.wp execOp;simp only[ho,List.map_toArray,List.map_nil,Sem.run_bind,hr,Result.andThen_ok];exact hK _ _ (h _ _ rfl ((aA.refl _ _).alloc _) (heap_alloc_new _ _))
theorem Lh{w:World}{base b:Nat}{e:TypeId}(h:w.heap[b]?=some (.cells #[] e (0,0)))(hb:base≤b):w.ownsRow base e 1 (.slice (some ⟨b,0,none⟩) 0 0) 0 []:=
 ⟨rfl,.inr ⟨b,0,#[],rfl,hb,h,Nat.le_refl _,Nat.zero_le _,by simp,by simp⟩⟩
theorem Nj{w:World}{g o L c lo n:Nat}{b:List UInt8}(h:Rd w 1 (.slice (some ⟨g,o,none⟩) L c) b.length (b.map vb))(hL:b.length=L)(hn:lo+n≤L):Rd w 1 (.slice (some ⟨g,o+lo,none⟩) n (c-lo)) n (((b.drop lo).take n).map vb):=by
 obtain⟨h0,a',c',e,h1,h2,h3,h4⟩:=h;cases e
 refine⟨by simp;omega,some ⟨g,o+lo,none⟩,c-lo,rfl,by omega,by unfold maxLen at *;omega,(fun e=>by cases e),fun hp=>?_⟩;rw[List.length_map,List.length_take,List.length_drop] at hp;obtain⟨g2,o2,e2,hc⟩:=h4 (by rw[List.length_map];omega);injection e2 with e2
 injection e2 with e2 e3
 subst e2 e3;refine⟨g,o+lo,rfl,fun j v hj=>?_⟩;rw[List.getElem?_map,List.getElem?_take] at hj;split at hj
 ·have:=hc (lo+j) v (by rw[List.getElem?_map];rw[List.getElem?_drop] at hj;exact hj)
  rwa [←Nat.add_assoc] at this
 ·cases hj
def nL(b:List UInt8)(n:Nat)(r:List UInt8):List UInt8:=b.take (256*n)++r++b.drop (256*n+256)
theorem DH{b r:List UInt8}{n:Nat}(hr:r.length=256)(hn:256*n+256≤b.length):(nL b n r).length=b.length:=by
 unfold nL;rw[List.length_append,List.length_append,List.length_take,List.length_drop,hr];omega
theorem Li{b r:List UInt8}{n i:Nat}(hr:r.length=256)(hn:256*n+256≤b.length):bkM (nL b n r) i=if i=n then r else bkM b i:=by
 have hl:(b.take (256*n)).length=256*n:=by rw[List.length_take];omega
 refine List.ext_getElem? fun j=>?_
 have e:∀k,(nL b n r)[k]?=if k<256*n then b[k]? else if k<256*n+256 then r[k-256*n]? else b[k]?:=fun k=>by
  unfold nL
  by_cases h1:k<256*n
  ·rw[if_pos h1,List.append_assoc,List.getElem?_append_left (by rw[hl];exact h1),List.getElem?_take,if_pos h1]
  ·rw[if_neg h1,List.append_assoc,List.getElem?_append_right (by rw[hl];omega),hl]
   by_cases h2:k<256*n+256
   ·rw[if_pos h2,List.getElem?_append_left (by rw[hr];omega)]
   ·rw[if_neg h2,List.getElem?_append_right (by rw[hr];omega),List.getElem?_drop,hr]
    congr 1
    omega
 have q:∀(c:List UInt8),(bkM c i)[j]?=if j<256 then c[256*i+j]? else none:=fun c=>by
  unfold bkM;rw[List.getElem?_take,List.getElem?_drop]
 rw[q]
 by_cases hj:j<256
 ·rw[if_pos hj,e]
  by_cases hi:i=n
  ·rw[if_pos hi,if_neg (by omega),if_pos (by omega)]
   congr 1
   omega
  ·rw[if_neg hi,q,if_pos hj]
   by_cases h1:256*i+j<256*n
   ·rw[if_pos h1]
   ·rw[if_neg h1,if_neg (by omega)]
 ·rw[if_neg hj]
  by_cases hi:i=n
  ·rw[if_pos hi]
   exact(List.getElem?_eq_none (by omega)).symm
  ·rw[if_neg hi,q,if_neg hj]
theorem GD{T:Kor}{u:Tr}(ho:Tr.Ok T 3 u){b r:List UInt8}{n:Nat}(hl:b.length=16384)(hr:r.length=256)(hn:n<64)(h:∀i,i<64->u.blk 3 i=if i=n then r else bkM b i):eK u=nL b n r:=by
 have hp:=DH (n:=n) hr (b:=b) (by omega);unfold eK;rw[ho.blocks_eq,show (List.range (4 ^ 3)).map (u.blk 3)=(List.range 64).map (bkM (nL b n r)) from List.map_congr_left fun i hi=>by rw[h i (List.mem_range.1 hi),Li hr (by omega)],qJ];exact List.take_of_length_le (by rw[hp,hl];decide)
theorem GE{b:List UInt8}(h:b.length=16384):bJ b=b:=by
 unfold bJ;rw[h,Nat.sub_self,List.replicate_zero,List.append_nil]
theorem Lj{b r:List UInt8}{n:Nat}{cur:Array Value}(hl:b.length=16384)(hr:r.length=256)(hn:n<64)(hc:cur.toList.take 16384=b.map vb)(hs:16384≤cur.size):(spl cur (256*n) (r.map vb)).toList.take 16384=(nL b n r).map vb:=by
 have hfit:256*n+(r.map vb).length≤cur.size:=by rw[List.length_map,hr];omega
 have e:=oN cur (256*n) (r.map vb) hfit;rw[←e,List.toList_toArray]
 have h1:cur.toList.take (256*n)=(b.take (256*n)).map vb:=by
  rw[List.map_take,←hc,List.take_take,Nat.min_eq_left (by omega)]
 have h2:(cur.toList.drop (256*n+256)).take (16384-(256*n+256))=(b.drop (256*n+256)).map vb:=by
  rw[List.map_drop,←hc,List.drop_take]
 have l1:(cur.toList.take (256*n)).length=256*n:=by rw[List.length_take];simp;omega
 have l2:(r.map vb).length=256:=by rw[List.length_map,hr]
 rw[l2,List.take_append,l1,List.take_append,l2,List.take_of_length_le (by rw[l1];omega),List.take_of_length_le (l:=r.map vb) (by rw[l2];omega),show 16384-256*n-256=16384-(256*n+256) by omega,h2,h1];unfold nL;rw[List.map_append,List.map_append,List.append_assoc]
theorem zO:∀{l:Nat}{b:List UInt8},3*aY l b+1≤4 ^ (l+1)
 | 0,b=>by unfold aY;split<;>simp
 | l+1,b=>by
   have h:=fun i=>zO (l:=l) (b:=bH l b i)
   have h0:=h 0;have h1:=h 1;have h2:=h 2;have h3:=h 3;unfold aY;have e:4 ^ (l+1+1)=4*4 ^ (l+1):=by rw[Nat.pow_succ 4 (l+1),Nat.mul_comm]
   have hp:1≤4 ^ (l+1):=Nat.pos_of_ne_zero (by simp);split<;>omega
theorem Cs.push{B0 B:Nat->Prop}{w0 w w':World}{c:Nat}{S:Kor}{rs:List (Value×Pt)}{l:List (Nat×Array Value×TypeId)}(h:Cs B0 w0 c S B rs w l){g:Nat}{cs:Array Value}{t:TypeId}(hg:w.heap.size≤g)(k:aA aB w w')(hn:w'.heap[g]?=some (.cells cs t (0,0))):Cs B0 w0 c S B rs w' ((g,cs,t)::l):=by
 have h2:=h.keeps k;refine⟨⟨h2.loc.keep,fun x hx=>?_,?_,fun x hx=>?_,fun x hx hb=>?_⟩,h2.ki,h2.pv,h2.bb⟩
 ·rcases List.mem_cons.1 hx with rfl|hx
  ·exact Nat.le_trans h.keep.size hg
  ·exact h2.loc.ge x hx
 ·rw[List.map_cons,List.nodup_cons]
  refine⟨fun hm=>?_,h2.loc.nd⟩;obtain⟨x,hx,e⟩:=List.mem_map.1 hm;have:=lt_of_block (h.loc.at_ x hx);simp only at e;omega
 ·rcases List.mem_cons.1 hx with rfl|hx
  ·exact hn
  ·exact h2.loc.at_ x hx
 ·rcases List.mem_cons.1 hx with rfl|hx
  ·have:=h.lt_ hb
   simp only at this;omega
  ·exact h2.loc.ap x hx hb
theorem DI{w:World}{base n:Nat}{v:Value}{xs:List Value}{e:TypeId}(h:w.ownsRow base e 1 v n xs)(hn:0<n):∃g cap gl,v=.slice (some ⟨g,0,none⟩) n cap/\base≤g/\w.heap[g]?=some (.cells (gl:List Value).toArray e (0,0))/\n≤cap/\cap≤maxLen/\gl.length=cap/\gl.take n=xs:=by
 rcases h.2 with⟨-,rfl⟩|⟨g,cap,cur,h1,h2,h3,h4,h5,h6,h7⟩
 ·omega
 ·exact⟨g,cap,cur.toList,h1,h2,by simpa using h3,h4,h5,by simpa using h6,by simpa using h7⟩
theorem DJ{w:World}{g n cap:Nat}{gl xs:List Value}{e:TypeId}(h:w.heap[g]?=some (.cells gl.toArray e (0,0)))(h1:n≤cap)(h2:cap≤maxLen)(h3:gl.length=cap)(h4:gl.take n=xs):Rd w 1 (.slice (some ⟨g,0,none⟩) n cap) n xs:=
 Rd.of_owns (base:=0) (e:=e) ⟨by rw[←h4,List.length_take];omega,.inr ⟨g,cap,gl.toArray,rfl,Nat.zero_le _,h,h1,h2,by simpa using h3,by simpa using h4⟩⟩
theorem zP(W:World)(v:Value)(b:List UInt8)(hr:Rd W 1 v b.length (b.map vb))(n:Int)(hn0:-9223372036854775808≤n)(hn1:n≤9223372036854775807)(m:UInt8):Calls Tryz.prog 6 #[v,.int .i64 n,vb m] W (Lv W):=by
 obtain⟨oa,oc,rfl,hlc,hcm⟩:=hr.form;have hlm:b.length≤maxLen:=by omega
 unfold maxLen at hlm;obtain⟨N,hn⟩:∃n,b.length=n:=⟨_,rfl⟩
 obtain⟨xv,hxv⟩:∃n,vb m=n:=⟨_,rfl⟩
 have HN:=O hn;have HR:=O hr;have HNN:=O (And.intro hn0 hn1);have HXV:=O hxv;have hx1:xv.oneCell'=true:=by rw[←hxv];rfl
 rw[hn] at HR hlm ⊢;rw[hxv];obtain⟨r,hre⟩:∃r,List.replicate 256 m=r:=⟨_,rfl⟩
 have HRE:=O hre;have HRL:Hid (r.length=256):=O (by rw[←hre];exact List.length_replicate);clear hre;clear hr hn hlc hcm hn0 hn1 hxv;have hzp:(aF (.slice none 0 0) zPt).length=35:=rfl;have hzb:=gG;obtain⟨zp,hzpe⟩:∃l,aF (.slice none 0 0) zPt=l:=⟨_,rfl⟩
 have HOZP:Hid (∀u∈zp,u.oneCell'=true):=O (by rw[←hzpe];exact bQ zPt);have HZPE:=O hzpe;rw[hzpe] at hzp hzb;have HZB:=O hzb;clear hzpe hzb;go_enter Tryz.func6,Tryz.ntmps6;have HKW:=O (aA.refl aB W);go_wp2_with fail;refine((Eu W)).mono ?_;rintro e w1 ⟨rfl,hk⟩;replace HKW:=O (HKW.out.trans hk);clear hk;go_wp2_with fail;refine((zN w1 100 (by omega))).mono ?_;rintro e w2 ⟨c,M,B,rfl,hki,hB,hk⟩;have HBN:Hid (∀k,B k->W.heap.size≤k):=O (fun k h=>Nat.le_trans HKW.out.size (hB k h));replace HKW:=O (HKW.out.trans hk);have HL:=O (Cs.start hki);clear hki hB hk
 by_cases h30:5000<N
 ·have hi:(5000:Int)<(N:Int):=by omega
  have d1:decide ((5000:Int)<(N:Int))=true:=decide_eq_true hi;have HP:=O (HL.out.fin HBN.out HKW.out);clear HL;go_wp2_with fail;go_ret;exact⟨rfl,HP.out⟩
 ·have hi:¬(5000:Int)<(N:Int):=by omega
  have d1:decide ((5000:Int)<(N:Int))=false:=decide_eq_false hi;go_wp2_with fail;go_wp2_with fail;refine((Jn w2 n 64 (by decide) (by decide) HNN.out.1 HNN.out.2)).mono ?_;rintro e w3 ⟨rfl,rfl⟩;obtain⟨q,hq,hq64⟩:∃q:Nat,n % 64=(q:Int)/\q<64:=⟨(n % 64).toNat,by omega,by omega⟩
  rw[hq];clear hq;have HQ:=O hq64;have hmm:=zO (l:=3) (b:=bJ b);have hmm:3*aY 3 (bJ b)+1≤256:=hmm;obtain⟨u,S1,hlay,hroom,hlaid,huo,hbt⟩:=DG HL.out.ki.bd (Kor.room_new 100 M 0) (b:=b) (by rw[HN.out];omega) (by omega);obtain⟨u2,S2,N2,hset,-,-⟩:=IY u q r (N:=100-5-aY 3 (bJ b)-4) (by rw[show 100-5-aY 3 (bJ b)-4+4=100-5-aY 3 (bJ b) by omega];exact hroom);have hso:=MA hlaid.beh.bd huo hq64 HRL.out hset;have HLAY:=O hlay;have HUO:=O huo;have HSET:=O hset;have HFL:Hid ((bJ b).length=16384):=O (jL (by rw[HN.out];omega));have HUO2:=O (hso.2 u2 rfl).1;have HBT2:=O (GD (b:=bJ b) (r:=r) HUO2.out HFL.out HRL.out hq64 fun i hi=>by rw[(hso.2 u2 rfl).2 i hi,hlaid.blks i hi]);have HBLK:Hid (u.blk 3 q=bkM (bJ b) q):=O (hlaid.blks q hq64);clear hmm hlay hroom hlaid huo hbt hset hso;go_wp2_with fail;have hsz:=HL.out.keep.size;refine(((zL HL.out.ki (.slice oa N oc) b (by rw[HN.out];omega) (by rw[HN.out];exact HR.out.keep (HL.out.fin HBN.out HKW.out) fun _ _=>id) (some u) S1 HLAY.out).mono fun e w h=>h.tr:Calls _ _ _ w2 (bY w2 c B (.slice none 0 0) (some u) S1))).mono ?_;rintro e w4 ⟨vrc,B2,rfl,hpv,hki,hbb,-,hnw,hk⟩;replace hpv:aM w4 B2 vrc u.ptr:=hpv;rw[show gJ (some u)=u.ptr from rfl,show lF (some u)=0 from rfl];replace HL:=O (HL.out.laid hpv hki hbb (vB hnw) hk);obtain⟨rc,HRC,hrc,HORC⟩:=nmP hpv;rw[HRC.out];clear hsz hpv hki hbb hnw hk
  go_wp2_with ((with_reducible show WL _ _);refine al 26 (.agg aG.toArray) (aG.toArray) bD ?_)
  intro b9 w5 hbs hk0 hb0_
  go_wp2_with ((with_reducible show WL _ _);refine sta 26 (.tmp 9) (.tmp 36) b9 0 rc hb0_ (by first|decide|(rw[List.size_toArray,hrc];exact Nat.le_refl _)|simp[hrc,aE]) (szP9 hrc) HORC.out ?_)
  intro w6 hk hb;rw[aH _ _ (by first|rfl|(rw[List.size_toArray,hrc];rfl)|simp[hrc,aE])] at hb;replace hk:=hk0.trans' hk (U:=aB) (fun _ _ h=>h) (fun i hi e=>by omega);replace HL:=O (HL.out.new (trivial) hbs hk hb);clear hbs hk hb hk0 hb0_
  go_wp2_with ((with_reducible show WL _ _);refine wpList_load_mid rfl 26 (.tmp 9) rfl b9 0 rfl rc _ (aD (HL.out.b 0)) aI rfl (szP9 hrc) ?_)
  refine((by rw[←HRC.out];exact KN HL.out.ki vrc u HUO.out (HL.out.pv0 0) q HQ.out:Calls _ _ _ w6 (eM w6 (u.blk 3 q)))).mono ?_;rintro e w7 ⟨gv,rfl,ho,hk⟩;obtain⟨gg,gcap,gl,rfl,hg1,hg2,hg3,hg4,hg5,hg6⟩:=DI ho (by omega);replace HL:=O (HL.out.push hg1 hk hg2);have HGG:=O (And.intro hg3 (And.intro hg4 (And.intro hg5 hg6)));clear ho hg1 hg2 hg3 hg4 hg5 hg6 hk;go_wp2_with fail;apply DA (R:=fun(b13:Nat) (rsa:Option Addr) (rsc:Nat) (sc:List Value) w'=>Hid (∃vsc B3,aF vsc u2.ptr=sc/\Cs B w2 c S2 B3 [(vsc,u2.ptr),(vrc,u.ptr)] w' ((b13,sc.toArray,26)::[(gg,gl.toArray,5),(b9,rc.toArray,26)])))
  case h =>
   refine Gt B2 HL (by kernel_rfl) ?_;intro w8 SW HSE HSI hkd HL;clear hkd;have HLs:=HL;refine tna 0 (.pointer (some ⟨c,0,none⟩)) rfl (sD9 HSI HL) ?_;refine tnd 1 (.agg rc.toArray) rfl (ldD 26 (.tmp 9) b9 0 rc _ (fun w' h=>aD (HLs.out.own (HSE.out w' h) 1)) aI (szP9 hrc)) (sD9 HSI HL) ?_;refine tna 2 (.int .i64 (q:Int)) rfl (sD9 HSI HL) ?_;refine tna 3 xv rfl (sD9 HSI HL) ?_;refine eL (k:=4) (l:=9) rfl rfl (by kernel_rfl) ?_ ?_
   ·go_wp2_with fail
    refine((by rw[←HXV.out];exact sR w8 m 256 (by omega):Calls _ _ _ w8 (vE w8 m 256))).mono ?_;rintro e w9 ⟨v_,rfl,ho,hk⟩;rw[HRE.out] at ho;obtain⟨rsa,rsc,rfl,-,-⟩:=(Rd.of_owns ho).form;have Hrs:=O ho;have HrsO:=O (EZ ho (fun i e=>HL.out.ki.lt e));replace HL:=O (HL.out.keeps hk);clear ho hk;go_wp2_with fail;refine⟨HSI.out _ HL.out.dr,?_⟩;refine eL (k:=5) (l:=9) rfl rfl (by kernel_rfl) ?_ ?_
    ·go_wp2_with fail
     have hsz:=HL.out.keep.size;refine((by rw[←HRC.out];have h:=xJ HL.out.ki vrc u HUO.out (HL.out.pv0 0) q HQ.out (.slice rsa 256 rsc) r HRL.out (Rd.of_owns Hrs.out) HrsO.out;rw[HSET.out] at h;exact h:Calls _ _ _ w9 (bY w9 c B2 (.slice none 0 0) (some u2) S2))).mono ?_;rintro e wa ⟨vsc,B3,rfl,hpv,hki,hbb,-,hnw,hk⟩;replace hpv:aM wa B3 vsc u2.ptr:=hpv;rw[show gJ (some u2)=u2.ptr from rfl,show lF (some u2)=0 from rfl];replace HL:=O (HL.out.laid (fun _ _ e=>e) hpv hki hbb (vB hnw) hk);obtain⟨sc,HSC,hsc,HOSC⟩:=nmP hpv;rw[HSC.out];clear hsz hpv hki hbb hnw hk Hrs HrsO;go_wp2_with fail;refine⟨HSI.out _ HL.out.dr,?_⟩;refine tna 6 (.tuple #[.agg sc.toArray,.int .i64 0]) rfl (sD9 HSI HL) ?_;refine tnb 7 (.agg sc.toArray) rfl (sD9 HSI HL) ?_;refine tnb 8 (.int .i64 0) rfl (sD9 HSI HL) ?_;refine wA9 9 ?_;refine alD HL HSI 26 (.agg aG.toArray) (aG.toArray) bD ?_;intro b13 wb hb13 hk HL;clear hk;refine wA9 10 ?_;refine stD HL HSI 0 rfl 26 (.tmp 13) (.tmp 52) sc (.inl hb13) (by first|rfl|simp[hsc,aE]) (szP9 hsc) HOSC.out ?_;intro wc HL;refine tna 11 (.int .i64 0) rfl (sD9 HSI HL) ?_;refine wpAnyH_done (by kernel_rfl) ?_ _;refine noP ?_;exact⟨rfl,b13,rsa,rsc,sc,rfl,O ⟨vsc,B3,HSC.out,HL.out.toCs⟩⟩
    ·refine alD HL HSI 26 (.agg aG.toArray) (aG.toArray) bD ?_
     intro b13 wa hb13 hk HL;replace Hrs:=O (hk.owns Hrs.out fun _ _=>id);replace HrsO:=O (fun i hi=>And.intro (HrsO.out i hi).1 (Nat.lt_of_lt_of_le (HrsO.out i hi).2 (hk).size));clear hk;refine wA9 5 ?_;go_wp2_with fail;have hsz:=HL.out.keep.size;refine((by rw[←HRC.out];have h:=xJ HL.out.ki vrc u HUO.out (HL.out.pv0 0) q HQ.out (.slice rsa 256 rsc) r HRL.out (Rd.of_owns Hrs.out) HrsO.out;rw[HSET.out] at h;exact h:Calls _ _ _ wa (bY wa c B2 (.slice none 0 0) (some u2) S2))).mono ?_;rintro e wb ⟨vsc,B3,rfl,hpv,hki,hbb,-,hnw,hk⟩;replace hpv:aM wb B3 vsc u2.ptr:=hpv;rw[show gJ (some u2)=u2.ptr from rfl,show lF (some u2)=0 from rfl];replace HL:=O (HL.out.laid (fun _ _ e=>e) hpv hki hbb (vB hnw) hk);obtain⟨sc,HSC,hsc,HOSC⟩:=nmP hpv;rw[HSC.out];clear hsz hpv hki hbb hnw hk Hrs HrsO;go_wp2_with fail;refine⟨HSI.out _ HL.out.dr,?_⟩;refine tna 6 (.tuple #[.agg sc.toArray,.int .i64 0]) rfl (sD9 HSI HL) ?_;refine tnb 7 (.agg sc.toArray) rfl (sD9 HSI HL) ?_;refine tnb 8 (.int .i64 0) rfl (sD9 HSI HL) ?_;refine wA9 10 ?_;refine stD HL HSI 0 rfl 26 (.tmp 13) (.tmp 52) sc (.inl hb13) (by first|rfl|simp[hsc,aE]) (szP9 hsc) HOSC.out ?_;intro wc HL;refine tna 11 (.int .i64 0) rfl (sD9 HSI HL) ?_;refine wpAnyH_done (by kernel_rfl) ?_ _;refine noP ?_;exact⟨rfl,b13,rsa,rsc,sc,rfl,O ⟨vsc,B3,HSC.out,HL.out.toCs⟩⟩
   ·refine alD HL HSI 26 (.agg aG.toArray) (aG.toArray) bD ?_
    intro b13 w9 hb13 hk HL;clear hk;refine wA9 4 ?_;go_wp2_with fail;refine((by rw[←HXV.out];exact sR w9 m 256 (by omega):Calls _ _ _ w9 (vE w9 m 256))).mono ?_;rintro e wa ⟨v_,rfl,ho,hk⟩;rw[HRE.out] at ho;obtain⟨rsa,rsc,rfl,-,-⟩:=(Rd.of_owns ho).form;have Hrs:=O ho;have HrsO:=O (EZ ho (fun i e=>HL.out.ki.lt e));replace HL:=O (HL.out.keeps hk);clear ho hk;go_wp2_with fail;refine⟨HSI.out _ HL.out.dr,?_⟩;refine wA9 5 ?_;go_wp2_with fail;have hsz:=HL.out.keep.size;refine((by rw[←HRC.out];have h:=xJ HL.out.ki vrc u HUO.out (HL.out.pv0 0) q HQ.out (.slice rsa 256 rsc) r HRL.out (Rd.of_owns Hrs.out) HrsO.out;rw[HSET.out] at h;exact h:Calls _ _ _ wa (bY wa c B2 (.slice none 0 0) (some u2) S2))).mono ?_;rintro e wb ⟨vsc,B3,rfl,hpv,hki,hbb,-,hnw,hk⟩;replace hpv:aM wb B3 vsc u2.ptr:=hpv;rw[show gJ (some u2)=u2.ptr from rfl,show lF (some u2)=0 from rfl];replace HL:=O (HL.out.laid (fun _ _ e=>e) hpv hki hbb (vB hnw) hk);obtain⟨sc,HSC,hsc,HOSC⟩:=nmP hpv;rw[HSC.out];clear hsz hpv hki hbb hnw hk Hrs HrsO;go_wp2_with fail;refine⟨HSI.out _ HL.out.dr,?_⟩;refine tna 6 (.tuple #[.agg sc.toArray,.int .i64 0]) rfl (sD9 HSI HL) ?_;refine tnb 7 (.agg sc.toArray) rfl (sD9 HSI HL) ?_;refine tnb 8 (.int .i64 0) rfl (sD9 HSI HL) ?_;refine wA9 10 ?_;refine stD HL HSI 0 rfl 26 (.tmp 13) (.tmp 52) sc (.inl hb13) (by first|rfl|simp[hsc,aE]) (szP9 hsc) HOSC.out ?_;intro wc HL;refine tna 11 (.int .i64 0) rfl (sD9 HSI HL) ?_;refine wpAnyH_done (by kernel_rfl) ?_ _;refine noP ?_;exact⟨rfl,b13,rsa,rsc,sc,rfl,O ⟨vsc,B3,HSC.out,HL.out.toCs⟩⟩
  case hR =>
   rintro b13 rsa rsc sc wd HF;obtain⟨vsc,B3,hcs,hl⟩:=HF.out;have HL:=O hl;have HSC:=O hcs;have hsc:sc.length=35:=by rw[←hcs];exact aN (HL.out.pv0 0).pt.sum
   have HOSC:Hid (∀u∈sc,u.oneCell'=true):=O (by rw[←hcs];exact bO (HL.out.pv0 0).pt);clear hcs hl HF;have HL0:=HL;have HRB:=O (HR.out.keep (HL.out.fin HBN.out HKW.out) fun _ _=>id);clear HL
   go_wp2_with ((with_reducible show WL _ _);refine bs0 27 5 (by kernel_rfl) Tryz.underlying27 ?_)
   intro b64 wa hbs hk hb;have HO0:Hid (wa.ownsRow wd.heap.size 5 1 (.slice (some ⟨b64,0,none⟩) 0 0) 0 []):=O (Lh hb (by omega));replace HRB:=O (HRB.out.keep hk fun _ _=>id);have HKA:=O hk;have HB64:Hid (wd.heap.size≤b64):=O (by omega);clear hbs hk hb
   go_wp2_with (at_builtin;refine aK rfl (.tmp 64) (.tmp 65) 27 rfl wd.heap.size 5 (.int .u8 0) 1 1 Tryz.underlying27 dW rfl (by omega) _ 0 _ rfl HO0.out _ N _ rfl HRB.out (by intro u hu;obtain⟨y,-,rfl⟩:=List.mem_map.1 hu;rfl) (by unfold maxLen;omega) (by omega) HKA.out.size ?_)
   intro v2 wb ho5 hk5 hn5 hb5;obtain⟨a2,c2,rfl,-,-⟩:=(Rd.of_owns ho5).form;have HKB:=O (HKA.out.trans' hk5 (fun _ _ h=>h) (fun i hi e=>by have h1:=aQ HO0.out e;omega));have HO5:=O ho5;have HSB:=O HKB.out.size;clear ho5 hk5 hn5 hb5 HO0 HKA HB64 HRB;obtain⟨M,hm⟩:∃M,16384-N=M:=⟨_,rfl⟩
   have hmi:16384-(N:Int)=(M:Int):=by omega
   have hM1:M≤16384:=by omega
   have HNM:=O (show N+M=16384 by omega)
   go_wp2_with (at_builtin;refine pI rfl (.tmp 66) (.tmp 69) 27 3 rfl wd.heap.size 5 (.int .u8 0) .i64 .i64 Tryz.underlying27 Tryz.underlying3 dW rfl rfl _ N M (b.map vb) rfl rfl HO5.out (by omega) (by omega) HSB.out ?_)
   intro v3 wc ho6 hk6;rw[HNM.out] at ho6;obtain⟨ga,acap,al,rfl,hg1,hg2,hg3,hg4,hg5,hg6⟩:=DI ho6 (by omega);replace HL:=O (HL0.out.push hg1 (HKB.out.trans' hk6 (fun _ _ h=>h) (fun i hi e=>by have h1:=aQ HO5.out e;omega)) hg2)
   have HAT:Hid (al.take 16384=(bJ b).map vb):=O (by
    rw[hg6];unfold bJ;rw[List.map_append,List.map_replicate,HN.out,hm];rfl)
   have HGA:=O (And.intro hg3 (And.intro hg4 hg5));have hac:16384≤acap:=hg3;have HAG:Hid (al.length=acap/\acap≤maxLen):=O ⟨hg5,hg4⟩;clear ho6 hk6 hg1 hg2 hg3 hg4 hg5 hg6 HL0 HKB HSB HO5 hmi hM1 HNM hm;obtain⟨p,hp⟩:∃p,256*q=p:=⟨_,rfl⟩
   have HP_:=O hp;have hp64:p+256≤16384:=by omega
   have hpi:256*(q:Int)=(p:Int):=by omega
   have hpw:IntKind.i64.wrap (p:Int)=(p:Int):=IntWalk.i64_in _ (by omega);have hpw2:IntKind.i64.wrap ((p:Int)+256)=(p:Int)+256:=IntWalk.i64_in _ (by omega);clear hp;have hpne:¬p=acap:=by omega
   have hpne2:¬acap=p:=by omega
   have hple:(p:Int)≤16384:=by omega
   have HBL:Hid ((bkM (bJ b) q).length=256):=O (by unfold bkM;rw[List.length_take,List.length_drop,HFL.out,HP_.out];omega);have HPB:Hid ((nL (bJ b) q r).length=16384):=O ((DH HRL.out (by rw[HFL.out,HP_.out];exact hp64)).trans HFL.out);go_wp2_with fail;refine((Gs wc (.slice (some ⟨gg,0,none⟩) 256 gcap) (.slice (some ⟨ga,p,none⟩) 256 (acap-p)) (bkM (bJ b) q) (bkM (bJ b) q) (by rw[HBL.out,←HBLK.out];exact DJ (HL.out.b 2) HGG.out.1 HGG.out.2.1 HGG.out.2.2.1 HGG.out.2.2.2) (by rw[HBL.out];have h:=Nj (lo:=p) (n:=256) (by rw[HFL.out];exact DJ (HL.out.b 0) hac HAG.out.2 HAG.out.1 HAT.out) HFL.out hp64;rw[Nat.zero_add] at h;unfold bkM;rw[HP_.out];exact h) true (decide_eq_true rfl))).mono ?_;rintro e wq46 ⟨rfl,hk⟩;replace HL:=O (HL.out.keeps hk);clear hk;go_wp2_with fail;refine Gt (fun k=>k=ga) HL (by kernel_rfl) ?_;intro wq47 SW HSE HSI hkd HL;clear hkd;have HLs:=HL;refine tna 0 (.slice (some ⟨ga,0,none⟩) 16384 acap) rfl (sD9 HSI HL) ?_;refine tna 1 (.int .i64 (q:Int)) rfl (sD9 HSI HL) ?_;refine tnd 2 (.int .i64 (p:Int)) rfl (.inl ⟨by rfl,fun _ _=>by go_simp⟩) (sD9 HSI HL) ?_;refine tnd 3 (.slice (some ⟨ga,p,none⟩) (16384-p) (acap-p)) rfl (.inl ⟨by rfl,fun _ _=>by go_simp⟩) (sD9 HSI HL) ?_;refine tna 4 xv rfl (sD9 HSI HL) ?_;refine wA9 5 ?_;go_wp2_with fail;refine((by rw[←HXV.out];exact sR wq47 m 256 (by omega):Calls _ _ _ wq47 (vE wq47 m 256))).mono ?_;rintro e wq48 ⟨v_,rfl,ho,hk⟩;rw[HRE.out] at ho;obtain⟨rta,rtc,rfl,-,-⟩:=(Rd.of_owns ho).form;have Hrt:=O ho;replace HL:=O (HL.out.keeps hk);clear ho hk;go_wp2_with fail;refine⟨HSI.out _ HL.out.dr,?_⟩;refine wA9 6 ?_;refine lM rfl (.tmp 84) (.tmp 86) 27 27 rfl 5 Tryz.underlying27 tB ga p (16384-p) (acap-p) (by rfl) _ 256 ((r).map vb) (by rfl) (Rd.of_owns Hrt.out) 256 (by show 256=min 256 (16384-p);omega) al.toArray 5 (HL.out.b 0) (by rw[List.size_toArray,HAG.out.1];omega) (bL _) ?_;intro wq49 hb hk;rw[List.take_of_length_le (l:=(r).map vb) (by rw[List.length_map,HRL.out];exact Nat.le_refl _)] at hb;obtain⟨al2,hal⟩:∃l:List Value,spl al.toArray p ((r).map vb)=l.toArray:=⟨(spl al.toArray p ((r).map vb)).toList,(Array.toArray_toList ..).symm⟩
   have HA2:Hid (al2.take 16384=(nL (bJ b) q (r)).map vb/\al2.length=acap):=O ⟨by
    have h:=Lj (cur:=al.toArray) HFL.out (r:=r) HRL.out HQ.out HAT.out (by rw[List.size_toArray,HAG.out.1];exact hac);rw[HP_.out,hal] at h;exact h,by
    have h:(spl al.toArray p ((r).map vb)).size=al2.toArray.size:=by rw[hal]
    rw[fE,List.size_toArray,List.size_toArray,HAG.out.1] at h;exact h.symm⟩
   rw[hal] at hb;replace HL:=O (HL.out.set 0 hk hb rfl);clear hb hk hal Hrt;refine wpList_nil ?_;refine⟨HSI.out _ HL.out.dr,?_⟩;refine wpAnyH_done (by kernel_rfl) ?_ _;refine noP ?_;replace HL:=O HL.out.toCs;clear HSE HSI HLs
   go_wp2_with ((with_reducible show WL _ _);refine aX (by rfl) 26 (.tmp 13) rfl b13 0 rfl sc _ (aD (HL.out.b 1)) aI rfl (szP9 hsc) ?_)
   refine(((by rw[←HSC.out];exact qK HL.out.ki vsc u2 HUO2.out (HL.out.pv0 0) (.slice (some ⟨ga,0,none⟩) 16384 acap) (nL (bJ b) q (r)) (by rw[HPB.out];decide) (by rw[HPB.out];exact DJ (HL.out.b 0) hac HAG.out.2 HA2.out.2 HA2.out.1) (HBT2.out.trans (GE HPB.out).symm)):Calls _ _ _ wq49 (bF wq49 true))).mono ?_;rintro e wq50 ⟨rfl,hk⟩;replace HL:=O (HL.out.keeps hk);clear hk;have HPX:=O (HL.out.fin HBN.out HKW.out);clear HL;go_wp2_with fail;go_ret;exact⟨rfl,HPX.out⟩
end
end Go.Proofs.YtjkbekifgobeaaaGreatDoor
