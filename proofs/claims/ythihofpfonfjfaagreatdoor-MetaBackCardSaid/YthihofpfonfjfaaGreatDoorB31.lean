/- A part of the proof. Conditions: those told. -/
import Derived.Test.YthihofpfonfjfaaGreatDoorB1
import Derived.Test.YthihofpfonfjfaaGreatDoorB30
import Derived.Lib.AppendZerosOnto
namespace Go.Proofs.YthihofpfonfjfaaGreatDoor
set_option maxHeartbeats 64000000
set_option maxRecDepth 100000
set_option linter.unusedVariables false
section
open Go.RowKit Go.Maps Go.ChangeMaps
theorem qV(z:Value)(m:Nat):(Builtin.zeroCells #[z] m).toList=List.replicate m z:=by
 unfold Builtin.zeroCells;apply List.ext_getElem
 ·simp
 ·intro i h1 h2
  simp[Nat.mod_one]
theorem Aq{P:Program}(w:World)(t tn ty e:TypeId)(i:TypeInfo)(z:Value)(k kn:IntKind)(ht:P.underlying t=some (.slice e))(htn:P.underlying tn=some (.int kn))(hi:P.info? e=some i)(hz:i.zero=some z)(hs:i.size=1)(hb:i.bytes=1)(hzc:z.cells=#[z])(hz1:z.oneCell'=true)
 (g n cap m:Nat) (cur:Array Value) (hg:w.heap[g]?=some (.cells cur e (0,0))) (hm:m≤65536) (hroom:n+m≤cap) (hfit:n+m≤cur.size) :
 (Builtin.append_ #[t,tn] ty #[.slice (some ⟨g,0,none⟩) n cap,.int k m]).run P w=.ok (.slice (some ⟨g,0,none⟩) (n+m) cap) (w.setRow g (cur.toList.take n++List.replicate m z++cur.toList.drop (n+m)).toArray):=by
 have hw:IntKind.i64.wrap (m:Int)=m:=by rw[IntKind.wrap_i64];omega
 have hneg:¬((m:Int)<0):=by omega
 have hbig:¬(281474976710656<(m:Int)):=by omega
 have hst:=run_storeCells_at P g n e (List.replicate m z) 0 cur w hg (by simpa using hfit) (fun v hv=>by rw[(List.mem_replicate.1 hv).2];exact hz1);simp only[Nat.add_zero,List.length_replicate] at hst
 by_cases h0:m=0
 ·subst h0
  simp only[List.replicate_zero] at hst ⊢;have hw0:IntKind.i64.wrap 0=0:=by rw[IntKind.wrap_i64];rfl
  have hr0:n≤cap:=by omega
  simp[Builtin.append_,run_underlying ht,run_underlying htn,sizeOf,typeInfo,hi,hs,hb,asInt,asIntOf,hw0,Addr.add_lit,hr0];have hst2:(storeCells ⟨g,n,none⟩ []).run P w=.ok () (w.setRow g cur):=by simpa using hst
  rw[hst2];rfl
 ·have hzl:=qV z m
  simp[Builtin.append_,run_underlying ht,run_underlying htn,sizeOf,typeInfo,zeroValue,hi,hz,hs,hb,asInt,asIntOf,hw,h0,hneg,hbig,hroom,Addr.add_lit,hzc,hzl,hst]
theorem pH{P:Program}{w:World}{ops:Array Oper}{rest:List Oper}{o:Oper}{a:Act}{Q:Exit->Act->World->Prop}(hgd:o.guard=none)(s x:Operand)(t tn:TypeId)
 (ho:o.op=.call { callee:=.builtin .append,args:=#[s,x],argTypes:=#[t,tn] }) (base:Nat) (e:TypeId) (z:Value) (k kn:IntKind) (ht:P.underlying t=some (.slice e)) (htn:P.underlying tn=some (.int kn))
 (hinf:(P.info? e).map (fun i=>(i.zero,i.size,i.bytes))=some (some z,1,1)) (hzc:z.cells=#[z]) (hz1:z.oneCell'=true) (v:Value) (n m:Nat) (xs:List Value) (hs:a.eval s=v) (hx:a.eval x=.int k (m:Int)) (hown:w.ownsRow base e 1 v n xs) (hn:n≤65536) (hm:m≤65536) (hbase:base≤w.heap.size)
 (h:∀v' w',w'.ownsRow base e 1 v' (n+m) (xs++List.replicate m z)->aA (fun i=>v.ownBlock=some i) w w'->wpList P ops Q rest (a.put o.dst v') w'):wpList P ops Q (o::rest) a w:=by
 obtain⟨i,hi,hz,hsz,hby⟩:=info_parts hinf;have hlen:(xs++List.replicate m z).length=(n+m)*1:=by rw[List.length_append,hown.1,List.length_replicate];omega
 have fin:∀v' w',(Builtin.append_ #[t,tn] o.type #[v,.int k m]).run P w=.ok v' w'->w'.ownsRow base e 1 v' (n+m) (xs++List.replicate m z)->aA (fun i=>v.ownBlock=some i) w w'->wpList P ops Q (o::rest) a w:=
  fun v' w' hr h1 h2=>Lib.wpList_append_run w hgd s x t tn ho v (.int k m) hs hx v' w' hr (h v' w' h1 h2)
 have grown:∀(old:Nat),old<n+m ->
  (w.drew.alloc (.cells (xs.toArray++Builtin.zeroCells z.cells m++Builtin.zeroCells z.cells (grownCap w (n+m) old e-(n+m))) e)).ownsRow base e 1
    (.slice (some ⟨w.heap.size,0,none⟩) (n+m) (grownCap w (n+m) old e)) (n+m) (xs++List.replicate m z) /\
  aA aB w (w.drew.alloc (.cells (xs.toArray++Builtin.zeroCells z.cells m++Builtin.zeroCells z.cells (grownCap w (n+m) old e-(n+m))) e)):=by
  intro old ho;have hge:=grownCap_ge w (n+m) old e;have hcm:grownCap w (n+m) old e≤maxLen:=grownCap_le_maxLen w (n+m) old e (by unfold maxLen;omega);refine⟨⟨hlen,.inr ⟨w.heap.size,_,_,rfl,hbase,heap_alloc_new w.drew _,hge,hcm,?_,?_⟩⟩,(aA.refl _ _).drew.alloc _⟩
  ·simp only[Array.size_append,List.size_toArray,size_zeroCells,hzc,hown.1,List.size_toArray,List.length_cons,List.length_nil]
   omega
  ·simp only[Array.toList_append,List.append_assoc,hzc,qV]
   rw[←List.append_assoc,←hlen];exact List.take_left
 rcases hown.2 with⟨rfl,rfl⟩|⟨g,cap,cur,rfl,hbg,hg,hnc,hcm,hcs,htake⟩
 ·have hxx:xs=[]:=List.eq_nil_of_length_eq_zero (by simpa using hown.1)
  subst hxx
  by_cases h0:m=0
  ·subst h0
   have hw0:IntKind.i64.wrap 0=0:=by rw[IntKind.wrap_i64];rfl
   refine fin (.slice none 0 0) w ?_ (World.ownsRow_nil w base e 1) (aA.refl _ _);simp[Builtin.append_,run_underlying ht,run_underlying htn,sizeOf,typeInfo,hi,hby,asInt,asIntOf,hw0]
  ·have hr:=Lib.run_append_nil_zeros (P:=P) w t tn o.type e i z k kn ht htn hi hz m (by omega) (by omega) (by omega) (by rw[hby];omega)
   have hgr:=grown 0 (by omega);simp only[Nat.zero_add,List.nil_append,Array.empty_append] at hgr hr fin;exact fin _ _ hr hgr.1 hgr.2.any
 ·by_cases hroom:n+m≤cap
  ·have hfit:n+m≤cur.size:=by omega
   have hr:=Aq (P:=P) w t tn o.type e i z k kn ht htn hi hz hsz hby hzc hz1 g n cap m cur hg hm hroom hfit;refine fin _ _ hr ⟨hlen,.inr ⟨g,cap,_,rfl,hbg,setRow_heap w g cur _ e _ hg,hroom,hcm,?_,?_⟩⟩ ⟨rfl,rfl,rfl,by simp[World.setRow],fun k _ hk=>setRow_other w g k _ (fun e=>hk (by simp[Value.ownBlock,e]))⟩
   ·simp only[List.size_toArray,List.length_append,List.length_take,List.length_drop,Array.length_toList,List.length_replicate]
    omega
   ·rw[Nat.mul_one] at htake
    rw[htake,←hlen];exact List.take_left
  ·have holds:=run_firstCells_some (P:=P) w.drew i.size n ⟨g,0,none⟩ n cap xs (by rw[hsz];exact hown.1) (hown.cells (g:=g) rfl)
   have hr:=Lib.run_append_grow_zeros (P:=P) w t tn o.type e i z k kn ht htn hi hz (some ⟨g,0,none⟩) n cap xs holds m (by omega) (by omega) (by omega) (by omega) (by rw[hby];omega) (growslice_fits (by omega) (by rw[hby];omega));have hgr:=grown cap (by omega);exact fin _ _ hr hgr.1 hgr.2.any
theorem zG(w:World)(v:Value)(b:List UInt8)(hr:Rd w 1 v b.length (b.map vb))(hb:b.length≤16384):Calls Tryz.prog 21 #[v] w (rD w (b++List.replicate (16384-b.length) 0)):=by
 have C:=O (xU v b w hr (by omega));obtain⟨a,c,rfl,-,-⟩:=hr.form;clear hr;obtain⟨n,hn⟩:∃n,b.length=n:=⟨_,rfl⟩
 have HN:=O hn;rw[hn] at hb C ⊢;obtain⟨m,hm⟩:∃m,16384-n=m:=⟨_,rfl⟩
 rw[hm];have hmi:16384-(n:Int)=(m:Int):=by omega
 have hm2:m≤16384:=by omega
 have HNM:=O (show n+m=16384 by omega);clear hn;go_enter Tryz.func21,Tryz.ntmps21;go_wp2_with fail;refine C.out.mono ?_;rintro e w1 ⟨v1,rfl,ho,hk⟩;have HO:=O ho;have HK:=O hk;rw[HN.out] at HO;have hsz:=hk.size;have HSZ:=O hsz;obtain⟨a1,c1,rfl,-,-⟩:=(Rd.of_owns HO.out).form;clear ho hk hsz
 go_wp2_with (at_builtin;refine pH rfl (.tmp 4) (.tmp 7) 22 3 rfl w.heap.size 5 (.int .u8 0) .i64 .i64 Tryz.underlying22 Tryz.underlying3 dF rfl rfl _ n m (b.map vb) rfl rfl HO.out (by omega) (by omega) HSZ.out ?_)
 intro v2 w2 ho2 hk2;obtain⟨a2,c2,rfl,-,-⟩:=(Rd.of_owns ho2).form;have HO2:=O ho2;have HK2:=O (HK.out.trans' hk2 (fun _ _ h=>h) (fun i hi e=>by have:=aR HO.out e;omega));clear ho2 hk2;go_wp2_with fail;go_ret;have hl:(b++List.replicate m (0:UInt8)).length=n+m:=by rw[List.length_append,List.length_replicate,HN.out]
 refine⟨_,rfl,?_,HK2.out⟩;rw[hl,List.map_append,List.map_replicate];exact HO2.out
theorem D1(E:Nat)(w:World) :
 CallsD Tryz.prog 26 #[.pointer (some ⟨E,0,none⟩)] .returning w fun e u' w'=>e=.returned (.tuple #[])/\u'=.returning/\w'=w:=by
 refine callsD_of_wpS Tryz.func26 rfl fun c₀ cs hu=>?_
 apply wpS_seq;apply wpS_region;simp[wpOpsS,go_sem,recoverD,hu,Tryz.ntmps26,Exit.thenS];refine wpS_of_wp ?_;go_wp2_with fail;cases c₀
 simp_all [bodyPostS,results,Tryz.results26]
def EE(E:Nat)(er:Int)(w:World)(e:Ending)(u':FrameMode)(w':World):Prop:=
 e=.returned (.tuple #[])/\u'=.panicking [{ v:=.iface 100 (.agg #[.int .i64 er]),recovered:=true }]/\w'.heap[E]?=some (.cells #[.int .i64 er] 27 (0,0))/\aA (fun k=>k=E) w w'
theorem Kw:Hid (∀w,(zeroValue 100).run Tryz.prog w=.ok (.agg #[.int .i64 0]) w):=O fun w=>by kernel_rfl
theorem D2(E:Nat)(er x:Int)(w:World)(hE:w.heap[E]?=some (.cells #[.int .i64 x] 27 (0,0))) :
 CallsD Tryz.prog 26 #[.pointer (some ⟨E,0,none⟩)] (.panicking (gC er)) w (EE E er w):=by
 have hta:∀(w:World),Sem.run Tryz.prog (Instr.typeAssert (.iface 100 (.agg #[.int .i64 er])) 20 100 true) w=.ok (.tuple #[.agg #[.int .i64 er],.bool true]) w:=fun w=>by kernel_rfl
 have HE:=O hE;have HL:=O (Loc.nil aB aB w);clear hE;refine callsD_of_wpS Tryz.func26 rfl fun c₀ cs hu=>?_
 simp only[Tryz.ntmps26,List.size_toArray,List.length_cons,List.length_nil,Nat.reduceAdd,Nat.reduceSub,Array.replicate_succ,
  Array.replicate_zero,List.push_toArray,List.append_toArray,List.nil_append,List.cons_append]
 apply wpS_seq;apply wpS_region;simp[wpOpsS,go_sem,recoverD,hu,gC,Exit.thenS];refine wpS_of_wp ?_;have HU:=O hu;clear hu
 go_wp2_with ((with_reducible show WL _ _);refine alL HL 100 (.agg #[.int .i64 0]) (#[.int .i64 0]) Kw ?_)
 intro b3 w1 hk HL;replace HE:=O (hk.blk HE.out id);clear hk
 go_wp2_with ((with_reducible show WL _ _);refine sta 100 (.tmp 3) (.tmp 10) b3 0 [.int .i64 er] (HL.out.b 0) (by simp) (by kernel_rfl) (by intro v hv;rw[List.mem_singleton] at hv;rw[hv];rfl) ?_)
 intro w2 hk hb;replace hb:w2.heap[b3]?=some (.cells #[.int .i64 er] 100 (0,0)):=hb;have hbE:E≠b3:=fun e=>by subst e;have h:=HE.out;rw[HL.out.b 0] at h;cases h
 replace HL:=O (HL.out.set 0 hk hb);replace HE:=O (hk.blk HE.out hbE);clear hk hb hbE hta;have c1:w2.cell? ⟨b3,0,none⟩=some (.int .i64 er):=aC (i:=0) (HL.out.b 0) rfl
 go_wp2_with ((with_reducible show WL _ _);refine sta 27 (.tmp 14) (.tmp 13) E 0 [.int .i64 er] HE.out (by simp) (by kernel_rfl) (by intro v hv;rw[List.mem_singleton] at hv;rw[hv];rfl) ?_)
 intro w3 hk hb;replace hb:w3.heap[E]?=some (.cells #[.int .i64 er] 27 (0,0)):=hb;have HP:Hid (EE E er w (.returned (.tuple #[])) (.panicking [{ v:=.iface 100 (.agg #[.int .i64 er]),recovered:=true }]) w3):=O ⟨rfl,rfl,hb,HL.out.keep.any.trans' hk (fun _ _ h=>h) (fun _ _ e=>e)⟩;clear hk hb HE HL;go_wp2_with fail;exact⟨rfl,_,rfl,_,results_none rfl _ _ _,HP.out⟩
def uJ(w:World)(c:Nat)(B:Nat->Prop)(r:Option Tr)(T:Kor)(e:Ending)(w':World):Prop:=
 match r with
 | some t=>∃v B',e=.returned (.tuple #[.agg (aE v t.ptr).toArray,.int .i64 0])/\aQ w' B' v t.ptr/\KI w' c T B'/\(∀k,B' k->B k\/w.heap.size≤k)/\Cl w w' B B'/\dR w v/\aA B w w'
 | none=>e=.returned (.tuple #[.agg (aE (.slice none 0 0) zPt).toArray,.int .i64 15])/\aA B w w'
def bL(bs:List UInt8):List UInt8:=bs++List.replicate (16384-bs.length) 0
theorem jI{bs:List UInt8}(h:bs.length≤16384):(bL bs).length=256*4 ^ 3:=by
 unfold bL;rw[List.length_append,List.length_replicate];show _=16384;omega
theorem jT{w:World}{c:Nat}{S:Kor}{B:Nat->Prop}(hK:KI w c S B)(vv:Value)(bs:List UInt8)(hbl:bs.length≤16384)(hr:Rd w 1 vv bs.length (bs.map vb))(r:Option Tr)(T:Kor)(hm:dD 3 S (bL bs)=(r,T)):Calls Tryz.prog 9 #[.pointer (some ⟨c,0,none⟩),vv] w (uJ w c B r T):=by
 have HL:=O (Cs.start hK);have HCL:=O (Cl.refl w w B (aA.refl _ _));have HM:=O hm;have HR:=O hr;have HBL:=O hbl;have HFL:=O (jI hbl);have HCP:=O (by have:=hK.bd.c1;omega:¬((S.cp:Nat):Int)=0);have HBLT:=O (fun i (e:B i)=>hK.lt e);obtain⟨va,vc,rfl,-,-⟩:=hr.form;obtain⟨m,hmm⟩:∃m,bs.length=m:=⟨_,rfl⟩
 have HMM:=O hmm;rw[hmm] at HR hbl ⊢;have hm1:¬((16384:Int)<(m:Int)):=by omega
 have hzp:(aE (.slice none 0 0) zPt).length=35:=rfl;have hzb:=iJ;obtain⟨zp,hzpe⟩:∃l,aE (.slice none 0 0) zPt=l:=⟨_,rfl⟩
 have HOZP:Hid (∀u∈zp,u.oneCell'=true):=O (by rw[←hzpe];exact bR zPt);have HZPE:=O hzpe;rw[hzpe] at hzp hzb;have HZB:=O hzb;clear hzpe hzb;clear hr hm hmm hK hbl
 go_enter_defers Tryz.func9,Tryz.ntmps9
 go_wp2_with ((with_reducible show WL _ _);refine al 35 (.agg aK.toArray) (aK.toArray) bJ ?_)
 intro b4 w1 hbs hk hb;replace HL:=O (HL.out.new (trivial) hbs hk hb);replace HR:=O (HR.out.keep hk fun _ _=>id);replace HCL:=O (HCL.out.trans (Cl.refl _ _ _ hk));clear hbs hk hb
 go_wp2_with ((with_reducible show WL _ _);refine al 27 (.int .i64 0) (#[.int .i64 0]) oH ?_)
 intro b5 w2 hbs hk hb;replace HL:=O (HL.out.new (trivial) hbs hk hb);replace HR:=O (HR.out.keep hk fun _ _=>id);replace HCL:=O (HCL.out.trans (Cl.refl _ _ _ hk));clear hbs hk hb;have hcp:=HCP.out;go_wp2_with fail;refine((KI.copies HL.out.ki:Calls _ _ _ w2 (aF w2 (.int .i64 (S.cp:Int))))).mono ?_;rintro e w3 ⟨rfl,hk⟩;replace HL:=O (HL.out.keeps hk);replace HR:=O (HR.out.keep hk fun _ _=>id);replace HCL:=O (HCL.out.trans (Cl.refl _ _ _ hk));clear hk;go_wp2_with fail;have HSZ:=O HL.out.keep.size;refine((by have h:=zG w3 (.slice va m vc) bs (by rw[HMM.out];exact HR.out) HBL.out;exact h:Calls _ _ _ w3 (rD w3 (bL bs)))).mono ?_;rintro e w4 ⟨fv,rfl,ho,hk⟩;rw[show (bL bs).length=16384 from HFL.out] at ho;obtain⟨fa,fc,rfl,-,-⟩:=(Rd.of_owns ho).form;have HO:=O ho;have HVB:Hid (∀i,(Value.slice fa 16384 fc).ownBlock=some i->¬B i):=O (fun i hi e=>by have:=aR ho hi;have:=HBLT.out i e;have:=HSZ.out;omega);clear ho HSZ;replace HL:=O (HL.out.keeps hk);replace HR:=O (HR.out.keep hk fun _ _=>id);replace HCL:=O (HCL.out.trans (Cl.refl _ _ _ hk));clear hk;go_wp2_with fail;have HW1:=O HL.out.keep;refine((ED (l:=3) (by omega) HL.out.ki (.slice fa 16384 fc) (bL bs) HFL.out (by rw[show (bL bs).length=16384 from HFL.out];exact Rd.of_owns HO.out) HVB.out r T HM.out:Calls _ _ _ w4 (jH w4 c B r T))).mono ?_;rintro e w8 hm;cases r with
 | none =>
   obtain⟨rfl,hk⟩:=hm;have HB4:=O (hk.blk (HL.out.b 1) (fun e=>(HL.out.loc.aq 1) (.inl e)));have HB5:=O (hk.blk (HL.out.b 0) (fun e=>(HL.out.loc.aq 0) (.inl e)));have HN45:=O (And.intro (HL.out.ne 0 1) (And.intro (HL.out.loc.lt 0).1 (HL.out.loc.lt 1).1));have HKP:Hid (aA B w w8):=O (HW1.out.trans' hk (fun _ _ h=>h) (fun i hi e=>e));go_wp2_with fail;refine leaves_cons (f:=26) (args:=#[.pointer (some ⟨b5,0,none⟩)]) (by simp) (by simp[go_sem]) ?_;refine(D2 b5 15 0 w8 HB5.out).mono ?_;rintro e u' w9 ⟨rfl,rfl,hb,hk9⟩;have c7:w9.cell? ⟨b5,0,none⟩=some (.int .i64 15):=aC (i:=0) hb rfl;have hfin:uJ w c B none T (.returned (.tuple #[.agg (aE (.slice none 0 0) zPt).toArray,.int .i64 15])) w9:=⟨rfl,HKP.out.trans' hk9 (fun _ _ h=>h) (fun i hi e=>by have:=HN45.out;omega)⟩
   exact⟨_,gB rfl _ _ b4 _ _ _ _ rfl (hk9.blk HB4.out HN45.out.1) aJ rfl (by rw[List.size_toArray,aH];exact eB) ⟨b5,0,none⟩ (.int .i64 15) rfl (by go_simp),hfin⟩
 | some t =>
   obtain⟨v,B',rfl,hpv,hki,hbb,hcl,hnw,hk⟩:=hm;have HNW:=O (hnw.from HW1.out.size);replace HCL:=O (HCL.out.trans hcl);replace HL:=O (HL.out.laid hpv hki hbb hnw hk);obtain⟨qc,HQC,hqc,HOQ⟩:=nmP hpv;rw[HQC.out];clear hpv hki hbb hcl hnw hk HR HO HW1
   go_wp2_with ((with_reducible show WL _ _);refine sta 35 (.tmp 4) (.tmp 19) b4 0 qc (HL.out.b 1) (by first|decide|(rw[hqc];exact Nat.le_refl _)|simp[hqc,aH]) (szP9 hqc) HOQ.out ?_)
   intro w9 hk hb;rw[aG _ _ (by first|rfl|simp[hqc,aH])] at hb;replace HL:=O (HL.out.set 1 hk hb);replace HCL:=O (Cl.onT HCL.out hk fun i hq e=>by rw[e] at hq;first|exact (HL.out.loc.aq 0) (.inl hq)|exact (HL.out.loc.aq 1) (.inl hq)|exact (HL.out.loc.aq 2) (.inl hq)|exact (HL.out.loc.aq 3) (.inl hq));clear hk hb
   go_wp2_with ((with_reducible show WL _ _);refine sta 27 (.tmp 5) (.const (.int .i64 0)) b5 0 ([.int .i64 0]) (HL.out.b 0) (by simp) (by kernel_rfl) (one9) ?_)
   intro wa hk hb;replace hb:wa.heap[b5]?=some (.cells #[.int .i64 0] 27 (0,0)):=hb;replace HL:=O (HL.out.set 0 hk hb);replace HCL:=O (Cl.onT HCL.out hk fun i hq e=>by rw[e] at hq;first|exact (HL.out.loc.aq 0) (.inl hq)|exact (HL.out.loc.aq 1) (.inl hq)|exact (HL.out.loc.aq 2) (.inl hq)|exact (HL.out.loc.aq 3) (.inl hq));clear hk hb;have HB4:=O (HL.out.b 1);have HB5:=O (HL.out.b 0);have HP:Hid (uJ w c B (some t) T (.returned (.tuple #[.agg qc.toArray,.int .i64 0])) wa):=O ⟨v,B',by rw[HQC.out],HL.out.pv0 0,HL.out.ki,HL.out.bb,HCL.out,HNW.out,HL.out.keep⟩;clear HL HCL;go_wp2_with fail;refine leaves_cons (f:=26) (args:=#[.pointer (some ⟨b5,0,none⟩)]) (by simp) (by simp[go_sem]) ?_;refine(D1 b5 _).mono ?_;rintro e u' w'' ⟨rfl,rfl,rfl⟩;have c7:=aC (i:=0) HB5.out rfl;exact⟨_,gB rfl _ _ b4 _ _ _ _ rfl HB4.out aJ rfl (by rw[List.size_toArray,hqc];exact eB) ⟨b5,0,none⟩ (.int .i64 0) rfl (by go_simp),HP.out⟩
theorem IK{w:World}{base m g cap:Nat}{xs:List Value}(h:w.ownsRow base 5 1 (.slice (some ⟨g,0,none⟩) m cap) m xs):w.ownsRow base 5 1 (.slice (some ⟨g,0,none⟩) 0 cap) 0 []:=by
 refine⟨by simp,?_⟩;rcases h.2 with⟨h,-⟩|⟨g2,cap2,cur,h1,h2,h3,h4,h5,h6,-⟩
 ·cases h
 ·injection h1 with h1 _ h7
  injection h1 with h1
  injection h1 with h1
  subst h1 h7;exact .inr ⟨g,cap,cur,rfl,h2,h3,Nat.zero_le _,h5,h6,by simp⟩
def Kx(w:World)(e:Ending)(w':World):Prop:=∃v,e=.returned v/\w'.ownsRow w.heap.size 5 1 v 0 []/\aA aB w w'
theorem Ky(w:World)(m:Nat)(hm:m≤65536):Calls Tryz.prog 71 #[.slice none 0 0,.int .i64 (m:Int)] w (Kx w):=by
 have h0:¬((m:Int)<0):=by omega
 by_cases hz:m=0
 ·subst hz
  go_enter Tryz.func71,Tryz.ntmps71;go_wp2_with fail;go_ret;exact⟨_,rfl,World.ownsRow_nil _ _ _ _,aA.refl _ _⟩
 ·have h1:(0:Int)<(m:Int):=by omega
  have HZ:=O hz;clear hz;go_enter Tryz.func71,Tryz.ntmps71
  go_wp2_with (at_builtin;refine pH rfl (.tmp 20) (.tmp 21) 22 3 rfl w.heap.size 5 (.int .u8 0) .i64 .i64 Tryz.underlying22 Tryz.underlying3 dF rfl rfl (.slice none 0 0) 0 m [] rfl rfl (World.ownsRow_nil _ _ _ _) (by omega) hm (Nat.le_refl _) ?_)
  intro v2 w2 ho2 hk2
  obtain⟨g,cap,rfl⟩:∃g cap,v2=.slice (some ⟨g,0,none⟩) m cap:=by
   rcases ho2.2 with⟨-,h⟩|⟨g,cap,cur,h,-⟩
   ·exact absurd h HZ.out
   ·exact⟨g,cap,h⟩
  have HO:=O (IK ho2);have HK:=O (hk2.mono (T:=aB) fun _ _ e=>by cases e);clear ho2 hk2;go_wp2_with fail;go_ret;exact⟨_,rfl,HO.out,HK.out⟩
structure uW(w:World)(v:Value)(vs:List Value)(R:List (List UInt8)):Prop where
 row:Rd w 1 v R.length vs
 at_:∀(j:Nat) (b:List UInt8),R[j]?=some b->∃u,vs[j]?=some u/\Rd w 1 u b.length (b.map vb)
def flN(R:List (List UInt8))(k:Nat):Nat:=(R.take k).flatten.length
def flB(R:List (List UInt8))(k:Nat):List Value:=(R.take k).flatten.map vb
theorem xG{R:List (List UInt8)}{k:Nat}{b:List UInt8}(h:R[k]?=some b):(R.take (k+1)).flatten=(R.take k).flatten++b:=by
 rw[List.take_add_one,h,List.flatten_append];simp
theorem IL(R:List (List UInt8))(k:Nat):flN R k≤R.flatten.length:=by
 have h:R.flatten=(R.take k).flatten++(R.drop k).flatten:=by rw[←List.flatten_append,List.take_append_drop]
 rw[h,List.length_append];exact Nat.le_add_right _ _
theorem F7(w:World)(v:Value)(vs:List Value)(R:List (List UInt8))(h:uW w v vs R)(hn:R.length≤1000)(hl:R.flatten.length≤65536):Calls Tryz.prog 35 #[v] w (rD w R.flatten):=by
 have H:=O h;obtain⟨va,vc,rfl,-,-⟩:=h.row.form;obtain⟨n,hnn⟩:∃n,R.length=n:=⟨_,rfl⟩
 have HN:=O hnn;have HL:=O hl;rw[hnn] at hn ⊢
 have HC:Hid (∀(w':World) (k:Nat) (b:List UInt8),aA aB w w'->R[k]?=some b->∃g o ua uc,va=some ⟨g,o,none⟩/\w'.cell? ⟨g,o+k,none⟩=some (.slice ua b.length uc)/\Rd w' 1 (.slice ua b.length uc) b.length (b.map vb)):=O (fun w' k b hk hb=>by
  obtain⟨u,hu,hr⟩:=H.out.at_ k b hb;obtain⟨ua,uc,rfl,-,-⟩:=hr.form;obtain⟨hl0,a',c',hv',-,-,-,h4⟩:=H.out.row;cases hv'
  have hp:0<vs.length:=by
   rcases Nat.eq_zero_or_pos vs.length with e|e
   ·rw[List.eq_nil_of_length_eq_zero e] at hu;cases hu
   ·exact e
  obtain⟨g,o,rfl,hc⟩:=h4 hp;exact⟨g,o,ua,uc,rfl,hk.cell (hc k _ hu) id,hr.keep hk fun _ _=>id⟩)
 clear h hnn hl;go_enter Tryz.func35,Tryz.ntmps35;go_wp2_with fail
 go_loopw [3,11] (fun s i wr=>∃k q:Nat,k≤n/\i=.int .i64 (k:Int)/\s=.int .i64 (q:Int)/\q≤65536/\Hid (q=flN R k)/\w=wr) (fun _ i _=>n-(intOf i).toNat)
 case atStart=>exact⟨0,0,Nat.zero_le _,rfl,rfl,by omega,O (by unfold flN;rfl),rfl⟩
 case round =>
  obtain⟨k,q,hk,rfl,rfl,hq,HQ,rfl⟩:=hrel
  by_cases hlt:k<n
  ·obtain⟨b,hb⟩:∃b,R[k]?=some b:=⟨_,List.getElem?_eq_getElem (by have:=HN.out;omega)⟩
   obtain⟨g,o,ua,uc,hva,hcell,-⟩:=HC.out w k b (aA.refl _ _) hb;subst hva;obtain⟨m,hm⟩:∃m,b.length=m:=⟨_,rfl⟩
   have HB:Hid (flN R (k+1)=q+m):=O (by unfold flN;rw[xG hb,List.length_append,hm,HQ.out];rfl);have hqm:q+m≤65536:=by have:=IL R (k+1);have:=HL.out;have:=HB.out;omega
   have hki:(k:Int)<(n:Int):=by omega
   have hk0:(0:Int)≤(k:Int):=by omega
   have hw0:¬((q:Int)+(m:Int)<0):=by omega
   rw[hm] at hcell;clear hb hm;go_wp2_with fail
   go_roundw
   case rel=>exact⟨k+1,q+m,by omega,by first|rfl|go_num,by first|rfl|go_num,hqm,O HB.out.symm,by first|rfl|trivial⟩
   case measure=>simp[intOf];omega
  ·obtain rfl:n=k:=by omega
   go_wp2_with fail;refine(Ky w q hq).mono ?_;rintro e w1 ⟨v1,rfl,ho,hk1⟩;obtain⟨a1,c1,rfl,-,-⟩:=(Rd.of_owns ho).form;have HO:=O ho;have HK:=O hk1;clear ho hk1;go_wp2_with fail
   go_loopw [6,27] (fun s i wr=>∃k q:Nat,k≤n/\i=.int .i64 (k:Int)/\(∃a c,s=.slice a q c)/\Hid (wr.ownsRow w.heap.size 5 1 s q (flB R k))/\q≤65536/\Hid (q=flN R k)/\Hid (aA aB w wr)) (fun _ i _=>n-(intOf i).toNat)
   case atStart=>exact⟨0,0,Nat.zero_le _,rfl,⟨_,_,rfl⟩,O (by unfold flB;simpa using HO.out),by omega,O (by unfold flN;rfl),HK⟩
   case round =>
    clear HO HK;obtain⟨k,q2,hk2,rfl,⟨sa,sc,rfl⟩,HO,hq2,HQ2,HK⟩:=hrel
    by_cases hlt2:k<n
    ·obtain⟨b,hb⟩:∃b,R[k]?=some b:=⟨_,List.getElem?_eq_getElem (by have:=HN.out;omega)⟩
     obtain⟨g,o,ua,uc,hva,hcell,hrd⟩:=HC.out wr k b HK.out hb;subst hva;obtain⟨m,hm⟩:∃m,b.length=m:=⟨_,rfl⟩
     have HM:=O hm;have HF:=O (xG hb);have HB:Hid (flN R (k+1)=q2+m):=O (by unfold flN;rw[xG hb,List.length_append,hm,HQ2.out];rfl);have hqm:q2+m≤65536:=by have:=IL R (k+1);have:=HL.out;have:=HB.out;omega
     have hki:(k:Int)<(n:Int):=by omega
     have hk0:(0:Int)≤(k:Int):=by omega
     rw[hm] at hcell hrd;have HR:=O hrd;have HSZ:=O HK.out.size;clear hb hm hrd
     go_wp2_with (at_builtin;refine aI rfl (.tmp 31) (.tmp 32) 22 rfl w.heap.size 5 _ 1 1 Tryz.underlying22 dF rfl (by omega) _ q2 _ rfl HO.out _ m (b.map vb) rfl HR.out (bK _) (by unfold maxLen;omega) (by omega) HSZ.out ?_)
     intro v5 w5 ho5 hk5 hn5 hb5;obtain⟨a5,c5,rfl,-,-⟩:=(Rd.of_owns ho5).form;have HO5:Hid (w5.ownsRow w.heap.size 5 1 (.slice a5 (q2+m) c5) (q2+m) (flB R (k+1))):=O (by unfold flB;rw[HF.out,List.map_append];exact ho5);have HK5:=O (HK.out.trans' hk5 (fun _ _ h=>h) (fun i hi e=>by have:=aR HO.out e;omega));clear ho5 hk5 hn5 hb5 HO HK;go_wp2_with fail
     go_roundw
     case rel=>exact⟨k+1,q2+m,by omega,by first|rfl|go_num,⟨_,_,rfl⟩,HO5,hqm,O HB.out.symm,HK5⟩
     case measure=>simp[intOf];omega
    ·obtain rfl:n=k:=by omega
     have HT:Hid (R.take n=R):=O (List.take_of_length_le (by rw[HN.out];exact Nat.le_refl _));go_wp2_with fail;go_ret;have hl:R.flatten.length=q2:=by have h:=HQ2.out;unfold flN at h;rw[HT.out] at h;exact h.symm
     refine⟨_,rfl,?_,HK.out⟩;have h:=HO.out;unfold flB at h;rw[HT.out] at h;rw[hl];exact h
def dN(t:Tr):List UInt8:=(t.blocks 3).flatten
theorem L9{L:List (List UInt8)}(h:∀b∈L,b.length=256):L.flatten.length=256*L.length:=by
 induction L with
 | nil=>rfl
 | cons a l ih =>
   rw[List.flatten_cons,List.length_append,ih fun b hb=>h b (List.mem_cons_of_mem _ hb),h a (List.mem_cons_self ..),List.length_cons];omega
theorem Tr.Ok.bytes_len{S:Kor}{t:Tr}(h:Tr.Ok S 3 t):(dN t).length=16384:=by
 unfold dN;rw[L9,h.blocks_len]
 ·rw[h.blocks_eq]
  intro b hb;obtain⟨i,-,rfl⟩:=List.mem_map.1 hb;exact h.blk_len i
theorem Ma{w:World}{g o L c n:Nat}{b:List UInt8}(h:Rd w 1 (.slice (some ⟨g,o,none⟩) L c) b.length (b.map vb))(hL:b.length=L)(hn:n≤L){a:Option Addr}(ha:n<L->a=some ⟨g,o+n,none⟩)(hs:a≠none):Rd w 1 (.slice a (L-n) (c-n)) (b.drop n).length ((b.drop n).map vb):=by
 obtain⟨h0,a',c',e,h1,h2,h3,h4⟩:=h;cases e
 refine⟨by simp,a,c-n,by rw[List.length_drop,hL],by rw[List.length_drop];omega,by unfold maxLen at *;omega,fun e=>absurd e hs,fun hp=>?_⟩;rw[List.length_map,List.length_drop] at hp;obtain⟨g2,o2,e2,hc⟩:=h4 (by rw[List.length_map];omega);injection e2 with e2
 injection e2 with e2 e3
 subst e2 e3;refine⟨g,o+n,ha (by omega),fun j v hj=>?_⟩;have:=hc (n+j) v (by rw[List.getElem?_map] at hj ⊢;rw[List.getElem?_drop] at hj;exact hj)
 rwa [←Nat.add_assoc] at this
theorem Mb{w:World}{g o L c n:Nat}{b:List UInt8}(h:Rd w 1 (.slice (some ⟨g,o,none⟩) L c) b.length (b.map vb))(hL:b.length=L)(hn:n≤L):Rd w 1 (.slice (some ⟨g,o,none⟩) n n) (b.take n).length ((b.take n).map vb):=by
 obtain⟨h0,a',c',e,h1,h2,h3,h4⟩:=h;cases e
 have hl:(b.take n).length=n:=by rw[List.length_take];omega
 refine⟨by simp,some ⟨g,o,none⟩,n,by rw[hl],by rw[hl];exact Nat.le_refl _,by unfold maxLen at *;omega,(fun e=>by cases e),fun hp=>?_⟩;obtain⟨g2,o2,e2,hc⟩:=h4 (by rw[List.length_map] at *;omega);refine⟨g2,o2,e2,fun j v hj=>hc j v ?_⟩;rw[List.getElem?_map,List.getElem?_take] at hj;rw[List.getElem?_map];split at hj
 ·exact hj
 ·cases hj
theorem uW.keep{w w':World}{v:Value}{vs:List Value}{R:List (List UInt8)}(h:uW w v vs R)(k:aA aB w w'):uW w' v vs R:=
 ⟨h.row.keep k fun _ _=>id,fun j b hj=>(h.at_ j b hj).imp fun u hu=>⟨hu.1,hu.2.keep k fun _ _=>id⟩⟩
def iT(w:World)(t:Tr)(n:Nat)(e:Ending)(w':World):Prop:=
 if bZ ((dN t).drop n) then ∃v,e=.returned (.tuple #[v,.int .i64 0])/\Rd w' 1 v ((dN t).take n).length (((dN t).take n).map vb)/\mA w w' v/\aA aB w w'
 else e=.returned (.tuple #[.slice none 0 0,.int .i64 12])/\aA aB w w'
theorem Bf{w:World}{c:Nat}{S:Kor}{B:Nat->Prop}(hK:KI w c S B)(pv:Value)(t:Tr)(ht:Tr.Ok S 3 t)(hp:aQ w B pv t.ptr)(n:Nat)(hn:n≤16384):Calls Tryz.prog 15 #[.pointer (some ⟨c,0,none⟩),.agg (aE pv t.ptr).toArray,.int .i64 (n:Int)] w (iT w t n):=by
 have HT:=O ht;have HK:=O hK;have HPT:=O hp;have HBT:=O ht.bytes_len;have HCP:=O (by have:=hK.bd.c1;omega:¬((S.cp:Nat):Int)=0);obtain⟨p,hpe⟩:∃p,t.ptr=p:=⟨_,rfl⟩
 have HPE:=O hpe;rw[hpe] at HPT hp ⊢;obtain⟨pc,HPC,hpc,HOP⟩:=nmPt hp.pt;rw[HPC.out];have HL:=O (Loc.nil aB aB w);have hn0:¬((n:Int)<0):=by omega
 have hn1:¬((16384:Int)<(n:Int)):=by omega
 clear hp ht hK hpe;go_enter Tryz.func15,Tryz.ntmps15
 go_wp2_with ((with_reducible show WL _ _);refine bxL HL 35 (.tmp 1) (pc.toArray) ?_)
 intro b4 w1 hk HL;replace HPT:=O (aQ.keep0 HPT.out hk);replace HK:=O (KI.keep0 HK.out hk);clear hk;have hcp:=HCP.out;go_wp2_with fail;refine((KI.copies HK.out:Calls _ _ _ w1 (aF w1 (.int .i64 (S.cp:Int))))).mono ?_;rintro e w2 ⟨rfl,hk⟩;replace HL:=O (HL.out.keeps hk);replace HPT:=O (aQ.keep0 HPT.out hk);replace HK:=O (KI.keep0 HK.out hk);clear hk
 go_wp2_with ((with_reducible show WL _ _);refine wpList_load_mid rfl 35 (.tmp 4) rfl b4 0 rfl pc _ (aD (HL.out.b 0)) aJ rfl (szP9 hpc) ?_)
 refine((by rw[←HPC.out];exact kF w2 pv p HPT.out.pt (by rw[←HPE.out];exact HT.out.root):Calls _ _ _ w2 (aF w2 (.int .i64 0)))).mono ?_;rintro e w3 ⟨rfl,hk⟩;replace HL:=O (HL.out.keeps hk);replace HPT:=O (aQ.keep0 HPT.out hk);replace HK:=O (KI.keep0 HK.out hk);clear hk
 go_wp2_with ((with_reducible show WL _ _);refine wpList_load_mid rfl 35 (.tmp 4) rfl b4 0 rfl pc _ (aD (HL.out.b 0)) aJ rfl (szP9 hpc) ?_)
 refine((by rw[←HPC.out,←HPE.out];exact KB HK.out pv t HT.out (by rw[HPE.out];exact HPT.out):Calls _ _ _ w3 (xH w3 t))).mono ?_;rintro e w4 ⟨lv,vs,rfl,ho,hrb,hk⟩;have hbl:(t.blocks 3).length=64:=HT.out.blocks_len;rw[hbl] at ho;obtain⟨la,lc,rfl,-,-⟩:=(Rd.of_owns ho).form;have HRR:Hid (uW w4 (Value.slice la 64 lc) vs (t.blocks 3)):=O ⟨by rw[hbl];exact Rd.of_owns ho,fun j b hj=>(hrb.2 j b hj).imp fun u hu=>⟨hu.1,hu.2.1⟩⟩;have HBL64:=O hbl;clear ho hrb hbl;replace HL:=O (HL.out.keeps hk);replace HPT:=O (aQ.keep0 HPT.out hk);replace HK:=O (KI.keep0 HK.out hk);clear hk;go_wp2_with fail;have HSZ:=O HL.out.keep.size;refine((by exact F7 w4 (.slice la 64 lc) vs (t.blocks 3) HRR.out (by rw[HBL64.out];decide) (by rw[show (t.blocks 3).flatten.length=16384 from HBT.out];decide):Calls _ _ _ w4 (rD w4 (dN t)))).mono ?_;rintro e w5 ⟨bv,rfl,ho,hk⟩;rw[HBT.out] at ho
 obtain⟨g,cap,rfl,hcap⟩:∃g cap,bv=.slice (some ⟨g,0,none⟩) 16384 cap/\16384≤cap:=by
  rcases ho.2 with⟨-,h⟩|⟨g,cap,cur,h,-,-,h2,-⟩
  ·cases h
  ·exact⟨g,cap,h,h2⟩
 have HO:=O (Rd.of_owns ho);have HOG:=O (fun i (hi:(Value.slice (some ⟨g,0,none⟩) 16384 cap).ownBlock=some i)=>(by have:=aR ho hi;have:=HSZ.out;obtain⟨cur,hc⟩:=aL ho hi;exact⟨by omega,⟨_,_,hc⟩⟩:w.heap.size≤i/\IsC w5 i));clear ho HSZ;replace HL:=O (HL.out.keeps hk);replace HPT:=O (aQ.keep0 HPT.out hk);replace HK:=O (KI.keep0 HK.out hk);replace HRR:=O (uW.keep HRR.out hk);clear hk
 have HPF:Hid (bZ ((dN t).drop n)=true->∀w',aA aB w5 w'->iT w t n (.returned (.tuple #[.slice (some ⟨g,0,none⟩) n n,.int .i64 0])) w'):=O fun hz w' hk=>by
  unfold iT;rw[if_pos hz];refine⟨_,rfl,(Mb (by rw[HBT.out];exact HO.out) HBT.out hn).keep hk fun _ _=>id,fun i hi=>?_,HL.out.keep.trans hk⟩;have h:=HOG.out i hi;exact⟨h.1,h.2.keep hk id⟩
 have HPN:Hid (bZ ((dN t).drop n)=false->∀w',aA aB w5 w'->iT w t n (.returned (.tuple #[.slice none 0 0,.int .i64 12])) w'):=O fun hz w' hk=>by
  unfold iT;rw[hz,if_neg (by decide)];exact⟨rfl,HL.out.keep.trans hk⟩
 have HMK:=O (fun(a:Option Addr) (ha:n<16384->a=some ⟨g,0+n,none⟩) (hs:a≠none)=>(Ma (by rw[HBT.out];exact HO.out) HBT.out hn ha hs:Rd w5 1 (.slice a (16384-n) (cap-n)) ((dN t).drop n).length (((dN t).drop n).map vb)));have hn2:(n:Int)≤(cap:Int):=by omega
 clear HL HO HPT HK HRR;rcases Nat.lt_or_ge n cap with hnc|hnc
 ·have hnc2:¬cap=n:=by omega
  go_wp2_with fail;refine(fT w5 (.slice (some ⟨g,n,none⟩) (16384-n) (cap-n)) _ (by have h:=HMK.out (some ⟨g,n,none⟩) (fun _=>by rw[Nat.zero_add]) (by simp);exact h)).mono ?_;rintro e w9 ⟨rfl,hk9⟩;have HK9:=O hk9;cases hz:bZ ((dN t).drop n) with
  | true =>
    have HP:=O (HPF.out hz w9 HK9.out);clear hk9 hz;go_wp2_with fail
    go_ret2
    exact HP.out
  | false =>
    have HP:=O (HPN.out hz w9 HK9.out);clear hk9 hz;go_wp2_with fail
    go_ret2
    exact HP.out
 ·have hn16:¬n<16384:=by omega
  have HN16:=O hn16;obtain rfl:cap=n:=by omega
  rw[Nat.sub_self] at HMK;clear hn16 hcap;go_wp2_with fail;refine(fT w5 (.slice (some ⟨g,0,none⟩) (16384-cap) (0)) _ (by have h:=HMK.out (some ⟨g,0,none⟩) (fun h=>absurd h HN16.out) (by simp);exact h)).mono ?_;rintro e w9 ⟨rfl,hk9⟩;have HK9:=O hk9;cases hz:bZ ((dN t).drop cap) with
  | true =>
    have HP:=O (HPF.out hz w9 HK9.out);clear hk9 hz;go_wp2_with fail
    go_ret2
    exact HP.out
  | false =>
    have HP:=O (HPN.out hz w9 HK9.out);clear hk9 hz;go_wp2_with fail
    go_ret2
    exact HP.out
theorem Bg{w:World}{c:Nat}{S:Kor}{B:Nat->Prop}(hK:KI w c S B)(va:Option Addr)(m vc:Nat)(hm:16384<m):Calls Tryz.prog 9 #[.pointer (some ⟨c,0,none⟩),.slice va m vc] w (aF w (.tuple #[.agg (aE (.slice none 0 0) zPt).toArray,.int .i64 3])):=by
 have HK:=O hK;have HCP:=O (by have:=hK.bd.c1;omega:¬((S.cp:Nat):Int)=0);have hm1:(16384:Int)<(m:Int):=by omega
 have hzp:(aE (.slice none 0 0) zPt).length=35:=rfl;have hzb:=iJ;obtain⟨zp,hzpe⟩:∃l,aE (.slice none 0 0) zPt=l:=⟨_,rfl⟩
 have HOZP:Hid (∀u∈zp,u.oneCell'=true):=O (by rw[←hzpe];exact bR zPt);have HZPE:=O hzpe;rw[hzpe] at hzp hzb;have HZB:=O hzb;clear hzpe hzb;rw[HZPE.out];have HL:=O (Loc.nil aB aB w);clear hK hm
 go_enter_defers Tryz.func9,Tryz.ntmps9
 go_wp2_with ((with_reducible show WL _ _);refine alL HL 35 (.agg aK.toArray) (aK.toArray) bJ ?_)
 intro b4 w1 hk HL;replace HK:=O (KI.keep0 HK.out hk);clear hk
 go_wp2_with ((with_reducible show WL _ _);refine alL HL 27 (.int .i64 0) (#[.int .i64 0]) oH ?_)
 intro b5 w2 hk HL;replace HK:=O (KI.keep0 HK.out hk);clear hk;have hcp:=HCP.out;go_wp2_with fail;refine((KI.copies HK.out:Calls _ _ _ w2 (aF w2 (.int .i64 (S.cp:Int))))).mono ?_;rintro e w3 ⟨rfl,hk⟩;replace HL:=O (HL.out.keeps hk);replace HK:=O (KI.keep0 HK.out hk);clear hk
 go_wp2_with ((with_reducible show WL _ _);first
  | refine bld 35 #[] [] (.agg zp.toArray) HZB.out ?_
  | refine sta 35 (.tmp 4) (.tmp 15) b4 0 zp (HL.out.b 1) (by first|decide|(rw[hzp];exact Nat.le_refl _)|simp[hzp,aH]) (szP9 hzp) HOZP.out ?_)
 intro w4 hk hb;rw[aG _ _ (by first|rfl|simp[hzp,aH])] at hb;replace HL:=O (HL.out.set 1 hk hb);clear hk hb
 go_wp2_with ((with_reducible show WL _ _);refine sta 27 (.tmp 5) (.const (.int .i64 3)) b5 0 ([.int .i64 3]) (HL.out.b 0) (by simp) (by kernel_rfl) (one9) ?_)
 intro w5 hk hb;replace hb:w5.heap[b5]?=some (.cells #[.int .i64 3] 27 (0,0)):=hb;replace HL:=O (HL.out.set 0 hk hb);clear hk hb;have HB4:=O (HL.out.b 1);have HB5:=O (HL.out.b 0);have HP:=O (aF.of (v:=.tuple #[.agg zp.toArray,.int .i64 3]) HL.out.keep);have c7:=aC (i:=0) HB5.out rfl;clear HL;go_wp2_with fail;exact⟨_,gB rfl _ _ b4 _ _ _ _ rfl HB4.out aJ rfl (by rw[List.size_toArray,hzp];exact eB) ⟨b5,0,none⟩ (.int .i64 3) rfl (by go_simp),HP.out⟩
theorem F8{w:World}{c:Nat}{S:Kor}{B:Nat->Prop}(hK:KI w c S B)(pv:Value)(p:Pt)(hp:PtV w pv p)(hh:p.root=true)(n:Int)(hn:16384<n):Calls Tryz.prog 15 #[.pointer (some ⟨c,0,none⟩),.agg (aE pv p).toArray,.int .i64 n] w (aF w (.tuple #[.slice none 0 0,.int .i64 2])):=by
 have HK:=O hK;have HH:=O hh;have HCP:=O (by have:=hK.bd.c1;omega:¬((S.cp:Nat):Int)=0);have hn0:¬n<0:=by omega
 have hpc:=aO (v:=pv) hp.sum;have HOP0:=bM hp;obtain⟨pc,hpce⟩:∃l,aE pv p=l:=⟨_,rfl⟩
 have HOP:Hid (∀u∈pc,u.oneCell'=true):=O (by rw[←hpce];exact HOP0);have HPC:=O hpce;rw[hpce] at hpc ⊢;have HPT:=O hp;clear HOP0 hpce hp;clear hK hh;have HL:=O (Loc.nil aB aB w);go_enter Tryz.func15,Tryz.ntmps15
 go_wp2_with ((with_reducible show WL _ _);refine bxL HL 35 (.tmp 1) (pc.toArray) ?_)
 intro b4 w1 hk HL;replace HK:=O (KI.keep0 HK.out hk);replace HPT:=O (HPT.out.keep hk fun _ _=>id);clear hk;have hcp:=HCP.out;go_wp2_with fail;refine((KI.copies HK.out:Calls _ _ _ w1 (aF w1 (.int .i64 (S.cp:Int))))).mono ?_;rintro e w2 ⟨rfl,hk⟩;replace HL:=O (HL.out.keeps hk);replace HK:=O (KI.keep0 HK.out hk);replace HPT:=O (HPT.out.keep hk fun _ _=>id);clear hk
 go_wp2_with ((with_reducible show WL _ _);refine wpList_load_mid rfl 35 (.tmp 4) rfl b4 0 rfl pc _ (aD (HL.out.b 0)) aJ rfl (szP9 hpc) ?_)
 refine((by rw[←HPC.out];exact kF w2 pv p HPT.out HH.out:Calls _ _ _ w2 (aF w2 (.int .i64 0)))).mono ?_;rintro e w3 ⟨rfl,hk⟩;replace HL:=O (HL.out.keeps hk);replace HK:=O (KI.keep0 HK.out hk);replace HPT:=O (HPT.out.keep hk fun _ _=>id);clear hk;go_wp2_with fail
 go_ret2
 exact aF.of HL.out.keep
theorem IP{w:World}{c:Nat}{S:Kor}{B:Nat->Prop}(hK:KI w c S B)(pv:Value)(p:Pt)(hp:PtV w pv p)(hh:p.hole=false)(hm:p.may=true)(hl:¬p.level=3)(n:Int):Calls Tryz.prog 15 #[.pointer (some ⟨c,0,none⟩),.agg (aE pv p).toArray,.int .i64 n] w (aF w (.tuple #[.slice none 0 0,.int .i64 2])):=by
 have HK:=O hK;have HH:=O hh;have HM:=O hm;have HLV:=O hl;have HCP:=O (by have:=hK.bd.c1;omega:¬((S.cp:Nat):Int)=0);have hpc:=aO (v:=pv) hp.sum;have HOP0:=bM hp;obtain⟨pc,hpce⟩:∃l,aE pv p=l:=⟨_,rfl⟩
 have HOP:Hid (∀u∈pc,u.oneCell'=true):=O (by rw[←hpce];exact HOP0);have HPC:=O hpce;rw[hpce] at hpc ⊢;have HPT:=O hp;clear HOP0 hpce hp;clear hK hh hm hl;have HL:=O (Loc.nil aB aB w);go_enter Tryz.func15,Tryz.ntmps15
 go_wp2_with ((with_reducible show WL _ _);refine bxL HL 35 (.tmp 1) (pc.toArray) ?_)
 intro b4 w1 hk HL;replace HK:=O (KI.keep0 HK.out hk);replace HPT:=O (HPT.out.keep hk fun _ _=>id);clear hk;have hcp:=HCP.out;go_wp2_with fail;refine((KI.copies HK.out:Calls _ _ _ w1 (aF w1 (.int .i64 (S.cp:Int))))).mono ?_;rintro e w2 ⟨rfl,hk⟩;replace HL:=O (HL.out.keeps hk);replace HK:=O (KI.keep0 HK.out hk);replace HPT:=O (HPT.out.keep hk fun _ _=>id);clear hk
 go_wp2_with ((with_reducible show WL _ _);refine wpList_load_mid rfl 35 (.tmp 4) rfl b4 0 rfl pc _ (aD (HL.out.b 0)) aJ rfl (szP9 hpc) ?_)
 refine((by rw[←HPC.out];exact FQ w2 pv p HPT.out HH.out HM.out HLV.out:Calls _ _ _ w2 (aF w2 (.int .i64 2)))).mono ?_;rintro e w3 ⟨rfl,hk⟩;replace HL:=O (HL.out.keeps hk);replace HK:=O (KI.keep0 HK.out hk);replace HPT:=O (HPT.out.keep hk fun _ _=>id);clear hk;go_wp2_with fail
 go_ret2
 exact aF.of HL.out.keep
theorem Nh:Hid (∀w,(zeroValue 60).run Tryz.prog w=.ok (.slice none 0 0) w):=O fun w=>by kernel_rfl
theorem vV:∀{l:Nat}{b:List UInt8},aZ l b+1≤2*4 ^ l
 | 0,b=>by unfold aZ;split<;>simp
 | l+1,b=>by
   have h:=fun i=>vV (l:=l) (b:=bG l b i)
   have h0:=h 0;have h1:=h 1;have h2:=h 2;have h3:=h 3;unfold aZ;rw[Nat.pow_succ];have hp:1≤4 ^ l:=Nat.pos_of_ne_zero (by simp);split<;>omega
theorem Di{l:Nat}(hl:l≤3)(b:List UInt8):aZ l b≤127:=by
 have h:=vV (l:=l) (b:=b);have:4 ^ l≤4 ^ 3:=Nat.pow_le_pow_right (by omega) hl;omega
theorem Bh{l:Nat}(hl:l≤2)(b:List UInt8):∀k,k≤4->eG l b k≤127*k
 | 0,_=>Nat.zero_le _
 | k+1,h=>by
   have h1:=Bh hl b k (by omega);have h2:=Di (show l≤3 by omega) (bG l b k);show eG l b k+aZ l (bG l b k)≤_;omega
def sD(l:Nat):Prop:=∀{w:World}(vv:Value) (bs:List UInt8) (_:bs.length=256*4 ^ l) (_:Rd w 1 vv bs.length (bs.map vb)),Calls Tryz.prog 20 #[vv,.int .i64 (l:Int)] w (aF w (.int .i64 (aZ l bs:Int)))
theorem Bi{l:Nat}(H:sD l)(hl:l≤3){w:World}(vv:Value)(bs:List UInt8)(hbl:bs.length=256*4 ^ l)(hr:Rd w 1 vv bs.length (bs.map vb)){b2:Nat}(hb2:w.heap[b2]?=some (.cells #[.int .i64 ((l+1:Nat):Int)] 3 (0,0))):Calls Tryz.prog 47 #[vv,.pointer (some ⟨b2,0,none⟩)] w (aF w (.int .i64 (aZ l bs:Int))):=by
 have HH:Hid (sD l):=O H;have HC:=O (HH.out vv bs hbl hr);have hw64:IntKind.i64.wrap ((l:Int)+1-1)=(l:Int):=by rw[Int.add_sub_cancel];exact IntWalk.i64_in _ (by omega)
 obtain⟨va,vc,rfl,-,-⟩:=hr.form;have c2:w.cell? ⟨b2,0,none⟩=some (.int .i64 ((l:Int)+1)):=(cell_of_one hb2).trans (by rw[Int.natCast_succ]);obtain⟨q,hq⟩:∃q,aZ l bs=q:=⟨_,rfl⟩
 rw[hq] at HC ⊢;clear hr hbl hb2 H HH hq;go_enter Tryz.func47,Tryz.ntmps47;go_wp2_with fail;refine HC.out.mono ?_;rintro e w1 ⟨rfl,hk⟩;have HK:=O hk;clear hk c2;go_wp2_with fail;go_ret;exact⟨rfl,HK.out⟩
def jU(l:Nat)(bs:List UInt8)(k:Nat):List Value:=(List.range k).map fun i=>.int .i64 (aZ l (bG l bs i):Int)
theorem F9(l:Nat)(bs:List UInt8)(k:Nat):jU l bs (k+1)=jU l bs k++[.int .i64 (aZ l (bG l bs k):Int)]:=by unfold jU;rw[List.range_succ,List.map_append];rfl
def NdI(w0:World)(N0 l:Nat)(bs:List UInt8)(bo b3:Nat)(cl:Array Value×TypeId)(k:Nat)(W:World):Prop:=
 W.heap[b3]?=some (.cells cl.1 cl.2 (0,0))/\∃v,W.heap[bo]?=some (.cells #[v] 60 (0,0))/\W.ownsRow N0 3 1 v k (jU l bs k)/\(w0.heap.size≤N0/\N0≤W.heap.size)/\aA aB w0 W
theorem NdI.keep0{w0 W W':World}{N0 l:Nat}{bs:List UInt8}{bo b3 k:Nat}{cl:Array Value×TypeId}(h:NdI w0 N0 l bs bo b3 cl k W)(hk:aA aB W W'):NdI w0 N0 l bs bo b3 cl k W':=by
 obtain⟨h0,v,h1,h2,h3,h4⟩:=h;exact⟨hk.blk h0 id,v,hk.blk h1 id,hk.owns h2 fun _ _=>id,⟨h3.1,Nat.le_trans h3.2 hk.size⟩,h4.trans hk⟩
theorem NdI.put{w0 W:World}{N0 l:Nat}{bs:List UInt8}{bo b3 k:Nat}{cl:Array Value×TypeId}(h:NdI w0 N0 l bs bo b3 cl k W){j:Nat}{o:Obj}(hj:N0≤j)(ho:W.heap[j]?=some o)(hc:o.isCells=false)(o':Obj):NdI w0 N0 l bs bo b3 cl k (W.putObj j o'):=by
 obtain⟨h0,v,h1,h2,h3,h4⟩:=h;have kd:aA (fun i=>some j=some i) W (W.putObj j o'):=aA.of_grown (grownBy_putObj' W j o');refine⟨kd.blk h0 (fun e=>by injection e with e;exact pG ho hc ⟨_,_,h0⟩ e),v,kd.blk h1 (fun e=>by injection e with e;exact pG ho hc ⟨_,_,h1⟩ e),kd.owns h2 fun i hi e=>?_,⟨h3.1,Nat.le_trans h3.2 kd.size⟩,h4.trans' kd (fun _ _ h=>h) fun i hi e=>by injection e with e;omega⟩;injection e with e
 obtain⟨cur,hcu⟩:=aL h2 hi;exact pG ho hc ⟨_,_,hcu⟩ e
theorem NdI.step{w0 W w4 w8 w9:World}{N0 l:Nat}{bs:List UInt8}{bo b3 k:Nat}{cl:Array Value×TypeId}{v v2:Value}(h0:W.heap[b3]?=some (.cells cl.1 cl.2 (0,0)))(h2:W.ownsRow N0 3 1 v k (jU l bs k))(h3:w0.heap.size≤N0/\N0≤W.heap.size)(h4:aA aB w0 W)(hbo:(bo<N0/\w0.heap.size≤bo)/\b3<N0/\b3≠bo)
 (kd:aA aB W w4) (k8:aA (fun i=>v.ownBlock=some i) w4 w8) (ho8:w8.ownsRow N0 3 1 v2 (k+1) (jU l bs k++[.int .i64 (aZ l (bG l bs k):Int)])) (k9:aA (fun i=>i=bo) w8 w9) (h9:w9.heap[bo]?=some (.cells #[v2] 60 (0,0))) :
 NdI w0 N0 l bs bo b3 cl (k+1) w9/\KpN N0 W w9/\KpC (fun i=>i=bo\/N0≤i) W w9:=by
 have kW:aA (fun i=>v.ownBlock=some i\/i=bo) W w9:=(kd.any.trans k8).trans' k9 (fun _ _ h=>.inl h) (fun _ _ h=>.inr h);refine⟨⟨kW.blk h0 (fun e=>e.elim (fun e=>by have:=aR h2 e;omega) fun e=>hbo.2.2 e),v2,h9,?_,⟨h3.1,Nat.le_trans h3.2 kW.size⟩,h4.trans' kW (fun _ _ h=>h) fun i hi e=>e.elim (fun e=>by have:=aR h2 e;omega) fun e=>by omega⟩,KpN.of kW ?_,KpC.of kW fun i e=>e.elim (fun e=>.inr (aR h2 e)) .inl⟩
 ·rw[F9]
  exact k9.owns ho8 fun i hi e=>by have:=aR ho8 hi;omega
 ·intro i o e hn ho
  rcases e with e|e
  ·obtain⟨cur,hc⟩:=aL h2 e
   rw[hc] at ho;cases ho;rfl
  ·omega
def Dj(w:World)(l:Nat)(bs:List UInt8)(e:Ending)(w':World):Prop:=∃v,e=.returned v/\w'.ownsRow w.heap.size 3 1 v 4 (jU l bs 4)/\aA aB w w'
theorem D3{l:Nat}(H:sD l)(hl:l≤2){w:World}(vv:Value)(bs:List UInt8)(hbl:bs.length=256*4 ^ (l+1))(hr:Rd w 1 vv bs.length (bs.map vb)){b2:Nat}(hb2:w.heap[b2]?=some (.cells #[.int .i64 ((l+1:Nat):Int)] 3 (0,0))):Calls Tryz.prog 46 #[vv,.func (.func 47) #[] #[.pointer (some ⟨b2,0,none⟩)]] w (Dj w l bs):=by
 have HH:Hid (sD l):=O H;have HB2:=O hb2;obtain⟨q,hq⟩:∃q,256*4 ^ l=q:=⟨_,rfl⟩
 have hq1:1≤q:=by rw[←hq];exact Nat.mul_pos (by omega) (Nat.pos_of_ne_zero (by simp))
 have hq2:q≤4096:=by rw[←hq];exact Nat.mul_le_mul_left 256 (Nat.pow_le_pow_right (by omega) hl:4 ^ l≤4 ^ 2)
 obtain⟨L,hL⟩:∃L,bs.length=L:=⟨_,rfl⟩
 have hL4:L=4*q:=by rw[←hL,hbl,←hq,Nat.pow_succ];omega
 have HBL:=O hbl;have HQ:=O hq;have HL4:=O hL4;obtain⟨va,cap,rfl,hcap,hrd⟩:=wQ hr;obtain⟨g,o,rfl,hra⟩:=hrd (by omega);rw[hL] at hcap ⊢;have HCAP:=O hcap;have HRA:=O hra;have hdiv:(L:Int).tdiv 4=(q:Int):=by rw[hL4,Int.tdiv_eq_ediv_of_nonneg (by omega)];omega
 have hLL:L≤16384:=by omega
 have HL:=O (Loc.nil aB aB w);clear hr hbl hb2 H hrd hra hL hq hL4;refine sP Tryz.func46 rfl ?_;simp only[Tryz.ntmps46,List.size_toArray,List.length_cons,List.length_nil,Nat.reduceAdd,Nat.reduceSub,Array.replicate_succ,Array.replicate_zero,List.push_toArray,List.append_toArray,List.nil_append,List.cons_append];refine lS ?_
 go_wp2_with ((with_reducible show WL _ _);refine bxL HL 97 (.tmp 1) (#[.func (.func 47) #[] #[.pointer (some ⟨b2,0,none⟩)]]) ?_)
 intro b3 w1 hk HL;clear hk;go_wp2_with fail;refine lS ?_
 go_wp2_with ((with_reducible show WL _ _);refine alL HL 60 (.slice none 0 0) (#[.slice none 0 0]) Nh ?_)
 intro b5 w2 hk HL;clear hk;go_wp2_with fail;refine yB ?_;refine lS ?_;have HB5W:=O (HL.out.lt 0).2;go_wp2_with fail;have HLW:=O HL.out.keep;refine(zC (.slice (some ⟨g,o,none⟩) L cap) w2 q hq1 ⟨_,_,_,rfl⟩).mono ?_;rintro e w3 ⟨B1,B2,rfl,hc1,hc2,hn1,hn2,hk⟩;have HC1:=O hc1;have HC2:=O hc2;have HCN:=O (And.intro hn1 hn2);clear hc1 hc2 hn1 hn2;replace HL:=O (HL.out.keeps hk);clear hk;go_wp2_with fail;have hb3l:=HL.out.lt 1;have hb5l:=HL.out.lt 0;have h35:b3≠b5:=cH HL.out.nd (i:=0) rfl 1 (by decide) rfl;have hlw2:=HLW.out.size;have hcn:=HCN.out;have HG:=O (And.intro (show w.heap.size≤b3/\b3<w3.heap.size by omega) (And.intro (show w.heap.size≤b5/\b5<w3.heap.size by omega) (show w.heap.size≤w3.heap.size by have:=HL.out.keep.size;omega)));have HKW:=O HL.out.keep;have H3:=O (HL.out.b 1)
 have HR12:Hid (¬(B1=b5\/w3.heap.size≤B1)/\¬(B2=b5\/w3.heap.size≤B2)):=O (by
  have a1:=lt_of_block HC1.out;have a2:=lt_of_block HC2.out;have b5l2:=HB5W.out;constructor<;>rintro (e|e)<;>omega)
 have HCH:=vT (Res:=fun i=>i=b5\/w3.heap.size≤i) HL4.out hq1 HCAP.out.1 HCAP.out.2 HC1.out HC2.out HR12.out.1 HR12.out.2;have HI0:Hid (∀W,aA aB w3 W->NdI w w3.heap.size l bs b5 b3 (#[.func (.func 47) #[] #[.pointer (some ⟨b2,0,none⟩)]],97) 0 W):=O fun W hk=>⟨hk.blk H3.out id,.slice none 0 0,hk.blk (HL.out.b 0) id,World.ownsRow_nil _ _ _ _,⟨HG.out.2.2,hk.size⟩,HKW.out.trans hk⟩
 clear hb3l hb5l hlw2 hcn;refine yC ?_;refine oX (Res:=fun i=>i=b5\/w3.heap.size≤i) Tryz.func46 (gf:=142) rfl (enters_of Tryz.func142 (by kernel_rfl) rfl) (N:=4) (encs:=uV g o q) HCH (fun _=>rfl) (NdI w w3.heap.size l bs b5 b3 (#[.func (.func 47) #[] #[.pointer (some ⟨b2,0,none⟩)]],97)) (fun _ _=>False) HI0.out (fun k W W' h hk=>h.keep0 hk) (fun k W l o hl h ho hc o'=>h.put hl ho hc o') ?round ?done (fun _ _ _ _ h _=>h.elim)
 case done =>
  rintro D W hD hI hDd;obtain⟨-,v,h2,h3,h9,h10⟩:=hI;have hwd:=HG.out.2.2;have kd:=aA.of_grown (grownBy_putObj' W D (.deferred none));have no:=fun {i:Nat}(h:IsC W i)=>KZ hDd rfl h
  have HP:Hid (Dj w l bs (.returned v) (W.putObj D (.deferred none))):=O ⟨v,rfl,aP (kd.owns h3 fun i hi e=>(by obtain⟨cur,hc⟩:=aL h3 hi;exact no ⟨_,_,hc⟩ e)) hwd,h10.trans' kd (fun _ _ h=>h) fun i hi e=>by injection e with e;omega⟩;have HDD:=O hDd;have c5:=cell_of_one h2;clear kd no h2 h3 h9 h10 hDd HCH;go_wp2_with fail;exact⟨by simp,.inl ⟨_,_,rfl,run_takeDeferred HDD.out,⟨v,(results_tmp (t:=4) rfl _ _ _).trans (by rfl),HP.out⟩⟩⟩
 case round =>
  intro l' k W1 hk4 hI hl';have HI:=O hI;have HL':=O hl';clear hI hl' HCH;unfold uV;rw[Be];simp only[List.setIfInBounds_toArray,List.set_cons_zero,List.set_cons_succ];refine eF (by kernel_rfl) (fun ⟨_,_,h⟩=>h) ?_;go_wp2_with fail;refine⟨KpN.of (aA.refl aB _) (fun _ _ h=>h.elim),KpC.of (aA.refl aB _) (fun _ h=>h.elim),fun o9 o' hoo hoc=>?_⟩;have HIV:=O (HI.out.put (Nat.le_of_lt HL'.out) hoo hoc o');clear hoo hoc HI;generalize World.putObj W1 l' o'=V at HIV ⊢;refine wpIn_block ?_;obtain⟨h0,v,h2,h3,h9,h10⟩:=HIV.out;have H0:=O h0;have H2:=O h2;have H3v:=O h3;have H9:=O h9;have H10:=O h10;have HX2:=O (H10.out.blk HB2.out id);have HP0:=O (Bc (k:=k) HBL.out HQ.out hk4 hq2 (H10.out.rangeAt HRA.out));clear h0 h2 h3 h9 h10 HIV;obtain⟨pc,hpc⟩:∃x,(Value.slice (some ⟨g,o+k*q,none⟩) q q)=x:=⟨_,rfl⟩
  rw[hpc] at HP0 ⊢;have hkd:=(aA.refl aB V).drew;refine lB (by kernel_rfl) (by kernel_rfl) (fun ⟨_,_,h⟩=>h) (wpAny_of_held (S:=fun w'=>w'.heap[b3]?=some (.cells #[.func (.func 47) #[] #[.pointer (some ⟨b2,0,none⟩)]] 97 (0,0))) _ _ _ _ ?_);change wpAnyH _ _ _ _ _ _ _ _ V.drew;have hS:V.drew.heap[b3]?=some (.cells #[.func (.func 47) #[] #[.pointer (some ⟨b2,0,none⟩)]] 97 (0,0)):=hkd.blk H0.out id;have HKD:=O hkd;generalize V.drew=wd at hS HKD ⊢;clear hkd;have H2:=O (HKD.out.blk H2.out id);have H3w:=O (HKD.out.owns H3v.out fun _ _=>id);replace HX2:=O (HKD.out.blk HX2.out id);replace HP0:=O (HP0.out.keep HKD.out fun _ _=>id);have HVW:=O (fun i (hi:v.ownBlock=some i)=>(by obtain⟨cur,hc⟩:=aL H3v.out hi;have:=lt_of_block hc;have:=HKD.out.size;exact⟨aR H3v.out hi,by omega⟩:w3.heap.size≤i/\i<wd.heap.size));have HVS:=O (Nat.le_trans H9.out.2 HKD.out.size);obtain⟨nq,hnq⟩:∃x,aZ l (bG l bs k)=x:=⟨_,rfl⟩
  have HNQ:=O hnq;refine tnd 1 (.func (.func 47) #[] #[.pointer (some ⟨b2,0,none⟩)]) rfl (.inl ⟨by rfl,fun w' hw'=>by have c:World.cell? w' ⟨b3,0,none⟩=some (.func (.func 47) #[] #[.pointer (some ⟨b2,0,none⟩)]):=cell_of_one hw';go_simp⟩) hS ?_;refine tna 2 pc rfl hS ?_;refine fN (k:=0) (l:=3) rfl rfl (by kernel_rfl) ?_ ?_
  ·have c5:wd.cell? ⟨b5,0,none⟩=some v:=cell_of_one H2.out
   go_wp2_with fail;clear c5
   try refine⟨hS,?_⟩
   refine wA9 3 ?_;go_wp2_with fail;refine((by rw[←HNQ.out];exact Bi HH.out (by omega) pc (bG l bs k) (gL HBL.out hk4) HP0.out HX2.out:Calls _ _ _ wd (aF wd (.int .i64 (nq:Int))))).mono ?_;rintro e wc ⟨rfl,hk⟩;have HK3:=O hk;have H2c:=O (hk.blk H2.out id);have hSc:wc.heap[b3]?=some (.cells #[.func (.func 47) #[] #[.pointer (some ⟨b2,0,none⟩)]] 97 (0,0)):=hk.blk hS id;have H3c:=O (hk.owns H3w.out fun _ _=>id);clear hk;go_wp2_with fail;refine⟨hSc,?_⟩;refine wA9 4 ?_;refine bs1 60 3 (.tmp 16) (.int .i64 (nq:Int)) (by kernel_rfl) (by kernel_rfl) Tryz.underlying60 rfl ?_;intro bx we hbs hke hbe;have HRN:Hid (Rd we 1 (.slice (some ⟨bx,0,none⟩) 1 1) 1 [.int .i64 (nq:Int)]):=O (cG (n:=1) (size:=1) hbe rfl (by unfold maxLen;omega));have H3e:=O (hke.owns H3c.out fun _ _=>id);have H2e:=O (hke.blk H2c.out id);have hSe:we.heap[b3]?=some (.cells #[.func (.func 47) #[] #[.pointer (some ⟨b2,0,none⟩)]] 97 (0,0)):=hke.blk hSc id;have HKE:=O hke;clear hbe hke hbs;refine wpList_nil ?_;refine⟨hSe,?_⟩;refine wA9 5 ?_;refine aI rfl (.tmp 13) (.tmp 17) 60 rfl w3.heap.size 3 (.int .i64 0) 1 8 Tryz.underlying60 rW rfl (by decide) v k (jU l bs k) rfl H3e.out (.slice (some ⟨bx,0,none⟩) 1 1) 1 [.int .i64 (nq:Int)] rfl HRN.out (by intro u hu;rcases List.mem_singleton.1 hu with rfl;rfl) (by unfold maxLen;omega) (by omega) (by have:=HKE.out.size;have:=HK3.out.size;have:=HVS.out;omega) ?_;intro v2 w8 ho5 hk5 hn5 hb5;obtain⟨g2,c2,rfl,-,-⟩:=(Rd.of_owns ho5).form;have HO5:=O ho5;have HK5:=O hk5;have HBO8:=O (hk5.blk H2e.out (fun e=>by have:=HVW.out _ e;have:=HG.out;omega));have hS8:w8.heap[b3]?=some (.cells #[.func (.func 47) #[] #[.pointer (some ⟨b2,0,none⟩)]] 97 (0,0)):=hk5.blk hSe (fun e=>by have:=HVW.out _ e;have:=HG.out;omega);clear ho5 hk5 hn5 hb5 HRN;refine wpList_nil ?_;refine⟨hS8,?_⟩;refine wA9 6 ?_;refine sta 60 (.tmp 5) (.tmp 18) b5 0 [.slice g2 (k+1) c2] HBO8.out (by simp) (by kernel_rfl) (one9) ?_;intro w9 hk hb;replace hb:w9.heap[b5]?=some (.cells #[.slice g2 (k+1) c2] 60 (0,0)):=hb;have hS9:w9.heap[b3]?=some (.cells #[.func (.func 47) #[] #[.pointer (some ⟨b2,0,none⟩)]] 97 (0,0)):=hk.blk hS8 h35;refine wpList_nil ?_;refine⟨hS9,?_⟩;refine wpAnyH_done (by kernel_rfl) ?_ _;have h:=NdI.step (b3:=b3) (cl:=(#[.func (.func 47) #[] #[.pointer (some ⟨b2,0,none⟩)]],97)) H0.out H3v.out H9.out H10.out (And.intro (And.intro HG.out.2.1.2 HG.out.2.1.1) (And.intro HG.out.1.2 h35)) ((HKD.out.trans HK3.out).trans HKE.out) HK5.out (by rw[HNQ.out];exact HO5.out) hk hb;exact⟨h.2.1,h.2.2,h.1⟩
  ·go_wp2_with fail
   refine((by rw[←HNQ.out];exact Bi HH.out (by omega) pc (bG l bs k) (gL HBL.out hk4) HP0.out HX2.out:Calls _ _ _ wd (aF wd (.int .i64 (nq:Int))))).mono ?_;rintro e wc ⟨rfl,hk⟩;have HK3:=O hk;have H2c:=O (hk.blk H2.out id);have hSc:wc.heap[b3]?=some (.cells #[.func (.func 47) #[] #[.pointer (some ⟨b2,0,none⟩)]] 97 (0,0)):=hk.blk hS id;have H3c:=O (hk.owns H3w.out fun _ _=>id);clear hk;go_wp2_with fail;refine⟨hSc,?_⟩;refine fN (k:=0) (l:=4) rfl rfl (by kernel_rfl) ?_ ?_
   ·have c5:wc.cell? ⟨b5,0,none⟩=some v:=cell_of_one H2c.out
    go_wp2_with fail;clear c5
    try refine⟨hSc,?_⟩
    refine wA9 4 ?_;refine bs1 60 3 (.tmp 16) (.int .i64 (nq:Int)) (by kernel_rfl) (by kernel_rfl) Tryz.underlying60 rfl ?_;intro bx we hbs hke hbe;have HRN:Hid (Rd we 1 (.slice (some ⟨bx,0,none⟩) 1 1) 1 [.int .i64 (nq:Int)]):=O (cG (n:=1) (size:=1) hbe rfl (by unfold maxLen;omega));have H3e:=O (hke.owns H3c.out fun _ _=>id);have H2e:=O (hke.blk H2c.out id);have hSe:we.heap[b3]?=some (.cells #[.func (.func 47) #[] #[.pointer (some ⟨b2,0,none⟩)]] 97 (0,0)):=hke.blk hSc id;have HKE:=O hke;clear hbe hke hbs;refine wpList_nil ?_;refine⟨hSe,?_⟩;refine wA9 5 ?_;refine aI rfl (.tmp 13) (.tmp 17) 60 rfl w3.heap.size 3 (.int .i64 0) 1 8 Tryz.underlying60 rW rfl (by decide) v k (jU l bs k) rfl H3e.out (.slice (some ⟨bx,0,none⟩) 1 1) 1 [.int .i64 (nq:Int)] rfl HRN.out (by intro u hu;rcases List.mem_singleton.1 hu with rfl;rfl) (by unfold maxLen;omega) (by omega) (by have:=HKE.out.size;have:=HK3.out.size;have:=HVS.out;omega) ?_;intro v2 w8 ho5 hk5 hn5 hb5;obtain⟨g2,c2,rfl,-,-⟩:=(Rd.of_owns ho5).form;have HO5:=O ho5;have HK5:=O hk5;have HBO8:=O (hk5.blk H2e.out (fun e=>by have:=HVW.out _ e;have:=HG.out;omega));have hS8:w8.heap[b3]?=some (.cells #[.func (.func 47) #[] #[.pointer (some ⟨b2,0,none⟩)]] 97 (0,0)):=hk5.blk hSe (fun e=>by have:=HVW.out _ e;have:=HG.out;omega);clear ho5 hk5 hn5 hb5 HRN;refine wpList_nil ?_;refine⟨hS8,?_⟩;refine wA9 6 ?_;refine sta 60 (.tmp 5) (.tmp 18) b5 0 [.slice g2 (k+1) c2] HBO8.out (by simp) (by kernel_rfl) (one9) ?_;intro w9 hk hb;replace hb:w9.heap[b5]?=some (.cells #[.slice g2 (k+1) c2] 60 (0,0)):=hb;have hS9:w9.heap[b3]?=some (.cells #[.func (.func 47) #[] #[.pointer (some ⟨b2,0,none⟩)]] 97 (0,0)):=hk.blk hS8 h35;refine wpList_nil ?_;refine⟨hS9,?_⟩;refine wpAnyH_done (by kernel_rfl) ?_ _;have h:=NdI.step (b3:=b3) (cl:=(#[.func (.func 47) #[] #[.pointer (some ⟨b2,0,none⟩)]],97)) H0.out H3v.out H9.out H10.out (And.intro (And.intro HG.out.2.1.2 HG.out.2.1.1) (And.intro HG.out.1.2 h35)) ((HKD.out.trans HK3.out).trans HKE.out) HK5.out (by rw[HNQ.out];exact HO5.out) hk hb;exact⟨h.2.1,h.2.2,h.1⟩
   ·refine bs1 60 3 (.tmp 16) (.int .i64 (nq:Int)) (by kernel_rfl) (by kernel_rfl) Tryz.underlying60 rfl ?_
    intro bx we hbs hke hbe;have HRN:Hid (Rd we 1 (.slice (some ⟨bx,0,none⟩) 1 1) 1 [.int .i64 (nq:Int)]):=O (cG (n:=1) (size:=1) hbe rfl (by unfold maxLen;omega));have H3e:=O (hke.owns H3c.out fun _ _=>id);have H2e:=O (hke.blk H2c.out id);have hSe:we.heap[b3]?=some (.cells #[.func (.func 47) #[] #[.pointer (some ⟨b2,0,none⟩)]] 97 (0,0)):=hke.blk hSc id;have HKE:=O hke;clear hbe hke hbs;refine wpList_nil ?_;refine⟨hSe,?_⟩;refine wA9 0 ?_;have c5:we.cell? ⟨b5,0,none⟩=some v:=cell_of_one H2e.out;go_wp2_with fail;clear c5
    try refine⟨hSe,?_⟩
    refine wA9 5 ?_;refine aI rfl (.tmp 13) (.tmp 17) 60 rfl w3.heap.size 3 (.int .i64 0) 1 8 Tryz.underlying60 rW rfl (by decide) v k (jU l bs k) rfl H3e.out (.slice (some ⟨bx,0,none⟩) 1 1) 1 [.int .i64 (nq:Int)] rfl HRN.out (by intro u hu;rcases List.mem_singleton.1 hu with rfl;rfl) (by unfold maxLen;omega) (by omega) (by have:=HKE.out.size;have:=HK3.out.size;have:=HVS.out;omega) ?_;intro v2 w8 ho5 hk5 hn5 hb5;obtain⟨g2,c2,rfl,-,-⟩:=(Rd.of_owns ho5).form;have HO5:=O ho5;have HK5:=O hk5;have HBO8:=O (hk5.blk H2e.out (fun e=>by have:=HVW.out _ e;have:=HG.out;omega));have hS8:w8.heap[b3]?=some (.cells #[.func (.func 47) #[] #[.pointer (some ⟨b2,0,none⟩)]] 97 (0,0)):=hk5.blk hSe (fun e=>by have:=HVW.out _ e;have:=HG.out;omega);clear ho5 hk5 hn5 hb5 HRN;refine wpList_nil ?_;refine⟨hS8,?_⟩;refine wA9 6 ?_;refine sta 60 (.tmp 5) (.tmp 18) b5 0 [.slice g2 (k+1) c2] HBO8.out (by simp) (by kernel_rfl) (one9) ?_;intro w9 hk hb;replace hb:w9.heap[b5]?=some (.cells #[.slice g2 (k+1) c2] 60 (0,0)):=hb;have hS9:w9.heap[b3]?=some (.cells #[.func (.func 47) #[] #[.pointer (some ⟨b2,0,none⟩)]] 97 (0,0)):=hk.blk hS8 h35;refine wpList_nil ?_;refine⟨hS9,?_⟩;refine wpAnyH_done (by kernel_rfl) ?_ _;have h:=NdI.step (b3:=b3) (cl:=(#[.func (.func 47) #[] #[.pointer (some ⟨b2,0,none⟩)]],97)) H0.out H3v.out H9.out H10.out (And.intro (And.intro HG.out.2.1.2 HG.out.2.1.1) (And.intro HG.out.1.2 h35)) ((HKD.out.trans HK3.out).trans HKE.out) HK5.out (by rw[HNQ.out];exact HO5.out) hk hb;exact⟨h.2.1,h.2.2,h.1⟩
theorem uK{w:World}(vv:Value)(bs:List UInt8)(hr:Rd w 1 vv bs.length (bs.map vb))(l:Nat)(hz:bZ bs=true):Calls Tryz.prog 20 #[vv,.int .i64 (l:Int)] w (aF w (.int .i64 0)):=by
 have HR:=O hr;have HAZ:=O hz;obtain⟨va,vc,rfl,-,-⟩:=hr.form;obtain⟨m,hmm⟩:∃m,bs.length=m:=⟨_,rfl⟩
 have HMM:=O hmm;rw[hmm] at HR ⊢;have HL:=O (Loc.nil aB aB w);clear hr hmm hz;go_enter Tryz.func20,Tryz.ntmps20
 go_wp2_with ((with_reducible show WL _ _);refine bxL HL 3 (.tmp 1) (#[.int .i64 (l:Int)]) ?_)
 intro b3 w1 hk HL;replace HR:=O (HR.out.keep hk fun _ _=>id);clear hk;go_wp2_with fail;refine((by have h:=fT w1 (.slice va m vc) bs (by rw[HMM.out];exact HR.out);rw[HAZ.out] at h;exact h:Calls _ _ _ w1 (aF w1 (.bool true)))).mono ?_;rintro e w2 ⟨rfl,hk⟩;replace HL:=O (HL.out.keeps hk);replace HR:=O (HR.out.keep hk fun _ _=>id);clear hk;go_wp2_with fail;go_ret;exact aF.of HL.out.keep
theorem Ga{w:World}(vv:Value)(bs:List UInt8)(hr:Rd w 1 vv bs.length (bs.map vb))(hz:bZ bs=false):Calls Tryz.prog 20 #[vv,.int .i64 0] w (aF w (.int .i64 1)):=by
 have HR:=O hr;have HAZ:=O hz;obtain⟨va,vc,rfl,-,-⟩:=hr.form;obtain⟨m,hmm⟩:∃m,bs.length=m:=⟨_,rfl⟩
 have HMM:=O hmm;rw[hmm] at HR ⊢;have HL:=O (Loc.nil aB aB w);clear hr hmm hz;go_enter Tryz.func20,Tryz.ntmps20
 go_wp2_with ((with_reducible show WL _ _);refine bxL HL 3 (.tmp 1) (#[.int .i64 0]) ?_)
 intro b3 w1 hk HL;replace HR:=O (HR.out.keep hk fun _ _=>id);clear hk;go_wp2_with fail;refine((by have h:=fT w1 (.slice va m vc) bs (by rw[HMM.out];exact HR.out);rw[HAZ.out] at h;exact h:Calls _ _ _ w1 (aF w1 (.bool false)))).mono ?_;rintro e w2 ⟨rfl,hk⟩;replace HL:=O (HL.out.keeps hk);replace HR:=O (HR.out.keep hk fun _ _=>id);clear hk;have c1:w2.cell? ⟨b3,0,none⟩=some (.int .i64 0):=(aC (i:=0) (HL.out.b 0) rfl)
 go_wp2_with fail;clear c1;go_ret;exact aF.of HL.out.keep
theorem IQ{l:Nat}(H:sD l)(hl:l≤2){w:World}(vv:Value)(bs:List UInt8)(hr:Rd w 1 vv bs.length (bs.map vb))(hbl:bs.length=256*4 ^ (l+1))(hz:bZ bs=false):Calls Tryz.prog 20 #[vv,.int .i64 ((l+1:Nat):Int)] w (aF w (.int .i64 (aZ (l+1) bs:Int))):=by
 have HR:=O hr;have HAZ:=O hz;have HH:Hid (sD l):=O H;have HBL:=O hbl;have HM:=O (rT l bs);have HKL:=O (Bh hl bs);have hl1:(0:Int)<((l+1:Nat):Int):=by omega
 obtain⟨lv,hlv⟩:∃x,((l+1:Nat):Int)=x:=⟨_,rfl⟩
 have HLV:=O hlv;rw[hlv] at hl1 ⊢;obtain⟨va,vc,rfl,-,-⟩:=hr.form;obtain⟨m,hmm⟩:∃m,bs.length=m:=⟨_,rfl⟩
 have HMM:=O hmm;rw[hmm] at HR ⊢;have HL:=O (Loc.nil aB aB w);clear hr hmm hz H hbl hlv;go_enter Tryz.func20,Tryz.ntmps20
 go_wp2_with ((with_reducible show WL _ _);refine bxL HL 3 (.tmp 1) (#[.int .i64 lv]) ?_)
 intro b3 w1 hk HL;replace HR:=O (HR.out.keep hk fun _ _=>id);clear hk;go_wp2_with fail;refine((by have h:=fT w1 (.slice va m vc) bs (by rw[HMM.out];exact HR.out);rw[HAZ.out] at h;exact h:Calls _ _ _ w1 (aF w1 (.bool false)))).mono ?_;rintro e w2 ⟨rfl,hk⟩;replace HL:=O (HL.out.keeps hk);replace HR:=O (HR.out.keep hk fun _ _=>id);clear hk;have c1:w2.cell? ⟨b3,0,none⟩=some (.int .i64 lv):=(aC (i:=0) (HL.out.b 0) rfl)
 go_wp2_with fail;clear c1;refine((D3 HH.out hl (.slice va m vc) bs HBL.out (by rw[HMM.out];exact HR.out) (b2:=b3) (by rw[HLV.out];exact HL.out.b 0):Calls _ _ _ w2 (Dj w2 l bs))).mono ?_;rintro e w3 ⟨rv,rfl,ho,hk⟩;obtain⟨ra,rc,rfl,-,-⟩:=(Rd.of_owns ho).form;have HO:=O (Rd.of_owns ho);clear ho;replace HL:=O (HL.out.keeps hk);replace HR:=O (HR.out.keep hk fun _ _=>id);clear hk;go_wp2_with fail
 obtain⟨g,o,hra⟩:∃g o,ra=some ⟨g,o,none⟩:=by
  obtain⟨-,a',c',e,-,-,-,h4⟩:=HO.out;cases e
  obtain⟨g,o,h,-⟩:=h4 (by unfold jU;simp);exact⟨g,o,h⟩
 subst hra
 have HC:Hid (∀k:Nat,k<4->w3.cell? ⟨g,o+k,none⟩=some (.int .i64 (aZ l (bG l bs k):Int))):=O (fun k hk=>by
  obtain⟨-,a',c',e,-,-,-,h4⟩:=HO.out;cases e
  obtain⟨g',o',h,hc⟩:=h4 (by unfold jU;simp);cases h
  exact hc k _ (by unfold jU;rw[List.getElem?_map,List.getElem?_range hk];rfl))
 have HK:=O HL.out.keep;clear HL HR HO
 go_loopw [5,16] (fun s i wr=>∃k q:Nat,k≤4/\i=.int .i64 (k:Int)/\s=.int .i64 (q:Int)/\q≤1000/\Hid (q=1+eG l bs k)/\w3=wr) (fun _ i _=>4-(intOf i).toNat)
 case atStart=>exact⟨0,1,by omega,rfl,rfl,by omega,O rfl,rfl⟩
 case round =>
  obtain⟨k,q,hk,rfl,rfl,hq,HQ,rfl⟩:=hrel
  by_cases hlt:k<4
  ·have hki:(k:Int)<4:=by omega
   have hk0:(0:Int)≤(k:Int):=by omega
   have c1:=HC.out k hlt;obtain⟨z,hzz⟩:∃x,aZ l (bG l bs k)=x:=⟨_,rfl⟩
   have HZZ:=O hzz;have HQ2:Hid (q+z=1+eG l bs (k+1)):=O (by show q+z=1+(eG l bs k+aZ l (bG l bs k));rw[hzz,HQ.out];omega);have hz2:q+z≤1000:=by have:=HQ2.out;have:=HKL.out (k+1) (by omega);omega
   rw[hzz] at c1;clear hzz;go_wp2_with fail
   go_roundw
   case rel=>exact⟨k+1,q+z,by omega,by first|rfl|go_num,by first|rfl|go_num,hz2,HQ2,by first|rfl|trivial⟩
   case measure=>simp[intOf];omega
  ·obtain rfl:k=4:=by omega
   have hfin:(aZ (l+1) bs:Int)=(q:Int):=by
    have h:=HM.out;rw[if_neg (by rw[HAZ.out];decide)] at h;have:=HQ.out;omega
   have HFIN:=O hfin;clear hfin;go_wp2_with fail;go_ret;exact⟨by rw[HFIN.out];rfl,HK.out⟩
theorem Dk:∀{l:Nat},l≤3->sD l
 | 0,_=>by
   rename_i w _;intro vv bs hbl hr;cases hz:bZ bs with
   | true=>rw[oC hz];exact uK vv bs hr 0 hz
   | false =>
     have e:aZ 0 bs=1:=by unfold aZ;rw[if_neg (by rw[hz];decide)]
     rw[e];exact Ga vv bs hr hz
 | l+1,hl=>by
   rename_i w;intro vv bs hbl hr;cases hz:bZ bs with
   | true=>rw[oC hz];exact uK vv bs hr (l+1) hz
   | false=>exact IQ (Dk (by omega)) (by omega) vv bs hr hbl hz
theorem xI{w:World}(vv:Value)(bs:List UInt8)(hbl:bs.length≤16384)(hr:Rd w 1 vv bs.length (bs.map vb)):Calls Tryz.prog 7 #[vv] w (aF w (.tuple #[.int .i64 (aZ 3 (bL bs):Int),.int .i64 0])):=by
 have HR:=O hr;have HBL:=O hbl;have HFL:=O (jI hbl);obtain⟨va,vc,rfl,-,-⟩:=hr.form;obtain⟨m,hmm⟩:∃m,bs.length=m:=⟨_,rfl⟩
 have HMM:=O hmm;rw[hmm] at HR hbl ⊢;have hm1:¬((16384:Int)<(m:Int)):=by omega
 have HL:=O (Loc.nil aB aB w);obtain⟨q,hq⟩:∃x,aZ 3 (bL bs)=x:=⟨_,rfl⟩
 have HQ:=O hq;rw[hq];clear hr hmm hbl hq;go_enter Tryz.func7,Tryz.ntmps7;go_wp2_with fail;refine((by have h:=zG w (.slice va m vc) bs (by rw[HMM.out];exact HR.out) HBL.out;exact h:Calls _ _ _ w (rD w (bL bs)))).mono ?_;rintro e w1 ⟨fv,rfl,ho,hk⟩;rw[show (bL bs).length=16384 from HFL.out] at ho;obtain⟨fa,fc,rfl,-,-⟩:=(Rd.of_owns ho).form;have HO:=O (Rd.of_owns ho);clear ho;replace HL:=O (HL.out.keeps hk);replace HR:=O (HR.out.keep hk fun _ _=>id);clear hk;go_wp2_with fail;refine((by rw[←HQ.out];exact Dk (l:=3) (by omega) (.slice fa 16384 fc) (bL bs) HFL.out (by rw[show (bL bs).length=16384 from HFL.out];exact HO.out):Calls _ _ _ w1 (aF w1 (.int .i64 (q:Int))))).mono ?_;rintro e w2 ⟨rfl,hk⟩;replace HL:=O (HL.out.keeps hk);replace HR:=O (HR.out.keep hk fun _ _=>id);replace HO:=O (HO.out.keep hk fun _ _=>id);clear hk;go_wp2_with fail
 go_ret2
 exact aF.of HL.out.keep
theorem IR{w:World}(va:Option Addr)(m vc:Nat)(hm:16384<m):Calls Tryz.prog 7 #[.slice va m vc] w (aF w (.tuple #[.int .i64 0,.int .i64 3])):=by
 have hm1:(16384:Int)<(m:Int):=by omega
 go_enter Tryz.func7,Tryz.ntmps7;go_wp2_with fail
 go_ret2
 exact⟨rfl,aA.refl _ _⟩
def sE(p:Nat->Bool):Nat->Bool
 | 0=>false
 | n+1=>sE p n || p n
theorem sF{p:Nat->Bool}:∀{n:Nat},sE p n=true↔∃i,i<n/\p i=true
 | 0=>by simp[sE]
 | n+1=>by
   unfold sE;rw[Bool.or_eq_true,sF];constructor
   ·rintro (⟨i,h,e⟩|e)
    ·exact⟨i,by omega,e⟩
    ·exact⟨n,by omega,e⟩
   ·rintro⟨i,h,e⟩
    rcases Nat.lt_or_ge i n with h2|h2
    ·exact .inl ⟨i,h2,e⟩
    ·obtain rfl:i=n:=by omega
     exact .inr e
def jV:Nat->(Nat->Bool)->Nat
 | 0,p=>if p 0 then 1 else 0
 | l+1,p=>if sE p (4 ^ (l+1)) then 1+(jV l (fun i=>p (0*4 ^ l+i))+jV l (fun i=>p (1*4 ^ l+i))+jV l (fun i=>p (2*4 ^ l+i))+jV l (fun i=>p (3*4 ^ l+i))) else 0
theorem iU:∀{l:Nat}{p q:Nat->Bool},(∀i,i<4 ^ l->p i=q i)->jV l p=jV l q
 | 0,p,q,h=>by unfold jV;rw[h 0 (by simp)]
 | l+1,p,q,h=>by
   have e:sE p (4 ^ (l+1))=sE q (4 ^ (l+1)):=by
    rw[Bool.eq_iff_iff,sF,sF];exact⟨fun ⟨i,h1,h2⟩=>⟨i,h1,by rw[←h i h1];exact h2⟩,fun ⟨i,h1,h2⟩=>⟨i,h1,by rw[h i h1];exact h2⟩⟩
   have hq:∀k,k<4->∀i,i<4 ^ l->k*4 ^ l+i<4 ^ (l+1):=fun k hk i hi=>by
    rw[Nat.pow_succ];have:=Nat.mul_le_mul_right (4 ^ l) (show k≤3 by omega);omega
   unfold jV;rw[e,iU fun i hi=>h _ (hq 0 (by omega) i hi),iU fun i hi=>h _ (hq 1 (by omega) i hi),iU fun i hi=>h _ (hq 2 (by omega) i hi),iU fun i hi=>h _ (hq 3 (by omega) i hi)]
def qG(b:List UInt8)(i:Nat):Bool:=!bZ (bkM b i)
theorem D4{b:List UInt8}{l:Nat}(hl:b.length=256*4 ^ l):bZ b=!sE (qG b) (4 ^ l):=by
 rw[Bool.eq_iff_iff,Bool.not_eq_true',←Bool.not_eq_true,sF];constructor
 ·rintro h ⟨i,hi,e⟩
  unfold qG at e;rw[CZ h hl hi] at e;revert e;rw[show bZ zB=true from by rw[eL];exact fun x hx=>(List.mem_replicate.1 hx).2]
  decide
 ·intro h
  rw[eL];intro x hx;obtain⟨n,hn,rfl⟩:=List.getElem_of_mem hx;have hi:n / 256<4 ^ l:=(Nat.div_lt_iff_lt_mul (by omega)).2 (by omega)
  have hz:bZ (bkM b (n / 256))=true:=by
   cases hz:bZ (bkM b (n / 256)) with
   | true=>rfl
   | false=>exact absurd ⟨n / 256,hi,by unfold qG;rw[hz];rfl⟩ h
  rw[eL] at hz;refine hz _ ?_;have e:n=256*(n / 256)+n % 256:=(Nat.div_add_mod n 256).symm;have hm:=Nat.mod_lt n (show 0<256 by omega);unfold bkM;refine List.mem_iff_getElem.2 ⟨n % 256,?_,?_⟩
  ·rw[List.length_take,List.length_drop];omega
  ·rw[List.getElem_take,List.getElem_drop]
   congr 1
   exact e.symm
theorem Bj:∀{l:Nat}{b:List UInt8},b.length=256*4 ^ l->aZ l b=jV l (qG b)
 | 0,b,hl=>by
   have e:bkM b 0=b:=by unfold bkM;rw[Nat.mul_zero,List.drop_zero,List.take_of_length_le (by omega)]
   unfold aZ jV qG;rw[e];cases bZ b<;>rfl
 | l+1,b,hl=>by
   have hp:∀q,q<4->aZ l (bG l b q)=jV l (fun i=>qG b (q*4 ^ l+i)):=fun q hq=>by
    rw[Bj (gL hl hq)];exact iU fun i hi=>by unfold qG;rw[CY l b q i hi]
   unfold aZ jV;rw[hp 0 (by omega),hp 1 (by omega),hp 2 (by omega),hp 3 (by omega),D4 hl];cases sE (qG b) (4 ^ (l+1))<;>rfl
theorem vX(b:List UInt8):∀k,((List.range k).map (bkM b)).flatten=b.take (256*k)
 | 0=>by simp
 | k+1=>by
   rw[List.range_succ,List.map_append,List.flatten_append,vX b k];simp only[List.map_cons,List.map_nil,List.flatten_cons,List.flatten_nil,List.append_nil];unfold bkM;rw[show 256*(k+1)=256*k+256 by omega,List.take_add]
theorem D5{S T:Kor}{b:List UInt8}{u:Tr}(h:Fy S T 3 b u)(hl:b.length=256*4 ^ 3)(ho:Tr.Ok T 3 u):dN u=b:=by
 unfold dN;rw[ho.blocks_eq,show (List.range (4 ^ 3)).map (u.blk 3)=(List.range 64).map (bkM b) from List.map_congr_left fun i hi=>h.blks i (List.mem_range.1 hi),vX];exact List.take_of_length_le (by rw[hl];decide)
theorem D6:dN .hole=List.replicate 16384 0:=by
 refine List.eq_replicate_iff.2 ⟨(Tr.ok_hole ⟨2,8,1,[],fun _ _=>[],0⟩ 3).bytes_len,fun x hx=>?_⟩;unfold dN at hx;obtain⟨l,hl,hx⟩:=List.mem_flatten.1 hx;have e:l=zB:=(List.mem_replicate.1 hl).2;rw[e] at hx;exact(List.mem_replicate.1 hx).2
theorem sG(b:List UInt8)(m:Nat)(h:b.length+m≤16384):bL (b++List.replicate m 0)=bL b:=by
 unfold bL;rw[List.length_append,List.length_replicate,List.append_assoc,List.replicate_append_replicate]
 congr 2
 omega
theorem Bl:bL []=List.replicate 16384 0:=rfl
theorem Gb(b:List UInt8):(bL b).take b.length=b:=by unfold bL;rw[List.take_left]
theorem Gc(b:List UInt8):bZ ((bL b).drop b.length)=true:=by
 unfold bL;rw[List.drop_left,eL];exact fun x hx=>(List.mem_replicate.1 hx).2
theorem KC{b:List UInt8}{i:Nat}:qG (bL b) i=true↔∃j x,256*i≤j/\j<256*i+256/\b[j]?=some x/\x≠0:=by
 unfold qG;rw[Bool.not_eq_true',←Bool.not_eq_true,eL];constructor
 ·intro h
  obtain⟨x,hx⟩:=Classical.not_forall.1 h;obtain⟨hm,hx0⟩:=Classical.not_imp.1 hx;unfold bkM at hm;obtain⟨j,hj⟩:=List.getElem?_of_mem hm;rw[List.getElem?_take] at hj;split at hj
  ·next hlt =>
   rw[List.getElem?_drop] at hj;refine⟨256*i+j,x,by omega,by omega,?_,hx0⟩;unfold bL at hj;rcases Nat.lt_or_ge (256*i+j) b.length with h2|h2
   ·rwa [List.getElem?_append_left h2] at hj
   ·rw[List.getElem?_append_right h2] at hj
    exact absurd (List.mem_replicate.1 (List.mem_of_getElem? hj)).2 hx0
  ·cases hj
 ·rintro⟨j,x,h1,h2,h3,h4⟩ h
  refine h4 (h x ?_);unfold bkM bL;have hl:=(List.getElem?_eq_some_iff.1 h3).1;refine List.mem_of_getElem? (i:=j-256*i) ?_;rw[List.getElem?_take,if_pos (by omega),List.getElem?_drop,show 256*i+(j-256*i)=j by omega,List.getElem?_append_left hl];exact h3
theorem As{b:List UInt8}(hb:b.length≤16384){p:Nat->Bool}(hp:∀i,i<64->(p i=true↔∃j x,256*i≤j/\j<256*i+256/\b[j]?=some x/\x≠0)):aZ 3 (bL b)=jV 3 p:=by
 rw[Bj (jI hb)];exact iU fun i hi=>by rw[Bool.eq_iff_iff,KC,hp i hi]
def ex1:List UInt8:=List.replicate 256 1++[2]
def ex2:List UInt8:=List.replicate 256 0++List.replicate 256 1
def ex3:List UInt8:=List.replicate 1280 1
theorem fG:ex1.length=257:=by unfold ex1;rw[List.length_append,List.length_replicate];rfl
theorem kX:ex2.length=512:=by unfold ex2;rw[List.length_append,List.length_replicate,List.length_replicate]
theorem At:ex3.length=1280:=List.length_replicate
theorem Au{j:Nat}{x:UInt8}:ex1[j]?=some x↔(j<256/\x=1)\/(j=256/\x=2):=by
 unfold ex1;rcases Nat.lt_or_ge j 256 with h|h
 ·rw[List.getElem?_append_left (by rw[List.length_replicate];exact h),List.getElem?_replicate,if_pos h]
  constructor
  ·intro e;injection e with e;exact .inl ⟨h,e.symm⟩
  ·rintro (⟨-,e⟩|⟨e,-⟩)
   ·rw[e]
   ·omega
 ·rw[List.getElem?_append_right (by rw[List.length_replicate];exact h),List.length_replicate]
  rcases Nat.eq_or_lt_of_le h with e|e
  ·subst e
   constructor
   ·intro e;injection e with e;exact .inr ⟨rfl,e.symm⟩
   ·rintro (⟨e,-⟩|⟨-,e⟩)
    ·omega
    ·rw[e];rfl
  ·rw[List.getElem?_eq_none (by simp;omega)]
   constructor
   ·intro e;cases e
   ·rintro (⟨e,-⟩|⟨e,-⟩)<;>omega
theorem EF{j:Nat}{x:UInt8}:ex2[j]?=some x↔(j<256/\x=0)\/(256≤j/\j<512/\x=1):=by
 unfold ex2;rcases Nat.lt_or_ge j 256 with h|h
 ·rw[List.getElem?_append_left (by rw[List.length_replicate];exact h),List.getElem?_replicate,if_pos h]
  constructor
  ·intro e;injection e with e;exact .inl ⟨h,e.symm⟩
  ·rintro (⟨-,e⟩|⟨e,-⟩)
   ·rw[e]
   ·omega
 ·rw[List.getElem?_append_right (by rw[List.length_replicate];exact h),List.length_replicate,List.getElem?_replicate]
  split
  ·constructor
   ·intro e;injection e with e;exact .inr ⟨h,by omega,e.symm⟩
   ·rintro (⟨e,-⟩|⟨-,-,e⟩)
    ·omega
    ·rw[e]
  ·constructor
   ·intro e;cases e
   ·rintro (⟨e,-⟩|⟨e,e2,-⟩)<;>omega
theorem xJ:aZ 3 (bL ex1)=5:=by
 rw[As (p:=fun i=>decide (i<2)) (by rw[fG];decide) fun i _=>?_]
 ·decide
 ·rw[decide_eq_true_iff]
  constructor
  ·intro h
   rcases i with _|_|i
   ·exact⟨0,1,by omega,by omega,Au.2 (.inl ⟨by omega,rfl⟩),by decide⟩
   ·exact⟨256,2,by omega,by omega,Au.2 (.inr ⟨rfl,rfl⟩),by decide⟩
   ·omega
  ·rintro⟨j,x,h1,h2,h3,h4⟩
   rcases Au.1 h3 with h|h<;>omega
theorem Dl:aZ 3 (bL ex2)=4:=by
 rw[As (p:=fun i=>decide (i=1)) (by rw[kX];decide) fun i _=>?_]
 ·decide
 ·rw[decide_eq_true_iff]
  constructor
  ·rintro rfl
   exact⟨256,1,by omega,by omega,EF.2 (.inr ⟨by omega,by omega,rfl⟩),by decide⟩
  ·rintro⟨j,x,h1,h2,h3,h4⟩
   rcases EF.1 h3 with h|h
   ·exact absurd h.2 h4
   ·omega
theorem KD:aZ 3 (bL ex3)=9:=by
 rw[As (p:=fun i=>decide (i<5)) (by rw[At];decide) fun i _=>?_]
 ·decide
 ·rw[decide_eq_true_iff]
  unfold ex3;constructor
  ·intro h
   exact⟨256*i,1,by omega,by omega,by rw[List.getElem?_replicate,if_pos (by omega)],by decide⟩
  ·rintro⟨j,x,h1,h2,h3,h4⟩
   have:=(List.getElem?_eq_some_iff.1 h3).1;rw[List.length_replicate] at this;omega
theorem KE:aZ 3 (bL [])=0:=oC (by rw[Bl,eL];exact fun x hx=>(List.mem_replicate.1 hx).2)
theorem Dm{S:Kor}(hb:S.Bd){N:Nat}(hN:S.room N){b:List UInt8}(hl:b.length≤16384)(hn:aZ 3 (bL b)≤N):∃u T,dD 3 S (bL b)=(some u,T)/\T.room (N-aZ 3 (bL b))/\Fy S T 3 (bL b) u/\Tr.Ok T 3 u/\dN u=bL b:=by
 have h:=tY (l:=3) (by omega) hb hN (jI hl);rw[if_pos hn] at h;obtain⟨u,T,h1,h2⟩:=h;have g:=mZ (l:=3) (by omega) hb (jI hl) h1;exact⟨u,T,h1,h2,g,g.kept.ok,D5 g (jI hl) g.kept.ok⟩
def ofN(x:UInt8)(n k:Nat):List Value:=(List.range n).map fun i=>if i<k then vb x else .int .u8 0
theorem qX(x:UInt8)(n k:Nat):(ofN x n k).length=n:=by unfold ofN;simp
theorem KF(x:UInt8)(n:Nat):ofN x n 0=List.replicate n (.int .u8 0):=by
 refine List.eq_replicate_iff.2 ⟨qX x n 0,fun v hv=>?_⟩;unfold ofN at hv;obtain⟨i,-,rfl⟩:=List.mem_map.1 hv;exact if_neg (by omega)
theorem KG(x:UInt8)(n:Nat):ofN x n n=(List.replicate n x).map vb:=by
 unfold ofN;rw[List.map_replicate];refine List.eq_replicate_iff.2 ⟨by simp,fun v hv=>?_⟩;obtain⟨i,hi,rfl⟩:=List.mem_map.1 hv;exact if_pos (List.mem_range.1 hi)
theorem Mc(x:UInt8)(n k:Nat)(hk:k<n):spl (ofN x n k).toArray k [vb x]=(ofN x n (k+1)).toArray:=by
 show (ofN x n k).toArray.setIfInBounds k (vb x)=_;rw[List.setIfInBounds_toArray]
 congr 1
 refine List.ext_getElem (by rw[List.length_set,qX,qX]) fun i h1 h2=>?_
 rw[List.getElem_set];have q:∀j h,(ofN x n j)[i]'h=if i<j then vb x else .int .u8 0:=fun j h=>by simp[ofN]
 rw[q,q]
 by_cases e:k=i
 ·subst e;rw[if_pos rfl,if_pos (by omega)]
 ·rw[if_neg e]
  by_cases d:i<k
  ·rw[if_pos d,if_pos (by omega)]
  ·rw[if_neg d,if_neg (by omega)]
theorem IS{w:World}{base b n:Nat}{cs:List Value}(h:w.heap[b]?=some (.cells cs.toArray 5 (0,0)))(hl:cs.length=n)(hn:n≤maxLen)(hb:base≤b):w.ownsRow base 5 1 (.slice (some ⟨b,0,none⟩) n n) n cs:=
 ⟨by rw[hl,Nat.mul_one],.inr ⟨b,n,cs.toArray,rfl,hb,h,Nat.le_refl _,hn,by rw[List.size_toArray,hl,Nat.mul_one],by rw[List.toList_toArray,Nat.mul_one,←hl,List.take_length]⟩⟩
def Md(w:World)(x:UInt8)(n:Nat)(e:Ending)(w':World):Prop:=∃v,e=.returned v/\w'.ownsRow w.heap.size 5 1 v n ((List.replicate n x).map vb)/\aA aB w w'
theorem kT(w:World)(x:UInt8)(n:Nat)(hn:n≤65536):Calls Tryz.prog 14 #[.int .i64 (n:Int),vb x] w (Md w x n):=by
 obtain⟨xv,hxv⟩:∃v,vb x=v:=⟨_,rfl⟩
 have HXV:=O hxv;have hx1:xv.oneCell'=true:=by rw[←hxv];rfl
 have hxc:xv.cells=#[xv]:=by rw[←hxv];rfl
 rw[hxv];clear hxv;go_enter Tryz.func14,Tryz.ntmps14
 go_wp2_with ((with_reducible show WL _ _);refine kY rfl (.tmp 7) (.tmp 7) 22 rfl w.heap.size 5 (.int .u8 0) 1 Tryz.underlying22 dF rfl n rfl rfl (by omega) (by unfold maxLen;omega) (Nat.le_refl _) ?_)
 intro w1 ho hk;obtain⟨b5,hb5⟩:∃b,w.heap.size=b:=⟨_,rfl⟩
 have HB5:=O hb5;rw[hb5] at ho ⊢
 have HI:Hid (w1.heap[b5]?=some (.cells (ofN x n 0).toArray 5 (0,0))/\aA aB w w1):=O (by
  refine⟨?_,hk⟩;rcases ho.2 with⟨h,-⟩|⟨g,cap,cur,h1,h2,h3,h4,h5,h6,h7⟩
  ·cases h
  ·injection h1 with h1 h8 h9
   injection h1 with h1
   injection h1 with h1
   subst h1 h9;rw[Nat.mul_one] at h6 h7;rw[h3,KF,←h7,List.take_of_length_le (by rw[Array.length_toList];omega)])
 clear ho hk hb5;go_wp2_with fail
 go_loopw [6] (fun i wr=>∃k:Nat,k≤n/\i=.int .i64 (k:Int)/\Hid (wr.heap[b5]?=some (.cells (ofN x n k).toArray 5 (0,0))/\aA aB w wr)) (fun i _=>n-(intOf i).toNat)
 case atStart=>exact⟨0,by omega,rfl,HI⟩
 case round =>
  clear HI;obtain⟨k,hk,rfl,HJ⟩:=hrel
  by_cases hk8:k<n
  ·have hk9:(k:Int)<(n:Int):=by omega
   have hk0:(0:Int)≤(k:Int):=by omega
   go_wp2_with ((with_reducible show WL _ _);refine sta 5 (.tmp 17) (.tmp 16) b5 k [xv] HJ.out.1 (by rw[List.size_toArray,qX];exact hk8) (by kernel_rfl) (by intro v hv;rw[List.mem_singleton] at hv;rw[hv];exact hx1) ?_ (hy:=hxc))
   intro w2 hk2 hb2;rw[←HXV.out,Mc x n k hk8] at hb2;have HN:Hid (w2.heap[b5]?=some (.cells (ofN x n (k+1)).toArray 5 (0,0))/\aA aB w w2):=O ⟨hb2,HJ.out.2.trans' hk2 (fun _ _ h=>h) (fun i hi e=>by have:=HB5.out;omega)⟩;clear hk2 hb2 HJ;go_wp2_with fail
   go_roundw
   case rel=>exact⟨k+1,by omega,by go_num,HN⟩
   case measure=>simp[intOf];omega
  ·obtain rfl:n=k:=by omega
   go_wp2_with fail;go_ret;exact⟨_,rfl,by rw[←KG x];exact IS HJ.out.1 (qX x n n) (by unfold maxLen;omega) (by have:=HB5.out;omega),HJ.out.2⟩
theorem sH(w:World)(Z:Nat)(hZ:8≤Z/\Z≤4096):Calls Tryz.prog 6 #[.int .i64 (Z:Int)] w (xD w Z):=by
 have HL:=O (Loc.nil aB aB w);have HZ:=O hZ;have hbid:=Lp;have hpl:(eD.map vb).length=32:=by rw[List.length_map];rfl
 obtain⟨ic,hice⟩:∃l,eD.map vb=l:=⟨_,rfl⟩
 have HIC:=O hice;rw[hice] at hbid;have HBI:=O hbid;clear hbid hice hpl;go_enter Tryz.func6,Tryz.ntmps6
 go_wp2_with ((with_reducible show WL _ _);refine bld 33 #[] [] (.agg ic.toArray) HBI.out ?_)
 refine((JT w 2 Z ⟨by omega,by omega,HZ.out.1,HZ.out.2⟩)).mono ?_;rintro e w1 ⟨a,BA,rfl,harr,hBA,hk⟩;have HA:=O harr;have HBA:=O hBA;clear harr hBA;replace HL:=O (HL.out.keeps hk);clear hk
 go_wp2_with ((with_reducible show WL _ _);refine bld 33 #[] [] (.agg ic.toArray) HBI.out ?_)
 refine((by rw[←HIC.out];exact DY HA.out eD rfl 2 ⟨by omega,by omega,by omega⟩ (by omega):Calls _ _ _ w1 (qF w1 BA 2 Z 2))).mono ?_;rintro e w2 ⟨c,M,B,rfl,hki,hB,hk⟩;have HP:Hid (xD w Z (.returned (.pointer (some ⟨c,0,none⟩))) w2):=O ⟨c,M,B,rfl,hki,fun k h=>(hB k h).elim (HBA.out k) fun e=>by have:=HL.out.keep.size;omega,HL.out.keep.trans' hk (fun _ _ h=>h) (fun i hi e=>by have:=HBA.out i e;omega)⟩;clear HL HA hki hB hk
 go_wp2_with ((with_reducible show WL _ _);refine bld 33 #[] [] (.agg ic.toArray) HBI.out ?_)
 go_ret;exact HP.out
theorem qH{w:World}(vv:Value)(bs:List UInt8)(hbl:bs.length≤16384)(hr:Rd w 1 vv bs.length (bs.map vb))(q:Nat)(hq:aZ 3 (bL bs)=q):Calls Tryz.prog 17 #[vv,.int .i64 (q:Int)] w (aX w true):=by
 have HC:=O (xI vv bs hbl hr);rw[hq] at HC;obtain⟨va,vc,rfl,-,-⟩:=hr.form;clear hr hq;go_enter Tryz.func17,Tryz.ntmps17;go_wp2_with fail;refine HC.out.mono ?_;rintro e w1 ⟨rfl,hk⟩;have HK:=O hk;clear hk;go_wp2_with fail;go_ret;exact⟨rfl,HK.out⟩
theorem iV{w:World}{c:Nat}{S:Kor}{B:Nat->Prop}(hK:KI w c S B)(pv:Value)(t:Tr)(ht:Tr.Ok S 3 t)(hp:aQ w B pv t.ptr)(vv:Value)(bs:List UInt8)(hbl:bs.length≤16384)(hr:Rd w 1 vv bs.length (bs.map vb))(hb:dN t=bL bs):Calls Tryz.prog 13 #[.pointer (some ⟨c,0,none⟩),.agg (aE pv t.ptr).toArray,vv] w (aX w true):=by
 have HT:=O ht;have HK:=O hK;have HPT:=O hp;have HR:=O hr;have HBL:=O hbl;have HZ:Hid (bZ ((dN t).drop bs.length)=true/\(dN t).take bs.length=bs):=O (by rw[hb];exact⟨Gc bs,Gb bs⟩);obtain⟨va,vc,rfl,-,-⟩:=hr.form;obtain⟨m,hmm⟩:∃m,bs.length=m:=⟨_,rfl⟩
 have HMM:=O hmm;rw[hmm] at HR HZ ⊢;obtain⟨p,hpe⟩:∃p,t.ptr=p:=⟨_,rfl⟩
 have HPE:=O hpe;rw[hpe] at HPT hp ⊢;obtain⟨pc,HPC,hpc,HOP⟩:=nmP hp;rw[HPC.out];have HL:=O (Loc.nil aB aB w);clear hp ht hK hpe hr hbl hmm hb;go_enter Tryz.func13,Tryz.ntmps13
 go_wp2_with ((with_reducible show WL _ _);refine bxL HL 35 (.tmp 1) (pc.toArray) ?_)
 intro b4 w1 hk HL;replace HPT:=O (aQ.keep0 HPT.out hk);replace HK:=O (KI.keep0 HK.out hk);replace HR:=O (HR.out.keep hk fun _ _=>id);clear hk
 go_wp2_with ((with_reducible show WL _ _);refine wpList_load_mid rfl 35 (.tmp 4) rfl b4 0 rfl pc _ (aD (HL.out.b 0)) aJ rfl (szP9 hpc) ?_)
 refine((by rw[←HPC.out,←HPE.out];exact Bf HK.out pv t HT.out (by rw[HPE.out];exact HPT.out) m (by rw[←HMM.out];exact HBL.out):Calls _ _ _ w1 (iT w1 t m))).mono ?_;rintro e w2 hml;unfold iT at hml;rw[if_pos HZ.out.1] at hml;obtain⟨lv,rfl,hrl,-,hk⟩:=hml;rw[HZ.out.2] at hrl;obtain⟨la,lc,rfl,-,-⟩:=hrl.form;have HRL:=O hrl;rw[HMM.out] at HRL ⊢;clear hrl;replace HL:=O (HL.out.keeps hk);replace HPT:=O (aQ.keep0 HPT.out hk);replace HK:=O (KI.keep0 HK.out hk);replace HR:=O (HR.out.keep hk fun _ _=>id);clear hk;go_wp2_with fail;refine(GS w2 _ _ bs bs (by rw[HMM.out];exact HRL.out) (by rw[HMM.out];exact HR.out) true (decide_eq_true rfl)).mono ?_;rintro e w3 ⟨rfl,rfl⟩;go_wp2_with fail;go_ret;exact⟨rfl,HL.out.keep⟩
theorem uJ.tr{w w':World}{c:Nat}{B:Nat->Prop}{t:Tr}{T:Kor}{e:Ending}{v0:Value}(h:uJ w c B (some t) T e w'):jG w c B v0 (some t) T e w':=by
 obtain⟨v,B',h1,h2,h3,h4,h5,h6,h7⟩:=h;exact⟨v,B',h1,h2,h3,h4,h5,.inr h6,h7⟩
theorem kG{P:Program}{ops:Array Oper}{Q:Exit->Act->World->Prop}{rest:List Oper}{o:Oper}{a:Act}{w:World}(hw:Region.wanted o (yielded ops a.tmps)=true)(h:wpList P ops Q ({ o with guard:=none }::rest) a w):wpList P ops Q (o::rest) a w:=by
 unfold wpList at h ⊢;rw[if_pos hw];rw[if_pos (by simp[Region.wanted])] at h;exact h
theorem Tr.Ok.lev3{S:Kor}{t:Tr}(h:Tr.Ok S 3 t)(hh:t.isHole=false):t.ptr.level=3:=by
 cases t with
 | hole=>cases hh
 | leaf p b=>exact h.elim
 | node p k=>exact h.1.lev
theorem Av{S:Kor}(hb:S.Bd){N q:Nat}(hN:S.room N){b:List UInt8}(hl:b.length≤16384)(hq:aZ 3 (bL b)=q)(hqN:q≤N):∃u T,dD 3 S (bL b)=(some u,T)/\T.room (N-q)/\T.Bd/\Ext S T/\Tr.Ok T 3 u/\dN u=bL b/\(fC 3 u).length=q:=by
 obtain⟨u,T,h1,h2,h3,h4,h5⟩:=Dm hb hN hl (by rw[hq];exact hqN);exact⟨u,T,h1,by rw[←hq];exact h2,h3.beh.bd,h3.beh.ext,h4,h5,by rw[←hq];exact h3.many⟩
theorem Me{t:Tr}{q:Nat}(h:(fC 3 t).length=q+1):t.isHole=false:=by
 cases t with
 | hole=>rw[mY] at h;cases h
 | leaf p b=>rfl
 | node p k=>rfl
theorem Cs.off{B0 B T:Nat->Prop}{w0 w w':World}{c:Nat}{S:Kor}{rs:List (Value×Pt)}{l:List (Nat×Array Value×TypeId)}(h:Cs B0 w0 c S B rs w l)(k:aA T w w')(hT:∀i,T i->w0.heap.size≤i/\¬B i/\(∀r∈rs,r.1.ownBlock≠some i)/\∀x∈l,x.1≠i):Cs B0 w0 c S B rs w' l:=
 ⟨⟨h.loc.keep.trans' k (fun _ _ h=>h) fun i hi e=>by have:=(hT i e).1;omega,h.loc.ge,h.loc.nd,fun x hx=>k.blk (h.loc.at_ x hx) fun e=>(hT _ e).2.2.2 x hx rfl,h.loc.ap⟩,h.ki.keepT k fun i e=>(hT i e).2.1,fun r hr=>(h.pv r hr).keepT k fun i hi e=>(hT i e).2.2.1 r hr hi,h.bb⟩
theorem Ds.off{SP B0 B T:Nat->Prop}{wd w0 w w':World}{c:Nat}{S:Kor}{rs:List (Value×Pt)}{l:List (Nat×Array Value×TypeId)}(h:Ds SP wd B0 w0 c S B rs w l)(k:aA T w w')(hT:∀i,T i->w0.heap.size≤i/\¬B i/\(∀r∈rs,r.1.ownBlock≠some i)/\∀x∈l,x.1≠i)(hS:∀i,T i->SP i):Ds SP wd B0 w0 c S B rs w' l:=
 ⟨h.toCs.off k hT,h.dr.trans' k (fun _ _ e=>e) fun i _ e=>hS i e⟩
theorem D7(w:World):Calls Tryz.prog 16 #[] w (F2 w):=by
 go_enter Tryz.func16,Tryz.ntmps16;go_wp2_with fail;refine((sH w 40 (by omega))).mono ?_;rintro e w1 ⟨c,M,B,rfl,hki,hB,hk⟩;have HBN:=O hB;have HKW:=O hk;have HL:=O (Cs.start hki);have HBLT:=O (fun i (e:B i)=>hki.lt e);clear hki hB hk;obtain⟨u,S1,hlay,hroom,hbd1,hext1,huo,hbt,hpts⟩:=Av HL.out.ki.bd (Kor.room_new 40 M 0) (b:=ex1) (q:=5) (by rw[fG];decide) xJ (by omega);have HLAY:=O hlay;have HUO:=O huo;have HBT:=O hbt;have HLEV:=O (huo.lev3 (Me hpts));clear hlay hroom hbd1 hext1 huo hbt hpts;go_wp2_with fail;have HSZ0:=O HL.out.keep.size;refine((kT w1 1 256 (by omega))).mono ?_;rintro e w2 ⟨ov,rfl,ho,hk⟩;obtain⟨oa,oc,rfl,-,-⟩:=(Rd.of_owns ho).form;have HO:=O ho;clear ho;replace HL:=O (HL.out.keeps hk);clear hk;have HML:Hid (256+1≤maxLen):=O (by unfold maxLen;omega);have HBS:Hid (w1.heap.size≤(w2.alloc (.cells #[.int .u8 2] 5)).heap.size):=O (by have:=HL.out.keep.size;simp;omega);have HO1:=O (aP HO.out HSZ0.out)
 go_wp2_with (at_builtin;refine aI rfl (.tmp 10) (.tmp 11) 22 rfl w1.heap.size 5 _ 1 1 Tryz.underlying22 dF rfl (by omega) _ 256 _ rfl (HO1.out.alloc _) _ 1 _ rfl (oM _ _ _) (by intro u hu;rcases List.mem_singleton.1 hu with rfl;rfl) HML.out (by omega) HBS.out ?_)
 intro v2 wc ho5 hk5 hn5 hb5;have hko:=((aA.refl aB w2).alloc (.cells #[.int .u8 2] 5)).any.trans hk5;obtain⟨a2,c2,rfl,-,-⟩:=(Rd.of_owns ho5).form;replace HL:=O (HL.out.off hko (fun i e=>⟨aR HO1.out e,fun e2=>by have h1:=aR HO1.out e;have h2:=HBLT.out i e2;omega,(fun r hr=>by cases hr),(fun x hx=>by cases hx)⟩));have HE:Hid (wc.ownsRow w1.heap.size 5 1 (.slice a2 257 c2) 257 (ex1.map vb)):=O (by
 have e:ex1.map vb=(List.replicate 256 1).map vb++[.int .u8 2]:=by unfold ex1;rw[List.map_append];rfl
 rw[e];exact ho5)
 clear ho5 hk5 hn5 hb5 hko HO HO1;have HEI:=O (fun i (hi:(Value.slice a2 257 c2).ownBlock=some i)=>(by obtain⟨cur,hc⟩:=aL HE.out hi;exact⟨aR HE.out hi,lt_of_block hc⟩:w1.heap.size≤i/\i<wc.heap.size));have hzp:(aE (.slice none 0 0) zPt).length=35:=rfl;have hzb:=iJ;obtain⟨zp,hzpe⟩:∃l,aE (.slice none 0 0) zPt=l:=⟨_,rfl⟩
 have HOZP:Hid (∀u∈zp,u.oneCell'=true):=O (by rw[←hzpe];exact bR zPt);have HZPE:=O hzpe;rw[hzpe] at hzp hzb;have HZB:=O hzb;clear hzpe hzb;go_wp2_with fail;have hsz:=HL.out.keep.size;refine(((jT HL.out.ki (.slice a2 257 c2) ex1 (by rw[fG];decide) (by rw[fG];exact Rd.of_owns HE.out) (some u) S1 HLAY.out).mono fun e w h=>h.tr:Calls _ _ _ wc (jG wc c B (.slice none 0 0) (some u) S1))).mono ?_;rintro e wd ⟨vrc,B2,rfl,hpv,hki,hbb,-,hnw,hk⟩;have HNRC:Hid (dR wc vrc):=O (uU hnw);have HB2B:=O hbb;have HKS:=O hk.size;replace HE:=O (hk.owns HE.out fun i hi e=>by have h1:=HEI.out i hi;have h2:=HBLT.out i e;omega);replace hpv:aQ wd B2 vrc u.ptr:=hpv;rw[show xC (some u)=u.ptr from rfl,show Ak (some u)=0 from rfl];replace HL:=O (HL.out.laid hpv hki hbb (uU hnw) hk);obtain⟨rc,HRC,hrc,HORC⟩:=nmP hpv;rw[HRC.out];clear hsz hpv hki hbb hnw hk
 go_wp2_with ((with_reducible show WL _ _);refine al 35 (.agg aK.toArray) (aK.toArray) bJ ?_)
 intro b3 we hbs hk0 hb0_
 go_wp2_with ((with_reducible show WL _ _);refine sta 35 (.tmp 3) (.tmp 17) b3 0 rc hb0_ (by first|decide|(rw[List.size_toArray,hrc];exact Nat.le_refl _)|simp[hrc,aH]) (szP9 hrc) HORC.out ?_)
 intro wf hk hb;rw[aG _ _ (by first|rfl|(rw[List.size_toArray,hrc];rfl)|simp[hrc,aH])] at hb;replace hk:=hk0.trans' hk (U:=aB) (fun _ _ h=>h) (fun i hi e=>by omega);have HNb3:=O (show wd.heap.size≤b3 from Nat.le_of_eq hbs);replace HL:=O (HL.out.new (trivial) hbs hk hb);replace HE:=O (hk.owns HE.out fun _ _=>id);clear hbs hk hb hk0 hb0_;go_wp2_with fail;go_wp2_with fail;refine((by have h:=xI (.slice a2 257 c2) ex1 (by rw[fG];decide) (by rw[fG];exact Rd.of_owns HE.out);rw[xJ] at h;exact h:Calls _ _ _ wf (aF wf (.tuple #[.int .i64 ((5:Nat):Int),.int .i64 0])))).mono ?_;rintro e wg ⟨rfl,hk⟩;replace HL:=O (HL.out.keeps hk);replace HE:=O (hk.owns HE.out fun _ _=>id);clear hk;go_wp2_with fail;refine F3 (fun k=>B2 k\/(.slice a2 257 c2:Value).ownBlock=some k) HL (by kernel_rfl) ?_;intro wh SW HSE HSI hkd HL;replace HE:=O (hkd.owns HE.out fun _ _=>id);clear hkd;have HLs:=HL;have HEs:=HE;refine tna 0 (.int .i64 0) rfl (sD9 HSI HL) ?_;refine tnb 1 (.bool true) rfl (sD9 HSI HL) ?_;refine tna 2 (.bool true) rfl (sD9 HSI HL) ?_;refine tnb 3 (.pointer (some ⟨b3,2,none⟩)) rfl (sD9 HSI HL) ?_;refine tnd 4 (.int .i64 3) rfl (.inl ⟨by rfl,fun w' h=>by have c:World.cell? w' ⟨b3,2,none⟩=some (.int .i64 3):=(aC (i:=2) ((HSE.out w' h).blk (HLs.out.b 0) (by rintro (e|e);exact (HLs.out.loc.aq 0) (.inl e);have h1:=HEI.out _ e;have h2:=HKS.out;have h3:=HNb3.out;omega)) (by rw[←HRC.out,←HLEV.out];rfl));go_simp⟩) (sD9 HSI HL) ?_;refine tnb 5 (.bool true) rfl (sD9 HSI HL) ?_;refine tna 6 (.bool true) rfl (sD9 HSI HL) ?_;refine tna 7 (.bool true) rfl (sD9 HSI HL) ?_;refine tna 8 (.int .i64 0) rfl (sD9 HSI HL) ?_;refine tnb 9 (.bool true) rfl (sD9 HSI HL) ?_;refine tna 10 (.bool true) rfl (sD9 HSI HL) ?_;refine tna 11 (.bool true) rfl (sD9 HSI HL) ?_;refine tna 12 (.int .i64 5) rfl (sD9 HSI HL) ?_;refine tnb 13 (.bool true) rfl (sD9 HSI HL) ?_;refine tna 14 (.bool true) rfl (sD9 HSI HL) ?_;refine tna 15 (.bool true) rfl (sD9 HSI HL) ?_;refine tna 16 (.pointer (some ⟨c,0,none⟩)) rfl (sD9 HSI HL) ?_;refine tnd 17 (.agg rc.toArray) rfl (ldD 35 (.tmp 3) b3 0 rc _ (fun w' h=>aD ((HSE.out w' h).blk (HLs.out.b 0) (by rintro (e|e);exact (HLs.out.loc.aq 0) (.inl e);have h1:=HEI.out _ e;have h2:=HKS.out;have h3:=HNb3.out;omega))) aJ (szP9 hrc)) (sD9 HSI HL) ?_;refine tna 18 (.slice a2 257 c2) rfl (sD9 HSI HL) ?_;refine wA9 19 ?_;go_wp2_with fail;refine((by rw[←HRC.out];exact iV HL.out.ki vrc u HUO.out (HL.out.pv0 0) (.slice a2 257 c2) (ex1) (by rw[fG];decide) (by rw[fG];exact Rd.of_owns HE.out) HBT.out:Calls _ _ _ wh (aX wh true))).mono ?_;rintro e wi ⟨rfl,hk⟩;replace HL:=O (HL.out.keeps hk);replace HE:=O (hk.owns HE.out fun _ _=>id);clear hk;go_wp2_with fail;refine⟨HSI.out _ HL.out.dr,?_⟩;refine tna 20 (.bool true) rfl (sD9 HSI HL) ?_;refine tna 21 (.bool true) rfl (sD9 HSI HL) ?_;refine tna 22 (.pointer (some ⟨c,0,none⟩)) rfl (sD9 HSI HL) ?_;refine tnd 23 (.agg rc.toArray) rfl (ldD 35 (.tmp 3) b3 0 rc _ (fun w' h=>aD ((HSE.out w' h).blk (HLs.out.b 0) (by rintro (e|e);exact (HLs.out.loc.aq 0) (.inl e);have h1:=HEI.out _ e;have h2:=HKS.out;have h3:=HNb3.out;omega))) aJ (szP9 hrc)) (sD9 HSI HL) ?_;refine tna 24 (.slice a2 257 c2) rfl (sD9 HSI HL) ?_;refine wA9 25 ?_;refine kG (by rfl) ?_;refine bs1 22 5 (.const (.int .u8 0)) (.int .u8 0) (by kernel_rfl) (by kernel_rfl) Tryz.underlying22 rfl ?_;intro b49 wj hbs hk hb;have HRN:Hid (Rd wj 1 (.slice (some ⟨b49,0,none⟩) 1 1) 1 [.int .u8 0]):=O (cG (n:=1) (size:=1) hb rfl (by unfold maxLen;omega));replace HL:=O (HL.out.keeps hk);replace HE:=O (hk.owns HE.out fun _ _=>id);clear hbs hk hb;refine wpList_nil ?_;refine⟨HSI.out _ HL.out.dr,?_⟩;refine wA9 26 ?_;have HML2:Hid (257+1≤maxLen/\w1.heap.size≤wj.heap.size):=O ⟨by unfold maxLen;omega,HL.out.keep.size⟩;refine kG (by rfl) ?_;refine aI rfl (.tmp 48) (.tmp 49) 22 rfl w1.heap.size 5 (.int .u8 0) 1 1 Tryz.underlying22 dF rfl (by decide) (.slice a2 257 c2) 257 (ex1.map vb) rfl HE.out (.slice (some ⟨b49,0,none⟩) 1 1) 1 [.int .u8 0] rfl HRN.out (by intro u hu;rcases List.mem_singleton.1 hu with rfl;rfl) HML2.out.1 (by omega) HML2.out.2 ?_;intro v5 wk ho5 hk5 hn5 hb5;obtain⟨a5,c5,rfl,-,-⟩:=(Rd.of_owns ho5).form;have HE2:Hid (wk.ownsRow w1.heap.size 5 1 (.slice a5 258 c5) 258 ((ex1++List.replicate 1 0).map vb)):=O (by rw[List.map_append];exact ho5);replace HL:=O (HL.out.off hk5 (fun i e=>⟨(HEI.out i e).1,fun e2=>(HB2B.out i e2).elim (fun e3=>by have h1:=HEI.out i e;have h2:=HBLT.out i e3;omega) (fun e3=>by have h1:=HEI.out i e;omega),(fun r hr=>by rw[List.mem_singleton] at hr;subst hr;exact fun e3=>by have h1:=HEI.out i e;have h2:=HNRC.out i e3;omega),(fun y hy=>by rw[List.mem_singleton] at hy;subst hy;exact fun e3=>by have h1:=HEI.out i e;have h2:=HKS.out;have h3:=HNb3.out;simp only at e3;omega)⟩) (fun i e=>.inr e));clear ho5 hk5 hn5 hb5 HRN HE HML2;refine wpList_nil ?_;refine⟨HSI.out _ HL.out.dr,?_⟩;refine wA9 27 ?_;go_wp2_with fail;refine((by rw[←HRC.out];exact iV HL.out.ki vrc u HUO.out (HL.out.pv0 0) (.slice a5 258 c5) (ex1++List.replicate 1 0) (by rw[show (ex1++List.replicate 1 (0:UInt8)).length=258 from by rw[List.length_append,fG,List.length_replicate]];decide) (by rw[show (ex1++List.replicate 1 (0:UInt8)).length=258 from by rw[List.length_append,fG,List.length_replicate]];exact Rd.of_owns HE2.out) (HBT.out.trans (sG ex1 1 (by rw[fG];decide)).symm):Calls _ _ _ wk (aX wk true))).mono ?_;rintro e wl ⟨rfl,hk⟩;replace HL:=O (HL.out.keeps hk);replace HE2:=O (hk.owns HE2.out fun _ _=>id);clear hk;go_wp2_with fail;refine⟨HSI.out _ HL.out.dr,?_⟩;refine tna 28 (.bool true) rfl (sD9 HSI HL) ?_;refine tna 29 (.bool true) rfl (sD9 HSI HL) ?_;refine wpAnyH_done (by kernel_rfl) ?_ _;refine noP ?_;have HP:=O (HL.out.toCs.fin HBN.out HKW.out);clear HL HLs HSE HSI;go_wp2_with fail;go_ret;exact⟨rfl,HP.out⟩
theorem KH{t:Tr}(h:dN t=bL ex1):bZ ((dN t).drop 256)=false:=by
 rw[h];cases e:bZ ((bL ex1).drop 256) with
 | false=>rfl
 | true =>
   rw[eL] at e
   have h2:(2:UInt8)∈(bL ex1).drop 256:=by
    unfold bL ex1;rw[List.append_assoc,List.drop_append,List.length_replicate,List.drop_eq_nil_of_le (by rw[List.length_replicate];decide),Nat.sub_self,List.drop_zero,List.nil_append];exact List.mem_append_left _ (List.mem_singleton.2 rfl)
   exact absurd (e 2 h2) (by decide)
theorem iT.over{w w':World}{t:Tr}{n:Nat}{e:Ending}(h:iT w t n e w')(hz:bZ ((dN t).drop n)=false):aF w (.tuple #[.slice none 0 0,.int .i64 12]) e w':=by
 unfold iT at h;rw[hz] at h;exact h
theorem D8(S:Kor):dD 3 S (bL [])=(some .hole,S):=by
 show (if bZ (bL []) then _ else _)=_;rw[if_pos (by rw[Bl,eL];exact fun x hx=>(List.mem_replicate.1 hx).2)]
theorem Aw(w:World):Calls Tryz.prog 4 #[] w (F2 w):=by
 have hzp:(aE (.slice none 0 0) zPt).length=35:=rfl;have hzb:=iJ;obtain⟨zp,hzpe⟩:∃l,aE (.slice none 0 0) zPt=l:=⟨_,rfl⟩
 have HOZP:Hid (∀u∈zp,u.oneCell'=true):=O (by rw[←hzpe];exact bR zPt);have HZPE:=O hzpe;rw[hzpe] at hzp hzb;have HZB:=O hzb;clear hzpe hzb;go_enter Tryz.func4,Tryz.ntmps4;go_wp2_with fail;refine((sH w 40 (by omega))).mono ?_;rintro e w1 ⟨c,M,B,rfl,hki,hB,hk⟩;have HBN:=O hB;have HKW:=O hk;have HL:=O (Cs.start hki);clear hki hB hk;obtain⟨u,S1,hlay,hroom,hbd1,hext1,huo,hbt,hpts⟩:=Av HL.out.ki.bd (Kor.room_new 40 M 0) (b:=ex1) (q:=5) (by rw[fG];decide) xJ (by omega);obtain⟨u2,S2,hlay2,hroom2,hbd2,hext2,huo2,hbt2,hpts2⟩:=Av hbd1 hroom (b:=ex2) (q:=4) (by rw[kX];decide) Dl (by omega);have HLAY:=O hlay;have HUO:=O huo;have HOV:=O (KH hbt);have HLAY2:=O hlay2;have HUO2:=O huo2;have HBT2:=O hbt2;clear hlay hroom hbd1 hext1 huo hbt hpts hlay2 hroom2 hbd2 hext2 huo2 hbt2 hpts2;have HL0:=HL;have HK0:=O (aA.refl aB w1);have HB0T:=O (fun i (e:B i)=>HL.out.ki.lt e);go_wp2_with fail;have HSZo:=O HK0.out.size;refine((kT w1 1 256 (by omega))).mono ?_;rintro e w2 ⟨ov,rfl,ho,hk⟩;obtain⟨oa,oc,rfl,-,-⟩:=(Rd.of_owns ho).form;have Ho:=O (aP ho HSZo.out);clear ho;replace HL:=O (HL.out.keeps hk);replace HK0:=O (HK0.out.trans hk);clear hk;have HML:Hid (256+1≤maxLen):=O (by unfold maxLen;omega);have HBS:Hid (w1.heap.size≤(w2.alloc (.cells #[.int .u8 2] 5)).heap.size):=O (by have:=HK0.out.size;first|exact this|(simp;omega))
 go_wp2_with (at_builtin;refine aI rfl (.tmp 23) (.tmp 24) 22 rfl w1.heap.size 5 _ 1 1 Tryz.underlying22 dF rfl (by omega) _ 256 _ rfl (Ho.out.alloc _) _ 1 _ rfl (oM _ _ _) (by intro u hu;rcases List.mem_singleton.1 hu with rfl;rfl) HML.out (by omega) HBS.out ?_)
 intro v2 wc ho5 hk5 hn5 hb5;obtain⟨a2,c2,rfl,-,-⟩:=(Rd.of_owns ho5).form;have hko:=HK0.out.trans' (((aA.refl aB w2).alloc (.cells #[.int .u8 2] 5)).any.trans hk5) (fun _ _ h=>h) (fun i hi e=>by have h1:=aR Ho.out e;omega);replace HL:=O (HL0.out.keeps hko)
 have HE:Hid (wc.ownsRow w1.heap.size 5 1 (.slice a2 257 c2) 257 (ex1.map vb)):=O (by
  have e:ex1.map vb=(List.replicate 256 1).map vb++[.int .u8 2]:=by unfold ex1;rw[List.map_append];rfl
  rw[e];exact ho5)
 have HEI:=O (fun i (hi:(Value.slice a2 257 c2).ownBlock=some i) e=>(by have h1:=aR HE.out hi;have h2:=HB0T.out i e;omega:False));clear ho5 hk5 hn5 hb5 hko Ho HL0 HK0 HB0T HML HBS HSZo;go_wp2_with fail;have hsz:=HL.out.keep.size;refine(((jT HL.out.ki (.slice a2 257 c2) ex1 (by rw[fG];decide) (by rw[fG];exact Rd.of_owns HE.out) (some u) S1 HLAY.out).mono fun e w h=>h.tr:Calls _ _ _ wc (jG wc c B (.slice none 0 0) (some u) S1))).mono ?_;rintro e wd ⟨vrc,B2,rfl,hpv,hki,hbb,-,hnw,hk⟩;replace hpv:aQ wd B2 vrc u.ptr:=hpv;rw[show xC (some u)=u.ptr from rfl,show Ak (some u)=0 from rfl];replace HL:=O (HL.out.laid hpv hki hbb (uU hnw) hk);obtain⟨rc,HRC,hrc,HORC⟩:=nmP hpv;rw[HRC.out];clear hsz hpv hki hbb hnw hk;clear HE HEI
 go_wp2_with ((with_reducible show WL _ _);refine al 35 (.agg aK.toArray) (aK.toArray) bJ ?_)
 intro b2 we hbs hk0 hb0_
 go_wp2_with ((with_reducible show WL _ _);refine sta 35 (.tmp 2) (.tmp 27) b2 0 rc hb0_ (by first|decide|(rw[List.size_toArray,hrc];exact Nat.le_refl _)|simp[hrc,aH]) (szP9 hrc) HORC.out ?_)
 intro wf hk hb;rw[aG _ _ (by first|rfl|(rw[List.size_toArray,hrc];rfl)|simp[hrc,aH])] at hb;replace hk:=hk0.trans' hk (U:=aB) (fun _ _ h=>h) (fun i hi e=>by omega);replace HL:=O (HL.out.new (trivial) hbs hk hb);clear hbs hk hb hk0 hb0_
 go_wp2_with ((with_reducible show WL _ _);refine wpList_load_mid rfl 35 (.tmp 2) rfl b2 0 rfl rc _ (aD (HL.out.b 0)) aJ rfl (szP9 hrc) ?_)
 refine(((by rw[←HRC.out];exact(Bf HL.out.ki vrc u HUO.out (HL.out.pv0 0) 256 (by omega)).mono fun e w h=>h.over HOV.out:Calls _ _ _ wf (aF wf (.tuple #[.slice none 0 0,.int .i64 12]))))).mono ?_;rintro e wg ⟨rfl,hk⟩;replace HL:=O (HL.out.keeps hk);clear hk;go_wp2_with fail;have hsz:=HL.out.keep.size;refine(((jT HL.out.ki (.slice none 0 0) [] (by decide) (Rd.nil _ 1) (some .hole) S1 (D8 S1)).mono fun e w h=>h.tr:Calls _ _ _ wg (jG wg c B2 (.slice none 0 0) (some .hole) S1))).mono ?_;rintro e wh ⟨vnc,B3,rfl,hpv,hki,hbb,-,hnw,hk⟩;replace hpv:aQ wh B3 vnc zPt:=hpv;rw[show xC (some .hole)=zPt from rfl,show Ak (some .hole)=0 from rfl];replace HL:=O (HL.out.laid hpv hki hbb (uU hnw) hk);obtain⟨nc,HNC,hnc,HONC⟩:=nmP hpv;rw[HNC.out];clear hsz hpv hki hbb hnw hk
 go_wp2_with ((with_reducible show WL _ _);refine al 35 (.agg aK.toArray) (aK.toArray) bJ ?_)
 intro b6 wi hbs hk0 hb0_
 go_wp2_with ((with_reducible show WL _ _);refine sta 35 (.tmp 6) (.tmp 38) b6 0 nc hb0_ (by first|decide|(rw[List.size_toArray,hnc];exact Nat.le_refl _)|simp[hnc,aH]) (szP9 hnc) HONC.out ?_)
 intro wj hk hb;rw[aG _ _ (by first|rfl|(rw[List.size_toArray,hnc];rfl)|simp[hnc,aH])] at hb;replace hk:=hk0.trans' hk (U:=aB) (fun _ _ h=>h) (fun i hi e=>by omega);replace HL:=O (HL.out.new (trivial) hbs hk hb);clear hbs hk hb hk0 hb0_;go_wp2_with fail;have HL0:=HL;have HK0:=O (aA.refl aB wj);have HB0T:=O (fun i (e:B3 i)=>HL.out.ki.lt e);go_wp2_with fail;have HSZo:=O HK0.out.size;refine((kT wj 0 256 (by omega))).mono ?_;rintro e wk ⟨ov,rfl,ho,hk⟩;obtain⟨oa,oc,rfl,-,-⟩:=(Rd.of_owns ho).form;have Ho:=O (aP ho HSZo.out);clear ho;replace HL:=O (HL.out.keeps hk);replace HK0:=O (HK0.out.trans hk);clear hk;go_wp2_with fail;have HSZq:=O HK0.out.size;refine((kT wk 1 256 (by omega))).mono ?_;rintro e wl ⟨ov,rfl,ho,hk⟩;obtain⟨qa,qc,rfl,-,-⟩:=(Rd.of_owns ho).form;have Hq:=O (aP ho HSZq.out);clear ho;replace HL:=O (HL.out.keeps hk);replace HK0:=O (HK0.out.trans hk);replace Ho:=O (hk.owns Ho.out fun _ _=>id);clear hk;have HML:Hid (256+256≤maxLen):=O (by unfold maxLen;omega);have HBS:Hid (wj.heap.size≤wl.heap.size):=O (by have:=HK0.out.size;first|exact this|(simp;omega))
 go_wp2_with (at_builtin;refine aI rfl (.tmp 40) (.tmp 41) 22 rfl wj.heap.size 5 _ 1 1 Tryz.underlying22 dF rfl (by omega) _ 256 _ rfl (Ho.out) _ 256 _ rfl (Rd.of_owns Hq.out) (by intro u hu;obtain⟨y,-,rfl⟩:=List.mem_map.1 hu;rfl) HML.out (by omega) HBS.out ?_)
 intro v2 wc2 ho5 hk5 hn5 hb5;obtain⟨a2,c2,rfl,-,-⟩:=(Rd.of_owns ho5).form;have hko:=HK0.out.trans' hk5 (fun _ _ h=>h) (fun i hi e=>by have h1:=aR Ho.out e;omega);replace HL:=O (HL0.out.keeps hko)
 have HE:Hid (wc2.ownsRow wj.heap.size 5 1 (.slice a2 512 c2) 512 (ex2.map vb)):=O (by
  have e:ex2.map vb=(List.replicate 256 0).map vb++(List.replicate 256 1).map vb:=by unfold ex2;rw[List.map_append]
  rw[e];exact ho5)
 have HEI:=O (fun i (hi:(Value.slice a2 512 c2).ownBlock=some i) e=>(by have h1:=aR HE.out hi;have h2:=HB0T.out i e;omega:False));have HEL:=O (fun i (hi:(Value.slice a2 512 c2).ownBlock=some i)=>(by obtain⟨cur,hc⟩:=aL HE.out hi;exact lt_of_block hc:i<wc2.heap.size));clear ho5 hk5 hn5 hb5 hko Ho Hq HL0 HK0 HB0T HML HBS HSZo HSZq;go_wp2_with fail;have hsz:=HL.out.keep.size;refine(((jT HL.out.ki (.slice a2 512 c2) ex2 (by rw[kX];decide) (by rw[kX];exact Rd.of_owns HE.out) (some u2) S2 HLAY2.out).mono fun e w h=>h.tr:Calls _ _ _ wc2 (jG wc2 c B3 (.slice none 0 0) (some u2) S2))).mono ?_;rintro e wq41 ⟨vsc,B4,rfl,hpv,hki,hbb,-,hnw,hk⟩;have HNB:=O hbb;replace HE:=O (hk.owns HE.out HEI.out);replace HEI:=O (fun i (hi:(Value.slice a2 512 c2).ownBlock=some i) (e:B4 i)=>(HNB.out i e).elim (HEI.out i hi) fun e2=>by have h1:=HEL.out i hi;omega);clear HNB;replace hpv:aQ wq41 B4 vsc u2.ptr:=hpv;rw[show xC (some u2)=u2.ptr from rfl,show Ak (some u2)=0 from rfl];replace HL:=O (HL.out.laid hpv hki hbb (uU hnw) hk);obtain⟨sc,HSC,hsc,HOSC⟩:=nmP hpv;rw[HSC.out];clear hsz hpv hki hbb hnw hk
 go_wp2_with ((with_reducible show WL _ _);refine al 35 (.agg aK.toArray) (aK.toArray) bJ ?_)
 intro b9 wq42 hbs hk0 hb0_
 go_wp2_with ((with_reducible show WL _ _);refine sta 35 (.tmp 9) (.tmp 47) b9 0 sc hb0_ (by first|decide|(rw[List.size_toArray,hsc];exact Nat.le_refl _)|simp[hsc,aH]) (szP9 hsc) HOSC.out ?_)
 intro wq43 hk hb;rw[aG _ _ (by first|rfl|(rw[List.size_toArray,hsc];rfl)|simp[hsc,aH])] at hb;replace hk:=hk0.trans' hk (U:=aB) (fun _ _ h=>h) (fun i hi e=>by omega);have HNb9:=O (show wq41.heap.size≤b9 from Nat.le_of_eq hbs);replace HL:=O (HL.out.new (trivial) hbs hk hb);replace HE:=O (hk.owns HE.out fun _ _=>id);clear hbs hk hb hk0 hb0_;go_wp2_with fail;refine F3 B4 HL (by kernel_rfl) ?_;intro wq44 SW HSE HSI hkd HL;replace HE:=O (hkd.owns HE.out fun _ _=>id);clear hkd;have HLs:=HL;have HEs:=HE;refine tna 0 (.int .i64 0) rfl (sD9 HSI HL) ?_;refine tnb 1 (.bool true) rfl (sD9 HSI HL) ?_;refine tna 2 (.bool true) rfl (sD9 HSI HL) ?_;refine tna 3 (.int .i64 12) rfl (sD9 HSI HL) ?_;refine tnb 4 (.bool true) rfl (sD9 HSI HL) ?_;refine tna 5 (.bool true) rfl (sD9 HSI HL) ?_;refine tna 6 (.bool true) rfl (sD9 HSI HL) ?_;refine tna 7 (.int .i64 0) rfl (sD9 HSI HL) ?_;refine tnb 8 (.bool true) rfl (sD9 HSI HL) ?_;refine tna 9 (.bool true) rfl (sD9 HSI HL) ?_;refine tna 10 (.bool true) rfl (sD9 HSI HL) ?_;refine tnd 11 (.agg nc.toArray) rfl (ldD 35 (.tmp 6) b6 0 nc _ (fun w' h=>aD (HLs.out.own (HSE.out w' h) 1)) aJ (szP9 hnc)) (sD9 HSI HL) ?_;refine wA9 12 ?_;go_wp2_with fail;refine((by rw[←HNC.out];exact cJ wq44 vnc zPt (HL.out.pv0 1).pt:Calls _ _ _ wq44 (aX wq44 zPt.hole))).mono ?_;rintro e wq45 ⟨rfl,hk⟩;rw[gP];replace HL:=O (HL.out.keeps hk);replace HE:=O (hk.owns HE.out fun _ _=>id);clear hk;go_wp2_with fail;refine⟨HSI.out _ HL.out.dr,?_⟩;refine tna 13 (.bool true) rfl (sD9 HSI HL) ?_;refine tna 14 (.bool true) rfl (sD9 HSI HL) ?_;refine tna 15 (.int .i64 0) rfl (sD9 HSI HL) ?_;refine tnb 16 (.bool true) rfl (sD9 HSI HL) ?_;refine tna 17 (.bool true) rfl (sD9 HSI HL) ?_;refine tna 18 (.bool true) rfl (sD9 HSI HL) ?_;refine tna 19 (.pointer (some ⟨c,0,none⟩)) rfl (sD9 HSI HL) ?_;refine tnd 20 (.agg sc.toArray) rfl (ldD 35 (.tmp 9) b9 0 sc _ (fun w' h=>aD (HLs.out.own (HSE.out w' h) 0)) aJ (szP9 hsc)) (sD9 HSI HL) ?_;refine tna 21 (.slice a2 512 c2) rfl (sD9 HSI HL) ?_;refine wA9 22 ?_;go_wp2_with fail;refine((by rw[←HSC.out];exact iV HL.out.ki vsc u2 HUO2.out (HL.out.pv0 0) (.slice a2 512 c2) (ex2) (by rw[kX];decide) (by rw[kX];exact Rd.of_owns HE.out) HBT2.out:Calls _ _ _ wq45 (aX wq45 true))).mono ?_;rintro e wq46 ⟨rfl,hk⟩;replace HL:=O (HL.out.keeps hk);replace HE:=O (hk.owns HE.out fun _ _=>id);clear hk;go_wp2_with fail;refine⟨HSI.out _ HL.out.dr,?_⟩;refine tna 23 (.bool true) rfl (sD9 HSI HL) ?_;refine tna 24 (.bool true) rfl (sD9 HSI HL) ?_;refine tna 25 (.pointer (some ⟨c,0,none⟩)) rfl (sD9 HSI HL) ?_;refine tnd 26 (.agg nc.toArray) rfl (ldD 35 (.tmp 6) b6 0 nc _ (fun w' h=>aD (HLs.out.own (HSE.out w' h) 1)) aJ (szP9 hnc)) (sD9 HSI HL) ?_;refine wA9 27 ?_;go_wp2_with fail;refine(kT wq46 0 3 (by omega)).mono ?_;rintro e wq47 ⟨v_,rfl,ho,hk⟩;obtain⟨ra,rc3,rfl,-,-⟩:=(Rd.of_owns ho).form;have HR3:=O ho;replace HL:=O (HL.out.keeps hk);replace HE:=O (hk.owns HE.out fun _ _=>id);clear ho hk;go_wp2_with fail;refine⟨HSI.out _ HL.out.dr,?_⟩;refine wA9 28 ?_;go_wp2_with fail;refine((by rw[←HNC.out];exact iV HL.out.ki vnc .hole (Tr.ok_hole _ 3) (HL.out.pv0 1) (.slice ra 3 rc3) (List.replicate 3 0) (by rw[List.length_replicate];decide) (by rw[List.length_replicate];exact Rd.of_owns HR3.out) (D6.trans (sG [] 3 (by decide)).symm):Calls _ _ _ wq47 (aX wq47 true))).mono ?_;rintro e wq48 ⟨rfl,hk⟩;replace HL:=O (HL.out.keeps hk);replace HE:=O (hk.owns HE.out fun _ _=>id);replace HR3:=O (hk.owns HR3.out fun _ _=>id);clear hk;go_wp2_with fail;refine⟨HSI.out _ HL.out.dr,?_⟩;refine tna 29 (.bool true) rfl (sD9 HSI HL) ?_;refine tna 30 (.bool true) rfl (sD9 HSI HL) ?_;refine wpAnyH_done (by kernel_rfl) ?_ _;refine noP ?_;replace HL:=O HL.out.toCs;clear HSE HSI HLs HR3 HEs;go_wp2_with fail;refine((kT wq48 0 16385 (by omega))).mono ?_;rintro e wq49 ⟨ov,rfl,ho,hk⟩;obtain⟨ta,tc,rfl,-,-⟩:=(Rd.of_owns ho).form;clear ho;replace HL:=O (HL.out.keeps hk);replace HE:=O (hk.owns HE.out fun _ _=>id);clear hk;go_wp2_with fail;refine(((by rw[←HZPE.out];exact Bg HL.out.ki ta 16385 tc (by omega)):Calls _ _ _ wq49 (aF wq49 (.tuple #[.agg zp.toArray,.int .i64 3])))).mono ?_;rintro e wq50 ⟨rfl,hk⟩;replace HL:=O (HL.out.keeps hk);replace HE:=O (hk.owns HE.out fun _ _=>id);clear hk
 go_wp2_with ((with_reducible show WL _ _);refine al 35 (.agg aK.toArray) (aK.toArray) bJ ?_)
 intro b12 wq51 hbs hk0 hb0_
 go_wp2_with ((with_reducible show WL _ _);refine sta 35 (.tmp 12) (.tmp 83) b12 0 zp hb0_ (by first|decide|(rw[List.size_toArray,hzp];exact Nat.le_refl _)|simp[hzp,aH]) (szP9 hzp) HOZP.out ?_)
 intro wq52 hk hb;rw[aG _ _ (by first|rfl|(rw[List.size_toArray,hzp];rfl)|simp[hzp,aH])] at hb;replace hk:=hk0.trans' hk (U:=aB) (fun _ _ h=>h) (fun i hi e=>by omega);replace HL:=O (HL.out.new (trivial) hbs hk hb);replace HE:=O (hk.owns HE.out fun _ _=>id);clear hbs hk hb hk0 hb0_
 go_wp2_with ((with_reducible show WL _ _);refine wpList_load_mid rfl 35 (.tmp 6) rfl b6 0 rfl nc _ (aD (HL.out.b 2)) aJ rfl (szP9 hnc) ?_)
 refine(((by rw[←HNC.out];exact F8 HL.out.ki vnc zPt (HL.out.pv0 1).pt (by decide) 16385 (by omega)):Calls _ _ _ wq52 (aF wq52 (.tuple #[.slice none 0 0,.int .i64 2])))).mono ?_;rintro e wq53 ⟨rfl,hk⟩;replace HL:=O (HL.out.keeps hk);replace HE:=O (hk.owns HE.out fun _ _=>id);clear hk
 go_wp2_with ((with_reducible show WL _ _);first
  | refine bld 49 #[(0,.const (.int .i64 0)),(1,.const (.int .i64 5))] [(0,.int .i64 0),(1,.int .i64 5)] (.agg (aN ⟨0,5⟩).toArray) L8 ?_
  | refine bsA 31 49 (.tmp 93) Tryz.underlying31 oP (by omega) (aN ⟨0,5⟩) rfl (by omega) ?_)
 intro b94 wq54 hbs hk hb;have HG5:=O (Nf hb);replace HL:=O (HL.out.new trivial hbs hk hb);replace HE:=O (hk.owns HE.out fun _ _=>id);clear hbs hk hb;obtain⟨gc,hgce⟩:∃x,aE (.slice (some ⟨b94,0,none⟩) 1 1) p05=x:=⟨_,rfl⟩
 have HGC:=O hgce;have hbg:=Ks b94;rw[hgce] at hbg;have HBG:=O hbg;clear hgce hbg
 go_wp2_with ((with_reducible show WL _ _);refine bld 35 #[(0,.tmp 94),(1,.const (.int .i64 1)),(2,.const (.int .i64 2))] [(0,.slice (some ⟨b94,0,none⟩) 1 1),(1,.int .i64 1),(2,.int .i64 2)] (.agg gc.toArray) HBG.out ?_)
 refine(((by rw[←HGC.out];exact IP HL.out.ki (.slice (some ⟨b94,0,none⟩) 1 1) p05 HG5.out Kr L7 (by decide) 0):Calls _ _ _ wq54 (aF wq54 (.tuple #[.slice none 0 0,.int .i64 2])))).mono ?_;rintro e wq55 ⟨rfl,hk⟩;replace HL:=O (HL.out.keeps hk);replace HE:=O (hk.owns HE.out fun _ _=>id);clear hk;go_wp2_with fail;go_wp2_with fail;refine((D7 wq55)).mono ?_;rintro e wq56 ⟨rfl,hk⟩;replace HL:=O (HL.out.keeps hk);replace HE:=O (hk.owns HE.out fun _ _=>id);clear hk;go_wp2_with fail;refine((qH (.slice none 0 0) [] (by decide) (Rd.nil _ 1) 0 KE)).mono ?_;rintro e wq57 ⟨rfl,hk⟩;replace HL:=O (HL.out.keeps hk);replace HE:=O (hk.owns HE.out fun _ _=>id);clear hk;go_wp2_with fail;refine((qH (.slice a2 512 c2) (ex2) (by rw[kX];decide) (by rw[kX];exact Rd.of_owns HE.out) 4 Dl)).mono ?_;rintro e wq58 ⟨rfl,hk⟩;replace HL:=O (HL.out.keeps hk);replace HE:=O (hk.owns HE.out fun _ _=>id);clear hk;go_wp2_with fail;refine((kT wq58 1 1280 (by omega))).mono ?_;rintro e wq59 ⟨ov,rfl,ho,hk⟩;obtain⟨ka,kc,rfl,-,-⟩:=(Rd.of_owns ho).form;have H3:=O ho;clear ho;replace HL:=O (HL.out.keeps hk);replace HE:=O (hk.owns HE.out fun _ _=>id);clear hk;go_wp2_with fail;refine((qH (.slice ka 1280 kc) (ex3) (by rw[At];decide) (by rw[At];exact Rd.of_owns H3.out) 9 KD)).mono ?_;rintro e wq60 ⟨rfl,hk⟩;replace HL:=O (HL.out.keeps hk);replace HE:=O (hk.owns HE.out fun _ _=>id);replace H3:=O (hk.owns H3.out fun _ _=>id);clear hk;have HP:=O (HL.out.fin HBN.out HKW.out);clear HL;go_wp2_with fail;go_ret;exact⟨rfl,HP.out⟩
theorem bs0{P:Program}{w:World}{ops:Array Oper}{rest:List Oper}{o:Oper}{a:Act}{Q:Exit->Act->World->Prop}(t e:TypeId)(hsz:(P.info? e).map (·.size)=some 1)(hu:P.underlying t=some (.slice e))
 (h:∀b w',w.heap.size=b->aA aB w w'->w'.heap[b]?=some (.cells #[] e (0,0))->wpList P ops Q rest (a.put o.dst (.slice (some ⟨b,0,none⟩) 0 0)) w') (hg:o.guard=none:=by rfl) (ho:o.op=.buildSlice t 0 #[]:=by rfl):wpList P ops Q (o::rest) a w:=by
 cases hie:P.info? e with
 | none=>simp[hie] at hsz
 | some ie =>
   have hr:(Instr.buildSlice t 0 #[]).run P w=.ok (.slice (some ⟨w.heap.size,0,none⟩) 0 0) (w.alloc (.cells #[] e)):=by
    simp[Instr.buildSlice,run_underlying hu,sizeOf,typeInfo,hie,newRow,Instr.fill]
    congr 2
    exact Array.eq_empty_of_size_eq_zero (by simp)
   refine wpList_plain hg fun K hK=>?_
   unfold Oper.wp execOp;simp only[ho,List.map_toArray,List.map_nil,Sem.run_bind,hr,Result.andThen_ok];exact hK _ _ (h _ _ rfl ((aA.refl _ _).alloc _) (heap_alloc_new _ _))
theorem KJ{w:World}{base b:Nat}{e:TypeId}(h:w.heap[b]?=some (.cells #[] e (0,0)))(hb:base≤b):w.ownsRow base e 1 (.slice (some ⟨b,0,none⟩) 0 0) 0 []:=
 ⟨rfl,.inr ⟨b,0,#[],rfl,hb,h,Nat.le_refl _,Nat.zero_le _,by simp,by simp⟩⟩
end
end Go.Proofs.YthihofpfonfjfaaGreatDoor
