/- A part of the proof. Conditions: those told. -/
import Derived.Test.YtjkbekifgobeaaaGreatDoorB1
import Derived.Test.YtjkbekifgobeaaaGreatDoorB22
namespace Go.Proofs.YtjkbekifgobeaaaGreatDoor
set_option maxHeartbeats 64000000
set_option maxRecDepth 100000
set_option linter.unusedVariables false
section
open Go.RowKit Go.Maps Go.ChangeMaps
def Mg(w:World)(m:Nat)(pc:List Value)(e:Ending)(w':World):Prop:=∃b3 b4 b5,e=.returned (.func (.func 249) #[] #[.pointer (some ⟨b4,0,none⟩),.pointer (some ⟨b5,0,none⟩),.pointer (some ⟨b3,0,none⟩)])/\w'.heap[b4]?=some (.cells pc.toArray 26 (0,0))/\w'.heap[b5]?=some (.cells #[.int .i64 (-1)] 3 (0,0))/\w'.heap[b3]?=some (.cells #[.pointer (some ⟨m,0,none⟩)] 38 (0,0))/\(w.heap.size≤b3/\w.heap.size≤b4/\w.heap.size≤b5)/\aA aB w w'
theorem FW(w:World)(m:Nat)(pc:List Value)(hpc:pc.length=35)(h1:∀u∈pc,u.oneCell'=true):Calls Tryz.prog 228 #[.pointer (some ⟨m,0,none⟩),.agg pc.toArray,.int .i64 (-1)] w (Mg w m pc):=by
 have HOP:=O h1;have HL:=O (Loc.nil aB aB w);clear h1;go_enter Tryz.func228,Tryz.ntmps228
 go_wp2_with ((with_reducible show WL _ _);refine bxL HL 38 (.tmp 0) (#[.pointer (some ⟨m,0,none⟩)]) ?_)
 intro b3 w1 hk HL;clear hk
 go_wp2_with ((with_reducible show WL _ _);refine bxL HL 26 (.tmp 1) (pc.toArray) ?_)
 intro b4 w2 hk HL;clear hk
 go_wp2_with ((with_reducible show WL _ _);refine bxL HL 3 (.tmp 2) (#[.int .i64 (-1)]) ?_)
 intro b5 w3 hk HL;clear hk;go_wp2_with fail;go_wp2_with fail;go_ret;exact⟨b3,b4,b5,rfl,HL.out.b 1,HL.out.b 0,HL.out.b 2,⟨(HL.out.lt 2).1,(HL.out.lt 1).1,(HL.out.lt 0).1⟩,HL.out.keep⟩
theorem Loc.put{S B:Nat->Prop}{w0 w:World}{l:List (Nat×Array Value×TypeId)}(h:Loc S B w0 w l){j:Nat}{o o':Obj}(hl:w.heap[j]?=some o)(ho:o.isCells=false)(hj:w0.heap.size≤j):Loc S B w0 (w.putObj j o') l:=by
 have kd:=aA.of_grown (grownBy_putObj' w j o');refine⟨h.keep.trans' kd (fun _ _ h=>h) (fun i hi e=>by cases e;omega),h.ge,h.nd,fun x hx=>?_,h.ap⟩;have h1:=h.at_ x hx;refine kd.blk h1 (fun e=>?_);have e2:j=x.1:=Option.some.inj e;rw[e2,h1] at hl;cases hl
 cases ho
theorem wW{w:World}{j base n sz:Nat}{o o':Obj}{T:TypeId}{v:Value}{cs:List Value}(h:w.ownsRow base T sz v n cs)(hl:w.heap[j]?=some o)(ho:o.isCells=false):(w.putObj j o').ownsRow base T sz v n cs:=
 (aA.of_grown (grownBy_putObj' w j o')).owns h fun k hb e=>by
   cases e
   obtain⟨cur,hc⟩:=aL h hb;rw[hl] at hc;cases hc
   cases ho
theorem Aq{fn:Func}{p q r:Tmp}{tp tq tr:TypeId}(h:fn.results=#[.cell p tp,.cell q tq,.cell r tr])(tmps:Array Value)(P:Program)(w:World)(a b c:Addr)(x y z:Value)
 (h1:tmps.getD p undef=.pointer (some a)) (h2:tmps.getD q undef=.pointer (some b)) (h3:tmps.getD r undef=.pointer (some c)) (hx:(loadVar tp a).run P w=.ok x w) (hy:(loadVar tq b).run P w=.ok y w) (hz:(loadVar tr c).run P w=.ok z w) :
 (results fn tmps).run P w=.ok (.tuple #[x,y,z]) w:=by
 simp only[results,h];simp only[Array.getD_eq_getD_getElem?] at h1 h2 h3;simp[Sem.run_bind,Result.andThen,asAddr,h1,h2,h3,hx,hy,hz]
structure FdI(w0:World)(b6 b7 b8:Nat)(bs:List UInt8)(W:World):Prop where
 v:∃v,W.heap[b6]?=some (.cells #[v] 27 (0,0))/\W.ownsRow w0.heap.size 5 1 v 256 (bs.map vb)
 n:W.heap[b7]?=some (.cells #[.slice none 0 0] 22 (0,0))
 z:W.heap[b8]?=some (.cells #[.int .i64 0] 46 (0,0))
 k:aA aB w0 W
theorem FdI.put{w0 W:World}{b6 b7 b8:Nat}{bs:List UInt8}(h:FdI w0 b6 b7 b8 bs W){j:Nat}{o o':Obj}(hl:W.heap[j]?=some o)(ho:o.isCells=false)(hj:w0.heap.size≤j):FdI w0 b6 b7 b8 bs (W.putObj j o'):=by
 obtain⟨⟨v,h1,h2⟩,h3,h4,h5⟩:=h;have kd:=aA.of_grown (grownBy_putObj' W j o')
 have no:∀{k:Nat}{cs:Array Value}{t:TypeId},W.heap[k]?=some (.cells cs t (0,0))->¬some j=some k:=fun hc e=>by
  cases e;rw[hl] at hc;cases hc;cases ho
 exact⟨⟨v,kd.blk h1 (no h1),wW h2 hl ho⟩,kd.blk h3 (no h3),kd.blk h4 (no h4),h5.trans' kd (fun _ _ h=>h) (fun i hi e=>by cases e;omega)⟩
theorem Bc(T:Array Value)(p q:Tmp)(a b:Value):((#[p,q].zip #[a,b]).foldl (fun(t:Array Value) (x:Tmp×Value)=>match x with|(p,v)=>t.setIfInBounds p v) T)=(T.setIfInBounds p a).setIfInBounds q b:=by simp
def Di(w:World)(bs:List UInt8)(e:Ending)(w':World):Prop:=∃v,e=.returned (.tuple #[v,.slice none 0 0,.int .i64 0])/\w'.ownsRow w.heap.size 5 1 v 256 (bs.map vb)/\aA aB w w'
theorem FX{w:World}{m a D Z nw:Nat}{B:Nat->Prop}{Mm:Nat->Nat->List UInt8}(h:bN w a B D Z Mm nw)(hm:eU w m a)(pv:Value)(p:Pt)(hp:PtV w pv p){d s:Nat}{rest:List Ad}(hpa:p.addrs=⟨(d:Int),(s:Int)⟩::rest)(hd:d<D)(hs:s<Z)(hsum:p.sum=dA (Mm d s)) :
 Calls Tryz.prog 189 #[.pointer (some ⟨m,0,none⟩),.agg (aF pv p).toArray,.int .i64 (-1)] w (Di w (Mm d s)):=by
 have hpc:=aN (v:=pv) hp.sum;obtain⟨pc,hpcs⟩:∃l,aF pv p=l:=⟨_,rfl⟩
 have HOP:Hid (∀u∈pc,u.oneCell'=true):=O (by rw[←hpcs];obtain⟨oa,ca,rfl,-,-⟩:=hp.rd.form;exact bQ p);have HPS:=O hpcs;rw[hpcs] at hpc ⊢;have HA:=O h;have HMM:=O hm;have HPT:=O hp;have HPA:=O hpa;have HD:=O hd;have HZ:=O hs;have HSM:=O hsum;have HL:=O (Loc.nil aB aB w);clear h hm hp hpcs hpa hd hs hsum;refine callsIn_wide.1 (callsIn_of_wp_marks (F:=Fence.wide) (n:=3) Tryz.func189 rfl trivial (wpIn_wide.2 ?_));simp only[Tryz.ntmps189,List.size_toArray,List.length_cons,List.length_nil,Nat.reduceAdd,Nat.reduceSub,Array.replicate_succ,Array.replicate_zero,List.push_toArray,List.append_toArray,List.nil_append,List.cons_append]
 go_wp2_with ((with_reducible show WL _ _);refine bxL HL 26 (.tmp 1) (pc.toArray) ?_)
 intro b4 w1 hk HL;replace HA:=O (HA.out.keep0 hk);replace HMM:=O (hk.blk HMM.out id);replace HPT:=O (HPT.out.keep hk fun _ _=>id);clear hk
 go_wp2_with ((with_reducible show WL _ _);refine alL HL 27 (.slice none 0 0) (#[.slice none 0 0]) NN ?_)
 intro b6 w2 hk HL;replace HA:=O (HA.out.keep0 hk);replace HMM:=O (hk.blk HMM.out id);replace HPT:=O (HPT.out.keep hk fun _ _=>id);clear hk
 go_wp2_with ((with_reducible show WL _ _);refine alL HL 22 (.slice none 0 0) (#[.slice none 0 0]) MZ ?_)
 intro b7 w3 hk HL;replace HA:=O (HA.out.keep0 hk);replace HMM:=O (hk.blk HMM.out id);replace HPT:=O (HPT.out.keep hk fun _ _=>id);clear hk
 go_wp2_with ((with_reducible show WL _ _);refine alL HL 46 (.int .i64 0) (#[.int .i64 0]) jR ?_)
 intro b8 w4 hk HL;replace HA:=O (HA.out.keep0 hk);replace HMM:=O (hk.blk HMM.out id);replace HPT:=O (HPT.out.keep hk fun _ _=>id);clear hk
 go_wp2_with ((with_reducible show WL _ _);refine alL HL 22 (.slice none 0 0) (#[.slice none 0 0]) MZ ?_)
 intro b9 w5 hk HL;replace HA:=O (HA.out.keep0 hk);replace HMM:=O (hk.blk HMM.out id);replace HPT:=O (HPT.out.keep hk fun _ _=>id);clear hk
 go_wp2_with ((with_reducible show WL _ _);refine wpList_load_mid rfl 26 (.tmp 4) rfl b4 0 rfl pc _ (aD (HL.out.b 4)) aI rfl (szP9 hpc) ?_)
 have HLQ:=HL;refine(FW w5 m pc hpc HOP.out).mono ?_;rintro e w6 ⟨c3,c4,c5,rfl,h4,h5,h3,hge,hk⟩;replace HL:=O (HL.out.keeps hk);replace HA:=O (HA.out.keep0 hk);replace HMM:=O (hk.blk HMM.out id);replace HPT:=O (HPT.out.keep hk fun _ _=>id);clear hk;have H4:=O h4;have H5:=O h5;have H3:=O h3;have HGE:=O hge;clear h4 h5 h3 hge;go_wp2_with fail;have hwp:=HPS.out;have hgb:=HGE.out;have hbl6:=(HLQ.out.lt 3);have hbl7:=HLQ.out.lt 2;have hbl8:=HLQ.out.lt 1;have H4':Hid (w6.heap[c4]?=some (.cells (aF pv p).toArray 26 (0,0))):=O (by rw[HPS.out];exact H4.out);have HCP:=Eb (Res:=fun k=>k=b6\/k=b7\/k=b8) HA.out HMM.out pv p HPT.out HPA.out HD.out HZ.out HSM.out H4'.out H5.out H3.out (fun k hk=>by have:=(HL.out.lt 1).2;have:=(HL.out.lt 2).2;have:=(HL.out.lt 3).2;rcases hk with rfl|rfl|rfl<;>omega) (3-1);have h6s:b6<w6.heap.size:=(HL.out.lt 3).2;have h7s:b7<w6.heap.size:=(HL.out.lt 2).2;have h8s:b8<w6.heap.size:=(HL.out.lt 1).2;have h9s:b9<w6.heap.size:=(HL.out.lt 0).2;have HW:=O HL.out.keep.size;clear HLQ HPT HMM HA H3 H4 H4' H5 hgb hbl6 hbl7 hbl8 hwp;refine wpIn_wide (n:=3).1 ?_;refine BD rfl (by omega) (gf:=249) rfl trivial (enters_of Tryz.func249 (by kernel_rfl) rfl) (encs:=yR ⟨(d:Int),(s:Int)⟩) (R:=CpR (Mm d s)) (fun _ _ _ h=>h.1) HCP (fun _=>rfl) (FdI w b6 b7 b8 (Mm d s)) (fun W l o hl hI ho hoc o'=>hI.put ho hoc (by have:=HW.out;omega)) ?round ?stop
 case round =>
  rintro l ⟨px,cx⟩ W W1 hk ⟨hk1,ho⟩ hl;replace HL:=O (HL.out.keeps (hk.trans hk1));have HO:=O ho;have hks:=hk.size;have h6w:b6<W.heap.size:=by omega
  have h7w:b7<W.heap.size:=by omega
  have h8w:b8<W.heap.size:=by omega
  have HX:=O (aA.refl aB W1);clear hk hk1 ho HCP;unfold yR;dsimp only;rw[Bc];simp only[List.setIfInBounds_toArray,List.set_cons_zero,List.set_cons_succ];refine wpIn_seq ?_;refine cE (by kernel_rfl) (fun ⟨_,_,h⟩=>h) ?_
  go_wp2_with ((with_reducible show WL _ _);refine al 58 (.agg jG.toArray) (jG.toArray) tQ ?_)
  intro b10 w7 hbs hk0 hb0_
  go_wp2_with ((with_reducible show WL _ _);refine sta 58 (.tmp 10) (.tmp 16) b10 0 (aO ⟨(d:Int),(s:Int)⟩) hb0_ (by first|decide|(rw[List.size_toArray,bA];exact Nat.le_refl _)|simp[bA]) (by rw[bA];exact iQ) (bM _) ?_)
  intro w8 hk hb;rw[aH _ _ (by first|rfl|(rw[List.size_toArray,bA];rfl)|simp[bA])] at hb;replace hk:=hk0.trans' hk (U:=aB) (fun _ _ h=>h) (fun i hi e=>by omega);replace HL:=O (HL.out.new (fun _ h=>h.elim) hbs hk hb);replace HX:=O (HX.out.trans hk);replace HO:=O (hk.owns HO.out fun _ _=>id);clear hbs hk hb hk0 hb0_;go_wp2_with fail;refine cE (by kernel_rfl) (fun ⟨_,_,h⟩=>h) ?_
  go_wp2_with ((with_reducible show WL _ _);refine al 301 (.agg #[.int .i64 0,.slice none 0 0]) (#[.int .i64 0,.slice none 0 0]) Dg ?_)
  intro b11 w9 hbs hk0 hb0_
  go_wp2_with ((with_reducible show WL _ _);refine sta 301 (.tmp 11) (.tmp 17) b11 0 ([.int .i64 0,.slice px 256 cx]) hb0_ (by first|decide|(rw[List.size_toArray,rfl];exact Nat.le_refl _)|simp[]) wV (by intro v hv;simp only[List.mem_cons,List.not_mem_nil,or_false] at hv;rcases hv with rfl|rfl<;>rfl) ?_)
  intro wa hk hb;rw[aH _ _ (by first|rfl|(rw[List.size_toArray,rfl];rfl)|simp[])] at hb;replace hk:=hk0.trans' hk (U:=aB) (fun _ _ h=>h) (fun i hi e=>by omega);replace HL:=O (HL.out.new (fun _ h=>h.elim) hbs hk hb);replace HX:=O (HX.out.trans hk);replace HO:=O (hk.owns HO.out fun _ _=>id);clear hbs hk hb hk0 hb0_;go_wp2_with fail;refine⟨fD HX.out (fun _ _ _ h=>h.elim),KpC.of HX.out (fun _ h=>h.elim),fun o o' hoo hoc=>?_⟩;have hlw:w.heap.size≤l:=by have:=HW.out;omega
  replace HL:=O (HL.out.put (o':=o') hoo hoc hlw);replace HO:=O (wW (o':=o') HO.out hoo hoc);clear HX;generalize World.putObj wa l o'=V at HL HO ⊢;have HLV:=HL;have HX:Hid (aA (fun k=>k=b6\/k=b7\/k=b8) V V):=O (aA.refl _ _);clear hoo hoc;refine wpIn_block ?_;refine wpIn_seq ?_;refine cE (by kernel_rfl) (fun ⟨_,_,h⟩=>h) ?_;have c1:V.cell? ⟨b11,0,none⟩=some (.int .i64 0):=(aC (i:=0) (HL.out.b 0) rfl)
  go_wp2_with fail;clear c1;refine wpIn_block ?_;refine wpIn_seq ?_;refine cE (by kernel_rfl) (fun ⟨_,_,h⟩=>h) ?_;go_wp2_with fail;refine wpIn_cond_true rfl ?_;refine wpIn_seq ?_;go_wp2_with fail;obtain⟨S,hS0⟩:∃S:World->Prop,S=fun w'=>aA (fun k=>k=b6\/k=b7\/k=b8) V.drew w':=⟨_,rfl⟩
  have HSE:=O (show ∀w',S w'->aA (fun k=>k=b6\/k=b7\/k=b8) V.drew w' from fun w' h=>by rw[hS0] at h;exact h);have HSI:=O (show ∀w',aA (fun k=>k=b6\/k=b7\/k=b8) V.drew w'->S w' from fun w' h=>by rw[hS0];exact h);have hS:S V.drew:=by rw[hS0];exact aA.refl _ _
  have hkd:=(aA.refl aB V).drew;clear hS0;refine gX (by kernel_rfl) (by kernel_rfl) (fun ⟨_,_,h⟩=>h) (wpAny_of_held (S:=S) _ _ _ _ ?_);change wpAnyH _ _ _ _ _ _ _ _ V.drew;generalize V.drew=wb at HSE HSI hS hkd ⊢;replace HL:=O (HL.out.keeps hkd);replace HX:=O (HX.out.trans (aA.any hkd));replace HO:=O (hkd.owns HO.out fun _ _=>id);clear hkd;have HLs:=HL;have HXs:=HX;have HOs:=HO;refine tnb 0 (.pointer (some ⟨b11,1,none⟩)) rfl hS ?_;refine tnd 1 (.slice px 256 cx) rfl (.inl ⟨by rfl,fun w' hw'=>by have c:World.cell? w' ⟨b11,1,none⟩=some (.slice px 256 cx):=aC (i:=1) ((HSE.out w' hw').blk (HLs.out.b 0) (fun e=>by rcases e with e|e|e<;>first|exact bK (i:=5) HLs.out.nd rfl 0 (by decide) rfl e|exact bK (i:=4) HLs.out.nd rfl 0 (by decide) rfl e|exact bK (i:=3) HLs.out.nd rfl 0 (by decide) rfl e)) rfl;go_simp⟩) hS ?_;refine tnd 2 (.slice none 0 0) rfl (.inl ⟨by rfl,fun w' hw'=>by have c:World.cell? w' ⟨b9,0,none⟩=some (.slice none 0 0):=aC (i:=0) ((HSE.out w' hw').blk (HLs.out.b 2) (fun e=>by rcases e with e|e|e<;>first|exact bK (i:=5) HLs.out.nd rfl 2 (by decide) rfl e|exact bK (i:=4) HLs.out.nd rfl 2 (by decide) rfl e|exact bK (i:=3) HLs.out.nd rfl 2 (by decide) rfl e)) rfl;go_simp⟩) hS ?_;refine wA9 3 ?_;refine sta 27 (.tmp 6) (.tmp 23) b6 0 ([.slice px 256 cx]) (HL.out.b 5) (by simp) (by kernel_rfl) (one9) ?_;intro wc hk hb;replace hb:wc.heap[b6]?=some (.cells #[.slice px 256 cx] 27 (0,0)):=hb;have hS1:=HSI.out _ ((HSE.out _ hS).trans' hk (fun _ _ h=>h) (fun i hi e=>(.inl e)));clear hS;replace HL:=O (HL.out.set 5 hk hb);replace HX:=O (HX.out.trans' hk (fun _ _ h=>h) (fun i _ e=>by first|exact .inl e|exact .inr (.inl e)|exact .inr (.inr e)));replace HO:=O (hk.owns HO.out fun i hi e=>by have:=aQ HO.out hi;omega);clear hk hb;refine wpList_nil ?_;refine⟨hS1,?_⟩;refine wA9 4 ?_;refine sta 22 (.tmp 7) (.tmp 24) b7 0 ([.slice none 0 0]) (HL.out.b 4) (by simp) (by kernel_rfl) (one9) ?_;intro wd hk hb;replace hb:wd.heap[b7]?=some (.cells #[.slice none 0 0] 22 (0,0)):=hb;have hS2:=HSI.out _ ((HSE.out _ hS1).trans' hk (fun _ _ h=>h) (fun i hi e=>(.inr (.inl e))));clear hS1;replace HL:=O (HL.out.set 4 hk hb);replace HX:=O (HX.out.trans' hk (fun _ _ h=>h) (fun i _ e=>by first|exact .inl e|exact .inr (.inl e)|exact .inr (.inr e)));replace HO:=O (hk.owns HO.out fun i hi e=>by have:=aQ HO.out hi;omega);clear hk hb;refine wpList_nil ?_;refine⟨hS2,?_⟩;refine wA9 5 ?_;refine sta 46 (.tmp 8) (.const (.int .i64 0)) b8 0 ([.int .i64 0]) (HL.out.b 3) (by simp) (by kernel_rfl) (one9) ?_;intro we hk hb;replace hb:we.heap[b8]?=some (.cells #[.int .i64 0] 46 (0,0)):=hb;have hS3:=HSI.out _ ((HSE.out _ hS2).trans' hk (fun _ _ h=>h) (fun i hi e=>(.inr (.inr (e)))));clear hS2;replace HL:=O (HL.out.set 3 hk hb);replace HX:=O (HX.out.trans' hk (fun _ _ h=>h) (fun i _ e=>by first|exact .inl e|exact .inr (.inl e)|exact .inr (.inr e)));replace HO:=O (hk.owns HO.out fun i hi e=>by have:=aQ HO.out hi;omega);clear hk hb;refine wpList_nil ?_;refine⟨hS3,?_⟩;refine wpAnyH_done (by kernel_rfl) ?_ _;clear hS3 HSE HSI HLs HXs HOs;refine wpIn_ret ?_;have HF:Hid (FdI w b6 b7 b8 (Mm d s) we):=O ⟨⟨_,HL.out.b 5,aU HO.out (by have:=HW.out;omega)⟩,HL.out.b 4,HL.out.b 3,HL.out.keep⟩;refine⟨fD HX.out ?_,KpC.of HX.out (fun _ h=>h),HF.out⟩;rintro j o ho (rfl|rfl|rfl)
  ·rw[HLV.out.b 5] at ho;cases ho;rfl
  ·rw[HLV.out.b 4] at ho;cases ho;rfl
  ·rw[HLV.out.b 3] at ho;cases ho;rfl
 case stop =>
  intro D W hDs hI hDd;obtain⟨⟨v,h1,h2⟩,h3,h4,h5⟩:=hI;have hz:w.heap.size≤D:=Nat.le_trans HW.out hDs
  have no:∀{k:Nat}{cs:Array Value}{t:TypeId},W.heap[k]?=some (.cells cs t (0,0))->D≠k:=fun hc e=>by
   cases e;rw[hDd] at hc;cases hc
  have hput:∀{k:Nat}{cs:Array Value}{t:TypeId},W.heap[k]?=some (.cells cs t (0,0))->(W.putObj D (.deferred none)).heap[k]?=some (.cells cs t (0,0)):=fun hc=>(World.putObj_heap_other (by have:=no hc;omega)).trans hc
  obtain⟨av,cv,rfl,-,-⟩:=(Rd.of_owns h2).form;have c6:(W.putObj D (.deferred none)).cell? ⟨b6,0,none⟩=some (.slice av 256 cv):=aC (i:=0) (hput h1) rfl;have c7:(W.putObj D (.deferred none)).cell? ⟨b7,0,none⟩=some (.slice none 0 0):=aC (i:=0) (hput h3) rfl;have c8:(W.putObj D (.deferred none)).cell? ⟨b8,0,none⟩=some (.int .i64 0):=aC (i:=0) (hput h4) rfl;have HP:Hid (Di w (Mm d s) (.returned (.tuple #[.slice av 256 cv,.slice none 0 0,.int .i64 0])) (W.putObj D (.deferred none))):=O ⟨_,rfl,wW h2 hDd rfl,h5.trans' (aA.of_grown (grownBy_putObj' W D _)) (fun _ _ h=>h) (fun i hi e=>by cases e;omega)⟩;clear h1 h2 h3 h4 h5 no hput;show bodyPostM _ _ _ _ _ .ret _ _;refine⟨by simp,.inl ⟨_,_,rfl,run_takeDeferred hDd,?_⟩⟩;refine⟨_,Aq rfl _ _ _ ⟨b6,0,none⟩ ⟨b7,0,none⟩ ⟨b8,0,none⟩ (.slice av 256 cv) (.slice none 0 0) (.int .i64 0) rfl rfl rfl (by go_simp) (by go_simp) (by go_simp),HP.out⟩
def eM(w:World)(bs:List UInt8)(e:Ending)(w':World):Prop:=∃v,e=.returned (.tuple #[v,.int .i64 0])/\w'.ownsRow w.heap.size 5 1 v 256 (bs.map vb)/\aA aB w w'
theorem Il{w:World}{m a D Z nw:Nat}{B:Nat->Prop}{Mm:Nat->Nat->List UInt8}(h:bN w a B D Z Mm nw)(hm:eU w m a)(pv:Value)(p:Pt)(hp:PtV w pv p)(hmay:p.may=true)(hh:p.hole=false)(hpl:∀x∈p.addrs,eC x D Z) :
 Calls Tryz.prog 188 #[.pointer (some ⟨m,0,none⟩),.agg (aF pv p).toArray] w (aJ w (.int .i64 0)):=by
 have hpc:=aN (v:=pv) hp.sum;obtain⟨oa,ca,hpv,-,-⟩:=hp.rd.form;obtain⟨pc,hpcs⟩:∃l,aF pv p=l:=⟨_,rfl⟩
 have HOP:Hid (∀u∈pc,u.oneCell'=true):=O (by rw[←hpcs,hpv];exact bQ p);have HPS:=O hpcs;have HP0:Hid (∃r,pc=pv::r):=O ⟨_,hpcs.symm⟩;rw[hpcs] at hpc ⊢;have HA:=O h;have HMM:=O hm;have HPT:=O hp;have HMA:=O hmay;have HH:=O hh;have HPL:=O hpl;have HL:=O (Loc.nil aB aB w);have HK0:=O (aA.refl aB w);clear h hm hp hpcs hmay hh hpl hpv;go_enter Tryz.func188,Tryz.ntmps188
 go_wp2_with ((with_reducible show WL _ _);refine bxL HL 26 (.tmp 1) (pc.toArray) ?_)
 intro b3 w1 hk HL;replace HA:=O (HA.out.keep0 hk);replace HMM:=O (hk.blk HMM.out id);replace HPT:=O (HPT.out.keep hk fun _ _=>id);clear hk;go_wp2_with fail;refine(Bb w1 m a HMM.out).mono ?_;rintro e w2 ⟨rfl,hk⟩;replace HL:=O (HL.out.keeps hk);replace HA:=O (HA.out.keep0 hk);replace HMM:=O (hk.blk HMM.out id);replace HPT:=O (HPT.out.keep hk fun _ _=>id);clear hk
 go_wp2_with ((with_reducible show WL _ _);refine wpList_load_mid rfl 26 (.tmp 3) rfl b3 0 rfl pc _ (aD (HL.out.b 0)) aI rfl (szP9 hpc) ?_)
 refine((by rw[←HPS.out];exact kY w2 pv p HPT.out:Calls _ _ _ w2 (tL w2 p.may))).mono ?_;rintro e w3 ⟨rfl,hk⟩;replace HL:=O (HL.out.keeps hk);replace HA:=O (HA.out.keep0 hk);replace HMM:=O (hk.blk HMM.out id);replace HPT:=O (HPT.out.keep hk fun _ _=>id);clear hk;rw[HMA.out]
 go_wp2_with ((with_reducible show WL _ _);refine aX (by rfl) 26 (.tmp 3) rfl b3 0 rfl pc _ (aD (HL.out.b 0)) aI rfl (szP9 hpc) ?_)
 refine((by rw[←HPS.out];exact dX w3 pv p HPT.out:Calls _ _ _ w3 (bF w3 p.hole))).mono ?_;rintro e w4 ⟨rfl,hk⟩;replace HL:=O (HL.out.keeps hk);replace HA:=O (HA.out.keep0 hk);replace HMM:=O (hk.blk HMM.out id);replace HPT:=O (HPT.out.keep hk fun _ _=>id);clear hk;rw[HH.out];have c1:w4.cell? ⟨b3,0,none⟩=some (pv):=(by obtain⟨r,e⟩:=HP0.out;exact aC (i:=0) (HL.out.b 0) (by rw[e];rfl))
 go_wp2_with fail;clear c1;refine(uE HA.out HMM.out pv p.addrs HPT.out.rd HPL.out).mono ?_;rintro e w5 ⟨rfl,hk⟩;replace HL:=O (HL.out.keeps hk);replace HA:=O (HA.out.keep0 hk);replace HMM:=O (hk.blk HMM.out id);replace HPT:=O (HPT.out.keep hk fun _ _=>id);clear hk;go_wp2_with fail;go_ret;exact aJ.of HL.out.keep
theorem Kr{w:World}{m a D Z nw:Nat}{B:Nat->Prop}{Mm:Nat->Nat->List UInt8}(h:bN w a B D Z Mm nw)(hm:eU w m a)(pv:Value)(p:Pt)(hp:PtV w pv p)(hmay:p.may=true)(hh:p.hole=false)(hpl:∀x∈p.addrs,eC x D Z){d s:Nat}{rest:List Ad}(hpa:p.addrs=⟨(d:Int),(s:Int)⟩::rest)(hsum:p.sum=dA (Mm d s)) :
 Calls Tryz.prog 128 #[.pointer (some ⟨m,0,none⟩),.agg (aF pv p).toArray] w (eM w (Mm d s)):=by
 have hdd:d<D/\s<Z:=by
  have:=hpl _ (by rw[hpa];exact List.mem_cons_self ..);obtain⟨d',s',he,h1,h2,h3⟩:=lD this;cases he
  omega
 have hpc:=aN (v:=pv) hp.sum;obtain⟨oa,ca,hpv,-,-⟩:=hp.rd.form;obtain⟨pc,hpcs⟩:∃l,aF pv p=l:=⟨_,rfl⟩
 have HOP:Hid (∀u∈pc,u.oneCell'=true):=O (by rw[←hpcs,hpv];exact bQ p);have HPS:=O hpcs;rw[hpcs] at hpc ⊢;have HA:=O h;have HMM:=O hm;have HPT:=O hp;have HMA:=O hmay;have HH:=O hh;have HPL:=O hpl;have HPA:=O hpa;have HSM:=O hsum;have HDD:=O hdd;have HL:=O (Loc.nil aB aB w);clear h hm hp hpcs hmay hh hpl hpv hpa hsum hdd;go_enter Tryz.func128,Tryz.ntmps128
 go_wp2_with ((with_reducible show WL _ _);refine bxL HL 26 (.tmp 1) (pc.toArray) ?_)
 intro b3 w1 hk HL;replace HA:=O (HA.out.keep0 hk);replace HMM:=O (hk.blk HMM.out id);replace HPT:=O (HPT.out.keep hk fun _ _=>id);clear hk
 go_wp2_with ((with_reducible show WL _ _);refine wpList_load_mid rfl 26 (.tmp 3) rfl b3 0 rfl pc _ (aD (HL.out.b 0)) aI rfl (szP9 hpc) ?_)
 refine((by rw[←HPS.out];exact Il HA.out HMM.out pv p HPT.out HMA.out HH.out HPL.out:Calls _ _ _ w1 (aJ w1 (.int .i64 0)))).mono ?_;rintro e w2 ⟨rfl,hk⟩;replace HL:=O (HL.out.keeps hk);replace HA:=O (HA.out.keep0 hk);replace HMM:=O (hk.blk HMM.out id);replace HPT:=O (HPT.out.keep hk fun _ _=>id);clear hk
 go_wp2_with ((with_reducible show WL _ _);refine wpList_load_mid rfl 26 (.tmp 3) rfl b3 0 rfl pc _ (aD (HL.out.b 0)) aI rfl (szP9 hpc) ?_)
 have HSZ:=O HL.out.keep.size;refine((by rw[←HPS.out];exact FX HA.out HMM.out pv p HPT.out HPA.out HDD.out.1 HDD.out.2 HSM.out:Calls _ _ _ w2 (Di w2 (Mm d s)))).mono ?_;rintro e w3 ⟨v0,rfl,ho,hk⟩;obtain⟨av,cv,rfl,-,-⟩:=(Rd.of_owns ho).form;replace HL:=O (HL.out.keeps hk);replace HA:=O (HA.out.keep0 hk);replace HMM:=O (hk.blk HMM.out id);replace HPT:=O (HPT.out.keep hk fun _ _=>id);clear hk;have hsz:=HL.out.keep.size;have HO:=O (aU ho HSZ.out);clear ho hsz;go_wp2_with fail;have HB:=O HL.out.keep
 go_loopw [30] (fun i wr=>i=.int .i64 0/\wr=w3) (fun _ _=>0)
 case atStart=>exact⟨rfl,rfl⟩
 case round =>
  obtain⟨rfl,rfl⟩:=hrel;clear HL HA HMM HPT;go_wp2_with fail
  go_ret2
  exact⟨_,rfl,HO.out,HB.out⟩
end
end Go.Proofs.YtjkbekifgobeaaaGreatDoor
