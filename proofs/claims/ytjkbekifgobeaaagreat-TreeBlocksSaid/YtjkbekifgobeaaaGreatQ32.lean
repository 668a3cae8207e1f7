/- A part of the proof. Conditions: those told. -/
import Derived.Test.YtjkbekifgobeaaaGreatQ1
import Derived.Test.YtjkbekifgobeaaaGreatQ31
namespace Go.Proofs.YtjkbekifgobeaaaGreat
set_option maxHeartbeats 64000000
set_option maxRecDepth 100000
set_option linter.unusedVariables false
section
open Go.RowKit Go.Maps Go.ChangeMaps
def lZ(a:List (List UInt8))(t:Tr)(l:Nat):List (List UInt8):=a++t.blocks l
theorem kU{S:Kor}:∀(l:Nat) (a:List (List UInt8)) (t:Tr),Tr.Ok S l t->dX lZ l a t=a++t.blocks l
 | 0,a,.hole,_=>rfl
 | _+1,a,.hole,_=>rfl
 | 0,a,.leaf p b,_=>rfl
 | 0,a,.node p k,h=>h.elim
 | l+1,a,.leaf p b,h=>h.elim
 | l+1,a,.node p k,h=>by
   show dX lZ l (dX lZ l (dX lZ l (dX lZ l a (k 0)) (k 1)) (k 2)) (k 3)=a++((k 0).blocks l++(k 1).blocks l++(k 2).blocks l++(k 3).blocks l);rw[kU l _ _ (h.2.1 3 (by omega)),kU l _ _ (h.2.1 2 (by omega)),kU l _ _ (h.2.1 1 (by omega)),kU l _ _ (h.2.1 0 (by omega))];simp only[List.append_assoc]
def iP(N0:Nat)(w:World)(J:Nat->Prop)(vs:List Value)(R:List (List UInt8)):Prop:=
 vs.length=R.length/\∀(j:Nat) (b:List UInt8),R[j]?=some b->∃u,vs[j]?=some u/\Rd w 1 u b.length (b.map vb)/\∀i,u.ownBlock=some i->N0≤i/\¬J i/\IsC w i
theorem iP.keep{N0:Nat}{w w':World}{J J':Nat->Prop}{vs:List Value}{R:List (List UInt8)}(h:iP N0 w J vs R)(k:aA J w w')(hJ:∀i,J' i->J i\/w.heap.size≤i):iP N0 w' J' vs R:=by
 refine⟨h.1,fun j b hj=>?_⟩;obtain⟨u,h1,h2,h3⟩:=h.2 j b hj;exact⟨u,h1,h2.keep k fun i hi=>(h3 i hi).2.1,fun i hi=>⟨(h3 i hi).1,fun e=>(hJ i e).elim (h3 i hi).2.1 fun e=>by have:=(h3 i hi).2.2.lt;omega,(h3 i hi).2.2.keep k (h3 i hi).2.1⟩⟩
theorem iP.snoc{N0:Nat}{w:World}{J:Nat->Prop}{vs:List Value}{R:List (List UInt8)}(h:iP N0 w J vs R){u:Value}{b:List UInt8}(hu:Rd w 1 u b.length (b.map vb))(ho:∀i,u.ownBlock=some i->N0≤i/\¬J i/\IsC w i):iP N0 w J (vs++[u]) (R++[b]):=by
 refine⟨by rw[List.length_append,List.length_append,h.1];rfl,fun j c hj=>?_⟩;rcases Nat.lt_or_ge j R.length with hl|hl
 ·rw[List.getElem?_append_left hl] at hj
  obtain⟨u',h1,h2⟩:=h.2 j c hj;exact⟨u',by rw[List.getElem?_append_left (by rw[h.1];exact hl)];exact h1,h2⟩
 ·rw[List.getElem?_append_right hl] at hj
  have e:j=R.length:=by
   rcases Nat.lt_or_ge R.length j with h2|h2
   ·rw[List.getElem?_eq_none (by simp;omega)] at hj;cases hj
   ·omega
  subst e;rw[Nat.sub_self] at hj;cases hj
  exact⟨u,by rw[←h.1,List.getElem?_append_right (Nat.le_refl _),Nat.sub_self];rfl,hu,ho⟩
theorem iP.nil(N0:Nat)(w:World)(J:Nat->Prop):iP N0 w J [] []:=⟨rfl,fun j b hj=>by cases hj⟩
def iQ(N0 bo b2 c:Nat)(a:List (List UInt8))(J:Nat->Prop)(w:World):Prop:=
 ∃v vs,(bo<N0/\b2<N0/\b2≠bo/\N0≤w.heap.size)/\w.heap[bo]?=some (.cells #[v] 52 (0,0))/\w.heap[b2]?=some (.cells #[.pointer (some ⟨c,0,none⟩)] 36 (0,0)) /\
  w.ownsRow N0 27 1 v a.length vs/\iP N0 w J vs a/\J=fun i=>i=bo\/v.ownBlock=some i
theorem qT(N0 bo b2 c:Nat):Yld (iQ N0 bo b2 c):=by
 refine⟨fun a J w w' h k=>?_,fun a J w i h hi=>?_⟩
 ·obtain⟨v,vs,h0,h1,h5,h2,h3,h4⟩:=h
  exact⟨v,vs,⟨h0.1,h0.2.1,h0.2.2.1,Nat.le_trans h0.2.2.2 k.size⟩,k.blk h1 id,k.blk h5 id,k.owns h2 fun _ _=>id,h3.keep k.any fun _ h=>.inl h,h4⟩
 ·obtain⟨v,vs,h0,h1,h5,h2,h3,rfl⟩:=h
  rcases hi with rfl|hi
  ·exact lt_of_block h1
  ·obtain⟨cur,hc⟩:=aN h2 hi
   exact lt_of_block hc
theorem iQ.more{N0 bo b2 c:Nat}{a:List (List UInt8)}{v v' u:Value}{vs:List Value}{b:List UInt8}{w wE w8 w9:World}(h0:bo<N0/\b2<N0/\b2≠bo/\N0≤w.heap.size)(kE:aA aB w wE)
 (hb2:wE.heap[b2]?=some (.cells #[.pointer (some ⟨c,0,none⟩)] 36 (0,0))) (ho:wE.ownsRow N0 27 1 v a.length vs) (hr:iP N0 wE (fun i=>i=bo\/v.ownBlock=some i) vs a)
 (hu:Rd wE 1 u b.length (b.map vb)) (huo:∀i,u.ownBlock=some i->w.heap.size≤i/\IsC wE i) (hlt:∀i,v.ownBlock=some i->i<w.heap.size)
 (ho5:w8.ownsRow N0 27 1 v' (a.length+1) (vs++[u])) (k5:aA (fun i=>v.ownBlock=some i) wE w8) (hb5:v'.ownBlock=v.ownBlock\/v'.ownBlock=some wE.heap.size)
 (k9:aA (fun i=>i=bo) w8 w9) (hb9:w9.heap[bo]?=some (.cells #[v'] 52 (0,0))):cN (iQ N0 bo b2 c) w (fun i=>i=bo\/v.ownBlock=some i) (a++[b]) (.returned (.int .i64 0)) w9:=by
 have hJ:∀i,(i=bo\/v'.ownBlock=some i)->(i=bo\/v.ownBlock=some i)\/wE.heap.size≤i:=fun i h=>by
  rcases h with h|h
  ·exact .inl (.inl h)
  ·rcases hb5 with e|e
   ·rw[e] at h;exact .inl (.inr h)
   ·rw[e] at h;injection h with h;exact .inr (by omega)
 have kJ:aA (fun i=>i=bo\/v.ownBlock=some i) wE w9:=k5.trans' k9 (fun _ _ h=>.inr h) (fun _ _ h=>.inl h);have hsz:=kE.size;have ge:=fun i (h:v.ownBlock=some i)=>bA ho h
 have ge5:=fun i (h:v'.ownBlock=some i)=>bA ho5 h
 have nu:∀i,u.ownBlock=some i->¬(i=bo\/v.ownBlock=some i):=fun i hi e=>by
  have:=(huo i hi).1;rcases e with e|e
  ·omega
  ·have:=hlt i e;omega
 refine⟨rfl,_,⟨v',vs++[u],⟨h0.1,h0.2.1,h0.2.2.1,Nat.le_trans h0.2.2.2 (Nat.le_trans hsz kJ.size)⟩,hb9,kJ.blk hb2 (fun e=>e.elim h0.2.2.1 fun e=>by have:=ge _ e;omega),?_,?_,rfl⟩,fun i h=>(hJ i h).imp id fun e=>by omega,(aA.any kE).trans kJ⟩
 ·rw[List.length_append]
  exact k9.owns ho5 fun i hi e=>by have:=ge5 i hi;omega
 ·refine(hr.keep kJ hJ).snoc (hu.keep kJ nu) fun i hi=>⟨by have:=(huo i hi).1;omega,fun e=>(hJ i e).elim (nu i hi) fun e=>by have:=(huo i hi).2.lt;omega,(huo i hi).2.keep kJ (nu i hi)⟩
theorem JX(m:Nat):∀a t l,(fun a:List (List UInt8)=>a.length≤m) (lZ a t l)->(fun a:List (List UInt8)=>a.length≤m) a:=fun a t l h=>by
 have h2:(lZ a t l).length≤m:=h;unfold lZ at h2;rw[List.length_append] at h2;show a.length≤m;omega
theorem Ib{S:Kor}{c:Nat}{B:Nat->Prop}{N0 bo b2:Nat}(a:List (List UInt8))(J:Nat->Prop)(w:World)(pv:Value)(t:Tr)(hi:iQ N0 bo b2 c a J w)(hK:KI w c S B)(ht:Tr.Ok S 0 t)(hp:aJ w J pv t.ptr)(hP:a.length+1≤1000):Calls Tryz.prog 58 #[.agg (aH pv t.ptr).toArray,.int .i64 0,.pointer (some ⟨bo,0,none⟩),.pointer (some ⟨b2,0,none⟩)] w (cN (iQ N0 bo b2 c) w J (a++[t.blk 0 0])):=by
 have HJL:=O (fun i=>(qT N0 bo b2 c).lt a J w i hi);obtain⟨v,vs,hz,hbo,hb2,ho,hr,rfl⟩:=hi;obtain⟨va,vc,rfl,-,-⟩:=(Rd.of_owns ho).form;have HZ:=O hz;have HBO:=O hbo;have HB2:=O hb2;have HO:=O ho;have HR:=O hr;have HT:=O ht;have HK:=O hK;have HBLEN:=O (Tr.Ok.blk_len ht 0);have HPT:Hid (PtV w pv t.ptr):=O hp.pt;obtain⟨p,hpe⟩:∃p,t.ptr=p:=⟨_,rfl⟩
 have HPE:=O hpe;rw[hpe] at HPT hp ⊢;obtain⟨pc,HPC,hpc,HOP⟩:=nmPt hp.pt;rw[HPC.out];have HL:=O (Loc.nil aB aB w);clear hp hpe hK ht hz hbo hb2 ho hr;go_enter Tryz.func58,Tryz.ntmps58
 go_wp2_with ((with_reducible show WL _ _);refine bxL HL 26 (.tmp 0) (pc.toArray) ?_)
 intro b4 w1 hk HL;replace HPT:=O (HPT.out.keep hk fun _ _=>id);replace HK:=O (HK.out.keep0 hk);replace HBO:=O (hk.blk HBO.out id);replace HB2:=O (hk.blk HB2.out id);replace HO:=O (hk.owns HO.out fun _ _=>id);replace HR:=O (HR.out.keep (aA.any hk) fun _ h=>.inl h);clear hk;have c1:w1.cell? ⟨b2,0,none⟩=some (.pointer (some ⟨c,0,none⟩)):=(cell_of_one HB2.out)
 go_wp2_with ((with_reducible show WL _ _);refine wpList_load_mid rfl 26 (.tmp 4) rfl b4 0 rfl pc _ (aC (HL.out.b 0)) aG rfl (szP9 hpc) ?_)
 clear c1;have HLW:=O HL.out.keep.size;refine((by rw[←HPC.out,←HPE.out];exact oB HK.out pv t HT.out (by rw[HPE.out];exact HPT.out) 0:Calls _ _ _ w1 (eP w1 (t.blk 0 0)))).mono ?_;rintro e w2 ⟨v1,rfl,ho1,hk⟩;rw[show (256:Nat)=(t.blk 0 0).length from HBLEN.out.symm] at ho1;obtain⟨wa,wc,rfl,-,-⟩:=(Rd.of_owns ho1).form;have HU:=O (Rd.of_owns ho1);have HUO:Hid (nI w w2 (Value.slice wa (t.blk 0 0).length wc)):=O (fun i hi=>⟨Nat.le_trans HLW.out (bA ho1 hi),by obtain⟨cur,hc⟩:=aN ho1 hi;exact⟨_,_,hc⟩⟩);rw[HBLEN.out] at HU HUO ⊢;clear ho1;replace HL:=O (HL.out.keeps hk);replace HPT:=O (HPT.out.keep hk fun _ _=>id);replace HK:=O (HK.out.keep0 hk);replace HBO:=O (hk.blk HBO.out id);replace HB2:=O (hk.blk HB2.out id);replace HO:=O (hk.owns HO.out fun _ _=>id);replace HR:=O (HR.out.keep (aA.any hk) fun _ h=>.inl h);clear hk;have c1:w2.cell? ⟨bo,0,none⟩=some (.slice va a.length vc):=(cell_of_one HBO.out)
 go_wp2_with ((with_reducible show WL _ _);refine bs1 52 27 (.tmp 27) (.slice wa 256 wc) (by kernel_rfl) (by kernel_rfl) Tryz.underlying52 rfl ?_)
 clear c1;intro b28 w3 hbs hk hb;replace HL:=O (HL.out.new (fun _ h=>h.elim) hbs hk hb);replace HPT:=O (HPT.out.keep hk fun _ _=>id);replace HK:=O (HK.out.keep0 hk);replace HBO:=O (hk.blk HBO.out id);replace HB2:=O (hk.blk HB2.out id);replace HO:=O (hk.owns HO.out fun _ _=>id);replace HR:=O (HR.out.keep (aA.any hk) fun _ h=>.inl h);replace HU:=O (HU.out.keep hk fun _ _=>id);replace HUO:=O (nI.keep HUO.out hk fun _ _=>id);clear hbs hk hb;have hrd_:Rd w3 1 (.slice (some ⟨b28,0,none⟩) 1 1) 1 [.slice wa 256 wc]:=dL (n:=1) (size:=1) (HL.out.b 0) rfl (by unfold maxLen;omega);have HRD_:=O hrd_;have HKE:=O HL.out.keep;clear hrd_
 go_wp2_with (first
  | (at_builtin;refine aM rfl (.tmp 26) (.tmp 28) 52 rfl N0 27 (.slice none 0 0) 1 24 Tryz.underlying52 tB rfl (by decide) (.slice va a.length vc) a.length vs rfl HO.out (.slice (some ⟨b28,0,none⟩) 1 1) 1 [.slice wa 256 wc] rfl HRD_.out (by intro u hu;rcases List.mem_singleton.1 hu with rfl;rfl) (by unfold maxLen;omega) (by omega) (by have:=HZ.out;have:=HKE.out.size;omega) ?_))
 intro v2 w4 ho5 hk5 hn5 hb5;obtain⟨g2,c2,rfl⟩:=ownsRow_succ ho5;have HO5:=O ho5;have HK5:=O hk5;have HB5:=O hb5;clear ho5 hk5 hn5 hb5 HRD_;have HBO8:=O (HK5.out.blk HBO.out (fun e=>by have:=bA HO.out e;have:=HZ.out;omega))
 go_wp2_with ((with_reducible show WL _ _);refine sta 52 (.tmp 2) (.tmp 29) bo 0 [.slice (some ⟨g2,0,none⟩) (a.length+1) c2] HBO8.out (by simp) (by kernel_rfl) (one9) ?_)
 intro w5 hk hb;replace hb:w5.heap[bo]?=some (.cells #[.slice (some ⟨g2,0,none⟩) (a.length+1) c2] 52 (0,0)):=hb;have HP:=O (iQ.more (b:=t.blk 0 0) HZ.out HKE.out HB2.out HO.out HR.out (by rw[HBLEN.out];exact HU.out) HUO.out (fun i hi=>HJL.out i (.inr hi)) HO5.out HK5.out HB5.out hk hb);clear hk hb HL HK HPT HBO HB2 HO HR HU HUO HO5 HK5 HB5 HBO8;go_wp2_with fail;go_ret;exact HP.out
theorem Ic{S:Kor}{c:Nat}{B:Nat->Prop}{N0 bo b2:Nat}(a:List (List UInt8))(J:Nat->Prop)(w:World)(pv:Value)(p:Pt)(l:Nat)(hl:l≤3)(hl0:¬l=0)(hi:iQ N0 bo b2 c a J w)(hp:aJ w J pv p)(hP:a.length+4 ^ l≤1000):Calls Tryz.prog 58 #[.agg (aH pv p).toArray,.int .i64 (l:Int),.pointer (some ⟨bo,0,none⟩),.pointer (some ⟨b2,0,none⟩)] w (cN (iQ N0 bo b2 c) w J (a++List.replicate (4 ^ l) zB)):=by
 have HV0:Hid (iQ N0 bo b2 c a J w):=O hi;have HM4:Hid (∃m,4 ^ l=m):=O ⟨_,rfl⟩;obtain⟨m,hm⟩:=HM4.out;have HM:=O hm;have hl1:decide ((0:Int)<(l:Int))=true:=decide_eq_true (by omega);have hl2:(0:Int)<(l:Int):=by omega
 rw[hm] at hP ⊢;obtain⟨pc,HPC,hpc,HOP⟩:=nmPt hp.pt;rw[HPC.out];have HL:=O (Loc.nil aB aB w);clear hp hi hm HM4;go_enter Tryz.func58,Tryz.ntmps58
 go_wp2_with ((with_reducible show WL _ _);refine bxL HL 26 (.tmp 0) (pc.toArray) ?_)
 intro b4 w1 hk HL;replace HV0:=O ((qT N0 bo b2 c).keep _ _ _ _ HV0.out hk);clear hk;go_wp2_with fail;refine((by rw[←HM.out];exact iE w1 l hl:Calls _ _ _ w1 (aK w1 (.int .i64 (m:Int))))).mono ?_;rintro e w2 ⟨rfl,hk⟩;replace HL:=O (HL.out.keeps hk);replace HV0:=O ((qT N0 bo b2 c).keep _ _ _ _ HV0.out hk);clear hk;go_wp2_with fail;have HST:Hid (cN (iQ N0 bo b2 c) w J (a++List.replicate 0 zB) (.returned (.int .i64 0)) w2):=O ⟨rfl,J,by rw[List.replicate_zero,List.append_nil];exact HV0.out,fun k h=>.inl h,HL.out.keep.any⟩;clear HL HV0
 go_loopw [13] (fun i wr=>∃k:Nat,k≤m/\i=.int .i64 (k:Int)/\Hid (cN (iQ N0 bo b2 c) w J (a++List.replicate k zB) (.returned (.int .i64 0)) wr)) (fun i _=>m-(intOf i).toNat)
 case atStart=>exact⟨0,by omega,rfl,HST⟩
 case round =>
  obtain⟨k,hk,rfl,HVP⟩:=hrel
  by_cases hk8:k<m
  ·obtain⟨-,J2,hi2,hJ2,hkJ⟩:=HVP.out
   have HJL:=O (fun i=>(qT N0 bo b2 c).lt _ J2 wr i hi2);obtain⟨v,vs,hz,hbo,hb2,ho,hr,rfl⟩:=hi2;have hN:(a++List.replicate k zB).length=a.length+k:=by rw[List.length_append,List.length_replicate]
   have HN:=O hN;obtain⟨va,vc,rfl,-,-⟩:=(Rd.of_owns ho).form;have HZ:=O hz;have HBO:=O hbo;have HB2:=O hb2;have HO:=O ho;have HR:=O hr;have HJ2:=O hJ2;have HKJ:=O hkJ;have HL:=O (Loc.nil aB aB wr);have HNA:=O hN;rw[hN] at HBO HO HJL HR HJ2;have hk1:(k:Int)<(m:Int):=by omega
   have hk0:(0:Int)≤(k:Int):=by omega
   clear hz hbo hb2 ho hr hJ2 hkJ hN;go_wp2_with fail;have hkd:=(aA.refl aB wr).drew;refine wp_region_held (S:=fun _=>True) (by kernel_rfl) ?_;change wpAnyH _ _ _ _ _ _ _ _ wr.drew;generalize wr.drew=w4 at hkd ⊢;replace HL:=O (HL.out.keeps hkd);replace HBO:=O (hkd.blk HBO.out id);replace HB2:=O (hkd.blk HB2.out id);replace HO:=O (hkd.owns HO.out fun _ _=>id);replace HR:=O (HR.out.keep (aA.any hkd) fun _ h=>.inl h);clear hkd;refine cS (k:=0) (l:=1) rfl rfl (by kernel_rfl) ?_ ?_
   ·have c1:w4.cell? ⟨bo,0,none⟩=some (.slice va (a.length+k) vc):=cell_of_one HBO.out
    go_wp2_with fail;clear c1;refine⟨trivial,?_⟩;refine wA9 1 ?_;refine mkz (.const (.int .i64 256)) (.const (.int .i64 256)) ?_;intro b16 w5 hbs hk hb;replace HL:=O (HL.out.new (fun _ h=>h.elim) hbs hk hb);replace HBO:=O (hk.blk HBO.out id);replace HB2:=O (hk.blk HB2.out id);replace HO:=O (hk.owns HO.out fun _ _=>id);replace HR:=O (HR.out.keep (aA.any hk) fun _ h=>.inl h);clear hbs hk hb;refine wpList_nil ?_;refine⟨trivial,?_⟩;refine wA9 2 ?_;refine bs1 52 27 (.tmp 16) (.slice (some ⟨b16,0,none⟩) 256 256) (by kernel_rfl) (by kernel_rfl) Tryz.underlying52 rfl ?_;intro b17 w6 hbs hk hb;replace HL:=O (HL.out.new (fun _ h=>h.elim) hbs hk hb);replace HBO:=O (hk.blk HBO.out id);replace HB2:=O (hk.blk HB2.out id);replace HO:=O (hk.owns HO.out fun _ _=>id);replace HR:=O (HR.out.keep (aA.any hk) fun _ h=>.inl h);clear hbs hk hb;refine wpList_nil ?_;refine⟨trivial,?_⟩;refine wA9 3 ?_;have HRD_:Hid (Rd w6 1 (.slice (some ⟨b17,0,none⟩) 1 1) 1 [.slice (some ⟨b16,0,none⟩) 256 256]):=O (dL (n:=1) (size:=1) (HL.out.b 0) rfl (by unfold maxLen;omega));have HKE:=O HL.out.keep;refine aM rfl (.tmp 15) (.tmp 17) 52 rfl N0 27 (.slice none 0 0) 1 24 Tryz.underlying52 tB rfl (by decide) (.slice va (a.length+k) vc) (a.length+k) vs rfl HO.out (.slice (some ⟨b17,0,none⟩) 1 1) 1 [.slice (some ⟨b16,0,none⟩) 256 256] rfl HRD_.out (by intro u hu;rcases List.mem_singleton.1 hu with rfl;rfl) (by unfold maxLen;omega) (by omega) (by have:=HZ.out;have:=HKE.out.size;omega) ?_;intro v2 w7 ho5 hk5 hn5 hb5;obtain⟨g2,c2,rfl,-,-⟩:=(Rd.of_owns ho5).form;have HO5:=O ho5;have HK5:=O hk5;have HB5:=O hb5;clear ho5 hk5 hn5 hb5 HRD_;have HBO8:=O (HK5.out.blk HBO.out (fun e=>by have:=bA HO.out e;have:=HZ.out;omega));refine wpList_nil ?_;refine⟨trivial,?_⟩;refine wA9 4 ?_;refine sta 52 (.tmp 2) (.tmp 18) bo 0 [.slice g2 (a.length+k+1) c2] HBO8.out (by simp) (by kernel_rfl) (one9) ?_;intro w8 hk hb;replace hb:w8.heap[bo]?=some (.cells #[.slice g2 (a.length+k+1) c2] 52 (0,0)):=hb;refine wpList_nil ?_;refine⟨trivial,?_⟩;refine wpAnyH_done (by kernel_rfl) ?_ _;have HUR:Hid (Rd w6 1 (.slice (some ⟨b16,0,none⟩) 256 256) zB.length (zB.map vb)):=O (dL (n:=256) (size:=1) (HL.out.b 1) rfl (by unfold maxLen;omega))
    have HUO:Hid (∀i,(.slice (some ⟨b16,0,none⟩) 256 256:Value).ownBlock=some i->wr.heap.size≤i/\IsC w6 i):=O fun i hi=>by
     have e:b16=i:=by injection hi
     subst e;exact⟨(HL.out.lt 1).1,_,_,HL.out.b 1⟩
    have HNX:Hid (cN (iQ N0 bo b2 c) w J (a++List.replicate (k+1) zB) (.returned (.int .i64 0)) w8):=O (by
     rw[List.replicate_succ',←List.append_assoc];refine cN.trans (iQ.more (b:=zB) HZ.out HKE.out HB2.out (by rw[HNA.out];exact HO.out) HR.out HUR.out HUO.out (fun i hi=>HJL.out i (.inr hi)) (by rw[HNA.out];exact HO5.out) HK5.out HB5.out hk hb) HJ2.out HKJ.out)
    clear hk hb HL HBO HB2 HO HR HO5 HK5 HB5 HBO8 HUR HUO HJ2 HKJ HKE;go_wp2_with fail
    go_roundw
    case rel=>exact⟨k+1,by omega,by go_num,HNX⟩
    case measure=>simp[intOf];omega
   ·refine mkz (.const (.int .i64 256)) (.const (.int .i64 256)) ?_
    intro b16 w5 hbs hk hb;replace HL:=O (HL.out.new (fun _ h=>h.elim) hbs hk hb);replace HBO:=O (hk.blk HBO.out id);replace HB2:=O (hk.blk HB2.out id);replace HO:=O (hk.owns HO.out fun _ _=>id);replace HR:=O (HR.out.keep (aA.any hk) fun _ h=>.inl h);clear hbs hk hb;refine wpList_nil ?_;refine⟨trivial,?_⟩;refine cS (k:=0) (l:=2) rfl rfl (by kernel_rfl) ?_ ?_
    ·have c1:w5.cell? ⟨bo,0,none⟩=some (.slice va (a.length+k) vc):=cell_of_one HBO.out
     go_wp2_with fail;clear c1;refine⟨trivial,?_⟩;refine wA9 2 ?_;refine bs1 52 27 (.tmp 16) (.slice (some ⟨b16,0,none⟩) 256 256) (by kernel_rfl) (by kernel_rfl) Tryz.underlying52 rfl ?_;intro b17 w6 hbs hk hb;replace HL:=O (HL.out.new (fun _ h=>h.elim) hbs hk hb);replace HBO:=O (hk.blk HBO.out id);replace HB2:=O (hk.blk HB2.out id);replace HO:=O (hk.owns HO.out fun _ _=>id);replace HR:=O (HR.out.keep (aA.any hk) fun _ h=>.inl h);clear hbs hk hb;refine wpList_nil ?_;refine⟨trivial,?_⟩;refine wA9 3 ?_;have HRD_:Hid (Rd w6 1 (.slice (some ⟨b17,0,none⟩) 1 1) 1 [.slice (some ⟨b16,0,none⟩) 256 256]):=O (dL (n:=1) (size:=1) (HL.out.b 0) rfl (by unfold maxLen;omega));have HKE:=O HL.out.keep;refine aM rfl (.tmp 15) (.tmp 17) 52 rfl N0 27 (.slice none 0 0) 1 24 Tryz.underlying52 tB rfl (by decide) (.slice va (a.length+k) vc) (a.length+k) vs rfl HO.out (.slice (some ⟨b17,0,none⟩) 1 1) 1 [.slice (some ⟨b16,0,none⟩) 256 256] rfl HRD_.out (by intro u hu;rcases List.mem_singleton.1 hu with rfl;rfl) (by unfold maxLen;omega) (by omega) (by have:=HZ.out;have:=HKE.out.size;omega) ?_;intro v2 w7 ho5 hk5 hn5 hb5;obtain⟨g2,c2,rfl,-,-⟩:=(Rd.of_owns ho5).form;have HO5:=O ho5;have HK5:=O hk5;have HB5:=O hb5;clear ho5 hk5 hn5 hb5 HRD_;have HBO8:=O (HK5.out.blk HBO.out (fun e=>by have:=bA HO.out e;have:=HZ.out;omega));refine wpList_nil ?_;refine⟨trivial,?_⟩;refine wA9 4 ?_;refine sta 52 (.tmp 2) (.tmp 18) bo 0 [.slice g2 (a.length+k+1) c2] HBO8.out (by simp) (by kernel_rfl) (one9) ?_;intro w8 hk hb;replace hb:w8.heap[bo]?=some (.cells #[.slice g2 (a.length+k+1) c2] 52 (0,0)):=hb;refine wpList_nil ?_;refine⟨trivial,?_⟩;refine wpAnyH_done (by kernel_rfl) ?_ _;have HUR:Hid (Rd w6 1 (.slice (some ⟨b16,0,none⟩) 256 256) zB.length (zB.map vb)):=O (dL (n:=256) (size:=1) (HL.out.b 1) rfl (by unfold maxLen;omega))
     have HUO:Hid (∀i,(.slice (some ⟨b16,0,none⟩) 256 256:Value).ownBlock=some i->wr.heap.size≤i/\IsC w6 i):=O fun i hi=>by
      have e:b16=i:=by injection hi
      subst e;exact⟨(HL.out.lt 1).1,_,_,HL.out.b 1⟩
     have HNX:Hid (cN (iQ N0 bo b2 c) w J (a++List.replicate (k+1) zB) (.returned (.int .i64 0)) w8):=O (by
      rw[List.replicate_succ',←List.append_assoc];refine cN.trans (iQ.more (b:=zB) HZ.out HKE.out HB2.out (by rw[HNA.out];exact HO.out) HR.out HUR.out HUO.out (fun i hi=>HJL.out i (.inr hi)) (by rw[HNA.out];exact HO5.out) HK5.out HB5.out hk hb) HJ2.out HKJ.out)
     clear hk hb HL HBO HB2 HO HR HO5 HK5 HB5 HBO8 HUR HUO HJ2 HKJ HKE;go_wp2_with fail
     go_roundw
     case rel=>exact⟨k+1,by omega,by go_num,HNX⟩
     case measure=>simp[intOf];omega
    ·refine bs1 52 27 (.tmp 16) (.slice (some ⟨b16,0,none⟩) 256 256) (by kernel_rfl) (by kernel_rfl) Tryz.underlying52 rfl ?_
     intro b17 w6 hbs hk hb;replace HL:=O (HL.out.new (fun _ h=>h.elim) hbs hk hb);replace HBO:=O (hk.blk HBO.out id);replace HB2:=O (hk.blk HB2.out id);replace HO:=O (hk.owns HO.out fun _ _=>id);replace HR:=O (HR.out.keep (aA.any hk) fun _ h=>.inl h);clear hbs hk hb;refine wpList_nil ?_;refine⟨trivial,?_⟩;refine wA9 0 ?_;have c1:w6.cell? ⟨bo,0,none⟩=some (.slice va (a.length+k) vc):=cell_of_one HBO.out;go_wp2_with fail;clear c1;refine⟨trivial,?_⟩;refine wA9 3 ?_;have HRD_:Hid (Rd w6 1 (.slice (some ⟨b17,0,none⟩) 1 1) 1 [.slice (some ⟨b16,0,none⟩) 256 256]):=O (dL (n:=1) (size:=1) (HL.out.b 0) rfl (by unfold maxLen;omega));have HKE:=O HL.out.keep;refine aM rfl (.tmp 15) (.tmp 17) 52 rfl N0 27 (.slice none 0 0) 1 24 Tryz.underlying52 tB rfl (by decide) (.slice va (a.length+k) vc) (a.length+k) vs rfl HO.out (.slice (some ⟨b17,0,none⟩) 1 1) 1 [.slice (some ⟨b16,0,none⟩) 256 256] rfl HRD_.out (by intro u hu;rcases List.mem_singleton.1 hu with rfl;rfl) (by unfold maxLen;omega) (by omega) (by have:=HZ.out;have:=HKE.out.size;omega) ?_;intro v2 w7 ho5 hk5 hn5 hb5;obtain⟨g2,c2,rfl,-,-⟩:=(Rd.of_owns ho5).form;have HO5:=O ho5;have HK5:=O hk5;have HB5:=O hb5;clear ho5 hk5 hn5 hb5 HRD_;have HBO8:=O (HK5.out.blk HBO.out (fun e=>by have:=bA HO.out e;have:=HZ.out;omega));refine wpList_nil ?_;refine⟨trivial,?_⟩;refine wA9 4 ?_;refine sta 52 (.tmp 2) (.tmp 18) bo 0 [.slice g2 (a.length+k+1) c2] HBO8.out (by simp) (by kernel_rfl) (one9) ?_;intro w8 hk hb;replace hb:w8.heap[bo]?=some (.cells #[.slice g2 (a.length+k+1) c2] 52 (0,0)):=hb;refine wpList_nil ?_;refine⟨trivial,?_⟩;refine wpAnyH_done (by kernel_rfl) ?_ _;have HUR:Hid (Rd w6 1 (.slice (some ⟨b16,0,none⟩) 256 256) zB.length (zB.map vb)):=O (dL (n:=256) (size:=1) (HL.out.b 1) rfl (by unfold maxLen;omega))
     have HUO:Hid (∀i,(.slice (some ⟨b16,0,none⟩) 256 256:Value).ownBlock=some i->wr.heap.size≤i/\IsC w6 i):=O fun i hi=>by
      have e:b16=i:=by injection hi
      subst e;exact⟨(HL.out.lt 1).1,_,_,HL.out.b 1⟩
     have HNX:Hid (cN (iQ N0 bo b2 c) w J (a++List.replicate (k+1) zB) (.returned (.int .i64 0)) w8):=O (by
      rw[List.replicate_succ',←List.append_assoc];refine cN.trans (iQ.more (b:=zB) HZ.out HKE.out HB2.out (by rw[HNA.out];exact HO.out) HR.out HUR.out HUO.out (fun i hi=>HJL.out i (.inr hi)) (by rw[HNA.out];exact HO5.out) HK5.out HB5.out hk hb) HJ2.out HKJ.out)
     clear hk hb HL HBO HB2 HO HR HO5 HK5 HB5 HBO8 HUR HUO HJ2 HKJ HKE;go_wp2_with fail
     go_roundw
     case rel=>exact⟨k+1,by omega,by go_num,HNX⟩
     case measure=>simp[intOf];omega
  ·obtain rfl:k=m:=by omega
   have hk1:¬(k:Int)<(k:Int):=by omega
   go_wp2_with fail;go_ret;exact HVP.out
theorem JY(S:Kor)(c:Nat)(B:Nat->Prop)(N0 bo b2:Nat):CU (iQ N0 bo b2 c) lZ (fun a=>a.length≤1000) S c B 58 #[.pointer (some ⟨bo,0,none⟩),.pointer (some ⟨b2,0,none⟩)]:=by
 intro a J w pv t l hi hK hBJ hl h0 ht hp hP;have hP2:(lZ a t l).length≤1000:=hP;unfold lZ at hP2 ⊢;rw[List.length_append,ht.blocks_len] at hP2
 by_cases e:l=0
 ·subst e
  have hb:t.blocks 0=[t.blk 0 0]:=by rw[ht.blocks_eq];rfl
  rw[hb];exact Ib a J w pv t hi hK ht hp (by omega)
 ·have et:=fK (h0.resolve_left e)
  subst et;rw[show Tr.blocks l .hole=List.replicate (4 ^ l) zB from by cases l<;>rfl];exact Ic (S:=S) (B:=B) a J w pv _ l hl e hi hp hP2
theorem iP.weak{N0 N1:Nat}{w:World}{J J':Nat->Prop}{vs:List Value}{R:List (List UInt8)}(h:iP N0 w J vs R)(hN:N1≤N0)(hJ:∀i,J' i->J i):iP N1 w J' vs R:=
 ⟨h.1,fun j b hj=>(h.2 j b hj).imp fun u hu=>⟨hu.1,hu.2.1,fun i hi=>⟨Nat.le_trans hN (hu.2.2 i hi).1,fun e=>(hu.2.2 i hi).2.1 (hJ i e),(hu.2.2 i hi).2.2⟩⟩⟩
def sA(w:World)(t:Tr)(e:Ending)(w':World):Prop:=
 ∃v vs,e=.returned (.tuple #[v,.int .i64 0])/\w'.ownsRow w.heap.size 27 1 v (t.blocks 3).length vs/\iP w.heap.size w' (fun i=>v.ownBlock=some i) vs (t.blocks 3)/\aA aB w w'
theorem C5{w:World}{c:Nat}{S:Kor}{B:Nat->Prop}(hK:KI w c S B)(pv:Value)(t:Tr)(ht:Tr.Ok S 3 t)(hp:aJ w B pv t.ptr):Calls Tryz.prog 16 #[.pointer (some ⟨c,0,none⟩),.agg (aH pv t.ptr).toArray] w (sA w t):=by
 have HT:=O ht;have HPT:=O hp;have HK:=O hK;have HBLT:=O (fun i (e:B i)=>hK.lt e);obtain⟨p,hpe⟩:∃p,t.ptr=p:=⟨_,rfl⟩
 have HPE:=O hpe;rw[hpe] at HPT hp ⊢;obtain⟨pc,HPC,hpc,HOP⟩:=nmPt hp.pt;rw[HPC.out];have HL:=O (Loc.nil aB aB w);clear hp ht hK hpe;have HPT0:=HPT;have HK0:=HK;go_enter Tryz.func16,Tryz.ntmps16
 go_wp2_with ((with_reducible show WL _ _);refine bxL HL 36 (.tmp 0) (#[.pointer (some ⟨c,0,none⟩)]) ?_)
 intro b2 w1 hk HL;replace HPT:=O (aJ.keep0 HPT.out hk);replace HK:=O (HK.out.keep0 hk);clear hk
 go_wp2_with ((with_reducible show WL _ _);refine bxL HL 26 (.tmp 1) (pc.toArray) ?_)
 intro b3 w2 hk HL;replace HPT:=O (aJ.keep0 HPT.out hk);replace HK:=O (HK.out.keep0 hk);clear hk;have c1:w2.cell? ⟨b2,0,none⟩=some (.pointer (some ⟨c,0,none⟩)):=(aD (i:=0) (HL.out.b 1) rfl)
 go_wp2_with ((with_reducible show WL _ _);refine wpList_load_mid rfl 26 (.tmp 3) rfl b3 0 rfl pc _ (aC (HL.out.b 0)) aG rfl (szP9 hpc) ?_)
 clear c1;refine((by rw[←HPC.out];exact fV HK.out pv p HPT.out.pt (by rw[←HPE.out];exact HT.out.root):Calls _ _ _ w2 (aK w2 (.int .i64 0)))).mono ?_;rintro e w3 ⟨rfl,hk⟩;replace HL:=O (HL.out.keeps hk);replace HPT:=O (aJ.keep0 HPT.out hk);replace HK:=O (HK.out.keep0 hk);clear hk
 go_wp2_with ((with_reducible show WL _ _);refine alL HL 52 (.slice none 0 0) (#[.slice none 0 0]) Ml ?_)
 intro b7 w4 hk HL;replace HPT:=O (aJ.keep0 HPT.out hk);replace HK:=O (HK.out.keep0 hk);clear hk;have HB7:=O (HL.out.b 0);have HG7:=O (HL.out.lt 0);have HB2:=O (HL.out.b 2);have HG2:=O (HL.out.lt 2);have HKW:=O HL.out.keep;have HN27:Hid (b2≠b7):=O (fun e=>bI (i:=0) HL.out.nd rfl 2 (by decide) rfl e);have HOFF:Hid (∀i,pv.ownBlock=some i->i<w.heap.size):=O (fun i hi=>(HPT0.out.off i hi).2.lt);have c1:w4.cell? ⟨b2,0,none⟩=some (.pointer (some ⟨c,0,none⟩)):=(aD (i:=0) (HL.out.b 2) rfl)
 go_wp2_with ((with_reducible show WL _ _);refine wpList_load_mid rfl 26 (.tmp 3) rfl b3 0 rfl pc _ (aC (HL.out.b 1)) aG rfl (szP9 hpc) ?_)
 clear c1
 have hbj:∀i,B i->¬(i=b7\/(Value.slice none 0 0).ownBlock=some i):=fun i e e2=>by
  have:=HBLT.out i e;have:=HG7.out.1;rcases e2 with e2|e2
  ·omega
  ·cases e2
 have hpj:aJ w4 (fun i=>i=b7\/(Value.slice none 0 0).ownBlock=some i) pv t.ptr:=by
  refine⟨by rw[HPE.out];exact HPT.out.pt,fun i hi=>⟨fun e=>?_,(HPT.out.off i hi).2⟩⟩;have:=HOFF.out i hi;have:=HG7.out.1;rcases e with e|e
  ·omega
  ·cases e
 have HC:=(yG (qT w4.heap.size b7 b2 c) (JX 1000) (enters_of Tryz.func58 (by kernel_rfl) rfl) (JY S c B w4.heap.size b7 b2) [] (fun i=>i=b7\/(Value.slice none 0 0).ownBlock=some i) w4 pv t ⟨.slice none 0 0,[],⟨HG7.out.2,HG2.out.2,HN27.out,Nat.le_refl _⟩,HB7.out,HB2.out,World.ownsRow_nil _ _ _ _,iP.nil _ _ _,rfl⟩ HK.out hbj HT.out hpj (by show (dX lZ 3 [] t).length≤1000;rw[kU 3 [] t HT.out,List.nil_append,HT.out.blocks_len];decide):Calls _ _ _ w4 (cN (iQ w4.heap.size b7 b2 c) w4 (fun i=>i=b7\/(Value.slice none 0 0).ownBlock=some i) (dX lZ 3 [] t)))
 clear hbj hpj;rw[HPE.out,HPC.out,kU 3 [] t HT.out,List.nil_append] at HC;refine HC.mono ?_;rintro e w9 ⟨rfl,J',⟨v,vs,-,hb,-,ho,hr,rfl⟩,-,hk⟩;obtain⟨va,vc,rfl,-,-⟩:=(Rd.of_owns ho).form;have c1:=cell_of_one hb
 have HKX:Hid (aA aB w w9):=O (HKW.out.trans' hk (fun _ _ h=>h) (fun i hi e=>by
  have:=HG7.out.1;rcases e with e|e
  ·omega
  ·cases e))
 have HP:Hid (sA w t (.returned (.tuple #[.slice va (t.blocks 3).length vc,.int .i64 0])) w9):=O ⟨_,vs,rfl,aY ho HKW.out.size,hr.weak HKW.out.size (fun i h=>.inr h),HKX.out⟩;clear hb hk HC HL HPT HK HB7 HB2 ho hr HKX;go_wp2_with fail
 go_ret2
 exact HP.out
structure cK(w:World)(B:Nat->Prop)(b4 b5 c:Nat):Prop where
 c:w.heap[b4]?=some (.cells #[.pointer (some ⟨c,0,none⟩)] 36 (0,0))
 y:∃T,w.heap[b5]?=some (.cells #[.func (.func 54) #[] #[.pointer (some ⟨b4,0,none⟩),.pointer (some ⟨b5,0,none⟩)]] T (0,0))
 o4:Off w B b4
 o5:Off w B b5
theorem cK.keep{w w':World}{B B':Nat->Prop}{b4 b5 c:Nat}(h:cK w B b4 b5 c)(k:aA B w w')(hB:∀k,B' k->B k\/w.heap.size≤k):cK w' B' b4 b5 c:=
 ⟨k.blk h.c h.o4.1,h.y.imp fun T h2=>k.blk h2 h.o5.1,h.o4.keep k hB,h.o5.keep k hB⟩
theorem cK.keep0{w w':World}{B:Nat->Prop}{b4 b5 c:Nat}(h:cK w B b4 b5 c)(k:aA aB w w'):cK w' B b4 b5 c:=h.keep k.any fun _ h=>.inl h
theorem A1{w:World}{c:Nat}{S:Kor}{B:Nat->Prop}(hK:KI w c S B){b4 b5:Nat}(pv:Value)(t:Tr)(l:Nat)(hl:l≤3)(f g:Int)(hf:-1000≤f/\f≤1000)(hg:-1000≤g/\g≤1000)(ht:Tr.Ok S l t)(hp:aJ w B pv t.ptr)(hc:cK w B b4 b5 c)(he:t.isHole=true\/min g (4 ^ l)≤max f 0):Calls Tryz.prog 54 #[.agg (aH pv t.ptr).toArray,.int .i64 (l:Int),.int .i64 f,.int .i64 g,.pointer (some ⟨b4,0,none⟩),.pointer (some ⟨b5,0,none⟩)] w (aZ w c B pv (some t) S):=by
 have HT:=O ht;have HC:=O hc;have HE:=O he;have HHE:=O ht.hole_eq;have HPT:=O hp;have HK:=O hK;obtain⟨p,hpe⟩:∃p,t.ptr=p:=⟨_,rfl⟩
 have HPE:=O hpe;rw[hpe] at HPT hp HHE ⊢;obtain⟨pc,HPC,hpc,HOP⟩:=nmPt hp.pt;rw[HPC.out];have HL:=O (Loc.nil aB aB w);obtain⟨m,hm⟩:∃m:Nat,4 ^ l=m:=⟨_,rfl⟩
 have HM:=O hm
 have hm64:m≤64/\1≤m:=by
  have:l=0\/l=1\/l=2\/l=3:=by omega
  rcases this with rfl|rfl|rfl|rfl<;>omega
 have hll:0≤(l:Int):=by omega
 clear hp hpe hK ht hc he hm;cases hh:t.isHole with
 | true =>
   rw[hh] at HHE;clear hh HE;have HPT0:=HPT;have HK0:=HK;have HC0:=HC;go_enter Tryz.func54,Tryz.ntmps54
   go_wp2_with ((with_reducible show WL _ _);refine bxL HL 26 (.tmp 0) (pc.toArray) ?_)
   intro b6 w1 hk HL;replace HPT:=O (aJ.keep0 HPT.out hk);replace HK:=O (HK.out.keep0 hk);replace HC:=O (cK.keep0 HC.out hk);clear hk
   go_wp2_with ((with_reducible show WL _ _);refine alL HL 26 (.agg aF.toArray) (aF.toArray) aQ ?_)
   intro b10 w2 hk HL;replace HPT:=O (aJ.keep0 HPT.out hk);replace HK:=O (HK.out.keep0 hk);replace HC:=O (cK.keep0 HC.out hk);clear hk;go_wp2_with fail;refine((by rw[←HM.out];exact iE w2 l hl:Calls _ _ _ w2 (aK w2 (.int .i64 (m:Int))))).mono ?_;rintro e w3 ⟨rfl,hk⟩;replace HL:=O (HL.out.keeps hk);replace HPT:=O (aJ.keep0 HPT.out hk);replace HK:=O (HK.out.keep0 hk);replace HC:=O (cK.keep0 HC.out hk);clear hk
   go_wp2_with ((with_reducible show WL _ _);refine wpList_load_mid rfl 26 (.tmp 6) rfl b6 0 rfl pc _ (aC (HL.out.b 1)) aG rfl (szP9 hpc) ?_)
   refine((by rw[←HPC.out];exact bU w3 pv p HPT.out.pt:Calls _ _ _ w3 (aT w3 p.hole))).mono ?_;rintro e w4 ⟨rfl,hk⟩;replace HL:=O (HL.out.keeps hk);replace HPT:=O (aJ.keep0 HPT.out hk);replace HK:=O (HK.out.keep0 hk);replace HC:=O (cK.keep0 HC.out hk);clear hk;rw[HHE.out]
   go_wp2_with ((with_reducible show WL _ _);first
    | refine wpList_load_mid rfl 26 (.tmp 6) rfl b6 0 rfl pc _ (aC (HL.out.b 1)) aG rfl (szP9 hpc) ?_
    | refine sta 26 (.tmp 10) (.tmp 34) b10 0 pc (HL.out.b 0) (by first|decide|(rw[hpc];exact Nat.le_refl _)|simp[hpc,aE]) (szP9 hpc) HOP.out ?_)
   intro w5 hk hb;rw[aI _ _ (by first|rfl|simp[hpc,aE])] at hb;replace HL:=O (HL.out.set 0 hk hb);replace HPT:=O (aJ.keep0 HPT0.out HL.out.keep);replace HK:=O (HK0.out.keep0 HL.out.keep);replace HC:=O (cK.keep0 HC0.out HL.out.keep);clear hk hb;have HB10:=O (HL.out.b 0);have HP:Hid (aZ w c B pv (some t) S (.returned (.tuple #[.agg pc.toArray,.int .i64 0])) w5):=O (by rw[←HPC.out,←HPE.out];exact aZ.still (by rw[HPE.out];exact HPT.out) HK.out HL.out.keep);clear HL HK HC HPT;go_wp2_with fail;refine bodyPost_ret (aW rfl _ _ b10 _ _ _ _ rfl HB10.out aG rfl (by rw[List.size_toArray,hpc];exact bL)) rfl ?_;exact HP.out
 | false =>
   have he2:min g (m:Int)≤max f 0:=by rw[hh] at HE;have:=HE.out.resolve_left (by decide);rw[←HM.out];exact_mod_cast this
   have he3:decide (max f 0 ≥ min g (m:Int))=true:=decide_eq_true he2;rw[hh] at HHE;clear hh HE;have HPT0:=HPT;have HK0:=HK;have HC0:=HC;go_enter Tryz.func54,Tryz.ntmps54
   go_wp2_with ((with_reducible show WL _ _);refine bxL HL 26 (.tmp 0) (pc.toArray) ?_)
   intro b6 w1 hk HL;replace HPT:=O (aJ.keep0 HPT.out hk);replace HK:=O (HK.out.keep0 hk);replace HC:=O (cK.keep0 HC.out hk);clear hk
   go_wp2_with ((with_reducible show WL _ _);refine alL HL 26 (.agg aF.toArray) (aF.toArray) aQ ?_)
   intro b10 w2 hk HL;replace HPT:=O (aJ.keep0 HPT.out hk);replace HK:=O (HK.out.keep0 hk);replace HC:=O (cK.keep0 HC.out hk);clear hk;go_wp2_with fail;refine((by rw[←HM.out];exact iE w2 l hl:Calls _ _ _ w2 (aK w2 (.int .i64 (m:Int))))).mono ?_;rintro e w3 ⟨rfl,hk⟩;replace HL:=O (HL.out.keeps hk);replace HPT:=O (aJ.keep0 HPT.out hk);replace HK:=O (HK.out.keep0 hk);replace HC:=O (cK.keep0 HC.out hk);clear hk
   go_wp2_with ((with_reducible show WL _ _);refine wpList_load_mid rfl 26 (.tmp 6) rfl b6 0 rfl pc _ (aC (HL.out.b 1)) aG rfl (szP9 hpc) ?_)
   refine((by rw[←HPC.out];exact bU w3 pv p HPT.out.pt:Calls _ _ _ w3 (aT w3 p.hole))).mono ?_;rintro e w4 ⟨rfl,hk⟩;replace HL:=O (HL.out.keeps hk);replace HPT:=O (aJ.keep0 HPT.out hk);replace HK:=O (HK.out.keep0 hk);replace HC:=O (cK.keep0 HC.out hk);clear hk;rw[HHE.out]
   go_wp2_with ((with_reducible show WL _ _);first
    | refine wpList_load_mid rfl 26 (.tmp 6) rfl b6 0 rfl pc _ (aC (HL.out.b 1)) aG rfl (szP9 hpc) ?_
    | refine sta 26 (.tmp 10) (.tmp 34) b10 0 pc (HL.out.b 0) (by first|decide|(rw[hpc];exact Nat.le_refl _)|simp[hpc,aE]) (szP9 hpc) HOP.out ?_)
   intro w5 hk hb;rw[aI _ _ (by first|rfl|simp[hpc,aE])] at hb;replace HL:=O (HL.out.set 0 hk hb);replace HPT:=O (aJ.keep0 HPT0.out HL.out.keep);replace HK:=O (HK0.out.keep0 HL.out.keep);replace HC:=O (cK.keep0 HC0.out HL.out.keep);clear hk hb;have HB10:=O (HL.out.b 0);have HP:Hid (aZ w c B pv (some t) S (.returned (.tuple #[.agg pc.toArray,.int .i64 0])) w5):=O (by rw[←HPC.out,←HPE.out];exact aZ.still (by rw[HPE.out];exact HPT.out) HK.out HL.out.keep);clear HL HK HC HPT;go_wp2_with fail;refine bodyPost_ret (aW rfl _ _ b10 _ _ _ _ rfl HB10.out aG rfl (by rw[List.size_toArray,hpc];exact bL)) rfl ?_;exact HP.out
theorem A2{w:World}{c:Nat}{S:Kor}{B:Nat->Prop}(hK:KI w c S B){b4 b5:Nat}(pv:Value)(t:Tr)(l:Nat)(hl:l≤3)(f g:Int)(hf:-1000≤f/\f≤1000)(hg:-1000≤g/\g≤1000)(ht:Tr.Ok S l t)(hp:aJ w B pv t.ptr)(hc:cK w B b4 b5 c)(hh:t.isHole=false)(he:¬min g (4 ^ l)≤max f 0)(hw:min g (4 ^ l)-max f 0=4 ^ l):Calls Tryz.prog 54 #[.agg (aH pv t.ptr).toArray,.int .i64 (l:Int),.int .i64 f,.int .i64 g,.pointer (some ⟨b4,0,none⟩),.pointer (some ⟨b5,0,none⟩)] w (aZ w c B pv (some .hole) S):=by
 have HT:=O ht;have HC:=O hc;have HHE:=O ht.hole_eq;rw[hh] at HHE;have HPT:=O hp;have HK:=O hK;obtain⟨p,hpe⟩:∃p,t.ptr=p:=⟨_,rfl⟩
 have HPE:=O hpe;rw[hpe] at HPT hp HHE ⊢;obtain⟨pc,HPC,hpc,HOP⟩:=nmPt hp.pt;rw[HPC.out];have hzp:(aH (.slice none 0 0) zPt).length=35:=rfl;have hzb:=fQ;obtain⟨zp,hzpe⟩:∃l,aH (.slice none 0 0) zPt=l:=⟨_,rfl⟩
 have HOZP:Hid (∀u∈zp,u.oneCell'=true):=O (by rw[←hzpe];exact bO zPt);have HZPE:=O hzpe;rw[hzpe] at hzp hzb;have HZB:=O hzb;clear hzpe hzb;have HL:=O (Loc.nil aB aB w);obtain⟨m,hm⟩:∃m:Nat,4 ^ l=m:=⟨_,rfl⟩
 have HM:=O hm
 have hm64:m≤64/\1≤m:=by
  have:l=0\/l=1\/l=2\/l=3:=by omega
  rcases this with rfl|rfl|rfl|rfl<;>omega
 have hll:0≤(l:Int):=by omega
 have em:(4:Int) ^ l=(m:Int):=by rw[←hm];exact_mod_cast rfl
 rw[em] at he hw;have he3:decide (max f 0 ≥ min g (m:Int))=false:=decide_eq_false he;clear hp hpe hK ht hc hm em hh;have HPT0:=HPT;have HK0:=HK;have HC0:=HC;go_enter Tryz.func54,Tryz.ntmps54
 go_wp2_with ((with_reducible show WL _ _);refine bxL HL 26 (.tmp 0) (pc.toArray) ?_)
 intro b6 w1 hk HL;replace HPT:=O (aJ.keep0 HPT.out hk);replace HK:=O (HK.out.keep0 hk);replace HC:=O (cK.keep0 HC.out hk);clear hk
 go_wp2_with ((with_reducible show WL _ _);refine alL HL 26 (.agg aF.toArray) (aF.toArray) aQ ?_)
 intro b10 w2 hk HL;replace HPT:=O (aJ.keep0 HPT.out hk);replace HK:=O (HK.out.keep0 hk);replace HC:=O (cK.keep0 HC.out hk);clear hk;go_wp2_with fail;refine((by rw[←HM.out];exact iE w2 l hl:Calls _ _ _ w2 (aK w2 (.int .i64 (m:Int))))).mono ?_;rintro e w3 ⟨rfl,hk⟩;replace HL:=O (HL.out.keeps hk);replace HPT:=O (aJ.keep0 HPT.out hk);replace HK:=O (HK.out.keep0 hk);replace HC:=O (cK.keep0 HC.out hk);clear hk
 go_wp2_with ((with_reducible show WL _ _);refine wpList_load_mid rfl 26 (.tmp 6) rfl b6 0 rfl pc _ (aC (HL.out.b 1)) aG rfl (szP9 hpc) ?_)
 refine((by rw[←HPC.out];exact bU w3 pv p HPT.out.pt:Calls _ _ _ w3 (aT w3 p.hole))).mono ?_;rintro e w4 ⟨rfl,hk⟩;replace HL:=O (HL.out.keeps hk);replace HPT:=O (aJ.keep0 HPT.out hk);replace HK:=O (HK.out.keep0 hk);replace HC:=O (cK.keep0 HC.out hk);clear hk;rw[HHE.out];go_wp2_with fail;refine((by rw[←HM.out];exact iE w4 l hl:Calls _ _ _ w4 (aK w4 (.int .i64 (m:Int))))).mono ?_;rintro e w5 ⟨rfl,hk⟩;replace HL:=O (HL.out.keeps hk);replace HPT:=O (aJ.keep0 HPT.out hk);replace HK:=O (HK.out.keep0 hk);replace HC:=O (cK.keep0 HC.out hk);clear hk
 go_wp2_with ((with_reducible show WL _ _);first
  | refine bld 26 #[] [] (.agg zp.toArray) HZB.out ?_
  | refine sta 26 (.tmp 10) (.tmp 42) b10 0 zp (HL.out.b 0) (by first|decide|(rw[hzp];exact Nat.le_refl _)|simp[hzp,aE]) (szP9 hzp) HOZP.out ?_)
 intro w6 hk hb;rw[aI _ _ (by first|rfl|simp[hzp,aE])] at hb;replace HL:=O (HL.out.set 0 hk hb);replace HPT:=O (aJ.keep0 HPT0.out HL.out.keep);replace HK:=O (HK0.out.keep0 HL.out.keep);replace HC:=O (cK.keep0 HC0.out HL.out.keep);clear hk hb;have HB10:=O (HL.out.b 0);have HP:Hid (aZ w c B pv (some .hole) S (.returned (.tuple #[.agg zp.toArray,.int .i64 0])) w6):=O (by rw[←HZPE.out];exact aZ.hole HK.out HL.out.keep);clear HL HK HC HPT;go_wp2_with fail;refine bodyPost_ret (aW rfl _ _ b10 _ _ _ _ rfl HB10.out aG rfl (by rw[List.size_toArray,hzp];exact bL)) rfl ?_;exact HP.out
structure mA(w W0:World)(B:Nat->Prop)(c b4 b5 b6 b10 b12 l:Nat)(S:Kor)(t:Tr)(f g:Int)(pv:Value)(vs:Nat->Value)(k:Nat)(ch:Bool)(wr:World)(K:Nat->Tr)(T:Kor)(B':Nat->Prop)(vs':Nat->Value):Prop where
 eq:iN (cO l) (4 ^ l) S t f g k=(some (K,ch),T)
 ki:KI wr c T B'
 new:bZ wr B' vs' (fun i=>(K i).ptr)
 old:bZ wr B' vs (fun i=>(t.kid i).ptr)
 pt:aJ wr B' pv t.ptr
 cl:cK wr B' b4 b5 c
 h12:wr.heap[b12]?=some (.cells (cF ((l+1:Nat):Int) vs' (fun i=>(K i).ptr)).toArray 123 (0,0))
 h6:wr.heap[b6]?=some (.cells (aH pv t.ptr).toArray 26 (0,0))
 h10:wr.heap[b10]?=some (.cells aF.toArray 26 (0,0))
 sub:∀i,B' i->B i\/W0.heap.size≤i
 clo:Cl w wr B B'
 off:∀q,q<4->∀i,(vs' q).ownBlock=some i->i≠b6/\i≠b10/\i≠b12
 keep:aA (fun i=>B i\/i=b12) W0 wr
theorem mA.loc{w W0:World}{B:Nat->Prop}{c b4 b5 b6 b10 b12 l:Nat}{S:Kor}{t:Tr}{f g:Int}{pv:Value}{vs:Nat->Value}{k:Nat}{ch:Bool}{wr:World}{K:Nat->Tr}{T:Kor}{B':Nat->Prop}{vs':Nat->Value}
 (h:mA w W0 B c b4 b5 b6 b10 b12 l S t f g pv vs k ch wr K T B' vs') (kw:aA aB w W0) (hB:∀i,B i->i<w.heap.size) (g6:w.heap.size≤b6/\b6<W0.heap.size) (g10:w.heap.size≤b10/\b10<W0.heap.size) (g12:w.heap.size≤b12/\b12<W0.heap.size) (n1:b12≠b10) (n2:b12≠b6) (n3:b10≠b6) :
 Loc B B' w wr [(b12,(cF ((l+1:Nat):Int) vs' (fun i=>(K i).ptr)).toArray,123),(b10,aF.toArray,26),(b6,(aH pv t.ptr).toArray,26)]:=by
 refine⟨kw.trans' h.keep (fun _ _ h=>h.elim) (fun i hi e=>e.elim id fun e=>by omega),fun x hx=>?_,?_,fun x hx=>?_,fun x hx hb=>?_⟩
 ·simp only[List.mem_cons,List.not_mem_nil,or_false] at hx
  rcases hx with rfl|rfl|rfl
  ·exact g12.1
  ·exact g10.1
  ·exact g6.1
 ·simp[n1,n2,n3]
 ·simp only[List.mem_cons,List.not_mem_nil,or_false] at hx
  rcases hx with rfl|rfl|rfl
  ·exact h.h12
  ·exact h.h10
  ·exact h.h6
 ·simp only[List.mem_cons,List.not_mem_nil,or_false] at hx
  have:=h.sub _ hb;rcases hx with rfl|rfl|rfl
  ·exact this.elim (fun e=>by have:=hB _ e;simp only at this;omega) (fun e=>by simp only at e;omega)
  ·exact this.elim (fun e=>by have:=hB _ e;simp only at this;omega) (fun e=>by simp only at e;omega)
  ·exact this.elim (fun e=>by have:=hB _ e;simp only at this;omega) (fun e=>by simp only at e;omega)
theorem mA.step{w W0:World}{B:Nat->Prop}{c b4 b5 b6 b10 b12 l:Nat}{S:Kor}{t:Tr}{f g:Int}{pv:Value}{vs:Nat->Value}{k:Nat}{ch:Bool}{wr:World}{K:Nat->Tr}{T:Kor}{B':Nat->Prop}{vs':Nat->Value}
 (h:mA w W0 B c b4 b5 b6 b10 b12 l S t f g pv vs k ch wr K T B' vs'){w8 w9:World}{u:Tr}{U:Kor}{B2:Nat->Prop}{v:Value}(e:cO l T (t.kid k) (f-k*4 ^ l) (g-k*4 ^ l)=(some u,U))
 (ki:KI w8 c U B2) (pt:aJ w8 B2 v u.ptr) (sub:∀i,B2 i->B' i\/wr.heap.size≤i) (clo:Cl wr w8 B' B2) (kx:aA B' wr w8) (ks:aA (fun i=>i=b12) w8 w9)
 (h12:w9.heap[b12]?=some (.cells (cF ((l+1:Nat):Int) (fD vs' k v) (fD (fun i=>(K i).ptr) k u.ptr)).toArray 123 (0,0)))
 (hv:v=vs k\/eF wr v) (hvs:∀q,q<4->∀i,(vs q).ownBlock=some i->i≠b6/\i≠b10/\i≠b12) (hk:k<4) (hpv:∀i,pv.ownBlock=some i->i≠b12) (h4:b4≠b12/\b5≠b12) (hB:∀i,B i->i<w.heap.size)
 (g6:w.heap.size≤b6/\b6<W0.heap.size) (g10:w.heap.size≤b10/\b10<W0.heap.size) (g12:w.heap.size≤b12/\b12<W0.heap.size) (n1:b12≠b10) (n2:b12≠b6) :
 mA w W0 B c b4 b5 b6 b10 b12 l S t f g pv vs (k+1) (ch || !(t.kid k).ptr.eqB u.ptr) w9 (eH K k u) U B2 (fD vs' k v):=by
 have hsz:=h.keep.size;have hno:∀i,B' i->i≠b6/\i≠b10/\i≠b12:=fun i hi=>(h.sub i hi).elim (fun e=>by have:=hB i e;omega) fun e=>by omega
 have hno2:∀i,B2 i->i≠b6/\i≠b10/\i≠b12:=fun i hi=>(sub i hi).elim (hno i) fun e=>by omega
 have hvn:∀i,v.ownBlock=some i->i≠b6/\i≠b10/\i≠b12:=fun i hi=>by
  rcases hv with rfl|hv
  ·exact hvs k hk i hi
  ·have:=hv i hi;omega
 have k9:aA (fun i=>B' i\/i=b12) wr w9:=kx.trans' ks (fun _ _ h=>.inl h) (fun i _ e=>.inr e)
 refine⟨?_,ki.keepT ks fun i e hb=>(hno2 i hb).2.2 e,fun q hq=>?_,fun q hq=>(h.old q hq).grow (T:=fun i=>i=b12) k9 (fun i hi=>(hvs q hq i hi).2.2) sub,h.pt.grow (T:=fun i=>i=b12) k9 hpv sub,?_,by rw[←CX];exact h12,
  k9.blk h.h6 (fun e=>e.elim (fun e=>(hno _ e).1 rfl) (fun e=>n2 e.symm)),k9.blk h.h10 (fun e=>e.elim (fun e=>(hno _ e).2.1 rfl) (fun e=>n1 e.symm)),fun i hi=>(sub i hi).elim (h.sub i) fun e=>.inr (by omega),
  (h.clo.trans clo).onT ks fun i hi=>(hno2 i hi).2.2,fun q hq i hi=>?_,h.keep.trans' k9 (fun _ _ h=>h) (fun i hi e=>e.elim (fun e=>(h.sub i e).imp id fun e=>by omega) .inr)⟩
 ·unfold iN
  rw[h.eq];simp only[];rw[e]
 ·show aJ w9 B2 (fD vs' k v q) (eH K k u q).ptr
  by_cases e:q=k
  ·subst e;rw[lU,jT];exact pt.keepT ks fun i hi=>(hvn i hi).2.2
  ·rw[lV _ _ e,jU _ _ e];exact(h.new q hq).grow (T:=fun i=>i=b12) k9 (fun i hi=>(h.off q hq i hi).2.2) sub
 ·have o4:=h.cl.o4;have o5:=h.cl.o5
  have m:∀{i},Off wr B' i->¬(B2 i)/\i<w9.heap.size:=fun {i} o=>⟨fun e=>(sub i e).elim o.1 fun e=>by have:=o.2;omega,by have:=o.2;have:=k9.size;omega⟩
  exact⟨k9.blk h.cl.c (fun e=>e.elim o4.1 h4.1),h.cl.y.imp fun T h2=>k9.blk h2 (fun e=>e.elim o5.1 h4.2),m o4,m o5⟩
 ·by_cases e:q=k
  ·subst e;rw[lU] at hi;exact hvn i hi
  ·rw[lV _ _ e] at hi;exact h.off q hq i hi
theorem yO{cut:Kor->Tr->Int->Int->Option Tr×Kor}{W f g:Int}{S U:Kor}{t:Tr}:∀{i j:Nat},iN cut W S t f g j=(none,U)->j≤i->iN cut W S t f g i=(none,U)
 | 0,j,h,hj=>by
   obtain rfl:j=0:=by omega
   exact h
 | i+1,j,h,hj=>by
   by_cases e:j=i+1
   ·subst e;exact h
   ·unfold iN
    rw[yO (i:=i) h (by omega)]
theorem mA.fail{w W0:World}{B:Nat->Prop}{c b4 b5 b6 b10 b12 l:Nat}{S:Kor}{t:Tr}{f g:Int}{pv:Value}{vs:Nat->Value}{k:Nat}{ch:Bool}{wr:World}{K:Nat->Tr}{T:Kor}{B':Nat->Prop}{vs':Nat->Value}
 (h:mA w W0 B c b4 b5 b6 b10 b12 l S t f g pv vs k ch wr K T B' vs') (hk:k<4){U:Kor}(e:cO l T (t.kid k) (f-k*4 ^ l) (g-k*4 ^ l)=(none,U)):iN (cO l) (4 ^ l) S t f g 4=(none,U):=by
 refine yO (j:=k+1) ?_ (by omega);unfold iN;rw[h.eq];simp only[];rw[e]
theorem mA.kids{w W0:World}{B:Nat->Prop}{c b4 b5 b6 b10 b12 l:Nat}{S:Kor}{t:Tr}{f g:Int}{pv:Value}{vs:Nat->Value}{k:Nat}{ch:Bool}{wr:World}{K:Nat->Tr}{T:Kor}{B':Nat->Prop}{vs':Nat->Value}
 (h:mA w W0 B c b4 b5 b6 b10 b12 l S t f g pv vs k ch wr K T B' vs') (hl:l≤2) (hb:S.Bd) (ht:Tr.Ok S (l+1) t) (hk:k≤4):Beh S T/\∀i,i<4->Tr.Ok T l (K i):=by
 obtain⟨h1,h2⟩:=zK (C:=fun _ _ _=>True) hb ht (fun hb ht h=>uI (by omega) hb ht h) k hk h.eq;exact⟨h1,(h2 K ch rfl).1⟩
def L8(l:Nat):Prop:=∀(w:World) (c:Nat) (S:Kor) (B:Nat->Prop),KI w c S B->∀(b4 b5:Nat) (pv:Value) (t:Tr) (f g:Int),(-1000≤f/\f≤1000)->(-1000≤g/\g≤1000)->Tr.Ok S l t->aJ w B pv t.ptr->cK w B b4 b5 c ->
 Calls Tryz.prog 54 #[.agg (aH pv t.ptr).toArray,.int .i64 (l:Int),.int .i64 f,.int .i64 g,.pointer (some ⟨b4,0,none⟩),.pointer (some ⟨b5,0,none⟩)] w (aZ w c B pv (cO l S t f g).1 (cO l S t f g).2)
theorem Id{l:Nat}(hl2:l≤2)(IH:L8 l){w:World}{c:Nat}{S:Kor}{B:Nat->Prop}(hK:KI w c S B){b4 b5:Nat}(pv:Value)(t:Tr)(f g:Int)(hf:-1000≤f/\f≤1000)(hg:-1000≤g/\g≤1000)(ht:Tr.Ok S (l+1) t)(hp:aJ w B pv t.ptr)(hc:cK w B b4 b5 c)(hh:t.isHole=false)(he:¬min g (4 ^ (l+1))≤max f 0)(hw:¬min g (4 ^ (l+1))-max f 0=4 ^ (l+1)):Calls Tryz.prog 54 #[.agg (aH pv t.ptr).toArray,.int .i64 ((l+1:Nat):Int),.int .i64 f,.int .i64 g,.pointer (some ⟨b4,0,none⟩),.pointer (some ⟨b5,0,none⟩)] w (aZ w c B pv (cO (l+1) S t f g).1 (cO (l+1) S t f g).2):=by
 have HT:=O ht;have HC:=O hc;have HIH:=O IH;have HBLT:=O (fun i (e:B i)=>hK.lt e);have HBD:=O hK.bd;have HC45:=O (And.intro hc.o4.2 hc.o5.2);have HPLT:=O (fun i hi=>(hp.off i hi).2.lt);have HHE:=O ht.hole_eq;rw[hh] at HHE;have HPT:=O hp;have HK:=O hK;obtain⟨p,hpe⟩:∃p,t.ptr=p:=⟨_,rfl⟩
 have HPE:=O hpe;rw[hpe] at HPT hp HHE ⊢;obtain⟨pc,HPC,hpc,HOP⟩:=nmPt hp.pt;rw[HPC.out];have hzp:(aH (.slice none 0 0) zPt).length=35:=rfl;have hzb:=fQ;obtain⟨zp,hzpe⟩:∃l,aH (.slice none 0 0) zPt=l:=⟨_,rfl⟩
 have HOZP:Hid (∀u∈zp,u.oneCell'=true):=O (by rw[←hzpe];exact bO zPt);have HZPE:=O hzpe;rw[hzpe] at hzp hzb;have HZB:=O hzb;clear hzpe hzb;have HL:=O (Loc.nil aB aB w);obtain⟨m,hm⟩:∃m:Nat,4 ^ (l+1)=m:=⟨_,rfl⟩
 have HM:=O hm;have hl:l+1≤3:=by omega
 have hm64:m≤64/\1≤m:=by
  have:l=0\/l=1\/l=2:=by omega
  rcases this with rfl|rfl|rfl<;>omega
 have hll:0≤((l+1:Nat):Int):=by omega
 have em:(4:Int) ^ (l+1)=(m:Int):=by rw[←hm];exact_mod_cast rfl
 have HCT:Hid (cO (l+1) S t f g=match iN (cO l) (4 ^ l) S t (max f 0) (min g (m:Int)) 4 with
  | (none,T)=>(none,T)
  | (some (k,ch),T)=>if ch then T.lay (l+1) k else (some t,T)):=O (by
  show (if t.isHole || decide (min g (4 ^ (l+1))≤max f 0) then (some t,S) else if min g (4 ^ (l+1))-max f 0=4 ^ (l+1) then (some .hole,S) else _)=_;rw[hh,decide_eq_false he,if_neg (by decide),if_neg hw,em];rfl)
 rw[em] at he hw;have he3:decide (max f 0 ≥ min g (m:Int))=false:=decide_eq_false he;clear hp hpe hK ht hc hm em hh IH;go_enter Tryz.func54,Tryz.ntmps54
 go_wp2_with ((with_reducible show WL _ _);refine bxL HL 26 (.tmp 0) (pc.toArray) ?_)
 intro b6 w1 hk HL;replace HPT:=O (aJ.keep0 HPT.out hk);replace HK:=O (HK.out.keep0 hk);replace HC:=O (cK.keep0 HC.out hk);clear hk
 go_wp2_with ((with_reducible show WL _ _);refine alL HL 26 (.agg aF.toArray) (aF.toArray) aQ ?_)
 intro b10 w2 hk HL;replace HPT:=O (aJ.keep0 HPT.out hk);replace HK:=O (HK.out.keep0 hk);replace HC:=O (cK.keep0 HC.out hk);clear hk;go_wp2_with fail;refine((by rw[←HM.out];exact iE w2 (l+1) hl:Calls _ _ _ w2 (aK w2 (.int .i64 (m:Int))))).mono ?_;rintro e w3 ⟨rfl,hk⟩;replace HL:=O (HL.out.keeps hk);replace HPT:=O (aJ.keep0 HPT.out hk);replace HK:=O (HK.out.keep0 hk);replace HC:=O (cK.keep0 HC.out hk);clear hk
 go_wp2_with ((with_reducible show WL _ _);refine wpList_load_mid rfl 26 (.tmp 6) rfl b6 0 rfl pc _ (aC (HL.out.b 1)) aG rfl (szP9 hpc) ?_)
 refine((by rw[←HPC.out];exact bU w3 pv p HPT.out.pt:Calls _ _ _ w3 (aT w3 p.hole))).mono ?_;rintro e w4 ⟨rfl,hk⟩;replace HL:=O (HL.out.keeps hk);replace HPT:=O (aJ.keep0 HPT.out hk);replace HK:=O (HK.out.keep0 hk);replace HC:=O (cK.keep0 HC.out hk);clear hk;rw[HHE.out];go_wp2_with fail;refine((by rw[←HM.out];exact iE w4 (l+1) hl:Calls _ _ _ w4 (aK w4 (.int .i64 (m:Int))))).mono ?_;rintro e w5 ⟨rfl,hk⟩;replace HL:=O (HL.out.keeps hk);replace HPT:=O (aJ.keep0 HPT.out hk);replace HK:=O (HK.out.keep0 hk);replace HC:=O (cK.keep0 HC.out hk);clear hk;have c1:w5.cell? ⟨b4,0,none⟩=some (.pointer (some ⟨c,0,none⟩)):=(aD (i:=0) HC.out.c rfl)
 go_wp2_with ((with_reducible show WL _ _);refine wpList_load_mid rfl 26 (.tmp 6) rfl b6 0 rfl pc _ (aC (HL.out.b 1)) aG rfl (szP9 hpc) ?_)
 clear c1;have HLW:=O HL.out.keep.size;have HLB:=O (And.intro (HL.out.lt 0).2 (HL.out.lt 1).2);refine((by rw[←HPC.out,←HPE.out];exact tX HK.out hl2 pv t HT.out (by rw[HPE.out];exact HPT.out.pt):Calls _ _ _ w5 (jL w5 B l t))).mono ?_;rintro e w6 ⟨vs,rfl,hvs,hnew,hk⟩;have HNN:=O hvs;have HNW:=O hnew;have hnn:=dJ ((l+1:Nat):Int) vs hvs.nv;have HOF0:=eE ((l+1:Nat):Int) hvs.nv;obtain⟨nn,hnne⟩:∃x,cF ((l+1:Nat):Int) vs (fun i=>(t.kid i).ptr)=x:=⟨_,rfl⟩
 have HOF:Hid (∀u∈nn,u.oneCell'=true):=O (by rw[←hnne];exact HOF0);have HNF:=O hnne;rw[hnne] at hnn ⊢;obtain⟨tc,htce⟩:∃x,qN vs (fun i=>(t.kid i).ptr)=x:=⟨_,rfl⟩
 have HNT:Hid (nn=.int .i64 ((l+1:Nat):Int)::tc):=O (by rw[←hnne,←htce];rfl);have HTC:=O htce;have hnt:tc.length=140:=by have h:=hnn;rw[HNT.out,List.length_cons] at h;omega
 have HNL:=O (fun q (hq:q<4) i hi=>((hvs q hq).off i hi).2.lt);clear HOF0 hnne hvs hnew htce;replace HL:=O (HL.out.keeps hk);replace HPT:=O (aJ.keep0 HPT.out hk);replace HK:=O (HK.out.keep0 hk);replace HC:=O (cK.keep0 HC.out hk);clear hk
 go_wp2_with ((with_reducible show WL _ _);refine al 123 (.agg eN.toArray) (eN.toArray) mV ?_)
 intro b12 w7 hbs hk0 hb0_
 go_wp2_with ((with_reducible show WL _ _);refine sta 123 (.tmp 12) (.tmp 48) b12 0 nn hb0_ (by first|decide|(rw[List.size_toArray,hnn];exact Nat.le_refl _)|simp[hnn,cW]) (by rw[hnn];exact eO) HOF.out ?_)
 intro w8 hk hb;rw[aI _ _ (by first|rfl|(rw[List.size_toArray,hnn];rfl)|simp[hnn,cW])] at hb;replace hk:=hk0.trans' hk (U:=aB) (fun _ _ h=>h) (fun i hi e=>by omega);have HNb12:=O (show w6.heap.size≤b12 from Nat.le_of_eq hbs);replace HL:=O (HL.out.new (fun _ h=>h.elim) hbs hk hb);replace HPT:=O (aJ.keep0 HPT.out hk);replace HK:=O (HK.out.keep0 hk);replace HC:=O (cK.keep0 HC.out hk);replace HNN:=O (bZ.keep0 HNN.out hk);clear hbs hk hb hk0 hb0_
 go_wp2_with ((with_reducible show WL _ _);refine wpList_load_mid rfl 121 (.tmp 54) rfl b12 1 rfl tc _ (by have h:=aC (HL.out.b 0);rw[HNT.out] at h;exact rS h) Tryz.underlying121 rfl (by rw[hnt];exact Kc) ?_)
 have HVO:=O (show ∀q,q<4->∀i,(vs q).ownBlock=some i->i≠b6/\i≠b10/\i≠b12 from fun q hq i hi=>by (have:=HNW.out q hq i hi;have:=HNL.out q hq i hi;have:=HLB.out;have:=HNb12.out;omega));have HND:=O (show b12≠b10/\b12≠b6/\b10≠b6 from⟨bI HL.out.nd (i:=1) rfl 0 (by decide) rfl,bI HL.out.nd (i:=2) rfl 0 (by decide) rfl,bI HL.out.nd (i:=2) rfl 1 (by decide) rfl⟩);have HST:Hid (∃K T B' vs',mA w w8 B c b4 b5 b6 b10 b12 l S t (max f 0) (min g (m:Int)) pv vs 0 false w8 K T B' vs'):=O ⟨t.kid,S,B,vs,rfl,HK.out,HNN.out,HNN.out,by rw[HPE.out];exact HPT.out,HC.out,by (have h:=HL.out.b 0;rw[←HNF.out] at h;exact h),by (have h:=HL.out.b 2;rw[←HPC.out,←HPE.out] at h;exact h),HL.out.b 1,fun _ h=>.inl h,Cl.refl _ _ _ HL.out.keep,HVO.out,aA.refl _ _⟩;have HG:=O (And.intro (HL.out.lt 0) (And.intro (HL.out.lt 1) (HL.out.lt 2)));have HKW:=O HL.out.keep;have HPO:=O (fun i hi=>(HPT.out.off i hi).2);have HPL:=O HPLT.out;clear HL HK HPT HC HNN
 go_loopw [14,56] (fun ch i wr=>∃(k:Nat) (cb:Bool),k≤4/\ch=.bool cb/\i=.int .i64 (k:Int)/\Hid (∃K T B' vs',mA w w8 B c b4 b5 b6 b10 b12 l S t (max f 0) (min g (m:Int)) pv vs k cb wr K T B' vs')) (fun _ i _=>4-(intOf i).toNat)
 case atStart=>exact⟨0,false,by omega,rfl,rfl,HST⟩
 case round =>
  obtain⟨k,cb,hk,rfl,rfl,HCI⟩:=hrel;obtain⟨K,T,B',vs',hci⟩:=HCI.out
  by_cases hk8:k<4
  ·have HKI:=O hci.ki;have HQV:=O (hci.old k hk8);have HCL:=O hci.cl;have HCX:=O hci
   have HL:=O (hci.loc HKW.out HBLT.out HG.out.2.2 HG.out.2.1 HG.out.1 HND.out.1 HND.out.2.1 HND.out.2.2);have HX:=O (aA.refl aB wr);obtain⟨W,hW⟩:∃W:Nat,4 ^ l=W:=⟨_,rfl⟩
   have hW16:W≤16:=by
    have:l=0\/l=1\/l=2:=by omega
    rcases this with rfl|rfl|rfl<;>omega
   have HW:=O hW;obtain⟨kw,hkw⟩:∃q:Nat,k*W=q:=⟨_,rfl⟩
   have hkw48:kw≤48:=by rw[←hkw];exact Nat.le_trans (Nat.mul_le_mul (by omega:k≤3) hW16) (by decide)
   have hkwi:(k:Int)*(W:Int)=(kw:Int):=by rw[←hkw];push_cast;rfl
   have HKWI:Hid ((k:Int)*(4:Int) ^ l=(kw:Int)):=O (by rw[←hkwi,←hW];push_cast;rfl);have hqc:=aL (v:=vs k) HQV.out.pt.sum;have HOQ0:=bD HQV.out.pt;have hex:=Ed hci.old.nv hk8;obtain⟨qc,hqce⟩:∃x,aH (vs k) ((t.kid k).ptr)=x:=⟨_,rfl⟩
   have HOQ:Hid (∀u∈qc,u.oneCell'=true):=O (by rw[←hqce];exact HOQ0);have HQC:=O hqce;rw[hqce] at hqc;rw[HTC.out,hqce] at hex;have HEX:=O hex;obtain⟨⟨r,U⟩,hrU⟩:∃q,cO l T (t.kid k) (max f 0-(kw:Int)) (min g (m:Int)-(kw:Int))=q:=⟨_,rfl⟩
   have HRU:=O hrU;have HTK:=O ((HT.out.kid hk8).ext (hci.kids hl2 HBD.out HT.out hk).1.ext);have hk0:(0:Int)≤(k:Int):=by omega
   have hk1:(k:Int)<4:=by omega
   have hHM:=HM.out;have HB2:=O (And.intro hci.sub hci.keep.size);clear hqce HOQ0 hci hex hW hkw hrU
   go_wp2_with ((with_reducible show WL _ _);first
    | refine idx 121 26 4 35 k _ .i64 _ (.tmp 55) (.tmp 56) Tryz.underlying121 hk8 aG rfl tC ?_;rw[HEX.out]
    | refine al 26 (.agg aF.toArray) (aF.toArray) aQ ?_)
   intro b16 wa hbs hk0 hb0_
   go_wp2_with ((with_reducible show WL _ _);refine sta 26 (.tmp 16) (.tmp 59) b16 0 qc hb0_ (by first|decide|(rw[List.size_toArray,hqc];exact Nat.le_refl _)|simp[hqc,aE]) (szP9 hqc) HOQ.out ?_)
   intro wb hk hb;rw[aI _ _ (by first|rfl|(rw[List.size_toArray,hqc];rfl)|simp[hqc,aE])] at hb;replace hk:=hk0.trans' hk (U:=aB) (fun _ _ h=>h) (fun i hi e=>by omega);have HNb16:=O (show wr.heap.size≤b16 from Nat.le_of_eq hbs);replace HL:=O (HL.out.new (fun k h=>HKI.out.lt h) hbs hk hb);replace HKI:=O (HKI.out.keep0 hk);replace HQV:=O (aJ.keep0 HQV.out hk);replace HCL:=O (cK.keep0 HCL.out hk);replace HX:=O (HX.out.trans hk);clear hbs hk hb hk0 hb0_;go_wp2_with fail;refine((by rw[←HW.out];exact iE wb l (by omega):Calls _ _ _ wb (aK wb (.int .i64 (W:Int))))).mono ?_;rintro e wc ⟨rfl,hk⟩;replace HL:=O (HL.out.keeps hk);replace HKI:=O (HKI.out.keep0 hk);replace HQV:=O (aJ.keep0 HQV.out hk);replace HCL:=O (cK.keep0 HCL.out hk);replace HX:=O (HX.out.trans hk);clear hk;have c1:wc.cell? ⟨b5,0,none⟩=some (.func (.func 54) #[] #[.pointer (some ⟨b4,0,none⟩),.pointer (some ⟨b5,0,none⟩)]):=(by obtain⟨T9,h9⟩:=HCL.out.y;exact aD (i:=0) h9 rfl)
   go_wp2_with ((with_reducible show WL _ _);refine wpList_load_mid rfl 26 (.tmp 16) rfl b16 0 rfl qc _ (aC (HL.out.b 0)) aG rfl (szP9 hqc) ?_)
   clear c1;refine((by have h:=HIH.out wc c T B' HKI.out b4 b5 (vs k) (t.kid k) (max f 0-(kw:Int)) (min g (m:Int)-(kw:Int)) (by omega) (by omega) HTK.out HQV.out HCL.out;rw[HRU.out,HQC.out] at h;exact h:Calls _ _ _ wc (aZ wc c B' (vs k) r U))).mono ?_;rintro e wd ⟨v,B2,hm1,hpv,hki,hbb2,hcl,hnw,hk⟩;have HPV:=O hpv;have HKI2:=O hki;have HBB:=O (show ∀i,B2 i->B' i\/wr.heap.size≤i from fun i hi=>(hbb2 i hi).imp id fun h=>Nat.le_trans HX.out.size h);have HNW:=O (hnw.imp id fun h=>h.from HX.out.size);have HCL2:=O ((Cl.refl wr wc B' HX.out).trans hcl);replace HX:=O (HX.out.any.trans hk);have HPVL:=O (fun i hi=>(hpv.off i hi).2.lt);replace HQV:=O (HQV.out.keep hk hbb2);replace HL:=O (HL.out.turn hk (fun i hi e=>(HB2.out.1 i e).elim id fun e=>by have:=HKW.out.size;omega) (fun i hi hb=>(hbb2 i hb).elim id fun e=>by omega));have hrc:=aL (v:=v) hpv.pt.sum;have HOR0:=bD hpv.pt;obtain⟨rc,hrce⟩:∃x,aH v (cI r)=x:=⟨_,rfl⟩
   have HOR:Hid (∀u∈rc,u.oneCell'=true):=O (by rw[←hrce];exact HOR0);have HRC:=O hrce;rw[hrce] at hrc hm1;subst hm1;clear hrce HOR0 hpv hki hbb2 hcl hnw hk HKI HCL;rcases r with _|u
   ·go_wp2_with ((with_reducible show WL _ _);refine al 26 (.agg aF.toArray) (aF.toArray) aQ ?_)
    intro b18 we hbs hk0 hb0_
    go_wp2_with ((with_reducible show WL _ _);refine sta 26 (.tmp 18) (.tmp 77) b18 0 rc hb0_ (by first|decide|(rw[List.size_toArray,hrc];exact Nat.le_refl _)|simp[hrc,aE]) (szP9 hrc) HOR.out ?_)
    intro wf hk hb;rw[aI _ _ (by first|rfl|(rw[List.size_toArray,hrc];rfl)|simp[hrc,aE])] at hb;replace hk:=hk0.trans' hk (U:=aB) (fun _ _ h=>h) (fun i hi e=>by omega);have HNb18:=O (show wd.heap.size≤b18 from Nat.le_of_eq hbs);replace HL:=O (HL.out.new (fun k h=>HKI2.out.lt h) hbs hk hb);replace HQV:=O (aJ.keep0 HQV.out hk);replace HKI2:=O (HKI2.out.keep0 hk);replace HPV:=O (aJ.keep0 HPV.out hk);replace HX:=O (HX.out.trans (aA.any hk));replace HCL2:=O (Cl.onT HCL2.out hk fun _ _=>id);clear hbs hk hb hk0 hb0_
    go_wp2_with ((with_reducible show WL _ _);first
     | refine bld 26 #[] [] (.agg zp.toArray) HZB.out ?_
     | refine sta 26 (.tmp 10) (.tmp 81) b10 0 zp (HL.out.b 3) (by rw[List.size_toArray,aE,hzp];exact Nat.le_refl _) (szP9 hzp) HOZP.out ?_)
    intro w9 hk hb;rw[aI _ _ (by rw[List.size_toArray,aE,hzp])] at hb;have HB10:=O hb;have e0:cO (l+1) S t f g=(none,U):=by rw[HCT.out,HCX.out.fail (k:=k) hk8 (by rw[HKWI.out];exact HRU.out)]
    have HP:Hid (aZ w c B pv (cO (l+1) S t f g).1 (cO (l+1) S t f g).2 (.returned (.tuple #[.agg zp.toArray,.int .i64 15])) w9):=O (by
     rw[e0,←HZPE.out];have hg:=HG.out;have hz:=HB2.out;have nb:∀i,B2 i->i≠b10:=fun i hi e=>(HBB.out i hi).elim (fun h=>(hz.1 i h).elim (fun h=>by have:=HBLT.out i h;omega) fun h=>by omega) fun h=>by omega
     refine⟨_,B2,rfl,aJ.hole _ _,HKI2.out.keepT hk fun i e hb=>nb i hb e,fun i hi=>(HBB.out i hi).elim (fun h=>(hz.1 i h).imp id fun h=>by omega) fun h=>.inr (by omega),(HCX.out.clo.trans HCL2.out).onT hk nb,.inr (eF.nil w),?_⟩;exact((HL.out.keep).trans' hk (fun _ _ h=>h) (fun i hi e=>by omega)))
    clear hk hb HL HKI2 HPV HQV HX HCL2 HCX e0;go_wp2_with fail;refine bodyPost_ret (aW rfl _ _ b10 _ _ _ _ rfl HB10.out aG rfl (by rw[List.size_toArray,hzp];exact bL)) rfl ?_;exact HP.out
   ·go_wp2_with ((with_reducible show WL _ _);refine al 26 (.agg aF.toArray) (aF.toArray) aQ ?_)
    intro b18 we hbs hk0 hb0_
    go_wp2_with ((with_reducible show WL _ _);refine sta 26 (.tmp 18) (.tmp 77) b18 0 rc hb0_ (by first|decide|(rw[List.size_toArray,hrc];exact Nat.le_refl _)|simp[hrc,aE]) (szP9 hrc) HOR.out ?_)
    intro wf hk hb;rw[aI _ _ (by first|rfl|(rw[List.size_toArray,hrc];rfl)|simp[hrc,aE])] at hb;replace hk:=hk0.trans' hk (U:=aB) (fun _ _ h=>h) (fun i hi e=>by omega);have HNb18:=O (show wd.heap.size≤b18 from Nat.le_of_eq hbs);replace HL:=O (HL.out.new (fun k h=>HKI2.out.lt h) hbs hk hb);replace HQV:=O (aJ.keep0 HQV.out hk);replace HKI2:=O (HKI2.out.keep0 hk);replace HPV:=O (aJ.keep0 HPV.out hk);replace HX:=O (HX.out.trans (aA.any hk));replace HCL2:=O (Cl.onT HCL2.out hk fun _ _=>id);clear hbs hk hb hk0 hb0_
    cases cb with
     | true =>
       go_wp2_with ((with_reducible show WL _ _);first
        | refine wpList_load_mid rfl 26 (.tmp 18) rfl b18 0 rfl rc _ (aC (HL.out.b 0)) aG rfl (szP9 hrc) ?_
        | refine sta 26 (.tmp 93) (.tmp 91) b12 (1+k*35) rc (HL.out.b 2) (by rw[List.size_toArray,dJ _ _ HCX.out.new.nv,hrc];omega) (szP9 hrc) HOR.out ?_)
       intro w9 hk hb;rw[←HRC.out,show cI (some u)=u.ptr from rfl,CR HCX.out.new.nv _ hk8 (show u.ptr.sum.length=32 from HPV.out.pt.sum)] at hb
       have HNX:Hid (∃K T B' vs',mA w w8 B c b4 b5 b6 b10 b12 l S t (max f 0) (min g (m:Int)) pv vs (k+1) true w9 K T B' vs'):=O ⟨eH K k u,U,B2,fD vs' k v,by
        have h:=HCX.out.step (by rw[HKWI.out];exact HRU.out) HKI2.out HPV.out HBB.out HCL2.out HX.out hk hb HNW.out HVO.out hk8 (fun i hi=>by have:=HPLT.out i hi;have:=HG.out;omega) (by have:=HC45.out;have:=HG.out;omega) HBLT.out HG.out.2.2 HG.out.2.1 HG.out.1 HND.out.1 HND.out.2.1;rw[show (true || !(t.kid k).ptr.eqB u.ptr)=true from by rw[Bool.true_or]] at h;exact h⟩
       clear hk hb HL HKI2 HPV HQV HX HCL2 HCX HBB HNW HRU HB2;go_wp2_with fail
       go_roundw
       case rel=>exact⟨k+1,true,by omega,rfl,by go_num,HNX⟩
       case measure=>simp[intOf];omega
     | false =>
       obtain⟨eb,heb⟩:∃e,(t.kid k).ptr.eqB u.ptr=e:=⟨_,rfl⟩
       have HEB:=O heb;clear heb
       go_wp2_with ((with_reducible show WL _ _);first
        | refine aP (by rfl) 26 (.tmp 16) rfl b16 0 rfl qc _ (aC (HL.out.b 1)) aG rfl (szP9 hqc) ?_
        | refine aP (by rfl) 26 (.tmp 18) rfl b18 0 rfl rc _ (aC (HL.out.b 0)) aG rfl (szP9 hrc) ?_)
       refine((by rw[←HQC.out,←HRC.out];exact nT wf (vs k) v (t.kid k).ptr u.ptr HQV.out.pt HPV.out.pt:Calls _ _ _ wf (aT wf ((t.kid k).ptr.eqB u.ptr)))).mono ?_;rintro e wg ⟨rfl,hk⟩;replace HL:=O (HL.out.keeps hk);replace HQV:=O (aJ.keep0 HQV.out hk);replace HKI2:=O (HKI2.out.keep0 hk);replace HPV:=O (aJ.keep0 HPV.out hk);replace HX:=O (HX.out.trans (aA.any hk));replace HCL2:=O (Cl.onT HCL2.out hk fun _ _=>id);clear hk;rw[HEB.out]
       go_wp2_with ((with_reducible show WL _ _);first
        | refine wpList_load_mid rfl 26 (.tmp 18) rfl b18 0 rfl rc _ (aC (HL.out.b 0)) aG rfl (szP9 hrc) ?_
        | refine sta 26 (.tmp 93) (.tmp 91) b12 (1+k*35) rc (HL.out.b 2) (by rw[List.size_toArray,dJ _ _ HCX.out.new.nv,hrc];omega) (szP9 hrc) HOR.out ?_)
       intro w9 hk hb;rw[←HRC.out,show cI (some u)=u.ptr from rfl,CR HCX.out.new.nv _ hk8 (show u.ptr.sum.length=32 from HPV.out.pt.sum)] at hb
       have HNX:Hid (∃K T B' vs',mA w w8 B c b4 b5 b6 b10 b12 l S t (max f 0) (min g (m:Int)) pv vs (k+1) (!eb) w9 K T B' vs'):=O ⟨eH K k u,U,B2,fD vs' k v,by
        have h:=HCX.out.step (by rw[HKWI.out];exact HRU.out) HKI2.out HPV.out HBB.out HCL2.out HX.out hk hb HNW.out HVO.out hk8 (fun i hi=>by have:=HPLT.out i hi;have:=HG.out;omega) (by have:=HC45.out;have:=HG.out;omega) HBLT.out HG.out.2.2 HG.out.2.1 HG.out.1 HND.out.1 HND.out.2.1;rw[show (false || !(t.kid k).ptr.eqB u.ptr)=(!eb) from by rw[HEB.out,Bool.false_or]] at h;exact h⟩
       clear hk hb HL HKI2 HPV HQV HX HCL2 HCX HBB HNW HRU HB2;go_wp2_with fail
       go_roundw
       case rel=>exact⟨k+1,(!eb),by omega,rfl,by go_num,HNX⟩
       case measure=>simp[intOf];omega
  ·obtain rfl:k=4:=by omega
   have HH6:=O (show wr.heap[b6]?=some (.cells pc.toArray 26 (0,0)) from by have h:=hci.h6;rw[HPE.out,HPC.out] at h;exact h);have H10:=O hci.h10;have HCX:=O hci;clear hci HCI hk8;cases cb with
   | true =>
     have HKI:=O HCX.out.ki;have HNV:=O HCX.out.new;have HCL:=O HCX.out.cl;have HKD:=O (HCX.out.kids hl2 HBD.out HT.out (by omega)).2;have hmc:=dJ ((l+1:Nat):Int) vs' HNV.out.nv;have HL0:=O (HCX.out.loc HKW.out HBLT.out HG.out.2.2 HG.out.2.1 HG.out.1 HND.out.1 HND.out.2.1 HND.out.2.2);obtain⟨mc,hmce⟩:∃x,cF ((l+1:Nat):Int) vs' (fun i=>(K i).ptr)=x:=⟨_,rfl⟩
     have HMC:=O hmce;have HL:Hid (Loc B B' w wr [(b12,mc.toArray,123),(b10,aF.toArray,26),(b6,(aH pv t.ptr).toArray,26)]):=O (by rw[←hmce];exact HL0.out);rw[hmce] at hmc;obtain⟨⟨r,U⟩,hrU⟩:∃q,T.lay (l+1) K=q:=⟨_,rfl⟩
     have HRU:=O hrU;clear hmce HL0 hrU;have c1:wr.cell? ⟨b4,0,none⟩=some (.pointer (some ⟨c,0,none⟩)):=(aD (i:=0) HCL.out.c rfl)
     go_wp2_with ((with_reducible show WL _ _);refine wpList_load_mid rfl 123 (.tmp 12) rfl b12 0 rfl mc _ (aC (HL.out.b 0)) Tryz.underlying123 rfl (by rw[hmc];exact eO) ?_)
     clear c1;refine((by rw[←HMC.out];have h:=CS HKI.out hl2 K HKD.out vs' HNV.out;rw[HRU.out] at h;exact h:Calls _ _ _ wr (aZ wr c B' (.slice none 0 0) r U))).mono ?_;rintro e wa ⟨v,B2,hm1,hpv,hki,hbb2,hcl,hnw,hk⟩;have HPV:=O hpv;have HKI2:=O hki;have HBB:=O hbb2;have HNW:=O hnw;have HCL2:=O hcl;have HPVL:=O (show ∀i,v.ownBlock=some i->i≠b10 from fun i hi e=>hnw.elim (fun h=>by rw[h] at hi;cases hi) fun h=>by have:=h i hi;have:=HG.out;have:=HCX.out.keep.size;omega);replace HL:=O (HL.out.turn hk (fun i hi e=>(HCX.out.sub i e).elim id fun e=>by have:=HKW.out.size;omega) (fun i hi hb=>(hbb2 i hb).elim id fun e=>by omega));have hrc:=aL (v:=v) hpv.pt.sum;have HOR0:=bD hpv.pt;obtain⟨rc,hrce⟩:∃x,aH v (cI r)=x:=⟨_,rfl⟩
     have HOR:Hid (∀u∈rc,u.oneCell'=true):=O (by rw[←hrce];exact HOR0);have HRC:=O hrce;obtain⟨er,here⟩:∃x,dZ r=x:=⟨_,rfl⟩
     have HER:=O here;rw[hrce] at hrc hm1;rw[here] at hm1;subst hm1;clear hrce here HOR0 hpv hki hbb2 hcl hnw hk HKI HCL HNV
     go_wp2_with ((with_reducible show WL _ _);refine sta 26 (.tmp 10) (.tmp 101) b10 0 rc (HL.out.b 1) (by rw[List.size_toArray,aE,hrc];exact Nat.le_refl _) (szP9 hrc) HOR.out ?_)
     intro w9 hk hb;rw[aI _ _ (by rw[List.size_toArray,aE,hrc])] at hb;have HB10:=O hb;have e0:cO (l+1) S t f g=(r,U):=by rw[HCT.out,HCX.out.eq];exact HRU.out
     have HP:Hid (aZ w c B pv (cO (l+1) S t f g).1 (cO (l+1) S t f g).2 (.returned (.tuple #[.agg rc.toArray,.int .i64 er])) w9):=O (by
      rw[e0,←HRC.out,←HER.out];have hg:=HG.out;have hz:=HCX.out.keep.size;have hw:=HKW.out.size;have sub:∀i,B2 i->B i\/w8.heap.size≤i:=fun i hi=>(HBB.out i hi).elim (HCX.out.sub i) fun h=>.inr (by omega)
      have nb:∀i,B2 i->i≠b10:=fun i hi e=>(sub i hi).elim (fun h=>by have:=HBLT.out i h;omega) fun h=>by omega
      refine⟨v,B2,rfl,HPV.out.keepT hk HPVL.out,HKI2.out.keepT hk fun i e hb=>nb i hb e,fun i hi=>(sub i hi).imp id fun h=>by omega,(HCX.out.clo.trans HCL2.out).onT hk nb,.inr (HNW.out.elim (fun e=>by rw[e];exact eF.nil w) fun h=>h.from (by omega)),?_⟩;exact((HL.out.keep).trans' hk (fun _ _ h=>h) (fun i hi e=>by omega)))
     clear hk hb HL HKI2 HPV HCL2 HCX e0 HBB;go_wp2_with fail;refine bodyPost_ret (aW rfl _ _ b10 _ _ _ _ rfl HB10.out aG rfl (by rw[List.size_toArray,hrc];exact bL)) rfl ?_;exact HP.out
   | false =>
     go_wp2_with ((with_reducible show WL _ _);first
      | refine wpList_load_mid rfl 26 (.tmp 6) rfl b6 0 rfl pc _ (aC HH6.out) aG rfl (szP9 hpc) ?_
      | refine sta 26 (.tmp 10) (.tmp 97) b10 0 pc H10.out (by rw[List.size_toArray,aE,hpc];exact Nat.le_refl _) (szP9 hpc) HOP.out ?_)
     intro w9 hk hb;rw[aI _ _ (by rw[List.size_toArray,aE,hpc])] at hb;have HB10:=O hb;have e0:cO (l+1) S t f g=(some t,T):=by rw[HCT.out,HCX.out.eq];rfl
     have HP:Hid (aZ w c B pv (cO (l+1) S t f g).1 (cO (l+1) S t f g).2 (.returned (.tuple #[.agg pc.toArray,.int .i64 0])) w9):=O (by
      rw[e0,←HPC.out,←HPE.out];have hg:=HG.out;have nb:∀i,B' i->i≠b10:=fun i hi e=>(HCX.out.sub i hi).elim (fun h=>by have:=HBLT.out i h;omega) fun h=>by omega
      refine⟨pv,B',rfl,HCX.out.pt.keepT hk fun i hi e=>by (have:=HPLT.out i hi;omega),HCX.out.ki.keepT hk fun i e hb=>nb i hb e,fun i hi=>(HCX.out.sub i hi).imp id fun h=>by omega,HCX.out.clo.onT hk nb,.inl rfl,?_⟩;exact((HKW.out.trans' HCX.out.keep (fun _ _ h=>h.elim) (fun i hi e=>e.elim id fun e=>by omega)).trans' hk (fun _ _ h=>h) (fun i hi e=>by omega))
      )
     clear hk hb HH6 H10 HCX e0;go_wp2_with fail;refine bodyPost_ret (aW rfl _ _ b10 _ _ _ _ rfl HB10.out aG rfl (by rw[List.size_toArray,hpc];exact bL)) rfl ?_;exact HP.out
theorem En:∀l,l≤3->L8 l
 | 0,hl=>fun w c S B hK b4 b5 pv t f g hf hg ht hp hc=>by
   have e1:(4:Int) ^ 0=1:=rfl
   by_cases h:(t.isHole || decide (min g 1≤max f 0))=true
   ·rw[show cO 0 S t f g=(some t,S) from by unfold cO;rw[if_pos h]]
    rw[Bool.or_eq_true,decide_eq_true_eq] at h;exact A1 hK pv t 0 hl f g hf hg ht hp hc (by rw[e1];exact h)
   ·rw[show cO 0 S t f g=(some .hole,S) from by unfold cO;rw[if_neg h]]
    rw[Bool.or_eq_true,not_or,decide_eq_true_eq] at h;exact A2 hK pv t 0 hl f g hf hg ht hp hc (by simpa using h.1) (by rw[e1];exact h.2) (by rw[e1];omega)
 | l+1,hl=>fun w c S B hK b4 b5 pv t f g hf hg ht hp hc=>by
   by_cases h:(t.isHole || decide (min g (4 ^ (l+1))≤max f 0))=true
   ·rw[show cO (l+1) S t f g=(some t,S) from by unfold cO;rw[if_pos h]]
    rw[Bool.or_eq_true,decide_eq_true_eq] at h;exact A1 hK pv t (l+1) hl f g hf hg ht hp hc h
   ·by_cases hw:min g (4 ^ (l+1))-max f 0=4 ^ (l+1)
    ·rw[show cO (l+1) S t f g=(some .hole,S) from by unfold cO;rw[if_neg h,if_pos hw]]
     rw[Bool.or_eq_true,not_or,decide_eq_true_eq] at h;exact A2 hK pv t (l+1) hl f g hf hg ht hp hc (by simpa using h.1) h.2 hw
    ·rw[Bool.or_eq_true,not_or,decide_eq_true_eq] at h
     exact Id (by omega) (En l (by omega)) hK pv t f g hf hg ht hp hc (by simpa using h.1) h.2 hw
theorem MA:Hid (∀w,(zeroValue 127).run Tryz.prog w=.ok .nilFunc w):=O fun w=>by kernel_rfl
theorem wV{w:World}{c:Nat}{S:Kor}{B:Nat->Prop}(hK:KI w c S B)(pv:Value)(t:Tr)(ht:Tr.Ok S 3 t)(hp:aJ w B pv t.ptr)(f g:Nat)(hfg:f≤g)(hg:g≤64):Calls Tryz.prog 15 #[.pointer (some ⟨c,0,none⟩),.agg (aH pv t.ptr).toArray,.int .i64 (f:Int),.int .i64 (g:Int)] w (aZ w c B (.slice none 0 0) (cO 3 S t f g).1 (cO 3 S t f g).2):=by
 have HT:=O ht;have HBLT:=O (fun i (e:B i)=>hK.lt e);have HBD:=O hK.bd;have HPT:=O hp;have HK:=O hK;have HPL:=O (fun i (hi:pv.ownBlock=some i)=>(hp.off i hi).2.lt);have hf0:¬((f:Int)<0):=by omega
 have hf1:¬((f:Int) > (g:Int)):=by omega
 have hf2:¬((g:Int) > 64):=by omega
 obtain⟨p,hpe⟩:∃p,t.ptr=p:=⟨_,rfl⟩
 have HPE:=O hpe;rw[hpe] at HPT hp ⊢;obtain⟨pc,HPC,hpc,HOP⟩:=nmPt hp.pt;rw[HPC.out];have hzp:(aH (.slice none 0 0) zPt).length=35:=rfl;have hzb:=fQ;obtain⟨zp,hzpe⟩:∃l,aH (.slice none 0 0) zPt=l:=⟨_,rfl⟩
 have HOZP:Hid (∀u∈zp,u.oneCell'=true):=O (by rw[←hzpe];exact bO zPt);have HZPE:=O hzpe;rw[hzpe] at hzp hzb;have HZB:=O hzb;clear hzpe hzb;have HL:=O (Loc.nil aB aB w);obtain⟨⟨r,T⟩,hrT⟩:∃q,cO 3 S t f g=q:=⟨_,rfl⟩
 have HRT:=O hrT;rw[hrT];clear hp hpe hK ht hrT;have HPT0:=HPT;have HK0:=HK;go_enter Tryz.func15,Tryz.ntmps15
 go_wp2_with ((with_reducible show WL _ _);refine bxL HL 36 (.tmp 0) (#[.pointer (some ⟨c,0,none⟩)]) ?_)
 intro b4 w1 hk HL;replace HPT:=O (aJ.keep0 HPT.out hk);replace HK:=O (HK.out.keep0 hk);clear hk
 go_wp2_with ((with_reducible show WL _ _);refine bxL HL 26 (.tmp 1) (pc.toArray) ?_)
 intro b5 w2 hk HL;replace HPT:=O (aJ.keep0 HPT.out hk);replace HK:=O (HK.out.keep0 hk);clear hk
 go_wp2_with ((with_reducible show WL _ _);refine alL HL 26 (.agg aF.toArray) (aF.toArray) aQ ?_)
 intro b8 w3 hk HL;replace HPT:=O (aJ.keep0 HPT.out hk);replace HK:=O (HK.out.keep0 hk);clear hk;have c1:w3.cell? ⟨b4,0,none⟩=some (.pointer (some ⟨c,0,none⟩)):=(aD (i:=0) (HL.out.b 2) rfl)
 go_wp2_with ((with_reducible show WL _ _);refine wpList_load_mid rfl 26 (.tmp 5) rfl b5 0 rfl pc _ (aC (HL.out.b 1)) aG rfl (szP9 hpc) ?_)
 clear c1;refine((by rw[←HPC.out];exact fV HK.out pv p HPT.out.pt (by rw[←HPE.out];exact HT.out.root):Calls _ _ _ w3 (aK w3 (.int .i64 0)))).mono ?_;rintro e w4 ⟨rfl,hk⟩;replace HL:=O (HL.out.keeps hk);replace HPT:=O (aJ.keep0 HPT.out hk);replace HK:=O (HK.out.keep0 hk);clear hk
 go_wp2_with ((with_reducible show WL _ _);refine alL HL 127 (.nilFunc) (#[.nilFunc]) MA ?_)
 intro b11 w5 hk HL;replace HPT:=O (aJ.keep0 HPT.out hk);replace HK:=O (HK.out.keep0 hk);clear hk
 go_wp2_with ((with_reducible show WL _ _);refine sta 127 (.tmp 11) (.tmp 33) b11 0 ([.func (.func 54) #[] #[.pointer (some ⟨b4,0,none⟩),.pointer (some ⟨b11,0,none⟩)]]) (HL.out.b 0) (by simp) (by kernel_rfl) (one9) ?_)
 intro w6 hk hb;replace hb:w6.heap[b11]?=some (.cells #[.func (.func 54) #[] #[.pointer (some ⟨b4,0,none⟩),.pointer (some ⟨b11,0,none⟩)]] 127 (0,0)):=hb;replace HL:=O (HL.out.set 0 hk hb);replace HPT:=O (aJ.keep0 HPT0.out HL.out.keep);replace HK:=O (HK0.out.keep0 HL.out.keep);clear hk hb;have HCU:=O (cK.mk (HL.out.b 3) ⟨_,HL.out.b 0⟩ ⟨fun e=>by have:=HBLT.out _ e;have:=(HL.out.lt 3).1;omega,(HL.out.lt 3).2⟩ ⟨fun e=>by have:=HBLT.out _ e;have:=(HL.out.lt 0).1;omega,(HL.out.lt 0).2⟩:cK w6 B b4 b11 c);have HG:=O (And.intro (HL.out.lt 0) (And.intro (HL.out.lt 1) (And.intro (HL.out.lt 2) (HL.out.lt 3))));have c1:w6.cell? ⟨b11,0,none⟩=some (.func (.func 54) #[] #[.pointer (some ⟨b4,0,none⟩),.pointer (some ⟨b11,0,none⟩)]):=(aD (i:=0) (HL.out.b 0) rfl)
 go_wp2_with ((with_reducible show WL _ _);refine wpList_load_mid rfl 26 (.tmp 5) rfl b5 0 rfl pc _ (aC (HL.out.b 2)) aG rfl (szP9 hpc) ?_)
 clear c1;refine((by rw[←HPC.out,←HPE.out];have h:=En 3 (Nat.le_refl _) w6 c S B HK.out b4 b11 pv t f g (by omega) (by omega) HT.out (by rw[HPE.out];exact HPT.out) HCU.out;rw[HRT.out] at h;exact h:Calls _ _ _ w6 (aZ w6 c B pv r T))).mono ?_;rintro e w7 ⟨v,B2,hm1,hpv,hki,hbb2,hcl,hnw,hk⟩;have HPV:=O hpv;have HKI2:=O hki;have HBB:=O (show ∀i,B2 i->B i\/w.heap.size≤i from fun i hi=>(hbb2 i hi).imp id fun h=>Nat.le_trans HL.out.keep.size h);have HCL2:=O ((Cl.refl w w6 B HL.out.keep).trans hcl);have HPVN:=O (show ∀i,v.ownBlock=some i->i≠b8 from fun i hi e=>hnw.elim (fun h=>by rw[h] at hi;have:=HPL.out i hi;have:=HG.out;omega) fun h=>by have:=h i hi;have:=HG.out;omega);replace HL:=O ((HL.out.wide HBLT.out).turn hk (fun _ _ h=>h) (fun i hi hb=>(hbb2 i hb).elim id fun e=>by omega));have hrc:=aL (v:=v) hpv.pt.sum;have HOR0:=bD hpv.pt;obtain⟨rc,hrce⟩:∃x,aH v (cI r)=x:=⟨_,rfl⟩
 have HOR:Hid (∀u∈rc,u.oneCell'=true):=O (by rw[←hrce];exact HOR0);have HRC:=O hrce;rw[hrce] at hrc hm1;subst hm1;clear hrce HOR0 hpv hki hbb2 hcl hnw hk HK HPT HCU;rcases r with _|u
 ·go_wp2_with ((with_reducible show WL _ _);refine al 26 (.agg aF.toArray) (aF.toArray) aQ ?_)
  intro b12 w8 hbs hk0 hb0_
  go_wp2_with ((with_reducible show WL _ _);refine sta 26 (.tmp 12) (.tmp 40) b12 0 rc hb0_ (by first|decide|(rw[List.size_toArray,hrc];exact Nat.le_refl _)|simp[hrc,aE]) (szP9 hrc) HOR.out ?_)
  intro w9 hk hb;rw[aI _ _ (by first|rfl|(rw[List.size_toArray,hrc];rfl)|simp[hrc,aE])] at hb;replace hk:=hk0.trans' hk (U:=aB) (fun _ _ h=>h) (fun i hi e=>by omega);replace HL:=O (HL.out.new (fun k h=>HKI2.out.lt h) hbs hk hb);replace HKI2:=O (HKI2.out.keep0 hk);replace HPV:=O (aJ.keep0 HPV.out hk);replace HCL2:=O (Cl.onT HCL2.out hk fun _ _=>id);clear hbs hk hb hk0 hb0_
  go_wp2_with ((with_reducible show WL _ _);first
   | refine bld 26 #[] [] (.agg zp.toArray) HZB.out ?_
   | refine sta 26 (.tmp 8) (.tmp 44) b8 0 zp (HL.out.b 2) (by rw[List.size_toArray,aE,hzp];exact Nat.le_refl _) (szP9 hzp) HOZP.out ?_)
  intro w9 hk hb;rw[aI _ _ (by rw[List.size_toArray,aE,hzp])] at hb;have HB8:=O hb
  have HP:Hid (aZ w c B (.slice none 0 0) none T (.returned (.tuple #[.agg zp.toArray,.int .i64 15])) w9):=O (by
   rw[←HZPE.out];have hg:=HG.out;have nb:∀i,B2 i->i≠b8:=fun i hi e=>(HL.out.aq 2) (e▸hi)
   exact⟨_,B2,rfl,aJ.hole _ _,HKI2.out.keepT hk fun i e hb=>nb i hb e,HBB.out,HCL2.out.onT hk nb,.inl rfl,(HL.out.keep).trans' hk (fun _ _ h=>h) (fun i hi e=>by omega)⟩)
  clear hk hb HL HKI2 HPV HCL2;go_wp2_with fail;refine bodyPost_ret (aW rfl _ _ b8 _ _ _ _ rfl HB8.out aG rfl (by rw[List.size_toArray,hzp];exact bL)) rfl ?_;exact HP.out
 ·go_wp2_with ((with_reducible show WL _ _);refine al 26 (.agg aF.toArray) (aF.toArray) aQ ?_)
  intro b12 w8 hbs hk0 hb0_
  go_wp2_with ((with_reducible show WL _ _);refine sta 26 (.tmp 12) (.tmp 40) b12 0 rc hb0_ (by first|decide|(rw[List.size_toArray,hrc];exact Nat.le_refl _)|simp[hrc,aE]) (szP9 hrc) HOR.out ?_)
  intro w9 hk hb;rw[aI _ _ (by first|rfl|(rw[List.size_toArray,hrc];rfl)|simp[hrc,aE])] at hb;replace hk:=hk0.trans' hk (U:=aB) (fun _ _ h=>h) (fun i hi e=>by omega);replace HL:=O (HL.out.new (fun k h=>HKI2.out.lt h) hbs hk hb);replace HKI2:=O (HKI2.out.keep0 hk);replace HPV:=O (aJ.keep0 HPV.out hk);replace HCL2:=O (Cl.onT HCL2.out hk fun _ _=>id);clear hbs hk hb hk0 hb0_;have HADL:=O (show u.ptr.addrs.length≤65536 from by have:=(iD (Tr.Ok.may3 (show Tr.Ok T 3 u from((uI (Nat.le_refl 3) HBD.out HT.out HRT.out).2 u rfl).1))).1;omega)
  go_wp2_with ((with_reducible show WL _ _);refine wpList_load_mid rfl 26 (.tmp 12) rfl b12 0 rfl rc _ (aC (HL.out.b 0)) aG rfl (szP9 hrc) ?_)
  have HLS:=O HL.out.keep.size;go_wp2_with fail;refine((by rw[←HRC.out];exact wS (fun i e=>HKI2.out.lt e) v u.ptr HPV.out.pt HADL.out:Calls _ _ _ w9 (qO w9 B2 u.ptr))).mono ?_;rintro e wa ⟨ov,rfl,hov,hovn,hk⟩;have HOV:=O hov;have HON2:=O (hovn.from HLS.out);have HOFF:=O (show ∀i,ov.ownBlock=some i->i≠b8 from fun i hi e=>by have:=hovn i hi;have:=(HL.out.lt 2).2;omega);obtain⟨oc,HOCE,hoc,HOOC⟩:=nmPt hov.pt;rw[HOCE.out];clear hov hovn;replace HL:=O (HL.out.keeps hk);replace HKI2:=O (HKI2.out.keep0 hk);replace HPV:=O (aJ.keep0 HPV.out hk);replace HCL2:=O (Cl.onT HCL2.out hk fun _ _=>id);clear hk
  go_wp2_with ((with_reducible show WL _ _);refine sta 26 (.tmp 8) (.tmp 47) b8 0 oc (HL.out.b 2) (by rw[List.size_toArray,aE,hoc];exact Nat.le_refl _) (szP9 hoc) HOOC.out ?_)
  intro w9 hk hb;rw[aI _ _ (by rw[List.size_toArray,aE,hoc])] at hb;have HB8:=O hb
  have HP:Hid (aZ w c B (.slice none 0 0) (some u) T (.returned (.tuple #[.agg oc.toArray,.int .i64 0])) w9):=O (by
   rw[←HOCE.out];have hg:=HG.out;have nb:∀i,B2 i->i≠b8:=fun i hi e=>(HL.out.aq 2) (e▸hi)
   exact⟨ov,B2,rfl,HOV.out.keepT hk HOFF.out,HKI2.out.keepT hk fun i e hb=>nb i hb e,HBB.out,HCL2.out.onT hk nb,.inr HON2.out,(HL.out.keep).trans' hk (fun _ _ h=>h) (fun i hi e=>by omega)⟩)
  clear hk hb HL HKI2 HPV HCL2 HOV;go_wp2_with fail;refine bodyPost_ret (aW rfl _ _ b8 _ _ _ _ rfl HB8.out aG rfl (by rw[List.size_toArray,hoc];exact bL)) rfl ?_;exact HP.out
theorem MB:Tryz.prog.underlying 65=some (.struct (Tryz.prog.fieldsOf 65)):=by kernel_rfl
theorem L9:(Tryz.prog.info? 65).map (·.size)=some 4:=by kernel_rfl
theorem gH:(Tryz.prog.info? 61).map (·.size)=some 64:=by kernel_rfl
def zbl:List Value:=List.replicate 64 (.int .u8 0)
theorem iC:zbl.length=64:=List.length_replicate
theorem zV:Hid (∀w,(zeroValue 61).run Tryz.prog w=.ok (.agg zbl.toArray) w):=O (by intro w;kernel_rfl)
theorem Lv:zbl=blC fun _=>0:=JW.symm
theorem uC(bl:Nat->UInt8):∃l,Hid (blC bl=l)/\l.length=64/\Hid (∀u∈l,u.oneCell'=true):=⟨_,O rfl,iB bl,O (uO bl)⟩
def kD(w:World)(c:Nat)(B:Nat->Prop)(r:Option Tr)(T:Kor)(bl:Nat->UInt8)(e:Ending)(w':World):Prop:=
 ∃v B',e=.returned (.tuple #[.agg (aH v (cI r)).toArray,.agg (blC bl).toArray,.bool r.isSome,.bool true])/\aJ w' B' v (cI r)/\KI w' c T B'/\(∀k,B' k->B k\/w.heap.size≤k)/\eF w v/\aA B w w'
theorem lD{w:World}{c:Nat}{S:Kor}{B:Nat->Prop}(hK:KI w c S B)(pv:Value)(t:Tr)(ht:Tr.Ok S 3 t)(hp:aJ w B pv t.ptr)(bl:Nat->UInt8)(x:EdV)(hx:(-9223372036854775808≤x.n/\x.n≤9223372036854775807)/\(-9223372036854775808≤x.many/\x.many≤9223372036854775807)):Calls Tryz.prog 20 #[.pointer (some ⟨c,0,none⟩),.agg (aH pv t.ptr).toArray,.agg (blC bl).toArray,.agg (kR x).toArray] w (kD w c B (edR S t x).1 (edR S t x).2 (edB x bl)):=by
 have HT:=O ht;have HL:=O (Cs.start1 hK hp);have hbc:=iB bl;obtain⟨bc,hbce⟩:∃l,blC bl=l:=⟨_,rfl⟩
 have HOBC:Hid (∀u∈bc,u.oneCell'=true):=O (by rw[←hbce];exact uO bl);have HBCE:=O hbce;have HFL:=O x.frLt;have HFN:=O x.frInt;have HUN:=O x.upInt;have HFU:=O x.frUp;have HN:=O hx;have hec:(kR x).length=4:=rfl;obtain⟨xn,hxn⟩:∃y,x.n=y:=⟨_,rfl⟩
 obtain⟨xm,hxm⟩:∃y,x.many=y:=⟨_,rfl⟩
 obtain⟨xb,hxb⟩:∃y,x.b=y:=⟨_,rfl⟩
 obtain⟨xc,hxc⟩:∃y,x.cut=y:=⟨_,rfl⟩
 obtain⟨f,hf⟩:∃y,x.fr=y:=⟨_,rfl⟩
 obtain⟨g,hg⟩:∃y,x.up=y:=⟨_,rfl⟩
 have h0:(kR x).toArray[0]?=some (.int .i64 xn):=by rw[←hxn];rfl
 have h1:(kR x).toArray[1]?=some (.int .i64 xm):=by rw[←hxm];rfl
 have h2:(kR x).toArray[2]?=some (.bool xc):=by rw[←hxc];rfl
 have h3:(kR x).toArray[3]?=some (vb xb):=by rw[←hxb];rfl
 obtain⟨rr,hrr⟩:∃r,edR S t x=r:=⟨_,rfl⟩
 obtain⟨r,T⟩:=rr;obtain⟨bz,hbz⟩:∃y,edB x bl=y:=⟨_,rfl⟩
 have HR0:Hid (xc=false->lY S t f (sec xb)=(r,T)):=O (fun e=>by rw[←hrr];unfold edR;rw[hxc,e,hf,hxb];rfl);have HR1:Hid (xc=true->cO 3 S t (f:Int) (g:Int)=(r,T)):=O (fun e=>by rw[←hrr];unfold edR;rw[hxc,e,hf,hg];rfl);have HZ0:Hid (xc=false->mI bl f xb=bz):=O (fun e=>by rw[←hbz];unfold edB;rw[hxc,e,hf,hxb];rfl);have HZ1:Hid (xc=true->kI bl f g=bz):=O (fun e=>by rw[←hbz];unfold edB;rw[hxc,e,hf,hg];rfl);have HOE:Hid (∀u∈kR x,u.oneCell'=true):=O (by intro u hu;simp only[kR,List.mem_cons,List.not_mem_nil,or_false] at hu;rcases hu with rfl|rfl|rfl|rfl<;>rfl);rw[hf] at HFL HFN HUN HFU;rw[hg] at HUN HFU;rw[hxn] at HFN HN;rw[hxm] at HUN HN;obtain⟨ec,hece⟩:∃l,kR x=l:=⟨_,rfl⟩
 rw[hece] at hec h0 h1 h2 h3 HOE;rw[hece,hbce,hrr,hbz];dsimp only;rw[hbce] at hbc;have H0:=O h0;have H1:=O h1;have H2:=O h2;have H3:=O h3;have HFL2:((f:Nat):Int)<64:=by have:=HFL.out;omega
 clear hece hbce hxn hxm hxb hxc hf hg h0 h1 h2 h3 hrr hbz hx ht;obtain⟨pc,HPC,hpc,HOP⟩:=nmP hp;rw[HPC.out];clear hp hK;go_enter Tryz.func20,Tryz.ntmps20
 go_wp2_with ((with_reducible show WL _ _);refine bx 26 (.tmp 1) (pc.toArray) ?_)
 intro b5 w1 hbs hk hb;replace HL:=O (HL.out.new (trivial) hbs hk hb);clear hbs hk hb
 go_wp2_with ((with_reducible show WL _ _);refine bx 61 (.tmp 2) (bc.toArray) ?_)
 intro b6 w2 hbs hk hb;replace HL:=O (HL.out.new (trivial) hbs hk hb);clear hbs hk hb
 go_wp2_with ((with_reducible show WL _ _);refine bx 65 (.tmp 3) (ec.toArray) ?_)
 intro b7 w3 hbs hk hb;replace HL:=O (HL.out.new (trivial) hbs hk hb);clear hbs hk hb
 go_wp2_with ((with_reducible show WL _ _);refine al 26 (.agg aF.toArray) (aF.toArray) aQ ?_)
 intro b8 w4 hbs hk hb;replace HL:=O (HL.out.new (trivial) hbs hk hb);clear hbs hk hb
 go_wp2_with ((with_reducible show WL _ _);refine al 61 (.agg zbl.toArray) (zbl.toArray) zV ?_)
 intro b9 w5 hbs hk hb;replace HL:=O (HL.out.new (trivial) hbs hk hb);clear hbs hk hb;have c1:w5.cell? ⟨b7,0,none⟩=some (.int .i64 xn):=(aD (i:=0) (HL.out.b 2) H0.out)
 go_wp2_with fail;clear c1;refine(rJ w5 xn 64 (by omega) (by omega) HN.out.1.1 HN.out.1.2).mono ?_;rintro e w6 ⟨rfl,rfl⟩;rw[HFN.out];cases xc with
 | false =>
   have HR:=O (HR0.out rfl);have HZ:=O (HZ0.out rfl);clear HR0 HR1 HZ0 HZ1;have c1:w5.cell? ⟨b7,2,none⟩=some (.bool false):=(aD (i:=2) (HL.out.b 2) H2.out)
   go_wp2_with fail;clear c1;apply lB (R:=fun(b13:Nat) (roa:Option Addr) (roc:Nat) (rc:List Value) w'=>Hid (∃vrc B2,aH vrc (cI r)=rc/\Cs B w c T B2 [(vrc,(cI r)),(pv,t.ptr)] w' ((b13,rc.toArray,26)::[(b9,zbl.toArray,61),(b8,aF.toArray,26),(b7,ec.toArray,65),(b6,bc.toArray,61),(b5,pc.toArray,26)])/\eF w vrc))
   case h =>
    refine jG B HL (by kernel_rfl) ?_;intro w7 SW HSE HSI hkd HL;clear hkd;have HLs:=HL;refine tna 0 (.pointer (some ⟨c,0,none⟩)) rfl (sD9 HSI HL) ?_;refine tnd 1 (.agg pc.toArray) rfl (ldD 26 (.tmp 5) b5 0 pc _ (fun w' h=>aC (HLs.out.own (HSE.out w' h) 4)) aG (szP9 hpc)) (sD9 HSI HL) ?_;refine tna 2 (.int .i64 (f:Int)) rfl (sD9 HSI HL) ?_;refine tnb 3 (.pointer (some ⟨b7,3,none⟩)) rfl (sD9 HSI HL) ?_;refine tnd 4 (vb xb) rfl (.inl ⟨by rfl,fun w' h=>by have c:World.cell? w' ⟨b7,3,none⟩=some (vb xb):=(aD (i:=3) (HLs.out.own (HSE.out w' h) 2) H3.out);go_simp⟩) (sD9 HSI HL) ?_;refine cS (k:=5) (l:=10) rfl rfl (by kernel_rfl) ?_ ?_
    ·go_wp2_with fail
     refine(eR w7 xb).mono ?_;rintro e w8 ⟨v_,rfl,ho,hk⟩;obtain⟨roa,roc,rfl,-,-⟩:=(Rd.of_owns ho).form;have Hro:=O ho;have HroO:=O (gC ho (fun i e=>HL.out.ki.lt e));replace HL:=O (HL.out.keeps hk);clear ho hk;go_wp2_with fail;refine⟨HSI.out _ HL.out.dr,?_⟩;refine cS (k:=6) (l:=10) rfl rfl (by kernel_rfl) ?_ ?_
     ·go_wp2_with fail
      have hsz:=HL.out.keep.size;refine((by rw[←HPC.out];have h:=fE HL.out.ki pv t HT.out (HL.out.pv0 0) f HFL.out (.slice roa 256 roc) (sec xb) (cH xb) (Rd.of_owns Hro.out) HroO.out;rw[HR.out] at h;exact h:Calls _ _ _ w8 (aZ w8 c B (.slice none 0 0) r T))).mono ?_;rintro e w9 ⟨vrc,B2,rfl,hpv,hki,hbb,-,hnw,hk⟩;have HNrc:Hid (eF w vrc):=O ((fW hnw).from hsz);replace HL:=O (HL.out.laid (fun _ _ e=>e) hpv hki hbb (fW hnw) hk);obtain⟨rc,HRC,hrc,HORC⟩:=nmP hpv;rw[HRC.out];clear hsz hpv hki hbb hnw hk Hro HroO;go_wp2_with fail;refine⟨HSI.out _ HL.out.dr,?_⟩;refine tna 7 (.tuple #[.agg rc.toArray,.int .i64 (dZ r)]) rfl (sD9 HSI HL) ?_;refine tnb 8 (.agg rc.toArray) rfl (sD9 HSI HL) ?_;refine tnb 9 (.int .i64 (dZ r)) rfl (sD9 HSI HL) ?_;refine wA9 10 ?_;refine alD HL HSI 26 (.agg aF.toArray) (aF.toArray) aQ ?_;intro b13 wa hb13 hk HL;clear hk;refine wA9 11 ?_;refine stD HL HSI 0 rfl 26 (.tmp 13) (.tmp 33) rc (.inl hb13) (by first|rfl|simp[hrc,aE]) (szP9 hrc) HORC.out ?_;intro wb HL;refine tna 12 (.int .i64 (dZ r)) rfl (sD9 HSI HL) ?_;refine wpAnyH_done (by kernel_rfl) ?_ _;refine noP ?_;exact⟨rfl,b13,roa,roc,rc,rfl,O ⟨vrc,B2,HRC.out,HL.out.toCs,HNrc.out⟩⟩
     ·refine alD HL HSI 26 (.agg aF.toArray) (aF.toArray) aQ ?_
      intro b13 w9 hb13 hk HL;replace Hro:=O (hk.owns Hro.out fun _ _=>id);replace HroO:=O (fun i hi=>And.intro (HroO.out i hi).1 (Nat.lt_of_lt_of_le (HroO.out i hi).2 (hk).size));clear hk;refine wA9 6 ?_;go_wp2_with fail;have hsz:=HL.out.keep.size;refine((by rw[←HPC.out];have h:=fE HL.out.ki pv t HT.out (HL.out.pv0 0) f HFL.out (.slice roa 256 roc) (sec xb) (cH xb) (Rd.of_owns Hro.out) HroO.out;rw[HR.out] at h;exact h:Calls _ _ _ w9 (aZ w9 c B (.slice none 0 0) r T))).mono ?_;rintro e wa ⟨vrc,B2,rfl,hpv,hki,hbb,-,hnw,hk⟩;have HNrc:Hid (eF w vrc):=O ((fW hnw).from hsz);replace HL:=O (HL.out.laid (fun _ _ e=>e) hpv hki hbb (fW hnw) hk);obtain⟨rc,HRC,hrc,HORC⟩:=nmP hpv;rw[HRC.out];clear hsz hpv hki hbb hnw hk Hro HroO;go_wp2_with fail;refine⟨HSI.out _ HL.out.dr,?_⟩;refine tna 7 (.tuple #[.agg rc.toArray,.int .i64 (dZ r)]) rfl (sD9 HSI HL) ?_;refine tnb 8 (.agg rc.toArray) rfl (sD9 HSI HL) ?_;refine tnb 9 (.int .i64 (dZ r)) rfl (sD9 HSI HL) ?_;refine wA9 11 ?_;refine stD HL HSI 0 rfl 26 (.tmp 13) (.tmp 33) rc (.inl hb13) (by first|rfl|simp[hrc,aE]) (szP9 hrc) HORC.out ?_;intro wb HL;refine tna 12 (.int .i64 (dZ r)) rfl (sD9 HSI HL) ?_;refine wpAnyH_done (by kernel_rfl) ?_ _;refine noP ?_;exact⟨rfl,b13,roa,roc,rc,rfl,O ⟨vrc,B2,HRC.out,HL.out.toCs,HNrc.out⟩⟩
    ·refine alD HL HSI 26 (.agg aF.toArray) (aF.toArray) aQ ?_
     intro b13 w8 hb13 hk HL;clear hk;refine wA9 5 ?_;go_wp2_with fail;refine(eR w8 xb).mono ?_;rintro e w9 ⟨v_,rfl,ho,hk⟩;obtain⟨roa,roc,rfl,-,-⟩:=(Rd.of_owns ho).form;have Hro:=O ho;have HroO:=O (gC ho (fun i e=>HL.out.ki.lt e));replace HL:=O (HL.out.keeps hk);clear ho hk;go_wp2_with fail;refine⟨HSI.out _ HL.out.dr,?_⟩;refine wA9 6 ?_;go_wp2_with fail;have hsz:=HL.out.keep.size;refine((by rw[←HPC.out];have h:=fE HL.out.ki pv t HT.out (HL.out.pv0 0) f HFL.out (.slice roa 256 roc) (sec xb) (cH xb) (Rd.of_owns Hro.out) HroO.out;rw[HR.out] at h;exact h:Calls _ _ _ w9 (aZ w9 c B (.slice none 0 0) r T))).mono ?_;rintro e wa ⟨vrc,B2,rfl,hpv,hki,hbb,-,hnw,hk⟩;have HNrc:Hid (eF w vrc):=O ((fW hnw).from hsz);replace HL:=O (HL.out.laid (fun _ _ e=>e) hpv hki hbb (fW hnw) hk);obtain⟨rc,HRC,hrc,HORC⟩:=nmP hpv;rw[HRC.out];clear hsz hpv hki hbb hnw hk Hro HroO;go_wp2_with fail;refine⟨HSI.out _ HL.out.dr,?_⟩;refine tna 7 (.tuple #[.agg rc.toArray,.int .i64 (dZ r)]) rfl (sD9 HSI HL) ?_;refine tnb 8 (.agg rc.toArray) rfl (sD9 HSI HL) ?_;refine tnb 9 (.int .i64 (dZ r)) rfl (sD9 HSI HL) ?_;refine wA9 11 ?_;refine stD HL HSI 0 rfl 26 (.tmp 13) (.tmp 33) rc (.inl hb13) (by first|rfl|simp[hrc,aE]) (szP9 hrc) HORC.out ?_;intro wb HL;refine tna 12 (.int .i64 (dZ r)) rfl (sD9 HSI HL) ?_;refine wpAnyH_done (by kernel_rfl) ?_ _;refine noP ?_;exact⟨rfl,b13,roa,roc,rc,rfl,O ⟨vrc,B2,HRC.out,HL.out.toCs,HNrc.out⟩⟩
   case hR =>
    rintro b13 roa roc rc wc HF;obtain⟨vrc,B2,hcs,hl,hnw⟩:=HF.out;have HL:=O hl;have HNrc:=O hnw;have HRC:=O hcs;have hrc:rc.length=35:=by rw[←hcs];exact aL (HL.out.pv0 0).pt.sum
    have HORC:Hid (∀u∈rc,u.oneCell'=true):=O (by rw[←hcs];exact bD (HL.out.pv0 0).pt);clear hcs hl HF hnw;have hk0:(0:Int)≤(f:Int):=by omega
    have HDC:Hid (blC (mI bl f xb)=blC (mI bl f xb)):=O rfl;have hdc:=iB (mI bl f xb);have c1:wc.cell? ⟨b7,3,none⟩=some (vb xb):=(aD (i:=3) (HL.out.b 3) H3.out)
    go_wp2_with ((with_reducible show WL _ _);refine sta 5 (.tmp 38) (.tmp 37) b6 f [vb xb] (HL.out.b 4) (by rw[List.size_toArray,hbc];have:=HFL.out;show f+1≤64;omega) (by kernel_rfl) (by intro v hv;rw[List.mem_singleton] at hv;rw[hv];rfl) ?_)
    clear c1;intro wd hk hb;rw[←HBCE.out,Em bl HFL.out xb] at hb;replace HL:=O (HL.out.set 4 hk hb);clear hk hb HDC hdc;obtain⟨dc,hdce⟩:∃l,blC (mI bl f xb)=l:=⟨_,rfl⟩
    have HDC:=O hdce;have hdc:dc.length=64:=by rw[←hdce];exact iB _
    have HODC:Hid (∀u∈dc,u.oneCell'=true):=O (by rw[←hdce];exact uO _);rw[hdce] at HL;clear hdce;go_wp2_with fail;cases r with
    | none =>
      rw[show dZ (none)=15 from rfl];go_wp2_with fail;refine jG (fun k=>k=b8\/k=b9) HL (by kernel_rfl) ?_;intro we SW HSE HSI hkd HL;clear hkd;have HLs:=HL;refine tnd 0 (.agg rc.toArray) rfl (ldD 26 (.tmp 13) b13 0 rc _ (fun w' h=>aC ((HSE.out w' h).blk (HLs.out.b 0) (by rintro (e|e);exact HLs.out.ne 2 0 (by decide) rfl rfl e;exact HLs.out.ne 1 0 (by decide) rfl rfl e))) aG (szP9 hrc)) (sD9 HSI HL) ?_;refine tnd 1 (.agg dc.toArray) rfl (ldD 61 (.tmp 6) b6 0 dc _ (fun w' h=>aC ((HSE.out w' h).blk (HLs.out.b 4) (by rintro (e|e);exact HLs.out.ne 2 4 (by decide) rfl rfl e;exact HLs.out.ne 1 4 (by decide) rfl rfl e))) Tryz.underlying61 (by rw[hdc];exact gH)) (sD9 HSI HL) ?_;refine tna 2 (.int .i64 15) rfl (sD9 HSI HL) ?_;refine tnb 3 (.bool false) rfl (sD9 HSI HL) ?_;refine tna 4 (.int .i64 15) rfl (sD9 HSI HL) ?_;refine tnb 5 (.bool false) rfl (sD9 HSI HL) ?_;refine tna 6 (.bool false) rfl (sD9 HSI HL) ?_;refine tna 7 (.int .i64 15) rfl (sD9 HSI HL) ?_;refine tnb 8 (.bool true) rfl (sD9 HSI HL) ?_;refine tna 9 (.bool true) rfl (sD9 HSI HL) ?_;refine wA9 10 ?_;refine stD HL HSI 2 rfl 26 (.tmp 8) (.tmp 39) rc (.inr (.inl rfl)) (by first|rfl|simp[hrc,aE]) (szP9 hrc) HORC.out ?_;intro wf HL;refine wA9 11 ?_;refine stD HL HSI 1 rfl 61 (.tmp 9) (.tmp 40) dc (.inr (.inr rfl)) (by first|rfl|simp[hdc,iC]) (by rw[hdc];exact gH) HODC.out ?_;intro wg HL;refine tna 12 (.bool false) rfl (sD9 HSI HL) ?_;refine tna 13 (.bool true) rfl (sD9 HSI HL) ?_;refine wpAnyH_done (by kernel_rfl) ?_ _;refine noP ?_;have HB8:=O (HL.out.b 2);have HB9:=O (HL.out.b 1);have HP:Hid (kD w c B (none) T bz (.returned (.tuple #[.agg rc.toArray,.agg dc.toArray,.bool false,.bool true])) wg):=O ⟨vrc,B2,by rw[HRC.out,←HZ.out,HDC.out];rfl,HL.out.pv0 0,HL.out.ki,HL.out.bb,HNrc.out,HL.out.keep⟩;clear HL HLs HSE HSI;go_wp2_with fail;refine bodyPost_ret (lC rfl _ _ b8 b9 _ _ _ _ _ _ _ _ rfl rfl HB8.out HB9.out aG rfl (by rw[List.size_toArray,hrc];exact bL) Tryz.underlying61 rfl (by rw[List.size_toArray,hdc];exact gH)) rfl ?_;exact HP.out
    | some u =>
      rw[show dZ (some u)=0 from rfl];go_wp2_with fail;refine jG (fun k=>k=b8\/k=b9) HL (by kernel_rfl) ?_;intro we SW HSE HSI hkd HL;clear hkd;have HLs:=HL;refine tnd 0 (.agg rc.toArray) rfl (ldD 26 (.tmp 13) b13 0 rc _ (fun w' h=>aC ((HSE.out w' h).blk (HLs.out.b 0) (by rintro (e|e);exact HLs.out.ne 2 0 (by decide) rfl rfl e;exact HLs.out.ne 1 0 (by decide) rfl rfl e))) aG (szP9 hrc)) (sD9 HSI HL) ?_;refine tnd 1 (.agg dc.toArray) rfl (ldD 61 (.tmp 6) b6 0 dc _ (fun w' h=>aC ((HSE.out w' h).blk (HLs.out.b 4) (by rintro (e|e);exact HLs.out.ne 2 4 (by decide) rfl rfl e;exact HLs.out.ne 1 4 (by decide) rfl rfl e))) Tryz.underlying61 (by rw[hdc];exact gH)) (sD9 HSI HL) ?_;refine tna 2 (.int .i64 0) rfl (sD9 HSI HL) ?_;refine tnb 3 (.bool true) rfl (sD9 HSI HL) ?_;refine tna 4 (.int .i64 0) rfl (sD9 HSI HL) ?_;refine tnb 5 (.bool true) rfl (sD9 HSI HL) ?_;refine tna 6 (.bool true) rfl (sD9 HSI HL) ?_;refine tnc 7 undef rfl (sD9 HSI HL) ?_;refine tnc 8 undef rfl (sD9 HSI HL) ?_;refine tna 9 (.bool true) rfl (sD9 HSI HL) ?_;refine wA9 10 ?_;refine stD HL HSI 2 rfl 26 (.tmp 8) (.tmp 39) rc (.inr (.inl rfl)) (by first|rfl|simp[hrc,aE]) (szP9 hrc) HORC.out ?_;intro wf HL;refine wA9 11 ?_;refine stD HL HSI 1 rfl 61 (.tmp 9) (.tmp 40) dc (.inr (.inr rfl)) (by first|rfl|simp[hdc,iC]) (by rw[hdc];exact gH) HODC.out ?_;intro wg HL;refine tna 12 (.bool true) rfl (sD9 HSI HL) ?_;refine tna 13 (.bool true) rfl (sD9 HSI HL) ?_;refine wpAnyH_done (by kernel_rfl) ?_ _;refine noP ?_;have HB8:=O (HL.out.b 2);have HB9:=O (HL.out.b 1);have HP:Hid (kD w c B (some u) T bz (.returned (.tuple #[.agg rc.toArray,.agg dc.toArray,.bool true,.bool true])) wg):=O ⟨vrc,B2,by rw[HRC.out,←HZ.out,HDC.out];rfl,HL.out.pv0 0,HL.out.ki,HL.out.bb,HNrc.out,HL.out.keep⟩;clear HL HLs HSE HSI;go_wp2_with fail;refine bodyPost_ret (lC rfl _ _ b8 b9 _ _ _ _ _ _ _ _ rfl rfl HB8.out HB9.out aG rfl (by rw[List.size_toArray,hrc];exact bL) Tryz.underlying61 rfl (by rw[List.size_toArray,hdc];exact gH)) rfl ?_;exact HP.out
 | true =>
   have HR:=O (HR1.out rfl);have HZ:=O (HZ1.out rfl);clear HR0 HR1 HZ0 HZ1;have hm0:=Int.emod_nonneg xm (show (65:Int)≠0 by omega);have hm1:=Int.emod_lt_of_pos xm (show (0:Int)<65 by omega);have hun:=HUN.out;have c1:w5.cell? ⟨b7,2,none⟩=some (.bool true):=(aD (i:=2) (HL.out.b 2) H2.out)
   have c2:w5.cell? ⟨b7,1,none⟩=some (.int .i64 xm):=(aD (i:=1) (HL.out.b 2) H1.out)
   go_wp2_with fail;clear c1 c2;refine(rJ w5 xm 65 (by omega) (by omega) HN.out.2.1 HN.out.2.2).mono ?_;rintro e w7 ⟨rfl,rfl⟩
   go_wp2_with ((with_reducible show WL _ _);refine wpList_load_mid rfl 26 (.tmp 5) rfl b5 0 rfl pc _ (aC (HL.out.b 4)) aG rfl (szP9 hpc) ?_)
   have hsz:=HL.out.keep.size;clear hm0 hm1 hun;refine((by rw[←HPC.out];have h:=wV HL.out.ki pv t HT.out (HL.out.pv0 0) f g HFU.out.1 HFU.out.2;rw[HR.out] at h;exact h:Calls _ _ _ w5 (aZ w5 c B (.slice none 0 0) r T))).mono ?_;rintro e w8 ⟨vrc,B2,rfl,hpv,hki,hbb,-,hnw,hk⟩;have HNrc:Hid (eF w vrc):=O ((fW hnw).from hsz);replace HL:=O (HL.out.laid hpv hki hbb (fW hnw) hk);obtain⟨rc,HRC,hrc,HORC⟩:=nmP hpv;rw[HRC.out];clear hsz hpv hki hbb hnw hk
   go_wp2_with ((with_reducible show WL _ _);refine al 26 (.agg aF.toArray) (aF.toArray) aQ ?_)
   intro b16 w9 hbs hk0 hb0_
   go_wp2_with ((with_reducible show WL _ _);refine sta 26 (.tmp 16) (.tmp 61) b16 0 rc hb0_ (by first|decide|(rw[List.size_toArray,hrc];exact Nat.le_refl _)|simp[hrc,aE]) (szP9 hrc) HORC.out ?_)
   intro wa hk hb;rw[aI _ _ (by first|rfl|(rw[List.size_toArray,hrc];rfl)|simp[hrc,aE])] at hb;replace hk:=hk0.trans' hk (U:=aB) (fun _ _ h=>h) (fun i hi e=>by omega);replace HL:=O (HL.out.new (trivial) hbs hk hb);clear hbs hk hb hk0 hb0_;go_wp2_with fail;replace HL:=HL.out;rw[←HBCE.out,←uA bl f] at HL;have hfg:=HFU.out;obtain⟨hfg1,hfg2⟩:=hfg
   go_loopw [18] (fun i wr=>∃k:Nat,f≤k/\k≤g/\i=.int .i64 (k:Int)/\Hid (Cs B w c T B2 [(vrc,(cI r)),(pv,t.ptr)] wr [(b16,rc.toArray,26),(b9,zbl.toArray,61),(b8,aF.toArray,26),(b7,ec.toArray,65),(b6,(blC (kI bl f k)).toArray,61),(b5,pc.toArray,26)])) (fun i _=>g-(intOf i).toNat)
   case atStart=>exact⟨f,Nat.le_refl _,hfg1,rfl,O (by rw[uA];rw[uA] at HL;exact HL)⟩
   case round =>
   clear HL;obtain⟨k,hk1,hk2,rfl,HL⟩:=hrel
   by_cases hlt:k<g
   ·have hki:(k:Int)<(g:Int):=by omega
    have hk64:(k:Int)<64:=by omega
    have hk0:(0:Int)≤(k:Int):=by omega
    go_wp2_with ((with_reducible show WL _ _);refine sta 5 (.tmp 70) (.const (.int .u8 0)) b6 k [.int .u8 0] (HL.out.b 4) (by rw[List.size_toArray,iB];show k+1≤64;omega) (by kernel_rfl) (by intro v hv;rw[List.mem_singleton] at hv;rw[hv];rfl) ?_)
    intro wz hk hb;rw[show spl (blC (kI bl f k)).toArray k [.int .u8 0]=(blC (kI bl f (k+1))).toArray from(Em (kI bl f k) (by omega) 0).trans (by rw[Lu bl f hk1])] at hb;replace HL:=O (HL.out.set 4 hk hb);clear hk hb;go_wp2_with fail
    go_roundw
    case rel=>exact⟨k+1,by omega,by omega,by go_num,HL⟩
    case measure=>simp[intOf];omega
   ·obtain rfl:g=k:=by omega
    obtain⟨dc,hdce⟩:∃l,blC (kI bl f g)=l:=⟨_,rfl⟩
    have HDC:=O hdce;have hdc:dc.length=64:=by rw[←hdce];exact iB _
    have HODC:Hid (∀u∈dc,u.oneCell'=true):=O (by rw[←hdce];exact uO _);rw[hdce] at HL;clear hdce;go_wp2_with fail;cases r with
    | none =>
      rw[show dZ (none)=15 from rfl];go_wp2_with fail;refine jG (fun k=>k=b8\/k=b9) HL (by kernel_rfl) ?_;intro wb SW HSE HSI hkd HL;clear hkd;have HLs:=HL;refine tnd 0 (.agg rc.toArray) rfl (ldD 26 (.tmp 16) b16 0 rc _ (fun w' h=>aC ((HSE.out w' h).blk (HLs.out.b 0) (by rintro (e|e);exact HLs.out.ne 2 0 (by decide) rfl rfl e;exact HLs.out.ne 1 0 (by decide) rfl rfl e))) aG (szP9 hrc)) (sD9 HSI HL) ?_;refine tnd 1 (.agg dc.toArray) rfl (ldD 61 (.tmp 6) b6 0 dc _ (fun w' h=>aC ((HSE.out w' h).blk (HLs.out.b 4) (by rintro (e|e);exact HLs.out.ne 2 4 (by decide) rfl rfl e;exact HLs.out.ne 1 4 (by decide) rfl rfl e))) Tryz.underlying61 (by rw[hdc];exact gH)) (sD9 HSI HL) ?_;refine tna 2 (.int .i64 15) rfl (sD9 HSI HL) ?_;refine tnb 3 (.bool false) rfl (sD9 HSI HL) ?_;refine tna 4 (.int .i64 15) rfl (sD9 HSI HL) ?_;refine tnb 5 (.bool false) rfl (sD9 HSI HL) ?_;refine tna 6 (.bool false) rfl (sD9 HSI HL) ?_;refine tna 7 (.int .i64 15) rfl (sD9 HSI HL) ?_;refine tnb 8 (.bool true) rfl (sD9 HSI HL) ?_;refine tna 9 (.bool true) rfl (sD9 HSI HL) ?_;refine wA9 10 ?_;refine stD HL HSI 2 rfl 26 (.tmp 8) (.tmp 71) rc (.inr (.inl rfl)) (by first|rfl|simp[hrc,aE]) (szP9 hrc) HORC.out ?_;intro wc HL;refine wA9 11 ?_;refine stD HL HSI 1 rfl 61 (.tmp 9) (.tmp 72) dc (.inr (.inr rfl)) (by first|rfl|simp[hdc,iC]) (by rw[hdc];exact gH) HODC.out ?_;intro wd HL;refine tna 12 (.bool false) rfl (sD9 HSI HL) ?_;refine tna 13 (.bool true) rfl (sD9 HSI HL) ?_;refine wpAnyH_done (by kernel_rfl) ?_ _;refine noP ?_;have HB8:=O (HL.out.b 2);have HB9:=O (HL.out.b 1);have HP:Hid (kD w c B (none) T bz (.returned (.tuple #[.agg rc.toArray,.agg dc.toArray,.bool false,.bool true])) wd):=O ⟨vrc,B2,by rw[HRC.out,←HZ.out,HDC.out];rfl,HL.out.pv0 0,HL.out.ki,HL.out.bb,HNrc.out,HL.out.keep⟩;clear HL HLs HSE HSI;go_wp2_with fail;refine bodyPost_ret (lC rfl _ _ b8 b9 _ _ _ _ _ _ _ _ rfl rfl HB8.out HB9.out aG rfl (by rw[List.size_toArray,hrc];exact bL) Tryz.underlying61 rfl (by rw[List.size_toArray,hdc];exact gH)) rfl ?_;exact HP.out
    | some u =>
      rw[show dZ (some u)=0 from rfl];go_wp2_with fail;refine jG (fun k=>k=b8\/k=b9) HL (by kernel_rfl) ?_;intro wb SW HSE HSI hkd HL;clear hkd;have HLs:=HL;refine tnd 0 (.agg rc.toArray) rfl (ldD 26 (.tmp 16) b16 0 rc _ (fun w' h=>aC ((HSE.out w' h).blk (HLs.out.b 0) (by rintro (e|e);exact HLs.out.ne 2 0 (by decide) rfl rfl e;exact HLs.out.ne 1 0 (by decide) rfl rfl e))) aG (szP9 hrc)) (sD9 HSI HL) ?_;refine tnd 1 (.agg dc.toArray) rfl (ldD 61 (.tmp 6) b6 0 dc _ (fun w' h=>aC ((HSE.out w' h).blk (HLs.out.b 4) (by rintro (e|e);exact HLs.out.ne 2 4 (by decide) rfl rfl e;exact HLs.out.ne 1 4 (by decide) rfl rfl e))) Tryz.underlying61 (by rw[hdc];exact gH)) (sD9 HSI HL) ?_;refine tna 2 (.int .i64 0) rfl (sD9 HSI HL) ?_;refine tnb 3 (.bool true) rfl (sD9 HSI HL) ?_;refine tna 4 (.int .i64 0) rfl (sD9 HSI HL) ?_;refine tnb 5 (.bool true) rfl (sD9 HSI HL) ?_;refine tna 6 (.bool true) rfl (sD9 HSI HL) ?_;refine tnc 7 undef rfl (sD9 HSI HL) ?_;refine tnc 8 undef rfl (sD9 HSI HL) ?_;refine tna 9 (.bool true) rfl (sD9 HSI HL) ?_;refine wA9 10 ?_;refine stD HL HSI 2 rfl 26 (.tmp 8) (.tmp 71) rc (.inr (.inl rfl)) (by first|rfl|simp[hrc,aE]) (szP9 hrc) HORC.out ?_;intro wc HL;refine wA9 11 ?_;refine stD HL HSI 1 rfl 61 (.tmp 9) (.tmp 72) dc (.inr (.inr rfl)) (by first|rfl|simp[hdc,iC]) (by rw[hdc];exact gH) HODC.out ?_;intro wd HL;refine tna 12 (.bool true) rfl (sD9 HSI HL) ?_;refine tna 13 (.bool true) rfl (sD9 HSI HL) ?_;refine wpAnyH_done (by kernel_rfl) ?_ _;refine noP ?_;have HB8:=O (HL.out.b 2);have HB9:=O (HL.out.b 1);have HP:Hid (kD w c B (some u) T bz (.returned (.tuple #[.agg rc.toArray,.agg dc.toArray,.bool true,.bool true])) wd):=O ⟨vrc,B2,by rw[HRC.out,←HZ.out,HDC.out];rfl,HL.out.pv0 0,HL.out.ki,HL.out.bb,HNrc.out,HL.out.keep⟩;clear HL HLs HSE HSI;go_wp2_with fail;refine bodyPost_ret (lC rfl _ _ b8 b9 _ _ _ _ _ _ _ _ rfl rfl HB8.out HB9.out aG rfl (by rw[List.size_toArray,hrc];exact bL) Tryz.underlying61 rfl (by rw[List.size_toArray,hdc];exact gH)) rfl ?_;exact HP.out
theorem qB{w:World}{c:Nat}{S:Kor}{B:Nat->Prop}(hK:KI w c S B)(pv:Value)(t:Tr)(ht:Tr.Ok S 3 t)(hp:aJ w B pv t.ptr)(bl:Nat->UInt8)(hbl:gJ t bl):Calls Tryz.prog 28 #[.pointer (some ⟨c,0,none⟩),.agg (aH pv t.ptr).toArray,.agg (blC bl).toArray] w (aT w true):=by
 have HT:=O ht;have HL:=O (Cs.start1 hK hp);have HKN:=O (aA.refl aB w);obtain⟨bc,HBC,hbc,HOBC⟩:=uC bl;have HROWS:=O (hbl.rows ht);obtain⟨M0,hm0⟩:∃m,pB bl 64=m:=⟨_,rfl⟩
 have HM0:=O hm0;have HMN:Hid ((t.many 3:Int)=(M0:Int)):=O (by rw[hbl.many ht,hm0]);have HHO:Hid (t.ptr.hole=decide (M0=0)):=O (by rw[ht.hole_eq,ht.many_hole,hbl.many ht,hm0]);have HRT:=O ht.root;obtain⟨pc,HPC,hpc,HOP⟩:=nmP hp;rw[HPC.out,HBC.out];clear hp hK ht hbl hm0;go_enter Tryz.func28,Tryz.ntmps28
 go_wp2_with ((with_reducible show WL _ _);refine bx 26 (.tmp 1) (pc.toArray) ?_)
 intro b4 w1 hbs hk hb;replace HL:=O (HL.out.new (trivial) hbs hk hb);replace HKN:=O (HKN.out.trans hk);clear hbs hk hb
 go_wp2_with ((with_reducible show WL _ _);refine bx 61 (.tmp 2) (bc.toArray) ?_)
 intro b5 w2 hbs hk hb;replace HL:=O (HL.out.new (trivial) hbs hk hb);replace HKN:=O (HKN.out.trans hk);clear hbs hk hb
 go_wp2_with ((with_reducible show WL _ _);refine wpList_load_mid rfl 26 (.tmp 4) rfl b4 0 rfl pc _ (aC (HL.out.b 1)) aG rfl (szP9 hpc) ?_)
 refine((by rw[←HPC.out];exact C5 HL.out.ki pv t HT.out (HL.out.pv0 0):Calls _ _ _ w2 (sA w2 t))).mono ?_;rintro e w3 ⟨lv,ls,rfl,ho,hrw,hk⟩;rw[HROWS.out] at hrw ho;rw[show ((List.range 64).map fun i=>sec (bl i)).length=64 from by simp] at ho;obtain⟨g,lcap,rfl,hcl⟩:=A0 ho (by rw[hrw.1];simp)
 have HG:Hid (∀k,k<64->∃xa xc,w3.cell? ⟨g,k,none⟩=some (.slice xa 256 xc)/\Rd w3 1 (.slice xa 256 xc) 256 ((sec (bl k)).map vb)):=O (fun k hk=>by
  obtain⟨u,h1,h2,-⟩:=hrw.2 k (sec (bl k)) (by rw[List.getElem?_map,List.getElem?_range hk];rfl);rw[cH] at h2;obtain⟨xa,xc,rfl,-,-⟩:=h2.form;exact⟨xa,xc,hcl k _ h1,h2⟩)
 have HGN:Hid (¬B g):=O (fun e=>by have h1:=bA ho (k:=g) rfl;have h2:=HL.out.ki.lt e;omega);clear ho hrw hcl;replace HL:=O (HL.out.keeps hk);replace HKN:=O (HKN.out.trans hk);clear hk;have HWG:=O (aA.refl aB w3)
 go_wp2_with ((with_reducible show WL _ _);refine wpList_load_mid rfl 26 (.tmp 4) rfl b4 0 rfl pc _ (aC (HL.out.b 1)) aG rfl (szP9 hpc) ?_)
 refine((by rw[←HPC.out];exact AW HL.out.ki pv t HT.out (HL.out.pv0 0):Calls _ _ _ w3 (tY w3 t))).mono ?_;rintro e w4 ⟨rfl,hk⟩;replace HL:=O (HL.out.keeps hk);replace HKN:=O (HKN.out.trans hk);replace HWG:=O (HWG.out.trans hk);clear hk;rw[HMN.out];go_wp2_with fail
 go_loopw [11,12] (fun s i wr=>∃k:Nat,k≤64/\s=.int .i64 (pB bl k:Int)/\i=.int .i64 (k:Int)/\Hid (aA aB w4 wr)) (fun _ i _=>64-(intOf i).toNat)
 case atStart=>exact⟨0,by omega,rfl,rfl,O (aA.refl _ _)⟩
 case round =>
 obtain⟨k,hk,rfl,rfl,HKR⟩:=hrel;replace HL:=O (HL.out.keeps HKR.out);replace HWG:=O (HWG.out.trans HKR.out);replace HKN:=O (HKN.out.trans HKR.out);have hkk0:(0:Int)≤(k:Int):=by omega
 have hcs:=Hx bl k;obtain⟨sm,hsm⟩:∃m,pB bl k=m:=⟨_,rfl⟩
 have HSM:=O hsm;rw[hsm] at hcs ⊢;have hsk:sm≤k:=by rw[←hsm];unfold pB;exact Nat.le_trans (List.length_filter_le _ _) (by simp)
 have HCS:=O hcs;clear hsm hcs
 by_cases hlt:k<64
 ·have hki:(k:Int)<64:=by omega
  obtain⟨xa,xc,hx1,hx2⟩:=HG.out k hlt;have HX1:=O (HWG.out.cell hx1 id);have HX2:=O (hx2.keep HWG.out fun _ _=>id);have HBK:Hid (bc.toArray[k]?=some (vb (bl k))):=O (by rw[←HBC.out,List.getElem?_toArray,Lt bl hlt]);clear hx1 hx2;go_wp2_with fail;refine jG B HL (by kernel_rfl) ?_;intro w5 SW HSE HSI hkd HL;replace HX1:=O (hkd.cell HX1.out id);replace HX2:=O (HX2.out.keep hkd fun _ _=>id);replace HKR:=O (HKR.out.trans hkd);clear hkd;have HLs:=HL;have HX1s:=HX1;have HX2s:=HX2;have HKRs:=HKR;refine tna 0 (.slice (some ⟨g,0,none⟩) 64 lcap) rfl (sD9 HSI HL) ?_;refine tna 1 (.int .i64 (k:Int)) rfl (sD9 HSI HL) ?_;refine tnd 2 (.pointer (some ⟨g,k,none⟩)) rfl (.inl ⟨by rfl,fun _ _=>by go_simp⟩) (sD9 HSI HL) ?_;refine tnd 3 (.slice xa 256 xc) rfl (.inl ⟨by rfl,fun w' h=>by have c:World.cell? w' ⟨g,k,none⟩=some (.slice xa 256 xc):=(HSE.out w' h).cell HX1s.out HGN.out;go_simp⟩) (sD9 HSI HL) ?_;refine tna 4 (.int .i64 (k:Int)) rfl (sD9 HSI HL) ?_;refine tnb 5 (.pointer (some ⟨b5,k,none⟩)) rfl (sD9 HSI HL) ?_;refine tnd 6 (vb (bl k)) rfl (.inl ⟨by rfl,fun w' h=>by have c:World.cell? w' ⟨b5,k,none⟩=some (vb (bl k)):=(aD (i:=k) (HLs.out.own (HSE.out w' h) 0) HBK.out);go_simp⟩) (sD9 HSI HL) ?_;refine wA9 7 ?_;go_wp2_with fail;refine(eR w5 (bl k)).mono ?_;rintro e w6 ⟨v_,rfl,ho,hk⟩;obtain⟨roa,roc,rfl,-,-⟩:=(Rd.of_owns ho).form;have Hro:=O ho;have HroO:=O (gC ho (fun i e=>HL.out.ki.lt e));replace HL:=O (HL.out.keeps hk);replace HX1:=O (hk.cell HX1.out id);replace HX2:=O (HX2.out.keep hk fun _ _=>id);replace HKR:=O (HKR.out.trans hk);clear ho hk;go_wp2_with fail;refine⟨HSI.out _ HL.out.dr,?_⟩;refine wA9 8 ?_;go_wp2_with fail;refine(rY w6 (.slice xa 256 xc) (.slice roa 256 roc) (sec (bl k)) (sec (bl k)) (by rw[cH];exact HX2.out) (by rw[cH];exact Rd.of_owns Hro.out) true (decide_eq_true rfl)).mono ?_;rintro e w7 ⟨rfl,hk9⟩;replace HL:=O (HL.out.keeps hk9);replace HKR:=O (HKR.out.trans hk9);clear hk9 HX1 HX2 Hro HroO;go_wp2_with fail;refine⟨HSI.out _ HL.out.dr,?_⟩;refine tnb 9 (.bool false) rfl (sD9 HSI HL) ?_;refine wpAnyH_done (by kernel_rfl) ?_ _;refine noP ?_;replace HL:=O HL.out.toCs;clear HSE HSI HLs HX1s HX2s HKRs;obtain⟨z,hz2⟩:∃z:Int,((bl k).toNat:Int)=z:=⟨_,rfl⟩
  have c1:w7.cell? ⟨b5,k,none⟩=some (.int .u8 z):=aD (i:=k) (HL.out.b 0) (by have h:=HBK.out;unfold vb at h;rwa [hz2] at h);rcases Decidable.em (bl k=0) with hz|hz
  ·have hz3:z=0:=by rw[←hz2,hz];rfl
   have hs:pB bl (k+1)=sm:=by rw[HCS.out,if_neg (fun h=>h hz)];rfl
   have HS:=O hs;clear hs hz2 hz;go_wp2_with fail
   go_roundw
   case rel=>exact⟨k+1,by omega,by rw[HS.out],by go_num,HKR⟩
   case measure=>simp[intOf];omega
  ·have hz3:¬z=0:=fun e=>hz (UInt8.toNat_inj.1 (show (bl k).toNat=0 by omega))
   have hs:pB bl (k+1)=sm+1:=by rw[HCS.out,if_pos hz]
   have HS:=O hs;clear hs hz2 hz;go_wp2_with fail
   go_roundw
   case rel=>exact⟨k+1,by omega,by rw[HS.out];go_num,by go_num,HKR⟩
   case measure=>simp[intOf];omega
 ·obtain rfl:k=64:=by omega
  obtain rfl:M0=sm:=by rw[←HM0.out,←HSM.out]
  clear HCS HSM hlt hk;have hm64:M0≤64:=hsk;rcases Nat.eq_zero_or_pos M0 with h0|h0
  ·have HHB:Hid (t.ptr.hole=true):=O (by rw[HHO.out];exact decide_eq_true h0)
   have hd:(M0:Int)=0:=by omega
   have hd5:((M0:Int) == 0)=true:=by simp;omega
   have hd3:M0=0:=by omega
   have hd4:decide (M0=0)=true:=decide_eq_true hd3;have hd2:decide ((M0:Int)=0)=true:=decide_eq_true hd;clear h0
   go_wp2_with ((with_reducible show WL _ _);refine aP (by rfl) 26 (.tmp 4) rfl b4 0 rfl pc _ (aC (HL.out.b 1)) aG rfl (szP9 hpc) ?_)
   refine((by rw[←HPC.out];have h:=bU wr pv t.ptr (HL.out.pv0 0).pt;rw[HHB.out] at h;exact h:Calls _ _ _ wr (aT wr true))).mono ?_;rintro e w8 ⟨rfl,hk⟩;replace HL:=O (HL.out.keeps hk);replace HKN:=O (HKN.out.trans hk);clear hk
   go_wp2_with ((with_reducible show WL _ _);refine aP (by rfl) 26 (.tmp 4) rfl b4 0 rfl pc _ (aC (HL.out.b 1)) aG rfl (szP9 hpc) ?_)
   refine((by rw[←HPC.out];exact pZ w8 pv t.ptr (HL.out.pv0 0).pt HRT.out:Calls _ _ _ w8 (aK w8 (.int .i64 0)))).mono ?_;rintro e w9 ⟨rfl,hk⟩;replace HL:=O (HL.out.keeps hk);replace HKN:=O (HKN.out.trans hk);clear hk;go_wp2_with fail;go_ret;exact⟨rfl,HKN.out⟩
  ·have HHB:Hid (t.ptr.hole=false):=O (by rw[HHO.out];exact decide_eq_false (by omega))
   have hd:¬(M0:Int)=0:=by omega
   have hd5:((M0:Int) == 0)=false:=by simp;omega
   have hd3:¬M0=0:=by omega
   have hd4:decide (M0=0)=false:=decide_eq_false hd3;have hd2:decide ((M0:Int)=0)=false:=decide_eq_false hd;clear h0
   go_wp2_with ((with_reducible show WL _ _);refine aP (by rfl) 26 (.tmp 4) rfl b4 0 rfl pc _ (aC (HL.out.b 1)) aG rfl (szP9 hpc) ?_)
   refine((by rw[←HPC.out];have h:=bU wr pv t.ptr (HL.out.pv0 0).pt;rw[HHB.out] at h;exact h:Calls _ _ _ wr (aT wr false))).mono ?_;rintro e w8 ⟨rfl,hk⟩;replace HL:=O (HL.out.keeps hk);replace HKN:=O (HKN.out.trans hk);clear hk
   go_wp2_with ((with_reducible show WL _ _);refine aP (by rfl) 26 (.tmp 4) rfl b4 0 rfl pc _ (aC (HL.out.b 1)) aG rfl (szP9 hpc) ?_)
   refine((by rw[←HPC.out];exact pZ w8 pv t.ptr (HL.out.pv0 0).pt HRT.out:Calls _ _ _ w8 (aK w8 (.int .i64 0)))).mono ?_;rintro e w9 ⟨rfl,hk⟩;replace HL:=O (HL.out.keeps hk);replace HKN:=O (HKN.out.trans hk);clear hk;go_wp2_with fail;go_ret;exact⟨rfl,HKN.out⟩
end
end Go.Proofs.YtjkbekifgobeaaaGreat
