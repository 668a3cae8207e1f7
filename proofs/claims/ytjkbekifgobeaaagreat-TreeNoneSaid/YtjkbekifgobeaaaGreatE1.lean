/- A part of the proof. Conditions: those told. -/
import Derived.Test.YtjkbekifgobeaaaGreatS1
import Derived.Test.YtjkbekifgobeaaaGreatS2
import Derived.Test.YtjkbekifgobeaaaGreatS3
import Derived.Test.YtjkbekifgobeaaaGreatS4
import Derived.Test.YtjkbekifgobeaaaGreatS5
import Derived.Test.YtjkbekifgobeaaaGreatS6
import Derived.Test.YtjkbekifgobeaaaGreatS7
import Derived.Test.YtjkbekifgobeaaaGreatS8
import Derived.Test.YtjkbekifgobeaaaGreatS9
import Derived.Test.YtjkbekifgobeaaaGreatS10
import Derived.Test.YtjkbekifgobeaaaGreatS11
import Derived.Test.YtjkbekifgobeaaaGreatS12
import Derived.Test.YtjkbekifgobeaaaGreatS13
import Derived.Test.YtjkbekifgobeaaaGreatS14
import Derived.Test.YtjkbekifgobeaaaGreatS15
import Derived.Test.YtjkbekifgobeaaaGreatS16
import Derived.Test.YtjkbekifgobeaaaGreatS17
import Derived.Test.YtjkbekifgobeaaaGreatS18
import Derived.Test.YtjkbekifgobeaaaGreatS19
import Derived.Test.YtjkbekifgobeaaaGreatS20
import Derived.Test.YtjkbekifgobeaaaGreatS21
import Derived.Test.YtjkbekifgobeaaaGreatS22
import Derived.Test.YtjkbekifgobeaaaGreatS23
import Derived.Test.YtjkbekifgobeaaaGreatS24
import Derived.Test.YtjkbekifgobeaaaGreatS25
import Derived.Test.YtjkbekifgobeaaaGreatS26
import Derived.Test.YtjkbekifgobeaaaGreatS27
import Derived.Test.YtjkbekifgobeaaaGreatS28
import Derived.Test.YtjkbekifgobeaaaGreatS29
import Derived.Test.YtjkbekifgobeaaaGreatS30
import Derived.Test.YtjkbekifgobeaaaGreatS31
import Derived.Test.YtjkbekifgobeaaaGreatS32
import Derived.Test.YtjkbekifgobeaaaGreatS33
import Derived.Test.YtjkbekifgobeaaaGreatRows
import Derived.ProofKit
import Derived.OpenShut
import Derived.ShutString
import Derived.ChangeOld
import Derived.Below
import Derived.Lib.SmallJoins
import Derived.Deep.Slices
import Derived.WalkKit
namespace Go.Proofs.YtjkbekifgobeaaaGreat
set_option maxHeartbeats 64000000
set_option maxRecDepth 100000
set_option linter.unusedVariables false
section
open Go.RowKit Go.Maps Go.ChangeMaps
theorem sameAd_any(w:World)(va vb':Value)(xs ys:List Ad)(hx:Rd w 2 va xs.length (aV xs))(hy:Rd w 2 vb' ys.length (aV ys))(bb:Bool)(he:decide (xs=ys)=bb) :
 Calls Tryz.prog 60 #[va,vb'] w fun e w'=>e=.returned (.bool bb)/\aA aB w w':=by
 obtain⟨oa,ca,rfl,hla,hma⟩:=hx.form;obtain⟨ob,cb,rfl,hlb,hmb⟩:=hy.form;have hmx:xs.length≤maxLen:=by omega
 unfold maxLen at hmx;have HE:=H' he;have HRX:=H' hx;have HRY:=H' hy;obtain⟨n,hn⟩:∃n,xs.length=n:=⟨_,rfl⟩
 obtain⟨m,hm⟩:∃m,ys.length=m:=⟨_,rfl⟩
 have HN:=H' hn;have HM:=H' hm;rw[hn] at HRX hmx;rw[hm] at HRY;rw[hn,hm];clear hx hy he hla hma hlb hmb hn hm
 by_cases hnm:n=m
 ·subst hnm
  go_enter Tryz.func60,Tryz.ntmps60;go_wp2_with fail
  go_loopw [5] (fun i wr=>∃k:Nat,k≤n/\i=.int .i64 k/\Hid (xs.take k=ys.take k)/\Hid (aA aB w wr)) (fun i _=>n-(intOf i).toNat)
  case atStart=>exact⟨0,Nat.zero_le _,rfl,H' rfl,H' (aA.refl _ _)⟩
  case round =>
  obtain⟨k,hk,rfl,HT,HK⟩:=hrel
  by_cases hlt:k<n
  ·obtain⟨x,hx⟩:∃x,xs[k]?=some x:=⟨xs[k]'(by rw[HN.out];exact hlt),List.getElem?_eq_getElem _⟩
   obtain⟨y,hy⟩:∃y,ys[k]?=some y:=⟨ys[k]'(by rw[HM.out];exact hlt),List.getElem?_eq_getElem _⟩
   obtain⟨S,hS0⟩:∃S:World->Prop,S=fun w'=>aA aB w w':=⟨_,rfl⟩
   have hra:=HRX.out;have hrb:=HRY.out;rw[←HN.out] at hra;rw[←HM.out] at hrb;obtain⟨g,o,cap,hv,-⟩:=iY hra hx;obtain⟨g2,o2,cap2,hv2,-⟩:=iY hrb hy;have e1:oa=some ⟨g,o,none⟩:=by cases hv;rfl
   have e2:ob=some ⟨g2,o2,none⟩:=by cases hv2;rfl
   subst e1 e2;obtain⟨xc,hxc⟩:∃xc,aQ x=xc:=⟨_,rfl⟩
   obtain⟨yc,hyc⟩:∃yc,aQ y=yc:=⟨_,rfl⟩
   have HSX:=H' (show ∀w',S w'->w'.rangeAt g (o+k*2) xc from fun w' h=>by
    rw[hS0] at h;obtain⟨g',o',c',hv',hr'⟩:=iY (hra.keep h fun _ _=>id) hx;cases hv'
    rw[←hxc];exact hr')
   have HSY:=H' (show ∀w',S w'->w'.rangeAt g2 (o2+k*2) yc from fun w' h=>by
    rw[hS0] at h;obtain⟨g',o',c',hv',hr'⟩:=iY (hrb.keep h fun _ _=>id) hy;cases hv'
    rw[←hyc];exact hr')
   have HX:Hid ((Tryz.prog.info? 74).map (·.size)=some xc.length):=H' (by rw[←hxc];exact cF);have HY:Hid ((Tryz.prog.info? 74).map (·.size)=some yc.length):=H' (by rw[←hyc];exact cF);obtain⟨bq,hbq⟩:∃bq,(!decide (x=y))=bq:=⟨_,rfl⟩
   have HNE:Hid (∀w',Sem.run Tryz.prog (binOp .neq 74 (.agg xc.toArray) (.agg yc.toArray)) w'=.ok (.bool bq) w'):=H' (fun w'=>by rw[←hxc,←hyc,←hbq];exact Li x y w');have HBQ:=H' hbq;have HSE:=H' (show ∀w',S w'->aA aB w w' from fun w' h=>by rw[hS0] at h;exact h);have hS:S wr.drew:=by rw[hS0];exact HK.out.drew
   have HTX:Hid (xs.take (k+1)=xs.take k++[x]):=H' (by rw[List.take_add_one,hx];rfl);have HTY:Hid (ys.take (k+1)=ys.take k++[y]):=H' (by rw[List.take_add_one,hy];rfl);have HXE:=H' hx;have HYE:=H' hy;have hki:(k:Int)<(n:Int):=by omega
   have hk0:(0:Int)≤(k:Int):=by omega
   clear hx hy hS0 hra hrb hv hv2 hxc hyc hbq HK;go_wp2_with fail;refine wp_region_held (S:=S) (by kernel_rfl) ?_;change wpAnyH _ _ _ _ _ _ _ _ wr.drew;generalize wr.drew=w6 at *;refine tka 0 (.slice (some ⟨g,o,none⟩) n ca) rfl hS ?_;simp only[Act.put,List.setIfInBounds_toArray,List.set_cons_zero,List.set_cons_succ,List.getElem_toArray,List.getElem_cons_zero];refine tna 1 (.int .i64 k) rfl hS ?_;refine tkd 2 (.pointer (some ⟨g,o+k*2,none⟩)) rfl (.inl ⟨by rfl,fun _ _=>?_⟩) hS ?_
   ·go_simp
   refine nrm ?_;refine tnd 3 (.agg xc.toArray) rfl (yieldsIf_load_mid (by rfl) 74 (.tmp 19) rfl g (o+k*2) rfl xc _ HSX.out bX rfl HX.out) hS ?_;refine tna 4 (.slice (some ⟨g2,o2,none⟩) n cb) rfl hS ?_;refine tna 5 (.int .i64 k) rfl hS ?_;refine tkd 6 (.pointer (some ⟨g2,o2+k*2,none⟩)) rfl (.inl ⟨by rfl,fun _ _=>?_⟩) hS ?_
   ·go_simp
   refine nrm ?_;refine tnd 7 (.agg yc.toArray) rfl (yieldsIf_load_mid (by rfl) 74 (.tmp 23) rfl g2 (o2+k*2) rfl yc _ HSY.out bX rfl HY.out) hS ?_;refine tnd 8 (.bool bq) rfl (oF (by rfl) 74 (.tmp 20) (.tmp 24) 74 rfl xc.toArray yc.toArray rfl rfl Jr HNE.out) hS ?_;refine wpAnyH_done (by kernel_rfl) ?_ _;have HKE:=H' (HSE.out _ hS);clear hS;cases bq
   ·have hxy:x=y:=by have:=HBQ.out;simpa using this
    have HTE:Hid (xs.take (k+1)=ys.take (k+1)):=H' (by rw[HTX.out,HTY.out,HT.out,hxy]);clear hxy;go_wp2_with fail
    go_roundw
    case rel=>exact⟨k+1,by omega,by go_num,HTE,HKE⟩
    case measure=>simp[intOf];omega
   ·have hxy:x≠y:=by have:=HBQ.out;simpa using this
    have hf:bb=false:=by
     rw[←HE.out];refine decide_eq_false fun e=>hxy ?_
     have h1:=HXE.out;rw[e,HYE.out] at h1;exact(Option.some.inj h1).symm
    subst hf;clear hxy;go_wp2_with fail;go_ret;exact⟨rfl,HKE.out⟩
  ·obtain rfl:k=n:=by omega
   have hf:bb=true:=by
    rw[←HE.out];have:=HT.out;rw[List.take_of_length_le (by rw[HN.out];exact Nat.le_refl _),List.take_of_length_le (by rw[HM.out];exact Nat.le_refl _)] at this;exact decide_eq_true this
   subst hf;go_wp2_with fail;go_ret;exact⟨rfl,HK.out⟩
 ·have hf:bb=false:=by
   rw[←HE.out];refine decide_eq_false fun e=>hnm ?_
   rw[←HN.out,←HM.out,e]
  subst hf;have hni:¬(n:Int)=(m:Int):=by omega
  go_enter Tryz.func60,Tryz.ntmps60;go_wp2_with fail;go_ret;exact⟨rfl,aA.refl _ _⟩
end
section
open Go.RowKit Go.Maps Go.ChangeMaps
open Go.RowKit Go.Maps Go.ChangeMaps
theorem kitPt_any(w:World)(v u:Value)(p q:Pt)(h0:PtV w v p)(h1:PtV w u q):Calls Tryz.prog 18 #[.agg (aK v p).toArray,.agg (aK u q).toArray] w (aZ w (p.eqB q)):=by
 obtain⟨oa,ca,hv,-,-⟩:=h0.rd.form;subst hv;obtain⟨ob,cb,hv,-,-⟩:=h1.rd.form;subst hv;obtain⟨n,hn⟩:∃x,p.addrs.length=x:=⟨_,rfl⟩
 obtain⟨m,hm⟩:∃x,q.addrs.length=x:=⟨_,rfl⟩
 have HN:=H' hn;have HM:=H' hm;rw[hn] at h0 ⊢;rw[hm] at h1 ⊢;obtain⟨w1,hw1⟩:∃w1,(w.alloc (.cells (aK (.slice oa n ca) p).toArray 26)).alloc (.cells (aK (.slice ob m cb) q).toArray 26)=w1:=⟨_,rfl⟩
 have hb_0:w1.heap[w.heap.size]?=some (.cells (aK (.slice oa n ca) p).toArray 26 (0,0)):=by rw[←hw1];exact heap_alloc2_old _ _ _
 have hb_1:w1.heap[w.heap.size+1]?=some (.cells (aK (.slice ob m cb) q).toArray 26 (0,0)):=by rw[←hw1];exact heap_alloc2_new _ _ _
 have hk1:aA aB w w1:=by rw[←hw1];exact((aA.refl _ _).alloc _).alloc _
 obtain⟨a0,b0,c0,d0⟩:=cP (aC hb_0);have HP0:=H' d0;have HB0:=H' hb_0;have hl0:(aK (.slice oa n ca) p).length=35:=aO h0.sum;simp only[Nat.zero_add] at a0 b0 c0;obtain⟨a1,b1,c1,d1⟩:=cP (aC hb_1);have HP1:=H' d1;have HB1:=H' hb_1;have hl1:(aK (.slice ob m cb) q).length=35:=aO h1.sum;simp only[Nat.zero_add] at a1 b1 c1;have HK:=H' hk1;have HR0:=H' (aC HB0.out);have HR1:=H' (aC HB1.out);have HE:=H' (fun wx (k:aA aB w wx)=>sameAd_any wx _ _ p.addrs q.addrs (h0.rd.keep k fun _ _=>id) (h1.rd.keep k fun _ _=>id) _ rfl);obtain⟨pc,hpc⟩:∃x,aK (.slice oa n ca) p=x:=⟨_,rfl⟩
 have Hpc:=H' hpc;obtain⟨qc,hqc⟩:∃x,aK (.slice ob m cb) q=x:=⟨_,rfl⟩
 have Hqc:=H' hqc;have heq:=Bx p.sum q.sum h0.sum h1.sum;have hsl:(p.sum.map vb).length=32:=by rw[List.length_map];exact h0.sum
 have hql:(q.sum.map vb).length=32:=by rw[List.length_map];exact h1.sum
 obtain⟨t1,ht1⟩:∃t:Bool,decide (p.addrs=q.addrs)=t:=⟨_,rfl⟩
 obtain⟨t2,ht2⟩:∃t:Bool,(p.birth == q.birth)=t:=⟨_,rfl⟩
 obtain⟨t3,ht3⟩:∃t:Bool,(p.level == q.level)=t:=⟨_,rfl⟩
 obtain⟨t4,ht4⟩:∃t:Bool,decide (p.sum=q.sum)=t:=⟨_,rfl⟩
 have HS:=H' (show p.eqB q=(t1 && t2 && t3 && t4) by unfold Pt.eqB;rw[ht1,ht2,ht3,ht4]);rw[ht1] at HE;rw[ht4] at heq;rw[hpc] at hw1 hl0 HR0 ⊢;rw[hqc] at hw1 hl1 HR1 ⊢;have HEQ:=H' heq;clear ht1 ht4 hb_0 hb_1 d0 d1 hk1 hpc hqc h0 h1 HB0 HB1 hn hm heq;go_enter Tryz.func18,Tryz.ntmps18;go_wp2_with fail;refine(HE.out _ HK.out).mono ?_;rintro e w2 ⟨rfl,hk⟩;have HR0:=H' (hk.rangeAt HR0.out);have HR1:=H' (hk.rangeAt HR1.out);have HK:=H' (HK.out.trans hk);obtain⟨a0,b0,c0,d0⟩:=cP (p:=p) (v:=.slice oa n ca) (by rw[Hpc.out];exact HR0.out);obtain⟨a1,b1,c1,d1⟩:=cP (p:=q) (v:=.slice ob m cb) (by rw[Hqc.out];exact HR1.out);simp only[Nat.zero_add] at a0 b0 c0 a1 b1 c1;have HP0:=H' d0;have HP1:=H' d1;clear hk d0 d1;clear a0 a1;obtain⟨ss,hss⟩:∃x,p.sum.map vb=x:=⟨_,rfl⟩
 obtain⟨zz,hzz⟩:∃x,q.sum.map vb=x:=⟨_,rfl⟩
 have heq:=HEQ.out;rw[hss] at HP0 hsl heq;rw[hzz] at HP1 hql heq;clear hss hzz
 cases t1<;>cases t2<;>cases t3<;>cases t4<;>(
  go_wp2_with (first
   | ((with_reducible show WL _ (.load 24 (.tmp 25)));refine aT (by rfl) 24 (.tmp 25) rfl (w.heap.size) 3 rfl ss _ HP0.out Tryz.underlying24 rfl (yC hsl) ?_)
   | ((with_reducible show WL _ (.load 24 (.tmp 27)));refine aT (by rfl) 24 (.tmp 27) rfl (w.heap.size+1) 3 rfl zz _ HP1.out Tryz.underlying24 rfl (yC hql) ?_))
  go_ret;exact⟨by rw[HS.out];rfl,HK.out⟩)
end
section
open Go.RowKit Go.Maps Go.ChangeMaps
def NoCore(w:World)(cv:Value):Prop:=cv=.pointer none\/∃b cs,cv=.pointer (some ⟨b,0,none⟩)/\w.heap[b]?=some (.cells cs tP (0,0))/\cs[0]?=some (.pointer none)
theorem NoCore.keep0{w w':World}{cv:Value}(h:NoCore w cv)(k:aA aB w w'):NoCore w' cv:=h.imp id fun ⟨b,cs,h1,h2,h3⟩=>⟨b,cs,h1,k.blk h2 id,h3⟩
theorem NoCore.one{w:World}{cv:Value}(h:NoCore w cv):cv.cells=#[cv]/\cv.oneCell'=true:=by
 rcases h with rfl|⟨b,cs,rfl,-,-⟩<;>exact⟨rfl,rfl⟩
theorem cnone_nil{w:World}{cv:Value}(hN:NoCore w cv):Calls Tryz.prog 86 #[cv] w (aM w (.bool true)):=by
 have HL:=H' (Loc.nil aB aB w);rcases hN with rfl|⟨b,cs,rfl,hb,h0⟩
 ·go_enter Tryz.func86,Tryz.ntmps86
  go_wp2_with fail;go_ret;exact⟨rfl,HL.out.keep⟩
 ·go_enter Tryz.func86,Tryz.ntmps86
  have c1:w.cell? ⟨b,0,none⟩=some (.pointer none):=aD hb h0;go_wp2_with fail;go_ret;exact⟨rfl,HL.out.keep⟩
theorem copies_nil{w:World}{cv:Value}(hN:NoCore w cv):Calls Tryz.prog 119 #[cv] w (aM w (.int .i64 0)):=by
 have HN:=H' hN;have HOC:=H' hN.one;have HL:=H' (Loc.nil aB aB w);clear hN;have HN0:=HN;go_enter Tryz.func119,Tryz.ntmps119;go_wp2_with fail;refine((cnone_nil HN.out)).mono ?_;rintro e w1 ⟨rfl,hk⟩;replace HL:=H' (HL.out.keeps hk);replace HN:=H' (NoCore.keep0 HN.out hk);clear hk;go_wp2_with fail;go_ret;exact⟨rfl,HL.out.keep⟩
theorem tnone_nil{w:World}{cv:Value}(hN:NoCore w cv):Calls Tryz.prog 93 #[cv] w (aM w (.bool true)):=by
 have HN:=H' hN;have HOC:=H' hN.one;have HL:=H' (Loc.nil aB aB w);clear hN;have HN0:=HN;go_enter Tryz.func93,Tryz.ntmps93;go_wp2_with fail;refine((copies_nil HN.out)).mono ?_;rintro e w1 ⟨rfl,hk⟩;replace HL:=H' (HL.out.keeps hk);replace HN:=H' (NoCore.keep0 HN.out hk);clear hk;go_wp2_with fail;go_ret;exact⟨rfl,HL.out.keep⟩
theorem tchecks_nil{w:World}{cv:Value}(hN:NoCore w cv){pc:List Value}(hpc:pc.length=35)(hop:∀u∈pc,u.oneCell'=true):Calls Tryz.prog 46 #[cv,.agg pc.toArray] w (aM w (.int .i64 1)):=by
 have HN:=H' hN;have HOC:=H' hN.one;have HOP:=H' hop;have HL:=H' (Loc.nil aB aB w);clear hN hop;have HN0:=HN;go_enter Tryz.func46,Tryz.ntmps46
 go_wp2_with (first
  | ((with_reducible show WL (some 3) (.box 26 _));refine bx 26 (.tmp 1) (pc.toArray) ?_))
 intro b3 w1 hbs hk hb;replace HL:=H' (HL.out.new (fun _ h=>h.elim) hbs hk hb);replace HN:=H' (NoCore.keep0 HN.out hk);clear hbs hk hb;go_wp2_with fail;refine((tnone_nil HN.out)).mono ?_;rintro e w2 ⟨rfl,hk⟩;replace HL:=H' (HL.out.keeps hk);replace HN:=H' (NoCore.keep0 HN.out hk);clear hk;go_wp2_with fail;go_ret;exact⟨rfl,HL.out.keep⟩
theorem tmany_nil{w:World}{cv:Value}(hN:NoCore w cv){pc:List Value}(hpc:pc.length=35)(hop:∀u∈pc,u.oneCell'=true):Calls Tryz.prog 17 #[cv,.agg pc.toArray] w (aM w (.tuple #[.int .i64 0,.int .i64 1])):=by
 have HN:=H' hN;have HOC:=H' hN.one;have HOP:=H' hop;have HL:=H' (Loc.nil aB aB w);clear hN hop;have HN0:=HN;go_enter Tryz.func17,Tryz.ntmps17
 go_wp2_with (first
  | ((with_reducible show WL (some 3) (.box 26 _));refine bx 26 (.tmp 1) (pc.toArray) ?_))
 intro b3 w1 hbs hk hb;replace HL:=H' (HL.out.new (fun _ h=>h.elim) hbs hk hb);replace HN:=H' (NoCore.keep0 HN.out hk);clear hbs hk hb
 go_wp2_with (first
  | ((with_reducible show WL (some 9) (.load 26 _));refine wpList_load_mid rfl 26 (.tmp 3) rfl b3 0 rfl pc _ (aC (HL.out.b 0)) aJ rfl (by rw[hpc];exact aE) ?_))
 refine((tchecks_nil HN.out hpc HOP.out)).mono ?_;rintro e w2 ⟨rfl,hk⟩;replace HL:=H' (HL.out.keeps hk);replace HN:=H' (NoCore.keep0 HN.out hk);clear hk;go_wp2_with fail
 go_ret2
 exact⟨rfl,HL.out.keep⟩
theorem tall_nil{w:World}{cv:Value}(hN:NoCore w cv){pc:List Value}(hpc:pc.length=35)(hop:∀u∈pc,u.oneCell'=true):Calls Tryz.prog 16 #[cv,.agg pc.toArray] w (aM w (.tuple #[.slice none 0 0,.int .i64 1])):=by
 have HN:=H' hN;have HOC:=H' hN.one;have HOP:=H' hop;have HL:=H' (Loc.nil aB aB w);clear hN hop;have HN0:=HN;go_enter Tryz.func16,Tryz.ntmps16
 go_wp2_with (first
  | ((with_reducible show WL (some 2) (.box 36 _));refine bx 36 (.tmp 0) (#[cv]) ?_ (hcs:=HOC.out.1)))
 intro b2 w1 hbs hk hb;replace HL:=H' (HL.out.new (fun _ h=>h.elim) hbs hk hb);replace HN:=H' (NoCore.keep0 HN.out hk);clear hbs hk hb
 go_wp2_with (first
  | ((with_reducible show WL (some 3) (.box 26 _));refine bx 26 (.tmp 1) (pc.toArray) ?_))
 intro b3 w2 hbs hk hb;replace HL:=H' (HL.out.new (fun _ h=>h.elim) hbs hk hb);replace HN:=H' (NoCore.keep0 HN.out hk);clear hbs hk hb;have c1:w2.cell? ⟨b2,0,none⟩=some (cv):=(aD (i:=0) (HL.out.b 1) rfl)
 go_wp2_with (first
  | ((with_reducible show WL (some 9) (.load 26 _));refine wpList_load_mid rfl 26 (.tmp 3) rfl b3 0 rfl pc _ (aC (HL.out.b 0)) aJ rfl (by rw[hpc];exact aE) ?_))
 clear c1;refine((tchecks_nil HN.out hpc HOP.out)).mono ?_;rintro e w3 ⟨rfl,hk⟩;replace HL:=H' (HL.out.keeps hk);replace HN:=H' (NoCore.keep0 HN.out hk);clear hk;go_wp2_with fail
 go_ret2
 exact⟨rfl,HL.out.keep⟩
theorem tget_nil{w:World}{cv:Value}(hN:NoCore w cv){pc:List Value}(hpc:pc.length=35)(hop:∀u∈pc,u.oneCell'=true)(n:Int):Calls Tryz.prog 13 #[cv,.agg pc.toArray,.int .i64 n] w (aM w (.tuple #[.slice none 0 0,.int .i64 1])):=by
 have HN:=H' hN;have HOC:=H' hN.one;have HOP:=H' hop;have HL:=H' (Loc.nil aB aB w);clear hN hop;have HN0:=HN;go_enter Tryz.func13,Tryz.ntmps13
 go_wp2_with (first
  | ((with_reducible show WL (some 4) (.box 26 _));refine bx 26 (.tmp 1) (pc.toArray) ?_))
 intro b4 w1 hbs hk hb;replace HL:=H' (HL.out.new (fun _ h=>h.elim) hbs hk hb);replace HN:=H' (NoCore.keep0 HN.out hk);clear hbs hk hb
 go_wp2_with (first
  | ((with_reducible show WL (some 13) (.load 26 _));refine wpList_load_mid rfl 26 (.tmp 4) rfl b4 0 rfl pc _ (aC (HL.out.b 0)) aJ rfl (by rw[hpc];exact aE) ?_))
 refine((tchecks_nil HN.out hpc HOP.out)).mono ?_;rintro e w2 ⟨rfl,hk⟩;replace HL:=H' (HL.out.keeps hk);replace HN:=H' (NoCore.keep0 HN.out hk);clear hk;go_wp2_with fail
 go_ret2
 exact⟨rfl,HL.out.keep⟩
theorem tset_none{w:World}{cv:Value}(hN:NoCore w cv){pc:List Value}(hpc:pc.length=35)(hop:∀u∈pc,u.oneCell'=true)(n:Int)(va:Option Addr)(vn vc:Nat):Calls Tryz.prog 14 #[cv,.agg pc.toArray,.int .i64 n,.slice va vn vc] w (aM w (.tuple #[.agg (aK (.slice none 0 0) zPt).toArray,.int .i64 1])):=by
 have HN:=H' hN;have HOC:=H' hN.one;have HOP:=H' hop;have hzp:(aK (.slice none 0 0) zPt).length=35:=rfl;have hzb:=gG;obtain⟨zp,hzpe⟩:∃l,aK (.slice none 0 0) zPt=l:=⟨_,rfl⟩
 have HOZP:Hid (∀u∈zp,u.oneCell'=true):=H' (by rw[←hzpe];exact bT zPt);have HZPE:=H' hzpe;rw[hzpe] at hzp hzb;have HZB:=H' hzb;clear hzpe hzb;have HL:=H' (Loc.nil aB aB w);clear hN hop;have HN0:=HN;go_enter Tryz.func14,Tryz.ntmps14
 go_wp2_with (first
  | ((with_reducible show WL (some 4) (.box 36 _));refine bx 36 (.tmp 0) (#[cv]) ?_ (hcs:=HOC.out.1)))
 intro b4 w1 hbs hk hb;replace HL:=H' (HL.out.new (fun _ h=>h.elim) hbs hk hb);replace HN:=H' (NoCore.keep0 HN.out hk);clear hbs hk hb
 go_wp2_with (first
  | ((with_reducible show WL (some 5) (.box 26 _));refine bx 26 (.tmp 1) (pc.toArray) ?_))
 intro b5 w2 hbs hk hb;replace HL:=H' (HL.out.new (fun _ h=>h.elim) hbs hk hb);replace HN:=H' (NoCore.keep0 HN.out hk);clear hbs hk hb
 go_wp2_with (first
  | ((with_reducible show WL (some 8) (.alloc 26));refine al 26 (.agg aI.toArray) (aI.toArray) aX ?_))
 intro b8 w3 hbs hk hb;replace HL:=H' (HL.out.new (fun _ h=>h.elim) hbs hk hb);replace HN:=H' (NoCore.keep0 HN.out hk);clear hbs hk hb
 go_wp2_with (first
  | ((with_reducible show WL (some 9) (.alloc 46));refine al 46 (.int .i64 0) (#[.int .i64 0]) iT ?_))
 intro b9 w4 hbs hk hb;replace HL:=H' (HL.out.new (fun _ h=>h.elim) hbs hk hb);replace HN:=H' (NoCore.keep0 HN.out hk);clear hbs hk hb;have c1:w4.cell? ⟨b4,0,none⟩=some (cv):=(aD (i:=0) (HL.out.b 3) rfl)
 go_wp2_with (first
  | ((with_reducible show WL (some 17) (.load 26 _));refine wpList_load_mid rfl 26 (.tmp 5) rfl b5 0 rfl pc _ (aC (HL.out.b 2)) aJ rfl (by rw[hpc];exact aE) ?_))
 clear c1;refine((tchecks_nil HN.out hpc HOP.out)).mono ?_;rintro e w5 ⟨rfl,hk⟩;replace HL:=H' (HL.out.keeps hk);replace HN:=H' (NoCore.keep0 HN.out hk);clear hk
 go_wp2_with (first
  | ((with_reducible show WL (some 10) (.alloc 46));refine al 46 (.int .i64 0) (#[.int .i64 0]) iT ?_))
 intro b10 w6 hbs hk0 hb0_
 go_wp2_with (first
  | ((with_reducible show WL _ (.store 46 (.tmp 10) (.tmp 18)));refine sta 46 (.tmp 10) (.tmp 18) b10 0 ([.int .i64 1]) hb0_ (by first|decide|(rw[List.size_toArray,rfl];exact Nat.le_refl _)|simp[]) (by kernel_rfl) (by intro v hv;simp only[List.mem_cons,List.not_mem_nil,or_false] at hv;subst hv;rfl) ?_))
 intro w7 hk hb;replace hb:w7.heap[b10]?=some (.cells #[.int .i64 1] 46 (0,0)):=hb;replace hk:=hk0.trans' hk (U:=aB) (fun _ _ h=>h) (fun i hi e=>by omega);replace HL:=H' (HL.out.new (fun _ h=>h.elim) hbs hk hb);replace HN:=H' (NoCore.keep0 HN.out hk);clear hbs hk hb hk0 hb0_;have c1:w7.cell? ⟨b10,0,none⟩=some (.int .i64 1):=(aD (i:=0) (HL.out.b 0) rfl)
 go_wp2_with fail;clear c1;obtain⟨S,hS0⟩:∃S:World->Prop,S=fun w'=>aA (fun k=>k=b8\/k=b9) w7.drew w':=⟨_,rfl⟩
 have HSE:=H' (show ∀w',S w'->aA (fun k=>k=b8\/k=b9) w7.drew w' from fun w' h=>by rw[hS0] at h;exact h);have HSI:=H' (show ∀w',aA (fun k=>k=b8\/k=b9) w7.drew w'->S w' from fun w' h=>by rw[hS0];exact h);have hS:S w7.drew:=by rw[hS0];exact aA.refl _ _
 have hkd:=(aA.refl aB w7).drew;clear hS0;refine wp_region_held (S:=S) (by kernel_rfl) ?_;change wpAnyH _ _ _ _ _ _ _ _ w7.drew;generalize w7.drew=w8 at HSE HSI hS hkd ⊢;replace HL:=H' (HL.out.keeps hkd);replace HN:=H' (NoCore.keep0 HN.out hkd);clear hkd;have HLs:=HL;have HNs:=HN;refine tnd 0 (.agg zp.toArray) rfl (pF (by rfl) 26 rfl HZB.out) hS ?_;refine tnd 1 (.int .i64 1) rfl (.inl ⟨by rfl,fun w' hw'=>by have c:World.cell? w' ⟨b10,0,none⟩=some (.int .i64 1):=aD (i:=0) ((HSE.out w' hw').blk (HLs.out.b 0) (fun e=>by rcases e with e|e<;>first|exact bK (i:=2) HLs.out.nd rfl 0 (by decide) rfl e|exact bK (i:=1) HLs.out.nd rfl 0 (by decide) rfl e)) rfl;go_simp⟩) hS ?_;refine aG (k:=2) rfl (by kernel_rfl) ?_;refine sta 26 (.tmp 8) (.tmp 22) b8 0 zp (HL.out.b 2) (by first|decide|(rw[hzp];exact Nat.le_refl _)|simp[hzp,aF]) (by rw[hzp];exact aE) HOZP.out ?_;intro w9 hk hb;rw[aL _ _ (by first|rfl|simp[hzp,aF])] at hb;have hS1:=HSI.out _ ((HSE.out _ hS).trans' hk (fun _ _ h=>h) (fun i hi e=>(.inl e)));clear hS;replace HL:=H' (HL.out.set 2 hk hb);replace HN:=H' (NoCore.keep0 HN0.out HL.out.keep);clear hk hb;refine wpList_nil ?_;refine⟨hS1,?_⟩;refine aG (k:=3) rfl (by kernel_rfl) ?_;refine sta 46 (.tmp 9) (.tmp 23) b9 0 ([.int .i64 1]) (HL.out.b 1) (by simp) (by kernel_rfl) (by intro v hv;simp only[List.mem_cons,List.not_mem_nil,or_false] at hv;subst hv;rfl) ?_;intro wa hk hb;replace hb:wa.heap[b9]?=some (.cells #[.int .i64 1] 46 (0,0)):=hb;have hS2:=HSI.out _ ((HSE.out _ hS1).trans' hk (fun _ _ h=>h) (fun i hi e=>(.inr (e))));clear hS1;replace HL:=H' (HL.out.set 1 hk hb);replace HN:=H' (NoCore.keep0 HN0.out HL.out.keep);clear hk hb;refine wpList_nil ?_;refine⟨hS2,?_⟩;refine wpAnyH_done (by kernel_rfl) ?_ _;clear hS2 HSE HSI HLs HNs;have HP:Hid (aM w (.tuple #[.agg zp.toArray,.int .i64 1]) (.returned (.tuple #[.agg zp.toArray,.int .i64 1])) wa):=H' ⟨rfl,HL.out.keep⟩;have HB8:=H' (HL.out.b 2);have c9:wa.cell? ⟨b9,0,none⟩=some (.int .i64 1):=aD (i:=0) (HL.out.b 1) rfl;clear HL HN;go_wp2_with fail;refine bodyPost_ret (eR rfl _ _ b8 _ _ _ _ rfl HB8.out aJ rfl (by rw[List.size_toArray,hzp];exact aE) ⟨b9,0,none⟩ (.int .i64 1) rfl (by go_simp)) rfl ?_;have hp:=HP.out;rw[←HZPE.out] at hp ⊢;exact hp
theorem tcut_none{w:World}{cv:Value}(hN:NoCore w cv){pc:List Value}(hpc:pc.length=35)(hop:∀u∈pc,u.oneCell'=true)(f g:Int):Calls Tryz.prog 15 #[cv,.agg pc.toArray,.int .i64 f,.int .i64 g] w (aM w (.tuple #[.agg (aK (.slice none 0 0) zPt).toArray,.int .i64 1])):=by
 have HN:=H' hN;have HOC:=H' hN.one;have HOP:=H' hop;have hzp:(aK (.slice none 0 0) zPt).length=35:=rfl;have hzb:=gG;obtain⟨zp,hzpe⟩:∃l,aK (.slice none 0 0) zPt=l:=⟨_,rfl⟩
 have HOZP:Hid (∀u∈zp,u.oneCell'=true):=H' (by rw[←hzpe];exact bT zPt);have HZPE:=H' hzpe;rw[hzpe] at hzp hzb;have HZB:=H' hzb;clear hzpe hzb;have HL:=H' (Loc.nil aB aB w);clear hN hop;have HN0:=HN;go_enter Tryz.func15,Tryz.ntmps15
 go_wp2_with (first
  | ((with_reducible show WL (some 19) (.build _ _));refine bld 26 #[] [] (.agg zp.toArray) HZB.out ?_)
  | ((with_reducible show WL (some 4) (.box 36 _));refine bx 36 (.tmp 0) (#[cv]) ?_ (hcs:=HOC.out.1)))
 intro b4 w1 hbs hk hb;replace HL:=H' (HL.out.new (fun _ h=>h.elim) hbs hk hb);replace HN:=H' (NoCore.keep0 HN.out hk);clear hbs hk hb
 go_wp2_with (first
  | ((with_reducible show WL (some 19) (.build _ _));refine bld 26 #[] [] (.agg zp.toArray) HZB.out ?_)
  | ((with_reducible show WL (some 5) (.box 26 _));refine bx 26 (.tmp 1) (pc.toArray) ?_))
 intro b5 w2 hbs hk hb;replace HL:=H' (HL.out.new (fun _ h=>h.elim) hbs hk hb);replace HN:=H' (NoCore.keep0 HN.out hk);clear hbs hk hb
 go_wp2_with (first
  | ((with_reducible show WL (some 19) (.build _ _));refine bld 26 #[] [] (.agg zp.toArray) HZB.out ?_)
  | ((with_reducible show WL (some 8) (.alloc 26));refine al 26 (.agg aI.toArray) (aI.toArray) aX ?_))
 intro b8 w3 hbs hk hb;replace HL:=H' (HL.out.new (fun _ h=>h.elim) hbs hk hb);replace HN:=H' (NoCore.keep0 HN.out hk);clear hbs hk hb;have c1:w3.cell? ⟨b4,0,none⟩=some (cv):=(aD (i:=0) (HL.out.b 2) rfl)
 go_wp2_with (first
  | ((with_reducible show WL (some 15) (.load 26 _));refine wpList_load_mid rfl 26 (.tmp 5) rfl b5 0 rfl pc _ (aC (HL.out.b 1)) aJ rfl (by rw[hpc];exact aE) ?_)
  | ((with_reducible show WL (some 19) (.build _ _));refine bld 26 #[] [] (.agg zp.toArray) HZB.out ?_))
 clear c1;refine((tchecks_nil HN.out hpc HOP.out)).mono ?_;rintro e w4 ⟨rfl,hk⟩;replace HL:=H' (HL.out.keeps hk);replace HN:=H' (NoCore.keep0 HN.out hk);clear hk
 go_wp2_with (first
  | ((with_reducible show WL (some 19) (.build _ _));refine bld 26 #[] [] (.agg zp.toArray) HZB.out ?_)
  | ((with_reducible show WL _ (.store 26 (.tmp 8) (.tmp 19)));refine sta 26 (.tmp 8) (.tmp 19) b8 0 zp (HL.out.b 0) (by first|decide|(rw[hzp];exact Nat.le_refl _)|simp[hzp,aF]) (by rw[hzp];exact aE) HOZP.out ?_))
 intro w5 hk hb;rw[aL _ _ (by first|rfl|simp[hzp,aF])] at hb;replace HL:=H' (HL.out.set 0 hk hb);replace HN:=H' (NoCore.keep0 HN0.out HL.out.keep);clear hk hb;have HP:Hid (aM w (.tuple #[.agg zp.toArray,.int .i64 1]) (.returned (.tuple #[.agg zp.toArray,.int .i64 1])) w5):=H' ⟨rfl,HL.out.keep⟩;have HB8:=H' (HL.out.b 0);clear HL HN;go_wp2_with fail;refine bodyPost_ret (aY rfl _ _ b8 _ _ _ _ rfl HB8.out aJ rfl (by rw[List.size_toArray,hzp];exact aE)) rfl ?_;have hp:=HP.out;rw[←HZPE.out] at hp ⊢;exact hp
end
section
open Go.ChangeShapes Go.WideShapes Go.ChangeAt Go.RowKit
theorem own:ownKnob Tryz.prog.godebug=none:=by kernel_rfl
theorem laidOut:laidOutB Tryz.prog=true:=by kernel_rfl
structure XAct where
 kind:Int
 dev:Int
 pos:Int
 n:Int
 mask:Int
 ba:Option Addr
 bn:Nat
 bc:Nat
 ka:Option Addr
 kn:Nat
 kc:Nat
def xCs(x:XAct):List Value:=[.int .i64 x.kind,.int .i64 x.dev,.int .i64 x.pos,.int .i64 x.n,.int .u8 x.mask,.slice x.ba x.bn x.bc,.slice x.ka x.kn x.kc]
theorem xCs_one(x:XAct):∀u∈xCs x,u.oneCell'=true:=by
 intro u hu;simp only[xCs,List.mem_cons,List.not_mem_nil,or_false] at hu;rcases hu with rfl|rfl|rfl|rfl|rfl|rfl|rfl<;>rfl
structure NAct where
 kind:Int
 n:Int
 fr:Int
 wh:Int
 ln:Int
 raw:Bool
 pa:Option Addr
 pn:Nat
 pc:Nat
 pt:List Value
 ba:Option Addr
 bn:Nat
 bc:Nat
 x:XAct
def NAct.p(a:NAct):List Value:=.slice a.pa a.pn a.pc::a.pt
def NAct.Ok(a:NAct):Prop:=a.pt.length=34/\∀u∈a.pt,u.oneCell'=true
theorem NAct.Ok.len{a:NAct}(h:a.Ok):a.p.length=35:=by show a.pt.length+1=35;rw[h.1]
theorem NAct.Ok.one{a:NAct}(h:a.Ok):∀u∈a.p,u.oneCell'=true:=by
 intro u hu;rcases List.mem_cons.1 hu with rfl|hu
 ·rfl
 ·exact h.2 u hu
def nHead(a:NAct):List Value:=[.int .i64 a.kind,.int .i64 a.n,.int .i64 a.fr,.int .i64 a.wh,.int .i64 a.ln,.bool a.raw]
def nCs(a:NAct):List Value:=nHead a++(a.p++(.slice a.ba a.bn a.bc::xCs a.x))
theorem nCs_len{a:NAct}(h:a.Ok):(nCs a).length=49:=by
 unfold nCs;rw[List.length_append,List.length_append,h.len];rfl
theorem nCs_one{a:NAct}(h:a.Ok):∀u∈nCs a,u.oneCell'=true:=by
 intro u hu;rcases List.mem_append.1 hu with hu|hu
 ·simp only[nHead,List.mem_cons,List.not_mem_nil,or_false] at hu
  rcases hu with rfl|rfl|rfl|rfl|rfl|rfl<;>rfl
 ·rcases List.mem_append.1 hu with hu|hu
  ·exact h.one u hu
  ·rcases List.mem_cons.1 hu with rfl|hu
   ·rfl
   ·exact xCs_one a.x u hu
theorem cut_to{cs l:List Value}{o k:Nat}(m:Nat)(h:(cs.drop o).take k=l)(hm:o+k=m):cs.drop o=l++cs.drop m:=by
 rw[←h,←hm,←List.drop_drop];exact(List.take_append_drop k (cs.drop o)).symm
section
variable {H:Type}{enc:TypeId×Value->H}{w:World}{base:Nat}{spare:Nat->Bool}{held:Bool}{fuel:Nat}
theorem fld_of{t:TypeId}{cs:List Value}{x:DataW H×List MemPlace}{fs:List (String×TypeId×Nat)}(hu:Tryz.prog.underlying t=some (.struct (Tryz.prog.fieldsOf t)))
 (hF:(Tryz.prog.fieldsOf t).toList.map (fun f=>(f.name,f.type,f.offset))=fs) (h:DataW.trod enc Tryz.prog w base spare held fuel t cs=some x) :
 cs.length=Tryz.prog.cellsOf t/\∃m,∀(i:Nat) (n:String) (u:TypeId) (o:Nat),fs[i]?=some (n,u,o)->∃y,DataW.trod enc Tryz.prog w base spare held m u ((cs.drop o).take (Tryz.prog.cellsOf u))=some y:=by
 obtain⟨xs,m,-,-,hl,hx,hf⟩:=DataW.trod_struct hu h;refine⟨hl,m,fun i n u o h2=>?_⟩;rw[←hF,List.getElem?_map] at h2;obtain⟨f,hf1,hf2⟩:=Option.map_eq_some_iff.1 h2;have h3:=hf i f (by simpa using hf1);cases hf2
 have hi:i<xs.length:=by
  have:=(List.getElem?_eq_some_iff.1 hf1).1;rw[hx];simpa using this
 rw[List.getElem?_eq_getElem hi] at h3;exact⟨_,h3⟩
theorem cInt:Tryz.prog.cellsOf 3=1:=by kernel_rfl
theorem cU8:Tryz.prog.cellsOf 5=1:=by kernel_rfl
theorem cBool:Tryz.prog.cellsOf 4=1:=by kernel_rfl
theorem cSB:Tryz.prog.cellsOf 27=1:=by kernel_rfl
theorem cSO:Tryz.prog.cellsOf 28=1:=by kernel_rfl
theorem cSA:Tryz.prog.cellsOf 22=1:=by kernel_rfl
theorem cID:Tryz.prog.cellsOf 24=32:=by kernel_rfl
theorem cPt:Tryz.prog.cellsOf 26=35:=by kernel_rfl
theorem zcX9:Tryz.prog.cellsOf 30=7:=by kernel_rfl
theorem zcN9:Tryz.prog.cellsOf 32=49:=by kernel_rfl
theorem uPt:Tryz.prog.underlying 26=some (.struct (Tryz.prog.fieldsOf 26)):=by kernel_rfl
theorem zuX9:Tryz.prog.underlying 30=some (.struct (Tryz.prog.fieldsOf 30)):=by kernel_rfl
theorem uN:Tryz.prog.underlying 32=some (.struct (Tryz.prog.fieldsOf 32)):=by kernel_rfl
theorem fPt : (Tryz.prog.fieldsOf 26).toList.map (fun f => (f.name, f.type, f.offset)) = [("Addrs", 22, 0), ("Birth", 3, 1), ("Level", 3, 2), ("Sum", 24, 3)] := by kernel_rfl
theorem zfX9 : (Tryz.prog.fieldsOf 30).toList.map (fun f => (f.name, f.type, f.offset)) = [("Kind", 3, 0), ("Dev", 3, 1), ("At", 3, 2), ("N", 3, 3), ("Mask", 5, 4), ("B", 27, 5), ("Keep", 28, 6)] := by kernel_rfl
theorem zfN9 : (Tryz.prog.fieldsOf 32).toList.map (fun f => (f.name, f.type, f.offset)) = [("Kind", 3, 0), ("N", 3, 1), ("From", 3, 2), ("Which", 3, 3), ("Len", 3, 4), ("Raw", 4, 5), ("P", 26, 6), ("B", 27, 41), ("X", 30, 42)] := by kernel_rfl
theorem intc_of{cs:List Value}{x:DataW H×List MemPlace}(h:DataW.trod enc Tryz.prog w base spare held fuel 3 cs=some x):∃a:Int,cs=[.int .i64 a]:=by
 obtain⟨a,e0,-,-⟩:=DataW.trod_int Tryz.underlying3 h;exact⟨a,e0⟩
theorem bytec_of{cs:List Value}{x:DataW H×List MemPlace}(h:DataW.trod enc Tryz.prog w base spare held fuel 5 cs=some x):∃a:Int,cs=[.int .u8 a]:=by
 obtain⟨a,e0,-,-⟩:=DataW.trod_int Tryz.underlying5 h;exact⟨a,e0⟩
theorem boolc_of{cs:List Value}{x:DataW H×List MemPlace}(h:DataW.trod enc Tryz.prog w base spare held fuel 4 cs=some x):∃a:Bool,cs=[.bool a]:=by
 obtain⟨a,e0,-⟩:=DataW.trod_bool Tryz.underlying4 h;exact⟨a,e0⟩
theorem idc_of{cs:List Value}{x:DataW H×List MemPlace}(h:DataW.trod enc Tryz.prog w base spare held fuel 24 cs=some x):cs.length=32/\∀u∈cs,u.oneCell'=true:=by
 obtain⟨xs,m,-,-,hl,hx,he⟩:=DataW.trod_array Tryz.underlying24 h;rw[cID] at hl;refine⟨hl,fun u hu=>?_⟩;obtain⟨i,hi⟩:=List.getElem?_of_mem hu;have hi32:i<32:=by have:=(List.getElem?_eq_some_iff.1 hi).1;omega
 have h1:=he i hi32;rw[cU8,Nat.mul_one] at h1;obtain⟨y,hy⟩:∃y,xs[i]?=some y:=⟨xs[i]'(by omega),List.getElem?_eq_getElem _⟩
 rw[hy] at h1;obtain⟨b,hb⟩:=bytec_of h1;have:((cs.drop i).take 1)[0]?=some (.int .u8 b):=by rw[hb];rfl
 rw[List.getElem?_take,if_pos (by omega),List.getElem?_drop,Nat.add_zero,hi] at this;cases this
 rfl
theorem ptc_of{cs:List Value}{x:DataW H×List MemPlace}(h:DataW.trod enc Tryz.prog w base spare held fuel 26 cs=some x):∃a n c pt,cs=.slice a n c::pt/\pt.length=34/\∀u∈pt,u.oneCell'=true:=by
 obtain⟨hl,m,hf⟩:=fld_of uPt fPt h;rw[cPt] at hl;obtain⟨_,h0⟩:=hf 0 _ _ _ rfl;obtain⟨_,h1⟩:=hf 1 _ _ _ rfl;obtain⟨_,h2⟩:=hf 2 _ _ _ rfl;obtain⟨_,h3⟩:=hf 3 _ _ _ rfl;obtain⟨a,n,c,e0⟩:=Go.Joins.slice_form Tryz.underlying22 h0;obtain⟨b,e1⟩:=intc_of h1;obtain⟨d,e2⟩:=intc_of h2;obtain⟨l3,o3⟩:=idc_of h3;rw[cSA] at e0;rw[cInt] at e1 e2;rw[cID] at l3 o3
 have e:cs=.slice a n c::(.int .i64 b::.int .i64 d::(cs.drop 3).take 32):=by
  have q0:=cut_to 1 e0 rfl;rw[cut_to 2 e1 rfl,cut_to 3 e2 rfl,cut_to 35 (rfl:(cs.drop 3).take 32=_) rfl,List.drop_eq_nil_of_le (i:=35) (by omega),List.append_nil] at q0;exact q0
 refine⟨a,n,c,_,e,?_,fun u hu=>?_⟩
 ·show ((cs.drop 3).take 32).length+1+1=34
  rw[l3]
 ·rcases List.mem_cons.1 hu with rfl|hu
  ·rfl
  ·rcases List.mem_cons.1 hu with rfl|hu
   ·rfl
   ·exact o3 u hu
theorem xact_of{cs:List Value}{x:DataW H×List MemPlace}(h:DataW.trod enc Tryz.prog w base spare held fuel 30 cs=some x):∃a,cs=xCs a:=by
 obtain⟨hl,m,hf⟩:=fld_of zuX9 zfX9 h;rw[zcX9] at hl;obtain⟨_,h0⟩:=hf 0 _ _ _ rfl;obtain⟨_,h1⟩:=hf 1 _ _ _ rfl;obtain⟨_,h2⟩:=hf 2 _ _ _ rfl;obtain⟨_,h3⟩:=hf 3 _ _ _ rfl;obtain⟨_,h4⟩:=hf 4 _ _ _ rfl;obtain⟨_,h5⟩:=hf 5 _ _ _ rfl;obtain⟨_,h6⟩:=hf 6 _ _ _ rfl;obtain⟨a0,e0⟩:=intc_of h0;obtain⟨a1,e1⟩:=intc_of h1;obtain⟨a2,e2⟩:=intc_of h2;obtain⟨a3,e3⟩:=intc_of h3;obtain⟨a4,e4⟩:=bytec_of h4;obtain⟨b0,b1,b2,e5⟩:=Go.Joins.slice_form Tryz.underlying27 h5;obtain⟨k0,k1,k2,e6⟩:=Go.Joins.slice_form Tryz.underlying28 h6;rw[cInt] at e0 e1 e2 e3;rw[cU8] at e4;rw[cSB] at e5;rw[cSO] at e6;refine⟨⟨a0,a1,a2,a3,a4,b0,b1,b2,k0,k1,k2⟩,?_⟩;have q0:=cut_to 1 e0 rfl;rw[cut_to 2 e1 rfl,cut_to 3 e2 rfl,cut_to 4 e3 rfl,cut_to 5 e4 rfl,cut_to 6 e5 rfl,cut_to 7 e6 rfl,List.drop_eq_nil_of_le (i:=7) (by omega)] at q0;exact q0
theorem nact_of{cs:List Value}{x:DataW H×List MemPlace}(h:DataW.trod enc Tryz.prog w base spare held fuel 32 cs=some x):∃a:NAct,a.Ok/\cs=nCs a:=by
 obtain⟨hl,m,hf⟩:=fld_of uN zfN9 h;rw[zcN9] at hl;obtain⟨_,h0⟩:=hf 0 _ _ _ rfl;obtain⟨_,h1⟩:=hf 1 _ _ _ rfl;obtain⟨_,h2⟩:=hf 2 _ _ _ rfl;obtain⟨_,h3⟩:=hf 3 _ _ _ rfl;obtain⟨_,h4⟩:=hf 4 _ _ _ rfl;obtain⟨_,h5⟩:=hf 5 _ _ _ rfl;obtain⟨_,h6⟩:=hf 6 _ _ _ rfl;obtain⟨_,h7⟩:=hf 7 _ _ _ rfl;obtain⟨_,h8⟩:=hf 8 _ _ _ rfl;obtain⟨a0,e0⟩:=intc_of h0;obtain⟨a1,e1⟩:=intc_of h1;obtain⟨a2,e2⟩:=intc_of h2;obtain⟨a3,e3⟩:=intc_of h3;obtain⟨a4,e4⟩:=intc_of h4;obtain⟨a5,e5⟩:=boolc_of h5;obtain⟨p0,p1,p2,pt,e6,hp1,hp2⟩:=ptc_of h6;obtain⟨b0,b1,b2,e7⟩:=Go.Joins.slice_form Tryz.underlying27 h7;obtain⟨a8,e8⟩:=xact_of h8;rw[cInt] at e0 e1 e2 e3 e4;rw[cBool] at e5;rw[cPt] at e6;rw[cSB] at e7;rw[zcX9] at e8;refine⟨⟨a0,a1,a2,a3,a4,a5,p0,p1,p2,pt,b0,b1,b2,a8⟩,⟨hp1,hp2⟩,?_⟩;have q0:=cut_to 1 e0 rfl;rw[cut_to 2 e1 rfl,cut_to 3 e2 rfl,cut_to 4 e3 rfl,cut_to 5 e4 rfl,cut_to 6 e5 rfl,cut_to 41 e6 rfl,cut_to 42 e7 rfl,cut_to 49 e8 rfl,List.drop_eq_nil_of_le (i:=49) (by omega),List.append_nil] at q0;exact q0
end
end
section
open Go.RowKit
theorem flatMap_at{α:Type}{f:α->List Value}{k:Nat}:∀{l:List α},(∀y∈l,(f y).length=k)->∀(i:Nat){y:α},l[i]?=some y->∀j,j<k->(l.flatMap f)[i*k+j]?=(f y)[j]?
 | [],_,_,_,hy,_,_=>by simp at hy
 | x::l,h,0,y,hy,j,hj=>by
   have e:x=y:=by simpa using hy
   subst e;rw[List.flatMap_cons,Nat.zero_mul,Nat.zero_add,List.getElem?_append_left (by rw[h x (List.mem_cons_self ..)];exact hj)]
 | x::l,h,i+1,y,hy,j,hj=>by
   rw[List.flatMap_cons,List.getElem?_append_right (by rw[h x (List.mem_cons_self ..),Nat.succ_mul];omega),h x (List.mem_cons_self ..),show (i+1)*k+j-k=i*k+j by rw[Nat.succ_mul];omega];exact flatMap_at (fun y hy=>h y (List.mem_cons_of_mem _ hy)) i (by simpa using hy) j hj
theorem rd_row{α:Type}{f:α->List Value}{s:Nat}{w:World}{v:Value}{l:List α}(hf:∀y∈l,(f y).length=s)(hs:0<s)(h:Rd w s v l.length (l.flatMap f)){k:Nat}{x:α}(hk:l[k]?=some x) :
 ∃g o cap,v=.slice (some ⟨g,o,none⟩) l.length cap/\∀j u,(f x)[j]?=some u->w.cell? ⟨g,o+k*s+j,none⟩=some u:=by
 obtain⟨h0,a,cap,rfl,h1,h2,h3,h4⟩:=h;have hlt:=(List.getElem?_eq_some_iff.1 hk).1;have hpos:0<l.length*s:=Nat.mul_pos (by omega) hs;obtain⟨g,o,rfl,hc⟩:=h4 (by rw[h0];exact hpos);refine⟨g,o,cap,rfl,fun j u hj=>?_⟩;have hj5:j<s:=by have:=(List.getElem?_eq_some_iff.1 hj).1;rwa [hf x (List.mem_of_getElem? hk)] at this
 have h5:=flatMap_at (f:=f) (k:=s) (l:=l) hf k hk j hj5;rw[hj] at h5;have:=hc (k*s+j) u h5
 rwa [←Nat.add_assoc] at this
theorem nCs_far{a:NAct}(h:a.Ok)(j:Nat):(nCs a)[41+j]?=(.slice a.ba a.bn a.bc::xCs a.x:List Value)[j]?:=by
 unfold nCs;rw[List.getElem?_append_right (by show 6≤_;omega),List.getElem?_append_right (by rw[h.len];show 35≤41+j-6;omega),h.len]
 congr 1
 show 41+j-6-35=j;omega
def xRow(l:List XAct):List Value:=l.flatMap xCs
def nRow(l:List NAct):List Value:=l.flatMap nCs
def NOk(l:List NAct):Prop:=∀a∈l,a.Ok
def BoolK(w:World)(e:Ending)(w':World):Prop:=(∃b,e=.returned (.bool b))/\aA aB w w'
def LongPost(w:World)(l:List NAct)(e:Ending)(w':World):Prop:=(∃b,e=.returned (.bool b)/\(b=false->l.length≤40/\∀a∈l,a.pn≤20/\a.bn≤300))/\aA aB w w'
theorem infoX:(Tryz.prog.info? 30).map (fun i=>(i.zero,i.size,i.bytes))=some (some (.agg (xCs ⟨0,0,0,0,0,none,0,0,none,0,0⟩).toArray),7,88):=by kernel_rfl
theorem szX:(Tryz.prog.info? 30).map (·.size)=some 7:=by kernel_rfl
theorem long15_any(w:World)(v:Value)(l:List XAct)(hr:Rd w 7 v l.length (xRow l)):Calls Tryz.prog 45 #[v] w (BoolK w):=by
 obtain⟨oa,ca,rfl,hlc,hcm⟩:=hr.form;have hlm:l.length≤maxLen:=by omega
 unfold maxLen at hlm;obtain⟨n,hn⟩:∃n,l.length=n:=⟨_,rfl⟩
 have HN:=H' hn;have HR:=H' hr;rw[hn] at HR hlm ⊢;clear hr hn hlc hcm;go_enter Tryz.func45,Tryz.ntmps45;go_wp2_with fail
 go_loopw [3] (fun t wr=>∃k:Nat,k≤n/\t=.int .i64 k/\wr=w) (fun t _=>n-(intOf t).toNat)
 case atStart=>exact⟨0,Nat.zero_le _,rfl,rfl⟩
 case round =>
 obtain⟨k,hk,rfl,rfl⟩:=hrel
 by_cases hlt:k<n
 ·have hki:(k:Int)<(n:Int):=by omega
  have hk0:(0:Int)≤(k:Int):=by omega
  by_cases h101:k<101
  ·have hj:(k:Int)<(101:Int):=by omega
   have d0:decide ((k:Int)<(101:Int))=true:=decide_eq_true hj;obtain⟨x,hx⟩:∃x,l[k]?=some x:=⟨l[k]'(by rw[HN.out];exact hlt),List.getElem?_eq_getElem _⟩
   have hr2:=HR.out;rw[←HN.out] at hr2;obtain⟨g,o,cap,hv,hc⟩:=rd_row (f:=xCs) (fun _ _=>rfl) (by omega) hr2 hx;rw[HN.out] at hv;have e1:oa=some ⟨g,o,none⟩:=by cases hv;rfl
   subst e1;have h5:=hc 5 _ rfl;have h6:=hc 6 _ rfl;clear hr2 hv hc hx;obtain⟨p,hp⟩:∃q,x.bn=q:=⟨_,rfl⟩
   obtain⟨q,hq⟩:∃q,x.kn=q:=⟨_,rfl⟩
   rw[hp] at h5;rw[hq] at h6;clear hp hq
   by_cases h3:300<p
   ·have hi:(300:Int)<(p:Int):=by omega
    have d1:decide ((300:Int)<(p:Int))=true:=decide_eq_true hi;go_wp2_with fail;go_ret;exact⟨⟨_,rfl⟩,aA.refl _ _⟩
   ·have hi:¬(300:Int)<(p:Int):=by omega
    have d1:decide ((300:Int)<(p:Int))=false:=decide_eq_false hi
    by_cases h4:200<q
    ·have hj2:(200:Int)<(q:Int):=by omega
     have d2:decide ((200:Int)<(q:Int))=true:=decide_eq_true hj2;go_wp2_with fail;go_ret;exact⟨⟨_,rfl⟩,aA.refl _ _⟩
    ·have hj2:¬(200:Int)<(q:Int):=by omega
     have d2:decide ((200:Int)<(q:Int))=false:=decide_eq_false hj2;go_wp2_with fail
     go_roundw
     case rel=>exact⟨k+1,by omega,by go_num,trivial⟩
     case measure=>simp[intOf];omega
  ·have hj:¬(k:Int)<(101:Int):=by omega
   have d0:decide ((k:Int)<(101:Int))=false:=decide_eq_false hj
   by_cases h60:100<n
   ·have hi:(100:Int)<(n:Int):=by omega
    have d1:decide ((100:Int)<(n:Int))=true:=decide_eq_true hi;go_wp2_with fail;go_ret;exact⟨⟨_,rfl⟩,aA.refl _ _⟩
   ·exact absurd hlt (by omega)
 ·obtain rfl:n=k:=by omega
  by_cases h60:100<n
  ·have hi:(100:Int)<(n:Int):=by omega
   have d1:decide ((100:Int)<(n:Int))=true:=decide_eq_true hi;go_wp2_with fail;go_ret;exact⟨⟨_,rfl⟩,aA.refl _ _⟩
  ·have hi:¬(100:Int)<(n:Int):=by omega
   have d1:decide ((100:Int)<(n:Int))=false:=decide_eq_false hi;go_wp2_with fail;go_ret;exact⟨⟨_,rfl⟩,aA.refl _ _⟩
theorem long19_any(w:World)(v:Value)(l:List NAct)(ho:NOk l)(hr:Rd w 49 v l.length (nRow l)):Calls Tryz.prog 11 #[v] w (LongPost w l):=by
 obtain⟨oa,ca,rfl,hlc,hcm⟩:=hr.form;have hlm:l.length≤maxLen:=by omega
 unfold maxLen at hlm;obtain⟨n,hn⟩:∃n,l.length=n:=⟨_,rfl⟩
 have HN:=H' hn;have HR:=H' hr;have HOK:=H' ho;rw[hn] at HR hlm ⊢;clear hr hn hlc hcm ho;go_enter Tryz.func11,Tryz.ntmps11;go_wp2_with fail
 go_loopw [3,4] (fun s t wr=>∃(k:Nat) (pa:Option Addr) (pc:Nat),k≤n/\k≤41/\s=.slice pa k pc/\t=.int .i64 k/\Hid (wr.ownsRow w.heap.size 30 7 (.slice pa k pc) k (xRow ((l.take k).map (·.x))))/\Hid (aA aB w wr)/\Hid (∀a∈l.take k,a.pn≤20/\a.bn≤300)) (fun _ t _=>n-(intOf t).toNat)
 case atStart=>exact⟨0,none,0,Nat.zero_le _,by omega,rfl,rfl,H' (World.ownsRow_nil _ _ _ _),H' (aA.refl _ _),H' (by simp)⟩
 case round =>
 obtain⟨k,pa,pc,hk,hk41,rfl,rfl,HO,HK,HS⟩:=hrel;have hsz:=HK.out.size
 by_cases hlt:k<n
 ·have hki:(k:Int)<(n:Int):=by omega
  have hk0:(0:Int)≤(k:Int):=by omega
  by_cases h41:k<41
  ·have hj:(k:Int)<(41:Int):=by omega
   have d0:decide ((k:Int)<(41:Int))=true:=decide_eq_true hj;obtain⟨x,hx⟩:∃x,l[k]?=some x:=⟨l[k]'(by rw[HN.out];exact hlt),List.getElem?_eq_getElem _⟩
   have hxo:=HOK.out x (List.mem_of_getElem? hx);have hr2:=HR.out;rw[←HN.out] at hr2;obtain⟨g,o,cap,hv,hc⟩:=rd_row (f:=nCs) (fun y hy=>nCs_len (HOK.out y hy)) (by omega) (hr2.keep HK.out fun _ _=>id) hx;rw[HN.out] at hv;have e1:oa=some ⟨g,o,none⟩:=by cases hv;rfl
   subst e1;have h6:=hc 6 (.slice x.pa x.pn x.pc) rfl;have h7:=hc 41 (.slice x.ba x.bn x.bc) (nCs_far hxo 0)
   have h8:wr.rangeAt g (o+k*49+42) (xCs x.x):=fun j u hj=>by
    have:=hc (41+(j+1)) u (by rw[nCs_far hxo (j+1)];exact hj)
    rwa [show o+k*49+(41+(j+1))=o+k*49+42+j by omega] at this
   have HXR:=H' h8;have HX:=H' hx;clear hr2 hv hc hx h8 hxo;obtain⟨p,hp⟩:∃q,x.pn=q:=⟨_,rfl⟩
   obtain⟨q,hq⟩:∃q,x.bn=q:=⟨_,rfl⟩
   rw[hp] at h6;rw[hq] at h7;have HP:=H' hp;have HQ:=H' hq;clear hp hq
   by_cases h3:20<p
   ·have hi:(20:Int)<(p:Int):=by omega
    have d1:decide ((20:Int)<(p:Int))=true:=decide_eq_true hi;go_wp2_with fail;go_ret;exact⟨⟨_,rfl,fun h=>by cases h⟩,HK.out⟩
   ·have hi:¬(20:Int)<(p:Int):=by omega
    have d1:decide ((20:Int)<(p:Int))=false:=decide_eq_false hi
    by_cases h4:300<q
    ·have hj2:(300:Int)<(q:Int):=by omega
     have d2:decide ((300:Int)<(q:Int))=true:=decide_eq_true hj2;go_wp2_with fail;go_ret;exact⟨⟨_,rfl,fun h=>by cases h⟩,HK.out⟩
    ·have hj2:¬(300:Int)<(q:Int):=by omega
     have d2:decide ((300:Int)<(q:Int))=false:=decide_eq_false hj2;have HOX:Hid (∀u∈xCs x.x,u.oneCell'=true):=H' (xCs_one x.x);obtain⟨we,hwe,hke,hbe,-⟩:=aW wr (xCs x.x).toArray 30;obtain⟨bx,hbx⟩:∃x,wr.heap.size=x:=⟨_,rfl⟩
     rw[hbx] at hbe;have HRN:Hid (Rd we 7 (.slice (some ⟨bx,0,none⟩) 1 1) 1 (xCs x.x)):=H' (dI (n:=1) (size:=7) hbe rfl (by unfold maxLen;omega));have HO_:=H' (hke.owns HO.out fun _ _=>id);have hsz_:=hke.size;have HKE:=H' hke;clear hbe hke
     go_wp2_with (first
      | ((with_reducible show WL (some 37) (.load _ _));refine wpList_load_mid rfl 30 (.tmp 36) rfl g (o+k*49+42) rfl (xCs x.x) _ HXR.out zuX9 rfl (by exact szX) ?_)
      | ((with_reducible show WL _ (.buildSlice _ 1 _));refine bQ rfl 109 30 (.tmp 37) rfl Tryz.underlying109 infoX (by decide) (xCs x.x) rfl (by decide) rfl ?_;rw[hwe,hbx])
      | (at_builtin;refine aP rfl (.tmp 32) (.tmp 38) 109 rfl w.heap.size 30 (.agg (xCs ⟨0,0,0,0,0,none,0,0,none,0,0⟩).toArray) 7 88 Tryz.underlying109 infoX rfl (by decide) (.slice pa k pc) k (xRow ((l.take k).map (·.x))) rfl HO_.out (.slice (some ⟨bx,0,none⟩) 1 1) 1 (xCs x.x) rfl HRN.out HOX.out (by unfold maxLen;omega) (by omega) (by omega) ?_))
     intro v2 w8 ho5 hk5 hn5 hb5;obtain⟨gq,cq,rfl⟩:=ownsRow_succ ho5;have HO5:=H' ho5;have HK5:Hid (aA aB w w8):=H' ((HK.out.trans HKE.out).trans' hk5 (fun _ _ h=>h) fun i hi e=>absurd (bE HO_.out e) (by omega));clear hwe hbx hn5 HRN HO_ ho5 hk5 hb5 HKE hsz_;go_wp2_with fail
     go_roundw
     case rel=>exact⟨k+1,some ⟨gq,0,none⟩,cq,by omega,by omega,by rfl,by go_num,by rw[List.take_add_one,HX.out,List.map_append];unfold xRow;rw[List.flatMap_append];show Hid (World.ownsRow _ _ _ _ _ _ (_++(xCs x.x++[])));rw[List.append_nil,List.map_take];exact HO5,HK5,H' (fun a ha=>by
      rw[List.take_add_one,HX.out] at ha;rcases List.mem_append.1 ha with ha|ha
      ·exact HS.out a ha
      ·cases List.mem_singleton.1 ha
       rw[HP.out,HQ.out];omega)⟩
     case measure=>simp[intOf];omega
  ·have hj:¬(k:Int)<(41:Int):=by omega
   have d0:decide ((k:Int)<(41:Int))=false:=decide_eq_false hj;have hi:(40:Int)<(n:Int):=by omega
   have d1:decide ((40:Int)<(n:Int))=true:=decide_eq_true hi;go_wp2_with fail;go_ret;exact⟨⟨_,rfl,fun h=>by cases h⟩,HK.out⟩
 ·obtain rfl:n=k:=by omega
  have HS2:Hid (∀a∈l,a.pn≤20/\a.bn≤300):=H' (by have:=HS.out;rwa [List.take_of_length_le (by rw[HN.out];exact Nat.le_refl _)] at this)
  by_cases h60:40<n
  ·have hi:(40:Int)<(n:Int):=by omega
   have d1:decide ((40:Int)<(n:Int))=true:=decide_eq_true hi;go_wp2_with fail;go_ret;exact⟨⟨_,rfl,fun h=>by cases h⟩,HK.out⟩
  ·have hi:¬(40:Int)<(n:Int):=by omega
   have d1:decide ((40:Int)<(n:Int))=false:=decide_eq_false hi
   have HC:Hid (Calls Tryz.prog 45 #[.slice pa n pc] wr (BoolK wr)):=H' (long15_any wr _ (l.map (·.x)) (by
    have h:=Rd.of_owns HO.out;rw[List.take_of_length_le (by rw[HN.out];exact Nat.le_refl _)] at h
    rwa [List.length_map,HN.out]))
   clear HO HS;go_wp2_with fail;refine HC.out.mono ?_;rintro e w2 ⟨⟨b,rfl⟩,hk2⟩;have HK2:=H' (HK.out.trans hk2);clear hk2 HC HK;go_wp2_with fail;go_ret;exact⟨⟨b,rfl,fun _=>⟨by rw[HN.out];omega,HS2.out⟩⟩,HK2.out⟩
end
section
open Go.RowKit Go.Maps Go.ChangeMaps
theorem bs2{P:Program}{w:World}{ops:Array Oper}{rest:List Oper}{o:Oper}{a:Act}{Q:Exit->Act->World->Prop}(t e:TypeId)(x y:Operand)(u v:Value)(hsz:(P.info? e).map (·.size)=some 1)(hz:((P.info? e).bind (·.zero)).isSome=true)(hu:P.underlying t=some (.slice e))(h1:u.cells=#[u])(h2:v.cells=#[v])
 (h:∀b w',w.heap.size=b->aA aB w w'->w'.heap[b]?=some (.cells #[u,v] e (0,0))->wpList P ops Q rest (a.put o.dst (.slice (some ⟨b,0,none⟩) 2 2)) w') (hx:a.eval x=u:=by rfl) (hy:a.eval y=v:=by rfl) (hg:o.guard=none:=by rfl) (ho:o.op=.buildSlice t 2 #[(0,x),(1,y)]:=by rfl):wpList P ops Q (o::rest) a w:=by
 cases hie:P.info? e with
 | none=>simp[hie] at hsz
 | some ie =>
   simp only[hie,Option.map_some,Option.some.injEq,Option.bind_some] at hsz hz;obtain⟨z,hzz⟩:=Option.isSome_iff_exists.1 hz;refine wpList_buildSlice hg t e 2 _ ho #[u,v] ie z hu hie hzz (by rw[hsz];omega) (by rw[hsz];omega) ?_ (h _ _ rfl ((aA.refl _ _).alloc _) (heap_alloc_new _ _));rw[hsz];have e1:((#[((0:Nat),x),(1,y)]:Array (Nat×Operand)).map fun(i,x)=>(i,a.eval x)).toList=([u,v].zipIdx 0).map fun x=>(x.2,x.1):=by simp[hx,hy]
   rw[e1];exact Great.fill_flat [u,v] _ (fun q hq=>by rcases List.mem_cons.1 hq with rfl|hq;exact h1;rcases List.mem_singleton.1 hq with rfl;exact h2) (by simp)
def zcCore:List Value:=.pointer none::.pointer none::(eM.map vb++(.int .i64 0::.slice none 0 0::.pointer none::.slice none 0 0::.slice none 0 0::lJ 0))
theorem buildCore0(w:World):(Instr.build tP #[]).run Tryz.prog w=.ok (.agg zcCore.toArray) w:=by kernel_rfl
theorem infoN:(Tryz.prog.info? 32).map (fun i=>(i.zero,i.size,i.bytes))=some (some (.agg (nCs ⟨0,0,0,0,0,false,none,0,0,.int .i64 0::.int .i64 0::eM.map vb,none,0,0,⟨0,0,0,0,0,none,0,0,none,0,0⟩⟩).toArray),49,232):=by kernel_rfl
theorem szAct:(Tryz.prog.info? 32).map (·.size)=some 49:=by kernel_rfl
theorem rangeAt_sub{w:World}{b o:Nat}{cs ps:List Value}{t:TypeId}{fr:Nat×Nat}(hb:w.heap[b]?=some (.cells cs.toArray t fr))(h:∀j u,ps[j]?=some u->cs.toArray[o+j]?=some u):w.rangeAt b o ps:=fun j u hj=>aD hb (h j u hj)
theorem treeNone_walk(a:NAct)(ha:a.Ok)(w:World):Calls Tryz.prog 3 #[.agg (nCs a).toArray] w (A4 w):=by
 have h6:∀j u,a.p[j]?=some u->(nCs a).toArray[6+j]?=some u:=fun j u hj=>by
  have hl:j<a.p.length:=(List.getElem?_eq_some_iff.1 hj).1;rw[List.getElem?_toArray];unfold nCs;rw[List.getElem?_append_right (by show 6≤_;omega),List.getElem?_append_left (by show 6+j-6<_;omega),show 6+j-(nHead a).length=j by show 6+j-6=j;omega];exact hj
 have h41:(nCs a).toArray[41]?=some (.slice a.ba a.bn a.bc):=by rw[List.getElem?_toArray];exact nCs_far ha 0
 have h1:(nCs a).toArray[1]?=some (.int .i64 a.n):=rfl;have h2:(nCs a).toArray[2]?=some (.int .i64 a.fr):=rfl;have hnc:=nCs_len ha;have hno:=nCs_one ha;have hpc:=ha.len;have hpo:=ha.one;have hcl:nRow [a]=nCs a:=by show nCs a++[]=_;exact List.append_nil _
 have HAL:Hid (NOk [a]):=H' (fun y hy=>by cases List.mem_singleton.1 hy;exact ha);obtain⟨pc,hpe⟩:∃x,a.p=x:=⟨_,rfl⟩
 obtain⟨nc,hne⟩:∃x,nCs a=x:=⟨_,rfl⟩
 obtain⟨n,hn⟩:∃x,a.n=x:=⟨_,rfl⟩
 obtain⟨fr,hf⟩:∃x,a.fr=x:=⟨_,rfl⟩
 obtain⟨ba,hba⟩:∃x,a.ba=x:=⟨_,rfl⟩
 obtain⟨bn,hbn⟩:∃x,a.bn=x:=⟨_,rfl⟩
 obtain⟨bc,hbc⟩:∃x,a.bc=x:=⟨_,rfl⟩
 rw[hpe,hne] at h6;rw[hne,hba,hbn,hbc] at h41;rw[hne,hn] at h1;rw[hne,hf] at h2;rw[hne] at hnc hno hcl ⊢;rw[hpe] at hpc hpo;have H6:=H' h6;have H41:=H' h41;have H1:=H' h1;have H2:=H' h2;have HON:=H' hno;have HOP:=H' hpo;have HCL:=H' hcl;clear ha hpe hne hn hf hba hbn hbc h6 h41 h1 h2 hno hpo hcl;obtain⟨zc,hzce⟩:∃x,zcCore=x:=⟨_,rfl⟩
 have HZB2:Hid (∀w,(Instr.build tP #[]).run Tryz.prog w=.ok (.agg zc.toArray) w):=H' (by rw[←hzce];exact buildCore0);have hzc:zc.length=109:=by rw[←hzce];rfl
 have HZ0:Hid (zc.toArray[0]?=some (.pointer none)):=H' (by rw[←hzce];rfl);have HOZC:Hid (∀u∈zc,u.oneCell'=true):=H' (by rw[←hzce];exact of_decide_eq_true (by kernel_rfl));clear hzce;have hzp:(aK (.slice none 0 0) zPt).length=35:=rfl;have hzb:=gG;obtain⟨zp,hzpe⟩:∃l,aK (.slice none 0 0) zPt=l:=⟨_,rfl⟩
 have HOZP:Hid (∀u∈zp,u.oneCell'=true):=H' (by rw[←hzpe];exact bT zPt);have HZPE:=H' hzpe;rw[hzpe] at hzp hzb;have HZB:=H' hzb;clear hzpe hzb;have HL:=H' (Loc.nil aB aB w);go_enter Tryz.func3,Tryz.ntmps3
 go_wp2_with (first
  | ((with_reducible show WL (some 1) (.box 32 _));refine bx 32 (.tmp 0) (nc.toArray) ?_))
 intro b1 w1 hbs hk hb;replace HL:=H' (HL.out.new (fun _ h=>h.elim) hbs hk hb);clear hbs hk hb
 go_wp2_with (first
  | ((with_reducible show WL (some 16) (.load 32 _));refine wpList_load_mid rfl 32 (.tmp 1) rfl b1 0 rfl nc _ (aC (HL.out.b 0)) uN rfl (by rw[hnc];exact szAct) ?_)
  | ((with_reducible show WL (some 17) (.buildSlice _ _ _));refine bsA 34 32 (.tmp 16) Tryz.underlying34 infoN (by omega) (nc) hnc (by omega) ?_))
 intro b17 w2 hbs hk hb;replace HL:=H' (HL.out.new (fun _ h=>h.elim) hbs hk hb);have HRD:=H' (show Rd w2 49 (.slice (some ⟨b17,0,none⟩) 1 1) 1 (nRow [a]) from by rw[HCL.out];exact dI (n:=1) (size:=49) hb hnc (by unfold maxLen;omega));clear hbs hk hb;go_wp2_with fail;refine((long19_any w2 (.slice (some ⟨b17,0,none⟩) 1 1) [a] HAL.out HRD.out)).mono ?_;rintro e w3 ⟨⟨bb,rfl,-⟩,hk⟩;replace HL:=H' (HL.out.keeps hk);clear hk;clear HRD HAL HCL;cases bb with
 | true =>
   go_wp2_with fail;refine((C8 w3)).mono ?_;rintro e w4 ⟨rfl,hk⟩;replace HL:=H' (HL.out.keeps hk);clear hk;go_wp2_with fail;go_ret;exact⟨rfl,HL.out.keep⟩
 | false =>
   go_wp2_with (first
    | ((with_reducible show WL (some 20) (.build _ _));refine bld tP #[] [] (.agg zc.toArray) HZB2.out ?_)
    | ((with_reducible show WL (some 21) (.box 44 _));refine bx 44 (.tmp 20) (zc.toArray) ?_))
   intro b21 w5 hbs hk hb;replace HL:=H' (HL.out.new (fun _ h=>h.elim) hbs hk hb);clear hbs hk hb
   go_wp2_with (first
    | ((with_reducible show WL (some 22) (.buildSlice _ _ _));refine bs2 45 36 (.const (.pointer none)) (.tmp 21) (.pointer none) (.pointer (some ⟨b21,0,none⟩)) (by kernel_rfl) (by kernel_rfl) Tryz.underlying45 rfl rfl ?_))
   intro b22 w6 hbs hk hb;replace HL:=H' (HL.out.new (fun _ h=>h.elim) hbs hk hb);clear hbs hk hb;go_wp2_with fail
   go_loopw [4] (fun i wr=>∃k:Nat,k≤2/\i=.int .i64 (k:Int)/\Hid (Loc aB aB w wr [(b22,#[.pointer none,.pointer (some ⟨b21,0,none⟩)],36),(b21,zc.toArray,44),(b17,nc.toArray,32),(b1,nc.toArray,32)])) (fun i _=>2-(intOf i).toNat)
   case atStart=>exact⟨0,by omega,rfl,HL⟩
   case round =>
   clear HL;obtain⟨k,hk,rfl,HL⟩:=hrel
   by_cases hlt:k<2
   ·have hki:(k:Int)<2:=by omega
    have hk0:(0:Int)≤(k:Int):=by omega
    obtain⟨cv,hcv,hN⟩:∃cv,wr.cell? ⟨b22,k,none⟩=some cv/\NoCore wr cv:=by
     have hc:k=0\/k=1:=by omega
     rcases hc with rfl|rfl
     ·exact⟨_,aD (HL.out.b 0) rfl,.inl rfl⟩
     ·exact⟨_,aD (HL.out.b 0) rfl,.inr ⟨_,_,rfl,HL.out.b 1,HZ0.out⟩⟩
    have HN:=H' hN;have HO1:=H' hN.one;clear hN;have c1:wr.cell? ⟨b1,1,none⟩=some (.int .i64 n):=(aD (i:=1) (HL.out.b 3) H1.out)
    go_wp2_with (first
     | ((with_reducible show WL (some 36) (.load 26 _));refine wpList_load_mid rfl 26 (.tmp 35) rfl b1 6 rfl pc _ (rangeAt_sub (HL.out.b 3) H6.out) aJ rfl (by rw[hpc];exact aE) ?_))
    clear c1;refine((tget_nil HN.out hpc HOP.out n)).mono ?_;rintro e w7 ⟨rfl,hk⟩;replace HL:=H' (HL.out.keeps hk);replace HN:=H' (NoCore.keep0 HN.out hk);clear hk;have c1:w7.cell? ⟨b1,1,none⟩=some (.int .i64 n):=(aD (i:=1) (HL.out.b 3) H1.out)
    have c2:w7.cell? ⟨b1,41,none⟩=some (.slice ba bn bc):=(aD (i:=41) (HL.out.b 3) H41.out)
    go_wp2_with (first
     | ((with_reducible show WL (some 45) (.load 26 _));refine wpList_load_mid rfl 26 (.tmp 44) rfl b1 6 rfl pc _ (rangeAt_sub (HL.out.b 3) H6.out) aJ rfl (by rw[hpc];exact aE) ?_))
    clear c1 c2;refine((by have h:=tset_none HN.out hpc HOP.out n ba bn bc;rw[HZPE.out] at h;exact h:Calls _ _ _ w7 (aM w7 (.tuple #[.agg zp.toArray,.int .i64 1])))).mono ?_;rintro e w8 ⟨rfl,hk⟩;replace HL:=H' (HL.out.keeps hk);replace HN:=H' (NoCore.keep0 HN.out hk);clear hk
    go_wp2_with (first
     | ((with_reducible show WL (some 8) (.alloc 26));refine al 26 (.agg aI.toArray) (aI.toArray) aX ?_))
    intro b8 w9 hbs hk0 hb0_
    go_wp2_with (first
     | ((with_reducible show WL _ (.store 26 (.tmp 8) (.tmp 51)));refine sta 26 (.tmp 8) (.tmp 51) b8 0 zp hb0_ (by first|decide|(rw[List.size_toArray,hzp];exact Nat.le_refl _)|simp[hzp,aF]) (by rw[hzp];exact aE) HOZP.out ?_))
    intro wa hk hb;rw[aL _ _ (by first|rfl|(rw[List.size_toArray,hzp];rfl)|simp[hzp,aF])] at hb;replace hk:=hk0.trans' hk (U:=aB) (fun _ _ h=>h) (fun i hi e=>by omega);replace HL:=H' (HL.out.new (fun _ h=>h.elim) hbs hk hb);replace HN:=H' (NoCore.keep0 HN.out hk);clear hbs hk hb hk0 hb0_;have c1:wa.cell? ⟨b1,2,none⟩=some (.int .i64 fr):=(aD (i:=2) (HL.out.b 4) H2.out)
    have c2:wa.cell? ⟨b1,1,none⟩=some (.int .i64 n):=(aD (i:=1) (HL.out.b 4) H1.out)
    go_wp2_with (first
     | ((with_reducible show WL (some 56) (.load 26 _));refine wpList_load_mid rfl 26 (.tmp 55) rfl b1 6 rfl pc _ (rangeAt_sub (HL.out.b 4) H6.out) aJ rfl (by rw[hpc];exact aE) ?_))
    clear c1 c2;refine((by have h:=tcut_none HN.out hpc HOP.out fr n;rw[HZPE.out] at h;exact h:Calls _ _ _ wa (aM wa (.tuple #[.agg zp.toArray,.int .i64 1])))).mono ?_;rintro e wb ⟨rfl,hk⟩;replace HL:=H' (HL.out.keeps hk);replace HN:=H' (NoCore.keep0 HN.out hk);clear hk
    go_wp2_with (first
     | ((with_reducible show WL (some 10) (.alloc 26));refine al 26 (.agg aI.toArray) (aI.toArray) aX ?_))
    intro b10 wc hbs hk0 hb0_
    go_wp2_with (first
     | ((with_reducible show WL _ (.store 26 (.tmp 10) (.tmp 62)));refine sta 26 (.tmp 10) (.tmp 62) b10 0 zp hb0_ (by first|decide|(rw[List.size_toArray,hzp];exact Nat.le_refl _)|simp[hzp,aF]) (by rw[hzp];exact aE) HOZP.out ?_))
    intro wd hk hb;rw[aL _ _ (by first|rfl|(rw[List.size_toArray,hzp];rfl)|simp[hzp,aF])] at hb;replace hk:=hk0.trans' hk (U:=aB) (fun _ _ h=>h) (fun i hi e=>by omega);replace HL:=H' (HL.out.new (fun _ h=>h.elim) hbs hk hb);replace HN:=H' (NoCore.keep0 HN.out hk);clear hbs hk hb hk0 hb0_
    go_wp2_with (first
     | ((with_reducible show WL (some 67) (.load 26 _));refine wpList_load_mid rfl 26 (.tmp 66) rfl b1 6 rfl pc _ (rangeAt_sub (HL.out.b 5) H6.out) aJ rfl (by rw[hpc];exact aE) ?_))
    refine((tall_nil HN.out hpc HOP.out)).mono ?_;rintro e we ⟨rfl,hk⟩;replace HL:=H' (HL.out.keeps hk);replace HN:=H' (NoCore.keep0 HN.out hk);clear hk
    go_wp2_with (first
     | ((with_reducible show WL (some 74) (.load 26 _));refine wpList_load_mid rfl 26 (.tmp 73) rfl b1 6 rfl pc _ (rangeAt_sub (HL.out.b 5) H6.out) aJ rfl (by rw[hpc];exact aE) ?_))
    refine((tmany_nil HN.out hpc HOP.out)).mono ?_;rintro e wf ⟨rfl,hk⟩;replace HL:=H' (HL.out.keeps hk);replace HN:=H' (NoCore.keep0 HN.out hk);clear hk
    go_wp2_with (first
     | ((with_reducible show WL (some 106) (.load 26 _));refine wpList_load_mid rfl 26 (.tmp 8) rfl b8 0 rfl zp _ (aC (HL.out.b 1)) aJ rfl (by rw[hzp];exact aE) ?_)
     | ((with_reducible show WL (some 107) (.build _ _));refine bld 26 #[] [] (.agg zp.toArray) HZB.out ?_)
     | ((with_reducible show WL (some 112) (.build _ _));refine bld 26 #[] [] (.agg zp.toArray) HZB.out ?_))
    refine((by rw[←HZPE.out];exact kitPt_any wf (.slice none 0 0) (.slice none 0 0) zPt zPt (vQ _) (vQ _):Calls _ _ _ wf (aZ wf (zPt.eqB zPt)))).mono ?_;rintro e wg ⟨rfl,hk⟩;replace HL:=H' (HL.out.keeps hk);replace HN:=H' (NoCore.keep0 HN.out hk);clear hk;rw[oL]
    go_wp2_with (first
     | ((with_reducible show WL (some 111) (.load 26 _));refine aT (by rfl) 26 (.tmp 10) rfl b10 0 rfl zp _ (aC (HL.out.b 0)) aJ rfl (by rw[hzp];exact aE) ?_)
     | ((with_reducible show WL (some 107) (.build _ _));refine bld 26 #[] [] (.agg zp.toArray) HZB.out ?_)
     | ((with_reducible show WL (some 112) (.build _ _));refine bld 26 #[] [] (.agg zp.toArray) HZB.out ?_))
    refine((by rw[←HZPE.out];exact kitPt_any wg (.slice none 0 0) (.slice none 0 0) zPt zPt (vQ _) (vQ _):Calls _ _ _ wg (aZ wg (zPt.eqB zPt)))).mono ?_;rintro e wh ⟨rfl,hk⟩;replace HL:=H' (HL.out.keeps hk);replace HN:=H' (NoCore.keep0 HN.out hk);clear hk;rw[oL];go_wp2_with fail
    go_roundw
    case rel=>exact⟨k+1,by omega,by go_num,H' HL.out.tail.tail⟩
    case measure=>simp[intOf];omega
   ·obtain rfl:k=2:=by omega
    go_wp2_with fail;refine((C8 wr)).mono ?_;rintro e wi ⟨rfl,hk⟩;replace HL:=H' (HL.out.keeps hk);clear hk;go_wp2_with fail;go_ret;exact⟨rfl,HL.out.keep⟩
end
section
open Go.ChangeShapes Go.WideShapes Go.ChangeAt Go.RowKit
theorem treeNone_lifted(os:Os)(started:os.Started)(H:Type)(enc:TypeId×Value->H) :
 ReturnsInHanded {} Tryz.checked os 3 .any (Rows.treeNoneSpec.pre6 enc Tryz.prog Tryz.f3 Rows.treeNoneRow.domain false) (Rows.treeNoneSpec.post enc Tryz.prog Tryz.f3 false true false false):=by
 refine returnsInHanded_of_change (C:=Tryz.checked) own started (by kernel_rfl) Tryz.func3
  (ChangeSpec.witness6 (enc:=enc) (C:=Tryz.checked) false ⟨#[],#[.agg (#[.int .i64 0,.int .i64 0,.int .i64 0,.int .i64 0,.int .i64 0,.bool false,.slice none 0 0,.int .i64 0,.int .i64 0]++Array.replicate 32 (.int .u8 0)++#[.slice none 0 0,.int .i64 0,.int .i64 0,.int .i64 0,.int .i64 0,.int .u8 0,.slice none 0 0,.slice none 0 0])],[]⟩ 64 (by kernel_rfl) (by kernel_rfl) (by kernel_rfl) (by kernel_rfl)) ?_
 intro W base args ds gs before hval0 hW hcnd _;have hval:∀(j:Nat) t v,Tryz.f3.params[j]?=some t->args[j]?=some v->Value.okWide Tryz.prog W .any base t v:=hval0;have hW':=hW;obtain⟨p,q,hA0,hV,rfl,hfz,hnd⟩:=hW;have hA:DataW.TrodAll enc Tryz.prog W 0 (fun _=>true) true Tryz.f3.params.toList args.toList ds p:=hA0;rw[Tryz.params3] at hA hval;obtain⟨v0,vs0,d0,ds0,p0,q0,hargs0,rfl,rfl,h0,r0⟩:=trodAll_cons hA;obtain⟨hv0,rfl,rfl⟩:=trodAll_nil r0;obtain rfl:args=#[v0]:=by apply Array.toList_inj.1;rw[hargs0];simp only[hv0]
 clear hargs0  hv0;obtain⟨rfl,rfl⟩:=trodVars_none hV;obtain⟨cs0,rfl,hcs0⟩:=okWide_struct uN (hval 0 32 v0 rfl rfl);have k0:=h0;have lt0:∀x∈p0,x.block<W.heap.size:=by obtain⟨m,hm⟩:=k0;exact DataW.trod_lt m _ _ _ hm
 clear hA0 hval0 hval
 obtain⟨A0,hA0,hAc0⟩:∃A:NAct,A.Ok/\cs0=(nCs A).toArray:=by
  obtain⟨fuel,hf⟩:=h0;obtain⟨A,hA,hc⟩:=nact_of hf;exact⟨A,hA,by apply Array.toList_inj.1;simpa [Value.cells] using hc⟩
 subst hAc0;refine(treeNone_walk A0 hA0 W).mono fun e W' ⟨he,hk⟩=>?_
 subst he;have bel:=hk.below;exact⟨_,rfl,_,_,_,[],_,[],hW',trodAll_mk1 (shut_bool Tryz.underlying4 _),(trodAll_cons_mk (Below.trod laidOut (by kernel_rfl) (of_decide_eq_true (by kernel_rfl)) k0 bel lt0) trodAll_mk0),rfl,bel.frame _,fun h=>by cases h⟩
theorem cK{a b:Bool}(h:a=true)(k:b=true):(a && b)=true:=by rw[h,k];rfl
theorem cl0:(Rows.treeNoneRow.wf (OpenSpec.ofChange Rows.treeNoneSpec))=true:=by kernel_rfl
theorem cl1:(laidOutB Tryz.pinned.checked.prog)=true:=by kernel_rfl
theorem cl2:(mapsRowed Tryz.pinned.checked.prog)=true:=by kernel_rfl
theorem cl3:(Tryz.f3.params.all (Tryz.pinned.checked.prog.readableRec ·))=true:=by kernel_rfl
theorem cl4:(namedTie Tryz.pinned.checked.prog Rows.treeNoneRow.named Rows.treeNoneSpec.vars)=true:=by kernel_rfl
theorem cl5:(Rows.treeNoneRow.stops == [])=true:=by kernel_rfl
theorem cl6:(Tryz.pinned.checked.prog.stops == [])=true:=by kernel_rfl
theorem cl7:(Rows.treeNoneRow.knobs == [])=true:=by kernel_rfl
theorem cl8:(Tryz.pinned.checked.prog.stopKnobs == [])=true:=by kernel_rfl
theorem cl9:(Rows.treeNoneRow.inPlace == Tryz.pinned.checked.prog.inPlace 3)=true:=by kernel_rfl
theorem LL:(Rows.treeNoneRow.unfollowed == Tryz.pinned.checked.prog.unfollowed 3)=true:=by kernel_rfl
theorem LM:(Rows.treeNoneRow.recurses == Tryz.pinned.checked.prog.recurses 3)=true:=by kernel_rfl
theorem LN:(Rows.treeNoneRow.named == Tryz.pinned.checked.prog.varsNamed 3)=true:=by kernel_rfl
theorem LO:(Rows.treeNoneRow.maps == (Tryz.f3.params.toList++Rows.treeNoneSpec.plain.varTypes Tryz.pinned.checked.prog).any (Tryz.pinned.checked.prog.mapsRec ·))=true:=by kernel_rfl
theorem LP:(Rows.treeNoneRow.ifaces == (Tryz.f3.params.toList++Rows.treeNoneSpec.plain.varTypes Tryz.pinned.checked.prog).any (Tryz.pinned.checked.prog.ifacesRec ·))=true:=by kernel_rfl
theorem LQ:(Rows.treeNoneRow.mapsOut == Tryz.pinned.checked.prog.mapsAmong Tryz.f3.resultTypes.toList)=true:=by kernel_rfl
theorem LR:(Rows.treeNoneRow.loops == (Tryz.f3.params.toList++Rows.treeNoneSpec.plain.varTypes Tryz.pinned.checked.prog).any (Tryz.pinned.checked.prog.loopsFrom ·))=true:=by kernel_rfl
theorem LS:(Rows.treeNoneRow.wideKeys == ((Tryz.f3.params.toList++Rows.treeNoneSpec.plain.varTypes Tryz.pinned.checked.prog)++Tryz.f3.resultTypes.toList).any (Tryz.pinned.checked.prog.wideKeysFrom ·))=true:=by kernel_rfl
theorem LT:(Rows.treeNoneSpec.vars.all (Tryz.pinned.checked.prog.varReadable ·))=true:=by kernel_rfl
theorem LU:(Tryz.f3.resultTypes.all (fun t=>Tryz.pinned.checked.prog.readableRec t && decide (t<Tryz.pinned.checked.prog.types.size)))=true:=by kernel_rfl
theorem LV:(Rows.treeNoneRow.ifacesOut == Tryz.f3.resultTypes.toList.any (Tryz.pinned.checked.prog.ifacesRec ·))=true:=by kernel_rfl
theorem LW:(Rows.treeNoneRow.loopsOut == Tryz.f3.resultTypes.toList.any (Tryz.pinned.checked.prog.loopsFrom ·))=true:=by kernel_rfl
theorem LX:(Rows.treeNoneRow.plainKeys == Tryz.pinned.checked.prog.plainKeys)=true:=by kernel_rfl
theorem LY:(Rows.treeNoneRow.shortTexts.isNone)=true:=by kernel_rfl
theorem LZ:(Tryz.pinned.checked.prog.stopsHeard)=true:=by kernel_rfl
theorem L0:(Tryz.pinned.checked.prog.mayEnter)=true:=by kernel_rfl
theorem L1:(Rows.treeNoneRow.lifted == Tryz.pinned.checked.prog.liftsFinal)=true:=by kernel_rfl
theorem L2:(Tryz.pinned.checked.prog.make == some Rows.treeNoneRow.make)=true:=by kernel_rfl
theorem L3:(Rows.treeNoneRow.kinds == (if Rows.treeNoneRow.domain.isEmpty then [] else Tryz.f3.params.toList.map fun t=>match Tryz.pinned.checked.prog.underlying t with|some (.int k)=>some k|_=>none))=true:=by kernel_rfl
theorem L4:(Rows.treeNoneRow.pinned == Rows.treeNoneRow.pinnedBy)=true:=by kernel_rfl
theorem L5:(Rows.treeNoneRow.veiled == ((Tryz.f3.params.toList++Rows.treeNoneSpec.plain.varTypes Tryz.pinned.checked.prog)++Tryz.f3.resultTypes.toList).any (Tryz.pinned.checked.prog.veiledRec ·))=true:=by kernel_rfl
theorem L6:(Rows.treeNoneRow.veiledFits Tryz.pinned.checked.prog Tryz.f3.params.toList ((Tryz.f3.params.toList++Rows.treeNoneSpec.plain.varTypes Tryz.pinned.checked.prog)++Tryz.f3.resultTypes.toList))=true:=by kernel_rfl
theorem treeNone_closed:joinedFacts Tryz.pinned.checked.prog 3 Tryz.f3 Rows.treeNoneSpec Rows.treeNoneRow=true:=by
 unfold joinedFacts;exact(cK (cK (cK (cK (cK (cK (cK (cK (cK (cK (cK (cK (cK (cK (cK (cK (cK (cK (cK (cK (cK (cK (cK (cK (cK (cK (cK (cK (cK (cK (cK cl0 cl1) cl2) cl3) cl4) cl5) cl6) cl7) cl8) cl9) LL) LM) LN) LO) LP) LQ) LR) LS) LT) LU) LV) LW) LX) LY) LZ) L0) L1) L2) L3) L4) L5) L6)
theorem treeNone_wrap:Tryz.f3.isWrapper Tryz.pinned.checked.prog Rows.treeNoneRow.wrapper Rows.treeNoneRow.mainSum:=by unfold Func.isWrapper;first|(rw[if_pos (by decide +kernel)];kernel_rfl)|(rw[if_neg (by decide +kernel)];exact⟨rfl,rfl⟩)
theorem treeNone_named:Tryz.pinned.checked.prog.funcNamed Rows.treeNoneRow.func=some 3:=by kernel_rfl
theorem treeNone_proved:Rows.TreeNoneSaid:=
 OpenClaim.holds_of_wide 3 Tryz.f3 rfl rfl rfl rfl rfl rfl rfl ⟨rfl,rfl,rfl,rfl,rfl⟩ rfl rfl rfl rfl rfl treeNone_named Tryz.func3 treeNone_closed (of_decide_eq_true (by kernel_rfl)) treeNone_wrap
  (fun os started H enc _=>treeNone_lifted os started H enc)
end
end Go.Proofs.YtjkbekifgobeaaaGreat
