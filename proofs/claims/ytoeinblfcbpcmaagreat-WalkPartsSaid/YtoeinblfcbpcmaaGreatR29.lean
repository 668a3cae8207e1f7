import Derived.Test.YtoeinblfcbpcmaaGreatR28
namespace Go.Proofs.YtoeinblfcbpcmaaGreat
open Tryz
set_option maxHeartbeats 0
set_option maxRecDepth 100000
set_option linter.unusedVariables false
section
open Go.RowKit Go.Maps Go.ChangeMaps
def fT{α:Type}(f:α->Tr->Nat->α):Nat->α->Tr->α
 | l,a,.hole=>f a .hole l
 | 0,a,.leaf p b=>f a (.leaf p b) 0
 | 0,a,.node p k=>a
 | l+1,a,.leaf p b=>a
 | l+1,a,.node p k=>fT f l (fT f l (fT f l (fT f l a (k 0)) (k 1)) (k 2)) (k 3)
def qF{α:Type}(f:α->Tr->Nat->α)(l:Nat)(k:Nat->Tr)(a:α):Nat->α
 | 0=>a
 | i+1=>fT f l (qF f l k a i) (k i)
variable{S T:Kor}{l k a b5 b3 b7 c G g y n d i b8 b9 b10 b12 M N q D Z nw m cp:Nat}{t u:Tr}{w w' w1 W W0 W' w0 w2:World}{J J' B B0 B':Nat->Prop}{e:Ending}{bs pid:List UInt8}{o:Obj}{sv v lv dv gv:Value}{pvs vs:Nat->Value}{vss:Nat->Nat->Value}{p:Pt}{ps:Nat->Pt}{A:List Value}{r:Option Tr}{bl:Nat->UInt8}{Mm:Nat->Nat->List UInt8}{ops:Array Oper}{vN:List Oper}{Q:Exit->Act->World->Prop}
theorem CY{α:Type}(f:α->Tr->Nat->α)(h:Tr.Ok S l t)(j:l=0\/t.isHole=true)(a:α):fT f l a t=f a t l:=by
 cases t with
 | hole=>cases l<;>rfl
 | leaf p b =>
    rcases j with rfl|j
    ·rfl
    ·cases j
 | node p k =>
    rcases j with rfl|j
    ·exact h.elim
    ·cases j
theorem tP{α:Type}{f:α->Tr->Nat->α}{P:α->Prop}(j:∀a t l,P (f a t l)->P a):∀(l:Nat) (a:α) (t:Tr),P (fT f l a t)->P a
 | 0,a,.hole,h=>j _ _ _ h
 | _+1,a,.hole,h=>j _ _ _ h
 | 0,a,.leaf p b,h=>j _ _ _ h
 | 0,a,.node p k,h=>h
 | l+1,a,.leaf p b,h=>h
 | l+1,a,.node p k,h=>tP j l _ _ (tP j l _ _ (tP j l _ _ (tP j l _ _ h)))
theorem G6{α:Type}{f:α->Tr->Nat->α}{P:α->Prop}(b:∀a t l,P (f a t l)->P a)(l:Nat)(k:Nat->Tr)(a:α):∀(j i:Nat),i≤j->P (qF f l k a j)->P (qF f l k a i)
 | 0,i,s,h=>by
    obtain rfl:i=0:=by omega
    exact h
 | j+1,i,s,h=>by
   by_cases e:i=j+1
   ·subst e;exact h
   ·exact G6 b l k a j i (by omega) (tP b l _ _ h)
def Off(w:World)(J:Nat->Prop)(k:Nat):Prop:=¬J k/\k<w.heap.size
theorem Off.keep(h:Off w J k)(f:aA J w w')(b:∀k,J' k->J k\/w.heap.size≤k):Off w' J' k:=
 ⟨fun e=>(b k e).elim h.1 fun e=>by have:=h.2;omega,by have:=h.2;have:=f.size;omega⟩
structure Yld{α:Type}(I:α->(Nat->Prop)->World->Prop):Prop where
 keep:∀a J w w',I a J w->aA aB w w'->I a J w'
 lt:∀a J w k,I a J w->J k->k<w.heap.size
def gD{α:Type}(I:α->(Nat->Prop)->World->Prop)(w:World)(J:Nat->Prop)(a:α)(e:Ending)(w':World):Prop:=
 e=.returned (.int .i64 0)/\∃J',I a J' w'/\(∀k,J' k->J k\/w.heap.size≤k)/\aA J w w'
def I9{α:Type}(I:α->(Nat->Prop)->World->Prop)(f:α->Tr->Nat->α)(P:α->Prop)(S:Kor)(c:Nat)(B:Nat->Prop)(G:Nat)(fr:Array Value):Prop:=
 ∀(a:α) (J:Nat->Prop) (w:World) (pv:Value) (t:Tr) (l:Nat),I a J w->KI w c S B->(∀k,B k->¬J k)->l≤3->(l=0\/t.isHole=true)->Tr.Ok S l t->aU w J pv t.ptr->P (f a t l)->Calls prog G (#[.agg (aE pv t.ptr).toArray,.int .i64 (l:Int)]++fr) w (gD I w J (f a t l))
theorem gD.trans{α:Type}{I:α->(Nat->Prop)->World->Prop}{b:Nat->Prop}{a:α}(h:gD I w1 b a e w')(f:∀k,b k->J k\/w.heap.size≤k)(k:aA J w w1):gD I w J a e w':=by
 obtain⟨s,J',x,z,C⟩:=h;refine⟨s,J',x,fun i j=>?_,k.tT C fun i j e=>(f i e).elim id fun h=>by omega⟩;rcases z i j with h|h
 ·exact f i h
 ·exact .inr (Nat.le_trans k.size h)
structure VCl(w:World)(J:Nat->Prop)(b5 b3 b7 c:Nat)(G:Nat)(fr:Array Value):Prop where
 y:w.heap[b5]?=some (.cells #[.func (.func G) #[] fr] 70 (0,0))
 c:w.heap[b3]?=some (.cells #[.pointer (some ⟨c,0,none⟩)] 24 (0,0))
 d:w.heap[b7]?=some (.cells #[.func (.func 71) #[] #[.pointer (some ⟨b5,0,none⟩),.pointer (some ⟨b3,0,none⟩),.pointer (some ⟨b7,0,none⟩)]] 70 (0,0))
 o5:Off w J b5
 o3:Off w J b3
 o7:Off w J b7
theorem VCl.keep{fr:Array Value}(h:VCl w J b5 b3 b7 c G fr)(k:aA J w w')(b:∀k,J' k->J k\/w.heap.size≤k):VCl w' J' b5 b3 b7 c G fr:=
 ⟨k.blk h.y h.o5.1,k.blk h.c h.o3.1,k.blk h.d h.o7.1,h.o5.keep k b,h.o3.keep k b,h.o7.keep k b⟩
theorem VCl.keep0{fr:Array Value}(h:VCl w J b5 b3 b7 c G fr)(k:aA aB w w'):VCl w' J b5 b3 b7 c G fr:=h.keep k.any fun _ h=>.inl h
theorem Fa{α:Type}{I:α->(Nat->Prop)->World->Prop}(hI:Yld I){f:α->Tr->Nat->α}{P:α->Prop}(qc:∀a t l,P (f a t l)->P a){fr:Array Value}(eg:∀args w,(callFunc G args).run prog w=.ok (.enter G args) w)(hY:I9 I f P S c B G fr)(a:α)(J:Nat->Prop)(w:World)(pv:Value)(t:Tr)(l:Nat)(hi:I a J w)(hK:KI w c S B)(qb:∀k,B k->¬J k)(hl:l≤3)(h0:l=0\/t.isHole=true)(ht:Tr.Ok S l t)(hp:aU w J pv t.ptr)(hv:VCl w J b5 b3 b7 c G fr)(hP:P (f a t l)):Calls prog 71 #[.agg (aE pv t.ptr).toArray,.int .i64 (l:Int),.pointer b5,.pointer b3,.pointer b7] w (gD I w J (f a t l)):=by
 have K:=O hI;have Y:=O hY;have z:=O hi;have C:=O hK;have V:=O qb;have HT:=O ht;have E:=O hv;have H0:=O h0;have X:=O hP;clear hP qc;have b:=O hp;obtain⟨p,U⟩:=zX9 t.ptr
 have x:=O U;rw[U] at b hp ⊢;obtain⟨pc,F,R,qd⟩:=nmPt hp.pt;rw[F.out];have s:=lN w;have qe:0≤(l:Int):=by omega
 clear hp U hi hK qb ht hv h0
 by_cases hz:l=0
 ·subst hz
  go_in
  go_wp2_with refine bxM s (pc.toArray) ?_
  intro qa w1 j s;replace b:=pK b j;replace C:=O (C.keep0 j);replace z:=O (K.keep _ _ _ _ z.out j);replace E:=O (VCl.keep0 E.out j);clear j;have c1:w1.cell? ⟨b5,0,none⟩=some (.func (.func G) #[] fr):=(aC (i:=0) E.y rfl)
  go_wp2_with refine ldQ (s.b 0) R ?_
  clear c1;have H:=(Y a J w1 pv t 0 z.out C.out V.out (by omega) (.inl rfl) HT.out (by rw[x.out];exact b.out) X.out:Ka w1 (gD I w1 J (f a t 0)))
  rw[x.out,F.out] at H;refine H.mono ?_;rintro e w9 hm;have HP:=O (hm.trans (J:=J) (w:=w) (fun k h=>.inl h) s.keep.any);obtain⟨rfl,-⟩:=hm;clear H s b C z E;go_wp2;go_ret;exact HP.out
 ·have qf:((l:Int) == 0)=false:=by rw[beq_eq_false_iff_ne];omega
  have qg:decide (l=0)=false:=decide_eq_false hz;have HH:Hid (p.hole=true):=O (by rw[←x.out,HT.hole_eq];exact H0.resolve_left hz);clear hz;go_in
  go_wp2_with refine bxM s (pc.toArray) ?_
  intro qa w1 j s;replace b:=pK b j;replace C:=O (C.keep0 j);replace z:=O (K.keep _ _ _ _ z.out j);replace E:=O (VCl.keep0 E.out j);clear j
  go_wp2_with ((with_reducible show WL _ _);refine aK (by rfl) 30 (.tmp 5) rfl qa 0 rfl pc _ (aD (s.b 0)) aI rfl (szP9 R) ?_)
  refine((by rw[←F.out];exact bK w1 pv p b.pt:Ka w1 (aN w1 p.hole))).mono ?_;rintro e w2 ⟨rfl,j⟩;replace s:=kL s j;replace b:=pK b j;replace C:=O (C.keep0 j);replace z:=O (K.keep _ _ _ _ z.out j);replace E:=O (VCl.keep0 E.out j);clear j;rw[HH.out];have c1:w2.cell? ⟨b5,0,none⟩=some (.func (.func G) #[] fr):=(aC (i:=0) E.y rfl)
  go_wp2_with refine ldQ (s.b 0) R ?_
  clear c1;have H:=(Y a J w2 pv t l z.out C.out V.out (by omega) H0.out HT.out (by rw[x.out];exact b.out) X.out:Ka w2 (gD I w2 J (f a t l)))
  rw[x.out,F.out] at H;refine H.mono ?_;rintro e w9 hm;have HP:=O (hm.trans (J:=J) (w:=w) (fun k h=>.inl h) s.keep.any);obtain⟨rfl,-⟩:=hm;clear H s b C z E;go_wp2;go_ret;exact HP.out
def Oa{α:Type}(I:α->(Nat->Prop)->World->Prop)(w:World)(J:Nat->Prop)(a:α)(w':World):Prop:=∃J',I a J' w'/\(∀k,J' k->J k\/w.heap.size≤k)/\aA J w w'
theorem Nn{α:Type}{I:α->(Nat->Prop)->World->Prop}(hI:Yld I){f:α->Tr->Nat->α}{P:α->Prop}(ql:∀a t l,P (f a t l)->P a){fr:Array Value}(eg:∀args w,(callFunc G args).run prog w=.ok (.enter G args) w)(hY:I9 I f P S c B G fr):∀(l:Nat),l≤3->∀(a:α) (J:Nat->Prop) (w:World) (pv:Value) (t:Tr),I a J w->KI w c S B->(∀k,B k->¬J k)->Tr.Ok S l t->aU w J pv t.ptr->VCl w J b5 b3 b7 c G fr->P (fT f l a t)->Calls prog 71 #[.agg (aE pv t.ptr).toArray,.int .i64 (l:Int),.pointer b5,.pointer b3,.pointer b7] w (gD I w J (fT f l a t)):=by
 intro l
 induction l with
 | zero =>
   intro hl a J w pv t H hK qe ht hp hv hP;rw[CY f ht (.inl rfl)] at hP ⊢;exact Fa hI ql eg hY a J w pv t 0 H hK qe hl (.inl rfl) ht hp hv hP
 | succ l ih =>
   intro hl a J w pv t H hK qe ht hp hv hP;cases hh:t.isHole with
   | true =>
     rw[CY f ht (.inr hh)] at hP ⊢;exact Fa hI ql eg hY a J w pv t (l+1) H hK qe hl (.inr hh) ht hp hv hP
   | false =>
     have qf:fT f (l+1) a t=qF f l t.kid a 4:=by
      cases t with
      | hole=>cases hh
      | leaf p b=>exact ht.elim
      | node p k=>rfl
     rw[qf] at hP ⊢;have zt:=O (fun i (H:i≤4)=>G6 ql l t.kid a 4 i H hP);have zn:=O (ih (by omega));have F:=O hI;have z1:=O hY;have HI:=O H;have HK:=O hK;have q1:=O qe;have HT:=O ht;have HV:=O hv;have s:=O hp;have zw:l≤2:=by omega
     obtain⟨p,qm⟩:=zX9 t.ptr
     have zd:=O qm;rw[qm] at s hp ⊢;have HH:Hid (p.hole=false):=O (by rw[←qm,ht.hole_eq];exact hh);obtain⟨pc,qv,zl,zz⟩:=nmPt hp.pt;rw[qv.out];have zo:=O (fun k (e:J k)=>F.lt _ _ _ _ HI.out e);have z:=lN w;have z6:0≤((l+1:Nat):Int):=by omega
     have z5:(0:Int)≤(l:Int):=by omega
     have z7:(((l:Int)+1) == 0)=false:=by rw[beq_eq_false_iff_ne];omega
     clear hp qm H hK qe ht hv hh qf ih hP ql;go_in
     go_wp2_with refine bxM z (pc.toArray) ?_
     intro zv w1 j z;replace s:=pK s j;replace HK:=O (HK.keep0 j);replace HI:=O (F.keep _ _ _ _ HI.out j);replace HV:=O (VCl.keep0 HV.out j);clear j
     go_wp2_with ((with_reducible show WL _ _);refine aK (by rfl) 30 (.tmp 5) rfl zv 0 rfl pc _ (aD (z.b 0)) aI rfl (szP9 zl) ?_)
     refine((by rw[←qv.out];exact bK w1 pv p s.pt:Ka w1 (aN w1 p.hole))).mono ?_;rintro e w2 ⟨rfl,j⟩;replace z:=kL z j;replace s:=pK s j;replace HK:=O (HK.keep0 j);replace HI:=O (F.keep _ _ _ _ HI.out j);replace HV:=O (VCl.keep0 HV.out j);clear j;rw[HH.out];have c1:w2.cell? ⟨b3,0,none⟩=some (.pointer c):=(aC (i:=0) HV.c rfl)
     go_wp2_with refine ldQ (z.b 0) zl ?_
     clear c1;have za:=O (fun k (e:J k)=>F.lt _ _ _ _ HI.out e);refine((by rw[←qv.out,←zd.out];exact xS HK.out zw pv t HT.out (by rw[zd.out];exact s.pt):Ka w2 (eE w2 B l t))).mono ?_;rintro e w3 ⟨vs,rfl,qg,qq,j⟩;have qj:Hid (bL w3 J vs (fun i=>(t.kid i).ptr)):=O (fun q hq=>⟨(qg q hq).pt,fun i H=>⟨fun e=>by have:=qq q hq i H;have:=za.out i e;omega,((qg q hq).off i H).2⟩⟩);have qz:=cP ((l+1:Nat):Int) vs qg.nv;have qo:=cQ ((l+1:Nat):Int) qg.nv;obtain⟨nn,U⟩:=zX9 (bS ((l+1:Nat):Int) vs (fun i=>(t.kid i).ptr))
     have zr:Hid (∀u∈nn,u.oneCell'=true):=O (by rw[←U];exact qo);have zq:=O U;rw[U] at qz ⊢;clear qo U qg qq;replace z:=kL z j;replace s:=pK s j;replace HK:=O (HK.keep0 j);replace HI:=O (F.keep _ _ _ _ HI.out j);replace HV:=O (VCl.keep0 HV.out j);clear j
     go_wp2_with ((with_reducible show WL _ _);refine alW gV qz cW (by rw[qz];exact cU) zr.out ?_)
     intro b8 w5 zi j hb
     replace z:=lW z zi j hb;replace s:=pK s j;replace HK:=O (HK.keep0 j);replace HI:=O (F.keep _ _ _ _ HI.out j);replace HV:=O (VCl.keep0 HV.out j);replace qj:=O (bL.keep0 qj.out j);clear zi j hb;go_wp2_with fail;have q0:=O (z.b 0);have q5:=O (z.lt 0);have zy:=O (fun k (e:J k)=>za.out k e);have qu:Hid (Off w5 J b8):=O ⟨fun e=>by have:=zo.out _ e;have:=q5.1;omega,q5.2⟩;have qt:=O z.keep;obtain⟨W0,zh⟩:=zX9 w5
     rw[zh] at HI HK HV qj q0 qu qt ⊢;clear z s zh
     go_loopw [9,10] (fun e i wr=>∃k:Nat,k≤4/\i=.int .i64 k/\e=.int .i64 0/\Hid (Oa I W0 J (qF f l t.kid a k) wr)) (fun _ i _=>4-(intOf i).toNat)
     case atStart=>exact⟨0,by omega,rfl,rfl,O ⟨J,HI.out,fun k h=>.inl h,aA.refl _ _⟩⟩
     case round =>
      obtain⟨k,j,rfl,rfl,HD⟩:=hrel;obtain⟨J2,zj,Y,K⟩:=HD.out;have X:=O zj;have qh:=O Y;have qi:=O K;have C:=O (HK.keepT K (fun i e hb=>q1.out i hb e));have q3:=O (fun i (hb:B i) (e:J2 i)=>show False from(Y i e).elim (q1 i hb) fun h=>by have:=HK.lt hb;omega);have qb:=O (HV.keep K Y);have qn:=O (K.blk q0.out qu.1);have zb:=O (qu.keep K Y);have qa:=O (qj.keep K Y);clear zj Y K HD
      by_cases qy:k<4
      ·have z2:(0:Int)≤(k:Int):=by omega
       have z3:(k:Int)<4:=by omega
       have E:=O (qa k qy);have zm:=aF (v:=vs k) E.pt.sum;have qp:=aL E.pt;have qw:=kD qa.nv (by rw[zq.out];exact aD qn.out) qy;obtain⟨qc,V⟩:=zX9 (aE (vs k) ((t.kid k).ptr))
       have z0:Hid (∀u∈qc,u.oneCell'=true):=O (by rw[←V];exact qp);have zu:=O V;rw[V] at zm qw;have HX:=O qw;have z:=O (Loc.nil J2 J2 wr);clear V qp qw;go_wp2_with fail;refine dwA J2 (by kernel_rfl) ?_;intro w7 S qk zf hS R;replace z:=kL z R;replace X:=O (F.keep _ _ _ _ X.out R);replace C:=O (C.keep0 R);replace qb:=O (VCl.keep0 qb.out R);replace HX:=O (R.rangeAt HX.out);replace E:=pK E R;clear R;have zp:=z;have q9:=X;have qr:=C;have qd:=qb;have zg:=HX;have ze:=E;refine tnd 0 (.func (.func 71) #[] #[.pointer b5,.pointer b3,.pointer b7]) rfl (.inl ⟨by rfl,fun w' zx=>by have c:World.cell? w' ⟨b7,0,none⟩=some (.func (.func 71) #[] #[.pointer b5,.pointer b3,.pointer b7]):=(qk w' zx).cell (cell_of_one qd.d) qd.o7.1;go_simp⟩) hS ?_;refine tna 1 (.int .i64 (k:Int)) rfl hS ?_;refine tnb 2 (.pointer (some ⟨b8,1,none⟩)) rfl hS ?_;refine tnd 3 (.pointer (some ⟨b8,1+k*35,none⟩)) rfl (.inl ⟨by rfl,fun _ _=>by go_simp<;>omega⟩) hS ?_;refine tnd 4 (.agg qc.toArray) rfl (yieldsIf_load_mid (by rfl) 30 (.tmp 39) rfl b8 (1+k*35) rfl qc _ (fun w' h=>(qk w' h).rangeAt2 zg.out zb.1) aI rfl (szP9 zm)) hS ?_;refine tna 5 (.int .i64 ((l+1:Nat):Int)) rfl hS ?_;refine tnd 6 (.int .i64 (l:Int)) rfl (.inl ⟨by rfl,fun _ _=>by go_simp;exact IntWalk.i64_in _ (by omega)⟩) hS ?_;refine wA9 7 ?_;go_wp2_with fail;refine((by rw[←zu.out];exact zn.out (qF f l t.kid a k) J2 w7 (vs k) (t.kid k) X.out C.out q3.out (HT.kid qy) E.out qb.out (zt (k+1) (by omega)):Ka w7 (gD I w7 J2 (fT f l (qF f l t.kid a k) (t.kid k))))).mono ?_;rintro e w8 hm;have zk:aA J2 w7 w8:=by obtain⟨-,J3,-,-,h⟩:=hm;exact h
       have HM:Hid (gD I wr J2 (qF f l t.kid a (k+1)) e w8):=O (hm.trans (w:=wr) (J:=J2) (fun k h=>.inl h) z.keep);obtain⟨rfl,-⟩:=hm;have qx:=zf.out _ ((qk _ hS).trans zk);clear hS zk z X C qb HX E;go_wp2_with fail;refine⟨qx,?_⟩;refine tna 8 (.int .i64 0) rfl qx ?_;refine wpAnyH_done (by kernel_rfl) ?_ _;clear qx qk zf zp q9 qr qd zg ze
       have HE:Hid (Oa I W0 J (qF f l t.kid a (k+1)) w8):=O (by
        obtain⟨-,J3,h1,h2,h3⟩:=HM.out;exact⟨J3,h1,fun i H=>(h2 i H).elim (qh i) (fun h=>.inr (Nat.le_trans qi.size h)),qi.tT h3 (fun i H e=>(qh i e).elim id fun h=>by omega)⟩)
       clear HM qi qh qn qa;go_wp2
       go_roundw
       case rel=>exact⟨k+1,by omega,by go_num,rfl,HE⟩
       case measure=>simp[intOf];omega
      ·obtain rfl:k=4:=by omega
       go_wp2;go_ret;exact⟨rfl,J2,X.out,fun i H=>(qh i H).imp id (fun h=>Nat.le_trans qt.size h),qt.any.tT qi.out (fun _ _ h=>h)⟩
theorem Q9:Hid (∀w,(zeroValue 70).run prog w=.ok .nilFunc w):=O fun w=>by kernel_rfl
theorem Ja{α:Type}{I:α->(Nat->Prop)->World->Prop}(hI:Yld I){f:α->Tr->Nat->α}{P:α->Prop}(X:∀a t l,P (f a t l)->P a){fr:Array Value}(eg:∀args w,(callFunc G args).run prog w=.ok (.enter G args) w)(hY:I9 I f P S c B G fr)(a:α)(J:Nat->Prop)(w:World)(pv:Value)(t:Tr)(hi:I a J w)(hK:KI w c S B)(V:∀k,B k->¬J k)(ht:Tr.Ok S 3 t)(hp:aU w J pv t.ptr)(hP:P (fT f 3 a t)):Calls prog 29 #[.pointer c,.agg (aE pv t.ptr).toArray,.func (.func G) #[] fr] w (gD I w J (fT f 3 a t)):=by
 have qb:=O (fun b5 b3 b7=>Nn (b5:=b5) (b3:=b3) (b7:=b7) hI X eg hY 3 (by omega) a J);have z:=O hI;have x:=O hi;have C:=O hK;have qa:=O V;have HT:=O ht;have qe:=O hP;have j:=O hp;have E:=O (fun k (e:J k)=>z.lt _ _ _ _ x.out e);obtain⟨p,F⟩:=zX9 t.ptr
 have R:=O F;rw[F] at j hp ⊢;obtain⟨pc,K,qf,qg⟩:=nmPt hp.pt;rw[K.out];have b:=lN w;clear hp F hi hK V ht hP X;have U:=j;have qd:=C;have qc:=x;go_in
 go_wp2_with refine bxM b (#[.pointer c]) ?_
 intro b3 w1 s b;replace j:=pK j s;replace C:=O (C.keep0 s);replace x:=O (z.keep _ _ _ _ x.out s);clear s
 go_wp2_with refine bxM b (pc.toArray) ?_
 intro b4 w2 s b;replace j:=pK j s;replace C:=O (C.keep0 s);replace x:=O (z.keep _ _ _ _ x.out s);clear s
 go_wp2_with refine bxM b (#[.func (.func G) #[] fr]) ?_
 intro b5 w3 s b;replace j:=pK j s;replace C:=O (C.keep0 s);replace x:=O (z.keep _ _ _ _ x.out s);clear s
 go_wp2_with refine alS b Q9 ?_
 intro b7 w4 s b;replace j:=pK j s;replace C:=O (C.keep0 s);replace x:=O (z.keep _ _ _ _ x.out s);clear s
 go_wp2_with refine stV (.func (.func 71) #[] #[.pointer (some ⟨b5,0,none⟩),.pointer (some ⟨b3,0,none⟩),.pointer (some ⟨b7,0,none⟩)]) (b.b 0) ?_
 intro Y s hb;replace b:=O (b.set 0 s hb);replace j:=O (aU.keep0 U.out b.keep);replace C:=O (qd.keep0 b.keep);replace x:=O (z.keep _ _ _ _ qc.out b.keep);clear s hb;have HV:=O (VCl.mk (J:=J) (b.b 1) (b.b 3) (b.b 0) ⟨fun e=>by have:=E.out _ e;have:=(b.lt 1).1;omega,(b.lt 1).2⟩ ⟨fun e=>by have:=E.out _ e;have:=(b.lt 3).1;omega,(b.lt 3).2⟩ ⟨fun e=>by have:=E.out _ e;have:=(b.lt 0).1;omega,(b.lt 0).2⟩:VCl Y J b5 b3 b7 c G fr);have H:=O (cell_of_one (b.b 0));have c1:Y.cell? ⟨b7,0,none⟩=some (.func (.func 71) #[] #[.pointer (some ⟨b5,0,none⟩),.pointer (some ⟨b3,0,none⟩),.pointer (some ⟨b7,0,none⟩)]):=H.out
 go_wp2_with refine ldQ (b.b 2) qf ?_
 clear c1;have HC:=(qb b5 b3 b7 Y pv t x.out C.out qa.out HT.out (by rw[R.out];exact j.out) HV.out qe.out:Ka Y (gD I Y J (fT f 3 a t)))
 rw[R.out,K.out] at HC;refine HC.mono ?_;rintro e w9 hm;have HP:=O (hm.trans (J:=J) (w:=w) (fun k h=>.inl h) b.keep.any);obtain⟨rfl,-⟩:=hm;clear HC b j C x HV H;go_wp2;go_ret;exact HP.out
def Jb(b:Nat)(a:Nat)(J:Nat->Prop)(w:World):Prop:=w.heap[b]?=some (.cells #[.int .i64 (a:Int)] 3 (0,0))/\J=fun k=>k=b
def lY(a:Nat)(t:Tr)(l:Nat):Nat:=if t.isHole then a else a+1
theorem O7(b:Nat):Yld (Jb b):=⟨fun a J w w' h k=>⟨k.blk h.1 id,h.2⟩,fun a J w k h j=>by obtain⟨f,rfl⟩:=h;rw[show k=b from j];exact lt_of_block f⟩
theorem No:∀a t l,(fun a=>a≤1000) (lY a t l)->(fun a=>a≤1000) a:=fun a t l h=>by
 unfold lY at h;show a≤1000;have h:(if t.isHole then a else a+1)≤1000:=h;split at h<;>omega
theorem nW:∀{l:Nat}{t:Tr},Tr.Ok S l t->∀a,fT lY l a t=a+t.many l
 | 0,.hole,h,a=>rfl
 | l+1,.hole,h,a=>rfl
 | 0,.leaf p b,h,a=>rfl
 | 0,.node p k,h,a=>h.elim
 | l+1,.leaf p b,h,a=>h.elim
 | l+1,.node p k,h,a=>by
   show fT lY l (fT lY l (fT lY l (fT lY l a (k 0)) (k 1)) (k 2)) (k 3)=a+((k 0).many l+(k 1).many l+(k 2).many l+(k 3).many l);rw[nW (h.2.1 0 (by omega)),nW (h.2.1 1 (by omega)),nW (h.2.1 2 (by omega)),nW (h.2.1 3 (by omega))];omega
theorem Lf(S:Kor)(c:Nat)(B:Nat->Prop)(E:Nat):I9 (Jb E) lY (fun a=>a≤1000) S c B 30 #[.pointer E]:=by
 intro a J w pv t l hi hK qa hl h0 ht U hP;obtain⟨z,rfl⟩:=hi;have x:=O ht.hole_eq;have b:=O z;have qc:=O U.off;have f:Hid (PtV w pv t.ptr):=O U.pt;obtain⟨p,F⟩:=zX9 t.ptr
 have qe:=O F;rw[F] at f U x ⊢;obtain⟨pc,C,V,qd⟩:=nmPt U.pt;rw[C.out];have s:=lN w;have R:=lt_of_block z;have qb:=O R;clear U F z R hK qa ht h0;cases H:t.isHole with
 | true =>
   rw[H] at x;have X:Hid (lY a t l=a):=O (by unfold lY;rw[H];rfl);clear H hP;have K:=f;have I:=b;go_in
   go_wp2_with refine bxM s (pc.toArray) ?_
   intro b3 w1 j s;replace f:=O (f.keep j fun _ _=>id);replace b:=O (j.blk b.out id);clear j
   go_wp2_with refine ldQ (s.b 0) V ?_
   refine((by rw[←C.out];exact bK w1 pv p f.out:Ka w1 (aN w1 p.hole))).mono ?_;rintro e w2 ⟨rfl,j⟩;replace s:=kL s j;replace f:=O (f.keep j fun _ _=>id);replace b:=O (j.blk b.out id);clear j;rw[x.out];go_wp2;go_ret;exact⟨rfl,_,⟨by rw[X.out];exact b.out,rfl⟩,fun k h=>.inl h,s.keep.any⟩
 | false =>
   rw[H] at x;have X:Hid (lY a t l=a+1):=O (by unfold lY;rw[H];rfl);have qf:a+1≤1000:=by rw[←X.out];exact hP
   have qg:(0:Int)≤(a:Int):=by omega
   have qh:(a:Int)≤1000:=by omega
   clear H hP;have K:=f;have I:=b;go_in
   go_wp2_with refine bxM s (pc.toArray) ?_
   intro b3 w1 j s;replace f:=O (f.keep j fun _ _=>id);replace b:=O (j.blk b.out id);clear j
   go_wp2_with refine ldQ (s.b 0) V ?_
   refine((by rw[←C.out];exact bK w1 pv p f.out:Ka w1 (aN w1 p.hole))).mono ?_;rintro e w2 ⟨rfl,j⟩;replace s:=kL s j;replace f:=O (f.keep j fun _ _=>id);replace b:=O (j.blk b.out id);clear j;rw[x.out];have Y:=O s.keep;have c1:w2.cell? ⟨E,0,none⟩=some (.int .i64 (a:Int)):=(cell_of_one b.out)
   go_wp2_with ((with_reducible show WL _ _);refine sta 3 (.tmp 2) (.tmp 10) E 0 [.int .i64 ((a:Int)+1)] b.out (by simp) (by kernel_rfl) (one9) ?_)
   clear c1;intro w9 j z;replace z:w9.heap[E]?=some (.cells #[.int .i64 ((a+1:Nat):Int)] 3 (0,0)):=z;have HP:Hid (gD (Jb E) w (fun k=>k=E) (lY a t l) (.returned (.int .i64 0)) w9):=O ⟨rfl,_,⟨by rw[X.out];exact z,rfl⟩,fun k h=>.inl h,Y.any.trans j⟩;clear j z s f b;go_wp2;go_ret;exact HP.out
def CZ(w:World)(t:Tr)(e:Ending)(w':World):Prop:=e=.returned (.tuple #[.int .i64 (t.many 3:Int),.int .i64 0])/\aA aB w w'
theorem O8(h:Tr.Ok S l t):t.many l≤4 ^ l:=by
 rw[←h.many_eq,←h.blocks_len];exact List.countP_le_length
theorem Lg(hK:KI w c S B)(pv:Value)(t:Tr)(ht:Tr.Ok S 3 t)(hp:aU w B pv t.ptr):Calls prog 10 #[.pointer c,.agg (aE pv t.ptr).toArray] w (CZ w t):=by
 have Y:=O ht;have b:=O hp;have s:=O hK;have HM:=O (O8 ht);have H:=O (fun i (e:B i)=>hK.lt e);obtain⟨p,E⟩:=zX9 t.ptr
 have C:=O E;rw[E] at b hp ⊢;obtain⟨pc,z,X,qd⟩:=nmPt hp.pt;rw[z.out];have j:=lN w;clear hp ht hK E;have K:=b;have qc:=s;go_in
 go_wp2_with refine bxM j (pc.toArray) ?_
 intro b3 w1 f j;replace b:=pK b f;replace s:=O (s.keep0 f);clear f
 go_wp2_with refine ldQ (j.b 0) X ?_
 refine((by rw[←z.out];exact qD s.out pv p b.pt (by rw[←C.out];exact Y.root):Ka w1 (aH w1 (.int .i64 0)))).mono ?_;rintro e w2 ⟨rfl,f⟩;replace j:=kL j f;replace b:=pK b f;replace s:=O (s.keep0 f);clear f
 go_wp2_with refine alV (.int .i64 0) N6 ?_
 intro b7 w4 U f R
 replace j:=lW j U f R;replace b:=pK b f;replace s:=O (s.keep0 f);clear U f R;have F:=O (j.b 0);have x:=O (j.lt 0);have qa:=O j.keep;have I:Hid (∀i,pv.ownBlock=some i->i<w.heap.size):=O (fun i V=>(K.off i V).2.lt)
 go_wp2_with refine ldQ (j.b 1) X ?_
 have HC:=(Ja (O7 b7) No (enters_of func30 (by kernel_rfl) rfl) (Lf S c B b7) 0 (fun k=>k=b7) w4 pv t ⟨F.out,rfl⟩ s.out (fun i e e2=>by have:=H.out i e;have:=x.1;omega) Y.out ⟨by rw[C.out];exact b.pt,fun i V=>⟨fun e=>by have:=I.out i V;have:=x.1;omega,(b.off i V).2⟩⟩ (by show fT lY 3 0 t≤1000;rw[nW Y.out];have:=HM.out;omega):Ka w4 (gD (Jb b7) w4 (fun k=>k=b7) (fT lY 3 0 t)))
 rw[C.out,z.out,nW Y.out,Nat.zero_add] at HC;refine HC.mono ?_;rintro e w9 ⟨rfl,J',⟨R,-⟩,-,f⟩;have c1:=cell_of_one R;have qb:Hid (aA aB w w9):=O (qa.tT f (fun i V e=>by have:=x.1;omega));clear R f HC j b s F;go_wp2
 go_ret2
 exact⟨rfl,qb.out⟩
def DX(b:Nat->List Value)(k:Nat):Array Value:=#[.int .i64 ((2-k:Nat):Int),.agg (b (2-k)).toArray]
theorem Jc(n:Nat){Res:Nat->Prop}{F b:Nat}(Y:Nat->List Value)(V:∀x,x<3->(Y x).length=177)(qh:3≤b)(hB:w.heap[F]?=some (.cells #[.slice g 3 b] 117 (0,0)))(hx:∀x,x<3->w.rangeAt g (x*177) (Y x)){cur:Array Value}(hg:w.heap[g]?=some (.cells cur 128 (0,0)))(qe:¬Res F)(qf:¬Res g) :
 ∀(l:Nat) (J:Nat->World->Prop) (Jx:World->Prop) (W:World),aA aB w W->J 0 W ->
  (∀k W1,k<3->J k W1->YieldAt Fence.wide (n-1) prog l (DX Y k) W1 fun e W'=>(e=.returned (.bool true)/\J (k+1) W'/\KpC Res W1 W')\/(e=.returned (.bool false)/\Jx W')) ->
  CallsIn Fence.wide n prog 97 (#[.func (.yield l) #[] #[]]++#[.pointer F]) W fun e W'=>(∃v,e=.returned v)/\(J 3 W'\/Jx W'):=by
 intro l J Jx W C qd hY;have HS:=O (And.intro (C.blk hB id) (C.blk hg id))
 have qb:Hid (∀W':World,W'.heap[g]?=some (.cells cur 128 (0,0))->∀x,x<3->W'.rangeAt g (x*177) (Y x)):=O fun W' h x qg j v hj =>
  (World.cell?_of_block (w:=w) (w':=W') (a:=⟨g,x*177+j,none⟩) (h.trans hg.symm)).trans (hx x qg j v hj)
 have qa:=O V;have qc:=O hY;have c0:=cell_of_one HS.1;clear hB hx hg V hY C;refine callsIn_of_wp func97 rfl trivial ?_ rfl;simp only[ntmps97,List.size_toArray,List.length_cons,List.length_nil,Nat.reduceAdd,Nat.reduceSub,Array.replicate_succ,Array.replicate_zero,List.push_toArray,List.append_toArray,List.nil_append,List.cons_append]
 gi_wp2
 clear c0
 gi_loopw [3] (fun i wr=>∃k:Nat,((k=3/\i=.int .i64 (-1))\/∃y:Nat,k+y=2/\i=.int .i64 (y:Int))/\J k wr/\Hid (wr.heap[F]?=some (.cells #[.slice g 3 b] 117 (0,0))/\wr.heap[g]?=some (.cells cur 128 (0,0)))) (fun i _=>(intOf i+1).toNat)
 case atStart=>exact⟨0,.inr ⟨2,rfl,rfl⟩,qd,HS⟩
 case round =>
  obtain⟨k,(⟨rfl,rfl⟩|⟨y,qk,rfl⟩),hJ,H⟩:=hrel
  ·gi_wp2
   go_end0
   exact⟨⟨_,rfl⟩,.inl hJ⟩
  ·have e1:(y:Int)<3:=by omega
   have qi:(0:Int)≤(y:Int):=by omega
   have qj:(y:Int)<(b:Int):=by omega
   have e2:2-k=y:=by omega
   have f:=qc.out k wr (by omega) hJ;unfold DX at f;rw[e2] at f;have E:=qb.out wr H.out.2 y (by omega);have X:=qa.out y (by omega);have ck:=cell_of_one H.out.1;obtain⟨sy,s⟩:=zX9 (Y y)
   rw[s] at f E X;obtain⟨fn,tmps,assign,body,hy,hR⟩:=f;clear e2 s
   gi_wp2_with (first
    | (refine lA rfl 128 (.tmp 15) rfl g (y*177) rfl sy _ E underlying128 rfl (by rw[X];exact tO) ?_)
    | gi_in)
   refine⟨fun h=>by simp[Fence.wide] at h,hR.mono ?_⟩;rintro e W3 (⟨rfl,K,z⟩|⟨rfl,U⟩)
   ·have I:Hid (W3.heap[F]?=some (.cells #[.slice g 3 b] 117 (0,0))/\W3.heap[g]?=some (.cells cur 128 (0,0))):=O ⟨z _ _ _ _ qe H.out.1,z _ _ _ _ qf H.out.2⟩
    have R:=O K;clear K z hJ hR hy H ck E
    gi_wp2
    rcases y with _|y
    ·go_roundw
     case rel=>exact⟨k+1,.inl ⟨by omega,rfl⟩,R.out,I⟩
     case measure=>simp[intOf]
    ·go_roundw
     case rel=>exact⟨k+1,.inr ⟨y,by omega,by first|rfl|go_num|(congr 1;omega)⟩,R.out,I⟩
     case measure=>simp[intOf];omega
   ·gi_wp2
    refine bodyPost_ret (results_none rfl _ _ _) rfl ?_;exact⟨⟨_,rfl⟩,.inr U⟩
theorem Np(v:Value)(w:World)(x:∃a n c,v=.slice a n c) :
 Calls prog 58 #[v] w fun e w'=>∃b,e=.returned (.func (.func 97) #[] #[.pointer (some ⟨b,0,none⟩)])/\w'.heap[b]?=some (.cells #[v] 117 (0,0))/\w.heap.size=b/\aA aB w w':=by
 obtain⟨a,n,c,rfl⟩:=x;go_in
 go_wp2_with ((with_reducible show WL (some 1) (.box 117 _));refine bxA #[.slice a n c] ?_)
 intro b w1 f s j;have h:=O (And.intro j (And.intro f s));clear f s j;go_wp2;go_ret;exact⟨b,rfl,h.1,h.2.1,h.2.2⟩
def nX(S:Kor)(t:Tr)(n:Nat)(bs:List UInt8):Option Tr×Kor:=if t.blk 3 n=bs then (some t,S) else eD 3 S t n bs
theorem Fb(S:Kor)(t:Tr)(n:Nat)(bs:List UInt8)(h:k+y=2):eD (k+1) S (bB n t y) n bs=match eD k S (bB n t (y+1)) n bs with
 | (none,T)=>(none,T)
 | (some u,T)=>T.lay (k+1) (eN (bB n t y).kid (n / 4 ^ k % 4) u):=by
 have e:bB n t (y+1)=(bB n t y).kid (n / 4 ^ k % 4):=by
  show (bB n t y).kid (n / 4 ^ (2-y) % 4)=_;rw[show 2-y=k by omega]
 rw[e];rfl
theorem C3:∀{y k:Nat},k+y=3->eD k S (bB n t y) n bs=(none,T)->eD 3 S t n bs=(none,T)
 | 0,k,h,e=>by
   have b:k=3:=by omega
   subst b;exact e
 | y+1,k,h,e=>C3 (y:=y) (k:=k+1) (by omega) (by rw[Fb S t n bs (k:=k) (y:=y) (by omega),e])
theorem G7(hb:S.Bd)(I:Tr.Ok S 3 t)(f:bs.length=256)(b:¬t.blk 3 n=bs)(h:k+y=3)(e:eD k S (bB n t y) n bs=(some u,T)) :
 Beh S T/\Tr.Ok T k u/\u.ptr.eqB (bB n t y).ptr=false:=by
 have E:Tr.Ok S k (bB n t y):=by
  have:=jN (n:=n) I y (by omega)
  rwa [show 3-y=k by omega] at this
 obtain⟨U,V⟩:=qI f n (by omega) hb E e;obtain⟨C,X,Y⟩:=V u rfl;have K:u.blk k n=bs:=by rw[X,if_pos rfl]
 have hp:∀x j,x+j=3->t.blk 3 n=(bB n t x).blk j n:=by
  intro x
  induction x with
  | zero =>
     intro j hj;obtain rfl:j=3:=by omega
     rfl
  | succ x ih =>
    intro j hj;have R:=jN (n:=n) I x (by omega);rw[show 3-x=j+1 by omega] at R;rw[ih (j+1) (by omega),R.blk_succ];show _=((bB n t x).kid (n / 4 ^ (2-x) % 4)).blk j n;rw[show 2-x=j by omega]
 have H:=hp y k (by omega);refine⟨U,C,?_⟩;cases F:(bB n t y).isHole with
 | false=>exact Fr.ne E F Y
 | true =>
   have z:=fG F;rw[z,Tr.blk_hole] at H;rw[z];refine Fr.ne_hole (S:=S) C ?_;cases s:u.isHole with
   | false=>rfl
   | true =>
     rw[fG s,Tr.blk_hole] at K;rw[←K] at b;exact absurd H b
theorem Fc(k:Nat->Tr)(d:Nat)(u:Tr):fQ (fun i=>(k i).ptr) d u.ptr=fun i=>(eN k d u i).ptr:=by
 funext i
 unfold fQ eN
 by_cases e:i=d
 ·rw[if_pos e,if_pos e]
 ·rw[if_neg e,if_neg e]
theorem O9{k:Nat->Tr}(f:∀i,i<4->Tr.Ok S l (k i))(e:Ext S T)(j:Tr.Ok T l u):∀i,i<4->Tr.Ok T l (eN k d u i):=fun i b=>by
 by_cases h:i=d
 ·rw[h,eU];exact j
 ·rw[eA _ _ h];exact(f i b).ext e
abbrev Jd:TypeId:=41
abbrev Je:TypeId:=30
def vF(W0:World)(b8 b9 b10 b12 c:Nat)(S:Kor)(B0:Nat->Prop)(n:Nat)(t:Tr)(bs:List UInt8)(k:Nat)(W:World):Prop:=
 ∃y v B',k+y=3/\W.heap[b12]?=some (.cells (aE v (eJ (eD k S (bB n t y) n bs).1)).toArray Je (0,0)) /\
  W.heap[b10]?=some (.cells #[.int .i64 (eY (eD k S (bB n t y) n bs).1)] Jd (0,0)) /\
  aU W B' v (eJ (eD k S (bB n t y) n bs).1)/\(∀i,v.ownBlock=some i->i≠b8/\i≠b9/\i≠b10/\i≠b12) /\
  KI W c (eD k S (bB n t y) n bs).2 B'/\(∀i,B' i->B0 i\/W0.heap.size≤i)/\(∀i,B' i->IsC W i\/i<W0.heap.size/\B0 i/\¬IsC W0 i) /\
  aA (fun i=>B0 i\/i=b10\/i=b12) W0 W
def Fd(W0:World)(b8 b9 b10 b12 c:Nat)(S:Kor)(B0:Nat->Prop)(n:Nat)(t:Tr)(bs:List UInt8)(W:World):Prop:=
 ∃T B',eD 3 S t n bs=(none,T)/\W.heap[b8]?=some (.cells aX.toArray Je (0,0))/\W.heap[b9]?=some (.cells #[.int .i64 15] Jd (0,0)) /\
  KI W c T B'/\(∀i,B' i->B0 i\/W0.heap.size≤i)/\(∀i,B' i->IsC W i\/i<W0.heap.size/\B0 i/\¬IsC W0 i)/\aA (fun i=>B0 i\/i=b8\/i=b9\/i=b10\/i=b12) W0 W
theorem oP(f:W.heap[l]?=some o)(b:o.isCells=false)(h:IsC W i):¬(some l=some i):=fun e=>by
 obtain⟨cs,t,h⟩:=h;injection e with e
 rw[←e,f] at h;injection h with h
 rw[h] at b;cases b
theorem vF.put(h:vF W0 b8 b9 b10 b12 c S B0 n t bs k W)(R:W0.heap.size≤l)(K:W.heap[l]?=some o)(I:o.isCells=false)(o':Obj):vF W0 b8 b9 b10 b12 c S B0 n t bs k (W.putObj l o'):=by
 obtain⟨y,v,B',E,j,s,x,F,h6,h7,z,H⟩:=h;have b:=aA.of_grown (grownBy_putObj' W l o');have no:=fun {i:Nat}(h:IsC W i)=>oP K I h
 refine⟨y,v,B',E,b.blk j (no ⟨_,_,j⟩),b.blk s (no ⟨_,_,s⟩),x.keepT b (fun i C=>no (x.off i C).2),F,h6.keepT b (fun i e f=>?_),h7,fun i f=>?_,H.tT b (fun i C e=>by injection e with e;omega)⟩
 ·rcases z i f with h|h
  ·exact no h e
  ·have:=h.1;injection e with e;omega
 ·rcases z i f with h|h
  ·exact .inl (h.keep b (no h))
  ·exact .inr h
theorem Fd.put(h:Fd W0 b8 b9 b10 b12 c S B0 n t bs W)(I:W0.heap.size≤l)(F:W.heap[l]?=some o)(E:o.isCells=false)(o':Obj):Fd W0 b8 b9 b10 b12 c S B0 n t bs (W.putObj l o'):=by
 obtain⟨T,B',z,j,s,h6,h7,x,C⟩:=h;have b:=aA.of_grown (grownBy_putObj' W l o');have no:=fun {i:Nat}(h:IsC W i)=>oP F E h
 refine⟨T,B',z,b.blk j (no ⟨_,_,j⟩),b.blk s (no ⟨_,_,s⟩),h6.keepT b (fun i e f=>?_),h7,fun i f=>?_,C.tT b (fun i H e=>by injection e with e;omega)⟩
 ·rcases x i f with h|h
  ·exact no h e
  ·have:=h.1;injection e with e;omega
 ·rcases x i f with h|h
  ·exact .inl (h.keep b (no h))
  ·exact .inr h
theorem vF.keep0(h:vF W0 b8 b9 b10 b12 c S B0 n t bs k W)(b:aA aB W W'):vF W0 b8 b9 b10 b12 c S B0 n t bs k W':=by
 obtain⟨y,v,B',f,j,s,x,z,h6,h7,C,E⟩:=h;exact⟨y,v,B',f,b.blk j id,b.blk s id,x.keep0 b,z,h6.keep0 b,h7,fun i F=>(C i F).imp (fun h=>h.keep b id) id,E.trans b.any⟩
open Go.RowKit Go.Maps Go.ChangeMaps
set_option maxRecDepth 100000
theorem Tr.Ok.blk_len:∀{l:Nat}{t:Tr},Tr.Ok S l t->∀(i:Nat),(t.blk l i).length=256
 | l,.hole,h,i=>by rw[Tr.blk_hole];exact K9
 | 0,.leaf p b,h,i=>h.1.len
 | 0,.node p k,h,i=>h.elim
 | l+1,.leaf p b,h,i=>h.elim
 | l+1,.node p k,h,i=>(h.2.1 _ (eO i l)).blk_len i
theorem Loc.wide{S:Nat->Prop}{l:List (Nat×Array Value×TypeId)}(h:Loc aB aB w0 w l)(b:∀k,B k->k<w0.heap.size):Loc S B w0 w l:=
 ⟨h.keep.any,h.ge,h.nd,h.at_,fun x f e=>by have:=h.ge x f;have:=b _ e;omega⟩
structure Qd(a b N:Nat)(k:Nat)(sv:Value)(pvs:Nat->Value)(vss:Nat->Nat->Value):Prop where
 sv:∀i,sv.ownBlock=some i->(i<a\/b≤i)/\i<N
 pvs:∀j,j<k->∀i,(pvs j).ownBlock=some i->(i<a\/b≤i)/\i<N
 vss:∀j,j<k->∀q,q<4->∀i,(vss j q).ownBlock=some i->(i<a\/b≤i)/\i<N
theorem cL.zone{pv0:Value}(h:cL w0 w' B M pv0 n t k sv pvs vss)(s:w0.heap.size≤M)(h0:∀i,pv0.ownBlock=some i->i<w.heap.size):Qd w.heap.size w0.heap.size w'.heap.size k sv pvs vss:=by
 refine⟨fun i b=>⟨.inr (aW h.row b),?_⟩,fun j f i b=>⟨?_,((h.pvs j f).1.off i b).2.lt⟩,fun j f q x i b=>⟨.inr (Nat.le_trans s (((h.vss j f).2 q x).2 i b)),(((h.vss j f).1 q x).off i b).2.lt⟩⟩
 ·obtain⟨cur,z⟩:=aJ h.row b
  exact lt_of_block z
 ·rcases (h.pvs j f).2.2 with e|e
  ·exact .inl (h0 i (e▸b))
  ·exact .inr (Nat.le_trans s (e i b))
theorem cL.keepZ{T:Nat->Prop}{b:Nat}{pv0:Value}(h:cL w0 w B M pv0 n t k sv pvs vss)(z:Qd a b N k sv pvs vss)(x:aA T w w')(F:∀i,T i->(a≤i/\i<b)\/N≤i):cL w0 w' B M pv0 n t k sv pvs vss:=by
 have no:∀i,(i<a\/b≤i)/\i<N->¬T i:=fun i h e=>by rcases F i e with E|E<;>omega
 exact⟨x.owns h.row fun i s=>no i (z.sv i s),fun j f=>⟨(h.pvs j f).1.keepT x fun i s=>no i (z.pvs j f i s),(h.pvs j f).2⟩,fun j f=>⟨fun q C=>((h.vss j f).1 q C).keepT x fun i s=>no i (z.vss j f q C i s),(h.vss j f).2⟩⟩
theorem cL.toB{pv0:Value}(h:cL w0 w B M pv0 n t k sv pvs vss)(f:aA B w w')(s:∀i,B' i->B i\/w.heap.size≤i)(z:∀i,sv.ownBlock=some i->¬B i):cL w0 w' B' M pv0 n t k sv pvs vss:=
 ⟨f.owns h.row z,fun j b=>⟨(h.pvs j b).1.keep f s,(h.pvs j b).2⟩,fun j b=>⟨fun q x=>((h.vss j b).1 q x).keep f s,(h.vss j b).2⟩⟩
theorem aU.grow{T:Nat->Prop}(h:aU W0 B0 v p)(k:aA (fun i=>B0 i\/T i) W0 W)(f:∀i,v.ownBlock=some i->¬T i)(j:∀i,B' i->B0 i\/W0.heap.size≤i):aU W B' v p:=
 ⟨h.pt.keep k fun i b e=>e.elim (h.off i b).1 (f i b),fun i b=>⟨fun e=>(j i e).elim (h.off i b).1 fun e=>by have:=(h.off i b).2.lt;omega,(h.off i b).2.keep k fun e=>e.elim (h.off i b).1 (f i b)⟩⟩
theorem G8{pv0:Value}(h:cL w0 w B M pv0 n t k sv pvs vss){x:Nat}(b:x<k):(fE n t x (pvs x) (vss x)).length=177:=by
 unfold fE;rw[List.length_append,List.length_append,aF (h.pvs x b).1.pt.sum,cP _ _ (h.vss x b).1.nv];rfl
theorem Lh{pv0:Value}(h:cL w0 w B M pv0 n t k sv pvs vss)(hk:0<k):∃g b cur,sv=.slice (some ⟨g,0,none⟩) k b/\k≤b/\w.heap[g]?=some (.cells cur 128 (0,0))/\∀x,x<k->w.rangeAt g (x*177) (fE n t x (pvs x) (vss x)):=by
 rcases h.row.2 with⟨-,h0⟩|⟨g,b,cur,z,H,F,C,h2,h3,h4⟩
 ·omega
 ·refine⟨g,b,cur,z,C,F,fun x R j v I=>?_⟩
  obtain⟨K,V,X,f,-,-,-,E⟩:=Rd.of_owns h.row;rw[z] at f;cases f
  obtain⟨Y,o',f,s⟩:=E (by rw[K];omega);cases f
  have:=s (x*177+j) v (gP (c:=fun j=>fE n t j (pvs j) (vss j)) (n:=177) (fun y U=>G8 h (List.mem_range.1 U)) (jA R) I)
  rwa [Nat.zero_add] at this
theorem Li(b:dK w vs ps)(lv:Int)(j:k<4):∃P R,bS lv vs ps=P++(aE (vs k) (ps k)++R)/\P.length=1+k*35/\∀v p,bS lv (fQ vs k v) (fQ ps k p)=P++(aE v p++R):=by
 have f:=aF (v:=vs 0) (b 0 (by omega)).sum;have h:=aF (v:=vs 1) (b 1 (by omega)).sum;have l2:=aF (v:=vs 2) (b 2 (by omega)).sum;rcases k with _|_|_|_|k
 ·exact⟨[.int .i64 lv],aE (vs 1) (ps 1)++(aE (vs 2) (ps 2)++aE (vs 3) (ps 3)),rfl,rfl,fun _ _=>rfl⟩
 ·exact⟨.int .i64 lv::aE (vs 0) (ps 0),aE (vs 2) (ps 2)++aE (vs 3) (ps 3),rfl,by rw[List.length_cons,f],fun _ _=>rfl⟩
 ·refine⟨.int .i64 lv::(aE (vs 0) (ps 0)++aE (vs 1) (ps 1)),aE (vs 3) (ps 3),?_,by rw[List.length_cons,List.length_append,f,h],fun v p=>?_⟩
  ·show Value.int .i64 lv::(aE (vs 0) (ps 0)++(aE (vs 1) (ps 1)++(aE (vs 2) (ps 2)++aE (vs 3) (ps 3))))=_
   rw[List.cons_append,List.append_assoc]
  ·show Value.int .i64 lv::(aE (vs 0) (ps 0)++(aE (vs 1) (ps 1)++(aE v p++aE (vs 3) (ps 3))))=_
   rw[List.cons_append,List.append_assoc]
 ·refine⟨.int .i64 lv::(aE (vs 0) (ps 0)++(aE (vs 1) (ps 1)++aE (vs 2) (ps 2))),[],?_,by rw[List.length_cons,List.length_append,List.length_append,f,h,l2],fun v p=>?_⟩
  ·show Value.int .i64 lv::(aE (vs 0) (ps 0)++(aE (vs 1) (ps 1)++(aE (vs 2) (ps 2)++aE (vs 3) (ps 3))))=_
   rw[List.cons_append,List.append_assoc,List.append_assoc,List.append_nil]
  ·show Value.int .i64 lv::(aE (vs 0) (ps 0)++(aE (vs 1) (ps 1)++(aE (vs 2) (ps 2)++aE v p)))=_
   rw[List.cons_append,List.append_assoc,List.append_assoc,List.append_nil]
 ·omega
theorem zJ{b o:Nat}{P R:List Value}{t:TypeId}{fr:Nat×Nat}(s:w.heap[b]?=some (.cells (P++(A++R)).toArray t fr))(h:P.length=o):w.rangeAt b o A:=fun j v f=>by
 refine aC s ?_;rw[List.getElem?_toArray,List.getElem?_append_right (by omega),show o+j-P.length=j by omega,List.getElem?_append_left (List.getElem?_eq_some_iff.1 f).1];exact f
theorem Pa{lv:Int}{b:Nat}{t:TypeId}(s:A.length=35)(z:dK w vs ps)(x:q<4)(f:W.heap[b]?=some (.cells (A++(bS lv vs ps++[dv])).toArray t (0,0))):W.rangeAt b (36+q*35) (aE (vs q) (ps q)):=by
 obtain⟨P,R,h,j,-⟩:=Li z lv x;rw[h,List.append_assoc,List.append_assoc,←List.append_assoc A] at f;exact zJ f (by rw[List.length_append,s,j];omega)
theorem Nq{N:List Value}{b:Nat}{t:TypeId}(f:A.length=35)(h:W.heap[b]?=some (.cells (A++(N++[dv])).toArray t (0,0))):W.rangeAt b 35 N:=zJ h f
theorem G9{N:List Value}{b:Nat}{t:TypeId}(h:A.length=35)(j:N.length=141)(f:W.heap[b]?=some (.cells (A++(N++[dv])).toArray t (0,0))):W.cell? ⟨b,176,none⟩=some dv:=by
 refine aC f ?_;rw[List.getElem?_toArray,List.getElem?_append_right (by omega),List.getElem?_append_right (by omega),show 176-A.length-N.length=0 by omega];rfl
theorem Pb{lv:Int}(z:A.length=35)(f:dK w vs ps)(b:q<4)(C:p.sum.length=32):spl (A++(bS lv vs ps++[dv])).toArray (36+q*35) (aE v p)=(A++(bS lv (fQ vs q v) (fQ ps q p)++[dv])).toArray:=by
 obtain⟨P,R,j,s,x⟩:=Li f lv b;have E:=aF (v:=vs q) (f q b).sum;have l2:=aF (v:=v) C;have h:=kY (A++P) (aE (vs q) (ps q)) (aE v p) (R++[dv]) (by rw[E,l2]);rw[List.length_append,z,s,show 35+(1+q*35)=36+q*35 by omega] at h;rw[j,x,List.append_assoc,List.append_assoc,List.append_assoc,List.append_assoc,←List.append_assoc A,←List.append_assoc A,h]
theorem Loc.round{R:World}{U:Nat}{c4 V c8 X C c12 E F:Array Value}{t4 t5 t8 t9 j s:TypeId}
 (h:Loc B B0 w W0 [(b12,c12,s),(b10,C,j),(b9,X,t9),(b8,c8,t8),(b5,V,t5),(U,c4,t4)]) (h12:R.heap[b12]?=some (.cells F s (0,0))) (h10:R.heap[b10]?=some (.cells E j (0,0)))
 (Y:∀i,B' i->B0 i\/W0.heap.size≤i) (qa:∀i,B0 i->B i\/w.heap.size≤i) (K:aA (fun i=>B0 i\/i=b10\/i=b12) W0 R) :
 Loc B B' w R [(b12,F,s),(b10,E,j),(b9,X,t9),(b8,c8,t8),(b5,V,t5),(U,c4,t4)]:=by
 have I:=h.ge _ (List.mem_of_getElem? (i:=0) rfl);have H:=h.ge _ (List.mem_of_getElem? (i:=1) rfl);refine⟨h.keep.tT K fun i hi e=>?_,fun x f=>?_,h.nd,fun x f=>?_,fun x f e=>?_⟩
 ·rcases e with e|e|e
  ·exact(qa i e).elim id fun e=>absurd hi (by omega)
  ·subst e;exact absurd hi (by have:=H;dsimp only at this;omega)
  ·subst e;exact absurd hi (by have:=I;dsimp only at this;omega)
 ·simp only[List.mem_cons,List.not_mem_nil,or_false] at f
  rcases f with rfl|rfl|rfl|rfl|rfl|rfl
  ·exact I
  ·exact H
  ·exact h.ge _ (List.mem_of_getElem? (i:=2) rfl)
  ·exact h.ge _ (List.mem_of_getElem? (i:=3) rfl)
  ·exact h.ge _ (List.mem_of_getElem? (i:=4) rfl)
  ·exact h.ge _ (List.mem_of_getElem? (i:=5) rfl)
 ·simp only[List.mem_cons,List.not_mem_nil,or_false] at f
  rcases f with rfl|rfl|rfl|rfl|rfl|rfl
  ·exact h12
  ·exact h10
  ·exact K.blk (h.b 2) fun z=>z.elim ((h.aq 2)) fun e=>e.elim (fun e=>bH (i:=1) h.nd rfl 2 (by decide) rfl e) fun e=>bH (i:=0) h.nd rfl 2 (by decide) rfl e
  ·exact K.blk (h.b 3) fun z=>z.elim ((h.aq 3)) fun e=>e.elim (fun e=>bH (i:=1) h.nd rfl 3 (by decide) rfl e) fun e=>bH (i:=0) h.nd rfl 3 (by decide) rfl e
  ·exact K.blk (h.b 4) fun z=>z.elim ((h.aq 4)) fun e=>e.elim (fun e=>bH (i:=1) h.nd rfl 4 (by decide) rfl e) fun e=>bH (i:=0) h.nd rfl 4 (by decide) rfl e
  ·exact K.blk (h.b 5) fun z=>z.elim ((h.aq 5)) fun e=>e.elim (fun e=>bH (i:=1) h.nd rfl 5 (by decide) rfl e) fun e=>bH (i:=0) h.nd rfl 5 (by decide) rfl e
 ·have ap:∀(i:Nat) (x:Nat×Array Value×TypeId),([(b12,c12,s),(b10,C,j),(b9,X,t9),(b8,c8,t8),(b5,V,t5),(U,c4,t4)]:List (Nat×Array Value×TypeId))[i]?=some x->¬B' x.1:=fun i x f e =>
   (Y _ e).elim (h.ap _ (List.mem_of_getElem? f)) fun e2=>by have:=lt_of_block (h.b i (b:=x.1) (cs:=x.2.1) (t:=x.2.2) f);omega
  simp only[List.mem_cons,List.not_mem_nil,or_false] at f;rcases f with rfl|rfl|rfl|rfl|rfl|rfl
  ·exact ap 0 _ rfl e
  ·exact ap 1 _ rfl e
  ·exact ap 2 _ rfl e
  ·exact ap 3 _ rfl e
  ·exact ap 4 _ rfl e
  ·exact ap 5 _ rfl e
theorem bL.keepT{T:Nat->Prop}(h:bL w B vs ps)(k:aA T w w')(f:∀q,q<4->∀i,(vs q).ownBlock=some i->¬T i):bL w' B vs ps:=fun q b=>(h q b).keepT k (f q b)
theorem bL.upd{k:Nat->Tr}(h:bL w B vs (fun i=>(k i).ptr))(f:aU w B v u.ptr):bL w B (fQ vs d v) (fun i=>(eN k d u i).ptr):=fun q b=>by
 show aU w B (fQ vs d v q) (eN k d u q).ptr
 by_cases e:q=d
 ·subst e;rw[nT,eU];exact f
 ·rw[nU _ _ e,eA _ _ e];exact h q b
theorem Cl.onT{T:Nat->Prop}(h:Cl w w1 B B')(k:aA T w1 w2)(f:∀i,B' i->¬T i):Cl w w2 B B':=fun i b=>(h i b).imp (fun c=>c.keep k (f i b)) id
theorem bE.upon{wd W:World}{U:Nat->Prop}{z:Value}
 (H:e=.returned (.tuple #[.agg (aE v (eJ r)).toArray,.int .i64 (eY r)])) (K:aU W' B' v (eJ r)) (C:KI W' c T B') (I:v=z\/dM w v)
 (b:∀i,B0 i->B i\/w.heap.size≤i) (f:∀i,B' i->B0 i\/W0.heap.size≤i) (h0:aA aB w wd) (j:Cl wd W0 B B0) (F:∀i,B' i->IsC W' i\/i<W0.heap.size/\B0 i/\¬IsC W0 i)
 (x:aA B w W0) (R:aA U W0 W') (E:∀i,U i->B0 i\/w.heap.size≤i):bE w c B z r T e W':=
 ⟨v,B',H,K,C,fun i h=>(f i h).elim (b i) fun e=>.inr (Nat.le_trans x.size e),((Cl.refl w wd B h0).trans j).trans fun i h=>(F i h).imp id fun h=>h.2,I,x.tT R fun i s h=>(E i h).elim (fun h=>(b i h).elim id fun h=>absurd s (by omega)) fun h=>absurd s (by omega)⟩
def sec(b:UInt8):List UInt8:=List.replicate 256 b
theorem gR(b:UInt8):(sec b).length=256:=List.length_replicate
theorem Ha{a b:UInt8}(h:sec a=sec b):a=b:=by
 have:=congrArg (fun l=>l.getD 0 0) h
 simpa [sec] using this
def jE(t:Tr)(bl:Nat->UInt8):Prop:=∀i,i<64->t.blk 3 i=sec (bl i)
theorem jE.hole:jE .hole fun _=>0:=fun i _=>Tr.blk_hole 3 i
theorem Cc(x:S.Bd)(z:Tr.Ok S 3 t)(I:n<64){b:List UInt8}(H:b.length=256)(h:nX S t n b=(r,T)) :
 Beh S T/\∀u,r=some u->Tr.Ok T 3 u/\∀i,i<64->u.blk 3 i=if i=n then b else t.blk 3 i:=by
 unfold nX at h
 by_cases c:t.blk 3 n=b
 ·rw[if_pos c] at h
  injection h with f j
  subst f j;refine⟨Beh.refl x,fun u s=>?_⟩;cases s
  refine⟨z,fun i _=>?_⟩
  by_cases e:i=n
  ·rw[if_pos e,e];exact c
  ·rw[if_neg e]
 ·rw[if_neg c] at h
  obtain⟨f,j⟩:=qI H n (Nat.le_refl 3) x z h;refine⟨f,fun u s=>?_⟩;obtain⟨C,E,-⟩:=j u s;refine⟨C,fun i F=>?_⟩;rw[E,show (4:Nat) ^ 3=64 from rfl,Nat.mod_eq_of_lt F,Nat.mod_eq_of_lt I]
theorem Bi{b:List UInt8}(h:S.room (N+4))(j:b≠zB)(f:t.blk 3 n≠b):∃u T,nX S t n b=(some u,T)/\T.room N/\u.isHole=false:=by
 unfold nX;rw[if_neg f];exact CK j n 3 t h
theorem jE.set(h:jE t bl){b:UInt8}(j:∀i,i<64->u.blk 3 i=if i=n then sec b else t.blk 3 i):jE u fun i=>if i=n then b else bl i:=fun i f=>by
 rw[j i f];show _=sec (if i=n then b else bl i)
 by_cases e:i=n
 ·rw[if_pos e,if_pos e]
 ·rw[if_neg e,if_neg e,h i f]
theorem Pc(z:S.Bd)(E:Tr.Ok S 3 t){f:Nat}(h:bY 3 S t (f:Int) (g:Int)=(r,T)) :
 Beh S T/\∀u,r=some u->Tr.Ok T 3 u/\∀i,i<64->u.blk 3 i=if f≤i/\i<g then zB else t.blk 3 i:=by
 obtain⟨b,j⟩:=tJ (Nat.le_refl 3) z E h;refine⟨b,fun u F=>?_⟩;obtain⟨s,x,-⟩:=j u F;refine⟨s,fun i C=>?_⟩;rw[x,show (4:Nat) ^ 3=64 from rfl,Nat.mod_eq_of_lt C]
 by_cases e:f≤i/\i<g
 ·rw[if_pos e,if_pos (by omega)]
 ·rw[if_neg e,if_neg (by omega)]
theorem jE.cut(h:jE t bl){f:Nat}(j:∀i,i<64->u.blk 3 i=if f≤i/\i<g then zB else t.blk 3 i):jE u fun i=>if f≤i/\i<g then 0 else bl i:=fun i b=>by
 rw[j i b];show _=sec (if f≤i/\i<g then 0 else bl i)
 by_cases e:f≤i/\i<g
 ·rw[if_pos e,if_pos e];rfl
 ·rw[if_neg e,if_neg e,h i b]
structure EdV where
 n:Int
 many:Int
 cut:Bool
 b:UInt8
def EdV.fr(x:EdV):Nat:=(x.n % 64).toNat
def EdV.up(x:EdV):Nat:=min (x.fr+(x.many % 65).toNat) 64
theorem EdV.frLt(x:EdV):x.fr<64:=by
 unfold EdV.fr;have:=Int.emod_lt_of_pos x.n (show (0:Int)<64 by omega);have:=Int.emod_nonneg x.n (show (64:Int)≠0 by omega);omega
theorem EdV.frInt(x:EdV):x.n % 64=(x.fr:Int):=by
 unfold EdV.fr;have:=Int.emod_nonneg x.n (show (64:Int)≠0 by omega);omega
theorem EdV.upInt(x:EdV):min ((x.fr:Int)+x.many % 65) 64=(x.up:Int):=by
 unfold EdV.up;have:=Int.emod_nonneg x.many (show (65:Int)≠0 by omega);omega
theorem EdV.frUp(x:EdV):x.fr≤x.up/\x.up≤64:=by
 have:=x.frLt;unfold EdV.up;omega
def QS(bl:Nat->UInt8)(f g:Nat):Nat->UInt8:=fun i=>if f≤i/\i<g then 0 else bl i
def vG(bl:Nat->UInt8)(n:Nat)(b:UInt8):Nat->UInt8:=fun i=>if i=n then b else bl i
def edB(x:EdV)(bl:Nat->UInt8):Nat->UInt8:=if x.cut then QS bl x.fr x.up else vG bl x.fr x.b
def edR(S:Kor)(t:Tr)(x:EdV):Option Tr×Kor:=if x.cut then bY 3 S t (x.fr:Int) (x.up:Int) else nX S t x.fr (sec x.b)
theorem Bj(j:S.Bd)(z:Tr.Ok S 3 t)(f:jE t bl){x:EdV}(h:edR S t x=(r,T)) :
 Beh S T/\∀u,r=some u->Tr.Ok T 3 u/\jE u (edB x bl):=by
 unfold edR at h;unfold edB;cases s:x.cut with
 | true =>
   rw[s] at h;have q:=Pc j z h;exact⟨q.1,fun u b=>⟨(q.2 u b).1,f.cut (q.2 u b).2⟩⟩
 | false =>
   rw[s] at h;have q:=Cc j z x.frLt (gR x.b) h;exact⟨q.1,fun u b=>⟨(q.2 u b).1,f.set (q.2 u b).2⟩⟩
def blC(bl:Nat->UInt8):List Value:=(List.range 64).map fun i=>vb (bl i)
theorem nY(bl:Nat->UInt8):(blC bl).length=64:=by unfold blC;simp
theorem Pd(bl:Nat->UInt8)(h:i<64):(blC bl)[i]?=some (vb (bl i)):=by
 unfold blC;rw[List.getElem?_map,List.getElem?_range h];rfl
theorem Pe(bl:Nat->UInt8):∀u∈blC bl,u.oneCell'=true:=by
 intro u b;unfold blC at b;obtain⟨i,-,rfl⟩:=List.mem_map.1 b;rfl
theorem Pf(bl:Nat->UInt8)(x:n<64)(b:UInt8):spl (blC bl).toArray n [vb b]=(blC (vG bl n b)).toArray:=by
 show (blC bl).toArray.setIfInBounds n (vb b)=_;rw[List.setIfInBounds_toArray]
 congr 1
 refine List.ext_getElem (by rw[List.length_set,nY,nY]) fun i j s=>?_
 rw[List.getElem_set];have q:∀f h,(blC f)[i]'h=vb (f i):=fun f h=>by simp[blC]
 rw[q,q];unfold vG
 by_cases e:n=i
 ·rw[if_pos e,if_pos e.symm]
 ·rw[if_neg e,if_neg (fun h=>e h.symm)]
theorem Lj(f:Nat->Value)(d n c s l:Int):prog.built 157 [(0,.agg ((List.range 32).map f).toArray),(1,.int .i64 d),(2,.int .i64 n),(3,.int .i64 c),(4,.int .i64 s),(5,.int .i64 l)]=some ((List.range 32).map f++([.int .i64 d,.int .i64 n,.int .i64 c,.int .i64 s,.int .i64 l]:List Value)).toArray:=by kernel_rfl
theorem Lk(L:Lab)(h:L.pool.length=32)(w:World):(Instr.build 157 #[(0,.agg (L.pool.map vb).toArray),(1,.int .i64 L.dev),(2,.int .i64 L.devs),(3,.int .i64 L.copies),(4,.int .i64 L.sectors),(5,.int .i64 L.life)]).run prog w=.ok (.agg L.cells.toArray) w:=by
 refine run_build w 157 _ _ ?_;unfold Lab.cells Lab.nums;rw[B5 (L.pool.map vb) (by rw[List.length_map,h])];exact Lj _ _ _ _ _ _
def iN(b:List UInt8)(Mm:Nat->Nat->List UInt8)(d:Nat):Nat->Nat->Nat->List UInt8
 | 0=>Mm
 | k+1=>gM (iN b Mm d k) d k (if k=0 then b else zB)
theorem Ll(b:List UInt8)(Mm:Nat->Nat->List UInt8)(d:Nat):gM Mm d 0 b=iN b Mm d 1:=rfl
theorem Jf(b:List UInt8)(Mm:Nat->Nat->List UInt8)(d:Nat)(f:0<k):gM (iN b Mm d k) d k zB=iN b Mm d (k+1):=by
 show _=gM (iN b Mm d k) d k (if k=0 then b else zB);rw[if_neg (by omega)]
theorem Bl(b:List UInt8)(Mm:Nat->Nat->List UInt8)(d:Nat):∀k,0<k->iN b Mm d k d 0=b
 | 1,_=>by show gM Mm d 0 b d 0=b;unfold gM;rw[if_pos ⟨rfl,rfl⟩]
 | k+2,_=>by
   show gM (iN b Mm d (k+1)) d (k+1) _ d 0=b;unfold gM;rw[if_neg (by omega)];exact Bl b Mm d (k+1) (by omega)
theorem zK(b:List UInt8)(Mm:Nat->Nat->List UInt8)(d:Nat){e s:Nat}(h:e≠d):∀k,iN b Mm d k e s=Mm e s
 | 0=>rfl
 | k+1=>by
   show gM (iN b Mm d k) d k _ e s=_;unfold gM;rw[if_neg (by omega)];exact zK b Mm d h k
def Fe(w:World)(a:Nat)(B:Nat->Prop)(D Z:Nat)(Mm:Nat->Nat->List UInt8)(nw d:Nat)(b:List UInt8)(k:Nat)(w':World):Prop:=
 ∃B',bQ w' a B' D Z (iN b Mm d k) (nw+k)/\(∀i,B' i->B i\/w.heap.size≤i)/\aA B w w'
theorem Fe.next{b f:List UInt8}(s:∀i,B' i->B i\/w.heap.size≤i)(z:aA B w w1)(h:kB w1 a B' D Z (iN b Mm d k) (nw+k) d k f e w2)(H:gM (iN b Mm d k) d k f=iN b Mm d (k+1)):Fe w a B D Z Mm nw d b (k+1) w2:=by
 obtain⟨-,C,j,E,F⟩:=h;rw[H] at j;refine⟨C,j,fun i x=>?_,z.tT F fun i x e=>?_⟩
 ·rcases E i x with h|h
  ·exact s i h
  ·exact .inr (Nat.le_trans z.size h)
 ·rcases s i e with h|h
  ·exact h
  ·omega
def Ff(w:World)(a:Nat)(B:Nat->Prop)(D Z:Nat)(Mm:Nat->Nat->List UInt8)(nw d:Nat)(b:List UInt8)(e:Ending)(w':World):Prop:=
 e=.returned (.int .i64 0)/\∃B' f,bQ w' a B' D Z (iN b Mm d 5) f/\f≤nw+5/\(∀k,B' k->B k\/w.heap.size≤k)/\aA B w w'
theorem Ns{t:Lst}(h:bD w c a m pid cp lv gv t)(ha:bQ w a B D Z Mm nw)(hd:d<D)(qw:¬B c)(qz:∀i,B i->¬t.Own i)(qj:1≤cp/\cp≤3/\cp≤D)(hn:nw<1000000):Calls prog 47 #[.pointer c,.int .i64 (d:Int),.int .i64 0] w (Ff w a B D Z Mm nw d (eC (dJ pid d D cp Z))):=by
 have qh:=ha.bd;have HM:Hid ((dJ pid d D cp Z).may=true):=O (vA hd qh qj.1 qj.2.1 qj.2.2);have qn:=O h.idl;have zg:(pid.map vb).length=32:=by rw[List.length_map];exact h.idl
 have qm:=O (fun w=>Lk (dJ pid d D cp Z) h.idl w);have qe:=O (xO (dJ pid d D cp Z) h.idl HM.out);obtain⟨b,qi⟩:=zX9 (eC (dJ pid d D cp Z))
 obtain⟨lc,ql⟩:=zX9 ((dJ pid d D cp Z).cells)
 have za:=O ql;have q3:=O qi;rw[qi] at qe ⊢;rw[ql] at qm;have Y:=O h;have K:=O ha;have HD:=O hd;have q9:=O qw;have zf:=O qz;have q0:=K;have q5:=Y;have f:=lN w;have zj:8≤Z:=qh.2.2.1;clear h ha qi ql qh qw qz;go_in;go_wp2_with fail;refine dwA aB (by kernel_rfl) ?_;intro w1 S H qa z qc;replace f:=kL f qc;replace Y:=O (Y.keep0 qc);replace K:=O (K.keep0 qc);clear qc;have zb:=f;have V:=Y;have q1:=K;refine tna 0 (.pointer c) rfl z ?_;refine tnb 1 (.pointer c) rfl z ?_;refine tnb 2 (.pointer (some ⟨c,2,none⟩)) rfl z ?_;refine tnd 3 (.agg (pid.map vb).toArray) rfl (yieldsIf_load_mid (by rfl) 28 (.tmp 14) rfl c 2 rfl (pid.map vb) _ (fun w' h=>(H w' h).rangeAt (bD.id_ V.out)) underlying28 rfl (by rw[zg];exact xD)) z ?_;refine tna 4 (.int .i64 (d:Int)) rfl z ?_;refine tna 5 (.pointer c) rfl z ?_;refine tnb 6 (.pointer c) rfl z ?_;refine tnb 7 (.pointer c) rfl z ?_;refine tnd 8 (.pointer a) rfl (.inl ⟨by rfl,fun w' X=>by have c:World.cell? w' ⟨c,0,none⟩=some (.pointer a):=(H w' X).cell (bD.c0 V.out) id;go_simp⟩) z ?_;refine tna 10 (.pointer c) rfl z ?_;refine tnb 11 (.pointer c) rfl z ?_;refine tnb 12 (.pointer (some ⟨c,34,none⟩)) rfl z ?_;refine tnd 13 (.int .i64 (cp:Int)) rfl (.inl ⟨by rfl,fun w' X=>by have c:World.cell? w' ⟨c,34,none⟩=some (.int .i64 (cp:Int)):=(H w' X).cell (bD.cp_ V.out) id;go_simp⟩) z ?_;refine tna 14 (.pointer c) rfl z ?_;refine tnb 15 (.pointer c) rfl z ?_;refine tnb 16 (.pointer c) rfl z ?_;refine tnd 17 (.pointer a) rfl (.inl ⟨by rfl,fun w' X=>by have c:World.cell? w' ⟨c,0,none⟩=some (.pointer a):=(H w' X).cell (bD.c0 V.out) id;go_simp⟩) z ?_;refine tna 19 (.int .i64 0) rfl z ?_;refine wA9 9 ?_;go_wp2_with fail;refine(lJ K.out).mono ?_;rintro e w2 ⟨rfl,x⟩;have qf:=qa.out _ ((H _ z).trans x);replace f:=kL f x;replace Y:=O (Y.keep0 x);replace K:=O (K.keep0 x);clear z x;go_wp2_with fail;refine⟨qf,?_⟩;refine wA9 18 ?_;go_wp2_with fail;refine(xJ K.out).mono ?_;rintro e w3 ⟨rfl,x⟩;have qb:=qa.out _ ((H _ qf).trans x);replace f:=kL f x;replace Y:=O (Y.keep0 x);replace K:=O (K.keep0 x);clear qf x;go_wp2_with fail;refine⟨qb,?_⟩;refine tnd 20 (.agg lc.toArray) rfl (fC 157 #[(0,.tmp 15),(1,.tmp 16),(2,.tmp 21),(3,.tmp 25),(4,.tmp 30),(5,.tmp 31)] [(0,.agg (pid.map vb).toArray),(1,.int .i64 (d:Int)),(2,.int .i64 (D:Int)),(3,.int .i64 (cp:Int)),(4,.int .i64 (Z:Int)),(5,.int .i64 0)] (.agg lc.toArray) qm.out) qb ?_;refine wA9 21 ?_;go_wp2_with fail;have qo:=O f.keep.size;refine((by rw[←za.out];exact EX (dJ pid d D cp Z) qn.out w3:Ka w3 (EW w3 (dJ pid d D cp Z)))).mono ?_;rintro e w4 ⟨v1,rfl,ho,x⟩;rw[HM.out,if_pos rfl];rw[q3.out,qe.out] at ho;obtain⟨la,U,rfl,-,-⟩:=(Rd.of_owns ho).form;have HO:=O ho;clear ho;have I:=qa.out _ ((H _ qb).trans x);replace f:=kL f x;replace Y:=O (Y.keep0 x);replace K:=O (K.keep0 x);clear qb x;go_wp2_with fail;refine⟨I,?_⟩;refine tna 22 (.tuple #[.slice la 256 U,.int .i64 0]) rfl I ?_;refine tnb 23 (.slice la 256 U) rfl I ?_;refine tnb 24 (.int .i64 0) rfl I ?_;refine tna 25 (.slice la 256 U) rfl I ?_;refine tna 26 (.int .i64 0) rfl I ?_;refine wpAnyH_done (by kernel_rfl) ?_ _;clear I H qa zb V q1;go_wp2_with fail;have qp:=O f.keep;have ze:Hid (∀i,(Value.slice la 256 U).ownBlock=some i->¬B i):=O (fun i hi e=>by have h1:=aW HO.out hi;have h2:=q0.lt e;have h3:=qo.out;omega);clear f
 go_loopw [7,39] (fun u i wr=>∃k:Nat,k≤5/\i=.int .i64 k/\(∃ua un uc,u=.slice ua un uc/\((k=0/\la=ua/\256=un/\U=uc)\/0<k))/\Hid (Fe w a B D Z Mm nw d b k wr)/\Hid (k=0->aA aB w4 wr)) (fun _ i _=>5-(intOf i).toNat)
 case atStart=>exact⟨0,by omega,rfl,⟨_,_,_,rfl,.inl ⟨rfl,rfl,rfl,rfl⟩⟩,O ⟨B,K.out,fun i h=>.inl h,qp.any⟩,O fun _=>aA.refl _ _⟩
 case round =>
  obtain⟨k,x,rfl,⟨ua,un,uc,rfl,hu⟩,HI,qd⟩:=hrel;obtain⟨B2,qg,qr,qk⟩:=HI.out;have j:=O qg;have C:=O qr;have E:=O qk;have F:=O (q5.keep qk q9.out zf.out);have R:=O (fun i (e:B2 i)=>qg.lt e);clear qg qr qk HI
  by_cases zm:k<5
  ·have zk:(0:Int)≤(k:Int):=by omega
   have zl:(k:Int)<5:=by omega
   have f:=lN wr;rcases hu with⟨rfl,rfl,rfl,rfl⟩|zh
   ·clear j C E R
    have j:=O (K.keep0 (qd.out rfl));have C:Hid (∀i,B i->B i\/w.heap.size≤i):=O (fun i h=>.inl h);have E:Hid (aA B w wr):=O (qp.trans (qd.out rfl)).any;have R:=O (fun i (e:B i)=>j.lt e);have zd:=O ((qd.out rfl).owns HO.out fun _ _=>id);have c1:wr.cell? ⟨c,0,none⟩=some (.pointer a):=(bD.c0 F.out)
    go_wp2_with fail;clear c1;refine(qA (s:=0) j.out HD.out (by omega) b qe.out (.slice la 256 U) (Rd.of_owns zd.out) ze.out (by omega)).mono ?_;rintro e w5 hm;have HE:=O (Fe.next C.out (E.trans f.keep.any) hm (Ll b Mm d));obtain⟨rfl,-⟩:=hm;clear f F j C E R;go_wp2
    go_roundw
    case rel=>exact⟨0+1,by omega,by go_num,⟨_,_,_,rfl,.inr (by omega)⟩,HE,O fun h=>by omega⟩
    case measure=>simp[intOf]
   ·have zn:(0:Int)<(k:Int):=by omega
    go_wp2_with ((with_reducible show WL _ _);refine mkz (.const (.int .i64 256)) (.const (.int .i64 256)) ?_)
    intro qq w5 qv x hb;replace f:=lW f qv x hb;replace F:=O (F.keep0 x);replace j:=O (j.keep0 x);clear qv x hb;have c1:w5.cell? ⟨c,0,none⟩=some (.pointer a):=(bD.c0 F.out)
    go_wp2_with fail;clear c1;refine(qA (s:=k) j.out HD.out (by omega) zB rfl (.slice qq 256 256) (Rd.of_owns (nS (base:=0) (f.b 0) rfl (Nat.zero_le _))) (fun i hi e=>by have h8:=R.out _ e;have h9:=(f.lt 0).1;have h7:i=qq:=(by cases hi;rfl);omega) (by omega)).mono ?_;rintro e w6 hm;have HE:=O (Fe.next C.out (E.trans f.keep.any) hm (Jf b Mm d zh));obtain⟨rfl,-⟩:=hm;clear f F j C E R;go_wp2
    go_roundw
    case rel=>exact⟨k+1,by omega,by go_num,⟨_,_,_,rfl,.inr (by omega)⟩,HE,O fun h=>by omega⟩
    case measure=>simp[intOf];omega
  ·obtain rfl:k=5:=by omega
   clear hu;have f:=lN wr;have c1:wr.cell? ⟨c,0,none⟩=some (.pointer a):=(bD.c0 F.out)
   go_wp2_with fail;clear c1;refine(A5 j.out HD.out (by omega)).mono ?_;rintro e w5 ⟨rfl,B3,zi,qu,qy,qt,qx⟩;have HP:Hid (Ff w a B D Z Mm nw d b (.returned (.int .i64 0)) w5):=O ⟨rfl,B3,zi,qu,qy,fun i hi=>(qt i hi).elim (C i) (fun h=>.inr (Nat.le_trans (E.trans f.keep.any).size h)),(E.trans f.keep.any).tT qx (fun i hi e=>(C i e).elim id fun h=>by omega)⟩;clear qu qy qt qx f F j C E R;go_wp2;go_ret;exact HP.out
theorem Qg(x:2≤D/\D≤8/\8≤Z/\Z≤4096)(v:Value)(j:Rd w 2 v 0 []):Calls prog 91 #[.int .i64 (D:Int),.int .i64 (Z:Int),v] w (fun e w'=>∃g b s,e=.returned (.tuple #[.pointer (some ⟨g,0,none⟩),.int .i64 0])/\dD w' w.heap.size g b s D Z []/\aA aB w w'):=by
 refine(Jg w (D:Int) (Z:Int) v [] j).mono fun e w' h=>?_
 have f:vH (D:Int) (Z:Int) []=true:=by unfold vH;simp;omega
 unfold qK at h;rw[if_pos f] at h;exact h
def Jh(w:World)(D Z:Nat)(e:Ending)(w':World):Prop:=∃g b f,e=.returned (.tuple #[.pointer (some ⟨g,0,none⟩),.int .i64 0])/\dD w' w.heap.size g b f D Z []/\aA aB w w'
def C4(w:World)(c a m:Nat)(pid:List UInt8)(cp:Nat)(lv:Value)(D Z:Nat)(e:Ending)(w':World):Prop:=
 e=.returned (.tuple #[])/\∃g b f,bD w' c a m pid cp lv (.pointer (some ⟨g,0,none⟩)) pP/\dD w' 0 g b f D Z []/\(∀k,Own g b f D k->w.heap.size≤k)/\aA (fun k=>k=c) w w'
theorem Qh(a m:Nat)(pid:List UInt8)(j:pid.length=32)(cp:Nat)(lv gv b:Value)(t:Lst):spl (fL a m pid cp lv gv t).toArray 36 [b]=(fL a m pid cp lv b t).toArray:=by
 have h:=kY (.pointer a::.pointer m::(pid.map vb++[.int .i64 (cp:Int),lv])) [gv] [b] (t.ov::t.vv::iJ t) rfl;have f:(.pointer a::.pointer m::(pid.map vb++[.int .i64 (cp:Int),lv])).length=36:=by simp[j]
 rw[f] at h;unfold fL
 simpa [List.append_assoc] using h
theorem Qi(a m:Nat)(pid:List UInt8)(j:pid.length=32)(cp:Nat)(lv b gv:Value)(t:Lst):spl (fL a m pid cp lv gv t).toArray 35 [b]=(fL a m pid cp b gv t).toArray:=by
 have h:=kY (.pointer a::.pointer m::(pid.map vb++[.int .i64 (cp:Int)])) [lv] [b] (gv::t.ov::t.vv::iJ t) rfl;have f:(.pointer a::.pointer m::(pid.map vb++[.int .i64 (cp:Int)])).length=35:=by simp[j]
 rw[f] at h;unfold fL
 simpa [List.append_assoc] using h
def lE(w:World)(c a m:Nat)(pid:List UInt8)(cp:Nat)(lv:Value):Prop:=∃gv,bD w c a m pid cp lv gv pP
theorem lE.keep0(h:lE w c a m pid cp lv)(k:aA aB w w'):lE w' c a m pid cp lv:=h.imp fun _ h=>h.keep0 k
theorem lE.c0(h:lE w c a m pid cp lv):w.cell? ⟨c,0,none⟩=some (.pointer a):=h.elim fun _ h=>h.c0
theorem lE.old_(h:lE w c a m pid cp lv):w.cell? ⟨c,37,none⟩=some (.slice none 0 0):=h.elim fun _ h=>h.old_
theorem lE.live_(h:lE w c a m pid cp lv):w.cell? ⟨c,38,none⟩=some (.slice none 0 0):=h.elim fun _ h=>h.live_
theorem dD.low{lo b j:Nat}{s:Nat->Option Nat}{L:List Ad}(h:dD w lo g j s D Z L)(f:b≤lo):dD w b g j s D Z L:=⟨h.top,h.words,h.chans,h.inj,h.bd,Nat.le_trans f h.lo.1,Nat.le_trans f h.lo.2.1,fun d k x z=>Nat.le_trans f (h.lo.2.2 d k x z)⟩
theorem Ln(h:bD w c a m pid cp lv gv pP)(ha:bQ w a B D Z Mm nw)(qf:¬B c):Calls prog 48 #[.pointer c] w (C4 w c a m pid cp lv D Z):=by
 have qe:=ha.bd;have qi:=O qe;have I:=O h.idl;have qb:=O (lt_of_block h.top);have z:=O h;have F:=O ha;have H:=lN w;have qn:Hid (∀i,i=c->¬B i):=O fun i e=>e▸qf
 clear h ha qe qf;go_in;go_wp2_with fail;obtain⟨S,U⟩:∃S:World->Prop,S=fun w'=>aA (fun k=>k=c) w.drew w'/\lE w' c a m pid cp lv:=⟨_,rfl⟩
 have f:=O (show ∀w',S w'->aA (fun k=>k=c) w.drew w'/\lE w' c a m pid cp lv from fun w' h=>by rw[U] at h;exact h);have C:=O (show ∀w',aA (fun k=>k=c) w.drew w'/\lE w' c a m pid cp lv->S w' from fun w' h=>by rw[U];exact h);have j:S w.drew:=by rw[U];exact⟨aA.refl _ _,_,z.keep0 (aA.refl aB w).drew⟩
 have K:=(aA.refl aB w).drew;clear U;refine wp_region_held (S:=S) (by kernel_rfl) ?_;change wpAnyH _ _ _ _ _ _ _ _ w.drew;generalize w.drew=w1 at f C j K ⊢;replace H:=kL H K;replace z:=O (z.keep0 K);replace F:=O (F.keep0 K);clear K;have ql:=H;have qj:=z;have qh:=F;refine tna 0 (.pointer c) rfl j ?_;refine tna 1 (.pointer c) rfl j ?_;refine tnb 2 (.pointer c) rfl j ?_;refine tnb 3 (.pointer c) rfl j ?_;refine tnd 4 (.pointer a) rfl (.inl ⟨by rfl,fun w' E=>by have c:World.cell? w' ⟨c,0,none⟩=some (.pointer a):=lE.c0 (f w' E).2;go_simp⟩) j ?_;refine tna 6 (.pointer c) rfl j ?_;refine tnb 7 (.pointer c) rfl j ?_;refine tnb 8 (.pointer c) rfl j ?_;refine tnd 9 (.pointer a) rfl (.inl ⟨by rfl,fun w' E=>by have c:World.cell? w' ⟨c,0,none⟩=some (.pointer a):=lE.c0 (f w' E).2;go_simp⟩) j ?_;refine tna 11 (.pointer c) rfl j ?_;refine tnb 12 (.pointer c) rfl j ?_;refine tnb 13 (.pointer (some ⟨c,37,none⟩)) rfl j ?_;refine tnd 14 (.slice none 0 0) rfl (.inl ⟨by rfl,fun w' E=>by have c:World.cell? w' ⟨c,37,none⟩=some (.slice none 0 0):=lE.old_ (f w' E).2;go_simp⟩) j ?_;refine tna 15 (.pointer c) rfl j ?_;refine tnb 16 (.pointer c) rfl j ?_;refine tnb 17 (.pointer (some ⟨c,38,none⟩)) rfl j ?_;refine tnd 18 (.slice none 0 0) rfl (.inl ⟨by rfl,fun w' E=>by have c:World.cell? w' ⟨c,38,none⟩=some (.slice none 0 0):=lE.live_ (f w' E).2;go_simp⟩) j ?_;refine wA9 5 ?_;go_wp2_with fail;refine(lJ F.out).mono ?_;rintro e w2 ⟨rfl,b⟩;have V:=C.out _ ⟨(f _ j).1.trans b.any,(f _ j).2.keep0 b⟩;replace H:=kL H b;replace z:=O (z.keep0 b);replace F:=O (F.keep0 b);clear j b;go_wp2_with fail;refine⟨V,?_⟩;refine wA9 10 ?_;go_wp2_with fail;refine(xJ F.out).mono ?_;rintro e w3 ⟨rfl,b⟩;have X:=C.out _ ⟨(f _ V).1.trans b.any,(f _ V).2.keep0 b⟩;replace H:=kL H b;replace z:=O (z.keep0 b);replace F:=O (F.keep0 b);clear V b;go_wp2_with fail;refine⟨X,?_⟩;refine wA9 19 ?_;go_wp2_with fail;refine(Lm w3 (.slice none 0 0) (.slice none 0 0) [] [] (fun x hx=>by cases hx) (fun x hx=>by cases hx) (Rd.nil _ _) (Rd.nil _ _) (by decide)).mono ?_;rintro e w4 ⟨v1,rfl,ho,b⟩;have e0:(iB ([]++[]:List Ad))=[]:=List.eq_nil_iff_forall_not_mem.2 (fun x hx=>by rw[wM] at hx;cases hx);rw[e0] at ho;obtain⟨ua,uc,qg,-,-⟩:=(Rd.of_owns ho).form;have qm:v1=.slice ua 0 uc:=qg;clear qg e0;subst qm;have HO:=O ho;clear ho;have Y:=C.out _ ⟨(f _ X).1.trans b.any,(f _ X).2.keep0 b⟩;replace H:=kL H b;replace z:=O (z.keep0 b);replace F:=O (F.keep0 b);clear X b;go_wp2_with fail;refine⟨Y,?_⟩;refine wA9 20 ?_;go_wp2_with fail;have qc:=O H.keep.size;refine((Qg qi.out _ (Rd.of_owns HO.out):Ka w4 (Jh w4 D Z))).mono ?_;rintro e w5 ⟨g,b2,lc,rfl,qa,b⟩;have R:=O qa;have qo:=O (lt_of_block z.top);clear qa;have s:=C.out _ ⟨(f _ Y).1.trans b.any,(f _ Y).2.keep0 b⟩;replace H:=kL H b;replace z:=O (z.keep0 b);replace F:=O (F.keep0 b);replace HO:=O (b.owns HO.out fun _ _=>id);clear Y b;go_wp2_with fail;refine⟨s,?_⟩;refine tna 21 (.tuple #[.pointer g,.int .i64 0]) rfl s ?_;refine tnb 22 (.pointer g) rfl s ?_;refine tnb 23 (.int .i64 0) rfl s ?_;refine tnb 24 (.pointer c) rfl s ?_;refine tnb 25 (.pointer (some ⟨c,36,none⟩)) rfl s ?_;refine wA9 26 ?_;refine sta 109 (.tmp 27) (.tmp 24) c 36 [.pointer g] z.top (by rw[List.size_toArray,uZ I.out rfl];simp) (by kernel_rfl) (one9) ?_;intro w6 b hb;rw[Qh _ _ _ I.out] at hb;have qd:S w6:=C.out _ ⟨(f _ s).1.trans b,_,hb,I.out,mO.zero _⟩;have qk:Hid (∀i,i=c->¬Own g b2 lc D i):=O (by rintro i rfl e;have:=(R.own_lt e).1;have:=qb.out;have:=qc.out;omega);have HP:Hid (C4 w c a m pid cp lv D Z (.returned (.tuple #[])) w6):=O ⟨rfl,g,b2,lc,⟨hb,I.out,mO.zero _⟩,(R.keep b qk.out).low (Nat.zero_le _),fun k e=>by have:=(R.own_lt e).1;have:=qc.out;omega,H.keep.any.trans b⟩;clear s b hb;refine wpList_nil ?_;refine⟨qd,?_⟩;refine wpAnyH_done (by kernel_rfl) ?_ _;clear qd f C ql qj qh;clear z F H HO R;go_wp2_with fail
 go_end0
 exact HP.out
theorem mkD(w:World)(D:Nat)(h:D≤8):(Instr.makeSlice 48 (.int .i64 (D:Int)) (.int .i64 (D:Int))).run prog w=.ok (.slice (w.heap.size) D D) (w.alloc (.cells (Array.replicate D (Value.int .i64 0)) 3)):=by
 rcases D with _|_|_|_|_|_|_|_|_|D
 ·kernel_rfl
 ·kernel_rfl
 ·kernel_rfl
 ·kernel_rfl
 ·kernel_rfl
 ·kernel_rfl
 ·kernel_rfl
 ·kernel_rfl
 ·kernel_rfl
 ·omega
theorem mkd{o:Oper}{a:Act}(x y:Operand)(D:Nat)(f:D≤8)(h:∀b w',w.heap.size=b->aA aB w w'->w'.heap[b]?=some (.cells (Array.replicate D (Value.int .i64 0)) 3 (0,0))->wpList prog ops Q vN (a.put o.dst (.slice (some ⟨b,0,none⟩) D D)) w')(C:a.eval x=.int .i64 (D:Int):=by rfl)(E:a.eval y=.int .i64 (D:Int):=by rfl)(s:o.guard=none:=by rfl)(z:o.op=.makeSlice 48 x y:=by rfl):wpList prog ops Q (o::vN) a w:=by
 refine wpList_plain s fun K j=>?_
 unfold Oper.wp execOp;simp only[z,C,E,Sem.run_bind,mkD w D f,Result.andThen_ok];exact j _ _ (h _ _ rfl ((aA.refl _ _).alloc _) (heap_alloc_new _ _))
def Fg(P:Nat->List UInt8)(Mm:Nat->Nat->List UInt8):Nat->Nat->Nat->List UInt8
 | 0=>Mm
 | k+1=>iN (P k) (Fg P Mm k) k 5
theorem C5(P:Nat->List UInt8)(Mm:Nat->Nat->List UInt8):∀(k d:Nat),d<k->Fg P Mm k d 0=P d
 | 0,d,h=>by omega
 | k+1,d,h=>by
   show iN (P k) (Fg P Mm k) k 5 d 0=P d
   by_cases e:d=k
   ·subst e;exact Bl _ _ _ 5 (by decide)
   ·rw[zK _ _ _ e];exact C5 P Mm k d (by omega)
def DvI(w:World)(a:Nat)(B:Nat->Prop)(D Z:Nat)(P:Nat->List UInt8)(Mm:Nat->Nat->List UInt8)(nw k:Nat)(w':World):Prop:=
 ∃B' b,bQ w' a B' D Z (Fg P Mm k) b/\b≤nw+5*k/\(∀i,B' i->B i\/w.heap.size≤i)/\aA B w w'
def sV(w:World)(B:Nat->Prop)(D Z cp:Nat)(e:Ending)(w':World):Prop:=
 ∃c M B',e=.returned (.tuple #[.pointer (some ⟨c,0,none⟩),.int .i64 0])/\KI w' c ⟨D,Z,cp,[],M,0⟩ B'/\(∀k,B' k->B k\/w.heap.size≤k)/\aA B w w'
theorem Gp(ha:bQ w a B D Z Mm nw)(pid:List UInt8)(qb:pid.length=32)(cp:Nat)(zm:1≤cp/\cp≤3/\cp≤D)(hn:nw≤1000):Calls prog 20 #[.pointer a,.agg (pid.map vb).toArray,.int .i64 (cp:Int)] w (sV w B D Z cp):=by
 have zl:=ha.bd;have R:=O zl;have zo:(pid.map vb).length=32:=by rw[List.length_map];exact qb
 have K:=O qb;have Y:=O zm;have qu:=O (fun i (e:B i)=>ha.lt e);have s:=O ha;have f:=lN w;have zt:¬((D:Int)=0):=by omega
 have zu:¬((cp:Int)<1):=by omega
 have zv:¬((3:Int)<(cp:Int)):=by omega
 have zw:¬((D:Int)<(cp:Int)):=by omega
 clear ha qb;go_in
 go_wp2_with refine bxM f (#[.pointer a]) ?_
 intro b3 w1 b f;replace s:=O (s.keep0 b);clear b
 go_wp2_with refine bxM f ((pid.map vb).toArray) ?_
 intro b4 w2 b f;replace s:=O (s.keep0 b);clear b;have c1:=cD f 1
 go_wp2_with fail;clear c1;refine(lJ s.out).mono ?_;rintro e w3 ⟨rfl,b⟩;replace f:=kL f b;replace s:=O (s.keep0 b);clear b;have c1:=cD f 1
 go_wp2_with fail;clear c1;refine(lJ s.out).mono ?_;rintro e w4 ⟨rfl,b⟩;replace f:=kL f b;replace s:=O (s.keep0 b);clear b;have c1:=cD f 1
 go_wp2_with fail;clear c1;refine(CQ s.out).mono ?_;rintro e w5 ⟨rfl,b⟩;replace f:=kL f b;replace s:=O (s.keep0 b);clear b;have c1:=cD f 1
 go_wp2_with ((with_reducible show WL _ _);refine ldR (f.b 0) underlying28 (by rw[zo];exact xD) ?_)
 clear c1;have qw:=O f.keep.size;refine(Ng s.out pid K.out cp).mono ?_;rintro e w6 ⟨c,m,rfl,hc,hm,za,zf,ze,b⟩;have HC:=O hc;have HM:=O hm;have H:=O (And.intro (Nat.le_trans qw.out za) (Nat.le_trans qw.out zf));have qk:=O ze;clear hc hm za zf ze;replace f:=kL f b;replace s:=O (s.keep0 b);clear b;go_wp2_with fail;have qv:=O f.keep.size;refine(rZ HC.out s.out).mono ?_;rintro e w7 ⟨v1,rfl,ho,b⟩;obtain⟨va,vc,rfl,-,-⟩:=(Rd.of_owns ho).form;have HO:=O ho;clear ho;replace f:=kL f b;replace s:=O (s.keep0 b);replace HC:=O (HC.keep0 b);replace HM:=O (b.blk HM.out id);clear b;go_wp2_with fail;refine(Gi w7 (.slice va D vc) ((List.range D).map fun(i:Nat)=>(i:Int)) (by rw[List.length_map,List.length_range,List.map_map];exact Rd.of_owns HO.out) (by rw[List.length_map,List.length_range];omega) 45 b3 (enters_of func45 (by kernel_rfl) rfl) (fun x hx w' k=>by obtain⟨i,hi,rfl⟩:=List.mem_map.1 hx;have hi:=List.mem_range.1 hi;exact Gh (s.keep0 k) (k.blk (f.b 1) id) (i:Int) (by omega) (by omega))).mono ?_;rintro e w8 ⟨rfl,b⟩;replace f:=kL f b;replace s:=O (s.keep0 b);replace HC:=O (HC.keep0 b);replace HM:=O (b.blk HM.out id);replace HO:=O (b.owns HO.out fun _ _=>id);clear b;have zk:Hid (∀i,(Value.slice va D vc).ownBlock=some i->w.heap.size≤i):=O (fun i hi=>by have:=aW HO.out hi;have:=qv.out;omega);go_wp2_with fail;have U:=O (fun i (h:w.heap.size≤i) (e:B i)=>show False from by have:=qu.out i e;omega);have qp:=O (f.b 1);have zi:=O (f.lt 1).1;have qa:=O f.keep;have X:=O (lt_of_block HC.top);have qf:=O (lt_of_block HM.out);obtain⟨W0,qz⟩:=zX9 w8
 rw[qz] at HC HM s HO qp qa X qf ⊢;clear f qz;have z0:=qu
 go_loopw [46] (fun i wr=>∃k:Nat,k≤D/\i=.int .i64 k/\Hid (DvI W0 a B D Z (fun d=>eC (dJ pid d D cp Z)) Mm nw k wr)) (fun i _=>D-(intOf i).toNat)
 case atStart=>exact⟨0,by omega,rfl,O ⟨B,nw,s.out,by omega,fun i h=>.inl h,aA.refl _ _⟩⟩
 case round =>
  obtain⟨k,b,rfl,HI⟩:=hrel;obtain⟨B2,zh,q0,zg,qe,V⟩:=HI.out;have j:=O q0;have ql:=O zg;have qc:=O qe;have I:=O V;have F:=O (HC.keep V (U _ H.1) (fun _ _=>rC));have E:Hid (eV wr m a):=O (V.blk HM.out (U _ H.2));have qm:=O (V.owns HO.out fun i hi=>U.out _ (zk i hi));have z:=O (V.blk qp.out (U _ zi.out));have C:Hid (¬B2 c/\¬B2 m):=O ⟨fun e=>(qe c e).elim (U _ H.1) fun h=>by have:=X.out;omega,fun e=>(qe m e).elim (U _ H.2) fun h=>by have:=qf.out;omega⟩;clear q0 zg qe V HI
  by_cases zd:k<D
  ·have zx:(0:Int)≤(k:Int):=by omega
   have zy:(k:Int)<(D:Int):=by omega
   obtain⟨g,o,zq,hv,q3⟩:=oM (Rd.of_owns qm.out) (lX zd)
   have zz:(k:Int)<(vc:Int):=by
    obtain⟨_,a',c',h1,h2,h3,-⟩:=Rd.of_owns qm.out;cases h1;omega
   have zr:=O hv;obtain rfl:va=some ⟨g,o,none⟩:=by cases hv;rfl
   have HX:=O q3;clear hv q3;have c1:wr.cell? ⟨g,o+k,none⟩=some (.int .i64 (k:Int)):=HX.out;go_wp2_with fail;clear c1;refine(Ns F.out j.out zd C.1 (fun _ _=>rC) Y.out (by have:=ql.out;omega)).mono ?_;rintro e w5 ⟨rfl,B3,zp,q1,zn,qx,zb⟩;have HE:Hid (DvI W0 a B D Z (fun d=>eC (dJ pid d D cp Z)) Mm nw (k+1) w5):=O ⟨B3,zp,q1,by have:=ql.out;omega,fun i hi=>(qx i hi).elim (qc i) (fun h=>.inr (Nat.le_trans I.size h)),I.tT zb (fun i hi e=>(qc i e).elim id fun h=>by omega)⟩;clear q1 zn qx zb F E qm z j qc I HX;go_wp2
   go_roundw
   case rel=>exact⟨k+1,by omega,by go_num,HE⟩
   case measure=>simp[intOf];omega
  ·obtain rfl:D=k:=by omega
   have f:=lN wr;have zj:=O (fun i (e:B2 i)=>j.lt e);have qy:D≤8:=R.2.1;have c1:wr.cell? ⟨b3,0,none⟩=some (.pointer a):=(aC (i:=0) z.out rfl)
   go_wp2_with fail;clear c1;refine(lJ j.out).mono ?_;rintro e we ⟨rfl,b⟩;replace f:=kL f b;replace j:=O (j.keep0 b);replace F:=O (F.keep0 b);replace E:=O (b.blk E.out id);replace z:=O (b.blk z.out id);clear b
   go_wp2_with ((with_reducible show WL _ _);refine mkd (.tmp 59) (.tmp 59) D qy ?_)
   intro qn wf q5 b hb;replace f:=lW f q5 b hb;replace j:=O (j.keep0 b);replace F:=O (F.keep0 b);replace E:=O (b.blk E.out id);replace z:=O (b.blk z.out id);clear q5 b hb;have qt:=O f.keep;have qq:=O (f.b 0);have qd:=O (f.lt 0).1
   go_wp2_with ((with_reducible show WL _ _);refine sta 48 (.tmp 62) (.tmp 60) c 35 [.slice qn D D] F.top (by rw[List.size_toArray,uZ K.out rfl];simp) (by kernel_rfl) (one9) ?_)
   intro w8 b hb;rw[Qi _ _ _ K.out] at hb;have qr:Hid (bD w8 c a m pid cp (.slice qn D D) (.pointer none) pP):=O ⟨hb,K.out,mO.zero _⟩;have qh:=O (And.intro X.out I.size);have qj:=O (b.blk qq.out (fun e=>by have:=qd.out;have:=qh.out;omega));replace j:=O (j.keep b (by rintro i rfl;exact C.1));replace E:Hid (eV w8 m a):=O (b.blk E.out (fun e=>by have:=qk.out;omega));have qi:Hid (aA (fun i=>i=c) wr w8):=O (qt.any.trans b);clear b hb f F z qt qq;go_wp2_with fail;refine(Ln qr.out j.out C.1).mono ?_;rintro e w9 ⟨rfl,g,b2,lc,q9,qg,qo,b⟩
   have HP:Hid (sV w B D Z cp (.returned (.tuple #[.pointer c,.int .i64 0])) w9):=by
    refine O ⟨c,Fg (fun d=>eC (dJ pid d D cp Z)) Mm D,_,rfl,⟨⟨R.1,R.2.1,R.2.2.1,R.2.2.2,Y.1,Y.2.1,Y.2.2,(by show (0:Int)≤0;decide),(by show (0:Int)<2147483648;decide)⟩,a,m,qn,g,b2,lc,pid,B2,zh,pP,rfl,⟨⟨q9,j.keep b (by rintro i rfl;exact C.1),b.blk E.out (fun e=>by have:=qk.out;omega),b.blk qj.out (fun e=>by have:=qd.out;have:=qh.out;omega),Y.out,fun d hd=>C5 _ _ _ _ hd⟩,qg,fun k e=>?_,?_,?_⟩,rfl⟩,?_,?_⟩
    ·have h1:=qo k e
     have h2:=qi.size;have h3:=qh.out;have h4:=qk.out;have h5:=lt_of_block qj.out;refine⟨fun e2=>?_,by omega,by omega,by omega,rC⟩;have:=j.lt e2;omega
    ·exact⟨C.1,C.2,fun e=>by have:=zj.out _ e;have:=qd.out;omega,fun i h=>(rC h).elim⟩
    ·have h1:=Cy [] D Z
     have h2:D*Z≤8*4096:=Nat.mul_le_mul qy R.2.2.2;have:=ql.out;show zh+pJ (cI [] D Z)≤40000+8*0;omega
    ·rintro k (rfl|rfl|rfl|e|e|e)
     ·exact .inr H.1
     ·exact .inr H.2
     ·exact .inr (by have:=qd.out;have:=I.size;have:=qa.size;omega)
     ·exact(qc k e).imp id fun h=>Nat.le_trans qa.size h
     ·exact .inr (by have:=qo k e;have:=qi.size;have:=I.size;have:=qa.size;omega)
     ·exact(rC e).elim
    ·have k1:aA B w wr:=qa.any.trans I.out
     have k2:aA (fun i=>i=c) wr w9:=qi.trans b;exact k1.tT k2 (fun i hi e=>by have:=H.1;omega)
   clear q9 qg qo b qr j E qj;go_wp2
   go_ret2
   exact HP.out
def ofC(x:UInt8)(k:Nat):List Value:=(List.range 256).map fun i=>if i<k then vb x else .int .u8 0
theorem tQ(x:UInt8)(k:Nat):(ofC x k).length=256:=by unfold ofC;simp
theorem Nw(x:UInt8):ofC x 0=dV:=by
 rw[show dV=List.replicate 256 (.int .u8 0) from rfl];refine List.eq_replicate_iff.2 ⟨tQ x 0,fun v b=>?_⟩;unfold ofC at b;obtain⟨i,-,rfl⟩:=List.mem_map.1 b;exact if_neg (by omega)
theorem Nx(x:UInt8):ofC x 256=(sec x).map vb:=by
 unfold ofC sec;rw[List.map_replicate];refine List.eq_replicate_iff.2 ⟨by simp,fun v f=>?_⟩;obtain⟨i,b,rfl⟩:=List.mem_map.1 f;exact if_pos (List.mem_range.1 b)
theorem Ph(x:UInt8)(k:Nat)(s:k<256):spl (ofC x k).toArray k [vb x]=(ofC x (k+1)).toArray:=by
 show (ofC x k).toArray.setIfInBounds k (vb x)=_;rw[List.setIfInBounds_toArray]
 congr 1
 refine List.ext_getElem (by rw[List.length_set,tQ,tQ]) fun i b f=>?_
 rw[List.getElem_set];have q:∀j h,(ofC x j)[i]'h=if i<j then vb x else .int .u8 0:=fun j h=>by simp[ofC]
 rw[q,q]
 by_cases e:k=i
 ·subst e;rw[if_pos rfl,if_pos (by omega)]
 ·rw[if_neg e]
  by_cases d:i<k
  ·rw[if_pos d,if_pos (by omega)]
  ·rw[if_neg d,if_neg (by omega)]
def Pi(w:World)(x:UInt8)(e:Ending)(w':World):Prop:=∃v,e=.returned v/\w'.ownsRow w.heap.size 5 1 v 256 ((sec x).map vb)/\aA aB w w'
def Fh(w:World)(Z:Nat)(e:Ending)(w':World):Prop:=∃c M B,e=.returned (.pointer (some ⟨c,0,none⟩))/\KI w' c ⟨2,Z,2,[],M,0⟩ B/\(∀k,B k->w.heap.size≤k)/\aA aB w w'
theorem tR{base:Nat}{s:List Value}(f:w.ownsRow base 5 1 v 256 s)(h:∀i,B i->i<base):∀i,v.ownBlock=some i->¬B i/\i<w.heap.size:=fun i b =>
 ⟨fun e=>by have:=aW f b;have:=h i e;omega,by obtain⟨cur,j⟩:=aJ f b;exact lt_of_block j⟩
theorem pH{a b:UInt8}(h:a≠b):sec a≠sec b:=fun e=>h (Ha e)
theorem xU{P:Program}{id:Nat}{a:Act}{α β γ δ:Type}(F:α->β->γ->δ->Act)(R:α->β->γ->δ->World->Prop)(h:(Code.region id ops true).wp P (fun x a w=>x=.normal/\∃p q r s,a=F p q r s/\R p q r s w) a w)(hR:∀p q r s w,R p q r s w->Q .normal (F p q r s) w):(Code.region id ops true).wp P Q a w:=
 wp_mono h fun e a w h=>by obtain⟨rfl,p,q,r,s,rfl,b⟩:=h;exact hR p q r s w b
theorem Loc.turn2{S L f:Nat->Prop}{l:List (Nat×Array Value×TypeId)}(h:Loc S L w0 w l)(k:aA B w w')(s:∀k,B k->L k)(z:∀k,k<w0.heap.size->B k->S k)(j:∀k,k<w.heap.size->f k->L k):Loc S f w0 w' l:=
 ⟨h.keep.trans' k (fun _ _ h=>h) z,h.ge,h.nd,fun x b=>k.blk (h.at_ x b) (fun e=>h.ap x b (s _ e)),fun x b C=>h.ap x b (j _ (lt_of_block (h.at_ x b)) C)⟩
theorem bsA{P:Program}{o:Oper}{a:Act}(t e:TypeId)(x:Operand)(H:P.underlying t=some (.slice e)){z:Value}{size bytes:Nat}(j:(P.info? e).map (fun i=>(i.zero,i.size,i.bytes))=some (some z,size,bytes))(s:0<size)
 (vs:List Value) (C:vs.length=size) (f:size≤2 ^ 24) (h:∀b w',w.heap.size=b->aA aB w w'->w'.heap[b]?=some (.cells vs.toArray e (0,0))->wpList P ops Q vN (a.put o.dst (.slice (some ⟨b,0,none⟩) 1 1)) w')
 (I:a.eval x=.agg vs.toArray:=by rfl) (E:o.guard=none:=by rfl) (F:o.op=.buildSlice t 1 #[(0,x)]:=by rfl):wpList P ops Q (o::vN) a w:=
 bZ E t e x F H j s vs C f I (h _ _ rfl ((aA.refl _ _).alloc _) (heap_alloc_new _ _))
def p05:Pt:=⟨[⟨0,5⟩],1,2,eL⟩
theorem Ny:p05.hole=false:=by decide
theorem Pj:p05.may=true:=by decide
theorem Pk(w:World):(Instr.build 59 #[(0,.int .i64 0),(1,.int .i64 5)]).run prog w=.ok (.agg (aO ⟨0,5⟩).toArray) w:=by kernel_rfl
theorem Nz(b:Nat)(w:World):(Instr.build 30 #[(0,.slice b 1 1),(1,.int .i64 1),(2,.int .i64 2)]).run prog w=.ok (.agg (aE (.slice b 1 1) p05).toArray) w:=by kernel_rfl
theorem QT{b:Nat}(h:w.heap[b]?=some (.cells (aO ⟨0,5⟩).toArray 59 (0,0))):PtV w (.slice b 1 1) p05:=
 ⟨dX (n:=1) (size:=2) h rfl (by unfold maxLen;omega),fun x f=>by rw[show p05.addrs=[⟨0,5⟩] from rfl,List.mem_singleton] at f;subst f;exact⟨⟨by decide,by decide⟩,by decide,by decide⟩,rfl⟩
def Ji(w:World)(e:Ending)(w':World):Prop:=e=.returned (.bool true)/\aA aB w w'
theorem rF(w:World)(x:UInt8):Calls prog 23 #[vb x] w (Pi w x):=by
 obtain⟨F,b⟩:=zX9 (vb x)
 have H:=O b;have R:F.oneCell'=true:=by rw[←b];rfl
 have U:F.cells=#[F]:=by rw[←b];rfl
 rw[b];clear b;go_in
 go_wp2_with ((with_reducible show WL _ _);refine mkz (.const (.int .i64 256)) (.const (.int .i64 256)) ?_)
 intro b5 w1 z K I;rw[←Nw x] at I;have j:=O z;have X:Hid (w1.heap[b5]?=some (.cells (ofC x 0).toArray 5 (0,0))/\aA aB w w1):=O ⟨I,K⟩;clear I K z;go_wp2_with fail
 go_loopw [4] (fun i wr=>∃k:Nat,k≤256/\i=.int .i64 (k:Int)/\Hid (wr.heap[b5]?=some (.cells (ofC x k).toArray 5 (0,0))/\aA aB w wr)) (fun i _=>256-(intOf i).toNat)
 case atStart=>exact⟨0,by omega,rfl,X⟩
 case round =>
  obtain⟨k,K,rfl,s⟩:=hrel
  by_cases E:k<256
  ·go_wp2_with ((with_reducible show WL _ _);refine sta 5 (.tmp 15) (.tmp 14) b5 k [F] s.1 (by rw[List.size_toArray,tQ];exact E) (by kernel_rfl) (by intro v V;rw[List.mem_singleton] at V;rw[V];exact R) ?_ (hy:=U))
   intro w2 C f;rw[←H.out,Ph x k E] at f;have Y:Hid (w2.heap[b5]?=some (.cells (ofC x (k+1)).toArray 5 (0,0))/\aA aB w w2):=O ⟨f,s.2.tT C (fun i hi e=>by have:=j.out;omega)⟩;clear C f s;go_wp2
   go_roundw
   case rel=>exact⟨k+1,by omega,by go_num,Y⟩
   case measure=>simp[intOf];omega
  ·obtain rfl:k=256:=by omega
   go_wp2;go_ret;exact⟨_,rfl,by rw[←Nx x];exact nS s.1 (by rw[tQ]) (by have:=j.out;omega),s.2⟩
theorem Bp(w:World)(Z:Nat)(hZ:8≤Z/\Z≤4096):Calls prog 5 #[.int .i64 (Z:Int)] w (Fh w Z):=by
 have z:=lN w;have U:=O hZ;have b:=OD;have I:(eL.map vb).length=32:=by rw[List.length_map];rfl
 obtain⟨K,f⟩:=zX9 (eL.map vb)
 have H:=O f;rw[f] at b;have s:=O b;clear b f I;go_in
 go_wp2_with ((with_reducible show WL _ _);refine bld 28 #[] [] (.agg K.toArray) s.out ?_)
 refine((MS w 2 Z ⟨by omega,by omega,U.1,U.2⟩)).mono ?_;rintro e w1 ⟨a,X,rfl,j,C,E⟩;have R:=O j;have x:=O C;clear j C;replace z:=kL z E;clear E
 go_wp2_with ((with_reducible show WL _ _);refine bld 28 #[] [] (.agg K.toArray) s.out ?_)
 refine((by rw[←H.out];exact Gp R.out eL rfl 2 ⟨by omega,by omega,by omega⟩ (by omega):Ka w1 (sV w1 X 2 Z 2))).mono ?_;rintro e w2 ⟨c,M,B,rfl,F,V,E⟩;have Y:Hid (Fh w Z (.returned (.pointer c)) w2):=O ⟨c,M,B,rfl,F,fun k h=>(V k h).elim (x k) fun e=>by have:=z.keep.size;omega,z.keep.tT E (fun i hi e=>by have:=x.out i e;omega)⟩;clear z R F V E
 go_wp2_with ((with_reducible show WL _ _);refine bld 28 #[] [] (.agg K.toArray) s.out ?_)
 go_ret;exact Y.out
def LR(B:Nat->Prop)(rs:List (Value×Pt))(k:Nat):Prop:=B k\/∃r∈rs,r.1.ownBlock=some k
structure Cs(B0:Nat->Prop)(w0:World)(c:Nat)(S:Kor)(B:Nat->Prop)(rs:List (Value×Pt))(w:World)(l:List (Nat×Array Value×TypeId)):Prop where
 loc:Loc B0 (LR B rs) w0 w l
 ki:KI w c S B
 pv:∀r∈rs,aU w B r.1 r.2
 bb:∀i,B i->B0 i\/w0.heap.size≤i
section
variable {B0:Nat->Prop}{w0 w w':World}{c:Nat}{S T:Kor}{B B':Nat->Prop}{rs rs':List (Value×Pt)}{l:List (Nat×Array Value×TypeId)}
variable{cs cs':Array Value}{t:TypeId}{v:Value}{p:Pt}
theorem Cs.lt_(h:Cs B0 w0 c S B rs w l){k:Nat}(b:LR B rs k):k<w.heap.size:=by
 rcases b with b|⟨r,f,b⟩
 ·exact h.ki.lt b
 ·exact((h.pv r f).off k b).2.lt
theorem Cs.keep(h:Cs B0 w0 c S B rs w l):aA B0 w0 w:=h.loc.keep
theorem Cs.b(h:Cs B0 w0 c S B rs w l)(i:Nat){b:Nat}(f:l[i]?=some (b,cs,t):=by rfl):w.heap[b]?=some (.cells cs t (0,0)):=h.loc.b i f
theorem Cs.ne(h:Cs B0 w0 c S B rs w l)(i j:Nat){b s:Nat}{C:TypeId}(f:j≠i:=by decide)(x:l[i]?=some (b,cs,t):=by rfl)(z:l[j]?=some (s,cs',C):=by rfl):s≠b:=bH h.loc.nd x j f z
theorem Cs.keeps(h:Cs B0 w0 c S B rs w l)(k:aA aB w w'):Cs B0 w0 c S B rs w' l:=⟨h.loc.keeps k,h.ki.keep0 k,fun r b=>(h.pv r b).keep0 k,h.bb⟩
theorem Cs.new(h:Cs B0 w0 c S B rs w l){b:Nat}(_:True)(f:w.heap.size=b)(k:aA aB w w')(j:w'.heap[b]?=some (.cells cs t (0,0))):Cs B0 w0 c S B rs w' ((b,cs,t)::l):=
 ⟨h.loc.new (fun _ e=>h.lt_ e) f k j,h.ki.keep0 k,fun r s=>(h.pv r s).keep0 k,h.bb⟩
theorem Cs.set(h:Cs B0 w0 c S B rs w l)(i:Nat){b:Nat}(k:aA (fun k=>k=b) w w')(z:w'.heap[b]?=some (.cells cs' t (0,0)))(s:l[i]?=some (b,cs,t):=by rfl):Cs B0 w0 c S B rs w' (l.set i (b,cs',t)):=by
 have j:=h.loc.ap _ (List.mem_of_getElem? s);exact⟨h.loc.set i k z s,h.ki.keepT k (fun i e f=>by subst e;exact j (.inl f)),fun r x=>(h.pv r x).keepT k (fun i f e=>by subst e;exact j (.inr ⟨r,x,f⟩)),h.bb⟩
theorem Cs.tail{x:Nat×Array Value×TypeId}(h:Cs B0 w0 c S B rs w (x::l)):Cs B0 w0 c S B rs w l:=⟨h.loc.tail,h.ki,h.pv,h.bb⟩
theorem Cs.sub(h:Cs B0 w0 c S B rs w l)(f:∀r∈rs',r∈rs):Cs B0 w0 c S B rs' w l:=
 ⟨⟨h.loc.keep,h.loc.ge,h.loc.nd,h.loc.at_,fun x s j=>h.loc.ap x s (j.imp id fun ⟨r,b,e⟩=>⟨r,f r b,e⟩)⟩,h.ki,fun r b=>h.pv r (f r b),h.bb⟩
theorem Cs.laid(h:Cs B0 w0 c S B rs w l)(z:aU w' B' v p)(s:KI w' c T B')(f:∀k,B' k->B k\/w.heap.size≤k)(x:dM w v)(k:aA B w w'):Cs B0 w0 c T B' ((v,p)::rs) w' l:=by
 refine⟨h.loc.turn2 k (fun _ e=>.inl e) (fun i j e=>(h.bb i e).elim id fun e=>by omega) ?_,s,?_,fun i e=>(f i e).elim (h.bb i) fun e=>.inr (Nat.le_trans h.keep.size e)⟩
 ·rintro i j (e|⟨r,b,e⟩)
  ·exact(f i e).elim .inl fun e=>by omega
  ·rcases List.mem_cons.1 b with rfl|b
   ·have:=x i e;omega
   ·exact .inr ⟨r,b,e⟩
 ·intro r b
  rcases List.mem_cons.1 b with rfl|b
  ·exact z
  ·exact(h.pv r b).keep k f
theorem Cs.start(h:KI w c S B):Cs B w c S B [] w []:=⟨Loc.nil _ _ w,h,(fun r b=>by cases b),fun _ e=>.inl e⟩
theorem Cs.start1(h:KI w c S B)(b:aU w B v p):Cs B w c S B [(v,p)] w []:=⟨Loc.nil _ _ w,h,(fun r f=>by cases List.mem_singleton.1 f;exact b),fun _ e=>.inl e⟩
theorem Cs.pv0(h:Cs B0 w0 c S B rs w l)(i:Nat)(b:rs[i]?=some (v,p):=by rfl):aU w B v p:=h.pv _ (List.mem_of_getElem? b)
theorem Cs.fin{w2:World}(h:Cs B0 w0 c S B rs w l)(b:∀k,B0 k->w2.heap.size≤k)(k:aA aB w2 w0):aA aB w2 w:=
 k.trans' h.keep (fun _ _ h=>h.elim) (fun i f e=>by have:=b i e;omega)
end
variable{w:World}{B:Nat->Prop}{v:Value}
theorem nmP{p:Pt}(h:aU w B v p):∃c,Hid (aE v p=c)/\c.length=35/\Hid (∀u∈c,u.oneCell'=true):=⟨_,O rfl,aF h.pt.sum,O (aL h.pt)⟩
theorem oQ(h:v=.slice none 0 0\/dM w v):dM w v:=h.elim (fun e=>by rw[e];exact dM.nil w) id
structure Ds(SP:Nat->Prop)(wd:World)(B0:Nat->Prop)(w0:World)(c:Nat)(S:Kor)(B:Nat->Prop)(rs:List (Value×Pt))(w:World)(l:List (Nat×Array Value×TypeId)):Prop extends Cs B0 w0 c S B rs w l where
 dr:aA SP wd w
section
variable {SP:Nat->Prop}{wd:World}{B0:Nat->Prop}{w0 w w':World}{c:Nat}{Sk T:Kor}{B B':Nat->Prop}{rs rs':List (Value×Pt)}{l:List (Nat×Array Value×TypeId)}{P:Program}{ops:Array Oper}{o:Oper}{a:Act}{Q:Exit->Act->World->Prop}{md:Region.Mode}{S:World->Prop}{xT:Nat}{L:Array Bool}
variable{cs:Array Value}{t:TypeId}
theorem Ds.keeps(h:Ds SP wd B0 w0 c Sk B rs w l)(k:aA aB w w'):Ds SP wd B0 w0 c Sk B rs w' l:=⟨h.toCs.keeps k,h.dr.trans k.any⟩
theorem Ds.laid(h:Ds SP wd B0 w0 c Sk B rs w l)(b:∀i,i<wd.heap.size->B i->SP i){v:Value}{p:Pt}(x:aU w' B' v p)(j:KI w' c T B')(f:∀k,B' k->B k\/w.heap.size≤k)(s:dM w v)(k:aA B w w'):Ds SP wd B0 w0 c T B' ((v,p)::rs) w' l:=
 ⟨h.toCs.laid x j f s k,h.dr.trans' k (fun _ _ e=>e) b⟩
theorem Ds.own(h:Ds B wd B0 w0 c Sk B rs wd l)(k:aA B wd w')(i:Nat){b:Nat}(f:l[i]?=some (b,cs,t):=by rfl):w'.heap[b]?=some (.cells cs t (0,0)):=k.blk (h.b i f) fun e=>h.loc.ap _ (List.mem_of_getElem? f) (.inl e)
theorem alD(f:Hid (Ds SP wd B0 w0 c Sk B rs w l))(s:Hid (∀w',aA SP wd w'->S w'))(T:TypeId)(z:Value)(cs:Array Value)(K:Hid (∀w,(zeroValue T).run P w=.ok z w))
 (h:∀b w',wd.heap.size≤b->aA aB w w'->Hid (Ds SP wd B0 w0 c Sk B rs w' ((b,cs,T)::l))->wpAnyH P md ops Q S xT L (a.put o.dst (.pointer (some ⟨b,0,none⟩))) w')
 (C:z.cells=cs:=by rfl) (H:o.guard=none:=by rfl) (I:o.op=.alloc T:=by rfl):wpList P ops (Exit.then (fun E w'=>S w'/\wpAnyH P md ops Q S xT L E w') Q) [o] a w:=
 al T z cs K (fun b w' x j F=>wpList_nil ⟨s _ (f.dr.trans j.any),h b w' (by have:=f.dr.size;omega) j (O ⟨f.toCs.new trivial x j F,f.dr.trans j.any⟩)⟩) C H I
theorem stD(s:Hid (Ds SP wd B0 w0 c Sk B rs w l))(z:Hid (∀w',aA SP wd w'->S w'))(i:Nat){b:Nat}(H:l[i]?=some (b,cs,t))(T:TypeId)(x y:Operand)(vs:List Value)(C:wd.heap.size≤b\/SP b)
 (f:vs.length=cs.size) (X:(P.info? T).map (·.size)=some vs.length) (R:∀v∈vs,v.oneCell'=true)
 (h:∀w',Hid (Ds SP wd B0 w0 c Sk B rs w' (l.set i (b,vs.toArray,t)))->wpAnyH P md ops Q S xT L (a.put o.dst undef) w')
 (Y:a.eval x=.pointer b:=by rfl) (hy:(a.eval y).cells=vs.toArray:=by rfl) (U:o.guard=none:=by rfl) (V:o.op=.store T x y:=by rfl):wpList P ops (Exit.then (fun K w'=>S w'/\wpAnyH P md ops Q S xT L K w') Q) [o] a w:=
 sta T x y b 0 vs (s.b i H) (by omega) X R (fun w' I E=>by
  rw[aS _ _ f] at E;have F:aA SP wd w':=s.dr.tT I (fun j hj e=>C.elim (fun h=>by omega) (fun h=>by rw[e];exact h));exact wpList_nil ⟨z _ F,h w' (O ⟨s.toCs.set i I E H,F⟩)⟩) Y hy U V
end
variable{P:Program}{ops:Array Oper}{a:Act}{B0 B:Nat->Prop}{w0 w:World}{c:Nat}{Sk:Kor}{rs:List (Value×Pt)}{l:List (Nat×Array Value×TypeId)}{S:World->Prop}
theorem vI{Q:Exit->Act->World->Prop}{id:Nat}(SP:Nat->Prop)(f:Hid (Cs B0 w0 c Sk B rs w l))(j:P.follows .mixedOrders=true)
 (h:∀wd (S:World->Prop),Hid (∀w',S w'->aA SP wd w')->Hid (∀w',aA SP wd w'->S w')->aA aB w wd->Hid (Ds SP wd B0 w0 c Sk B rs wd l)->wpAnyH P .any ops (yI Q) S ops.size (Array.replicate ops.size false) a wd):(Code.region id ops true).wp P Q a w:=by
 have b:=(aA.refl aB w).drew;exact mP (S:=fun w'=>aA SP w.drew w') j (h w.drew (fun w'=>aA SP w.drew w') (O fun _ h=>h) (O fun _ h=>h) b (O ⟨f.keeps b,aA.refl _ _⟩))
theorem ldD{o:Oper}(f:TypeId)(x:Operand)(b k:Nat)(cs:List Value)(d:TypeDesc)(h:∀w,S w->w.rangeAt b k cs)(C:P.underlying f=some d)(s:(P.info? f).map (·.size)=some cs.length)(E:Region.wanted o (yielded ops a.tmps)=true:=by rfl)
 (z:o.op=.load f x:=by rfl) (F:a.eval x=.pointer (some ⟨b,k,none⟩):=by rfl) (j:d.isRow=true:=by rfl):YieldsIf P ops S o (.agg cs.toArray) a:=
 yieldsIf_load_mid E f x z b k F cs d h C j s
theorem sD9 {SP:Nat->Prop}{wd:World}(h:Hid (∀w',aA SP wd w'->S w'))(k:Hid (Ds SP wd B0 w0 c Sk B rs w l)):S w:=h.out _ k.out.dr
end
end Go.Proofs.YtoeinblfcbpcmaaGreat
