/- A part of the proof. Conditions: those told. -/
import Derived.Test.YtoeinblfcbpcmaaGreatDoorC1
import Derived.Test.YtoeinblfcbpcmaaGreatDoorC2
import Derived.Test.YtoeinblfcbpcmaaGreatDoorC3
import Derived.Test.YtoeinblfcbpcmaaGreatDoorC4
import Derived.Test.YtoeinblfcbpcmaaGreatDoorC5
import Derived.Test.YtoeinblfcbpcmaaGreatDoorC6
import Derived.Test.YtoeinblfcbpcmaaGreatDoorC7
import Derived.Test.YtoeinblfcbpcmaaGreatDoorC8
import Derived.Test.YtoeinblfcbpcmaaGreatDoorC9
import Derived.Test.YtoeinblfcbpcmaaGreatDoorC10
import Derived.Test.YtoeinblfcbpcmaaGreatDoorC11
import Derived.Test.YtoeinblfcbpcmaaGreatDoorC12
import Derived.Test.YtoeinblfcbpcmaaGreatDoorC13
import Derived.Test.YtoeinblfcbpcmaaGreatDoorC14
import Derived.Test.YtoeinblfcbpcmaaGreatDoorC15
import Derived.Test.YtoeinblfcbpcmaaGreatDoorC16
import Derived.Test.YtoeinblfcbpcmaaGreatDoorC17
import Derived.Test.YtoeinblfcbpcmaaGreatDoorC18
import Derived.Test.YtoeinblfcbpcmaaGreatDoorC19
import Derived.Test.YtoeinblfcbpcmaaGreatDoorC20
import Derived.Test.YtoeinblfcbpcmaaGreatDoorC21
import Derived.Test.YtoeinblfcbpcmaaGreatDoorC22
import Derived.Test.YtoeinblfcbpcmaaGreatDoorC23
import Derived.Test.YtoeinblfcbpcmaaGreatDoorC24
import Derived.Test.YtoeinblfcbpcmaaGreatDoorC25
import Derived.Test.YtoeinblfcbpcmaaGreatDoorC26
import Derived.Test.YtoeinblfcbpcmaaGreatDoorC27
import Derived.Test.YtoeinblfcbpcmaaGreatDoorC28
import Derived.Test.YtoeinblfcbpcmaaGreatDoorC29
import Derived.Test.YtoeinblfcbpcmaaGreatDoorC30
import Derived.Test.YtoeinblfcbpcmaaGreatDoorC31
import Derived.Test.YtoeinblfcbpcmaaGreatDoorC32
import Derived.Test.YtoeinblfcbpcmaaGreatDoorC33
import Derived.Test.YtoeinblfcbpcmaaGreatDoorC34
import Derived.Test.YtoeinblfcbpcmaaGreatDoorC35
import Derived.Test.YtoeinblfcbpcmaaGreatDoorC36
import Derived.Test.YtoeinblfcbpcmaaGreatDoorC37
import Derived.Test.YtoeinblfcbpcmaaGreatDoorC38
import Derived.Test.YtoeinblfcbpcmaaGreatDoorC39
import Derived.Test.YtoeinblfcbpcmaaGreatDoorC40
import Derived.Test.YtoeinblfcbpcmaaGreatDoorC41
import Derived.Test.YtoeinblfcbpcmaaGreatDoorC42
import Derived.Test.YtoeinblfcbpcmaaGreatDoorC43
import Derived.Test.YtoeinblfcbpcmaaGreatDoorC44
import Derived.Test.YtoeinblfcbpcmaaGreatDoorRows
import Derived.ProofKit
import Derived.OpenShut
import Derived.ShutString
import Derived.ChangeOld
import Derived.Below
import Derived.Lib.SmallJoins
import Derived.Deep.Slices
import Derived.Test.YtoeinblfcbpcmaaGreatDoorCards
import Derived.Test.YtoeinblfcbpcmaaGreatDoorTie
import Derived.WalkKit
import Derived.SevenTiedAt
namespace Go.Proofs.YtoeinblfcbpcmaaGreatDoor
set_option maxHeartbeats 64000000
set_option maxRecDepth 100000
set_option linter.unusedVariables false
section
open Go.RowKit Go.Maps Go.ChangeMaps
def NoCore(w:World)(cv:Value):Prop:=cv=.pointer none\/∃b cs,cv=.pointer (some ⟨b,0,none⟩)/\w.heap[b]?=some (.cells cs vI (0,0))/\cs[0]?=some (.pointer none)
theorem NoCore.keep0{w w':World}{cv:Value}(h:NoCore w cv)(k:aA aB w w'):NoCore w' cv:=h.imp id fun ⟨b,cs,h1,h2,h3⟩=>⟨b,cs,h1,k.blk h2 id,h3⟩
theorem NoCore.one{w:World}{cv:Value}(h:NoCore w cv):cv.cells=#[cv]/\cv.oneCell'=true:=by
 rcases h with rfl|⟨b,cs,rfl,-,-⟩<;>exact⟨rfl,rfl⟩
theorem cnone_nil{w:World}{cv:Value}(hN:NoCore w cv):Calls Tryz.prog 49 #[cv] w (aN w (.bool true)):=by
 have HL:=O (Loc.nil aB aB w);rcases hN with rfl|⟨b,cs,rfl,hb,h0⟩
 ·go_enter Tryz.func49,Tryz.ntmps49
  go_wp2_with fail;go_ret;exact⟨rfl,HL.out.keep⟩
 ·go_enter Tryz.func49,Tryz.ntmps49
  have c1:w.cell? ⟨b,0,none⟩=some (.pointer none):=aC hb h0;go_wp2_with fail;go_ret;exact⟨rfl,HL.out.keep⟩
theorem copies_nil{w:World}{cv:Value}(hN:NoCore w cv):Calls Tryz.prog 32 #[cv] w (aN w (.int .i64 0)):=by
 have HN:=O hN;have HOC:=O hN.one;have HL:=O (Loc.nil aB aB w);clear hN;have HN0:=HN;go_enter Tryz.func32,Tryz.ntmps32;go_wp2_with fail;refine((cnone_nil HN.out)).mono ?_;rintro e w1 ⟨rfl,hk⟩;replace HL:=O (HL.out.keeps hk);replace HN:=O (NoCore.keep0 HN.out hk);clear hk;go_wp2_with fail;go_ret;exact⟨rfl,HL.out.keep⟩
end
section
open Go.RowKit Go.Maps Go.ChangeMaps
def NoArr(w:World)(av:Value):Prop:=av=.pointer none\/∃b cs,av=.pointer (some ⟨b,0,none⟩)/\w.heap[b]?=some (.cells cs 78 (0,0))/\cs[0]?=some (.slice none 0 0)
theorem NoArr.keep0{w w':World}{av:Value}(h:NoArr w av)(k:aA aB w w'):NoArr w' av:=h.imp id fun ⟨b,cs,h1,h2,h3⟩=>⟨b,cs,h1,k.blk h2 id,h3⟩
theorem watchV_core(w:World)(cv:Value)(e:Nat)(er:Int)(tt:TypeId)(he:w.heap[e]?=some (.cells #[.int .i64 er] tt (0,0)))(h10:er≠10):CallsD Tryz.prog 39 #[cv,.pointer (some ⟨e,0,none⟩)] .returning w fun en u w'=>u=.returning/\aN w (.tuple #[]) en w':=by
 have HE:=O (cell_of_one he);have e1:(er == 10)=false:=by rw[beq_eq_false_iff_ne];exact h10
 have HL:=O (Loc.nil aB aB w);clear he
 go_enter_d Tryz.func39,Tryz.ntmps39
 have c1:w.cell? ⟨e,0,none⟩=some (.int .i64 er):=HE.out;go_wp2_with fail;clear c1;refine bodyPost_ret (results_none rfl _ _ _) rfl ?_;exact aN.of HL.out.keep
theorem cready_nil{w:World}{cv:Value}(hN:NoCore w cv):Calls Tryz.prog 40 #[cv] w (aN w (.int .i64 1)):=by
 have HN:=O hN;have HOC:=O hN.one;have HL:=O (Loc.nil aB aB w);clear hN;have HN0:=HN;go_enter Tryz.func40,Tryz.ntmps40;go_wp2_with fail;refine((cnone_nil HN.out)).mono ?_;rintro e w1 ⟨rfl,hk⟩;replace HL:=O (HL.out.keeps hk);replace HN:=O (NoCore.keep0 HN.out hk);clear hk;go_wp2_with fail;go_ret;exact aN.of HL.out.keep
theorem ckept_nil{w:World}{cv:Value}(hN:NoCore w cv):Calls Tryz.prog 36 #[cv] w (aN w (.int .i64 1)):=by
 have HN:=O hN;have HOC:=O hN.one;have HL:=O (Loc.nil aB aB w);clear hN;have HN0:=HN;go_enter Tryz.func36,Tryz.ntmps36;go_wp2_with fail;refine((cready_nil HN.out)).mono ?_;rintro e w1 ⟨rfl,hk⟩;replace HL:=O (HL.out.keeps hk);replace HN:=O (NoCore.keep0 HN.out hk);clear hk;go_wp2_with fail;go_ret;exact aN.of HL.out.keep
theorem croom_nil{w:World}{cv:Value}(hN:NoCore w cv):Calls Tryz.prog 11 #[cv] w (aN w (.tuple #[.int .i64 0,.int .i64 1])):=by
 have HN:=O hN;have HOC:=O hN.one;have HL:=O (Loc.nil aB aB w);clear hN;have HN0:=HN;go_enter Tryz.func11,Tryz.ntmps11;go_wp2_with fail;refine((ckept_nil HN.out)).mono ?_;rintro e w1 ⟨rfl,hk⟩;replace HL:=O (HL.out.keeps hk);replace HN:=O (NoCore.keep0 HN.out hk);clear hk;go_wp2_with fail
 go_ret2
 exact aN.of HL.out.keep
theorem cundo_nil{w:World}{cv:Value}(hN:NoCore w cv):Calls Tryz.prog 14 #[cv] w (aN w (.int .i64 1)):=by
 have HN:=O hN;have HOC:=O hN.one;have HL:=O (Loc.nil aB aB w);clear hN;have HN0:=HN;go_enter Tryz.func14,Tryz.ntmps14;go_wp2_with fail;refine((ckept_nil HN.out)).mono ?_;rintro e w1 ⟨rfl,hk⟩;replace HL:=O (HL.out.keeps hk);replace HN:=O (NoCore.keep0 HN.out hk);clear hk;go_wp2_with fail;go_ret;exact aN.of HL.out.keep
theorem clives_nil{w:World}{cv:Value}(hN:NoCore w cv)(lv:Value):Calls Tryz.prog 21 #[cv,lv] w (aN w (.int .i64 1)):=by
 have HN:=O hN;have HOC:=O hN.one;have HL:=O (Loc.nil aB aB w);clear hN;have HN0:=HN;go_enter Tryz.func21,Tryz.ntmps21;go_wp2_with fail;refine((cready_nil HN.out)).mono ?_;rintro e w1 ⟨rfl,hk⟩;replace HL:=O (HL.out.keeps hk);replace HN:=O (NoCore.keep0 HN.out hk);clear hk;go_wp2_with fail;go_ret;exact aN.of HL.out.keep
theorem cthere_nil{w:World}{cv:Value}(hN:NoCore w cv)(n:Int):Calls Tryz.prog 16 #[cv,.int .i64 n] w (aN w (.bool false)):=by
 have HN:=O hN;have HOC:=O hN.one;have HL:=O (Loc.nil aB aB w);clear hN;have HN0:=HN;go_enter Tryz.func16,Tryz.ntmps16;go_wp2_with fail;refine((cnone_nil HN.out)).mono ?_;rintro e w1 ⟨rfl,hk⟩;replace HL:=O (HL.out.keeps hk);replace HN:=O (NoCore.keep0 HN.out hk);clear hk;go_wp2_with fail;go_ret;exact aN.of HL.out.keep
theorem chold_nil{w:World}{cv:Value}(hN:NoCore w cv)(lv:Value):Calls Tryz.prog 29 #[cv,lv] w (aN w (.int .i64 1)):=by
 have HN:=O hN;have HOC:=O hN.one;have HL:=O (Loc.nil aB aB w);clear hN;have HN0:=HN;go_enter Tryz.func29,Tryz.ntmps29
 go_wp2_with (first
  | ((with_reducible show WL (some 2) (.box 26 _));refine bx 26 (.tmp 0) (#[cv]) ?_ HOC.out.1))
 intro b2 w1 hbs hk hb;replace HL:=O (HL.out.new (fun _ h=>h.elim) hbs hk hb);replace HN:=O (NoCore.keep0 HN.out hk);clear hbs hk hb;have c1:w1.cell? ⟨b2,0,none⟩=some (cv):=(aC (i:=0) (HL.out.b 0) rfl)
 go_wp2_with fail;clear c1;refine((cready_nil HN.out)).mono ?_;rintro e w2 ⟨rfl,hk⟩;replace HL:=O (HL.out.keeps hk);replace HN:=O (NoCore.keep0 HN.out hk);clear hk;go_wp2_with fail;go_ret;exact aN.of HL.out.keep
theorem ccommit_nil{w:World}{cv:Value}(hN:NoCore w cv){pc:List Value}(hpc:pc.length=35)(hop:∀u∈pc,u.oneCell'=true)(n:Int):Calls Tryz.prog 26 #[cv,.agg pc.toArray,.int .i64 n] w (aN w (.int .i64 1)):=by
 have HN:=O hN;have HOC:=O hN.one;have HL:=O (Loc.nil aB aB w);have HOP:=O hop;clear hN hop;have HN0:=HN
 go_enter_defers Tryz.func26,Tryz.ntmps26
 go_wp2_with (first
  | ((with_reducible show WL (some 4) (.box 33 _));refine bx 33 (.tmp 1) (pc.toArray) ?_))
 intro b4 w1 hbs hk hb;replace HL:=O (HL.out.new (fun _ h=>h.elim) hbs hk hb);replace HN:=O (NoCore.keep0 HN.out hk);clear hbs hk hb
 go_wp2_with (first
  | ((with_reducible show WL (some 6) (.alloc 37));refine al 37 (.int .i64 0) (#[.int .i64 0]) qQ ?_))
 intro b6 w2 hbs hk hb;replace HL:=O (HL.out.new (fun _ h=>h.elim) hbs hk hb);replace HN:=O (NoCore.keep0 HN.out hk);clear hbs hk hb;go_wp2_with fail;refine((cready_nil HN.out)).mono ?_;rintro e w3 ⟨rfl,hk⟩;replace HL:=O (HL.out.keeps hk);replace HN:=O (NoCore.keep0 HN.out hk);clear hk
 go_wp2_with (first
  | ((with_reducible show WL _ (.store 37 (.tmp 6) (.tmp 18)));refine sta 37 (.tmp 6) (.tmp 18) b6 0 ([.int .i64 1]) (HL.out.b 0) (by simp) (by kernel_rfl) (by intro v hv;simp only[List.mem_cons,List.not_mem_nil,or_false] at hv;subst hv;rfl) ?_))
 intro w4 hk hb;replace hb:w4.heap[b6]?=some (.cells #[.int .i64 1] 37 (0,0)):=hb;replace HL:=O (HL.out.set 0 hk hb);clear hk hb;go_wp2_with fail;have HB:=O (HL.out.b 0);have HK0:Hid (aA aB w w4):=O HL.out.keep;clear HL;go_wp2_with fail;refine leaves_cons (f:=39) (args:=#[cv,.pointer (some ⟨b6,0,none⟩)]) (by simp) (by simp[go_sem]) ?_;refine(watchV_core w4 cv b6 1 _ HB.out (by decide)).mono ?_;rintro e u' w'' ⟨rfl,rfl,hk⟩;have c7:w''.cell? ⟨b6,0,none⟩=some (.int .i64 1):=aC (i:=0) (hk.blk HB.out id) rfl;refine⟨_,DW rfl _ _ _ ⟨b6,0,none⟩ (.int .i64 1) rfl (by go_simp),?_⟩;exact⟨rfl,HK0.out.trans hk⟩
theorem clabel_nil{w:World}{cv:Value}(hN:NoCore w cv)(m n:Int):Calls Tryz.prog 20 #[cv,.int .i64 m,.int .i64 n] w (aN w (.int .i64 1)):=by
 have HN:=O hN;have HOC:=O hN.one;have HL:=O (Loc.nil aB aB w);clear hN;have HN0:=HN
 go_enter_defers Tryz.func20,Tryz.ntmps20
 go_wp2_with (first
  | ((with_reducible show WL (some 6) (.alloc 37));refine al 37 (.int .i64 0) (#[.int .i64 0]) qQ ?_))
 intro b6 w1 hbs hk hb;replace HL:=O (HL.out.new (fun _ h=>h.elim) hbs hk hb);replace HN:=O (NoCore.keep0 HN.out hk);clear hbs hk hb;go_wp2_with fail;refine((cready_nil HN.out)).mono ?_;rintro e w2 ⟨rfl,hk⟩;replace HL:=O (HL.out.keeps hk);replace HN:=O (NoCore.keep0 HN.out hk);clear hk
 go_wp2_with (first
  | ((with_reducible show WL _ (.store 37 (.tmp 6) (.tmp 13)));refine sta 37 (.tmp 6) (.tmp 13) b6 0 ([.int .i64 1]) (HL.out.b 0) (by simp) (by kernel_rfl) (by intro v hv;simp only[List.mem_cons,List.not_mem_nil,or_false] at hv;subst hv;rfl) ?_))
 intro w3 hk hb;replace hb:w3.heap[b6]?=some (.cells #[.int .i64 1] 37 (0,0)):=hb;replace HL:=O (HL.out.set 0 hk hb);clear hk hb;go_wp2_with fail;have HB:=O (HL.out.b 0);have HK0:Hid (aA aB w w3):=O HL.out.keep;clear HL;go_wp2_with fail;refine leaves_cons (f:=39) (args:=#[cv,.pointer (some ⟨b6,0,none⟩)]) (by simp) (by simp[go_sem]) ?_;refine(watchV_core w3 cv b6 1 _ HB.out (by decide)).mono ?_;rintro e u' w'' ⟨rfl,rfl,hk⟩;have c7:w''.cell? ⟨b6,0,none⟩=some (.int .i64 1):=aC (i:=0) (hk.blk HB.out id) rfl;refine⟨_,DW rfl _ _ _ ⟨b6,0,none⟩ (.int .i64 1) rfl (by go_simp),?_⟩;exact⟨rfl,HK0.out.trans hk⟩
theorem chere_nil{w:World}{cv:Value}(hN:NoCore w cv){pc:List Value}(hpc:pc.length=35)(hop:∀u∈pc,u.oneCell'=true):Calls Tryz.prog 57 #[cv,.agg pc.toArray] w (aN w (.tuple #[.agg pc.toArray,.int .i64 1])):=by
 have HN:=O hN;have HOC:=O hN.one;have HL:=O (Loc.nil aB aB w);have HOP:=O hop;clear hN hop;have HN0:=HN;go_enter Tryz.func57,Tryz.ntmps57
 go_wp2_with (first
  | ((with_reducible show WL (some 2) (.box 26 _));refine bx 26 (.tmp 0) (#[cv]) ?_ HOC.out.1))
 intro b2 w1 hbs hk hb;replace HL:=O (HL.out.new (fun _ h=>h.elim) hbs hk hb);replace HN:=O (NoCore.keep0 HN.out hk);clear hbs hk hb
 go_wp2_with (first
  | ((with_reducible show WL (some 3) (.box 33 _));refine bx 33 (.tmp 1) (pc.toArray) ?_))
 intro b3 w2 hbs hk hb;replace HL:=O (HL.out.new (fun _ h=>h.elim) hbs hk hb);replace HN:=O (NoCore.keep0 HN.out hk);clear hbs hk hb
 go_wp2_with (first
  | ((with_reducible show WL (some 4) (.alloc 33));refine al 33 (.agg eK.toArray) (eK.toArray) eX ?_))
 intro b4 w3 hbs hk hb;replace HL:=O (HL.out.new (fun _ h=>h.elim) hbs hk hb);replace HN:=O (NoCore.keep0 HN.out hk);clear hbs hk hb;have c1:w3.cell? ⟨b2,0,none⟩=some (cv):=(aC (i:=0) (HL.out.b 2) rfl)
 go_wp2_with fail;clear c1;refine((cready_nil HN.out)).mono ?_;rintro e w4 ⟨rfl,hk⟩;replace HL:=O (HL.out.keeps hk);replace HN:=O (NoCore.keep0 HN.out hk);clear hk
 go_wp2_with (first
  | ((with_reducible show WL (some 11) (.load 33 _));refine wpList_load_mid rfl 33 (.tmp 3) rfl b3 0 rfl pc _ (aD (HL.out.b 1)) bJ rfl (by rw[hpc];exact mI) ?_)
  | ((with_reducible show WL _ (.store 33 (.tmp 4) (.tmp 11)));refine sta 33 (.tmp 4) (.tmp 11) b4 0 pc (HL.out.b 0) (by first|decide|(rw[hpc];exact Nat.le_refl _)|simp[hpc,aW]) (by rw[hpc];exact mI) HOP.out ?_))
 intro w5 hk hb;rw[aI _ _ (by first|rfl|simp[hpc,aW])] at hb;replace HL:=O (HL.out.set 0 hk hb);clear hk hb;go_wp2_with fail;have HB4:=O (HL.out.b 0);have HK0:Hid (aA aB w w5):=O HL.out.keep;clear HL;go_wp2_with fail;refine bodyPost_ret (bO rfl _ _ b4 _ _ _ _ rfl HB4.out bJ rfl (by rw[List.size_toArray,hpc];exact mI)) rfl ?_;exact⟨rfl,HK0.out⟩
theorem cput_none{w:World}{cv:Value}(hN:NoCore w cv)(n:Int)(lv:Value):Calls Tryz.prog 12 #[cv,.int .i64 n,lv] w (aN w (.tuple #[.agg eK.toArray,.int .i64 1])):=by
 have HN:=O hN;have HOC:=O hN.one;have HL:=O (Loc.nil aB aB w);clear hN;have HN0:=HN
 go_enter_defers Tryz.func12,Tryz.ntmps12
 go_wp2_with (first
  | ((with_reducible show WL (some 6) (.alloc 33));refine al 33 (.agg eK.toArray) (eK.toArray) eX ?_))
 intro b6 w1 hbs hk hb;replace HL:=O (HL.out.new (fun _ h=>h.elim) hbs hk hb);replace HN:=O (NoCore.keep0 HN.out hk);clear hbs hk hb
 go_wp2_with (first
  | ((with_reducible show WL (some 7) (.alloc 37));refine al 37 (.int .i64 0) (#[.int .i64 0]) qQ ?_))
 intro b7 w2 hbs hk hb;replace HL:=O (HL.out.new (fun _ h=>h.elim) hbs hk hb);replace HN:=O (NoCore.keep0 HN.out hk);clear hbs hk hb;go_wp2_with fail;refine((cready_nil HN.out)).mono ?_;rintro e w3 ⟨rfl,hk⟩;replace HL:=O (HL.out.keeps hk);replace HN:=O (NoCore.keep0 HN.out hk);clear hk
 go_wp2_with (first
  | ((with_reducible show WL (some 17) (.load 33 _));refine wpList_load_mid rfl 33 (.tmp 6) rfl b6 0 rfl eK _ (aD (HL.out.b 1)) bJ rfl (by rw[aW];exact mI) ?_)
  | ((with_reducible show WL _ (.store 33 (.tmp 6) (.tmp 17)));refine sta 33 (.tmp 6) (.tmp 17) b6 0 eK (HL.out.b 1) (by first|decide|(rw[aW];exact Nat.le_refl _)|simp[aW,aW]) (by rw[aW];exact mI) (dE zPt) ?_))
 intro w4 hk hb;rw[aI _ _ (by first|rfl|simp[aW,aW])] at hb;replace HL:=O (HL.out.set 1 hk hb);clear hk hb
 go_wp2_with (first
  | ((with_reducible show WL _ (.store 37 (.tmp 7) (.tmp 18)));refine sta 37 (.tmp 7) (.tmp 18) b7 0 ([.int .i64 1]) (HL.out.b 0) (by simp) (by kernel_rfl) (by intro v hv;simp only[List.mem_cons,List.not_mem_nil,or_false] at hv;subst hv;rfl) ?_))
 intro w5 hk hb;replace hb:w5.heap[b7]?=some (.cells #[.int .i64 1] 37 (0,0)):=hb;replace HL:=O (HL.out.set 0 hk hb);clear hk hb;go_wp2_with fail;have HB6:=O (HL.out.b 1);have HB7:=O (HL.out.b 0);have HK0:Hid (aA aB w w5):=O HL.out.keep;clear HL;go_wp2_with fail;refine leaves_cons (f:=39) (args:=#[cv,.pointer (some ⟨b7,0,none⟩)]) (by simp) (by simp[go_sem]) ?_;refine(watchV_core w5 cv b7 1 _ HB7.out (by decide)).mono ?_;rintro e u' w'' ⟨rfl,rfl,hk⟩;have c7:w''.cell? ⟨b7,0,none⟩=some (.int .i64 1):=aC (i:=0) (hk.blk HB7.out id) rfl;refine⟨_,mD rfl _ _ b6 _ _ _ _ rfl (hk.blk HB6.out id) bJ rfl (by rw[List.size_toArray,aW];exact mI) ⟨b7,0,none⟩ (.int .i64 1) rfl (by go_simp),?_⟩;exact⟨rfl,HK0.out.trans hk⟩
theorem crestore_nil{w:World}{cv:Value}(hN:NoCore w cv){pc:List Value}(hpc:pc.length=35)(hop:∀u∈pc,u.oneCell'=true)(n:Int):Calls Tryz.prog 22 #[cv,.agg pc.toArray,.int .i64 n] w (aN w (.int .i64 1)):=by
 have HN:=O hN;have HOC:=O hN.one;have HL:=O (Loc.nil aB aB w);have HOP:=O hop;clear hN hop;have HN0:=HN
 go_enter_defers Tryz.func22,Tryz.ntmps22
 go_wp2_with (first
  | ((with_reducible show WL (some 4) (.box 33 _));refine bx 33 (.tmp 1) (pc.toArray) ?_))
 intro b4 w1 hbs hk hb;replace HL:=O (HL.out.new (fun _ h=>h.elim) hbs hk hb);replace HN:=O (NoCore.keep0 HN.out hk);clear hbs hk hb
 go_wp2_with (first
  | ((with_reducible show WL (some 5) (.box 3 _));refine bx 3 (.tmp 2) (#[.int .i64 n]) ?_))
 intro b5 w2 hbs hk hb;replace HL:=O (HL.out.new (fun _ h=>h.elim) hbs hk hb);replace HN:=O (NoCore.keep0 HN.out hk);clear hbs hk hb
 go_wp2_with (first
  | ((with_reducible show WL (some 6) (.alloc 37));refine al 37 (.int .i64 0) (#[.int .i64 0]) qQ ?_))
 intro b6 w3 hbs hk hb;replace HL:=O (HL.out.new (fun _ h=>h.elim) hbs hk hb);replace HN:=O (NoCore.keep0 HN.out hk);clear hbs hk hb
 go_wp2_with (first
  | ((with_reducible show WL (some 11) (.load 33 _));refine wpList_load_mid rfl 33 (.tmp 4) rfl b4 0 rfl pc _ (aD (HL.out.b 2)) bJ rfl (by rw[hpc];exact mI) ?_))
 refine((chere_nil HN.out hpc HOP.out)).mono ?_;rintro e w4 ⟨rfl,hk⟩;replace HL:=O (HL.out.keeps hk);replace HN:=O (NoCore.keep0 HN.out hk);clear hk
 go_wp2_with (first
  | ((with_reducible show WL (some 7) (.alloc 33));refine al 33 (.agg eK.toArray) (eK.toArray) eX ?_))
 intro b7 w5 hbs hk0 hb0_
 go_wp2_with (first
  | ((with_reducible show WL _ (.store 33 (.tmp 7) (.tmp 13)));refine sta 33 (.tmp 7) (.tmp 13) b7 0 pc hb0_ (by first|decide|(rw[List.size_toArray,hpc];exact Nat.le_refl _)|simp[hpc,aW]) (by rw[hpc];exact mI) HOP.out ?_))
 intro w6 hk hb;rw[aI _ _ (by first|rfl|(rw[List.size_toArray,hpc];rfl)|simp[hpc,aW])] at hb;replace hk:=hk0.trans' hk (U:=aB) (fun _ _ h=>h) (fun i hi e=>by omega);replace HL:=O (HL.out.new (fun _ h=>h.elim) hbs hk hb);clear hbs hk hb hk0 hb0_
 go_wp2_with (first
  | ((with_reducible show WL _ (.store 37 (.tmp 6) (.tmp 14)));refine sta 37 (.tmp 6) (.tmp 14) b6 0 ([.int .i64 1]) (HL.out.b 1) (by simp) (by kernel_rfl) (by intro v hv;simp only[List.mem_cons,List.not_mem_nil,or_false] at hv;subst hv;rfl) ?_))
 intro w7 hk hb;replace hb:w7.heap[b6]?=some (.cells #[.int .i64 1] 37 (0,0)):=hb;replace HL:=O (HL.out.set 1 hk hb);clear hk hb;have c1:w7.cell? ⟨b6,0,none⟩=some (.int .i64 1):=(aC (i:=0) (HL.out.b 1) rfl)
 have c2:w7.cell? ⟨b6,0,none⟩=some (.int .i64 1):=(aC (i:=0) (HL.out.b 1) rfl)
 go_wp2_with (first
  | ((with_reducible show WL _ (.store 37 (.tmp 6) (.tmp 18)));refine sta 37 (.tmp 6) (.tmp 18) b6 0 ([.int .i64 1]) (HL.out.b 1) (by simp) (by kernel_rfl) (by intro v hv;simp only[List.mem_cons,List.not_mem_nil,or_false] at hv;subst hv;rfl) ?_))
 clear c1 c2;intro w8 hk hb;replace hb:w8.heap[b6]?=some (.cells #[.int .i64 1] 37 (0,0)):=hb;replace HL:=O (HL.out.set 1 hk hb);clear hk hb;go_wp2_with fail;have HB:=O (HL.out.b 1);have HK0:Hid (aA aB w w8):=O HL.out.keep;clear HL;go_wp2_with fail;refine leaves_cons (f:=39) (args:=#[cv,.pointer (some ⟨b6,0,none⟩)]) (by simp) (by simp[go_sem]) ?_;refine(watchV_core w8 cv b6 1 _ HB.out (by decide)).mono ?_;rintro e u' w'' ⟨rfl,rfl,hk⟩;have c7:w''.cell? ⟨b6,0,none⟩=some (.int .i64 1):=aC (i:=0) (hk.blk HB.out id) rfl;refine⟨_,DW rfl _ _ _ ⟨b6,0,none⟩ (.int .i64 1) rfl (by go_simp),?_⟩;exact⟨rfl,HK0.out.trans hk⟩
def zcEr:List Value:=List.replicate 3 (.int .i64 0)
def zcSn:List Value:=List.replicate 4 (.int .i64 0)
theorem zvEr:Hid (∀w,(zeroValue 87).run Tryz.prog w=.ok (.agg zcEr.toArray) w):=O fun w=>by kernel_rfl
theorem zvSn:Hid (∀w,(zeroValue 49).run Tryz.prog w=.ok (.agg zcSn.toArray) w):=O fun w=>by kernel_rfl
theorem zcUb_l:Qt.length=69:=by kernel_rfl
theorem zcID_l:Qw.length=32:=by kernel_rfl
theorem zcEr_l:zcEr.length=3:=rfl
theorem zcSn_l:zcSn.length=4:=rfl
theorem zcUb_s:(Tryz.prog.info? 71).map (·.size)=some Qt.length:=by kernel_rfl
theorem zcID_s:(Tryz.prog.info? 31).map (·.size)=some Qw.length:=by kernel_rfl
theorem zcEr_s:(Tryz.prog.info? 87).map (·.size)=some zcEr.length:=by kernel_rfl
theorem zcSn_s:(Tryz.prog.info? 49).map (·.size)=some zcSn.length:=by kernel_rfl
theorem zcUb_1:∀u∈Qt,u.oneCell'=true:=fun u hu=>by
 have h:Qt.all (·.oneCell')=true:=by kernel_rfl
 exact List.all_eq_true.1 h u hu
theorem zcID_1:∀u∈Qw,u.oneCell'=true:=fun u hu=>by
 have h:Qw.all (·.oneCell')=true:=by kernel_rfl
 exact List.all_eq_true.1 h u hu
theorem zcEr_1:∀u∈zcEr,u.oneCell'=true:=fun u hu=>by
 have h:zcEr.all (·.oneCell')=true:=by kernel_rfl
 exact List.all_eq_true.1 h u hu
theorem zcSn_1:∀u∈zcSn,u.oneCell'=true:=fun u hu=>by
 have h:zcSn.all (·.oneCell')=true:=by kernel_rfl
 exact List.all_eq_true.1 h u hu
theorem bldUb:∀w,(Instr.build 71 #[]).run Tryz.prog w=.ok (.agg Qt.toArray) w:=fun w=>by kernel_rfl
theorem bldID:∀w,(Instr.build 31 #[]).run Tryz.prog w=.ok (.agg Qw.toArray) w:=fun w=>by kernel_rfl
theorem bldEr:∀w,(Instr.build 87 #[]).run Tryz.prog w=.ok (.agg zcEr.toArray) w:=fun w=>by kernel_rfl
theorem bldSn:∀w,(Instr.build 49 #[]).run Tryz.prog w=.ok (.agg zcSn.toArray) w:=fun w=>by kernel_rfl
theorem cuber_nil{w:World}{cv:Value}(hN:NoCore w cv):Calls Tryz.prog 30 #[cv] w (aN w (.agg Qt.toArray)):=by
 have HN:=O hN;have HOC:=O hN.one;have HL:=O (Loc.nil aB aB w);clear hN;have HN0:=HN;go_enter Tryz.func30,Tryz.ntmps30
 go_wp2_with (first
  | ((with_reducible show WL (some 6) (.build _ _));refine bld 71 #[] [] (.agg Qt.toArray) bldUb ?_)
  | ((with_reducible show WL (some 2) (.alloc 71));refine al 71 (.agg Qt.toArray) (Qt.toArray) I3 ?_))
 intro b2 w1 hbs hk hb;replace HL:=O (HL.out.new (fun _ h=>h.elim) hbs hk hb);replace HN:=O (NoCore.keep0 HN.out hk);clear hbs hk hb
 go_wp2_with (first
  | ((with_reducible show WL (some 6) (.build _ _));refine bld 71 #[] [] (.agg Qt.toArray) bldUb ?_))
 refine((cnone_nil HN.out)).mono ?_;rintro e w2 ⟨rfl,hk⟩;replace HL:=O (HL.out.keeps hk);replace HN:=O (NoCore.keep0 HN.out hk);clear hk
 go_wp2_with (first
  | ((with_reducible show WL (some 6) (.build _ _));refine bld 71 #[] [] (.agg Qt.toArray) bldUb ?_)
  | ((with_reducible show WL _ (.store 71 (.tmp 2) (.tmp 6)));refine sta 71 (.tmp 2) (.tmp 6) b2 0 Qt (HL.out.b 0) (by first|decide|(rw[zcUb_l];exact Nat.le_refl _)|simp[zcUb_l,zcUb_l]) zcUb_s zcUb_1 ?_))
 intro w3 hk hb;rw[aI _ _ (by first|rfl|simp[zcUb_l,zcUb_l])] at hb;replace HL:=O (HL.out.set 0 hk hb);clear hk hb
 go_wp2_with (first
  | ((with_reducible show WL (some 6) (.build _ _));refine bld 71 #[] [] (.agg Qt.toArray) bldUb ?_))
 have HB2:=O (HL.out.b 0);have HK0:Hid (aA aB w w3):=O HL.out.keep;clear HL;go_wp2_with fail;refine bodyPost_ret (Fr rfl _ _ b2 _ _ _ _ rfl HB2.out cP rfl (by rw[List.size_toArray];exact zcUb_s)) rfl ?_;exact⟨rfl,HK0.out⟩
theorem cpool_nil{w:World}{cv:Value}(hN:NoCore w cv):Calls Tryz.prog 31 #[cv] w (aN w (.agg Qw.toArray)):=by
 have HN:=O hN;have HOC:=O hN.one;have HL:=O (Loc.nil aB aB w);clear hN;have HN0:=HN;go_enter Tryz.func31,Tryz.ntmps31
 go_wp2_with (first
  | ((with_reducible show WL (some 5) (.build _ _));refine bld 31 #[] [] (.agg Qw.toArray) bldID ?_)
  | ((with_reducible show WL (some 2) (.alloc 31));refine al 31 (.agg Qw.toArray) (Qw.toArray) Q0 ?_))
 intro b2 w1 hbs hk hb;replace HL:=O (HL.out.new (fun _ h=>h.elim) hbs hk hb);replace HN:=O (NoCore.keep0 HN.out hk);clear hbs hk hb
 go_wp2_with (first
  | ((with_reducible show WL (some 5) (.build _ _));refine bld 31 #[] [] (.agg Qw.toArray) bldID ?_))
 refine((cnone_nil HN.out)).mono ?_;rintro e w2 ⟨rfl,hk⟩;replace HL:=O (HL.out.keeps hk);replace HN:=O (NoCore.keep0 HN.out hk);clear hk
 go_wp2_with (first
  | ((with_reducible show WL (some 5) (.build _ _));refine bld 31 #[] [] (.agg Qw.toArray) bldID ?_)
  | ((with_reducible show WL _ (.store 31 (.tmp 2) (.tmp 5)));refine sta 31 (.tmp 2) (.tmp 5) b2 0 Qw (HL.out.b 0) (by first|decide|(rw[zcID_l];exact Nat.le_refl _)|simp[zcID_l,zcID_l]) zcID_s zcID_1 ?_))
 intro w3 hk hb;rw[aI _ _ (by first|rfl|simp[zcID_l,zcID_l])] at hb;replace HL:=O (HL.out.set 0 hk hb);clear hk hb
 go_wp2_with (first
  | ((with_reducible show WL (some 5) (.build _ _));refine bld 31 #[] [] (.agg Qw.toArray) bldID ?_))
 have HB2:=O (HL.out.b 0);have HK0:Hid (aA aB w w3):=O HL.out.keep;clear HL;go_wp2_with fail;refine bodyPost_ret (Fr rfl _ _ b2 _ _ _ _ rfl HB2.out Tryz.underlying31 rfl (by rw[List.size_toArray];exact zcID_s)) rfl ?_;exact⟨rfl,HK0.out⟩
theorem cerrors_nil{w:World}{cv:Value}(hN:NoCore w cv)(n:Int):Calls Tryz.prog 33 #[cv,.int .i64 n] w (aN w (.agg zcEr.toArray)):=by
 have HN:=O hN;have HOC:=O hN.one;have HL:=O (Loc.nil aB aB w);clear hN;have HN0:=HN;go_enter Tryz.func33,Tryz.ntmps33
 go_wp2_with (first
  | ((with_reducible show WL (some 7) (.build _ _));refine bld 87 #[] [] (.agg zcEr.toArray) bldEr ?_)
  | ((with_reducible show WL (some 4) (.alloc 87));refine al 87 (.agg zcEr.toArray) (zcEr.toArray) zvEr ?_))
 intro b4 w1 hbs hk hb;replace HL:=O (HL.out.new (fun _ h=>h.elim) hbs hk hb);replace HN:=O (NoCore.keep0 HN.out hk);clear hbs hk hb
 go_wp2_with (first
  | ((with_reducible show WL (some 7) (.build _ _));refine bld 87 #[] [] (.agg zcEr.toArray) bldEr ?_))
 refine((cnone_nil HN.out)).mono ?_;rintro e w2 ⟨rfl,hk⟩;replace HL:=O (HL.out.keeps hk);replace HN:=O (NoCore.keep0 HN.out hk);clear hk
 go_wp2_with (first
  | ((with_reducible show WL (some 7) (.build _ _));refine bld 87 #[] [] (.agg zcEr.toArray) bldEr ?_)
  | ((with_reducible show WL _ (.store 87 (.tmp 4) (.tmp 7)));refine sta 87 (.tmp 4) (.tmp 7) b4 0 zcEr (HL.out.b 0) (by first|decide|(rw[zcEr_l];exact Nat.le_refl _)|simp[zcEr_l,zcEr_l]) zcEr_s zcEr_1 ?_))
 intro w3 hk hb;rw[aI _ _ (by first|rfl|simp[zcEr_l,zcEr_l])] at hb;replace HL:=O (HL.out.set 0 hk hb);clear hk hb
 go_wp2_with (first
  | ((with_reducible show WL (some 7) (.build _ _));refine bld 87 #[] [] (.agg zcEr.toArray) bldEr ?_))
 have HB2:=O (HL.out.b 0);have HK0:Hid (aA aB w w3):=O HL.out.keep;clear HL;go_wp2_with fail;refine bodyPost_ret (Fr rfl _ _ b4 _ _ _ _ rfl HB2.out Tryz.underlying87 rfl (by rw[List.size_toArray];exact zcEr_s)) rfl ?_;exact⟨rfl,HK0.out⟩
theorem NoArr.one{w:World}{av:Value}(h:NoArr w av):av.cells=#[av]/\av.oneCell'=true:=by
 rcases h with rfl|⟨b,cs,rfl,-,-⟩<;>exact⟨rfl,rfl⟩
theorem anone_nil{w:World}{av:Value}(hN:NoArr w av):Calls Tryz.prog 115 #[av] w (aN w (.bool true)):=by
 have HL:=O (Loc.nil aB aB w);rcases hN with rfl|⟨b,cs,rfl,hb,h0⟩
 ·go_enter Tryz.func115,Tryz.ntmps115
  go_wp2_with fail;go_ret;exact⟨rfl,HL.out.keep⟩
 ·go_enter Tryz.func115,Tryz.ntmps115
  have c1:w.cell? ⟨b,0,none⟩=some (.slice none 0 0):=aC hb h0;go_wp2_with fail;go_ret;exact⟨rfl,HL.out.keep⟩
theorem adevs_nil{w:World}{av:Value}(hN:NoArr w av):Calls Tryz.prog 59 #[av] w (aN w (.int .i64 0)):=by
 have HN:=O hN;have HOC:=O hN.one;have HL:=O (Loc.nil aB aB w);clear hN;go_enter Tryz.func59,Tryz.ntmps59;go_wp2_with fail;refine((anone_nil HN.out)).mono ?_;rintro e w1 ⟨rfl,hk⟩;replace HL:=O (HL.out.keeps hk);replace HN:=O (NoArr.keep0 HN.out hk);clear hk;go_wp2_with fail;go_ret;exact aN.of HL.out.keep
theorem cimport_nil{w:World}{av:Value}(hN:NoArr w av):Calls Tryz.prog 24 #[av] w (aN w (.tuple #[.pointer none,.int .i64 1])):=by
 have HN:=O hN;have HOC:=O hN.one;have HL:=O (Loc.nil aB aB w);clear hN;go_enter Tryz.func24,Tryz.ntmps24;go_wp2_with fail;refine((adevs_nil HN.out)).mono ?_;rintro e w1 ⟨rfl,hk⟩;replace HL:=O (HL.out.keeps hk);replace HN:=O (NoArr.keep0 HN.out hk);clear hk;go_wp2_with fail
 go_ret2
 exact aN.of HL.out.keep
theorem ccreate_nil{w:World}{av:Value}(hN:NoArr w av){ic:List Value}(hic:ic.length=32)(hoi:∀u∈ic,u.oneCell'=true)(n:Int):Calls Tryz.prog 25 #[av,.agg ic.toArray,.int .i64 n] w (aN w (.tuple #[.pointer none,.int .i64 1])):=by
 have HN:=O hN;have HOC:=O hN.one;have HL:=O (Loc.nil aB aB w);clear hN;have HOI:=O hoi;clear hoi;go_enter Tryz.func25,Tryz.ntmps25
 go_wp2_with (first
  | ((with_reducible show WL (some 3) (.box 25 _));refine bx 25 (.tmp 0) (#[av]) ?_ HOC.out.1))
 intro b3 w1 hbs hk hb;replace HL:=O (HL.out.new (fun _ h=>h.elim) hbs hk hb);replace HN:=O (NoArr.keep0 HN.out hk);clear hbs hk hb
 go_wp2_with (first
  | ((with_reducible show WL (some 4) (.box 31 _));refine bx 31 (.tmp 1) (ic.toArray) ?_))
 intro b4 w2 hbs hk hb;replace HL:=O (HL.out.new (fun _ h=>h.elim) hbs hk hb);replace HN:=O (NoArr.keep0 HN.out hk);clear hbs hk hb;have c1:w2.cell? ⟨b3,0,none⟩=some (av):=(aC (i:=0) (HL.out.b 1) rfl)
 go_wp2_with fail;clear c1;refine((adevs_nil HN.out)).mono ?_;rintro e w3 ⟨rfl,hk⟩;replace HL:=O (HL.out.keeps hk);replace HN:=O (NoArr.keep0 HN.out hk);clear hk;go_wp2_with fail
 go_ret2
 exact aN.of HL.out.keep
theorem cget_nil{w:World}{cv:Value}(hN:NoCore w cv){pc:List Value}(hpc:pc.length=35)(hop:∀u∈pc,u.oneCell'=true):Calls Tryz.prog 28 #[cv,.agg pc.toArray] w (aN w (.tuple #[.slice none 0 0,.int .i64 1])):=by
 have HN:=O hN;have HOC:=O hN.one;have HL:=O (Loc.nil aB aB w);have HOP:=O hop;clear hN hop;have HN0:=HN
 go_enter_defers Tryz.func28,Tryz.ntmps28
 go_wp2_with (first
  | ((with_reducible show WL (some 3) (.box 33 _));refine bx 33 (.tmp 1) (pc.toArray) ?_))
 intro b3 w1 hbs hk hb;replace HL:=O (HL.out.new (fun _ h=>h.elim) hbs hk hb);replace HN:=O (NoCore.keep0 HN.out hk);clear hbs hk hb
 go_wp2_with (first
  | ((with_reducible show WL (some 5) (.alloc 37));refine al 37 (.int .i64 0) (#[.int .i64 0]) qQ ?_))
 intro b5 w2 hbs hk hb;replace HL:=O (HL.out.new (fun _ h=>h.elim) hbs hk hb);replace HN:=O (NoCore.keep0 HN.out hk);clear hbs hk hb
 go_wp2_with (first
  | ((with_reducible show WL (some 10) (.load 33 _));refine wpList_load_mid rfl 33 (.tmp 3) rfl b3 0 rfl pc _ (aD (HL.out.b 1)) bJ rfl (by rw[hpc];exact mI) ?_))
 refine((chere_nil HN.out hpc HOP.out)).mono ?_;rintro e w3 ⟨rfl,hk⟩;replace HL:=O (HL.out.keeps hk);replace HN:=O (NoCore.keep0 HN.out hk);clear hk
 go_wp2_with (first
  | ((with_reducible show WL (some 6) (.alloc 33));refine al 33 (.agg eK.toArray) (eK.toArray) eX ?_))
 intro b6 w4 hbs hk0 hb0_
 go_wp2_with (first
  | ((with_reducible show WL _ (.store 33 (.tmp 6) (.tmp 12)));refine sta 33 (.tmp 6) (.tmp 12) b6 0 pc hb0_ (by first|decide|(rw[List.size_toArray,hpc];exact Nat.le_refl _)|simp[hpc,aW]) (by rw[hpc];exact mI) HOP.out ?_))
 intro w5 hk hb;rw[aI _ _ (by first|rfl|(rw[List.size_toArray,hpc];rfl)|simp[hpc,aW])] at hb;replace hk:=hk0.trans' hk (U:=aB) (fun _ _ h=>h) (fun i hi e=>by omega);replace HL:=O (HL.out.new (fun _ h=>h.elim) hbs hk hb);clear hbs hk hb hk0 hb0_
 go_wp2_with (first
  | ((with_reducible show WL _ (.store 37 (.tmp 5) (.tmp 13)));refine sta 37 (.tmp 5) (.tmp 13) b5 0 ([.int .i64 1]) (HL.out.b 1) (by simp) (by kernel_rfl) (by intro v hv;simp only[List.mem_cons,List.not_mem_nil,or_false] at hv;subst hv;rfl) ?_))
 intro w6 hk hb;replace hb:w6.heap[b5]?=some (.cells #[.int .i64 1] 37 (0,0)):=hb;replace HL:=O (HL.out.set 1 hk hb);clear hk hb;have c1:w6.cell? ⟨b5,0,none⟩=some (.int .i64 1):=(aC (i:=0) (HL.out.b 1) rfl)
 go_wp2_with fail;clear c1;have HB5:=O (HL.out.b 1);have HGE:=O (HL.out.lt 1).1;have HK0:Hid (aA aB w w6):=O HL.out.keep;clear HL;obtain⟨S,hS0⟩:∃S:World->Prop,S=fun w'=>aA aB w w'/\w'.heap[b5]?=some (.cells #[.int .i64 1] 37 (0,0)):=⟨_,rfl⟩
 have HSE:=O (show ∀w',S w'->_ from fun w' h=>by rw[hS0] at h;exact h);have HSI:=O (show ∀w',_->S w' from fun w' h=>by rw[hS0];exact h);have hS:S w6.drew:=HSI.out _ ⟨HK0.out.drew,HB5.out⟩;clear hS0 HB5 HK0;refine sG (S:=S) (by kernel_rfl) ?_;change wpAnyH _ _ _ _ _ _ _ _ w6.drew;generalize w6.drew=wy at hS ⊢;refine tnd 0 (.int .i64 1) rfl (.inl ⟨by rfl,fun w' hw'=>by have c:World.cell? w' ⟨b5,0,none⟩=some (.int .i64 1):=aC (i:=0) (HSE.out w' hw').2 rfl;go_simp⟩) hS ?_;refine tna 1 (.slice none 0 0) rfl hS ?_;refine Hl (k:=2) rfl (by kernel_rfl) ?_;refine sta 37 (.tmp 5) (.tmp 17) b5 0 [.int .i64 1] (HSE.out _ hS).2 (by simp) (by kernel_rfl) (by intro v hv;simp only[List.mem_cons,List.not_mem_nil,or_false] at hv;subst hv;rfl) ?_;intro wz hk hb;replace hb:wz.heap[b5]?=some (.cells #[.int .i64 1] 37 (0,0)):=hb;have hS1:S wz:=HSI.out _ ⟨(HSE.out _ hS).1.trans' hk (fun _ _ h=>h) (fun i hi e=>by have:=HGE.out;omega),hb⟩;clear hS hk hb;refine wpList_nil ?_;refine⟨hS1,?_⟩;refine wpAnyH_done (by kernel_rfl) ?_ _;refine noP ?_;have HR:=O (HSE.out _ hS1);clear HSE HSI hS1;have HB:=O HR.out.2;go_wp2_with fail;refine leaves_cons (f:=39) (args:=#[cv,.pointer (some ⟨b5,0,none⟩)]) (by simp) (by simp[go_sem]) ?_;refine(watchV_core wz cv b5 1 _ HB.out (by decide)).mono ?_;rintro e u' w'' ⟨rfl,rfl,hk⟩;have c7:w''.cell? ⟨b5,0,none⟩=some (.int .i64 1):=aC (i:=0) (hk.blk HB.out id) rfl;refine⟨_,AO rfl _ _ _ ⟨b5,0,none⟩ (.int .i64 1) rfl (by go_simp),?_⟩;exact⟨rfl,HR.out.1.trans hk⟩
theorem cscan_nil{w:World}{cv:Value}(hN:NoCore w cv){pc:List Value}(hpc:pc.length=35)(hop:∀u∈pc,u.oneCell'=true):Calls Tryz.prog 19 #[cv,.agg pc.toArray] w (aN w (.tuple #[.agg zcSn.toArray,.int .i64 1])):=by
 have HN:=O hN;have HOC:=O hN.one;have HL:=O (Loc.nil aB aB w);have HOP:=O hop;clear hN hop;have HN0:=HN
 go_enter_defers Tryz.func19,Tryz.ntmps19
 go_wp2_with (first
  | ((with_reducible show WL (some 3) (.box 33 _));refine bx 33 (.tmp 1) (pc.toArray) ?_))
 intro b3 w1 hbs hk hb;replace HL:=O (HL.out.new (fun _ h=>h.elim) hbs hk hb);replace HN:=O (NoCore.keep0 HN.out hk);clear hbs hk hb
 go_wp2_with (first
  | ((with_reducible show WL (some 4) (.alloc 49));refine al 49 (.agg zcSn.toArray) (zcSn.toArray) zvSn ?_))
 intro b4 w2 hbs hk hb;replace HL:=O (HL.out.new (fun _ h=>h.elim) hbs hk hb);replace HN:=O (NoCore.keep0 HN.out hk);clear hbs hk hb
 go_wp2_with (first
  | ((with_reducible show WL (some 5) (.alloc 37));refine al 37 (.int .i64 0) (#[.int .i64 0]) qQ ?_))
 intro b5 w3 hbs hk hb;replace HL:=O (HL.out.new (fun _ h=>h.elim) hbs hk hb);replace HN:=O (NoCore.keep0 HN.out hk);clear hbs hk hb
 go_wp2_with (first
  | ((with_reducible show WL (some 10) (.load 33 _));refine wpList_load_mid rfl 33 (.tmp 3) rfl b3 0 rfl pc _ (aD (HL.out.b 2)) bJ rfl (by rw[hpc];exact mI) ?_))
 refine((chere_nil HN.out hpc HOP.out)).mono ?_;rintro e w4 ⟨rfl,hk⟩;replace HL:=O (HL.out.keeps hk);replace HN:=O (NoCore.keep0 HN.out hk);clear hk
 go_wp2_with (first
  | ((with_reducible show WL (some 6) (.alloc 33));refine al 33 (.agg eK.toArray) (eK.toArray) eX ?_))
 intro b6 w5 hbs hk0 hb0_
 go_wp2_with (first
  | ((with_reducible show WL _ (.store 33 (.tmp 6) (.tmp 12)));refine sta 33 (.tmp 6) (.tmp 12) b6 0 pc hb0_ (by first|decide|(rw[List.size_toArray,hpc];exact Nat.le_refl _)|simp[hpc,aW]) (by rw[hpc];exact mI) HOP.out ?_))
 intro w6 hk hb;rw[aI _ _ (by first|rfl|(rw[List.size_toArray,hpc];rfl)|simp[hpc,aW])] at hb;replace hk:=hk0.trans' hk (U:=aB) (fun _ _ h=>h) (fun i hi e=>by omega);replace HL:=O (HL.out.new (fun _ h=>h.elim) hbs hk hb);clear hbs hk hb hk0 hb0_
 go_wp2_with (first
  | ((with_reducible show WL _ (.store 37 (.tmp 5) (.tmp 13)));refine sta 37 (.tmp 5) (.tmp 13) b5 0 ([.int .i64 1]) (HL.out.b 1) (by simp) (by kernel_rfl) (by intro v hv;simp only[List.mem_cons,List.not_mem_nil,or_false] at hv;subst hv;rfl) ?_))
 intro w7 hk hb;replace hb:w7.heap[b5]?=some (.cells #[.int .i64 1] 37 (0,0)):=hb;replace HL:=O (HL.out.set 1 hk hb);clear hk hb;have c1:w7.cell? ⟨b5,0,none⟩=some (.int .i64 1):=(aC (i:=0) (HL.out.b 1) rfl)
 go_wp2_with fail;clear c1;have HB4:=O (HL.out.b 2);have HB5:=O (HL.out.b 1);have HGE:=O (And.intro (HL.out.lt 2).1 (HL.out.lt 1).1);have HK0:Hid (aA aB w w7):=O HL.out.keep
 have HN4:Hid (b4≠b5):=O fun e=>by
  have h1:=HB4.out;have h2:=HB5.out;rw[e,h2] at h1;cases h1
 clear HL;obtain⟨S,hS0⟩:∃S:World->Prop,S=fun w'=>aA aB w w'/\w'.heap[b4]?=some (.cells zcSn.toArray 49 (0,0))/\w'.heap[b5]?=some (.cells #[.int .i64 1] 37 (0,0)):=⟨_,rfl⟩
 have HSE:=O (show ∀w',S w'->_ from fun w' h=>by rw[hS0] at h;exact h);have HSI:=O (show ∀w',_->S w' from fun w' h=>by rw[hS0];exact h);have hS:S w7.drew:=HSI.out _ ⟨HK0.out.drew,HB4.out,HB5.out⟩;clear hS0 HB4 HB5 HK0;refine sG (S:=S) (by kernel_rfl) ?_;change wpAnyH _ _ _ _ _ _ _ _ w7.drew;generalize w7.drew=wy at hS ⊢;refine tnd 0 (.agg zcSn.toArray) rfl (yieldsIf_load_mid (by rfl) 49 (.tmp 4) rfl b4 0 rfl zcSn _ (fun w' h=>aD (HSE.out w' h).2.1) Tryz.underlying49 rfl zcSn_s) hS ?_;refine tnd 1 (.int .i64 1) rfl (.inl ⟨by rfl,fun w' hw'=>by have c:World.cell? w' ⟨b5,0,none⟩=some (.int .i64 1):=aC (i:=0) (HSE.out w' hw').2.2 rfl;go_simp⟩) hS ?_;refine Hl (k:=2) rfl (by kernel_rfl) ?_;refine sta 49 (.tmp 4) (.tmp 16) b4 0 zcSn (HSE.out _ hS).2.1 (by rw[List.size_toArray,Nat.zero_add];exact Nat.le_refl _) zcSn_s zcSn_1 ?_;intro wz hk hb;rw[aI _ _ (by rw[List.size_toArray])] at hb;have hS1:S wz:=HSI.out _ ⟨(HSE.out _ hS).1.trans' hk (fun _ _ h=>h) (fun i hi e=>by have:=HGE.out.1;omega),hb,hk.blk (HSE.out _ hS).2.2 fun e=>HN4.out e.symm⟩;clear hS hk hb;refine wpList_nil ?_;refine⟨hS1,?_⟩;refine Hl (k:=3) rfl (by kernel_rfl) ?_;refine sta 37 (.tmp 5) (.tmp 17) b5 0 [.int .i64 1] (HSE.out _ hS1).2.2 (by simp) (by kernel_rfl) (by intro v hv;simp only[List.mem_cons,List.not_mem_nil,or_false] at hv;subst hv;rfl) ?_;intro wu hk hb;replace hb:wu.heap[b5]?=some (.cells #[.int .i64 1] 37 (0,0)):=hb;have hS2:S wu:=HSI.out _ ⟨(HSE.out _ hS1).1.trans' hk (fun _ _ h=>h) (fun i hi e=>by have:=HGE.out.2;omega),hk.blk (HSE.out _ hS1).2.1 HN4.out,hb⟩;clear hS1 hk hb;refine wpList_nil ?_;refine⟨hS2,?_⟩;refine wpAnyH_done (by kernel_rfl) ?_ _;refine noP ?_;have HR:=O (HSE.out _ hS2);clear HSE HSI hS2;have HB5:=O HR.out.2.2;have HB4:=O HR.out.2.1;go_wp2_with fail;refine leaves_cons (f:=39) (args:=#[cv,.pointer (some ⟨b5,0,none⟩)]) (by simp) (by simp[go_sem]) ?_;refine(watchV_core wu cv b5 1 _ HB5.out (by decide)).mono ?_;rintro e u' w'' ⟨rfl,rfl,hk⟩;have c7:w''.cell? ⟨b5,0,none⟩=some (.int .i64 1):=aC (i:=0) (hk.blk HB5.out id) rfl;refine⟨_,mD rfl _ _ b4 _ _ _ _ rfl (hk.blk HB4.out id) Tryz.underlying49 rfl (by rw[List.size_toArray];exact zcSn_s) ⟨b5,0,none⟩ (.int .i64 1) rfl (by go_simp),?_⟩;exact⟨rfl,HR.out.1.trans hk⟩
end
section
open Go.ChangeShapes Go.WideShapes Go.ChangeAt Go.RowKit
structure XAct where
 kind:Int
 dev:Int
 pos:Int
 n:Int
 mask:Int
 ba:Option Addr
 bn:Nat
 bc:Nat
 ka:Option Addr
 kn:Nat
 kc:Nat
def xCs(x:XAct):List Value:=[.int .i64 x.kind,.int .i64 x.dev,.int .i64 x.pos,.int .i64 x.n,.int .u8 x.mask,.slice x.ba x.bn x.bc,.slice x.ka x.kn x.kc]
theorem xCs_one(x:XAct):∀u∈xCs x,u.oneCell'=true:=by
 intro u hu;simp only[xCs,List.mem_cons,List.not_mem_nil,or_false] at hu;rcases hu with rfl|rfl|rfl|rfl|rfl|rfl|rfl<;>rfl
structure NAct where
 kind:Int
 dev:Int
 n:Int
 wh:Int
 raw:Bool
 pa:Option Addr
 pn:Nat
 pc:Nat
 pt:List Value
 ids:List Value
 la:Option Addr
 ln:Nat
 lc:Nat
 ba:Option Addr
 bn:Nat
 bc:Nat
 x:XAct
def NAct.p(a:NAct):List Value:=.slice a.pa a.pn a.pc::a.pt
def NAct.Ok(a:NAct):Prop:=a.pt.length=34/\(∀u∈a.pt,u.oneCell'=true)/\a.ids.length=32/\∀u∈a.ids,u.oneCell'=true
theorem NAct.Ok.len{a:NAct}(h:a.Ok):a.p.length=35:=by show a.pt.length+1=35;rw[h.1]
theorem NAct.Ok.one{a:NAct}(h:a.Ok):∀u∈a.p,u.oneCell'=true:=by
 intro u hu;rcases List.mem_cons.1 hu with rfl|hu
 ·rfl
 ·exact h.2.1 u hu
def nHead(a:NAct):List Value:=[.int .i64 a.kind,.int .i64 a.dev,.int .i64 a.n,.int .i64 a.wh,.bool a.raw]
def nCs(a:NAct):List Value:=nHead a++(a.p++(a.ids++(.slice a.la a.ln a.lc::.slice a.ba a.bn a.bc::xCs a.x)))
theorem nCs_len{a:NAct}(h:a.Ok):(nCs a).length=81:=by
 unfold nCs;rw[List.length_append,List.length_append,List.length_append,h.len,h.2.2.1];rfl
theorem nCs_one{a:NAct}(h:a.Ok):∀u∈nCs a,u.oneCell'=true:=by
 intro u hu;rcases List.mem_append.1 hu with hu|hu
 ·simp only[nHead,List.mem_cons,List.not_mem_nil,or_false] at hu
  rcases hu with rfl|rfl|rfl|rfl|rfl<;>rfl
 ·rcases List.mem_append.1 hu with hu|hu
  ·exact h.one u hu
  ·rcases List.mem_append.1 hu with hu|hu
   ·exact h.2.2.2 u hu
   ·rcases List.mem_cons.1 hu with rfl|hu
    ·rfl
    ·rcases List.mem_cons.1 hu with rfl|hu
     ·rfl
     ·exact xCs_one a.x u hu
theorem cut_to{cs l:List Value}{o k:Nat}(m:Nat)(h:(cs.drop o).take k=l)(hm:o+k=m):cs.drop o=l++cs.drop m:=by
 rw[←h,←hm,←List.drop_drop];exact(List.take_append_drop k (cs.drop o)).symm
section
variable {H:Type}{enc:TypeId×Value->H}{w:World}{base:Nat}{spare:Nat->Bool}{held:Bool}{fuel:Nat}
theorem fld_of{t:TypeId}{cs:List Value}{x:DataW H×List MemPlace}{fs:List (String×TypeId×Nat)}(hu:Tryz.prog.underlying t=some (.struct (Tryz.prog.fieldsOf t)))
 (hF:(Tryz.prog.fieldsOf t).toList.map (fun f=>(f.name,f.type,f.offset))=fs) (h:DataW.trod enc Tryz.prog w base spare held fuel t cs=some x) :
 cs.length=Tryz.prog.cellsOf t/\∃m,∀(i:Nat) (n:String) (u:TypeId) (o:Nat),fs[i]?=some (n,u,o)->∃y,DataW.trod enc Tryz.prog w base spare held m u ((cs.drop o).take (Tryz.prog.cellsOf u))=some y:=by
 obtain⟨xs,m,-,-,hl,hx,hf⟩:=DataW.trod_struct hu h;refine⟨hl,m,fun i n u o h2=>?_⟩;rw[←hF,List.getElem?_map] at h2;obtain⟨f,hf1,hf2⟩:=Option.map_eq_some_iff.1 h2;have h3:=hf i f (by simpa using hf1);cases hf2
 have hi:i<xs.length:=by
  have:=(List.getElem?_eq_some_iff.1 hf1).1;rw[hx];simpa using this
 rw[List.getElem?_eq_getElem hi] at h3;exact⟨_,h3⟩
theorem cInt:Tryz.prog.cellsOf 3=1:=by kernel_rfl
theorem cU8:Tryz.prog.cellsOf 5=1:=by kernel_rfl
theorem cBool:Tryz.prog.cellsOf 4=1:=by kernel_rfl
theorem cSB:Tryz.prog.cellsOf 22=1:=by kernel_rfl
theorem cSO:Tryz.prog.cellsOf 61=1:=by kernel_rfl
theorem cSI:Tryz.prog.cellsOf 54=1:=by kernel_rfl
theorem cSA:Tryz.prog.cellsOf 29=1:=by kernel_rfl
theorem cID:Tryz.prog.cellsOf 31=32:=by kernel_rfl
theorem cPt:Tryz.prog.cellsOf 33=35:=by kernel_rfl
theorem zcX9:Tryz.prog.cellsOf 63=7:=by kernel_rfl
theorem zcN9:Tryz.prog.cellsOf 65=81:=by kernel_rfl
theorem uPt:Tryz.prog.underlying 33=some (.struct (Tryz.prog.fieldsOf 33)):=by kernel_rfl
theorem zuX9:Tryz.prog.underlying 63=some (.struct (Tryz.prog.fieldsOf 63)):=by kernel_rfl
theorem uN:Tryz.prog.underlying 65=some (.struct (Tryz.prog.fieldsOf 65)):=by kernel_rfl
theorem fPt : (Tryz.prog.fieldsOf 33).toList.map (fun f => (f.name, f.type, f.offset)) = [("Addrs", 29, 0), ("Birth", 3, 1), ("Level", 3, 2), ("Sum", 31, 3)] := by kernel_rfl
theorem zfX9 : (Tryz.prog.fieldsOf 63).toList.map (fun f => (f.name, f.type, f.offset)) = [("Kind", 3, 0), ("Dev", 3, 1), ("At", 3, 2), ("N", 3, 3), ("Mask", 5, 4), ("B", 22, 5), ("Keep", 61, 6)] := by kernel_rfl
theorem zfN9 : (Tryz.prog.fieldsOf 65).toList.map (fun f => (f.name, f.type, f.offset)) = [("Kind", 3, 0), ("Dev", 3, 1), ("N", 3, 2), ("Which", 3, 3), ("Raw", 4, 4), ("P", 33, 5), ("ID", 31, 40), ("L", 54, 72), ("B", 22, 73), ("X", 63, 74)] := by kernel_rfl
theorem intc_of{cs:List Value}{x:DataW H×List MemPlace}(h:DataW.trod enc Tryz.prog w base spare held fuel 3 cs=some x):∃a:Int,cs=[.int .i64 a]:=by
 obtain⟨a,e0,-,-⟩:=DataW.trod_int Tryz.underlying3 h;exact⟨a,e0⟩
theorem bytec_of{cs:List Value}{x:DataW H×List MemPlace}(h:DataW.trod enc Tryz.prog w base spare held fuel 5 cs=some x):∃a:Int,cs=[.int .u8 a]:=by
 obtain⟨a,e0,-,-⟩:=DataW.trod_int Tryz.underlying5 h;exact⟨a,e0⟩
theorem boolc_of{cs:List Value}{x:DataW H×List MemPlace}(h:DataW.trod enc Tryz.prog w base spare held fuel 4 cs=some x):∃a:Bool,cs=[.bool a]:=by
 obtain⟨a,e0,-⟩:=DataW.trod_bool Tryz.underlying4 h;exact⟨a,e0⟩
theorem idc_of{cs:List Value}{x:DataW H×List MemPlace}(h:DataW.trod enc Tryz.prog w base spare held fuel 31 cs=some x):cs.length=32/\∀u∈cs,u.oneCell'=true:=by
 obtain⟨xs,m,-,-,hl,hx,he⟩:=DataW.trod_array Tryz.underlying31 h;rw[cID] at hl;refine⟨hl,fun u hu=>?_⟩;obtain⟨i,hi⟩:=List.getElem?_of_mem hu;have hi32:i<32:=by have:=(List.getElem?_eq_some_iff.1 hi).1;omega
 have h1:=he i hi32;rw[cU8,Nat.mul_one] at h1;obtain⟨y,hy⟩:∃y,xs[i]?=some y:=⟨xs[i]'(by omega),List.getElem?_eq_getElem _⟩
 rw[hy] at h1;obtain⟨b,hb⟩:=bytec_of h1;have:((cs.drop i).take 1)[0]?=some (.int .u8 b):=by rw[hb];rfl
 rw[List.getElem?_take,if_pos (by omega),List.getElem?_drop,Nat.add_zero,hi] at this;cases this
 rfl
theorem ptc_of{cs:List Value}{x:DataW H×List MemPlace}(h:DataW.trod enc Tryz.prog w base spare held fuel 33 cs=some x):∃a n c pt,cs=.slice a n c::pt/\pt.length=34/\∀u∈pt,u.oneCell'=true:=by
 obtain⟨hl,m,hf⟩:=fld_of uPt fPt h;rw[cPt] at hl;obtain⟨_,h0⟩:=hf 0 _ _ _ rfl;obtain⟨_,h1⟩:=hf 1 _ _ _ rfl;obtain⟨_,h2⟩:=hf 2 _ _ _ rfl;obtain⟨_,h3⟩:=hf 3 _ _ _ rfl;obtain⟨a,n,c,e0⟩:=Go.Joins.slice_form Tryz.underlying29 h0;obtain⟨b,e1⟩:=intc_of h1;obtain⟨d,e2⟩:=intc_of h2;obtain⟨l3,o3⟩:=idc_of h3;rw[cSA] at e0;rw[cInt] at e1 e2;rw[cID] at l3 o3
 have e:cs=.slice a n c::(.int .i64 b::.int .i64 d::(cs.drop 3).take 32):=by
  have q0:=cut_to 1 e0 rfl;rw[cut_to 2 e1 rfl,cut_to 3 e2 rfl,cut_to 35 (rfl:(cs.drop 3).take 32=_) rfl,List.drop_eq_nil_of_le (i:=35) (by omega),List.append_nil] at q0;exact q0
 refine⟨a,n,c,_,e,?_,fun u hu=>?_⟩
 ·show ((cs.drop 3).take 32).length+1+1=34
  rw[l3]
 ·rcases List.mem_cons.1 hu with rfl|hu
  ·rfl
  ·rcases List.mem_cons.1 hu with rfl|hu
   ·rfl
   ·exact o3 u hu
theorem xact_of{cs:List Value}{x:DataW H×List MemPlace}(h:DataW.trod enc Tryz.prog w base spare held fuel 63 cs=some x):∃a,cs=xCs a:=by
 obtain⟨hl,m,hf⟩:=fld_of zuX9 zfX9 h;rw[zcX9] at hl;obtain⟨_,h0⟩:=hf 0 _ _ _ rfl;obtain⟨_,h1⟩:=hf 1 _ _ _ rfl;obtain⟨_,h2⟩:=hf 2 _ _ _ rfl;obtain⟨_,h3⟩:=hf 3 _ _ _ rfl;obtain⟨_,h4⟩:=hf 4 _ _ _ rfl;obtain⟨_,h5⟩:=hf 5 _ _ _ rfl;obtain⟨_,h6⟩:=hf 6 _ _ _ rfl;obtain⟨a0,e0⟩:=intc_of h0;obtain⟨a1,e1⟩:=intc_of h1;obtain⟨a2,e2⟩:=intc_of h2;obtain⟨a3,e3⟩:=intc_of h3;obtain⟨a4,e4⟩:=bytec_of h4;obtain⟨b0,b1,b2,e5⟩:=Go.Joins.slice_form Tryz.underlying22 h5;obtain⟨k0,k1,k2,e6⟩:=Go.Joins.slice_form Tryz.underlying61 h6;rw[cInt] at e0 e1 e2 e3;rw[cU8] at e4;rw[cSB] at e5;rw[cSO] at e6;refine⟨⟨a0,a1,a2,a3,a4,b0,b1,b2,k0,k1,k2⟩,?_⟩;have q0:=cut_to 1 e0 rfl;rw[cut_to 2 e1 rfl,cut_to 3 e2 rfl,cut_to 4 e3 rfl,cut_to 5 e4 rfl,cut_to 6 e5 rfl,cut_to 7 e6 rfl,List.drop_eq_nil_of_le (i:=7) (by omega)] at q0;exact q0
theorem nact_of{cs:List Value}{x:DataW H×List MemPlace}(h:DataW.trod enc Tryz.prog w base spare held fuel 65 cs=some x):∃a:NAct,a.Ok/\cs=nCs a:=by
 obtain⟨hl,m,hf⟩:=fld_of uN zfN9 h;rw[zcN9] at hl;obtain⟨_,h0⟩:=hf 0 _ _ _ rfl;obtain⟨_,h1⟩:=hf 1 _ _ _ rfl;obtain⟨_,h2⟩:=hf 2 _ _ _ rfl;obtain⟨_,h3⟩:=hf 3 _ _ _ rfl;obtain⟨_,h4⟩:=hf 4 _ _ _ rfl;obtain⟨_,h5⟩:=hf 5 _ _ _ rfl;obtain⟨_,h6⟩:=hf 6 _ _ _ rfl;obtain⟨_,h7⟩:=hf 7 _ _ _ rfl;obtain⟨_,h8⟩:=hf 8 _ _ _ rfl;obtain⟨_,h9⟩:=hf 9 _ _ _ rfl;obtain⟨a0,e0⟩:=intc_of h0;obtain⟨a1,e1⟩:=intc_of h1;obtain⟨a2,e2⟩:=intc_of h2;obtain⟨a3,e3⟩:=intc_of h3;obtain⟨a4,e4⟩:=boolc_of h4;obtain⟨p0,p1,p2,pt,e5,hp1,hp2⟩:=ptc_of h5;obtain⟨i1,i2⟩:=idc_of h6;obtain⟨l0,l1,l2,e7⟩:=Go.Joins.slice_form Tryz.underlying54 h7;obtain⟨b0,b1,b2,e8⟩:=Go.Joins.slice_form Tryz.underlying22 h8;obtain⟨a9,e9⟩:=xact_of h9;rw[cInt] at e0 e1 e2 e3;rw[cBool] at e4;rw[cPt] at e5;rw[cID] at i1 i2;rw[cSI] at e7;rw[cSB] at e8;rw[zcX9] at e9;refine⟨⟨a0,a1,a2,a3,a4,p0,p1,p2,pt,(cs.drop 40).take 32,l0,l1,l2,b0,b1,b2,a9⟩,⟨hp1,hp2,i1,i2⟩,?_⟩;have q0:=cut_to 1 e0 rfl;rw[cut_to 2 e1 rfl,cut_to 3 e2 rfl,cut_to 4 e3 rfl,cut_to 5 e4 rfl,cut_to 40 e5 rfl,cut_to 72 (rfl:(cs.drop 40).take 32=_) rfl,cut_to 73 e7 rfl,cut_to 74 e8 rfl,cut_to 81 e9 rfl,List.drop_eq_nil_of_le (i:=81) (by omega),List.append_nil] at q0;exact q0
end
end
section
open Go.RowKit
theorem flatMap_at{α:Type}{f:α->List Value}{k:Nat}:∀{l:List α},(∀y∈l,(f y).length=k)->∀(i:Nat){y:α},l[i]?=some y->∀j,j<k->(l.flatMap f)[i*k+j]?=(f y)[j]?
 | [],_,_,_,hy,_,_=>by simp at hy
 | x::l,h,0,y,hy,j,hj=>by
   have e:x=y:=by simpa using hy
   subst e;rw[List.flatMap_cons,Nat.zero_mul,Nat.zero_add,List.getElem?_append_left (by rw[h x (List.mem_cons_self ..)];exact hj)]
 | x::l,h,i+1,y,hy,j,hj=>by
   rw[List.flatMap_cons,List.getElem?_append_right (by rw[h x (List.mem_cons_self ..),Nat.succ_mul];omega),h x (List.mem_cons_self ..),show (i+1)*k+j-k=i*k+j by rw[Nat.succ_mul];omega];exact flatMap_at (fun y hy=>h y (List.mem_cons_of_mem _ hy)) i (by simpa using hy) j hj
theorem rd_row{α:Type}{f:α->List Value}{s:Nat}{w:World}{v:Value}{l:List α}(hf:∀y∈l,(f y).length=s)(hs:0<s)(h:Rd w s v l.length (l.flatMap f)){k:Nat}{x:α}(hk:l[k]?=some x) :
 ∃g o cap,v=.slice (some ⟨g,o,none⟩) l.length cap/\∀j u,(f x)[j]?=some u->w.cell? ⟨g,o+k*s+j,none⟩=some u:=by
 obtain⟨h0,a,cap,rfl,h1,h2,h3,h4⟩:=h;have hlt:=(List.getElem?_eq_some_iff.1 hk).1;have hpos:0<l.length*s:=Nat.mul_pos (by omega) hs;obtain⟨g,o,rfl,hc⟩:=h4 (by rw[h0];exact hpos);refine⟨g,o,cap,rfl,fun j u hj=>?_⟩;have hj5:j<s:=by have:=(List.getElem?_eq_some_iff.1 hj).1;rwa [hf x (List.mem_of_getElem? hk)] at this
 have h5:=flatMap_at (f:=f) (k:=s) (l:=l) hf k hk j hj5;rw[hj] at h5;have:=hc (k*s+j) u h5
 rwa [←Nat.add_assoc] at this
theorem nCs_far{a:NAct}(h:a.Ok)(j:Nat):(nCs a)[72+j]?=(.slice a.la a.ln a.lc::.slice a.ba a.bn a.bc::xCs a.x:List Value)[j]?:=by
 unfold nCs;rw[List.getElem?_append_right (by show 5≤_;omega),List.getElem?_append_right (by rw[h.len];show 35≤72+j-5;omega),List.getElem?_append_right (by rw[h.len,h.2.2.1];show 32≤72+j-5-35;omega),h.len,h.2.2.1]
 congr 1
 show 72+j-5-35-32=j;omega
def xRow(l:List XAct):List Value:=l.flatMap xCs
def nRow(l:List NAct):List Value:=l.flatMap nCs
def NOk(l:List NAct):Prop:=∀a∈l,a.Ok
def BoolK(w:World)(e:Ending)(w':World):Prop:=(∃b,e=.returned (.bool b))/\aA aB w w'
def LongPost(w:World)(l:List NAct)(e:Ending)(w':World):Prop:=(∃b,e=.returned (.bool b)/\(b=false->l.length≤60/\∀a∈l,a.pn≤20/\a.ln≤20/\a.bn≤300))/\aA aB w w'
theorem infoX:(Tryz.prog.info? 63).map (fun i=>(i.zero,i.size,i.bytes))=some (some (.agg (xCs ⟨0,0,0,0,0,none,0,0,none,0,0⟩).toArray),7,88):=by kernel_rfl
theorem szX:(Tryz.prog.info? 63).map (·.size)=some 7:=by kernel_rfl
theorem long15_any(w:World)(v:Value)(l:List XAct)(hr:Rd w 7 v l.length (xRow l)):Calls Tryz.prog 82 #[v] w (BoolK w):=by
 obtain⟨oa,ca,rfl,hlc,hcm⟩:=hr.form;have hlm:l.length≤maxLen:=by omega
 unfold maxLen at hlm;obtain⟨n,hn⟩:∃n,l.length=n:=⟨_,rfl⟩
 have HN:=O hn;have HR:=O hr;rw[hn] at HR hlm ⊢;clear hr hn hlc hcm;go_enter Tryz.func82,Tryz.ntmps82;go_wp2_with fail
 go_loopw [3] (fun t wr=>∃k:Nat,k≤n/\t=.int .i64 k/\wr=w) (fun t _=>n-(intOf t).toNat)
 case atStart=>exact⟨0,Nat.zero_le _,rfl,rfl⟩
 case round =>
 obtain⟨k,hk,rfl,rfl⟩:=hrel
 by_cases hlt:k<n
 ·have hki:(k:Int)<(n:Int):=by omega
  have hk0:(0:Int)≤(k:Int):=by omega
  by_cases h101:k<101
  ·have hj:(k:Int)<(101:Int):=by omega
   have d0:decide ((k:Int)<(101:Int))=true:=decide_eq_true hj;obtain⟨x,hx⟩:∃x,l[k]?=some x:=⟨l[k]'(by rw[HN.out];exact hlt),List.getElem?_eq_getElem _⟩
   have hr2:=HR.out;rw[←HN.out] at hr2;obtain⟨g,o,cap,hv,hc⟩:=rd_row (f:=xCs) (fun _ _=>rfl) (by omega) hr2 hx;rw[HN.out] at hv;have e1:oa=some ⟨g,o,none⟩:=by cases hv;rfl
   subst e1;have h5:=hc 5 _ rfl;have h6:=hc 6 _ rfl;clear hr2 hv hc hx;obtain⟨p,hp⟩:∃q,x.bn=q:=⟨_,rfl⟩
   obtain⟨q,hq⟩:∃q,x.kn=q:=⟨_,rfl⟩
   rw[hp] at h5;rw[hq] at h6;clear hp hq
   by_cases h3:300<p
   ·have hi:(300:Int)<(p:Int):=by omega
    have d1:decide ((300:Int)<(p:Int))=true:=decide_eq_true hi;go_wp2_with fail;go_ret;exact⟨⟨_,rfl⟩,aA.refl _ _⟩
   ·have hi:¬(300:Int)<(p:Int):=by omega
    have d1:decide ((300:Int)<(p:Int))=false:=decide_eq_false hi
    by_cases h4:200<q
    ·have hj2:(200:Int)<(q:Int):=by omega
     have d2:decide ((200:Int)<(q:Int))=true:=decide_eq_true hj2;go_wp2_with fail;go_ret;exact⟨⟨_,rfl⟩,aA.refl _ _⟩
    ·have hj2:¬(200:Int)<(q:Int):=by omega
     have d2:decide ((200:Int)<(q:Int))=false:=decide_eq_false hj2;go_wp2_with fail
     go_roundw
     case rel=>exact⟨k+1,by omega,by go_num,trivial⟩
     case measure=>simp[intOf];omega
  ·have hj:¬(k:Int)<(101:Int):=by omega
   have d0:decide ((k:Int)<(101:Int))=false:=decide_eq_false hj
   by_cases h60:100<n
   ·have hi:(100:Int)<(n:Int):=by omega
    have d1:decide ((100:Int)<(n:Int))=true:=decide_eq_true hi;go_wp2_with fail;go_ret;exact⟨⟨_,rfl⟩,aA.refl _ _⟩
   ·exact absurd hlt (by omega)
 ·obtain rfl:n=k:=by omega
  by_cases h60:100<n
  ·have hi:(100:Int)<(n:Int):=by omega
   have d1:decide ((100:Int)<(n:Int))=true:=decide_eq_true hi;go_wp2_with fail;go_ret;exact⟨⟨_,rfl⟩,aA.refl _ _⟩
  ·have hi:¬(100:Int)<(n:Int):=by omega
   have d1:decide ((100:Int)<(n:Int))=false:=decide_eq_false hi;go_wp2_with fail;go_ret;exact⟨⟨_,rfl⟩,aA.refl _ _⟩
theorem long18_any(w:World)(v:Value)(l:List NAct)(ho:NOk l)(hr:Rd w 81 v l.length (nRow l)):Calls Tryz.prog 27 #[v] w (LongPost w l):=by
 obtain⟨oa,ca,rfl,hlc,hcm⟩:=hr.form;have hlm:l.length≤maxLen:=by omega
 unfold maxLen at hlm;obtain⟨n,hn⟩:∃n,l.length=n:=⟨_,rfl⟩
 have HN:=O hn;have HR:=O hr;have HOK:=O ho;rw[hn] at HR hlm ⊢;clear hr hn hlc hcm ho;go_enter Tryz.func27,Tryz.ntmps27;go_wp2_with fail
 go_loopw [3,4] (fun s t wr=>∃(k:Nat) (pa:Option Addr) (pc:Nat),k≤n/\k≤61/\s=.slice pa k pc/\t=.int .i64 k/\Hid (wr.ownsRow w.heap.size 63 7 (.slice pa k pc) k (xRow ((l.take k).map (·.x))))/\Hid (aA aB w wr)/\Hid (∀a∈l.take k,a.pn≤20/\a.ln≤20/\a.bn≤300)) (fun _ t _=>n-(intOf t).toNat)
 case atStart=>exact⟨0,none,0,Nat.zero_le _,by omega,rfl,rfl,O (World.ownsRow_nil _ _ _ _),O (aA.refl _ _),O (by simp)⟩
 case round =>
 obtain⟨k,pa,pc,hk,hk61,rfl,rfl,HO,HK,HS⟩:=hrel;have hsz:=HK.out.size
 by_cases hlt:k<n
 ·have hki:(k:Int)<(n:Int):=by omega
  have hk0:(0:Int)≤(k:Int):=by omega
  by_cases h61:k<61
  ·have hj:(k:Int)<(61:Int):=by omega
   have d0:decide ((k:Int)<(61:Int))=true:=decide_eq_true hj;obtain⟨x,hx⟩:∃x,l[k]?=some x:=⟨l[k]'(by rw[HN.out];exact hlt),List.getElem?_eq_getElem _⟩
   have hxo:=HOK.out x (List.mem_of_getElem? hx);have hr2:=HR.out;rw[←HN.out] at hr2;obtain⟨g,o,cap,hv,hc⟩:=rd_row (f:=nCs) (fun y hy=>nCs_len (HOK.out y hy)) (by omega) (hr2.keep HK.out fun _ _=>id) hx;rw[HN.out] at hv;have e1:oa=some ⟨g,o,none⟩:=by cases hv;rfl
   subst e1;have h6:=hc 5 (.slice x.pa x.pn x.pc) rfl;have h9:=hc 72 (.slice x.la x.ln x.lc) (nCs_far hxo 0);have h7:=hc 73 (.slice x.ba x.bn x.bc) (nCs_far hxo 1)
   have h8:wr.rangeAt g (o+k*81+74) (xCs x.x):=fun j u hj=>by
    have:=hc (72+(j+2)) u (by rw[nCs_far hxo (j+2)];exact hj)
    rwa [show o+k*81+(72+(j+2))=o+k*81+74+j by omega] at this
   have HXR:=O h8;have HX:=O hx;clear hr2 hv hc hx h8 hxo;obtain⟨p,hp⟩:∃q,x.pn=q:=⟨_,rfl⟩
   obtain⟨q,hq⟩:∃q,x.bn=q:=⟨_,rfl⟩
   obtain⟨ql,hql⟩:∃q,x.ln=q:=⟨_,rfl⟩
   rw[hp] at h6;rw[hq] at h7;rw[hql] at h9;have HP:=O hp;have HQ:=O hq;have HQL:=O hql;clear hp hq hql
   by_cases h3:20<p
   ·have hi:(20:Int)<(p:Int):=by omega
    have d1:decide ((20:Int)<(p:Int))=true:=decide_eq_true hi;go_wp2_with fail;go_ret;exact⟨⟨_,rfl,fun h=>by cases h⟩,HK.out⟩
   ·have hi:¬(20:Int)<(p:Int):=by omega
    have d1:decide ((20:Int)<(p:Int))=false:=decide_eq_false hi
    by_cases h5l:20<ql
    ·have hj3:(20:Int)<(ql:Int):=by omega
     have d3:decide ((20:Int)<(ql:Int))=true:=decide_eq_true hj3;go_wp2_with fail;go_ret;exact⟨⟨_,rfl,fun h=>by cases h⟩,HK.out⟩
    have hj3:¬(20:Int)<(ql:Int):=by omega
    have d3:decide ((20:Int)<(ql:Int))=false:=decide_eq_false hj3
    by_cases h4:300<q
    ·have hj2:(300:Int)<(q:Int):=by omega
     have d2:decide ((300:Int)<(q:Int))=true:=decide_eq_true hj2;go_wp2_with fail;go_ret;exact⟨⟨_,rfl,fun h=>by cases h⟩,HK.out⟩
    ·have hj2:¬(300:Int)<(q:Int):=by omega
     have d2:decide ((300:Int)<(q:Int))=false:=decide_eq_false hj2;have HOX:Hid (∀u∈xCs x.x,u.oneCell'=true):=O (xCs_one x.x);obtain⟨we,hwe,hke,hbe,-⟩:=aM wr (xCs x.x).toArray 63;obtain⟨bx,hbx⟩:∃x,wr.heap.size=x:=⟨_,rfl⟩
     rw[hbx] at hbe;have HRN:Hid (Rd we 7 (.slice (some ⟨bx,0,none⟩) 1 1) 1 (xCs x.x)):=O (eL (n:=1) (size:=7) hbe rfl (by unfold maxLen;omega));have HO_:=O (hke.owns HO.out fun _ _=>id);have hsz_:=hke.size;have HKE:=O hke;clear hbe hke
     go_wp2_with (first
      | ((with_reducible show WL (some 46) (.load _ _));refine wpList_load_mid rfl 63 (.tmp 45) rfl g (o+k*81+74) rfl (xCs x.x) _ HXR.out zuX9 rfl (by exact szX) ?_)
      | ((with_reducible show WL _ (.buildSlice _ 1 _));refine bX rfl 141 63 (.tmp 46) rfl Tryz.underlying141 infoX (by decide) (xCs x.x) rfl (by decide) rfl ?_;rw[hwe,hbx])
      | (at_builtin;refine aK rfl (.tmp 41) (.tmp 47) 141 rfl w.heap.size 63 (.agg (xCs ⟨0,0,0,0,0,none,0,0,none,0,0⟩).toArray) 7 88 Tryz.underlying141 infoX rfl (by decide) (.slice pa k pc) k (xRow ((l.take k).map (·.x))) rfl HO_.out (.slice (some ⟨bx,0,none⟩) 1 1) 1 (xCs x.x) rfl HRN.out HOX.out (by unfold maxLen;omega) (by omega) (by omega) ?_))
     intro v2 w8 ho5 hk5 hn5 hb5;obtain⟨gq,cq,rfl⟩:=ownsRow_succ ho5;have HO5:=O ho5;have HK5:Hid (aA aB w w8):=O ((HK.out.trans HKE.out).trans' hk5 (fun _ _ h=>h) fun i hi e=>absurd (bG HO_.out e) (by omega));clear hwe hbx hn5 HRN HO_ ho5 hk5 hb5 HKE hsz_;go_wp2_with fail
     go_roundw
     case rel=>exact⟨k+1,some ⟨gq,0,none⟩,cq,by omega,by omega,by rfl,by go_num,by rw[List.take_add_one,HX.out,List.map_append];unfold xRow;rw[List.flatMap_append];show Hid (World.ownsRow _ _ _ _ _ _ (_++(xCs x.x++[])));rw[List.append_nil,List.map_take];exact HO5,HK5,O (fun a ha=>by
      rw[List.take_add_one,HX.out] at ha;rcases List.mem_append.1 ha with ha|ha
      ·exact HS.out a ha
      ·cases List.mem_singleton.1 ha
       rw[HP.out,HQ.out,HQL.out];omega)⟩
     case measure=>simp[intOf];omega
  ·have hj:¬(k:Int)<(61:Int):=by omega
   have d0:decide ((k:Int)<(61:Int))=false:=decide_eq_false hj;have hi:(60:Int)<(n:Int):=by omega
   have d1:decide ((60:Int)<(n:Int))=true:=decide_eq_true hi;go_wp2_with fail;go_ret;exact⟨⟨_,rfl,fun h=>by cases h⟩,HK.out⟩
 ·obtain rfl:n=k:=by omega
  have HS2:Hid (∀a∈l,a.pn≤20/\a.ln≤20/\a.bn≤300):=O (by have:=HS.out;rwa [List.take_of_length_le (by rw[HN.out];exact Nat.le_refl _)] at this)
  by_cases h60:60<n
  ·have hi:(60:Int)<(n:Int):=by omega
   have d1:decide ((60:Int)<(n:Int))=true:=decide_eq_true hi;go_wp2_with fail;go_ret;exact⟨⟨_,rfl,fun h=>by cases h⟩,HK.out⟩
  ·have hi:¬(60:Int)<(n:Int):=by omega
   have d1:decide ((60:Int)<(n:Int))=false:=decide_eq_false hi
   have HC:Hid (Calls Tryz.prog 82 #[.slice pa n pc] wr (BoolK wr)):=O (long15_any wr _ (l.map (·.x)) (by
    have h:=Rd.of_owns HO.out;rw[List.take_of_length_le (by rw[HN.out];exact Nat.le_refl _)] at h
    rwa [List.length_map,HN.out]))
   clear HO HS;go_wp2_with fail;refine HC.out.mono ?_;rintro e w2 ⟨⟨b,rfl⟩,hk2⟩;have HK2:=O (HK.out.trans hk2);clear hk2 HC HK;go_wp2_with fail;go_ret;exact⟨⟨b,rfl,fun _=>⟨by rw[HN.out];omega,HS2.out⟩⟩,HK2.out⟩
end
section
open Go.RowKit Go.Maps Go.ChangeMaps
theorem bs2{P:Program}{w:World}{ops:Array Oper}{rest:List Oper}{o:Oper}{a:Act}{Q:Exit->Act->World->Prop}(t e:TypeId)(x y:Operand)(u v:Value)(hsz:(P.info? e).map (·.size)=some 1)(hz:((P.info? e).bind (·.zero)).isSome=true)(hu:P.underlying t=some (.slice e))(h1:u.cells=#[u])(h2:v.cells=#[v])
 (h:∀b w',w.heap.size=b->aA aB w w'->w'.heap[b]?=some (.cells #[u,v] e (0,0))->wpList P ops Q rest (a.put o.dst (.slice (some ⟨b,0,none⟩) 2 2)) w') (hx:a.eval x=u:=by rfl) (hy:a.eval y=v:=by rfl) (hg:o.guard=none:=by rfl) (ho:o.op=.buildSlice t 2 #[(0,x),(1,y)]:=by rfl):wpList P ops Q (o::rest) a w:=by
 cases hie:P.info? e with
 | none=>simp[hie] at hsz
 | some ie =>
   simp only[hie,Option.map_some,Option.some.injEq,Option.bind_some] at hsz hz;obtain⟨z,hzz⟩:=Option.isSome_iff_exists.1 hz;refine wpList_buildSlice hg t e 2 _ ho #[u,v] ie z hu hie hzz (by rw[hsz];omega) (by rw[hsz];omega) ?_ (h _ _ rfl ((aA.refl _ _).alloc _) (heap_alloc_new _ _));rw[hsz];have e1:((#[((0:Nat),x),(1,y)]:Array (Nat×Operand)).map fun(i,x)=>(i,a.eval x)).toList=([u,v].zipIdx 0).map fun x=>(x.2,x.1):=by simp[hx,hy]
   rw[e1];exact Great.fill_flat [u,v] _ (fun q hq=>by rcases List.mem_cons.1 hq with rfl|hq;exact h1;rcases List.mem_singleton.1 hq with rfl;exact h2) (by simp)
theorem bsO{P:Program}{ops:Array Oper}{rest:List Oper}{o:Oper}{a:Act}{w:World}{Q:Exit->Act->World->Prop}(t e:TypeId)(x:Operand)(hu:P.underlying t=some (.slice e)){z:Value}{size bytes:Nat}(hinf:(P.info? e).map (fun i=>(i.zero,i.size,i.bytes))=some (some z,size,bytes))(hsz:0<size)(vs:List Value)(hvs:vs.length=size)(hsmall:size≤2 ^ 24)
 (h:∀b w',w.heap.size=b->aA aB w w'->w'.heap[b]?=some (.cells vs.toArray e (0,0))->wpList P ops Q rest (a.put o.dst (.slice (some ⟨b,0,none⟩) 1 1)) w') (hx:a.eval x=.agg vs.toArray:=by rfl) (hg:o.guard=none:=by rfl) (ho:o.op=.buildSlice t 1 #[(0,x)]:=by rfl):wpList P ops Q (o::rest) a w:=
 bX hg t e x ho hu hinf hsz vs hvs hsmall hx (h _ _ rfl ((aA.refl _ _).alloc _) (heap_alloc_new _ _))
theorem bldg{P:Program}{ops:Array Oper}{rest:List Oper}{o:Oper}{a:Act}{w:World}{Q:Exit->Act->World->Prop}(t:TypeId)(u:Value)(hb:∀w,(Instr.build t #[]).run P w=.ok u w)(h:wpList P ops Q rest (a.put o.dst u) w)(hw:Region.wanted o (yielded ops a.tmps)=true:=by rfl)(ho:o.op=.build t #[]:=by rfl):wpList P ops Q (o::rest) a w:=by
 refine DE hw fun K hK=>?_
 unfold Oper.wp execOp;simp only[ho,List.map_toArray,List.map_nil,Sem.run_bind,hb,Result.andThen_ok,Sem.run_pure];exact hK _ _ h
theorem wneq{P:Program}{ops:Array Oper}{rest:List Oper}{o:Oper}{a:Act}{w:World}{Q:Exit->Act->World->Prop}(t:TypeId)(x y:Operand)(rt:TypeId)(xs ys:Array Value)(hg:P.eqGuardType P.depth t=false){b:Bool}(h:∀w,(binOp .neq t (.agg xs) (.agg ys)).run P w=.ok (.bool b) w)(hk:wpList P ops Q rest (a.put o.dst (.bool b)) w)(hw:Region.wanted o (yielded ops a.tmps)=true:=by rfl)(ho:o.op=.binOp .neq t x y rt:=by rfl)(hx:a.eval x=.agg xs:=by rfl)(hy:a.eval y=.agg ys:=by rfl):wpList P ops Q (o::rest) a w:=by
 refine DE hw fun K hK=>?_
 unfold Oper.wp execOp;simp only[ho,hx,hy,Sem.run_bind,Sem.run_pure,Result.andThen_ok,run_eqGuard_agg w .neq t x y xs ys hg,h w];exact hK _ _ hk
theorem guSn:Tryz.prog.eqGuardType Tryz.prog.depth 49=false:=by kernel_rfl
theorem guEr:Tryz.prog.eqGuardType Tryz.prog.depth 87=false:=by kernel_rfl
theorem guID:Tryz.prog.eqGuardType Tryz.prog.depth 31=false:=by kernel_rfl
def zcCore:List Value:=.pointer none::.pointer none::(vZ.map vb++(.int .i64 0::.slice none 0 0::.pointer none::.slice none 0 0::.slice none 0 0::(Qt++[.bool false])))
theorem buildCore0(w:World):(Instr.build vI #[]).run Tryz.prog w=.ok (.agg zcCore.toArray) w:=by kernel_rfl
def zcArr:List Value:=[.slice none 0 0,.slice none 0 0,.int .i64 0,.bool false,.int .i64 0]
theorem buildArr0(w:World):(Instr.build 78 #[]).run Tryz.prog w=.ok (.agg zcArr.toArray) w:=by kernel_rfl
theorem infoN:(Tryz.prog.info? 65).map (fun i=>(i.zero,i.size,i.bytes))=some (some (.agg (nCs ⟨0,0,0,0,false,none,0,0,.int .i64 0::.int .i64 0::vZ.map vb,vZ.map vb,none,0,0,none,0,0,⟨0,0,0,0,0,none,0,0,none,0,0⟩⟩).toArray),81,280):=by kernel_rfl
theorem szAct:(Tryz.prog.info? 65).map (·.size)=some 81:=by kernel_rfl
theorem rangeAt_sub{w:World}{b o:Nat}{cs ps:List Value}{t:TypeId}{fr:Nat×Nat}(hb:w.heap[b]?=some (.cells cs.toArray t fr))(h:∀j u,ps[j]?=some u->cs.toArray[o+j]?=some u):w.rangeAt b o ps:=fun j u hj=>aC hb (h j u hj)
theorem neSn(w:World):Sem.run Tryz.prog (binOp .neq 49 (.agg zcSn.toArray) (.agg zcSn.toArray)) w=.ok (.bool false) w:=by kernel_rfl
theorem neEr(w:World):Sem.run Tryz.prog (binOp .neq 87 (.agg zcEr.toArray) (.agg zcEr.toArray)) w=.ok (.bool false) w:=by kernel_rfl
theorem neID(w:World):Sem.run Tryz.prog (binOp .neq 31 (.agg Qw.toArray) (.agg Qw.toArray)) w=.ok (.bool false) w:=by kernel_rfl
theorem coreNone_walk(w:World)(aF aR:Addr)(hg:iK w aF aR)(a:NAct)(ha:a.Ok):Calls Tryz.prog 5 #[.agg (nCs a).toArray] w (aN w (.bool true)):=by
 have HG:=O hg
 have h5:∀j u,a.p[j]?=some u->(nCs a).toArray[5+j]?=some u:=fun j u hj=>by
  have hl:j<a.p.length:=(List.getElem?_eq_some_iff.1 hj).1;rw[List.getElem?_toArray];unfold nCs;rw[List.getElem?_append_right (by show 5≤_;omega),List.getElem?_append_left (by show 5+j-5<_;omega),show 5+j-(nHead a).length=j by show 5+j-5=j;omega];exact hj
 have h40:∀j u,a.ids[j]?=some u->(nCs a).toArray[40+j]?=some u:=fun j u hj=>by
  have hl:j<a.ids.length:=(List.getElem?_eq_some_iff.1 hj).1;rw[List.getElem?_toArray];unfold nCs;rw[List.getElem?_append_right (by show 5≤_;omega),List.getElem?_append_right (by rw[ha.len];show 35≤40+j-5;omega),List.getElem?_append_left (by rw[ha.len];show 40+j-5-35<_;omega),ha.len,show 40+j-(nHead a).length-35=j by show 40+j-5-35=j;omega];exact hj
 have h72:(nCs a).toArray[72]?=some (.slice a.la a.ln a.lc):=by rw[List.getElem?_toArray];exact nCs_far ha 0
 have h73:(nCs a).toArray[73]?=some (.slice a.ba a.bn a.bc):=by rw[List.getElem?_toArray];exact nCs_far ha 1
 have h1:(nCs a).toArray[1]?=some (.int .i64 a.dev):=rfl;have h2:(nCs a).toArray[2]?=some (.int .i64 a.n):=rfl;have h5v:(nCs a).toArray[5]?=some (.slice a.pa a.pn a.pc):=rfl;have hnc:=nCs_len ha;have hno:=nCs_one ha;have hpc:=ha.len;have hpo:=ha.one;have hic:=ha.2.2.1;have hio:=ha.2.2.2;have hcl:nRow [a]=nCs a:=by show nCs a++[]=_;exact List.append_nil _
 have HAL:Hid (NOk [a]):=O (fun y hy=>by cases List.mem_singleton.1 hy;exact ha);obtain⟨pc,hpe⟩:∃x,a.p=x:=⟨_,rfl⟩
 obtain⟨ic,hie⟩:∃x,a.ids=x:=⟨_,rfl⟩
 obtain⟨nc,hne⟩:∃x,nCs a=x:=⟨_,rfl⟩
 obtain⟨n,hn⟩:∃x,a.n=x:=⟨_,rfl⟩
 obtain⟨dv,hdv⟩:∃x,a.dev=x:=⟨_,rfl⟩
 obtain⟨lv,hlv⟩:∃x,Value.slice a.la a.ln a.lc=x:=⟨_,rfl⟩
 obtain⟨bv,hbv⟩:∃x,Value.slice a.ba a.bn a.bc=x:=⟨_,rfl⟩
 obtain⟨pv,hpv⟩:∃x,Value.slice a.pa a.pn a.pc=x:=⟨_,rfl⟩
 rw[hpe,hne] at h5;rw[hie,hne] at h40;rw[hne,hlv] at h72;rw[hne,hbv] at h73;rw[hne,hpv] at h5v;rw[hne,hn] at h2;rw[hne,hdv] at h1;rw[hne] at hnc hno hcl ⊢;rw[hpe] at hpc hpo;rw[hie] at hic hio;have H5:=O h5;have H40:=O h40;have H72:=O h72;have H73:=O h73;have H1:=O h1;have H2:=O h2;have H5V:=O h5v;have HON:=O hno;have HOP:=O hpo;have HOI:=O hio;have HCL:=O hcl;clear hg ha hpe hie hne hn hdv hlv hbv hpv h5 h40 h72 h73 h1 h2 h5v hno hpo hio hcl;obtain⟨zc,hzce⟩:∃x,zcCore=x:=⟨_,rfl⟩
 have HZB2:Hid (∀w,(Instr.build vI #[]).run Tryz.prog w=.ok (.agg zc.toArray) w):=O (by rw[←hzce];exact buildCore0);have HZ0:Hid (zc.toArray[0]?=some (.pointer none)):=O (by rw[←hzce];rfl);clear hzce;have HL:=O (Loc.nil aB aB w);go_enter Tryz.func5,Tryz.ntmps5
 go_wp2_with (first
  | ((with_reducible show WL (some 1) (.box 65 _));refine bx 65 (.tmp 0) (nc.toArray) ?_))
 intro b1 w1 hbs hk hb;replace HL:=O (HL.out.new (fun _ h=>h.elim) hbs hk hb);clear hbs hk hb
 go_wp2_with (first
  | ((with_reducible show WL (some 20) (.load 65 _));refine wpList_load_mid rfl 65 (.tmp 1) rfl b1 0 rfl nc _ (aD (HL.out.b 0)) uN rfl (by rw[hnc];exact szAct) ?_)
  | ((with_reducible show WL (some 21) (.buildSlice _ _ _));refine bsO 67 65 (.tmp 20) Tryz.underlying67 infoN (by decide) nc hnc (by decide) ?_))
 intro b21 w2 hbs hk hb;replace HL:=O (HL.out.new (fun _ h=>h.elim) hbs hk hb);have HRD:=O (show Rd w2 81 (.slice (some ⟨b21,0,none⟩) 1 1) 1 (nRow [a]) from by rw[HCL.out];exact eL (n:=1) (size:=81) hb hnc (by unfold maxLen;omega));clear hbs hk hb;go_wp2_with fail;refine((long18_any w2 (.slice (some ⟨b21,0,none⟩) 1 1) [a] HAL.out HRD.out)).mono ?_;rintro e w3 ⟨⟨bb,rfl,-⟩,hk⟩;replace HL:=O (HL.out.keeps hk);clear hk;clear HRD HAL HCL;cases bb with
 | true =>
   go_wp2_with fail;refine((GG w3 aF aR (iK.keep HG.out HL.out.keep))).mono ?_;rintro e w4 ⟨rfl,hk⟩;replace HL:=O (HL.out.keeps hk);clear hk;go_wp2_with fail;go_ret;exact⟨rfl,HL.out.keep⟩
 | false =>
   go_wp2_with (first
    | ((with_reducible show WL (some 24) (.build _ _));refine bld vI #[] [] (.agg zc.toArray) HZB2.out ?_)
    | ((with_reducible show WL (some 25) (.box 73 _));refine bx 73 (.tmp 24) (zc.toArray) ?_))
   intro b25 w5 hbs hk hb;replace HL:=O (HL.out.new (fun _ h=>h.elim) hbs hk hb);clear hbs hk hb
   go_wp2_with (first
    | ((with_reducible show WL (some 26) (.buildSlice _ _ _));refine bs2 74 26 (.const (.pointer none)) (.tmp 25) (.pointer none) (.pointer (some ⟨b25,0,none⟩)) (by kernel_rfl) (by kernel_rfl) Tryz.underlying74 rfl rfl ?_))
   intro b26 w6 hbs hk hb;replace HL:=O (HL.out.new (fun _ h=>h.elim) hbs hk hb);clear hbs hk hb
   go_wp2_with (first
    | ((with_reducible show WL (some 27) (.build _ _));refine bld 78 #[] [] (.agg zcArr.toArray) buildArr0 ?_)
    | ((with_reducible show WL (some 28) (.box 78 _));refine bx 78 (.tmp 27) (zcArr.toArray) ?_))
   intro b28 w7 hbs hk hb;replace HL:=O (HL.out.new (fun _ h=>h.elim) hbs hk hb);clear hbs hk hb
   go_wp2_with (first
    | ((with_reducible show WL (some 29) (.buildSlice _ _ _));refine bs2 79 25 (.const (.pointer none)) (.tmp 28) (.pointer none) (.pointer (some ⟨b28,0,none⟩)) (by kernel_rfl) (by kernel_rfl) Tryz.underlying79 rfl rfl ?_))
   intro b29 w8 hbs hk hb;replace HL:=O (HL.out.new (fun _ h=>h.elim) hbs hk hb);clear hbs hk hb;go_wp2_with fail
   go_loopw [5] (fun i wr=>∃k:Nat,k≤2/\i=.int .i64 (k:Int)/\Hid (Loc aB aB w wr [(b29,#[.pointer none,.pointer (some ⟨b28,0,none⟩)],25),(b28,zcArr.toArray,78),(b26,#[.pointer none,.pointer (some ⟨b25,0,none⟩)],26),(b25,zc.toArray,73),(b21,nc.toArray,65),(b1,nc.toArray,65)])) (fun i _=>2-(intOf i).toNat)
   case atStart=>exact⟨0,by omega,rfl,HL⟩
   case round =>
   clear HL;obtain⟨k,hk,rfl,HL⟩:=hrel
   by_cases hlt:k<2
   ·have hki:(k:Int)<2:=by omega
    have hk0:(0:Int)≤(k:Int):=by omega
    obtain⟨cv,hcv,hN⟩:∃cv,wr.cell? ⟨b26,k,none⟩=some cv/\NoCore wr cv:=by
     have hc:k=0\/k=1:=by omega
     rcases hc with rfl|rfl
     ·exact⟨_,aC (HL.out.b 2) rfl,.inl rfl⟩
     ·exact⟨_,aC (HL.out.b 2) rfl,.inr ⟨_,_,rfl,HL.out.b 3,HZ0.out⟩⟩
    have HN:=O hN;have HCV:=O hcv;clear hN hcv
    obtain⟨av,hav,hA⟩:∃av,wr.cell? ⟨b29,k,none⟩=some av/\NoArr wr av:=by
     have hc:k=0\/k=1:=by omega
     rcases hc with rfl|rfl
     ·exact⟨_,aC (HL.out.b 0) rfl,.inl rfl⟩
     ·exact⟨_,aC (HL.out.b 0) rfl,.inr ⟨_,_,rfl,HL.out.b 1,rfl⟩⟩
    have HA:=O hA;have HAV:=O hav;clear hA hav;have c1:wr.cell? ⟨b26,k,none⟩=some (cv):=HCV.out;have c2:wr.cell? ⟨b1,2,none⟩=some (.int .i64 n):=(aC (i:=2) (HL.out.b 5) H2.out)
    have c3:wr.cell? ⟨b1,73,none⟩=some (bv):=(aC (i:=73) (HL.out.b 5) H73.out)
    go_wp2_with fail;clear c1 c2 c3;refine((cput_none HN.out n bv)).mono ?_;rintro e w9 ⟨rfl,hk⟩;replace HL:=O (HL.out.keeps hk);replace HN:=O (NoCore.keep0 HN.out hk);replace HCV:=O (hk.cell HCV.out id);replace HA:=O (NoArr.keep0 HA.out hk);replace HAV:=O (hk.cell HAV.out id);clear hk
    go_wp2_with (first
     | ((with_reducible show WL (some 7) (.alloc 33));refine al 33 (.agg eK.toArray) (eK.toArray) eX ?_))
    intro b7 wa hbs hk0 hb0_
    go_wp2_with (first
     | ((with_reducible show WL _ (.store 33 (.tmp 7) (.tmp 47)));refine sta 33 (.tmp 7) (.tmp 47) b7 0 eK hb0_ (by first|decide|(rw[List.size_toArray,aW];exact Nat.le_refl _)|simp[aW,aW]) (by rw[aW];exact mI) (dE zPt) ?_))
    intro wb hk hb;rw[aI _ _ (by first|rfl|(rw[List.size_toArray,aW];rfl)|simp[aW,aW])] at hb;replace hk:=hk0.trans' hk (U:=aB) (fun _ _ h=>h) (fun i hi e=>by omega);replace HL:=O (HL.out.new (fun _ h=>h.elim) hbs hk hb);replace HN:=O (NoCore.keep0 HN.out hk);replace HCV:=O (hk.cell HCV.out id);replace HA:=O (NoArr.keep0 HA.out hk);replace HAV:=O (hk.cell HAV.out id);clear hbs hk hb hk0 hb0_
    go_wp2_with (first
     | ((with_reducible show WL (some 52) (.load 33 _));refine wpList_load_mid rfl 33 (.tmp 51) rfl b1 5 rfl pc _ (rangeAt_sub (HL.out.b 6) H5.out) bJ rfl (by rw[hpc];exact mI) ?_))
    refine((cget_nil HN.out hpc HOP.out)).mono ?_;rintro e wc ⟨rfl,hk⟩;replace HL:=O (HL.out.keeps hk);replace HN:=O (NoCore.keep0 HN.out hk);replace HCV:=O (hk.cell HCV.out id);replace HA:=O (NoArr.keep0 HA.out hk);replace HAV:=O (hk.cell HAV.out id);clear hk
    go_wp2_with (first
     | ((with_reducible show WL (some 59) (.load 33 _));refine wpList_load_mid rfl 33 (.tmp 58) rfl b1 5 rfl pc _ (rangeAt_sub (HL.out.b 6) H5.out) bJ rfl (by rw[hpc];exact mI) ?_))
    refine((cscan_nil HN.out hpc HOP.out)).mono ?_;rintro e wd ⟨rfl,hk⟩;replace HL:=O (HL.out.keeps hk);replace HN:=O (NoCore.keep0 HN.out hk);replace HCV:=O (hk.cell HCV.out id);replace HA:=O (NoArr.keep0 HA.out hk);replace HAV:=O (hk.cell HAV.out id);clear hk
    go_wp2_with (first
     | ((with_reducible show WL (some 11) (.alloc 49));refine al 49 (.agg zcSn.toArray) (zcSn.toArray) zvSn ?_))
    intro b11 we hbs hk0 hb0_
    go_wp2_with (first
     | ((with_reducible show WL _ (.store 49 (.tmp 11) (.tmp 61)));refine sta 49 (.tmp 11) (.tmp 61) b11 0 zcSn hb0_ (by first|decide|(rw[List.size_toArray,zcSn_l];exact Nat.le_refl _)|simp[zcSn_l,zcSn_l]) zcSn_s zcSn_1 ?_))
    intro wf hk hb;rw[aI _ _ (by first|rfl|(rw[List.size_toArray,zcSn_l];rfl)|simp[zcSn_l,zcSn_l])] at hb;replace hk:=hk0.trans' hk (U:=aB) (fun _ _ h=>h) (fun i hi e=>by omega);replace HL:=O (HL.out.new (fun _ h=>h.elim) hbs hk hb);replace HN:=O (NoCore.keep0 HN.out hk);replace HCV:=O (hk.cell HCV.out id);replace HA:=O (NoArr.keep0 HA.out hk);replace HAV:=O (hk.cell HAV.out id);clear hbs hk hb hk0 hb0_;go_wp2_with fail;refine((croom_nil HN.out)).mono ?_;rintro e wg ⟨rfl,hk⟩;replace HL:=O (HL.out.keeps hk);replace HN:=O (NoCore.keep0 HN.out hk);replace HCV:=O (hk.cell HCV.out id);replace HA:=O (NoArr.keep0 HA.out hk);replace HAV:=O (hk.cell HAV.out id);clear hk;have c1:wg.cell? ⟨b7,0,none⟩=some (.slice none 0 0):=(aC (i:=0) (HL.out.b 1) rfl)
    have c2:wg.cell? ⟨b1,1,none⟩=some (.int .i64 dv):=(aC (i:=1) (HL.out.b 7) H1.out)
    go_wp2_with (first
     | ((with_reducible show WL (some 94) (.load 49 _));refine aP (by rfl) 49 (.tmp 11) rfl b11 0 rfl zcSn _ (aD (HL.out.b 0)) Tryz.underlying49 rfl zcSn_s ?_)
     | ((with_reducible show WL (some 96) (.binOp _ _ _ _ _));refine wneq 49 (.tmp 94) (.tmp 95) 49 zcSn.toArray zcSn.toArray guSn neSn ?_)
     | ((with_reducible show WL (some 100) (.load 33 _));refine wpList_load_mid rfl 33 (.tmp 99) rfl b1 5 rfl pc _ (rangeAt_sub (HL.out.b 7) H5.out) bJ rfl (by rw[hpc];exact mI) ?_)
     | ((with_reducible show WL (some 95) (.build _ _));refine bldg 49 (.agg zcSn.toArray) bldSn ?_)
     | ((with_reducible show WL (some 171) (.build _ _));refine bldg 31 (.agg Qw.toArray) bldID ?_)
     | ((with_reducible show WL (some 190) (.build _ _));refine bldg 87 (.agg zcEr.toArray) bldEr ?_))
    clear c1 c2;refine((crestore_nil HN.out hpc HOP.out dv)).mono ?_;rintro e wh ⟨rfl,hk⟩;replace HL:=O (HL.out.keeps hk);replace HN:=O (NoCore.keep0 HN.out hk);replace HCV:=O (hk.cell HCV.out id);replace HA:=O (NoArr.keep0 HA.out hk);replace HAV:=O (hk.cell HAV.out id);clear hk;have c1:wh.cell? ⟨b1,2,none⟩=some (.int .i64 n):=(aC (i:=2) (HL.out.b 7) H2.out)
    go_wp2_with (first
     | ((with_reducible show WL (some 108) (.load 33 _));refine aP (by rfl) 33 (.tmp 107) rfl b1 5 rfl pc _ (rangeAt_sub (HL.out.b 7) H5.out) bJ rfl (by rw[hpc];exact mI) ?_)
     | ((with_reducible show WL (some 95) (.build _ _));refine bldg 49 (.agg zcSn.toArray) bldSn ?_)
     | ((with_reducible show WL (some 171) (.build _ _));refine bldg 31 (.agg Qw.toArray) bldID ?_)
     | ((with_reducible show WL (some 190) (.build _ _));refine bldg 87 (.agg zcEr.toArray) bldEr ?_))
    clear c1;refine((ccommit_nil HN.out hpc HOP.out n)).mono ?_;rintro e wi ⟨rfl,hk⟩;replace HL:=O (HL.out.keeps hk);replace HN:=O (NoCore.keep0 HN.out hk);replace HCV:=O (hk.cell HCV.out id);replace HA:=O (NoArr.keep0 HA.out hk);replace HAV:=O (hk.cell HAV.out id);clear hk;have c1:wi.cell? ⟨b1,5,none⟩=some (pv):=(aC (i:=5) (HL.out.b 7) H5V.out)
    go_wp2_with (first
     | ((with_reducible show WL (some 95) (.build _ _));refine bldg 49 (.agg zcSn.toArray) bldSn ?_)
     | ((with_reducible show WL (some 171) (.build _ _));refine bldg 31 (.agg Qw.toArray) bldID ?_)
     | ((with_reducible show WL (some 190) (.build _ _));refine bldg 87 (.agg zcEr.toArray) bldEr ?_))
    clear c1;refine((chold_nil HN.out pv)).mono ?_;rintro e wj ⟨rfl,hk⟩;replace HL:=O (HL.out.keeps hk);replace HN:=O (NoCore.keep0 HN.out hk);replace HCV:=O (hk.cell HCV.out id);replace HA:=O (NoArr.keep0 HA.out hk);replace HAV:=O (hk.cell HAV.out id);clear hk
    go_wp2_with (first
     | ((with_reducible show WL (some 95) (.build _ _));refine bldg 49 (.agg zcSn.toArray) bldSn ?_)
     | ((with_reducible show WL (some 171) (.build _ _));refine bldg 31 (.agg Qw.toArray) bldID ?_)
     | ((with_reducible show WL (some 190) (.build _ _));refine bldg 87 (.agg zcEr.toArray) bldEr ?_))
    refine((cundo_nil HN.out)).mono ?_;rintro e wk ⟨rfl,hk⟩;replace HL:=O (HL.out.keeps hk);replace HN:=O (NoCore.keep0 HN.out hk);replace HCV:=O (hk.cell HCV.out id);replace HA:=O (NoArr.keep0 HA.out hk);replace HAV:=O (hk.cell HAV.out id);clear hk;have c1:wk.cell? ⟨b1,72,none⟩=some (lv):=(aC (i:=72) (HL.out.b 7) H72.out)
    go_wp2_with (first
     | ((with_reducible show WL (some 95) (.build _ _));refine bldg 49 (.agg zcSn.toArray) bldSn ?_)
     | ((with_reducible show WL (some 171) (.build _ _));refine bldg 31 (.agg Qw.toArray) bldID ?_)
     | ((with_reducible show WL (some 190) (.build _ _));refine bldg 87 (.agg zcEr.toArray) bldEr ?_))
    clear c1;refine((clives_nil HN.out lv)).mono ?_;rintro e wl ⟨rfl,hk⟩;replace HL:=O (HL.out.keeps hk);replace HN:=O (NoCore.keep0 HN.out hk);replace HCV:=O (hk.cell HCV.out id);replace HA:=O (NoArr.keep0 HA.out hk);replace HAV:=O (hk.cell HAV.out id);clear hk;have c1:wl.cell? ⟨b1,1,none⟩=some (.int .i64 dv):=(aC (i:=1) (HL.out.b 7) H1.out)
    have c2:wl.cell? ⟨b1,2,none⟩=some (.int .i64 n):=(aC (i:=2) (HL.out.b 7) H2.out)
    go_wp2_with (first
     | ((with_reducible show WL (some 95) (.build _ _));refine bldg 49 (.agg zcSn.toArray) bldSn ?_)
     | ((with_reducible show WL (some 171) (.build _ _));refine bldg 31 (.agg Qw.toArray) bldID ?_)
     | ((with_reducible show WL (some 190) (.build _ _));refine bldg 87 (.agg zcEr.toArray) bldEr ?_))
    clear c1 c2;refine((clabel_nil HN.out dv n)).mono ?_;rintro e wm ⟨rfl,hk⟩;replace HL:=O (HL.out.keeps hk);replace HN:=O (NoCore.keep0 HN.out hk);replace HCV:=O (hk.cell HCV.out id);replace HA:=O (NoArr.keep0 HA.out hk);replace HAV:=O (hk.cell HAV.out id);clear hk
    go_wp2_with (first
     | ((with_reducible show WL (some 95) (.build _ _));refine bldg 49 (.agg zcSn.toArray) bldSn ?_)
     | ((with_reducible show WL (some 171) (.build _ _));refine bldg 31 (.agg Qw.toArray) bldID ?_)
     | ((with_reducible show WL (some 190) (.build _ _));refine bldg 87 (.agg zcEr.toArray) bldEr ?_))
    refine((cuber_nil HN.out)).mono ?_;rintro e wn ⟨rfl,hk⟩;replace HL:=O (HL.out.keeps hk);replace HN:=O (NoCore.keep0 HN.out hk);replace HCV:=O (hk.cell HCV.out id);replace HA:=O (NoArr.keep0 HA.out hk);replace HAV:=O (hk.cell HAV.out id);clear hk
    go_wp2_with (first
     | ((with_reducible show WL (some 95) (.build _ _));refine bldg 49 (.agg zcSn.toArray) bldSn ?_)
     | ((with_reducible show WL (some 171) (.build _ _));refine bldg 31 (.agg Qw.toArray) bldID ?_)
     | ((with_reducible show WL (some 190) (.build _ _));refine bldg 87 (.agg zcEr.toArray) bldEr ?_)
     | ((with_reducible show WL (some 15) (.alloc 71));refine al 71 (.agg Qt.toArray) (Qt.toArray) I3 ?_))
    intro b15 wo hbs hk0 hb0_
    go_wp2_with (first
     | ((with_reducible show WL (some 95) (.build _ _));refine bldg 49 (.agg zcSn.toArray) bldSn ?_)
     | ((with_reducible show WL (some 171) (.build _ _));refine bldg 31 (.agg Qw.toArray) bldID ?_)
     | ((with_reducible show WL (some 190) (.build _ _));refine bldg 87 (.agg zcEr.toArray) bldEr ?_)
     | ((with_reducible show WL _ (.store 71 (.tmp 15) (.tmp 144)));refine sta 71 (.tmp 15) (.tmp 144) b15 0 Qt hb0_ (by first|decide|(rw[List.size_toArray,zcUb_l];exact Nat.le_refl _)|simp[zcUb_l,zcUb_l]) zcUb_s zcUb_1 ?_))
    intro wp hk hb;rw[aI _ _ (by first|rfl|(rw[List.size_toArray,zcUb_l];rfl)|simp[zcUb_l,zcUb_l])] at hb;replace hk:=hk0.trans' hk (U:=aB) (fun _ _ h=>h) (fun i hi e=>by omega);replace HL:=O (HL.out.new (fun _ h=>h.elim) hbs hk hb);replace HN:=O (NoCore.keep0 HN.out hk);replace HCV:=O (hk.cell HCV.out id);replace HA:=O (NoArr.keep0 HA.out hk);replace HAV:=O (hk.cell HAV.out id);clear hbs hk hb hk0 hb0_
    go_wp2_with (first
     | ((with_reducible show WL (some 95) (.build _ _));refine bldg 49 (.agg zcSn.toArray) bldSn ?_)
     | ((with_reducible show WL (some 171) (.build _ _));refine bldg 31 (.agg Qw.toArray) bldID ?_)
     | ((with_reducible show WL (some 190) (.build _ _));refine bldg 87 (.agg zcEr.toArray) bldEr ?_))
    obtain⟨S,hS0⟩:∃S:World->Prop,S=fun w'=>aA aB wp.drew w':=⟨_,rfl⟩
    have HSE:=O (show ∀w',S w'->aA aB wp.drew w' from fun w' h=>by rw[hS0] at h;exact h);have HSI:=O (show ∀w',aA aB wp.drew w'->S w' from fun w' h=>by rw[hS0];exact h);have hS:S wp.drew:=by rw[hS0];exact aA.refl _ _
    have hkd:=(aA.refl aB wp).drew;clear hS0;refine wp_region_held (S:=S) (by kernel_rfl) ?_;change wpAnyH _ _ _ _ _ _ _ _ wp.drew;generalize wp.drew=wq at HSE HSI hS hkd ⊢;replace HL:=O (HL.out.keeps hkd);replace HN:=O (NoCore.keep0 HN.out hkd);replace HCV:=O (hkd.cell HCV.out id);replace HA:=O (NoArr.keep0 HA.out hkd);replace HAV:=O (hkd.cell HAV.out id);clear hkd;have HLs:=HL;have HNs:=HN;have HCVs:=HCV;have HAs:=HA;have HAVs:=HAV;refine tna 0 (.slice (some ⟨b29,0,none⟩) 2 2) rfl hS ?_;refine tna 1 (.int .i64 (k:Int)) rfl hS ?_;refine tnd 2 (.pointer (some ⟨b29,k,none⟩)) rfl (.inl ⟨by rfl,fun _ _=>by go_simp⟩) hS ?_;refine tnd 3 av rfl (.inl ⟨by rfl,fun w' hw'=>by have c:World.cell? w' ⟨b29,k,none⟩=some (av):=(HSE.out w' hw').cell HAVs.out id;go_simp⟩) hS ?_;refine tnb 4 (.pointer (some ⟨b1,40,none⟩)) rfl hS ?_;refine tnd 5 (.agg ic.toArray) rfl (yieldsIf_load_mid (by rfl) 31 (.tmp 150) rfl b1 40 rfl ic _ (fun w' h=>(rangeAt_sub ((HSE.out w' h).blk (HLs.out.b 8) id) H40.out)) Tryz.underlying31 rfl (by rw[hic];exact oA)) hS ?_;refine tnb 6 (.pointer (some ⟨b1,2,none⟩)) rfl hS ?_;refine tnd 7 (.int .i64 n) rfl (.inl ⟨by rfl,fun w' hw'=>by have c:World.cell? w' ⟨b1,2,none⟩=some (.int .i64 n):=(aC (i:=2) ((HSE.out w' hw').blk (HLs.out.b 8) id) H2.out);go_simp⟩) hS ?_;refine Hl (k:=8) rfl (by kernel_rfl) ?_;go_wp2_with fail;refine((ccreate_nil HA.out hic HOI.out n)).mono ?_;rintro e wr ⟨rfl,hk⟩;have hS1:=HSI.out _ ((HSE.out _ hS).trans hk);replace HL:=O (HL.out.keeps hk);replace HN:=O (NoCore.keep0 HN.out hk);replace HCV:=O (hk.cell HCV.out id);replace HA:=O (NoArr.keep0 HA.out hk);replace HAV:=O (hk.cell HAV.out id);clear hS hk;go_wp2_with fail;refine⟨hS1,?_⟩;refine tna 9 (.tuple #[.pointer none,.int .i64 1]) rfl hS1 ?_;refine tnb 10 (.pointer none) rfl hS1 ?_;refine tnb 11 (.int .i64 1) rfl hS1 ?_;refine tna 12 (.pointer none) rfl hS1 ?_;refine tna 13 (.int .i64 1) rfl hS1 ?_;refine wpAnyH_done (by kernel_rfl) ?_ _;clear hS1 HSE HSI HLs HNs HCVs HAs HAVs;have c1:wr.cell? ⟨b29,k,none⟩=some (av):=HAV.out
    go_wp2_with (first
     | ((with_reducible show WL (some 95) (.build _ _));refine bldg 49 (.agg zcSn.toArray) bldSn ?_)
     | ((with_reducible show WL (some 171) (.build _ _));refine bldg 31 (.agg Qw.toArray) bldID ?_)
     | ((with_reducible show WL (some 190) (.build _ _));refine bldg 87 (.agg zcEr.toArray) bldEr ?_))
    clear c1;refine((cimport_nil HA.out)).mono ?_;rintro e ws ⟨rfl,hk⟩;replace HL:=O (HL.out.keeps hk);replace HN:=O (NoCore.keep0 HN.out hk);replace HCV:=O (hk.cell HCV.out id);replace HA:=O (NoArr.keep0 HA.out hk);replace HAV:=O (hk.cell HAV.out id);clear hk;have c1:ws.cell? ⟨b15,0,none⟩=some (.int .i64 0):=(aC (i:=0) (HL.out.b 0) rfl)
    go_wp2_with (first
     | ((with_reducible show WL (some 95) (.build _ _));refine bldg 49 (.agg zcSn.toArray) bldSn ?_)
     | ((with_reducible show WL (some 171) (.build _ _));refine bldg 31 (.agg Qw.toArray) bldID ?_)
     | ((with_reducible show WL (some 190) (.build _ _));refine bldg 87 (.agg zcEr.toArray) bldEr ?_))
    clear c1;refine((cpool_nil HN.out)).mono ?_;rintro e wt ⟨rfl,hk⟩;replace HL:=O (HL.out.keeps hk);replace HN:=O (NoCore.keep0 HN.out hk);replace HCV:=O (hk.cell HCV.out id);replace HA:=O (NoArr.keep0 HA.out hk);replace HAV:=O (hk.cell HAV.out id);clear hk
    go_wp2_with (first
     | ((with_reducible show WL (some 172) (.binOp _ _ _ _ _));refine wneq 31 (.tmp 170) (.tmp 171) 31 Qw.toArray Qw.toArray guID neID ?_)
     | ((with_reducible show WL (some 95) (.build _ _));refine bldg 49 (.agg zcSn.toArray) bldSn ?_)
     | ((with_reducible show WL (some 171) (.build _ _));refine bldg 31 (.agg Qw.toArray) bldID ?_)
     | ((with_reducible show WL (some 190) (.build _ _));refine bldg 87 (.agg zcEr.toArray) bldEr ?_))
    refine((copies_nil HN.out)).mono ?_;rintro e wu ⟨rfl,hk⟩;replace HL:=O (HL.out.keeps hk);replace HN:=O (NoCore.keep0 HN.out hk);replace HCV:=O (hk.cell HCV.out id);replace HA:=O (NoArr.keep0 HA.out hk);replace HAV:=O (hk.cell HAV.out id);clear hk;have c1:wu.cell? ⟨b1,1,none⟩=some (.int .i64 dv):=(aC (i:=1) (HL.out.b 8) H1.out)
    go_wp2_with (first
     | ((with_reducible show WL (some 95) (.build _ _));refine bldg 49 (.agg zcSn.toArray) bldSn ?_)
     | ((with_reducible show WL (some 171) (.build _ _));refine bldg 31 (.agg Qw.toArray) bldID ?_)
     | ((with_reducible show WL (some 190) (.build _ _));refine bldg 87 (.agg zcEr.toArray) bldEr ?_))
    clear c1;refine((cthere_nil HN.out dv)).mono ?_;rintro e wv ⟨rfl,hk⟩;replace HL:=O (HL.out.keeps hk);replace HN:=O (NoCore.keep0 HN.out hk);replace HCV:=O (hk.cell HCV.out id);replace HA:=O (NoArr.keep0 HA.out hk);replace HAV:=O (hk.cell HAV.out id);clear hk;have c1:wv.cell? ⟨b1,1,none⟩=some (.int .i64 dv):=(aC (i:=1) (HL.out.b 8) H1.out)
    go_wp2_with (first
     | ((with_reducible show WL (some 95) (.build _ _));refine bldg 49 (.agg zcSn.toArray) bldSn ?_)
     | ((with_reducible show WL (some 171) (.build _ _));refine bldg 31 (.agg Qw.toArray) bldID ?_)
     | ((with_reducible show WL (some 190) (.build _ _));refine bldg 87 (.agg zcEr.toArray) bldEr ?_))
    clear c1;refine((cerrors_nil HN.out dv)).mono ?_;rintro e ww ⟨rfl,hk⟩;replace HL:=O (HL.out.keeps hk);replace HN:=O (NoCore.keep0 HN.out hk);replace HCV:=O (hk.cell HCV.out id);replace HA:=O (NoArr.keep0 HA.out hk);replace HAV:=O (hk.cell HAV.out id);clear hk
    go_wp2_with (first
     | ((with_reducible show WL (some 191) (.binOp _ _ _ _ _));refine wneq 87 (.tmp 189) (.tmp 190) 87 zcEr.toArray zcEr.toArray guEr neEr ?_)
     | ((with_reducible show WL (some 95) (.build _ _));refine bldg 49 (.agg zcSn.toArray) bldSn ?_)
     | ((with_reducible show WL (some 171) (.build _ _));refine bldg 31 (.agg Qw.toArray) bldID ?_)
     | ((with_reducible show WL (some 190) (.build _ _));refine bldg 87 (.agg zcEr.toArray) bldEr ?_))
    go_roundw
    case rel=>exact⟨k+1,by omega,by go_num,O HL.out.tail.tail.tail⟩
    case measure=>simp[intOf];omega
   ·obtain rfl:k=2:=by omega
    go_wp2_with fail;refine((GG wr aF aR (iK.keep HG.out HL.out.keep))).mono ?_;rintro e wx ⟨rfl,hk⟩;replace HL:=O (HL.out.keeps hk);clear hk;go_wp2_with fail;go_ret;exact⟨rfl,HL.out.keep⟩
end
section
open Go.ChangeShapes Go.WideShapes Go.ChangeAt Go.RowKit
theorem own:ownKnob Tryz.prog.godebug=none:=by kernel_rfl
theorem coreNone_pre(os:Os){H:Type}(enc:TypeId×Value->H) :
 (OpenSpec.ofChange Rows.coreNoneSpec).preRow enc Tryz.prog Tryz.f5 Rows.coreNoneRow.domain false Rows.coreNoneRow.laid ((sR os).forCall (fun _ _=>0) ⟨#[],#[Value.agg (#[Value.int .i64 0,Value.int .i64 0,Value.int .i64 0,Value.int .i64 0,Value.bool false,Value.slice none 0 0,Value.int .i64 0,Value.int .i64 0]++Array.replicate 32 (Value.int .u8 0)++Array.replicate 32 (Value.int .u8 0)++#[Value.slice none 0 0,Value.slice none 0 0,Value.int .i64 0,Value.int .i64 0,Value.int .i64 0,Value.int .i64 0,Value.int .u8 0,Value.slice none 0 0,Value.slice none 0 0])],[]⟩).memory #[Value.agg (#[Value.int .i64 0,Value.int .i64 0,Value.int .i64 0,Value.int .i64 0,Value.bool false,Value.slice none 0 0,Value.int .i64 0,Value.int .i64 0]++Array.replicate 32 (Value.int .u8 0)++Array.replicate 32 (Value.int .u8 0)++#[Value.slice none 0 0,Value.slice none 0 0,Value.int .i64 0,Value.int .i64 0,Value.int .i64 0,Value.int .i64 0,Value.int .u8 0,Value.slice none 0 0,Value.slice none 0 0])]:=by
 have hw:(DataW.whole enc Tryz.prog ((sR os).forCall (fun _ _=>0) ⟨#[],#[Value.agg (#[Value.int .i64 0,Value.int .i64 0,Value.int .i64 0,Value.int .i64 0,Value.bool false,Value.slice none 0 0,Value.int .i64 0,Value.int .i64 0]++Array.replicate 32 (Value.int .u8 0)++Array.replicate 32 (Value.int .u8 0)++#[Value.slice none 0 0,Value.slice none 0 0,Value.int .i64 0,Value.int .i64 0,Value.int .i64 0,Value.int .i64 0,Value.int .u8 0,Value.slice none 0 0,Value.slice none 0 0])],[]⟩).memory Tryz.f5.params.toList Rows.coreNoneSpec.vars false (#[Value.agg (#[Value.int .i64 0,Value.int .i64 0,Value.int .i64 0,Value.int .i64 0,Value.bool false,Value.slice none 0 0,Value.int .i64 0,Value.int .i64 0]++Array.replicate 32 (Value.int .u8 0)++Array.replicate 32 (Value.int .u8 0)++#[Value.slice none 0 0,Value.slice none 0 0,Value.int .i64 0,Value.int .i64 0,Value.int .i64 0,Value.int .i64 0,Value.int .u8 0,Value.slice none 0 0,Value.slice none 0 0])]:Array Value).toList 16).map (fun x=>(x.1,x.2.1)) =
  some ([.agg [.lit (.int .i64 0),.lit (.int .i64 0),.lit (.int .i64 0),.lit (.int .i64 0),.lit (.bool false),.agg [.nil,.lit (.int .i64 0),.lit (.int .i64 0),.agg (List.replicate 32 (.lit (.int .u8 0)))],.agg (List.replicate 32 (.lit (.int .u8 0))),.nil,.nil,.agg [.lit (.int .i64 0),.lit (.int .i64 0),.lit (.int .i64 0),.lit (.int .i64 0),.lit (.int .u8 0),.nil,.nil]]],[]):=by kernel_rfl
 obtain⟨⟨x1,x2,x3⟩,hx,hx1⟩:=Option.map_eq_some_iff.1 hw;simp only[Prod.mk.injEq] at hx1;obtain⟨rfl,rfl⟩:=hx1;exact OpenSpec.preRow_of_cond 16 hx (by kernel_rfl) (fun k hk=>by cases hk) (by kernel_rfl) (Ov os _)
theorem coreNone_lifted(os:Os)(started:os.Started)(H:Type)(enc:TypeId×Value->H)(F:Stop.Interp) :
 ReturnsInHanded {} Tryz.checked os 5 .any ((OpenSpec.ofChange Rows.coreNoneSpec).preRow enc Tryz.prog Tryz.f5 Rows.coreNoneRow.domain false Rows.coreNoneRow.laid) (((OpenSpec.ofChange Rows.coreNoneSpec).at F).post enc Tryz.prog Tryz.f5 false true false false):=by
 refine returnsInHanded_of_row (C:=Tryz.checked) (s:=OpenSpec.ofChange Rows.coreNoneSpec) own started (by kernel_rfl) Tryz.func5
  (witness_row_atRef (enc:=enc) (C:=Tryz.checked) false (sR os) #[Value.agg (#[Value.int .i64 0,Value.int .i64 0,Value.int .i64 0,Value.int .i64 0,Value.bool false,Value.slice none 0 0,Value.int .i64 0,Value.int .i64 0]++Array.replicate 32 (Value.int .u8 0)++Array.replicate 32 (Value.int .u8 0)++#[Value.slice none 0 0,Value.slice none 0 0,Value.int .i64 0,Value.int .i64 0,Value.int .i64 0,Value.int .i64 0,Value.int .u8 0,Value.slice none 0 0,Value.slice none 0 0])] rfl (by kernel_rfl) (by kernel_rfl) (by kernel_rfl) (coreNone_pre os enc)) ?_
 intro W base args ds gs before hval0 hW hcnd _ _ hL _ _;obtain⟨aF,aR,hErr⟩:=FW (W:=W) hL;have hval:∀(j:Nat) t v,Tryz.f5.params[j]?=some t->args[j]?=some v->Value.okWide Tryz.prog W .any base t v:=hval0;have hW':=hW;obtain⟨p,q,hA0,hV,rfl,hfz,hnd⟩:=hW;have hA:DataW.TrodAll enc Tryz.prog W 0 (fun _=>true) true Tryz.f5.params.toList args.toList ds p:=hA0;rw[Tryz.params5] at hA hval;obtain⟨v0,vs0,d0,ds0,p0,q0,hargs0,rfl,rfl,h0,r0⟩:=trodAll_cons hA;obtain⟨hv0,rfl,rfl⟩:=trodAll_nil r0;obtain rfl:args=#[v0]:=by apply Array.toList_inj.1;rw[hargs0];simp only[hv0]
 clear hargs0  hv0;obtain⟨rfl,rfl⟩:=trodVars_none hV;obtain⟨cs0,rfl,hcs0⟩:=okWide_struct uN (hval 0 65 v0 rfl rfl);have k0:=h0;have lt0:∀x∈p0,x.block<W.heap.size:=by obtain⟨m,hm⟩:=k0;exact DataW.trod_lt m _ _ _ hm
 clear hA0 hval0 hval
 obtain⟨A0,hA0,hAc0⟩:∃A:NAct,A.Ok/\cs0=(nCs A).toArray:=by
  obtain⟨fuel,hf⟩:=h0;obtain⟨A,hA,hc⟩:=nact_of hf;exact⟨A,hA,by apply Array.toList_inj.1;simpa [Value.cells] using hc⟩
 subst hAc0;refine(coreNone_walk W aF aR hErr A0 hA0).mono fun e W' ⟨he,hk⟩=>?_
 subst he;have bel:=hk.below;exact⟨_,rfl,_,_,_,[],_,[],hW',trodAll_mk1 (shut_bool Tryz.underlying4 _),(trodAll_cons_mk (Below.trod Cc (by kernel_rfl) (of_decide_eq_true (by kernel_rfl)) k0 bel lt0) trodAll_mk0),rfl,bel.frame _,fun h=>by cases h⟩
theorem cV{a b:Bool}(h:a=true)(k:b=true):(a && b)=true:=by rw[h,k];rfl
theorem cl0:(Rows.coreNoneRow.wf (OpenSpec.ofChange Rows.coreNoneSpec))=true:=by kernel_rfl
theorem cl1:(laidOutB Tryz.pinned.checked.prog)=true:=by kernel_rfl
theorem cl2:(mapsRowed Tryz.pinned.checked.prog)=true:=by kernel_rfl
theorem cl3:(Tryz.f5.params.all (Tryz.pinned.checked.prog.readableRec ·))=true:=by kernel_rfl
theorem cl4:(namedTie Tryz.pinned.checked.prog Rows.coreNoneRow.named Rows.coreNoneSpec.vars)=true:=by kernel_rfl
theorem cl5:(Rows.coreNoneRow.stops == [])=true:=by kernel_rfl
theorem cl6:(Tryz.pinned.checked.prog.stops == [])=true:=by kernel_rfl
theorem cl7:(Rows.coreNoneRow.knobs == [])=true:=by kernel_rfl
theorem cl8:(Tryz.pinned.checked.prog.stopKnobs == [])=true:=by kernel_rfl
theorem cl9:(Rows.coreNoneRow.inPlace == Tryz.pinned.checked.prog.inPlace 5)=true:=by kernel_rfl
theorem Rf:(Rows.coreNoneRow.unfollowed == Tryz.pinned.checked.prog.unfollowed 5)=true:=by kernel_rfl
theorem Rg:(Rows.coreNoneRow.recurses == Tryz.pinned.checked.prog.recurses 5)=true:=by kernel_rfl
theorem Rh:(Rows.coreNoneRow.named == Tryz.pinned.checked.prog.varsNamed 5)=true:=by kernel_rfl
theorem Ri:(Rows.coreNoneRow.maps == (Tryz.f5.params.toList++Rows.coreNoneSpec.plain.varTypes Tryz.pinned.checked.prog).any (Tryz.pinned.checked.prog.mapsRec ·))=true:=by kernel_rfl
theorem Rj:(Rows.coreNoneRow.ifaces == (Tryz.f5.params.toList++Rows.coreNoneSpec.plain.varTypes Tryz.pinned.checked.prog).any (Tryz.pinned.checked.prog.ifacesRec ·))=true:=by kernel_rfl
theorem Rk:(Rows.coreNoneRow.mapsOut == Tryz.pinned.checked.prog.mapsAmong Tryz.f5.resultTypes.toList)=true:=by kernel_rfl
theorem Rl:(Rows.coreNoneRow.loops == (Tryz.f5.params.toList++Rows.coreNoneSpec.plain.varTypes Tryz.pinned.checked.prog).any (Tryz.pinned.checked.prog.loopsFrom ·))=true:=by kernel_rfl
theorem Ro:(Rows.coreNoneRow.wideKeys == ((Tryz.f5.params.toList++Rows.coreNoneSpec.plain.varTypes Tryz.pinned.checked.prog)++Tryz.f5.resultTypes.toList).any (Tryz.pinned.checked.prog.wideKeysFrom ·))=true:=by kernel_rfl
theorem Rp:(Rows.coreNoneSpec.vars.all (Tryz.pinned.checked.prog.varReadable ·))=true:=by kernel_rfl
theorem Rq:(Tryz.f5.resultTypes.all (fun t=>Tryz.pinned.checked.prog.readableRec t && decide (t<Tryz.pinned.checked.prog.types.size)))=true:=by kernel_rfl
theorem Rr:(Rows.coreNoneRow.ifacesOut == Tryz.f5.resultTypes.toList.any (Tryz.pinned.checked.prog.ifacesRec ·))=true:=by kernel_rfl
theorem Rs:(Rows.coreNoneRow.loopsOut == Tryz.f5.resultTypes.toList.any (Tryz.pinned.checked.prog.loopsFrom ·))=true:=by kernel_rfl
theorem Rt:(Rows.coreNoneRow.plainKeys == Tryz.pinned.checked.prog.plainKeys)=true:=by kernel_rfl
theorem Ru:(Rows.coreNoneRow.shortTexts.isNone)=true:=by kernel_rfl
theorem Rv:(Tryz.pinned.checked.prog.stopsHeard)=true:=by kernel_rfl
theorem Rw:(Tryz.pinned.checked.prog.mayEnter)=true:=by kernel_rfl
theorem Rx:(Rows.coreNoneRow.lifted == Tryz.pinned.checked.prog.liftsFinal)=true:=by kernel_rfl
theorem Ry:(Tryz.pinned.checked.prog.make == some Rows.coreNoneRow.make)=true:=by kernel_rfl
theorem Rz:(Rows.coreNoneRow.kinds == (if Rows.coreNoneRow.domain.isEmpty then [] else Tryz.f5.params.toList.map fun t=>match Tryz.pinned.checked.prog.underlying t with|some (.int k)=>some k|_=>none))=true:=by kernel_rfl
theorem RA:(Rows.coreNoneRow.pinned == Rows.coreNoneRow.pinnedBy)=true:=by kernel_rfl
theorem RB:(Rows.coreNoneRow.veiled == ((Tryz.f5.params.toList++Rows.coreNoneSpec.plain.varTypes Tryz.pinned.checked.prog)++Tryz.f5.resultTypes.toList).any (Tryz.pinned.checked.prog.veiledRec ·))=true:=by kernel_rfl
theorem RC:(Rows.coreNoneRow.veiledFits Tryz.pinned.checked.prog Tryz.f5.params.toList ((Tryz.f5.params.toList++Rows.coreNoneSpec.plain.varTypes Tryz.pinned.checked.prog)++Tryz.f5.resultTypes.toList))=true:=by kernel_rfl
theorem coreNone_closed:joinedFacts Tryz.pinned.checked.prog 5 Tryz.f5 Rows.coreNoneSpec Rows.coreNoneRow=true:=by
 unfold joinedFacts;exact(cV (cV (cV (cV (cV (cV (cV (cV (cV (cV (cV (cV (cV (cV (cV (cV (cV (cV (cV (cV (cV (cV (cV (cV (cV (cV (cV (cV (cV (cV (cV cl0 cl1) cl2) cl3) cl4) cl5) cl6) cl7) cl8) cl9) Rf) Rg) Rh) Ri) Rj) Rk) Rl) Ro) Rp) Rq) Rr) Rs) Rt) Ru) Rv) Rw) Rx) Ry) Rz) RA) RB) RC)
theorem coreNone_wrap:Tryz.f5.isWrapper Tryz.pinned.checked.prog Rows.coreNoneRow.wrapper Rows.coreNoneRow.mainSum:=by unfold Func.isWrapper;first|(rw[if_pos (by decide +kernel)];kernel_rfl)|(rw[if_neg (by decide +kernel)];exact⟨rfl,rfl⟩)
theorem coreNone_named:Tryz.pinned.checked.prog.funcNamed Rows.coreNoneRow.func=some 5:=by kernel_rfl
theorem coreNone_said:Rows.CoreNoneSaid:=
 OpenClaim.holds_of_cond 5 Tryz.f5 rfl rfl rfl rfl rfl rfl rfl ⟨rfl,rfl,rfl,rfl,rfl⟩ rfl rfl rfl rfl rfl coreNone_named Tryz.func5 coreNone_closed (of_decide_eq_true (by kernel_rfl)) coreNone_wrap
  (fun os started H enc _ F=>by rw[OpenClaim.pre_eq_preRow];exact coreNone_lifted os started H enc F)
theorem coreNone_plain(f : FuncId)(fn : Func)(hf : Tryz.pinned.checked.prog.funcNamed "caulker/caulkerlaw18.CoreNone" = some f)(hfn : Tryz.pinned.checked.prog.funcs[f]? = some fn) :
 true=Tryz.pinned.checked.prog.looks []/\∀(j:Nat) t,fn.params[j]?=some t->Tryz.pinned.checked.prog.wantsStandIn t=false:=by
 obtain rfl : f = 5 := Option.some.inj ((show Tryz.prog.funcNamed "caulker/caulkerlaw18.CoreNone" = some 5 by kernel_rfl).symm.trans hf) |>.symm;obtain rfl:fn=Tryz.f5:=(Option.some.inj (Tryz.func5.symm.trans hfn)).symm;refine⟨by kernel_rfl,fun j t ht=>?_⟩;rw[Tryz.params5] at ht;have hm:=Array.mem_of_getElem? ht;simp only[List.mem_toArray,List.mem_cons,List.not_mem_nil,or_false] at hm;subst hm;exact(show Tryz.prog.wantsStandIn 65=false by kernel_rfl)
theorem coreNone_proved:Rows.CoreNoneCardSaid:=
 Claim7.holds_tied_plain_at .later [] _ _ _ _ coreNone_said (fun _ h=>by cases h) (by kernel_rfl) (fun _ h=>by cases h) coreNone_row_tie rfl ⟨rfl,rfl⟩ (by kernel_rfl) rfl coreNone_plain (by kernel_rfl)
end
end Go.Proofs.YtoeinblfcbpcmaaGreatDoor
