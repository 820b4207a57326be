/- The lemmas of the proof, part XO10: how the program and its data lie in memory, and what its functions do. -/
import Derived.Test.YtiaehkkkcaeaiaaGreatDoorXR9
import Derived.Lib.MinMax
set_option linter.unusedSimpArgs false
set_option linter.unusedVariables false
set_option linter.unusedSectionVars false

set_option maxRecDepth 20000
set_option maxHeartbeats 6400000
namespace Go.Proofs.YtiaehkkkcaeaiaaGreatDoor
open Go.RowKit
open Go.ChangeMaps (setBlock)
attribute [local go_sem↓] eqKey1 ldKey ldSg ldTc stKey stSg stTc wlKey wlTc
attribute [local go_sem] Value.cells cell_blk frozen_blk kc_ext kc_one kc_one0 kc_size one_bool one_int one_map one_ptr one_slice sgc_ext sgc_one' sgc_one0 sgc_size txr0 txr0' txr38 txr38' txr39 txr39' txr_all txr_one txr_one' txr_size zKey_size zTx_size
section
attribute [local go_sem↓] wlMsg ldMsg stMsg wlIn ldIn stIn ldBud stBud
attribute [local go_sem] mgx_size mgx_ext mgx_one mgx_one0 mg0 mg1 mg2 mg3 mg4 mg37 mg38 mg37' mg38' mgx_hd mgx_hs mg0' mg4' inrB_size inrB_all inrB_one zInB_size
theorem leV_u64 {l:List UInt8} (h:l.length≤8):((leV l:Nat):Int)=((UInt64.ofNat (leV l)).toNat:Int):=by
 have h1:=leV_lt l;have h2:leV l<18446744073709551616:=by
  have:256^l.length≤256^8:=Nat.pow_le_pow_right (by decide) h;have:(256:Nat)^8=18446744073709551616:=by decide
  omega
 rw[UInt64.toNat_ofNat',Nat.mod_eq_of_lt h2]
theorem told_5 {d:List UInt8} (h:d.length=5) {c:UInt8} (hc:d[0]? =some c):toldP d=if c.toNat=2 then some (0,UInt64.ofNat (leV (d.drop 1)))else none:=by
 unfold toldP;rw[h,hc];by_cases e:c.toNat=2
 ·rw[if_pos ⟨rfl,congrArg some (UInt8.toNat_inj.1 e)⟩,if_pos e]
 ·rw[if_neg (fun h=>e (by have:=Option.some.inj h.2;rw[this];rfl)),if_neg (fun h=>by simp at h),if_neg e]
theorem told_9 {d:List UInt8} (h:d.length=9) {c:UInt8} (hc:d[0]? =some c):toldP d=if c.toNat=3 then some (1,UInt64.ofNat (leV (d.drop 1)))else none:=by
 unfold toldP;rw[h,hc];by_cases e:c.toNat=3
 ·rw[if_neg (fun h=>by simp at h),if_pos ⟨rfl,congrArg some (UInt8.toNat_inj.1 e)⟩,if_pos e]
 ·rw[if_neg (fun h=>by simp at h),if_neg (fun h=>e (by have:=Option.some.inj h.2;rw[this];rfl)),if_neg e]
theorem told_n {d:List UInt8} (h:d.length≠5) (h2:d.length≠9):toldP d=none:=by
 unfold toldP;rw[if_neg (fun e=>h e.1),if_neg (fun e=>h2 e.1)]
theorem rbudOf_c (x:RdR) (w:World) (hK:SlAt kc 32 w x.ks.a x.ks.l) (hb:x.ks.l.length≤1000000) (hI:SlAt inr 3 w x.ins.a x.ins.l) (hD:∀y∈x.ins.l,DaF w y) (hib:x.ins.l.length≤1000000):
  Calls Tryz.prog 48 #[.agg (msr x)] w fun e w'=>e= .returned (.agg (budR (budP (msgP x))))∧Mod (fun _=>False) w w':=by
 obtain⟨n,hn⟩:∃n,x.ins.l.length=n:=⟨_,rfl⟩;have HX:=Hi (Ai hK (Ai hb (Ai hI (Ai hD hn))));have hB0:=bBud0;show Calls Tryz.prog 48 #[.agg (mgx x.v0 x.h0 x.h1 x.h2 x.ks.a x.ks.l.length x.ks.c x.rc x.ins.a x.ins.l.length x.ins.c x.lks.a x.lks.l.length x.lks.c)] w _;have hwc:∀(y:InR) (wq:World),SlAt kc 32 wq x.ks.a x.ks.l→Calls Tryz.prog 93 #[.agg (mgx x.v0 x.h0 x.h1 x.h2 x.ks.a x.ks.l.length x.ks.c x.rc x.ins.a x.ins.l.length x.ins.c x.lks.a x.lks.l.length x.lks.c),.agg (inr y)] wq fun e w'=>e= .returned (.bool (wordP (msgP x) (inP y)))∧Mod (fun _=>False) wq w':=fun y wq h=>rword_c x y wq h hb;rw[hn]at hib hwc⊢;obtain⟨kl,hkl⟩:∃kl,x.ks.l.length=kl:=⟨_,rfl⟩;rw[hkl]at hb⊢;simp only[hkl]at hwc;have HWC:=Hi hwc;clear hK hI hD hn hkl hwc;go_enter Tryz.func48,Tryz.ntmps48;go_upto_region 0 with fail;refine ZP0 [3,3] ?_;refine Zb fun p1 hp1=> ?_;refine Za alBud fun p2 hp2=> ?_;obtain⟨ne_p2_p1,hp2⟩:=Bx.set_none hp2;refine TD.nil (fun w1 hr=> ?_);obtain⟨gp1,kp1⟩:=hr.b p1 (by first|exact Bx.set_same _ _ _|(simp only[Bx.set_ne _ (Ne.symm ne_p2_p1),Bx.set_ne _ ne_p2_p1,Bx.set_same];rfl));obtain⟨gp2,kp2⟩:=hr.b p2 (by first|exact Bx.set_same _ _ _|(simp only[Bx.set_ne _ (Ne.symm ne_p2_p1),Bx.set_ne _ ne_p2_p1,Bx.set_same];rfl));have HM1:=Hi hr.mod;have HG1:=Hi (Ai gp1 gp2);clear hr gp1 gp2;go_upto_region 1 with fail;have Lkp1:=Ls kp1;have Lkp2:=Ls kp2;refine ZP0 [0,3,4] ?_;refine Zu hB0 ?_;refine Za alBud fun p3 hp3=> ?_;refine Zt ?_;refine TD.nil (fun w2 hr=> ?_);replace kp1:=hr.q kp1;replace kp2:=hr.q kp2;obtain⟨gp3,kp3⟩:=hr.b p3;have HM2:=Hi (HM1.out.then0 hr.mod);have HG:Hid (w.heap.size≤p1∧w.heap.size≤p2∧w.heap.size≤p3∧p1<p3∧p2<p3):=Hi (by
  have:=HM1.out.size;have:=HG1.out;refine⟨?_,?_,?_,?_,?_⟩<;>omega)
 clear hr;go_wp2_with fail;go_loopw [4,5,6,7] (fun s4 s5 s6 s7 ws=>∃(i:Nat) (s:BuP),i≤n∧s7= .int .i64 (i:Int)∧s6= .int .i64 (s.n:Int)∧s4= .bool s.u.isSome∧s5= .bool s.p.isSome∧Hid (s=budL (msgP x) bu0 0 ((x.ins.l.take i).map inP))∧Hid (Mod (fun _=>False) w ws)∧
  ws.heap[p1]? =some (.cells (mgx x.v0 x.h0 x.h1 x.h2 x.ks.a kl x.ks.c x.rc x.ins.a n x.ins.c x.lks.a x.lks.l.length x.lks.c) 33 (0,0))∧ws.heap[p2]? =some (.cells #[.int .u64 0,.int .u64 0,.int .i64 0] 39 (0,0))∧
  ws.heap[p3]? =some (.cells #[u64v (s.u.getD 0),u64v (s.p.getD 0),.int .i64 s.badI] 39 (0,0))) (fun _ _ _ s7 _=>n-(intOf s7).toNat)
 case atStart=>exact⟨0,bu0,Nat.zero_le _,rfl,rfl,rfl,rfl,Hi (by simp[budL]),HM2,kp1,kp2,kp3⟩
 case round=>
  clear kp1 kp2 kp3;obtain⟨i,s,hi,rfl,rfl,rfl,rfl,HS,HM,kp1,kp2,kp3⟩:=hrel;have hsn:s.n≤n:=by
   rw[HS.out];have h1:=budL_n (m:=msgP x) (l:=(x.ins.l.take i).map inP) (s:=bu0) (j:=0);have h2:((x.ins.l.take i).map inP).length≤n:=by
    rw[List.length_map,List.length_take];omega
   have h3:bu0.n=0:=rfl;omega
  by_cases hlt:i<n
  ·have hd:=Dt hlt;obtain⟨y,hy⟩:∃y,x.ins.l[i]? =some y:=⟨_,List.getElem?_eq_getElem (by have:=HX.out.2.2.2.2;omega)⟩;obtain⟨g,o,C,U,fr,hga,kg,he,hle⟩:=(HX.out.2.2.1.mod0 HM.out).block hy;have HY:=Hi (Ai (bud_snoc (m:=msgP x) hy) (HX.out.2.2.2.1 y (List.mem_of_getElem? hy)));obtain⟨nn,bd,u,p⟩:=s;simp only at kp3 hsn;clear hy;go_upto_region 8 with fail;have Lkp1:=Ls kp1;have Lkp2:=Ls kp2;have Lkp3:=Ls kp3;have Lkg:=Ls kg;refine ZP0 [0,1,0,0,1,3,4] ?_
   iterate 5 first|refine Zv ?_|refine Zd ?_
   refine Za alIn fun p8 hp8=> ?_;refine Zt ?_;refine TD.nil (fun w6 hr=> ?_);replace kp1:=hr.q kp1;replace kp2:=hr.q kp2;replace kp3:=hr.q kp3;replace kg:=hr.q kg;obtain⟨gp8,kp8⟩:=hr.b p8;have HM6:=Hi (HM.out.then0 hr.mod);clear hr he hle kg hga;obtain⟨wd,hwd⟩:∃wd,wordP (msgP x) (inP y)=wd:=⟨_,rfl⟩;have HWD:=Hi hwd;clear hwd;go_upto_region 9 with fail;have Lkp1:=Ls kp1;have Lkp2:=Ls kp2;have Lkp3:=Ls kp3;have Lkp8:=Ls kp8;refine ZR0 (fun _ _ v=>v= .bool wd) [1,1,2,0] ?_
   iterate 2 refine Zd ?_
   (refine Zc ?_ (s:=by intro wq hSq;exact(by have h:=HWC.out y wq (HX.out.1.mod0 (HM6.out.then0 hSq));rw[HWD.out]at h;exact h.mono (fun e w' h=>⟨_,h.1,rfl,h.2⟩)));rintro _ hC;subst hC;try simp only[zL]);refine Zv ?_;refine TD.nil (fun w8 hr=> ?_);replace kp1:=hr.q kp1;replace kp2:=hr.q kp2;replace kp3:=hr.q kp3;replace kp8:=hr.q kp8;have HM8:=Hi (HM6.out.then0 hr.mod);clear hr;cases wd with
   |false=>
    have hw1:IntKind.i64.wrap ((nn:Int)+1)=((nn+1:Nat):Int):=by rw[IntKind.wrap_i64];omega
    have HSS:Hid ((⟨nn+1,bd,u,p⟩:BuP)=budL (msgP x) bu0 0 ((x.ins.l.take (i+1)).map inP)):=Hi (by
     rw[HY.out.1,←HS.out,budStep,HWD.out];rfl)
    have HME:=HM8;clear kp8;go_wp2_with fail;go_roundw
    case rel=>exact⟨i+1,⟨nn+1,bd,u,p⟩,by omega,by go_num,by first|rfl|go_num,rfl,rfl,HSS,HME,kp1,kp2,kp3⟩
    case measure=>simp[intOf];omega
   |true=>
    cases bd with
    |some j=>
     have hdj:decide ((j:Int)≥0)=true:=Dt (by omega);replace kp3:w8.heap[p3]? =some (.cells #[u64v (u.getD 0),u64v (p.getD 0),.int .i64 (j:Int)] 39 (0,0)):=kp3;have HSS:Hid ((⟨nn,some j,u,p⟩:BuP)=budL (msgP x) bu0 0 ((x.ins.l.take (i+1)).map inP)):=Hi (by
      rw[HY.out.1,←HS.out,budStep,HWD.out];rfl)
     have HME:=HM8;clear kp8;go_wp2_with fail;go_roundw
     case rel=>exact⟨i+1,⟨nn,some j,u,p⟩,by omega,by go_num,by first|rfl|go_num,rfl,rfl,HSS,HME,kp1,kp2,kp3⟩
     case measure=>simp[intOf];omega
    |none=>
     replace kp3:w8.heap[p3]? =some (.cells #[u64v (u.getD 0),u64v (p.getD 0),.int .i64 (-1)] 39 (0,0)):=kp3;have hI2:=inr2B y;have hI2':=inr2B' y;obtain⟨ln,hln⟩:∃ln,y.d.l.length=ln:=⟨_,rfl⟩;rw[hln]at hI2;simp only[hln]at hI2';have HLN:=Hi hln;clear hln;by_cases h5:ln=5
     ·subst h5;obtain⟨d0,hd0⟩:∃d0,y.d.l[0]? =some d0:=⟨_,List.getElem?_eq_getElem (by rw[HLN.out];decide)⟩;obtain⟨gd,od,Cd,Ud,frd,hga,kd,hed,hled⟩:=(HY.out.2.1.mod0 HM8.out).block hd0;obtain⟨dn,hdn⟩:∃dn,d0.toNat=dn:=⟨_,rfl⟩;have hc0:Cd[od]? =some (.int .u8 (dn:Int)):=by
       rw[←hdn];simpa using cellC hed (j:=0) (v:= .int .u8 (d0.toNat:Int)) rfl
      rw[hga]at hI2;simp only[hga]at hI2';have HGA:=Hi hga;clear hed hled hga;by_cases h2:dn=2
      ·subst h2;have HT:Hid (toldP y.d.l=some (0,UInt64.ofNat (leV (y.d.l.drop 1)))):=Hi (by rw[told_5 HLN.out hd0,if_pos hdn]);obtain⟨z,hz⟩:∃z,UInt64.ofNat (leV (y.d.l.drop 1))=z:=⟨_,rfl⟩;rw[hz]at HT;have HZ:=Hi hz;clear hz hd0 hdn;cases u with
       |none=>
        go_upto_region 13 with fail;have Lkp1:=Ls kp1;have Lkp2:=Ls kp2;have Lkp3:=Ls kp3;have Lkp8:=Ls kp8;have Lkd:=Ls kd;refine ZP0 [0,1,0,0,0,0,1,0,1,0,0,0,0,0,0,0] ?_
        iterate 16 first|refine Zv ?_|refine Zd ?_
        refine TD.nil (fun w9 hr=> ?_);replace kp1:=hr.q kp1;replace kp2:=hr.q kp2;replace kp3:=hr.q kp3;replace kp8:=hr.q kp8;replace kd:=hr.q kd;have HMB:=Hi (HM8.out.then0 hr.mod);clear hr;clear kd hc0;have HSS:Hid ((⟨nn,none,some z,p⟩:BuP)=budL (msgP x) bu0 0 ((x.ins.l.take (i+1)).map inP)):=Hi (by
         rw[HY.out.1,←HS.out,budStep,HWD.out];simp only[inP,HT.out];rfl)
        obtain⟨sp,hsp,hss,-,-⟩:=sl_from (P:=Tryz.prog) bytesT (c:=y.d.c) (k:=1) HY.out.2.1 (by rw[HLN.out];decide) HY.out.2.2.1 HY.out.2.2.2.1;have hG:=fun w2 (h:SlAt uc 1 w2 sp (y.d.l.drop 1))=>rget1_c sp (y.d.l.drop 1) (y.d.c-1) 4 w2 h (by decide) (by decide) (by rw[List.length_drop,HLN.out];decide) (by rw[List.length_drop,HLN.out];decide);have hdl:(y.d.l.drop 1).length=4:=by rw[List.length_drop,HLN.out]
        rw[List.take_of_length_le (Nat.le_of_eq hdl),hdl,leV_u64 (by rw[hdl];decide),HZ.out]at hG;rw[HLN.out,HGA.out]at hsp;have HGG:=Hi (Ai hG hss);clear hG hss hdl;go_upto_region 14 with fail;have Lkp1:=Ls kp1;have Lkp2:=Ls kp2;have Lkp3:=Ls kp3;have Lkp8:=Ls kp8;refine ZR0 (fun _ _ v=>v= .tuple #[.int .u64 (z.toNat:Int),.int .i64 0]) [0,1,0,2,0,0,0,0,5] ?_;refine Zv ?_;refine Zd ?_;refine Zx hsp ?_;(refine Zc ?_ (s:=by intro wq hSq;exact(HGG.out.1 wq (HGG.out.2 wq ((HY.out.2.1.mod0 HMB.out).mod0 hSq))).mono (fun e w' h=>⟨_,h.1,rfl,h.2⟩));rintro _ hC;subst hC;try simp only[zL])
        iterate 4 refine Zv ?_
        refine Zi fun wE hr=> ?_;replace kp1:=hr.mod.at0 kp1;replace kp2:=hr.mod.at0 kp2;replace kp3:=hr.mod.at0 kp3;replace kp8:=hr.mod.at0 kp8;have mE:=hr.mod;refine ZS ?_;refine ZN kp3 fun w12 kp3 mS=> ?_;(try simp only[Array.setIfInBounds,zL]at kp3);replace kp1:=mS.at_ne kp1 (by omega);replace kp2:=mS.at_ne kp2 (by omega);replace kp8:=mS.at_ne kp8 (by omega);have HME:Hid (Mod (fun _=>False) w w12):=Hi ((HMB.out.then0 mE).then mS (fun j _ e=>by have:=HG.out;omega));clear hr mE mS hsp;go_wp2_with fail;go_roundw
        case rel=>exact⟨i+1,⟨nn,none,some z,p⟩,by omega,by go_num,by first|rfl|go_num,rfl,rfl,HSS,HME,kp1,kp2,kp3⟩
        case measure=>simp[intOf];omega
       |some u0=>
        go_upto_region 13 with fail;have Lkp1:=Ls kp1;have Lkp2:=Ls kp2;have Lkp3:=Ls kp3;have Lkp8:=Ls kp8;have Lkd:=Ls kd;refine ZP0 [0,1,0,0,0,0,1,0,1,0,0,0,0,0,0,0] ?_
        iterate 16 first|refine Zv ?_|refine Zd ?_
        refine TD.nil (fun w9 hr=> ?_);replace kp1:=hr.q kp1;replace kp2:=hr.q kp2;replace kp3:=hr.q kp3;replace kp8:=hr.q kp8;replace kd:=hr.q kd;have HMB:=Hi (HM8.out.then0 hr.mod);clear hr;go_upto_region 16 with fail;have Lkp1:=Ls kp1;have Lkp2:=Ls kp2;have Lkp3:=Ls kp3;have Lkp8:=Ls kp8;have Lkd:=Ls kd;refine ZP0 [0,1,0,0,0,0,1,0,1,0,0,0,0,0,0,0] ?_
        iterate 5 first|refine Zv ?_|refine Zd ?_
        refine Zo ?_;refine Zp ?_;refine Zo ?_;refine Zp ?_;refine Zo ?_
        iterate 2 refine Zv ?_
        iterate 2 refine Zo ?_
        iterate 2 refine Zv ?_
        refine TD.nil (fun w10 hr=> ?_);replace kp1:=hr.q kp1;replace kp2:=hr.q kp2;replace kp3:=hr.q kp3;replace kp8:=hr.q kp8;replace kd:=hr.q kd;replace HMB:=Hi (HMB.out.then0 hr.mod);clear hr;have HSS:Hid ((⟨nn,some i,some u0,p⟩:BuP)=budL (msgP x) bu0 0 ((x.ins.l.take (i+1)).map inP)):=Hi (by
         rw[HY.out.1,←HS.out,budStep,HWD.out];simp only[inP,HT.out];rfl)
        go_upto_region 12 with fail;have Lkp1:=Ls kp1;have Lkp2:=Ls kp2;have Lkp3:=Ls kp3;refine ZP0 [0,0,5] ?_
        iterate 2 refine Zv ?_
        refine Zi fun wE hr=> ?_;replace kp1:=hr.mod.at0 kp1;replace kp2:=hr.mod.at0 kp2;replace kp3:=hr.mod.at0 kp3;have mE:=hr.mod;refine ZS ?_;refine ZN kp3 fun w12 kp3 mS=> ?_;(try simp only[Array.setIfInBounds,zL]at kp3);replace kp1:=mS.at_ne kp1 (by omega);replace kp2:=mS.at_ne kp2 (by omega);have HME:Hid (Mod (fun _=>False) w w12):=Hi ((HMB.out.then0 mE).then mS (fun j _ e=>by have:=HG.out;omega));clear hr mE mS;go_wp2_with fail;go_roundw
        case rel=>exact⟨i+1,⟨nn,some i,some u0,p⟩,by omega,by go_num,by first|rfl|go_num,rfl,rfl,HSS,HME,kp1,kp2,kp3⟩
        case measure=>simp[intOf];omega
      ·have HT:Hid (toldP y.d.l=none):=Hi (by rw[told_5 HLN.out hd0,if_neg (by rw[hdn];exact h2)]);have hq1a:((dn:Int)==2)=false:=by
        rw[beq_eq_false_iff_ne];omega
       have hq2a:decide ((dn:Int)=2)=false:=Df (by omega);have hq3a:decide (dn=2)=false:=Df (by omega);clear hd0 hdn h2;go_upto_region 13 with fail;have Lkp1:=Ls kp1;have Lkp2:=Ls kp2;have Lkp3:=Ls kp3;have Lkp8:=Ls kp8;have Lkd:=Ls kd;refine ZP0 [0,1,0,0,0,0,1,0,1,0,0,0,0,0,0,0] ?_
       iterate 12 first|refine Zv ?_|refine Zd ?_
       iterate 2 refine Zo ?_
       iterate 2 refine Zv ?_
       refine TD.nil (fun w9 hr=> ?_);replace kp1:=hr.q kp1;replace kp2:=hr.q kp2;replace kp3:=hr.q kp3;replace kp8:=hr.q kp8;replace kd:=hr.q kd;have HMB:=Hi (HM8.out.then0 hr.mod);clear hr;go_upto_region 16 with fail;have Lkp1:=Ls kp1;have Lkp2:=Ls kp2;have Lkp3:=Ls kp3;have Lkp8:=Ls kp8;have Lkd:=Ls kd;refine ZP0 [0,1,0,0,0,0,1,0,1,0,0,0,0,0,0,0] ?_
       iterate 5 first|refine Zv ?_|refine Zd ?_
       refine Zo ?_;refine Zp ?_;refine Zo ?_;refine Zp ?_;refine Zo ?_
       iterate 2 refine Zv ?_
       iterate 2 refine Zo ?_
       iterate 2 refine Zv ?_
       refine TD.nil (fun w10 hr=> ?_);replace kp1:=hr.q kp1;replace kp2:=hr.q kp2;replace kp3:=hr.q kp3;replace kp8:=hr.q kp8;replace kd:=hr.q kd;replace HMB:=Hi (HMB.out.then0 hr.mod);clear hr;have HSS:Hid ((⟨nn,some i,u,p⟩:BuP)=budL (msgP x) bu0 0 ((x.ins.l.take (i+1)).map inP)):=Hi (by
        rw[HY.out.1,←HS.out,budStep,HWD.out];simp only[inP,HT.out];rfl)
       go_upto_region 12 with fail;have Lkp1:=Ls kp1;have Lkp2:=Ls kp2;have Lkp3:=Ls kp3;refine ZP0 [0,0,5] ?_
       iterate 2 refine Zv ?_
       refine Zi fun wE hr=> ?_;replace kp1:=hr.mod.at0 kp1;replace kp2:=hr.mod.at0 kp2;replace kp3:=hr.mod.at0 kp3;have mE:=hr.mod;refine ZS ?_;refine ZN kp3 fun w12 kp3 mS=> ?_;(try simp only[Array.setIfInBounds,zL]at kp3);replace kp1:=mS.at_ne kp1 (by omega);replace kp2:=mS.at_ne kp2 (by omega);have HME:Hid (Mod (fun _=>False) w w12):=Hi ((HMB.out.then0 mE).then mS (fun j _ e=>by have:=HG.out;omega));clear hr mE mS;go_wp2_with fail;go_roundw
       case rel=>exact⟨i+1,⟨nn,some i,u,p⟩,by omega,by go_num,by first|rfl|go_num,rfl,rfl,HSS,HME,kp1,kp2,kp3⟩
       case measure=>simp[intOf];omega
     ·by_cases h9:ln=9
      ·subst h9;obtain⟨d0,hd0⟩:∃d0,y.d.l[0]? =some d0:=⟨_,List.getElem?_eq_getElem (by rw[HLN.out];decide)⟩;obtain⟨gd,od,Cd,Ud,frd,hga,kd,hed,hled⟩:=(HY.out.2.1.mod0 HM8.out).block hd0;obtain⟨dn,hdn⟩:∃dn,d0.toNat=dn:=⟨_,rfl⟩;have hc0:Cd[od]? =some (.int .u8 (dn:Int)):=by
        rw[←hdn];simpa using cellC hed (j:=0) (v:= .int .u8 (d0.toNat:Int)) rfl
       rw[hga]at hI2;simp only[hga]at hI2';have HGA:=Hi hga;clear hed hled hga;by_cases h2:dn=3
       ·subst h2;have HT:Hid (toldP y.d.l=some (1,UInt64.ofNat (leV (y.d.l.drop 1)))):=Hi (by rw[told_9 HLN.out hd0,if_pos hdn]);obtain⟨z,hz⟩:∃z,UInt64.ofNat (leV (y.d.l.drop 1))=z:=⟨_,rfl⟩;rw[hz]at HT;have HZ:=Hi hz;clear hz hd0 hdn;cases p with
        |none=>
         go_upto_region 13 with fail;have Lkp1:=Ls kp1;have Lkp2:=Ls kp2;have Lkp3:=Ls kp3;have Lkp8:=Ls kp8;have Lkd:=Ls kd;refine ZP0 [0,1,0,0,0,0,1,0,1,0,0,0,0,0,0,0] ?_
         iterate 5 first|refine Zv ?_|refine Zd ?_
         refine Zo ?_;refine Zp ?_;refine Zo ?_;refine Zp ?_;refine Zo ?_
         iterate 2 refine Zv ?_
         iterate 2 refine Zo ?_
         iterate 2 refine Zv ?_
         refine TD.nil (fun w9 hr=> ?_);replace kp1:=hr.q kp1;replace kp2:=hr.q kp2;replace kp3:=hr.q kp3;replace kp8:=hr.q kp8;replace kd:=hr.q kd;have HMB:=Hi (HM8.out.then0 hr.mod);clear hr;go_upto_region 16 with fail;have Lkp1:=Ls kp1;have Lkp2:=Ls kp2;have Lkp3:=Ls kp3;have Lkp8:=Ls kp8;have Lkd:=Ls kd;refine ZP0 [0,1,0,0,0,0,1,0,1,0,0,0,0,0,0,0] ?_
         iterate 16 first|refine Zv ?_|refine Zd ?_
         refine TD.nil (fun w10 hr=> ?_);replace kp1:=hr.q kp1;replace kp2:=hr.q kp2;replace kp3:=hr.q kp3;replace kp8:=hr.q kp8;replace kd:=hr.q kd;replace HMB:=Hi (HMB.out.then0 hr.mod);clear hr;clear kd hc0;have HSS:Hid ((⟨nn,none,u,some z⟩:BuP)=budL (msgP x) bu0 0 ((x.ins.l.take (i+1)).map inP)):=Hi (by
          rw[HY.out.1,←HS.out,budStep,HWD.out];simp only[inP,HT.out];rfl)
         obtain⟨sp,hsp,hss,-,-⟩:=sl_from (P:=Tryz.prog) bytesT (c:=y.d.c) (k:=1) HY.out.2.1 (by rw[HLN.out];decide) HY.out.2.2.1 HY.out.2.2.2.1;have hG:=fun w2 (h:SlAt uc 1 w2 sp (y.d.l.drop 1))=>rget1_c sp (y.d.l.drop 1) (y.d.c-1) 8 w2 h (by decide) (by decide) (by rw[List.length_drop,HLN.out];decide) (by rw[List.length_drop,HLN.out];decide);have hdl:(y.d.l.drop 1).length=8:=by rw[List.length_drop,HLN.out]
         rw[List.take_of_length_le (Nat.le_of_eq hdl),hdl,leV_u64 (by rw[hdl];decide),HZ.out]at hG;rw[HLN.out,HGA.out]at hsp;have HGG:=Hi (Ai hG hss);clear hG hss hdl;go_upto_region 17 with fail;have Lkp1:=Ls kp1;have Lkp2:=Ls kp2;have Lkp3:=Ls kp3;have Lkp8:=Ls kp8;refine ZR0 (fun _ _ v=>v= .tuple #[.int .u64 (z.toNat:Int),.int .i64 0]) [0,1,0,2,0,0,0,0,5] ?_;refine Zv ?_;refine Zd ?_;refine Zx hsp ?_;(refine Zc ?_ (s:=by intro wq hSq;exact(HGG.out.1 wq (HGG.out.2 wq ((HY.out.2.1.mod0 HMB.out).mod0 hSq))).mono (fun e w' h=>⟨_,h.1,rfl,h.2⟩));rintro _ hC;subst hC;try simp only[zL])
         iterate 4 refine Zv ?_
         refine Zi fun wE hr=> ?_;replace kp1:=hr.mod.at0 kp1;replace kp2:=hr.mod.at0 kp2;replace kp3:=hr.mod.at0 kp3;replace kp8:=hr.mod.at0 kp8;have mE:=hr.mod;refine ZS ?_;refine ZN kp3 fun w12 kp3 mS=> ?_;(try simp only[Array.setIfInBounds,zL]at kp3);replace kp1:=mS.at_ne kp1 (by omega);replace kp2:=mS.at_ne kp2 (by omega);replace kp8:=mS.at_ne kp8 (by omega);have HME:Hid (Mod (fun _=>False) w w12):=Hi ((HMB.out.then0 mE).then mS (fun j _ e=>by have:=HG.out;omega));clear hr mE mS hsp;go_wp2_with fail;go_roundw
         case rel=>exact⟨i+1,⟨nn,none,u,some z⟩,by omega,by go_num,by first|rfl|go_num,rfl,rfl,HSS,HME,kp1,kp2,kp3⟩
         case measure=>simp[intOf];omega
        |some p0=>
         go_upto_region 13 with fail;have Lkp1:=Ls kp1;have Lkp2:=Ls kp2;have Lkp3:=Ls kp3;have Lkp8:=Ls kp8;have Lkd:=Ls kd;refine ZP0 [0,1,0,0,0,0,1,0,1,0,0,0,0,0,0,0] ?_
         iterate 5 first|refine Zv ?_|refine Zd ?_
         refine Zo ?_;refine Zp ?_;refine Zo ?_;refine Zp ?_;refine Zo ?_
         iterate 2 refine Zv ?_
         iterate 2 refine Zo ?_
         iterate 2 refine Zv ?_
         refine TD.nil (fun w9 hr=> ?_);replace kp1:=hr.q kp1;replace kp2:=hr.q kp2;replace kp3:=hr.q kp3;replace kp8:=hr.q kp8;replace kd:=hr.q kd;have HMB:=Hi (HM8.out.then0 hr.mod);clear hr;go_upto_region 16 with fail;have Lkp1:=Ls kp1;have Lkp2:=Ls kp2;have Lkp3:=Ls kp3;have Lkp8:=Ls kp8;have Lkd:=Ls kd;refine ZP0 [0,1,0,0,0,0,1,0,1,0,0,0,0,0,0,0] ?_
         iterate 16 first|refine Zv ?_|refine Zd ?_
         refine TD.nil (fun w10 hr=> ?_);replace kp1:=hr.q kp1;replace kp2:=hr.q kp2;replace kp3:=hr.q kp3;replace kp8:=hr.q kp8;replace kd:=hr.q kd;replace HMB:=Hi (HMB.out.then0 hr.mod);clear hr;have HSS:Hid ((⟨nn,some i,u,some p0⟩:BuP)=budL (msgP x) bu0 0 ((x.ins.l.take (i+1)).map inP)):=Hi (by
          rw[HY.out.1,←HS.out,budStep,HWD.out];simp only[inP,HT.out];rfl)
         go_upto_region 12 with fail;have Lkp1:=Ls kp1;have Lkp2:=Ls kp2;have Lkp3:=Ls kp3;refine ZP0 [0,0,5] ?_
         iterate 2 refine Zv ?_
         refine Zi fun wE hr=> ?_;replace kp1:=hr.mod.at0 kp1;replace kp2:=hr.mod.at0 kp2;replace kp3:=hr.mod.at0 kp3;have mE:=hr.mod;refine ZS ?_;refine ZN kp3 fun w12 kp3 mS=> ?_;(try simp only[Array.setIfInBounds,zL]at kp3);replace kp1:=mS.at_ne kp1 (by omega);replace kp2:=mS.at_ne kp2 (by omega);have HME:Hid (Mod (fun _=>False) w w12):=Hi ((HMB.out.then0 mE).then mS (fun j _ e=>by have:=HG.out;omega));clear hr mE mS;go_wp2_with fail;go_roundw
         case rel=>exact⟨i+1,⟨nn,some i,u,some p0⟩,by omega,by go_num,by first|rfl|go_num,rfl,rfl,HSS,HME,kp1,kp2,kp3⟩
         case measure=>simp[intOf];omega
       ·have HT:Hid (toldP y.d.l=none):=Hi (by rw[told_9 HLN.out hd0,if_neg (by rw[hdn];exact h2)]);have hq1a:((dn:Int)==3)=false:=by
         rw[beq_eq_false_iff_ne];omega
        have hq2a:decide ((dn:Int)=3)=false:=Df (by omega);have hq3a:decide (dn=3)=false:=Df (by omega);clear hd0 hdn h2;go_upto_region 13 with fail;have Lkp1:=Ls kp1;have Lkp2:=Ls kp2;have Lkp3:=Ls kp3;have Lkp8:=Ls kp8;have Lkd:=Ls kd;refine ZP0 [0,1,0,0,0,0,1,0,1,0,0,0,0,0,0,0] ?_
        iterate 5 first|refine Zv ?_|refine Zd ?_
        refine Zo ?_;refine Zp ?_;refine Zo ?_;refine Zp ?_;refine Zo ?_
        iterate 2 refine Zv ?_
        iterate 2 refine Zo ?_
        iterate 2 refine Zv ?_
        refine TD.nil (fun w9 hr=> ?_);replace kp1:=hr.q kp1;replace kp2:=hr.q kp2;replace kp3:=hr.q kp3;replace kp8:=hr.q kp8;replace kd:=hr.q kd;have HMB:=Hi (HM8.out.then0 hr.mod);clear hr;go_upto_region 16 with fail;have Lkp1:=Ls kp1;have Lkp2:=Ls kp2;have Lkp3:=Ls kp3;have Lkp8:=Ls kp8;have Lkd:=Ls kd;refine ZP0 [0,1,0,0,0,0,1,0,1,0,0,0,0,0,0,0] ?_
        iterate 12 first|refine Zv ?_|refine Zd ?_
        iterate 2 refine Zo ?_
        iterate 2 refine Zv ?_
        refine TD.nil (fun w10 hr=> ?_);replace kp1:=hr.q kp1;replace kp2:=hr.q kp2;replace kp3:=hr.q kp3;replace kp8:=hr.q kp8;replace kd:=hr.q kd;replace HMB:=Hi (HMB.out.then0 hr.mod);clear hr;have HSS:Hid ((⟨nn,some i,u,p⟩:BuP)=budL (msgP x) bu0 0 ((x.ins.l.take (i+1)).map inP)):=Hi (by
         rw[HY.out.1,←HS.out,budStep,HWD.out];simp only[inP,HT.out];rfl)
        go_upto_region 12 with fail;have Lkp1:=Ls kp1;have Lkp2:=Ls kp2;have Lkp3:=Ls kp3;refine ZP0 [0,0,5] ?_
        iterate 2 refine Zv ?_
        refine Zi fun wE hr=> ?_;replace kp1:=hr.mod.at0 kp1;replace kp2:=hr.mod.at0 kp2;replace kp3:=hr.mod.at0 kp3;have mE:=hr.mod;refine ZS ?_;refine ZN kp3 fun w12 kp3 mS=> ?_;(try simp only[Array.setIfInBounds,zL]at kp3);replace kp1:=mS.at_ne kp1 (by omega);replace kp2:=mS.at_ne kp2 (by omega);have HME:Hid (Mod (fun _=>False) w w12):=Hi ((HMB.out.then0 mE).then mS (fun j _ e=>by have:=HG.out;omega));clear hr mE mS;go_wp2_with fail;go_roundw
        case rel=>exact⟨i+1,⟨nn,some i,u,p⟩,by omega,by go_num,by first|rfl|go_num,rfl,rfl,HSS,HME,kp1,kp2,kp3⟩
        case measure=>simp[intOf];omega
      ·have HT:Hid (toldP y.d.l=none):=Hi (told_n (by rw[HLN.out];exact h5) (by rw[HLN.out];exact h9));have hq1a:((ln:Int)==5)=false:=by
        rw[beq_eq_false_iff_ne];omega
       have hq2a:decide ((ln:Int)=5)=false:=Df (by omega);have hq3a:decide (ln=5)=false:=Df (by omega);have hq1b:((ln:Int)==9)=false:=by
        rw[beq_eq_false_iff_ne];omega
       have hq2b:decide ((ln:Int)=9)=false:=Df (by omega);have hq3b:decide (ln=9)=false:=Df (by omega);clear h5 h9;go_upto_region 13 with fail;have Lkp1:=Ls kp1;have Lkp2:=Ls kp2;have Lkp3:=Ls kp3;have Lkp8:=Ls kp8;refine ZP0 [0,1,0,0,0,0,1,0,1,0,0,0,0,0,0,0] ?_
       iterate 5 first|refine Zv ?_|refine Zd ?_
       refine Zo ?_;refine Zp ?_;refine Zo ?_;refine Zp ?_;refine Zo ?_
       iterate 2 refine Zv ?_
       iterate 2 refine Zo ?_
       iterate 2 refine Zv ?_
       refine TD.nil (fun w9 hr=> ?_);replace kp1:=hr.q kp1;replace kp2:=hr.q kp2;replace kp3:=hr.q kp3;replace kp8:=hr.q kp8;have HMB:=Hi (HM8.out.then0 hr.mod);clear hr;go_upto_region 16 with fail;have Lkp1:=Ls kp1;have Lkp2:=Ls kp2;have Lkp3:=Ls kp3;have Lkp8:=Ls kp8;refine ZP0 [0,1,0,0,0,0,1,0,1,0,0,0,0,0,0,0] ?_
       iterate 5 first|refine Zv ?_|refine Zd ?_
       refine Zo ?_;refine Zp ?_;refine Zo ?_;refine Zp ?_;refine Zo ?_
       iterate 2 refine Zv ?_
       iterate 2 refine Zo ?_
       iterate 2 refine Zv ?_
       refine TD.nil (fun w10 hr=> ?_);replace kp1:=hr.q kp1;replace kp2:=hr.q kp2;replace kp3:=hr.q kp3;replace kp8:=hr.q kp8;replace HMB:=Hi (HMB.out.then0 hr.mod);clear hr;have HSS:Hid ((⟨nn,some i,u,p⟩:BuP)=budL (msgP x) bu0 0 ((x.ins.l.take (i+1)).map inP)):=Hi (by
        rw[HY.out.1,←HS.out,budStep,HWD.out];simp only[inP,HT.out];rfl)
       go_upto_region 12 with fail;have Lkp1:=Ls kp1;have Lkp2:=Ls kp2;have Lkp3:=Ls kp3;refine ZP0 [0,0,5] ?_
       iterate 2 refine Zv ?_
       refine Zi fun wE hr=> ?_;replace kp1:=hr.mod.at0 kp1;replace kp2:=hr.mod.at0 kp2;replace kp3:=hr.mod.at0 kp3;have mE:=hr.mod;refine ZS ?_;refine ZN kp3 fun w12 kp3 mS=> ?_;(try simp only[Array.setIfInBounds,zL]at kp3);replace kp1:=mS.at_ne kp1 (by omega);replace kp2:=mS.at_ne kp2 (by omega);have HME:Hid (Mod (fun _=>False) w w12):=Hi ((HMB.out.then0 mE).then mS (fun j _ e=>by have:=HG.out;omega));clear hr mE mS;go_wp2_with fail;go_roundw
       case rel=>exact⟨i+1,⟨nn,some i,u,p⟩,by omega,by go_num,by first|rfl|go_num,rfl,rfl,HSS,HME,kp1,kp2,kp3⟩
       case measure=>simp[intOf];omega
  ·have hd:=Df hlt;obtain rfl:i=n:=by omega
   have HBP:Hid (budP (msgP x)=s):=Hi (by
    rw[HS.out];have:x.ins.l.take i=x.ins.l:=List.take_of_length_le (by have:=HX.out.2.2.2.2;omega);rw[this];rfl)
   have HSN:Hid (s.n≤i∧i≤1000000):=Hi ⟨hsn,hib⟩;have hp23:p2≠p3:=by have:=HG.out;omega
   obtain⟨nn,bd,u,p⟩:=s;simp only at kp3 hsn;cases u with
   |some vv=>
    obtain⟨vn,hvn⟩:∃vn,vv.toNat=vn:=⟨_,rfl⟩;have HVV:Hid ((some vv).getD (UInt64.ofNat nn*200000)=vv∧vv.toNat=vn):=Hi ⟨rfl,hvn⟩;replace kp3:wr.heap[p3]? =some (.cells #[.int .u64 (vn:Int),u64v (p.getD 0),.int .i64 (BuP.badI ⟨nn,bd,some vv,p⟩)] 39 (0,0)):=by rw[←hvn];exact kp3
    clear hvn;have HMB:=HM;go_upto_region 21 with fail;by_cases hov:1400000<vn
    ·have hd2:decide ((vn:Int)>1400000)=true:=Dt (by omega);have HC:Hid (BuP.units ⟨nn,bd,(some vv),p⟩=1400000):=Hi (by
      unfold BuP.units;rw[if_neg (by rw[HVV.out.1,HVV.out.2];omega)])
     clear hov;go_upto_region 21 with fail;have Lkp2:=Ls kp2;have Lkp3:=Ls kp3;refine ZP0 [0,1,0] ?_
     iterate 3 first|refine Zv ?_|refine Zd ?_
     refine TD.nil (fun w10 hr=> ?_);replace kp2:=hr.q kp2;replace kp3:=hr.q kp3;replace HMB:=Hi (HMB.out.then0 hr.mod);clear hr;go_upto_region 22 with fail;have Lkp2:=Ls kp2;have Lkp3:=Ls kp3;refine ZP0 [0,5] ?_;refine Zv ?_;refine Zi fun wE hr=> ?_;replace kp2:=hr.mod.at0 kp2;replace kp3:=hr.mod.at0 kp3;have mE:=hr.mod;refine ZS ?_;refine ZN kp3 fun w11 kp3 mS=> ?_;(try simp only[Array.setIfInBounds,zL]at kp3);replace kp2:=mS.at_ne kp2 (by omega);replace HMB:Hid (Mod (fun _=>False) w w11):=Hi ((HMB.out.then0 mE).then mS (fun j _ e=>by have:=HG.out;omega));clear hr mE mS;go_upto_region 23 with fail;have Lkp2:=Ls kp2;have Lkp3:=Ls kp3;refine ZP0 [1,5] ?_;refine Zd ?_;refine Zi fun wE hr=> ?_;replace kp2:=hr.mod.at0 kp2;replace kp3:=hr.mod.at0 kp3;have mE:=hr.mod;refine ZS ?_;refine ZN kp2 fun w13 kp2 mS=> ?_;(try simp only[Array.setIfInBounds,zL]at kp2);replace kp3:=mS.at_ne kp3 (by omega);have HM13:Hid (Mod (fun _=>False) w w13):=Hi ((HMB.out.then0 mE).then mS (fun j _ e=>by have:=HG.out;omega));clear hr mE mS;go_wp2_with fail;refine bodyPost_ret (results_cell1 (v:= .agg (budR (budP (msgP x)))) rfl rfl ?_) rfl ⟨rfl,HM13.out⟩;rw[HBP.out];have hkb:w13.heap[p2]? =some (.cells (budR ⟨nn,bd,(some vv),p⟩) 39 (0,0)):=by
      unfold budR;rw[HC.out];exact kp2
     rw[ldBud];simp[hkb,budR]
    ·have hd2:decide ((vn:Int)>1400000)=false:=Df (by omega);have HC:Hid (BuP.units ⟨nn,bd,(some vv),p⟩=vv):=Hi (by
      unfold BuP.units;rw[if_pos (by rw[HVV.out.1,HVV.out.2];omega),HVV.out.1])
     rw[←HVV.out.2]at kp3;have hd3:decide ((vv.toNat:Int)>1400000)=false:=by rw[HVV.out.2];exact hd2
     clear hov;go_upto_region 21 with fail;have Lkp2:=Ls kp2;have Lkp3:=Ls kp3;refine ZP0 [0,1,0] ?_
     iterate 3 first|refine Zv ?_|refine Zd ?_
     refine TD.nil (fun w10 hr=> ?_);replace kp2:=hr.q kp2;replace kp3:=hr.q kp3;replace HMB:=Hi (HMB.out.then0 hr.mod);clear hr;go_upto_region 23 with fail;have Lkp2:=Ls kp2;have Lkp3:=Ls kp3;refine ZP0 [1,5] ?_;refine Zd ?_;refine Zi fun wE hr=> ?_;replace kp2:=hr.mod.at0 kp2;replace kp3:=hr.mod.at0 kp3;have mE:=hr.mod;refine ZS ?_;refine ZN kp2 fun w13 kp2 mS=> ?_;(try simp only[Array.setIfInBounds,zL]at kp2);replace kp3:=mS.at_ne kp3 (by omega);have HM13:Hid (Mod (fun _=>False) w w13):=Hi ((HMB.out.then0 mE).then mS (fun j _ e=>by have:=HG.out;omega));clear hr mE mS;go_wp2_with fail;refine bodyPost_ret (results_cell1 (v:= .agg (budR (budP (msgP x)))) rfl rfl ?_) rfl ⟨rfl,HM13.out⟩;rw[HBP.out];have hkb:w13.heap[p2]? =some (.cells (budR ⟨nn,bd,(some vv),p⟩) 39 (0,0)):=by
      unfold budR;rw[HC.out];exact kp2
     rw[ldBud];simp[hkb,budR]
   |none=>
    obtain⟨vv,hv⟩:∃v,UInt64.ofNat nn*200000=v:=⟨_,rfl⟩;obtain⟨vn,hvn⟩:∃vn,vv.toNat=vn:=⟨_,rfl⟩;have hvw:IntKind.u64.wrap ((nn:Int)*200000)=(vn:Int):=by
     have h1:=HSN.out;have h3:nn≤i:=h1.1;rw[←hvn,←hv,UInt64.toNat_mul,UInt64.toNat_ofNat',IntKind.wrap_u64,show(200000:UInt64).toNat=200000 from rfl];omega
    have hnw:IntKind.u64.wrap (nn:Int)=(nn:Int):=by
     have h1:=HSN.out;have h3:nn≤i:=h1.1;rw[IntKind.wrap_u64];omega
    have HVV:Hid ((none:Option UInt64).getD (UInt64.ofNat nn*200000)=vv∧vv.toNat=vn):=Hi ⟨hv,hvn⟩;clear hv hvn;go_upto_region 20 with fail;have Lkp2:=Ls kp2;have Lkp3:=Ls kp3;refine ZP0 [0,0,0,0,5] ?_
    iterate 4 refine Zv ?_
    refine Zi fun wE hr=> ?_;replace kp2:=hr.mod.at0 kp2;replace kp3:=hr.mod.at0 kp3;have mE:=hr.mod;refine ZS ?_;refine ZN kp3 fun w9 kp3 mS=> ?_;(try simp only[Array.setIfInBounds,zL]at kp3);replace kp2:=mS.at_ne kp2 (by omega);have HMB:Hid (Mod (fun _=>False) w w9):=Hi ((HM.out.then0 mE).then mS (fun j _ e=>by have:=HG.out;omega));clear hr mE mS;go_upto_region 21 with fail;by_cases hov:1400000<vn
    ·have hd2:decide ((vn:Int)>1400000)=true:=Dt (by omega);have HC:Hid (BuP.units ⟨nn,bd,none,p⟩=1400000):=Hi (by
      unfold BuP.units;rw[if_neg (by rw[HVV.out.1,HVV.out.2];omega)])
     clear hov;go_upto_region 21 with fail;have Lkp2:=Ls kp2;have Lkp3:=Ls kp3;refine ZP0 [0,1,0] ?_
     iterate 3 first|refine Zv ?_|refine Zd ?_
     refine TD.nil (fun w10 hr=> ?_);replace kp2:=hr.q kp2;replace kp3:=hr.q kp3;replace HMB:=Hi (HMB.out.then0 hr.mod);clear hr;go_upto_region 22 with fail;have Lkp2:=Ls kp2;have Lkp3:=Ls kp3;refine ZP0 [0,5] ?_;refine Zv ?_;refine Zi fun wE hr=> ?_;replace kp2:=hr.mod.at0 kp2;replace kp3:=hr.mod.at0 kp3;have mE:=hr.mod;refine ZS ?_;refine ZN kp3 fun w11 kp3 mS=> ?_;(try simp only[Array.setIfInBounds,zL]at kp3);replace kp2:=mS.at_ne kp2 (by omega);replace HMB:Hid (Mod (fun _=>False) w w11):=Hi ((HMB.out.then0 mE).then mS (fun j _ e=>by have:=HG.out;omega));clear hr mE mS;go_upto_region 23 with fail;have Lkp2:=Ls kp2;have Lkp3:=Ls kp3;refine ZP0 [1,5] ?_;refine Zd ?_;refine Zi fun wE hr=> ?_;replace kp2:=hr.mod.at0 kp2;replace kp3:=hr.mod.at0 kp3;have mE:=hr.mod;refine ZS ?_;refine ZN kp2 fun w13 kp2 mS=> ?_;(try simp only[Array.setIfInBounds,zL]at kp2);replace kp3:=mS.at_ne kp3 (by omega);have HM13:Hid (Mod (fun _=>False) w w13):=Hi ((HMB.out.then0 mE).then mS (fun j _ e=>by have:=HG.out;omega));clear hr mE mS;go_wp2_with fail;refine bodyPost_ret (results_cell1 (v:= .agg (budR (budP (msgP x)))) rfl rfl ?_) rfl ⟨rfl,HM13.out⟩;rw[HBP.out];have hkb:w13.heap[p2]? =some (.cells (budR ⟨nn,bd,none,p⟩) 39 (0,0)):=by
      unfold budR;rw[HC.out];exact kp2
     rw[ldBud];simp[hkb,budR]
    ·have hd2:decide ((vn:Int)>1400000)=false:=Df (by omega);have HC:Hid (BuP.units ⟨nn,bd,none,p⟩=vv):=Hi (by
      unfold BuP.units;rw[if_pos (by rw[HVV.out.1,HVV.out.2];omega),HVV.out.1])
     rw[←HVV.out.2]at kp3;have hd3:decide ((vv.toNat:Int)>1400000)=false:=by rw[HVV.out.2];exact hd2
     clear hov;go_upto_region 21 with fail;have Lkp2:=Ls kp2;have Lkp3:=Ls kp3;refine ZP0 [0,1,0] ?_
     iterate 3 first|refine Zv ?_|refine Zd ?_
     refine TD.nil (fun w10 hr=> ?_);replace kp2:=hr.q kp2;replace kp3:=hr.q kp3;replace HMB:=Hi (HMB.out.then0 hr.mod);clear hr;go_upto_region 23 with fail;have Lkp2:=Ls kp2;have Lkp3:=Ls kp3;refine ZP0 [1,5] ?_;refine Zd ?_;refine Zi fun wE hr=> ?_;replace kp2:=hr.mod.at0 kp2;replace kp3:=hr.mod.at0 kp3;have mE:=hr.mod;refine ZS ?_;refine ZN kp2 fun w13 kp2 mS=> ?_;(try simp only[Array.setIfInBounds,zL]at kp2);replace kp3:=mS.at_ne kp3 (by omega);have HM13:Hid (Mod (fun _=>False) w w13):=Hi ((HMB.out.then0 mE).then mS (fun j _ e=>by have:=HG.out;omega));clear hr mE mS;go_wp2_with fail;refine bodyPost_ret (results_cell1 (v:= .agg (budR (budP (msgP x)))) rfl rfl ?_) rfl ⟨rfl,HM13.out⟩;rw[HBP.out];have hkb:w13.heap[p2]? =some (.cells (budR ⟨nn,bd,none,p⟩) 39 (0,0)):=by
      unfold budR;rw[HC.out];exact kp2
     rw[ldBud];simp[hkb,budR]
end
def vsum (O:Nat→Nat):Nat→Nat
 |0=>0
 |k+1=>vsum O k+O k*65536^k
def updN (O:Nat→Nat) (m v:Nat):Nat→Nat:=fun j=>if j=m then v else O j
theorem updN_same (O:Nat→Nat) (m v:Nat):updN O m v m=v:=if_pos rfl
theorem updN_ne (O:Nat→Nat) {m j:Nat} (v:Nat) (h:j≠m):updN O m v j=O j:=if_neg h
theorem vsum_out (O:Nat→Nat) (m v:Nat):∀k,k≤m→vsum (updN O m v) k=vsum O k
 |0,_=>rfl
 |k+1,h=>by rw[vsum,vsum,vsum_out O m v k (by omega),updN_ne O v (by omega)]
theorem vsum_upd (O:Nat→Nat) (m v:Nat):∀k,m<k→vsum (updN O m v) k+O m*65536^m=vsum O k+v*65536^m
 |0,h=>absurd h (Nat.not_lt_zero _)
 |k+1,h=>by
  rw[vsum,vsum];by_cases e:k=m
  ·subst e;rw[vsum_out O k v k (Nat.le_refl _),updN_same];omega
  ·have:=vsum_upd O m v k (by omega);rw[updN_ne O v e];omega
theorem vsum_zero {O:Nat→Nat} (h:∀j,O j=0):∀k,vsum O k=0
 |0=>rfl
 |k+1=>by rw[vsum,vsum_zero h k,h k];simp
theorem digit_step {O:Nat→Nat} {m n v:Nat} {c:Nat} {k:Nat} (hm:m<k) (hn:n=O m+v+c):
  vsum (updN O m (n % 65536)) k+n/65536*65536^(m+1)=vsum O k+c*65536^m+v*65536^m:=by
 have h:=vsum_upd O m (n % 65536) k hm;have e:n % 65536*65536^m+n/65536*65536^(m+1)=n*65536^m:=by
  rw[Nat.pow_succ,Nat.mul_comm (65536^m) 65536,←Nat.mul_assoc,←Nat.add_mul];congr 1;omega
 have e2:n*65536^m=O m*65536^m+v*65536^m+c*65536^m:=by rw[hn,Nat.add_mul,Nat.add_mul]
 omega
structure MulI (x y O:Nat→Nat) (i k c:Nat):Prop where
 eq:vsum O 8+c*65536^(i+k)=vsum x i*vsum y 4+x i*65536^i*vsum y k
 lt:∀j,O j<65536
 cl:c<65536
 hi:∀j,i+4≤j→O j=0
theorem MulI.zero (x y:Nat→Nat):MulI x y (fun _=>0) 0 0 0:=by
 refine⟨?_,fun _=>by omega,by omega,fun _ _=>rfl⟩;rw[vsum_zero (fun _=>rfl),vsum,vsum];simp
theorem MulI.next {x y O:Nat→Nat} {i k c n:Nat} (H:MulI x y O i k c) (hx:x i<65536) (hy:y k<65536) (hi:i<4) (hk:k<4) (hn:n=O (i+k)+x i*y k+c):
  MulI x y (updN O (i+k) (n % 65536)) i (k+1) (n/65536)∧n<4294967296∧x i*y k<4294836226:=by
 have hp:x i*y k≤65535*65535:=Nat.mul_le_mul (by omega) (by omega);have hO:=H.lt (i+k);have hc:=H.cl;have hnb:n<4294967296:=by omega
 refine⟨⟨?_,fun j=> ?_,by omega,fun j hj=> ?_⟩,hnb,by omega⟩
 ·have h:=digit_step (O:=O) (m:=i+k) (n:=n) (v:=x i*y k) (c:=c) (k:=8) (by omega) hn;have e:x i*y k*65536^(i+k)=x i*65536^i*(y k*65536^k):=by
   rw[Nat.pow_add];simp only[Nat.mul_assoc,Nat.mul_left_comm]
  rw[show i+(k+1)=i+k+1 by omega,h,H.eq,e,show vsum y (k+1)=vsum y k+y k*65536^k from rfl,Nat.mul_add];omega
 ·by_cases e:j=i+k
  ·subst e;rw[updN_same];exact Nat.mod_lt _ (by omega)
  ·rw[updN_ne O _ e];exact H.lt j
 ·rw[updN_ne O _ (by omega)];exact H.hi j hj
theorem MulI.row {x y O:Nat→Nat} {i c:Nat} (H:MulI x y O i 4 c) (hi:i<4):MulI x y (updN O (i+4) c) (i+1) 0 0:=by
 refine⟨?_,fun j=> ?_,by omega,fun j hj=> ?_⟩
 ·have h:=vsum_upd O (i+4) c 8 (by omega);rw[H.hi (i+4) (Nat.le_refl _),Nat.zero_mul,Nat.add_zero]at h;rw[h,H.eq,Nat.zero_mul,Nat.add_zero,show vsum x (i+1)=vsum x i+x i*65536^i from rfl,Nat.add_mul,show vsum y 0=0 from rfl,Nat.mul_zero,Nat.add_zero]
 ·by_cases e:j=i+4
  ·subst e;rw[updN_same];exact H.cl
  ·rw[updN_ne O _ e];exact H.lt j
 ·rw[updN_ne O _ (by omega)];exact H.hi j (by omega)
theorem vsum_s (O:Nat→Nat) (k:Nat):vsum O (k+1)=vsum O k+O k*65536^k:=rfl
theorem vsum_0 (O:Nat→Nat):vsum O 0=0:=rfl
theorem pow_p:(65536:Nat)^0=1∧(65536:Nat)^1=65536∧(65536:Nat)^2=4294967296∧(65536:Nat)^3=281474976710656∧(65536:Nat)^4=18446744073709551616∧(65536:Nat)^5=18446744073709551616*65536∧(65536:Nat)^6=18446744073709551616*4294967296∧(65536:Nat)^7=18446744073709551616*281474976710656:=by decide
theorem vsum_4 {z:Nat→Nat} {a:Nat} (h:a<18446744073709551616) (hz:∀j,j<4→z j=a/65536^j % 65536):vsum z 4=a:=by
 obtain⟨p0,p1,p2,p3,-⟩:=pow_p;rw[vsum_s,vsum_s,vsum_s,vsum_s,vsum_0,hz 0 (by omega),hz 1 (by omega),hz 2 (by omega),hz 3 (by omega),p0,p1,p2,p3];clear hz p0 p1 p2 p3;omega
theorem vsum_8 (O:Nat→Nat):horN (fun j=>O (4+j)) 4*18446744073709551616+horN O 4=vsum O 8:=by
 obtain⟨p0,p1,p2,p3,p4,p5,p6,p7⟩:=pow_p;rw[vsum_s,vsum_s,vsum_s,vsum_s,vsum_s,vsum_s,vsum_s,vsum_s,vsum_0,p0,p1,p2,p3,p4,p5,p6,p7,horN_4,horN_4];clear p0 p1 p2 p3 p4 p5 p6 p7;generalize(18446744073709551616:Nat)=B;show(O 4+O 5*65536+O 6*4294967296+O 7*281474976710656)*B+_=_;have e:∀x y:Nat,x*(B*y)=x*y*B:=fun x y=>by rw[Nat.mul_comm B y,Nat.mul_assoc]
 rw[e,e,e,Nat.add_mul,Nat.add_mul,Nat.add_mul];omega
theorem MulI.done {x y O:Nat→Nat} (H:MulI x y O 4 0 0) {a b:Nat} (ha:a<18446744073709551616) (hb:b<18446744073709551616) (hx:∀j,j<4→x j=a/65536^j % 65536) (hy:∀j,j<4→y j=b/65536^j % 65536):
  horN (fun j=>O (4+j)) 4*18446744073709551616+horN O 4=a*b:=by
 have h:=H.eq;rw[vsum_4 hb hy,vsum_4 ha hx,vsum_0,Nat.zero_mul,Nat.mul_zero,Nat.add_zero,Nat.add_zero]at h;rw[vsum_8,h]
section
def TimesOk:Prop:=∀(a b d:UInt64) (up:Bool) (w:World),Calls Tryz.prog 98 #[u64v a,u64v b,u64v d,.bool up] w fun e w'=>e= .returned (u64v (timG a b d up))∧Mod (fun _=>False) w w'
theorem tim_G (a b:UInt64):timG a b 1 false=tim a b:=by
 unfold timG tim;have h1:(1:UInt64).toNat=1:=rfl;rw[h1];by_cases h:a.toNat*b.toNat<18446744073709551616
 ·have h2:a.toNat*b.toNat/18446744073709551616=0:=Nat.div_eq_of_lt h;rw[h2,if_neg (by omega),if_neg (by simp),if_pos h,Nat.div_one];exact UInt64.toNat_inj.1 (by rw[UInt64.toNat_ofNat',UInt64.toNat_mul])
 ·rw[if_neg h,if_pos ((Nat.le_div_iff_mul_le (by omega)).2 (by omega))]
theorem bgR0 (u p:UInt64) (b:Int):(bgR u p b)[0]? =some (u64v u):=rfl
theorem bgR1 (u p:UInt64) (b:Int):(bgR u p b)[1]? =some (u64v p):=rfl
theorem bgR0' (u p:UInt64) (b:Int) (h:0<(bgR u p b).size):(bgR u p b)[0]=u64v u:=rfl
theorem bgR1' (u p:UInt64) (b:Int) (h:1<(bgR u p b).size):(bgR u p b)[1]=u64v p:=rfl
attribute [local go_sem↓] ldBgd
attribute [local go_sem] bgR0 bgR1 bgR0' bgR1' bgR_size bgR_all
theorem rbase_c (hO:TimesOk) (n:Nat) (hn:n<1000000) (w:World):Calls Tryz.prog 96 #[.int .i64 (n:Int)] w fun e w'=>e= .returned (u64v (tim (UInt64.ofNat n) 5000))∧Mod (fun _=>False) w w':=by
 have hm:max 0 (n:Int)=(n:Int):=by omega
 have hw:IntKind.u64.wrap (n:Int)=((UInt64.ofNat n).toNat:Int):=by rw[Mul64.wrapN n (by omega),UInt64.toNat_ofNat',Nat.mod_eq_of_lt (by omega)]
 have HT:=Hi (fun w=>hO (UInt64.ofNat n) 5000 1 false w);rw[tim_G]at HT;obtain⟨z,hz⟩:∃z,UInt64.ofNat n=z:=⟨_,rfl⟩;rw[hz]at hw HT⊢;clear hz hO;go_enter Tryz.func96,Tryz.ntmps96;go_wp2_with fail;go_at_call 98;refine(HT.out _).mono ?_;rintro e w2 ⟨rfl,m2⟩;go_wp2_with fail;go_ret;exact⟨rfl,m2⟩
theorem roffer_c (hO:TimesOk) (u p:UInt64) (bad:Int) (w:World):Calls Tryz.prog 97 #[.agg (bgR u p bad)] w fun e w'=>e= .returned (u64v (timG p u 1000000 true))∧Mod (fun _=>False) w w':=by
 have HT:=Hi (fun w=>hO p u 1000000 true w);clear hO;go_enter Tryz.func97,Tryz.ntmps97;go_upto_region 0 with fail;refine ZP0 [3,0] ?_;refine Zb fun p1 hp1=> ?_;refine Zv ?_;refine TD.nil (fun w1 hr=> ?_);obtain⟨gp1,kp1⟩:=hr.b p1;have m1:=hr.mod;clear hr;go_wp2_with fail;go_at_call 98;refine(HT.out _).mono ?_;rintro e w2 ⟨rfl,m2⟩;go_wp2_with fail;go_ret;exact⟨rfl,m1.then0 m2⟩
theorem rsum2_c (p:Nat) (x y:UInt64) {U:TypeId} {fr:Nat×Nat} (w:World) (hk:w.heap[p]? =some (.cells #[u64v x,u64v y] U fr)):Calls Tryz.prog 95 #[.slice (some ⟨p,0,none⟩) 2 2] w fun e w'=>e= .returned (u64v (sat x y))∧Mod (fun _=>False) w w':=by
 have h:=rsum_c p [x,y] U fr w hk (by simp only[List.length_cons,List.length_nil];omega);rw[show [x,y].foldl sat 0=sat x y by show sat (sat 0 x) y=_;rw[sat_zero]]at h;exact h
theorem rfee_c (hO:TimesOk) (n:Nat) (hn:n<1000000) (u p:UInt64) (bad:Int) (w:World):Calls Tryz.prog 49 #[.int .i64 (n:Int),.agg (bgR u p bad)] w fun e w'=>e= .returned (u64v (feeF (UInt64.ofNat n) u p))∧Mod (fun _=>False) w w':=by
 have HB:=Hi (fun w=>rbase_c hO n hn w);have HF:=Hi (fun w=>roffer_c hO u p bad w);obtain⟨X,hX⟩:∃z,tim (UInt64.ofNat n) 5000=z:=⟨_,rfl⟩;obtain⟨Y,hY⟩:∃z,timG p u 1000000 true=z:=⟨_,rfl⟩;obtain⟨z,hz⟩:∃z,feeF (UInt64.ofNat n) u p=z:=⟨_,rfl⟩;have HZ:Hid (sat X Y=z):=Hi (by rw[←hX,←hY];exact hz);rw[hX]at HB;rw[hY]at HF;rw[hz];have hbs:=bs2 X Y;clear hz hX hY hO;go_enter Tryz.func49,Tryz.ntmps49;go_upto_region 0 with fail;refine ZP0 [3,0] ?_;refine Zb fun p3 hp3=> ?_;refine Zv ?_;refine TD.nil (fun w1 hr=> ?_);obtain⟨gp3,kp3⟩:=hr.b p3;have m1:=hr.mod;clear hr;go_upto_region 1 with fail;have Lkp3:=Ls kp3;refine wp_gpass (T0:=fun _=>False) (K:=fun _ _=>True) (κ:=fun i=>[0,6,0,6,3,6,0].getD i 0) (υ:=fun i=>[[],[],[],[],[],[9],[]].getD i []) [0,1,2,3,4,5,6] (by kernel_rfl) (by kernel_rfl) (Good.true).cl (trivial) (fun _ h=>h.elim) ?_;have gK:=Good.true;refine Zg ?_;(refine ZG (fun v=>v=u64v X) gK ?_ (s:=fun T wq kq ltq hSq ub=>by exact(HB.out wq).mono (fun e w' h=>⟨_,h.1,rfl,h.2⟩));rintro v6 hC;subst hC;try simp only[zL]);refine Zh ?_;(refine ZG (fun v=>v=u64v Y) gK ?_ (s:=fun T wq kq ltq hSq ub=>by exact(HF.out wq).mono (fun e w' h=>⟨_,h.1,rfl,h.2⟩));rintro v8 hC;subst hC;try simp only[zL]);(refine TG.bslice (by simp only[zK];rfl) rfl (by rfl) rfl rfl ?hx9 hbs (fun p9 hp9 _=> ?n9);(case hx9=>(simp only[List.map_toArray,List.map_cons,List.map_nil,zM];(try rfl)));try simp only[zL]);(refine ZG (fun v=>v=u64v z) gK ?_ (s:=fun T wq kq ltq hSq ub=>by have kp9:=ub.box (p:=p9) (by first|exact Bx.set_same _ _ _|(simp only[Bx.set_same];rfl)) (by first|decide|exact List.mem_singleton.2 rfl|simp);dsimp only[Value.cells]at kp9;have nUp9:=(ub p9 _ (by first|exact Bx.set_same _ _ _|(simp only[Bx.set_same];rfl)) (by first|decide|exact List.mem_singleton.2 rfl|simp)).1;exact(rsum2_c p9 X Y wq kp9).mono (fun e w' h=>⟨_,by rw[h.1,HZ.out],rfl,h.2⟩));rintro v10 hC;subst hC;try simp only[zL]);refine Zg ?_;refine TG.nil (fun w2 ⟨TR,hr⟩=> ?_);replace kp3:=hr.q kp3;obtain⟨gp9,nTp9,kp9⟩:=hr.b p9;clear gK;have m2:=m1.then0 hr.mod;clear hr;go_wp2_with fail;go_ret;exact⟨rfl,m2⟩
theorem rprio_c (hO:TimesOk) (n:Nat) (hn:n<1000000) (u p c:UInt64) (bad:Int) (w:World):Calls Tryz.prog 52 #[.int .i64 (n:Int),.agg (bgR u p bad),u64v c] w fun e w'=>e= .returned (u64v (priF (UInt64.ofNat n) u p c))∧Mod (fun _=>False) w w':=by
 have HB:=Hi (fun w=>rbase_c hO n hn w);have HF:=Hi (fun w=>roffer_c hO u p bad w);obtain⟨X0,hX0⟩:∃z,tim (UInt64.ofNat n) 5000=z:=⟨_,rfl⟩;obtain⟨X,hX⟩:∃z,X0/2=z:=⟨_,rfl⟩;obtain⟨Y,hY⟩:∃z,timG p u 1000000 true=z:=⟨_,rfl⟩;obtain⟨Z,hZ⟩:∃z,sat X Y=z:=⟨_,rfl⟩;obtain⟨S,hS⟩:∃z,sat c 1=z:=⟨_,rfl⟩;have HT:=Hi (fun w=>hO Z 1000000 S false w);obtain⟨R,hR⟩:∃z,timG Z 1000000 S false=z:=⟨_,rfl⟩;have hr0:priF (UInt64.ofNat n) u p c=R:=by unfold priF;rw[hX0,hX,hY,hZ,hS,hR]
 have HZ:=Hi hZ;have HS:=Hi hS;rw[hX0]at HB;rw[hY]at HF;rw[hR]at HT;rw[hr0];have hh1:IntKind.u64.wrap ((X0.toNat:Int)/2)=(X.toNat:Int):=by rw[←hX];exact(half_u X0).symm
 have hh2:IntKind.u64.wrap (X.toNat:Int)=(X.toNat:Int):=by have:=X.toNat_lt;rw[IntKind.wrap_u64];omega
 have hbs:=bs2 X Y;have hbs2:=bs2' c;clear hr0 hX hX0 hY hZ hS hR hO;go_enter Tryz.func52,Tryz.ntmps52;go_upto_region 0 with fail;refine ZP0 [3,0] ?_;refine Zb fun p4 hp4=> ?_;refine Zv ?_;refine TD.nil (fun w1 hr=> ?_);obtain⟨gp4,kp4⟩:=hr.b p4;have m1:=hr.mod;clear hr;go_upto_region 1 with fail;have Lkp4:=Ls kp4;refine wp_gpass (T0:=fun _=>False) (K:=fun _ _=>True) (κ:=fun i=>[0,6,0,0,6,3,6,0].getD i 0) (υ:=fun i=>[[],[],[],[],[],[],[13],[]].getD i []) [0,1,2,3,4,5,6,7] (by kernel_rfl) (by kernel_rfl) (Good.true).cl (trivial) (fun _ h=>h.elim) ?_;have gK:=Good.true;refine Zg ?_;(refine ZG (fun v=>v=u64v X0) gK ?_ (s:=fun T wq kq ltq hSq ub=>by exact(HB.out wq).mono (fun e w' h=>⟨_,h.1,rfl,h.2⟩));rintro v15 hC;subst hC;try simp only[zL]);refine Zg ?_;refine Zh ?_;(refine ZG (fun v=>v=u64v Y) gK ?_ (s:=fun T wq kq ltq hSq ub=>by exact(HF.out wq).mono (fun e w' h=>⟨_,h.1,rfl,h.2⟩));rintro v18 hC;subst hC;try simp only[zL]);(refine TG.bslice (by simp only[zK];rfl) rfl (by rfl) rfl rfl ?hx19 hbs (fun p13 hp13 _=> ?n19);(case hx19=>(simp only[List.map_toArray,List.map_cons,List.map_nil,zM];(try rfl)));try simp only[zL]);(refine ZG (fun v=>v=u64v Z) gK ?_ (s:=fun T wq kq ltq hSq ub=>by have kp13:=ub.box (p:=p13) (by first|exact Bx.set_same _ _ _|(simp only[Bx.set_same];rfl)) (by first|decide|exact List.mem_singleton.2 rfl|simp);dsimp only[Value.cells]at kp13;have nUp13:=(ub p13 _ (by first|exact Bx.set_same _ _ _|(simp only[Bx.set_same];rfl)) (by first|decide|exact List.mem_singleton.2 rfl|simp)).1;exact(rsum2_c p13 X Y wq kp13).mono (fun e w' h=>⟨_,by rw[h.1,HZ.out],rfl,h.2⟩));rintro v20 hC;subst hC;try simp only[zL]);refine Zg ?_;refine TG.nil (fun w2 ⟨TR,hr⟩=> ?_);replace kp4:=hr.q kp4;obtain⟨gp13,nTp13,kp13⟩:=hr.b p13;clear gK;have m2:=m1.then0 hr.mod;clear hr;go_upto_region 2 with fail;refine wp_gpass0 (T0:=fun _=>False) (K:=fun _ _=>True) (κ:=fun i=>[0,0,3,6,6,0].getD i 0) (υ:=fun i=>[[],[],[],[17],[],[]].getD i []) [0,1,2,3,4,5] (by kernel_rfl) (by kernel_rfl) (Good.true).cl (trivial) (fun _ h=>h.elim) ?_;have gK:=Good.true
 iterate 2 refine Zg ?_
 (refine TG.bslice (by simp only[zK];rfl) rfl (by rfl) rfl rfl ?hx24 hbs2 (fun p17 hp17 _=> ?n24);(case hx24=>(simp only[List.map_toArray,List.map_cons,List.map_nil,zM];(try rfl)));try simp only[zL]);(refine ZG (fun v=>v=u64v S) gK ?_ (s:=fun T wq kq ltq hSq ub=>by have kp17:=ub.box (p:=p17) (by first|exact Bx.set_same _ _ _|(simp only[Bx.set_same];rfl)) (by first|decide|exact List.mem_singleton.2 rfl|simp);dsimp only[Value.cells]at kp17;have nUp17:=(ub p17 _ (by first|exact Bx.set_same _ _ _|(simp only[Bx.set_same];rfl)) (by first|decide|exact List.mem_singleton.2 rfl|simp)).1;exact(rsum2_c p17 c 1 wq kp17).mono (fun e w' h=>⟨_,by rw[h.1,HS.out],rfl,h.2⟩));rintro v25 hC;subst hC;try simp only[zL]);(refine ZG (fun v=>v=u64v R) gK ?_ (s:=fun T wq kq ltq hSq ub=>by exact(HT.out wq).mono (fun e w' h=>⟨_,h.1,rfl,h.2⟩));rintro v26 hC;subst hC;try simp only[zL]);refine Zg ?_;refine TG.nil (fun w3 ⟨TR,hr⟩=> ?_);obtain⟨gp17,nTp17,kp17⟩:=hr.b p17;clear gK;have m3:=m2.then0 hr.mod;clear hr;go_wp2_with fail;go_ret;exact⟨rfl,m3⟩
end
theorem bit_stepP {d P r q bit:Nat} (hd:0<d) (hr:r=P % d) (hq:q=P/d):(2*P+bit)/d=2*q+(2*r+bit)/d∧(2*P+bit) % d=(2*r+bit) % d:=by
 have h:2*P+bit=(2*r+bit)+d*(2*q):=by
  have:=Nat.div_add_mod P d;rw[hr,hq];have h2:d*(2*(P/d))=2*(d*(P/d)):=by rw[Nat.mul_left_comm]
  omega
 rw[h];exact⟨by rw[Nat.add_mul_div_left _ _ hd];omega,by rw[Nat.add_mul_mod_self_left]⟩
theorem two_divP {N k:Nat} (h:k<128):N/2^(127-k)=2*(N/2^(128-k))+N/2^(127-k) % 2:=by
 have e:2^(128-k)=2^(127-k)*2:=by rw[←Nat.pow_succ];congr 1;omega
 rw[e,←Nat.div_div_eq_div_mul];omega
theorem small_div {x d:Nat} (h1:x<2*d):(d≤x→x/d=1∧x % d=x-d)∧(x<d→x/d=0∧x % d=x):=by
 constructor
 ·intro h;have e:x/d=1:=by
   have:=Nat.div_eq_of_lt_le (k:=1) (n:=d) (m:=x) (by omega) (by omega);exact this
  have:=Nat.div_add_mod x d;rw[e]at this;exact⟨e,by omega⟩
 ·intro h;exact⟨Nat.div_eq_of_lt h,Nat.mod_eq_of_lt h⟩
theorem times_round {N d k r q bit r2 r3 r4 B H:Nat} (hB:B=2*H) (hk:k<128) (hd:0<d) (hdB:d<B) (hr:r=N/2^(128-k) % d) (hq:q=N/2^(128-k)/d) (hb:bit=N/2^(127-k) % 2)
  (h2:r2=2*r % B) (h3:r3=(r2+bit) % B) (h4:r4=(r3+B-d) % B):
  ((H≤r∨d≤r3)→r4=N/2^(128-(k+1)) % d∧2*q+1=N/2^(128-(k+1))/d)∧(¬(H≤r∨d≤r3)→r3=N/2^(128-(k+1)) % d∧2*q=N/2^(128-(k+1))/d):=by
 have hrd:r<d:=by rw[hr];exact Nat.mod_lt _ hd
 have hbit:bit<2:=by rw[hb];exact Nat.mod_lt _ (by omega)
 obtain⟨s1,s2⟩:=bit_stepP (bit:=bit) hd hr hq;have e:=two_divP (N:=N) hk;rw[←hb]at e;rw[show 128-(k+1)=127-k by omega,e,s1,s2];obtain⟨f1,f2⟩:=small_div (x:=2*r+bit) (d:=d) (by omega);have hr2:r2=if H≤r then 2*r-B else 2*r:=by
  rw[h2];split
  ·rw[Nat.mod_eq_sub_mod (by omega),Nat.mod_eq_of_lt (by omega)]
  ·exact Nat.mod_eq_of_lt (by omega)
 have hr3:r3=r2+bit:=by
  rw[h3];refine Nat.mod_eq_of_lt ?_;rw[hr2];split<;>omega
 constructor
 ·intro h;have hge:d≤2*r+bit:=by
   rw[hr3,hr2]at h;split at h<;>omega
  obtain⟨g1,g2⟩:=f1 hge;rw[g1,g2];refine⟨?_,rfl⟩;rw[h4,hr3,hr2];split
  ·rw[Nat.mod_eq_of_lt (by omega)];omega
  ·rw[Nat.mod_eq_sub_mod (by omega),Nat.mod_eq_of_lt (by omega)];omega
 ·intro h;have hlt:2*r+bit<d:=by
   rw[hr3,hr2]at h;split at h<;>omega
  obtain⟨g1,g2⟩:=f2 hlt;rw[g1,g2];refine⟨?_,rfl⟩;rw[hr3,hr2,if_neg (by omega)]
theorem bit_and1 (x i:Nat) (hx:x<18446744073709551616):bits .and .u64 ((x:Int)/2^i) 1=if x.testBit i then 1 else 0:=by
 have h1:=u64_and_nat (x/2^i) 1 (Nat.lt_of_le_of_lt (Nat.div_le_self _ _) hx) (by omega);have e:((x/2^i:Nat):Int)=(x:Int)/2^i:=by simp
 rw[e]at h1;have h2:((1:Nat):Int)=1:=rfl;rw[h2]at h1;rw[h1,Nat.and_one_is_mod,Nat.testBit_eq_decide_div_mod_eq];have:=Nat.mod_lt (x/2^i) (show 0<2 by omega);by_cases h:x/2^i % 2=1
 ·simp[h]
 ·have:x/2^i % 2=0:=by omega
  simp[this]
def MulOk:Prop:=∀(a b:UInt64) (w:World),∃hi lo:UInt64,hi.toNat*18446744073709551616+lo.toNat=a.toNat*b.toNat∧Calls Tryz.prog 123 #[u64v a,u64v b] w fun e w'=>e= .returned (.tuple #[u64v hi,u64v lo])∧Mod (fun _=>False) w w'
theorem rtimes_c (hO:MulOk) (a b d:UInt64) (up:Bool) (w:World):Calls Tryz.prog 98 #[u64v a,u64v b,u64v d,.bool up] w fun e w'=>e= .returned (u64v (timG a b d up))∧Mod (fun _=>False) w w':=by
 obtain⟨dn,hdn⟩:∃n,d.toNat=n:=⟨_,rfl⟩;have hdb:dn<18446744073709551616:=by rw[←hdn];exact d.toNat_lt
 have HD:=Hi (Ai hdn hdb);rw[show u64v d= .int .u64 (dn:Int)from congrArg (fun n:Nat=>Value.int .u64 (n:Int)) hdn];have HO:=Hi hO;clear hO hdn hdb;go_enter Tryz.func98,Tryz.ntmps98;by_cases h0:dn=0
 ·have HE:Hid (timG a b d up=18446744073709551615):=Hi (by unfold timG;rw[HD.out.1,h0,if_pos (Nat.zero_le _)]);subst h0;go_wp2_with fail;go_ret;exact⟨by rw[HE.out];rfl,Mod.refl _ _⟩
 ·have hd0:((dn:Int)==0)=false:=by rw[beq_eq_false_iff_ne];omega
  have hd1:decide (dn=0)=false:=by simp[h0]
  have HD0:=Hi h0;clear h0;go_wp2_with fail;go_at_call 123;obtain⟨hi,lo,hN,hC⟩:=HO.out a b w;have HN:=Hi hN;refine hC.mono ?_;rintro e w2 ⟨rfl,m2⟩;clear hC hN;obtain⟨hn,hhn⟩:∃n,hi.toNat=n:=⟨_,rfl⟩;obtain⟨ln,hln⟩:∃n,lo.toNat=n:=⟨_,rfl⟩;have hhb:hn<18446744073709551616:=by rw[←hhn];exact hi.toNat_lt
  have hlb:ln<18446744073709551616:=by rw[←hln];exact lo.toNat_lt
  rw[show u64v hi= .int .u64 (hn:Int)from congrArg (fun n:Nat=>Value.int .u64 (n:Int)) hhn,show u64v lo= .int .u64 (ln:Int)from congrArg (fun n:Nat=>Value.int .u64 (n:Int)) hln];have HH:=Hi (Ai hhn (Ai hln (Ai hhb hlb)));clear hhn hln hhb hlb;go_wp2_with fail;go_loopw [11,12,13] (fun s11 s12 s13 ws=>∃(k r q:Nat) (t:Int),k≤128∧s13= .int .i64 t∧s11= .int .u64 (r:Int)∧s12= .int .u64 (q:Int)∧t=127-(k:Int)∧Hid (r=(hn*18446744073709551616+ln)/2^(128-k) % dn∧q=(hn*18446744073709551616+ln)/2^(128-k)/dn∧q<18446744073709551616)∧Mod (fun _=>False) w2 ws) (fun _ _ s13 _=>(intOf s13+1).toNat)
  case atStart=>
   refine⟨0,0,0,127,by omega,rfl,rfl,rfl,by omega,Hi ?_,Mod.refl _ _⟩;have:(hn*18446744073709551616+ln)/2^(128-0)=0:=Nat.div_eq_of_lt (by
                                             have:=HH.out;have:(2:Nat)^(128-0)=340282366920938463463374607431768211456:=by decide
                                             omega)
   rw[this];simp
  case round=>
   obtain⟨k,r,q,t,hk,rfl,rfl,rfl,ht,HV,hm⟩:=hrel;have HM2:=Hi m2;by_cases hlt:k<128
   ·obtain⟨j,hj⟩:∃j:Nat,t=(j:Int):=⟨127-k,by omega⟩;subst hj;have hj3:j=127-k:=by omega
    have HJ:=Hi hj3;clear ht hj3;have HMAX:Hid (9223372036854775808≤q→timG a b d up=18446744073709551615):=Hi (fun hq=>by
     unfold timG;rw[if_pos];rw[HD.out.1,←HN.out,HH.out.1,HH.out.2.1];have h1:=HV.out.2.1;have h2:9223372036854775808≤(hn*18446744073709551616+ln)/(2^(128-k)*dn):=by rw[←Nat.div_div_eq_div_mul,←h1];exact hq
     have h3:=(Nat.le_div_iff_mul_le (Nat.mul_pos (Nat.pos_of_ne_zero (by simp)) (by have:=HD0.out;omega))).1 h2;rw[Nat.le_div_iff_mul_le (by omega)];have h4:2≤2^(128-k):=by
      have:=Nat.pow_le_pow_right (n:=2) (by omega) (show 1≤128-k by omega);omega
     have h5:9223372036854775808*(2*dn)≤9223372036854775808*(2^(128-k)*dn):=Nat.mul_le_mul_left _ (Nat.mul_le_mul_right _ h4);omega)
    by_cases h63:63<j
    ·have e1:decide ((j:Int)>63)=true:=Dt (by omega);have hj127:j≤127:=by have:=HJ.out;omega
     have hwj:IntKind.u64.wrap (j:Int)=(j:Int):=by rw[IntKind.wrap_u64];omega
     have hmin:min j 64=64:=by omega
     have hz:(ln:Int)/18446744073709551616=0:=by have:=HH.out;omega
     have hb0:bits .and .u64 0 1=0:=by decide
     obtain⟨j2,hj2⟩:∃m:Nat,j-64=m:=⟨_,rfl⟩;have hjs:IntKind.i64.wrap ((j:Int)-64)=(j2:Int):=by rw[IntKind.wrap_i64];omega
     have hwj2:IntKind.u64.wrap (j2:Int)=(j2:Int):=by rw[IntKind.wrap_u64];omega
     have hmin2:min j2 64=j2:=by omega
     have hbit:=bit_and1 hn j2 (by have:=HH.out;omega);obtain⟨bit,hbb⟩:∃b:Nat,(if hn.testBit j2 then(1:Int)else 0)=(b:Int):=by
      cases hn.testBit j2 with
      |true=>exact⟨1,rfl⟩
      |false=>exact⟨0,rfl⟩
     rw[hbb]at hbit;have HBIT:Hid (bit=(hn*18446744073709551616+ln)/2^(127-k) % 2):=Hi (by
      have e:(hn*18446744073709551616+ln)/2^(127-k)=hn/2^j2:=by
       rw[show 127-k=64+j2 by have:=HJ.out;omega,Nat.pow_add,←Nat.div_div_eq_div_mul,show(2:Nat)^64=18446744073709551616 from by decide];congr 1;have:=HH.out;omega
      rw[e];rw[Nat.testBit_eq_decide_div_mod_eq]at hbb;have:=Nat.mod_lt (hn/2^j2) (show 0<2 by omega);by_cases h1:hn/2^j2 % 2=1
      ·rw[h1]at hbb⊢;simp at hbb;omega
      ·have h0:hn/2^j2 % 2=0:=by omega
       rw[h0]at hbb⊢;simp at hbb;omega)
     clear hbb hj2;obtain⟨r2,hr2,hr2'⟩:∃z:Nat,IntKind.u64.wrap (2*(r:Int))=(z:Int)∧z=2*r % 18446744073709551616:=⟨(2*r) % 18446744073709551616,by rw[IntKind.wrap_u64];omega,rfl⟩;obtain⟨r3,hr3,hr3'⟩:∃z:Nat,IntKind.u64.wrap ((r2:Int)+(bit:Int))=(z:Int)∧z=(r2+bit) % 18446744073709551616:=⟨(r2+bit) % 18446744073709551616,by rw[IntKind.wrap_u64];omega,rfl⟩;obtain⟨r4,hr4,hr4'⟩:∃z:Nat,IntKind.u64.wrap ((r3:Int)-(dn:Int))=(z:Int)∧z=(r3+18446744073709551616-dn) % 18446744073709551616:=⟨(r3+18446744073709551616-dn) % 18446744073709551616,by have:=HD.out.2;rw[IntKind.wrap_u64];omega,rfl⟩;have HLAW:=Hi (times_round (B:=18446744073709551616) (H:=9223372036854775808) (by decide) hlt (by have:=HD0.out;omega) HD.out.2 HV.out.1 HV.out.2.1 HBIT.out hr2' hr3' hr4');have hrb:r<18446744073709551616:=by have:=HV.out.1;have:=HD.out.2;have:=Nat.mod_lt ((hn*18446744073709551616+ln)/2^(128-k)) (show 0<dn by have:=HD0.out;omega);omega
     have hqb:=HV.out.2.2;clear hr2' hr3' hr4';by_cases htop:9223372036854775808≤r
     ·have e2:decide ((r:Int)≥9223372036854775808)=true:=Dt (by omega);have HT:=Hi htop;clear htop;by_cases hq63:9223372036854775808≤q
      ·have e4:decide ((q:Int)≥9223372036854775808)=true:=Dt (by omega);have HX:=Hi (HMAX.out hq63);clear hq63;go_wp2_with fail;go_ret;exact⟨by rw[HX.out];rfl,HM2.out.trans hm⟩
      ·have e4:decide ((q:Int)≥9223372036854775808)=false:=Df (by omega);have hw5:IntKind.u64.wrap (2*(q:Int))=((2*q:Nat):Int):=by rw[IntKind.wrap_u64];omega
       obtain⟨q2,hq2⟩:∃z,2*q=z:=⟨_,rfl⟩;rw[hq2]at hw5;have hw6:IntKind.u64.wrap ((q2:Int)+1)=((q2+1:Nat):Int):=by rw[IntKind.wrap_u64];omega
       have HQ2:=Hi hq2;have HNEW:=Hi (HLAW.out);have HLT:Hid (q2+1<18446744073709551616):=Hi (by omega);clear hq63 hq2;go_wp2_with fail;go_roundw
       case rel=>exact⟨k+1,r4,q2+1,(j:Int)-1,by omega,by go_num,rfl,by first|rfl|go_num,by have:=HJ.out;omega,Hi (by have h1:=HNEW.out;rw[HQ2.out]at h1;have h2:=HLT.out;exact⟨(h1.1 (.inl HT.out)).1,(h1.1 (.inl HT.out)).2,by omega⟩),hm⟩
       case measure=>first|(simp[intOf];done)|(simp[intOf];omega)
     ·have e2:decide ((r:Int)≥9223372036854775808)=false:=Df (by omega);by_cases hfit:dn≤r3
      ·have e3:decide ((r3:Int)≥(dn:Int))=true:=Dt (by omega);have e3':decide (dn≤r3)=true:=Dt hfit;have HT:=Hi hfit;clear htop hfit;by_cases hq63:9223372036854775808≤q
       ·have e4:decide ((q:Int)≥9223372036854775808)=true:=Dt (by omega);have HX:=Hi (HMAX.out hq63);clear hq63;go_wp2_with fail;go_ret;exact⟨by rw[HX.out];rfl,HM2.out.trans hm⟩
       ·have e4:decide ((q:Int)≥9223372036854775808)=false:=Df (by omega);have hw5:IntKind.u64.wrap (2*(q:Int))=((2*q:Nat):Int):=by rw[IntKind.wrap_u64];omega
        obtain⟨q2,hq2⟩:∃z,2*q=z:=⟨_,rfl⟩;rw[hq2]at hw5;have hw6:IntKind.u64.wrap ((q2:Int)+1)=((q2+1:Nat):Int):=by rw[IntKind.wrap_u64];omega
        have HQ2:=Hi hq2;have HNEW:=Hi (HLAW.out);have HLT:Hid (q2+1<18446744073709551616):=Hi (by omega);clear hq63 hq2;go_wp2_with fail;go_roundw
        case rel=>exact⟨k+1,r4,q2+1,(j:Int)-1,by omega,by go_num,rfl,by first|rfl|go_num,by have:=HJ.out;omega,Hi (by have h1:=HNEW.out;rw[HQ2.out]at h1;have h2:=HLT.out;exact⟨(h1.1 (.inr HT.out)).1,(h1.1 (.inr HT.out)).2,by omega⟩),hm⟩
        case measure=>first|(simp[intOf];done)|(simp[intOf];omega)
      ·have e3:decide ((r3:Int)≥(dn:Int))=false:=Df (by omega);have e3':decide (dn≤r3)=false:=Df hfit;have HT:Hid (¬(9223372036854775808≤r∨dn≤r3)):=Hi (fun h=>h.elim htop hfit);clear htop hfit;by_cases hq63:9223372036854775808≤q
       ·have e4:decide ((q:Int)≥9223372036854775808)=true:=Dt (by omega);have HX:=Hi (HMAX.out hq63);clear hq63;go_wp2_with fail;go_ret;exact⟨by rw[HX.out];rfl,HM2.out.trans hm⟩
       ·have e4:decide ((q:Int)≥9223372036854775808)=false:=Df (by omega);have hw5:IntKind.u64.wrap (2*(q:Int))=((2*q:Nat):Int):=by rw[IntKind.wrap_u64];omega
        obtain⟨q2,hq2⟩:∃z,2*q=z:=⟨_,rfl⟩;rw[hq2]at hw5;have hw6:IntKind.u64.wrap ((q2:Int)+1)=((q2+1:Nat):Int):=by rw[IntKind.wrap_u64];omega
        have HQ2:=Hi hq2;have HNEW:=Hi (HLAW.out);have HLT:Hid (q2+1<18446744073709551616):=Hi (by omega);clear hq63 hq2;go_wp2_with fail;go_roundw
        case rel=>exact⟨k+1,r3,q2,(j:Int)-1,by omega,by go_num,rfl,by first|rfl|go_num,by have:=HJ.out;omega,Hi (by have h1:=HNEW.out;rw[HQ2.out]at h1;have h2:=HLT.out;exact⟨(h1.2 HT.out).1,(h1.2 HT.out).2,by omega⟩),hm⟩
        case measure=>first|(simp[intOf];done)|(simp[intOf];omega)
    ·have e1:decide ((j:Int)>63)=false:=Df (by omega);have hj127:j≤127:=by omega
     have hwj:IntKind.u64.wrap (j:Int)=(j:Int):=by rw[IntKind.wrap_u64];omega
     have hmin:min j 64=j:=by omega
     have hbit:=bit_and1 ln j (by have:=HH.out;omega);obtain⟨bit,hbb⟩:∃b:Nat,(if ln.testBit j then(1:Int)else 0)=(b:Int):=by
      cases ln.testBit j with
      |true=>exact⟨1,rfl⟩
      |false=>exact⟨0,rfl⟩
     rw[hbb]at hbit;have HBIT:Hid (bit=(hn*18446744073709551616+ln)/2^(127-k) % 2):=Hi (by
      have e:(hn*18446744073709551616+ln)/2^(127-k) % 2=ln/2^j % 2:=by
       rw[show 127-k=j by have:=HJ.out;omega];have e2:hn*18446744073709551616=2^j*(2*(2^(63-j)*hn)):=by
        have e3:(18446744073709551616:Nat)=2^j*(2*2^(63-j)):=by
         rw[←Nat.pow_succ',←Nat.pow_add,show j+(63-j+1)=64 by omega]
        rw[e3];simp only[Nat.mul_assoc,Nat.mul_comm,Nat.mul_left_comm]
       rw[e2,Nat.mul_add_div (Nat.pos_of_ne_zero (by simp))];omega
      rw[e];rw[Nat.testBit_eq_decide_div_mod_eq]at hbb;have:=Nat.mod_lt (ln/2^j) (show 0<2 by omega);by_cases h1:ln/2^j % 2=1
      ·rw[h1]at hbb⊢;simp at hbb;omega
      ·have h0:ln/2^j % 2=0:=by omega
       rw[h0]at hbb⊢;simp at hbb;omega)
     clear hbb h63;obtain⟨r2,hr2,hr2'⟩:∃z:Nat,IntKind.u64.wrap (2*(r:Int))=(z:Int)∧z=2*r % 18446744073709551616:=⟨(2*r) % 18446744073709551616,by rw[IntKind.wrap_u64];omega,rfl⟩;obtain⟨r3,hr3,hr3'⟩:∃z:Nat,IntKind.u64.wrap ((r2:Int)+(bit:Int))=(z:Int)∧z=(r2+bit) % 18446744073709551616:=⟨(r2+bit) % 18446744073709551616,by rw[IntKind.wrap_u64];omega,rfl⟩;obtain⟨r4,hr4,hr4'⟩:∃z:Nat,IntKind.u64.wrap ((r3:Int)-(dn:Int))=(z:Int)∧z=(r3+18446744073709551616-dn) % 18446744073709551616:=⟨(r3+18446744073709551616-dn) % 18446744073709551616,by have:=HD.out.2;rw[IntKind.wrap_u64];omega,rfl⟩;have HLAW:=Hi (times_round (B:=18446744073709551616) (H:=9223372036854775808) (by decide) hlt (by have:=HD0.out;omega) HD.out.2 HV.out.1 HV.out.2.1 HBIT.out hr2' hr3' hr4');have hrb:r<18446744073709551616:=by have:=HV.out.1;have:=HD.out.2;have:=Nat.mod_lt ((hn*18446744073709551616+ln)/2^(128-k)) (show 0<dn by have:=HD0.out;omega);omega
     have hqb:=HV.out.2.2;clear hr2' hr3' hr4';by_cases htop:9223372036854775808≤r
     ·have e2:decide ((r:Int)≥9223372036854775808)=true:=Dt (by omega);have HT:=Hi htop;clear htop;by_cases hq63:9223372036854775808≤q
      ·have e4:decide ((q:Int)≥9223372036854775808)=true:=Dt (by omega);have HX:=Hi (HMAX.out hq63);clear hq63;go_wp2_with fail;go_ret;exact⟨by rw[HX.out];rfl,HM2.out.trans hm⟩
      ·have e4:decide ((q:Int)≥9223372036854775808)=false:=Df (by omega);have hw5:IntKind.u64.wrap (2*(q:Int))=((2*q:Nat):Int):=by rw[IntKind.wrap_u64];omega
       obtain⟨q2,hq2⟩:∃z,2*q=z:=⟨_,rfl⟩;rw[hq2]at hw5;have hw6:IntKind.u64.wrap ((q2:Int)+1)=((q2+1:Nat):Int):=by rw[IntKind.wrap_u64];omega
       have HQ2:=Hi hq2;have HNEW:=Hi (HLAW.out);have HLT:Hid (q2+1<18446744073709551616):=Hi (by omega);clear hq63 hq2;go_wp2_with fail;go_roundw
       case rel=>exact⟨k+1,r4,q2+1,(j:Int)-1,by omega,by go_num,rfl,by first|rfl|go_num,by have:=HJ.out;omega,Hi (by have h1:=HNEW.out;rw[HQ2.out]at h1;have h2:=HLT.out;exact⟨(h1.1 (.inl HT.out)).1,(h1.1 (.inl HT.out)).2,by omega⟩),hm⟩
       case measure=>first|(simp[intOf];done)|(simp[intOf];omega)
     ·have e2:decide ((r:Int)≥9223372036854775808)=false:=Df (by omega);by_cases hfit:dn≤r3
      ·have e3:decide ((r3:Int)≥(dn:Int))=true:=Dt (by omega);have e3':decide (dn≤r3)=true:=Dt hfit;have HT:=Hi hfit;clear htop hfit;by_cases hq63:9223372036854775808≤q
       ·have e4:decide ((q:Int)≥9223372036854775808)=true:=Dt (by omega);have HX:=Hi (HMAX.out hq63);clear hq63;go_wp2_with fail;go_ret;exact⟨by rw[HX.out];rfl,HM2.out.trans hm⟩
       ·have e4:decide ((q:Int)≥9223372036854775808)=false:=Df (by omega);have hw5:IntKind.u64.wrap (2*(q:Int))=((2*q:Nat):Int):=by rw[IntKind.wrap_u64];omega
        obtain⟨q2,hq2⟩:∃z,2*q=z:=⟨_,rfl⟩;rw[hq2]at hw5;have hw6:IntKind.u64.wrap ((q2:Int)+1)=((q2+1:Nat):Int):=by rw[IntKind.wrap_u64];omega
        have HQ2:=Hi hq2;have HNEW:=Hi (HLAW.out);have HLT:Hid (q2+1<18446744073709551616):=Hi (by omega);clear hq63 hq2;go_wp2_with fail;go_roundw
        case rel=>exact⟨k+1,r4,q2+1,(j:Int)-1,by omega,by go_num,rfl,by first|rfl|go_num,by have:=HJ.out;omega,Hi (by have h1:=HNEW.out;rw[HQ2.out]at h1;have h2:=HLT.out;exact⟨(h1.1 (.inr HT.out)).1,(h1.1 (.inr HT.out)).2,by omega⟩),hm⟩
        case measure=>first|(simp[intOf];done)|(simp[intOf];omega)
      ·have e3:decide ((r3:Int)≥(dn:Int))=false:=Df (by omega);have e3':decide (dn≤r3)=false:=Df hfit;have HT:Hid (¬(9223372036854775808≤r∨dn≤r3)):=Hi (fun h=>h.elim htop hfit);clear htop hfit;by_cases hq63:9223372036854775808≤q
       ·have e4:decide ((q:Int)≥9223372036854775808)=true:=Dt (by omega);have HX:=Hi (HMAX.out hq63);clear hq63;go_wp2_with fail;go_ret;exact⟨by rw[HX.out];rfl,HM2.out.trans hm⟩
       ·have e4:decide ((q:Int)≥9223372036854775808)=false:=Df (by omega);have hw5:IntKind.u64.wrap (2*(q:Int))=((2*q:Nat):Int):=by rw[IntKind.wrap_u64];omega
        obtain⟨q2,hq2⟩:∃z,2*q=z:=⟨_,rfl⟩;rw[hq2]at hw5;have hw6:IntKind.u64.wrap ((q2:Int)+1)=((q2+1:Nat):Int):=by rw[IntKind.wrap_u64];omega
        have HQ2:=Hi hq2;have HNEW:=Hi (HLAW.out);have HLT:Hid (q2+1<18446744073709551616):=Hi (by omega);clear hq63 hq2;go_wp2_with fail;go_roundw
        case rel=>exact⟨k+1,r3,q2,(j:Int)-1,by omega,by go_num,rfl,by first|rfl|go_num,by have:=HJ.out;omega,Hi (by have h1:=HNEW.out;rw[HQ2.out]at h1;have h2:=HLT.out;exact⟨(h1.2 HT.out).1,(h1.2 HT.out).2,by omega⟩),hm⟩
        case measure=>first|(simp[intOf];done)|(simp[intOf];omega)
   ·obtain rfl:k=128:=by omega
    have e0:decide (t≥0)=false:=Df (by omega);have e00:decide (0≤t)=false:=Df (by omega);obtain⟨v1,v2,v3⟩:=HV.out;rw[show 128-128=0 from rfl,Nat.pow_zero,Nat.div_one]at v1 v2;have HNN:Hid (a.toNat*b.toNat=hn*18446744073709551616+ln):=Hi (by rw[←HN.out,HH.out.1,HH.out.2.1]);have HG:Hid (timG a b d up=if up=true∧0<r then sat (UInt64.ofNat q) 1 else UInt64.ofNat q):=Hi (by
     unfold timG;rw[HD.out.1,HNN.out,if_neg,←v1,←v2];intro h;have h2:=(Nat.le_div_iff_mul_le (by omega)).1 h;have h3:18446744073709551616≤(hn*18446744073709551616+ln)/dn:=(Nat.le_div_iff_mul_le (by have:=HD0.out;omega)).2 (by omega);omega)
    have HV3:=Hi v3;clear v1 v2 ht;have HQN:Hid ((UInt64.ofNat q).toNat=q):=Hi (by rw[UInt64.toNat_ofNat'];exact Nat.mod_eq_of_lt v3);have HQV:Hid (u64v (UInt64.ofNat q)= .int .u64 (q:Int)):=Hi (congrArg (fun n:Nat=>Value.int .u64 (n:Int)) HQN.out);have HM:=Hi (HM2.out.trans hm);clear hm;cases up with
    |false=>
     have HE:Hid (timG a b d false=UInt64.ofNat q):=Hi (by rw[HG.out,if_neg (by simp)]);go_wp2_with fail;go_ret;exact⟨by rw[HE.out,HQV.out];rfl,HM.out⟩
    |true=>
     by_cases hr0:0<r
     ·have f1:decide ((r:Int)>0)=true:=Dt (by omega);have f1':decide (0<r)=true:=Dt hr0;have HE:Hid (timG a b d true=sat (UInt64.ofNat q) 1):=Hi (by rw[HG.out,if_pos ⟨rfl,hr0⟩]);clear hr0;by_cases hqm:q<18446744073709551615
      ·have f2:decide ((q:Int)<18446744073709551615)=true:=Dt (by omega);have hw7:IntKind.u64.wrap ((q:Int)+1)=((q+1:Nat):Int):=by rw[IntKind.wrap_u64];omega
       have HE2:Hid (u64v (sat (UInt64.ofNat q) 1)= .int .u64 ((q+1:Nat):Int)):=Hi (by
        have h1:(1:UInt64).toNat=1:=rfl;rw[sat_in (by rw[HQN.out,h1];omega)];refine congrArg (fun n:Nat=>Value.int .u64 (n:Int)) ?_;rw[UInt64.toNat_add,HQN.out,h1];exact Nat.mod_eq_of_lt (by omega))
       clear hqm;go_wp2_with fail;go_ret;exact⟨by rw[HE.out,HE2.out];rfl,HM.out⟩
      ·have f2:decide ((q:Int)<18446744073709551615)=false:=Df (by omega);have HE2:Hid (u64v (sat (UInt64.ofNat q) 1)= .int .u64 (q:Int)):=Hi (by
        have h1:(1:UInt64).toNat=1:=rfl;rw[sat_over (by rw[HQN.out,h1];omega)];have h3:=HV3.out;rw[show(18446744073709551615:Int)=(q:Int)by omega])
       clear hqm;go_wp2_with fail;go_ret;exact⟨by rw[HE.out,HE2.out];rfl,HM.out⟩
     ·have f1:decide ((r:Int)>0)=false:=Df (by omega);have f1':decide (0<r)=false:=Df hr0;have HE:Hid (timG a b d true=UInt64.ofNat q):=Hi (by rw[HG.out,if_neg (fun h=>hr0 h.2)]);clear hr0;go_wp2_with fail;go_ret;exact⟨by rw[HE.out,HQV.out];rfl,HM.out⟩
theorem times_ok (h:MulOk):TimesOk:=fun a b d up w=>rtimes_c h a b d up w
theorem dig_at {A:Nat} {ad:Option Addr} {w:World} (h:SlAt qc 1 w ad (digN A 4)):∃g o C U fr,ad=some ⟨g,o,none⟩∧w.heap[g]? =some (.cells C U fr)∧∀j,j<4→C[o+j]? =some (.int .u64 ((A/65536^j % 65536:Nat):Int)):=by
 rcases h with h|⟨g,o,C,U,fr,ha,hg,hc⟩
 ·have:=congrArg List.length h;rw[digN_len]at this;cases this
 ·refine⟨g,o,C,U,fr,ha,hg,fun j hj=> ?_⟩;have hx:(digN A 4)[j]? =some (UInt64.ofNat (A/65536^j % 65536)):=by
   unfold digN;rw[List.getElem?_map,List.getElem?_range hj];rfl
  have h1:=(hc j _ hx).1;have h2:=cellC h1 (j:=0) (v:=u64v (UInt64.ofNat (A/65536^j % 65536))) rfl;rw[Nat.mul_one,Nat.add_zero]at h2;rw[h2];refine congrArg (fun n:Nat=>some (Value.int .u64 (n:Int))) ?_;rw[UInt64.toNat_ofNat'];exact Nat.mod_eq_of_lt (by omega)
theorem mk8 (w:World):(Instr.makeSlice 158 (.int .i64 8) (.int .i64 8)).run Tryz.prog w= .ok (.slice (some ⟨w.heap.size,0,none⟩) 8 8) (w.alloc (.cells (Array.replicate 8 (.int .u64 0)) 37)):=by kernel_rfl
def OutC (C:Array Value) (O:Nat→Nat):Prop:=C.size=8∧∀j,j<8→C[j]? =some (.int .u64 (O j:Int))
theorem OutC.zero:OutC (Array.replicate 8 (.int .u64 0)) (fun _=>0):=⟨by simp,fun j hj=>by rw[Array.getElem?_replicate,if_pos hj];rfl⟩
theorem OutC.set {C:Array Value} {O:Nat→Nat} (h:OutC C O) {m v:Nat} (hm:m<8):OutC (C.setIfInBounds m (.int .u64 (v:Int))) (updN O m v):=by
 refine⟨by rw[Array.size_setIfInBounds];exact h.1,fun j hj=> ?_⟩;rw[Array.getElem?_setIfInBounds];by_cases e:m=j
 ·subst e;rw[if_pos rfl,if_pos (by rw[h.1];exact hm),updN_same]
 ·rw[if_neg e,updN_ne O v (fun h=>e h.symm)];exact h.2 j hj
theorem rproduct_c (a b:UInt64) (w:World):Calls Tryz.prog 135 #[u64v a,u64v b] w fun e w'=>∃p O C,e= .returned (.slice (some ⟨p,0,none⟩) 8 8)∧w'.heap[p]? =some (.cells C 37 (0,0))∧OutC C O∧(∀j,O j<65536)∧horN (fun j=>O (4+j)) 4*18446744073709551616+horN O 4=a.toNat*b.toNat∧Mod (fun _=>False) w w':=by
 go_enter Tryz.func135,Tryz.ntmps135;go_wp2_with fail;go_at_call 144;refine(rdigits_c a w).mono ?_;rintro e w2 ⟨v5,rfl,hO5,m2⟩;obtain⟨a5,c5,rfl,hs5,-⟩:=hO5.at qcT;rw[digN_len];obtain⟨g5,o5,C5,U5,fr5,rfl,kx,hx⟩:=dig_at hs5;clear hO5 hs5;have HM2:=Hi m2;have HX:=Hi hx;clear m2 hx;go_wp2_with fail;go_at_call 144;refine(rdigits_c b w2).mono ?_;rintro e w3 ⟨v6,rfl,hO6,m3⟩;obtain⟨a6,c6,rfl,hs6,-⟩:=hO6.at qcT;rw[digN_len];obtain⟨g6,o6,C6,U6,fr6,rfl,ky,hy⟩:=dig_at hs6;clear hO6 hs6;replace kx:=m3.at0 kx;have HM3:=Hi (HM2.out.trans m3);have HY:=Hi hy;clear m3 hy HM2;obtain⟨A,hA⟩:∃n,a.toNat=n:=⟨_,rfl⟩;obtain⟨B,hB⟩:∃n,b.toNat=n:=⟨_,rfl⟩;rw[hA]at HX;rw[hB]at HY;have HAB:Hid (A<18446744073709551616∧B<18446744073709551616):=Hi ⟨by rw[←hA];exact a.toNat_lt,by rw[←hB];exact b.toNat_lt⟩;have HAE:=Hi (Ai hA hB);clear hA hB;have hmk:=mk8;go_upto_region 3 with fail;have Lkx:=Ls kx;have Lky:=Ls ky;refine ZP0 [3,0] ?_;(refine TD.mks (by simp only[zK];rfl) rfl (by rfl) rfl rfl ?hx1 ?hz1 hmk (fun p16 hp16=> ?n1);(case hx1=>simp only[zM];try rfl);(case hz1=>simp only[zM];try rfl);try simp only[zL]);refine Zv ?_;refine TD.nil (fun w4 hr=> ?_);replace kx:=hr.q kx;replace ky:=hr.q ky;obtain⟨gp16,kp16⟩:=hr.b p16;have HG16:=Hi gp16;have HM4:=Hi (HM3.out.then0 hr.mod);have hp5:p16≠g5:=fun e=>by have:=HG16.out;omega
 have hp6:p16≠g6:=fun e=>by have:=HG16.out;omega
 have HNE:=Hi (Ai hp5 hp6);clear hr hmk gp16 hp5 hp6 Lkx Lky;obtain⟨C0,hC0⟩:∃C,Array.replicate 8 (Value.int .u64 0)=C:=⟨_,rfl⟩;have HC0:Hid (OutC C0 (fun _=>0)):=Hi (by rw[←hC0];exact OutC.zero);replace kp16:w4.heap[p16]? =some (.cells C0 37 (0,0)):=by rw[←hC0];exact kp16
 clear hC0;go_wp2_with fail;go_loopw [8] (fun s8 ws=>∃(i:Nat) (O:Nat→Nat) (C:Array Value),i≤4∧s8= .int .i64 (i:Int)∧Hid (MulI (fun j=>A/65536^j % 65536) (fun j=>B/65536^j % 65536) O i 0 0∧OutC C O)∧Hid (Mod (fun _=>False) w ws)∧ws.heap[p16]? =some (.cells C 37 (0,0))∧ws.heap[g5]? =some (.cells C5 U5 fr5)∧ws.heap[g6]? =some (.cells C6 U6 fr6)) (fun s8 _=>4-(intOf s8).toNat)
 case atStart=>exact⟨0,_,C0,by omega,rfl,Hi ⟨MulI.zero _ _,HC0.out⟩,HM4,kp16,kx,ky⟩
 case round=>
  clear kp16 kx ky HC0;obtain⟨i,O,C,hi,rfl,HI,HM,kp16,kx,ky⟩:=hrel;by_cases hlt:i<4
  ·have hd:=Dt hlt;have hd2:decide ((i:Int)<4)=true:=Dt (by omega);obtain⟨wa,rfl⟩:∃wa:World,wa=wr:=⟨_,rfl⟩;go_wp2_with fail;go_loopw [9,10] (fun s9 s10 ws=>∃(k c:Nat) (O:Nat→Nat) (C:Array Value),k≤4∧s10= .int .i64 (k:Int)∧s9= .int .u64 (c:Int)∧Hid (MulI (fun j=>A/65536^j % 65536) (fun j=>B/65536^j % 65536) O i k c∧OutC C O)∧Hid (Mod (fun _=>False) w ws)∧ws.heap[p16]? =some (.cells C 37 (0,0))∧ws.heap[g5]? =some (.cells C5 U5 fr5)∧ws.heap[g6]? =some (.cells C6 U6 fr6)) (fun _ s10 _=>4-(intOf s10).toNat)
   case atStart=>exact⟨0,0,O,C,by omega,rfl,rfl,HI,HM,kp16,kx,ky⟩
   case round=>
    clear kp16 kx ky HI HM;obtain⟨k,c,O,C,hk,rfl,rfl,HI,HM,kp16,kx,ky⟩:=hrel;by_cases hlk:k<4
    ·have hdk:=Dt hlk;have hdk2:decide ((k:Int)<4)=true:=Dt (by omega);obtain⟨q,hq⟩:∃q:Nat,i+k=q:=⟨_,rfl⟩;have hq8:q<8:=by omega
     have hq8i:(q:Int)<8:=by omega
     obtain⟨x,hx⟩:∃x,A/65536^i % 65536=x:=⟨_,rfl⟩;obtain⟨y,hy⟩:∃y,B/65536^k % 65536=y:=⟨_,rfl⟩;obtain⟨z,hz⟩:∃z,O q=z:=⟨_,rfl⟩;obtain⟨xy,hxy⟩:∃xy,x*y=xy:=⟨_,rfl⟩;obtain⟨n,hn⟩:∃n,z+xy+c=n:=⟨_,rfl⟩;obtain⟨h1,h2,h3⟩:=HI.out.1.next (n:=n) (by show A/65536^i % 65536<65536;omega) (by show B/65536^k % 65536<65536;omega) hlt hlk (by show n=O (i+k)+A/65536^i % 65536*(B/65536^k % 65536)+c;rw[hq,hx,hy,hz,hxy,hn]);rw[hq]at h1;have HI2:=Hi (Ai h1 (HI.out.2.set (v:=n % 65536) hq8));have h3':xy<4294836226:=by rw[←hxy,←hx,←hy];exact h3
     have hcx:C5[o5+i]? =some (.int .u64 (x:Int)):=by rw[←hx];exact HX.out i hlt
     have hcy:C6[o6+k]? =some (.int .u64 (y:Int)):=by rw[←hy];exact HY.out k hlk
     have hcz:C[q]? =some (.int .u64 (z:Int)):=by rw[←hz];exact HI.out.2.2 q hq8
     have hcx2:∀h:o5+i<C5.size,C5[o5+i]= .int .u64 (x:Int):=fun h=>at_get hcx h;have hcy2:∀h:o6+k<C6.size,C6[o6+k]= .int .u64 (y:Int):=fun h=>at_get hcy h;have hcz2:∀h:q<C.size,C[q]= .int .u64 (z:Int):=fun h=>at_get hcz h;have hsx:o5+i<C5.size:=by
      have:=hcx;rw[Array.getElem?_eq_some_iff]at this;exact this.1
     have hsy:o6+k<C6.size:=by
      have:=hcy;rw[Array.getElem?_eq_some_iff]at this;exact this.1
     have hsz:q<C.size:=by
      have:=hcz;rw[Array.getElem?_eq_some_iff]at this;exact this.1
     have w1:IntKind.i64.wrap ((i:Int)+(k:Int))=(q:Int):=by rw[IntKind.wrap_i64];omega
     have w2:IntKind.u64.wrap ((x:Int)*(y:Int))=(xy:Int):=by
      have e:(x:Int)*(y:Int)=(xy:Int):=by rw[←hxy,Int.natCast_mul]
      rw[e,IntKind.wrap_u64];omega
     obtain⟨zs,hzs⟩:∃zs,z+xy=zs:=⟨_,rfl⟩;have w3:IntKind.u64.wrap ((z:Int)+(xy:Int))=(zs:Int):=by rw[IntKind.wrap_u64];omega
     have w4:IntKind.u64.wrap ((zs:Int)+(c:Int))=(n:Int):=by rw[IntKind.wrap_u64];omega
     obtain⟨r,hr1⟩:∃r,n % 65536=r:=⟨_,rfl⟩;obtain⟨d,hd1⟩:∃d,n/65536=d:=⟨_,rfl⟩;rw[hr1,hd1]at HI2;have w5:(n:Int).tmod 65536=(r:Int):=by rw[Int.tmod_eq_emod_of_nonneg (by omega)];omega
     have w6:(n:Int).tdiv 65536=(d:Int):=by rw[Int.tdiv_eq_ediv_of_nonneg (by omega)];omega
     have w7:IntKind.u64.wrap (r:Int)=(r:Int):=by rw[IntKind.wrap_u64];omega
     have w8:IntKind.u64.wrap (d:Int)=(d:Int):=by rw[IntKind.wrap_u64];omega
     have hqo:0+q=q:=by omega
     have hii:(i:Int)<4:=by omega
     have hki:(k:Int)<4:=by omega
     clear hx hy hz hxy hn h1 h2 h3 h3' hr1 hd1 hzs hq;go_upto_region 11 with fail;have Lkp16:=Ls kp16;have Lkx:=Ls kx;have Lky:=Ls ky;refine ZP [0,0,0,0,0,1,0,0,0,1,0,0,0,1,0,0,0,0,0] ?_
     iterate 19 first|refine Zv ?_|refine Zd ?_
     refine TD.nil (fun wb hr=> ?_);replace kp16:=hr.q kp16;replace kx:=hr.q kx;replace ky:=hr.q ky;have HMb:=Hi (HM.out.then0 hr.mod);clear hr hcx hcy hcz hcx2 hcy2 hcz2 hsx hsy w2 w3 w4;go_upto_region 12 with fail;obtain⟨hp5,hp6⟩:=HNE.out;have Lkp16:=Ls kp16;have Lkx:=Ls kx;have Lky:=Ls ky;refine ZP0 [0,0,0,0,0,0,0,5] ?_
     iterate 7 refine Zv ?_
     refine Zi fun wE hr=> ?_;replace kp16:=hr.mod.at0 kp16;replace kx:=hr.mod.at0 kx;replace ky:=hr.mod.at0 ky;have mE:=hr.mod;refine ZS ?_;refine ZN kp16 fun wc kp16 mS=> ?_;replace kx:=mS.at_ne kx (by omega);replace ky:=mS.at_ne ky (by omega);have hwm:Hid (Mod (fun _=>False) w wc):=Hi ((HMb.out.then0 mE).then mS (fun j hj e=>by have:=HG16.out;have:=HM3.out.size;omega));clear hr mE mS w5 w1 hqo hp5 hp6;go_wp2_with fail;go_roundw
     case rel=>exact⟨k+1,d,_,_,by omega,by go_num,by first|rfl|go_num,HI2,hwm,kp16,kx,ky⟩
     case measure=>simp[intOf];omega
    ·have hdk:=Df hlk;have hdk2:decide ((k:Int)<4)=false:=Df (by omega);obtain rfl:k=4:=by omega
     obtain⟨q,hq⟩:∃q:Nat,i+4=q:=⟨_,rfl⟩;have hq8:q<8:=by omega
     have hq8i:(q:Int)<8:=by omega
     have h1:=HI.out.1.row hlt;rw[hq]at h1;have HI2:=Hi (Ai h1 (HI.out.2.set (v:=c) hq8));have w1:IntKind.i64.wrap ((i:Int)+4)=(q:Int):=by rw[IntKind.wrap_i64];omega
     have hqo:0+q=q:=by omega
     have hsz:q<C.size:=by rw[HI.out.2.1];exact hq8
     clear hq h1;go_upto_region 14 with fail;obtain⟨hp5,hp6⟩:=HNE.out;have Lkp16:=Ls kp16;have Lkx:=Ls kx;have Lky:=Ls ky;refine ZP0 [0,0,0,0,0,5] ?_
     iterate 5 refine Zv ?_
     refine Zi fun wE hr=> ?_;replace kp16:=hr.mod.at0 kp16;replace kx:=hr.mod.at0 kx;replace ky:=hr.mod.at0 ky;have mE:=hr.mod;refine ZS ?_;refine ZN kp16 fun wc kp16 mS=> ?_;replace kx:=mS.at_ne kx (by omega);replace ky:=mS.at_ne ky (by omega);have hwm:Hid (Mod (fun _=>False) w wc):=Hi ((HM.out.then0 mE).then mS (fun j hj e=>by have:=HG16.out;have:=HM3.out.size;omega));clear hr mE mS w1 hqo hp5 hp6;go_wp2_with fail;go_roundw
     case rel=>exact⟨i+1,_,_,by omega,by go_num,HI2,hwm,kp16,kx,ky⟩
     case measure=>simp[intOf];omega
  ·have hd:=Df hlt;have hd2:decide ((i:Int)<4)=false:=Df (by omega);obtain rfl:i=4:=by omega
   have HF:=Hi (HI.out.1.done HAB.out.1 HAB.out.2 (fun j _=>rfl) (fun j _=>rfl));go_wp2_with fail;go_ret;exact⟨p16,O,C,rfl,kp16,HI.out.2,HI.out.1.lt,by rw[HF.out,HAE.out.1,HAE.out.2],HM.out⟩
theorem rmul_c (a b:UInt64) (w:World):∃hi lo:UInt64,hi.toNat*18446744073709551616+lo.toNat=a.toNat*b.toNat∧Calls Tryz.prog 123 #[u64v a,u64v b] w fun e w'=>e= .returned (.tuple #[u64v hi,u64v lo])∧Mod (fun _=>False) w w':=by
 have hab:a.toNat*b.toNat<18446744073709551616*18446744073709551616:=Nat.mul_lt_mul'' a.toNat_lt b.toNat_lt;refine⟨UInt64.ofNat (a.toNat*b.toNat/18446744073709551616),UInt64.ofNat (a.toNat*b.toNat % 18446744073709551616),?_,?_⟩
 ·rw[UInt64.toNat_ofNat',UInt64.toNat_ofNat',Nat.mod_eq_of_lt (show a.toNat*b.toNat/18446744073709551616<2^64 from by omega),Nat.mod_eq_of_lt (show a.toNat*b.toNat % 18446744073709551616<2^64 from by omega)];omega
 ·obtain⟨N,hN⟩:∃N,a.toNat*b.toNat=N:=⟨_,rfl⟩;rw[hN];rw[hN]at hab;have HN:=Hi (Ai hN hab);clear hN hab;go_enter Tryz.func123,Tryz.ntmps123;go_wp2_with fail;go_at_call 135;refine(rproduct_c a b w).mono ?_;rintro e w2 ⟨p,O,C,rfl,kp,hC,hO,hN,m2⟩;have HM2:=Hi m2;rw[HN.out.1]at hN;have l1:=horN_lt (d:=O) (fun j _=>hO j) 4;have l2:=horN_lt (d:=fun j=>O (4+j)) (fun j _=>hO (4+j)) 4;have hc1:=fun wq (hq:Mod (fun _=>False) w2 wq)=>rnum_c p 4 4 (fun j=>O (4+j)) C 37 (0,0) wq (hq.at0 kp) (fun j hj=>hC.2 (4+j) (by omega)) (fun j _=>hO (4+j));have hc0:=fun wq (hq:Mod (fun _=>False) w2 wq)=>rnum_c p 0 8 O C 37 (0,0) wq (hq.at0 kp) (fun j hj=>by rw[Nat.zero_add];exact hC.2 j (by omega)) (fun j _=>hO j);obtain⟨x,hx⟩:∃x,horN (fun j=>O (4+j)) 4=x:=⟨_,rfl⟩;obtain⟨y,hy⟩:∃y,horN O 4=y:=⟨_,rfl⟩;rw[hx]at hN l2 hc1;rw[hy]at hN l1 hc0;have HXY:Hid (u64v (UInt64.ofNat (N/18446744073709551616))= .int .u64 (x:Int)∧u64v (UInt64.ofNat (N % 18446744073709551616))= .int .u64 (y:Int)):=Hi (by
   have p4:=pow_p.2.2.2.2.1;rw[p4]at l1 l2;refine⟨congrArg (fun n:Nat=>Value.int .u64 (n:Int)) ?_,congrArg (fun n:Nat=>Value.int .u64 (n:Int)) ?_⟩
   ·rw[UInt64.toNat_ofNat',Nat.mod_eq_of_lt (by omega)];omega
   ·rw[UInt64.toNat_ofNat',Nat.mod_eq_of_lt (by omega)];omega)
  have HC1:=Hi hc1;have HC0:=Hi hc0;clear hc1 hc0 hx hy hN l1 l2 hC hO m2;go_upto_region 2 with fail;have hsl1:∀w,(Instr.sliceAt 158 (.slice (some ⟨p,0,none⟩) 8 8) (some (.int .i64 4)) none none).run Tryz.prog w= .ok (.slice (some ⟨p,4,none⟩) 4 4) w:=fun w=>by kernel_rfl
  have hsl2:∀w,(Instr.sliceAt 158 (.slice (some ⟨p,0,none⟩) 8 8) none (some (.int .i64 4)) none).run Tryz.prog w= .ok (.slice (some ⟨p,0,none⟩) 4 8) w:=fun w=>by kernel_rfl
  have Lkp:=Ls kp;refine ZR (fun _ a v=>(a= #[.slice (some ⟨p,4,none⟩) 4 4]→v= .int .u64 (x:Int))∧(a= #[.slice (some ⟨p,0,none⟩) 4 8]→v= .int .u64 (y:Int))) [0,0,2,0,0,2,0,0] ?_;refine Zv ?_;refine Zx hsl1 ?_;(refine Zc ?_ (s:=by intro wq hSq;exact(HC1.out wq hSq).mono (fun e w' h=>⟨_,h.1,⟨fun _=>rfl,fun e=>by simp at e⟩,h.2⟩));rintro _ hC;obtain rfl:=hC.1 rfl;try simp only[zL]);refine Zv ?_;refine Zx hsl2 ?_;(refine Zc ?_ (s:=by intro wq hSq;exact(HC0.out wq hSq).mono (fun e w' h=>⟨_,h.1,⟨fun e=>by simp at e,fun _=>rfl⟩,h.2⟩));rintro _ hC;obtain rfl:=hC.2 rfl;try simp only[zL])
  iterate 2 refine Zv ?_
  refine TD.nil (fun w3 hr=> ?_);replace kp:=hr.q kp;have HM3:=Hi (HM2.out.then0 hr.mod);clear hr;go_wp2_with fail;refine bodyPost_ret (results_tmp2 rfl _ _ _) rfl ?_;exact⟨by rw[HXY.out.1,HXY.out.2];rfl,HM3.out⟩
theorem mul_ok:MulOk:=rmul_c
section
attribute [local go_sem] inr_size inr_all inr_one
theorem bs4R (a b c d:UInt64) (w:World):(Instr.buildSlice 158 4 #[(0,u64v a),(1,u64v b),(2,u64v c),(3,u64v d)]).run Tryz.prog w= .ok (.slice (some ⟨w.heap.size,0,none⟩) 4 4) (w.alloc (.cells #[u64v a,u64v b,u64v c,u64v d] 37)):=by kernel_rfl
theorem rsum4_c (p:Nat) (a b c d:UInt64) {U:TypeId} {fr:Nat×Nat} (w:World) (hk:w.heap[p]? =some (.cells #[u64v a,u64v b,u64v c,u64v d] U fr)):Calls Tryz.prog 95 #[.slice (some ⟨p,0,none⟩) 4 4] w fun e w'=>e= .returned (u64v ([a,b,c,d].foldl sat 0))∧Mod (fun _=>False) w w':=rsum_c p [a,b,c,d] U fr w hk (by simp only[List.length_cons,List.length_nil];omega)
theorem rcost_c (hO:TimesOk) (x:RdR) (wn:Nat) (u:UInt64) (hwr:wn≤1000000) (w:World) (h:TxRd w x):Calls Tryz.prog 50 #[.agg (txr x),.int .i64 (wn:Int),u64v u] w fun e w'=>e= .returned (u64v (coF (UInt64.ofNat x.sg.l.length) (UInt64.ofNat wn) (dSum x.ins.l) u))∧Mod (fun _=>False) w w':=by
 have HX:=Hi h;have HO:=Hi hO;have bS:x.sg.l.length≤1000000:=h.1.2;have bI:x.ins.l.length≤1000000:=h.2.2.1.2.1;clear h hO;go_enter Tryz.func50,Tryz.ntmps50;go_upto_region 0 with fail;refine ZP0 [3,0] ?_;refine Zb fun p3 hp3=> ?_;refine Zv ?_;refine TD.nil (fun w1 hr=> ?_);obtain⟨gp3,kp3⟩:=hr.b p3;have M1:=Hi hr.mod;clear hr;go_wp2_with fail;go_loopw [7,8] (fun s7 s8 ws=>∃(i:Nat) (d:UInt64),i≤x.ins.l.length∧s8= .int .i64 (i:Int)∧s7=u64v d∧Hid (d=dSum (x.ins.l.take i))∧Mod (fun _=>False) w1 ws) (fun _ s8 _=>x.ins.l.length-(intOf s8).toNat)
 case atStart=>exact⟨0,0,by omega,rfl,rfl,Hi rfl,Mod.refl _ _⟩
 case round=>
  obtain⟨i,d,hi,rfl,rfl,HD,hm⟩:=hrel;have kp3:=hm.at0 kp3;have HM:=Hi (M1.out.then0 hm);have HMm:=Hi hm;clear hm;by_cases hlt:i<x.ins.l.length
  ·have hd:=Dt hlt;obtain⟨y,hy⟩:∃y,x.ins.l[i]? =some y:=⟨_,List.getElem?_eq_getElem (by omega)⟩;obtain⟨g,o,C,U,fr,hga,kg,he,hle⟩:=((HX.out.mod0 HM.out).2.2.1.1).block hy;have hdl:=((HX.out.2.2.1.2.2 y (List.mem_of_getElem? hy)).2).2;obtain⟨m,hmm⟩:∃m,y.d.l.length=m:=⟨_,rfl⟩;rw[hmm]at hdl;have h2:C[o+i*3+2]? =some (.slice y.d.a m y.d.c):=by rw[←hmm];exact cellC he (j:=2) (inr2 y)
   have hw1:IntKind.u64.wrap (m:Int)=(m:Int):=by rw[IntKind.wrap_u64];omega
   obtain⟨d2,hd2⟩:∃z,d+UInt64.ofNat m=z:=⟨_,rfl⟩;have hw2:IntKind.u64.wrap ((d.toNat:Int)+(m:Int))=(d2.toNat:Int):=by
    rw[←hd2,IntKind.wrap_u64,UInt64.toNat_add,UInt64.toNat_ofNat'];omega
   have HN:Hid (d2=dSum (x.ins.l.take (i+1))):=Hi (by rw[dSum_snoc hy,hmm,←HD.out,hd2]);clear hy hmm he hd2;go_wp2_with fail;go_roundw
   case rel=>exact⟨i+1,d2,by omega,by go_num,by first|rfl|go_num,HN,HMm.out⟩
   case measure=>first|(simp[intOf];done)|(simp[intOf];omega)
  ·have hd:=Df hlt;have HE:Hid (d=dSum x.ins.l):=Hi (by
    have:=HD.out;rw[List.take_of_length_le (by omega)]at this;exact this)
   have hmx:max 0 (wn:Int)=(wn:Int):=by omega
   obtain⟨S,hS⟩:∃z,UInt64.ofNat x.sg.l.length=z:=⟨_,rfl⟩;obtain⟨N,hN⟩:∃z,UInt64.ofNat wn=z:=⟨_,rfl⟩;have hws:IntKind.u64.wrap (x.sg.l.length:Int)=(S.toNat:Int):=by rw[←hS,IntKind.wrap_u64,UInt64.toNat_ofNat'];omega
   have hwn:IntKind.u64.wrap (wn:Int)=(N.toNat:Int):=by rw[←hN,IntKind.wrap_u64,UInt64.toNat_ofNat'];omega
   obtain⟨A,hA⟩:∃z,tim S 720=z:=⟨_,rfl⟩;obtain⟨B,hB⟩:∃z,tim N 300=z:=⟨_,rfl⟩;obtain⟨D4,hD4⟩:∃z,d/4=z:=⟨_,rfl⟩;have hq1:IntKind.u64.wrap ((d.toNat:Int)/4)=(D4.toNat:Int):=by
    rw[←hD4,IntKind.wrap_u64,UInt64.toNat_div,show(4:UInt64).toNat=4 from rfl];have:=d.toNat_lt;omega
   have hq2:IntKind.u64.wrap (D4.toNat:Int)=(D4.toNat:Int):=by have:=D4.toNat_lt;rw[IntKind.wrap_u64];omega
   have HR:Hid (coF S N (dSum x.ins.l) u=[A,B,D4,u].foldl sat 0):=Hi (by rw[←HE.out,←hA,←hB,←hD4];rfl);have HT1:=Hi (fun w=>HO.out S 720 1 false w);have HT2:=Hi (fun w=>HO.out N 300 1 false w);rw[tim_G,hA]at HT1;rw[tim_G,hB]at HT2;obtain⟨R,hR⟩:∃z,[A,B,D4,u].foldl sat 0=z:=⟨_,rfl⟩;have HRR:=Hi hR;have HRF:Hid (coF (UInt64.ofNat x.sg.l.length) (UInt64.ofNat wn) (dSum x.ins.l) u=R):=Hi (by rw[hS,hN,HR.out,hR]);have hbs:=bs4R A B D4 u;clear hS hN hA hB hD4 hR;go_upto_region 6 with fail;have Lkp3:=Ls kp3;refine wp_gpass0 (T0:=fun _=>False) (K:=fun _ _=>True) (κ:=fun i=>[0,0,0,0,6,0,0,0,6,0,0,0,3,6,0].getD i 0) (υ:=fun i=>[[],[],[],[],[],[],[],[],[],[],[],[],[],[40],[]].getD i []) [0,1,2,3,4,5,6,7,8,9,10,11,12,13,14] (by kernel_rfl) (by kernel_rfl) (Good.true).cl (trivial) (fun _ h=>h.elim) ?_;have gK:=Good.true;refine Zg ?_;refine Zh ?_
   iterate 2 refine Zg ?_
   (refine ZG (fun v=>v=u64v A) gK ?_ (s:=fun T wq kq ltq hSq ub=>by exact(HT1.out wq).mono (fun e w' h=>⟨_,h.1,rfl,h.2⟩));rintro v7 hC;subst hC;try simp only[zL])
   iterate 3 refine Zg ?_
   (refine ZG (fun v=>v=u64v B) gK ?_ (s:=fun T wq kq ltq hSq ub=>by exact(HT2.out wq).mono (fun e w' h=>⟨_,h.1,rfl,h.2⟩));rintro v11 hC;subst hC;try simp only[zL])
   iterate 3 refine Zg ?_
   (refine TG.bslice (by simp only[zK];rfl) rfl (by rfl) rfl rfl ?hx15 hbs (fun p40 hp40 _=> ?n15);(case hx15=>(simp only[List.map_toArray,List.map_cons,List.map_nil,zM];(try rfl)));try simp only[zL]);(refine ZG (fun v=>v=u64v R) gK ?_ (s:=fun T wq kq ltq hSq ub=>by have kp40:=ub.box (p:=p40) (by first|exact Bx.set_same _ _ _|(simp only[Bx.set_same];rfl)) (by first|decide|exact List.mem_singleton.2 rfl|simp);dsimp only[Value.cells]at kp40;have nUp40:=(ub p40 _ (by first|exact Bx.set_same _ _ _|(simp only[Bx.set_same];rfl)) (by first|decide|exact List.mem_singleton.2 rfl|simp)).1;exact(rsum4_c p40 A B D4 u wq kp40).mono (fun e w' h=>⟨_,by rw[h.1,HRR.out],rfl,h.2⟩));rintro v16 hC;subst hC;try simp only[zL]);refine Zg ?_;refine TG.nil (fun w6 ⟨TR,hr⟩=> ?_);replace kp3:=hr.q kp3;obtain⟨gp40,nTp40,kp40⟩:=hr.b p40;clear gK;have HM6:=Hi (HM.out.then0 hr.mod);clear hr;go_wp2_with fail;go_ret;exact⟨by rw[HRF.out];rfl,HM6.out⟩
end
section
attribute [local go_sem↓] wlRdy ldRdy stRdy wlMsg ldMsg stMsg ldBgd
attribute [local go_sem] zTc_size zTc_ext zTc_all zTc_all0 txr_ms rdr_size rdr_all rdr_one zRdy_size zRdy_one
theorem bldRyD (z:RdR) (a1 ra:Option Addr) (l:List UInt8) (n cb:Nat) (ro:List Role) (m cr:Nat) (un pr:UInt64) (bad:Int64) (hn:l.length=n) (hm:ro.length=m) (w:World):
  (Instr.build 41 #[(0,.slice a1 n cb),(1,.agg (txr z)),(2,.slice ra m cr),(3,.agg (bgR un pr bad.toInt))]).run Tryz.prog w= .ok (.agg (rdr (ryR z a1 ra l cb ro cr un pr bad 0 0 0))) w:=by
 subst hn hm;refine run_build_struct (z:= .agg zRdy) (places:= #[(0,1),(1,40),(41,1),(42,3),(45,1),(46,1),(47,1)]) Tryz.underlying41 (fun w=>by kernel_rfl) (fun w=>by kernel_rfl) ?_ w;show Instr.fill _ zRdy [(0,_),(1,_),(2,_),(3,_)]=_;rw[fill_cons (off:=0) (n:=1) rfl rfl (by rw[zRdy_size];omega),fill_cons (off:=1) (n:=40) rfl (by simp[Value.cells,txr_size]) (by rw[wr_size,zRdy_size];omega),fill_cons (off:=41) (n:=1) rfl rfl (by rw[wr_size,wr_size,zRdy_size];omega),fill_cons (off:=42) (n:=3) rfl rfl (by rw[wr_size,wr_size,wr_size,zRdy_size];omega)];refine congrArg some ?_;apply Array.toList_inj.1;obtain⟨tl,htl⟩:∃tl,(txr z).toList=tl:=⟨_,rfl⟩;have hk:tl.length=40:=by rw[←htl];simp[txr_size]
 obtain⟨zl,hzl⟩:∃zl,zRdy.toList=zl:=⟨_,rfl⟩;have hzk:zl.length=48:=by rw[←hzl];simp[zRdy_size]
 have hz45:=zRdyT;rw[hzl]at hz45;rw[rdrT,show txr (ryR z a1 ra l cb ro cr un pr bad 0 0 0)=txr z from rfl,htl];simp only[Value.cells];rw[htl];rw[wr_list _ _ _ (by simp only[wr_size,zRdy_size,bgR];simp),wr_list _ _ _ (by simp only[wr_size,zRdy_size];simp),wr_list _ _ _ (by simp only[wr_size,zRdy_size];rw[hk];decide),wr_list _ _ _ (by simp only[zRdy_size];simp),hzl];simp[List.take_append,List.drop_append,hk,hzk,bgR,rpost,hz45,List.take_of_length_le,List.drop_of_length_le,ryR]
theorem TxLd.lo {b:Nat} {w:World} {x:RdR} (h:TxLd b w x) (hB:TxB (txP x)):∀y∈x.lks.l,LoF w y:=by
 obtain⟨h1,h2,⟨h3,h4⟩,h5,h6⟩:=h;obtain⟨b1,b2,⟨b3,b4⟩,b5,b6⟩:=hB;intro i hi;have hb:=b6 (loP i) (List.mem_map_of_mem hi);obtain⟨⟨q1,q2,-⟩,q3,q4,-⟩:=h6 i hi;refine⟨⟨q1,fun g o e=> ?_,hb.1⟩,q3,fun g o e=> ?_,hb.2⟩
 ·obtain⟨_,C,hk⟩:=q2 _ e;exact Ls hk
 ·obtain⟨_,C,hk⟩:=q4 _ e;exact Ls hk
theorem TxLd.da {b:Nat} {w:World} {x:RdR} (h:TxLd b w x) (hB:TxB (txP x)):∀y∈x.ins.l,DaF w y:=by
 obtain⟨h1,h2,⟨h3,h4⟩,h5,h6⟩:=h;obtain⟨b1,b2,⟨b3,b4⟩,b5,b6⟩:=hB;intro i hi;have hb:=b4 (inP i) (List.mem_map_of_mem hi);obtain⟨-,q3,q4,q5,q6⟩:=h4 i hi;exact⟨q3,q5,q6,Nat.le_trans hb.2 (by decide)⟩
def RreaP (T:TbL) (w:World) (l:List UInt8) (e:Ending) (w':World):Prop:=Mod (fun _=>False) w w'∧match readyP T l with
 | .ok y=>∃r,e= .returned (.tuple #[.agg (rdr r),i64n 0])∧RyRd w' r∧ryP r=y
 | .error n=>e= .returned (.tuple #[.agg zRdy,i64n n])
theorem ry_own {α:Type} {f:α→Array Value} {n:Nat} {E:TypeId} {b:Nat} {w:World} {v:Value} {l:List α} {S:Nat→Prop} (hv:SlOwn f n E w b v l) (hE:E≠41) (h:∀p,S p→∃R,w.heap[p]? =some (.cells R 41 (0,0))):∀g,v.ownBlock=some g→¬S g:=fun g hg hs=>by
 obtain⟨R,hR⟩:=h g hs;rcases hv.2 with⟨h2,_⟩|⟨g2,cap,cur,h2,_,h3,_⟩
 ·rw[h2]at hg;cases hg
 ·rw[h2]at hg;cases hg;rw[hR]at h3;cases h3;exact hE rfl
theorem SlAt.keep {α:Type} {f:α→Array Value} {n:Nat} {w w':World} {a:Option Addr} {l:List α} {S:Nat→Prop} (h:SlAt f n w a l) (hm:Mod S w w') (hS:l=[]∨∀g o,a=some ⟨g,o,none⟩→¬S g):SlAt f n w' a l:=by
 rcases hS with e|hS
 ·exact .inl e
 ·exact h.mod hm hS
theorem RfRes.noOut {T:TbL} {X:List LoR} {w w':World} (h:RfRes T X w .outgrown w'):False:=by
 unfold RfRes at h;split at h
 ·obtain⟨_,_,_,h,_⟩:=h;cases h
 ·cases h.2
theorem RfRes.noPan {T:TbL} {X:List LoR} {w w':World} {ch:List PanicEntry} (h:RfRes T X w (.panicked ch) w'):False:=by
 unfold RfRes at h;split at h
 ·obtain⟨_,_,_,h,_⟩:=h;cases h
 ·cases h.2
theorem RfRol.noOut {R:Except Nat (List Role)} {w w':World} (h:RfRol R w .outgrown w'):False:=by
 unfold RfRol at h;split at h
 ·obtain⟨_,_,_,h,_⟩:=h;cases h
 ·cases h.2
theorem RfRol.noPan {R:Except Nat (List Role)} {w w':World} {ch:List PanicEntry} (h:RfRol R w (.panicked ch) w'):False:=by
 unfold RfRol at h;split at h
 ·obtain⟨_,_,_,h,_⟩:=h;cases h
 ·cases h.2
theorem RwirP.noOut {w w':World} {l:List UInt8} (h:RwirP w l .outgrown w'):False:=by
 unfold RwirP at h;split at h
 ·obtain⟨_,_,h,_⟩:=h;cases h
 ·cases h.2
theorem RwirP.noPan {w w':World} {l:List UInt8} {ch:List PanicEntry} (h:RwirP w l (.panicked ch) w'):False:=by
 unfold RwirP at h;split at h
 ·obtain⟨_,_,h,_⟩:=h;cases h
 ·cases h.2
def OwnY (l:List UInt8) (n b:Nat) (v:Value):Land:=fun T w=>∃a c,v= .slice a n c∧SlOwn uc 1 5 w b (.slice a n c) l∧∀g,(Value.slice a n c).ownBlock=some g→T g
theorem goodOY (l:List UInt8) (n b:Nat) (v:Value):Good (OwnY l n b v) where
 cl:=fun T w w' h hm=>by
  obtain⟨a,c,e,h2,h3⟩:=h;exact⟨a,c,e,h2.mod hm (fun g hg hn=>hn (h3 g hg)),h3⟩
 gr:=fun T T' w hT h=>by
  obtain⟨a,c,e,h2,h3⟩:=h;exact⟨a,c,e,h2,fun g hg=>hT g (h3 g hg)⟩
theorem app_nilY {w:World} {B0 c n:Nat} {q:List UInt8} {a:Option Addr} {T:Nat→Prop} (hs:SlAt uc 1 w a q) (hq:q.length≤1000000) (hn:q.length=n) (hB:B0≤w.heap.size):∃v w',(Builtin.append_ #[22,22] 22 #[.slice none 0 0,.slice a n c]).run Tryz.prog w= .ok v w'∧Mod T w w'∧OwnY q n B0 v (Grow T w w') w':=by
 subst hn;obtain⟨v,w',hap,hO,m,hn⟩:=SlOwn.append bytesT (c:=c) (SlOwn.nil (f:=uc) (n:=1) (E:=5) w B0) hs (by simpa using hq) (by decide) hB 22;simp only[List.nil_append]at hO;obtain⟨a2,c2,e,_⟩:=hO.at bytesT;subst e;refine⟨_,w',hap,m.mono (fun _ _ e=>by cases e),a2,c2,rfl,hO,fun g hg=> ?_⟩;rcases hn with h|h
 ·rw[hg]at h;cases h
 ·rw[hg]at h;cases h;exact .inr ⟨Nat.le_refl _,(hO.lt _ hg).2⟩
theorem rready_c {b m:Nat} {T:TbL} {v:Value} {a:Option Addr} {l:List UInt8} {c:Nat} (w:World) (H:RfA b m T v w) (hT:T.length≤100000) (hl:SlAt uc 1 w a l) (hc:l.length≤c) (hn:a=none→c=0) (hln:l.length≤900000) (hin:∀x,a=some x→x.block<w.heap.size):
  Calls Tryz.prog 14 #[.slice a l.length c,pV m] w (RreaP T w l):=by
 have HL:=Hi (Ai hl (Ai hc (Ai hn (Ai hln hin))));have HR:=Hi (Ai H hT);obtain⟨ll,hll⟩:∃ll,l.length=ll:=⟨_,rfl⟩;have HLL:=Hi hll;have HW:=Hi (fun w1 (m:Mod (fun _=>False) w w1)=>rwire_c (c:=c) w1 (hl.mod0 m) hc hn hln (by intro x h;exact Nat.lt_of_lt_of_le (hin x h) m.size));have hbr:=bRdy0;rw[hll];clear H hT hl hc hn hln hin hll;go_enter Tryz.func14,Tryz.ntmps14;go_upto_region 0 with fail;refine ZP0 [3,0] ?_;refine Za alRdy fun p4 hp4=> ?_;refine Zv ?_;refine TD.nil (fun w1 hr=> ?_);obtain⟨gp4,kp4⟩:=hr.b p4;have HM1:=Hi hr.mod;have HGP4:=Hi gp4;clear hr;have hG:=HW.out _ HM1.out;rw[HLL.out]at hG;go_upto_region 1 with fail;refine region_seq 8 rfl ?_;simp only[List.range,List.range.loop];refine Zq ?_;refine ZC hG ?hout (fun vn wn hR=> ?hret) (fun ch wn hR=> ?hpan)
 case hout=>exact fun w' h=>h.noOut
 case hpan=>exact hR.noPan.elim
 case hret=>
 obtain⟨hm,hr⟩:=hR;clear hG;have HM4:=Hi (HM1.out.trans hm);replace kp4:=hm.at0 kp4;clear hm;cases hres:wireP l with
 |error n1=>
  rw[hres]at hr;simp only at hr;cases hr;have h0:=chk_ne hres;have HE:Hid (readyP T l= .error n1):=Hi (by unfold readyP;rw[hres]);(try simp only[zL]);obtain⟨w4,rfl⟩:∃w4:World,w4=wn:=⟨_,rfl⟩
  iterate 3 refine Zq ?_
  (refine sq_alloc (by simp only[zK];rfl) (by rfl) rfl alTx (fun p6 wn gp6 kp6 mp6=> ?n8);try simp only[zL]);refine ZT ?_;refine ZQ kp6 fun wn kp6 mS=> ?_;refine Zq ?_;refine sq_nil ?_;have HMB:Hid (Mod (fun _=>False) w wn):=Hi ((HM4.out.trans mp6).then mS (fun i hi e=>by have:=HM4.out.size;omega));have hp48:p4<w4.heap.size:=Ls kp4;have kp4':wn.heap[p4]? =some (.cells zRdy 41 (0,0)):=mS.at (mp6.at0 kp4) (fun e=>by omega);have kp4:=kp4';have hw0:((n1:Int) !=0)=true:=by simp;omega
  clear mS mp6 kp6 kp4' hp48 gp6 hres h0;obtain⟨w5,rfl⟩:∃w5:World,w5=wn:=⟨_,rfl⟩;go_upto_region 3 with fail;have Lkp4:=Ls kp4;refine ZP0 [0,0,5,0] ?_;refine Zu hbr ?_;refine Zv ?_;refine Zi fun w7 hr=> ?_;replace kp4:=hr.q kp4;have HMz:=Hi (HMB.out.then0 hr.mod);clear hr;refine ZS ?_;refine ZM kp4 fun wn kp4 mS=> ?_;have HMy:=Hi (HMz.out.thenB mS (.inl gp4));clear mS;refine Ze ?_;refine TE.nil ?_;go_wp2_with fail;refine bodyPost_ret (results_ct rfl rfl (ldRdyZ kp4)) rfl ?_;unfold RreaP;rw[HE.out];exact⟨HMy.out,rfl⟩
 |ok x0=>
  rw[hres]at hr;obtain⟨z,hv0,hO,hzx,hB⟩:=hr;cases hv0;have HZ:=Hi (Ai hO (Ai hzx (Ai (hzx▸hB:TxB (txP z)) (Ai (wire_few hres).1 hres))));clear hO hzx hB hres;(try simp only[zL]);obtain⟨w4,rfl⟩:∃w4:World,w4=wn:=⟨_,rfl⟩
  iterate 3 refine Zq ?_
  (refine sq_alloc (by simp only[zK];rfl) (by rfl) rfl alTx (fun p6 wn gp6 kp6 mp6=> ?n19);try simp only[zL]);refine ZT ?_;refine ZQ kp6 fun wn kp6 mS=> ?_;refine Zq ?_;refine sq_nil ?_;replace kp6:wn.heap[p6]? =some (.cells (txr z) 35 (0,0)):=kp6;have m4:Mod (fun _=>False) w4 wn:=mp6.then mS (fun i hi e=>by omega);have HM5:Hid (Mod (fun _=>False) w wn):=Hi (HM4.out.then0 m4);have HO5:=Hi (HZ.out.1.mod0 m4);have HP6:=Hi (Ai gp6 (Ai (Ls kp4) m4.size));replace kp4:=m4.at0 kp4;clear mS mp6 gp6 m4;obtain⟨w5,rfl⟩:∃w5:World,w5=wn:=⟨_,rfl⟩;have hG7:=rresolve_c (T:=T) (xc:=z.lks.c) w5 (HR.out.1.mod0 HM5.out) HR.out.2 (HO5.out.rd HZ.out.2.2.1).2.2.2.1 (HO5.out.lo HZ.out.2.2.1) (by have:=HZ.out.2.2.1.2.2.2.1;simp only[txP,msgP,List.length_map]at this;omega) (Nat.le_trans (lo_tot z) (by have:=HZ.out.2.2.2.1;rw[HZ.out.2.1];omega));go_upto_region 4 with fail;refine region_seq 12 rfl ?_;simp only[List.range,List.range.loop]
  iterate 3 refine Zq ?_
  refine Zr ?_;refine ZC hG7 ?hout (fun vn wn hR=> ?hret) (fun ch wn hR=> ?hpan)
  case hout=>exact fun w' h=>h.noOut
  case hpan=>exact hR.noPan.elim
  case hret=>
  obtain⟨hm,hr⟩:=hR;clear hG7;have HM7:=Hi (HM5.out.then0 hm);have HO7:=Hi (HO5.out.mod0 hm);replace kp4:=hm.at0 kp4;replace kp6:=hm.at0 kp6;clear hm;cases hres:resP T (z.lks.l.map loP) ([],[])with
  |error n7=>
   rw[hres]at hr;simp only at hr;cases hr;have h0:=res_ne hres;have HE:Hid (readyP T l= .error n7):=Hi (by
    unfold readyP;rw[HZ.out.2.2.2.2];simp only;rw[←HZ.out.2.1];show(match resP T (z.lks.l.map loP) ([],[])with| .error e=>Except.error e| .ok (ws,rs)=>_)=_;rw[hres])
   (try simp only[zL])
   iterate 7 refine Zq ?_
   refine sq_nil ?_;have hw0:((n7:Int) !=0)=true:=by simp;omega
   clear hres h0;have HMB:=HM7;go_upto_region 6 with fail;have Lkp4:=Ls kp4;refine ZP0 [0,0,5,0] ?_;refine Zu hbr ?_;refine Zv ?_;refine Zi fun w8 hr=> ?_;replace kp4:=hr.q kp4;have HMz:=Hi (HMB.out.then0 hr.mod);clear hr;refine ZS ?_;refine ZM kp4 fun wn kp4 mS=> ?_;have HMy:=Hi (HMz.out.thenB mS (.inl gp4));clear mS;refine Ze ?_;refine TE.nil ?_;go_wp2_with fail;refine bodyPost_ret (results_ct rfl rfl (ldRdyZ kp4)) rfl ?_;unfold RreaP;rw[HE.out];exact⟨HMy.out,rfl⟩
  |ok y=>
   rw[hres]at hr;obtain⟨va,vb,hv0,hva,hvb⟩:=hr;cases hv0;obtain⟨aa,ca,rfl,hsa,-⟩:=hva.at keysT;obtain⟨ab,cb,rfl,hsb,-⟩:=hvb.at keysT;have hyl:=res_len hres;have hlt:=HZ.out.2.2.2.1;have hltL:=lo_tot z;rw[HZ.out.2.1]at hltL;have hsum:((z.lks.l.map loP).map (fun l=>l.w.length+l.r.length)).sum=loSum z.lks.l:=by
    rw[List.map_map];rfl
   rw[hsum]at hyl;have HY:=Hi (Ai hres (show y.1.length+y.2.length≤64 by simp only[List.length_nil]at hyl;omega));have hG10:=rrolesOf_c z y.1 y.2 aa ab ca cb wn (HO7.out.rd HZ.out.2.2.1).2.1.1 (HO7.out.rd HZ.out.2.2.1).2.1.2 hsa hsb (by have:=HY.out.2;omega) (by have:=HY.out.2;omega);have HG10:=Hi hG10;clear hyl hlt hltL hsum hsa hsb hva hvb hres hG10;(try simp only[zL]);obtain⟨w7,rfl⟩:∃w7:World,w7=wn:=⟨_,rfl⟩
   iterate 7 refine Zq ?_
   refine sq_nil ?_;have hG10:=HG10.out;have HP4:=Hi (Ls kp4);go_upto_region 7 with fail;refine region_seq 10 rfl ?_;simp only[List.range,List.range.loop];refine Zq ?_;refine Zr ?_
   iterate 2 refine Zq ?_
   refine ZC hG10 ?hout (fun vn wn hR=> ?hret) (fun ch wn hR=> ?hpan)
   case hout=>exact fun w' h=>h.noOut
   case hpan=>exact hR.noPan.elim
   case hret=>
   obtain⟨hm,hr⟩:=hR;clear hG10;have HM9:=Hi (HM7.out.then0 hm);have HO9:=Hi (HO7.out.mod0 hm);replace kp4:=hm.at0 kp4;replace kp6:=hm.at0 kp6;clear hm;cases hres:rolesP (msgP z) y.1 y.2 with
   |error n10=>
    rw[hres]at hr;simp only at hr;cases hr;have h0:n10≠0:=by
     unfold rolesP at hres;split at hres
     ·cases hres
     ·cases hres;decide
    have HE:Hid (readyP T l= .error n10):=Hi (by
     unfold readyP;rw[HZ.out.2.2.2.2];simp only;rw[←HZ.out.2.1];show(match resP T (z.lks.l.map loP) ([],[])with| .error e=>Except.error e| .ok (ws,rs)=>_)=_;rw[HY.out.1];show(match rolesP (msgP z) y.1 y.2 with| .error e=>Except.error e| .ok ro=>_)=_;rw[hres])
    (try simp only[zL])
    iterate 5 refine Zq ?_
    refine sq_nil ?_;have hw0:((n10:Int) !=0)=true:=by simp;omega
    clear hres h0;have HMB:=HM9;go_upto_region 9 with fail;have Lkp4:=Ls kp4;refine ZP0 [0,0,5,0] ?_;refine Zu hbr ?_;refine Zv ?_;refine Zi fun w9 hr=> ?_;replace kp4:=hr.q kp4;have HMz:=Hi (HMB.out.then0 hr.mod);clear hr;refine ZS ?_;refine ZM kp4 fun wn kp4 mS=> ?_;have HMy:=Hi (HMz.out.thenB mS (.inl gp4));clear mS;refine Ze ?_;refine TE.nil ?_;go_wp2_with fail;refine bodyPost_ret (results_ct rfl rfl (ldRdyZ kp4)) rfl ?_;unfold RreaP;rw[HE.out];exact⟨HMy.out,rfl⟩
   |ok ro=>
    rw[hres]at hr;obtain⟨ra,cr,hv0,hvr,hvb⟩:=hr;cases hv0;have hrl:=roles_len hres;have hkl:(msgP z).ks.length≤64:=Nat.le_trans (Nat.le_add_right _ _) (by have:=HZ.out.2.2.2.1;rw[←HZ.out.2.1]at this;exact this);have HRO:=Hi (Ai hvr (Ai hres (show ro.length≤200 by have:=HY.out.2;omega)));have HRB:Hid (ro=[]∨∀g o,ra=some ⟨g,o,none⟩→p4<g∧g<wn.heap.size):=Hi (by
     rcases hvb with h|h
     ·exact .inl h
     ·rcases hvr with h2|⟨g2,o2,C2,U2,f2,e2,h2,_⟩
      ·exact .inl h2
      ·refine .inr (fun g o e=> ?_);have h3:=h g o e;rw[e2]at e;cases e;have h4:=HP4.out;exact⟨by omega,Ls h2⟩)
    clear hvr hrl hkl hres hvb;(try simp only[zL]);obtain⟨w9,rfl⟩:∃w9:World,w9=wn:=⟨_,rfl⟩
    iterate 5 refine Zq ?_
    refine sq_nil ?_;obtain⟨bd,hbd,hbg⟩:=budP_bg (msgP z) (by have:=HZ.out.2.2.1.2.2.1.1;simp only[txP,msgP,List.length_map]at this⊢;omega);have HBG:=Hi (Ai hbd hbg);obtain⟨bu,hbu⟩:∃bu,(budP (msgP z)).units=bu:=⟨_,rfl⟩;obtain⟨bp,hbp⟩:∃bp,(budP (msgP z)).price=bp:=⟨_,rfl⟩;rw[hbu,hbp]at hbg;have HBU:=Hi (Ai hbg (Ai hbu hbp));clear hbd hbg hbu hbp;obtain⟨rl,hrl⟩:∃rl,ro.length=rl:=⟨_,rfl⟩;have hby:∀(a1:Option Addr) (c1:Nat),∀w,_:=fun a1 c1 w=>bldRyD z a1 ra l ll c1 ro rl cr bu bp bd HLL.out hrl w;have HRL:=Hi hrl;have HZB:=Hi HZ.out.2.2.1;have hlt4:=Ls kp4;have hlt6:=Ls kp6;rw[hrl];clear hrl;go_upto_region 10 with fail;have Lkp4:=Ls kp4;have Lkp6:=Ls kp6;refine wp_gpass (T0:=fun _=>False) (K:=fun _ _=>True) (κ:=fun i=>[0,6,0,0,0,0,6,0,3,4].getD i 0) (υ:=fun _=>[]) [0,1,2,3,4,5,6,7,8,9] (by kernel_rfl) (by kernel_rfl) (Good.true).cl (trivial) (fun _ h=>h.elim) ?_;have gK:=Good.true;refine Zg ?_;(refine TG.appK (X:= ?X67) (Y:= ?Y67) (OwnY l ll w9.heap.size) (goodOY l ll w9.heap.size) (by simp only[zK];rfl) rfl (by rfl) rfl ?hx67 ?hz67 (fun T wq kq ltq hSq ub=> ?y67) ?n67;(case hx67=>simp only[zM];try rfl);(case hz67=>simp only[zM];try rfl);(case y67=>(have kp4q:=hSq.at kp4 (fun h=>h);have kp6q:=hSq.at kp6 (fun h=>h);exact app_nilY (c:=c) (T:=T) (HL.out.1.mod0 (HM9.out.then0 hSq)) (by have:=HL.out.2.2.2.1;omega) HLL.out hSq.size));rintro v67 ⟨wI,TI,hI⟩;replace gK:=(goodOY l ll w9.heap.size) v67;obtain⟨a61,c61,rfl,-,-⟩:=hI.k;(try clear hI TI wI);try simp only[zL]);refine Zh ?_
    iterate 2 refine Zg ?_
    refine Zh ?_;(refine ZG (fun v=>v= .agg (bgR bu bp bd.toInt)) gK ?_ (s:=fun T wq kq ltq hSq ub=>by exact(rbudOf_c z wq ((HO9.out.mod0 hSq).rd HZB.out).2.1.1 ((HO9.out.mod0 hSq).rd HZB.out).2.1.2 ((HO9.out.mod0 hSq).rd HZB.out).2.2.1.1 ((HO9.out.mod0 hSq).da HZB.out) ((HO9.out.mod0 hSq).rd HZB.out).2.2.1.2.1).mono (fun e w' h=>⟨_,by rw[h.1,HBU.out.1],rfl,h.2⟩));rintro v72 hC;subst hC;try simp only[zL]);(refine TG.build (v:= ?v73) (ps:= ?p73) (by simp only[zK];rfl) rfl (by rfl) rfl ?hx73 (fun w1=> ?y73) ?n73;(case hx73=>(simp only[List.map_toArray,List.map_cons,List.map_nil,zM];(try rfl)));(case y73=>(rw[(hby a61 c61)];(try with_reducible rfl)));try simp only[zL]);(refine TG.allocB (by simp only[zK];rfl) rfl (by rfl) rfl rfl alRdy (fun p11 hp11 _=> ?n74);try simp only[zL]);(refine TG.storeB (d:= ?d75) (T:= ?T75) (y:= ?y75) (p:= ?p75) (b:= ?b75) (v:= ?v75) (by simp only[zK];rfl) rfl (by rfl) ?hd75 ?hop75 ?hev75 ?hx75 ?hb75 ?htag75 (fun w1 hb1=> ?hy75) ?hn75;(case hd75=>rfl);(case hop75=>rfl);(case hev75=>(simp only[zM];(try rfl)));(case hx75=>simp only[zM];try rfl);(case hb75=>first|exact Bx.set_same _ _ _|(simp only[Bx.set_same];rfl));(case htag75=>rfl);(case hy75=>(go_simp;(try first|with_reducible rfl|(rw[setCell_blk hb1];rfl))));try simp only[zL]);refine TG.nil (fun w11 ⟨TR,hr⟩=> ?_);replace kp4:=hr.q kp4;replace kp6:=hr.q kp6;obtain⟨gp11,nTp11,kp11⟩:=hr.b p11;clear gK;obtain⟨aq,cq,eq,hN,hT⟩:=hr.k;injection eq with eq1 eq2 eq3
    subst eq1 eq3;clear eq2;have HN11:=Hi hN;have HM11:=Hi (HM9.out.then0 hr.mod);have HO11:=Hi (HO9.out.mod0 hr.mod);have HRO11:=Hi (HRO.out.1.mod0 hr.mod);have HP11:Hid (p11≠p4∧p11≠p6∧w9.heap.size≤p11∧w.heap.size≤p11):=Hi ⟨by omega,by omega,gp11,Nat.le_trans HM9.out.size gp11⟩;have HK11:Hid (∀p,(p=p11∨p=p4)→∃R,w11.heap[p]? =some (.cells R 41 (0,0))):=Hi (fun p hp=>by rcases hp with rfl|rfl;exact⟨_,kp11⟩;exact⟨_,kp4⟩);clear hr hT hN hby hlt4 hlt6;obtain⟨sn,hsn⟩:∃sn,z.sg.l.length=sn:=⟨_,rfl⟩;have HSN:Hid (z.sg.l.length=sn∧sn<1000000):=Hi ⟨hsn,by have:=HZ.out.2.2.1.1;simp only[txP]at this;omega⟩;have hs0:(txr z)[0]? =some (.slice z.sg.a sn z.sg.c):=by rw[txr0,hsn]
    have hs0':∀h:0<(txr z).size,(txr z)[0]= .slice z.sg.a sn z.sg.c:=fun h=>at_get hs0 h;clear hsn;obtain⟨fe,hfe⟩:∃fe,feeF (UInt64.ofNat sn) bu bp=fe:=⟨_,rfl⟩;have HFE:=Hi hfe;clear hfe;have hbg0:=ryR_bg z a61 ra l c61 ro cr bu bp bd 0 0 0;have hp1:p11≠p4:=HP11.out.1;have hp2:p11≠p6:=HP11.out.2.1;go_upto_region 11 with fail;have Lkp4:=Ls kp4;have Lkp6:=Ls kp6;have Lkp11:=Ls kp11;refine ZR0 (fun _ _ v=>v=u64v fe) [0,1,0,0,1,2,0,5] ?_
    iterate 5 first|refine Zv ?_|refine Zd ?_
    (refine Zc ?_ (s:=by intro wq hSq;exact(rfee_c (times_ok mul_ok) sn HSN.out.2 bu bp bd.toInt wq).mono (fun e w' h=>⟨_,h.1,by rw[HFE.out],h.2⟩));rintro _ hC;subst hC;try simp only[zL]);refine Zv ?_;refine Zi fun wE hr=> ?_;replace kp4:=hr.mod.at0 kp4;replace kp6:=hr.mod.at0 kp6;replace kp11:=hr.mod.at0 kp11;have mE:=hr.mod;refine ZS ?_;refine ZN kp11 fun w13 kp11 mS=> ?_;replace kp4:=mS.at_ne kp4 (by omega);replace kp6:=mS.at_ne kp6 (by omega);have HA13:Hid (Mod (fun i=>i=p11∨i=p4) w11 w13):=Hi ((mE.mono (fun _ _ h=>h.elim)).trans (mS.mono (fun _ _ h=> .inl h)));clear hr mE mS hbg0 hs0 hs0';rw[ryR_fee]at kp11;have hun:=ryR42 z a61 ra l c61 ro cr bu bp bd fe 0 0;have hun':=ryR42' z a61 ra l c61 ro cr bu bp bd fe 0 0;obtain⟨wn2,hwn2⟩:∃n,(wrL ro).length=n:=⟨_,rfl⟩;have HWN:=Hi (Ai hwn2 (show wn2≤200 by have:=wrL_len ro;have:=HRO.out.2.2;omega));obtain⟨co,hco⟩:∃co,coF (UInt64.ofNat sn) (UInt64.ofNat wn2) (dSum z.ins.l) bu=co:=⟨_,rfl⟩;have HCO:=Hi hco;clear hwn2 hco;have HO13:Hid (TxLd w1.heap.size w13 z):=Hi (HO11.out.mod HA13.out (ry_apt HK11.out));have HRO13:Hid (SlAt rcr 34 w13 ra ro):=Hi (HRO11.out.keep HA13.out (by
     rcases HRB.out with h|h
     ·exact .inl h
     ·refine .inr (fun g o e hs=> ?_);have h1:=h g o e;have h2:=HP11.out.2.2.1;rcases hs with h3|h3<;>omega))
    go_upto_region 12 with fail;have Lkp4:=Ls kp4;have Lkp6:=Ls kp6;have Lkp11:=Ls kp11;refine wp_epass (T0:=fun _=>False) (K:=fun _ _=>True) (κ:=fun i=>[0,0,6,0,0,0,0,6,0,6].getD i 0) (υ:=fun _=>[]) [0,1,2,3,4,5,6,7,8] [9] (by kernel_rfl) (by kernel_rfl) (Good.true).cl (trivial) (fun _ h=>h.elim) ?_;have gK:=Good.true;(refine TG.load (v:= ?v84) (p:= ?p84) (by simp only[zK];rfl) rfl (by rfl) rfl ?hx84 (fun wq hSq=> ?y84) ?n84;(case hx84=>simp only[zM];try rfl);(case y84=>(have kp4q:=hSq.at kp4 (fun h=>h);have kp6q:=hSq.at kp6 (fun h=>h);have kp11q:=hSq.at kp11 (fun h=>h);exact(ldTxr kp6q)));try simp only[zL]);refine Zg ?_;(refine ZG (fun v=>∃a c,v= .slice a wn2 c) gK ?_ (s:=fun T wq kq ltq hSq ub=>by exact(by have h:=rwritten_c ra ro cr wq (HRO13.out.mod0 hSq) (by have:=HRO.out.2.2;omega);rw[HRL.out]at h;exact h.mono (fun e w' h=>by obtain⟨v,h1,h2,h3⟩:=h;obtain⟨a,c2,h4,_⟩:=h2.at keysT;rw[HWN.out.1]at h4;exact⟨_,h1,⟨a,c2,h4⟩,h3⟩)));rintro v86 hC;obtain⟨a80,c80,rfl⟩:=hC;try simp only[zL])
    iterate 3 refine Zg ?_
    refine Zh ?_;(refine ZG (fun v=>v=u64v co) gK ?_ (s:=fun T wq kq ltq hSq ub=>by exact(by have h:=rcost_c (times_ok mul_ok) z wn2 bu (by have:=HWN.out.2;omega) wq ((HO13.out.mod0 hSq).rd HZB.out);rw[HSN.out.1,HCO.out]at h;exact h.mono (fun e w' h=>⟨_,h.1,rfl,h.2⟩)));rintro v91 hC;subst hC;try simp only[zL]);refine Zg ?_;refine TG.nil (fun w14 ⟨TR,hr⟩=> ?_);replace kp4:=hr.q kp4;replace kp6:=hr.q kp6;replace kp11:=hr.q kp11;clear gK;have HA14:Hid (Mod (fun i=>i=p11∨i=p4) w11 w14):=Hi (HA13.out.trans (hr.mod.mono (fun _ _ h=>h.elim)));clear hr;refine Zz ?_;refine ZS ?_;refine ZN kp11 fun wn kp11 mS=> ?_;rw[ryR_cost]at kp11;have HA15:Hid (Mod (fun i=>i=p11∨i=p4) w11 wn):=Hi (HA14.out.trans (mS.mono (fun _ _ h=> .inl h)));replace kp4:=mS.at_ne kp4 (fun e=>HP11.out.1 e.symm);replace kp6:=mS.at_ne kp6 (fun e=>HP11.out.2.1 e.symm);clear mS hun hun';obtain⟨w15,rfl⟩:∃w15:World,w15=wn:=⟨_,rfl⟩;obtain⟨pi,hpi⟩:∃pi,priF (UInt64.ofNat sn) bu bp co=pi:=⟨_,rfl⟩;have HPI:=Hi hpi;clear hpi;have hs0:(txr z)[0]? =some (.slice z.sg.a sn z.sg.c):=by rw[txr0,HSN.out.1]
    have hs0':∀h:0<(txr z).size,(txr z)[0]= .slice z.sg.a sn z.sg.c:=fun h=>at_get hs0 h;have hbg0:=ryR_bg z a61 ra l c61 ro cr bu bp bd fe co 0;have h46:=ryR46 z a61 ra l c61 ro cr bu bp bd fe co 0;have h46':=ryR46' z a61 ra l c61 ro cr bu bp bd fe co 0;go_upto_region 13 with fail;have Lkp4:=Ls kp4;have Lkp6:=Ls kp6;have Lkp11:=Ls kp11;refine ZR0 (fun _ _ v=>v=u64v pi) [0,1,0,0,1,0,1,2,0,5] ?_
    iterate 7 first|refine Zv ?_|refine Zd ?_
    (refine Zc ?_ (s:=by intro wq hSq;exact(rprio_c (times_ok mul_ok) sn HSN.out.2 bu bp co bd.toInt wq).mono (fun e w' h=>⟨_,h.1,by rw[HPI.out],h.2⟩));rintro _ hC;subst hC;try simp only[zL]);refine Zv ?_;refine Zi fun wE hr=> ?_;replace kp4:=hr.mod.at0 kp4;replace kp6:=hr.mod.at0 kp6;replace kp11:=hr.mod.at0 kp11;have mE:=hr.mod;refine ZS ?_;refine ZN kp11 fun w16 kp11 mS=> ?_;replace kp4:=mS.at_ne kp4 (by omega);replace kp6:=mS.at_ne kp6 (by omega);rw[ryR_prio]at kp11;have HA16:Hid (Mod (fun i=>i=p11∨i=p4) w11 w16):=Hi ((HA15.out.trans (mE.mono (fun _ _ h=>h.elim))).trans (mS.mono (fun _ _ h=> .inl h)));clear hr mE mS hbg0 h46 h46' hs0 hs0';go_upto_region 14 with fail;have Lkp4:=Ls kp4;have Lkp11:=Ls kp11;refine ZP0 [1,5,0] ?_;(refine TD.load (v:= ?v104) (p:= ?p104) (Mod.refl _ _) (by simp only[zK];rfl) rfl (by rfl) rfl ?hx104 (fun wq hSq=> ?y104) ?n104;(case hx104=>simp only[zM];try rfl);(case y104=>(have kp4q:=hSq.at kp4 (fun h=>h);have kp11q:=hSq.at kp11 (fun h=>h);exact(ldRdyR kp11q)));try simp only[zL]);refine Zi fun w17 hr=> ?_;replace kp4:=hr.q kp4;replace kp11:=hr.q kp11;have HA17:Hid (Mod (fun i=>i=p11∨i=p4) w11 w17):=Hi (HA16.out.trans (hr.mod.mono (fun _ _ h=>h.elim)));clear hr;refine ZS ?_;refine ZM kp4 fun wn kp4 mS=> ?_;have HA18:Hid (Mod (fun i=>i=p11∨i=p4) w11 wn):=Hi (HA17.out.trans (mS.mono (fun _ _ h=> .inr h)));clear mS;refine Ze ?_;refine TE.nil ?_;go_wp2_with fail;refine bodyPost_ret (results_ct rfl rfl (ldRdyR kp4)) rfl ?_;have hOf:=HO11.out.mod HA18.out (ry_apt HK11.out);have hNf:=HN11.out.mod HA18.out (ry_own HN11.out (by decide) HK11.out);have hRf:SlAt rcr 34 wn ra ro:=HRO11.out.keep HA18.out (by
     rcases HRB.out with h|h
     ·exact .inl h
     ·refine .inr (fun g o e hs=> ?_);have h1:=h g o e;have h2:=HP11.out.2.2.1;rcases hs with h3|h3<;>omega)
    have hmf:Mod (fun _=>False) w wn:=HM11.out.then HA18.out (fun i hi e=>by
     have h1:=HP11.out.2.2.2;have h3:=HGP4.out;rcases e with rfl|rfl<;>omega)
    unfold RreaP;refine⟨hmf,?_⟩;have hready:readyP T l= .ok (tellP l (txP z) ro):=by
     unfold readyP;rw[HZ.out.2.2.2.2];simp only;rw[←HZ.out.2.1];show(match resP T (z.lks.l.map loP) ([],[])with| .error e=>Except.error e| .ok (ws,rs)=>_)=_;rw[HY.out.1];show(match rolesP (msgP z) y.1 y.2 with| .error e=>Except.error e| .ok ro=>_)=_;rw[HRO.out.2.1]
    rw[hready];obtain⟨aN,cN,eN,sN,-⟩:=hNf.at bytesT;injection eN with eN1 _ eN3
    subst eN1 eN3;refine⟨ryR z a61 ra l c61 ro cr bu bp bd fe co pi,rfl,⟨⟨sN,by have:=HL.out.2.2.2.1;show l.length≤1000000;omega⟩,hOf.rd HZB.out,hRf,by show ro.length≤1000000;have:=HRO.out.2.2;omega⟩,?_⟩;unfold ryP tellP;show(⟨l,txP z,ro,bu,bp,bd.toInt,fe,co,pi⟩:RyP)=_;have e1:(budP (txP z).m).units=bu:=HBU.out.2.1;have e2:(budP (txP z).m).price=bp:=HBU.out.2.2;have e3:bd.toInt=(budP (txP z).m).badI:=HBG.out.1;have e4:UInt64.ofNat (txP z).sg.length=UInt64.ofNat sn:=congrArg UInt64.ofNat HSN.out.1;have e5:dSumP (txP z).m.ins=dSum z.ins.l:=(dSum_P z.ins.l).symm;simp only[e1,e2,e4,e5,HWN.out.1];rw[HCO.out,HFE.out,HPI.out,e3]
end
def BookV (w:World) (r:Nat) (L:List Pg) (v:Value):Prop:=w.heap[r]? =some (.cells #[v] 64 (0,0))∧SlOwn pgc 1 112 w (r+1) v L
def Bkv (r:Nat) (v:Value) (i:Nat):Prop:=i=r∨v.ownBlock=some i
def BkP (r:Nat) (L M:List Pg) (v:Value) (w w':World):Prop:=∃v',BookV w' r (L++M) v'∧Mod (Bkv r v) w w'∧∀i,v'.ownBlock=some i→v.ownBlock=some i∨w.heap.size≤i
theorem BookV.lt {w:World} {r:Nat} {L:List Pg} {v:Value} (h:BookV w r L v):∀i,Bkv r v i→r≤i∧i<w.heap.size:=by
 intro i hi;have h1:=Ls h.1;rcases hi with rfl|hi
 ·exact⟨Nat.le_refl _,h1⟩
 ·have:=h.2.lt i hi;exact⟨by omega,this.2⟩
theorem BookV.mod {w w':World} {r:Nat} {L:List Pg} {v:Value} {S:Nat→Prop} (h:BookV w r L v) (hm:Mod S w w') (hS:∀i,Bkv r v i→¬S i):BookV w' r L v:=⟨hm.at h.1 (hS _ (.inl rfl)),h.2.mod hm (fun b hb=>hS _ (.inr hb))⟩
theorem BookV.mod0 {w w':World} {r:Nat} {L:List Pg} {v:Value} (h:BookV w r L v) (hm:Mod (fun _=>False) w w'):BookV w' r L v:=h.mod hm (fun _ _ h=>h)
theorem Bytes_c (r:Nat) (L:List Pg) (v:Value) (hL:L.length≤1000000000) (a:Option Addr) (n:Nat) (w:World) (h:BookV w r L v):Calls Tryz.prog 19 #[.pointer (some ⟨r,0,none⟩),.slice a n n] w fun e w'=>e= .returned (.tuple #[])∧∃h f,BkP r L [.y a n h f] v w w':=by
 have hnum:=number_c r L w ⟨v,h⟩ hL;obtain⟨m,hm⟩:∃m,m=L.length+1:=⟨_,rfl⟩;rw[←hm]at hnum;obtain⟨kr,hO⟩:=h;obtain⟨pa,pc,rfl,_⟩:=hO.at pageT;have HO:=Hi hO;have HL:=Hi hL;have Hm:=Hi hm;have hmb:m≤1000000001:=by omega
 clear hO hL hm;go_enter Tryz.func19,Tryz.ntmps19;go_wp2_with fail;go_at_call 60;refine hnum.mono ?_;rintro e w1 ⟨rfl,rfl⟩;clear hnum;obtain⟨x,hx⟩:=byteOf m;obtain⟨y,hy'⟩:=byteOf (255-x.toNat);have hy:IntKind.u8.wrap (255-(x.toNat:Int))=(y.toNat:Int):=by
  rw[←hy'];have:=x.toNat_lt;congr 1;omega
 clear hy';have hb:=bldShY a n x y;go_upto_region 1 with fail;refine region_seq 16 rfl ?_;simp only[List.range,List.range.loop]
 iterate 4 refine Zq ?_
 refine Zr ?_
 iterate 4 refine Zq ?_
 (refine sq_bldS (by simp only[zK];rfl) (by rfl) rfl ?hx10 (hb _) ?n10;(case hx10=>(simp only[List.map_toArray,List.map_cons,List.map_nil,zM];(try rfl)));try simp only[zL]);refine Zq ?_;(refine sq_new (by simp only[zK];rfl) (by rfl) rfl ?hx12 ((bsPage (.y a n x y)) _) (fun q19 wn gq19 kq19 mq19=> ?n12);(case hx12=>(simp only[List.map_toArray,List.map_cons,List.map_nil,zM];(try rfl)));try simp only[zL]);have hone:SlAt pgc 1 wn (some ⟨q19,0,none⟩) [(.y a n x y:Pg)]:=SlAt.one kq19 _ rfl rfl;obtain⟨v3,w3,hap,hO3,m3,hn3⟩:=SlOwn.appendB pageT (c:=1) (HO.out.mod0 mq19) hone (by have:=HL.out;simp;omega) (by have:=HL.out;simp;omega) (by have:=Ls kr;have:=mq19.size;omega) 62;have hlo:=HO.out.lt;obtain⟨va,vc,rfl,_⟩:=hO3.at pageT;have HO3:=Hi hO3;have kr3:w3.heap[r]? =_:=m3.at (mq19.at0 kr) (fun e=>by have:=(hlo r e).1;omega);replace kr:=kr3;have mA:Mod (Bkv r (.slice pa L.length pc)) w1 wn:=mq19.mono (fun _ _ h=>h.elim);have HM3:Hid (Mod (Bkv r (.slice pa L.length pc)) w1 w3):=Hi (mA.then m3 (fun i hi e=> .inr e));have HNX:Hid (∀i,(Value.slice va (L++[(.y a n x y:Pg)]).length vc).ownBlock=some i→(Value.slice pa L.length pc).ownBlock=some i∨(w1:World).heap.size≤i):=Hi (fun i hi=>by
  rcases hn3 with h|h
  ·exact .inl (h.symm.trans hi)
  ·rw[h]at hi;cases hi;exact .inr mq19.size)
 clear hone m3 hn3 hO3 hlo mq19 kr3 mA;(refine sq_append (by simp only[zK];rfl) (by rfl) rfl ?hx13 ?hz13 hap ?n13;(case hx13=>simp only[zM];try rfl);(case hz13=>simp only[zM];try rfl);try simp only[zL])
 iterate 2 refine Zq ?_
 refine ZT ?_;refine ZQ kr fun wn kr mS=> ?_;refine sq_nil ?_;have mB:Mod (Bkv r (.slice pa L.length pc)) w1 wn:=HM3.out.then mS (fun i hi e=> .inl e);have hO4:=HO3.out.mod mS (fun b hb' e=>by have e':b=r:=e;have:=(HO3.out.lt b hb').1;omega);have HF:=Hi (Ai hO4 mB);clear hO4 mB mS;go_wp2_with fail;go_end0;have kr2:=kr;exact⟨rfl,_,_,_,⟨by simpa using kr2,HF.out.1⟩,HF.out.2,HNX.out⟩
theorem BytesZ_c (r:Nat) (L:List Pg) (v:Value) (hL:L.length≤1000000000) (a:Option Addr) (n c:Nat) (w:World) (h:BookV w r L v):Calls Tryz.prog 19 #[.pointer (some ⟨r,0,none⟩),.slice a n c] w fun e w'=>e= .returned (.tuple #[])∧∃h f,BkP r L [.z a n c h f] v w w':=by
 have hnum:=number_c r L w ⟨v,h⟩ hL;obtain⟨m,hm⟩:∃m,m=L.length+1:=⟨_,rfl⟩;rw[←hm]at hnum;obtain⟨kr,hO⟩:=h;obtain⟨pa,pc,rfl,_⟩:=hO.at pageT;have HO:=Hi hO;have HL:=Hi hL;have Hm:=Hi hm;have hmb:m≤1000000001:=by omega
 clear hO hL hm;go_enter Tryz.func19,Tryz.ntmps19;go_wp2_with fail;go_at_call 60;refine hnum.mono ?_;rintro e w1 ⟨rfl,rfl⟩;clear hnum;obtain⟨x,hx⟩:=byteOf m;obtain⟨y,hy'⟩:=byteOf (255-x.toNat);have hy:IntKind.u8.wrap (255-(x.toNat:Int))=(y.toNat:Int):=by
  rw[←hy'];have:=x.toNat_lt;congr 1;omega
 clear hy';have hb:=bldShZ a n c x y;go_upto_region 1 with fail;refine region_seq 16 rfl ?_;simp only[List.range,List.range.loop]
 iterate 4 refine Zq ?_
 refine Zr ?_
 iterate 4 refine Zq ?_
 (refine sq_bldS (by simp only[zK];rfl) (by rfl) rfl ?hx26 (hb _) ?n26;(case hx26=>(simp only[List.map_toArray,List.map_cons,List.map_nil,zM];(try rfl)));try simp only[zL]);refine Zq ?_;(refine sq_new (by simp only[zK];rfl) (by rfl) rfl ?hx28 ((bsPage (.z a n c x y)) _) (fun q19 wn gq19 kq19 mq19=> ?n28);(case hx28=>(simp only[List.map_toArray,List.map_cons,List.map_nil,zM];(try rfl)));try simp only[zL]);have hone:SlAt pgc 1 wn (some ⟨q19,0,none⟩) [(.z a n c x y:Pg)]:=SlAt.one kq19 _ rfl rfl;obtain⟨v3,w3,hap,hO3,m3,hn3⟩:=SlOwn.appendB pageT (c:=1) (HO.out.mod0 mq19) hone (by have:=HL.out;simp;omega) (by have:=HL.out;simp;omega) (by have:=Ls kr;have:=mq19.size;omega) 62;have hlo:=HO.out.lt;obtain⟨va,vc,rfl,_⟩:=hO3.at pageT;have HO3:=Hi hO3;have kr3:w3.heap[r]? =_:=m3.at (mq19.at0 kr) (fun e=>by have:=(hlo r e).1;omega);replace kr:=kr3;have mA:Mod (Bkv r (.slice pa L.length pc)) w1 wn:=mq19.mono (fun _ _ h=>h.elim);have HM3:Hid (Mod (Bkv r (.slice pa L.length pc)) w1 w3):=Hi (mA.then m3 (fun i hi e=> .inr e));have HNX:Hid (∀i,(Value.slice va (L++[(.z a n c x y:Pg)]).length vc).ownBlock=some i→(Value.slice pa L.length pc).ownBlock=some i∨(w1:World).heap.size≤i):=Hi (fun i hi=>by
  rcases hn3 with h|h
  ·exact .inl (h.symm.trans hi)
  ·rw[h]at hi;cases hi;exact .inr mq19.size)
 clear hone m3 hn3 hO3 hlo mq19 kr3 mA;(refine sq_append (by simp only[zK];rfl) (by rfl) rfl ?hx29 ?hz29 hap ?n29;(case hx29=>simp only[zM];try rfl);(case hz29=>simp only[zM];try rfl);try simp only[zL])
 iterate 2 refine Zq ?_
 refine ZT ?_;refine ZQ kr fun wn kr mS=> ?_;refine sq_nil ?_;have mB:Mod (Bkv r (.slice pa L.length pc)) w1 wn:=HM3.out.then mS (fun i hi e=> .inl e);have hO4:=HO3.out.mod mS (fun b hb' e=>by have e':b=r:=e;have:=(HO3.out.lt b hb').1;omega);have HF:=Hi (Ai hO4 mB);clear hO4 mB mS;go_wp2_with fail;go_end0;have kr2:=kr;exact⟨rfl,_,_,_,⟨by simpa using kr2,HF.out.1⟩,HF.out.2,HNX.out⟩
theorem bRoleB (k:Key) (w:World):(Instr.build 91 #[(0,.agg (kc k))]).run Tryz.prog w= .ok (.agg (rcr ⟨k,false,false⟩)) w:=by
 refine run_build_struct (z:= .agg zRole) (places:= #[(0,32),(32,1),(33,1)]) Tryz.underlying91 (fun w=>by kernel_rfl) (fun w=>by kernel_rfl) ?_ w;show Instr.fill _ zRole [(0,_)]=_;rw[fill_cons (off:=0) (n:=32) rfl (by simp[Value.cells]) (by rw[zRole_size];omega)];show some _=some _;congr 1;apply Array.toList_inj.1;have hk:(kc k).toList.length=32:=by simp
 rw[wr_list _ _ _ (by rw[zRole_size];simp[Value.cells])];simp only[Value.cells,List.take_zero,List.nil_append,hk];unfold rcr rc kx zRole;simp
theorem Sigs_c (r:Nat) (L:List Pg) (v:Value) (hL:L.length≤1000000000) (a:Option Addr) (n:Nat) (w:World) (h:BookV w r L v):Calls Tryz.prog 62 #[.pointer (some ⟨r,0,none⟩),.slice a n n] w fun e w'=>e= .returned (.tuple #[])∧∃h f,BkP r L [.s a n h f] v w w':=by
 have hnum:=number_c r L w ⟨v,h⟩ hL;obtain⟨m,hm⟩:∃m,m=L.length+1:=⟨_,rfl⟩;rw[←hm]at hnum;obtain⟨kr,hO⟩:=h;obtain⟨pa,pc,rfl,_⟩:=hO.at pageT;have HO:=Hi hO;have HL:=Hi hL;have Hm:=Hi hm;have hmb:m≤1000000001:=by omega
 clear hO hL hm;go_enter Tryz.func62,Tryz.ntmps62;go_wp2_with fail;go_at_call 60;refine hnum.mono ?_;rintro e w1 ⟨rfl,rfl⟩;clear hnum;obtain⟨x,hx⟩:=byteOf m;obtain⟨y,hy⟩:=byteOf (m/256);have hdv:IntKind.i64.wrap ((m:Int)/256)=(m:Int)/256:=by rw[IntKind.wrap_i64];omega
 have hy2:IntKind.u8.wrap ((m:Int)/256)=(y.toNat:Int):=by
  rw[←hy];congr 1
 have hb1:=bsbG1 x y;have hb2:=bsbG2 x y;have hb:=bldShS a n (bs3 x y 1) (bs3 x y 2);clear hy;go_upto_region 1 with fail;refine region_seq 25 rfl ?_;simp only[List.range,List.range.loop]
 iterate 4 refine Zq ?_
 refine Zr ?_
 iterate 6 refine Zq ?_
 (refine sq_bldS (by simp only[zK];rfl) (by rfl) rfl ?hx12 (hb1 _) ?n12;(case hx12=>(simp only[List.map_toArray,List.map_cons,List.map_nil,zM];(try rfl)));try simp only[zL])
 iterate 5 refine Zq ?_
 (refine sq_bldS (by simp only[zK];rfl) (by rfl) rfl ?hx18 (hb2 _) ?n18;(case hx18=>(simp only[List.map_toArray,List.map_cons,List.map_nil,zM];(try rfl)));try simp only[zL]);(refine sq_bldS (by simp only[zK];rfl) (by rfl) rfl ?hx19 (hb _) ?n19;(case hx19=>(simp only[List.map_toArray,List.map_cons,List.map_nil,zM];(try rfl)));try simp only[zL]);refine Zq ?_;(refine sq_new (by simp only[zK];rfl) (by rfl) rfl ?hx21 ((bsPage (.s a n (bs3 x y 1) (bs3 x y 2))) _) (fun q27 wn gq27 kq27 mq27=> ?n21);(case hx21=>(simp only[List.map_toArray,List.map_cons,List.map_nil,zM];(try rfl)));try simp only[zL]);have hone:SlAt pgc 1 wn (some ⟨q27,0,none⟩) [(.s a n (bs3 x y 1) (bs3 x y 2):Pg)]:=SlAt.one kq27 _ rfl rfl;obtain⟨v3,w3,hap,hO3,m3,hn3⟩:=SlOwn.appendB pageT (c:=1) (HO.out.mod0 mq27) hone (by have:=HL.out;simp;omega) (by have:=HL.out;simp;omega) (by have:=Ls kr;have:=mq27.size;omega) 62;have hlo:=HO.out.lt;obtain⟨va,vc,rfl,_⟩:=hO3.at pageT;have HO3:=Hi hO3;have kr3:w3.heap[r]? =_:=m3.at (mq27.at0 kr) (fun e=>by have:=(hlo r e).1;omega);replace kr:=kr3;have mA:Mod (Bkv r (.slice pa L.length pc)) w1 wn:=mq27.mono (fun _ _ h=>h.elim);have HM3:Hid (Mod (Bkv r (.slice pa L.length pc)) w1 w3):=Hi (mA.then m3 (fun i hi e=> .inr e));have HNX:Hid (∀i,(Value.slice va (L++[(.s a n (bs3 x y 1) (bs3 x y 2):Pg)]).length vc).ownBlock=some i→(Value.slice pa L.length pc).ownBlock=some i∨(w1:World).heap.size≤i):=Hi (fun i hi=>by
  rcases hn3 with h|h
  ·exact .inl (h.symm.trans hi)
  ·rw[h]at hi;cases hi;exact .inr mq27.size)
 clear hone m3 hn3 hO3 hlo mq27 kr3 mA;(refine sq_append (by simp only[zK];rfl) (by rfl) rfl ?hx22 ?hz22 hap ?n22;(case hx22=>simp only[zM];try rfl);(case hz22=>simp only[zM];try rfl);try simp only[zL])
 iterate 2 refine Zq ?_
 refine ZT ?_;refine ZQ kr fun wn kr mS=> ?_;refine sq_nil ?_;have mB:Mod (Bkv r (.slice pa L.length pc)) w1 wn:=HM3.out.then mS (fun i hi e=> .inl e);have hO4:=HO3.out.mod mS (fun b hb' e=>by have e':b=r:=e;have:=(HO3.out.lt b hb').1;omega);have HF:=Hi (Ai hO4 mB);clear hO4 mB mS;go_wp2_with fail;go_end0;have kr2:=kr;exact⟨rfl,_,_,_,⟨by simpa using kr2,HF.out.1⟩,HF.out.2,HNX.out⟩
theorem Keys_c (r:Nat) (L:List Pg) (v:Value) (hL:L.length≤1000000000) (a:Option Addr) (n:Nat) (w:World) (h:BookV w r L v):Calls Tryz.prog 104 #[.pointer (some ⟨r,0,none⟩),.slice a n n] w fun e w'=>e= .returned (.tuple #[])∧∃h f,BkP r L [.k a n h f] v w w':=by
 have hnum:=number_c r L w ⟨v,h⟩ hL;obtain⟨m,hm⟩:∃m,m=L.length+1:=⟨_,rfl⟩;rw[←hm]at hnum;obtain⟨kr,hO⟩:=h;obtain⟨pa,pc,rfl,_⟩:=hO.at pageT;have HO:=Hi hO;have HL:=Hi hL;have Hm:=Hi hm;have hmb:m≤1000000001:=by omega
 clear hO hL hm;go_enter Tryz.func104,Tryz.ntmps104;go_wp2_with fail;go_at_call 60;refine hnum.mono ?_;rintro e w1 ⟨rfl,rfl⟩;clear hnum;obtain⟨x,hx⟩:=byteOf m;obtain⟨y,hy'⟩:=byteOf (m/256);have hy:IntKind.u8.wrap ((m:Int)/256)=(y.toNat:Int):=by
  rw[←hy'];congr 1
 have HKX:=Hi (Ai hx hy);clear hy hy' hx;have hsh:=bldShK a n (bk3 x y 1) (bk3 x y 2);have hbp:=bsPage (.k a n (bk3 x y 1) (bk3 x y 2));go_upto_region 1 with fail;have Lkr:=Ls kr;refine ZR (fun _ args v=>(args= #[.int .i64 (m:Int),.int .u8 1]→v= .agg (kc (bk3 x y 1)))∧(args= #[.int .i64 (m:Int),.int .u8 2]→v= .agg (kc (bk3 x y 2)))) [0,0,0,0,1,0,0,2,0,2,0,0,3,5,0,0,6] ?_
 iterate 7 first|refine Zv ?_|refine Zd ?_
 (refine Zc ?_ (s:=by intro wq hSq;exact(keyG_c m (by omega) HKX.out.1 HKX.out.2 1 wq).mono (fun e w' h=>⟨_,h.1,⟨fun _=>rfl,fun e=>by simp at e⟩,h.2⟩));rintro _ hC;obtain rfl:=hC.1 rfl;try simp only[zL]);refine Zv ?_;(refine Zc ?_ (s:=by intro wq hSq;exact(keyG_c m (by omega) HKX.out.1 HKX.out.2 2 wq).mono (fun e w' h=>⟨_,h.1,⟨fun e=>by simp at e,fun _=>rfl⟩,h.2⟩));rintro _ hC;obtain rfl:=hC.2 rfl;try simp only[zL]);refine Zu hsh ?_;refine Zv ?_;refine Zy hbp fun p19 hp19=> ?_;refine Zi fun w2 hr=> ?_;replace kr:=hr.q kr;obtain⟨gp19,kp19⟩:=hr.b p19;have hmm:=hr.mod;clear hr hsh hbp;have hone:SlAt pgc 1 w2 (some ⟨p19,0,none⟩) [(.k a n (bk3 x y 1) (bk3 x y 2):Pg)]:=SlAt.one kp19 _ rfl rfl;obtain⟨v3,w3,hap,hO3,m3,hn3⟩:=SlOwn.appendB pageT (c:=1) (HO.out.mod0 hmm) hone (by have:=HL.out;simp;omega) (by have:=HL.out;simp;omega) (by have:=Ls kr;have:=hmm.size;omega) 62;have hlo:=HO.out.lt;obtain⟨va,vc,rfl,_⟩:=hO3.at pageT;have HO3:=Hi hO3;have kr3:w3.heap[r]? =_:=m3.at kr (fun e=>by have:=(hlo r e).1;omega);replace kr:=kr3;have mA:Mod (Bkv r (.slice pa L.length pc)) w1 w2:=hmm.mono (fun _ _ h=>h.elim);have HM3:Hid (Mod (Bkv r (.slice pa L.length pc)) w1 w3):=Hi (mA.then m3 (fun i hi e=> .inr e));have HNX:Hid (∀i,(Value.slice va (L++[(.k a n (bk3 x y 1) (bk3 x y 2):Pg)]).length vc).ownBlock=some i→(Value.slice pa L.length pc).ownBlock=some i∨(w1:World).heap.size≤i):=Hi (fun i hi=>by
  rcases hn3 with h|h
  ·exact .inl (h.symm.trans hi)
  ·rw[h]at hi;cases hi;exact .inr hmm.size)
 clear hone m3 hn3 hO3 hlo hmm kr3 mA;refine ZA hap ?_;refine Ze ?_;refine Ze ?_;refine Zz ?_;refine ZS ?_;refine ZN kr fun wn kr mS=> ?_;(try simp only[Array.setIfInBounds,zL]at kr);have mB:Mod (Bkv r (.slice pa L.length pc)) w1 wn:=HM3.out.then mS (fun i hi e=> .inl e);have hO4:=HO3.out.mod mS (fun b hb' e=>by have e':b=r:=e;have:=(HO3.out.lt b hb').1;omega);have HF:=Hi (Ai hO4 mB);clear hO4 mB mS;go_wp2_with fail;go_end0;have kr2:=kr;exact⟨rfl,_,_,_,⟨by simpa using kr2,HF.out.1⟩,HF.out.2,HNX.out⟩
theorem Roles_c (r:Nat) (L:List Pg) (v:Value) (hL:L.length≤1000000000) (a:Option Addr) (n:Nat) (w:World) (h:BookV w r L v):Calls Tryz.prog 61 #[.pointer (some ⟨r,0,none⟩),.slice a n n] w fun e w'=>e= .returned (.tuple #[])∧∃h f,BkP r L [.r a n h f] v w w':=by
 have hnum:=number_c r L w ⟨v,h⟩ hL;obtain⟨m,hm⟩:∃m,m=L.length+1:=⟨_,rfl⟩;rw[←hm]at hnum;obtain⟨kr,hO⟩:=h;obtain⟨pa,pc,rfl,_⟩:=hO.at pageT;have HO:=Hi hO;have HL:=Hi hL;have Hm:=Hi hm;have hmb:m≤1000000001:=by omega
 clear hO hL hm;go_enter Tryz.func61,Tryz.ntmps61;go_wp2_with fail;go_at_call 60;refine hnum.mono ?_;rintro e w1 ⟨rfl,rfl⟩;clear hnum;obtain⟨x,hx⟩:=byteOf m;obtain⟨y,hy'⟩:=byteOf (m/256);have hy:IntKind.u8.wrap ((m:Int)/256)=(y.toNat:Int):=by
  rw[←hy'];congr 1
 have HKX:=Hi (Ai hx hy);clear hy hy' hx;have hr1:=bRoleB (bk3 x y 1);have hr2:=bRoleB (bk3 x y 2);have hsh:=bldShR a n ⟨bk3 x y 1,false,false⟩ ⟨bk3 x y 2,false,false⟩;have hbp:=bsPage (.r a n ⟨bk3 x y 1,false,false⟩ ⟨bk3 x y 2,false,false⟩);go_upto_region 1 with fail;have Lkr:=Ls kr;refine ZR (fun _ args v=>(args= #[.int .i64 (m:Int),.int .u8 1]→v= .agg (kc (bk3 x y 1)))∧(args= #[.int .i64 (m:Int),.int .u8 2]→v= .agg (kc (bk3 x y 2)))) [0,0,0,0,1,0,0,2,0,0,2,0,0,0,3,5,0,0,6] ?_
 iterate 7 first|refine Zv ?_|refine Zd ?_
 (refine Zc ?_ (s:=by intro wq hSq;exact(keyG_c m (by omega) HKX.out.1 HKX.out.2 1 wq).mono (fun e w' h=>⟨_,h.1,⟨fun _=>rfl,fun e=>by simp at e⟩,h.2⟩));rintro _ hC;obtain rfl:=hC.1 rfl;try simp only[zL]);refine Zu hr1 ?_;refine Zv ?_;(refine Zc ?_ (s:=by intro wq hSq;exact(keyG_c m (by omega) HKX.out.1 HKX.out.2 2 wq).mono (fun e w' h=>⟨_,h.1,⟨fun e=>by simp at e,fun _=>rfl⟩,h.2⟩));rintro _ hC;obtain rfl:=hC.2 rfl;try simp only[zL]);refine Zu hr2 ?_;refine Zu hsh ?_;refine Zv ?_;refine Zy hbp fun p21 hp21=> ?_;refine Zi fun w2 hr=> ?_;replace kr:=hr.q kr;obtain⟨gp21,kp21⟩:=hr.b p21;have hmm:=hr.mod;clear hr hsh hbp hr1 hr2;have hone:SlAt pgc 1 w2 (some ⟨p21,0,none⟩) [(.r a n ⟨bk3 x y 1,false,false⟩ ⟨bk3 x y 2,false,false⟩:Pg)]:=SlAt.one kp21 _ rfl rfl;obtain⟨v3,w3,hap,hO3,m3,hn3⟩:=SlOwn.appendB pageT (c:=1) (HO.out.mod0 hmm) hone (by have:=HL.out;simp;omega) (by have:=HL.out;simp;omega) (by have:=Ls kr;have:=hmm.size;omega) 62;have hlo:=HO.out.lt;obtain⟨va,vc,rfl,_⟩:=hO3.at pageT;have HO3:=Hi hO3;have kr3:w3.heap[r]? =_:=m3.at kr (fun e=>by have:=(hlo r e).1;omega);replace kr:=kr3;have mA:Mod (Bkv r (.slice pa L.length pc)) w1 w2:=hmm.mono (fun _ _ h=>h.elim);have HM3:Hid (Mod (Bkv r (.slice pa L.length pc)) w1 w3):=Hi (mA.then m3 (fun i hi e=> .inr e));have HNX:Hid (∀i,(Value.slice va (L++[(.r a n ⟨bk3 x y 1,false,false⟩ ⟨bk3 x y 2,false,false⟩:Pg)]).length vc).ownBlock=some i→(Value.slice pa L.length pc).ownBlock=some i∨(w1:World).heap.size≤i):=Hi (fun i hi=>by
  rcases hn3 with h|h
  ·exact .inl (h.symm.trans hi)
  ·rw[h]at hi;cases hi;exact .inr hmm.size)
 clear hone m3 hn3 hO3 hlo hmm kr3 mA;refine ZA hap ?_;refine Ze ?_;refine Ze ?_;refine Zz ?_;refine ZS ?_;refine ZN kr fun wn kr mS=> ?_;(try simp only[Array.setIfInBounds,zL]at kr);have mB:Mod (Bkv r (.slice pa L.length pc)) w1 wn:=HM3.out.then mS (fun i hi e=> .inl e);have hO4:=HO3.out.mod mS (fun b hb' e=>by have e':b=r:=e;have:=(HO3.out.lt b hb').1;omega);have HF:=Hi (Ai hO4 mB);clear hO4 mB mS;go_wp2_with fail;go_end0;have kr2:=kr;exact⟨rfl,_,_,_,⟨by simpa using kr2,HF.out.1⟩,HF.out.2,HNX.out⟩
end Go.Proofs.YtiaehkkkcaeaiaaGreatDoor