/- The lemmas of the proof, part XO9: how the program and its data lie in memory, and what its functions do. -/
import Derived.Test.YtiaehkkkcaeaiaaGreatDoorXR8
set_option linter.unusedSimpArgs false
set_option linter.unusedVariables false
set_option linter.unusedSectionVars false

set_option maxRecDepth 20000
set_option maxHeartbeats 6400000
namespace Go.Proofs.YtiaehkkkcaeaiaaGreatDoor
open Go.RowKit
open Go.ChangeMaps (setBlock)
attribute [local go_sem↓] eqKey1 ldKey ldSg ldTc stKey stSg stTc wlKey wlTc
attribute [local go_sem] Value.cells cell_blk frozen_blk kc_ext kc_one kc_one0 kc_size one_bool one_int one_map one_ptr one_slice sgc_ext sgc_one' sgc_one0 sgc_size txr0 txr0' txr38 txr38' txr39 txr39' txr_all txr_one txr_one' txr_size zKey_size zTx_size
section
attribute [local go_sem↓] wlLo ldLo stLo wlIn ldIn stIn wlHdr ldHdr stHdr
attribute [local go_sem] txr2 txr5 txr2' txr5' txr_hd lor32 lor33 lor32' lor33' zLo_size lor_size lor_one inrR_size inrR_all inrR_one zInR_size inrR0 inrR1 inrR0' inrR1' zHdrR_size zTc_size zTc_ext zTc_all zTc_all0
theorem rcheck_c (x:RdR) (w:World) (h:TxRd w x):Calls Tryz.prog 56 #[.agg (txr x)] w fun e w'=>e= .returned (.int .i64 ((chkP (txP x):Nat):Int))∧Mod (fun _=>False) w w':=by
 have HX:=Hi h;have bS:x.sg.l.length≤1000000:=h.1.2;have bK:x.ks.l.length≤1000000:=h.2.1.2;have bI:x.ins.l.length≤1000000:=h.2.2.1.2.1;have bL:x.lks.l.length≤1000000:=h.2.2.2.2.1;obtain⟨r,hr0⟩:∃r,chkP (txP x)=r:=⟨_,rfl⟩;have HR:=Hi hr0;obtain⟨tt,htt⟩:∃t,totP (txP x)=t:=⟨_,rfl⟩;have HTT:=Hi htt;rw[hr0];obtain⟨a,ha⟩:∃k,x.h0.toNat=k:=⟨_,rfl⟩;obtain⟨b,hb⟩:∃k,x.h1.toNat=k:=⟨_,rfl⟩;obtain⟨c,hc⟩:∃k,x.h2.toNat=k:=⟨_,rfl⟩;have hab:a<256:=by rw[←ha];exact x.h0.toNat_lt
 have hcb:c<256:=by rw[←hc];exact x.h2.toNat_lt
 have hwa:IntKind.i64.wrap (a:Int)=(a:Int):=by rw[IntKind.wrap_i64];omega
 have hwc:IntKind.i64.wrap (c:Int)=(c:Int):=by rw[IntKind.wrap_i64];omega
 have hws:IntKind.i64.wrap ((a:Int)+(c:Int))=((a+c:Nat):Int):=by rw[IntKind.wrap_i64];omega
 obtain⟨s,hs⟩:∃s,a+c=s:=⟨_,rfl⟩;rw[hs]at hws;have HS:=Hi hs;have HH:=Hi (Ai ha (Ai hb hc));clear hs h hr0 htt;go_enter Tryz.func56,Tryz.ntmps56;go_upto_region 0 with fail;refine ZP0 [3,0] ?_;refine Zb fun p1 hp1=> ?_;refine Zv ?_;refine TD.nil (fun w1 hr=> ?_);obtain⟨gp1,kp1⟩:=hr.b p1;have HM1:=Hi hr.mod;clear hr;go_upto_region 1 with fail;have Lkp1:=Ls kp1;refine ZP0 [0,0,1,3,4] ?_
 iterate 3 first|refine Zv ?_|refine Zd ?_
 refine Za alHdr fun p3 hp3=> ?_;refine Zt ?_;refine TD.nil (fun w2 hr=> ?_);replace kp1:=hr.q kp1;obtain⟨gp3,kp3⟩:=hr.b p3;have HM2:=Hi (HM1.out.then0 hr.mod);clear hr;go_upto_region 2 with fail;have Lkp1:=Ls kp1;have Lkp3:=Ls kp3;refine ZP0 [0,0,1,0,0] ?_
 iterate 5 first|refine Zv ?_|refine Zd ?_
 refine TD.nil (fun w3 hr=> ?_);replace kp1:=hr.q kp1;replace kp3:=hr.q kp3;have HM3:=Hi (HM2.out.then0 hr.mod);clear hr;go_upto_region 3 with fail;have Lkp1:=Ls kp1;have Lkp3:=Ls kp3;refine ZR0 (fun _ _ v=>v= .int .i64 (tt:Int)) [1,2,0] ?_;refine Zd ?_;(refine Zc ?_ (s:=by intro wq hSq;exact(rtotal_c x wq (HX.out.mod0 (HM3.out.then0 hSq))).mono (fun e w' h=>⟨_,by rw[h.1,HTT.out],rfl,h.2⟩));rintro _ hC;subst hC;try simp only[zL]);refine Zv ?_;refine TD.nil (fun w4 hr=> ?_);replace kp1:=hr.q kp1;replace kp3:=hr.q kp3;have HM4:=Hi (HM3.out.then0 hr.mod);clear hr;have HRC:Hid (chkP (txP x)=if !signedP (txP x)then 6 else if !headedP (txP x)then 7 else if !lookedP (txP x)then 10 else if !fewP (txP x)then 3 else if !pointedP (txP x)then 8 else if !onceP (txP x)then 9 else 0):=Hi rfl;have hsg:signedP (txP x)=(decide (0<a)&&decide (x.sg.l.length=a)):=by rw[←ha];rfl
 have hhd:headedP (txP x)=(decide (b<a)&&decide (s≤x.ks.l.length)):=by rw[←HS.out,←ha,←hb,←hc];rfl
 have HSG:=Hi hsg;have HHD:=Hi hhd;clear hsg hhd;by_cases h0:a=0
 ·have HE:Hid (r=6):=Hi (by rw[←HR.out,HRC.out,HSG.out,h0];rfl);subst h0;go_wp2_with fail;go_ret;exact⟨by rw[HE.out];rfl,HM4.out⟩
 ·have hd1:decide (a=0)=false:=Df h0;have hd1':((a:Int)==0)=false:=by rw[beq_eq_false_iff_ne];omega
  by_cases h1:x.sg.l.length=a
  ·have hd2:((x.sg.l.length:Int) !=(a:Int))=false:=by simp[h1]
   have hd2':(x.sg.l.length !=a)=false:=by simp[h1]
   have HS1:Hid (signedP (txP x)=true):=Hi (by rw[HSG.out];simp[h1];omega);have HA:=Hi h1;clear h1;by_cases h2:b<a
   ·have hd3:decide ((b:Int)≥(a:Int))=false:=Df (by omega);have hd3':decide (a≤b)=false:=Df (by omega);by_cases h3:s≤x.ks.l.length
    ·have hd4:decide ((s:Int)>(x.ks.l.length:Int))=false:=Df (by omega);have hd4':decide (x.ks.l.length<s)=false:=Df (by omega);have HS2:Hid (headedP (txP x)=true):=Hi (by rw[HHD.out];simp[h2,h3]);go_wp2_with fail;clear hd1 hd1' hd2 hd2' hd3 hd3' hd4 hd4' h0 h2 h3 hwa hwc hws hab hcb;go_loopw [6] (fun s6 ws=>∃i:Nat,i≤x.lks.l.length∧s6= .int .i64 (i:Int)∧Hid (∀y∈x.lks.l.take i,¬(y.w.l.length+y.r.l.length=0))∧Mod (fun _=>False) w4 ws) (fun s6 _=>x.lks.l.length-(intOf s6).toNat)
     case atStart=>exact⟨0,by omega,rfl,Hi (by simp),Mod.refl _ _⟩
     case round=>
      obtain⟨i,hi,rfl,HN,hm⟩:=hrel;have HM5:=Hi (HM4.out.trans hm);replace kp1:=hm.at0 kp1;clear kp3;by_cases hlt:i<x.lks.l.length
      ·have hd:=Dt hlt;obtain⟨y,hy⟩:∃y,x.lks.l[i]? =some y:=⟨_,List.getElem?_eq_getElem (by omega)⟩;obtain⟨g,o,C,U,fr,hga,kg,he,hle⟩:=((HX.out.mod0 HM5.out).2.2.2.1).block hy;obtain⟨p,hp⟩:∃p,y.w.l.length=p:=⟨_,rfl⟩;obtain⟨q,hq⟩:∃q,y.r.l.length=q:=⟨_,rfl⟩;have h32:C[o+i*34+32]? =some (.slice y.w.a p y.w.c):=by rw[←hp];exact cellC he (j:=32) (lor32 y)
       have h33:C[o+i*34+33]? =some (.slice y.r.a q y.r.c):=by rw[←hq];exact cellC he (j:=33) (lor33 y)
       have HY:=Hi (Ai hy (Ai hp hq));have HM:=Hi hm;clear hy he hp hq hm;by_cases hp0:p=0
       ·by_cases hq0:q=0
        ·have HE:Hid (r=10):=Hi (by
          have:lookedP (txP x)=false:=by
           rw[←Bool.not_eq_true];intro h;have h2:=List.all_eq_true.1 h (loP y) (List.mem_map_of_mem (List.mem_of_getElem? HY.out.1));have h3:=of_decide_eq_true h2;apply h3;show y.w.l.length+y.r.l.length=0;rw[HY.out.2.1,HY.out.2.2,hp0,hq0]
          rw[←HR.out,HRC.out,HS1.out,HS2.out,this];rfl)
         have e1:((p:Int)==0)=true:=by simp[hp0]
         have e2:((q:Int)==0)=true:=by simp[hq0]
         have e3:decide (p=0)=true:=by simp[hp0]
         have e4:decide (q=0)=true:=by simp[hq0]
         clear hp0 hq0;go_wp2_with fail;go_ret;exact⟨by rw[HE.out];rfl,HM5.out⟩
        ·have HI:Hid (∀y∈x.lks.l.take (i+1),¬(y.w.l.length+y.r.l.length=0)):=Hi (fun z hz=>by
          rw[List.take_add_one,HY.out.1]at hz;rcases List.mem_append.1 hz with hz|hz
          ·exact HN.out z hz
          ·simp only[Option.toList_some,List.mem_singleton]at hz;rw[hz,HY.out.2.1,HY.out.2.2];omega)
         have e1:((p:Int)==0)=true:=by simp[hp0]
         have e2:((q:Int)==0)=false:=by rw[beq_eq_false_iff_ne];omega
         have e3:decide (p=0)=true:=by simp[hp0]
         have e4:decide (q=0)=false:=by simp[hq0]
         clear hp0 hq0;go_wp2_with fail;go_roundw
         case rel=>exact⟨i+1,by omega,by go_num,HI,HM.out⟩
         case measure=>simp[intOf];omega
       ·have HI:Hid (∀y∈x.lks.l.take (i+1),¬(y.w.l.length+y.r.l.length=0)):=Hi (fun z hz=>by
         rw[List.take_add_one,HY.out.1]at hz;rcases List.mem_append.1 hz with hz|hz
         ·exact HN.out z hz
         ·simp only[Option.toList_some,List.mem_singleton]at hz;rw[hz,HY.out.2.1,HY.out.2.2];omega)
        have e1:((p:Int)==0)=false:=by rw[beq_eq_false_iff_ne];omega
        have e3:decide (p=0)=false:=by simp[hp0]
        clear hp0;go_wp2_with fail;go_roundw
        case rel=>exact⟨i+1,by omega,by go_num,HI,HM.out⟩
        case measure=>simp[intOf];omega
      ·have hd:=Df hlt;have HS3:Hid (lookedP (txP x)=true):=Hi (by
        have h:=HN.out;rw[List.take_of_length_le (by omega)]at h;refine List.all_eq_true.2 fun z hz=> ?_;obtain⟨y,hy,rfl⟩:=List.mem_map.1 hz;exact Dt (h y hy))
       by_cases h64:tt≤64
       ·have hd5:decide ((tt:Int)>64)=false:=Df (by omega);have hd5':decide (64<tt)=false:=Df (by omega);have HS4:Hid (fewP (txP x)=true):=Hi (by unfold fewP;rw[HTT.out];exact Dt h64);go_wp2_with fail;clear hd hd5 hd5' HN hi hlt;have HM6:=HM5;clear HM5 hm;obtain⟨wa,rfl⟩:∃wa:World,wa=wr:=⟨_,rfl⟩;go_loopw [7] (fun s7 ws=>∃i:Nat,i≤x.ins.l.length∧s7= .int .i64 (i:Int)∧Hid (∀y∈x.ins.l.take i,pointP x.ks.l.length tt (inP y)=true)∧Mod (fun _=>False) wa ws) (fun s7 _=>x.ins.l.length-(intOf s7).toNat)
        case atStart=>exact⟨0,by omega,rfl,Hi (by simp),Mod.refl _ _⟩
        case round=>
         obtain⟨i,hi,rfl,HN,hm⟩:=hrel;have HM7:=Hi (HM6.out.trans hm);replace kp1:=hm.at0 kp1;by_cases hlt:i<x.ins.l.length
         ·have hd:=Dt hlt;obtain⟨y,hy⟩:∃y,x.ins.l[i]? =some y:=⟨_,List.getElem?_eq_getElem (by omega)⟩;obtain⟨g,o,C,U,fr,hga,kg,he,hle⟩:=((HX.out.mod0 HM7.out).2.2.1.1).block hy;obtain⟨pp,hpp⟩:∃k,y.p.toNat=k:=⟨_,rfl⟩;have hpb:pp<256:=by rw[←hpp];exact y.p.toNat_lt
          have hwp:IntKind.i64.wrap (pp:Int)=(pp:Int):=by rw[IntKind.wrap_i64];omega
          have HY:=Hi (Ai hy hpp);have HM:=Hi hm;clear hy hm;have HBAD:Hid (pointP x.ks.l.length tt (inP y)=false→r=8):=Hi (fun hb=>by
           have:pointedP (txP x)=false:=by
            rw[←Bool.not_eq_true];intro h;have h2:=List.all_eq_true.1 h (inP y) (List.mem_map_of_mem (List.mem_of_getElem? HY.out.1));rw[HTT.out]at h2;have h3:pointP x.ks.l.length tt (inP y)=true:=by simpa[txP,msgP] using h2
            rw[hb]at h3;cases h3
           rw[←HR.out,HRC.out,HS1.out,HS2.out,HS3.out,HS4.out,this];rfl)
          go_upto_region 18 with fail;have Lkp1:=Ls kp1;have Lkg:=Ls kg;refine ZP0 [0,0,1,0,0,1,3,4] ?_
          iterate 6 first|refine Zv ?_|refine Zd ?_
          refine Za alIn fun p8 hp8=> ?_;refine Zt ?_;refine TD.nil (fun w8 hr=> ?_);replace kp1:=hr.q kp1;replace kg:=hr.q kg;obtain⟨gp8,kp8⟩:=hr.b p8;have HM8:=Hi (HM7.out.then0 hr.mod);have HMi:=Hi (HM.out.then0 hr.mod);clear hr he hle kg hga;by_cases hp0:pp=0
          ·have HE:Hid (r=8):=Hi (HBAD.out (by unfold pointP;rw[show(inP y).p.toNat=pp from HY.out.2,hp0];rfl));have e1:((pp:Int)==0)=true:=by simp[hp0]
           have e2:decide (pp=0)=true:=by simp[hp0]
           clear hp0;go_wp2_with fail;go_ret;exact⟨by rw[HE.out];rfl,HM8.out⟩
          ·have e1:((pp:Int)==0)=false:=by rw[beq_eq_false_iff_ne];omega
           have e2:decide (pp=0)=false:=by simp[hp0]
           by_cases hpk:pp<x.ks.l.length
           ·have e3:decide ((pp:Int)≥(x.ks.l.length:Int))=false:=Df (by omega);have e4:decide (x.ks.l.length≤pp)=false:=Df (by omega);have HPK:=Hi (Ai hp0 hpk);have HAB:=Hi ((HX.out.2.2.1.2.2 y (List.mem_of_getElem? HY.out.1)).1.2);clear hp0 hpk;go_wp2_with fail;obtain⟨wb,rfl⟩:∃wb:World,wb=w8:=⟨_,rfl⟩;go_loopw [9] (fun s9 ws=>∃k:Nat,k≤y.a.l.length∧s9= .int .i64 (k:Int)∧Hid (∀c∈y.a.l.take k,c.toNat<tt)∧Mod (fun _=>False) wb ws) (fun s9 _=>y.a.l.length-(intOf s9).toNat)
            case atStart=>exact⟨0,by omega,rfl,Hi (by simp),Mod.refl _ _⟩
            case round=>
             obtain⟨k,hk,rfl,HNk,hmk⟩:=hrel;have HM9:=Hi (HM8.out.trans hmk);have HMk:=Hi hmk;replace kp1:=hmk.at0 kp1;replace kp8:=hmk.at0 kp8;clear hmk;have hbl:=HAB.out;by_cases hlk:k<y.a.l.length
             ·have hdk:=Dt hlk;obtain⟨z,hz⟩:∃z,y.a.l[k]? =some z:=⟨_,List.getElem?_eq_getElem (by omega)⟩;obtain⟨g,o,C,U,fr,hga,kg,he,hle⟩:=(((HX.out.mod0 HM9.out).2.2.1.2.2 y (List.mem_of_getElem? HY.out.1)).1.1).block hz;have c0:=cellC (j:=0) he (v:=u8v z) rfl;simp only[Nat.mul_one,Nat.add_zero]at c0;obtain⟨q,hq⟩:∃k,z.toNat=k:=⟨_,rfl⟩;have hqb:q<256:=by rw[←hq];exact z.toNat_lt
              have hwq:IntKind.i64.wrap (q:Int)=(q:Int):=by rw[IntKind.wrap_i64];omega
              have HZ:=Hi (Ai hz hq);clear hz he;by_cases hqt:q<tt
              ·have e5:decide ((q:Int)≥(tt:Int))=false:=Df (by omega);have e6:decide (tt≤q)=false:=Df (by omega);have HI:Hid (∀c∈y.a.l.take (k+1),c.toNat<tt):=Hi (fun v hv=>by
                rw[List.take_add_one,HZ.out.1]at hv;rcases List.mem_append.1 hv with hv|hv
                ·exact HNk.out v hv
                ·simp only[Option.toList_some,List.mem_singleton]at hv;rw[hv,HZ.out.2];exact hqt)
               go_wp2_with fail;go_roundw
               case rel=>exact⟨k+1,by omega,by go_num,HI,HMk.out⟩
               case measure=>simp[intOf];omega
              ·have HE:Hid (r=8):=Hi (HBAD.out (by
                rw[←Bool.not_eq_true];intro h;have h2:=(Bool.and_eq_true _ _▸h:_∧_).2;have h3:=of_decide_eq_true (List.all_eq_true.1 h2 z (List.mem_of_getElem? HZ.out.1));rw[HZ.out.2]at h3;exact hqt h3))
               have e5:decide ((q:Int)≥(tt:Int))=true:=Dt (by omega);have e6:decide (tt≤q)=true:=Dt (by omega);go_wp2_with fail;go_ret;exact⟨by rw[HE.out];rfl,HM9.out⟩
             ·have hdk:=Df hlk;have HI:Hid (∀v∈x.ins.l.take (i+1),pointP x.ks.l.length tt (inP v)=true):=Hi (fun v hv=>by
               rw[List.take_add_one,HY.out.1]at hv;rcases List.mem_append.1 hv with hv|hv
               ·exact HN.out v hv
               ·simp only[Option.toList_some,List.mem_singleton]at hv;have h:=HNk.out;rw[List.take_of_length_le (by omega)]at h;rw[hv];unfold pointP;rw[show(inP y).p.toNat=pp from HY.out.2,Dt HPK.out.1,Dt HPK.out.2];exact List.all_eq_true.2 fun c hc=>Dt (h c hc))
              have HMj:=Hi (HMi.out.trans HMk.out);go_wp2_with fail;go_roundw
              case rel=>exact⟨i+1,by omega,by go_num,HI,HMj.out⟩
              case measure=>simp[intOf];omega
           ·have e3:decide ((pp:Int)≥(x.ks.l.length:Int))=true:=Dt (by omega);have e4:decide (x.ks.l.length≤pp)=true:=Dt (by omega);have HE:Hid (r=8):=Hi (HBAD.out (by unfold pointP;rw[show(inP y).p.toNat=pp from HY.out.2,Df hpk];simp));clear hp0 hpk;go_wp2_with fail;go_ret;exact⟨by rw[HE.out];rfl,HM8.out⟩
         ·have hd:=Df hlt;have HS5:Hid (pointedP (txP x)=true):=Hi (by
           have h:=HN.out;rw[List.take_of_length_le (by omega)]at h;refine List.all_eq_true.2 fun z hz=> ?_;obtain⟨y,hy,rfl⟩:=List.mem_map.1 hz;rw[HTT.out];simpa[txP,msgP] using h y hy)
          go_wp2_with fail;clear hd HN hi hlt;have HM8:=HM7;clear HM7 hm;obtain⟨wc,rfl⟩:∃wc:World,wc=wr:=⟨_,rfl⟩;go_loopw [10] (fun s10 ws=>∃i:Nat,i≤x.ks.l.length∧s10= .int .i64 (i:Int)∧Hid (∀p q:Nat,p<q→q<i→x.ks.l[p]? ≠x.ks.l[q]?)∧Mod (fun _=>False) wc ws) (fun s10 _=>x.ks.l.length-(intOf s10).toNat)
          case atStart=>exact⟨0,by omega,rfl,Hi (fun p q _ h=>by omega),Mod.refl _ _⟩
          case round=>
           obtain⟨i,hi,rfl,HN,hm⟩:=hrel;have HM9:=Hi (HM8.out.trans hm);have HMi:=Hi hm;replace kp1:=hm.at0 kp1;clear hm;by_cases hlt:i<x.ks.l.length
           ·have hd:=Dt hlt;obtain⟨ki,hki⟩:∃y,x.ks.l[i]? =some y:=⟨_,List.getElem?_eq_getElem (by omega)⟩;have HKI:=Hi hki;clear hki;go_wp2_with fail;obtain⟨wd,rfl⟩:∃wd:World,wd=wr:=⟨_,rfl⟩;go_loopw [11] (fun s11 ws=>∃j:Nat,j≤i∧s11= .int .i64 (j:Int)∧Hid (∀p:Nat,p<j→x.ks.l[p]? ≠x.ks.l[i]?)∧Mod (fun _=>False) wd ws) (fun s11 _=>i-(intOf s11).toNat)
            case atStart=>exact⟨0,by omega,rfl,Hi (fun p h=>by omega),Mod.refl _ _⟩
            case round=>
             obtain⟨j,hj,rfl,HNj,hmj⟩:=hrel;have HMj:=Hi hmj;have HM10:=Hi (HM9.out.trans hmj);replace kp1:=hmj.at0 kp1;clear hmj;by_cases hlj:j<i
             ·have hdj:=Dt hlj;have hjlt:j<x.ks.l.length:=by omega
              obtain⟨kj,hkj⟩:∃y,x.ks.l[j]? =some y:=⟨_,List.getElem?_eq_getElem (by omega)⟩;have HKJ:=Hi hkj;obtain⟨g,o,C,U,fr,hga,kg,he,hle⟩:=((HX.out.mod0 HM10.out).2.1.1).block HKI.out;obtain⟨g2,o2,C2,U2,fr2,hga2,kg2,he2,hle2⟩:=((HX.out.mod0 HM10.out).2.1.1).block hkj;have hgg:=hga.symm.trans hga2;cases hgg;rw[kg]at kg2;cases kg2;clear hkj hga2;by_cases hkk:ki=kj
              ·have HE:Hid (r=9):=Hi (by
                have:onceP (txP x)=false:=by
                 refine Df fun h=> ?_;have h2:=List.pairwise_iff_getElem.1 (show x.ks.l.Pairwise (·≠·)from h) j i (by omega) hlt hlj;apply h2;have e1:=HKI.out;have e2:=HKJ.out;rw[List.getElem?_eq_getElem hlt]at e1;rw[List.getElem?_eq_getElem (by omega)]at e2;rw[Option.some.inj e1,Option.some.inj e2,hkk]
                rw[←HR.out,HRC.out,HS1.out,HS2.out,HS3.out,HS4.out,HS5.out,this];rfl)
               have e1:decide (ki=kj)=true:=Dt hkk;clear hkk;go_upto_region 32 with fail;have Lkp1:=Ls kp1;have Lkg:=Ls kg;refine ZP [0,0,1,0,0,1,0,0,1,0,0,1,0] ?_
               iterate 13 first|refine Zv ?_|refine Zd ?_
               refine TD.nil (fun w9 hr=> ?_);replace kp1:=hr.q kp1;replace kg:=hr.q kg;have HM11:=Hi (HM10.out.then0 hr.mod);clear hr he he2 hle hle2;go_wp2_with fail;go_ret;exact⟨by rw[HE.out];rfl,HM11.out⟩
              ·have e1:decide (ki=kj)=false:=Df hkk;have HI:Hid (∀p:Nat,p<j+1→x.ks.l[p]? ≠x.ks.l[i]?):=Hi (fun p hp=>by
                by_cases hpj:p<j
                ·exact HNj.out p hpj
                ·obtain rfl:p=j:=by omega
                 rw[HKI.out,HKJ.out];intro h;exact hkk (Option.some.inj h).symm)
               clear hkk;go_upto_region 32 with fail;have Lkp1:=Ls kp1;have Lkg:=Ls kg;refine ZP [0,0,1,0,0,1,0,0,1,0,0,1,0] ?_
               iterate 13 first|refine Zv ?_|refine Zd ?_
               refine TD.nil (fun w9 hr=> ?_);replace kp1:=hr.q kp1;replace kg:=hr.q kg;have HMj2:=Hi (HMj.out.then0 hr.mod);clear hr he he2 hle hle2;go_wp2_with fail;go_roundw
               case rel=>exact⟨j+1,by omega,by go_num,HI,HMj2.out⟩
               case measure=>simp[intOf];omega
             ·have hdj:=Df hlj;have HI:Hid (∀p q:Nat,p<q→q<i+1→x.ks.l[p]? ≠x.ks.l[q]?):=Hi (fun p q h1 h2=>by
               by_cases hq:q<i
               ·exact HN.out p q h1 hq
               ·obtain rfl:q=i:=by omega
                exact HNj.out p (by omega))
              have HMi2:=Hi (HMi.out.trans HMj.out);go_wp2_with fail;go_roundw
              case rel=>exact⟨i+1,by omega,by go_num,HI,HMi2.out⟩
              case measure=>simp[intOf];omega
           ·have hd:=Df hlt;have HE:Hid (r=0):=Hi (by
             have:onceP (txP x)=true:=by
              refine Dt (show x.ks.l.Pairwise (·≠·)from List.pairwise_iff_getElem.2 fun p q hp hq hpq h=> ?_);apply HN.out p q hpq (by omega);rw[List.getElem?_eq_getElem hp,List.getElem?_eq_getElem hq,h]
             rw[←HR.out,HRC.out,HS1.out,HS2.out,HS3.out,HS4.out,HS5.out,this];rfl)
            go_wp2_with fail;go_ret;exact⟨by rw[HE.out];rfl,HM9.out⟩
       ·have hd5:decide ((tt:Int)>64)=true:=Dt (by omega);have hd5':decide (64<tt)=true:=Dt (by omega);have HE:Hid (r=3):=Hi (by
         have:fewP (txP x)=false:=by unfold fewP;rw[HTT.out];exact Df h64
         rw[←HR.out,HRC.out,HS1.out,HS2.out,HS3.out,this];rfl)
        go_wp2_with fail;go_ret;exact⟨by rw[HE.out];rfl,HM5.out⟩
    ·have hd4:decide ((s:Int)>(x.ks.l.length:Int))=true:=Dt (by omega);have hd4':decide (x.ks.l.length<s)=true:=Dt (by omega);have HE:Hid (r=7):=Hi (by rw[←HR.out,HRC.out,HS1.out,HHD.out];simp[h3]);go_wp2_with fail;go_ret;exact⟨by rw[HE.out];rfl,HM4.out⟩
   ·have hd3:decide ((b:Int)≥(a:Int))=true:=Dt (by omega);have hd3':decide (a≤b)=true:=Dt (by omega);have HE:Hid (r=7):=Hi (by rw[←HR.out,HRC.out,HS1.out,HHD.out];simp[h2]);go_wp2_with fail;go_ret;exact⟨by rw[HE.out];rfl,HM4.out⟩
  ·have hd2:((x.sg.l.length:Int) !=(a:Int))=true:=by simp;omega
   have hd2':(x.sg.l.length !=a)=true:=by simp[h1]
   have HE:Hid (r=6):=Hi (by rw[←HR.out,HRC.out,HSG.out];simp[h1]);clear h1;go_wp2_with fail;go_ret;exact⟨by rw[HE.out];rfl,HM4.out⟩
end
section
attribute [local go_sem] txr2 txr5 txr2' txr5' txr_hd zTc_size zTc_ext zTc_all zTc_all0
def RwirP (w:World) (l:List UInt8) (e:Ending) (w':World):Prop:=Mod (fun _=>False) w w'∧match wireP l with
 | .ok x=>∃r,e= .returned (.tuple #[.agg (txr r),i64n 0])∧TxLd w.heap.size w' r∧txP r=x∧TxB x
 | .error n=>e= .returned (.tuple #[.agg zTc,i64n n])
theorem RwhoP.noOut {w w':World} {l:List UInt8} (h:RwhoP w l .outgrown w'):False:=by
 unfold RwhoP at h;split at h
 ·obtain⟨_,_,h,_⟩:=h;cases h
 ·cases h.2
theorem RwhoP.noPan {w w':World} {l:List UInt8} {ch:List PanicEntry} (h:RwhoP w l (.panicked ch) w'):False:=by
 unfold RwhoP at h;split at h
 ·obtain⟨_,_,h,_⟩:=h;cases h
 ·cases h.2
theorem rwire_c {a:Option Addr} {l:List UInt8} {c:Nat} (w:World) (hl:SlAt uc 1 w a l) (hc:l.length≤c) (hn:a=none→c=0) (hln:l.length≤900000) (hin:∀x,a=some x→x.block<w.heap.size):
  Calls Tryz.prog 16 #[.slice a l.length c] w (RwirP w l):=by
 have HG:=Hi (fun w1 (m:Mod (fun _=>False) w w1)=>rwhole_c (c:=c) w1 (hl.mod0 m) hc hn hln (by intro x h;exact Nat.lt_of_lt_of_le (hin x h) m.size));have hG:=HG.out;obtain⟨ll,hll⟩:∃ll,l.length=ll:=⟨_,rfl⟩;rw[hll]at hG;have HG2:=Hi hG;rw[hll];have hbt:=bTx0;have ha1:=alTx;clear hl hc hn hln hin hG HG hll;go_enter Tryz.func16,Tryz.ntmps16;go_upto_region 0 with fail;refine ZP0 [3,0] ?_;refine Za alTc fun p2 hp2=> ?_;refine Zv ?_;refine TD.nil (fun w1 hr=> ?_);obtain⟨gp2,kp2⟩:=hr.b p2;have HM1:=Hi hr.mod;clear hr;have hG:=HG2.out w1 HM1.out;go_upto_region 1 with fail;refine region_seq 8 rfl ?_;simp only[List.range,List.range.loop];refine Zq ?_;refine ZC hG ?hout (fun vn wn hR=> ?hret) (fun ch wn hR=> ?hpan)
 case hout=>exact fun w' h=>h.noOut
 case hpan=>exact hR.noPan.elim
 case hret=>
 obtain⟨hm,hr⟩:=hR;clear hG;have HM3:=Hi (HM1.out.trans hm);have HP2:=Hi (Ls kp2);replace kp2:=hm.at0 kp2;cases hres:wholeP l with
 |error e0=>
  rw[hres]at hr;simp only at hr;cases hr;have h1:=wP_ne l e0 hres;have he0:((e0:Int) !=0)=true:=by simp;omega
  have HE:Hid (wireP l= .error e0):=Hi (by unfold wireP;rw[hres]);clear hm hres h1;(try simp only[zL]);obtain⟨w4,rfl⟩:∃w4:World,w4=wn:=⟨_,rfl⟩
  iterate 3 refine Zq ?_
  (refine sq_alloc (by simp only[zK];rfl) (by rfl) rfl alTx (fun p4 wn gp4 kp4 mp4=> ?n8);try simp only[zL]);refine ZT ?_;refine ZQ kp4 fun wn kp4 mS=> ?_;refine Zq ?_;refine sq_nil ?_;have HM5:Hid (Mod (fun _=>False) w wn):=Hi ((HM3.out.trans mp4).then mS (fun i hi e=>by have:=HM3.out.size;omega));have hp24:p2<w4.heap.size:=Ls kp2;have kp2':wn.heap[p2]? =some (.cells zTc 35 (0,0)):=mS.at (mp4.at0 kp2) (fun e=>by omega);have kp2:=kp2';clear mS mp4 kp4 kp2' hp24 gp4;obtain⟨w5,rfl⟩:∃w5:World,w5=wn:=⟨_,rfl⟩;go_upto_region 3 with fail;have Lkp2:=Ls kp2;refine ZP0 [0,0,5,0] ?_;refine Zu hbt ?_;refine Zv ?_;refine Zi fun w6 hr=> ?_;replace kp2:=hr.q kp2;have HM8:=Hi (HM5.out.then0 hr.mod);clear hr;refine ZS ?_;refine ZM kp2 fun wn kp2 mS=> ?_;have HM9:=Hi (HM8.out.thenB mS (.inl gp2));clear mS;refine Ze ?_;refine TE.nil ?_;go_wp2_with fail;refine bodyPost_ret (results_ct rfl rfl (ldTcZ kp2)) rfl ?_;unfold RwirP;rw[HE.out];exact⟨HM9.out,rfl⟩
 |ok x=>
  rw[hres]at hr;obtain⟨r,hv0,hO,hrx,hB⟩:=hr;cases hv0;have HB:=Hi hB;have HO:=Hi hO;have HRX:=Hi hrx;clear hm hO hrx hB;(try simp only[zL]);obtain⟨w4,rfl⟩:∃w4:World,w4=wn:=⟨_,rfl⟩
  iterate 3 refine Zq ?_
  (refine sq_alloc (by simp only[zK];rfl) (by rfl) rfl alTx (fun p4 wn gp4 kp4 mp4=> ?n19);try simp only[zL]);refine ZT ?_;refine ZQ kp4 fun wn kp4 mS=> ?_;refine Zq ?_;refine sq_nil ?_;replace kp4:wn.heap[p4]? =some (.cells (txr r) 35 (0,0)):=kp4;have m4:Mod (fun _=>False) w4 wn:=mp4.then mS (fun i hi e=>by omega);have HM5:=Hi (HM3.out.trans m4);have HO5:=Hi (HO.out.mod0 m4);have kp2':=m4.at0 kp2;clear kp2;have kp2:=kp2';clear mS mp4 kp2' gp4 m4;obtain⟨w5,rfl⟩:∃w5:World,w5=wn:=⟨_,rfl⟩;obtain⟨n,hn⟩:∃n,chkP x=n:=⟨_,rfl⟩;have HN:=Hi hn;clear hn;go_upto_region 4 with fail;have Lkp2:=Ls kp2;have Lkp4:=Ls kp4;refine ZR0 (fun _ _ v=>v= .int .i64 (n:Int)) [1,2,0] ?_;refine Zd ?_;(refine Zc ?_ (s:=by intro wq hSq;exact(rcheck_c r wq ((HO5.out.mod0 hSq).rd (HRX.out▸HB.out))).mono (fun e w' h=>⟨_,by rw[h.1,HRX.out,HN.out],rfl,h.2⟩));rintro _ hC;subst hC;try simp only[zL]);refine Zv ?_;refine TD.nil (fun w5b hr=> ?_);replace kp2:=hr.q kp2;replace kp4:=hr.q kp4;have HM6:=Hi (HM5.out.then0 hr.mod);have HO6:=Hi (HO5.out.mod0 hr.mod);clear hr;by_cases hk:n=0
  ·have HE:Hid (wireP l= .ok x):=Hi (by unfold wireP;rw[hres];simp only;rw[if_pos (by rw[HN.out];exact hk)]);subst hk;clear hres;go_upto_region 7 with fail;have Lkp2:=Ls kp2;have Lkp4:=Ls kp4;refine ZP0 [1,5,0] ?_;refine Zd ?_;refine Zi fun w6 hr=> ?_;replace kp2:=hr.q kp2;replace kp4:=hr.q kp4;have kp2old:=Hi kp2;have HM8:=Hi (HM6.out.then0 hr.mod);have HO7:=Hi (HO6.out.mod0 hr.mod);clear hr;refine ZS ?_;refine ZM kp2 fun wn kp2 mS=> ?_;have HM9:=Hi (HM8.out.thenB mS (.inl gp2));have HO9:=Hi ((HO7.out.mod mS (fun g C E hg hk hE hs=>by
     have e':g=p2:=hs;subst e';rw[kp2old.out]at hk;cases hk
     revert hE
     decide)).base HM1.out.size)
   clear mS;refine Ze ?_;refine TE.nil ?_;go_wp2_with fail;refine bodyPost_ret (results_ct rfl rfl (ldTxr kp2)) rfl ?_;unfold RwirP;rw[HE.out];exact⟨HM9.out,r,rfl,HO9.out,HRX.out,HB.out⟩
  ·have HE:Hid (wireP l= .error n):=Hi (by unfold wireP;rw[hres];simp only;rw[if_neg (by rw[HN.out];exact hk),HN.out]);have he0:((n:Int) !=0)=true:=by simp;omega
   have he1:(n !=0)=true:=by simp;omega
   clear hres hk;go_upto_region 6 with fail;have Lkp2:=Ls kp2;have Lkp4:=Ls kp4;refine ZP0 [0,0,5,0] ?_;refine Zu hbt ?_;refine Zv ?_;refine Zi fun w6 hr=> ?_;replace kp2:=hr.q kp2;replace kp4:=hr.q kp4;have HM8:=Hi (HM6.out.then0 hr.mod);clear hr;refine ZS ?_;refine ZM kp2 fun wn kp2 mS=> ?_;have HM9:=Hi (HM8.out.thenB mS (.inl gp2));clear mS;refine Ze ?_;refine TE.nil ?_;go_wp2_with fail;refine bodyPost_ret (results_ct rfl rfl (ldTcZ kp2)) rfl ?_;unfold RwirP;rw[HE.out];exact⟨HM9.out,rfl⟩
end
section
attribute [local go_sem↓] wlLo ldLo stLo
attribute [local go_sem] lor32 lor33 lor32' lor33' zLo_size lor_size lor_one lor_key
theorem lor_eq32 {C:Array Value} {o:Nat} {y:LoR} (he:C.extract o (o+34)=lor y):C[o+32]? =some (.slice y.w.a y.w.l.length y.w.c):=cellC he (j:=32) (lor32 y)
theorem lor_eq33 {C:Array Value} {o:Nat} {y:LoR} (he:C.extract o (o+34)=lor y):C[o+33]? =some (.slice y.r.a y.r.l.length y.r.c):=cellC he (j:=33) (lor33 y)
def RfRes (T:TbL) (X:List LoR) (w:World) (e:Ending) (w':World):Prop:=Mod (fun _=>False) w w'∧match resP T (X.map loP) ([],[])with
 | .ok y=>∃va vb,e= .returned (.tuple #[va,vb,.int .i64 0])∧SlOwn kc 32 82 w' w.heap.size va y.1∧SlOwn kc 32 82 w' w.heap.size vb y.2
 | .error n=>e= .returned (.tuple #[.slice none 0 0,.slice none 0 0,.int .i64 (n:Int)])
theorem rresolve_c {b m:Nat} {T:TbL} {v:Value} {X:List LoR} {xa:Option Addr} {xc:Nat} (w:World) (H:RfA b m T v w) (hT:T.length≤100000) (hX:SlAt lor 34 w xa X) (hXl:∀y∈X,LoF w y) (hn:X.length≤1000000) (hs:loSum X≤800000):
  Calls Tryz.prog 46 #[pV m,.slice xa X.length xc] w (RfRes T X w):=by
 obtain⟨n,hnX⟩:∃n,X.length=n:=⟨_,rfl⟩;have HX:=Hi (Ai hX (Ai hXl (Ai hnX hs)));have HRG:=Hi (Ai H hT);rw[hnX]at hn⊢;clear hX hXl hnX hs H hT;go_enter Tryz.func46,Tryz.ntmps46;have HP0:Hid (resP T (X.map loP) ([],[])=resP T ((X.drop 0).map loP) ([],[])):=Hi (by rw[List.drop_zero]);go_wp2_with fail;go_loopw [7,8,9] (fun s7 s8 s9 ws=>∃(i:Nat) (Wl Rl:List Key),i≤n∧s9= .int .i64 (i:Int)∧Hid (SlOwn kc 32 82 ws w.heap.size s7 Wl∧SlOwn kc 32 82 ws w.heap.size s8 Rl∧Wl.length+Rl.length=loSum (X.take i)∧∀j,s7.ownBlock=some j→s8.ownBlock≠some j)∧Hid (resP T (X.map loP) ([],[])=resP T ((X.drop i).map loP) (Wl,Rl))∧Hid (Mod (fun _=>False) w ws)) (fun _ _ s9 _=>n-(intOf s9).toNat)
 case atStart=>exact⟨0,[],[],Nat.zero_le _,rfl,Hi ⟨SlOwn.nil _ _,SlOwn.nil _ _,by simp[loSum],fun j h=>by cases h⟩,HP0,Hi (Mod.refl _ _)⟩
 case round=>
  obtain⟨i,Wl,Rl,hi,rfl,HO,HP,HM⟩:=hrel;obtain⟨wa,rfl⟩:∃wa:World,wa=wr:=⟨_,rfl⟩;by_cases hlt:i<n
  ·have hd:=Dt hlt;obtain⟨y,hy⟩:∃y,X[i]? =some y:=⟨_,List.getElem?_eq_getElem (by have:=HX.out.2.2.1;omega)⟩;obtain⟨g,o,C,U,fr,rfl,kg0,he,hle⟩:=HX.out.1.block hy;have HGW:=Hi (Ls kg0);have kg:=HM.out.at0 kg0;clear kg0;have hke:=row_head he (lor_key y) (by omega);have hle2:o+i*34+32≤C.size:=by omega
   have hww:=lor_eq32 he;have hwr:=lor_eq33 he;have HY:=Hi hy;have HYF:=Hi (HX.out.2.1 y (List.mem_of_getElem? hy));have hF:=rfind_c y.t wa (HRG.out.1.mod0 HM.out) HRG.out.2;clear hy he hle;go_upto_region 5 with fail;refine region_seq 12 rfl ?_;simp only[List.range,List.range.loop]
   iterate 5 refine Zq ?_
   refine Zr ?_;refine ZC hF ?hout (fun vn wn hR=> ?hret) (fun ch wn hR=> ?hpan)
   case hout=>
    rintro w' ⟨_,h⟩;split at h
    ·obtain⟨_,h,_⟩:=h;cases h
    ·cases h
   case hpan=>
    exfalso;obtain⟨_,h⟩:=hR;split at h
    ·obtain⟨_,h,_⟩:=h;cases h
    ·cases h
   case hret=>
   obtain⟨hm,hr⟩:=hR;have HML:Hid (Mod (fun _=>False) w wn):=Hi (HM.out.trans hm);have HM2:=Hi hm;have kg':=hm.at0 kg;clear hF kg;cases hf:tbFind T y.t with
   |none=>
    rw[hf]at hr;cases hr;have HE:Hid (resP T (X.map loP) ([],[])= .error 11):=Hi (by rw[HP.out];exact res_none HY.out hf);clear hf hm;(try simp only[zL])
    iterate 5 refine Zq ?_
    refine sq_nil ?_;go_wp2_with fail;refine bodyPost_ret (results_tmp3 rfl _ _ _) rfl ?_;unfold RfRes;rw[HE.out];exact⟨HML.out,rfl⟩
   |some l2=>
    rw[hf]at hr;obtain⟨v2,e0,hO2⟩:=hr;cases e0;obtain⟨a2,c2,rfl,hs2,hb2,-⟩:=hO2.at keysT;obtain⟨nL,hnL⟩:∃n,l2.length=n:=⟨_,rfl⟩;have HNL:=Hi hnL;have HFT:=Hi hf;have hz7:=HO.out.1.lt;have hz8:=HO.out.2.1.lt;have HZ:=Hi (Ai (fun j h=>(hz7 j h).2) (fun j h=>(hz8 j h).2));have HLE:Hid (Wl.length≤800000∧Rl.length≤800000∧y.w.l.length≤65535∧y.r.l.length≤65535):=Hi (by
     have h1:=HO.out.2.2.1;have h2:loSum (X.take i)≤loSum X:=by
      conv=>rhs;rw[←List.take_append_drop i X]
      unfold loSum;rw[List.map_append,List.sum_append];omega
     have h3:=HX.out.2.2.2;exact⟨by omega,by omega,HYF.out.1.2.2,HYF.out.2.2.2⟩)
    have HSL:Hid (SlAt kc 32 wn a2 l2∧∀g o,a2=some ⟨g,o,none⟩→wa.heap.size≤g):=Hi ⟨hs2,fun g o e=>(hb2 _ e).1⟩;have HO7:=Hi (HO.out.1.mod0 hm);have HO8:=Hi (HO.out.2.1.mod0 hm);obtain⟨a4,c4,rfl,_⟩:=HO.out.1.at keysT;obtain⟨a5,c5,rfl,_⟩:=HO.out.2.1.at keysT;rw[hnL];clear hf hm hO2 hs2 hb2 hnL hz7 hz8;(try simp only[zL])
    iterate 5 refine Zq ?_
    refine sq_nil ?_;obtain⟨wl,rfl⟩:∃wl:World,wl=wn:=⟨_,rfl⟩;obtain⟨nA,hnA⟩:∃n,y.w.l.length=n:=⟨_,rfl⟩;have HNA:=Hi hnA;have hnAb:nA≤65535:=by rw[←hnA];exact HYF.out.1.2.2
    rw[hnA]at hww;clear hnA;have HKG:=Hi kg';go_wp2_with fail;go_loopw [7,12] (fun sv si ws=>∃(k:Nat) (P:List Key),k≤nA∧si= .int .i64 (k:Int)∧Hid (SlOwn kc 32 82 ws w.heap.size sv (Wl++P)∧P.length=k)∧Hid (pickP l2 y.w.l=preK P (pickP l2 (y.w.l.drop k)))∧Hid (Mod (fun j=>(Value.slice a4 Wl.length c4).ownBlock=some j) wl ws)∧Hid (∀j,sv.ownBlock=some j→(Value.slice a4 Wl.length c4).ownBlock=some j∨wl.heap.size≤j)) (fun _ si _=>nA-(intOf si).toNat)
    case atStart=>exact⟨0,[],Nat.zero_le _,rfl,Hi ⟨by rw[List.append_nil];exact HO7.out,rfl⟩,Hi (by rw[preK_nil,List.drop_zero]),Hi (Mod.refl _ _),Hi (fun j h=> .inl h)⟩
    case round=>
     obtain⟨k,P,hk,rfl,HOk,HPk,HMk,HXk⟩:=hrel;have HMW:Hid (Mod (fun _=>False) w wr):=Hi (HML.out.then HMk.out (fun j hj e=>by have:=(HO7.out.lt j e).1;omega));have kg:=HMk.out.at HKG.out (fun e=>by have:=(HO7.out.lt _ e).1;have:=HGW.out;omega);by_cases hlk:k<nA
     ·have hdk:=Dt hlk;obtain⟨c,hc⟩:∃c,y.w.l[k]? =some c:=⟨_,List.getElem?_eq_getElem (by have:=HNA.out;omega)⟩;obtain⟨gb,ob,Cb,Ub,frb,hya,kb,heb,hleb⟩:=(HYF.out.1.1.mod HMW.out (fun _ _ _ h=>h)).block hc;have c0:=cellC heb (j:=0) (v:=u8v c) rfl;simp only[Nat.mul_one,Nat.add_zero]at c0;have hw:=hww;rw[hya]at hw;have HCC:=Hi hc;obtain⟨q,hq⟩:∃q,c.toNat=q:=⟨_,rfl⟩;have hqb:q<256:=by rw[←hq];exact c.toNat_lt
      have hwq:IntKind.i64.wrap (q:Int)=(q:Int):=by rw[IntKind.wrap_i64];omega
      replace c0:Cb[ob+k]? =some (.int .u8 (q:Int)):=by rw[←hq];exact c0
      have HQ:=Hi hq;clear heb hleb hc hq;by_cases hge:nL≤q
      ·have hd2:=Dt hge;have HE:Hid (resP T (X.map loP) ([],[])= .error 8):=Hi (by rw[HP.out];exact res_bad HY.out HFT.out (.inl (by rw[HPk.out,preK_none HCC.out (by rw[HQ.out,HNL.out];exact hge)])));go_wp2_with fail;refine bodyPost_ret (results_tmp3 rfl _ _ _) rfl ?_;unfold RfRes;rw[HE.out];exact⟨HMW.out,rfl⟩
      ·have hd2:=Df hge;have hql:q<nL:=by omega
       obtain⟨z,hz⟩:∃z,l2[q]? =some z:=⟨_,List.getElem?_eq_getElem (by have:=HNL.out;omega)⟩;obtain⟨gk,ok,Ck,Uk,frk,rfl,kl,hek,hlek⟩:=(HSL.out.1.mod HMk.out (fun g3 o3 e hs=>by have h1:=HSL.out.2 g3 o3 e;have h2:=HZ.out.1 g3 hs;omega)).block hz;have HPN:Hid (pickP l2 y.w.l=preK (P++[z]) (pickP l2 (y.w.l.drop (k+1)))):=Hi (by rw[HPk.out,preK_step HCC.out (by rw[HQ.out];exact hz)]);clear hz;have hbs:=bsKeyT z;obtain⟨a2,c2,rfl,_⟩:=HOk.out.1.at keysT;generalize hll:(Wl++P).length=ll at *;have HLL:Hid (ll=Wl.length+k):=Hi (by rw[←hll,List.length_append,HOk.out.2]);clear hll;go_upto_region 13 with fail;have Lkg:=Ls kg;have Lkb:=Ls kb;have Lkl:=Ls kl;refine ZP0 [0,0,0,0,0,0,1,0,0,1,0,1,3,5,0] ?_
       iterate 12 first|refine Zv ?_|refine Zd ?_
       refine Zy hbs fun p67 hp67=> ?_;refine Zi fun w3 hr=> ?_;replace kg:=hr.q kg;replace kb:=hr.q kb;replace kl:=hr.q kl;obtain⟨gp67,kp67⟩:=hr.b p67;have HM3:=Hi (HMk.out.then0 hr.mod);have HO3:=Hi (HOk.out.1.mod0 hr.mod);have hsz:=hr.mod.size;have HSW:Hid (w.heap.size≤w3.heap.size):=Hi (Nat.le_trans HMW.out.size hsz);clear hr hbs hek hlek kl kb kg c0 hw hya;obtain⟨v5,w5,hap,hO5,m5,hn5⟩:=SlOwn.append keysT (q:=[z]) (c:=1) HO3.out (SlAt.one kp67 z rfl (kc_size _)) (by have:=HLE.out;have:=HNA.out;have:=HLL.out;simp only[List.length_append,List.length_singleton];have:=HOk.out.2;omega) (by decide) HSW.out 27;have HO5:Hid (SlOwn kc 32 82 w5 w.heap.size v5 (Wl++(P++[z]))∧(P++[z]).length=k+1):=Hi ⟨by rw[←List.append_assoc];exact hO5,by rw[List.length_append,HOk.out.2];rfl⟩;have HM5:Hid (Mod (fun j=>(Value.slice a4 Wl.length c4).ownBlock=some j) wl w5):=Hi (HM3.out.then m5 (fun j hj e=>by
        rcases HXk.out j e with h|h
        ·exact h
        ·omega))
       have HX5:Hid (∀j,v5.ownBlock=some j→(Value.slice a4 Wl.length c4).ownBlock=some j∨wl.heap.size≤j):=Hi (fun j hj=>by
        rcases hn5 with h|h
        ·exact HXk.out j (h.symm.trans hj)
        ·rw[h]at hj;cases hj;exact .inr HM3.out.size)
       clear hO5 m5 hn5 kp67;refine ZA hap ?_;refine Ze ?_;refine TE.nil ?_;go_wp2_with fail;go_roundw
       case rel=>exact⟨k+1,P++[z],by omega,by go_num,HO5,HPN,HM5,HX5⟩
       case measure=>simp[intOf];omega
     ·have hdk:=Df hlk;have HPE:Hid (pickP l2 y.w.l=some P):=Hi (by
       rw[HPk.out,List.drop_of_length_le (by have:=HNA.out;omega)];simp[preK,pickP])
      have hw:=hww;clear hlk;go_wp2_with fail;obtain⟨A1,rfl⟩:∃A,A=P:=⟨_,rfl⟩;obtain⟨a6,c6,rfl,_⟩:=HOk.out.1.at keysT;have HO8b:Hid (SlOwn kc 32 82 wr w.heap.size (.slice a5 Rl.length c5) Rl):=Hi (HO8.out.mod HMk.out (fun j hj e=>HO.out.2.2.2 j e hj));have HSL2:Hid (SlAt kc 32 wr a2 l2∧∀g o,a2=some ⟨g,o,none⟩→wa.heap.size≤g):=Hi ⟨HSL.out.1.mod HMk.out (fun g3 o3 e hs=>by have h1:=HSL.out.2 g3 o3 e;have h2:=HZ.out.1 g3 hs;omega),HSL.out.2⟩;have H1:=HPE;have HO7k:=HOk;have HX7:=HXk;have HM7:=HMk;replace HML:=HMW;replace HSL:=HSL2;replace HKG:=Hi kg;have HWW:Hid (wa.heap.size≤wl.heap.size):=Hi (by have:=HM2.out.size;exact this);clear HPE HOk HXk HMk HMW HSL2 kg hdk hw HPk HNA;obtain⟨wm,rfl⟩:∃wm:World,wm=wr:=⟨_,rfl⟩;obtain⟨nB,hnA⟩:∃n,y.r.l.length=n:=⟨_,rfl⟩;have HNA:=Hi hnA;have hnBb:nB≤65535:=by rw[←hnA];exact HYF.out.2.2.2
      rw[hnA]at hwr;generalize hl6:(Wl++A1).length=n6 at *;have HL6:=Hi hl6;clear hnA hl6;go_loopw [8,13] (fun sv si ws=>∃(k:Nat) (P:List Key),k≤nB∧si= .int .i64 (k:Int)∧Hid (SlOwn kc 32 82 ws w.heap.size sv (Rl++P)∧P.length=k)∧Hid (pickP l2 y.r.l=preK P (pickP l2 (y.r.l.drop k)))∧Hid (Mod (fun j=>(Value.slice a5 Rl.length c5).ownBlock=some j) wm ws)∧Hid (∀j,sv.ownBlock=some j→(Value.slice a5 Rl.length c5).ownBlock=some j∨wm.heap.size≤j)) (fun _ si _=>nB-(intOf si).toNat)
      case atStart=>exact⟨0,[],Nat.zero_le _,rfl,Hi ⟨by rw[List.append_nil];exact HO8b.out,rfl⟩,Hi (by rw[preK_nil,List.drop_zero]),Hi (Mod.refl _ _),Hi (fun j h=> .inl h)⟩
      case round=>
       obtain⟨k,P,hk,rfl,HOk,HPk,HMk,HXk⟩:=hrel;have HMW:Hid (Mod (fun _=>False) w wr):=Hi (HML.out.then HMk.out (fun j hj e=>by have:=(HO8b.out.lt j e).1;omega));have kg:=HMk.out.at HKG.out (fun e=>by have:=(HO8b.out.lt _ e).1;have:=HGW.out;omega);by_cases hlk:k<nB
       ·have hdk:=Dt hlk;obtain⟨c,hc⟩:∃c,y.r.l[k]? =some c:=⟨_,List.getElem?_eq_getElem (by have:=HNA.out;omega)⟩;obtain⟨gb,ob,Cb,Ub,frb,hya,kb,heb,hleb⟩:=(HYF.out.2.1.mod HMW.out (fun _ _ _ h=>h)).block hc;have c0:=cellC heb (j:=0) (v:=u8v c) rfl;simp only[Nat.mul_one,Nat.add_zero]at c0;have hw:=hwr;rw[hya]at hw;have HCC:=Hi hc;obtain⟨q,hq⟩:∃q,c.toNat=q:=⟨_,rfl⟩;have hqb:q<256:=by rw[←hq];exact c.toNat_lt
        have hwq:IntKind.i64.wrap (q:Int)=(q:Int):=by rw[IntKind.wrap_i64];omega
        replace c0:Cb[ob+k]? =some (.int .u8 (q:Int)):=by rw[←hq];exact c0
        have HQ:=Hi hq;clear heb hleb hc hq;by_cases hge:nL≤q
        ·have hd2:=Dt hge;have HE:Hid (resP T (X.map loP) ([],[])= .error 8):=Hi (by rw[HP.out];exact res_bad HY.out HFT.out (.inr (by rw[HPk.out,preK_none HCC.out (by rw[HQ.out,HNL.out];exact hge)])));go_wp2_with fail;refine bodyPost_ret (results_tmp3 rfl _ _ _) rfl ?_;unfold RfRes;rw[HE.out];exact⟨HMW.out,rfl⟩
        ·have hd2:=Df hge;have hql:q<nL:=by omega
         obtain⟨z,hz⟩:∃z,l2[q]? =some z:=⟨_,List.getElem?_eq_getElem (by have:=HNL.out;omega)⟩;obtain⟨gk,ok,Ck,Uk,frk,rfl,kl,hek,hlek⟩:=(HSL.out.1.mod HMk.out (fun g3 o3 e hs=>by have h1:=HSL.out.2 g3 o3 e;have h2:=HZ.out.2 g3 hs;omega)).block hz;have HPN:Hid (pickP l2 y.r.l=preK (P++[z]) (pickP l2 (y.r.l.drop (k+1)))):=Hi (by rw[HPk.out,preK_step HCC.out (by rw[HQ.out];exact hz)]);clear hz;have hbs:=bsKeyT z;obtain⟨a2,c2,rfl,_⟩:=HOk.out.1.at keysT;generalize hll:(Rl++P).length=ll at *;have HLL:Hid (ll=Rl.length+k):=Hi (by rw[←hll,List.length_append,HOk.out.2]);clear hll;go_upto_region 19 with fail;have Lkg:=Ls kg;have Lkb:=Ls kb;have Lkl:=Ls kl;refine ZP0 [0,0,0,0,0,0,1,0,0,1,0,1,3,5,0] ?_
         iterate 12 first|refine Zv ?_|refine Zd ?_
         refine Zy hbs fun p103 hp103=> ?_;refine Zi fun w3 hr=> ?_;replace kg:=hr.q kg;replace kb:=hr.q kb;replace kl:=hr.q kl;obtain⟨gp103,kp103⟩:=hr.b p103;have HM3:=Hi (HMk.out.then0 hr.mod);have HO3:=Hi (HOk.out.1.mod0 hr.mod);have hsz:=hr.mod.size;have HSW:Hid (w.heap.size≤w3.heap.size):=Hi (Nat.le_trans HMW.out.size hsz);clear hr hbs hek hlek kl kb kg c0 hw hya;obtain⟨v5,w5,hap,hO5,m5,hn5⟩:=SlOwn.append keysT (q:=[z]) (c:=1) HO3.out (SlAt.one kp103 z rfl (kc_size _)) (by have:=HLE.out;have:=HNA.out;have:=HLL.out;simp only[List.length_append,List.length_singleton];have:=HOk.out.2;omega) (by decide) HSW.out 27;have HO5:Hid (SlOwn kc 32 82 w5 w.heap.size v5 (Rl++(P++[z]))∧(P++[z]).length=k+1):=Hi ⟨by rw[←List.append_assoc];exact hO5,by rw[List.length_append,HOk.out.2];rfl⟩;have HM5:Hid (Mod (fun j=>(Value.slice a5 Rl.length c5).ownBlock=some j) wm w5):=Hi (HM3.out.then m5 (fun j hj e=>by
          rcases HXk.out j e with h|h
          ·exact h
          ·omega))
         have HX5:Hid (∀j,v5.ownBlock=some j→(Value.slice a5 Rl.length c5).ownBlock=some j∨wm.heap.size≤j):=Hi (fun j hj=>by
          rcases hn5 with h|h
          ·exact HXk.out j (h.symm.trans hj)
          ·rw[h]at hj;cases hj;exact .inr HM3.out.size)
         clear hO5 m5 hn5 kp103;refine ZA hap ?_;refine Ze ?_;refine TE.nil ?_;go_wp2_with fail;go_roundw
         case rel=>exact⟨k+1,P++[z],by omega,by go_num,HO5,HPN,HM5,HX5⟩
         case measure=>simp[intOf];omega
       ·have hdk:=Df hlk;have HPE:Hid (pickP l2 y.r.l=some P):=Hi (by
         rw[HPk.out,List.drop_of_length_le (by have:=HNA.out;omega)];simp[preK,pickP])
        have hw:=hwr;clear hlk;have HPN:Hid (resP T (X.map loP) ([],[])=resP T ((X.drop (i+1)).map loP) (Wl++A1,Rl++P)):=Hi (by rw[HP.out];exact res_step HY.out HFT.out H1.out HPE.out);have HON:Hid (SlOwn kc 32 82 wr w.heap.size (.slice a6 n6 c6) (Wl++A1)∧SlOwn kc 32 82 wr w.heap.size _ (Rl++P)∧(Wl++A1).length+(Rl++P).length=loSum (X.take (i+1))∧∀j,(Value.slice a6 n6 c6).ownBlock=some j→_≠some j):=Hi (by
         have h7:=HO7k.out.1.lt;refine⟨HO7k.out.1.mod HMk.out (fun j hj e=> ?_),HOk.out.1,?_,fun j hj e=> ?_⟩
         ·have h8:=HZ.out.2 j e;rcases HX7.out j hj with h|h
          ·exact HO.out.2.2.2 j h e
          ·have:=HWW.out;omega
         ·rw[List.length_append,List.length_append,pick_len H1.out,pick_len HPE.out,loSum_snoc HY.out,←HO.out.2.2.1];omega
         ·have h9:=(h7 j hj).2;rcases HXk.out j e with h|h
          ·have h8:=HZ.out.2 j h;rcases HX7.out j hj with h'|h'
           ·exact HO.out.2.2.2 j h' h
           ·have:=HWW.out;omega
          ·omega)
        go_wp2_with fail;go_roundw
        case rel=>exact⟨i+1,Wl++A1,Rl++P,by omega,by go_num,HON,HPN,HMW⟩
        case measure=>simp[intOf];omega
  ·have hd:=Df hlt;have HE:Hid (resP T (X.map loP) ([],[])= .ok (Wl,Rl)):=Hi (by
    rw[HP.out,List.drop_of_length_le (by have:=HX.out.2.2.1;omega)];rfl)
   go_wp2_with fail;refine bodyPost_ret (results_tmp3 rfl _ _ _) rfl ?_;unfold RfRes;rw[HE.out];exact⟨HM.out,_,_,rfl,HO.out.1,HO.out.2.1⟩
end
theorem ldKeyK {w:World} {p:Nat} {k:Key} {U:TypeId} {fr:Nat×Nat} (h:w.heap[p]? =some (.cells (kc k) U fr)):(Instr.loadAt 82 (.pointer (some ⟨p,0,none⟩))).run Tryz.prog w= .ok (.agg (kc k)) w:=by
 rw[ldKey,h];simp[kc_size,kc_ext]
theorem rsys_c (w:World):Calls Tryz.prog 91 #[] w fun e w'=>e= .returned (.agg (kc key0))∧Mod (fun _=>False) w w':=by
 have hb:=bK0;go_enter Tryz.func91,Tryz.ntmps91;go_upto_region 0 with fail;refine ZP0 [3] ?_;refine Za alKey fun p0 hp0=> ?_;refine TD.nil (fun w1 hr=> ?_);obtain⟨gp0,kp0⟩:=hr.b p0;have HM1:=Hi hr.mod;clear hr;go_upto_region 1 with fail;have Lkp0:=Ls kp0;refine ZP0 [0,5] ?_;refine Zu hb ?_;refine Zi fun w2 hr=> ?_;replace kp0:=hr.q kp0;have HM2:=Hi (HM1.out.then0 hr.mod);clear hr;refine ZS ?_;refine ZN kp0 fun wn kp0 mS=> ?_;have HM3:=Hi (HM2.out.thenB mS (.inl gp0));clear mS;go_wp2_with fail;refine bodyPost_ret (results_cell1 rfl rfl (ldKeyK kp0)) rfl ?_;exact⟨rfl,HM3.out⟩
theorem rbud_c (w:World):Calls Tryz.prog 92 #[] w fun e w'=>e= .returned (.agg (kc keyB))∧Mod (fun _=>False) w w':=by
 have hb:=bKB;go_enter Tryz.func92,Tryz.ntmps92;go_upto_region 0 with fail;refine ZP0 [3] ?_;refine Za alKey fun p0 hp0=> ?_;refine TD.nil (fun w1 hr=> ?_);obtain⟨gp0,kp0⟩:=hr.b p0;have HM1:=Hi hr.mod;clear hr;go_upto_region 1 with fail;have Lkp0:=Ls kp0;refine ZP0 [0,5] ?_;refine Zu hb ?_;refine Zi fun w2 hr=> ?_;replace kp0:=hr.q kp0;have HM2:=Hi (HM1.out.then0 hr.mod);clear hr;refine ZS ?_;refine ZN kp0 fun wn kp0 mS=> ?_;have HM3:=Hi (HM2.out.thenB mS (.inl gp0));clear mS;go_wp2_with fail;refine bodyPost_ret (results_cell1 rfl rfl (ldKeyK kp0)) rfl ?_;exact⟨rfl,HM3.out⟩
theorem rcr_key (x:Role):(rcr x).extract 0 32=kc x.k:=kx_key _ _
theorem rcr_w (x:Role):(rcr x)[33]? =some (.bool x.w):=kx_get x.k _ 1
theorem rwritten_c (a:Option Addr) (l:List Role) (c:Nat) (w:World) (hl:SlAt rcr 34 w a l) (hn:l.length≤100000):Calls Tryz.prog 51 #[.slice a l.length c] w fun e w'=>∃v,e= .returned v∧SlOwn kc 32 82 w' w.heap.size v (wrL l)∧Mod (fun _=>False) w w':=by
 have HL:=Hi hl;clear hl;go_enter Tryz.func51,Tryz.ntmps51;go_wp2_with fail;go_loopw [3,4] (fun s3 s4 ws=>∃i:Nat,i≤l.length∧s4= .int .i64 (i:Int)∧Hid (SlOwn kc 32 82 ws w.heap.size s3 (wrL (l.take i)))∧Mod (fun _=>False) w ws) (fun _ s4 _=>l.length-(intOf s4).toNat)
 case atStart=>exact⟨0,Nat.zero_le _,rfl,Hi (SlOwn.nil _ _),Mod.refl _ _⟩
 case round=>
  obtain⟨i,hi,rfl,HO,hm⟩:=hrel;by_cases hlt:i<l.length
  ·have hd:=Dt hlt;obtain⟨x,hx⟩:∃x,l[i]? =some x:=⟨_,List.getElem?_eq_getElem hlt⟩;obtain⟨g,o,C,U,fr,rfl,kg,he,hle⟩:=role_at (HL.out.mod0 hm) hx;have hlen:=wrL_len (l.take i);have hlen2:=List.length_take_le i l;have HN:Hid ((wrL (l.take i)).length≤100000):=Hi (by omega);have HX:=Hi (wrL_snoc hx);clear hx hlen hlen2;obtain⟨xk,xs,xw⟩:=x;dsimp only at HX;have h33:C[o+i*34+33]? =some (.bool xw):=cellC he (j:=33) (rcr_w ⟨xk,xs,xw⟩);have hky:C.extract (o+i*34) (o+i*34+32)=kc xk:=row_head he (rcr_key ⟨xk,xs,xw⟩) (by omega);have hsz:o+i*34+32≤C.size:=by omega
   cases xw with
   |false=>
    have HX2:Hid (wrL (l.take (i+1))=wrL (l.take i)):=Hi (by rw[HX.out];simp);have HO3:=HO;have hm3:=hm;clear he;go_wp2_with fail;go_roundw
    case rel=>exact⟨i+1,by omega,by go_num,Hi (by rw[HX2.out];exact HO3.out),hm3⟩
    case measure=>simp[intOf];omega
   |true=>
    have HX2:Hid (wrL (l.take (i+1))=wrL (l.take i)++[xk]):=Hi (by rw[HX.out];simp);have hbs:=bsKey xk;obtain⟨a2,c2,rfl,_⟩:=HO.out.at keysT;generalize hll:(wrL (l.take i)).length=ll at *;have HLL:=Hi hll;clear hll he;go_upto_region 6 with fail;have Lkg:=Ls kg;refine ZP0 [0,0,0,0,0,1,3,5,0] ?_
    iterate 6 first|refine Zv ?_|refine Zd ?_
    refine Zy hbs fun p22 hp22=> ?_;refine Zi fun w4 hr=> ?_;replace kg:=hr.q kg;obtain⟨gp22,kp22⟩:=hr.b p22;have m4:=hr.mod;clear hr hbs;obtain⟨v5,w5,hap,hO5,m5,hn5⟩:=SlOwn.append keysT (q:=[xk]) (c:=1) (HO.out.mod0 m4) (SlAt.one kp22 xk rfl (kc_size _)) (by have:=HN.out;have:=HLL.out;simp only[List.length_singleton];omega) (by decide) (Nat.le_trans hm.size m4.size) 27;have hlo:=HO.out.lt;have hm5:Mod (fun _=>False) w w5:=(hm.then0 m4).then m5 (fun j hj e=>by have:=(hlo j e).1;omega);have HO5:=Hi hO5;clear hO5 m5 m4 hn5 hlo;refine ZA hap ?_;refine Ze ?_;refine TE.nil ?_;go_wp2_with fail;go_roundw
    case rel=>exact⟨i+1,by omega,by go_num,Hi (by rw[HX2.out];exact HO5.out),hm5⟩
    case measure=>simp[intOf];omega
  ·have hd:=Df hlt;obtain rfl:i=l.length:=by omega
   have HOO:=Hi (show SlOwn kc 32 82 _ w.heap.size _ (wrL l)by have:=HO.out;rw[List.take_length]at this;exact this);go_wp2_with fail;go_ret;exact⟨_,rfl,HOO.out,hm⟩
section
attribute [local go_sem↓] wlMsg ldMsg stMsg ldRole stRole
attribute [local go_sem] zRole_size mgx_size mgx_ext mgx_one mgx_one0 mg0 mg1 mg2 mg3 mg4 mg0' mg4' mg1R' mg2R' mg3R' mgx_hd mgx_hs rc_size rc_all rc_s' rc_w' rc_one
theorem bRole4 (k:Key) (b:Bool) (w:World):(Instr.build 91 #[(0,.agg (kc k)),(1,.bool b)]).run Tryz.prog w= .ok (.agg (rcr ⟨k,b,false⟩)) w:=by
 refine run_build_struct (z:= .agg zRole) (places:= #[(0,32),(32,1),(33,1)]) Tryz.underlying91 (fun w=>by kernel_rfl) (fun w=>by kernel_rfl) ?_ w;show Instr.fill _ zRole [(0,_),(1,_)]=_;rw[fill_cons (off:=0) (n:=32) rfl (by simp[Value.cells]) (by rw[zRole_size];omega),fill_cons (off:=32) (n:=1) rfl (by simp[Value.cells]) (by rw[wr_size,zRole_size];omega)];show some _=some _;congr 1;apply Array.toList_inj.1;have hk:(kc k).toList.length=32:=by simp
 rw[wr_list _ _ _ (by rw[wr_size,zRole_size];simp[Value.cells]),wr_list _ _ _ (by rw[zRole_size];simp[Value.cells])];simp only[Value.cells,List.take_zero,List.nil_append,hk];unfold rcr rc kx zRole;have h1:(kc k).toList.take 32=(kc k).toList:=List.take_of_length_le (by omega);have h2:(kc k).toList.drop 33=[]:=List.drop_of_length_le (by omega);simp[List.take_append,List.drop_append,hk,h1,h2]
theorem bRole5 (k:Key) (b:Bool) (w:World):(Instr.build 91 #[(0,.agg (kc k)),(1,.bool b)]).run Tryz.prog w= .ok (.agg (rc k b false)) w:=bRole4 k b w
theorem role_set0 (k:Key) (a b c:Bool):(rc k a b).setIfInBounds 33 (.bool c)=rc k a c:=by
 show(rcr ⟨k,a,b⟩).setIfInBounds 33 (.bool c)=rcr ⟨k,a,c⟩;have hs:(rcr ⟨k,a,b⟩).size=34:=rolesT.size _;have h:=role_setW (C:=rcr ⟨k,a,b⟩) (o:=0) (r:=⟨k,a,b⟩) (by rw[Nat.zero_add,←hs,Array.extract_size]) (by omega) c;rw[Nat.zero_add]at h;rw[h,wr_whole _ _ (by rw[hs,rolesT.size])]
theorem fix_lt {l:List Role} {i j:Nat} {y:Role} (h:l[j]? =some y) (hj:j<i) (hi:i≤l.length):((l.take i).map fixR++l.drop i)[j]? =some (fixR y):=by
 rw[List.getElem?_append_left (by rw[List.length_map,List.length_take];omega),List.getElem?_map,List.getElem?_take,if_pos hj,h];rfl
theorem fix_keep {l:List Role} {i:Nat} {r:Role} (h:l[i]? =some r) (e:fixR r=r):(l.take i).map fixR++l.drop i=(l.take (i+1)).map fixR++l.drop (i+1):=by
 rw[←fix_set h,e];have h2:=fix_get h;obtain⟨hi,e2⟩:=List.getElem?_eq_some_iff.1 h2
 conv=>rhs;rw[←e2]
 exact(List.set_getElem_self hi).symm
theorem bsRole5 (k:Key) (a b:Bool) (w:World):(Instr.buildSlice 36 1 #[(0,.agg (rc k a b))]).run Tryz.prog w= .ok (.slice (some ⟨w.heap.size,0,none⟩) 1 1) (w.alloc (.cells (rc k a b) 91)):=bsRole ⟨k,a,b⟩ w
def RfRol (res:Except Nat (List Role)) (w:World) (e:Ending) (w':World):Prop:=Mod (fun _=>False) w w'∧match res with
 | .ok ro=>∃a c,e= .returned (.tuple #[.slice a ro.length c,.int .i64 0])∧SlAt rcr 34 w' a ro∧(ro=[]∨∀g o,a=some ⟨g,o,none⟩→w.heap.size≤g)
 | .error n=>e= .returned (.tuple #[.slice none 0 0,.int .i64 (n:Int)])
theorem rrolesOf_c (x:RdR) (LW LR:List Key) (wa ra:Option Addr) (wc rcx:Nat) (w:World) (hK:SlAt kc 32 w x.ks.a x.ks.l) (hb:x.ks.l.length≤1000000) (hW:SlAt kc 32 w wa LW) (hR:SlAt kc 32 w ra LR) (h1:LW.length≤100000) (h2:LR.length≤100000):
  Calls Tryz.prog 47 #[.agg (msr x),.slice wa LW.length wc,.slice ra LR.length rcx] w (RfRol (rolesP (msgP x) LW LR) w):=by
 obtain⟨nW,hnW⟩:∃n,LW.length=n:=⟨_,rfl⟩;obtain⟨nR,hnR⟩:∃n,LR.length=n:=⟨_,rfl⟩;have HW:=Hi (Ai hW hnW);have HR:=Hi (Ai hR hnR);rw[hnW]at h1⊢;rw[hnR]at h2⊢;obtain⟨K0,hK0⟩:∃K0,x.ks.l.mapIdx (ownRP (msgP x))=K0:=⟨_,rfl⟩;have HK0:=Hi hK0;have HB:Hid (K0.length≤1000000):=Hi (by rw[←hK0,List.length_mapIdx];exact hb);obtain⟨n,hn⟩:∃n,x.ks.l.length=n:=⟨_,rfl⟩;obtain⟨s,hs⟩:∃s,x.h0.toNat=s:=⟨_,rfl⟩;obtain⟨a,ha⟩:∃a,x.h1.toNat=a:=⟨_,rfl⟩;obtain⟨c,hc⟩:∃c,x.h2.toNat=c:=⟨_,rfl⟩;have hsb:s<256:=by rw[←hs];exact x.h0.toNat_lt
 have hab:a<256:=by rw[←ha];exact x.h1.toNat_lt
 have hcb:c<256:=by rw[←hc];exact x.h2.toNat_lt
 have hws:IntKind.i64.wrap (s:Int)=(s:Int):=by rw[IntKind.wrap_i64];omega
 have hwa:IntKind.i64.wrap (a:Int)=(a:Int):=by rw[IntKind.wrap_i64];omega
 have hwc:IntKind.i64.wrap (c:Int)=(c:Int):=by rw[IntKind.wrap_i64];omega
 rw[hn]at hb;have HX:=Hi (Ai hK (Ai hn (Ai hs (Ai ha hc))));have hw1:IntKind.i64.wrap ((s:Int)-(a:Int))=(s:Int)-(a:Int):=by rw[IntKind.wrap_i64];omega
 have hw2:IntKind.i64.wrap ((n:Int)-(c:Int))=(n:Int)-(c:Int):=by rw[IntKind.wrap_i64];omega
 show Calls Tryz.prog 47 #[.agg (mgx x.v0 x.h0 x.h1 x.h2 x.ks.a x.ks.l.length x.ks.c x.rc x.ins.a x.ins.l.length x.ins.c x.lks.a x.lks.l.length x.lks.c),.slice wa nW wc,.slice ra nR rcx] w _;rw[hn];clear hK hW hR hnW hnR hK0;go_enter Tryz.func47,Tryz.ntmps47;go_upto_region 0 with fail;refine ZP0 [3,0,0] ?_;refine Zb fun p3 hp3=> ?_
 iterate 2 refine Zv ?_
 refine TD.nil (fun w1 hr=> ?_);obtain⟨gp3,kp3⟩:=hr.b p3;have HM1:=Hi hr.mod;have HP3:Hid (w.heap.size≤p3):=Hi gp3;have HP9:Hid (p3<w1.heap.size):=Hi (Ls kp3);clear hr gp3;go_wp2_with fail;go_loopw [8,10] (fun s8 s10 ws=>∃i:Nat,i≤n∧s10= .int .i64 (i:Int)∧Hid (SlOwn rcr 34 91 ws w.heap.size s8 ((x.ks.l.take i).mapIdx (ownRP (msgP x)))∧s8.ownBlock≠some p3)∧Hid (Mod (fun _=>False) w ws)∧ws.heap[p3]? =some (.cells (mgx x.v0 x.h0 x.h1 x.h2 x.ks.a n x.ks.c x.rc x.ins.a x.ins.l.length x.ins.c x.lks.a x.lks.l.length x.lks.c) 33 (0,0))) (fun _ s10 _=>n-(intOf s10).toNat)
 case atStart=>exact⟨0,Nat.zero_le _,rfl,Hi ⟨SlOwn.nil _ _,fun h=>by cases h⟩,HM1,kp3⟩
 case round=>
  clear kp3;obtain⟨i,hi,rfl,HO,HM,kp3⟩:=hrel;by_cases hlt:i<n
  ·have hd:=Dt hlt;obtain⟨k,hk⟩:∃k,x.ks.l[i]? =some k:=⟨_,List.getElem?_eq_getElem (by have:=HX.out.2.1;omega)⟩;obtain⟨g,o,C,U,fr,hga,kg,he,hle⟩:=(HX.out.1.mod0 HM.out).block hk;have HT:=Hi (ownL_snoc (m:=msgP x) hk);clear hk;by_cases hsg:i<s
   ·have hd2:=Dt hsg;obtain⟨wt,hwt⟩:∃q,decide ((i:Int)<(s:Int)-(a:Int))=q:=⟨_,rfl⟩;have HRO:Hid (ownRP (msgP x) i k=⟨k,true,wt⟩):=Hi (by
     unfold ownRP msgP;simp only;rw[HX.out.2.2.1,HX.out.2.2.2.1,if_pos hsg,hd2,hwt])
    have hb:=bRole5 k true;go_upto_region 6 with fail;have Lkg:=Ls kg;have Lkp3:=Ls kp3;refine ZP0 [0,1,0,0,1,0,0,0,0,3,4] ?_
    iterate 8 first|refine Zv ?_|refine Zd ?_
    refine Zu hb ?_;refine Za alRole fun p11 hp11=> ?_;refine Zt ?_;refine TD.nil (fun w4 hr=> ?_);replace kg:=hr.q kg;replace kp3:=hr.q kp3;obtain⟨gp11,kp11⟩:=hr.b p11;have HM4:=Hi (HM.out.then0 hr.mod);have HO4:=Hi (HO.out.1.mod0 hr.mod);have HP11:Hid (wr.heap.size≤p11):=Hi gp11;have HWS:=Hi HM.out.size;have hp3:p3≠p11:=fun e=>by have:=Ls kp3;have:=HP11.out;have:=hr.mod.size;have h9:=HP9.out;omega
    clear hr he hle kg gp11 hb;go_upto_region 8 with fail;have Lkp11:=Ls kp11;have Lkp3:=Ls kp3;refine ZP0 [0,0,0,0,1,0,0,0,0,5] ?_
    iterate 9 first|refine Zv ?_|refine Zd ?_
    refine Zi fun wE hr=> ?_;replace kp11:=hr.mod.at0 kp11;replace kp3:=hr.mod.at0 kp3;have mE:=hr.mod;refine ZS ?_;refine ZN kp11 fun w5 kp11 mS=> ?_;replace kp3:=mS.at_ne kp3 (by omega);have HM5:Hid (Mod (fun _=>False) w w5):=Hi ((HM4.out.then0 mE).then mS (fun j _ e=>by have:=HP11.out;have:=HWS.out;omega));have HO5:Hid (SlOwn rcr 34 91 w5 w.heap.size _ ((x.ks.l.take i).mapIdx (ownRP (msgP x)))):=Hi ((HO4.out.mod0 mE).mod mS (fun g hg e=>by have h1:=(HO.out.1.lt g hg).2;have:=HP11.out;omega));rw[role_set0]at kp11;clear hr mE mS hp3;have hbs:=bsRole5 k true wt;obtain⟨a2,c2,rfl,_⟩:=HO5.out.at rolesT;generalize hll:((x.ks.l.take i).mapIdx (ownRP (msgP x))).length=ll at *;have HLL:Hid (ll=i):=Hi (by rw[←hll,List.length_mapIdx,List.length_take];have:=HX.out.2.1;omega);clear hll;go_upto_region 10 with fail;have Lkp11:=Ls kp11;have Lkp3:=Ls kp3;refine ZP0 [0,1,3,5,0] ?_;refine Zv ?_;refine Zd ?_;refine Zy hbs fun p60 hp60=> ?_;refine Zi fun w6 hr=> ?_;replace kp11:=hr.q kp11;replace kp3:=hr.q kp3;obtain⟨gp60,kp60⟩:=hr.b p60;have HM6:=Hi (HM5.out.then0 hr.mod);obtain⟨v5,w7,hap,hO7,m7,hn7⟩:=SlOwn.append rolesT (q:=[⟨k,true,wt⟩]) (c:=1) (HO5.out.mod0 hr.mod) (SlAt.one kp60 _ rfl (rolesT.size _)) (by have:=HLL.out;simp only[List.length_mapIdx,List.length_take,List.length_singleton];have:=HX.out.2.1;omega) (by decide) HM6.out.size 36;have hlo:=HO5.out.lt;have HO7:Hid (SlOwn rcr 34 91 w7 w.heap.size v5 ((x.ks.l.take (i+1)).mapIdx (ownRP (msgP x)))∧v5.ownBlock≠some p3):=Hi ⟨by rw[HT.out,HRO.out];exact hO7,fun e=>by
     rcases hn7 with h|h
     ·exact HO.out.2 (h.symm.trans e)
     ·rw[h]at e;cases e;have:=Ls kp3;omega⟩
    have HM7:Hid (Mod (fun _=>False) w w7):=Hi (HM6.out.then m7 (fun j hj e=>by have:=(hlo j e).1;omega));replace kp3:=m7.at kp3 (fun e=>HO.out.2 e);clear hr hO7 m7 hn7 hlo hbs kp60 kp11;refine ZA hap ?_;refine Ze ?_;refine TE.nil ?_;go_wp2_with fail;go_roundw
    case rel=>exact⟨i+1,by omega,by go_num,HO7,HM7,kp3⟩
    case measure=>simp[intOf];omega
   ·have hd2:=Df hsg;obtain⟨wt,hwt⟩:∃q,decide ((i:Int)<(n:Int)-(c:Int))=q:=⟨_,rfl⟩;have HRO:Hid (ownRP (msgP x) i k=⟨k,false,wt⟩):=Hi (by
     unfold ownRP msgP;simp only;rw[HX.out.2.2.1,HX.out.2.2.2.2,HX.out.2.1,if_neg hsg,hd2,hwt])
    have hb:=bRole5 k false;go_upto_region 6 with fail;have Lkg:=Ls kg;have Lkp3:=Ls kp3;refine ZP0 [0,1,0,0,1,0,0,0,0,3,4] ?_
    iterate 8 first|refine Zv ?_|refine Zd ?_
    refine Zu hb ?_;refine Za alRole fun p11 hp11=> ?_;refine Zt ?_;refine TD.nil (fun w4 hr=> ?_);replace kg:=hr.q kg;replace kp3:=hr.q kp3;obtain⟨gp11,kp11⟩:=hr.b p11;have HM4:=Hi (HM.out.then0 hr.mod);have HO4:=Hi (HO.out.1.mod0 hr.mod);have HP11:Hid (wr.heap.size≤p11):=Hi gp11;have HWS:=Hi HM.out.size;have hp3:p3≠p11:=fun e=>by have:=HP11.out;have h9:=HP9.out;omega
    clear hr he hle kg gp11 hb;go_upto_region 9 with fail;have Lkp11:=Ls kp11;have Lkp3:=Ls kp3;refine ZP0 [0,0,1,0,0,0,1,0,0,0,0,5] ?_
    iterate 11 first|refine Zv ?_|refine Zd ?_
    refine Zi fun wE hr=> ?_;replace kp11:=hr.mod.at0 kp11;replace kp3:=hr.mod.at0 kp3;have mE:=hr.mod;refine ZS ?_;refine ZN kp11 fun w5 kp11 mS=> ?_;replace kp3:=mS.at_ne kp3 (by omega);have HM5:Hid (Mod (fun _=>False) w w5):=Hi ((HM4.out.then0 mE).then mS (fun j _ e=>by have:=HP11.out;have:=HWS.out;omega));have HO5:Hid (SlOwn rcr 34 91 w5 w.heap.size _ ((x.ks.l.take i).mapIdx (ownRP (msgP x)))):=Hi ((HO4.out.mod0 mE).mod mS (fun g hg e=>by have h1:=(HO.out.1.lt g hg).2;have:=HP11.out;omega));rw[role_set0]at kp11;clear hr mE mS hp3;have hbs:=bsRole5 k false wt;obtain⟨a2,c2,rfl,_⟩:=HO5.out.at rolesT;generalize hll:((x.ks.l.take i).mapIdx (ownRP (msgP x))).length=ll at *;have HLL:Hid (ll=i):=Hi (by rw[←hll,List.length_mapIdx,List.length_take];have:=HX.out.2.1;omega);clear hll;go_upto_region 10 with fail;have Lkp11:=Ls kp11;have Lkp3:=Ls kp3;refine ZP0 [0,1,3,5,0] ?_;refine Zv ?_;refine Zd ?_;refine Zy hbs fun p60 hp60=> ?_;refine Zi fun w6 hr=> ?_;replace kp11:=hr.q kp11;replace kp3:=hr.q kp3;obtain⟨gp60,kp60⟩:=hr.b p60;have HM6:=Hi (HM5.out.then0 hr.mod);obtain⟨v5,w7,hap,hO7,m7,hn7⟩:=SlOwn.append rolesT (q:=[⟨k,false,wt⟩]) (c:=1) (HO5.out.mod0 hr.mod) (SlAt.one kp60 _ rfl (rolesT.size _)) (by have:=HLL.out;simp only[List.length_mapIdx,List.length_take,List.length_singleton];have:=HX.out.2.1;omega) (by decide) HM6.out.size 36;have hlo:=HO5.out.lt;have HO7:Hid (SlOwn rcr 34 91 w7 w.heap.size v5 ((x.ks.l.take (i+1)).mapIdx (ownRP (msgP x)))∧v5.ownBlock≠some p3):=Hi ⟨by rw[HT.out,HRO.out];exact hO7,fun e=>by
     rcases hn7 with h|h
     ·exact HO.out.2 (h.symm.trans e)
     ·rw[h]at e;cases e;have:=Ls kp3;omega⟩
    have HM7:Hid (Mod (fun _=>False) w w7):=Hi (HM6.out.then m7 (fun j hj e=>by have:=(hlo j e).1;omega));replace kp3:=m7.at kp3 (fun e=>HO.out.2 e);clear hr hO7 m7 hn7 hlo hbs kp60 kp11;refine ZA hap ?_;refine Ze ?_;refine TE.nil ?_;go_wp2_with fail;go_roundw
    case rel=>exact⟨i+1,by omega,by go_num,HO7,HM7,kp3⟩
    case measure=>simp[intOf];omega
  ·have hd:=Df hlt;obtain rfl:n=i:=by omega
   have HO0:Hid (SlOwn rcr 34 91 wr w.heap.size _ K0):=Hi (by
    have:=HO.out.1;rw[List.take_of_length_le (by have:=HX.out.2.1;omega),HK0.out]at this;exact this)
   have HM0:=HM;have HB0:Hid (K0.length≤1200000∧nW≤100000):=Hi ⟨by have:=HB.out;omega,h1⟩;obtain⟨wz,rfl⟩:∃wz:World,wz=wr:=⟨_,rfl⟩;clear HO HM hi hlt;go_wp2_with fail;clear kp3 hd;go_loopw [8,12] (fun s8 si ws=>∃i:Nat,i≤nW∧si= .int .i64 (i:Int)∧Hid (SlOwn rcr 34 91 ws w.heap.size s8 (K0++(LW.take i).map (fun k=>(⟨k,false,true⟩:Role))))∧Hid (Mod (fun _=>False) w ws)) (fun _ si _=>nW-(intOf si).toNat)
   case atStart=>exact⟨0,Nat.zero_le _,rfl,Hi (by rw[List.take_zero,List.map_nil,List.append_nil];exact HO0.out),HM0⟩
   case round=>
    obtain⟨i,hi,rfl,HO,HM⟩:=hrel;by_cases hlt:i<nW
    ·have hd:=Dt hlt;obtain⟨k,hk⟩:∃k,LW[i]? =some k:=⟨_,List.getElem?_eq_getElem (by have:=HW.out.2;omega)⟩;obtain⟨g,o,C,U,fr,rfl,kg,he,hle⟩:=(HW.out.1.mod0 HM.out).block hk;have HT:=Hi (map_snoc (fun k=>(⟨k,false,true⟩:Role)) hk);clear hk;have hb:=(fun k=>bRole2 k true) k;have hbs:=bsRole ((fun k=>(⟨k,false,true⟩:Role)) k);obtain⟨a2,c2,rfl,_⟩:=HO.out.at rolesT;generalize hll:(K0++(LW.take i).map (fun k=>(⟨k,false,true⟩:Role))).length=ll at *;have HLL:Hid (ll≤1300000):=Hi (by rw[←hll,List.length_append,List.length_map,List.length_take];have:=HB0.out;omega);go_upto_region 14 with fail;have Lkg:=Ls kg;refine ZP0 [0,0,0,0,1,0,3,5,0] ?_
     iterate 5 first|refine Zv ?_|refine Zd ?_
     refine Zu hb ?_;refine Zy hbs fun p74 hp74=> ?_;refine Zi fun w6 hr=> ?_;replace kg:=hr.q kg;obtain⟨gp74,kp74⟩:=hr.b p74;have HM6:=Hi (HM.out.then0 hr.mod);obtain⟨v5,w7,hap,hO7,m7,hn7⟩:=SlOwn.appendB rolesT (q:=[(fun k=>(⟨k,false,true⟩:Role)) k]) (c:=1) (HO.out.mod0 hr.mod) (SlAt.one kp74 _ rfl (rolesT.size _)) (by have:=HLL.out;rw[hll];simp only[List.length_singleton];omega) (by have:=HLL.out;rw[hll];simp only[List.length_singleton];omega) HM6.out.size 36;have hlo:=HO.out.lt;have HO7:Hid (SlOwn rcr 34 91 w7 w.heap.size v5 (K0++(LW.take (i+1)).map (fun k=>(⟨k,false,true⟩:Role)))):=Hi (by rw[HT.out,←List.append_assoc];exact hO7);have HM7:Hid (Mod (fun _=>False) w w7):=Hi (HM6.out.then m7 (fun j hj e=>by have:=(hlo j (by simpa[hll] using e)).1;omega))
     try rw[hll]at hap
     clear hr hO7 m7 hn7 hlo hb hbs kp74 hll kg he hle;refine ZA hap ?_;refine Ze ?_;refine TE.nil ?_;go_wp2_with fail;go_roundw
     case rel=>exact⟨i+1,by omega,by go_num,HO7,HM7⟩
     case measure=>simp[intOf];omega
    ·have hd:=Df hlt;obtain rfl:nW=i:=by omega
     obtain⟨K1,hK1⟩:∃K1,K0++LW.map (fun k=>(⟨k,false,true⟩:Role))=K1:=⟨_,rfl⟩;have HK1:=Hi hK1;have HO0:Hid (SlOwn rcr 34 91 wr w.heap.size _ K1):=Hi (by
      have:=HO.out;rw[List.take_of_length_le (by have:=HW.out.2;omega),hK1]at this;exact this)
     have HM0:=HM;have HB0:Hid (K1.length≤1200000∧nR≤100000):=Hi ⟨by rw[←hK1,List.length_append,List.length_map,HW.out.2];have:=HB.out;omega,h2⟩;clear hK1 HO HM hi hlt;obtain⟨wa0,rfl⟩:∃wa0:World,wa0=wr:=⟨_,rfl⟩;go_wp2_with fail;clear hd;go_loopw [8,13] (fun s8 si ws=>∃i:Nat,i≤nR∧si= .int .i64 (i:Int)∧Hid (SlOwn rcr 34 91 ws w.heap.size s8 (K1++(LR.take i).map (fun k=>(⟨k,false,false⟩:Role))))∧Hid (Mod (fun _=>False) w ws)) (fun _ si _=>nR-(intOf si).toNat)
     case atStart=>exact⟨0,Nat.zero_le _,rfl,Hi (by rw[List.take_zero,List.map_nil,List.append_nil];exact HO0.out),HM0⟩
     case round=>
      obtain⟨i,hi,rfl,HO,HM⟩:=hrel;by_cases hlt:i<nR
      ·have hd:=Dt hlt;obtain⟨k,hk⟩:∃k,LR[i]? =some k:=⟨_,List.getElem?_eq_getElem (by have:=HR.out.2;omega)⟩;obtain⟨g,o,C,U,fr,rfl,kg,he,hle⟩:=(HR.out.1.mod0 HM.out).block hk;have HT:=Hi (map_snoc (fun k=>(⟨k,false,false⟩:Role)) hk);clear hk;have hb:=(fun k=>bRole1 k) k;have hbs:=bsRole ((fun k=>(⟨k,false,false⟩:Role)) k);obtain⟨a2,c2,rfl,_⟩:=HO.out.at rolesT;generalize hll:(K1++(LR.take i).map (fun k=>(⟨k,false,false⟩:Role))).length=ll at *;have HLL:Hid (ll≤1300000):=Hi (by rw[←hll,List.length_append,List.length_map,List.length_take];have:=HB0.out;omega);go_upto_region 18 with fail;have Lkg:=Ls kg;refine ZP0 [0,0,0,0,1,0,3,5,0] ?_
       iterate 5 first|refine Zv ?_|refine Zd ?_
       refine Zu hb ?_;refine Zy hbs fun p88 hp88=> ?_;refine Zi fun w6 hr=> ?_;replace kg:=hr.q kg;obtain⟨gp88,kp88⟩:=hr.b p88;have HM6:=Hi (HM.out.then0 hr.mod);obtain⟨v5,w7,hap,hO7,m7,hn7⟩:=SlOwn.appendB rolesT (q:=[(fun k=>(⟨k,false,false⟩:Role)) k]) (c:=1) (HO.out.mod0 hr.mod) (SlAt.one kp88 _ rfl (rolesT.size _)) (by have:=HLL.out;rw[hll];simp only[List.length_singleton];omega) (by have:=HLL.out;rw[hll];simp only[List.length_singleton];omega) HM6.out.size 36;have hlo:=HO.out.lt;have HO7:Hid (SlOwn rcr 34 91 w7 w.heap.size v5 (K1++(LR.take (i+1)).map (fun k=>(⟨k,false,false⟩:Role)))):=Hi (by rw[HT.out,←List.append_assoc];exact hO7);have HM7:Hid (Mod (fun _=>False) w w7):=Hi (HM6.out.then m7 (fun j hj e=>by have:=(hlo j (by simpa[hll] using e)).1;omega))
       try rw[hll]at hap
       clear hr hO7 m7 hn7 hlo hb hbs kp88 hll kg he hle;refine ZA hap ?_;refine Ze ?_;refine TE.nil ?_;go_wp2_with fail;go_roundw
       case rel=>exact⟨i+1,by omega,by go_num,HO7,HM7⟩
       case measure=>simp[intOf];omega
      ·have hd:=Df hlt;obtain rfl:nR=i:=by omega
       obtain⟨Lf,hLf⟩:∃Lf,K1++LR.map (fun k=>(⟨k,false,false⟩:Role))=Lf:=⟨_,rfl⟩;have HLF:Hid (rolesL (msgP x) LW LR=Lf):=Hi (by rw[←hLf,←HK1.out,←HK0.out];rfl);have HOF:Hid (SlOwn rcr 34 91 wr w.heap.size _ Lf):=Hi (by
        have:=HO.out;rw[List.take_of_length_le (by have:=HR.out.2;omega),hLf]at this;exact this)
       have HNB:Hid (Lf.length≤1300000):=Hi (by rw[←hLf,List.length_append,List.length_map,HR.out.2];have:=HB0.out;omega);clear hLf HO hi hlt;obtain⟨wb0,rfl⟩:∃wb0:World,wb0=wr:=⟨_,rfl⟩;by_cases hne:Lf=[]
       ·subst hne;have HE:Hid (rolesP (msgP x) LW LR= .ok []):=Hi (by
         unfold rolesP;rw[HLF.out];simp)
        obtain⟨a2,c2,rfl,_⟩:=HOF.out.at rolesT;simp only[List.length_nil];go_wp2_with fail;go_loopw [14] (fun s14 ws=>s14= .int .i64 0∧ws=wb0) (fun _ _=>0)
        case atStart=>exact⟨rfl,rfl⟩
        case round=>
         obtain⟨rfl,rfl⟩:=hrel;go_wp2_with fail;refine bodyPost_ret (results_tmp2 rfl _ _ _) rfl ?_;unfold RfRol;rw[HE.out];exact⟨HM.out,_,_,rfl,.inl rfl,.inl rfl⟩
       ·obtain⟨g,cap,C,rfl,hgb,hgc,kg,hrow⟩:=own_rows HOF.out hne;obtain⟨n2,hn2⟩:∃n,Lf.length=n:=⟨_,rfl⟩;have hnb:n2≤1300000:=by rw[←hn2];exact HNB.out
        rw[hn2]at hgc⊢;have HNN:=Hi (Ai hn2 (Ai hgb hgc));have HRW:Hid (RowR C ((Lf.take 0).map fixR++Lf.drop 0)):=Hi (by simpa using hrow);clear hrow hn2 hgb hne hgc;go_wp2_with fail;clear hd;go_loopw [14] (fun s14 ws=>∃(i:Nat) (Ci:Array Value),i≤n2∧s14= .int .i64 (i:Int)∧ws.heap[g]? =some (.cells Ci 91 (0,0))∧Hid (RowR Ci ((Lf.take i).map fixR++Lf.drop i))∧Hid (rlK (Lf.take i)).Nodup∧Hid (Mod (fun j=>j=g) wb0 ws)) (fun s14 _=>n2-(intOf s14).toNat)
        case atStart=>exact⟨0,C,by omega,rfl,kg,HRW,Hi (by simp[rlK]),Hi (Mod.refl _ _)⟩
        case round=>
         clear kg;obtain⟨i,Ci,hi,rfl,kg,HRi,HND,HMl⟩:=hrel;obtain⟨wc0,rfl⟩:∃wc0:World,wc0=wr:=⟨_,rfl⟩;by_cases hlt:i<n2
         ·have hd:=Dt hlt;obtain⟨r,hr0⟩:∃r,Lf[i]? =some r:=⟨_,List.getElem?_eq_getElem (by have:=HNN.out;omega)⟩;have HRR:=Hi hr0;obtain⟨he,hle⟩:=HRi.out i r (fix_get hr0);obtain⟨k,sg,wt⟩:=r;rw[Nat.zero_add]at he hle;have HC33:Hid (Ci[i*34+33]? =some (.bool wt)):=Hi (cellC he (j:=33) (kx_get k [.bool sg,.bool wt] 1));have he1:Ci.extract (i*34) (i*34+32)=kc k:=by
           have h1:(rcr ⟨k,sg,wt⟩).extract 0 32=kc k:=kx_key _ _;rw[←h1,←he,Array.extract_extract];congr 1;omega
          have hle1:i*34+32≤Ci.size:=by omega
          have hkr:rlK (Lf.take (i+1))=rlK (Lf.take i)++[k]:=map_snoc (fun r:Role=>r.k) hr0;have HKR:=Hi hkr;clear hkr hr0 he hle;go_wp2_with fail;go_loopw [15] (fun s15 ws=>∃j:Nat,j≤i∧s15= .int .i64 (j:Int)∧ws.heap[g]? =some (.cells Ci 91 (0,0))∧Hid (∀q y,q<j→Lf[q]? =some y→y.k≠k)∧Hid (Mod (fun j=>j=g) wb0 ws)) (fun s15 _=>i-(intOf s15).toNat)
          case atStart=>exact⟨0,by omega,rfl,kg,Hi (fun q y h=>by omega),HMl⟩
          case round=>
           clear kg HMl;obtain⟨j,hj,rfl,kg,HQ,HMl⟩:=hrel;by_cases hlj:j<i
           ·have hdj:=Dt hlj;have hj2:j<n2:=by omega
            have hd2:=Dt hj2;obtain⟨y,hy⟩:∃y,Lf[j]? =some y:=⟨_,List.getElem?_eq_getElem (by have:=HNN.out;omega)⟩;obtain⟨hf,hlf⟩:=HRi.out j _ (fix_lt hy hlj (by have:=HNN.out;omega));obtain⟨k2,sg2,wt2⟩:=y;rw[Nat.zero_add]at hf hlf;have hf1:Ci.extract (j*34) (j*34+32)=kc k2:=by
             have h1:(rcr (fixR ⟨k2,sg2,wt2⟩)).extract 0 32=kc k2:=kx_key _ _;rw[←h1,←hf,Array.extract_extract];congr 1;omega
            have hlf1:j*34+32≤Ci.size:=by omega
            have HY:=Hi hy;clear hf hlf hy;by_cases hkk:k=k2
            ·have hdk:=Dt hkk;have HE:Hid (rolesP (msgP x) LW LR= .error 9):=Hi (by
              have hk:k∈rlK (Lf.take i):=by
               refine List.mem_map.2 ⟨⟨k2,sg2,wt2⟩,?_,hkk.symm⟩;exact List.mem_of_getElem? (i:=j) (by rw[List.getElem?_take,if_pos hlj];exact HY.out)
              unfold rolesP;rw[HLF.out,if_neg];intro hd;have hsub:((rlK (Lf.take (i+1))).Sublist (rlK Lf)):=(List.take_sublist _ _).map _;have h1:=hd.sublist hsub;rw[HKR.out,List.nodup_append]at h1;exact h1.2.2 k hk k (by simp) rfl)
             clear hkk;go_upto_region 25 with fail;have Lkg:=Ls kg;refine ZP [0,0,0,0,1,0,0,0,0,1,0] ?_
             iterate 11 first|refine Zv ?_|refine Zd ?_
             refine TD.nil (fun w9 hr=> ?_);replace kg:=hr.q kg;have HMf:Hid (Mod (fun _=>False) w w9):=Hi (HM.out.then (HMl.out.trans (hr.mod.mono (fun _ _ h=>h.elim))) (fun j hj e=>by have:=HNN.out;omega));clear hr;go_wp2_with fail;refine bodyPost_ret (results_tmp2 rfl _ _ _) rfl ?_;unfold RfRol;rw[HE.out];exact⟨HMf.out,rfl⟩
            ·have hdk:=Df hkk;have HQ2:Hid (∀q y,q<j+1→Lf[q]? =some y→y.k≠k):=Hi (fun q y hq hy e=>by
              rcases Nat.lt_succ_iff_lt_or_eq.1 hq with h|h
              ·exact HQ.out q y h hy e
              ·subst h;rw[HY.out]at hy;cases hy;exact hkk e.symm)
             clear hkk;go_upto_region 25 with fail;have Lkg:=Ls kg;refine ZP [0,0,0,0,1,0,0,0,0,1,0] ?_
             iterate 11 first|refine Zv ?_|refine Zd ?_
             refine TD.nil (fun w9 hr=> ?_);replace kg:=hr.q kg;have HM9:Hid (Mod (fun j=>j=g) wb0 w9):=Hi (HMl.out.trans (hr.mod.mono (fun _ _ h=>h.elim)));clear hr;go_wp2_with fail;go_roundw
             case rel=>exact⟨j+1,by omega,by go_num,kg,HQ2,HM9⟩
             case measure=>simp[intOf];omega
           ·have hdj:=Df hlj;obtain rfl:i=j:=by omega
            have HND2:Hid (rlK (Lf.take (i+1))).Nodup:=Hi (by
             rw[HKR.out,List.nodup_append];refine⟨HND.out,by simp,fun a ha b hb e=> ?_⟩;rw[List.mem_singleton]at hb;subst hb;subst e;obtain⟨y,hy,e2⟩:=List.mem_map.1 ha;obtain⟨q,hq,e3⟩:=List.getElem_of_mem hy;have h5:(Lf.take i)[q]? =some y:=by rw[List.getElem?_eq_getElem hq,e3]
             rw[List.length_take]at hq;rw[List.getElem?_take,if_pos (by omega)]at h5;exact HQ.out q y (by omega) h5 e2)
            have hst:=RowR.step HRi.out HRR.out;rw[Nat.zero_add]at hst;have HST:=Hi hst;clear hst hdj hlj hj;by_cases h0:k=key0
            ·have hk0:=Dt h0;have HR2:Hid (RowR (Ci.setIfInBounds (i*34+33) (.bool false)) ((Lf.take (i+1)).map fixR++Lf.drop (i+1))):=Hi (by
              have h5:=HST.out;have h6:(fixR ⟨k,sg,wt⟩).w=false:=by unfold fixR knownP;simp only;rw[hk0];simp
              rw[h6]at h5;exact h5)
             clear h0;go_upto_region 27 with fail;have Lkg:=Ls kg;refine ZR (fun _ _ v=>v= .agg (kc key0)) [0,0,0,0,1,2,0,0,0,0,0,0,1,0,0,0] ?_
             iterate 5 first|refine Zv ?_|refine Zd ?_
             (refine Zc ?_ (s:=by intro wq hSq;exact(rsys_c wq).mono (fun e w' h=>⟨_,h.1,rfl,h.2⟩));rintro _ hC;subst hC;try simp only[zL])
             iterate 2 refine Zv ?_
             iterate 4 refine Zo ?_
             refine Zp ?_
             iterate 2 refine Zo ?_
             refine Zv ?_;refine TD.nil (fun w9 hr=> ?_);replace kg:=hr.q kg;have HM9:Hid (Mod (fun j=>j=g) wb0 w9):=Hi (HMl.out.trans (hr.mod.mono (fun _ _ h=>h.elim)));clear hr he1;have c33:=HC33.out;go_upto_region 28 with fail;have Lkg:=Ls kg;refine ZP0 [0,0,0,0,5] ?_
             iterate 4 refine Zv ?_
             refine Zi fun wE hr=> ?_;replace kg:=hr.mod.at0 kg;have mE:=hr.mod;refine ZS ?_;refine ZN kg fun w10 kg mS=> ?_;have HM10:Hid (Mod (fun j=>j=g) wb0 w10):=Hi ((HM9.out.then0 mE).then mS (fun j _ e=>e));clear hr mE mS c33;go_wp2_with fail;go_roundw
             case rel=>exact⟨i+1,_,by omega,by go_num,kg,HR2,HND2,HM10⟩
             case measure=>simp[intOf];omega
            ·have hk0:=Df h0;by_cases h3:k=keyB
             ·have hk3:=Dt h3;have HR2:Hid (RowR (Ci.setIfInBounds (i*34+33) (.bool false)) ((Lf.take (i+1)).map fixR++Lf.drop (i+1))):=Hi (by
               have h5:=HST.out;have h6:(fixR ⟨k,sg,wt⟩).w=false:=by unfold fixR knownP;simp only;rw[hk3];simp
               rw[h6]at h5;exact h5)
              clear h0 h3;go_upto_region 27 with fail;have Lkg:=Ls kg;refine ZR (fun f _ v=>(f=91→v= .agg (kc key0))∧(f=92→v= .agg (kc keyB))) [0,0,0,0,1,2,0,0,0,0,0,0,1,2,0,0] ?_
              iterate 5 first|refine Zv ?_|refine Zd ?_
              (refine Zc ?_ (s:=by intro wq hSq;exact(rsys_c wq).mono (fun e w' h=>⟨_,h.1,⟨fun _=>rfl,fun e=>(by simp at e)⟩,h.2⟩));rintro _ hC;obtain rfl:=hC.1 rfl;try simp only[zL])
              iterate 7 first|refine Zv ?_|refine Zd ?_
              (refine Zc ?_ (s:=by intro wq hSq;exact(rbud_c wq).mono (fun e w' h=>⟨_,h.1,⟨fun e=>(by simp at e),fun _=>rfl⟩,h.2⟩));rintro _ hC;obtain rfl:=hC.2 rfl;try simp only[zL])
              iterate 2 refine Zv ?_
              refine TD.nil (fun w9 hr=> ?_);replace kg:=hr.q kg;have HM9:Hid (Mod (fun j=>j=g) wb0 w9):=Hi (HMl.out.trans (hr.mod.mono (fun _ _ h=>h.elim)));clear hr he1;have c33:=HC33.out;go_upto_region 28 with fail;have Lkg:=Ls kg;refine ZP0 [0,0,0,0,5] ?_
              iterate 4 refine Zv ?_
              refine Zi fun wE hr=> ?_;replace kg:=hr.mod.at0 kg;have mE:=hr.mod;refine ZS ?_;refine ZN kg fun w10 kg mS=> ?_;have HM10:Hid (Mod (fun j=>j=g) wb0 w10):=Hi ((HM9.out.then0 mE).then mS (fun j _ e=>e));clear hr mE mS c33;go_wp2_with fail;go_roundw
              case rel=>exact⟨i+1,_,by omega,by go_num,kg,HR2,HND2,HM10⟩
              case measure=>simp[intOf];omega
             ·have hk3:=Df h3;have HR2:Hid (RowR Ci ((Lf.take (i+1)).map fixR++Lf.drop (i+1))):=Hi (by
               have h6:fixR ⟨k,sg,wt⟩=⟨k,sg,wt⟩:=by unfold fixR knownP;simp only;rw[hk0,hk3];simp
               rw[←fix_keep HRR.out h6];exact HRi.out)
              clear h0 h3;go_upto_region 27 with fail;have Lkg:=Ls kg;refine ZR (fun f _ v=>(f=91→v= .agg (kc key0))∧(f=92→v= .agg (kc keyB))) [0,0,0,0,1,2,0,0,0,0,0,0,1,2,0,0] ?_
              iterate 5 first|refine Zv ?_|refine Zd ?_
              (refine Zc ?_ (s:=by intro wq hSq;exact(rsys_c wq).mono (fun e w' h=>⟨_,h.1,⟨fun _=>rfl,fun e=>(by simp at e)⟩,h.2⟩));rintro _ hC;obtain rfl:=hC.1 rfl;try simp only[zL])
              iterate 7 first|refine Zv ?_|refine Zd ?_
              (refine Zc ?_ (s:=by intro wq hSq;exact(rbud_c wq).mono (fun e w' h=>⟨_,h.1,⟨fun e=>(by simp at e),fun _=>rfl⟩,h.2⟩));rintro _ hC;obtain rfl:=hC.2 rfl;try simp only[zL])
              iterate 2 refine Zv ?_
              refine TD.nil (fun w9 hr=> ?_);replace kg:=hr.q kg;have HM9:Hid (Mod (fun j=>j=g) wb0 w9):=Hi (HMl.out.trans (hr.mod.mono (fun _ _ h=>h.elim)));clear hr he1;go_wp2_with fail;go_roundw
              case rel=>exact⟨i+1,_,by omega,by go_num,kg,HR2,HND2,HM9⟩
              case measure=>simp[intOf];omega
         ·have hd:=Df hlt;obtain rfl:n2=i:=by omega
          have HE:Hid (rolesP (msgP x) LW LR= .ok (Lf.map fixR)):=Hi (by
           have h1:=HND.out;rw[List.take_of_length_le (by have:=HNN.out;omega)]at h1;unfold rolesP;rw[HLF.out];unfold rlK at h1;rw[if_pos h1];rfl)
          have HS:Hid (SlAt rcr 34 wc0 (some ⟨g,0,none⟩) (Lf.map fixR)∧(Lf.map fixR).length=n2):=Hi ⟨by
           have h1:=HRi.out;rw[List.take_of_length_le (by have:=HNN.out;omega),List.drop_of_length_le (by have:=HNN.out;omega),List.append_nil]at h1;exact .inr ⟨g,0,Ci,_,_,rfl,kg,h1⟩,by rw[List.length_map,HNN.out.1]⟩
          have HMf:Hid (Mod (fun _=>False) w wc0):=Hi (HM.out.then HMl.out (fun j hj e=>by have:=HNN.out;omega));clear kg;go_wp2_with fail;refine bodyPost_ret (results_tmp2 rfl _ _ _) rfl ?_;unfold RfRol;rw[HE.out];exact⟨HMf.out,_,_,by rw[HS.out.2];rfl,HS.out.1,.inr (fun g' o' e=>by cases e;exact HNN.out.2.1)⟩
end
section
attribute [local go_sem↓] wlMsg ldMsg stMsg wlIn ldIn stIn
attribute [local go_sem] mgx_size mgx_ext mgx_one mgx_one0 mg0 mg1 mg2 mg3 mg4 mg37 mg38 mg37' mg38' mgx_hd mgx_hs mg0' mg4' inrB_size inrB_all inrB_one inr0B inr0B' inr2B inr2B'
theorem rword_c (x:RdR) (y:InR) (w:World) (hK:SlAt kc 32 w x.ks.a x.ks.l) (hb:x.ks.l.length≤1000000):
  Calls Tryz.prog 93 #[.agg (msr x),.agg (inr y)] w fun e w'=>e= .returned (.bool (wordP (msgP x) (inP y)))∧Mod (fun _=>False) w w':=by
 obtain⟨n,hn⟩:∃n,x.ks.l.length=n:=⟨_,rfl⟩;obtain⟨q,hq⟩:∃q,y.p.toNat=q:=⟨_,rfl⟩;have hqb:q<256:=by rw[←hq];exact y.p.toNat_lt
 have hwq:IntKind.i64.wrap (q:Int)=(q:Int):=by rw[IntKind.wrap_i64];omega
 have hQ0:=inr0B y;have hQ0':=inr0B' y;rw[hq]at hQ0 hQ0';rw[hn]at hb;have HX:=Hi (Ai hK (Ai hn hq));show Calls Tryz.prog 93 #[.agg (mgx x.v0 x.h0 x.h1 x.h2 x.ks.a x.ks.l.length x.ks.c x.rc x.ins.a x.ins.l.length x.ins.c x.lks.a x.lks.l.length x.lks.c),.agg (inr y)] w _;rw[hn];clear hK hn;go_enter Tryz.func93,Tryz.ntmps93;go_upto_region 0 with fail;refine ZP0 [3,3,0] ?_;refine Zb fun p2 hp2=> ?_;refine Zb fun p3 hp3=> ?_;obtain⟨ne_p3_p2,hp3⟩:=Bx.set_none hp3;refine Zv ?_;refine TD.nil (fun w1 hr=> ?_);obtain⟨gp2,kp2⟩:=hr.b p2 (by first|exact Bx.set_same _ _ _|(simp only[Bx.set_ne _ (Ne.symm ne_p3_p2),Bx.set_ne _ ne_p3_p2,Bx.set_same];rfl));obtain⟨gp3,kp3⟩:=hr.b p3 (by first|exact Bx.set_same _ _ _|(simp only[Bx.set_ne _ (Ne.symm ne_p3_p2),Bx.set_ne _ ne_p3_p2,Bx.set_same];rfl));have HM1:=Hi hr.mod;clear hr;by_cases hlt:q<n
 ·have hd:=Dt hlt;obtain⟨k,hk⟩:∃k,x.ks.l[q]? =some k:=⟨_,List.getElem?_eq_getElem (by have:=HX.out.2.1;omega)⟩;obtain⟨g,o,C,U,fr,hga,kg,he,hle⟩:=(HX.out.1.mod0 HM1.out).block hk;have HE:Hid (wordP (msgP x) (inP y)=decide (k=keyB)):=Hi (by
   have:(msgP x).ks[(inP y).p.toNat]? =some k:=by
    show x.ks.l[y.p.toNat]? =some k;rw[hq,hk]
   unfold wordP;rw[this])
  have HQ:=Hi hq;clear hk hq;by_cases hkb:k=keyB
  ·have hd2:=Dt hkb;go_upto_region 1 with fail;have Lkp2:=Ls kp2;have Lkp3:=Ls kp3;have Lkg:=Ls kg;refine ZR (fun _ _ v=>v= .agg (kc keyB)) [0,1,0,0,1,0,0,0,0,1,0,1,0,1,2,0,0,0] ?_
   iterate 14 first|refine Zv ?_|refine Zd ?_
   (refine Zc ?_ (s:=by intro wq hSq;exact(rbud_c wq).mono (fun e w' h=>⟨_,h.1,rfl,h.2⟩));rintro _ hC;subst hC;try simp only[zL])
   iterate 3 refine Zv ?_
   refine TD.nil (fun w2 hr=> ?_);replace kp2:=hr.q kp2;replace kp3:=hr.q kp3;replace kg:=hr.q kg;have HM2:=Hi (HM1.out.then0 hr.mod);clear hr;go_wp2_with fail;go_ret;exact⟨by rw[HE.out,hd2];rfl,HM2.out⟩
  ·have hd2:=Df hkb;go_upto_region 1 with fail;have Lkp2:=Ls kp2;have Lkp3:=Ls kp3;have Lkg:=Ls kg;refine ZR (fun _ _ v=>v= .agg (kc keyB)) [0,1,0,0,1,0,0,0,0,1,0,1,0,1,2,0,0,0] ?_
   iterate 14 first|refine Zv ?_|refine Zd ?_
   (refine Zc ?_ (s:=by intro wq hSq;exact(rbud_c wq).mono (fun e w' h=>⟨_,h.1,rfl,h.2⟩));rintro _ hC;subst hC;try simp only[zL])
   iterate 3 refine Zv ?_
   refine TD.nil (fun w2 hr=> ?_);replace kp2:=hr.q kp2;replace kp3:=hr.q kp3;replace kg:=hr.q kg;have HM2:=Hi (HM1.out.then0 hr.mod);clear hr;go_wp2_with fail;go_ret;exact⟨by rw[HE.out,hd2];rfl,HM2.out⟩
 ·have hd:=Df hlt;have HE:Hid (wordP (msgP x) (inP y)=false):=Hi (by
   have:(msgP x).ks[(inP y).p.toNat]? =none:=by
    show x.ks.l[y.p.toNat]? =none;rw[hq,List.getElem?_eq_none_iff];have:=HX.out.2.1;omega
   unfold wordP;rw[this])
  have HQ:=Hi hq;clear hq;go_upto_region 1 with fail;have Lkp2:=Ls kp2;have Lkp3:=Ls kp3;refine ZP [0,1,0,0,1,0,0,0,0,1,0,1,0,1,0,0,0,0] ?_
  iterate 8 first|refine Zv ?_|refine Zd ?_
  refine Zo ?_;refine Zp ?_;refine Zo ?_;refine Zp ?_;refine Zo ?_;refine Zp ?_
  iterate 2 refine Zo ?_
  iterate 2 refine Zv ?_
  refine TD.nil (fun w2 hr=> ?_);replace kp2:=hr.q kp2;replace kp3:=hr.q kp3;have HM2:=Hi (HM1.out.then0 hr.mod);clear hr;go_wp2_with fail;go_ret;exact⟨by rw[HE.out];rfl,HM2.out⟩
end
theorem sat_top (x:UInt64):sat 18446744073709551615 x=18446744073709551615:=by
 unfold sat;split
 ·rename_i h;have:x.toNat=0:=by simp at h;omega
  have:x=0:=UInt64.toNat_inj.1 (by simpa using this);subst this;rfl
 ·rfl
theorem fold_top:∀l:List UInt64,l.foldl sat 18446744073709551615=18446744073709551615
 |[]=>rfl
 |x::l=>by rw[List.foldl_cons,sat_top];exact fold_top l
theorem fold_snoc {l:List UInt64} {i:Nat} {x:UInt64} (h:l[i]? =some x):(l.take (i+1)).foldl sat 0=sat ((l.take i).foldl sat 0) x:=by
 rw[List.take_add_one,h];simp
theorem fold_over {l:List UInt64} {i:Nat} {x:UInt64} (h:l[i]? =some x) (ho:18446744073709551616≤((l.take i).foldl sat 0).toNat+x.toNat):l.foldl sat 0=18446744073709551615:=by
 have e:=List.take_append_drop (i+1) l;rw[←e,List.foldl_append,fold_snoc h];have:sat ((l.take i).foldl sat 0) x=18446744073709551615:=by
  have h2:=sat_over ho;have h3:((sat ((l.take i).foldl sat 0) x).toNat:Int)=18446744073709551615:=by
   have:=Value.int.inj h2;exact this.2
  exact UInt64.toNat_inj.1 (by
                have:(sat ((l.take i).foldl sat 0) x).toNat=18446744073709551615:=by omega
                simpa using this)
 rw[this];exact fold_top _
theorem rsum_c (p:Nat) (l:List UInt64) (U:TypeId) (fr:Nat×Nat) (w:World) (hk:w.heap[p]? =some (.cells (l.map u64v).toArray U fr)) (hn:l.length≤1000):Calls Tryz.prog 95 #[.slice (some ⟨p,0,none⟩) l.length l.length] w fun e w'=>e= .returned (u64v (l.foldl sat 0))∧Mod (fun _=>False) w w':=by
 have hget:∀i x,l[i]? =some x→(l.map u64v).toArray[i]? =some (u64v x):=fun i x h=>by rw[zA,List.getElem?_map,h];rfl
 have HG:=Hi hget;obtain⟨C,hC⟩:∃C,(l.map u64v).toArray=C:=⟨_,rfl⟩;rw[hC]at hk HG;have hb:l.length=C.size:=by rw[←hC];simp
 clear hget hC;go_enter Tryz.func95,Tryz.ntmps95;go_wp2_with fail;go_loopw [3,4] (fun s3 s4 ws=>∃(i:Nat) (s:UInt64),i≤l.length∧s4= .int .i64 (i:Int)∧s3=u64v s∧Hid ((l.take i).foldl sat 0=s)∧Mod (fun _=>False) w ws) (fun _ s4 _=>l.length-(intOf s4).toNat)
 case atStart=>exact⟨0,0,by omega,rfl,rfl,Hi rfl,Mod.refl _ _⟩
 case round=>
  obtain⟨i,s,hi,rfl,rfl,HS,hm⟩:=hrel;have kp:=hm.at0 hk;by_cases hlt:i<l.length
  ·have hd:=Dt hlt;obtain⟨x,hx⟩:∃x,l[i]? =some x:=⟨_,List.getElem?_eq_getElem hlt⟩;have hCi:=HG.out i x hx;have HX:=Hi hx;have HM:=Hi hm;clear hx hm;obtain⟨sn,hsn⟩:∃n,s.toNat=n:=⟨_,rfl⟩;obtain⟨xn,hxn⟩:∃n,x.toNat=n:=⟨_,rfl⟩;have hsb:sn<18446744073709551616:=by rw[←hsn];exact s.toNat_lt
   have hxb:xn<18446744073709551616:=by rw[←hxn];exact x.toNat_lt
   have es:u64v s= .int .u64 (sn:Int):=congrArg (fun n:Nat=>Value.int .u64 (n:Int)) hsn;have ex:u64v x= .int .u64 (xn:Int):=congrArg (fun n:Nat=>Value.int .u64 (n:Int)) hxn;have HSX:=Hi (Ai hsn (Ai hxn (Ai hsb hxb)));obtain⟨t,ht⟩:∃t:Int,18446744073709551615-(sn:Int)=t:=⟨_,rfl⟩;have hw1:IntKind.u64.wrap t=t:=by rw[IntKind.wrap_u64];omega
   rw[ex]at hCi;have hCi2:∀h:i<C.size,C[i]= .int .u64 (xn:Int):=fun h=>at_get hCi h;have hlt2:i<C.size:=by omega
   rw[es];by_cases ho:t<(xn:Int)
   ·have e1:decide ((xn:Int)>t)=true:=Dt ho;have HE:Hid (l.foldl sat 0=18446744073709551615):=Hi (fold_over HX.out (by rw[HS.out];omega));go_wp2_with fail;go_ret;exact⟨by rw[HE.out];rfl,HM.out⟩
   ·have e1:decide ((xn:Int)>t)=false:=Df ho;have hw2:IntKind.u64.wrap ((sn:Int)+(xn:Int))=((sn+xn:Nat):Int):=by rw[IntKind.wrap_u64];omega
    have HT:Hid ((l.take (i+1)).foldl sat 0=s+x):=Hi (by rw[fold_snoc HX.out,HS.out];exact sat_in (by have:=HSX.out.1;have:=HSX.out.2.1;omega));have HV:Hid (Value.int .u64 ((sn+xn:Nat):Int)=u64v (s+x)):=Hi (by
     unfold u64v;congr 1;rw[UInt64.toNat_add,HSX.out.1,HSX.out.2.1,Nat.mod_eq_of_lt (by omega)])
    obtain⟨q,hq⟩:∃q,sn+xn=q:=⟨_,rfl⟩;rw[hq]at hw2 HV;clear hq ho;go_wp2_with fail;go_roundw
    case rel=>exact⟨i+1,s+x,by omega,by go_num,HV.out,HT,HM.out⟩
    case measure=>simp[intOf];omega
  ·have hd:=Df hlt;have HE:Hid (l.foldl sat 0=s):=Hi (by
    have:=HS.out;rw[List.take_of_length_le (by omega)]at this;exact this)
   go_wp2_with fail;go_ret;exact⟨by rw[HE.out];rfl,hm⟩
def qc (x:UInt64):Array Value:= #[u64v x]
theorem qcT:ElT Tryz.prog 158 37 qc 1 8 where
 u:=Tryz.underlying158
 info:=by
  obtain⟨i0,hi,hz0,hz1,hz2⟩:=info_parts (show(Tryz.prog.info? 37).map (fun i=>(i.zero,i.size,i.bytes))=some (some (.int .u64 0),1,8)by kernel_rfl);exact⟨i0,_,hi,hz0,hz1,hz2,rfl⟩
 pos:=by omega
 size x:=rfl
 one x:=by
  intro u hu;simp only[qc,List.mem_singleton]at hu;subst hu;rfl
theorem bsQ (x:UInt64) (w:World):(Instr.buildSlice 158 1 #[(0,u64v x)]).run Tryz.prog w= .ok (.slice (some ⟨w.heap.size,0,none⟩) 1 1) (w.alloc (.cells (qc x) 37)):=by kernel_rfl
def digN (a:Nat) (i:Nat):List UInt64:=(List.range i).map fun j=>UInt64.ofNat (a/65536^j % 65536)
theorem digN_snoc (a i:Nat):digN a (i+1)=digN a i++[UInt64.ofNat (a/65536^i % 65536)]:=by
 unfold digN;rw[List.range_succ,List.map_append];rfl
theorem digN_len (a i:Nat):(digN a i).length=i:=by simp[digN]
theorem rdigits_c (a:UInt64) (w:World):Calls Tryz.prog 144 #[u64v a] w fun e w'=>∃v,e= .returned v∧SlOwn qc 1 37 w' w.heap.size v (digN a.toNat 4)∧Mod (fun _=>False) w w':=by
 obtain⟨A,hA⟩:∃n,a.toNat=n:=⟨_,rfl⟩;have hAb:A<18446744073709551616:=by rw[←hA];exact a.toNat_lt
 have HAb:=Hi hAb;rw[show u64v a= .int .u64 (A:Int)from congrArg (fun n:Nat=>Value.int .u64 (n:Int)) hA,hA];clear hA hAb;go_enter Tryz.func144,Tryz.ntmps144;go_wp2_with fail;go_loopw [0,3,4] (fun s0 s3 s4 ws=>∃i z:Nat,i≤4∧s4= .int .i64 (i:Int)∧s0= .int .u64 (z:Int)∧Hid (z=A/65536^i)∧Hid (SlOwn qc 1 37 ws w.heap.size s3 (digN A i))∧Mod (fun _=>False) w ws) (fun _ _ s4 _=>4-(intOf s4).toNat)
 case atStart=>exact⟨0,A,by omega,rfl,rfl,Hi (by simp),Hi (SlOwn.nil _ _),Mod.refl _ _⟩
 case round=>
  obtain⟨i,z,hi,rfl,rfl,HZ,HO,hm⟩:=hrel;by_cases hlt:i<4
  ·have hd:=Dt hlt;have hd2:decide ((i:Int)<4)=true:=Dt (by omega);have hzb:z<18446744073709551616:=by have:=HZ.out;have:=HAb.out;have:=Nat.div_le_self A (65536^i);omega
   obtain⟨a2,c2,rfl,_⟩:=HO.out.at qcT;rw[digN_len];obtain⟨q,hq⟩:∃q:Nat,z % 65536=q:=⟨_,rfl⟩;obtain⟨y,hy⟩:∃y:Nat,z/65536=y:=⟨_,rfl⟩;have hw1:IntKind.u64.wrap ((z:Int) % 65536)=(q:Int):=by rw[IntKind.wrap_u64];omega
   have hw2:IntKind.u64.wrap ((z:Int)/65536)=(y:Int):=by rw[IntKind.wrap_u64];omega
   have ht1:(z:Int).tmod 65536=(q:Int):=by rw[Int.tmod_eq_emod_of_nonneg (by omega)];omega
   have ht2:(z:Int).tdiv 65536=(y:Int):=by rw[Int.tdiv_eq_ediv_of_nonneg (by omega)];omega
   have hw3:IntKind.u64.wrap (q:Int)=(q:Int):=by rw[IntKind.wrap_u64];omega
   have hw4:IntKind.u64.wrap (y:Int)=(y:Int):=by rw[IntKind.wrap_u64];omega
   have HQ:=Hi (Ai hq (Ai hy hzb));have ev:u64v (UInt64.ofNat q)= .int .u64 (q:Int):=congrArg (fun n:Nat=>Value.int .u64 (n:Int)) (by rw[UInt64.toNat_ofNat'];omega);have hbs:∀w:World,_:=fun w=>bsQ (UInt64.ofNat q) w;rw[ev]at hbs;clear hq hy hzb ev;go_upto_region 5 with fail;refine ZP0 [0,0,0,3,5,0] ?_
   iterate 3 refine Zv ?_
   refine Zy hbs fun p12 hp12=> ?_;refine Zi fun w4 hr=> ?_;obtain⟨gp12,kp12⟩:=hr.b p12;have m4:=hr.mod;clear hr hbs;obtain⟨v5,w5,hap,hO5,m5,hn5⟩:=SlOwn.append qcT (q:=[UInt64.ofNat q]) (c:=1) (HO.out.mod0 m4) (SlAt.one kp12 (UInt64.ofNat q) rfl rfl) (by rw[digN_len];simp only[List.length_singleton];omega) (by decide) (Nat.le_trans hm.size m4.size) 158;have hlo:=HO.out.lt;have hm5:Mod (fun _=>False) w w5:=(hm.then0 m4).then m5 (fun j hj e=>by have:=(hlo j e).1;omega);have HO5:Hid (SlOwn qc 1 37 w5 w.heap.size v5 (digN A (i+1))):=Hi (by
    rw[digN_snoc,←HZ.out,HQ.out.1];exact hO5)
   have HZ5:Hid (y=A/65536^(i+1)):=Hi (by rw[←HQ.out.2.1,HZ.out,Nat.pow_succ,Nat.div_div_eq_div_mul]);rw[digN_len]at hap;clear hO5 m5 m4 hn5 hlo;refine ZA hap ?_;refine Ze ?_;refine TE.nil ?_;go_wp2_with fail;go_roundw
   case rel=>exact⟨i+1,y,by omega,by go_num,by first|rfl|go_num,HZ5,HO5,hm5⟩
   case measure=>simp[intOf];omega
  ·have hd:=Df hlt;have hd2:decide ((i:Int)<4)=false:=Df (by omega);have HOO:Hid (SlOwn qc 1 37 _ w.heap.size _ (digN A 4)):=Hi (by have:=HO.out;rw[show i=4 by omega]at this;exact this);go_wp2_with fail;go_ret;exact⟨_,rfl,HOO.out,hm⟩
def horN (d:Nat→Nat):Nat→Nat
 |0=>0
 |k+1=>horN d k*65536+d (3-k)
theorem horN_lt {d:Nat→Nat} (h:∀j,j<4→d j<65536):∀k,horN d k<65536^k
 |0=>by simp[horN]
 |k+1=>by
  have h1:=horN_lt h k;have h2:=h (3-k) (by omega);rw[horN,Nat.pow_succ];omega
theorem horN_4 (d:Nat→Nat):horN d 4=d 0+d 1*65536+d 2*4294967296+d 3*281474976710656:=by
 show((((0:Nat)*65536+d 3)*65536+d 2)*65536+d 1)*65536+d 0=_;omega
theorem rnum_c (p o c:Nat) (d:Nat→Nat) (C:Array Value) (U:TypeId) (fr:Nat×Nat) (w:World) (hk:w.heap[p]? =some (.cells C U fr)) (hC:∀j,j<4→C[o+j]? =some (.int .u64 (d j:Int))) (hd:∀j,j<4→d j<65536):Calls Tryz.prog 136 #[.slice (some ⟨p,o,none⟩) 4 c] w fun e w'=>e= .returned (.int .u64 ((horN d 4:Nat):Int))∧Mod (fun _=>False) w w':=by
 have HC:=Hi (Ai hC hd);clear hC hd;go_enter Tryz.func136,Tryz.ntmps136;go_wp2_with fail;go_loopw [3,4] (fun s3 s4 ws=>∃(k v:Nat) (t:Int),k≤4∧s4= .int .i64 t∧s3= .int .u64 (v:Int)∧t=3-(k:Int)∧Hid (v=horN d k)∧Mod (fun _=>False) w ws) (fun _ s4 _=>(intOf s4+1).toNat)
 case atStart=>exact⟨0,0,3,by omega,rfl,rfl,by omega,Hi rfl,Mod.refl _ _⟩
 case round=>
  obtain⟨k,v,t,hk4,rfl,rfl,ht,HV,hm⟩:=hrel;have kp:=hm.at0 hk;by_cases hlt:k<4
  ·obtain⟨j,hj⟩:∃j:Nat,t=(j:Int):=⟨3-k,by omega⟩;subst hj;have hj3:j=3-k:=by omega
   have hj4:j<4:=by omega
   have e1:decide ((j:Int)≥0)=true:=Dt (by omega);obtain⟨e,he⟩:∃e,d j=e:=⟨_,rfl⟩;have hCj:C[o+j]? =some (.int .u64 (e:Int)):=by rw[←he];exact HC.out.1 j hj4
   have hCj2:∀h:o+j<C.size,C[o+j]= .int .u64 (e:Int):=fun h=>at_get hCj h;have hoj:o+j<C.size:=by
    have:=hCj;rw[Array.getElem?_eq_some_iff]at this;exact this.1
   have heb:e<65536:=by rw[←he];exact HC.out.2 j hj4
   have hvb:v<281474976710656:=by
    have h1:=horN_lt HC.out.2 k;have h2:65536^k≤65536^3:=Nat.pow_le_pow_right (by omega) (by omega);have h3:(65536:Nat)^3=281474976710656:=by decide
    have:=HV.out;omega
   have HN:Hid (65536*v+e=horN d (k+1)):=Hi (by rw[horN,←HV.out,←hj3,he];omega);obtain⟨q,hq⟩:∃q:Nat,65536*v=q:=⟨_,rfl⟩;have hw1:IntKind.u64.wrap (65536*(v:Int))=(q:Int):=by rw[IntKind.wrap_u64];omega
   have hw2:IntKind.u64.wrap ((q:Int)+(e:Int))=((q+e:Nat):Int):=by rw[IntKind.wrap_u64];omega
   rw[hq]at HN;have HJ:=Hi (Ai hj3 he);clear hq hj3 he hvb ht;go_wp2_with fail;go_roundw
   case rel=>exact⟨k+1,q+e,(j:Int)-1,by omega,by go_num,by first|rfl|go_num,by have:=HJ.out.1;omega,HN,hm⟩
   case measure=>first|(simp[intOf];done)|(simp[intOf];omega)
  ·obtain rfl:k=4:=by omega
   have e1:decide (t≥0)=false:=Df (by omega);have e2:decide (0≤t)=false:=Df (by omega);rw[HV.out];clear ht;go_wp2_with fail;go_ret;exact⟨rfl,hm⟩
theorem leV_drop {l:List UInt8} {j:Nat} {c:UInt8} (h:l[j]? =some c):leV (l.drop j)=c.toNat+256*leV (l.drop (j+1)):=by
 obtain⟨hj,hc⟩:=List.getElem?_eq_some_iff.1 h;rw[List.drop_eq_getElem_cons hj,hc];rfl
theorem rget1_c (a:Option Addr) (l:List UInt8) (c n:Nat) (w:World) (hl:SlAt uc 1 w a l) (h1:1≤n) (h8:n≤8) (hn:n≤l.length) (hll:l.length≤1000000):Calls Tryz.prog 94 #[.slice a l.length c,.int .i64 (n:Int)] w fun e w'=>e= .returned (.tuple #[.int .u64 ((leV (l.take n):Nat):Int),.int .i64 0])∧Mod (fun _=>False) w w':=by
 have HL:=Hi hl;obtain⟨ll,hlen⟩:∃m,l.length=m:=⟨_,rfl⟩;have HLL:=Hi hlen;rw[hlen]at hn hll⊢;clear hl hlen;have d1:decide ((n:Int)<1)=false:=Df (by omega);have d2:decide ((n:Int)>8)=false:=Df (by omega);have d3:decide ((ll:Int)<(n:Int))=false:=Df (by omega);have d4:decide (ll<n)=false:=Df (by omega);have d5:decide (8<n)=false:=Df (by omega);have d6:decide (n<1)=false:=Df (by omega);have d7:decide (n=0)=false:=Df (by omega);obtain⟨t0,ht0⟩:∃t:Int,t=(n:Int)-1:=⟨_,rfl⟩;have hw0:IntKind.i64.wrap ((n:Int)-1)=t0:=by rw[IntKind.wrap_i64];omega
 have HT0:=Hi ht0;clear ht0;go_enter Tryz.func94,Tryz.ntmps94;go_wp2_with fail;go_loopw [6,7] (fun s6 s7 ws=>∃(k v:Nat) (t:Int),k≤n∧s7= .int .i64 t∧s6= .int .u64 (v:Int)∧t=(n:Int)-1-(k:Int)∧Hid (v=leV ((l.take n).drop (n-k)))∧Mod (fun _=>False) w ws) (fun _ s7 _=>(intOf s7+1).toNat)
 case atStart=>exact⟨0,0,t0,by omega,rfl,rfl,by have:=HT0.out;omega,Hi (by rw[List.drop_eq_nil_of_le (by rw[List.length_take];omega)];rfl),Mod.refl _ _⟩
 case round=>
  obtain⟨k,v,t,hk,rfl,rfl,ht,HV,hm⟩:=hrel;by_cases hlt:k<n
  ·obtain⟨j,hj⟩:∃j:Nat,t=(j:Int):=⟨n-1-k,by omega⟩;subst hj;have hj3:j=n-1-k:=by omega
   have hjl:j<ll:=by omega
   have e1:decide ((j:Int)≥0)=true:=Dt (by omega);obtain⟨y,hy⟩:∃y,l[j]? =some y:=⟨_,List.getElem?_eq_getElem (by have:=HLL.out;omega)⟩;obtain⟨g,o,C,U,fr,hga,kg,he,hle⟩:=(HL.out.mod0 hm).block hy;have c0:=cellC (j:=0) he (v:=u8v y) rfl;simp only[Nat.mul_one,Nat.add_zero]at c0;obtain⟨q,hq⟩:∃k,y.toNat=k:=⟨_,rfl⟩;have hqb:q<256:=by rw[←hq];exact y.toNat_lt
   have hvb:v<72057594037927936:=by
    have h1:=leV_lt ((l.take n).drop (n-k));have h2:((l.take n).drop (n-k)).length≤7:=by rw[List.length_drop,List.length_take];omega
    have h3:256^((l.take n).drop (n-k)).length≤256^7:=Nat.pow_le_pow_right (by omega) h2;have h4:(256:Nat)^7=72057594037927936:=by decide
    have:=HV.out;omega
   have HN:Hid (256*v+q=leV ((l.take n).drop (n-(k+1)))):=Hi (by
    have h1:(l.take n)[n-(k+1)]? =some y:=by
     rw[List.getElem?_take,if_pos (by omega),←hy,hj3,show n-(k+1)=n-1-k by omega]
    rw[leV_drop h1,hq,HV.out,show n-(k+1)+1=n-k by omega];omega)
   obtain⟨p,hp⟩:∃q:Nat,256*v=q:=⟨_,rfl⟩;have hwq:IntKind.u64.wrap (q:Int)=(q:Int):=by rw[IntKind.wrap_u64];omega
   have hw1:IntKind.u64.wrap (256*(v:Int))=(p:Int):=by rw[IntKind.wrap_u64];omega
   have hw2:IntKind.u64.wrap ((p:Int)+(q:Int))=((p+q:Nat):Int):=by rw[IntKind.wrap_u64];omega
   rw[hp]at HN;have HJ:=Hi (Ai hj3 (Ai hy hq));clear hp hj3 hvb ht hy he hw0;go_wp2_with fail;go_roundw
   case rel=>exact⟨k+1,p+q,(j:Int)-1,by omega,by go_num,by first|rfl|go_num,by have:=HJ.out.1;omega,HN,hm⟩
   case measure=>first|(simp[intOf];done)|(simp[intOf];omega)
  ·obtain rfl:n=k:=by omega
   have e1:decide (t≥0)=false:=Df (by omega);have e2:decide (0≤t)=false:=Df (by omega);have HE:Hid (v=leV (l.take n)):=Hi (by rw[HV.out,Nat.sub_self,List.drop_zero]);rw[HE.out];clear ht hw0;go_wp2_with fail;exact bodyPost_ret (results_tmp2 rfl _ _ _) rfl ⟨rfl,hm⟩
end Go.Proofs.YtiaehkkkcaeaiaaGreatDoor