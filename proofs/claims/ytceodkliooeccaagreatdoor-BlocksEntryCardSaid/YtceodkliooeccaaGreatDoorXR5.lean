/- The lemmas of the proof, part XO5: how the program and its data lie in memory, and what its functions do. -/
import Derived.Test.YtceodkliooeccaaGreatDoorXR4
import Derived.Lib.AppendZerosOnto
import Derived.Laws.CopyRow
set_option linter.unusedSimpArgs false
set_option linter.unusedVariables false
set_option linter.unusedSectionVars false

set_option maxRecDepth 20000
set_option maxHeartbeats 12800000
namespace Go.Proofs.YtceodkliooeccaaGreatDoor
open Go.RowKit
open Go.ChangeMaps (setBlock)
attribute [local go_sem↓] eqKey1 ldAcct ldHash ldHold ldKey ldLim ldOut ldRdy ldSig ldTd ldTx stHash stKey stOut stRdy stSig stTd stTx wlHash wlKey wlLim wlOut wlRdy wlSig wlTd wlTx
attribute [local go_sem] Value.cells av_all av_size cell_blk frozen_blk hd_acct hd_key hd_one hd_size kc_ext kc_one kc_one0 kc_size neMap ocr2 ocr2' ocr3 ocr3' ocr4 ocr4' ocr5 ocr5' ocr_all ocr_one ocr_size one_bool one_int one_map one_ptr one_slice rdr1 rdr1' rdr_all rdr_one rdr_rec rdr_size sgc_ext sgc_one' sgc_one0 sgc_size tdr0 tdr0' tdr41 tdr41' tdr50 tdr50' tdr51 tdr51' tdr52 tdr52' tdr_all tdr_o tdr_one tdr_r tdr_rec tdr_size tdr_tx txr0 txr0' txr38 txr38' txr39 txr39' txr_all txr_one txr_size zHash_size zHold_size zKey_size zLim_size zOut_size zRdy_size zSg_size zTried_size zTx_size
section
attribute [local go_sem] eqMapU
theorem addN_c {t m:Nat} {L:Lim} {b s:UInt64} {l:List (Key×UInt64)} (c sp:UInt64) (a:Option Addr) (ws:List Key) (cc:Nat) (w:World) (h:TrAt w t m L b s l) (hw:SlAt kc 32 w a ws) (hn:ws.length≤100000) (hx:would L b s (ofK l) c ws sp≠0):
  Calls Tryz.prog 93 #[ptrV t,u64v c,.slice a ws.length cc,u64v sp] w fun e w'=>e= .returned (.int .i64 (would L b s (ofK l) c ws sp:Nat))∧Mod (fun _=>False) w w':=by
 have HW:=Hi (would_c c sp a ws cc w h hw hn);generalize would L b s (ofK l) c ws sp=wd at *;have hne:((wd:Int) !=0)=true:=by rw[bne_iff_ne];omega
 clear h hw hx;go_enter Tryz.func93,Tryz.ntmps93;go_wp2_with fail;go_at_call 120;refine HW.out.mono ?_;rintro e w2 ⟨rfl,m2⟩;go_wp2_with fail;go_ret;exact⟨rfl,m2⟩
def adF (l:List (Key×UInt64)) (c:UInt64):Key→UInt64:=fun k=>sat (ofK l k) c
def AddPost (t m:Nat) (L:Lim) (b s:UInt64) (l:List (Key×UInt64)) (c sp:UInt64) (ws:List Key) (w w':World):Prop:=
 (∃done:List (Key×UInt64),done.Perm (putAll (adF l c) ws [])∧TrAt w' t m L (sat b c) (sat s sp) (putL done l))∧Mod (fun i=>i=t∨i=m) w w'
theorem addR_c {t m:Nat} {L:Lim} {b s:UInt64} {l:List (Key×UInt64)} (c sp:UInt64) (a:Option Addr) (ws:List Key) (cc:Nat) (w:World) (h:TrAt w t m L b s l) (hw:SlAt kc 32 w a ws) (hn:ws.length≤100000) (hx:would L b s (ofK l) c ws sp=0) (ha:∀g o,a=some ⟨g,o,none⟩→g≠t∧g≠m):
  Calls Tryz.prog 93 #[ptrV t,u64v c,.slice a ws.length cc,u64v sp] w fun e w'=>e= .returned (.int .i64 0)∧AddPost t m L b s l c sp ws w w':=by
 have hwd:=would_c c sp a ws cc w h hw hn;rw[hx]at hwd;have HWD:=Hi hwd;have HW:=Hi (Ai hw ha);obtain⟨kt,es,cl,km,M⟩:=h;obtain⟨Lb,La,Lsp⟩:=L;dsimp only at kt;have HM:=Hi M;have htm:t≠m:=ne_of_obj kt km (by simp);have hmm:= @run_makeMap Tryz.prog;clear hw M hwd hx ha;go_enter Tryz.func93,Tryz.ntmps93;go_wp2_with fail;go_at_call 120;refine HWD.out.mono ?_;rintro e w1 ⟨rfl,m1⟩;replace kt:=m1.at0 kt;replace km:=m1.at0 km;obtain⟨z1,hz1⟩:∃z,sat b c=z:=⟨_,rfl⟩;obtain⟨z2,hz2⟩:∃z,sat s sp=z:=⟨_,rfl⟩;have HZ:=Hi (Ai hz1 hz2);clear hz1 hz2;go_upto_region 4 with fail;have Lkt:=Ls kt;have Lkm:=Ls km;refine wp_region_any (by kernel_rfl) ?_;change wpAny _ .any _ _ 22 _ _ _;(refine take_first (i:=1) (v:= ?v1) (by simp only[zK];rfl) (by kernel_rfl) (fun _ _ d _ _ h=>by cases d<;>first|exact h|exact absurd h (hP _ _ _)) ?hw1 (fun w1=> ?y1) ?n1;(case hw1=>rfl);(case y1=>go_simp;try with_reducible rfl);try simp only[zL]);refine e_anyL (T0:=fun _=>False) (K:=fun _ _=>True) (κ:=fun i=>[0,0,0,0,0,0,0,3,6,0,0,0,0,0,3,6,0,0,6,0,0,6].getD i 0) (υ:=fun i=>[[],[],[],[],[],[],[],[],[30],[],[],[],[],[],[],[37],[],[],[],[],[],[]].getD i []) (fun _ _ d _ _ h=>by cases d<;>first|exact h|exact absurd h (hP _ _ _)) [0,2,3,4,5,6,7,8,9,10,11,12,13,14,15,16,17] [18,19,20,21] (by kernel_rfl) (Good.true).cl (rg_drew (Good.true).cl (trivial) (fun _ h=>h.elim)) ?_;have gK:=Good.true
 iterate 4 refine Zg ?_
 refine Zh ?_;refine Zg ?_;(refine TG.bslice (by simp only[zK];rfl) rfl (by rfl) rfl rfl ?hx8 (bs64 b c) (fun p30 hp30 _=> ?n8);(case hx8=>(simp only[List.map_toArray,List.map_cons,List.map_nil,zM];(try rfl)));try simp only[zL]);(refine ZG (fun v=>v=u64v z1) gK ?_ (s:=fun T wq kq ltq hSq ub=>by have kp30:=ub.box (p:=p30) (by first|exact Bx.set_same _ _ _|(simp only[Bx.set_same];rfl)) (by first|decide|exact List.mem_singleton.2 rfl|simp);dsimp only[Value.cells]at kp30;have nUp30:=(ub p30 _ (by first|exact Bx.set_same _ _ _|(simp only[Bx.set_same];rfl)) (by first|decide|exact List.mem_singleton.2 rfl|simp)).1;exact(tsum_c p30 b c wq kp30).mono (fun e w' h=>⟨_,h.1,by rw[HZ.out.1],h.2⟩));rintro v9 hC;subst hC;try simp only[zL])
 iterate 3 refine Zg ?_
 refine Zh ?_;refine Zg ?_;(refine TG.bslice (by simp only[zK];rfl) rfl (by rfl) rfl rfl ?hx15 (bs64 s sp) (fun p37 hp37 _=> ?n15);(case hx15=>(simp only[List.map_toArray,List.map_cons,List.map_nil,zM];(try rfl)));try simp only[zL]);obtain⟨ne_p37_p30,hp37⟩:=Bx.set_none hp37;(refine ZG (fun v=>v=u64v z2) gK ?_ (s:=fun T wq kq ltq hSq ub=>by have kp37:=ub.box (p:=p37) (by first|exact Bx.set_same _ _ _|(simp only[Bx.set_ne _ (Ne.symm ne_p37_p30),Bx.set_ne _ ne_p37_p30,Bx.set_same];rfl)) (by first|decide|exact List.mem_singleton.2 rfl|simp);dsimp only[Value.cells]at kp37;have nUp37:=(ub p37 _ (by first|exact Bx.set_same _ _ _|(simp only[Bx.set_ne _ (Ne.symm ne_p37_p30),Bx.set_ne _ ne_p37_p30,Bx.set_same];rfl)) (by first|decide|exact List.mem_singleton.2 rfl|simp)).1;exact(tsum_c p37 s sp wq kp37).mono (fun e w' h=>⟨_,h.1,by rw[HZ.out.2],h.2⟩));rintro v16 hC;subst hC;try simp only[zL])
 iterate 2 refine Zg ?_
 refine TG.nil (fun w2 ⟨TR,hr⟩=> ?_);replace kt:=hr.q kt;replace km:=hr.q km;obtain⟨gp30,nTp30,kp30⟩:=hr.b p30 (by first|exact Bx.set_same _ _ _|(simp only[Bx.set_ne _ (Ne.symm ne_p37_p30),Bx.set_ne _ ne_p37_p30,Bx.set_same];rfl));obtain⟨gp37,nTp37,kp37⟩:=hr.b p37 (by first|exact Bx.set_same _ _ _|(simp only[Bx.set_ne _ (Ne.symm ne_p37_p30),Bx.set_ne _ ne_p37_p30,Bx.set_same];rfl));clear gK;have m2:=m1.then0 hr.mod;clear hr kp30 kp37 gp30 gp37 nTp30 nTp37;refine Zz ?_;refine ZS ?_;refine ZM kt fun wn kt mS=> ?_;have km:=mS.at_ne km htm.symm;have mA:=mS;clear mS;refine Ze ?_;refine Ze ?_;refine Zz ?_;refine ZS ?_;refine ZN kt fun wn kt mS=> ?_;replace kt:wn.heap[t]? =some (.cells #[u64v Lb,u64v La,u64v Lsp,u64v z1,u64v z2,.map (some m)] 233 (0,0)):=kt;have km:=mS.at_ne km htm.symm;have HM2:=Hi ((m2.mono (T:=fun i=>i=t) (fun _ _ h=>h.elim)).trans (mA.trans mS));clear m2 mA mS;have HLT:=Hi (Ai (Ls kt) (Ls km));go_upto_region 6 with fail;obtain⟨w5,pm,hpm,kpm,m5,e5⟩:∃w5 pm,wn.heap.size=pm∧w5.heap[pm]? =some (.map #[] 0)∧Mod (fun _=>False) wn w5∧wn.alloc (.map #[] 0)=w5:=⟨_,_,rfl,heap_alloc_new _ _,(Mod.refl _ _).alloc _,rfl⟩;rw[e5,hpm];have kt:=m5.at0 kt;have km:=m5.at0 km;have hpt:pm≠t∧pm≠m:=by have:=HLT.out;exact⟨by omega,by omega⟩
 have hpw:w.heap.size≤pm:=by have:=HM2.out.size;omega
 have HM5:=Hi (HM2.out.then0 m5);have KT:=Hi (Ai kt km);have KP0:Hid (∃es2 c2,w5.heap[pm]? =some (.map es2 c2)∧MapIs kv u64v es2 c2 (putAll (adF l c) (ws.take 0) [])):=Hi ⟨_,_,kpm,by rw[List.take_zero];exact MapIs.empty kv u64v⟩;clear e5 m5 kpm hpm kt km HM2;go_wp2_with fail;go_loopw [46] (fun s46 wx=>∃i:Nat,i≤ws.length∧s46= .int .i64 (i:Int)∧Hid (∃es2 c2,wx.heap[pm]? =some (.map es2 c2)∧MapIs kv u64v es2 c2 (putAll (adF l c) (ws.take i) []))∧Mod (fun j=>j=pm) w5 wx) (fun s46 _=>ws.length-(intOf s46).toNat)
 case atStart=>exact⟨0,Nat.zero_le _,rfl,KP0,Mod.refl _ _⟩
 case round=>
  obtain⟨i,hi,rfl,HP,hm⟩:=hrel;have kt:=hm.at_ne KT.out.1 hpt.1.symm;have km:=hm.at_ne KT.out.2 hpt.2.symm;by_cases hlt:i<ws.length
  ·have hd:=Dt hlt;obtain⟨k,hk⟩:∃k,ws[i]? =some k:=⟨_,List.getElem?_eq_getElem hlt⟩;have hsl:SlAt kc 32 wr a ws:=HW.out.1.mod (HM5.out.thenB hm (.inl hpw)) (fun b o e=>(HW.out.2 b o e).1);obtain⟨g,o,C,U,fr,rfl,kg,he,hle⟩:=key_at hsl hk;have HK:=Hi hk;clear hk hsl;obtain⟨es2,c2,kpm,M2⟩:=HP.out;have HM22:=Hi M2;clear M2;go_upto_region 8 with fail;have Lkg:=Ls kg;have Lkt:=Ls kt;have Lkm:=Ls km;have Lkpm:=Ls kpm;refine ZP0 [0,1,3,4] ?_;refine Zv ?_;refine Zd ?_;refine Za alKey fun p12 hp12=> ?_;refine Zt ?_;refine TD.nil (fun w7 hr=> ?_);replace kg:=hr.q kg;replace kt:=hr.q kt;replace km:=hr.q km;replace kpm:=hr.q kpm;obtain⟨gp12,kp12⟩:=hr.b p12;have hm7:=hm.then0 hr.mod;clear hr kg he hle;obtain⟨y,hy⟩:∃y,ofK l k=y:=⟨_,rfl⟩;have hlk:∀wq,Mod (fun _=>False) w7 wq→(Instr.lookup 231 (.map (some m)) (.agg (kc k)) false).run Tryz.prog wq= .ok (u64v y) wq:=fun wq hq=>by
    have:=HM.out.lookupD keyT Tryz.underlying231 zero_u64 wq (hq.at0 km) k;rw[show((lkp k l).getD 0)=y from hy]at this;exact this
   obtain⟨z3,hz3⟩:∃z,sat y c=z:=⟨_,rfl⟩;have HZ3:=Hi (Ai hz3 hy);have h12:p12≠pm:=ne_of_obj kp12 kpm (by simp);clear hz3 hy;go_upto_region 9 with fail;have Lkt:=Ls kt;have Lkm:=Ls km;have Lkpm:=Ls kpm;have Lkp12:=Ls kp12;refine wp_epass (T0:=fun _=>False) (K:=fun _ _=>True) (κ:=fun i=>[0,0,0,0,0,0,0,0,0,3,6,6].getD i 0) (υ:=fun i=>[[],[],[],[],[],[],[],[],[],[],[59],[]].getD i []) [0,1,2,3,4,5,6,7,8,9,10] [11] (by kernel_rfl) (by kernel_rfl) (Good.true).cl (trivial) (fun _ h=>h.elim) ?_;have gK:=Good.true;refine Zg ?_;refine Zh ?_
   iterate 3 refine Zg ?_
   refine Zh ?_;refine Zh ?_;(refine TG.lookup (v:= ?v34) (p:= ?p34) (q:= ?q34) (by simp only[zK];rfl) rfl (by rfl) rfl ?hx34 ?hz34 (fun wq hSq=> ?y34) ?n34;(case hx34=>simp only[zM];try rfl);(case hz34=>simp only[zM];try rfl);(case y34=>(rw[hlk wq hSq];(try with_reducible rfl)));try simp only[zL]);refine Zg ?_;(refine TG.bslice (by simp only[zK];rfl) rfl (by rfl) rfl rfl ?hx36 (bs64 y c) (fun p59 hp59 _=> ?n36);(case hx36=>(simp only[List.map_toArray,List.map_cons,List.map_nil,zM];(try rfl)));try simp only[zL]);(refine ZG (fun v=>v=u64v z3) gK ?_ (s:=fun T wq kq ltq hSq ub=>by have kp59:=ub.box (p:=p59) (by first|exact Bx.set_same _ _ _|(simp only[Bx.set_same];rfl)) (by first|decide|exact List.mem_singleton.2 rfl|simp);dsimp only[Value.cells]at kp59;have nUp59:=(ub p59 _ (by first|exact Bx.set_same _ _ _|(simp only[Bx.set_same];rfl)) (by first|decide|exact List.mem_singleton.2 rfl|simp)).1;exact(tsum_c p59 y c wq kp59).mono (fun e w' h=>⟨_,h.1,by rw[HZ3.out.1],h.2⟩));rintro v37 hC;subst hC;try simp only[zL]);refine TG.nil (fun w8 ⟨TR,hr⟩=> ?_);replace kt:=hr.q kt;replace km:=hr.q km;replace kpm:=hr.q kpm;replace kp12:=hr.q kp12;obtain⟨gp59,nTp59,kp59⟩:=hr.b p59;clear gK;have hm8:=hm7.then0 hr.mod;obtain⟨es3,c3,hup,M3⟩:=HM22.out.update keyT Tryz.underlying231 w8 kpm k z3;have HM33:=Hi M3;clear hr M3 hlk;refine Zz ?_;(refine eff_update (X:= ?X38) (Y:= ?Y38) (Z:= ?Z38) (w':= ?w38) (by simp only[zK];rfl) (by rfl) rfl ?hx38 ?hz38 ?hv38 ?y38 ?n38;(case hx38=>simp only[zM];try rfl);(case hz38=>simp only[zM];try rfl);(case hv38=>(simp only[zM];(try rfl)));(case y38=>exact hup));refine TE.nil_set kpm (fun wn kpm mS=> ?_);have hm9:=hm8.trans mS;have HR:Hid (MapIs kv u64v es3 c3 (putAll (adF l c) (ws.take (i+1)) [])):=Hi (by
    have h1:=HM33.out;rw[List.take_add_one,HK.out];simp only[Option.toList_some];rw[putAll_snoc,show adF l c k=z3 by rw[←HZ3.out.1,←HZ3.out.2];rfl];exact h1)
   clear mS;go_wp2_with fail;go_roundw
   case rel=>exact⟨i+1,by omega,by go_num,Hi ⟨_,_,kpm,HR.out⟩,hm9⟩
   case measure=>simp[intOf];omega
  ·have hd:=Df hlt;obtain rfl:i=ws.length:=by omega
   obtain⟨es2,c2,kpm,M2⟩:=HP.out;rw[List.take_length]at M2;have HM22:=Hi M2;have hrg:=run_range_map (P:=Tryz.prog) wr 231 110 25 pm es2 c2 Tryz.underlying231 kpm;have HMr:=Hi (HM5.out.thenB hm (.inl hpw));have HLW:=Hi (Ai (Ls kpm) (Ai (Ls kt) (Ls km)));clear M2 hm;go_wp2_with fail;obtain⟨w9,rb,hrb,kr,m9,e9⟩:∃w9 rb,wr.heap.size=rb∧w9.heap[rb]? =some (.mapIter (some pm) c2 #[] c2)∧Mod (fun _=>False) wr w9∧w9=wr.alloc (.mapIter (some pm) c2 #[] c2):=⟨_,_,rfl,heap_alloc_new _ _,(Mod.refl _ _).alloc _,rfl⟩;rw[←e9,hrb];have hit:=IterAt.start HM22.out kr;have HIT:=Hi hit;have KPM:=Hi (m9.at0 kpm);have KT9:=Hi (Ai (m9.at0 kt) (m9.at0 km));have HM9:=Hi (HMr.out.then0 m9);have hrb2:w.heap.size≤rb∧rb≠t∧rb≠m∧rb≠pm:=by
    have h1:=HLW.out;have h2:=HMr.out.size;exact⟨by omega,by omega,by omega,by omega⟩
   clear e9 hrb hrg kpm kr hit m9 kt km;go_loopw [] (fun wx=>∃(done rem:List (Key×UInt64)),Hid ((done++rem).Perm (putAll (adF l c) ws []))∧Hid (IterAt wx rb pm kv u64v es2 c2 rem)∧Hid (∃es4 c4,wx.heap[m]? =some (.map es4 c4)∧MapIs kv u64v es4 c4 (putL done l))∧wx.heap[t]? =some (.cells #[u64v Lb,u64v La,u64v Lsp,u64v z1,u64v z2,.map (some m)] 233 (0,0))∧wx.heap[pm]? =some (.map es2 c2)∧Mod (fun i=>i=rb∨i=m) w9 wx) (fun wx=>leftN wx rb pm)
   case atStart=>exact⟨[],putAll (adF l c) ws [],Hi (by simp),HIT,Hi ⟨_,_,KT9.out.2,HM.out⟩,KT9.out.1,KPM.out,Mod.refl _ _⟩
   case round=>
    obtain⟨done,rem,HPm,HIt,HMp,kt,kpm,hm⟩:=hrel;have hmeas:=(HIt.out).leftN kpm;have HL:=Hi hmeas;clear hmeas;rcases HIt.out.next (P:=Tryz.prog) HM22.out kpm 0 with⟨hrem,hrun⟩|⟨q,rem',w3,it,hperm,hrun,kr3,m3,kpm3,hent⟩
    ·have HE:=Hi hrem;obtain⟨es4,c4,km,M4⟩:=HMp.out;have HM4:=Hi M4;clear M4 hrem;go_wp2_with fail;go_ret;refine⟨rfl,⟨done,?_,?_⟩,?_⟩
     ·have h1:=HPm.out;rw[HE.out,List.append_nil]at h1;exact h1
     ·rw[HZ.out.1,HZ.out.2];exact⟨kt,es4,c4,km,HM4.out⟩
     ·exact(HM9.out.mono (T:=fun i=>i=t∨i=m) (fun _ _ h=> .inl h)).then hm (fun j hj e=>by rcases e with e|e<;>omega)
    ·obtain⟨qk,qv⟩:=q;have HP:=Hi hperm;have HE:Hid (∀wq,Mod (fun _=>False) w3 wq→(Instr.entry (.pointer (some ⟨rb,0,none⟩))).run Tryz.prog wq= .ok (.tuple #[.agg (kc qk),u64v qv]) wq):=Hi fun wq hm=>(hent wq (hm.at0 kr3) (hm.at0 kpm3)).1;have HIE:Hid (∀wq,Mod (fun i=>i=m) w3 wq→IterAt wq rb pm kv u64v es2 c2 rem'):=Hi fun wq hm=>(hent wq (hm.at_ne kr3 hrb2.2.2.1) (hm.at_ne kpm3 hpt.2)).2;obtain⟨es4,c4,km,M4⟩:=HMp.out;have HM4:=Hi M4;replace kt:=m3.at_ne kt hrb2.2.1.symm;replace km:=m3.at_ne km hrb2.2.2.1.symm;have mm:=hm.trans (m3.mono (fun _ _ h=> .inl h));have hrun2:(Instr.next (.pointer (some ⟨rb,0,none⟩)) false 0).run Tryz.prog wr= .ok (.tuple #[.bool true,.agg (kc qk),u64v qv]) w3:=hrun;clear hperm hent hm m3 hrun M4 kpm;go_upto_region 13 with fail;have hent2:=HE.out;clear hrun2;have Lkr3:=Ls kr3;have Lkpm3:=Ls kpm3;have Lkt:=Ls kt;have Lkm:=Ls km;refine ZP0 [1,0,0,3,4,0] ?_;(refine TD.entry (v:= ?v39) (p:= ?p39) (Mod.refl _ _) (by simp only[zK];rfl) rfl (by rfl) rfl ?hx39 (fun wq hSq=> ?y39) ?n39;(case hx39=>simp only[zM];try rfl);(case y39=>(rw[hent2 wq hSq];(try with_reducible rfl)));try simp only[zL])
     iterate 2 refine Zv ?_
     refine Za alKey fun p13 hp13=> ?_;refine Zt ?_;refine Zv ?_;refine TD.nil (fun w4 hr=> ?_);replace kr3:=hr.q kr3;replace kpm3:=hr.q kpm3;replace kt:=hr.q kt;replace km:=hr.q km;obtain⟨gp13,kp13⟩:=hr.b p13;clear hent2 HE;have HMM4:=Hi (Ai hr.mod (mm.then0 hr.mod));clear hr mm;go_upto_region 14 with fail;have Lkr3:=Ls kr3;have Lkpm3:=Ls kpm3;have Lkt:=Ls kt;have Lkp13:=Ls kp13;have Lkm:=Ls km;refine ZP [0,0,0,1,1,0,5] ?_
     iterate 6 first|refine Zv ?_|refine Zd ?_
     refine Zi fun wE hr=> ?_;replace kr3:=hr.mod.at0 kr3;replace kpm3:=hr.mod.at0 kpm3;replace kt:=hr.mod.at0 kt;replace kp13:=hr.mod.at0 kp13;replace km:=hr.mod.at0 km;have mE:=hr.mod;obtain⟨es51,cl51,hrun51,Mkm⟩:=HM4.out.update keyT Tryz.underlying231 wE km qk qv;(refine eff_update (X:= ?X51) (Y:= ?Y51) (Z:= ?Z51) (w':= ?w51) (by simp only[zK];rfl) (by rfl) rfl ?hx51 ?hz51 ?hv51 ?y51 ?n51;(case hx51=>simp only[zM];try rfl);(case hz51=>simp only[zM];try rfl);(case hv51=>(simp only[zM];(try rfl)));(case y51=>exact hrun51));refine ZN km fun w5x km mS=> ?_;(try simp only[Array.setIfInBounds,zL]at km);replace kr3:=mS.at_ne kr3 (by omega);replace kpm3:=mS.at_ne kpm3 (by omega);replace kt:=mS.at_ne kt (by omega);replace kp13:=mS.at_ne kp13 (by omega);have HE5:=Hi (Ai (HIE.out _ ((HMM4.out.1.mono (T:=fun i=>i=m) (fun _ _ h=>h.elim)).trans ((mE.mono (fun _ _ h=>h.elim)).trans mS))) (Ai ((HMM4.out.2.then0 mE).trans (mS.mono (fun _ _ h=> .inr h))) Mkm));clear hr mE mS Mkm;have HPL:Hid (putL (done++[(qk,qv)]) l=put qk qv (putL done l)):=Hi (by simp[putL]);go_wp2_with fail;go_roundw
     case rel=>exact⟨_,_,_,_,_,_,_,_,_,_,_,_,_,⟨done++[(qk,qv)],rem',Hi (by
       have h1:=HPm.out;refine List.Perm.trans ?_ h1;rw[List.append_assoc];exact List.Perm.append_left _ HP.out.symm),Hi HE5.out.1,Hi ⟨_,_,km,by rw[HPL.out];exact HE5.out.2.2⟩,kt,kpm3,HE5.out.2.1⟩,rfl⟩
     case measure=>
      have h1:=HL.out;have h2:=HP.out.length_eq;have h3:=HE5.out.1.leftN kpm3;simp only[List.length_cons]at h2;omega
end
section
attribute [local go_sem↓] eqHash eqSig
attribute [local go_sem] zHash_ext zHash_one0 neMapS
def firstS (l:List Sg):Sg:=(l[0]?).getD sig0
theorem zSg_eq:zSg=sgc sig0:=by rfl
theorem ldSigAt {w:World} {p:Nat} {k:Sg} {U:TypeId} (h:w.heap[p]? =some (.cells (sgc k) U (0,0))):(Instr.loadAt 103 (.pointer (some ⟨p,0,none⟩))).run Tryz.prog w= .ok (.agg (sgc k)) w:=by
 rw[ldSig,h];simp[sgc_size,sgc_ext]
theorem first_c (x:RdR) (w:World) (hs:SlAt sgc 64 w x.sg.a x.sg.l):Calls Tryz.prog 45 #[.agg (rdr x)] w fun e w'=>e= .returned (.agg (sgc (firstS x.sg.l)))∧Mod (fun _=>False) w w':=by
 have HS:=Hi hs;clear hs;go_enter Tryz.func45,Tryz.ntmps45;go_upto_region 0 with fail;refine ZP0 [3,3] ?_;refine Zb fun p1 hp1=> ?_;refine Za alSig fun p2 hp2=> ?_;obtain⟨ne_p2_p1,hp2⟩:=Bx.set_none hp2;refine TD.nil (fun w1 hr=> ?_);obtain⟨gp1,kp1⟩:=hr.b p1 (by first|exact Bx.set_same _ _ _|(simp only[Bx.set_ne _ (Ne.symm ne_p2_p1),Bx.set_ne _ ne_p2_p1,Bx.set_same];rfl));obtain⟨gp2,kp2⟩:=hr.b p2 (by first|exact Bx.set_same _ _ _|(simp only[Bx.set_ne _ (Ne.symm ne_p2_p1),Bx.set_ne _ ne_p2_p1,Bx.set_same];rfl));have m1:=hr.mod;clear hr;have h12:p1≠p2:=fun e=>ne_p2_p1 e.symm;cases hl:x.sg.l with
 |nil=>
  have HL:=Hi hl;have hn0:x.sg.l.length=0:=by rw[hl];rfl
  have hd:decide (x.sg.l.length>0)=false:=by rw[hn0];rfl
  have hd2:decide ((x.sg.l.length:Int)>0)=false:=by rw[hn0];rfl
  have hd3:decide (0<x.sg.l.length)=false:=by rw[hn0];rfl
  have m4:=m1;have hp2:w.heap.size≤p2:=gp2;clear hl hn0;rw[zSg_eq]at kp2;go_upto_region 3 with fail;have Lkp2:=Ls kp2;refine ZP0 [1,5] ?_;(refine TD.load (v:= ?v3) (p:= ?p3) (Mod.refl _ _) (by simp only[zK];rfl) rfl (by rfl) rfl ?hx3 (fun wq hSq=> ?y3) ?n3;(case hx3=>simp only[zM];try rfl);(case y3=>(have kp2q:=hSq.at kp2 (fun h=>h);exact(ldSigAt kp2q)));try simp only[zL]);refine Zi fun wE hr=> ?_;replace kp2:=hr.mod.at0 kp2;have mE:=hr.mod;refine ZS ?_;refine ZN kp2 fun w5 kp2 mS=> ?_;(try simp only[Array.setIfInBounds,zL]at kp2);have m5:=(m4.then ((mE.mono (T:=fun i=>i=p2) (fun _ _ h=>h.elim)).trans mS) (fun i hi e=>by omega));clear hr mE mS;go_wp2_with fail;refine bodyPost_ret (results_cell1 (v:= .agg (sgc (sig0))) rfl rfl (by rw[ldSig];simp[kp2,sgc_size,sgc_ext])) rfl ⟨?_,m5⟩;rw[HL.out];rfl
 |cons s r=>
  have HL:=Hi hl;have hx:x.sg.l[0]? =some s:=by rw[hl];rfl
  have hpos:0<x.sg.l.length:=by rw[hl];simp
  have hd:decide (x.sg.l.length>0)=true:=Dt hpos;have hd2:decide ((x.sg.l.length:Int)>0)=true:=Dt (by omega);have hd3:decide (0<x.sg.l.length)=true:=Dt hpos;obtain⟨g,o,C,U,fr,ha,kg,he,hle⟩:=sig_at (HS.out.mod0 m1) hx;have hg2:g≠p2:=by
   intro e;have h1:=SlAt.block HS.out hx;obtain⟨g',o',_,_,_,e2,hk,_⟩:=h1;rw[ha]at e2;cases e2;have:=Ls hk;omega
  have he2:C.extract o (o+64)=sgc s:=by simpa using he
  have hle2:o+64≤C.size:=by omega
  clear hl hx he hle;go_upto_region 2 with fail;have Lkp1:=Ls kp1;have Lkg:=Ls kg;have Lkp2:=Ls kp2;refine ZP0 [0,0,1,0,1,5] ?_
  iterate 5 first|refine Zv ?_|refine Zd ?_
  refine Zi fun wE hr=> ?_;replace kp1:=hr.mod.at0 kp1;replace kg:=hr.mod.at0 kg;replace kp2:=hr.mod.at0 kp2;have mE:=hr.mod;refine ZS ?_;refine ZN kp2 fun w4 kp2 mS=> ?_;(try simp only[Array.setIfInBounds,zL]at kp2);replace kp1:=mS.at_ne kp1 (by omega);replace kg:=mS.at_ne kg (by omega);have hp2:w.heap.size≤p2:=gp2;have m4:=m1.then ((mE.mono (T:=fun i=>i=p2) (fun _ _ h=>h.elim)).trans mS) (fun i hi e=>by omega);clear hr mE mS kg he2 hle2 hd hd2 hd3;go_upto_region 3 with fail;have Lkp2:=Ls kp2;refine ZP0 [1,5] ?_;(refine TD.load (v:= ?v11) (p:= ?p11) (Mod.refl _ _) (by simp only[zK];rfl) rfl (by rfl) rfl ?hx11 (fun wq hSq=> ?y11) ?n11;(case hx11=>simp only[zM];try rfl);(case y11=>(have kp2q:=hSq.at kp2 (fun h=>h);exact(ldSigAt kp2q)));try simp only[zL]);refine Zi fun wE hr=> ?_;replace kp2:=hr.mod.at0 kp2;have mE:=hr.mod;refine ZS ?_;refine ZN kp2 fun w5 kp2 mS=> ?_;(try simp only[Array.setIfInBounds,zL]at kp2);have m5:=(m4.then ((mE.mono (T:=fun i=>i=p2) (fun _ _ h=>h.elim)).trans mS) (fun i hi e=>by omega));clear hr mE mS;go_wp2_with fail;refine bodyPost_ret (results_cell1 (v:= .agg (sgc (s))) rfl rfl (by rw[ldSig];simp[kp2,sgc_size,sgc_ext])) rfl ⟨?_,m5⟩;rw[HL.out];rfl
def frV (H:List Key) (N:List (Sg×Key)) (x:RdR):Nat:=if x.rc∈H then(if(lkp (firstS x.sg.l) N).isSome then 28 else 0)else 27
theorem fresh_c {T:Nat→Prop} {b s q n t:Nat} {e:Bool} {ea:Option Addr} {en ec:Nat} {oa:Option Addr} {on oc:Nat} {f:UInt64} {H:List Key} {N:List (Sg×Key)} (x:RdR) (w:World) (kb:w.heap[b]? =some (.cells (blkC s q n t e ea en ec oa on oc f) 130 (0,0))) (hq:QuAt w q H) (hn:SeAt T w n N) (hs:SlAt sgc 64 w x.sg.a x.sg.l):
  Calls Tryz.prog 91 #[ptrV b,.agg (rdr x)] w fun r w'=>r= .returned (.int .i64 (frV H N x:Nat))∧Mod (fun _=>False) w w':=by
 unfold blkC at kb;have HH:=Hi (Ai hq (Ai hn hs));clear hq hn hs;go_enter Tryz.func91,Tryz.ntmps91;go_upto_region 0 with fail;have Lkb:=Ls kb;refine ZP0 [3,0] ?_;refine Zb fun p3 hp3=> ?_;refine Zv ?_;refine TD.nil (fun w1 hr=> ?_);replace kb:=hr.q kb;obtain⟨gp3,kp3⟩:=hr.b p3;have m1:=hr.mod;clear hr;obtain⟨y,hy⟩:∃y,decide (x.rc∈H)=y:=⟨_,rfl⟩;have HY:=Hi hy;clear hy;go_upto_region 1 with fail;have Lkb:=Ls kb;have Lkp3:=Ls kp3;refine wp_gpass (T0:=fun _=>False) (K:=fun _ _=>True) (κ:=fun i=>[0,0,0,0,0,0,0,0,6,0,0,0,0,0].getD i 0) (υ:=fun _=>[]) [0,1,2,3,4,5,6,7,8,9,10,11,12,13] (by kernel_rfl) (by kernel_rfl) (Good.true).cl (trivial) (fun _ h=>h.elim) ?_;have gK:=Good.true
 iterate 3 refine Zg ?_
 refine Zh ?_
 iterate 3 refine Zg ?_
 refine Zh ?_;(refine ZG (fun v=>∃i:Nat,v= .tuple #[.int .i64 (i:Int),.bool y]) gK ?_ (s:=fun T wq kq ltq hSq ub=>by exact(age_c q H x.rc wq (HH.out.1.mod0 (m1.then0 hSq))).mono (fun e w' h=>by obtain⟨i,h1,h2⟩:=h;exact⟨_,h1,⟨i,by rw[HY.out]⟩,h2⟩));rintro v23 hC;(obtain⟨i0,rfl⟩:=hC);try simp only[zL])
 iterate 5 refine Zg ?_
 refine TG.nil (fun w2 ⟨TR,hr⟩=> ?_);replace kb:=hr.q kb;replace kp3:=hr.q kp3;clear gK;have m2:=m1.then0 hr.mod;clear hr;cases y with
 |false=>
  go_wp2_with fail;go_ret;exact⟨by rw[frV,if_neg (of_decide_eq_false HY.out)];rfl,m2⟩
 |true=>
  obtain⟨z,hz⟩:∃z,(lkp (firstS x.sg.l) N).isSome=z:=⟨_,rfl⟩;have HZ:=Hi hz;clear hz;go_upto_region 4 with fail;have Lkb:=Ls kb;have Lkp3:=Ls kp3;refine wp_gpass (T0:=fun _=>False) (K:=fun _ _=>True) (κ:=fun i=>[0,0,0,0,0,6,6].getD i 0) (υ:=fun _=>[]) [0,1,2,3,4,5,6] (by kernel_rfl) (by kernel_rfl) (Good.true).cl (trivial) (fun _ h=>h.elim) ?_;have gK:=Good.true
  iterate 3 refine Zg ?_
  refine Zh ?_;refine Zh ?_;(refine ZG (fun v=>v= .agg (sgc (firstS x.sg.l))) gK ?_ (s:=fun T wq kq ltq hSq ub=>by exact(first_c x wq (HH.out.2.2.mod0 (m2.then0 hSq))).mono (fun e w' h=>⟨_,h.1,rfl,h.2⟩));rintro v34 hC;subst hC;try simp only[zL]);(refine ZG (fun v=>v= .bool z) gK ?_ (s:=fun T wq kq ltq hSq ub=>by exact(shas_c n N (firstS x.sg.l) wq (HH.out.2.1.mod0 (m2.then0 hSq))).mono (fun e w' h=>⟨_,h.1,by rw[HZ.out],h.2⟩));rintro v35 hC;subst hC;try simp only[zL]);refine TG.nil (fun w3 ⟨TR,hr⟩=> ?_);replace kb:=hr.q kb;replace kp3:=hr.q kp3;clear gK;have m3:=m2.then0 hr.mod;clear hr;cases z with
  |true=>
   go_wp2_with fail;go_ret;exact⟨by rw[frV,if_pos (of_decide_eq_true HY.out),if_pos HZ.out];rfl,m3⟩
  |false=>
   go_wp2_with fail;go_ret;exact⟨by rw[frV,if_pos (of_decide_eq_true HY.out),if_neg (by rw[HZ.out];simp)];rfl,m3⟩
end
section
def VOk (w:World) (x:TdR):Prop:=SlAt sgc 64 w x.r.sg.a x.r.sg.l∧SlAt rcr 34 w x.r.ro.a x.r.ro.l∧SlAt inr 3 w x.r.ins.a x.r.ins.l∧x.r.ro.l.length≤300∧x.r.ins.l.length≤140737488355328∧x.r.sg.l.length≤140737488355328∧∀y∈x.r.ins.l,y.d.l.length≤140737488355328
theorem VOk.mod0 {w w':World} {x:TdR} (h:VOk w x) (hm:Mod (fun _=>False) w w'):VOk w' x:=⟨h.1.mod0 hm,h.2.1.mod0 hm,h.2.2.1.mod0 hm,h.2.2.2⟩
def coX (x:TdR):UInt64:=coF (UInt64.ofNat x.r.sg.l.length) (UInt64.ofNat (wrL x.r.ro.l).length) (dSum x.r.ins.l) x.o.un
section
variable {T:Nat→Prop} {b s q n t m:Nat} {e:Bool} {ea:Option Addr} {en ec:Nat} {oa:Option Addr} {on oc:Nat} {f:UInt64} {H:List Key} {N:List (Sg×Key)} {L:Lim} {bb sp:UInt64} {l:List (Key×UInt64)}
theorem step2_c (x:TdR) {p r:Nat} (w:World) (kb:w.heap[b]? =some (.cells (blkC s q n t e ea en ec oa on oc f) 130 (0,0))) (hq:QuAt w q H) (hn:SeAt T w n N) (hv:VOk w x) (kp:w.heap[p]? =some (.cells #[ptrV b] 33 (0,0))) (kr:w.heap[r]? =some (.cells (tdr x) 65 (0,0))):
  Calls Tryz.prog 90 #[ptrV p,ptrV r] w fun o w'=>o= .returned (.int .i64 (frV H N x.r:Nat))∧Mod (fun _=>False) w w':=by
 have HF:=Hi (fun wq (h:Mod (fun _=>False) w wq)=>fresh_c x.r wq (h.at0 kb) (hq.mod0 h) (hn.mod0 h) (hv.1.mod0 h));generalize frV H N x.r=vd at *;clear hq hn hv;unfold blkC at kb;go_enter Tryz.func90,Tryz.ntmps90;go_upto_region 1 with fail;have Lkb:=Ls kb;have Lkp:=Ls kp;have Lkr:=Ls kr;refine ZR (fun _ _ v=>v= .int .i64 (vd:Int)) [1,0,0,0,1,2,0] ?_
 iterate 5 first|refine Zd ?_|refine Zv ?_
 (refine Zc ?_ (s:=by intro wq hSq;exact(HF.out wq hSq).mono (fun e w' h=>⟨_,h.1,rfl,h.2⟩));rintro _ rfl;try simp only[zL]);refine Zv ?_;refine TD.nil (fun w3 hr=> ?_);replace kb:=hr.q kb;replace kp:=hr.q kp;replace kr:=hr.q kr;have m3:=hr.mod;go_wp2_with fail;go_ret;exact⟨rfl,m3⟩
def S3 (t m:Nat) (L:Lim) (bb sp:UInt64) (l:List (Key×UInt64)) (x:TdR) (v:Nat) (w w':World):Prop:=
 v=would L bb sp (ofK l) (coX x) (wrL x.r.ro.l) x.o.sp∧((v≠0∧Mod (fun _=>False) w w')∨(v=0∧AddPost t m L bb sp l (coX x) x.o.sp (wrL x.r.ro.l) w w'))
theorem step3_c (x:TdR) {p r:Nat} (w:World) (kb:w.heap[b]? =some (.cells (blkC s q n t e ea en ec oa on oc f) 130 (0,0))) (ht:TrAt w t m L bb sp l) (hv:VOk w x) (kp:w.heap[p]? =some (.cells #[ptrV b] 33 (0,0))) (kr:w.heap[r]? =some (.cells (tdr x) 65 (0,0))):
  Calls Tryz.prog 92 #[ptrV r,ptrV p] w fun o w'=>∃v:Nat,o= .returned (.int .i64 (v:Int))∧S3 t m L bb sp l x v w w':=by
 have HT:=Hi ht;have HV:=Hi hv;unfold blkC at kb;clear ht hv;by_cases hw:would L bb sp (ofK l) (coX x) (wrL x.r.ro.l) x.o.sp=0
 ·have HW:=Hi hw;clear hw;go_enter Tryz.func92,Tryz.ntmps92;go_upto_region 1 with fail;go_wp2_with fail;go_at_call 41;refine(written_c x.r.ro.a x.r.ro.l x.r.ro.c _ HV.out.2.1 (by have:=HV.out.2.2.2.1;omega)).mono ?_;rintro o w1 ⟨v1,rfl,hN1,m1⟩;obtain⟨a1,rfl,hS1,hB1⟩:=hN1.at;replace kb:=m1.at0 kb;replace kp:=m1.at0 kp;replace kr:=m1.at0 kr;have HS1:=Hi (Ai hS1 hB1);have HT1:=Hi (HT.out.mod0 m1);have HV1:=Hi (HV.out.mod0 m1);have HLT:=Hi (Ai (Ls HT.out.1) (Ai (by obtain⟨_,es,cl,km,_⟩:=HT.out;exact Ls km) m1.size));have HM1:=Hi m1;clear hN1 hS1 hB1 m1;have hwl:(wrL x.r.ro.l).length≤300:=Nat.le_trans (wrL_len _) HV.out.2.2.2.1;generalize hwrl:(wrL x.r.ro.l).length=wn at *;have HWN:=Hi hwrl;clear hwrl;obtain⟨cx,hcx⟩:∃cx,coF (UInt64.ofNat x.r.sg.l.length) (UInt64.ofNat wn) (dSum x.r.ins.l) x.o.un=cx:=⟨_,rfl⟩;have HCX:Hid (coX x=cx):=Hi (by rw[←hcx,←HWN.out];rfl);have HOF:Hid (∀wq,Mod (fun _=>False) w1 wq→Calls Tryz.prog 40 #[.agg (txr x.r),.int .i64 (wn:Int),u64v x.o.un] wq fun e w'=>e= .returned (u64v cx)∧Mod (fun _=>False) wq w'):=Hi (fun wq h=>by
   rw[←hcx];exact of_c x.r wn x.o.un (by omega) wq (HV1.out.2.2.1.mod0 h) HV1.out.2.2.2.2.1 HV1.out.2.2.2.2.2.1 HV1.out.2.2.2.2.2.2)
  clear hcx;go_upto_region 2 with fail;have Lkb:=Ls kb;have Lkp:=Ls kp;have Lkr:=Ls kr;refine ZR (fun _ _ v=>v=u64v cx) [1,0,0,1,0,0,1,0,0,0,0,1,2,0,0,0,1,5,0] ?_
  iterate 12 first|refine Zd ?_|refine Zv ?_
  (refine Zc ?_ (s:=by intro wq hSq;exact(HOF.out wq hSq).mono (fun e w' h=>⟨_,h.1,rfl,h.2⟩));rintro _ rfl;try simp only[zL])
  iterate 4 first|refine Zv ?_|refine Zd ?_
  refine Zi fun w3 hr=> ?_;replace kb:=hr.q kb;replace kp:=hr.q kp;replace kr:=hr.q kr;have m3:=hr.mod;have hT3:=HT1.out.mod0 m3;have hS3:=HS1.out.1.mod0 m3;have HM3:=Hi (HM1.out.then0 m3);clear hr m3 kb kp kr;have hadd:=addR_c cx x.o.sp a1 (wrL x.r.ro.l) wn w3 hT3 hS3 (by rw[HWN.out];omega) (by rw[←HCX.out];exact HW.out) (fun y yo hy=>by
   have h1:=HLT.out;have h2:=(HS1.out.2 y yo hy).1;exact⟨by omega,by omega⟩)
  rw[HWN.out]at hadd;(refine eff_callP (by simp only[zK];rfl) (by rfl) ?y26 hadd (fun wn hP=> ?n26);(case y26=>(go_simp;(try(first|with_reducible rfl|(constructor<;>with_reducible rfl)))));try simp only[zL]);refine Ze ?_;refine TE.nil ?_;go_wp2_with fail;go_ret;exact⟨0,rfl,HW.out.symm,.inr ⟨rfl,by rw[HCX.out];exact⟨hP.1,(HM3.out.mono (fun _ _ h=>h.elim)).trans hP.2⟩⟩⟩
 ·have HW:=Hi hw;clear hw;go_enter Tryz.func92,Tryz.ntmps92;go_upto_region 1 with fail;go_wp2_with fail;go_at_call 41;refine(written_c x.r.ro.a x.r.ro.l x.r.ro.c _ HV.out.2.1 (by have:=HV.out.2.2.2.1;omega)).mono ?_;rintro o w1 ⟨v1,rfl,hN1,m1⟩;obtain⟨a1,rfl,hS1,hB1⟩:=hN1.at;replace kb:=m1.at0 kb;replace kp:=m1.at0 kp;replace kr:=m1.at0 kr;have HS1:=Hi (Ai hS1 hB1);have HT1:=Hi (HT.out.mod0 m1);have HV1:=Hi (HV.out.mod0 m1);have HLT:=Hi (Ai (Ls HT.out.1) (Ai (by obtain⟨_,es,cl,km,_⟩:=HT.out;exact Ls km) m1.size));have HM1:=Hi m1;clear hN1 hS1 hB1 m1;have hwl:(wrL x.r.ro.l).length≤300:=Nat.le_trans (wrL_len _) HV.out.2.2.2.1;generalize hwrl:(wrL x.r.ro.l).length=wn at *;have HWN:=Hi hwrl;clear hwrl;obtain⟨cx,hcx⟩:∃cx,coF (UInt64.ofNat x.r.sg.l.length) (UInt64.ofNat wn) (dSum x.r.ins.l) x.o.un=cx:=⟨_,rfl⟩;have HCX:Hid (coX x=cx):=Hi (by rw[←hcx,←HWN.out];rfl);have HOF:Hid (∀wq,Mod (fun _=>False) w1 wq→Calls Tryz.prog 40 #[.agg (txr x.r),.int .i64 (wn:Int),u64v x.o.un] wq fun e w'=>e= .returned (u64v cx)∧Mod (fun _=>False) wq w'):=Hi (fun wq h=>by
   rw[←hcx];exact of_c x.r wn x.o.un (by omega) wq (HV1.out.2.2.1.mod0 h) HV1.out.2.2.2.2.1 HV1.out.2.2.2.2.2.1 HV1.out.2.2.2.2.2.2)
  clear hcx;go_upto_region 2 with fail;have Lkb:=Ls kb;have Lkp:=Ls kp;have Lkr:=Ls kr;refine ZR (fun _ _ v=>v=u64v cx) [1,0,0,1,0,0,1,0,0,0,0,1,2,0,0,0,1,5,0] ?_
  iterate 12 first|refine Zd ?_|refine Zv ?_
  (refine Zc ?_ (s:=by intro wq hSq;exact(HOF.out wq hSq).mono (fun e w' h=>⟨_,h.1,rfl,h.2⟩));rintro _ rfl;try simp only[zL])
  iterate 4 first|refine Zv ?_|refine Zd ?_
  refine Zi fun w3 hr=> ?_;replace kb:=hr.q kb;replace kp:=hr.q kp;replace kr:=hr.q kr;have m3:=hr.mod;have hT3:=HT1.out.mod0 m3;have hS3:=HS1.out.1.mod0 m3;have HM3:=Hi (HM1.out.then0 m3);clear hr m3 kb kp kr;have hadd:=addN_c cx x.o.sp a1 (wrL x.r.ro.l) wn w3 hT3 hS3 (by rw[HWN.out];omega) (by rw[←HCX.out];exact HW.out);rw[HWN.out,←HCX.out]at hadd;generalize hwv:would L bb sp (ofK l) (coX x) (wrL x.r.ro.l) x.o.sp=wv at *;have HWV:=Hi hwv;clear hwv;rw[HCX.out]at hadd;(refine eff_callP (by simp only[zK];rfl) (by rfl) ?y46 hadd (fun wn hP=> ?n46);(case y46=>(go_simp;(try(first|with_reducible rfl|(constructor<;>with_reducible rfl)))));try simp only[zL]);refine Ze ?_;refine TE.nil ?_;go_wp2_with fail;go_ret;exact⟨wv,rfl,HWV.out.symm,.inl ⟨HW.out,HM3.out.then0 hP⟩⟩
def vdN (e:Bool) (H:List Key) (N:List (Sg×Key)) (L:Lim) (bb sp:UInt64) (l:List (Key×UInt64)) (x:TdR):Nat:=
 if e then 23 else if frV H N x.r≠0 then frV H N x.r else would L bb sp (ofK l) (coX x) (wrL x.r.ro.l) x.o.sp
theorem verdict_c (x:TdR) (w:World) (kb:w.heap[b]? =some (.cells (blkC s q n t e ea en ec oa on oc f) 130 (0,0))) (hq:QuAt w q H) (hn:SeAt T w n N) (ht:TrAt w t m L bb sp l) (hv:VOk w x):
  Calls Tryz.prog 44 #[ptrV b,.agg (tdr x)] w fun o w'=>o= .returned (.int .i64 (vdN e H N L bb sp l x:Nat))∧((vdN e H N L bb sp l x≠0∧Mod (fun _=>False) w w')∨(vdN e H N L bb sp l x=0∧AddPost t m L bb sp l (coX x) x.o.sp (wrL x.r.ro.l) w w')):=by
 refine(verdict_g (b:=b) (x:=x) (w:=w) (v1:=if e then 23 else 0) (v2:=frV H N x.r) (R:=fun v w1 w'=>S3 t m L bb sp l x v w1 w')
  (fun p w1 hp hm=>(step1_c w1 (hm.at0 kb) hp).mono ?_) (fun _ p r w1 hp hr hm=>step2_c x w1 (hm.at0 kb) (hq.mod0 hm) (hn.mod0 hm) (hv.mod0 hm) hp hr) (fun _ _ p r w1 hp hr hm=>step3_c x w1 (hm.at0 kb) (ht.mod0 hm) (hv.mod0 hm) hp hr)).mono ?_
 ·rintro o w' ⟨rfl,rfl⟩;exact⟨by cases e<;>rfl,Mod.refl _ _⟩
 ·rintro o w' (⟨h1,rfl,hm⟩|⟨h1,h2,rfl,hm⟩|⟨h1,h2,v,w1,rfl,⟨hv,hR⟩,hm⟩)
  ·have he:e=true:=by cases e<;>simp at h1⊢
   subst he;exact⟨rfl,.inl ⟨by simp[vdN],hm⟩⟩
  ·have he:e=false:=by cases e<;>simp at h1⊢
   subst he;have hx:vdN false H N L bb sp l x=frV H N x.r:=by simp[vdN,h2]
   rw[hx];exact⟨rfl,.inl ⟨h2,hm⟩⟩
  ·have he:e=false:=by cases e<;>simp at h1⊢
   subst he;have hx:vdN false H N L bb sp l x=v:=by simp[vdN,h2,hv]
   rw[hx];refine⟨rfl,?_⟩;rcases hR with⟨h3,h4⟩|⟨h3,h4⟩
   ·exact .inl ⟨h3,hm.trans h4⟩
   ·exact .inr ⟨h3,h4.1,(hm.mono (fun _ _ h=>h.elim)).trans h4.2⟩
end
end
theorem SlOwn.baseLe {α:Type} {f:α→Array Value} {n:Nat} {E:TypeId} {w:World} {b b':Nat} {v:Value} {l:List α} (h:SlOwn f n E w b v l) (hb:b'≤b):SlOwn f n E w b' v l:=by
 refine⟨h.1,?_⟩;rcases h.2 with h2|⟨g,cap,cur,e,h3,h4⟩
 ·exact .inl h2
 ·exact .inr ⟨g,cap,cur,e,Nat.le_trans hb h3,h4⟩
theorem grow0_c (n:Nat) (w:World) (h0:0<n) (hn:n≤1000000000):Calls Tryz.prog 98 #[.slice none 0 0,.int .i64 (n:Int)] w fun e w'=>∃v,e= .returned v∧SlOwn uc 1 5 w' w.heap.size v ([]:List UInt8)∧Mod (fun _=>False) w w':=by
 obtain⟨i0,hi,hz0,hz1,hz2⟩:=info_parts (show(Tryz.prog.info? 5).map (fun i=>(i.zero,i.size,i.bytes))=some (some (.int .u8 0),1,1)by kernel_rfl);have hap:∀(w:World) ty,∃g w',(Builtin.append_ #[42,3] ty #[.slice none 0 0,.int .i64 (n:Int)]).run Tryz.prog w= .ok (.slice (some ⟨w.heap.size,0,none⟩) n g) w'∧n≤g∧SlOwn uc 1 5 w' w.heap.size (.slice (some ⟨w.heap.size,0,none⟩) 0 g) ([]:List UInt8)∧Mod (fun _=>False) w w':=fun w ty=>by
  have h:=Lib.run_append_grow_zeros w 42 3 ty 5 i0 (.int .u8 0) .i64 .i64 Tryz.underlying42 Tryz.underlying3 hi hz0 none 0 0 [] (run_firstCells_none w.drew i0.size 0 0 0) n (by omega) (by rw[hz1];omega) (by omega) (by omega) (by rw[hz2];omega) (by rw[hz2];exact growslice_fits (bytes:=1) (by omega) (by omega));rw[Nat.zero_add]at h;have hge:=grownCap_ge w n 0 5;have hmx:=grownCap_le_maxLen w n 0 5 (by unfold maxLen;omega);generalize grownCap w n 0 5=G at *;refine⟨G,_,h,hge,⟨by simp[cellsOf],.inr ⟨_,G,_,rfl,Nat.le_refl _,heap_alloc_new _ _,Nat.zero_le _,hmx,?_,by simp[cellsOf]⟩⟩,((Mod.refl (fun _=>False) w).drew).alloc _⟩;simp[Value.cells,Builtin.zeroCells];omega
 have hq0:∀w,(Instr.sliceAt 42 (.slice none 0 0) none (some (.int .i64 0)) none).run Tryz.prog w= .ok (.slice none 0 0) w:=fun w=>by kernel_rfl
 have hw1:IntKind.i64.wrap ((n:Int)-0)=(n:Int):=(IntWalk.i64_in _ (by omega)).trans (by omega);have hw2:IntKind.i64.wrap (n:Int)=(n:Int):=IntWalk.i64_in _ (by omega);have hd1:decide ((n:Int)<0)=false:=Df (by omega);have hd2:decide ((n:Int)>0)=true:=Dt (by omega);have hd3:decide (0<n)=true:=Dt h0;have HAP:=Hi hap;clear hap;go_enter Tryz.func98,Tryz.ntmps98;go_upto_region 5 with fail;refine wp_pass0 (C:=fun _ _ _=>False) (κ:=fun i=>[0,0,0,0,0,5,0,0,0,0].getD i 0) [0,1,2,3,4,6,7,5,8,9] (by kernel_rfl) (by kernel_rfl) (fun _ _ d _ _ h=>by cases d<;>first|exact h|exact absurd h (hP _ _ _)) ?_
 iterate 3 refine Zv ?_
 refine Zx hq0 ?_
 iterate 3 refine Zv ?_
 refine Zi fun w1 hr=> ?_;have m1:=hr.mod;clear hr;obtain⟨g,w2,hrun,hge,hO,hm⟩:=HAP.out w1 42;have HO:=Hi (Ai hO (m1.then0 hm));have hq2:∀w2,(Instr.sliceAt 42 (.slice (some ⟨w1.heap.size,0,none⟩) n g) none (some (.int .i64 0)) none).run Tryz.prog w2= .ok (.slice (some ⟨w1.heap.size,0,none⟩) 0 g) w2:=fun w2=>sl_take (k:=0) bytesT (by omega) w2;have hms:=m1.size;clear hO hm hd1 hd2 hd3 hw1 hw2 hq0;(refine eff_append2 (by simp only[zK];rfl) (by rfl) rfl ?hx9 ?hz9 hrun ?n9;(case hx9=>simp only[zM];try rfl);(case hz9=>simp only[zM];try rfl);try simp only[zL]);refine Ze ?_;refine Ze ?_;refine TE.nil ?_;go_wp2_with fail;go_ret;exact⟨_,rfl,HO.out.1.baseLe hms,HO.out.2⟩
theorem concat2_c (g:Nat) (s1 s2:Sl UInt8) (w:World) (kg:w.heap[g]? =some (.cells #[.slice s1.a s1.l.length s1.c,.slice s2.a s2.l.length s2.c] 42 (0,0))) (h1:SlAt uc 1 w s1.a s1.l) (h2:SlAt uc 1 w s2.a s2.l) (hpos:0<s1.l.length) (hn:s1.l.length+s2.l.length≤1000000):
  Calls Tryz.prog 48 #[.slice (some ⟨g,0,none⟩) 2 2] w fun e w'=>∃v,e= .returned v∧SlOwn uc 1 5 w' w.heap.size v (s1.l++s2.l)∧Mod (fun _=>False) w w':=by
 have HS:=Hi (Ai h1 h2);clear h1 h2;generalize hl1:s1.l.length=n1 at *;generalize hl2:s2.l.length=n2 at *;have HL:=Hi (Ai hl1 hl2);clear hl1 hl2;go_enter Tryz.func48,Tryz.ntmps48;go_wp2_with fail;go_loopw [3,11] (fun s3 s11 ws=>∃i:Nat,i≤2∧s11= .int .i64 (i:Int)∧s3= .int .i64 ((if i=0 then 0 else if i=1 then n1 else n1+n2:Nat):Int)∧Mod (fun _=>False) w ws) (fun _ s11 _=>2-(intOf s11).toNat)
 case atStart=>exact⟨0,by omega,rfl,rfl,Mod.refl _ _⟩
 case round=>
  obtain⟨i,hi,rfl,rfl,hm⟩:=hrel;have kg:=hm.at0 kg;rcases(by omega:i=0∨i=1∨i=2)with rfl|rfl|rfl
  ·simp only[if_true];have hw:IntKind.i64.wrap (0+(n1:Int))=(n1:Int):=(IntWalk.i64_in _ (by omega)).trans (by omega);go_wp2_with fail;go_roundw
   case rel=>exact⟨1,by omega,by go_num,by simp,hm⟩
   case measure=>simp[intOf]
  ·simp only[Nat.one_ne_zero,if_false,if_true];obtain⟨n3,hn3⟩:∃n3,n1+n2=n3:=⟨_,rfl⟩;have hw:IntKind.i64.wrap ((n1:Int)+(n2:Int))=(n3:Int):=(IntWalk.i64_in _ (by omega)).trans (by omega);have HN3:=Hi hn3;have hd:decide ((n3:Int)<0)=false:=Df (by omega);clear hn3;go_wp2_with fail;go_roundw
   case rel=>exact⟨2,by omega,by go_num,by rw[HN3.out];rfl,hm⟩
   case measure=>simp[intOf]
  ·simp only[show¬(2:Nat)=0 by omega,show¬(2:Nat)=1 by omega,if_false];obtain⟨n3,hn3⟩:∃n3,n1+n2=n3:=⟨_,rfl⟩;have hn3p:0<n3∧n3≤1000000000:=by omega
   rw[hn3];clear hn3;go_wp2_with fail;go_at_call 98;refine(grow0_c n3 _ hn3p.1 hn3p.2).mono ?_;rintro e w2 ⟨v2,rfl,hO2,m2⟩;have HO2:Hid (SlOwn uc 1 5 w2 w.heap.size v2 []):=Hi (hO2.baseLe hm.size);have hm2:=hm.then0 m2;replace kg:=m2.at0 kg;have KG:=Hi kg;have HM2:=Hi hm2;clear hO2 m2 kg hm2;go_wp2_with fail;go_loopw [6,27] (fun s6 s27 ws=>∃i:Nat,i≤2∧s27= .int .i64 (i:Int)∧Hid (SlOwn uc 1 5 ws w.heap.size s6 (if i=0 then []else if i=1 then s1.l else s1.l++s2.l))∧Mod (fun i=>w.heap.size≤i∧i≠g) w2 ws) (fun _ s27 _=>2-(intOf s27).toNat)
   case atStart=>exact⟨0,by omega,rfl,Hi (by simpa using HO2.out),Mod.refl _ _⟩
   case round=>
    obtain⟨i,hi,rfl,HO,hm3⟩:=hrel;have kg:=hm3.at KG.out (fun h=>h.2 rfl);have hmw:Mod (fun _=>False) w wr:=HM2.out.then hm3 (fun j hj e=>by omega);have hgne:∀ {v:Value} {l:List UInt8},SlOwn uc 1 5 wr w.heap.size v l→∀j,v.ownBlock=some j→j≠g:=fun hO j hj e=>by
     obtain⟨cur,hk⟩:=own_blk hO hj;rw[e,kg]at hk;cases hk
    rcases(by omega:i=0∨i=1∨i=2)with rfl|rfl|rfl
    ·simp only[if_true]at HO;go_upto_region 13 with fail;refine ZP0 [0,0,5,0] ?_
     iterate 2 refine Zv ?_
     refine Zi fun w5 hr=> ?_;have m5:=hr.mod;have hO:=HO.out.mod0 m5;obtain⟨v4,w4,hap,hO4,m4,hn4⟩:=SlOwn.append bytesT (q:=s1.l) (c:=s1.c) hO (HS.out.1.mod0 (hmw.then0 m5)) (by have h1:=HL.out.1;have h2:=HL.out.2;(try simp only[List.length_nil]);omega) (by decide) (hmw.then0 m5).size 42;rw[HL.out.1]at hap;have HO4:=Hi hO4;have hm4:=(hm3.then0 m5).trans (m4.mono (fun j hj e=>⟨(hO.lt j e).1,hgne HO.out j e⟩));clear hO4 m4 hn4 hO hr m5;refine ZA hap ?_;refine Ze ?_;refine TE.nil ?_;go_wp2_with fail;go_roundw
     case rel=>exact⟨1,by omega,by go_num,Hi (by simpa using HO4.out),hm4⟩
     case measure=>simp[intOf]
    ·simp only[Nat.one_ne_zero,if_false,if_true]at HO;go_upto_region 13 with fail;refine ZP0 [0,0,5,0] ?_
     iterate 2 refine Zv ?_
     refine Zi fun w5 hr=> ?_;have m5:=hr.mod;have hO:=HO.out.mod0 m5;obtain⟨v4,w4,hap,hO4,m4,hn4⟩:=SlOwn.append bytesT (q:=s2.l) (c:=s2.c) hO (HS.out.2.mod0 (hmw.then0 m5)) (by have h1:=HL.out.1;have h2:=HL.out.2;(try simp only[List.length_nil]);omega) (by decide) (hmw.then0 m5).size 42;rw[HL.out.2]at hap;have HO4:=Hi hO4;have hm4:=(hm3.then0 m5).trans (m4.mono (fun j hj e=>⟨(hO.lt j e).1,hgne HO.out j e⟩));clear hO4 m4 hn4 hO hr m5;refine ZA hap ?_;refine Ze ?_;refine TE.nil ?_;go_wp2_with fail;go_roundw
     case rel=>exact⟨2,by omega,by go_num,Hi (by simpa using HO4.out),hm4⟩
     case measure=>simp[intOf]
    ·simp only[show¬(2:Nat)=0 by omega,show¬(2:Nat)=1 by omega,if_false]at HO;go_wp2_with fail;go_ret;exact⟨_,rfl,HO.out,hmw⟩
def leB (n:UInt64):List UInt8:=(List.range 8).map (fun i=>UInt8.ofNat (n.toNat/256^i))
theorem cloneNil_c (w:World):Calls Tryz.prog 37 #[.slice none 0 0] w fun e w'=>e= .returned (.slice none 0 0)∧w=w':=by
 have he:∀w,(binOp .eql 42 (.slice none 0 0) (.slice none 0 0)).run Tryz.prog w= .ok (.bool true) w:=fun w=>by kernel_rfl
 go_enter Tryz.func37,Tryz.ntmps37;go_wp2_with fail;go_ret;exact⟨rfl,rfl⟩
theorem clipB_c (v2:Value) (w:World) (n:Nat) {a:Option Addr} {c:Nat} (h:∀w2,(Instr.sliceAt 42 (.slice a n c) none (some (.int .i64 (n:Int))) (some (.int .i64 (n:Int)))).run Tryz.prog w2= .ok v2 w2):
  Calls Tryz.prog 36 #[.slice a n c] w fun e w'=>e= .returned v2∧w'=w:=by
 go_enter Tryz.func36,Tryz.ntmps36;go_wp2_with fail;go_ret;exact⟨rfl,rfl⟩
theorem bsU8 (x:UInt8) (w:World):(Instr.buildSlice 42 1 #[(0,u8v x)]).run Tryz.prog w= .ok (.slice (some ⟨w.heap.size,0,none⟩) 1 1) (w.alloc (.cells #[u8v x] 5)):=by kernel_rfl
theorem leB_at (n:UInt64) {i:Nat} (h:i<8):(leB n).take (i+1)=(leB n).take i++[UInt8.ofNat (n.toNat/256^i)]:=by
 rw[List.take_add_one];congr 1;simp[leB,h]
theorem leB_len (n:UInt64):(leB n).length=8:=by simp[leB]
theorem byte_cast (n:UInt64) (i:Nat):IntKind.u8.wrap ((n.toNat:Int)/2^(8*(i:Int)).toNat)=((UInt8.ofNat (n.toNat/256^i)).toNat:Int):=by
 rw[show(8*(i:Int)).toNat=8*i by omega,show(2:Int)^(8*i)=((256^i:Nat):Int)by rw[Int.pow_mul,show(2:Int)^8=256 from rfl];exact(Int.natCast_pow 256 i).symm,←Int.natCast_ediv,IntKind.wrap_u8,UInt8.toNat_ofNat'];generalize n.toNat/256^i=z;rw[show 2^8=256 from rfl];omega
theorem put8_c (n:UInt64) (w:World):Calls Tryz.prog 49 #[.slice none 0 0,u64v n,.int .i64 8] w fun e w'=>∃v,e= .returned v∧NewS uc 1 5 w.heap.size w' v (leB n)∧Mod (fun _=>False) w w':=by
 go_enter Tryz.func49,Tryz.ntmps49;go_wp2_with fail;go_at_call 37;refine(cloneNil_c _).mono ?_;rintro e w1 ⟨rfl,rfl⟩;go_wp2_with fail;go_loopw [7,18] (fun s7 s18 ws=>∃i:Nat,i≤8∧s18= .int .i64 (i:Int)∧Hid (SlOwn uc 1 5 ws w.heap.size s7 ((leB n).take i))∧Mod (fun _=>False) w ws) (fun _ s18 _=>8-(intOf s18).toNat)
 case atStart=>exact⟨0,by omega,rfl,Hi (by rw[List.take_zero];exact SlOwn.nil _ _),Mod.refl _ _⟩
 case round=>
  obtain⟨i,hi,rfl,HO,hm⟩:=hrel;by_cases hlt:i<8
  ·have hd:=Dt hlt;have hw8:IntKind.i64.wrap (8*(i:Int))=8*(i:Int):=IntWalk.i64_in _ (by omega);obtain⟨x,hx⟩:∃x,UInt8.ofNat (n.toNat/256^i)=x:=⟨_,rfl⟩;have hcast:IntKind.u8.wrap ((n.toNat:Int)/2^(8*(i:Int)).toNat)=(x.toNat:Int):=by rw[←hx];exact byte_cast n i
   have HX:Hid ((leB n).take (i+1)=(leB n).take i++[x]):=Hi (by rw[←hx];exact leB_at n hlt);clear hx;have hlen:((leB n).take i).length=i:=by rw[List.length_take,leB_len];omega
   obtain⟨a2,c2,rfl,_⟩:=HO.out.at bytesT;rw[hlen];have HLN:=Hi hlen;clear hlen;go_upto_region 7 with fail;refine ZP0 [0,0,0,0,0,0,3,5,0] ?_
   iterate 6 refine Zv ?_
   refine Zy (bsU8 x) fun p27 hp27=> ?_;refine Zi fun w4 hr=> ?_;obtain⟨gp27,kp27⟩:=hr.b p27;have m4:=hr.mod;clear hr;obtain⟨v5,w5,hap,hO5,m5,hn5⟩:=SlOwn.append bytesT (q:=[x]) (c:=1) (HO.out.mod0 m4) (SlAt.one kp27 x rfl rfl) (by rw[HLN.out];simp only[List.length_singleton];omega) (by decide) (Nat.le_trans hm.size m4.size) 42;have hlo:=HO.out.lt;rw[HLN.out]at hap m5 hlo;have hm5:Mod (fun _=>False) w w5:=(hm.then0 m4).then m5 (fun j hj e=>by have:=(hlo j e).1;omega);have HO5:Hid (SlOwn uc 1 5 w5 w.heap.size v5 ((leB n).take (i+1))):=Hi (by rw[HX.out];exact hO5);clear hO5 m5 m4 hn5 hlo;refine ZA hap ?_;refine Ze ?_;refine TE.nil ?_;go_wp2_with fail;go_roundw
   case rel=>exact⟨i+1,by omega,by go_num,HO5,hm5⟩
   case measure=>simp[intOf];omega
  ·have hd:=Df hlt;obtain rfl:i=8:=by omega
   obtain⟨a2,c2,v2,rfl,hcl,hN⟩:=HO.out.clip bytesT;rw[show(leB n).take 8=leB n from List.take_of_length_le (by rw[leB_len];omega)]at hcl hN;rw[show(leB n).take 8=leB n from List.take_of_length_le (by rw[leB_len];omega)];have HNN:=Hi hN;have HCL:=Hi hcl;clear hcl hN;go_wp2_with fail;go_at_call 36;refine(clipB_c v2 _ _ HCL.out).mono ?_;rintro e w5 ⟨rfl,rfl⟩;go_wp2_with fail;go_ret;exact⟨_,rfl,HNN.out,hm⟩
theorem NewS.form {α:Type} {f:α→Array Value} {n:Nat} {E:TypeId} {base:Nat} {w:World} {v:Value} {l:List α} (h:NewS f n E base w v l):∃a,v= .slice a l.length l.length:=by
 obtain⟨a,e,_⟩:=h.at;exact⟨a,e⟩
theorem ldOutAt {w:World} {p:Nat} {k:OcR} {U:TypeId} (h:w.heap[p]? =some (.cells (ocr k) U (0,0))):(Instr.loadAt 63 (.pointer (some ⟨p,0,none⟩))).run Tryz.prog w= .ok (.agg (ocr k)) w:=by
 rw[ldOut,h];simp[ocr_size,ocr_all]
def OcNew (base:Nat) (w:World) (o o2:OcR):Prop:=o2.pl=o.pl∧NewS hd 66 166 base w o2.ch.v o2.ch.l
theorem own_c (o:OcR) (w:World) (hs:SlAt hd 66 w o.ch.a o.ch.l) (hn:o.ch.l.length≤1000000):Calls Tryz.prog 46 #[.agg (ocr o)] w fun e w'=>∃o2:OcR,e= .returned (.agg (ocr o2))∧OcNew w.heap.size w' o o2∧Mod (fun _=>False) w w':=by
 have HS:=Hi hs;clear hs;go_enter Tryz.func46,Tryz.ntmps46;go_upto_region 0 with fail;refine ZP0 [3,3] ?_;refine Zb fun p1 hp1=> ?_;refine Za alOut fun p2 hp2=> ?_;obtain⟨ne_p2_p1,hp2⟩:=Bx.set_none hp2;refine TD.nil (fun w1 hr=> ?_);obtain⟨gp1,kp1⟩:=hr.b p1 (by first|exact Bx.set_same _ _ _|(simp only[Bx.set_ne _ (Ne.symm ne_p2_p1),Bx.set_ne _ ne_p2_p1,Bx.set_same];rfl));obtain⟨gp2,kp2⟩:=hr.b p2 (by first|exact Bx.set_same _ _ _|(simp only[Bx.set_ne _ (Ne.symm ne_p2_p1),Bx.set_ne _ ne_p2_p1,Bx.set_same];rfl));have m1:=hr.mod;have h12:p2≠p1:=ne_p2_p1;clear hr;go_upto_region 1 with fail;go_wp2_with fail;go_at_call 95;refine(cloneH_c (c:=o.ch.c) (HS.out.mod0 m1) hn).mono ?_;rintro e w2 ⟨v1,rfl,hO,m2⟩;obtain⟨a1,c1,v2,rfl,hcl,hN⟩:=hO.clip holdT;obtain⟨a2,hv2⟩:=hN.form;replace kp1:=m2.at0 kp1;replace kp2:=m2.at0 kp2;have HC:=Hi hcl;have HN:=Hi (hN.base m1.size);have HM:=Hi (m1.then0 m2);have HLT:=Hi (Ai (Ls kp1) (Ai (Ls kp2) m1.size));have HK:=Hi (Ai kp1 kp2);have hg1:=gp1;have hg2:=gp2;clear hcl hO hN m1 m2;go_wp2_with fail;go_at_call 94;refine(clipH_c v2 _ _ HC.out).mono ?_;rintro e w3 ⟨rfl,rfl⟩;subst hv2;obtain⟨o2,ho2⟩:∃o2:OcR,o2= {o with ch:=⟨a2,o.ch.l,o.ch.l.length⟩}:=⟨_,rfl⟩;have hset:(ocr o).setIfInBounds 5 (.slice a2 o.ch.l.length o.ch.l.length)=ocr o2:=by rw[ho2];exact ocr_set5 o a2 o.ch.l _ _ rfl
 have HSET:=Hi hset;have HO2:Hid (o2.pl=o.pl∧o2.ch.v= .slice a2 o.ch.l.length o.ch.l.length∧o2.ch.l=o.ch.l):=Hi (by rw[ho2];exact⟨rfl,rfl,rfl⟩);clear hset ho2;go_upto_region 2 with fail;rw[setCell_blk kp1,HSET.out];obtain⟨w4,k4,m4,e4⟩:∃w4,w4.heap[p1]? =some (.cells (ocr o2) 63 (0,0))∧Mod (fun i=>i=p1) w3 w4∧setBlock w3 p1 (.cells (ocr o2) 63 (0,0))=w4:=⟨_,heap_setBlock _ _ (Ls kp1),mod_set _ _ _,rfl⟩;rw[e4];replace kp2:=m4.at_ne kp2 h12;have HM4:=Hi (Ai m4 (HM.out.thenB m4 (.inl hg1)));clear e4 m4 kp1;have Lk4:=Ls k4;have Lkp2:=Ls kp2;refine ZP0 [1,5] ?_;(refine TD.load (v:= ?v3) (p:= ?p3) (Mod.refl _ _) (by simp only[zK];rfl) rfl (by rfl) rfl ?hx3 (fun wq hSq=> ?y3) ?n3;(case hx3=>simp only[zM];try rfl);(case y3=>(have k4q:=hSq.at k4 (fun h=>h);have kp2q:=hSq.at kp2 (fun h=>h);exact(ldOutAt k4q)));try simp only[zL]);refine Zi fun wE hr=> ?_;replace k4:=hr.mod.at0 k4;replace kp2:=hr.mod.at0 kp2;have mE:=hr.mod;refine ZS ?_;refine ZN kp2 fun w5 kp2 mS=> ?_;(try simp only[Array.setIfInBounds,zL]at kp2);replace k4:=mS.at_ne k4 (by omega);have m5:=((mE.mono (T:=fun i=>i=p2) (fun _ _ h=>h.elim)).trans mS);have m6:=HM4.out.2.thenB m5 (.inl hg2);have HE:Hid (OcNew w.heap.size w5 o o2):=Hi ⟨HO2.out.1,by
  rw[HO2.out.2.1,HO2.out.2.2];have hne:∀g,(Value.slice a2 o.ch.l.length o.ch.l.length).ownBlock=some g→g≠p1∧g≠p2:=fun g hg=>by
   rcases HN.out with⟨e,_⟩|⟨g',cur,e,_,hk,_⟩
   ·rw[e]at hg;cases hg
   ·rw[e]at hg;cases hg;refine⟨fun e=> ?_,fun e=> ?_⟩
    ·have h1:=HK.out.1;rw[←e,hk]at h1;injection (Option.some.inj h1)with h3 h4
     exact absurd h4 (by decide)
    ·have h1:=HK.out.2;rw[←e,hk]at h1;injection (Option.some.inj h1)with h3 h4
     exact absurd h4 (by decide)
  exact(HN.out.mod HM4.out.1 (fun g hg=>(hne g hg).1)).mod m5 (fun g hg=>(hne g hg).2)⟩
 clear hr mE mS;go_wp2_with fail;exact bodyPost_ret (results_cell1 (v:= .agg (ocr o2)) rfl rfl (by rw[ldOut];simp[kp2,ocr_size,ocr_all])) rfl ⟨o2,rfl,HE.out,m6⟩
theorem bsOut (x:OcR) (w:World):(Instr.buildSlice 69 1 #[(0,.agg (ocr x))]).run Tryz.prog w= .ok (.slice (some ⟨w.heap.size,0,none⟩) 1 1) (w.alloc (.cells (ocr x) 63)):=by
 obtain⟨i0,hi,hz0,hz1,hz2⟩:=info_parts (show(Tryz.prog.info? 63).map (fun i=>(i.zero,i.size,i.bytes))=some (some (.agg zOut),6,64)by kernel_rfl);refine run_buildSlice w _ _ 1 _ _ i0 _ Tryz.underlying69 hi hz0 (by rw[hz1];omega) (by rw[hz1];omega) ?_;rw[hz1];show Instr.fill _ _ [(0,_)]=_;rw[fill_cons (off:=0) (n:=6) rfl (by simp[Value.cells,ocr_size]) (by simp[Value.cells,zOut_size,size_madeCells])];show some (wr _ 0 (ocr x).toList)=_;rw[wr_whole (ocr x) _ (by simp[Value.cells,zOut_size,ocr_size,size_madeCells])]
theorem bsBs1 (a:Option Addr) (n c:Nat) (w:World):(Instr.buildSlice 40 1 #[(0,.slice a n c)]).run Tryz.prog w= .ok (.slice (some ⟨w.heap.size,0,none⟩) 1 1) (w.alloc (.cells #[.slice a n c] 42)):=by kernel_rfl
theorem bsBs2 (a a2:Option Addr) (n c n2 c2:Nat) (w:World):(Instr.buildSlice 40 2 #[(0,.slice a n c),(1,.slice a2 n2 c2)]).run Tryz.prog w= .ok (.slice (some ⟨w.heap.size,0,none⟩) 2 2) (w.alloc (.cells #[.slice a n c,.slice a2 n2 c2] 42)):=by kernel_rfl
theorem slsT:ElT Tryz.prog 40 42 (slv (α:=UInt8)) 1 24 where
 u:=Tryz.underlying40
 info:=by
  obtain⟨i0,hi,hz0,hz1,hz2⟩:=info_parts (show(Tryz.prog.info? 42).map (fun i=>(i.zero,i.size,i.bytes))=some (some (.slice none 0 0),1,24)by kernel_rfl);exact⟨i0,_,hi,hz0,hz1,hz2,rfl⟩
 pos:=by omega
 size x:=rfl
 one x u hu:=by
  simp[slv]at hu;subst hu;rfl
def NewL {α:Type} (f:α→Array Value) (n:Nat) (E:TypeId) (b:Nat) (l:List α) (v:Value):Land:=fun T w=>NewS f n E b w v l∧∀g,v.ownBlock=some g→T g
theorem goodN {α:Type} (f:α→Array Value) (n:Nat) (E:TypeId) (b:Nat) (l:List α) (v:Value):Good (NewL f n E b l v) where
 cl:=fun T w w' h hm=>⟨h.1.mod hm (fun g hg hn=>hn (h.2 g hg)),h.2⟩
 gr:=fun T T' w hT h=>⟨h.1,fun g hg=>hT g (h.2 g hg)⟩
theorem newL {α:Type} {f:α→Array Value} {n:Nat} {E:TypeId} {b:Nat} {l:List α} {v:Value} {T:Nat→Prop} {w w':World} (h:NewS f n E w.heap.size w' v l) (hb:b≤w.heap.size):NewL f n E b l v (Grow T w w') w':=
 ⟨h.base hb,fun g hg=> .inr (h.lt g hg)⟩
def OwnL {α:Type} (f:α→Array Value) (n:Nat) (E:TypeId) (b:Nat) (l:List α) (v:Value):Land:=fun T w=>SlOwn f n E w b v l∧∀g,v.ownBlock=some g→T g
theorem goodOL {α:Type} (f:α→Array Value) (n:Nat) (E:TypeId) (b:Nat) (l:List α) (v:Value):Good (OwnL f n E b l v) where
 cl:=fun T w w' h hm=>⟨h.1.mod hm (fun g hg hn=>hn (h.2 g hg)),h.2⟩
 gr:=fun T T' w hT h=>⟨h.1,fun g hg=>hT g (h.2 g hg)⟩
theorem ownL {α:Type} {f:α→Array Value} {n:Nat} {E:TypeId} {b:Nat} {l:List α} {v:Value} {T:Nat→Prop} {w w':World} (h:SlOwn f n E w' w.heap.size v l) (hb:b≤w.heap.size):OwnL f n E b l v (Grow T w w') w':=
 ⟨h.baseLe hb,fun g hg=> .inr (h.lt g hg)⟩
def OcL (b:Nat) (o:OcR) (v:Value):Land:=fun T w=>∃o2:OcR,v= .agg (ocr o2)∧o2.pl=o.pl∧NewL hd 66 166 b o2.ch.l o2.ch.v T w
theorem goodOc (b:Nat) (o:OcR) (v:Value):Good (OcL b o v):=Good.ex fun o2=>(Good.pure _).and ((Good.pure _).and (goodN _ _ _ _ _ _))
theorem ocL {b:Nat} {o o2:OcR} {T:Nat→Prop} {w w':World} (h:OcNew w.heap.size w' o o2) (hb:b≤w.heap.size):OcL b o (.agg (ocr o2)) (Grow T w w') w':=⟨o2,rfl,h.1,newL h.2 hb⟩
def RStep (S:BS) (x:TdR) (n:Nat) (S':BS):Prop:=
 n=vdN S.en S.H S.N S.L S.b S.sp S.m x∧((n≠0∧S'=S)∨(n=0∧∃done:List (Key×UInt64),done.Perm (putAll (adF S.m (coX x)) (wrL x.r.ro.l) [])∧
  S'= {S with N:=markS S.N (firstS x.r.sg.l) x.r.rc,b:=sat S.b (coX x),sp:=sat S.sp x.o.sp,m:=putL done S.m,os:=S.os++[x.o.pl],fees:=sat S.fees x.o.fee}))
inductive RRun:BS→List TdR→List Nat→List UInt8→Nat→BS→Prop
 |nil (S:BS):RRun S [] [] [] 0 S
 |snoc {S S1 S2:BS} {l:List TdR} {vs:List Nat} {e:List UInt8} {k:Nat} {x:TdR} {n:Nat} (h:RRun S l vs e k S1) (hx:RStep S1 x n S2):RRun S (l++[x]) (vs++[n]) (if n=0 then e++x.r.b.l else e) (if n=0 then k+1 else k) S2
theorem RRun.len {S S':BS} {l:List TdR} {vs:List Nat} {e:List UInt8} {k:Nat} (h:RRun S l vs e k S'):vs.length=l.length∧k≤l.length∧S'.N.length≤S.N.length+l.length∧S'.os.length≤S.os.length+l.length∧e.length≤(l.map (fun x=>x.r.b.l.length)).sum∧S'.es=S.es∧S'.en=S.en∧S'.H=S.H∧S'.L=S.L:=by
 induction h with
 |nil=>simp
 |snoc h hx ih=>
  obtain⟨i1,i2,i3,i4,i5,i6,i7,i8,i9⟩:=ih;rcases hx.2 with⟨h0,rfl⟩|⟨h0,done,_,rfl⟩
  ·rw[if_neg h0,if_neg h0];simp only[List.length_append,List.length_cons,List.length_nil,List.map_append,List.sum_append,List.map_cons,List.map_nil,List.sum_cons,List.sum_nil];exact⟨by omega,by omega,by omega,by omega,by omega,i6,i7,i8,i9⟩
  ·rw[if_pos h0,if_pos h0];simp only[List.length_append,List.length_cons,List.length_nil,List.map_append,List.sum_append,List.map_cons,List.map_nil,List.sum_cons,List.sum_nil];have:=markS_len;exact⟨by omega,by omega,Nat.le_trans (this _ _ _) (by omega),by omega,by omega,i6,i7,i8,i9⟩
theorem ownE_ne {α:Type} {f:α→Array Value} {n:Nat} {E U:TypeId} {w:World} {base:Nat} {v:Value} {l:List α} (h:SlOwn f n E w base v l) {a:Nat} {C:Array Value} {fr:Nat×Nat} (ka:w.heap[a]? =some (.cells C U fr)) (hE:E≠U):∀g,v.ownBlock=some g→g≠a:=fun g hg e=>by
 obtain⟨cur,hk⟩:=own_blk h hg;rw[e,ka]at hk;injection (Option.some.inj hk)with h1 h2
 exact hE h2.symm
theorem newE_ne {α:Type} {f:α→Array Value} {n:Nat} {E U:TypeId} {w:World} {base:Nat} {v:Value} {l:List α} (h:NewS f n E base w v l) {a:Nat} {C:Array Value} {fr:Nat×Nat} (ka:w.heap[a]? =some (.cells C U fr)) (hE:E≠U):∀g,v.ownBlock=some g→g≠a:=fun g hg e=>by
 rcases h with⟨rfl,_⟩|⟨g',cur,rfl,_,hk,_⟩
 ·cases hg
 ·cases hg;have e':g'=a:=e;rw[e',ka]at hk;injection (Option.some.inj hk)with h1 h2
  exact hE h2.symm
theorem newM_ne {α:Type} {f:α→Array Value} {n:Nat} {E:TypeId} {w:World} {base:Nat} {v:Value} {l:List α} (h:NewS f n E base w v l) {a c:Nat} {es:Array MapEntry} (ka:w.heap[a]? =some (.map es c)):∀g,v.ownBlock=some g→g≠a:=fun g hg e=>by
 rcases h with⟨rfl,_⟩|⟨g',cur,rfl,_,hk,_⟩
 ·cases hg
 ·cases hg;have e':g'=a:=e;rw[e',ka]at hk;cases hk
section
def BkIn (Tn Tr:Nat→Prop) (w:World) (b s:Nat) (S:BS) (q n t m:Nat) (ea:Option Addr) (en ec:Nat) (oa:Option Addr) (on oc:Nat) (er:List (Sl UInt8)) (orr:List OcR):Prop:=
  w.heap[b]? =some (.cells (blkC s q n t S.en ea en ec oa on oc S.fees) 130 (0,0))∧
  (QuAt w q S.H∧SeAt Tn w n S.N∧TrAt w t m S.L S.b S.sp S.m)∧
  (SlOwn slv 1 42 w 0 (.slice ea en ec) er∧er.map (·.l)=S.es∧∀x∈er,SlOwn uc 1 5 w 0 x.v x.l)∧
  (SlOwn ocr 6 63 w 0 (.slice oa on oc) orr∧orr.map OcR.pl=S.os∧∀x∈orr,NewS hd 66 166 0 w x.ch.v x.ch.l)∧
  (Tr b∧Tr t∧Tr m∧¬Tr q∧¬Tn q)∧
  ((∀g,(Value.slice ea en ec).ownBlock=some g→Tr g)∧(∀g,(Value.slice oa on oc).ownBlock=some g→Tr g)∧(∀x∈er,∀g,x.v.ownBlock=some g→Tr g)∧(∀x∈orr,∀g,x.ch.v.ownBlock=some g→Tr g))∧
  (∀i,Tn i→¬Tr i)
section
variable {Tn Tr Tn':Nat→Prop} {w w':World} {b s p:Nat} {S:BS} {q n t m:Nat} {ea:Option Addr} {en ec:Nat} {oa:Option Addr} {on oc:Nat} {er:List (Sl UInt8)} {orr:List OcR}
theorem BkAt.in (h:BkAt Tn Tr w b s S):∃q n t m ea en ec oa on oc er orr,BkIn Tn Tr w b s S q n t m ea en ec oa on oc er orr:=h
theorem BkIn.at (h:BkIn Tn Tr w b s S q n t m ea en ec oa on oc er orr):BkAt Tn Tr w b s S:=⟨q,n,t,m,ea,en,ec,oa,on,oc,er,orr,h⟩
def RcS (Tn:Nat→Prop) (b t m p:Nat) (oa:Option Addr) (on oc:Nat):Nat→Prop:=fun i=>Tn i∨i=b∨i=t∨i=m∨(Value.slice oa on oc).ownBlock=some i∨i=p
theorem BkIn.rest (h:BkIn Tn Tr w b s S q n t m ea en ec oa on oc er orr) (hm:Mod (RcS Tn b t m p oa on oc) w w') (hp:¬Tr p∧¬Tn p∧q≠p):
  QuAt w' q S.H∧SlOwn slv 1 42 w' 0 (.slice ea en ec) er∧(∀x∈er,SlOwn uc 1 5 w' 0 x.v x.l)∧∀x∈orr,NewS hd 66 166 0 w' x.ch.v x.ch.l:=by
 obtain⟨kb,⟨hq,hn,ht⟩,⟨he1,he2,he3⟩,⟨ho1,ho2,ho3⟩,⟨t1,t2,t3,t4,t5⟩,⟨u1,u2,u3,u4⟩,hd⟩:=h;obtain⟨kt,es,cl,km,M⟩:=ht;refine⟨hq.mod hm ?_,he1.mod hm ?_,fun x hx=>(he3 x hx).mod hm ?_,fun x hx=>(ho3 x hx).mod hm ?_⟩
 ·rintro(h|rfl|rfl|rfl|h|rfl)
  ·exact t5 h
  ·exact t4 t1
  ·exact t4 t2
  ·exact t4 t3
  ·exact t4 (u2 _ h)
  ·exact hp.2.2 rfl
 ·rintro g hg (h|h|h|h|h|rfl)
  ·exact hd _ h (u1 g hg)
  ·exact ownE_ne he1 kb (by decide) g hg h
  ·exact ownE_ne he1 kt (by decide) g hg h
  ·exact own_ne he1 km g hg h
  ·obtain⟨C,kc⟩:=own_blk ho1 h;exact ownE_ne he1 kc (by decide) g hg rfl
  ·exact hp.1 (u1 g hg)
 ·rintro g hg (h|h|h|h|h|rfl)
  ·exact hd _ h (u3 x hx g hg)
  ·exact ownE_ne (he3 x hx) kb (by decide) g hg h
  ·exact ownE_ne (he3 x hx) kt (by decide) g hg h
  ·exact own_ne (he3 x hx) km g hg h
  ·obtain⟨C,kc⟩:=own_blk ho1 h;exact ownE_ne (he3 x hx) kc (by decide) g hg rfl
  ·exact hp.1 (u3 x hx g hg)
 ·rintro g hg (h|h|h|h|h|rfl)
  ·exact hd _ h (u4 x hx g hg)
  ·exact newE_ne (ho3 x hx) kb (by decide) g hg h
  ·exact newE_ne (ho3 x hx) kt (by decide) g hg h
  ·exact newM_ne (ho3 x hx) km g hg h
  ·obtain⟨C,kc⟩:=own_blk ho1 h;exact newE_ne (ho3 x hx) kc (by decide) g hg rfl
  ·exact hp.1 (u4 x hx g hg)
theorem BkIn.rec (h:BkIn Tn Tr w b s S q n t m ea en ec oa on oc er orr) (hm:Mod (RcS Tn b t m p oa on oc) w w') (hp:¬Tr p∧¬Tn p∧q≠p) {N':List (Sg×Key)} {b' sp' f':UInt64} {m':List (Key×UInt64)} {oa':Option Addr} {on' oc':Nat} {o2:OcR}
  (kb':w'.heap[b]? =some (.cells (blkC s q n t S.en ea en ec oa' on' oc' f') 130 (0,0))) (hn':SeAt Tn' w' n N') (ht':TrAt w' t m S.L b' sp' m') (ho':SlOwn ocr 6 63 w' 0 (.slice oa' on' oc') (orr++[o2]))
  (hx:NewS hd 66 166 0 w' o2.ch.v o2.ch.l) (hxn:∀g,o2.ch.v.ownBlock=some g→w.heap.size≤g∧¬Tn' g) (hz:∀g,(Value.slice oa' on' oc').ownBlock=some g→(Value.slice oa on oc).ownBlock=some g∨(w.heap.size≤g∧¬Tn' g)) (hTn:∀i,Tn' i→Tn i∨w.heap.size≤i) (hlt:∀i,Tr i→i<w.heap.size):
  BkAt Tn' (fun i=>Tr i∨o2.ch.v.ownBlock=some i∨(Value.slice oa' on' oc').ownBlock=some i) w' b s {S with N:=N',b:=b',sp:=sp',m:=m',os:=S.os++[o2.pl],fees:=f'}:=by
 obtain⟨hq',he1',he3',ho3'⟩:=h.rest hm hp;obtain⟨kb,⟨hq,hn,ht⟩,⟨he1,he2,he3⟩,⟨ho1,ho2,ho3⟩,⟨t1,t2,t3,t4,t5⟩,⟨u1,u2,u3,u4⟩,hd⟩:=h;have hql:q<w.heap.size:=by
  obtain⟨R,nx,kq,_⟩:=hq;exact Ls kq
 refine⟨q,n,t,m,ea,en,ec,oa',on',oc',er,orr++[o2],kb',⟨hq',hn',ht'⟩,⟨he1',he2,he3'⟩,⟨ho',by simp[ho2],?_⟩,⟨.inl t1,.inl t2,.inl t3,?_,?_⟩,⟨fun g hg=> .inl (u1 g hg),fun g hg=> .inr (.inr hg),fun x hx g hg=> .inl (u3 x hx g hg),?_⟩,?_⟩
 ·intro x hx';rcases List.mem_append.1 hx' with h1|h1
  ·exact ho3' x h1
  ·rw[List.mem_singleton.1 h1];exact hx
 ·rintro(h1|h1|h1)
  ·exact t4 h1
  ·have:=(hxn q h1).1;omega
  ·rcases hz q h1 with h2|h2
   ·exact t4 (u2 q h2)
   ·omega
 ·intro h1;rcases hTn q h1 with h2|h2
  ·exact t5 h2
  ·omega
 ·intro x hx' g hg;rcases List.mem_append.1 hx' with h1|h1
  ·exact .inl (u4 x h1 g hg)
  ·rw[List.mem_singleton.1 h1]at hg;exact .inr (.inl hg)
 ·rintro i hi (h1|h1|h1)
  ·rcases hTn i hi with h2|h2
   ·exact hd i h2 h1
   ·have:=hlt i h1;omega
  ·exact(hxn i h1).2 hi
  ·rcases hz i h1 with h2|h2
   ·rcases hTn i hi with h3|h3
    ·exact hd i h3 (u2 i h2)
    ·have:=hlt i (u2 i h2);omega
   ·exact h2.2 hi
theorem BkIn.ent (h:BkIn Tn Tr w b s S q n t m ea en ec oa on oc er orr) {ea':Option Addr} {en' ec':Nat} {e2:Sl UInt8} (hm:Mod (fun i=>i=b∨(Value.slice ea en ec).ownBlock=some i) w w')
  (kb':w'.heap[b]? =some (.cells (blkC s q n t S.en ea' en' ec' oa on oc S.fees) 130 (0,0))) (he':SlOwn slv 1 42 w' 0 (.slice ea' en' ec') (er++[e2])) (hx:SlOwn uc 1 5 w' 0 e2.v e2.l) (hxn:∀g,e2.v.ownBlock=some g→w.heap.size≤g) (hz:∀g,(Value.slice ea' en' ec').ownBlock=some g→(Value.slice ea en ec).ownBlock=some g∨w.heap.size≤g) (hlt:∀i,Tn i∨Tr i→i<w.heap.size):
  BkAt Tn (fun i=>Tr i∨e2.v.ownBlock=some i∨(Value.slice ea' en' ec').ownBlock=some i) w' b s {S with es:=S.es++[e2.l]}:=by
 obtain⟨kb,⟨hq,hn,ht⟩,⟨he1,he2,he3⟩,⟨ho1,ho2,ho3⟩,⟨t1,t2,t3,t4,t5⟩,⟨u1,u2,u3,u4⟩,hd⟩:=h;have hql:q<w.heap.size:=by
  obtain⟨R,nx,kq,_⟩:=hq;exact Ls kq
 have hTr:∀i,(i=b∨(Value.slice ea en ec).ownBlock=some i)→Tr i:=fun i hi=>by
  rcases hi with rfl|hi
  ·exact t1
  ·exact u1 i hi
 have ht2:=ht;obtain⟨kt,es,cl,km,M⟩:=ht2;refine⟨q,n,t,m,ea',en',ec',oa,on,oc,er++[e2],orr,kb',⟨hq.mod hm (fun h=>t4 (hTr _ h)),hn.mod hm (fun i hi h=>hd i hi (hTr i h)),ht.mod hm ?_ ?_⟩,⟨he',by simp[he2],?_⟩,⟨ho1.mod hm ?_,ho2,fun x hx=>(ho3 x hx).mod hm ?_⟩,⟨.inl t1,.inl t2,.inl t3,?_,t5⟩,⟨fun g hg=> .inr (.inr hg),fun g hg=> .inl (u2 g hg),?_,fun x hx g hg=> .inl (u4 x hx g hg)⟩,?_⟩
 ·rintro(h|h)
  ·exact absurd (h▸kt) (by rw[kb];intro h2;injection (Option.some.inj h2)with h3 h4;exact absurd h4 (by decide))
  ·exact ownE_ne he1 kt (by decide) _ h rfl
 ·rintro(h|h)
  ·rw[h,kb]at km;cases km
  ·exact own_ne he1 km _ h rfl
 ·intro x hx';rcases List.mem_append.1 hx' with h1|h1
  ·refine(he3 x h1).mod hm ?_;rintro g hg (h|h)
   ·exact ownE_ne (he3 x h1) kb (by decide) g hg h
   ·obtain⟨C,kc⟩:=own_blk he1 h;exact ownE_ne (he3 x h1) kc (by decide) g hg rfl
  ·rw[List.mem_singleton.1 h1];exact hx
 ·rintro g hg (h|h)
  ·exact ownE_ne ho1 kb (by decide) g hg h
  ·obtain⟨C,kc⟩:=own_blk he1 h;exact ownE_ne ho1 kc (by decide) g hg rfl
 ·rintro g hg (h|h)
  ·exact newE_ne (ho3 x hx) kb (by decide) g hg h
  ·obtain⟨C,kc⟩:=own_blk he1 h;exact newE_ne (ho3 x hx) kc (by decide) g hg rfl
 ·rintro(h1|h1|h1)
  ·exact t4 h1
  ·have:=hxn q h1;omega
  ·rcases hz q h1 with h2|h2
   ·exact t4 (u1 q h2)
   ·omega
 ·intro x hx' g hg;rcases List.mem_append.1 hx' with h1|h1
  ·exact .inl (u3 x h1 g hg)
  ·rw[List.mem_singleton.1 h1]at hg;exact .inr (.inl hg)
 ·rintro i hi (h1|h1|h1)
  ·exact hd i hi h1
  ·have:=hxn i h1;have:=hlt i (.inl hi);omega
  ·rcases hz i h1 with h2|h2
   ·exact hd i hi (u1 i h2)
   ·have:=hlt i (.inl hi);omega
end
end
theorem verdictE_c {b s q n t:Nat} {ea:Option Addr} {en ec:Nat} {oa:Option Addr} {on oc:Nat} {f:UInt64} (x:TdR) (w:World) (kb:w.heap[b]? =some (.cells (blkC s q n t true ea en ec oa on oc f) 130 (0,0))):
  Calls Tryz.prog 44 #[ptrV b,.agg (tdr x)] w fun e w'=>e= .returned (.int .i64 23)∧Mod (fun _=>False) w w':=by
 refine(verdict_g (b:=b) (x:=x) (w:=w) (v1:=23) (v2:=0) (R:=fun _ _ _=>True) (fun p w1 hp hm=>(step1_c (e:=true) w1 (hm.at0 kb) hp).mono ?_) (fun h=>by cases h) (fun h=>by cases h)).mono ?_
 ·rintro e w' ⟨rfl,rfl⟩;exact⟨rfl,Mod.refl _ _⟩
 ·rintro e w' (⟨_,rfl,hm⟩|⟨h,_⟩|⟨h,_⟩)
  ·exact⟨rfl,hm⟩
  ·cases h
  ·cases h
theorem td_at {w:World} {a:Option Addr} {l:List TdR} (h:SlAt tdr 54 w a l) {i:Nat} {x:TdR} (hx:l[i]? =some x):∃g o C U fr,a=some ⟨g,o,none⟩∧w.heap[g]? =some (.cells C U fr)∧C.extract (o+i*54) (o+i*54+54)=tdr x∧o+i*54+54≤C.size:=h.block hx
theorem errC_get {l:List Nat} {i v:Nat} (h:l[i]? =some v):(errC l)[i]? =some (.int .i64 (v:Int)):=by
 simp[errC,h]
theorem recordE_c {b s q n t:Nat} {ea:Option Addr} {en ec:Nat} {oa:Option Addr} {on oc:Nat} {f:UInt64} (a:Option Addr) (l:List TdR) (c:Nat) (w:World) (kb:w.heap[b]? =some (.cells (blkC s q n t true ea en ec oa on oc f) 130 (0,0))) (hl:SlAt tdr 54 w a l) (hn:l.length≤100000):
  Calls Tryz.prog 9 #[ptrV b,.slice a l.length c] w fun e w'=>∃g,e= .returned (.slice (some ⟨g,0,none⟩) l.length l.length)∧w.heap.size≤g∧SlAt ern 1 w' (some ⟨g,0,none⟩) (List.replicate l.length 23)∧Mod (fun _=>False) w w':=by
 have hmk:=mkErr l.length hn;have HL:=Hi hl;have KB:=Hi kb;have hbl:=Ls kb;clear hl kb;generalize hll:l.length=ll at *;have HLL:=Hi hll;clear hll;go_enter Tryz.func9,Tryz.ntmps9;go_upto_region 1 with fail;refine ZP0 [0,0,3,0] ?_
 iterate 2 refine Zv ?_
 (refine TD.mks (by simp only[zK];rfl) rfl (by rfl) rfl rfl ?hx3 ?hz3 hmk (fun p13 hp13=> ?n3);(case hx3=>simp only[zM];try rfl);(case hz3=>simp only[zM];try rfl);try simp only[zL]);refine Zv ?_;refine TD.nil (fun w1 hr=> ?_);obtain⟨gp13,kp13⟩:=hr.b p13;clear hmk;have m1:=hr.mod;clear hr;have hne:b≠p13:=by omega
 go_wp2_with fail;go_at_call 43;refine(bthere_c _ (m1.at0 KB.out)).mono ?_;rintro e w2 ⟨rfl,rfl⟩;go_wp2_with fail;go_loopw [7,8,29] (fun s7 s8 s29 ws=>∃i:Nat,i≤ll∧s7= .slice none 0 0∧s8= .int .u64 0∧s29= .int .i64 (i:Int)∧ws.heap[p13]? =some (.cells (errC (List.replicate i 23++List.replicate (ll-i) 0)) 59 (0,0))∧Mod (fun i=>i=p13) w1 ws) (fun _ _ s29 _=>ll-(intOf s29).toNat)
 case atStart=>exact⟨0,by omega,rfl,rfl,rfl,by simpa using kp13,Mod.refl _ _⟩
 case round=>
  obtain⟨i,hi,rfl,rfl,rfl,kq,hm⟩:=hrel;clear kp13;have mm:=m1.thenB hm (.inl gp13);by_cases hlt:i<ll
  ·obtain⟨x,hx⟩:∃x,l[i]? =some x:=⟨_,List.getElem?_eq_getElem (by rw[HLL.out];exact hlt)⟩;obtain⟨g,o,C,U,fr,rfl,kl,he,hle⟩:=td_at (HL.out.mod0 mm) hx;have HX:=Hi hx;clear hx;have hs:(errC (List.replicate i 23++List.replicate (ll-i) 0)).size=ll:=by rw[errC_size];simp;omega
   have hset:(errC (List.replicate i 23++List.replicate (ll-i) 0)).setIfInBounds i (.int .i64 23)=errC (List.replicate (i+1) 23++List.replicate (ll-(i+1)) 0):=by
    refine(errC_set _ i 23).trans ?_;congr 1;obtain⟨d,rfl⟩:∃d,ll=i+1+d:=⟨ll-(i+1),by omega⟩;rw[show i+1+d-i=d+1 by omega,show i+1+d-(i+1)=d by omega,List.set_append_right _ _ (by simp),List.length_replicate,Nat.sub_self,List.replicate_succ,zG,List.replicate_succ' (n:=i),List.append_assoc];rfl
   have hget:(errC (List.replicate (i+1) 23++List.replicate (ll-(i+1)) 0))[i]? =some (.int .i64 23):=errC_get (by rw[List.getElem?_append_left (by simp),List.getElem?_replicate,if_pos (by omega)]);have hs2:(errC (List.replicate (i+1) 23++List.replicate (ll-(i+1)) 0)).size=ll:=by rw[errC_size];simp;omega
   have HE2:∃E2,E2=errC (List.replicate (i+1) 23++List.replicate (ll-(i+1)) 0):=⟨_,rfl⟩;obtain⟨E2,hE2⟩:=HE2;obtain⟨E,hE⟩:∃E,E=errC (List.replicate i 23++List.replicate (ll-i) 0):=⟨_,rfl⟩;rw[←hE2]at hset hget hs2;rw[←hE]at hs hset kq;have HEE:=Hi (Ai hE hE2);clear hE hE2;have HS:=Hi hset;clear hset;go_upto_region 13 with fail;have Lkl:=Ls kl;have Lkq:=Ls kq;refine ZP0 [0,0,1,3,0,4] ?_
   iterate 3 first|refine Zv ?_|refine Zd ?_
   refine Za alTd fun p10 hp10=> ?_;refine Zv ?_;refine Zt ?_;refine TD.nil (fun w3 hr=> ?_);replace kl:=hr.q kl;replace kq:=hr.q kq;obtain⟨gp10,kp10⟩:=hr.b p10;have hm3:=hm.then0 hr.mod;clear hr;go_wp2_with fail;go_at_call 44;refine(verdictE_c x _ ((m1.thenB hm3 (.inl gp13)).at0 KB.out)).mono ?_;rintro e w4 ⟨rfl,m4⟩;have hm4:=hm3.then0 m4;have kq:=m4.at0 kq;clear kp10 kl he m4;go_upto_region 15 with fail;rw[setCell_blk kq,HS.out];obtain⟨w5,kq5,m5,e5⟩:∃w5,w5.heap[p13]? =some (.cells E2 59 (0,0))∧Mod (fun i=>i=p13) w4 w5∧w5=setBlock w4 p13 (.cells E2 59 (0,0)):=⟨_,heap_setBlock _ _ (Ls kq),mod_set _ _ _,rfl⟩;rw[←e5];have hm5:=hm4.trans m5;clear e5 m5 kq hs hs2;have Lkq5:=Ls kq5;refine ZP0 [0,0,0,1,0] ?_
   iterate 5 first|refine Zv ?_|refine Zd ?_
   refine TD.nil (fun w6 hr=> ?_);replace kq5:=hr.q kq5;have hm5:=hm5.then0 hr.mod;clear hr hget;go_wp2_with fail;go_roundw
   case rel=>exact⟨i+1,by omega,rfl,rfl,by go_num,by rw[←HEE.out.2];exact kq5,hm5⟩
   case measure=>simp[intOf];omega
  ·obtain rfl:i=ll:=by omega
   go_wp2_with fail;go_ret;exact⟨_,rfl,gp13,by have:=errC_at kq;simpa using this,mm⟩
theorem eff_callX {P:Program} {ops:Array Oper} {Q:Exit→Act→World→Prop} {κ:Nat→Nat} {i:Nat} {r:List Nat} {a:Act} {o:Oper} {w:World} {f:FuncId} {args:Array Value} {Post:World→Prop} (ho:ops[i]? =some o) (hw:Region.wanted o (yielded ops a.tmps)=true)
  (hy:(execOp a.eval o).run P w= .ok (.enter f args) w) (hc:Calls P f args w fun e w'=>(∃v,e= .returned v)∧Post w') (hn:∀v w',Post w'→TE P ops Q κ r (a.put o.dst v) w'):wpOp P ops Q i (fun a' w''=>TE P ops Q κ r a' w'') a w:=by
 unfold wpOp;simp only[ho,hw,if_true];refine .inl ?_;unfold Oper.wp;rw[hy];refine hc.mono ?_;rintro e w' ⟨⟨v,rfl⟩,hp⟩;exact hn v w' hp
def RcOk (w:World) (x:TdR):Prop:=VOk w x∧SlAt hd 66 w x.o.ch.a x.o.ch.l∧x.o.ch.l.length≤1000000∧SlAt uc 1 w x.r.b.a x.r.b.l
def RIn (Tn Tr:Nat→Prop) (B p b s:Nat) (S:BS) (l:List TdR) (i:Nat) (vs:List Nat) (k:Nat) (v:Value) (w:World):Prop:=
 ∃(S1:BS) (ent:List UInt8) (Tn1 Tr1:Nat→Prop),RRun S (l.take i) vs ent k S1∧BkAt Tn1 Tr1 w b s S1∧(SlOwn uc 1 5 w B v ent∧∀g,v.ownBlock=some g→¬Tn1 g∧¬Tr1 g)∧∀j,Tn1 j∨Tr1 j→j≠p∧(Tn j∨Tr j∨B≤j)∧j<w.heap.size
def RecP (Tn Tr:Nat→Prop) (b s:Nat) (S:BS) (l:List TdR) (w:World) (e:Ending) (w':World):Prop:=
 ∃(g:Nat) (vs:List Nat) (S1:BS) (ent:List UInt8) (k:Nat) (Tn1 Tr1:Nat→Prop),e= .returned (.slice (some ⟨g,0,none⟩) l.length l.length)∧w.heap.size≤g∧w'.heap[g]? =some (.cells (errC vs) 59 (0,0))∧RRun S l vs ent k S1∧
  BkAt Tn1 Tr1 w' b s (if k=0 then S1 else{S1 with es:=S1.es++[leB k.toUInt64++ent]})∧(∀j,Tn1 j∨Tr1 j→j≠g∧(Tn j∨Tr j∨w.heap.size≤j)∧j<w'.heap.size)∧Mod (fun i=>Tn i∨Tr i) w w'
def OutL (b0:Nat) (o:OcR) (l:List OcR) (v:Value):Land:=fun T w=>∃o2:OcR,o2.pl=o.pl∧NewL hd 66 166 b0 o2.ch.l o2.ch.v T w∧OwnL ocr 6 63 0 (l++[o2]) v T w
theorem goodOut (b0:Nat) (o:OcR) (l:List OcR) (v:Value):Good (OutL b0 o l v):=Good.ex fun o2=>(Good.pure _).and ((goodN _ _ _ _ _ _).and (goodOL _ _ _ _ _ _))
theorem app_out {T:Nat→Prop} {w:World} {v:Value} {l:List OcR} {o o2:OcR} {b0 p:Nat} {U:TypeId} {fr:Nat×Nat} (hO:OwnL ocr 6 63 0 l v T w) (hc:OcL b0 o (.agg (ocr o2)) T w) (kp:w.heap[p]? =some (.cells (ocr o2) U fr)) (hlen:l.length+1≤1000000) (ty:TypeId):
  ∃v' w',(Builtin.append_ #[69,69] ty #[v,.slice (some ⟨p,0,none⟩) 1 1]).run Tryz.prog w= .ok v' w'∧Mod T w w'∧OutL b0 o l v' (Grow T w w') w':=by
 obtain⟨o3,he,hp,hN⟩:=hc;have he':ocr o2=ocr o3:=by injection he
 rw[he']at kp;obtain⟨v',w',hap,hO',m',hn'⟩:=SlOwn.append outT (q:=[o3]) (c:=1) hO.1 (SlAt.one kp o3 rfl (ocr_size _)) (by simpa using hlen) (by decide) (Nat.zero_le _) ty;have hlt:=m'.size;refine⟨v',w',hap,m'.mono (fun i _ h=>hO.2 i h),o3,hp,⟨hN.1.mod m' ?_,fun g hg=> .inl (hN.2 g hg)⟩,hO',?_⟩
 ·intro g hg h;obtain⟨C,kc⟩:=own_blk hO.1 h;exact newE_ne hN.1 kc (by decide) g hg rfl
 ·intro g hg;rcases hn' with h|h
  ·exact .inl (hO.2 g (h▸hg))
  ·have:=(hO'.lt g hg).2;rw[hg]at h;have h2:g=w.heap.size:=Option.some.inj h;exact .inr ⟨by omega,this⟩
theorem NewS.slAt {α:Type} {f:α→Array Value} {n:Nat} {E:TypeId} {b k c:Nat} {w:World} {a:Option Addr} {l:List α} (h:NewS f n E b w (.slice a k c) l):SlAt f n w a l:=by
 obtain⟨a',e,h1,_⟩:=h.at;injection e with e1
 exact e1▸h1
theorem own_slAt {w:World} {b k c:Nat} {a:Option Addr} {l:List UInt8} (h:SlOwn uc 1 5 w b (.slice a k c) l):SlAt uc 1 w a l∧k=l.length:=by
 obtain⟨a',c',e,h1,_⟩:=h.at bytesT;injection e with e1 e2 e3
 exact⟨e1▸h1,e2⟩
def EntL (b0:Nat) (l:List (Sl UInt8)) (e:List UInt8) (v:Value):Land:=fun T w=>∃x:Sl UInt8,x.l=e∧OwnL uc 1 5 b0 x.l x.v T w∧OwnL slv 1 42 0 (l++[x]) v T w
theorem goodEnt (b0:Nat) (l:List (Sl UInt8)) (e:List UInt8) (v:Value):Good (EntL b0 l e v):=Good.ex fun x=>(Good.pure _).and ((goodOL _ _ _ _ _ _).and (goodOL _ _ _ _ _ _))
theorem app_ent {T:Nat→Prop} {w:World} {v:Value} {l:List (Sl UInt8)} {e:List UInt8} {b0 p n c:Nat} {a:Option Addr} {U:TypeId} {fr:Nat×Nat} (hO:OwnL slv 1 42 0 l v T w) (hc:OwnL uc 1 5 b0 e (.slice a n c) T w) (kp:w.heap[p]? =some (.cells #[.slice a n c] U fr)) (hlen:l.length+1≤1000000) (ty:TypeId):
  ∃v' w',(Builtin.append_ #[40,40] ty #[v,.slice (some ⟨p,0,none⟩) 1 1]).run Tryz.prog w= .ok v' w'∧Mod T w w'∧EntL b0 l e v' (Grow T w w') w':=by
 have hn:=(own_slAt hc.1).2;subst hn;obtain⟨v',w',hap,hO',m',hn'⟩:=SlOwn.append slsT (q:=[(⟨a,e,c⟩:Sl UInt8)]) (c:=1) hO.1 (SlAt.one kp (⟨a,e,c⟩:Sl UInt8) rfl rfl) (by simpa using hlen) (by decide) (Nat.zero_le _) ty;have hlt:=m'.size;refine⟨v',w',hap,m'.mono (fun i _ h=>hO.2 i h),⟨a,e,c⟩,rfl,⟨hc.1.mod m' ?_,fun g hg=> .inl (hc.2 g hg)⟩,hO',?_⟩
 ·intro g hg h;obtain⟨C,kc⟩:=own_blk hO.1 h;exact ownE_ne hc.1 kc (by decide) g hg rfl
 ·intro g hg;rcases hn' with h|h
  ·exact .inl (hO.2 g (h▸hg))
  ·have:=(hO'.lt g hg).2;rw[hg]at h;have h2:g=w.heap.size:=Option.some.inj h;exact .inr ⟨by omega,this⟩
theorem record_g {Tn Tr:Nat→Prop} {b s:Nat} {S:BS} (a:Option Addr) (l:List TdR) (c:Nat) (w:World) (hk:BkAt Tn Tr w b s S) (hP:∀w',Mod (fun j=>Tn j∨Tr j) w w'→SlAt tdr 54 w' a l∧∀x∈l,RcOk w' x) (hlo:∀i,Tn i∨Tr i→i<w.heap.size)
  (hN:S.N.length+l.length≤900000) (hos:S.os.length+l.length≤900000) (hby:(l.map (fun x=>x.r.b.l.length)).sum≤900000) (hes:S.es.length≤900000) (hn:l.length≤100000):
  Calls Tryz.prog 9 #[ptrV b,.slice a l.length c] w fun e w'=>RecP Tn Tr b s S l w e w':=by
 have hmk:=mkErr l.length hn;have HL:=Hi (Ai hP hlo);have HK:=Hi hk;have HB:=Hi (Ai hN (Ai hos (Ai hby hes)));have hb0:∃q n t ea en ec oa on oc,w.heap[b]? =some (.cells (blkC s q n t S.en ea en ec oa on oc S.fees) 130 (0,0)):=by
  obtain⟨q,n,t,m,ea,en,ec,oa,on,oc,er,orr,h⟩:=hk.in;exact⟨q,n,t,ea,en,ec,oa,on,oc,h.1⟩
 obtain⟨q,n,t,ea,en,ec,oa,on,oc,kb0⟩:=hb0;clear hP hlo hk hN hos hby hes;generalize hll:l.length=ll at *;have HLL:=Hi hll;clear hll;go_enter Tryz.func9,Tryz.ntmps9;go_upto_region 1 with fail;refine ZP0 [0,0,3,0] ?_
 iterate 2 refine Zv ?_
 (refine TD.mks (by simp only[zK];rfl) rfl (by rfl) rfl rfl ?hx3 ?hz3 hmk (fun p13 hp13=> ?n3);(case hx3=>simp only[zM];try rfl);(case hz3=>simp only[zM];try rfl);try simp only[zL]);refine Zv ?_;refine TD.nil (fun w1 hr=> ?_);obtain⟨gp13,kp13⟩:=hr.b p13;clear hmk;have m1:=hr.mod;clear hr;go_wp2_with fail;go_at_call 43;refine(bthere_c _ (m1.at0 kb0)).mono ?_;rintro e w2 ⟨rfl,rfl⟩;clear kb0;have HK1:=Hi (HK.out.mod0 m1);have HM1:=Hi (Ai m1 m1.size);have HLT:Hid (∀j,Tn j∨Tr j→j≠p13∧j<w1.heap.size):=Hi (fun j hj=>by
  have h1:=HL.out.2 j hj;have h2:=m1.size;exact⟨by omega,by omega⟩)
 clear m1;go_wp2_with fail;go_loopw [7,8,29] (fun s7 s8 s29 ws=>∃(i:Nat) (vs:List Nat) (k:Nat) (vE:Value),vE=s7∧i≤ll∧k≤i∧vs.length=i∧s8= .int .u64 (k:Int)∧s29= .int .i64 (i:Int)∧Hid (RIn Tn Tr w1.heap.size p13 b s S l i vs k vE ws)∧ws.heap[p13]? =some (.cells (errC (vs++List.replicate (ll-i) 0)) 59 (0,0))∧Hid (Mod (fun i=>Tn i∨Tr i∨i=p13) w1 ws)) (fun _ _ s29 _=>ll-(intOf s29).toNat)
 case atStart=>exact⟨0,[],0,_,rfl,by omega,by omega,rfl,rfl,rfl,Hi ⟨S,[],Tn,Tr,by rw[List.take_zero];exact .nil S,HK1.out,⟨SlOwn.nil _ _,fun g hg=>by cases hg⟩,fun j hj=>⟨(HLT.out j hj).1,by rcases hj with h|h<;>simp[h],(HLT.out j hj).2⟩⟩,by simpa using kp13,Hi (Mod.refl _ _)⟩
 case round=>
  obtain⟨i,vs,k,vE,rfl,hi,hki,hvs,rfl,rfl,HR,kq,HM⟩:=hrel;clear kp13;have HM0:Hid (Mod (fun j=>Tn j∨Tr j) w wr):=Hi ((HM1.out.1.mono (fun _ _ h=>h.elim)).then HM.out (fun j hj e=>by
   have h2:=gp13;rcases e with e|e|e
   ·exact .inl e
   ·exact .inr e
   ·omega))
  by_cases hlt:i<ll
  ·obtain⟨x,hx⟩:∃x,l[i]? =some x:=⟨_,List.getElem?_eq_getElem (by rw[HLL.out];exact hlt)⟩;obtain⟨g,o,C,U,fr,rfl,kl,he,hle⟩:=td_at (HL.out.1 wr HM0.out).1 hx;have HOK:Hid (RcOk wr x):=Hi ((HL.out.1 wr HM0.out).2 x (List.mem_of_getElem? hx));have HX:Hid (l.take (i+1)=l.take i++[x]):=Hi (by rw[List.take_add_one,hx];rfl);clear hx;obtain⟨S1,ent,Tn1,Tr1,hrun,hbk,hent,hlo1⟩:=HR.out;obtain⟨q1,n1,t1,m1,ea1,en1,ec1,oa1,on1,oc1,er1,or1,hbi⟩:=hbk.in;have HRUN:=Hi hrun;have HBI:=Hi hbi;have HENT:=Hi hent;have HLO:=Hi hlo1;clear hrun hbk hent hlo1 hbi HR;obtain⟨vd,hvd⟩:∃vd,vdN S1.en S1.H S1.N S1.L S1.b S1.sp S1.m x=vd:=⟨_,rfl⟩;have HVD:=Hi hvd;clear hvd;have hs:(errC (vs++List.replicate (ll-i) 0)).size=ll:=by rw[errC_size];simp;omega
   have hset:(errC (vs++List.replicate (ll-i) 0)).setIfInBounds i (.int .i64 (vd:Int))=errC ((vs++[vd])++List.replicate (ll-(i+1)) 0):=by
    refine(errC_set _ i vd).trans ?_;congr 1;obtain⟨d,hd⟩:∃d,ll=i+1+d:=⟨ll-(i+1),by omega⟩;rw[hd,show i+1+d-i=d+1 by omega,show i+1+d-(i+1)=d by omega,List.set_append_right _ _ (by omega),hvs,Nat.sub_self,List.replicate_succ,zG,List.append_assoc];rfl
   have hget:(errC ((vs++[vd])++List.replicate (ll-(i+1)) 0))[i]? =some (.int .i64 (vd:Int)):=errC_get (by rw[List.getElem?_append_left (by simp;omega),List.getElem?_append_right (by omega),hvs,Nat.sub_self];rfl);have hs2:(errC ((vs++[vd])++List.replicate (ll-(i+1)) 0)).size=ll:=by rw[errC_size];simp;omega
   obtain⟨E2,hE2⟩:∃E2,E2=errC ((vs++[vd])++List.replicate (ll-(i+1)) 0):=⟨_,rfl⟩;obtain⟨E,hE⟩:∃E,E=errC (vs++List.replicate (ll-i) 0):=⟨_,rfl⟩;rw[←hE2]at hset hget hs2;rw[←hE]at hs hset kq;have HEE:=Hi (Ai hE hE2);have KQR:=Hi kq;clear hE hE2;have HS:=Hi hset;clear hset;go_upto_region 13 with fail;have Lkl:=Ls kl;have Lkq:=Ls kq;refine ZP0 [0,0,1,3,0,4] ?_
   iterate 3 first|refine Zv ?_|refine Zd ?_
   refine Za alTd fun p10 hp10=> ?_;refine Zv ?_;refine Zt ?_;refine TD.nil (fun w3 hr=> ?_);replace kl:=hr.q kl;replace kq:=hr.q kq;obtain⟨gp10,kp10⟩:=hr.b p10;have hm3:=hr.mod;clear hr;go_wp2_with fail;go_at_call 44;refine(verdict_c x _ (hm3.at0 HBI.out.1) (HBI.out.2.1.1.mod0 hm3) (HBI.out.2.1.2.1.mod0 hm3) (HBI.out.2.1.2.2.mod0 hm3) (HOK.out.1.mod0 hm3)).mono ?_;rintro e w4 ⟨rfl,hV⟩;rw[HVD.out]at hV;rw[HVD.out];by_cases hv0:vd=0
   ·obtain⟨⟨done,hdone,hT4⟩,m4⟩:AddPost t1 m1 S1.L S1.b S1.sp S1.m (coX x) x.o.sp (wrL x.r.ro.l) w3 w4:=by
     rcases hV with h|h
     ·exact absurd hv0 h.1
     ·exact h.2
    have HV0:=Hi hv0;clear hV hv0;have HD:=Hi (Ai hdone hT4);have HTM:Hid (t1<wr.heap.size∧m1<wr.heap.size∧b<wr.heap.size∧b≠t1∧b≠m1∧p13≠t1∧p13≠m1∧p13≠b∧¬(Value.slice oa1 on1 oc1).ownBlock=some b∧¬(Value.slice oa1 on1 oc1).ownBlock=some p13):=Hi (by
     obtain⟨kb,⟨hq,hn,ht⟩,⟨he1,he2,he3⟩,⟨ho1,ho2,ho3⟩,⟨u1,u2,u3,u4,u5⟩,⟨v1,v2,v3,v4⟩,hd⟩:=HBI.out;obtain⟨kt,es,cl,km,M⟩:=ht;refine⟨Ls kt,Ls km,Ls kb,?_,ne_of_obj kb km (by simp),?_,?_,?_,fun h=>ownE_ne ho1 kb (by decide) _ h rfl,fun h=>(HLO.out p13 (.inr (v2 _ h))).1 rfl⟩
     ·intro h;rw[h,kt]at kb;injection (Option.some.inj kb)with h1 h2
      exact absurd h2 (by decide)
     ·exact fun h=>(HLO.out t1 (.inr u2)).1 h.symm
     ·exact fun h=>(HLO.out m1 (.inr u3)).1 h.symm
     ·exact fun h=>(HLO.out b (.inr u1)).1 h.symm)
    have HRS:Hid (∀j,RcS Tn1 b t1 m1 p13 oa1 on1 oc1 j→(j<w.heap.size→Tn j∨Tr j)∧(Tn j∨Tr j∨j=p13∨w1.heap.size≤j)):=Hi (by
     have h1:∀j,Tn1 j∨Tr1 j∨j=p13→(j<w.heap.size→Tn j∨Tr j)∧(Tn j∨Tr j∨j=p13∨w1.heap.size≤j):=fun j hj=>by
      have g2:=HM1.out.2;have g3:=gp13;have h2:∀j,Tn1 j∨Tr1 j→(j<w.heap.size→Tn j∨Tr j)∧(Tn j∨Tr j∨j=p13∨w1.heap.size≤j):=fun j hj=>by
       rcases(HLO.out j hj).2.1 with h|h|h
       ·exact⟨fun _=> .inl h,.inl h⟩
       ·exact⟨fun _=> .inr h,.inr (.inl h)⟩
       ·exact⟨fun _=>by omega,.inr (.inr (.inr h))⟩
      rcases hj with h|h|h
      ·exact h2 j (.inl h)
      ·exact h2 j (.inr h)
      ·exact⟨fun _=>by omega,.inr (.inr (.inl h))⟩
     obtain⟨kb,_,_,_,⟨u1,u2,u3,u4,u5⟩,⟨v1,v2,v3,v4⟩,hd⟩:=HBI.out;rintro j (h|rfl|rfl|rfl|h|rfl)
     ·exact h1 j (.inl h)
     ·exact h1 j (.inr (.inl u1))
     ·exact h1 j (.inr (.inl u2))
     ·exact h1 j (.inr (.inl u3))
     ·exact h1 j (.inr (.inl (v2 _ h)))
     ·exact h1 j (.inr (.inr rfl)))
    have HOKF:Hid (∀wk,Mod (RcS Tn1 b t1 m1 p13 oa1 on1 oc1) wr wk→RcOk wk x):=Hi (fun wk h=>by
     exact(HL.out.1 wk (HM0.out.then h (fun j hj e=>(HRS.out j e).1 hj))).2 x (by
      have:=HX.out;exact List.mem_of_mem_take (i:=i+1) (by rw[this];simp)))
    have kq:=m4.at kq (by have:=HTM.out;omega);have kb:=hm3.at0 HBI.out.1;have kb:=m4.at kb (by have:=HTM.out;omega);unfold blkC at kb;have kp10:=m4.at kp10 (by have:=HTM.out;omega);have hm4:Mod (fun j=>j=t1∨j=m1∨j=p13) wr w4:=(hm3.mono (fun _ _ h=>h.elim)).trans (m4.mono (fun j _ h=>by rcases h with h|h<;>simp[h]));clear kl he m4 hm3;have kp13':=kq;clear hdone hT4;go_upto_region 15 with fail;rw[setCell_blk kq,HS.out];have hbp:b≠p13:=fun h=>HTM.out.2.2.2.2.2.2.2.1 h.symm;have h10p:p10≠p13:=by have:=Ls KQR.out;omega
    obtain⟨w5,kq5,m5,e5⟩:∃w5,w5.heap[p13]? =some (.cells E2 59 (0,0))∧Mod (fun i=>i=p13) w4 w5∧w5=setBlock w4 p13 (.cells E2 59 (0,0)):=⟨_,heap_setBlock _ _ (Ls kq),mod_set _ _ _,rfl⟩;rw[←e5];have hT5:=HD.out.2.mod m5 (fun h=>HTM.out.2.2.2.2.2.1 h.symm) (fun h=>HTM.out.2.2.2.2.2.2.1 h.symm);have kb:=m5.at_ne kb hbp;have kp10:=m5.at_ne kp10 h10p;have hm5:=hm4.trans (m5.mono (fun j _ h=>by simp[h]));clear e5 m5 kq hs hs2 kp13' hm4;have Lkq5:=Ls kq5;have Lkb:=Ls kb;have Lkp10:=Ls kp10;refine ZP0 [0,0,0,1,0] ?_
    iterate 5 first|refine Zv ?_|refine Zd ?_
    refine TD.nil (fun w6 hr=> ?_);replace kq5:=hr.q kq5;replace kb:=hr.q kb;replace kp10:=hr.q kp10;have hm6:=hm5.trans (hr.mod.mono (fun _ _ h=>h.elim));have HT6:=Hi (hT5.mod0 hr.mod);have HSE:=Hi (HBI.out.2.1.2.1.mod hm6 (fun j hj e=>by
     have hh:=HBI.out;have h1:=hh.2.2.2.2.2.2 j hj;rcases e with rfl|rfl|rfl
     ·exact h1 hh.2.2.2.2.1.2.1
     ·exact h1 hh.2.2.2.2.1.2.2.1
     ·exact(HLO.out _ (.inl hj)).1 rfl))
    have HOO6:Hid (SlOwn ocr 6 63 w6 0 (.slice oa1 on1 oc1) or1):=Hi (by
     have hh:=HBI.out;obtain⟨kt,es,cl,km,M⟩:=hh.2.1.2.2;have ho:=hh.2.2.2.1.1;refine ho.mod hm6 ?_;rintro g hg (h|h|h)
     ·exact ownE_ne ho kt (by decide) g hg h
     ·exact own_ne ho km g hg h
     ·exact(HLO.out p13 (.inr (hh.2.2.2.2.2.1.2.1 p13 (h▸hg)))).1 rfl)
    have HM6:Hid (Mod (RcS Tn1 b t1 m1 p13 oa1 on1 oc1) wr w6):=Hi (hm6.mono (fun j _ h=>by rcases h with h|h|h<;>simp[h,RcS]));clear hr hget hm5 hT5 hm6;have hne:((vd:Int) !=0)=false:=by rw[HV0.out];rfl
    go_upto_region 16 with fail;have Lkb:=Ls kb;have Lkp10:=Ls kp10;have Lkq5:=Ls kq5;refine ZR (fun _ _ v=>v= .agg (sgc (firstS x.r.sg.l))) [0,0,0,0,1,0,1,2,0,0,0,0,1,5] ?_
    iterate 7 first|refine Zv ?_|refine Zd ?_
    (refine Zc ?_ (s:=by intro wq hSq;exact(first_c x.r wq (((HOKF.out w6 HM6.out).1.1).mod0 hSq)).mono (fun e w' h=>⟨_,h.1,rfl,h.2⟩));rintro _ rfl;try simp only[zL])
    iterate 5 first|refine Zv ?_|refine Zd ?_
    refine Zi fun w7 hr=> ?_;replace kb:=hr.q kb;replace kp10:=hr.q kp10;replace kq5:=hr.q kq5;have m7:=hr.mod;clear hr;have HM7:=Hi (HM6.out.then0 m7);have m7x:=Hi m7;have hNlen:S1.N.length<1000000:=by
     have h1:=HRUN.out.len.2.2.1;have h2:(l.take i).length≤l.length:=by rw[List.length_take];omega
     have h3:=HB.out.1;have h4:=HLL.out;omega
    have hmark:=mark_c n1 S1.N (firstS x.r.sg.l) x.r.rc w7 (HSE.out.mod0 m7) (fun j hj=>by
     have h1:=(HLO.out j (.inl hj)).2.2;have h2:=HM7.out.size;omega) hNlen
    have HT7:=Hi (HT6.out.mod0 m7);have hTb:¬Tn1 b:=fun h=>HBI.out.2.2.2.2.2.2 b h HBI.out.2.2.2.2.1.1;have hTp:¬Tn1 p13:=fun h=>(HLO.out _ (.inl h)).1 rfl;have hT10:¬Tn1 p10:=fun h=>by
     have:=(HLO.out _ (.inl h)).2.2;omega
    (refine eff_callX (by simp only[zK];rfl) (by rfl) ?y30 hmark (fun vn wn hP=> ?n30);(case y30=>(go_simp;(try(first|with_reducible rfl|(constructor<;>with_reducible rfl)))));try simp only[zL]);refine TE.nil ?_;obtain⟨w8,e8⟩:∃w8,w8=wn:=⟨_,rfl⟩;rw[←e8]at hP⊢;clear e8 hmark m7;have hs78:=hP.2.size;replace kb:=hP.2.at kb hTb;replace kp10:=hP.2.at kp10 hT10;replace kq5:=hP.2.at kq5 hTp;have HM8:Hid (Mod (RcS Tn1 b t1 m1 p13 oa1 on1 oc1) wr w8):=Hi (HM7.out.trans (hP.2.mono (fun j _ h=> .inl h)));have HT8:=Hi (HT7.out.mod hP.2 (fun h=>HBI.out.2.2.2.2.2.2 _ h HBI.out.2.2.2.2.1.2.1) (fun h=>HBI.out.2.2.2.2.2.2 _ h HBI.out.2.2.2.2.1.2.2.1));have HSE8:=Hi (Ai hP.1 hs78);have HOO:Hid (SlOwn ocr 6 63 w8 0 (.slice oa1 on1 oc1) or1):=Hi ((HOO6.out.mod0 m7x.out).mod hP.2 (fun g hg h=>HBI.out.2.2.2.2.2.2 g h (HBI.out.2.2.2.2.2.1.2.1 g hg)));clear hP hs78 hTb hTp hT10 hNlen
    --the outcome and the fee
    obtain⟨W,hW⟩:∃W:Nat→Prop,W=fun j=>(Value.slice oa1 on1 oc1).ownBlock=some j:=⟨_,rfl⟩;have HW:=Hi hW;have nWb:¬W b:=by rw[hW];exact HTM.out.2.2.2.2.2.2.2.2.1
    have nWp:¬W p13:=by rw[hW];exact HTM.out.2.2.2.2.2.2.2.2.2
    have hWT:∀j,W j→j<wr.heap.size:=by
     rw[hW];intro j hj;exact(HLO.out j (.inr (HBI.out.2.2.2.2.2.1.2.1 j hj))).2.2
    have nW10:¬W p10:=fun h=>by
     have:=hWT _ h;omega
    have HKK:Hid (OwnL ocr 6 63 0 or1 (.slice oa1 on1 oc1) W w8):=Hi ⟨HOO.out,fun g hg=>by rw[hW];exact hg⟩;have hWT8:∀j,W j→j<w8.heap.size:=fun j hj=>Nat.lt_of_lt_of_le (hWT j hj) HM8.out.size;have HWS:Hid (∀j,W j→RcS Tn1 b t1 m1 p13 oa1 on1 oc1 j):=Hi (by rw[hW];exact fun j hj=> .inr (.inr (.inr (.inr (.inl hj)))));have holen:or1.length+1≤1000000:=by
     have h1:=HRUN.out.len.2.2.2.1;have h2:(l.take i).length≤l.length:=by rw[List.length_take];omega
     have h3:=HB.out.2.1;have h4:=congrArg List.length HBI.out.2.2.2.1.2.1;rw[List.length_map]at h4;have h5:=HLL.out;omega
    obtain⟨fz,hfz⟩:∃fz,sat S1.fees x.o.fee=fz:=⟨_,rfl⟩;have HFZ:=Hi hfz;clear hW hWT hfz;go_upto_region 17 with fail;have Lkb:=Ls kb;have Lkp10:=Ls kp10;have Lkq5:=Ls kq5;refine wp_region_any (by kernel_rfl) ?_;change wpAny _ .any _ _ 26 _ _ _;(refine take_first (i:=1) (v:= ?v31) (by simp only[zK];rfl) (by kernel_rfl) (fun _ _ d _ _ h=>by cases d<;>first|exact h|exact absurd h (hP _ _ _)) ?hw31 (fun w1=> ?y31) ?n31;(case hw31=>rfl);(case y31=>go_simp;try with_reducible rfl);try simp only[zL]);refine e_anyL (T0:=W) (K:=OwnL ocr 6 63 0 or1 (.slice oa1 on1 oc1)) (κ:=fun i=>[0,0,0,0,0,0,0,0,6,3,6,0,0,0,0,0,0,0,3,6,0,0,6,0,0,6].getD i 0) (υ:=fun i=>[[],[],[],[],[],[],[],[],[],[],[68],[],[],[],[],[],[],[],[],[77],[],[],[],[],[],[]].getD i []) (fun _ _ d _ _ h=>by cases d<;>first|exact h|exact absurd h (hP _ _ _)) [0,2,3,4,5,6,7,8,9,10,11,12,13,14,15,16,17,18,19] [20,21,22,23,24,25] (by kernel_rfl) (goodOL ocr 6 63 0 or1 (.slice oa1 on1 oc1)).cl (rg_drew (goodOL ocr 6 63 0 or1 (.slice oa1 on1 oc1)).cl (HKK.out) (hWT8)) ?_;have gK:=goodOL ocr 6 63 0 or1 (.slice oa1 on1 oc1)
    iterate 4 refine Zg ?_
    (refine TG.load (v:= ?v36) (p:= ?p36) (by simp only[zK];rfl) rfl (by rfl) rfl ?hx36 (fun wq hSq=> ?y36) ?n36;(case hx36=>simp only[zM];try rfl);(case y36=>(have kbq:=hSq.at kb (by intro hT;first|exact hT|exact absurd hT (by assumption)|omega|(simp only at hT;omega));have kp10q:=hSq.at kp10 (by intro hT;first|exact hT|exact absurd hT (by assumption)|omega|(simp only at hT;omega));have kq5q:=hSq.at kq5 (by intro hT;first|exact hT|exact absurd hT (by assumption)|omega|(simp only at hT;omega));go_simp;(try with_reducible rfl)));try simp only[zL]);refine Zg ?_;(refine TG.load (v:= ?v38) (p:= ?p38) (by simp only[zK];rfl) rfl (by rfl) rfl ?hx38 (fun wq hSq=> ?y38) ?n38;(case hx38=>simp only[zM];try rfl);(case y38=>(have kbq:=hSq.at kb (by intro hT;first|exact hT|exact absurd hT (by assumption)|omega|(simp only at hT;omega));have kp10q:=hSq.at kp10 (by intro hT;first|exact hT|exact absurd hT (by assumption)|omega|(simp only at hT;omega));have kq5q:=hSq.at kq5 (by intro hT;first|exact hT|exact absurd hT (by assumption)|omega|(simp only at hT;omega));go_simp;(try with_reducible rfl)));try simp only[zL]);(refine TG.callM (f:= ?f39) (args:= ?r39) (OcL w8.heap.size x.o) (goodOc w8.heap.size x.o) gK (by simp only[zK];rfl) rfl (by rfl) (fun w1=> ?y39) (fun T wq kq ltq hSq ub=> ?hsp39) ?n39;(case y39=>(go_simp;(first|with_reducible rfl|(constructor<;>with_reducible rfl))));(case hsp39=>(have kbq:=hSq.at kb (by intro hT;first|exact hT|exact absurd hT (by assumption)|omega|(simp only at hT;omega));have kp10q:=hSq.at kp10 (by intro hT;first|exact hT|exact absurd hT (by assumption)|omega|(simp only at hT;omega));have kq5q:=hSq.at kq5 (by intro hT;first|exact hT|exact absurd hT (by assumption)|omega|(simp only at hT;omega));exact(own_c x.o wq ((HOKF.out wq (HM8.out.trans (hSq.mono (fun j _ h=>HWS.out j h)))).2.1) ((HOKF.out w8 HM8.out).2.2.1)).mono (fun e w' h=>by obtain⟨o2,h1,h2,h3⟩:=h;exact⟨_,h1,h3,ocL h2 hSq.size⟩)));rintro v39 ⟨wI,TI,hI⟩;replace gK:=gK.and ((goodOc w8.heap.size x.o) v39);obtain⟨o2,rfl,-⟩:=hI.k.2;(try clear hI TI wI);try simp only[zL]);(refine TG.bslice (by simp only[zK];rfl) rfl (by rfl) rfl rfl ?hx40 (bsOut o2) (fun p68 hp68 _=> ?n40);(case hx40=>(simp only[List.map_toArray,List.map_cons,List.map_nil,zM];(try rfl)));try simp only[zL]);(refine TG.appK (X:= ?X41) (Y:= ?Y41) (OutL w8.heap.size x.o or1) (goodOut w8.heap.size x.o or1) (by simp only[zK];rfl) rfl (by rfl) rfl ?hx41 ?hz41 (fun T wq kq ltq hSq ub=> ?y41) ?n41;(case hx41=>simp only[zM];try rfl);(case hz41=>simp only[zM];try rfl);(case y41=>(have kbq:=hSq.at kb (by intro hT;first|exact hT|exact absurd hT (by assumption)|omega|(simp only at hT;omega));have kp10q:=hSq.at kp10 (by intro hT;first|exact hT|exact absurd hT (by assumption)|omega|(simp only at hT;omega));have kq5q:=hSq.at kq5 (by intro hT;first|exact hT|exact absurd hT (by assumption)|omega|(simp only at hT;omega));have kp68:=ub.box (p:=p68) (by first|exact Bx.set_same _ _ _|(simp only[Bx.set_same];rfl)) (by first|decide|exact List.mem_singleton.2 rfl|simp);dsimp only[Value.cells]at kp68;have nUp68:=(ub p68 _ (by first|exact Bx.set_same _ _ _|(simp only[Bx.set_same];rfl)) (by first|decide|exact List.mem_singleton.2 rfl|simp)).1;exact app_out kq.1 kq.2 kp68 holen _));rintro v41 ⟨wI,TI,hI⟩;replace gK:=(goodOut w8.heap.size x.o or1) v41;skip;(try clear hI TI wI);try simp only[zL])
    iterate 3 refine Zg ?_
    (refine TG.load (v:= ?v45) (p:= ?p45) (by simp only[zK];rfl) rfl (by rfl) rfl ?hx45 (fun wq hSq=> ?y45) ?n45;(case hx45=>simp only[zM];try rfl);(case y45=>(have kbq:=hSq.at kb (by intro hT;first|exact hT|exact absurd hT (by assumption)|omega|(simp only at hT;omega));have kp10q:=hSq.at kp10 (by intro hT;first|exact hT|exact absurd hT (by assumption)|omega|(simp only at hT;omega));have kq5q:=hSq.at kq5 (by intro hT;first|exact hT|exact absurd hT (by assumption)|omega|(simp only at hT;omega));go_simp;(try with_reducible rfl)));try simp only[zL])
    iterate 2 refine Zg ?_
    (refine TG.load (v:= ?v48) (p:= ?p48) (by simp only[zK];rfl) rfl (by rfl) rfl ?hx48 (fun wq hSq=> ?y48) ?n48;(case hx48=>simp only[zM];try rfl);(case y48=>(have kbq:=hSq.at kb (by intro hT;first|exact hT|exact absurd hT (by assumption)|omega|(simp only at hT;omega));have kp10q:=hSq.at kp10 (by intro hT;first|exact hT|exact absurd hT (by assumption)|omega|(simp only at hT;omega));have kq5q:=hSq.at kq5 (by intro hT;first|exact hT|exact absurd hT (by assumption)|omega|(simp only at hT;omega));go_simp;(try with_reducible rfl)));try simp only[zL]);(refine TG.bslice (by simp only[zK];rfl) rfl (by rfl) rfl rfl ?hx49 (bs64 S1.fees x.o.fee) (fun p77 hp77 _=> ?n49);(case hx49=>(simp only[List.map_toArray,List.map_cons,List.map_nil,zM];(try rfl)));try simp only[zL]);obtain⟨ne_p77_p68,hp77⟩:=Bx.set_none hp77;(refine ZG (fun v=>v=u64v fz) gK ?_ (s:=fun T wq kq ltq hSq ub=>by have kbq:=hSq.at kb (by intro hT;first|exact hT|exact absurd hT (by assumption)|omega|(simp only at hT;omega));have kp10q:=hSq.at kp10 (by intro hT;first|exact hT|exact absurd hT (by assumption)|omega|(simp only at hT;omega));have kq5q:=hSq.at kq5 (by intro hT;first|exact hT|exact absurd hT (by assumption)|omega|(simp only at hT;omega));have kp77:=ub.box (p:=p77) (by first|exact Bx.set_same _ _ _|(simp only[Bx.set_ne _ (Ne.symm ne_p77_p68),Bx.set_ne _ ne_p77_p68,Bx.set_same];rfl)) (by first|decide|exact List.mem_singleton.2 rfl|simp);dsimp only[Value.cells]at kp77;have nUp77:=(ub p77 _ (by first|exact Bx.set_same _ _ _|(simp only[Bx.set_ne _ (Ne.symm ne_p77_p68),Bx.set_ne _ ne_p77_p68,Bx.set_same];rfl)) (by first|decide|exact List.mem_singleton.2 rfl|simp)).1;exact(wsum_c p77 S1.fees x.o.fee wq kp77).mono (fun e w' h=>⟨_,h.1,by rw[HFZ.out],h.2⟩));rintro v50 hC;subst hC;try simp only[zL]);refine TG.nil (fun w9 ⟨TR,hr⟩=> ?_);replace kb:=hr.mod.at kb (by intro hT;first|exact hT|exact absurd hT (by assumption)|omega|(simp only at hT;omega));replace kp10:=hr.mod.at kp10 (by intro hT;first|exact hT|exact absurd hT (by assumption)|omega|(simp only at hT;omega));replace kq5:=hr.mod.at kq5 (by intro hT;first|exact hT|exact absurd hT (by assumption)|omega|(simp only at hT;omega));obtain⟨gp68,nTp68,kp68⟩:=hr.b p68 (by first|exact Bx.set_same _ _ _|(simp only[Bx.set_ne _ (Ne.symm ne_p77_p68),Bx.set_ne _ ne_p77_p68,Bx.set_same];rfl));obtain⟨gp77,nTp77,kp77⟩:=hr.b p77 (by first|exact Bx.set_same _ _ _|(simp only[Bx.set_ne _ (Ne.symm ne_p77_p68),Bx.set_ne _ ne_p77_p68,Bx.set_same];rfl));clear gK;obtain⟨o3,hpl,hNL,hOL⟩:=hr.k;obtain⟨oa2,oc2,rfl,-⟩:=hOL.1.at outT;have m9:=hr.mod;have HOL:=Hi (Ai hpl (Ai hNL hOL));have HTR:Hid (∀j,TR j→j<w8.heap.size→W j):=Hi (fun j hj h=>hr.old j h hj);have hbTR:∀j,TR j→j≠b:=fun j hj e=>nWb (hr.old b (by have:=HM8.out.size;have:=HTM.out.2.2.1;omega) (e▸hj));have HTRL:Hid (∀j,TR j→j<w9.heap.size):=Hi hr.lt;have HBT:=Hi hbTR;obtain⟨on2,hon2⟩:∃on2,(or1++[o3]).length=on2:=⟨_,rfl⟩;have HON:=Hi hon2;rw[hon2];have hb10:p10≠b:=by have:=HTM.out.2.2.1;omega
    have hb13:p13≠b:=HTM.out.2.2.2.2.2.2.2.1;clear hr hpl hNL hOL hbTR hon2 kp68 kp77 gp68 gp77 nTp68 nTp77 nWb nWp nW10 hWT8 holen;refine Ze ?_;refine Ze ?_;refine Zz ?_;refine ZS ?_;refine ZM kb fun wn kb mS=> ?_;replace kp10:=mS.at_ne kp10 hb10;replace kq5:=mS.at_ne kq5 hb13;have mA:=mS;clear mS;refine Ze ?_;refine Ze ?_;refine Zz ?_;refine ZS ?_;refine ZN kb fun wn kb mS=> ?_;replace kp10:=mS.at_ne kp10 hb10;replace kq5:=mS.at_ne kq5 hb13;have mB:=Hi (mA.trans mS);obtain⟨w10,e10⟩:∃w10,w10=wn:=⟨_,rfl⟩;rw[←e10]at mB kb kp10 kq5⊢;clear e10 mS mA;have HM9:=Hi m9;have HM10:Hid (Mod (RcS Tn1 b t1 m1 p13 oa1 on1 oc1) wr w10):=Hi ((HM8.out.trans (m9.mono (fun j _ h=>HWS.out j h))).trans (mB.out.mono (fun j _ h=> .inr (.inl h))));have HKB:Hid (w10.heap[b]? =some (.cells (blkC s q1 n1 t1 S1.en ea1 en1 ec1 oa2 on2 oc2 fz) 130 (0,0))):=Hi kb;have HSZ:Hid (wr.heap.size≤w7.heap.size∧w7.heap.size≤w8.heap.size∧w8.heap.size≤w9.heap.size∧w9.heap.size≤w10.heap.size):=Hi ⟨HM7.out.size,HSE8.out.2,m9.size,mB.out.size⟩;clear m9 kb;have HB10:Hid (∃(Tn2 Tr2:Nat→Prop) (S2:BS),BkAt Tn2 Tr2 w10 b s S2∧RRun S (l.take (i+1)) (vs++[vd]) (ent++x.r.b.l) (k+1) S2∧∀j,Tn2 j∨Tr2 j→j≠p13∧(Tn j∨Tr j∨w1.heap.size≤j)∧j<w10.heap.size∧vE.ownBlock≠some j):=Hi (by
     have hh:=HBI.out;obtain⟨kb,⟨hq,hn,ht⟩,⟨he1,he2,he3⟩,⟨ho1,ho2,ho3⟩,⟨u1,u2,u3,u4,u5⟩,⟨y1,y2,y3,y4⟩,hd⟩:=hh;obtain⟨kt,es,cl,km,M⟩:=ht;have hsz:=HSZ.out;have hWo:∀j,W j→(Value.slice oa1 on1 oc1).ownBlock=some j:=fun j hj=>by rw[HW.out]at hj;exact hj
     have hWr:∀j,W j→Tr1 j:=fun j hj=>y2 j (hWo j hj);have hT2:∀j,(Tn1 j∨(w7.heap.size≤j∧j<w8.heap.size))→¬W j∧j≠b:=fun j hj=>by
      rcases hj with h|h
      ·exact⟨fun hw=>hd j h (hWr j hw),fun e=>hd j h (e▸u1)⟩
      ·refine⟨fun hw=> ?_,fun e=> ?_⟩
       ·have:=(HLO.out j (.inr (hWr j hw))).2.2;omega
       ·have:=HTM.out.2.2.1;omega
     have hWt:¬W t1∧¬W m1:=⟨fun h=>ownE_ne ho1 kt (by decide) _ (hWo _ h) rfl,fun h=>own_ne ho1 km _ (hWo _ h) rfl⟩;have hTc:∀j,TR j→(W j∧Tr1 j∧j<wr.heap.size)∨(w8.heap.size≤j∧j<w9.heap.size):=fun j hj=>by
      by_cases h:j<w8.heap.size
      ·have:=HTR.out j hj h;exact .inl ⟨this,hWr j this,(HLO.out j (.inr (hWr j this))).2.2⟩
      ·exact .inr ⟨by omega,HTRL.out j hj⟩
     have hoo:=HOL.out;rw[HON.out]at hoo;have hNlt:=hoo.2.1.1.lt;have hbk:=HBI.out.rec (p:=p13) (Tn':=fun i=>Tn1 i∨(w7.heap.size≤i∧i<w8.heap.size)) HM10.out ⟨fun h=>(HLO.out _ (.inr h)).1 rfl,fun h=>(HLO.out _ (.inl h)).1 rfl,?_⟩ HKB.out
      ((HSE8.out.1.mod HM9.out (fun j hj=>(hT2 j hj).1)).mod mB.out (fun j hj=>(hT2 j hj).2))
      ((HT8.out.mod HM9.out hWt.1 hWt.2).mod mB.out (fun e=>HTM.out.2.2.2.1 e.symm) (fun e=>HTM.out.2.2.2.2.1 e.symm))
      (hoo.2.2.1.mod mB.out (fun g hg=>HBT.out g (hoo.2.2.2 g hg)))
      ((hoo.2.1.1.mod mB.out (fun g hg=>HBT.out g (hoo.2.1.2 g hg))).base (Nat.zero_le _))
      (fun g hg=>by
       have h1:=(hNlt g hg).1;refine⟨by omega,fun h=> ?_⟩;rcases h with h|h
       ·have:=(HLO.out g (.inl h)).2.2;omega
       ·omega)
      (fun g hg=>by
       rcases hTc g (hoo.2.2.2 g hg)with h|h
       ·exact .inl (hWo g h.1)
       ·refine .inr ⟨by omega,fun h2=> ?_⟩;rcases h2 with h2|h2
        ·have:=(HLO.out g (.inl h2)).2.2;omega
        ·omega)
      (fun j hj=>by
       rcases hj with h|h
       ·exact .inl h
       ·exact .inr (by omega))
      (fun j hj=>(HLO.out j (.inr hj)).2.2)
     ·refine⟨_,_,_,hbk,?_,?_⟩
      ·rw[HX.out];have h:=RRun.snoc HRUN.out (x:=x) (n:=vd) ⟨HVD.out.symm,.inr ⟨HV0.out,done,HD.out.1,rfl⟩⟩;rw[if_pos HV0.out,if_pos HV0.out]at h;rw[←HFZ.out,hoo.1];exact h
      ·have hE:∀j,vE.ownBlock=some j→j<wr.heap.size:=fun j hj=>(HENT.out.1.lt j hj).2;have h13:p13<wr.heap.size:=Ls KQR.out;have hbd:=HM1.out.2;have key:∀j,(Tn1 j∨Tr1 j)∨(wr.heap.size≤j∧j<w10.heap.size)→j≠p13∧(Tn j∨Tr j∨w1.heap.size≤j)∧j<w10.heap.size∧vE.ownBlock≠some j:=fun j hj=>by
        rcases hj with h|h
        ·have h1:=HLO.out j h;refine⟨h1.1,h1.2.1,by omega,fun e=> ?_⟩;have:=HENT.out.2 j e;rcases h with h|h
         ·exact this.1 h
         ·exact this.2 h
        ·have:=HM.out.size;exact⟨by omega,.inr (.inr (by omega)),h.2,fun e=>by have:=hE j e;omega⟩
       rintro j ((h|h)|h|h|h)
       ·exact key j (.inl (.inl h))
       ·exact key j (.inr (by omega))
       ·exact key j (.inl (.inr h))
       ·have:=hNlt j h;exact key j (.inr (by omega))
       ·rcases hTc j (hoo.2.2.2 j h)with h1|h1
        ·exact key j (.inl (.inr h1.2.1))
        ·exact key j (.inr (by omega))
     ·rintro rfl;obtain⟨R,nx,kx,_⟩:=hq;rw[KQR.out]at kx;injection (Option.some.inj kx)with h1 h2
      exact absurd h2 (by decide))
    have hvp:∀g,vE.ownBlock=some g→g≠p13:=ownE_ne HENT.out.1 KQR.out (by decide);have HE10:Hid (SlOwn uc 1 5 w10 w1.heap.size vE ent):=Hi (HENT.out.1.mod HM10.out (fun g hg h=>by
     have h1:=HENT.out.2 g hg;have hh:=HBI.out;obtain⟨_,_,_,_,⟨u1,u2,u3,u4,u5⟩,⟨y1,y2,y3,y4⟩,hd⟩:=hh;rcases h with h|rfl|rfl|rfl|h|h
     ·exact h1.1 h
     ·exact h1.2 u1
     ·exact h1.2 u2
     ·exact h1.2 u3
     ·exact h1.2 (y2 _ h)
     ·exact hvp g hg h))
    have hlenE:ent.length+x.r.b.l.length≤1000000:=by
     have h1:=HRUN.out.len.2.2.2.2.1;have h2:=HB.out.2.2.1;have h3:((l.take (i+1)).map (fun x=>x.r.b.l.length)).sum≤(l.map (fun x=>x.r.b.l.length)).sum:=by
      conv=>rhs;rw[←List.take_append_drop (i+1) l]
      rw[List.map_append,List.sum_append];omega
     rw[HX.out,List.map_append,List.sum_append]at h3;simp only[List.map_cons,List.map_nil,List.sum_cons,List.sum_nil]at h3;omega
    have hslx:=(HOKF.out w10 HM10.out).2.2.2;have hMw:Mod (fun j=>Tn j∨Tr j∨j=p13) w1 w10:=HM.out.then HM10.out (fun j hj e=>by
     rcases(HRS.out j e).2 with h|h|h|h
     ·exact .inl h
     ·exact .inr (.inl h)
     ·exact .inr (.inr h)
     ·omega)
    obtain⟨aE,cE,rfl,-⟩:=HE10.out.at bytesT;have hlo:=HE10.out.lt;have hbE:=hMw.size;have HMW:=Hi hMw;have HVP:=Hi (Ai hvp hlo);have HLE:=Hi hlenE;have HSX:=Hi hslx;clear hvp hlo hMw hlenE hslx;obtain⟨eN,heN⟩:∃eN,ent.length=eN:=⟨_,rfl⟩;have HEN:=Hi heN;rw[heN];clear heN;go_upto_region 18 with fail;have Lkp10:=Ls kp10;have Lkq5:=Ls kq5;refine ZP0 [0,0,0,1,5,0] ?_
    iterate 4 first|refine Zv ?_|refine Zd ?_
    refine Zi fun w11 hr=> ?_;replace kp10:=hr.q kp10;replace kq5:=hr.q kq5;have m11:=hr.mod;clear hr;obtain⟨v12,w12,hap,hO12,m12,hn12⟩:=SlOwn.append bytesT (c:=x.r.b.c) (HE10.out.mod0 m11) (HSX.out.mod0 m11) HLE.out (by decide) (Nat.le_trans hbE m11.size) 42;rw[HEN.out]at hap m12 hn12;have kq12:w12.heap[p13]? =some (.cells E2 59 (0,0)):=m12.at kq5 (fun h=>HVP.out.1 _ (by rw[HEN.out];exact h) rfl);have HO12:=Hi hO12;have HN12:Hid (v12.ownBlock=(Value.slice aE ent.length cE).ownBlock∨v12.ownBlock=some w11.heap.size):=Hi (by rw[HEN.out];exact hn12);have HM12:Hid (Mod (fun j=>(Value.slice aE ent.length cE).ownBlock=some j) w10 w12):=Hi (by
     rw[HEN.out];exact(m11.mono (fun _ _ h=>h.elim)).trans m12)
    have HM11:=Hi m11.size;clear hO12 hn12 m12 m11 kp10 kq5;have hw1:IntKind.u64.wrap ((k:Int)+1)=((k+1:Nat):Int):=by
     rw[IntKind.wrap_u64];omega
    refine ZA hap ?_;refine Ze ?_;refine TE.nil ?_;clear hap;go_wp2_with fail;go_roundw
    case rel=>
     refine⟨i+1,vs++[vd],k+1,_,rfl,by omega,by omega,by simp[hvs],by go_num,by go_num,Hi ?_,by rw[←HEE.out.2];exact kq12,Hi (HMW.out.then HM12.out (fun j hj h=>by have:=(HVP.out.2 j h).1;omega))⟩;obtain⟨Tn2,Tr2,S2,hbk,hrun,hlo2⟩:=HB10.out;have hsz:=HM12.out.size;have h11:=HM11.out;refine⟨S2,ent++x.r.b.l,Tn2,Tr2,hrun,hbk.mod HM12.out (fun j hj h=>(hlo2 j (.inl hj)).2.2.2 h) (fun j hj h=>(hlo2 j (.inr hj)).2.2.2 h) ?_,⟨HO12.out,?_⟩,fun j hj=> ?_⟩
     ·intro q c0 c1 c2 kx h;exact ownE_ne HE10.out kx (by decide) _ h rfl
     ·intro g hg;rcases HN12.out with h|h
      ·rw[h]at hg;exact⟨fun e=>(hlo2 g (.inl e)).2.2.2 hg,fun e=>(hlo2 g (.inr e)).2.2.2 hg⟩
      ·rw[h]at hg;have hg':w11.heap.size=g:=Option.some.inj hg;exact⟨fun e=>by have:=(hlo2 g (.inl e)).2.2.1;omega,fun e=>by have:=(hlo2 g (.inr e)).2.2.1;omega⟩
     ·have h1:=hlo2 j hj;exact⟨h1.1,h1.2.1,by omega⟩
    case measure=>simp[intOf];omega
   ·have m4:Mod (fun _=>False) w3 w4:=by
     rcases hV with h|h
     ·exact h.2
     ·exact absurd h.1 hv0
    clear hV;have hm4:=hm3.then0 m4;have kq:=m4.at0 kq;clear kp10 kl he m4;go_upto_region 15 with fail;rw[setCell_blk kq,HS.out];obtain⟨w5,kq5,m5,e5⟩:∃w5,w5.heap[p13]? =some (.cells E2 59 (0,0))∧Mod (fun i=>i=p13) w4 w5∧w5=setBlock w4 p13 (.cells E2 59 (0,0)):=⟨_,heap_setBlock _ _ (Ls kq),mod_set _ _ _,rfl⟩;rw[←e5];have hm5:=(hm4.mono (T:=fun i=>i=p13) (fun _ _ h=>h.elim)).trans m5;clear e5 m5 kq hs hs2;have Lkq5:=Ls kq5;refine ZP0 [0,0,0,1,0] ?_
    iterate 5 first|refine Zv ?_|refine Zd ?_
    refine TD.nil (fun w6 hr=> ?_);replace kq5:=hr.q kq5;have hm6:=Hi (hm5.then0 hr.mod);clear hr hget hm5;have hne:((vd:Int) !=0)=true:=by rw[bne_iff_ne];omega
    go_wp2_with fail;go_roundw
    case rel=>
     refine⟨i+1,vs++[vd],k,_,rfl,by omega,by omega,by simp[hvs],rfl,by go_num,Hi ?_,by rw[←HEE.out.2];exact kq5,Hi (HM.out.trans (hm6.out.mono (fun j _ h=> .inr (.inr h))))⟩;refine⟨S1,ent,Tn1,Tr1,?_,HBI.out.at.mod hm6.out (fun j hj e=>(HLO.out j (.inl hj)).1 e) (fun j hj e=>(HLO.out j (.inr hj)).1 e) ?_,?_,?_⟩
     ·rw[HX.out];have h:=RRun.snoc HRUN.out (x:=x) (n:=vd) (S2:=S1) ⟨HVD.out.symm,.inl ⟨hv0,rfl⟩⟩;rw[if_neg hv0,if_neg hv0]at h;exact h
     ·rintro q c0 c1 c2 kx rfl;rw[KQR.out]at kx;injection (Option.some.inj kx)with h1 h2
      exact absurd h2 (by decide)
     ·exact⟨HENT.out.1.mod hm6.out (ownE_ne HENT.out.1 KQR.out (by decide)),HENT.out.2⟩
     ·intro j hj;have h1:=HLO.out j hj;have h2:=hm6.out.size;exact⟨h1.1,h1.2.1,by omega⟩
    case measure=>simp[intOf];omega
  ·obtain rfl:i=ll:=by omega
   rw[Nat.sub_self,List.replicate_zero,List.append_nil]at kq;obtain⟨S1,ent,Tn1,Tr1,hrun,hbk,hent,hlo1⟩:=HR.out;rw[List.take_of_length_le (by rw[HLL.out];omega)]at hrun;have HMW:Hid (Mod (fun j=>Tn j∨Tr j) w wr):=Hi ((HM1.out.1.mono (T:=fun j=>Tn j∨Tr j) (fun _ _ h=>h.elim)).then HM.out (fun j hj e=>by
    rcases e with h|h|h
    ·exact .inl h
    ·exact .inr h
    ·omega))
   have HLO:=Hi hlo1;have HRUN:=Hi hrun;have HENT:=Hi hent;have KQR:=Hi kq;clear HR;by_cases hk0:k=0
   ·subst hk0;have HBK:=Hi hbk;clear hbk hent hlo1 hrun;go_wp2_with fail;go_ret;refine⟨p13,vs,S1,ent,0,Tn1,Tr1,by rw[HLL.out];rfl,gp13,KQR.out,HRUN.out,by rw[if_pos rfl];exact HBK.out,fun j hj=> ?_,HMW.out⟩;have h1:=HLO.out j hj;have h2:=HM1.out.2;refine⟨h1.1,?_,h1.2.2⟩;rcases h1.2.1 with h|h|h
    ·exact .inl h
    ·exact .inr (.inl h)
    ·exact .inr (.inr (by omega))
   ·obtain⟨n64,rfl⟩:∃n64:UInt64,n64.toNat=k:=⟨UInt64.ofNat k,by rw[UInt64.toNat_ofNat'];omega⟩;obtain⟨q1,n1,t1,m1,ea1,en1,ec1,oa1,on1,oc1,er1,or1,hbi⟩:=hbk.in;have HBI:=Hi hbi;have kb:=hbi.1;unfold blkC at kb;have hd1:decide ((n64.toNat:Int)>0)=true:=Dt (by omega);have hd2:decide (0<n64.toNat)=true:=Dt (by omega);obtain⟨W,hW⟩:∃W:Nat→Prop,W=fun j=>(Value.slice ea1 en1 ec1).ownBlock=some j:=⟨_,rfl⟩;have HW:=Hi hW;have hWT:∀j,W j→Tr1 j:=by rw[hW];exact fun j hj=>hbi.2.2.2.2.2.1.1 j hj
    have nWb:¬W b:=by rw[hW];exact fun h=>ownE_ne hbi.2.2.1.1 hbi.1 (by decide) _ h rfl
    have nWp:¬W p13:=fun h=>(HLO.out _ (.inr (hWT _ h))).1 rfl;have hWL:∀j,W j→j<wr.heap.size:=fun j hj=>(HLO.out j (.inr (hWT _ hj))).2.2;have HKK:Hid (OwnL slv 1 42 0 er1 (.slice ea1 en1 ec1) W wr):=Hi ⟨hbi.2.2.1.1,fun g hg=>by rw[hW];exact hg⟩;have helen:er1.length+1≤1000000:=by
     have h1:=congrArg List.length hbi.2.2.1.2.1;rw[List.length_map]at h1;have h2:=congrArg List.length HRUN.out.len.2.2.2.2.2.1;have h3:=HB.out.2.2.2;omega
    have hentl:ent.length≤900000:=Nat.le_trans HRUN.out.len.2.2.2.2.1 HB.out.2.2.1;have HW2:=Hi (Ai hWT hWL);obtain⟨aE,cE,rfl,-⟩:=hent.1.at bytesT;have HEW:Hid (∀wq,Mod W wr wq→SlAt uc 1 wq aE ent):=Hi (fun wq h=>(own_slAt (HENT.out.1.mod h (fun g hg hw=>(HENT.out.2 g hg).2 (hWT g hw)))).1);obtain⟨eN,heN⟩:∃eN,ent.length=eN:=⟨_,rfl⟩;have HEN:=Hi heN;rw[heN]at hentl⊢;clear heN hW hbk hent hlo1 hrun hbi hWT;have kpE:=kq;clear kq;go_upto_region 22 with fail;have Lkb:=Ls kb;have LkpE:=Ls kpE;refine wp_epass (T0:=W) (K:=OwnL slv 1 42 0 er1 (.slice ea1 en1 ec1)) (κ:=fun i=>[0,0,0,0,0,0,6,0,3,6,3,6,0,0,6].getD i 0) (υ:=fun i=>[[],[],[],[],[],[],[],[],[],[101],[],[103],[],[],[]].getD i []) [0,1,2,3,4,5,6,7,8,9,10,11] [12,13,14] (by kernel_rfl) (by kernel_rfl) (goodOL slv 1 42 0 er1 (.slice ea1 en1 ec1)).cl (HKK.out) (hWL) ?_;have gK:=goodOL slv 1 42 0 er1 (.slice ea1 en1 ec1)
    iterate 4 refine Zg ?_
    (refine TG.load (v:= ?v73) (p:= ?p73) (by simp only[zK];rfl) rfl (by rfl) rfl ?hx73 (fun wq hSq=> ?y73) ?n73;(case hx73=>simp only[zM];try rfl);(case y73=>(have kbq:=hSq.at kb (by intro hT;first|exact hT|exact absurd hT (by assumption)|omega|(simp only at hT;omega));have kpEq:=hSq.at kpE (by intro hT;first|exact hT|exact absurd hT (by assumption)|omega|(simp only at hT;omega));go_simp;(try with_reducible rfl)));try simp only[zL]);refine Zg ?_;(refine TG.callM (f:= ?f75) (args:= ?r75) (NewL uc 1 5 wr.heap.size (leB n64)) (goodN uc 1 5 wr.heap.size (leB n64)) gK (by simp only[zK];rfl) rfl (by rfl) (fun w1=> ?y75) (fun T wq kq ltq hSq ub=> ?hsp75) ?n75;(case y75=>(go_simp;(first|with_reducible rfl|(constructor<;>with_reducible rfl))));(case hsp75=>(have kbq:=hSq.at kb (by intro hT;first|exact hT|exact absurd hT (by assumption)|omega|(simp only at hT;omega));have kpEq:=hSq.at kpE (by intro hT;first|exact hT|exact absurd hT (by assumption)|omega|(simp only at hT;omega));exact(put8_c n64 wq).mono (fun e w' h=>by obtain⟨v,h1,h2,h3⟩:=h;exact⟨v,h1,h3,newL h2 hSq.size⟩)));rintro v75 ⟨wI,TI,hI⟩;replace gK:=gK.and ((goodN uc 1 5 wr.heap.size (leB n64)) v75);obtain⟨a99,e99⟩:=hI.k.2.1.form;rw[leB_len]at e99;subst e99;(try clear hI TI wI);try simp only[zL]);refine Zg ?_;(refine TG.bslice (by simp only[zK];rfl) rfl (by rfl) rfl rfl ?hx77 (bsBs2 a99 aE 8 8 eN cE) (fun p101 hp101 _=> ?n77);(case hx77=>(simp only[List.map_toArray,List.map_cons,List.map_nil,zM];(try rfl)));try simp only[zL]);(refine TG.callM (f:= ?f78) (args:= ?r78) (OwnL uc 1 5 wr.heap.size (leB n64++ent)) (goodOL uc 1 5 wr.heap.size (leB n64++ent)) gK (by simp only[zK];rfl) rfl (by rfl) (fun w1=> ?y78) (fun T wq kq ltq hSq ub=> ?hsp78) ?n78;(case y78=>(go_simp;(first|with_reducible rfl|(constructor<;>with_reducible rfl))));(case hsp78=>(have kbq:=hSq.at kb (by intro hT;first|exact hT|exact absurd hT (by assumption)|omega|(simp only at hT;omega));have kpEq:=hSq.at kpE (by intro hT;first|exact hT|exact absurd hT (by assumption)|omega|(simp only at hT;omega));have kp101:=ub.box (p:=p101) (by first|exact Bx.set_same _ _ _|(simp only[Bx.set_same];rfl)) (by first|decide|exact List.mem_singleton.2 rfl|simp);dsimp only[Value.cells]at kp101;have nUp101:=(ub p101 _ (by first|exact Bx.set_same _ _ _|(simp only[Bx.set_same];rfl)) (by first|decide|exact List.mem_singleton.2 rfl|simp)).1;exact(concat2_c p101 ⟨a99,leB n64,8⟩ ⟨aE,ent,cE⟩ wq (show wq.heap[p101]? =some (Obj.cells #[.slice a99 (leB n64).length 8,.slice aE ent.length cE] 42 (0,0))by rw[leB_len,HEN.out];exact kp101) kq.2.1.slAt (HEW.out wq hSq) (by show 0<(leB n64).length;rw[leB_len];omega) (by show(leB n64).length+ent.length≤1000000;rw[leB_len,HEN.out];omega)).mono (fun e w' h=>by obtain⟨v,h1,h2,h3⟩:=h;exact⟨v,h1,h3,ownL h2 hSq.size⟩)));rintro v78 ⟨wI,TI,hI⟩;replace gK:=gK.and ((goodOL uc 1 5 wr.heap.size (leB n64++ent)) v78);obtain⟨a102,c102,rfl,-⟩:=hI.k.2.1.at bytesT;(try clear hI TI wI);try simp only[zL]);(refine TG.bslice (by simp only[zK];rfl) rfl (by rfl) rfl rfl ?hx79 (bsBs1 a102 (leB n64++ent).length c102) (fun p103 hp103 _=> ?n79);(case hx79=>(simp only[List.map_toArray,List.map_cons,List.map_nil,zM];(try rfl)));try simp only[zL]);obtain⟨ne_p103_p101,hp103⟩:=Bx.set_none hp103;(refine TG.appK (X:= ?X80) (Y:= ?Y80) (EntL wr.heap.size er1 (leB n64++ent)) (goodEnt wr.heap.size er1 (leB n64++ent)) (by simp only[zK];rfl) rfl (by rfl) rfl ?hx80 ?hz80 (fun T wq kq ltq hSq ub=> ?y80) ?n80;(case hx80=>simp only[zM];try rfl);(case hz80=>simp only[zM];try rfl);(case y80=>(have kbq:=hSq.at kb (by intro hT;first|exact hT|exact absurd hT (by assumption)|omega|(simp only at hT;omega));have kpEq:=hSq.at kpE (by intro hT;first|exact hT|exact absurd hT (by assumption)|omega|(simp only at hT;omega));have kp103:=ub.box (p:=p103) (by first|exact Bx.set_same _ _ _|(simp only[Bx.set_ne _ (Ne.symm ne_p103_p101),Bx.set_ne _ ne_p103_p101,Bx.set_same];rfl)) (by first|decide|exact List.mem_singleton.2 rfl|simp);dsimp only[Value.cells]at kp103;have nUp103:=(ub p103 _ (by first|exact Bx.set_same _ _ _|(simp only[Bx.set_ne _ (Ne.symm ne_p103_p101),Bx.set_ne _ ne_p103_p101,Bx.set_same];rfl)) (by first|decide|exact List.mem_singleton.2 rfl|simp)).1;exact app_ent kq.1.1 kq.2 kp103 helen _));rintro v80 ⟨wI,TI,hI⟩;replace gK:=(goodEnt wr.heap.size er1 (leB n64++ent)) v80;skip;(try clear hI TI wI);try simp only[zL]);refine TG.nil (fun w2 ⟨TR,hr⟩=> ?_);replace kb:=hr.mod.at kb (by intro hT;first|exact hT|exact absurd hT (by assumption)|omega|(simp only at hT;omega));replace kpE:=hr.mod.at kpE (by intro hT;first|exact hT|exact absurd hT (by assumption)|omega|(simp only at hT;omega));obtain⟨gp101,nTp101,kp101⟩:=hr.b p101 (by first|exact Bx.set_same _ _ _|(simp only[Bx.set_ne _ (Ne.symm ne_p103_p101),Bx.set_ne _ ne_p103_p101,Bx.set_same];rfl));obtain⟨gp103,nTp103,kp103⟩:=hr.b p103 (by first|exact Bx.set_same _ _ _|(simp only[Bx.set_ne _ (Ne.symm ne_p103_p101),Bx.set_ne _ ne_p103_p101,Bx.set_same];rfl));clear gK;obtain⟨x2,hx2,hNx,hOx⟩:=hr.k;obtain⟨ea2,ec2,rfl,-⟩:=hOx.1.at slsT;have m2:=hr.mod;have HTR:Hid (∀j,TR j→(j<wr.heap.size→W j)∧j<w2.heap.size):=Hi (fun j hj=>⟨fun h=>hr.old j h hj,hr.lt j hj⟩);have HOX:=Hi (Ai hx2 (Ai hNx hOx));have hbTR:∀j,TR j→j≠b:=fun j hj e=>nWb (hr.old b (Ls HBI.out.1) (e▸hj));have HBT:=Hi hbTR;obtain⟨en2,hen2⟩:∃en2,(er1++[x2]).length=en2:=⟨_,rfl⟩;have HE2:=Hi hen2;rw[hen2];have hbp:p13≠b:=fun e=>(HLO.out b (.inr HBI.out.2.2.2.2.1.1)).1 e.symm;clear hr hx2 hNx hOx hbTR hen2 kp101 kp103 gp101 gp103 nTp101 nTp103 nWb nWp hWL helen hentl;refine Ze ?_;refine Ze ?_;refine Zz ?_;refine ZS ?_;refine ZN kb fun wn kb mS=> ?_;replace kpE:=mS.at_ne kpE hbp;obtain⟨w3,e3⟩:∃w3,w3=wn:=⟨_,rfl⟩;rw[←e3]at mS kb kpE⊢;clear e3;have HKB:Hid (w3.heap[b]? =some (.cells (blkC s q1 n1 t1 S1.en ea2 en2 ec2 oa1 on1 oc1 S1.fees) 130 (0,0))):=Hi kb;have HMS:=Hi (Ai m2 mS);clear kb m2 mS;go_wp2_with fail;go_ret;have hoo:=HOX.out;rw[HE2.out]at hoo;have hs2:=HMS.out.1.size;have hs3:=HMS.out.2.size;have hs1:=HM1.out.2;have hWo:∀j,W j→(Value.slice ea1 en1 ec1).ownBlock=some j:=fun j hj=>by rw[HW.out]at hj;exact hj
    have hm:Mod (fun i=>i=b∨(Value.slice ea1 en1 ec1).ownBlock=some i) wr w3:=(HMS.out.1.mono (fun j _ h=> .inr (hWo j h))).trans (HMS.out.2.mono (fun j _ h=> .inl h));have hTc:∀j,TR j→(W j∧j<wr.heap.size)∨(wr.heap.size≤j∧j<w2.heap.size):=fun j hj=>by
     by_cases h:j<wr.heap.size
     ·exact .inl ⟨(HTR.out j hj).1 h,h⟩
     ·exact .inr ⟨by omega,(HTR.out j hj).2⟩
    have hbk:=HBI.out.ent hm HKB.out (hoo.2.2.1.mod HMS.out.2 (fun g hg=>HBT.out g (hoo.2.2.2 g hg))) ((hoo.2.1.1.mod HMS.out.2 (fun g hg=>HBT.out g (hoo.2.1.2 g hg))).baseLe (Nat.zero_le _)) (fun g hg=>(hoo.2.1.1.lt g hg).1)
     (fun g hg=>by
      rcases hTc g (hoo.2.2.2 g hg)with h|h
      ·exact .inl (hWo g h.1)
      ·exact .inr h.1) (fun j hj=>(HLO.out j hj).2.2)
    have key:∀j,(Tn1 j∨Tr1 j)∨(wr.heap.size≤j∧j<w3.heap.size)→j≠p13∧(Tn j∨Tr j∨w.heap.size≤j)∧j<w3.heap.size:=fun j hj=>by
     rcases hj with h|h
     ·have h1:=HLO.out j h;refine⟨h1.1,?_,by omega⟩;rcases h1.2.1 with h|h|h
      ·exact .inl h
      ·exact .inr (.inl h)
      ·exact .inr (.inr (by omega))
     ·have h2:=Ls KQR.out;have h3:=HMW.out.size;exact⟨by omega,.inr (.inr (by omega)),h.2⟩
    refine⟨p13,vs,S1,ent,n64.toNat,Tn1,_,by rw[HLL.out];rfl,gp13,kpE,HRUN.out,by rw[if_neg hk0,show(n64.toNat).toUInt64=n64 from UInt64.ofNat_toNat,←hoo.1];exact hbk,?_,HMW.out.then hm (fun j hj e=> ?_)⟩
    ·rintro j (h|h|h|h)
     ·exact key j (.inl (.inl h))
     ·exact key j (.inl (.inr h))
     ·have:=(hoo.2.1.1.lt j h);exact key j (.inr (by omega))
     ·rcases hTc j (hoo.2.2.2 j h)with h1|h1
      ·exact key j (.inl (.inr (HW2.out.1 j h1.1)))
      ·exact key j (.inr (by omega))
    ·have h1:Tr1 j:=by
      rcases e with rfl|e
      ·exact HBI.out.2.2.2.2.1.1
      ·exact HBI.out.2.2.2.2.2.1.1 j e
     rcases(HLO.out j (.inr h1)).2.1 with h|h|h
     ·exact .inl h
     ·exact .inr h
     ·omega
def GrR (p:Prop) (w:World) (e:Ending) (w':World):Prop:=∃b,e= .returned (.bool b)∧(b=false→p)∧Mod (fun _=>False) w w'
theorem GrR.of {p:Prop} {w:World} {e:Ending} {w':World} (b:Bool) (he:e= .returned (.bool b)) (hp:b=false→p) (hm:Mod (fun _=>False) w w'):GrR p w e w':=⟨b,he,hp,hm⟩
section
attribute [local go_sem↓] eqHash eqSig eqAcct wlGnd ldGnd
attribute [local go_sem] zHash_ext zHash_one0 neMapS grc_size grc_all grc_lim grc0 grc1 grc2 grc3 grc4 grc5 grc0' grc1' grc2' grc3' grc4' grc5'
theorem sum_leC {α:Type} (f:α→Nat) (C:Nat):∀l:List α,(∀x∈l,f x≤C)→(l.map f).sum≤l.length*C
 |[],_=>by simp
 |x::r,h=>by
  have h1:=h x (by simp);have h2:=sum_leC f C r (fun y hy=>h y (by simp[hy]));simp only[List.map_cons,List.sum_cons,List.length_cons,Nat.add_mul];omega
end
def zb8:Array Value:= #[.int .u8 0,.int .u8 0,.int .u8 0,.int .u8 0,.int .u8 0,.int .u8 0,.int .u8 0,.int .u8 0]
theorem get0_c (g:Nat) (w:World) (kg:w.heap[g]? =some (.cells zb8 5 (0,0))):Calls Tryz.prog 53 #[.slice (some ⟨g,0,none⟩) 8 8,.int .i64 8] w fun e w'=>e= .returned (.tuple #[.int .u64 0,.int .i64 0])∧Mod (fun _=>False) w w':=by
 unfold zb8 at kg;go_enter Tryz.func53,Tryz.ntmps53;go_wp2_with fail;go_loopw [4,20] (fun s4 s20 ws=>∃i:Nat,i≤8∧s4= .int .u64 0∧s20= .int .i64 (i:Int)∧Mod (fun _=>False) w ws) (fun _ s20 _=>8-(intOf s20).toNat)
 case atStart=>exact⟨0,by omega,rfl,rfl,Mod.refl _ _⟩
 case round=>
  obtain⟨i,hi,rfl,rfl,hm⟩:=hrel;have kg:=hm.at0 kg;by_cases hlt:i<8
  ·have hc:i=0∨i=1∨i=2∨i=3∨i=4∨i=5∨i=6∨i=7:=by omega
   rcases hc with rfl|rfl|rfl|rfl|rfl|rfl|rfl|rfl
   all_goals
    go_wp2_with fail;go_roundw
    case rel=>first|exact⟨1,by omega,rfl,by go_num,hm⟩|exact⟨2,by omega,rfl,by go_num,hm⟩|exact⟨3,by omega,rfl,by go_num,hm⟩|exact⟨4,by omega,rfl,by go_num,hm⟩|exact⟨5,by omega,rfl,by go_num,hm⟩|exact⟨6,by omega,rfl,by go_num,hm⟩|exact⟨7,by omega,rfl,by go_num,hm⟩|exact⟨8,by omega,rfl,by go_num,hm⟩
    case measure=>simp[intOf]
  ·obtain rfl:i=8:=by omega
   go_wp2_with fail
   go_ret2
   exact⟨rfl,hm⟩
theorem decode0_c (g:Nat) (w:World) (kg:w.heap[g]? =some (.cells zb8 5 (0,0))):Calls Tryz.prog 12 #[.slice (some ⟨g,0,none⟩) 8 8] w fun e w'=>e= .returned (.tuple #[.slice none 0 0,.int .i64 4])∧Mod (fun _=>False) w w':=by
 go_enter Tryz.func12,Tryz.ntmps12;go_wp2_with fail;go_at_call 53;refine(get0_c g _ kg).mono ?_;rintro e w1 ⟨rfl,m1⟩;go_wp2_with fail
 go_ret2
 exact⟨rfl,m1⟩
theorem mkBytes (n:Nat) (hn:n≤1000000) (w:World):(Instr.makeSlice 42 (.int .i64 (n:Int)) (.int .i64 (n:Int))).run Tryz.prog w= .ok (.slice (some ⟨w.heap.size,0,none⟩) n n) (w.alloc (.cells (List.replicate n (Value.int .u8 0)).toArray 5)):=by
 obtain⟨i0,hi,hz0,hz1,hz2⟩:=info_parts (show(Tryz.prog.info? 5).map (fun i=>(i.zero,i.size,i.bytes))=some (some (.int .u8 0),1,1)by kernel_rfl);have:=run_make (P:=Tryz.prog) w 42 5 i0 _ Tryz.underlying42 hi hz0 .i64 .i64 (n:Int) (n:Int) (by omega) (by omega) (by rw[hz2];omega) (by omega);rw[hz1,Nat.mul_one]at this;have hc:madeCells #[Value.int .u8 0] n=(List.replicate n (Value.int .u8 0)).toArray:=by
  apply Array.toList_inj.1;rw[toList_madeCells_one]
 simpa[Value.cells,hc] using this
theorem mkB8 (w:World):(Instr.makeSlice 42 (.int .i64 8) (.int .i64 8)).run Tryz.prog w= .ok (.slice (some ⟨w.heap.size,0,none⟩) 8 8) (w.alloc (.cells zb8 5)):=mkBytes 8 (by omega) w
theorem bldTd0 (w:World):(Instr.build 65 #[]).run Tryz.prog w= .ok (.agg (tdr td0)) w:=by
 refine run_build_struct (z:= .agg zTried) (places:= #[(0,48),(48,6)]) Tryz.underlying65 (fun w=>by kernel_rfl) (fun w=>by kernel_rfl) ?_ w;rfl
theorem bsTd (x:TdR) (w:World):(Instr.buildSlice 41 1 #[(0,.agg (tdr x))]).run Tryz.prog w= .ok (.slice (some ⟨w.heap.size,0,none⟩) 1 1) (w.alloc (.cells (tdr x) 65)):=by
 obtain⟨i0,hi,hz0,hz1,hz2⟩:=info_parts (show(Tryz.prog.info? 65).map (fun i=>(i.zero,i.size,i.bytes))=some (some (.agg zTried),54,296)by kernel_rfl);refine run_buildSlice w _ _ 1 _ _ i0 _ Tryz.underlying41 hi hz0 (by rw[hz1];omega) (by rw[hz1];omega) ?_;rw[hz1];show Instr.fill _ _ [(0,_)]=_;rw[fill_cons (off:=0) (n:=54) rfl (by simp[Value.cells,tdr_size]) (by simp[Value.cells,zTried_size,size_madeCells])];show some (wr _ 0 (tdr x).toList)=_;rw[wr_whole (tdr x) _ (by simp[Value.cells,zTried_size,tdr_size,size_madeCells])]
theorem bsEr (v:Nat) (w:World):(Instr.buildSlice 66 1 #[(0,.int .i64 (v:Int))]).run Tryz.prog w= .ok (.slice (some ⟨w.heap.size,0,none⟩) 1 1) (w.alloc (.cells (errC [v]) 59)):=by kernel_rfl
theorem td0_at {w:World} {g:Nat} {U:TypeId} {fr:Nat×Nat} (h:w.heap[g]? =some (.cells (tdr td0) U fr)):SlAt tdr 54 w (some ⟨g,0,none⟩) [td0]:=SlAt.one h td0 rfl (tdr_size td0)
theorem errors1_c {a:Option Addr} {g v u:Nat} {w:World} (ha:SlAt ern 1 w a [v]) (hg:w.heap[g]? =some (.cells #[.int .i64 (u:Int)] 59 (0,0))):Calls Tryz.prog 22 #[.slice a 1 1,.slice (some ⟨g,0,none⟩) 1 1] w fun e w'=>e= .returned (.bool (decide (v=u)))∧Mod (fun _=>False) w w':=by
 refine(errors_c a (some ⟨g,0,none⟩) [v] [u] 1 1 w ha (errC_at (l:=[u]) hg) (by simp) (by simp)).mono ?_;rintro e w' ⟨rfl,hm⟩;exact⟨by simp,hm⟩
theorem openL_c (s q n:Nat) (w:World):Calls Tryz.prog 16 #[ptrV s,ptrV q,ptrV n,.agg #[.int .u64 1000,.int .u64 1000,.int .u64 1000]] w fun e w'=>∃b t m,e= .returned (.tuple #[ptrV b,.int .i64 0])∧w.heap.size≤b∧w.heap.size≤t∧w.heap.size≤m∧w'.heap[b]? =some (.cells (blkC s q n t false none 0 0 none 0 0 0) 130 (0,0))∧TrAt w' t m ⟨1000,1000,1000⟩ 0 0 []∧Mod (fun _=>False) w w':=open_c s q n ⟨1000,1000,1000⟩ w
theorem lives_c (w:World):Calls Tryz.prog 5 #[] w fun e w'=>e= .returned (.bool true)∧Mod (fun _=>False) w w':=by
 go_enter Tryz.func5,Tryz.ntmps5;go_wp2_with fail;go_at_call 17;refine(newS_c _).mono ?_;rintro e w1 ⟨s,sb,rfl,-,-,-,m1⟩;go_wp2_with fail;go_at_call 18;refine(newQ_c _).mono ?_;rintro e w2 ⟨q,rfl,-,-,m2⟩;have m2:=m1.trans m2;clear m1;go_wp2_with fail;go_at_call 19;refine(newN_c _).mono ?_;rintro e w3 ⟨n,rfl,-,-,-,m3⟩;have m3:=m2.trans m3;clear m2;go_wp2_with fail;go_at_call 16;refine(openL_c s q n _).mono ?_;rintro e w4 ⟨b,t,m,rfl,hb,-,-,kb,-,m4⟩;have hb0:=Nat.le_trans m3.size hb;have m4:=m3.trans m4;clear m3 hb;go_wp2_with fail;go_at_call 20;refine(ended_c _ kb).mono ?_;rintro e w5 ⟨rfl,m5⟩;have kb:=m5.at0 kb;have m5:=m4.trans m5;clear m4;go_wp2_with fail;go_at_call 21;refine(end_c _ kb).mono ?_;rintro e w6 ⟨rfl,kb,m6⟩;have m6:=m5.thenB m6 (.inl hb0);clear m5;go_wp2_with fail;go_at_call 21;refine(end2_c _ kb).mono ?_;rintro e w7 ⟨rfl,m7⟩;have kb:=m7.at0 kb;have m7:=m6.trans m7;clear m6;go_wp2_with fail;go_at_call 20;refine(ended_c _ kb).mono ?_;rintro e w8 ⟨rfl,m8⟩;have kb:=m8.at0 kb;have m8:=m7.trans m8;clear m7;have hmk:=mkB8;go_wp2_with fail;go_at_call 12;refine(decode0_c w8.heap.size _ (heap_alloc_new _ _)).mono ?_;rintro e w9 ⟨rfl,m9⟩;have m9:=(((Mod.refl (fun _=>False) w8).alloc (.cells zb8 5)).trans m9);have kb:=m9.at0 kb;have m9:=m8.trans m9;clear m8 hmk;have hbt:=bldTd0;have hbs:=bsTd td0;go_upto_region 5 with fail;go_wp2_with fail;go_at_call 9;refine(recordE_c _ [td0] 1 _ (heap_alloc_old _ _ (Ls kb)▸kb) (td0_at (heap_alloc_new _ _)) (by simp)).mono ?_;rintro e w10 ⟨g,rfl,hg,hE,m10⟩;have m10:=((Mod.refl (fun _=>False) w9).alloc (.cells (tdr td0) 65)).trans m10;have kb:=m10.at0 kb;have m10:=m9.trans m10;clear m9 hbt hbs;have hbe:=bsEr 23;go_wp2_with fail;go_at_call 22;refine(errors1_c (v:=23) (u:=23) (hE.mod0 ((Mod.refl _ _).alloc _)) (heap_alloc_new _ _)).mono ?_;rintro e w11 ⟨rfl,m11⟩;have m11:=((Mod.refl (fun _=>False) w10).alloc (.cells #[Value.int IntKind.i64 23] 59)).trans m11;have kb:=m11.at0 kb;have m11:=m10.trans m11;clear m10 hbe hE;go_wp2_with fail;go_at_call 10;refine(entries0_c _ kb).mono ?_;rintro e w12 ⟨⟨a,c,rfl⟩,m12⟩;have m12:=m11.trans m12;go_wp2_with fail;go_ret;exact⟨rfl,m12⟩
section
attribute [local go_sem↓] eqHash eqSig eqAcct wlGnd ldGnd
attribute [local go_sem] zHash_ext zHash_one0 neMapS eqMapU grc_size grc_all grc_lim grc0 grc1 grc2 grc3 grc4 grc5 grc0' grc1' grc2' grc3' grc4' grc5'
theorem slOk_mod0 {α:Type} {f:α→Array Value} {n B:Nat} {w w':World} {s:Sl α} (h:SlOk f n B (fun _ _=>True) w s) (hm:Mod (fun _=>False) w w'):SlOk f n B (fun _ _=>True) w' s:=⟨h.1.mod0 hm,fun _ _=>trivial,h.2.2.1,fun y hy=>(h.2.2.2.1 y hy).imp (fun q=>Nat.lt_of_lt_of_le q hm.size) id,h.2.2.2.2⟩
theorem grOk_mod0 {w w':World} {g:GrR'} (h:GrOk w g) (hm:Mod (fun _=>False) w w'):GrOk w' g:=⟨slOk_mod0 h.1 hm,slOk_mod0 h.2.1 hm,slOk_mod0 h.2.2 hm⟩
end
theorem outs_c {Tn Tr:Nat→Prop} {b s:Nat} {S:BS} (w:World) (hk:BkAt Tn Tr w b s S) (hn:S.os.length≤900000) (hch:∀o∈S.os,o.ch.length≤1000000):Calls Tryz.prog 11 #[ptrV b] w fun e w'=>(∃a c,e= .returned (.slice a S.os.length c))∧Mod (fun _=>False) w w':=by
 obtain⟨q,n,t,m,ea,en,ec,oa,on,oc,er,orr,kb,-,-,⟨ho1,ho2,ho3⟩,-⟩:=hk;obtain⟨ll,hll⟩:∃ll,orr.length=ll:=⟨_,rfl⟩;have hL:S.os.length=ll:=by rw[←ho2,List.length_map,hll]
 obtain⟨a',c',e',hat,-⟩:=ho1.at outT;injection e' with e1 e2 e3
 subst e1 e3;rw[hll]at e2;subst e2;rw[hL]at hn⊢;have HLL:=Hi hll;have HA:Hid (SlAt ocr 6 w oa orr∧∀x∈orr,SlAt hd 66 w x.ch.a x.ch.l∧x.ch.l.length≤1000000):=Hi ⟨hat,fun x hx=>⟨(ho3 x hx).slAt,hch x.pl (by rw[←ho2];exact List.mem_map_of_mem hx)⟩⟩;have KB:=Hi kb;unfold blkC at kb;clear hat ho1 ho2 ho3 hll hL hch;go_enter Tryz.func11,Tryz.ntmps11;go_wp2_with fail;go_at_call 43;refine(bthere_c _ KB.out).mono ?_;rintro e w2 ⟨rfl,rfl⟩;go_wp2_with fail;go_loopw [2,13] (fun s2 s13 ws=>∃(i:Nat) (L:List OcR) (a2:Option Addr) (c2:Nat),i≤on∧s2= .slice a2 i c2∧s13= .int .i64 (i:Int)∧Hid (L.length=i)∧Hid (SlOwn ocr 6 63 ws 0 (.slice a2 i c2) L∧∀g,(Value.slice a2 i c2).ownBlock=some g→w.heap.size≤g)∧Hid (Mod (fun _=>False) w ws)) (fun _ s13 _=>on-(intOf s13).toNat)
 case atStart=>exact⟨0,[],none,0,by omega,rfl,rfl,Hi rfl,Hi ⟨SlOwn.nil _ _,fun g h=>by cases h⟩,Hi (Mod.refl _ _)⟩
 case round=>
  obtain⟨i,L,a2,c2,hi,rfl,rfl,HLi,HO,HM⟩:=hrel;have kb:=HM.out.at0 kb;by_cases hlt:i<on
  ·have hd:=Dt hlt;obtain⟨x,hx⟩:∃x,orr[i]? =some x:=⟨_,List.getElem?_eq_getElem (by rw[HLL.out];exact hlt)⟩;obtain⟨g,o,C,U,fr,rfl,kg,he,hle⟩:=SlAt.block (HA.out.1.mod0 HM.out) hx;have HX:=Hi (HA.out.2 x (List.mem_of_getElem? hx));clear hx;go_upto_region 5 with fail;have Lkg:=Ls kg;have Lkb:=Ls kb;refine ZP0 [0,1,3,4] ?_;refine Zv ?_;refine Zd ?_;refine Za alOut fun p4 hp4=> ?_;refine Zt ?_;refine TD.nil (fun w3 hr=> ?_);replace kg:=hr.q kg;replace kb:=hr.q kb;obtain⟨gp4,kp4⟩:=hr.b p4;have m3:=hr.mod;have HM3:=Hi (HM.out.then0 m3);have HO3:=Hi (HO.out.1.mod0 m3);clear hr m3 kg;obtain⟨W,hW⟩:∃W:Nat→Prop,(fun g=>(Value.slice a2 i c2).ownBlock=some g)=W:=⟨_,rfl⟩;have HKK:Hid (OwnL ocr 6 63 0 L (.slice a2 i c2) W w3):=Hi ⟨HO3.out,fun g hg=>by rw[←hW];exact hg⟩;have hWT:∀j,W j→j<w3.heap.size:=by
    rw[←hW];intro j hj;exact(HO3.out.lt j hj).2
   have hWw:Hid (∀j,W j→w.heap.size≤j):=Hi (by
    rw[←hW];intro j hj;exact HO.out.2 j hj)
   have hlen:L.length+1≤1000000:=by rw[HLi.out];omega
   have nW4:¬W p4:=fun h=>by
    rw[←hW]at h;have:=(HO.out.1.lt p4 h).2;omega
   clear hW;go_upto_region 6 with fail;have Lkp4:=Ls kp4;refine wp_gpass0 (T0:=W) (K:=OwnL ocr 6 63 0 L (.slice a2 i c2)) (κ:=fun i=>[0,0,6,3,6,0].getD i 0) (υ:=fun i=>[[],[],[],[],[20],[]].getD i []) [0,1,2,3,4,5] (by kernel_rfl) (by kernel_rfl) (goodOL ocr 6 63 0 L (.slice a2 i c2)).cl (HKK.out) (hWT) ?_;have gK:=goodOL ocr 6 63 0 L (.slice a2 i c2);refine Zg ?_;(refine TG.load (v:= ?v6) (p:= ?p6) (by simp only[zK];rfl) rfl (by rfl) rfl ?hx6 (fun wq hSq=> ?y6) ?n6;(case hx6=>simp only[zM];try rfl);(case y6=>(have kp4q:=hSq.at kp4 (by intro hT;first|exact hT|exact absurd hT (by assumption)|omega|(simp only at hT;omega));go_simp;(try with_reducible rfl)));try simp only[zL]);(refine TG.callM (f:= ?f7) (args:= ?r7) (OcL w3.heap.size x) (goodOc w3.heap.size x) gK (by simp only[zK];rfl) rfl (by rfl) (fun w1=> ?y7) (fun T wq kq ltq hSq ub=> ?hsp7) ?n7;(case y7=>(go_simp;(first|with_reducible rfl|(constructor<;>with_reducible rfl))));(case hsp7=>(have kp4q:=hSq.at kp4 (by intro hT;first|exact hT|exact absurd hT (by assumption)|omega|(simp only at hT;omega));exact(own_c x wq (HX.out.1.mod0 (HM3.out.then hSq (fun j hj h=>by have:=hWw.out j h;omega))) HX.out.2).mono (fun e w' h=>by obtain⟨o2,h1,h2,h3⟩:=h;exact⟨_,h1,h3,ocL h2 hSq.size⟩)));rintro v7 ⟨wI,TI,hI⟩;replace gK:=gK.and ((goodOc w3.heap.size x) v7);obtain⟨o2,rfl,-⟩:=hI.k.2;(try clear hI TI wI);try simp only[zL]);(refine TG.bslice (by simp only[zK];rfl) rfl (by rfl) rfl rfl ?hx8 (bsOut o2) (fun p20 hp20 _=> ?n8);(case hx8=>(simp only[List.map_toArray,List.map_cons,List.map_nil,zM];(try rfl)));try simp only[zL]);(refine TG.appK (X:= ?X9) (Y:= ?Y9) (OutL w3.heap.size x L) (goodOut w3.heap.size x L) (by simp only[zK];rfl) rfl (by rfl) rfl ?hx9 ?hz9 (fun T wq kq ltq hSq ub=> ?y9) ?n9;(case hx9=>simp only[zM];try rfl);(case hz9=>simp only[zM];try rfl);(case y9=>(have kp4q:=hSq.at kp4 (by intro hT;first|exact hT|exact absurd hT (by assumption)|omega|(simp only at hT;omega));have kp20:=ub.box (p:=p20) (by first|exact Bx.set_same _ _ _|(simp only[Bx.set_same];rfl)) (by first|decide|exact List.mem_singleton.2 rfl|simp);dsimp only[Value.cells]at kp20;have nUp20:=(ub p20 _ (by first|exact Bx.set_same _ _ _|(simp only[Bx.set_same];rfl)) (by first|decide|exact List.mem_singleton.2 rfl|simp)).1;exact app_out kq.1 kq.2 kp20 hlen _));rintro v9 ⟨wI,TI,hI⟩;replace gK:=(goodOut w3.heap.size x L) v9;skip;(try clear hI TI wI);try simp only[zL]);refine Zg ?_;refine TG.nil (fun w5 ⟨TR,hr⟩=> ?_);replace kp4:=hr.mod.at kp4 (by intro hT;first|exact hT|exact absurd hT (by assumption)|omega|(simp only at hT;omega));obtain⟨gp20,nTp20,kp20⟩:=hr.b p20;clear gK;obtain⟨o3,hpl,hNL,hOL⟩:=hr.k;obtain⟨a3,c3,rfl,-⟩:=hOL.1.at outT;have hlo:(L++[o3]).length=i+1:=by rw[List.length_append,HLi.out];rfl
   have HN:Hid (SlOwn ocr 6 63 w5 0 (.slice a3 (i+1) c3) (L++[o3])∧∀g,(Value.slice a3 (i+1) c3).ownBlock=some g→w.heap.size≤g):=Hi ⟨by rw[←hlo];exact hOL.1,fun g hg=>by
    by_cases h:g<w3.heap.size
    ·exact hWw.out g (hr.old g h (hOL.2 g (by rw[hlo];exact hg)))
    ·have:=HM3.out.size;omega⟩
   have HL2:=Hi hlo;have HM5:=Hi (HM3.out.then hr.mod (fun j hj h=>by have:=hWw.out j h;omega));rw[hlo];clear hr hpl hNL hOL hlo hWT hlen nW4;go_wp2_with fail;go_roundw
   case rel=>exact⟨i+1,L++[o3],a3,c3,by omega,rfl,by go_num,HL2,HN,HM5⟩
   case measure=>simp[intOf];omega
  ·have hd:=Df hlt;obtain rfl:on=i:=by omega
   obtain⟨a5,c5,v2,e5,hcl,hnew⟩:=HO.out.1.clip outT;obtain⟨a6,rfl⟩:=hnew.form;rw[HLi.out]at hcl;have HCL:=Hi hcl;clear hcl hnew e5;go_wp2_with fail;go_at_call 52;refine(clipO_c _ _ _ HCL.out).mono ?_;rintro e w6 ⟨rfl,rfl⟩;go_wp2_with fail;go_ret;exact⟨⟨_,_,rfl⟩,HM.out⟩
section
attribute [local go_sem↓] ldSg stSg
theorem sameB_c (a a2:Option Addr) (l l2:List UInt8) (c c2:Nat) (w:World) (h1:SlAt uc 1 w a l) (h2:SlAt uc 1 w a2 l2) (hb:l.length≤1000000):Calls Tryz.prog 58 #[.slice a l.length c,.slice a2 l2.length c2] w fun e w'=>e= .returned (.bool (decide (l=l2)))∧Mod (fun _=>False) w w':=by
 by_cases hl:l.length=l2.length
 ·have HL:=Hi hl;have hd0:((l.length:Int) !=(l2.length:Int))=false:=by simp[hl]
  clear hl;go_enter Tryz.func58,Tryz.ntmps58;go_wp2_with fail;clear hd0;go_loopw [5] (fun s5 ws=>∃i:Nat,i≤l.length∧s5= .int .i64 (i:Int)∧Hid (l.take i=l2.take i)∧Mod (fun _=>False) w ws) (fun s5 _=>l.length-(intOf s5).toNat)
  case atStart=>exact⟨0,by omega,rfl,Hi (by simp),Mod.refl _ _⟩
  case round=>
   obtain⟨i,hi,rfl,HT,hm⟩:=hrel;by_cases hlt:i<l.length
   ·obtain⟨x,hx⟩:∃x,l[i]? =some x:=⟨_,List.getElem?_eq_getElem hlt⟩;obtain⟨y,hy⟩:∃y,l2[i]? =some y:=⟨_,List.getElem?_eq_getElem (by have:=HL.out;omega)⟩;obtain⟨g,o,C,U,fr,rfl,kl,he⟩:=u8_at (h1.mod0 hm) hx;obtain⟨g2,o2,C2,U2,fr2,rfl,kl2,he2⟩:=u8_at (h2.mod0 hm) hy;have hlt2:(i:Int)<(l2.length:Int):=by
     have:=HL.out;omega
    have HX:=Hi hx;have HY:=Hi hy;have H1:=Hi h1;have H2:=Hi h2;clear h1 h2 hx hy;by_cases hxy:x=y
    ·have hd1:((x.toNat:Int) !=(y.toNat:Int))=false:=by simp[hxy]
     have hd2:(x.toNat !=y.toNat)=false:=by simp[hxy]
     have HXY:=Hi hxy;clear hxy;go_upto_region 6 with fail;have Lkl:=Ls kl;have Lkl2:=Ls kl2;refine ZP [0,0,0,1,0,0,0,1,0] ?_
     iterate 9 first|refine Zv ?_|refine Zd ?_
     refine TD.nil (fun w2 hr=> ?_);replace kl:=hr.q kl;replace kl2:=hr.q kl2;have mm:=hm.then0 hr.mod;clear he he2;go_wp2_with fail;go_roundw
     case rel=>exact⟨i+1,by omega,by go_num,Hi (by
      rw[List.take_add_one,List.take_add_one,HT.out,HX.out,HY.out,HXY.out]),mm⟩
     case measure=>first|omega|(simp[intOf];omega)
    ·have hn:x.toNat≠y.toNat:=fun e=>hxy (UInt8.toNat_inj.1 e);have hd1:((x.toNat:Int) !=(y.toNat:Int))=true:=by simp;omega
     have hd2:(x.toNat !=y.toNat)=true:=by simp[hn]
     go_upto_region 6 with fail;have Lkl:=Ls kl;have Lkl2:=Ls kl2;refine ZP [0,0,0,1,0,0,0,1,0] ?_
     iterate 9 first|refine Zv ?_|refine Zd ?_
     refine TD.nil (fun w2 hr=> ?_);replace kl:=hr.q kl;replace kl2:=hr.q kl2;have mm:=hm.then0 hr.mod;clear he he2;go_wp2_with fail;go_ret;refine⟨?_,mm⟩;rw[show decide (l=l2)=false from Df (fun e=>by
      subst e;have h1:=HX.out;have h2:=HY.out;rw[h1]at h2;exact hxy (by injection h2))]
     rfl
   ·have hll:l=l2:=by
     have:=HT.out;rw[List.take_of_length_le (by omega),List.take_of_length_le (by have:=HL.out;omega)]at this;exact this
    have HLL:=Hi hll;clear hll HT;go_wp2_with fail;go_ret;exact⟨by rw[HLL.out];simp,hm⟩
 ·have hd0:((l.length:Int) !=(l2.length:Int))=true:=by
   simp only[bne_iff_ne,ne_eq];omega
  have HD:Hid (decide (l=l2)=false):=Hi (Df (fun e=>hl (by rw[e])));clear hl;go_enter Tryz.func58,Tryz.ntmps58;go_wp2_with fail;go_ret;exact⟨by rw[HD.out];rfl,Mod.refl _ _⟩
end
def Tk {α:Type} (e:Nat) (res:PR α) (x:α) (k' e':Nat):Prop:=(e=0→match res with| .ok (y,k2)=>x=y∧k'=k2∧e'=0| .error n=>e'=n)∧(e≠0→e'=e)
theorem Tk.bad {α:Type} {e:Nat} {res:PR α} {x:α} {k':Nat} (h:e≠0):Tk e res x k' e:=⟨fun h0=>absurd h0 h,fun _=>rfl⟩
section
attribute [local go_sem↓] stHs
theorem setRow_blk {w:World} {g:Nat} {old cs:Array Value} {t:TypeId} (hg:w.heap[g]? =some (.cells old t (0,0))):w.setRow g cs=setBlock w g (.cells cs t (0,0)):=by
 unfold World.setRow setBlock;congr 1;apply Array.ext_getElem?;intro i;rw[Array.getElem?_modify,Array.getElem?_setIfInBounds];by_cases h:g=i
 ·subst h;rw[if_pos rfl,if_pos rfl,hg,if_pos (Ls hg)];rfl
 ·rw[if_neg h,if_neg h]
theorem eff_copy {P:Program} {ops:Array Oper} {Q:Exit→Act→World→Prop} {i:Nat} {a:Act} {o:Oper} {K:Act→World→Prop} {w w':World} {t t2:TypeId} {s x:Operand} {v u v':Value} (ho:ops[i]? =some o) (hw:Region.wanted o (yielded ops a.tmps)=true)
  (hop:o.op= .call {callee:= .builtin .copy,args:= #[s,x],argTypes:= #[t,t2]}) (hs:a.eval s=v) (hx:a.eval x=u) (hr:(Builtin.copy_ #[t,t2] o.type #[v,u]).run P w= .ok v' w')
  (h:K (a.put o.dst v') w'):wpOp P ops Q i K a w:=
 eff_value ho hw (by subst hs;subst hx;simp[execOp,hop,resolve,invoke,builtin,hr]) h
end
section
attribute [local go_sem↓] wlMsg ldMsg stMsg
attribute [local go_sem] mgx_size mgx_ext mgx_one mgx_one0
attribute [local go_sem↓] stHs wlIn ldIn stIn wlLo ldLo stLo
attribute [local go_sem] zMsg_size zMsg_all zMsg_all0 mg0 mg1 mg2 mg3 mg4 mg37 mg38
theorem mg37' {v0:Bool} {h0 h1 h2:UInt8} {ka:Option Addr} {kn kc':Nat} {rc:Key} {ia:Option Addr} {n1 c1:Nat} {la:Option Addr} {n2 c2:Nat} (h:37<(mgx v0 h0 h1 h2 ka kn kc' rc ia n1 c1 la n2 c2).size):(mgx v0 h0 h1 h2 ka kn kc' rc ia n1 c1 la n2 c2)[37]= .slice ia n1 c1:=at_get (mg37 ..) h
theorem mg38' {v0:Bool} {h0 h1 h2:UInt8} {ka:Option Addr} {kn kc':Nat} {rc:Key} {ia:Option Addr} {n1 c1:Nat} {la:Option Addr} {n2 c2:Nat} (h:38<(mgx v0 h0 h1 h2 ka kn kc' rc ia n1 c1 la n2 c2).size):(mgx v0 h0 h1 h2 ka kn kc' rc ia n1 c1 la n2 c2)[38]= .slice la n2 c2:=at_get (mg38 ..) h
attribute [local go_sem] mg37' mg38'
theorem inr_sz (x:InR):(inr x).size=3:=rfl
theorem inr_ex (x:InR):(inr x).extract 0 3=inr x:=rfl
theorem inr1 (x:InR):(inr x)[1]? =some (.slice x.a.a x.a.l.length x.a.c):=rfl
theorem lor32 (x:LoR):(lor x)[32]? =some (.slice x.w.a x.w.l.length x.w.c):=kx_get x.t _ 0
theorem lor33 (x:LoR):(lor x)[33]? =some (.slice x.r.a x.r.l.length x.r.c):=kx_get x.t _ 1
theorem zIn_sz:zIn.size=3:=rfl
theorem lor_sz (x:LoR):(lor x).size=34:=kx_size _ _
theorem lor_al (x:LoR):(lor x).all (·.oneCell')=true:=kx_one _ _ rfl
theorem lor_al0 (x:LoR):(lor x).all (·.oneCell') 0 34=true:=all_of (lor_sz x) (lor_al x)
attribute [local go_sem] inr_sz inr_ex zIn_sz lor_sz lor_al lor_al0 inr1 inr2 lor32 lor33
end
section
attribute [local go_sem↓] wlMsg ldMsg stMsg wlRg ldRg stRg wlTc ldTc stTc ldSg stSg
attribute [local go_sem] mgx_size mgx_ext mgx_one mgx_one0 zMsg_size zMsg_all zMsg_all0
attribute [local go_sem] rgx0' rgx40' rgx_size rgx_one rgx_one0 rgx0 rgx40 tcx_size tcx_ext tcx_one tcx_one0 mcx_size mcx_one0 mcx_ext zTc_size zTc_ext zTc_all zTc_all0
theorem ldTxr {w:World} {p:Nat} {r:RdR} {U:TypeId} {fr:Nat×Nat} (h:w.heap[p]? =some (.cells (txr r) U fr)):(Instr.loadAt 53 (.pointer (some ⟨p,0,none⟩))).run Tryz.prog w= .ok (.agg (txr r)) w:=by
 rw[ldTc,h];simp[txr_size,txr_all]
attribute [local go_sem] txr_one'
end
section
attribute [local go_sem↓] wlMsg ldMsg stMsg wlRg ldRg stRg ldSg stSg
attribute [local go_sem] mgx_size mgx_ext mgx_one mgx_one0 zMsg_size zMsg_all zMsg_all0
attribute [local go_sem] tcx_size tcx_ext tcx_one tcx_one0 txr_one' zTc_size zTc_all zTc_all0
theorem NE.tx (l:List UInt8):NE (pTx l):=by
 unfold pTx;split
 ·split
  ·simp[NE]
  ·exact(NE.msg _ _).bind fun m k=>by simp[NE]
 ·rename_i h;simpa[NE] using h
def TxsO (b:Nat) (w:World) (L:List RdR):Prop:=(∀x∈L,TxO b w x)∧L.Pairwise (fun x y=>∀g∈blk x,∀h∈blk y,g<h)
theorem TxsO.mod {b:Nat} {w w':World} {L:List RdR} {S:Nat→Prop} (h:TxsO b w L) (hm:Mod S w w') (hS:Apt w S b):TxsO b w' L:=⟨fun x hx=>(h.1 x hx).mod hm hS,h.2⟩
theorem TxsO.snoc {b:Nat} {w w':World} {L:List RdR} {r:RdR} (h:TxsO b w L) (hm:Mod (fun _=>False) w w') (hb:b≤w.heap.size) (hr:TxO w.heap.size w' r):TxsO b w' (L++[r]):=by
 have h1:=h.mod hm (Apt.below (fun _ h=>h.elim));refine⟨fun x hx=> ?_,?_⟩
 ·rcases List.mem_append.1 hx with hx|hx
  ·exact h1.1 x hx
  ·rw[List.mem_singleton]at hx;subst hx;exact hr.base hb
 ·rw[List.pairwise_append];refine⟨h.2,List.pairwise_singleton _ _,fun x hx y hy g hg q hq=> ?_⟩;rw[List.mem_singleton]at hy;subst hy;have:=((h.1 x hx).blk g hg).2;have:=(hr.blk q hq).1;omega
def DecA (w:World) (l:List UInt8) (e:Ending) (w':World):Prop:=Mod (fun _=>False) w w'∧match decP l with
 |some xs=>∃v L,e= .returned (.tuple #[v,i64n 0])∧NewS txr 40 53 w.heap.size w' v L∧TxsO w.heap.size w' L∧L.map txP=xs
 |none=>e= .returned (.tuple #[.slice none 0 0,i64n 4])
theorem clipTxs_c (v2:Value) (w:World) (n:Nat) {a:Option Addr} {c:Nat} (h:∀w2,(Instr.sliceAt 71 (.slice a n c) none (some (.int .i64 (n:Int))) (some (.int .i64 (n:Int)))).run Tryz.prog w2= .ok v2 w2):
  Calls Tryz.prog 55 #[.slice a n c] w fun e w'=>e= .returned v2∧w'=w:=by
 go_enter Tryz.func55,Tryz.ntmps55;go_wp2_with fail;go_ret;exact⟨rfl,rfl⟩
theorem bsTx (x:RdR) (w:World):(Instr.buildSlice 71 1 #[(0,.agg (txr x))]).run Tryz.prog w= .ok (.slice (some ⟨w.heap.size,0,none⟩) 1 1) (w.alloc (.cells (txr x) 53)):=by
 obtain⟨i0,hi,hz0,hz1,hz2⟩:=info_parts (show(Tryz.prog.info? 53).map (fun i=>(i.zero,i.size,i.bytes))=some (some (.agg zTx),40,136)by kernel_rfl);refine run_buildSlice w _ _ 1 _ _ i0 _ Tryz.underlying71 hi hz0 (by rw[hz1];omega) (by rw[hz1];omega) ?_;rw[hz1];show Instr.fill _ _ [(0,_)]=_;rw[fill_cons (off:=0) (n:=40) rfl (by simp[Value.cells,txr_size]) (by simp[Value.cells,zTx_size,size_madeCells])];show some (wr _ 0 (txr x).toList)=_;rw[wr_whole (txr x) _ (by simp[Value.cells,zTx_size,size_madeCells,txr_size])]
theorem decode_c {a:Option Addr} {l:List UInt8} {c:Nat} (w:World) (hl:SlAt uc 1 w a l) (hc:l.length≤c) (hn:a=none→c=0) (hln:l.length≤900000) (hin:∀x,a=some x→x.block<w.heap.size):
  Calls Tryz.prog 12 #[.slice a l.length c] w (DecA w l):=by
 have HL:=Hi (Ai hl (Ai hc (Ai hn (Ai hln hin))));obtain⟨ll,hll⟩:∃ll,l.length=ll:=⟨_,rfl⟩;have HLL:=Hi hll;rw[hll]at hln⊢;have hG:=getN_c a l c 8 w hl (by omega) (by omega);rw[hll]at hG;obtain⟨m,er,hg⟩:∃m er,getN l 8=(m,er):=⟨_,_,rfl⟩;rw[hg]at hG;have HG:=Hi (Ai hg hG);clear hl hc hn hln hin hll hg hG;go_enter Tryz.func12,Tryz.ntmps12;go_wp2_with fail;go_at_call 53;refine HG.out.2.mono ?_;rintro e w1 ⟨rfl,m1⟩;have HM1:=Hi m1;clear m1;by_cases h8:ll<8
 ·have hg1:getN l 8=(0,5):=by rw[getN,HLL.out,if_pos h8]
  rw[HG.out.1]at hg1;cases hg1;have HE:Hid (decP l=none):=Hi (by unfold decP;rw[if_pos (.inl (by rw[HLL.out];exact h8))]);clear h8 HG;go_wp2_with fail;refine bodyPost_ret (results_tmp2 rfl _ _ _) rfl ?_;unfold DecA;rw[HE.out];exact⟨HM1.out,rfl⟩
 ·have hg1:getN l 8=(leV (l.take 8),0):=by rw[getN,HLL.out,if_neg h8]
  rw[HG.out.1]at hg1;injection hg1 with e1 e2
  subst e2;have HMM:=Hi e1;clear e1 HG;have hlw:IntKind.u64.wrap (ll:Int)=(ll:Int):=by rw[IntKind.wrap_u64];have:=HL.out.2.2.2.1;have:=HLL.out;omega
  by_cases hm0:m=0
  ·subst hm0;have HE:Hid (decP l=none):=Hi (by unfold decP;rw[if_pos (.inr HMM.out.symm)]);go_wp2_with fail;refine bodyPost_ret (results_tmp2 rfl _ _ _) rfl ?_;unfold DecA;rw[HE.out];exact⟨HM1.out,rfl⟩
  ·have hm1:((m:Int)==0)=false:=by simpa using hm0
   by_cases hbig:ll<m
   ·have hd:=Dt hbig;have hd2:decide ((m:Int)>(ll:Int))=true:=Dt (by omega);have HE:Hid (decP l=none):=Hi (decP_big (by rw[←HMM.out,HLL.out];exact hbig));go_wp2_with fail;refine bodyPost_ret (results_tmp2 rfl _ _ _) rfl ?_;unfold DecA;rw[HE.out];exact⟨HM1.out,rfl⟩
   ·have hd:=Df hbig;have hd2:decide ((m:Int)>(ll:Int))=false:=Df (by omega);have HP:Hid (decP l=match decL m (l.drop 8)with|some (xs,[])=>some xs|_=>none):=Hi (by
     unfold decP;rw[if_neg (by rw[HLL.out,←HMM.out];omega),←HMM.out];rfl)
    obtain⟨sp,hsp,hss,hsb,hsn⟩:=sl_from (P:=Tryz.prog) bytesT (c:=c) (k:=8) HL.out.1 (by rw[HLL.out];omega) HL.out.2.1 HL.out.2.2.1;have hdl:(l.drop 8).length=ll-8:=by rw[List.length_drop,HLL.out]
    rw[HLL.out]at hsp;have HSS:=Hi (Ai hss (Ai hsb (Ai hsn hdl)));clear hss hsb hsn hdl;go_upto_region 4 with fail;refine ZP0 [0,0,0] ?_;refine Zv ?_;refine Zx hsp ?_;refine Zv ?_;refine TD.nil (fun w2 hr=> ?_);have HM2:=Hi (HM1.out.trans hr.mod);have hml:m≤900000:=by have:=HL.out.2.2.2.1;have:=HLL.out;omega
    have h8:8≤ll:=by omega
    clear hr hsp hlw hm0 hm1 hbig hd hd2;go_wp2_with fail;go_loopw [6,7,32] (fun s6 s7 s32 ws=>∃(i nl lc c2:Nat) (la a2:Option Addr) (R:List UInt8) (L:List RdR),i≤m∧s6= .slice la nl lc∧s7= .slice a2 i c2∧s32= .int .u64 (i:Int)∧Hid (L.length=i∧R.length=nl∧nl≤ll)∧Hid (SlOwn txr 40 53 ws w.heap.size (.slice a2 i c2) L)∧Hid (TxsO w.heap.size ws L)∧Hid (SlAt uc 1 ws la R∧nl≤lc∧(la=none→lc=0)∧∀x,la=some x→x.block<w.heap.size)∧Hid (Mod (fun _=>False) w ws)∧Hid (decL m (l.drop 8)=preD (L.map txP) (decL (m-i) R))) (fun _ _ s32 _=>m-(intOf s32).toNat)
    case atStart=>
     refine⟨0,ll-8,c-8,0,sp,none,l.drop 8,[],by omega,rfl,rfl,rfl,Hi ⟨rfl,HSS.out.2.2.2,by omega⟩,Hi (SlOwn.nil _ _),Hi ⟨fun _ h=>by(cases h),.nil⟩,Hi ⟨HSS.out.1 _ (HL.out.1.mod0 HM2.out),?_,?_,?_⟩,HM2,Hi (by rw[List.map_nil,preD_nil,Nat.sub_zero])⟩
     ·have:=HL.out.2.1;have:=HLL.out;omega
     ·intro e;have:=HL.out.2.2.1 (HSS.out.2.2.1 e);omega
     ·intro x e;obtain⟨y,hy,hyx⟩:=HSS.out.2.1 x e;have:=HL.out.2.2.2.2 y hy;omega
    case round=>
     obtain⟨i,nl,lc,c2,la,a2,R,L,hi,rfl,rfl,rfl,HN,HO,HT,HS,HM,HD⟩:=hrel;by_cases hlt:i<m
     ·have hd:=Dt hlt;have hG:=pget_c wr HS.out.1 (by rw[HN.out.2.1];exact HS.out.2.1) HS.out.2.2.1 (by have:=HL.out.2.2.2.1;have:=HLL.out;have:=HN.out;omega) (fun x e=> .inl (Nat.lt_of_lt_of_le (HS.out.2.2.2 x e) HM.out.size));rw[HN.out.2.1]at hG;have ha1:=alTx;go_upto_region 8 with fail;refine region_seq 10 rfl ?_;simp only[List.range,List.range.loop];refine Zq ?_;refine ZC hG ?hout (fun vn wn hR=> ?hret) (fun ch wn hR=> ?hpan)
      case hout=>
       intro w' h;unfold PgetP at h;split at h
       ·obtain⟨_,_,h,_⟩:=h;cases h
       ·cases h.2
      case hpan=>
       exfalso;unfold PgetP at hR;split at hR
       ·obtain⟨_,_,h,_⟩:=hR;cases h
       ·cases hR.2
      case hret=>
      obtain⟨hm,hr⟩:=hR;clear hG;cases hres:pTx R with
      |error e0=>
       rw[hres]at hr;simp only at hr;cases hr;have he0:((e0:Int) !=0)=true:=by
        have h1:=NE.tx R;rw[NE,hres]at h1;simpa using fun e=>h1 (by rw[e])
       have HE:Hid (decP l=none):=Hi (by rw[HP.out,HD.out,show m-i=(m-(i+1))+1 by omega,preD_err hres]);have HM3:=Hi (HM.out.trans hm);clear hm;(try simp only[zL]);obtain⟨w4,rfl⟩:∃w4:World,w4=wn:=⟨_,rfl⟩
       iterate 4 refine Zq ?_
       (refine sq_alloc (by simp only[zK];rfl) (by rfl) rfl alTx (fun p8 wn gp8 kp8 mp8=> ?n10);try simp only[zL]);refine ZT ?_;refine ZQ kp8 fun wn kp8 mS=> ?_
       iterate 2 refine Zq ?_
       refine sq_nil ?_;have HM5:Hid (Mod (fun _=>False) w wn):=Hi ((HM3.out.trans mp8).then mS (fun i hi e=>by have:=HM3.out.size;omega));clear mS mp8 kp8;go_wp2_with fail;refine bodyPost_ret (results_tmp2 rfl _ _ _) rfl ?_;unfold DecA;rw[HE.out];exact⟨HM5.out,rfl⟩
      |ok y=>
       obtain⟨x,k⟩:=y;rw[hres]at hr;obtain⟨v,hv0,hv,hk1⟩:=hr;cases hv0;obtain⟨r,rfl,hrx,hO⟩:=hv.toO;have HW4:=Hi hm;have HM3:=Hi (HM.out.trans hm);have HO3:=Hi (HO.out.mod0 hm);have HT3:Hid (TxsO w.heap.size wn (L++[r])):=Hi (HT.out.snoc hm HM.out.size hO);have HK:=Hi (Ai hk1 hrx);clear hv hO hm hk1 hrx;(try simp only[zL]);obtain⟨w4,rfl⟩:∃w4:World,w4=wn:=⟨_,rfl⟩
       iterate 4 refine Zq ?_
       (refine sq_alloc (by simp only[zK];rfl) (by rfl) rfl alTx (fun p8 wn gp8 kp8 mp8=> ?n18);try simp only[zL]);refine ZT ?_;refine ZQ kp8 fun wn kp8 mS=> ?_
       iterate 2 refine Zq ?_
       refine sq_nil ?_;replace kp8:wn.heap[p8]? =some (.cells (txr r) 53 (0,0)):=kp8;have m4:Mod (fun _=>False) w4 wn:=mp8.then mS (fun i hi e=>by omega);have HMW:=Hi (HW4.out.trans m4);have HM5:=Hi (HM3.out.trans m4);have HO5:=Hi (HO3.out.mod0 m4);have HT5:=Hi (HT3.out.mod m4 (Apt.below (fun _ h=>h.elim)));clear mS mp8 gp8 m4;obtain⟨w5,rfl⟩:∃w5:World,w5=wn:=⟨_,rfl⟩;by_cases hk:k≤1232
       ·have hd3:decide ((k:Int)>1232)=false:=Df (by omega);obtain⟨la2,hsl,hs2,hb2,hn2⟩:=sl_from (P:=Tryz.prog) bytesT (c:=lc) (k:=k) HS.out.1 HK.out.1 (by rw[HN.out.2.1];exact HS.out.2.1) HS.out.2.2.1;obtain⟨d,hd0⟩:∃d,nl-k=d:=⟨_,rfl⟩;rw[HN.out.2.1,hd0]at hsl;have HS2:=Hi (Ai hs2 (Ai hb2 (Ai hn2 hd0)));have HD2:Hid (decL m (l.drop 8)=preD ((L++[r]).map txP) (decL (m-(i+1)) (R.drop k))):=Hi (by rw[HD.out,show m-i=(m-(i+1))+1 by omega,preD_step hres hk,List.map_append,←HK.out.2];rfl);clear hs2 hb2 hn2 hd0 hres;have hbs:=bsTx r;go_upto_region 11 with fail;have Lkp8:=Ls kp8;refine wp_pass (C:=fun _ _ _=>False) (κ:=fun i=>[0,1,3,5,0,0,0,0,0].getD i 0) [0,1,2,4,5,6,3,7,8] (by kernel_rfl) (by kernel_rfl) (fun _ _ d _ _ h=>by cases d<;>first|exact h|exact absurd h (hP _ _ _)) ?_;refine Zv ?_;refine Zd ?_;refine Zy hbs fun p48 hp48=> ?_
        iterate 2 refine Zv ?_
        refine Zx hsl ?_;refine Zi fun w6 hr=> ?_;replace kp8:=hr.q kp8;obtain⟨gp48,kp48⟩:=hr.b p48;have m6:=hr.mod;clear hr hbs hsl;have HLI:=Hi HN.out.1;have hO2:=((HO.out.mod0 (HMW.out)).mod0 m6);obtain⟨v7,w7,hap,hO7,m7,hn7⟩:=SlOwn.append txT (q:=[r]) (c:=1) hO2 (SlAt.one kp48 r rfl (txr_size _)) (by rw[HLI.out];simp only[List.length_singleton];omega) (by decide) (by have:=HM5.out.size;have:=m6.size;omega) 71;obtain⟨a7,c7,rfl,-,-⟩:=hO7.at txT;have hlen:(L++[r]).length=i+1:=by rw[List.length_append,HLI.out];rfl
        rw[hlen]at hap hO7;have hR7:SlAt uc 1 w7 la2 (R.drop k):=HS2.out.1 _ (HS.out.1.mod (((HMW.out.trans m6).mono (fun _ _ h=>h.elim)).trans (m7.mono (T:=fun i=>w.heap.size≤i) (fun j hj e=>by have:=(hO2.lt j e).1;exact this)):Mod (fun i=>w.heap.size≤i) wr w7) (fun b o e=>by have:=HS.out.2.2.2 _ e;simp only at this⊢;omega));have hlo:=hO2.lt;have hty:=own_blk2 hO2;have HF:Hid (SlOwn txr 40 53 w7 w.heap.size (.slice a7 (i+1) c7) (L++[r])∧TxsO w.heap.size w7 (L++[r])∧Mod (fun _=>False) w w7∧(L++[r]).length=i+1∧SlAt uc 1 w7 la2 (R.drop k)):=Hi ⟨hO7,((HT5.out.mod m6 (Apt.below (fun _ h=>h.elim))).mod m7 (fun g C E _ hk hE hs=>by
          obtain⟨cur,hc⟩:=hty g hs;rw[hk]at hc;injection hc with hc
          injection hc with _ hc
          rw[hc]at hE;simp at hE)),(HM5.out.trans m6).then m7 (fun j hj e=>by have:=(hlo j e).1;omega),hlen,hR7⟩
        clear hO2 hO7 hn7 hlo hty m6 m7 hlen hR7 kp8 kp48 gp48;refine ZA hap ?_;refine Ze ?_;refine Ze ?_;refine TE.nil ?_;go_wp2_with fail;go_roundw
        case rel=>
         refine⟨i+1,d,lc-k,c7,la2,a7,R.drop k,L++[r],by omega,rfl,rfl,by go_num,Hi ⟨HF.out.2.2.2.1,by rw[List.length_drop,HN.out.2.1];exact HS2.out.2.2.2,by have:=HN.out;have:=HS2.out.2.2.2;omega⟩,Hi HF.out.1,Hi HF.out.2.1,Hi ⟨HF.out.2.2.2.2,by have:=HS.out.2.1;have:=HS2.out.2.2.2;omega,fun e=>by have:=HS.out.2.2.1 (HS2.out.2.2.1 e);omega,fun x e=> ?_⟩,Hi HF.out.2.2.1,HD2⟩;obtain⟨y,hy,hyx⟩:=HS2.out.2.1 x e;rw[←hyx];exact HS.out.2.2.2 y hy
        case measure=>simp[intOf];omega
       ·have hd3:decide ((k:Int)>1232)=true:=Dt (by omega);have HE:Hid (decP l=none):=Hi (by rw[HP.out,HD.out,show m-i=(m-(i+1))+1 by omega,preD_big hres hk]);go_wp2_with fail;refine bodyPost_ret (results_tmp2 rfl _ _ _) rfl ?_;unfold DecA;rw[HE.out];exact⟨HM5.out,rfl⟩
     ·have hd:=Df hlt;obtain rfl:m=i:=by omega
      have HE:Hid (decP l=match some (L.map txP,R)with|some (xs,[])=>some xs|_=>none):=Hi (by
       have h0:decL m (l.drop 8)=some (L.map txP,R):=by
        rw[HD.out,Nat.sub_self,decL];simp[preD]
       rw[HP.out,h0])
      by_cases h0:nl=0
      ·subst h0;obtain rfl:R=[]:=List.eq_nil_of_length_eq_zero HN.out.2.1;obtain⟨a9,c9,v9,e9,hcl,hnew⟩:=HO.out.clip txT;obtain⟨sa9,rfl⟩:=NewS.form2 hnew;rw[HN.out.1]at hcl hnew;have HCL:=Hi hcl;have HNW:=Hi hnew;clear e9 hcl hnew;go_wp2_with fail;go_at_call 55;refine(clipTxs_c _ _ _ HCL.out).mono ?_;rintro e w6 ⟨rfl,rfl⟩;go_wp2_with fail;refine bodyPost_ret (results_tmp2 rfl _ _ _) rfl ?_;unfold DecA;rw[HE.out];exact⟨HM.out,_,L,rfl,HNW.out,HT.out,rfl⟩
      ·have hd4:decide (0<nl)=true:=Dt (by omega);have hd5:decide ((nl:Int)>0)=true:=Dt (by omega);have HE2:Hid (decP l=none):=Hi (by
        rw[HE.out];cases R with
        |nil=>exact absurd HN.out.2.1.symm h0
        |cons _ _=>rfl)
       go_wp2_with fail;refine bodyPost_ret (results_tmp2 rfl _ _ _) rfl ?_;unfold DecA;rw[HE2.out];exact⟨HM.out,rfl⟩
end
section
attribute [local go_sem↓] wlMsg ldMsg stMsg wlTc ldTc stTc
attribute [local go_sem] mgx_size mgx_ext mgx_one mgx_one0 mg0 mg1 mg2 mg3 mg4 mg37 mg38 mg37' mg38'
def zHdr:Array Value:= #[.int .u8 0,.int .u8 0,.int .u8 0]
theorem ldHdr (w:World) (b o:Nat):(Instr.loadAt 44 (.pointer (some ⟨b,o,none⟩))).run Tryz.prog w=
   match w.heap[b]? with
   |some (.cells cs _ _)=>if o+3≤cs.size then .ok (.agg (cs.extract o (o+3))) w else farL Tryz.prog w 44 b o
   |_=>farL Tryz.prog w 44 b o:=load_rule (d:=_) Tryz.underlying44 rfl (by kernel_rfl) w b o
theorem stHdr (w:World) (b o:Nat) (xs:Array Value):(Instr.storeAt 44 (.pointer (some ⟨b,o,none⟩)) (.agg xs)).run Tryz.prog w=
   match w.heap[b]? with
   |some (.cells cs U (0,0))=>
    if o+3≤cs.size∧xs.size=3∧xs.all (·.oneCell')=true then .ok () (setBlock w b (.cells (if o=0∧3=cs.size then xs else wr cs o xs.toList) U (0,0)))else farS Tryz.prog w 44 b o (.agg xs)
   |_=>farS Tryz.prog w 44 b o (.agg xs):=store_rule (by kernel_rfl) w b o xs
theorem alHdr (w:World):(Instr.alloc 44 true (.tuple #[])).run Tryz.prog w= .ok (.pointer (some ⟨w.heap.size,0,none⟩)) (w.alloc (.cells zHdr 44)):=
 run_alloc_row (z:= .agg zHdr) (fun w=>by kernel_rfl) w
attribute [local go_sem↓] stHs ldHdr stHdr
theorem mgx_hs (v0:Bool) (h0 h1 h2:UInt8) (ka:Option Addr) (kn kc':Nat) (rc:Key) (ia:Option Addr) (n1 c1:Nat) (la:Option Addr) (n2 c2:Nat):(mgx v0 h0 h1 h2 ka kn kc' rc ia n1 c1 la n2 c2).extract 5 37=kc rc:=by
 have:=part_of (pre:=[Value.bool v0,u8v h0,u8v h1,u8v h2,.slice ka kn kc']) (mid:=rc.l.map bc) (post:=[.slice ia n1 c1,.slice la n2 c2]) (a:=5) (b:=37) rfl (by simp[rc.h]);simpa[mgx,mx,kc] using this
theorem mg0' {v0:Bool} {h0 h1 h2:UInt8} {ka:Option Addr} {kn kc':Nat} {rc:Key} {ia:Option Addr} {n1 c1:Nat} {la:Option Addr} {n2 c2:Nat} (h:0<(mgx v0 h0 h1 h2 ka kn kc' rc ia n1 c1 la n2 c2).size):(mgx v0 h0 h1 h2 ka kn kc' rc ia n1 c1 la n2 c2)[0]= .bool v0:=at_get (mg0 ..) h
theorem mg4' {v0:Bool} {h0 h1 h2:UInt8} {ka:Option Addr} {kn kc':Nat} {rc:Key} {ia:Option Addr} {n1 c1:Nat} {la:Option Addr} {n2 c2:Nat} (h:4<(mgx v0 h0 h1 h2 ka kn kc' rc ia n1 c1 la n2 c2).size):(mgx v0 h0 h1 h2 ka kn kc' rc ia n1 c1 la n2 c2)[4]= .slice ka kn kc':=at_get (mg4 ..) h
attribute [local go_sem] mgx_hs mg0' mg4'
def MsgRd (w:World) (r:RdR):Prop:=(SlAt kc 32 w r.ks.a r.ks.l∧r.ks.l.length≤1000000)∧(SlAt inr 3 w r.ins.a r.ins.l∧r.ins.l.length≤1000000∧∀i∈r.ins.l,(SlAt uc 1 w i.a.a i.a.l∧i.a.l.length≤1000000)∧(SlAt uc 1 w i.d.a i.d.l∧i.d.l.length≤1000000))∧
 (SlAt lor 34 w r.lks.a r.lks.l∧r.lks.l.length≤1000000∧∀i∈r.lks.l,(SlAt uc 1 w i.w.a i.w.l∧i.w.l.length≤1000000)∧(SlAt uc 1 w i.r.a i.r.l∧i.r.l.length≤1000000))
theorem MsgRd.mod0 {w w':World} {r:RdR} (h:MsgRd w r) (hm:Mod (fun _=>False) w w'):MsgRd w' r:=
 ⟨⟨h.1.1.mod0 hm,h.1.2⟩,⟨h.2.1.1.mod0 hm,h.2.1.2.1,fun i hi=>⟨⟨(h.2.1.2.2 i hi).1.1.mod0 hm,(h.2.1.2.2 i hi).1.2⟩,⟨(h.2.1.2.2 i hi).2.1.mod0 hm,(h.2.1.2.2 i hi).2.2⟩⟩⟩,
  h.2.2.1.mod0 hm,h.2.2.2.1,fun i hi=>⟨⟨(h.2.2.2.2 i hi).1.1.mod0 hm,(h.2.2.2.2 i hi).1.2⟩,⟨(h.2.2.2.2 i hi).2.1.mod0 hm,(h.2.2.2.2 i hi).2.2⟩⟩⟩
def TxRd (w:World) (r:RdR):Prop:=(SlAt sgc 64 w r.sg.a r.sg.l∧r.sg.l.length≤1000000)∧MsgRd w r
theorem TxRd.mod0 {w w':World} {r:RdR} (h:TxRd w r) (hm:Mod (fun _=>False) w w'):TxRd w' r:=⟨⟨h.1.1.mod0 hm,h.1.2⟩,h.2.mod0 hm⟩
end
section
attribute [local go_sem↓] wlMsg ldMsg stMsg wlTc ldTc stTc
attribute [local go_sem] mgx_size mgx_ext mgx_one mgx_one0 mg0 mg1 mg2 mg3 mg4 mg37 mg38 mg37' mg38'
theorem txr_ms (x:RdR):(txr x).extract 1 40=msr x:=by
 have:=part_of (pre:=[Value.slice x.sg.a x.sg.l.length x.sg.c]) (mid:=(rpre x).drop 2++(x.rc.l.map bc++(rpost x).take 2)) (post:=[]) (a:=1) (b:=40) rfl (by simp[rpre,rpost,x.rc.h]);simpa[txr,msr,mx,rpre,rpost] using this
attribute [local go_sem] txr_ms txr_one'
end
end Go.Proofs.YtceodkliooeccaaGreatDoor