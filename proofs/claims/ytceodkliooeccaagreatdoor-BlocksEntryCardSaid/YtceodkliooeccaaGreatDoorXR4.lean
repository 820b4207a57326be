/- The lemmas of the proof, part XO4: how the program and its data lie in memory, and what its functions do. -/
import Derived.Test.YtceodkliooeccaaGreatDoorXR3
import Derived.Sort.Walk0
import Derived.Lib.Bytes
import Derived.WalkMore
import Derived.OwnWalk
import Derived.Scope
import Derived.Lib.MinMax
import Derived.RangeFuncNested
import Derived.RangeFuncBox
import Derived.RangeFuncLeaves
import Derived.RangeFuncCalls
import Derived.Shelf.Abstract
import Derived.WalkKit
import Derived.OwnWalkIn
import Derived.TacticsInMore
import Derived.LoopNIn
import Derived.LoopIn
import Derived.Maps.AppendAt
set_option linter.unusedSimpArgs false
set_option linter.unusedVariables false
set_option linter.unusedSectionVars false

set_option maxRecDepth 100000
set_option maxHeartbeats 6400000
namespace Go.Proofs.YtceodkliooeccaaGreatDoor
open Go.RowKit
open Go.ChangeMaps (setBlock)
attribute [local go_sem↓] eqKey1 ldAcct ldHash ldHold ldKey ldLim ldOut ldRdy ldSig ldTd ldTx stHash stKey stOut stRdy stSig stTd stTx wlHash wlKey wlLim wlOut wlRdy wlSig wlTd wlTx
attribute [local go_sem] Value.cells av_all av_size cell_blk frozen_blk hd_acct hd_key hd_one hd_size kc_ext kc_one kc_one0 kc_size neMap ocr2 ocr2' ocr3 ocr3' ocr4 ocr4' ocr5 ocr5' ocr_all ocr_one ocr_size one_bool one_int one_map one_ptr one_slice rdr1 rdr1' rdr_all rdr_one rdr_rec rdr_size sgc_ext sgc_one' sgc_one0 sgc_size tdr0 tdr0' tdr41 tdr41' tdr50 tdr50' tdr51 tdr51' tdr52 tdr52' tdr_all tdr_o tdr_one tdr_r tdr_rec tdr_size tdr_tx txr0 txr0' txr38 txr38' txr39 txr39' txr_all txr_one txr_size zHash_size zHold_size zKey_size zLim_size zOut_size zRdy_size zSg_size zTried_size zTx_size
section
attribute [local go_sem↓] eqHash
attribute [local go_sem] zHash_ext zHash_one0
theorem sigIs:IsSigT Tryz.prog 103 5 where
 laid:=laid
 row:=of_decide_eq_true (by kernel_rfl)
 at2:=by kernel_rfl
 u:=Tryz.underlying103
 e:=Tryz.underlying5
 cK:=by kernel_rfl
 cE:=by kernel_rfl
 kt:=by kernel_rfl
theorem sigKT:KeyT Tryz.prog 103 sgv:=sigIs.keyT
theorem eqSig (a b:Sg) (w:World):(Op.equalIn 10000 103 (.agg (sgc a)) (.agg (sgc b))).run Tryz.prog w= .ok (decide (a=b)) w:=sigIs.eqIn 9998 a b w
theorem neMapS (w:World) (r:Option Nat):(binOp .neq 156 (.map r) (.map none)).run Tryz.prog w= .ok (.bool !r.isNone) w:=run_neq_map_nil w _ _ _ _ Tryz.underlying156
attribute [local go_sem↓] eqSig
attribute [local go_sem] neMapS
theorem sthere_c {n a b:Nat} (w:World) (kn:w.heap[n]? =some (.cells #[.map (some a),.map (some b)] 159 (0,0))):Calls Tryz.prog 65 #[ptrV n] w fun e w'=>e= .returned (.bool true)∧w=w':=by
 go_enter Tryz.func65,Tryz.ntmps65
 go_wp2
 go_ret;exact⟨rfl,rfl⟩
theorem zero_hash (w:World):(zeroValue 47).run Tryz.prog w= .ok (.agg (kc key0)) w:=by kernel_rfl
theorem zero_sigs (w:World):(zeroValue 24).run Tryz.prog w= .ok (.slice none 0 0) w:=by kernel_rfl
theorem shas_c {T:Nat→Prop} (n:Nat) (N:List (Sg×Key)) (g:Sg) (w:World) (h:SeAt T w n N):Calls Tryz.prog 66 #[ptrV n,.agg (sgc g)] w fun e w'=>e= .returned (.bool (lkp g N).isSome)∧Mod (fun _=>False) w w':=by
 obtain⟨a,b,es,c,es2,c2,m2,kn,ka,M,-⟩:=h.ex;go_enter Tryz.func66,Tryz.ntmps66;go_upto_region 0 with fail;have Lkn:=Ls kn;have Lka:=Ls ka;refine ZP0 [3,0] ?_;refine Zb fun p3 hp3=> ?_;refine Zv ?_;refine TD.nil (fun w1 hr=> ?_);replace kn:=hr.q kn;replace ka:=hr.q ka;obtain⟨gp3,kp3⟩:=hr.b p3;have m1:=hr.mod;clear hr;go_wp2_with fail;go_at_call 65;refine(sthere_c _ kn).mono ?_;rintro e w2 ⟨rfl,rfl⟩;have hlk:∀wq,Mod (fun _=>False) w1 wq→(Instr.lookup 156 (.map (some a)) (.agg (sgc g)) true).run Tryz.prog wq= .ok (.tuple #[.agg (kc ((lkp g N).getD key0)),.bool (lkp g N).isSome]) wq:=fun wq hq=>by
  have:=M.lookup sigKT Tryz.underlying156 zero_hash wq (hq.at0 ka) g true;rw[if_pos rfl]at this;refine this.trans ?_;cases lkp g N<;>rfl
 generalize hx:(lkp g N).getD key0=x at *;generalize hb:(lkp g N).isSome=is at *;have HB:=Hi hb;clear hx hb M;go_upto_region 3 with fail;have Lkn:=Ls kn;have Lka:=Ls ka;have Lkp3:=Ls kp3;refine ZP [0,0,0,1,1,1,0,0,0,3,4,0] ?_
 iterate 5 first|refine Zv ?_|refine Zd ?_
 (refine TD.lookup (v:= ?v8) (p:= ?p8) (q:= ?q8) (Mod.refl _ _) (by simp only[zK];rfl) rfl (by rfl) rfl ?hx8 ?hz8 (fun wq hSq=> ?y8) ?n8;(case hx8=>simp only[zM];try rfl);(case hz8=>simp only[zM];try rfl);(case y8=>(rw[hlk wq hSq];(try with_reducible rfl)));try simp only[zL])
 iterate 3 refine Zv ?_
 refine Za alHash fun p5 hp5=> ?_;refine Zt ?_;refine Zv ?_;refine TD.nil (fun w3 hr=> ?_);replace kn:=hr.q kn;replace ka:=hr.q ka;replace kp3:=hr.q kp3;obtain⟨gp5,kp5⟩:=hr.b p5;have m3:=m1.then0 hr.mod;clear hlk;go_wp2_with fail;go_ret;exact⟨by rw[HB.out];rfl,m3⟩
theorem bsSig (g:Sg) (w:World):(Instr.buildSlice 24 1 #[(0,.agg (sgc g))]).run Tryz.prog w= .ok (.slice (some ⟨w.heap.size,0,none⟩) 1 1) (w.alloc (.cells (sgc g) 103)):=by
 obtain⟨i0,hi,hz0,hz1,hz2⟩:=info_parts (show(Tryz.prog.info? 103).map (fun i=>(i.zero,i.size,i.bytes))=some (some (.agg zSg),64,64)by kernel_rfl);refine run_buildSlice w _ _ 1 _ _ i0 _ Tryz.underlying24 hi hz0 (by rw[hz1];omega) (by rw[hz1];omega) ?_;rw[hz1];show Instr.fill _ _ [(0,_)]=_;rw[fill_cons (off:=0) (n:=64) rfl (by simp[Value.cells,sgc_size]) (by simp[Value.cells,zSg_size,size_madeCells])];show some (wr _ 0 (sgc g).toList)=_;rw[wr_whole (sgc g) _ (by simp[Value.cells,zSg_size,sgc_size,size_madeCells])]
def markS (N:List (Sg×Key)) (g:Sg) (k:Key):List (Sg×Key):=if(lkp g N).isSome then N else put g k N
theorem SgL.zero (T:Nat→Prop) (B:Nat) (w:World):SgL T B w (.slice none 0 0):=⟨[],SlOwn.nil _ _,(fun g h=>by cases h),Nat.zero_le _⟩
theorem own_blk {α:Type} {f:α→Array Value} {n:Nat} {E:TypeId} {w:World} {base:Nat} {v:Value} {l:List α} (h:SlOwn f n E w base v l) {g:Nat} (hg:v.ownBlock=some g):∃cur,w.heap[g]? =some (.cells cur E (0,0)):=by
 rcases h.2 with⟨rfl,hn⟩|⟨g',cap,cur,rfl,hb,hk,_⟩
 ·cases hg
 ·cases hg;exact⟨cur,hk⟩
theorem own_ne {α:Type} {f:α→Array Value} {n:Nat} {E:TypeId} {w:World} {base:Nat} {v:Value} {l:List α} (h:SlOwn f n E w base v l) {a c:Nat} {es:Array MapEntry} (ka:w.heap[a]? =some (.map es c)):∀g,v.ownBlock=some g→¬g=a:=fun g hg=>by
 obtain⟨cur,hk⟩:=own_blk h hg;exact ne_of_obj hk ka (by simp)
theorem len_put {κ ν:Type} [DecidableEq κ] (k:κ) (v:ν) (m:List (κ×ν)):m.length≤(put k v m).length∧(lkp k m=none→(put k v m).length=m.length+1):=by
 induction m with
 |nil=>simp[put]
 |cons q r ih=>
  simp only[put,lkp];split
  ·rename_i hq;exact⟨by simp,fun h=>by simp[hq]at h⟩
  ·rename_i hq;refine⟨by have:=ih.1;simp only[List.length_cons];omega,fun h=> ?_⟩;have h2:lkp k r=none:=by simpa[hq] using h
   have:=ih.2 h2;simp only[List.length_cons];omega
theorem mark_c {T:Nat→Prop} (n:Nat) (N:List (Sg×Key)) (g:Sg) (k:Key) (w:World) (h:SeAt T w n N) (hT:∀i,T i→i<w.heap.size) (hN:N.length<1000000):Calls Tryz.prog 27 #[ptrV n,.agg (sgc g),.agg (kc k)] w fun e w'=>(∃v,e= .returned v)∧SeAt (fun i=>T i∨(w.heap.size≤i∧i<w'.heap.size)) w' n (markS N g k)∧Mod T w w':=by
 have H:=Hi h;have HT:=Hi hT;have hh0:= @bldHash0;obtain⟨a,b,es,c,es2,c2,m2,kn,ka,M,kb,M2,hab,tn,ta,tb,hm2,hds⟩:=h.ex;have HM:=Hi M;have HM2:=Hi (Ai M2 hm2);have HDS:=Hi hds;have HTT:=Hi (Ai tn (Ai ta tb));clear h hT hh0 M M2 hm2 tn ta tb hds;have hna:n≠a:=ne_of_obj kn ka (by simp);have hnb:n≠b:=ne_of_obj kn kb (by simp);go_enter Tryz.func27,Tryz.ntmps27;go_upto_region 0 with fail;have Lkn:=Ls kn;have Lka:=Ls ka;have Lkb:=Ls kb;refine ZP0 [3,3,0] ?_;refine Zb fun p4 hp4=> ?_;refine Zb fun p5 hp5=> ?_;obtain⟨ne_p5_p4,hp5⟩:=Bx.set_none hp5;refine Zv ?_;refine TD.nil (fun w1 hr=> ?_);replace kn:=hr.q kn;replace ka:=hr.q ka;replace kb:=hr.q kb;obtain⟨gp4,kp4⟩:=hr.b p4 (by first|exact Bx.set_same _ _ _|(simp only[Bx.set_ne _ (Ne.symm ne_p5_p4),Bx.set_ne _ ne_p5_p4,Bx.set_same];rfl));obtain⟨gp5,kp5⟩:=hr.b p5 (by first|exact Bx.set_same _ _ _|(simp only[Bx.set_ne _ (Ne.symm ne_p5_p4),Bx.set_ne _ ne_p5_p4,Bx.set_same];rfl));have m1:=hr.mod;clear hr;go_wp2_with fail;go_at_call 65;refine(sthere_c _ kn).mono ?_;rintro e w2 ⟨rfl,rfl⟩;go_upto_region 3 with fail;go_wp2_with fail;go_at_call 66;refine(shas_c n N g _ (H.out.mod0 m1)).mono ?_;rintro e w2 ⟨rfl,mh⟩;replace kn:=mh.at0 kn;replace ka:=mh.at0 ka;replace kb:=mh.at0 kb;replace kp4:=mh.at0 kp4;replace kp5:=mh.at0 kp5;have m2w:=m1.then0 mh;have HM2w:=Hi m2w;clear m1 mh;cases hl:lkp g N with
 |some x=>
  have HL:=Hi hl;clear hl;rw[Option.isSome_some];go_wp2_with fail;go_ret;refine⟨⟨_,rfl⟩,?_,HM2w.out.mono (fun _ _ h=>h.elim)⟩;rw[show markS N g k=N from if_pos (by rw[HL.out];rfl)];exact(H.out.mod0 HM2w.out).mono (fun i hi=> .inl hi)
 |none=>
  have HL:=Hi hl;clear hl;rw[Option.isSome_none];have hla:a<w.heap.size:=HT.out a HTT.out.2.1;have hlb:b<w.heap.size:=HT.out b HTT.out.2.2;have hp4a:p4≠a:=by omega
  have hp5a:p5≠a:=by omega
  have hp4b:p4≠b:=by omega
  have hp5b:p5≠b:=by omega
  go_upto_region 5 with fail;obtain⟨v0,hv0⟩:∃v0,(lkp k m2).getD (.slice none 0 0)=v0:=⟨_,rfl⟩;have HKA:=Hi ka;have hsg:SgL T N.length w v0:=by
   rw[←hv0];cases hlk:lkp k m2 with
   |some x=>exact HM2.out.2 (k,x) (lkp_mem hlk)
   |none=>exact SgL.zero _ _ _
  obtain⟨ls,hO,hown,hlen⟩:=hsg;have hO2:=hO.mod0 m2w;have hnea:=own_ne hO2 ka;have hneb:=own_ne hO2 kb;have HV0:=Hi hv0;have HOW:=Hi hown;have HLE:=Hi hlen;clear hv0 hO hown hlen;have Lkn:=Ls kn;have Lkp4:=Ls kp4;have Lkp5:=Ls kp5;have Lkb:=Ls kb;have Lka:=Ls ka;refine ZP [0,0,0,1,1,1,5] ?_
  iterate 6 first|refine Zv ?_|refine Zd ?_
  refine Zi fun wE hr=> ?_;replace kn:=hr.mod.at0 kn;replace kp4:=hr.mod.at0 kp4;replace kp5:=hr.mod.at0 kp5;replace kb:=hr.mod.at0 kb;replace ka:=hr.mod.at0 ka;have mE:=hr.mod;obtain⟨es24,cl24,hrun24,Mka⟩:=HM.out.update sigKT Tryz.underlying156 wE ka g k;(refine eff_update (X:= ?X24) (Y:= ?Y24) (Z:= ?Z24) (w':= ?w24) (by simp only[zK];rfl) (by rfl) rfl ?hx24 ?hz24 ?hv24 ?y24 ?n24;(case hx24=>simp only[zM];try rfl);(case hz24=>simp only[zM];try rfl);(case hv24=>(simp only[zM];(try rfl)));(case y24=>exact hrun24));refine ZN ka fun w5 ka mS=> ?_;(try simp only[Array.setIfInBounds,zL]at ka);replace kn:=mS.at_ne kn (by omega);replace kp4:=mS.at_ne kp4 (by omega);replace kp5:=mS.at_ne kp5 (by omega);replace kb:=mS.at_ne kb (by omega);have m5:=(m2w.mono (T:=T) (fun _ _ h=>h.elim)).then ((mE.mono (T:=fun i=>i=a) (fun _ _ h=>h.elim)).trans mS) (fun i _ e=>by rw[e];exact HTT.out.2.1);have HM5:=Hi (Ai m5 Mka);have hO5:=(hO2.mod0 mE).mod mS hnea;have HMA:Hid (Mod (fun i=>i=a) w2 w5∧w2.heap[a]? =some (.map es c)∧True):=Hi ⟨(mE.mono (T:=fun i=>i=a) (fun _ _ h=>h.elim)).trans mS,HKA.out,trivial⟩;have HO5:=Hi (Ai hO5 (Ai hnea hneb));clear m2w mE mS hr m5 Mka hO2 hnea hneb hO5;have hbs:=bsSig g;go_upto_region 6 with fail;have hlen5:w.heap.size≤w5.heap.size:=HM5.out.1.size;have Lkn:=Ls kn;have Lkp4:=Ls kp4;have Lkp5:=Ls kp5;have Lka:=Ls ka;have Lkb:=Ls kb;refine wp_xpass (T0:=fun _=>False) (K:=fun _ _=>True) (κ:=fun i=>[0,0,0,0,0,0,3,6,0,6,0,6].getD i 0) (υ:=fun _=>[]) [0,1,2,3,4,5,6] [7,8,9,10,11] (by kernel_rfl) (by kernel_rfl) (Good.true).cl (trivial) (fun _ h=>h.elim) ?_;have gK:=Good.true
  iterate 3 refine Zg ?_
  refine Zh ?_;refine Zh ?_;refine Zh ?_;(refine TG.bslice (by simp only[zK];rfl) rfl (by rfl) rfl rfl ?hx31 hbs (fun p28 hp28 _=> ?n31);(case hx31=>(simp only[List.map_toArray,List.map_cons,List.map_nil,zM];(try rfl)));try simp only[zL]);refine TG.nil (fun w6 ⟨TR,hr⟩=> ?_);replace kn:=hr.q kn;replace kp4:=hr.q kp4;replace kp5:=hr.q kp5;replace ka:=hr.q ka;replace kb:=hr.q kb;obtain⟨gp28,nTp28,kp28⟩:=hr.b p28;clear gK;have m6:=hr.mod;clear hr hbs;obtain⟨st,es3,c3,hE,ME,hst⟩:=HM2.out.1.entry hashT Tryz.underlying157 (z:=Value.slice none 0 0) zero_sigs w6 kb k;rw[HV0.out]at hE ME;have hO6:=HO5.out.1.mod0 m6;have m7:=mod_set w6 b (.map es3 c3);have kb7:=heap_setBlock w6 (.map es3 c3) (Ls kb);have kn7:=m7.at_ne kn hnb;have ka7:=m7.at_ne ka hab;have hp28b:p28≠b:=by omega
  have kp287:=m7.at_ne kp28 hp28b;have hO7:=hO6.mod m7 HO5.out.2.2;obtain⟨w7,hw7⟩:∃w7,setBlock w6 b (.map es3 c3)=w7:=⟨_,rfl⟩;rw[hw7]at hE m7 kb7 kn7 ka7 kp287 hO7;obtain⟨v8,w8,hap,hO8,m8,hn8⟩:=SlOwn.append sgT (c:=1) (q:=[g]) hO7 (SlAt.one kp287 g rfl (sgc_size g)) (by have:=HLE.out;simp only[List.length_singleton];omega) (by decide) (Nat.zero_le _) 24;have hown7:=own_ne hO7 kb7;have hown7a:=own_ne hO7 ka7;have hown7n:∀i,v0.ownBlock=some i→¬i=n:=fun i hi e=>by
   obtain⟨cur,hk⟩:=own_blk hO7 hi;rw[e,kn7]at hk;cases hk
  have kb8:=m8.at kb7 (fun e=>hown7 b e rfl);have ka8:=m8.at ka7 (fun e=>hown7a a e rfl);have kn8:=m8.at kn7 (fun e=>hown7n n e rfl);obtain⟨es9,c9,hF,M9⟩:=hst w8 v8 kb8;have m9:=mod_set w8 b (.map es9 c9);have kb9:=heap_setBlock w8 (.map es9 c9) (Ls kb8);have kn9:=m9.at_ne kn8 hnb;have ka9:=m9.at_ne ka8 hab;have hO9:=hO8.mod m9 (own_ne hO8 kb8);obtain⟨w9,hw9⟩:∃w9,setBlock w8 b (.map es9 c9)=w9:=⟨_,rfl⟩;rw[hw9]at hF m9 kb9 kn9 ka9 hO9;have hsz7:w.heap.size≤w7.heap.size:=Nat.le_trans hlen5 (Nat.le_trans m6.size m7.size);have hsz9:w7.heap.size≤w9.heap.size:=Nat.le_trans m8.size m9.size;have mF:Mod T w w9:=(((HM5.out.1.then0 m6).then m7 (fun i _ e=>by rw[e];exact HTT.out.2.2)).then m8 (fun i _ e=>HOW.out i e)).then m9 (fun i _ e=>by rw[e];exact HTT.out.2.2);have hT9:∀i,T i→i<w9.heap.size:=fun i hi=>Nat.lt_of_lt_of_le (HT.out i hi) mF.size;have hown8:∀i,v8.ownBlock=some i→T i∨(w.heap.size≤i∧i<w9.heap.size):=fun i hi=>by
   rcases hn8 with e|e
   ·rw[e]at hi;exact .inl (HOW.out i hi)
   ·have hlt:=(hO9.lt i hi).2;rw[e]at hi;cases hi;exact .inr ⟨hsz7,hlt⟩
  have hput:(put g k N).length=N.length+1:=(len_put g k N).2 HL.out;have hE9:SeAt (fun i=>T i∨(w.heap.size≤i∧i<w9.heap.size)) w9 n (markS N g k):=by
   rw[show markS N g k=put g k N from if_neg (by rw[HL.out];simp)];have hmem:∀p∈put k v8 m2,p=(k,v8)∨(p∈m2∧p.1≠k):=fun p hp=>by
    have h1:=lkp_of_mem M9.nodup hp;by_cases hk:p.1=k
    ·left;rw[hk,lkp_put_same]at h1;exact Prod.ext hk (Option.some.inj h1).symm
    ·right;rw[lkp_put_ne hk]at h1;exact⟨lkp_mem h1,hk⟩
   have hv0:∀p∈m2,p.1≠k→∀i,p.2.ownBlock=some i→v0.ownBlock≠some i:=fun p hp hk i hi e=>by
    cases hlk:lkp k m2 with
    |some x=>
     have hx:x=v0:=by have:=HV0.out;rw[hlk]at this;exact this
     subst hx;exact HDS.out p hp (k,x) (lkp_mem hlk) hk i hi e
    |none=>
     have hx:Value.slice none 0 0=v0:=by have:=HV0.out;rw[hlk]at this;exact this
     rw[←hx]at e;cases e
   refine⟨a,b,_,_,es9,c9,put k v8 m2,kn9,ka9,HM5.out.2,kb9,M9,hab,.inl HTT.out.1,.inl HTT.out.2.1,.inl HTT.out.2.2,fun p hp=> ?_,fun p hp q hq hpq i hi hj=> ?_⟩
   ·rcases hmem p hp with rfl|⟨h1,h2⟩
    ·exact⟨ls++[g],hO9,hown8,by rw[hput,List.length_append,List.length_singleton];have:=HLE.out;omega⟩
    ·obtain⟨l2,q1,q2,q3⟩:=HM2.out.2 p h1;have hne:=hv0 p h1 h2;have q1a:=q1.mod0 HM2w.out;have q15:SlOwn sgc 64 103 w5 0 p.2 l2:=q1a.mod HMA.out.1 (own_ne q1a HMA.out.2.1);have q16:=q15.mod0 m6;have q17:=q16.mod m7 (own_ne q16 kb);have q18:=q17.mod m8 (fun i hi e=>hne i hi e);have q19:=q18.mod m9 (own_ne q18 kb8);exact⟨l2,q19,fun i hi=> .inl (q2 i hi),by rw[hput];omega⟩
   ·rcases hmem p hp with rfl|⟨h1,h2⟩
    ·rcases hmem q hq with rfl|⟨h3,h4⟩
     ·exact hpq rfl
     ·rcases hn8 with e|e
      ·rw[e]at hi;exact hv0 q h3 h4 i hj hi
      ·rw[e]at hi;cases hi;obtain⟨_,_,q2,_⟩:=HM2.out.2 q h3;have:=HT.out _ (q2 _ hj);omega
    ·rcases hmem q hq with rfl|⟨h3,h4⟩
     ·rcases hn8 with e|e
      ·rw[e]at hj;exact hv0 p h1 h2 i hi hj
      ·rw[e]at hj;cases hj;obtain⟨_,_,q2,_⟩:=HM2.out.2 p h1;have:=HT.out _ (q2 _ hi);omega
     ·exact HDS.out p h1 q h3 hpq i hi hj
  have HEND:=Hi (Ai hE9 mF);have HRR:=Hi (Ai hE (Ai hap hF));clear hE9 mF hT9 hown8 hput hsz9 hsz7 hO9 hO8 hO7 hO6 hown7 hown7a hown7n kn9 ka9 kb9 kn8 ka8 kb8 kn7 ka7 kb7 m9 m8 m7 m6 M9 ME hst hn8 hw9 hw7 kp287;have hE:=HRR.out.1;have hap:=HRR.out.2.1;have hF:=HRR.out.2.2;simp only[id]at hE hF;(intro iA hiA hbA;simp only[List.mem_cons,List.not_mem_nil,or_false]at hiA;rcases hiA with rfl|rfl|rfl|rfl|rfl)
  ·clear hbA;(refine eff_entry (by simp only[zK];rfl) (by rfl) rfl ?hx32 ?hz32 hE ?n32;(case hx32=>simp only[zM];try rfl);(case hz32=>simp only[zM];try rfl);try simp only[zL]);rw[show([7,8,9,10,11]:List Nat).erase 7=[8,9,10,11]from rfl];(intro iA hiA hbA;simp only[List.mem_cons,List.not_mem_nil,or_false]at hiA;rcases hiA with rfl|rfl|rfl|rfl)
   ·clear hbA;refine Zw ?_;rw[show([8,9,10,11]:List Nat).erase 8=[9,10,11]from rfl];(intro iA hiA hbA;simp only[List.mem_cons,List.not_mem_nil,or_false]at hiA;rcases hiA with rfl|rfl|rfl)
    ·clear hbA;refine ZA hap ?_;rw[show([9,10,11]:List Nat).erase 9=[10,11]from rfl];(intro iA hiA hbA;simp only[List.mem_cons,List.not_mem_nil,or_false]at hiA;rcases hiA with rfl|rfl)
     ·clear hbA;refine Zw ?_;rw[show([10,11]:List Nat).erase 10=[11]from rfl];(intro iA hiA hbA;simp only[List.mem_cons,List.not_mem_nil,or_false]at hiA;subst hiA)
      ·clear hbA;(refine eff_estore (by simp only[zK];rfl) (by rfl) rfl ?hx36 ?hz36 ?hv36 hF ?n36;(case hx36=>simp only[zM];try rfl);(case hz36=>simp only[zM];try rfl);(case hv36=>(simp only[zM];(try rfl)));try simp only[zL]);rw[show([11]:List Nat).erase 11=[]from rfl];refine allE_nil ?_;go_wp2_with fail;go_ret;exact⟨⟨_,rfl⟩,HEND.out⟩
     ·exact no_head (by kernel_rfl) hbA
    ·clear hbA;refine Zw ?_;rw[show([9,10,11]:List Nat).erase 10=[9,11]from rfl];(intro iA hiA hbA;simp only[List.mem_cons,List.not_mem_nil,or_false]at hiA;rcases hiA with rfl|rfl)
     ·clear hbA;refine ZA hap ?_;rw[show([9,11]:List Nat).erase 9=[11]from rfl];(intro iA hiA hbA;simp only[List.mem_cons,List.not_mem_nil,or_false]at hiA;subst hiA)
      ·clear hbA;(refine eff_estore (by simp only[zK];rfl) (by rfl) rfl ?hx39 ?hz39 ?hv39 hF ?n39;(case hx39=>simp only[zM];try rfl);(case hz39=>simp only[zM];try rfl);(case hv39=>(simp only[zM];(try rfl)));try simp only[zL]);rw[show([11]:List Nat).erase 11=[]from rfl];refine allE_nil ?_;go_wp2_with fail;go_ret;exact⟨⟨_,rfl⟩,HEND.out⟩
     ·exact no_head (by kernel_rfl) hbA
    ·exact no_head (by kernel_rfl) hbA
   ·exact no_head (by kernel_rfl) hbA
   ·clear hbA;refine Zw ?_;rw[show([8,9,10,11]:List Nat).erase 10=[8,9,11]from rfl];(intro iA hiA hbA;simp only[List.mem_cons,List.not_mem_nil,or_false]at hiA;rcases hiA with rfl|rfl|rfl)
    ·clear hbA;refine Zw ?_;rw[show([8,9,11]:List Nat).erase 8=[9,11]from rfl];(intro iA hiA hbA;simp only[List.mem_cons,List.not_mem_nil,or_false]at hiA;rcases hiA with rfl|rfl)
     ·clear hbA;refine ZA hap ?_;rw[show([9,11]:List Nat).erase 9=[11]from rfl];(intro iA hiA hbA;simp only[List.mem_cons,List.not_mem_nil,or_false]at hiA;subst hiA)
      ·clear hbA;(refine eff_estore (by simp only[zK];rfl) (by rfl) rfl ?hx43 ?hz43 ?hv43 hF ?n43;(case hx43=>simp only[zM];try rfl);(case hz43=>simp only[zM];try rfl);(case hv43=>(simp only[zM];(try rfl)));try simp only[zL]);rw[show([11]:List Nat).erase 11=[]from rfl];refine allE_nil ?_;go_wp2_with fail;go_ret;exact⟨⟨_,rfl⟩,HEND.out⟩
     ·exact no_head (by kernel_rfl) hbA
    ·exact no_head (by kernel_rfl) hbA
    ·exact no_head (by kernel_rfl) hbA
   ·exact no_head (by kernel_rfl) hbA
  ·exact no_head (by kernel_rfl) hbA
  ·exact no_head (by kernel_rfl) hbA
  ·exact no_head (by kernel_rfl) hbA
  ·exact no_head (by kernel_rfl) hbA
end
section
attribute [local go_sem↓] eqHash eqSig
attribute [local go_sem] zHash_ext zHash_one0 neMapS
def snr (x:Sg×Key):Array Value:=sgc x.1++kc x.2
theorem snr_size (x:Sg×Key):(snr x).size=96:=by simp[snr,sgc_size]
theorem snr_one' (x:Sg×Key):(snr x).all (·.oneCell')=true:=by
 unfold snr;rw[Array.all_append,sgc_one',kc_one];rfl
theorem snr_sig (x:Sg×Key):(snr x).extract 0 64=sgc x.1:=by
 unfold snr;have h:=sgc_size x.1;apply Array.toList_inj.1;have hl:(sgc x.1).toList.length=64:=by rw[Array.length_toList,h]
 rw[Array.toList_extract,Array.toList_append];simp only[List.extract,List.drop_zero,Nat.sub_zero];rw[List.take_append_of_le_length (by omega),List.take_of_length_le (by omega)]
def zSeen:Array Value:=snr (sig0,key0)
theorem zSeen_size:zSeen.size=96:=snr_size _
attribute [local go_sem] snr_size zSeen_size
theorem seenT:ElT Tryz.prog 170 175 snr 96 96 where
 u:=Tryz.underlying170
 info:=by
  obtain⟨i0,hi,hz0,hz1,hz2⟩:=info_parts (show(Tryz.prog.info? 175).map (fun i=>(i.zero,i.size,i.bytes))=some (some (.agg zSeen),96,96)by kernel_rfl);exact⟨i0,_,hi,hz0,hz1,hz2,by simp[Value.cells,zSeen_size]⟩
 pos:=by omega
 size:=snr_size
 one x:=by
  have:=snr_one' x;rw[Array.all_eq_true_iff_forall_mem]at this;intro u hu;exact this u (by simpa using hu)
theorem bldSeen (g:Sg) (k:Key) (w:World):(Instr.build 175 #[(0,.agg (sgc g)),(1,.agg (kc k))]).run Tryz.prog w= .ok (.agg (snr (g,k))) w:=by
 refine run_build_struct (z:= .agg zSeen) (places:= #[(0,64),(64,32)]) Tryz.underlying175 (fun w=>by kernel_rfl) (fun w=>by kernel_rfl) ?_ w;show Instr.fill _ zSeen [(0,_),(1,_)]=_;have hk:(kc k).toList.length=32:=by simp
 have hl:(sgc g).toList.length=64:=by rw[Array.length_toList,sgc_size]
 have hz:zSeen.toList.length=96:=by rw[Array.length_toList,zSeen_size]
 rw[fill_cons (off:=0) (n:=64) rfl (by simp[Value.cells,sgc_size]) (by rw[zSeen_size];omega),fill_cons (off:=64) (n:=32) rfl (by simp[Value.cells]) (by rw[wr_size,zSeen_size];omega)];show some _=some _;congr 1;apply Array.toList_inj.1;rw[wr_list _ _ _ (by rw[wr_size,zSeen_size];simp[Value.cells]),wr_list _ _ _ (by rw[zSeen_size];simp[Value.cells,sgc_size])];simp only[Value.cells,snr,Array.toList_append,List.take_zero,List.nil_append,hk,hl];rw[List.take_append_of_le_length (by omega),List.take_of_length_le (by omega),List.drop_of_length_le (by simp[hl,hz]),List.append_nil]
theorem bsSeen (x:Sg×Key) (w:World):(Instr.buildSlice 170 1 #[(0,.agg (snr x))]).run Tryz.prog w= .ok (.slice (some ⟨w.heap.size,0,none⟩) 1 1) (w.alloc (.cells (snr x) 175)):=by
 obtain⟨i0,hi,hz0,hz1,hz2⟩:=info_parts (show(Tryz.prog.info? 175).map (fun i=>(i.zero,i.size,i.bytes))=some (some (.agg zSeen),96,96)by kernel_rfl);refine run_buildSlice w _ _ 1 _ _ i0 _ Tryz.underlying170 hi hz0 (by rw[hz1];omega) (by rw[hz1];omega) ?_;rw[hz1];show Instr.fill _ _ [(0,_)]=_;rw[fill_cons (off:=0) (n:=96) rfl (by simp[Value.cells,snr_size]) (by simp[Value.cells,zSeen_size,size_madeCells])];show some (wr _ 0 (snr x).toList)=_;rw[wr_whole (snr x) _ (by simp[Value.cells,zSeen_size,snr_size,size_madeCells])]
def DS (T:Nat→Prop) (w:World) (o:Nat) (M:List (Sg×Key)):Prop:=∃v,w.heap[o]? =some (.cells #[v] 172 (0,0))∧SlOwn snr 96 175 w 0 v M∧T o∧(∀g,v.ownBlock=some g→T g)
theorem DS.mod {T S:Nat→Prop} {w w':World} {o:Nat} {M:List (Sg×Key)} (h:DS T w o M) (hm:Mod S w w') (hS:∀i,T i→¬S i):DS T w' o M:=by
 obtain⟨v,h1,h2,h3,h4⟩:=h;exact⟨v,hm.at h1 (hS _ h3),h2.mod hm (fun b hb=>hS b (h4 b hb)),h3,h4⟩
theorem DS.mod0 {T:Nat→Prop} {w w':World} {o:Nat} {M:List (Sg×Key)} (h:DS T w o M) (hm:Mod (fun _=>False) w w'):DS T w' o M:=h.mod hm (fun _ _ h=>h)
theorem DS.mono {T T':Nat→Prop} {w:World} {o:Nat} {M:List (Sg×Key)} (h:DS T w o M) (hT:∀i,T i→T' i):DS T' w o M:=by
 obtain⟨v,h1,h2,h3,h4⟩:=h;exact⟨v,h1,h2,hT _ h3,fun g hg=>hT _ (h4 g hg)⟩
theorem snew_c (w:World):Calls Tryz.prog 26 #[] w fun e w'=>∃o,e= .returned (ptrV o)∧w.heap.size≤o∧o<w'.heap.size∧DS (fun i=>i=o) w' o []∧Mod (fun _=>False) w w':=by
 have hb:∀w,(Instr.build 172 #[]).run Tryz.prog w= .ok (.agg #[.slice none 0 0]) w:=fun w=>by kernel_rfl
 go_enter Tryz.func26,Tryz.ntmps26;go_wp2_with fail;go_ret;exact⟨_,rfl,Nat.le_refl _,Ls (heap_alloc_new _ _),⟨_,heap_alloc_new _ _,SlOwn.nil _ _,rfl,fun g h=>by cases h⟩,(Mod.refl _ _).alloc _⟩
theorem seen_at {w:World} {a:Option Addr} {l:List (Sg×Key)} (h:SlAt snr 96 w a l) {i:Nat} {x:Sg×Key} (hx:l[i]? =some x):∃g o C U fr,a=some ⟨g,o,none⟩∧w.heap[g]? =some (.cells C U fr)∧C.extract (o+i*96) (o+i*96+64)=sgc x.1∧o+i*96+96≤C.size:=by
 obtain⟨g,o,C,U,fr,e,hk,he,hle⟩:=h.block hx;refine⟨g,o,C,U,fr,e,hk,?_,hle⟩;rw[←snr_sig,←he];simp[Array.extract_extract]
theorem rhas_c {T:Nat→Prop} (h:Nat) (M:List (Sg×Key)) (k:Sg) (w:World) (hD:DS T w h M):Calls Tryz.prog 67 #[ptrV h,.agg (sgc k)] w fun e w'=>(∃b,e= .returned (.bool b))∧Mod (fun _=>False) w w':=by
 obtain⟨v,kh,hO,-,-⟩:=hD;obtain⟨a,c,rfl,hL,_,hmax⟩:=hO.at seenT;have HL:=Hi hL;simp only[maxLen]at hmax;clear hL hO;go_enter Tryz.func67,Tryz.ntmps67;go_upto_region 0 with fail;have Lkh:=Ls kh;refine ZP0 [3,0] ?_;refine Zb fun p3 hp3=> ?_;refine Zv ?_;refine TD.nil (fun w1 hr=> ?_);replace kh:=hr.q kh;obtain⟨gp3,kp3⟩:=hr.b p3;have m1:=hr.mod;clear hr;go_wp2_with fail;go_loopw [5] (fun s5 ws=>∃i:Nat,i≤M.length∧s5= .int .i64 (i:Int)∧Mod (fun _=>False) w1 ws) (fun s5 _=>M.length-(intOf s5).toNat)
 case atStart=>exact⟨0,Nat.zero_le _,rfl,Mod.refl _ _⟩
 case round=>
  obtain⟨i,hi,rfl,hm⟩:=hrel;replace kh:=hm.at0 kh;replace kp3:=hm.at0 kp3;by_cases hlt:i<M.length
  ·have hd:=Dt hlt;obtain⟨x,hx⟩:∃x,M[i]? =some x:=⟨_,List.getElem?_eq_getElem hlt⟩;obtain⟨g,o,C,U,fr,rfl,kg,he,hle⟩:=seen_at (HL.out.mod0 (m1.then0 hm)) hx;have hle2:o+i*96+64≤C.size:=by omega
   clear hx;by_cases hxk:x.1=k
   ·have hne:=Dt hxk;clear hxk;go_upto_region 4 with fail;have Lkh:=Ls kh;have Lkg:=Ls kg;have Lkp3:=Ls kp3;refine ZP [0,0,0,1,0,0,0,1,1,0] ?_
    iterate 10 first|refine Zv ?_|refine Zd ?_
    refine TD.nil (fun w3 hr=> ?_);replace kh:=hr.q kh;replace kg:=hr.q kg;replace kp3:=hr.q kp3;have hm3:=hm.then0 hr.mod;clear hr;go_wp2_with fail;go_ret;exact⟨⟨_,rfl⟩,m1.then0 hm3⟩
   ·have hne:=Df hxk;clear hxk;go_upto_region 4 with fail;have Lkh:=Ls kh;have Lkg:=Ls kg;have Lkp3:=Ls kp3;refine ZP [0,0,0,1,0,0,0,1,1,0] ?_
    iterate 10 first|refine Zv ?_|refine Zd ?_
    refine TD.nil (fun w3 hr=> ?_);replace kh:=hr.q kh;replace kg:=hr.q kg;replace kp3:=hr.q kp3;have hm3:=hm.then0 hr.mod;clear hr;go_wp2_with fail;go_roundw
    case rel=>exact⟨i+1,by omega,by go_num,hm3⟩
    case measure=>simp[intOf];omega
  ·have hd:=Df hlt;go_wp2_with fail;go_ret;exact⟨⟨_,rfl⟩,m1.then0 hm⟩
theorem rmark_c {T:Nat→Prop} (h:Nat) (M:List (Sg×Key)) (g:Sg) (k:Key) (w:World) (hD:DS T w h M) (hT:∀i,T i→i<w.heap.size) (hM:M.length<1000000):Calls Tryz.prog 28 #[ptrV h,.agg (sgc g),.agg (kc k)] w fun e w'=>(∃v,e= .returned v)∧(∃M',M'.length≤M.length+1∧DS (fun i=>T i∨(w.heap.size≤i∧i<w'.heap.size)) w' h M')∧Mod T w w':=by
 have H:=Hi hD;have HT:=Hi hT;have HMM:=Hi hM;obtain⟨v,kh,hO,t1,t2⟩:=hD;obtain⟨a,c,rfl,_,_,_⟩:=hO.at seenT;have HO:=Hi (Ai hO (Ai t1 t2));clear hO t1 t2 hT hM;go_enter Tryz.func28,Tryz.ntmps28;go_upto_region 0 with fail;have Lkh:=Ls kh;refine ZP0 [3,3,0] ?_;refine Zb fun p4 hp4=> ?_;refine Zb fun p5 hp5=> ?_;obtain⟨ne_p5_p4,hp5⟩:=Bx.set_none hp5;refine Zv ?_;refine TD.nil (fun w1 hr=> ?_);replace kh:=hr.q kh;obtain⟨gp4,kp4⟩:=hr.b p4 (by first|exact Bx.set_same _ _ _|(simp only[Bx.set_ne _ (Ne.symm ne_p5_p4),Bx.set_ne _ ne_p5_p4,Bx.set_same];rfl));obtain⟨gp5,kp5⟩:=hr.b p5 (by first|exact Bx.set_same _ _ _|(simp only[Bx.set_ne _ (Ne.symm ne_p5_p4),Bx.set_ne _ ne_p5_p4,Bx.set_same];rfl));have m1:=hr.mod;clear hr;go_wp2_with fail;go_at_call 67;refine(rhas_c h M g _ (H.out.mod0 m1)).mono ?_;rintro e w2 ⟨⟨b,rfl⟩,mh⟩;replace kh:=mh.at0 kh;replace kp4:=mh.at0 kp4;replace kp5:=mh.at0 kp5;have m2:=m1.then0 mh;have HM2:=Hi m2;clear m1 mh;cases b with
 |true=>
  go_wp2_with fail;go_ret;exact⟨⟨_,rfl⟩,⟨M,by omega,(H.out.mod0 HM2.out).mono (fun i hi=> .inl hi)⟩,HM2.out.mono (fun _ _ h=>h.elim)⟩
 |false=>
  have hbl:=bldSeen g k;have hbs:=bsSeen (g,k);generalize hll:M.length=ll at *;have HLL:=Hi hll;clear hll;go_upto_region 3 with fail;have Lkh:=Ls kh;have Lkp4:=Ls kp4;have Lkp5:=Ls kp5;refine ZP [0,0,0,0,1,1,1,0,3,5,0,0,6] ?_
  iterate 7 first|refine Zv ?_|refine Zd ?_
  refine Zu hbl ?_;refine Zy hbs fun p18 hp18=> ?_;refine Zi fun w3 hr=> ?_;replace kh:=hr.q kh;replace kp4:=hr.q kp4;replace kp5:=hr.q kp5;obtain⟨gp18,kp18⟩:=hr.b p18;have m3:=hr.mod;clear hr hbs hbl;have hO3:=(HO.out.1.mod0 HM2.out).mod0 m3;obtain⟨v4,w4,hap,hO4,m4,hn4⟩:=SlOwn.append seenT (q:=[(g,k)]) (c:=1) hO3 (SlAt.one kp18 (g,k) rfl (snr_size _)) (by have:=HMM.out;have:=HLL.out;simp only[List.length_singleton];omega) (by decide) (Nat.zero_le _) 170;have hne:∀i,(Value.slice a ll c).ownBlock=some i→¬i=h:=fun i hi e=>by
   obtain⟨cur,hk⟩:=own_blk hO3 hi;rw[e,kh]at hk;cases hk
  replace kh:=m4.at kh (fun e=>hne h e rfl);have mF:=((HM2.out.mono (T:=T) (fun _ _ h=>h.elim)).then0 m3).then m4 (fun i _ e=>HO.out.2.2 i e);have HF:=Hi (Ai hO4 (Ai mF (Ai hn4 hne)));have HS3:=Hi (Nat.le_trans HM2.out.size m3.size);obtain⟨v5,hv5⟩:∃v5,v4=v5:=⟨_,rfl⟩;obtain⟨a4,c4,hv4,_⟩:=hO4.at seenT;rw[hv4]at hap;have HV4:=Hi hv4;clear hO3 hO4 m4 mF hn4 hne m3 m2 hv5 hv4;refine ZA hap ?_;refine Ze ?_;refine Ze ?_;refine Zz ?_;refine ZS ?_;refine ZN kh fun wn kh mS=> ?_;(try simp only[Array.setIfInBounds,zL]at kh);go_wp2_with fail;go_ret;replace kh:wn.heap[h]? =some (.cells #[v4] 172 (0,0)):=by rw[HV4.out,List.length_append];exact kh
  have hne4:∀i,v4.ownBlock=some i→¬i=h:=fun i hi e=>by
   rcases HF.out.2.2.1 with e2|e2
   ·rw[e2]at hi;exact HF.out.2.2.2 i hi e
   ·rw[e2]at hi;cases hi;have h1:=HT.out h HO.out.2.1;have h2:=HS3.out;omega
  refine⟨⟨_,rfl⟩,⟨M++[(g,k)],by simp[HLL.out],v4,kh,HF.out.1.mod mS hne4,.inl HO.out.2.1,fun i hi=> ?_⟩,HF.out.2.1.then mS (fun i _ e=>by rw[e];exact HO.out.2.1)⟩;rcases HF.out.2.2.1 with e2|e2
  ·rw[e2]at hi;exact .inl (HO.out.2.2 i hi)
  ·have hlt:=(HF.out.1.lt i hi).2;rw[e2]at hi;cases hi;exact .inr ⟨HS3.out,Nat.lt_of_lt_of_le hlt mS.size⟩
end
section
attribute [local go_sem↓] eqAcct
def PutPost (w:World) (p b:Nat) (m:List (Key×Acct)) (w':World):Prop:=StAt w' p b m∧Mod (fun i=>i=b) w w'
theorem put_zero (p b:Nat) (m:List (Key×Acct)) (k:Key) (w:World) (h:StAt w p b m):Calls Tryz.prog 60 #[.pointer (some ⟨p,0,none⟩),.agg (kc k),.agg (av acct0)] w fun e w'=>e= .returned (.int .i64 0)∧PutPost w p b (del k m) w':=by
 obtain⟨kp,es,cl,kb,M⟩:=id h;obtain⟨lp,lb,hpb⟩:=h.lt;have H:=Hi h;clear h lp lb;have hb0:=build0;go_enter Tryz.func60,Tryz.ntmps60;go_upto_region 0 with fail;have Lkp:=Ls kp;have Lkb:=Ls kb;refine ZP0 [3,3,0] ?_;refine Zb fun p4 hp4=> ?_;refine Zb fun p5 hp5=> ?_;obtain⟨ne_p5_p4,hp5⟩:=Bx.set_none hp5;refine Zv ?_;refine TD.nil (fun w1 hr=> ?_);replace kp:=hr.q kp;replace kb:=hr.q kb;obtain⟨gp4,kp4⟩:=hr.b p4 (by first|exact Bx.set_same _ _ _|(simp only[Bx.set_ne _ (Ne.symm ne_p5_p4),Bx.set_ne _ ne_p5_p4,Bx.set_same];rfl));obtain⟨gp5,kp5⟩:=hr.b p5 (by first|exact Bx.set_same _ _ _|(simp only[Bx.set_ne _ (Ne.symm ne_p5_p4),Bx.set_ne _ ne_p5_p4,Bx.set_same];rfl));have m1:=hr.mod;go_wp2_with fail;go_at_call 107;refine(there_c p b m _ (H.out.mod0 m1)).mono ?_;rintro e w2 ⟨rfl,rfl⟩;go_upto_region 3 with fail;have hne4:p4≠b:=ne_of_obj kp4 kb (by simp);have hne5:p5≠b:=ne_of_obj kp5 kb (by simp);have Lkp:=Ls kp;have Lkb:=Ls kb;have Lkp4:=Ls kp4;have Lkp5:=Ls kp5;refine ZP0 [1,0,0] ?_;refine Zd ?_;refine Zu hb0 ?_;refine Zv ?_;refine TD.nil (fun w3 hr=> ?_);replace kp:=hr.q kp;replace kb:=hr.q kb;replace kp4:=hr.q kp4;replace kp5:=hr.q kp5;have m3:=m1.then0 hr.mod;clear hb0;go_upto_region 4 with fail;have Lkp:=Ls kp;have Lkp4:=Ls kp4;have Lkp5:=Ls kp5;have Lkb:=Ls kb;refine ZP [0,0,0,1,1,5] ?_
 iterate 5 first|refine Zv ?_|refine Zd ?_
 refine Zi fun wE hr=> ?_;replace kp:=hr.mod.at0 kp;replace kp4:=hr.mod.at0 kp4;replace kp5:=hr.mod.at0 kp5;replace kb:=hr.mod.at0 kb;have mE:=hr.mod;obtain⟨es12,hrun12,Mkb⟩:=M.delete (ty:=_) keyT Tryz.underlying150 wE kb k;(refine eff_delete (X:= ?X12) (Y:= ?Y12) (v:= ?v12) (w':= ?w12) (by simp only[zK];rfl) (by rfl) rfl ?hx12 ?hz12 ?y12 ?n12;(case hx12=>simp only[zM];try rfl);(case hz12=>simp only[zM];try rfl);(case y12=>exact hrun12));refine ZN kb fun w4 kb mS=> ?_;(try simp only[Array.setIfInBounds,zL]at kb);replace kp:=mS.at_ne kp (by omega);replace kp4:=mS.at_ne kp4 (by omega);replace kp5:=mS.at_ne kp5 (by omega);have m4:=(m3.mono (T:=fun i=>i=b) (fun _ _ h=>h.elim)).then (mE.mono (T:=fun i=>i=b) (fun _ _ h=>h.elim)) (fun _ _ h=>h);have m5:=m4.then mS (fun _ _ h=>h);go_wp2_with fail;go_ret;exact⟨rfl,⟨kp,_,_,kb,Mkb⟩,m5⟩
theorem put_some (p b:Nat) (m:List (Key×Acct)) (k:Key) (a:Acct) (w:World) (h:StAt w p b m) (ha:¬a=acct0):Calls Tryz.prog 60 #[.pointer (some ⟨p,0,none⟩),.agg (kc k),.agg (av a)] w fun e w'=>e= .returned (.int .i64 0)∧PutPost w p b (put k a m) w':=by
 obtain⟨kp,es,cl,kb,M⟩:=id h;obtain⟨lp,lb,hpb⟩:=h.lt;have H:=Hi h;clear h lp lb;have hb0:=build0;go_enter Tryz.func60,Tryz.ntmps60;go_upto_region 0 with fail;have Lkp:=Ls kp;have Lkb:=Ls kb;refine ZP0 [3,3,0] ?_;refine Zb fun p4 hp4=> ?_;refine Zb fun p5 hp5=> ?_;obtain⟨ne_p5_p4,hp5⟩:=Bx.set_none hp5;refine Zv ?_;refine TD.nil (fun w1 hr=> ?_);replace kp:=hr.q kp;replace kb:=hr.q kb;obtain⟨gp4,kp4⟩:=hr.b p4 (by first|exact Bx.set_same _ _ _|(simp only[Bx.set_ne _ (Ne.symm ne_p5_p4),Bx.set_ne _ ne_p5_p4,Bx.set_same];rfl));obtain⟨gp5,kp5⟩:=hr.b p5 (by first|exact Bx.set_same _ _ _|(simp only[Bx.set_ne _ (Ne.symm ne_p5_p4),Bx.set_ne _ ne_p5_p4,Bx.set_same];rfl));have m1:=hr.mod;go_wp2_with fail;go_at_call 107;refine(there_c p b m _ (H.out.mod0 m1)).mono ?_;rintro e w2 ⟨rfl,rfl⟩;go_upto_region 3 with fail;have hne4:p4≠b:=ne_of_obj kp4 kb (by simp);have hne5:p5≠b:=ne_of_obj kp5 kb (by simp);have Lkp:=Ls kp;have Lkb:=Ls kb;have Lkp4:=Ls kp4;have Lkp5:=Ls kp5;refine ZP0 [1,0,0] ?_;refine Zd ?_;refine Zu hb0 ?_;refine Zv ?_;refine TD.nil (fun w3 hr=> ?_);replace kp:=hr.q kp;replace kb:=hr.q kb;replace kp4:=hr.q kp4;replace kp5:=hr.q kp5;have m3:=m1.then0 hr.mod;clear hb0;go_upto_region 6 with fail;have Lkp:=Ls kp;have Lkp4:=Ls kp4;have Lkp5:=Ls kp5;have Lkb:=Ls kb;refine ZP [0,0,0,1,1,1,5] ?_
 iterate 6 first|refine Zv ?_|refine Zd ?_
 refine Zi fun wE hr=> ?_;replace kp:=hr.mod.at0 kp;replace kp4:=hr.mod.at0 kp4;replace kp5:=hr.mod.at0 kp5;replace kb:=hr.mod.at0 kb;have mE:=hr.mod;obtain⟨es25,cl25,hrun25,Mkb⟩:=M.update keyT Tryz.underlying150 wE kb k a;(refine eff_update (X:= ?X25) (Y:= ?Y25) (Z:= ?Z25) (w':= ?w25) (by simp only[zK];rfl) (by rfl) rfl ?hx25 ?hz25 ?hv25 ?y25 ?n25;(case hx25=>simp only[zM];try rfl);(case hz25=>simp only[zM];try rfl);(case hv25=>(simp only[zM];(try rfl)));(case y25=>exact hrun25));refine ZN kb fun w4 kb mS=> ?_;(try simp only[Array.setIfInBounds,zL]at kb);replace kp:=mS.at_ne kp (by omega);replace kp4:=mS.at_ne kp4 (by omega);replace kp5:=mS.at_ne kp5 (by omega);have m4:=(m3.mono (T:=fun i=>i=b) (fun _ _ h=>h.elim)).then (mE.mono (T:=fun i=>i=b) (fun _ _ h=>h.elim)) (fun _ _ h=>h);have m5:=m4.then mS (fun _ _ h=>h);go_wp2_with fail;go_ret;exact⟨rfl,⟨kp,_,_,kb,Mkb⟩,m5⟩
theorem put_c (p b:Nat) (m:List (Key×Acct)) (k:Key) (a:Acct) (w:World) (h:StAt w p b m):Calls Tryz.prog 60 #[.pointer (some ⟨p,0,none⟩),.agg (kc k),.agg (av a)] w fun e w'=>e= .returned (.int .i64 0)∧PutPost w p b (putA m k a) w':=by
 by_cases ha:a=acct0
 ·subst ha;rw[show putA m k acct0=del k m from if_pos rfl];exact put_zero p b m k w h
 ·rw[show putA m k a=put k a m from if_neg ha];exact put_some p b m k a w h ha
end
section
attribute [local go_sem↓] eqAcct
def klt (a b:Key):Bool:=Op.bytesLess a.l b.l
theorem klt_iff (a b:Key):klt a b=true↔a.l<b.l:=by
 unfold klt;rw[bytesLess_eq];simp
theorem klt_irrefl (a:Key):klt a a=false:=by
 rw[Bool.eq_false_iff,ne_eq,klt_iff];exact List.lt_irrefl _
theorem klt_trans {a b c:Key} (h:klt a b=true) (k:klt b c=true):klt a c=true:=by
 rw[klt_iff]at *;exact List.lt_trans h k
theorem klt_total (a b:Key):klt a b=true∨a=b∨klt b a=true:=by
 rw[klt_iff,klt_iff];by_cases h:a.l<b.l
 ·exact .inl h
 ·by_cases h2:b.l<a.l
  ·exact .inr (.inr h2)
  ·exact .inr (.inl (Key.ext (List.le_antisymm (List.not_lt.1 h2) (List.not_lt.1 h))))
def bytesOfL (l:List UInt8):ByteArray:=⟨l.toArray⟩
theorem hd_part {C:Array Value} {b:Nat} {x:Hold} (h:C.extract b (b+66)=hd x):C.extract b (b+32)=kc x.k∧C.extract (b+32) (b+32+34)=av x.a:=by
 have h1:=congrArg (fun A:Array Value=>A.extract 0 32) h;have h2:=congrArg (fun A:Array Value=>A.extract 32 66) h;simp only[Array.extract_extract,hd_key,hd_acct]at h1 h2;rw[show min (b+32) (b+66)=b+32 by omega,Nat.add_zero]at h1;rw[show min (b+66) (b+66)=b+32+34 by omega]at h2;exact⟨h1,h2⟩
theorem bytesOfL_list (l:List UInt8):(bytesOfL l).toList=l:=by
 rw[show(bytesOfL l).toList=(bytesOfL l).data.toList from Lib.toList_data _];rfl
theorem convKey {w:World} {b o:Nat} {C:Array Value} {U:TypeId} {fr:Nat×Nat} {k:Key} (hb:w.heap[b]? =some (.cells C U fr)) (he:C.extract o (o+32)=kc k):
  (convert 42 9 (.slice (some ⟨b,o,none⟩) 32 32)).run Tryz.prog w= .ok (.string (bytesOfL k.l)) w:=by
 have:=run_convert_bytes_back (P:=Tryz.prog) w 42 9 5 ⟨b,o,none⟩ 32 k.l Tryz.underlying42 Tryz.underlying5 Tryz.underlying9 (fun j hj=>by
  have h2:=cell_in hb he (j:=j) (v:=bc (k.l[j])) (by simp[kc,hj]);have hadd:(⟨b,o,none⟩:Addr).add j=⟨b,o+j,none⟩:=by
   unfold Addr.add;split<;>simp_all
  rw[hadd];exact h2)
 rw[k.h]at this;exact this
theorem oneNew (w:World) (h:Hold):SlAt hd 66 (w.alloc (.cells (hd h) 166)) (some ⟨w.heap.size,0,none⟩) [h]:=by
 have hb:=heap_alloc_new w (.cells (hd h) 166);exact SlAt.one hb h rfl (hd_size h)
theorem bsHold (h:Hold) (w:World):(Instr.buildSlice 22 1 #[(0,.agg (hd h))]).run Tryz.prog w= .ok (.slice (some ⟨w.heap.size,0,none⟩) 1 1) (w.alloc (.cells (hd h) 166)):=by
 obtain⟨i0,z,hi,hz,hz1,hz2,hz3⟩:=holdT.info;refine run_buildSlice w _ _ 1 _ _ i0 _ Tryz.underlying22 hi hz (by rw[hz1];omega) (by rw[hz1];omega) ?_;rw[hz1];show Instr.fill _ _ [(0,Value.agg (hd h))]=_;rw[fill_cons (off:=0) (n:=66) rfl (show((Value.agg (hd h)).cells).size=66 from hd_size _) (by simp)];show some (wr _ 0 _)=_;rw[wr_whole _ _ (by simp[Value.cells,hd_size])];rfl
def RAt (w:World) (r:Nat) (L:List Hold):Prop:=∃v,w.heap[r]? =some (.cells #[v] 161 (0,0))∧SlOwn hd 66 166 w 0 v L
theorem own_cells {w:World} {base:Nat} {v:Value} {l:List Hold} {k:Nat} (h:SlOwn hd 66 166 w base v l) (hk:v.ownBlock=some k):∃cur,w.heap[k]? =some (.cells cur 166 (0,0)):=by
 rcases h.2 with⟨rfl,_⟩|⟨g,cap,cur,rfl,_,hg,_⟩
 ·cases hk
 ·cases hk;exact⟨cur,hg⟩
def NoHold (w:World) (S:Nat→Prop):Prop:=∀i,S i→∀cur,w.heap[i]? ≠some (.cells cur 166 (0,0))
theorem RAt.mod {w w':World} {r:Nat} {L:List Hold} {S:Nat→Prop} (h:RAt w r L) (hm:Mod S w w') (hr:¬S r) (hS:NoHold w S):RAt w' r L:=by
 obtain⟨v,k,hO⟩:=h;exact⟨v,hm.at k hr,hO.mod hm (fun b hb hs=>by
  obtain⟨cur,hc⟩:=own_cells hO hb;exact hS b hs cur hc)⟩
theorem RAt.mod0 {w w':World} {r:Nat} {L:List Hold} (h:RAt w r L) (hm:Mod (fun _=>False) w w'):RAt w' r L:=h.mod hm (fun h=>h) (fun _ h=>h.elim)
theorem RAt.sl {w:World} {r:Nat} {L:List Hold} (h:RAt w r L):∃a c,w.heap[r]? =some (.cells #[.slice a L.length c] 161 (0,0))∧SlAt hd 66 w a L:=by
 obtain⟨v,k,hO⟩:=h;obtain⟨a,c,rfl,hs,_⟩:=hO.at holdT;exact⟨a,c,k,hs⟩
theorem SlOwn.base0 {w:World} {base:Nat} {v:Value} {l:List Hold} (h:SlOwn hd 66 166 w base v l):SlOwn hd 66 166 w 0 v l:=by
 refine⟨h.1,?_⟩;rcases h.2 with h|⟨g,cap,cur,e,hb,r⟩
 ·exact .inl h
 ·exact .inr ⟨g,cap,cur,e,Nat.zero_le _,r⟩
def rputL (k:Key) (a:Acct):Bool→List Hold→List Hold
 |d,[]=>if d then []else [⟨k,a⟩]
 |d,h::r=>(if !d&&klt k h.k then [(⟨k,a⟩:Hold)]else [])++((if h.k=k then []else [h])++rputL k a (d||klt k h.k) r)
theorem sq_bld {P:Program} {ops:Array Oper} {Q:Exit→Act→World→Prop} {i:Nat} {r:List Nat} {a:Act} {o:Oper} {w:World} {v:Value} {T:TypeId} {ps:Array (Nat×Operand)} {qs:Array (Nat×Value)} (ho:ops[i]? =some o) (hw:Region.wanted o (yielded ops a.tmps)=true)
  (hop:o.op= .build T ps) (hps:ps.map (fun(i,x)=>(i,a.eval x))=qs) (hr:(Instr.build T qs).run P w= .ok v w) (h:wpOps P ops Q r (a.put o.dst v) w):wpOps P ops Q (i::r) a w:=
 sq_val ho hw (by subst hps;simp[execOp,hop,hr]) h
theorem bytes_gt {x k:Key} (h:klt k x=true):Op.bytesLess (bytesOfL x.l).toList (bytesOfL k.l).toList=false∧((bytesOfL x.l).toList==(bytesOfL k.l).toList)=false:=by
 rw[bytesOfL_list,bytesOfL_list];refine⟨?_,?_⟩
 ·rw[Bool.eq_false_iff];intro h2;have h3:=klt_trans h (show klt x k=true from h2);rw[klt_irrefl]at h3;cases h3
 ·rw[beq_eq_false_iff_ne];intro e;obtain rfl:x=k:=Key.ext e;rw[klt_irrefl]at h;cases h
theorem bytes_eq (x:Key):Op.bytesLess (bytesOfL x.l).toList (bytesOfL x.l).toList=false∧((bytesOfL x.l).toList==(bytesOfL x.l).toList)=true:=by
 rw[bytesOfL_list];exact⟨klt_irrefl x,beq_self_eq_true _⟩
theorem bytes_lt {x k:Key} (h:klt x k=true):Op.bytesLess (bytesOfL x.l).toList (bytesOfL k.l).toList=true∧((bytesOfL x.l).toList==(bytesOfL k.l).toList)=false:=by
 rw[bytesOfL_list,bytesOfL_list];refine⟨h,?_⟩;rw[beq_eq_false_iff_ne];intro e;obtain rfl:x=k:=Key.ext e;rw[klt_irrefl]at h;cases h
theorem kc_conv (k:Key) {w:World} {b:Nat} {U:TypeId} {fr:Nat×Nat} (hb:w.heap[b]? =some (.cells (kc k) U fr)):(convert 42 9 (.slice (some ⟨b,0,none⟩) 32 32)).run Tryz.prog w= .ok (.string (bytesOfL k.l)) w:=
 convKey hb (by rw[Nat.zero_add];exact kc_ext k)
theorem rput_step {k:Key} {a:Acct} {d:Bool} {L:List Hold} {i:Nat} {x:Hold} {O R:List Hold} (hx:L[i]? =some x) (h:O++rputL k a d (L.drop i)=R):
  (O++((if !d&&klt k x.k then [(⟨k,a⟩:Hold)]else [])++(if x.k=k then []else [x])))++rputL k a (d||klt k x.k) (L.drop (i+1))=R:=by
 rw[←h,drop_cons hx];simp only[rputL,List.append_assoc]
theorem rput_c (r:Nat) (L:List Hold) (k:Key) (a:Acct) (w:World) (h:RAt w r L) (hL:L.length≤400000):Calls Tryz.prog 61 #[.pointer (some ⟨r,0,none⟩),.agg (kc k),.agg (av a)] w fun e w'=>e= .returned (.tuple #[])∧RAt w' r (rputL k a (decide (a=acct0)) L)∧Mod (fun i=>i=r) w w':=by
 obtain⟨ad,c,kr,hs⟩:=h.sl;clear h;go_enter Tryz.func61,Tryz.ntmps61;go_upto_region 0 with fail;have Lkr:=Ls kr;refine ZP0 [3,3] ?_;refine Zb fun p4 hp4=> ?_;refine Zb fun p5 hp5=> ?_;obtain⟨ne_p5_p4,hp5⟩:=Bx.set_none hp5;refine TD.nil (fun w0 hr=> ?_);replace kr:=hr.q kr;obtain⟨gp4,kp4⟩:=hr.b p4 (by first|exact Bx.set_same _ _ _|(simp only[Bx.set_ne _ (Ne.symm ne_p5_p4),Bx.set_ne _ ne_p5_p4,Bx.set_same];rfl));obtain⟨gp5,kp5⟩:=hr.b p5 (by first|exact Bx.set_same _ _ _|(simp only[Bx.set_ne _ (Ne.symm ne_p5_p4),Bx.set_ne _ ne_p5_p4,Bx.set_same];rfl));have m0:=hr.mod;have hs0:=hs.mod0 hr.mod;have hp4:=gp4;have hp5:=gp5;clear hs gp4 gp5;have hb0:=build0;go_upto_region 2 with fail;have Lkr:=Ls kr;have Lkp4:=Ls kp4;have Lkp5:=Ls kp5;refine ZP0 [1,0,0,0] ?_;refine Zd ?_;refine Zu hb0 ?_
 iterate 2 refine Zv ?_
 refine TD.nil (fun w1 hr=> ?_);replace kr:=hr.q kr;replace kp4:=hr.q kp4;replace kp5:=hr.q kp5;have m1:=m0.then0 hr.mod;have hs1:=hs0.mod0 hr.mod;clear hs0 hb0 m0;generalize hd0:decide (a=acct0)=d0 at *;have HD0:=Hi hd0;clear hd0;have HS:=Hi hs1;have KR:=Hi kr;have K4:=Hi kp4;have K5:=Hi kp5;clear hs1;go_wp2_with fail;go_loopw [6,7,8] (fun s6 s7 s8 ws=>∃(i:Nat) (O:List Hold) (d:Bool),i≤L.length∧s8= .int .i64 (i:Int)∧s7= .bool d∧Hid (SlOwn hd 66 166 ws w1.heap.size s6 O)∧Hid (O++rputL k a d (L.drop i)=rputL k a d0 L)∧Hid (O.length≤i+i)∧Mod (fun _=>False) w1 ws) (fun _ _ s8 _=>L.length-(intOf s8).toNat)
 case atStart=>exact⟨0,[],d0,by omega,rfl,rfl,Hi (SlOwn.nil _ _),Hi (by simp),Hi (by simp),Mod.refl _ _⟩
 case round=>
  obtain⟨i,O,d,hi,rfl,rfl,HO,HE,HOL,hmm⟩:=hrel;have kr:=hmm.at0 kr;have kp4:=hmm.at0 kp4;have kp5:=hmm.at0 kp5;have HB:Hid (w1.heap.size≤w1.heap.size):=Hi (Nat.le_refl _);by_cases hlt:i<L.length
  ·obtain⟨x,hx⟩:∃x,L[i]? =some x:=⟨_,List.getElem?_eq_getElem hlt⟩;obtain⟨g,o,C,U,fr,rfl,kl1,he,hle⟩:=HS.out.block hx;have kl:=hmm.at0 kl1;have KL:=Hi kl1;clear kl1;have hxe:=he;obtain⟨e1,e2⟩:=hd_part he;have dq:o+i*66+66≤C.size:=hle;have d1:o+i*66+32≤C.size:=by omega
   have d2:o+i*66+32+34≤C.size:=by omega
   have HST:=Hi (rput_step hx HE.out);clear hx HE;obtain⟨xk,xa⟩:=x;dsimp only at e1 e2 HST;have hl2:(O++[(⟨k,a⟩:Hold)]).length+[(⟨xk,xa⟩:Hold)].length≤1000000∧O.length+[(⟨k,a⟩:Hold)].length≤1000000∧O.length+[(⟨xk,xa⟩:Hold)].length≤1000000:=by
    have:=HOL.out;simp only[List.length_append,List.length_cons,List.length_nil];omega
   have HL2:=Hi hl2;clear hl2;have hcx:∀wq,Mod (fun _=>False) wr wq→(convert 42 9 (.slice (some ⟨g,o+i*66,none⟩) 32 32)).run Tryz.prog wq= .ok (.string (bytesOfL xk.l)) wq:=fun wq hq=>convKey (hq.at0 kl) e1;have hck:∀wq,Mod (fun _=>False) wr wq→(convert 42 9 (.slice (some ⟨p4,0,none⟩) 32 32)).run Tryz.prog wq= .ok (.string (bytesOfL k.l)) wq:=fun wq hq=>kc_conv k (hq.at0 kp4);rcases(show(d=false∧klt k xk=true)∨((d||klt k xk)=d∧(!d&&klt k xk)=false)by cases d<;>cases klt k xk<;>simp)with⟨rfl,hlt2⟩|⟨hor,hand⟩
   ·obtain⟨hA,hB⟩:=bytes_gt hlt2;have HST2:Hid ((O++[(⟨k,a⟩:Hold)])++[(⟨xk,xa⟩:Hold)]++rputL k a true (L.drop (i+1))=rputL k a d0 L):=Hi (by
     have h:=HST.out;have hneq:¬xk=k:=fun e=>by rw[e,klt_irrefl]at hlt2;cases hlt2
     simpa[hlt2,hneq] using h)
    have hne:decide (xk=k)=false:=Df (fun e=>by rw[e,klt_irrefl]at hlt2;cases hlt2);clear HST hlt2;generalize bytesOfL xk.l=bx at *;generalize bytesOfL k.l=bk at *;go_upto_region 6 with fail;have Lkl:=Ls kl;have Lkr:=Ls kr;have Lkp4:=Ls kp4;have Lkp5:=Ls kp5;refine ZP [0,0,0,0,0,0,1,0,0,0,0,1,0,1,0,0] ?_
    iterate 11 first|refine Zv ?_|refine Zd ?_
    (refine TD.conv (v:= ?v18) (p:= ?p18) (Mod.refl _ _) (by simp only[zK];rfl) rfl (by rfl) rfl ?hx18 (fun wq hSq=> ?y18) ?n18;(case hx18=>simp only[zM];try rfl);(case y18=>(rw[hcx wq hSq];(try with_reducible rfl)));try simp only[zL]);refine Zv ?_;(refine TD.conv (v:= ?v20) (p:= ?p20) (Mod.refl _ _) (by simp only[zK];rfl) rfl (by rfl) rfl ?hx20 (fun wq hSq=> ?y20) ?n20;(case hx20=>simp only[zM];try rfl);(case y20=>(rw[hck wq hSq];(try with_reducible rfl)));try simp only[zL])
    iterate 2 refine Zv ?_
    refine TD.nil (fun w2 hr=> ?_);replace kl:=hr.q kl;replace kr:=hr.q kr;replace kp4:=hr.q kp4;replace kp5:=hr.q kp5;have hmm:=hmm.then0 hr.mod;have HO:=Hi (HO.out.mod0 hr.mod);clear hcx hck hA hB;have hbl:=buildHold k a;have hbs:=bsHold ⟨k,a⟩ w2;have mal:=(Mod.refl (fun _=>False) w2).alloc (.cells (hd ⟨k,a⟩) 166);have hone:=oneNew w2 ⟨k,a⟩;obtain⟨v3,w3,hap,hO5,m5,hn5⟩:=SlOwn.append holdT (q:=[⟨k,a⟩]) (c:=1) (HO.out.mod0 mal) hone HL2.out.2.1 (by decide) (Nat.le_trans HB.out (Nat.le_trans hmm.size mal.size)) 22;have hap:(Builtin.append_ #[22,22] 22 #[_,.slice (some ⟨w2.heap.size,0,none⟩) 1 1]).run Tryz.prog _=_:=hap;have hol:=HO.out.lt;have hmm5:Mod (fun _=>False) w1 w3:=(hmm.then0 mal).then m5 (fun i hi e=>by have:=hol i e;have:=HB.out;omega);go_upto_region 7 with fail;refine region_seq 7 rfl ?_;simp only[List.range,List.range.loop];refine Zq ?_;refine Zr ?_;refine Zr ?_;(refine sq_bld (by simp only[zK];rfl) (by rfl) rfl ?hx26 (hbl _) ?n26;(case hx26=>(simp only[List.map_toArray,List.map_cons,List.map_nil,zM];(try rfl)));try simp only[zL]);(refine sq_build (by simp only[zK];rfl) (by rfl) rfl ?hx27 hbs ?n27;(case hx27=>(simp only[List.map_toArray,List.map_cons,List.map_nil,zM];(try rfl)));try simp only[zL]);(refine sq_append (by simp only[zK];rfl) (by rfl) rfl ?hx28 ?hz28 hap ?n28;(case hx28=>simp only[zM];try rfl);(case hz28=>simp only[zM];try rfl);try simp only[zL]);refine Zq ?_;refine sq_nil ?_;replace kr:=hmm5.at0 KR.out;replace kp4:=hmm5.at0 K4.out;replace kp5:=hmm5.at0 K5.out;replace hmm:=hmm5;replace HO:=Hi hO5;clear hbs mal hone hap hol hmm5 hO5 m5 hn5;replace kl:=hmm.at0 KL.out;clear hbl;have hb9:decide (xk=k)=false:=hne;go_upto_region 9 with fail;have Lkl:=Ls kl;have Lkr:=Ls kr;have Lkp4:=Ls kp4;have Lkp5:=Ls kp5;refine ZP [0,0,0,1,0,0,0,1,1,0] ?_
    iterate 10 first|refine Zv ?_|refine Zd ?_
    refine TD.nil (fun w4 hr=> ?_);replace kl:=hr.q kl;replace kr:=hr.q kr;replace kp4:=hr.q kp4;replace kp5:=hr.q kp5;replace hmm:=hmm.then0 hr.mod;replace HO:=Hi (HO.out.mod0 hr.mod);clear hb9;have hbs:=bsHold ⟨xk,xa⟩ w4;have mal:=(Mod.refl (fun _=>False) w4).alloc (.cells (hd ⟨xk,xa⟩) 166);have hone:=oneNew w4 ⟨xk,xa⟩;obtain⟨v5,w5,hap,hO5,m5,hn5⟩:=SlOwn.append holdT (q:=[⟨xk,xa⟩]) (c:=1) (HO.out.mod0 mal) hone HL2.out.1 (by decide) (Nat.le_trans HB.out (Nat.le_trans hmm.size mal.size)) 22;have hap:(Builtin.append_ #[22,22] 22 #[_,.slice (some ⟨w4.heap.size,0,none⟩) 1 1]).run Tryz.prog _=_:=hap;have hol:=HO.out.lt;have hmm5:Mod (fun _=>False) w1 w5:=(hmm.then0 mal).then m5 (fun i hi e=>by have:=hol i e;have:=HB.out;omega);go_upto_region 10 with fail;refine region_seq 11 rfl ?_;simp only[List.range,List.range.loop]
    iterate 4 refine Zq ?_
    refine Zr ?_
    iterate 2 refine Zq ?_
    refine Zr ?_;(refine sq_build (by simp only[zK];rfl) (by rfl) rfl ?hx48 hbs ?n48;(case hx48=>(simp only[List.map_toArray,List.map_cons,List.map_nil,zM];(try rfl)));try simp only[zL]);(refine sq_append (by simp only[zK];rfl) (by rfl) rfl ?hx49 ?hz49 hap ?n49;(case hx49=>simp only[zM];try rfl);(case hz49=>simp only[zM];try rfl);try simp only[zL]);refine Zq ?_;refine sq_nil ?_;replace kr:=hmm5.at0 KR.out;replace kp4:=hmm5.at0 K4.out;replace kp5:=hmm5.at0 K5.out;replace hmm:=hmm5;replace HO:=Hi hO5;clear hbs mal hone hap hol hmm5 hO5 m5 hn5;go_wp2_with fail;go_roundw
    case rel=>exact⟨i+1,_,true,by omega,by go_num,rfl,HO,HST2,Hi (by have:=HOL.out;simp;omega),hmm⟩
    case measure=>simp[intOf];omega
   ·have HR6:Hid (d=true∨(d=false∧xk=k)∨(d=false∧klt xk k=true)):=Hi (by
     cases d with
     |true=>exact .inl rfl
     |false=>
      rcases klt_total k xk with h|h|h
      ·rw[h]at hand;cases hand
      ·exact .inr (.inl ⟨rfl,h.symm⟩)
      ·exact .inr (.inr ⟨rfl,h⟩))
    have hgo:∃w2:World,Mod (fun _=>False) wr w2:=⟨wr,Mod.refl _ _⟩;clear hgo;rcases HR6.out with rfl|⟨rfl,hq⟩|⟨rfl,hq⟩
    ·clear hcx hck;go_upto_region 6 with fail;have Lkl:=Ls kl;have Lkr:=Ls kr;have Lkp4:=Ls kp4;have Lkp5:=Ls kp5;refine ZP [0,0,0,0,0,0,0,0,0,0,0,0,0,0,0,0] ?_
     iterate 3 refine Zv ?_
     iterate 12 refine Zo ?_
     refine Zv ?_;refine TD.nil (fun w2 hr=> ?_);replace kl:=hr.q kl;replace kr:=hr.q kr;replace kp4:=hr.q kp4;replace kp5:=hr.q kp5;replace hmm:=hmm.then0 hr.mod;replace HO:=Hi (HO.out.mod0 hr.mod);by_cases hxk:xk=k
     ·have hne:decide (xk=k)=true:=Dt hxk;have HST2:Hid (O++rputL k a true (L.drop (i+1))=rputL k a d0 L):=Hi (by
       have h:=HST.out;rw[hand,hor,if_pos hxk]at h;simpa using h)
      clear HST hxk;have hb9:decide (xk=k)=true:=hne;go_upto_region 9 with fail;have Lkl:=Ls kl;have Lkr:=Ls kr;have Lkp4:=Ls kp4;have Lkp5:=Ls kp5;refine ZP [0,0,0,1,0,0,0,1,1,0] ?_
      iterate 10 first|refine Zv ?_|refine Zd ?_
      refine TD.nil (fun w4 hr=> ?_);replace kl:=hr.q kl;replace kr:=hr.q kr;replace kp4:=hr.q kp4;replace kp5:=hr.q kp5;replace hmm:=hmm.then0 hr.mod;replace HO:=Hi (HO.out.mod0 hr.mod);clear hb9;go_wp2_with fail;go_roundw
      case rel=>exact⟨i+1,_,true,by omega,by go_num,rfl,HO,HST2,Hi (by have:=HOL.out;omega),hmm⟩
      case measure=>simp[intOf];omega
     ·have hne:decide (xk=k)=false:=Df hxk;have HST2:Hid ((O++[(⟨xk,xa⟩:Hold)])++rputL k a true (L.drop (i+1))=rputL k a d0 L):=Hi (by
       have h:=HST.out;rw[hand,hor,if_neg hxk]at h;simpa using h)
      clear HST hxk;have hb9:decide (xk=k)=false:=hne;go_upto_region 9 with fail;have Lkl:=Ls kl;have Lkr:=Ls kr;have Lkp4:=Ls kp4;have Lkp5:=Ls kp5;refine ZP [0,0,0,1,0,0,0,1,1,0] ?_
      iterate 10 first|refine Zv ?_|refine Zd ?_
      refine TD.nil (fun w4 hr=> ?_);replace kl:=hr.q kl;replace kr:=hr.q kr;replace kp4:=hr.q kp4;replace kp5:=hr.q kp5;replace hmm:=hmm.then0 hr.mod;replace HO:=Hi (HO.out.mod0 hr.mod);clear hb9;have hbs:=bsHold ⟨xk,xa⟩ w4;have mal:=(Mod.refl (fun _=>False) w4).alloc (.cells (hd ⟨xk,xa⟩) 166);have hone:=oneNew w4 ⟨xk,xa⟩;obtain⟨v5,w5,hap,hO5,m5,hn5⟩:=SlOwn.append holdT (q:=[⟨xk,xa⟩]) (c:=1) (HO.out.mod0 mal) hone HL2.out.2.2 (by decide) (Nat.le_trans HB.out (Nat.le_trans hmm.size mal.size)) 22;have hap:(Builtin.append_ #[22,22] 22 #[_,.slice (some ⟨w4.heap.size,0,none⟩) 1 1]).run Tryz.prog _=_:=hap;have hol:=HO.out.lt;have hmm5:Mod (fun _=>False) w1 w5:=(hmm.then0 mal).then m5 (fun i hi e=>by have:=hol i e;have:=HB.out;omega);go_upto_region 10 with fail;refine region_seq 11 rfl ?_;simp only[List.range,List.range.loop]
      iterate 4 refine Zq ?_
      refine Zr ?_
      iterate 2 refine Zq ?_
      refine Zr ?_;(refine sq_build (by simp only[zK];rfl) (by rfl) rfl ?hx95 hbs ?n95;(case hx95=>(simp only[List.map_toArray,List.map_cons,List.map_nil,zM];(try rfl)));try simp only[zL]);(refine sq_append (by simp only[zK];rfl) (by rfl) rfl ?hx96 ?hz96 hap ?n96;(case hx96=>simp only[zM];try rfl);(case hz96=>simp only[zM];try rfl);try simp only[zL]);refine Zq ?_;refine sq_nil ?_;replace kr:=hmm5.at0 KR.out;replace kp4:=hmm5.at0 K4.out;replace kp5:=hmm5.at0 K5.out;replace hmm:=hmm5;replace HO:=Hi hO5;clear hbs mal hone hap hol hmm5 hO5 m5 hn5;go_wp2_with fail;go_roundw
      case rel=>exact⟨i+1,_,true,by omega,by go_num,rfl,HO,HST2,Hi (by have:=HOL.out;simp;omega),hmm⟩
      case measure=>simp[intOf];omega
    ·obtain⟨hA,hB⟩:=bytes_eq k;subst hq;generalize bytesOfL xk.l=bx at *;go_upto_region 6 with fail;have Lkl:=Ls kl;have Lkr:=Ls kr;have Lkp4:=Ls kp4;have Lkp5:=Ls kp5;refine ZP [0,0,0,0,0,0,1,0,0,0,0,1,0,1,0,0] ?_
     iterate 11 first|refine Zv ?_|refine Zd ?_
     (refine TD.conv (v:= ?v109) (p:= ?p109) (Mod.refl _ _) (by simp only[zK];rfl) rfl (by rfl) rfl ?hx109 (fun wq hSq=> ?y109) ?n109;(case hx109=>simp only[zM];try rfl);(case y109=>(rw[hcx wq hSq];(try with_reducible rfl)));try simp only[zL]);refine Zv ?_;(refine TD.conv (v:= ?v111) (p:= ?p111) (Mod.refl _ _) (by simp only[zK];rfl) rfl (by rfl) rfl ?hx111 (fun wq hSq=> ?y111) ?n111;(case hx111=>simp only[zM];try rfl);(case y111=>(rw[hck wq hSq];(try with_reducible rfl)));try simp only[zL])
     iterate 2 refine Zv ?_
     refine TD.nil (fun w2 hr=> ?_);replace kl:=hr.q kl;replace kr:=hr.q kr;replace kp4:=hr.q kp4;replace kp5:=hr.q kp5;replace hmm:=hmm.then0 hr.mod;replace HO:=Hi (HO.out.mod0 hr.mod);clear hcx hck hA hB;have hne:decide (xk=xk)=true:=Dt rfl;have HST2:Hid (O++rputL xk a false (L.drop (i+1))=rputL xk a d0 L):=Hi (by
      have h:=HST.out;rw[hand,hor,if_pos rfl]at h;simpa using h)
     go_upto_region 9 with fail;have Lkl:=Ls kl;have Lkr:=Ls kr;have Lkp4:=Ls kp4;have Lkp5:=Ls kp5;refine ZP [0,0,0,1,0,0,0,1,1,0] ?_
     iterate 10 first|refine Zv ?_|refine Zd ?_
     refine TD.nil (fun w4 hr=> ?_);replace kl:=hr.q kl;replace kr:=hr.q kr;replace kp4:=hr.q kp4;replace kp5:=hr.q kp5;replace hmm:=hmm.then0 hr.mod;replace HO:=Hi (HO.out.mod0 hr.mod);go_wp2_with fail;go_roundw
     case rel=>exact⟨i+1,_,false,by omega,by go_num,rfl,HO,HST2,Hi (by have:=HOL.out;omega),hmm⟩
     case measure=>simp[intOf];omega
    ·obtain⟨hA,hB⟩:=bytes_lt hq;have hxk:¬xk=k:=fun e=>by rw[e,klt_irrefl]at hq;cases hq
     clear hq;generalize bytesOfL xk.l=bx at *;generalize bytesOfL k.l=bk at *;go_upto_region 6 with fail;have Lkl:=Ls kl;have Lkr:=Ls kr;have Lkp4:=Ls kp4;have Lkp5:=Ls kp5;refine ZP [0,0,0,0,0,0,1,0,0,0,0,1,0,1,0,0] ?_
     iterate 11 first|refine Zv ?_|refine Zd ?_
     (refine TD.conv (v:= ?v135) (p:= ?p135) (Mod.refl _ _) (by simp only[zK];rfl) rfl (by rfl) rfl ?hx135 (fun wq hSq=> ?y135) ?n135;(case hx135=>simp only[zM];try rfl);(case y135=>(rw[hcx wq hSq];(try with_reducible rfl)));try simp only[zL]);refine Zv ?_;(refine TD.conv (v:= ?v137) (p:= ?p137) (Mod.refl _ _) (by simp only[zK];rfl) rfl (by rfl) rfl ?hx137 (fun wq hSq=> ?y137) ?n137;(case hx137=>simp only[zM];try rfl);(case y137=>(rw[hck wq hSq];(try with_reducible rfl)));try simp only[zL])
     iterate 2 refine Zv ?_
     refine TD.nil (fun w2 hr=> ?_);replace kl:=hr.q kl;replace kr:=hr.q kr;replace kp4:=hr.q kp4;replace kp5:=hr.q kp5;replace hmm:=hmm.then0 hr.mod;replace HO:=Hi (HO.out.mod0 hr.mod);clear hcx hck hA hB;have hne:decide (xk=k)=false:=Df hxk;have HST2:Hid ((O++[(⟨xk,xa⟩:Hold)])++rputL k a false (L.drop (i+1))=rputL k a d0 L):=Hi (by
      have h:=HST.out;rw[hand,hor,if_neg hxk]at h;simpa using h)
     clear HST hxk;have hb9:decide (xk=k)=false:=hne;go_upto_region 9 with fail;have Lkl:=Ls kl;have Lkr:=Ls kr;have Lkp4:=Ls kp4;have Lkp5:=Ls kp5;refine ZP [0,0,0,1,0,0,0,1,1,0] ?_
     iterate 10 first|refine Zv ?_|refine Zd ?_
     refine TD.nil (fun w4 hr=> ?_);replace kl:=hr.q kl;replace kr:=hr.q kr;replace kp4:=hr.q kp4;replace kp5:=hr.q kp5;replace hmm:=hmm.then0 hr.mod;replace HO:=Hi (HO.out.mod0 hr.mod);clear hb9;have hbs:=bsHold ⟨xk,xa⟩ w4;have mal:=(Mod.refl (fun _=>False) w4).alloc (.cells (hd ⟨xk,xa⟩) 166);have hone:=oneNew w4 ⟨xk,xa⟩;obtain⟨v5,w5,hap,hO5,m5,hn5⟩:=SlOwn.append holdT (q:=[⟨xk,xa⟩]) (c:=1) (HO.out.mod0 mal) hone HL2.out.2.2 (by decide) (Nat.le_trans HB.out (Nat.le_trans hmm.size mal.size)) 22;have hap:(Builtin.append_ #[22,22] 22 #[_,.slice (some ⟨w4.heap.size,0,none⟩) 1 1]).run Tryz.prog _=_:=hap;have hol:=HO.out.lt;have hmm5:Mod (fun _=>False) w1 w5:=(hmm.then0 mal).then m5 (fun i hi e=>by have:=hol i e;have:=HB.out;omega);go_upto_region 10 with fail;refine region_seq 11 rfl ?_;simp only[List.range,List.range.loop]
     iterate 4 refine Zq ?_
     refine Zr ?_
     iterate 2 refine Zq ?_
     refine Zr ?_;(refine sq_build (by simp only[zK];rfl) (by rfl) rfl ?hx158 hbs ?n158;(case hx158=>(simp only[List.map_toArray,List.map_cons,List.map_nil,zM];(try rfl)));try simp only[zL]);(refine sq_append (by simp only[zK];rfl) (by rfl) rfl ?hx159 ?hz159 hap ?n159;(case hx159=>simp only[zM];try rfl);(case hz159=>simp only[zM];try rfl);try simp only[zL]);refine Zq ?_;refine sq_nil ?_;replace kr:=hmm5.at0 KR.out;replace kp4:=hmm5.at0 K4.out;replace kp5:=hmm5.at0 K5.out;replace hmm:=hmm5;replace HO:=Hi hO5;clear hbs mal hone hap hol hmm5 hO5 m5 hn5;go_wp2_with fail;go_roundw
     case rel=>exact⟨i+1,_,false,by omega,by go_num,rfl,HO,HST2,Hi (by have:=HOL.out;simp;omega),hmm⟩
     case measure=>simp[intOf];omega
  ·obtain rfl:i=L.length:=by omega
   rw[List.drop_length]at HE;have HL1:Hid (O.length+[(⟨k,a⟩:Hold)].length≤1000000):=Hi (by
    have:=HOL.out;simp only[List.length_cons,List.length_nil];omega)
   have m1r:Mod (fun i=>i=r) w w1:=m1.mono (fun _ _ h=>h.elim);cases d with
   |true=>
    have HR:Hid (O=rputL k a d0 L):=Hi (by have h:=HE.out;simpa[rputL] using h);obtain⟨oa,oc,rfl,_⟩:=HO.out.at holdT;have hlr:=HO.out.lt;have hrr:r<w1.heap.size:=Ls KR.out;go_upto_region 13 with fail;have Lkr:=Ls kr;refine ZP0 [0,0,0,0,5] ?_
    iterate 4 refine Zv ?_
    refine Zi fun wE hr=> ?_;replace kr:=hr.mod.at0 kr;have mE:=hr.mod;refine ZS ?_;refine ZN kr fun w6 kr mS=> ?_;(try simp only[Array.setIfInBounds,zL]at kr);have hO6:=(HO.out.mod0 mE).mod mS (fun b hb e=>by have:=hlr b hb;omega);have mF:Mod (fun i=>i=r) w w6:=(m1r.then0 hmm).then0 mE|>.then mS (fun i _ e=>e);go_wp2_with fail;have hO7:=hO6.base0;(try simp only[List.length_append,List.length_cons,List.length_nil,Nat.zero_add]at hO7);go_end0;exact⟨rfl,by rw[HD0.out,←HR.out];exact⟨_,kr,hO7⟩,mF⟩
   |false=>
    have HR:Hid (O++[(⟨k,a⟩:Hold)]=rputL k a d0 L):=Hi (by have h:=HE.out;simpa[rputL] using h);have hbl:=buildHold k a;have hbs:=bsHold ⟨k,a⟩ wr;have mal:=(Mod.refl (fun _=>False) wr).alloc (.cells (hd ⟨k,a⟩) 166);have hone:=oneNew wr ⟨k,a⟩;obtain⟨v3,w3,hap,hO5,m5,hn5⟩:=SlOwn.append holdT (q:=[⟨k,a⟩]) (c:=1) (HO.out.mod0 mal) hone HL1.out (by decide) (Nat.le_trans HB.out (Nat.le_trans hmm.size mal.size)) 22;have hap:(Builtin.append_ #[22,22] 22 #[_,.slice (some ⟨wr.heap.size,0,none⟩) 1 1]).run Tryz.prog _=_:=hap;have hol:=HO.out.lt;have hmm5:Mod (fun _=>False) w1 w3:=(hmm.then0 mal).then m5 (fun i hi e=>by have:=hol i e;have:=HB.out;omega);go_upto_region 12 with fail;refine region_seq 7 rfl ?_;simp only[List.range,List.range.loop];refine Zq ?_;refine Zr ?_;refine Zr ?_;(refine sq_bld (by simp only[zK];rfl) (by rfl) rfl ?hx169 (hbl _) ?n169;(case hx169=>(simp only[List.map_toArray,List.map_cons,List.map_nil,zM];(try rfl)));try simp only[zL]);(refine sq_build (by simp only[zK];rfl) (by rfl) rfl ?hx170 hbs ?n170;(case hx170=>(simp only[List.map_toArray,List.map_cons,List.map_nil,zM];(try rfl)));try simp only[zL]);(refine sq_append (by simp only[zK];rfl) (by rfl) rfl ?hx171 ?hz171 hap ?n171;(case hx171=>simp only[zM];try rfl);(case hz171=>simp only[zM];try rfl);try simp only[zL]);refine Zq ?_;refine sq_nil ?_;replace kr:=hmm5.at0 KR.out;replace kp4:=hmm5.at0 K4.out;replace kp5:=hmm5.at0 K5.out;replace hmm:=hmm5;replace HO:=Hi hO5;clear hbs mal hone hap hol hmm5 hO5 m5 hn5;clear hbl;obtain⟨oa,oc,rfl,_⟩:=HO.out.at holdT;have hlr:=HO.out.lt;have hrr:r<w1.heap.size:=Ls KR.out;go_upto_region 13 with fail;have Lkr:=Ls kr;refine ZP0 [0,0,0,0,5] ?_
    iterate 4 refine Zv ?_
    refine Zi fun wE hr=> ?_;replace kr:=hr.mod.at0 kr;have mE:=hr.mod;refine ZS ?_;refine ZN kr fun w6 kr mS=> ?_;(try simp only[Array.setIfInBounds,zL]at kr);have hO6:=(HO.out.mod0 mE).mod mS (fun b hb e=>by have:=hlr b hb;omega);have mF:Mod (fun i=>i=r) w w6:=(m1r.then0 hmm).then0 mE|>.then mS (fun i _ e=>e);go_wp2_with fail;have hO7:=hO6.base0;(try simp only[List.length_append,List.length_cons,List.length_nil,Nat.zero_add]at hO7);go_end0;exact⟨rfl,by rw[HD0.out,←HR.out];exact⟨_,kr,hO7⟩,mF⟩
end
section
attribute [local go_sem↓] eqHash eqSig eqAcct
attribute [local go_sem] zHash_ext zHash_one0 neMapS
theorem eff_callP {P:Program} {ops:Array Oper} {Q:Exit→Act→World→Prop} {κ:Nat→Nat} {i:Nat} {r:List Nat} {a:Act} {o:Oper} {w:World} {f:FuncId} {args:Array Value} {v:Value} {Post:World→Prop} (ho:ops[i]? =some o) (hw:Region.wanted o (yielded ops a.tmps)=true)
  (hy:(execOp a.eval o).run P w= .ok (.enter f args) w) (hc:Calls P f args w fun e w'=>e= .returned v∧Post w') (hn:∀w',Post w'→TE P ops Q κ r (a.put o.dst v) w'):wpOp P ops Q i (fun a' w''=>TE P ops Q κ r a' w'') a w:=by
 unfold wpOp;simp only[ho,hw,if_true];refine .inl ?_;unfold Oper.wp;rw[hy];refine hc.mono ?_;rintro e w' ⟨rfl,hp⟩;exact hn w' hp
theorem rputL_len (k:Key) (a:Acct):∀(L:List Hold) (d:Bool),(rputL k a d L).length≤L.length+(if d then 0 else 1)
 |[],d=>by cases d<;>simp[rputL]
 |h::r,d=>by
  have ih:=rputL_len k a r (d||klt k h.k);simp only[rputL,List.length_append,List.length_cons];generalize klt k h.k=z at *;by_cases he:h.k=k
  ·rw[if_pos he];cases d<;>cases z<;>simp at ih⊢<;>omega
  ·rw[if_neg he];cases d<;>cases z<;>simp at ih⊢<;>omega
def stL (l:List Hold):List (Key×Acct):=l.foldl (fun m h=>putA m h.k h.a) []
theorem stL_snoc {l:List Hold} {i:Nat} {x:Hold} (hx:l[i]? =some x):stL (l.take (i+1))=putA (stL (l.take i)) x.k x.a:=by
 rw[List.take_add_one,hx];simp[stL]
theorem hold_at {w:World} {a:Option Addr} {l:List Hold} (h:SlAt hd 66 w a l) {i:Nat} {x:Hold} (hx:l[i]? =some x):∃g o C U fr,a=some ⟨g,o,none⟩∧w.heap[g]? =some (.cells C U fr)∧C.extract (o+i*66) (o+i*66+32)=kc x.k∧C.extract (o+i*66+32) (o+i*66+32+34)=av x.a∧o+i*66+66≤C.size:=by
 obtain⟨g,o,C,U,fr,e,hk,he,hle⟩:=h.block hx;obtain⟨e1,e2⟩:=hd_part he;exact⟨g,o,C,U,fr,e,hk,e1,e2,hle⟩
theorem stores_c (a:Option Addr) (l:List Hold) (c:Nat) (w:World) (hl:SlAt hd 66 w a l) (hn:l.length≤200) (ha:∀x,a=some x→x.block<w.heap.size∨l=[]):Calls Tryz.prog 23 #[.slice a l.length c] w fun e w'=>∃p b r,e= .returned (.tuple #[ptrV p,ptrV r])∧w.heap.size≤p∧w.heap.size≤b∧w.heap.size≤r∧StAt w' p b (stL l)∧(∃R,RAt w' r R)∧Mod (fun _=>False) w w':=by
 have hb:∀w,(Instr.build 161 #[]).run Tryz.prog w= .ok (.agg #[.slice none 0 0]) w:=fun w=>by kernel_rfl
 have HL:=Hi hl;have HA:=Hi ha;clear hl ha;generalize hll:l.length=ll at *;have HLL:=Hi hll;clear hll;go_enter Tryz.func23,Tryz.ntmps23;go_wp2_with fail;go_at_call 17;refine(newS_c _).mono ?_;rintro e w1 ⟨p,b,rfl,hp,hbb,hS,m1⟩;go_upto_region 2 with fail;refine ZP0 [0,3,0] ?_;refine Zu hb ?_;refine Zb fun p9 hp9=> ?_;refine Zv ?_;refine TD.nil (fun w2 hr=> ?_);obtain⟨gp9,kp9⟩:=hr.b p9;have m2:=m1.then0 hr.mod;have hS2:=hS.mod0 hr.mod;have hR2:RAt w2 p9 []:=⟨_,kp9,SlOwn.nil _ _⟩;have hp9:=Nat.le_trans m1.size gp9;have hlt2:=hS2.lt;have hlt3:=hS.lt;have hpr:p9≠p∧p9≠b:=⟨by omega,by omega⟩;have HS2:=Hi hS2;have HR2:=Hi hR2;have HM2:=Hi m2;clear hr hS hS2 hR2 m1 m2 hb kp9 gp9;go_wp2_with fail;go_loopw [6] (fun s6 ws=>∃i:Nat,i≤ll∧s6= .int .i64 (i:Int)∧Hid (StAt ws p b (stL (l.take i)))∧Hid (∃R,RAt ws p9 R∧R.length≤i)∧Hid (Mod (fun i=>i=b∨i=p9) w2 ws)) (fun s6 _=>ll-(intOf s6).toNat)
 case atStart=>exact⟨0,Nat.zero_le _,rfl,HS2,Hi ⟨[],HR2.out,by simp⟩,Hi (Mod.refl _ _)⟩
 case round=>
  obtain⟨i,hi,rfl,HSt,HRt,hm⟩:=hrel;have hmw:Mod (fun _=>False) w wr:=HM2.out.then hm.out (fun j hj e=>by rcases e with e|e<;>omega);by_cases hlt:i<ll
  ·have hd:=Dt hlt;obtain⟨x,hx⟩:∃x,l[i]? =some x:=⟨_,List.getElem?_eq_getElem (by rw[HLL.out];exact hlt)⟩;obtain⟨g,o,C,U,fr,rfl,kl,e1,e2,hle⟩:=hold_at (HL.out.mod0 hmw) hx;have hgw:g<w.heap.size:=by
    rcases HA.out _ rfl with h|h
    ·exact h
    ·have:=HLL.out;rw[h]at this;simp at this;omega
   have d1:o+i*66+32≤C.size:=by omega
   have d2:o+i*66+32+34≤C.size:=by omega
   have HX:=Hi hx;clear hx hle hmw;obtain⟨xk,xa⟩:=x;dsimp only at e1 e2;have hlt2:=HSt.out.lt;go_upto_region 6 with fail;have Lkl:=Ls kl;refine ZP [0,0,0,0,0,1,0,0,0,0,1,5] ?_
   iterate 11 first|refine Zv ?_|refine Zd ?_
   refine Zi fun w3 hr=> ?_;replace kl:=hr.q kl;have hSt3:=HSt.out.mod0 hr.mod;have hput:=put_c p b _ xk xa w3 hSt3;obtain⟨R,hR,hRl⟩:=HRt.out;have hR3:=hR.mod0 hr.mod;have hm3:=hm.out.then0 hr.mod;have HB3:=Hi hSt3;clear hr hSt3;(refine eff_callP (by simp only[zK];rfl) (by rfl) ?y16 hput (fun wn hP=> ?n16);(case y16=>(go_simp;(try(first|with_reducible rfl|(constructor<;>with_reducible rfl)))));try simp only[zL]);refine TE.nil ?_;obtain⟨hO3,m3⟩:=hP;rw[←stL_snoc (x:=⟨xk,xa⟩) HX.out]at hO3;have hb2:g≠b:=by omega
   replace kl:=m3.at kl hb2;have hR4:=hR3.mod m3 hpr.2 (fun j e cur hk=>by
    obtain⟨_,es,cc,kb,_⟩:=HB3.out;have e':j=b:=e;rw[e',kb]at hk;cases hk)
   have hm4:=hm3.trans (m3.mono (fun _ _ h=> .inl h));have HO4:=Hi hO3;have HR4:=Hi hR4;have HRL:=Hi hRl;have HM4:=Hi hm4;clear hO3 hR4 hR3 hm3 hm4 m3 hput hR hRl HB3;go_upto_region 7 with fail;have Lkl:=Ls kl;refine ZP [0,0,0,0,0,1,0,0,0,0,1,5] ?_
   iterate 11 first|refine Zv ?_|refine Zd ?_
   refine Zi fun w5 hr=> ?_;replace kl:=hr.q kl;have hrp:=rput_c p9 R xk xa w5 (HR4.out.mod0 hr.mod) (by have:=HRL.out;omega);have hm5:=HM4.out.then0 hr.mod;have hO5:=HO4.out.mod0 hr.mod;clear hr;(refine eff_callP (by simp only[zK];rfl) (by rfl) ?y29 hrp (fun wn hP=> ?n29);(case y29=>(go_simp;(try(first|with_reducible rfl|(constructor<;>with_reducible rfl)))));try simp only[zL]);refine TE.nil ?_;obtain⟨hR6,m6⟩:=hP;have hO6:=hO5.mod m6 (fun e=>hpr.1 e.symm) (fun e=>hpr.2 e.symm);have HE6:=Hi (Ai hO6 (Ai (hm5.trans (m6.mono (fun _ _ h=> .inr h))) hR6));have hln:(rputL xk xa (decide (xa=acct0)) R).length≤R.length+1:=Nat.le_trans (rputL_len xk xa R (decide (xa=acct0))) (by split<;>omega);have HLN:=Hi hln;clear hO6 hO5 hm5 hR6 m6 hrp hln;go_wp2_with fail;go_roundw
   case rel=>exact⟨i+1,by omega,by go_num,Hi HE6.out.1,Hi ⟨_,HE6.out.2.2,by have:=HLN.out;have:=HRL.out;omega⟩,Hi HE6.out.2.1⟩
   case measure=>simp[intOf];omega
  ·have hd:=Df hlt;obtain rfl:i=ll:=by omega
   go_wp2_with fail
   go_ret2
   refine⟨p,b,p9,rfl,hp,hbb,hp9,?_,?_,hmw⟩
   ·have:=HSt.out;rw[←HLL.out,List.take_length]at this;exact this
   ·obtain⟨R,hR,_⟩:=HRt.out;exact⟨R,hR⟩
structure GrR' where
 L:Sl Hold
 H:Sl Key
 M:Sl Sg
 lim:Lim
def grc (g:GrR'):Array Value:= #[g.L.v,g.H.v,g.M.v,u64v g.lim.b,u64v g.lim.a,u64v g.lim.s]
theorem grc_size (g:GrR'):(grc g).size=6:=rfl
theorem grc_all (g:GrR'):(grc g).extract 0 6=grc g:=rfl
theorem grc_lim (g:GrR'):(grc g).extract 3 6= #[u64v g.lim.b,u64v g.lim.a,u64v g.lim.s]:=rfl
theorem grc0 (g:GrR'):(grc g)[0]? =some (.slice g.L.a g.L.l.length g.L.c):=rfl
theorem grc0' (g:GrR') (h:0<(grc g).size):(grc g)[0]= .slice g.L.a g.L.l.length g.L.c:=rfl
theorem grc1 (g:GrR'):(grc g)[1]? =some (.slice g.H.a g.H.l.length g.H.c):=rfl
theorem grc1' (g:GrR') (h:1<(grc g).size):(grc g)[1]= .slice g.H.a g.H.l.length g.H.c:=rfl
theorem grc2 (g:GrR'):(grc g)[2]? =some (.slice g.M.a g.M.l.length g.M.c):=rfl
theorem grc2' (g:GrR') (h:2<(grc g).size):(grc g)[2]= .slice g.M.a g.M.l.length g.M.c:=rfl
theorem grc3 (g:GrR'):(grc g)[3]? =some (u64v g.lim.b):=rfl
theorem grc3' (g:GrR') (h:3<(grc g).size):(grc g)[3]=u64v g.lim.b:=rfl
theorem grc4 (g:GrR'):(grc g)[4]? =some (u64v g.lim.a):=rfl
theorem grc4' (g:GrR') (h:4<(grc g).size):(grc g)[4]=u64v g.lim.a:=rfl
theorem grc5 (g:GrR'):(grc g)[5]? =some (u64v g.lim.s):=rfl
theorem grc5' (g:GrR') (h:5<(grc g).size):(grc g)[5]=u64v g.lim.s:=rfl
theorem ldGnd (w:World) (b o:Nat):(Instr.loadAt 29 (.pointer (some ⟨b,o,none⟩))).run Tryz.prog w=
   match w.heap[b]? with
   |some (.cells cs _ _)=>if o+6≤cs.size then .ok (.agg (cs.extract o (o+6))) w else farL Tryz.prog w 29 b o
   |_=>farL Tryz.prog w 29 b o:=load_rule (d:=_) Tryz.underlying29 rfl (by kernel_rfl) w b o
theorem wlGnd (dst:Option Tmp) (x:Operand) (ty:TypeId) (pos:String) (after:Array Edge) (g:Option (Nat×Bool)) (a:Act) (w:World) (K:Act→World→Prop) (Q:Exit→Act→World→Prop):
  Oper.wp Tryz.prog {dst:=dst,op:= .load 29 x,type:=ty,pos:=pos,after:=after,guard:=g} a w K Q=
   (match a.eval x with
   | .pointer (some ⟨b,o,none⟩)=>
    (match w.heap[b]? with
    |some (.cells cs _ _)=>if o+6≤cs.size then K (a.put dst (.agg (cs.extract o (o+6)))) w else farW Tryz.prog {dst:=dst,op:= .load 29 x,type:=ty,pos:=pos,after:=after,guard:=g} a w K Q
    |_=>farW Tryz.prog {dst:=dst,op:= .load 29 x,type:=ty,pos:=pos,after:=after,guard:=g} a w K Q)
   |_=>farW Tryz.prog {dst:=dst,op:= .load 29 x,type:=ty,pos:=pos,after:=after,guard:=g} a w K Q):=wp_load_rule (d:=_) Tryz.underlying29 rfl (by kernel_rfl) dst x ty pos after g a w K Q
def GrOk (w:World) (g:GrR'):Prop:=SlOk hd 66 80 (fun _ _=>True) w g.L∧SlOk kc 32 32 (fun _ _=>True) w g.H∧SlOk sgc 64 64 (fun _ _=>True) w g.M
theorem sig_at {w:World} {a:Option Addr} {l:List Sg} (h:SlAt sgc 64 w a l) {i:Nat} {x:Sg} (hx:l[i]? =some x):∃g o C U fr,a=some ⟨g,o,none⟩∧w.heap[g]? =some (.cells C U fr)∧C.extract (o+i*64) (o+i*64+64)=sgc x∧o+i*64+64≤C.size:=h.block hx
theorem slOk_lt {α:Type} {f:α→Array Value} {n B:Nat} {Ok:World→α→Prop} {w:World} {s:Sl α} (h:SlOk f n B Ok w s) {i:Nat} {x:α} (hx:s.l[i]? =some x) {g o:Nat} (ha:s.a=some ⟨g,o,none⟩):g<w.heap.size:=by
 rcases h.2.2.2.1 _ ha with h1|h1
 ·exact h1
 ·rw[h1]at hx;cases hx
def quL (l:List Key):List Key:=l.foldl pushQ []
theorem quL_snoc {l:List Key} {i:Nat} {x:Key} (hx:l[i]? =some x):quL (l.take (i+1))=pushQ (quL (l.take i)) x:=by
 rw[List.take_add_one,hx];simp[quL]
def seL (l:List Sg):List (Sg×Key):=l.foldl (fun N g=>markS N g key0) []
theorem seL_snoc {l:List Sg} {i:Nat} {x:Sg} (hx:l[i]? =some x):seL (l.take (i+1))=markS (seL (l.take i)) x key0:=by
 rw[List.take_add_one,hx];simp[seL]
theorem markS_len (N:List (Sg×Key)) (g:Sg) (k:Key):(markS N g k).length≤N.length+1:=by
 unfold markS;split
 ·omega
 ·rename_i h;have:=(len_put g k N).2 (by simpa using h);omega
theorem seL_len (l:List Sg):(seL l).length≤l.length:=by
 suffices h:∀(l:List Sg) (N:List (Sg×Key)),(l.foldl (fun N g=>markS N g key0) N).length≤N.length+l.length by
  have:=h l [];simpa[seL] using this
 intro l
 induction l with
 |nil=>intro N;simp
 |cons g r ih=>
  intro N;have h1:=ih (markS N g key0);have h2:=markS_len N g key0;rw[List.foldl_cons,List.length_cons];omega
end
section
section
variable {H:Type} {enc:TypeId×Value→H}
def limC (x:Lim):Array Value:= #[u64v x.b,u64v x.a,u64v x.s]
theorem lim_reads:Reads enc Tryz.prog 27 limC (fun _ _=>True):=fun w base sp held fuel cs x h hfit=>by
 obtain⟨a0,h0,ka0⟩:=field_read 0 0 1 Tryz.underlying27 rfl (by kernel_rfl) u64_reads h hfit;obtain⟨a1,h1,ka1⟩:=field_read 1 1 1 Tryz.underlying27 rfl (by kernel_rfl) u64_reads h hfit;obtain⟨a2,h2,ka2⟩:=field_read 2 2 1 Tryz.underlying27 rfl (by kernel_rfl) u64_reads h hfit;have hl:=len_of (n:=3) Tryz.underlying27 (by kernel_rfl) h;refine⟨⟨a0,a1,a2⟩,?_,trivial⟩;apply Array.toList_inj.1;show cs=_;have e:=cut_at cs 0 1;rw[cut_at cs (0+1) 1,cut_at cs (0+1+1) 1,h0,h1,h2,end_at (n:=0+1+1+1) hl]at e;exact e
theorem gnd_reads:Reads enc Tryz.prog 29 grc GrOk:=fun w base sp held fuel cs x h hfit=>by
 obtain⟨a0,h0,ka0⟩:=field_read 0 0 1 Tryz.underlying29 rfl (by kernel_rfl) holds_reads h hfit;obtain⟨a1,h1,ka1⟩:=field_read 1 1 1 Tryz.underlying29 rfl (by kernel_rfl) hashes_reads h hfit;obtain⟨a2,h2,ka2⟩:=field_read 2 2 1 Tryz.underlying29 rfl (by kernel_rfl) sigs_reads h hfit;obtain⟨a3,h3,ka3⟩:=field_read 3 3 3 Tryz.underlying29 rfl (by kernel_rfl) lim_reads h hfit;have hl:=len_of (n:=6) Tryz.underlying29 (by kernel_rfl) h;refine⟨⟨a0,a1,a2,a3⟩,?_,ka0,ka1,ka2⟩;apply Array.toList_inj.1;show cs=_;have e:=cut_at cs 0 1;rw[cut_at cs (0+1) 1,cut_at cs (0+1+1) 1,cut_at cs (0+1+1+1) 3,h0,h1,h2,h3,end_at (n:=0+1+1+1+3) hl]at e;refine e.trans ?_;simp[grc,slv,Sl.v,limC]
end
end
theorem eff_append2 {P:Program} {ops:Array Oper} {Q:Exit→Act→World→Prop} {i:Nat} {a:Act} {o:Oper} {K:Act→World→Prop} {w w':World} {t t2:TypeId} {s x:Operand} {v u v':Value} (ho:ops[i]? =some o) (hw:Region.wanted o (yielded ops a.tmps)=true)
  (hop:o.op= .call {callee:= .builtin .append,args:= #[s,x],argTypes:= #[t,t2]}) (hs:a.eval s=v) (hx:a.eval x=u) (hr:(Builtin.append_ #[t,t2] o.type #[v,u]).run P w= .ok v' w')
  (h:K (a.put o.dst v') w'):wpOp P ops Q i K a w:=
 eff_value ho hw (by subst hs;subst hx;simp[execOp,hop,resolve,invoke,builtin,hr]) h
section
attribute [local go_sem] Oper.semAt_some
attribute [local go_sem↓] wlIn ldIn stIn
theorem inr_size (y:InR):(inr y).size=3:=rfl
theorem inr_all (y:InR):(inr y).extract 0 3=inr y:=rfl
theorem inr_one (y:InR):(inr y).all (·.oneCell') 0 3=true:=by simp[inr,Value.oneCell']
theorem zIn_size:zIn.size=3:=rfl
theorem inr2 (y:InR):(inr y)[2]? =some (.slice y.d.a y.d.l.length y.d.c):=rfl
theorem inr2' (y:InR) (h:2<(inr y).size):(inr y)[2]= .slice y.d.a y.d.l.length y.d.c:=rfl
attribute [local go_sem] inr_size inr_all inr_one zIn_size inr2 inr2'
def dSum (l:List InR):UInt64:=l.foldl (fun d x=>d+UInt64.ofNat x.d.l.length) 0
theorem dSum_snoc {l:List InR} {i:Nat} {x:InR} (hx:l[i]? =some x):dSum (l.take (i+1))=dSum (l.take i)+UInt64.ofNat x.d.l.length:=by
 rw[List.take_add_one,hx];simp[dSum]
theorem parts_c (x:RdR) (n:Int) (u:UInt64) (w:World):Calls Tryz.prog 86 #[.agg (txr x),.int .i64 n,u64v u] w fun e w'=>∃p q r,e= .returned (.func (.func 117) #[] #[pV p,pV q,pV r])∧w'.heap[p]? =some (.cells (txr x) 53 (0,0))∧w'.heap[q]? =some (.cells #[.int .i64 n] 3 (0,0))∧w'.heap[r]? =some (.cells #[u64v u] 25 (0,0))∧w.heap.size≤p∧w.heap.size≤q∧w.heap.size≤r∧Mod (fun _=>False) w w':=by
 have hmf:=hmf;go_enter Tryz.func86,Tryz.ntmps86;go_upto_region 0 with fail;refine ZP0 [3,3,3,0] ?_;refine Zb fun p3 hp3=> ?_;refine Zb fun p4 hp4=> ?_;obtain⟨ne_p4_p3,hp4⟩:=Bx.set_none hp4;refine Zb fun p5 hp5=> ?_;obtain⟨ne_p5_p4,hp5⟩:=Bx.set_none hp5;obtain⟨ne_p5_p3,hp5⟩:=Bx.set_none hp5;refine Zv ?_;refine TD.nil (fun w1 hr=> ?_);obtain⟨gp3,kp3⟩:=hr.b p3 (by first|exact Bx.set_same _ _ _|(simp only[Bx.set_ne _ (Ne.symm ne_p4_p3),Bx.set_ne _ (Ne.symm ne_p5_p3),Bx.set_ne _ (Ne.symm ne_p5_p4),Bx.set_ne _ ne_p4_p3,Bx.set_ne _ ne_p5_p3,Bx.set_ne _ ne_p5_p4,Bx.set_same];rfl));obtain⟨gp4,kp4⟩:=hr.b p4 (by first|exact Bx.set_same _ _ _|(simp only[Bx.set_ne _ (Ne.symm ne_p4_p3),Bx.set_ne _ (Ne.symm ne_p5_p3),Bx.set_ne _ (Ne.symm ne_p5_p4),Bx.set_ne _ ne_p4_p3,Bx.set_ne _ ne_p5_p3,Bx.set_ne _ ne_p5_p4,Bx.set_same];rfl));obtain⟨gp5,kp5⟩:=hr.b p5 (by first|exact Bx.set_same _ _ _|(simp only[Bx.set_ne _ (Ne.symm ne_p4_p3),Bx.set_ne _ (Ne.symm ne_p5_p3),Bx.set_ne _ (Ne.symm ne_p5_p4),Bx.set_ne _ ne_p4_p3,Bx.set_ne _ ne_p5_p3,Bx.set_ne _ ne_p5_p4,Bx.set_same];rfl));have m1:=hr.mod;clear hr;go_wp2_with fail;go_ret;exact⟨_,_,_,rfl,kp3,kp4,kp5,gp3,gp4,gp5,m1⟩
def KeepR (R:Nat→Prop) (W W':World):Prop:=∀i,R i→W'.heap[i]? =W.heap[i]?
theorem keepR_t {R:Nat→Prop} {A B C:World} (h:KeepR R A B) (k:KeepR R B C):KeepR R A C:=fun i hi=>(k i hi).trans (h i hi)
theorem grown_mod {W W':World} (hm:Mod (fun _=>False) W W'):W.grownBy W' none:=⟨hm.os,hm.tape,hm.output,hm.size,fun k hk _=>hm.block k hk (fun h=>h)⟩
theorem wrapi {n:Nat} (h:n<18446744073709551616):IntKind.u64.wrap (n:Int)=((UInt64.ofNat n).toNat:Int):=by
 rw[Mul64.wrapN n h,UInt64.toNat_ofNat',Nat.mod_eq_of_lt h]
theorem add_len (d:UInt64) {n:Nat} (h:n<18446744073709551616):Value.int .u64 (IntKind.u64.wrap ((d.toNat:Int)+(n:Int) % 18446744073709551616))=u64v (d+UInt64.ofNat n):=by
 unfold u64v;rw[UInt64.toNat_add,UInt64.toNat_ofNat',Nat.mod_eq_of_lt h,IntKind.wrap_u64];congr 1;omega
theorem times720_c (a:UInt64) (w:World):Calls Tryz.prog 87 #[u64v a,.int .u64 720,.int .u64 1,.bool false] w fun e w'=>e= .returned (u64v (tim a 720))∧Mod (fun _=>False) w w':=times1_c a 720 w
theorem times300_c (a:UInt64) (w:World):Calls Tryz.prog 87 #[u64v a,.int .u64 300,.int .u64 1,.bool false] w fun e w'=>e= .returned (u64v (tim a 300))∧Mod (fun _=>False) w w':=times1_c a 300 w
theorem parts1_in (n l p q r:Nat) (x:RdR) (wn:Nat) (u:UInt64) (hwr:wn≤1000000) (J Jx:List UInt64→World→Prop) (W:World) (hJ:AbidesFrom W.heap.size J)
  (hY:∀pre z W1,J pre W1→pre.length<4→YieldAt Fence.wide n Tryz.prog l #[u64v z] W1 fun e W'=>
   (e= .returned (.bool true)∧J (pre++[z]) W'∧KeepR (fun i=>i=p∨i=q∨i=r) W1 W')∨(e= .returned (.bool false)∧Jx (pre++[z]) W'))
  (kp:W.heap[p]? =some (.cells (txr x) 53 (0,0))) (kq:W.heap[q]? =some (.cells #[.int .i64 (wn:Int)] 3 (0,0))) (kr:W.heap[r]? =some (.cells #[u64v u] 25 (0,0)))
  (hins:SlAt inr 3 W x.ins.a x.ins.l) (b1:x.ins.l.length≤140737488355328) (b2:x.sg.l.length≤140737488355328) (b3:∀y∈x.ins.l,y.d.l.length≤140737488355328) (h0:J [] W):
  CallsIn Fence.wide (n+1) Tryz.prog 117 #[.func (.yield l) #[] #[],pV p,pV q,pV r] W fun e W'=>(∃v,e= .returned v)∧(J (coL (UInt64.ofNat x.sg.l.length) (UInt64.ofNat wn) (dSum x.ins.l) u) W'∨∃pre,Jx pre W'):=by
 refine callsIn_of_wp Tryz.func117 rfl trivial ?_ rfl;simp only[Tryz.ntmps117,List.size_toArray,List.length_cons,List.length_nil,Nat.reduceAdd,Nat.reduceSub,Array.replicate_succ,Array.replicate_zero,List.push_toArray,List.append_toArray,List.nil_append,List.cons_append];have HI:=Hi hins;have HJ:=Hi hJ;have HY:=Hi hY;have HB:=Hi b3;have H0:=Hi h0;clear hins hJ hY b3 h0;refine wpIn_wide.2 ?_;go_wp2_with fail;go_loopw [5,12] (fun s5 s12 ws=>∃i:Nat,i≤x.ins.l.length∧s12= .int .i64 (i:Int)∧s5=u64v (dSum (x.ins.l.take i))∧Hid (J [] ws)∧Mod (fun _=>False) W ws) (fun _ s12 _=>x.ins.l.length-(intOf s12).toNat)
 case atStart=>exact⟨0,Nat.zero_le _,rfl,rfl,H0,Mod.refl _ _⟩
 case round=>
  obtain⟨i,hi,rfl,rfl,HJi,hm⟩:=hrel;replace kp:=hm.at0 kp;replace kq:=hm.at0 kq;replace kr:=hm.at0 kr;by_cases hlt:i<x.ins.l.length
  ·have hd:=Dt hlt;obtain⟨y,hy⟩:∃y,x.ins.l[i]? =some y:=⟨_,List.getElem?_eq_getElem hlt⟩;obtain⟨g,o,C,U,fr,ha,kg,he,hle⟩:=(HI.out.mod0 hm).block hy;have hs:=dSum_snoc hy;have hyb:=HB.out y (List.mem_of_getElem? hy);have HS:=Hi hs;clear hy hs;have hw:IntKind.u64.wrap (y.d.l.length:Int)=((UInt64.ofNat y.d.l.length).toNat:Int):=wrapi (by omega);have hle3:o+i*3+3≤C.size:=hle;go_upto_region 3 with fail;have Lkp:=Ls kp;have Lkg:=Ls kg;refine ZP0 [0,1,3,4] ?_;refine Zv ?_;refine Zd ?_;refine Za alIn fun p7 hp7=> ?_;refine Zt ?_;refine TD.nil (fun w3 hr=> ?_);replace kp:=hr.q kp;replace kg:=hr.q kg;obtain⟨gp7,kp7⟩:=hr.b p7;have hm3:=hm.then0 hr.mod;have HJ3:=Hi (HJ.out [] _ _ none HJi.out (grown_mod hr.mod) (fun r e=>by cases e));clear hr hle hle3 he;go_wp2_with fail;go_roundw
   case rel=>exact⟨i+1,by omega,by go_num,by rw[HS.out];exact add_len _ (by omega),HJ3,hm3⟩
   case measure=>simp[intOf];omega
  ·have hd:=Df hlt;obtain rfl:i=x.ins.l.length:=by omega
   rw[List.take_length];have HCO:Hid (∃su wu d,UInt64.ofNat x.sg.l.length=su∧UInt64.ofNat wn=wu∧dSum x.ins.l=d∧coL (UInt64.ofNat x.sg.l.length) (UInt64.ofNat wn) (dSum x.ins.l) u=coL su wu d u):=Hi ⟨_,_,_,rfl,rfl,rfl,rfl⟩;obtain⟨su,wu,d,hsu,hwu,hdd,hco⟩:=HCO.out;have HC:=Hi hco;rw[hdd];clear hco HCO hdd;have hws:IntKind.u64.wrap (x.sg.l.length:Int)=((UInt64.ofNat x.sg.l.length).toNat:Int):=wrapi (by omega);have hww:IntKind.u64.wrap (wn:Int)=((UInt64.ofNat wn).toNat:Int):=wrapi (by omega);rw[hsu]at hws;rw[hwu]at hww;clear hsu hwu;go_upto_region 6 with fail;refine(wpIn_wide (n:=n+1)).1 ?_;have hd4:((d/4).toNat:Int)=IntKind.u64.wrap ((d.toNat:Int)/4):=by
    have:=d.toNat_lt;rw[UInt64.toNat_div,IntKind.wrap_u64,show(4:UInt64).toNat=4 from rfl];omega
   have HD4:=Hi hd4;clear hd4
   gi_wp2
   refine⟨trivial,callsIn_wide.2 ?_⟩;refine(times720_c su _).mono ?_;rintro e w2 ⟨rfl,m2⟩;replace kp:=m2.at0 kp;replace kq:=m2.at0 kq;replace kr:=m2.at0 kr;have HJ2:=HJ.out [] _ _ none HJi.out (grown_mod m2) (fun r e=>by cases e);clear m2;obtain⟨fn1,tmps1,assign1,body1,hy1,hR1⟩:=HY.out [] (tim su 720) w2 HJ2 (by simp)
   gi_wp2
   refine hR1.mono ?_;rintro e w3 (⟨rfl,hJ3,hk3⟩|⟨rfl,hx3⟩)
   ·replace kp:=(hk3 p (.inl rfl)).trans kp;replace kq:=(hk3 q (.inr (.inl rfl))).trans kq;replace kr:=(hk3 r (.inr (.inr rfl))).trans kr;clear hk3 hy1 hR1
    gi_wp2
    go_upto_region 7 with fail;refine(wpIn_wide (n:=n+1)).1 ?_;have hmx:max 0 (wn:Int)=(wn:Int):=by omega
    gi_wp2
    refine⟨trivial,callsIn_wide.2 ?_⟩;refine(times300_c wu _).mono ?_;rintro e w4 ⟨rfl,m4⟩;replace kr:=m4.at0 kr;have HJ4:=HJ.out _ _ _ none hJ3 (grown_mod m4) (fun r e=>by cases e);clear m4;obtain⟨fn2,tmps2,assign2,body2,hy2,hR2⟩:=HY.out [tim su 720] (tim wu 300) w4 HJ4 (by simp)
    gi_wp2
    refine hR2.mono ?_;rintro e w5 (⟨rfl,hJ5,hk5⟩|⟨rfl,hx5⟩)
    ·replace kr:=(hk5 r (.inr (.inr rfl))).trans kr;clear hk5 hy2 hR2
     gi_wp2
     go_upto_region 8 with fail;refine(wpIn_wide (n:=n+1)).1 ?_;obtain⟨fn3,tmps3,assign3,body3,hy3,hR3⟩:=HY.out [tim su 720,tim wu 300] (d/4) w5 hJ5 (by simp);simp only[u64v,HD4.out]at hy3
     gi_wp2
     refine hR3.mono ?_;rintro e w6 (⟨rfl,hJ6,hk6⟩|⟨rfl,hx6⟩)
     ·replace kr:=(hk6 r (.inr (.inr rfl))).trans kr;clear hk6 hy3 hR3
      gi_wp2
      go_upto_region 9 with fail;refine(wpIn_wide (n:=n+1)).1 ?_;obtain⟨fn4,tmps4,assign4,body4,hy4,hR4⟩:=HY.out [tim su 720,tim wu 300,d/4] u w6 hJ6 (by simp)
      gi_wp2
      refine hR4.mono ?_;rintro e w7 (⟨rfl,hJ7,hk7⟩|⟨rfl,hx7⟩)
      ·gi_wp2
       go_wp2_with fail;go_end0;exact⟨⟨_,rfl⟩,.inl (by rw[HC.out];exact hJ7)⟩
      ·gi_wp2
       go_wp2_with fail;go_end0;exact⟨⟨_,rfl⟩,.inr ⟨_,hx7⟩⟩
     ·gi_wp2
      go_wp2_with fail;go_end0;exact⟨⟨_,rfl⟩,.inr ⟨_,hx6⟩⟩
    ·gi_wp2
     go_wp2_with fail;refine bodyPost_ret (results_none rfl _ _ _) rfl ?_;exact⟨⟨_,rfl⟩,.inr ⟨_,hx5⟩⟩
   ·gi_wp2
    go_wp2_with fail;refine bodyPost_ret (results_none rfl _ _ _) rfl ?_;exact⟨⟨_,rfl⟩,.inr ⟨_,hx3⟩⟩
theorem parts_stops (n p q r:Nat) (x:RdR) (wn:Nat) (u:UInt64) (hwr:wn≤1000000) (w:World) (kp:w.heap[p]? =some (.cells (txr x) 53 (0,0))) (kq:w.heap[q]? =some (.cells #[.int .i64 (wn:Int)] 3 (0,0))) (kr:w.heap[r]? =some (.cells #[u64v u] 25 (0,0)))
  (hins:SlAt inr 3 w x.ins.a x.ins.l) (b1:x.ins.l.length≤140737488355328) (b2:x.sg.l.length≤140737488355328) (b3:∀y∈x.ins.l,y.d.l.length≤140737488355328):
  SeqStopsK Fence.wide (n+1) Tryz.prog 117 #[pV p,pV q,pV r] (fun v:UInt64=> #[u64v v]) (KeepR (fun i=>i=p∨i=q∨i=r)) (fun xs=>xs=coL (UInt64.ofNat x.sg.l.length) (UInt64.ofNat wn) (dSum x.ins.l) u) (fun _=>True) 4 w:=fun l J Jx W hW hJ hJx hY h0=>by
 have hB:∀ {i:Nat} {o:Obj},w.heap[i]? =some o→W.heap[i]? =some o:=fun{i o} h=>(hW.block i (Ls h)).trans h;have hins':SlAt inr 3 W x.ins.a x.ins.l:=by
  rcases hins with h|⟨b,o,C,U,fr,h1,h2,h3⟩
  ·exact .inl h
  ·exact .inr ⟨b,o,C,U,fr,h1,hB h2,h3⟩
 refine(parts1_in n l p q r x wn u hwr J Jx W hJ hY (hB kp) (hB kq) (hB kr) hins' b1 b2 b3 h0).mono ?_;rintro e W' ⟨he,hj|⟨pre,hj⟩⟩
 ·exact⟨he,.inl ⟨_,rfl,hj⟩⟩
 ·exact⟨he,.inr ⟨pre,trivial,hj⟩⟩
def noPanic (Q:Exit→Act→World→Prop):Exit→Act→World→Prop:=fun e a w=>(∀c,e≠ .panic c)∧e≠ .outgrown∧Q e a w
theorem of_c (x:RdR) (wn:Nat) (u:UInt64) (hwr:wn≤1000000) (w:World) (hins:SlAt inr 3 w x.ins.a x.ins.l) (b1:x.ins.l.length≤140737488355328) (b2:x.sg.l.length≤140737488355328) (b3:∀y∈x.ins.l,y.d.l.length≤140737488355328):Calls Tryz.prog 40 #[.agg (txr x),.int .i64 (wn:Int),u64v u] w fun e w'=>e= .returned (u64v (coF (UInt64.ofNat x.sg.l.length) (UInt64.ofNat wn) (dSum x.ins.l) u))∧Mod (fun _=>False) w w':=by
 have HI:=Hi (Ai hins b3);clear hins b3;refine(callsIn_wide (n:=4)).1 ?_;refine callsIn_of_wp_marks Tryz.func40 rfl trivial ?_ rfl;simp only[Tryz.ntmps40,List.size_toArray,List.length_cons,List.length_nil,Nat.reduceAdd,Nat.reduceSub,Array.replicate_succ,Array.replicate_zero,List.push_toArray,List.append_toArray,List.nil_append,List.cons_append];refine wpIn_wide.2 ?_;refine wp_mono (Q:=noPanic _) ?_ (fun e a w h=>h.2.2);generalize hQ0:bodyPostM Fence.wide 4 Tryz.prog _ _=Q0;have HQ0:=Hi hQ0;clear hQ0;have hP:∀c a w,¬noPanic Q0 (.panic c) a w:=fun c a w h=>h.1 c rfl;have hLo:¬LetsOut (noPanic Q0):=fun⟨a,w,h⟩=>h.2.1 rfl;generalize hQ1:noPanic Q0=Q1 at *;have HQ1:=Hi hQ1;clear hQ1;go_upto_region 0 with fail;refine ZP0 [3,0] ?_;refine Zb fun p3 hp3=> ?_;refine Zv ?_;refine TD.nil (fun w1 hr=> ?_);obtain⟨gp3,kp3⟩:=hr.b p3;have m1:=hr.mod;clear hr;go_upto_region 1 with fail;have Lkp3:=Ls kp3;refine ZP0 [3,4] ?_;refine Za alU64 fun p7 hp7=> ?_;refine Zt ?_;refine TD.nil (fun w2 hr=> ?_);replace kp3:=hr.q kp3;obtain⟨gp7,kp7⟩:=hr.b p7;have m2:=m1.then0 hr.mod;have HLT:=Hi (Ai (Ls kp3) (Ai (Ls kp7) m1.size));clear hr;go_upto_region 2 with fail;go_wp2_with fail;go_at_call 86;refine(parts_c x _ u _).mono ?_;rintro e w3 ⟨p,q,r,rfl,kp,kq,kr,hp,hq,hr,m3⟩;replace kp7:=m3.at0 kp7;go_wp2_with fail;have m3w:=m2.then0 m3;have HM3:=Hi m3w;have HLQ:=Hi (Ai (Ls kp) (Ai (Ls kq) (Ls kr)));have hins3:SlAt inr 3 w3 x.ins.a x.ins.l:=HI.out.1.mod0 m3w;have h7:p7≠p∧p7≠q∧p7≠r:=by
  have h:=HLT.out;exact⟨by omega,by omega,by omega⟩
 have HK:=Hi (Ai kp7 (Ai kp (Ai kq (Ai kr hins3))));clear kp7 kp kq kr hins3 m3w m3 kp3;have hbs:∀(a b:UInt64) w,(Instr.buildSlice 213 2 #[(0,u64v a),(1,u64v b)]).run Tryz.prog w= .ok (.slice (some ⟨w.heap.size,0,none⟩) 2 2) (w.alloc (.cells #[u64v a,u64v b] 25)):=fun a b w=>by kernel_rfl
 refine wpIn_wide.1 (wpIn_rangeFunc_ownG (n:=3) rfl (by omega) (gf:=117) (lb:= #[pV p,pV q,pV r]) rfl trivial (enters_of Tryz.func117 (by kernel_rfl) rfl)
  (parts_stops 1 p q r x wn u hwr w3 HK.out.2.1 HK.out.2.2.1 HK.out.2.2.2.1 HK.out.2.2.2.2 b1 b2 HI.out.2) keepR_t (fun W l o o' hl hk _ _ i hi=>World.putObj_heap_other (by have:=HLQ.out;rcases hi with e|e|e<;>omega)) (Below.refl _ _) (fun _=>rfl)
  (fun pre W=>W.heap[p7]? =some (.cells #[u64v (pre.foldl sat 0)] 25 (0,0))∧Mod (fun i=>i=p7∨w3.heap.size≤i) w3 W)
  (fun _ _ _=>False) ?own (fun _ _ _ _ _ hs _ _=>hs) ⟨HK.out.1,Mod.refl _ _⟩
  (fun z=> {tmps:= #[.agg (txr x),.int .i64 (wn:Int),u64v u,pV p3,undef,undef,.int .u64 0,pV p7,u64v z,.agg (txr x),.int .i64 (wn:Int),u64v u,.func (.func 117) #[] #[pV p,pV q,pV r],u64v z,undef,undef,undef,undef,undef],defers:=[]}) ?assign ?body ?done ?stop)
 case own=>
  rintro pre W W' row ⟨h1,h2⟩ hg hr;have hlt:p7<w3.heap.size:=Ls HK.out.1;refine⟨(hg.block p7 (Ls h1) (fun e=>by have:=(hr p7 e.symm).1;omega)).trans h1,h2.then (⟨hg.os,hg.tape,hg.output,hg.size,fun k hk hne=>hg.block k hk (fun e=>hne (.inr (hr k e.symm).1))⟩:Mod (fun i=>i=p7∨w3.heap.size≤i) W W') (fun i hi e=>e)⟩
 case assign=>
  intro l z W K hK
  gi_wp2
  exact hK
 case body=>
  rintro l pre z W ⟨h1,h2⟩ hlt;have k7:=h1;have H2:=Hi h2;have K7:Hid (∃cs,W.heap[p7]? =some (.cells cs 25 (0,0))):=Hi ⟨_,h1⟩;clear h1 h2
  gi_wp2
  refine⟨trivial,CallsIn.inRound l (callsIn_wide.2 ?_)⟩;refine(wsum_c W.heap.size (pre.foldl sat 0) z _ (heap_alloc_new _ _)).mono ?_;rintro e W2 ⟨rfl,m2⟩;have mm:=((Mod.refl (fun _=>False) W).alloc (.cells #[u64v (pre.foldl sat 0),u64v z] 25)).trans m2;replace k7:=mm.at0 k7;clear m2
  gi_wp2
  rw[setCell_blk k7];have k8:=heap_setBlock W2 (.cells (#[u64v (pre.foldl sat 0)].setIfInBounds 0 (.int .u64 ((sat (pre.foldl sat 0) z).toNat:Int))) 25 (0,0)) (Ls k7);have m8:=(mm.mono (T:=fun i=>i=p7) (fun _ _ h=>h.elim)).trans (mod_set W2 p7 (.cells (#[u64v (pre.foldl sat 0)].setIfInBounds 0 (.int .u64 ((sat (pre.foldl sat 0) z).toNat:Int))) 25 (0,0)));have K0:∃cs,W.heap[p7]? =some (.cells cs 25 (0,0)):=K7.out;obtain⟨cs0,K0⟩:=K0;refine⟨(⟨m8.size,fun k o hk ho=>m8.at_ne hk (fun e=>by subst e;rw[K0]at hk;cases hk;cases ho)⟩:KeepsOthers W _).from _,fun i hi=> ?_,?_,H2.out.then m8 (fun i _ e=> .inl e)⟩
  ·refine m8.block i ?_ ?_
   ·have h1:=HLQ.out;have h2:=H2.out.size;rcases hi with e|e|e<;>omega
   ·rcases hi with e|e|e<;>omega
  ·rw[List.foldl_append];exact k8
 case done=>
  rintro D xs W hD rfl ⟨h1,h2⟩ hK;have H2:=Hi h2;clear h2;go_wp2_with fail;rw[←HQ1.out];refine⟨fun c h=>(by cases h),fun h=>(by cases h),?_⟩;rw[←HQ0.out];refine⟨by simp,.inl ⟨_,_,rfl,run_takeDeferred hK,?_⟩⟩;refine⟨_,results_tmp rfl _ _ _,rfl,?_⟩;have hw3:=HM3.out.size;have hg7:=HLT.out.2.2;have mm:=HM3.out.then H2.out (fun i hi e=>by rcases e with e|e<;>omega);exact⟨mm.os,mm.tape,mm.output,by rw[World.putObj_size];exact mm.size,fun k hk hne=>(World.putObj_heap_other (by omega)).trans (mm.block k hk hne)⟩
 case stop=>
  rintro D c pre W hD _ h _;exact h.elim
end
section
attribute [local go_sem↓] ldSg stSg wlTc ldTc stTc
attribute [local go_sem] txr_one'
attribute [local go_sem↓] ldRole stRole
attribute [local go_sem] rc_size rc_key rc_w' rc_one zRole_size
theorem wrL_snoc {l:List Role} {i:Nat} {x:Role} (hx:l[i]? =some x):wrL (l.take (i+1))=wrL (l.take i)++(if x.w then [x.k]else []):=by
 rw[List.take_add_one,hx];cases h:x.w<;>simp[wrL,h]
theorem wrL_len (l:List Role):(wrL l).length≤l.length:=by
 unfold wrL;rw[List.length_map];exact List.length_filter_le _ _
theorem role_at {w:World} {a:Option Addr} {l:List Role} (h:SlAt rcr 34 w a l) {i:Nat} {x:Role} (hx:l[i]? =some x):∃g o C U fr,a=some ⟨g,o,none⟩∧w.heap[g]? =some (.cells C U fr)∧C.extract (o+i*34) (o+i*34+34)=rc x.k x.s x.w∧o+i*34+34≤C.size:=h.block hx
theorem bsKey (k:Key) (w:World):(Instr.buildSlice 45 1 #[(0,.agg (kc k))]).run Tryz.prog w= .ok (.slice (some ⟨w.heap.size,0,none⟩) 1 1) (w.alloc (.cells (kc k) 110)):=by
 obtain⟨i0,hi,hz0,hz1,hz2⟩:=info_parts (show(Tryz.prog.info? 110).map (fun i=>(i.zero,i.size,i.bytes))=some (some (.agg zKey),32,32)by kernel_rfl);refine run_buildSlice w _ _ 1 _ _ i0 _ Tryz.underlying45 hi hz0 (by rw[hz1];omega) (by rw[hz1];omega) ?_;rw[hz1];show Instr.fill _ _ [(0,_)]=_;rw[fill_cons (off:=0) (n:=32) rfl (by simp[Value.cells]) (by simp[Value.cells,zKey_size,size_madeCells])];show some (wr _ 0 (kc k).toList)=_;rw[wr_whole (kc k) _ (by simp[Value.cells,zKey_size,size_madeCells])]
theorem written_c (a:Option Addr) (l:List Role) (c:Nat) (w:World) (hl:SlAt rcr 34 w a l) (hn:l.length≤100000):Calls Tryz.prog 41 #[.slice a l.length c] w fun e w'=>∃v,e= .returned v∧NewS kc 32 110 w.heap.size w' v (wrL l)∧Mod (fun _=>False) w w':=by
 have HL:=Hi hl;clear hl;go_enter Tryz.func41,Tryz.ntmps41;go_wp2_with fail;go_loopw [2,7] (fun s2 s7 ws=>∃i:Nat,i≤l.length∧s7= .int .i64 (i:Int)∧Hid (SlOwn kc 32 110 ws w.heap.size s2 (wrL (l.take i)))∧Mod (fun _=>False) w ws) (fun _ s7 _=>l.length-(intOf s7).toNat)
 case atStart=>exact⟨0,Nat.zero_le _,rfl,Hi (SlOwn.nil _ _),Mod.refl _ _⟩
 case round=>
  obtain⟨i,hi,rfl,HO,hm⟩:=hrel;by_cases hlt:i<l.length
  ·have hd:=Dt hlt;obtain⟨x,hx⟩:∃x,l[i]? =some x:=⟨_,List.getElem?_eq_getElem hlt⟩;obtain⟨g,o,C,U,fr,rfl,kg,he,hle⟩:=role_at (HL.out.mod0 hm) hx;have hlen:=wrL_len (l.take i);have hlen2:=List.length_take_le i l;have HN:Hid ((wrL (l.take i)).length≤100000):=Hi (by omega);have HX:=Hi (wrL_snoc hx);clear hx hlen hlen2;obtain⟨xk,xs,xw⟩:=x;dsimp only at he HX;go_upto_region 3 with fail;have Lkg:=Ls kg;refine ZP0 [0,1,3,4] ?_;refine Zv ?_;refine Zd ?_;refine Za alRole fun p4 hp4=> ?_;refine Zt ?_;refine TD.nil (fun w3 hr=> ?_);replace kg:=hr.q kg;obtain⟨gp4,kp4⟩:=hr.b p4;have hm3:=hm.then0 hr.mod;have HO3:=Hi (HO.out.mod0 hr.mod);clear hr he hle kg;cases xw with
   |false=>
    have HX2:Hid (wrL (l.take (i+1))=wrL (l.take i)):=Hi (by rw[HX.out];simp);go_wp2_with fail;go_roundw
    case rel=>exact⟨i+1,by omega,by go_num,Hi (by rw[HX2.out];exact HO3.out),hm3⟩
    case measure=>simp[intOf];omega
   |true=>
    have HX2:Hid (wrL (l.take (i+1))=wrL (l.take i)++[xk]):=Hi (by rw[HX.out];simp);have hbs:=bsKey xk;obtain⟨a2,c2,rfl,_⟩:=HO3.out.at keysT;generalize hll:(wrL (l.take i)).length=ll at *;have HLL:=Hi hll;clear hll;go_upto_region 5 with fail;have Lkp4:=Ls kp4;refine ZP0 [0,0,1,3,5,0] ?_
    iterate 3 first|refine Zv ?_|refine Zd ?_
    refine Zy hbs fun p16 hp16=> ?_;refine Zi fun w4 hr=> ?_;replace kp4:=hr.q kp4;obtain⟨gp16,kp16⟩:=hr.b p16;have m4:=hr.mod;clear hr hbs;obtain⟨v5,w5,hap,hO5,m5,hn5⟩:=SlOwn.append keysT (q:=[xk]) (c:=1) (HO3.out.mod0 m4) (SlAt.one kp16 xk rfl (kc_size _)) (by have:=HN.out;have:=HLL.out;simp only[List.length_singleton];omega) (by decide) (Nat.le_trans hm3.size m4.size) 45;have hlo:=HO3.out.lt;have hm5:Mod (fun _=>False) w w5:=(hm3.then0 m4).then m5 (fun j hj e=>by have:=(hlo j e).1;omega);have HO5:=Hi hO5;clear hO5 m5 m4 hn5 hlo;refine ZA hap ?_;refine Ze ?_;refine TE.nil ?_;go_wp2_with fail;go_roundw
    case rel=>exact⟨i+1,by omega,by go_num,Hi (by rw[HX2.out];exact HO5.out),hm5⟩
    case measure=>simp[intOf];omega
  ·have hd:=Df hlt;obtain rfl:i=l.length:=by omega
   obtain⟨a2,c2,v2,rfl,hcl,hN⟩:=HO.out.clip keysT;rw[List.take_length]at hcl hN;have HNN:=Hi hN;have HCL:=Hi hcl;clear hcl hN;rw[List.take_length];go_wp2_with fail;go_at_call 77;refine(clipKr_c v2 _ _ HCL.out).mono ?_;rintro e w5 ⟨rfl,rfl⟩;go_wp2_with fail;go_ret;exact⟨_,rfl,HNN.out,hm⟩
end
section
attribute [local go_sem↓] eqHash eqSig eqAcct wlGnd ldGnd
attribute [local go_sem] zHash_ext zHash_one0 neMapS grc_size grc_all grc_lim grc0 grc1 grc2 grc3 grc4 grc5 grc0' grc1' grc2' grc3' grc4' grc5'
structure OcP where
 fail:Int64
 at':Int64
 un:UInt64
 fee:UInt64
 sp:UInt64
 ch:List Hold
def OcR.pl (o:OcR):OcP:=⟨o.fail,o.at',o.un,o.fee,o.sp,o.ch.l⟩
structure BS where
 en:Bool
 H:List Key
 N:List (Sg×Key)
 L:Lim
 b:UInt64
 sp:UInt64
 m:List (Key×UInt64)
 es:List (List UInt8)
 os:List OcP
 fees:UInt64
def BkAt (Tn Tr:Nat→Prop) (w:World) (b s:Nat) (S:BS):Prop:=
 ∃(q n t m:Nat) (ea:Option Addr) (en ec:Nat) (oa:Option Addr) (on oc:Nat) (er:List (Sl UInt8)) (orr:List OcR),
  w.heap[b]? =some (.cells (blkC s q n t S.en ea en ec oa on oc S.fees) 130 (0,0))∧
  (QuAt w q S.H∧SeAt Tn w n S.N∧TrAt w t m S.L S.b S.sp S.m)∧
  (SlOwn slv 1 42 w 0 (.slice ea en ec) er∧er.map (·.l)=S.es∧∀x∈er,SlOwn uc 1 5 w 0 x.v x.l)∧
  (SlOwn ocr 6 63 w 0 (.slice oa on oc) orr∧orr.map OcR.pl=S.os∧∀x∈orr,NewS hd 66 166 0 w x.ch.v x.ch.l)∧
  (Tr b∧Tr t∧Tr m∧¬Tr q∧¬Tn q)∧
  ((∀g,(Value.slice ea en ec).ownBlock=some g→Tr g)∧(∀g,(Value.slice oa on oc).ownBlock=some g→Tr g)∧(∀x∈er,∀g,x.v.ownBlock=some g→Tr g)∧(∀x∈orr,∀g,x.ch.v.ownBlock=some g→Tr g))∧
  (∀i,Tn i→¬Tr i)
theorem BkAt.mod {Tn Tr S:Nat→Prop} {w w':World} {b s:Nat} {B:BS} (h:BkAt Tn Tr w b s B) (hm:Mod S w w') (h1:∀i,Tn i→¬S i) (h2:∀i,Tr i→¬S i) (h3:∀q c0 c1 c2,w.heap[q]? =some (.cells (qr c0 c1 c2 1) 155 (0,0))→¬S q):BkAt Tn Tr w' b s B:=by
 obtain⟨q,n,t,m,ea,en,ec,oa,on,oc,er,orr,kb,⟨hq,hn,ht⟩,⟨he1,he2,he3⟩,⟨ho1,ho2,ho3⟩,⟨t1,t2,t3,t4,t5⟩,⟨u1,u2,u3,u4⟩,hd⟩:=h;refine⟨q,n,t,m,ea,en,ec,oa,on,oc,er,orr,hm.at kb (h2 _ t1),⟨?_,hn.mod hm h1,ht.mod hm (h2 _ t2) (h2 _ t3)⟩,⟨he1.mod hm (fun g hg=>h2 _ (u1 g hg)),he2,fun x hx=>(he3 x hx).mod hm (fun g hg=>h2 _ (u3 x hx g hg))⟩,⟨ho1.mod hm (fun g hg=>h2 _ (u2 g hg)),ho2,fun x hx=>(ho3 x hx).mod hm (fun g hg=>h2 _ (u4 x hx g hg))⟩,⟨t1,t2,t3,t4,t5⟩,⟨u1,u2,u3,u4⟩,hd⟩;obtain⟨R,nx,kq,hqi⟩:=hq;exact⟨R,nx,hm.at kq (h3 q R _ _ kq),hqi⟩
theorem BkAt.mod0 {Tn Tr:Nat→Prop} {w w':World} {b s:Nat} {B:BS} (h:BkAt Tn Tr w b s B) (hm:Mod (fun _=>False) w w'):BkAt Tn Tr w' b s B:=h.mod hm (fun _ _ h=>h) (fun _ _ h=>h) (fun _ _ _ _ _ h=>h)
theorem bldRQ (w:World):(Instr.build 96 #[]).run Tryz.prog w= .ok (.agg #[.slice none 0 0]) w:=by kernel_rfl
theorem r20new_c (L:Lim) (w:World):Calls Tryz.prog 68 #[.agg #[u64v L.b,u64v L.a,u64v L.s]] w fun e w'=>(∃t,e= .returned (ptrV t))∧Mod (fun _=>False) w w':=by
 have hb:∀w,(Instr.build 238 #[(0,.agg #[u64v L.b,u64v L.a,u64v L.s])]).run Tryz.prog w= .ok (.agg #[u64v L.b,u64v L.a,u64v L.s,.slice none 0 0]) w:=fun w=>by kernel_rfl
 go_enter Tryz.func68,Tryz.ntmps68;go_upto_region 0 with fail;refine ZP0 [3,0] ?_;refine Zb fun p1 hp1=> ?_;refine Zv ?_;refine TD.nil (fun w1 hr=> ?_);obtain⟨gp1,kp1⟩:=hr.b p1;have m1:=hr.mod;clear hr;go_upto_region 1 with fail;have Lkp1:=Ls kp1;refine ZP0 [1,0,3,0] ?_;refine Zd ?_;refine Zu hb ?_;refine Zb fun p5 hp5=> ?_;refine Zv ?_;refine TD.nil (fun w2 hr=> ?_);replace kp1:=hr.q kp1;obtain⟨gp5,kp5⟩:=hr.b p5;have m2:=m1.then0 hr.mod;go_wp2_with fail;go_ret;exact⟨⟨_,rfl⟩,m2⟩
theorem r27open_c (a b c:Nat) (L:Lim) (w:World):Calls Tryz.prog 29 #[ptrV a,ptrV b,ptrV c,.agg #[u64v L.b,u64v L.a,u64v L.s]] w fun e w'=>(∃t,e= .returned (ptrV t))∧Mod (fun _=>False) w w':=by
 go_enter Tryz.func29,Tryz.ntmps29;go_upto_region 0 with fail;refine ZP0 [3,0] ?_;refine Zb fun p7 hp7=> ?_;refine Zv ?_;refine TD.nil (fun w1 hr=> ?_);obtain⟨gp7,kp7⟩:=hr.b p7;have m1:=hr.mod;clear hr;go_upto_region 1 with fail;go_wp2_with fail;go_at_call 68;refine(r20new_c L _).mono ?_;rintro e w2 ⟨⟨t,rfl⟩,m2⟩;have hb:∀w,(Instr.build 179 #[(0,ptrV a),(1,ptrV b),(2,ptrV c),(3,ptrV t)]).run Tryz.prog w= .ok (.agg #[ptrV a,ptrV b,ptrV c,ptrV t,.bool false,.slice none 0 0,.slice none 0 0]) w:=fun w=>by kernel_rfl
 go_wp2_with fail;go_ret;exact⟨⟨_,rfl⟩,(m1.then0 m2).alloc _⟩
end
section
attribute [local go_sem↓] eqHash eqSig eqAcct wlGnd ldGnd
attribute [local go_sem] zHash_ext zHash_one0 neMapS grc_size grc_all grc_lim grc0 grc1 grc2 grc3 grc4 grc5 grc0' grc1' grc2' grc3' grc4' grc5'
theorem mark0_c {T:Nat→Prop} (n:Nat) (N:List (Sg×Key)) (g:Sg) (w:World) (h:SeAt T w n N) (hT:∀i,T i→i<w.heap.size) (hN:N.length<1000000):Calls Tryz.prog 27 #[ptrV n,.agg (sgc g),.agg zHash] w fun e w'=>(∃v,e= .returned v)∧SeAt (fun i=>T i∨(w.heap.size≤i∧i<w'.heap.size)) w' n (markS N g key0)∧Mod T w w':=mark_c n N g key0 w h hT hN
theorem rmark0_c {T:Nat→Prop} (h:Nat) (M:List (Sg×Key)) (g:Sg) (w:World) (hD:DS T w h M) (hT:∀i,T i→i<w.heap.size) (hM:M.length<1000000):Calls Tryz.prog 28 #[ptrV h,.agg (sgc g),.agg zHash] w fun e w'=>(∃v,e= .returned v)∧(∃M',M'.length≤M.length+1∧DS (fun i=>T i∨(w.heap.size≤i∧i<w'.heap.size)) w' h M')∧Mod T w w':=rmark_c h M g key0 w hD hT hM
theorem opened_c (g:GrR') (w:World) (hok:GrOk w g) (n1:g.L.l.length≤200) (n2:g.H.l.length≤160) (n3:g.M.l.length≤100):Calls Tryz.prog 6 #[.agg (grc g)] w fun e w'=>∃b s r sb Tn Tr,e= .returned (.tuple #[ptrV b,ptrV s,ptrV r])∧BkAt Tn Tr w' b s ⟨false,quL g.H.l,seL g.M.l,g.lim,0,0,[],[],[],0⟩∧(∀i,Tn i∨Tr i→w.heap.size≤i∧i<w'.heap.size)∧StAt w' s sb (stL g.L.l)∧Mod (fun _=>False) w w':=by
 have HO:=Hi hok;have hrq:=bldRQ;have hh0:=bldHash0;clear hok;go_enter Tryz.func6,Tryz.ntmps6;go_upto_region 0 with fail;refine ZP0 [3,0,0,0] ?_;refine Zb fun p1 hp1=> ?_
 iterate 3 refine Zv ?_
 refine TD.nil (fun w1 hr=> ?_);obtain⟨gp1,kp1⟩:=hr.b p1;have m1:=hr.mod;have HP1:=Hi (Ls kp1);clear hr;go_upto_region 1 with fail;go_wp2_with fail;go_at_call 23;refine(stores_c g.L.a g.L.l g.L.c _ (HO.out.1.1.mod0 m1) n1 (fun x hx=>(HO.out.1.2.2.2.1 x hx).imp (fun h=>Nat.lt_of_lt_of_le h m1.size) id)).mono ?_;rintro e w2 ⟨s,sb,r,rfl,hs,hsb,hr2,hS,-,m2⟩;replace kp1:=m2.at0 kp1;have hlS:=hS.lt;have HS:=Hi hS;have m2:=m1.then0 m2;have hw1:=m1.size;clear hS m1;go_wp2_with fail;go_at_call 18;refine(newQ_c _).mono ?_;rintro e w3 ⟨q,rfl,hq,hQ,m3⟩;replace kp1:=m3.at0 kp1;have HS3:=Hi (HS.out.mod0 m3);have HQ:=Hi hQ;have hw2:=m2.size;have m3:=m2.then0 m3;clear hQ m2 HS;go_upto_region 3 with fail;have Lkp1:=Ls kp1;refine ZP0 [0,3,0] ?_;refine Zu hrq ?_;refine Zb fun p23 hp23=> ?_;refine Zv ?_;refine TD.nil (fun w4 hr=> ?_);replace kp1:=hr.q kp1;obtain⟨gp23,kp23⟩:=hr.b p23;have HS4:=Hi (HS3.out.mod0 hr.mod);have HQ4:=Hi (HQ.out.mod0 hr.mod);have hD4:DQ w4 p23 []:=⟨none,0,kp23,.inl rfl,by simp,fun x hx=>by cases hx⟩;have HD4:=Hi hD4;have hw3:=m3.size;have m4:=m3.then0 hr.mod;have hq23:q<p23:=by
  obtain⟨_,_,kq,_⟩:=HQ.out;have:=Ls kq;omega
 have M4:=Hi m4;have hw4:=m4.size;have hlq:q<w4.heap.size∧p23<w4.heap.size:=by
  obtain⟨_,_,kq,_⟩:=HQ4.out;exact⟨Ls kq,Ls kp23⟩
 have KP1:=Hi kp1;clear hr kp1 kp23 hD4 HQ HS3 m3 m4 hrq;go_wp2_with fail;go_loopw [9] (fun s9 ws=>∃i:Nat,i≤g.H.l.length∧s9= .int .i64 (i:Int)∧Hid (QuAt ws q (quL (g.H.l.take i)))∧Hid (DQ ws p23 (quL (g.H.l.take i)))∧Hid (Mod (fun i=>i=q∨i=p23) w4 ws)) (fun s9 _=>g.H.l.length-(intOf s9).toNat)
 case atStart=>exact⟨0,Nat.zero_le _,rfl,HQ4,HD4,Hi (Mod.refl _ _)⟩
 case round=>
  obtain⟨i,hi,rfl,HQi,HDi,hm⟩:=hrel;have hmw:Mod (fun _=>False) w wr:=M4.out.then hm.out (fun j hj e=>by rcases e with e|e<;>omega);have hp1q:p1≠q∧p1≠p23:=by have:=HP1.out;exact⟨by omega,by omega⟩
  have kp1:=hm.out.at KP1.out (fun e=>by rcases e with e|e<;>omega);by_cases hlt:i<g.H.l.length
  ·have hd:=Dt hlt;obtain⟨x,hx⟩:∃x,g.H.l[i]? =some x:=⟨_,List.getElem?_eq_getElem (hlt)⟩;obtain⟨gg,o,C,U,fr,ha,kl,he,hle⟩:=hash_at (HO.out.2.1.1.mod0 hmw) hx;have hgw:=slOk_lt HO.out.2.1 hx ha;have HX:=Hi hx;clear hx hmw;go_upto_region 7 with fail;go_wp2_with fail;go_at_call 24;refine(push_c q _ x _ HQi.out).mono ?_;rintro e w5 ⟨⟨v5,rfl⟩,hQ5,m5⟩;rw[←quL_snoc HX.out]at hQ5;replace kp1:=m5.at_ne kp1 hp1q.1;replace kl:=m5.at_ne kl (by omega);have HQ5:=Hi hQ5;have HD5:Hid (DQ w5 p23 (quL (g.H.l.take i))):=Hi (HDi.out.mod m5 (by omega) (fun a c hk b o hb hbq=>by
    subst hb;obtain⟨a',c',hk',_,_,h4⟩:=HDi.out;rw[hk]at hk';cases hk';have:=(h4 _ rfl).2;simp only at this;omega))
   have HM5:=Hi (hm.out.trans (m5.mono (fun _ _ h=> .inl h)));clear hQ5 m5;go_upto_region 8 with fail;go_wp2_with fail;go_at_call 25;refine(rpush_c p23 _ x _ HD5.out).mono ?_;rintro e w6 ⟨⟨v6,rfl⟩,hD6,m6⟩;rw[←quL_snoc HX.out]at hD6;have HE6:=Hi (Ai hD6 (Ai (HQ5.out.mod m6 (by omega)) (HM5.out.trans (m6.mono (fun _ _ h=> .inr h)))));clear hD6 m6;go_wp2_with fail;go_roundw
   case rel=>exact⟨i+1,by omega,by go_num,Hi HE6.out.2.1,Hi HE6.out.1,Hi HE6.out.2.2⟩
   case measure=>simp[intOf];omega
  ·have hd:=Df hlt;obtain rfl:i=g.H.l.length:=by omega
   have HQf:Hid (QuAt wr q (quL g.H.l)):=Hi (by
    have:=HQi.out;rw[List.take_length]at this;exact this)
   have HS5:Hid (StAt wr s sb (stL g.L.l)):=Hi (HS4.out.mod hm.out (fun e=>by rcases e with e|e<;>omega) (fun e=>by rcases e with e|e<;>omega));have HMW:=Hi hmw;have hww:w4.heap.size≤wr.heap.size:=hm.out.size;clear HQi HDi hmw hm;go_wp2_with fail;go_at_call 19;refine(newN_c _).mono ?_;rintro e w5 ⟨n,rfl,hn,hnl,hN,m5⟩;replace kp1:=m5.at0 kp1;have HQ5:=Hi (HQf.out.mod0 m5);have HS6:=Hi (HS5.out.mod0 m5);have HN:=Hi hN;have HM5:=Hi (HMW.out.then0 m5);have hw5:=m5.size;clear hN m5 HQf HS5 HMW;go_wp2_with fail;go_at_call 26;refine(snew_c _).mono ?_;rintro e w6 ⟨o,rfl,ho,hol,hO,m6⟩;replace kp1:=m6.at0 kp1;have HQ6:=Hi (HQ5.out.mod0 m6);have HS7:=Hi (HS6.out.mod0 m6);have HN6:Hid (SeAt (fun i=>wr.heap.size≤i∧i<w5.heap.size) w6 n []):=Hi (by
    obtain⟨a,b,es,c,es2,c2,m2,h1,h2,h3,h4,h5,h6,t1,t2,t3,h7,h8⟩:=HN.out.ex;have hh:SeAt (fun i=>wr.heap.size≤i∧i<w5.heap.size) w5 n []:=⟨a,b,es,c,es2,c2,m2,h1,h2,h3,h4,h5,h6,⟨t1,Ls h1⟩,⟨t2,Ls h2⟩,⟨t3,Ls h4⟩,fun p hp=>by
     obtain⟨l,q1,q2,q3⟩:=h7 p hp;exact⟨l,q1,fun g hg=>⟨q2 g hg,(q1.lt g hg).2⟩,q3⟩,h8⟩
    exact hh.mod0 m6)
   have HO6:=Hi hO;have HM6:=Hi (HM5.out.then0 m6);have hw6:=m6.size;have KP6:=Hi kp1;clear hO m6 HN HM5 HQ5 HS6 kp1;go_wp2_with fail;obtain⟨wa,rfl⟩:∃wa:World,wa=wr:=⟨_,rfl⟩;go_loopw [12] (fun s12 ws=>∃i:Nat,i≤g.M.l.length∧s12= .int .i64 (i:Int)∧Hid (∃Tn To:Nat→Prop,∃M,M.length≤i∧SeAt Tn ws n (seL (g.M.l.take i))∧DS To ws o M∧(∀i,Tn i∨To i→wa.heap.size≤i∧i<ws.heap.size)∧(∀i,Tn i→¬To i))∧Hid (Mod (fun i=>wa.heap.size≤i) w6 ws)) (fun s12 _=>g.M.l.length-(intOf s12).toNat)
   case atStart=>
    exact⟨0,Nat.zero_le _,rfl,Hi ⟨_,_,[],by simp,HN6.out,HO6.out,fun i hi=>by rcases hi with hi|hi<;>omega,fun i hi hj=>by omega⟩,Hi (Mod.refl _ _)⟩
   case round=>
    obtain⟨i,hi,rfl,HE,hm⟩:=hrel;have kp1:=hm.out.at KP6.out (fun e=>by have:=HP1.out;omega);have hmw6:Mod (fun _=>False) w wr:=HM6.out.then hm.out (fun j hj e=>by omega);by_cases hlt:i<g.M.l.length
    ·have hd:=Dt hlt;obtain⟨x,hx⟩:∃x,g.M.l[i]? =some x:=⟨_,List.getElem?_eq_getElem hlt⟩;obtain⟨gg,oo,C,U,fr,ha,kl,he,hle⟩:=sig_at (HO.out.2.2.1.mod0 hmw6) hx;have hgw:=slOk_lt HO.out.2.2 hx ha;have HX:=Hi hx;have hle2:oo+i*64+64≤C.size:=hle;clear hx hmw6 hle;obtain⟨Tn,To,M,hM,hN7,hO7,hTT,hdis⟩:=HE.out;have HTT:=Hi (Ai hTT (Ai hdis hM));have HN7:=Hi hN7;have HO7:=Hi hO7;clear hTT hdis hM hN7 hO7;have hlN:(seL (g.M.l.take i)).length<1000000:=by
      have h1:=seL_len (g.M.l.take i);have h2:=List.length_take_le i g.M.l;omega
     have HLN:=Hi hlN;clear hlN;go_upto_region 14 with fail;go_wp2_with fail;go_at_call 27;refine(mark0_c n _ x _ HN7.out (fun j hj=>(HTT.out.1 j (.inl hj)).2) HLN.out).mono ?_;rintro e w8 ⟨⟨v8,rfl⟩,hN8,m8⟩;rw[←seL_snoc HX.out]at hN8;replace kp1:=m8.at kp1 (fun e=>by have h1:=HP1.out;have h2:=(HTT.out.1 _ (.inl e)).1;omega);replace kl:=m8.at kl (fun e=>by have h2:=(HTT.out.1 _ (.inl e)).1;omega);have HN8:=Hi hN8;have HO8:=Hi (HO7.out.mod m8 (fun j hj e=>HTT.out.2.1 j e hj));have HM8:=Hi m8;have hw8:=m8.size;clear hN8 m8;go_upto_region 15 with fail;go_wp2_with fail;go_at_call 28;refine(rmark0_c o M x _ HO8.out (fun j hj=>Nat.lt_of_lt_of_le (HTT.out.1 j (.inr hj)).2 HM8.out.size) (by have:=HTT.out.2.2;omega)).mono ?_;rintro e w9 ⟨⟨v9,rfl⟩,⟨M',hM',hO9⟩,m9⟩;have hN9:=HN8.out.mod m9 (fun j hj e=>by
      rcases hj with hj|hj
      ·exact HTT.out.2.1 j hj e
      ·have:=(HTT.out.1 j (.inr e)).2;omega)
     have hm9:Mod (fun i=>wa.heap.size≤i) w6 w9:=(hm.out.trans (HM8.out.mono (fun j hj e=>(HTT.out.1 j (.inl e)).1))).trans (m9.mono (fun j hj e=>(HTT.out.1 j (.inr e)).1));have hwr:wa.heap.size≤wr.heap.size:=Nat.le_trans (Nat.le_trans hw5 hw6) hm.out.size;have hw9:=m9.size;have HEND:=Hi (Ai hm9 (Ai hM' (Ai hO9 hN9)));clear hm9 hM' hO9 hN9 m9;go_wp2_with fail;go_roundw
     case rel=>
      refine⟨i+1,by omega,by go_num,Hi ⟨_,_,M',by have h1:=HEND.out.2.1;have h2:=HTT.out.2.2;omega,HEND.out.2.2.2,HEND.out.2.2.1,fun j hj=> ?_,fun j hj hk=> ?_⟩,Hi HEND.out.1⟩
      ·rcases hj with(hj|hj)|(hj|hj)
       ·have:=HTT.out.1 j (.inl hj);omega
       ·omega
       ·have:=HTT.out.1 j (.inr hj);omega
       ·omega
      ·rcases hj with hj|hj
       ·rcases hk with hk|hk
        ·exact HTT.out.2.1 j hj hk
        ·have:=HTT.out.1 j (.inl hj);omega
       ·rcases hk with hk|hk
        ·have:=HTT.out.1 j (.inr hk);omega
        ·omega
     case measure=>simp[intOf];omega
    ·have hd:=Df hlt;obtain rfl:i=g.M.l.length:=by omega
     obtain⟨Tn,To,M,hM,hN7,hO7,hTT,hdis⟩:=HE.out;rw[List.take_length]at hN7;have HN7:=Hi hN7;have HTT:=Hi hTT;have HQ7:Hid (QuAt wr q (quL g.H.l)):=Hi (HQ6.out.mod hm.out (fun e=>by omega));have HS8:Hid (StAt wr s sb (stL g.L.l)):=Hi (HS7.out.mod hm.out (fun e=>by omega) (fun e=>by omega));have HMW:=Hi hmw6;clear hTT hM hN7 hO7 hdis hmw6;go_wp2_with fail;go_at_call 16;refine(open_c s q n g.lim _).mono ?_;rintro e w10 ⟨b,t,m,rfl,hb1,ht1,hm1,kb,hT,m10⟩;replace kp1:=m10.at0 kp1;have HR10:=Hi (Ai kb (Ai hT (Ai (HQ7.out.mod0 m10) (Ai (HN7.out.mod0 m10) (Ai (HS8.out.mod0 m10) (HMW.out.then0 m10))))));have hw10:=m10.size;clear kb hT m10;go_wp2_with fail;go_at_call 29;refine(r27open_c r p23 o g.lim _).mono ?_;rintro e w11 ⟨⟨r27,rfl⟩,m11⟩;have HM11:=Hi m11;clear m11;go_wp2_with fail;exact bodyPost_ret (results_tmp3 rfl _ _ _) rfl (by
      obtain⟨kb,hT,hQ,hN,hS,hM⟩:=HR10.out;have m11:=HM11.out;have hlb:=Ls kb;have hlt:=hT;obtain⟨kt,es,cc,km,_⟩:=hlt;have hlT:=Ls kt;have hlm:=Ls km;have hsz:=m11.size;have hqlt:q<w4.heap.size:=hlq.1;have hwr:wa.heap.size≤wr.heap.size:=Nat.le_trans (Nat.le_trans hw5 hw6) hm.out.size;refine⟨b,s,r27,sb,Tn,fun i=>i=b∨i=t∨i=m,rfl,⟨q,n,t,m,none,0,0,none,0,0,[],[],m11.at0 kb,⟨hQ.mod0 m11,hN.mod0 m11,hT.mod0 m11⟩,⟨SlOwn.nil _ _,rfl,fun x hx=>by cases hx⟩,⟨SlOwn.nil _ _,rfl,fun x hx=>by cases hx⟩,⟨.inl rfl,.inr (.inl rfl),.inr (.inr rfl),fun e=> ?_,fun e=> ?_⟩,⟨(fun g h=>by cases h),(fun g h=>by cases h),(fun x hx=>by cases hx),(fun x hx=>by cases hx)⟩,fun i hi e=> ?_⟩,fun i hi=> ?_,hS.mod0 m11,hM.then0 m11⟩
      ·rcases e with e|e|e<;>omega
      ·have:=(HTT.out q (.inl e)).1;omega
      ·have:=(HTT.out i (.inl hi)).2;rcases e with e|e|e<;>omega
      ·rcases hi with hi|hi|hi|hi
       ·have:=HTT.out i (.inl hi);omega
       all_goals omega)
end
abbrev fn1 (p:Nat):Value:= .func (.func 89) #[] #[ptrV p]
abbrev fn2 (p q:Nat):Value:= .func (.func 90) #[] #[ptrV p,ptrV q]
abbrev fn3 (p q:Nat):Value:= .func (.func 92) #[] #[ptrV q,ptrV p]
theorem bsSteps (p q:Nat) (w:World):(Instr.buildSlice 211 3 #[(0,fn1 p),(1,fn2 p q),(2,fn3 p q)]).run Tryz.prog w= .ok (.slice (some ⟨w.heap.size,0,none⟩) 3 3) (w.alloc (.cells #[fn1 p,fn2 p q,fn3 p q] 89)):=by kernel_rfl
theorem step1_c {b s q n t:Nat} {e:Bool} {ea:Option Addr} {en ec:Nat} {oa:Option Addr} {on oc:Nat} {f:UInt64} {p:Nat} (w:World) (kb:w.heap[b]? =some (.cells (blkC s q n t e ea en ec oa on oc f) 130 (0,0))) (kp:w.heap[p]? =some (.cells #[ptrV b] 33 (0,0))):
  Calls Tryz.prog 89 #[ptrV p] w fun r w'=>r= .returned (.int .i64 (if e then 23 else 0))∧w=w':=by
 unfold blkC at kb;cases e
 all_goals
  go_enter Tryz.func89,Tryz.ntmps89
  go_wp2
  go_ret;exact⟨rfl,rfl⟩
theorem verdict_g {b:Nat} {x:TdR} {w:World} {v1 v2:Nat} {R:Nat→World→World→Prop}
  (h1:∀p w1,w1.heap[p]? =some (.cells #[ptrV b] 33 (0,0))→Mod (fun _=>False) w w1→Calls Tryz.prog 89 #[ptrV p] w1 fun e w'=>e= .returned (.int .i64 (v1:Int))∧Mod (fun _=>False) w1 w')
  (h2:v1=0→∀p q w1,w1.heap[p]? =some (.cells #[ptrV b] 33 (0,0))→w1.heap[q]? =some (.cells (tdr x) 65 (0,0))→Mod (fun _=>False) w w1→Calls Tryz.prog 90 #[ptrV p,ptrV q] w1 fun e w'=>e= .returned (.int .i64 (v2:Int))∧Mod (fun _=>False) w1 w')
  (h3:v1=0→v2=0→∀p q w1,w1.heap[p]? =some (.cells #[ptrV b] 33 (0,0))→w1.heap[q]? =some (.cells (tdr x) 65 (0,0))→Mod (fun _=>False) w w1→Calls Tryz.prog 92 #[ptrV q,ptrV p] w1 fun e w'=>∃v:Nat,e= .returned (.int .i64 (v:Int))∧R v w1 w'):
  Calls Tryz.prog 44 #[ptrV b,.agg (tdr x)] w fun e w'=>(v1≠0∧e= .returned (.int .i64 (v1:Int))∧Mod (fun _=>False) w w')∨(v1=0∧v2≠0∧e= .returned (.int .i64 (v2:Int))∧Mod (fun _=>False) w w')∨(v1=0∧v2=0∧∃(v:Nat) (w1:World),e= .returned (.int .i64 (v:Int))∧R v w1 w'∧Mod (fun _=>False) w w1):=by
 have HH:=Hi (Ai h1 (Ai h2 h3));clear h1 h2 h3;have hmf:=hmf;go_enter Tryz.func44,Tryz.ntmps44;go_upto_region 0 with fail;refine ZP0 [3,3,0] ?_;refine Zb fun p2 hp2=> ?_;refine Zb fun p3 hp3=> ?_;obtain⟨ne_p3_p2,hp3⟩:=Bx.set_none hp3;refine Zv ?_;refine TD.nil (fun w1 hr=> ?_);obtain⟨gp2,kp2⟩:=hr.b p2 (by first|exact Bx.set_same _ _ _|(simp only[Bx.set_ne _ (Ne.symm ne_p3_p2),Bx.set_ne _ ne_p3_p2,Bx.set_same];rfl));obtain⟨gp3,kp3⟩:=hr.b p3 (by first|exact Bx.set_same _ _ _|(simp only[Bx.set_ne _ (Ne.symm ne_p3_p2),Bx.set_ne _ ne_p3_p2,Bx.set_same];rfl));have m1:=hr.mod;clear hr;have hbs:=bsSteps p2 p3;go_upto_region 2 with fail;obtain⟨w2,g,hg,kg,m2,e2⟩:∃w2 g,w1.heap.size=g∧w2.heap[g]? =some (.cells #[fn1 p2,fn2 p2 p3,fn3 p2 p3] 89 (0,0))∧Mod (fun _=>False) w1 w2∧w2=w1.alloc (.cells #[fn1 p2,fn2 p2 p3,fn3 p2 p3] 89):=⟨_,_,rfl,heap_alloc_new _ _,(Mod.refl _ _).alloc _,rfl⟩;rw[←e2,hg];have k2:=m2.at0 kp2;have k3:=m2.at0 kp3;have mm:=m1.then0 m2;clear e2 hg m2 kp2 kp3 hbs;go_wp2_with fail;go_loopw [15] (fun s15 ws=>∃i:Nat,i≤3∧s15= .int .i64 (i:Int)∧Hid (0<i→v1=0)∧Hid (1<i→v2=0)∧(i<3∧Mod (fun _=>False) w ws∧ws.heap[g]? =some (.cells #[fn1 p2,fn2 p2 p3,fn3 p2 p3] 89 (0,0))∧ws.heap[p2]? =some (.cells #[ptrV b] 33 (0,0))∧ws.heap[p3]? =some (.cells (tdr x) 65 (0,0))∨i=3∧Hid (∃wx,R 0 wx ws∧Mod (fun _=>False) w wx))) (fun s15 _=>3-(intOf s15).toNat)
 case atStart=>exact⟨0,by omega,rfl,Hi (by omega),Hi (by omega),.inl ⟨by omega,mm,kg,k2,k3⟩⟩
 case round=>
  obtain⟨i,hi,rfl,HV1,HV2,hcase⟩:=hrel;clear kg k2 k3 mm;rcases hcase with⟨hi3,mm,kg,k2,k3⟩|⟨rfl,HR⟩
  ·have hc:i=0∨i=1∨i=2:=by omega
   rcases hc with rfl|rfl|rfl
   ·go_wp2_with fail;refine(HH.out.1 _ _ k2 mm).mono ?_;rintro e w3 ⟨rfl,m3⟩;have mm3:=mm.then0 m3;have kg3:=m3.at0 kg;have k23:=m3.at0 k2;have k33:=m3.at0 k3;by_cases hv:v1=0
    ·have HV:=Hi hv;have hne:((v1:Int) !=0)=false:=by rw[hv];rfl
     clear hv kg k2 k3 mm m3;go_wp2_with fail;go_roundw
     case rel=>exact⟨1,by omega,by go_num,Hi (fun _=>HV.out),Hi (by omega),.inl ⟨by omega,mm3,kg3,k23,k33⟩⟩
     case measure=>simp[intOf]
    ·have HV:=Hi hv;have hne:((v1:Int) !=0)=true:=by rw[bne_iff_ne];omega
     clear hv kg k2 k3 mm m3;go_wp2_with fail;go_ret;exact .inl ⟨HV.out,rfl,mm3⟩
   ·have HV:=Hi (HV1.out (by omega));go_wp2_with fail;refine(HH.out.2.1 HV.out _ _ _ k2 k3 mm).mono ?_;rintro e w3 ⟨rfl,m3⟩;have mm3:=mm.then0 m3;have kg3:=m3.at0 kg;have k23:=m3.at0 k2;have k33:=m3.at0 k3;by_cases hv:v2=0
    ·have HVV:=Hi hv;have hne:((v2:Int) !=0)=false:=by rw[hv];rfl
     clear hv kg k2 k3 mm m3;go_wp2_with fail;go_roundw
     case rel=>exact⟨2,by omega,by go_num,Hi (fun _=>HV.out),Hi (fun _=>HVV.out),.inl ⟨by omega,mm3,kg3,k23,k33⟩⟩
     case measure=>simp[intOf]
    ·have HVV:=Hi hv;have hne:((v2:Int) !=0)=true:=by rw[bne_iff_ne];omega
     clear hv kg k2 k3 mm m3;go_wp2_with fail;go_ret;exact .inr (.inl ⟨HV.out,HVV.out,rfl,mm3⟩)
   ·have HV:=Hi (HV1.out (by omega));have HVV:=Hi (HV2.out (by omega));go_wp2_with fail;refine(HH.out.2.2 HV.out HVV.out _ _ _ k2 k3 mm).mono ?_;rintro e w3 ⟨v,rfl,hR⟩;have HR:=Hi hR;have HM:=Hi mm;by_cases hv:v=0
    ·subst hv;clear kg k2 k3 mm hR;go_wp2_with fail;go_roundw
     case rel=>exact⟨3,by omega,by go_num,Hi (fun _=>HV.out),Hi (fun _=>HVV.out),.inr ⟨rfl,Hi ⟨_,HR.out,HM.out⟩⟩⟩
     case measure=>simp[intOf]
    ·have hne:((v:Int) !=0)=true:=by rw[bne_iff_ne];omega
     clear hv kg k2 k3 mm hR;go_wp2_with fail;go_ret;exact .inr (.inr ⟨HV.out,HVV.out,v,_,rfl,HR.out,HM.out⟩)
  ·go_wp2_with fail;go_ret;obtain⟨wx,hr,hm⟩:=HR.out;exact .inr (.inr ⟨HV1.out (by omega),HV2.out (by omega),0,wx,rfl,hr,hm⟩)
section
section
variable {P:Program} {ops:Array Oper} {Q:Exit→Act→World→Prop} {T0:Nat→Prop} {w0:World} {κ:Nat→Nat} {υ:Nat→List Tmp}
def kinds6 (kx ko:Nat):Bool:=kx==0&&(ko==0||ko==6)
def pair6 (ops:Array Oper) (κ:Nat→Nat) (x o:Nat):Bool:=
 (!(x==o)&&(behindB ops x).testBit o)||match ops[x]?,ops[o]? with
  |some ox,some oo=>ox.apart ops oo&&kinds6 (κ x) (κ o)
  |_,_=>false
def pairs6 (ops:Array Oper) (κ:Nat→Nat):List Nat→Bool
 |[]=>true
 |x::r=>r.all (fun o=>pair6 ops κ x o)&&pairs6 ops κ r
theorem pairs6_split {κ:Nat→Nat} {i:Nat} {post:List Nat}:∀ {pre:List Nat},pairs6 ops κ (pre++i::post)=true→(∀x∈pre,pair6 ops κ x i=true)∧pairs6 ops κ (pre++post)=true
 |[],h=>by
  simp only[List.nil_append,pairs6,Bool.and_eq_true]at h;exact⟨fun _ hx=>(List.not_mem_nil hx).elim,h.2⟩
 |x::pre,h=>by
  simp only[List.cons_append,pairs6,Bool.and_eq_true,List.all_eq_true]at h;obtain⟨h1,h2⟩:=pairs6_split h.2;refine⟨fun y hy=> ?_,?_⟩
  ·rcases List.mem_cons.1 hy with rfl|hy
   ·exact h.1 i (by simp)
   ·exact h1 y hy
  ·simp only[List.cons_append,pairs6,Bool.and_eq_true,List.all_eq_true];refine⟨fun y hy=>h.1 y ?_,h2⟩;rcases List.mem_append.1 hy with hy|hy
   ·exact List.mem_append_left _ hy
   ·exact List.mem_append_right _ (List.mem_cons_of_mem _ hy)
theorem TE.front6 (hsel:∀(j:Nat) (p:Oper) cs b,ops[j]? =some p→p.op≠ .select cs b) (hQ:∀c a d v w,Q (.panic c) (Act.put a d v) w→Q (.panic c) a w)
  {o:Nat} {oo:Oper} (ho:ops[o]? =some oo) {post:List Nat} {w:World}:∀(pre:List Nat) (a:Act),
   (∀x∈pre,∃ox,ops[x]? =some ox∧ox.apart ops oo=true∧kinds6 (κ x) (κ o)=true)→
   TE P ops Q κ (pre++o::post) a w→TE P ops Q κ (o::(pre++post)) a w
 |[],_,_,h=>h
 |x::pre,a,hp,h=>by
  obtain⟨ox,hx,hap,hk⟩:=hp x (by simp);have kx0:κ x=0:=by
   simp only[kinds6,Bool.and_eq_true,beq_iff_eq]at hk;exact hk.1
  obtain⟨h1,h2,h3⟩:=Oper.apart_spec hap;have hp':∀y∈pre,∃oy,ops[y]? =some oy∧oy.apart ops oo=true∧kinds6 (κ y) (κ o)=true:=fun y hy=>hp y (List.mem_cons_of_mem _ hy);cases h with
  |eff R _ hk=>omega
  |val hx' hy ht=>
   rw[hx]at hx';cases hx';rename_i v;have hf:=TE.front6 hsel hQ ho pre _ hp' ht;cases hf with
   |eff R ho' hk' hR hT=>
    exact .eff _ ho hk' (wpOp_putIf ho hap (fun cs b=>hsel x ox cs b hx) (fun cs b=>hsel o oo cs b ho) (fun c a w=>hQ c a _ _ w) hy hR) (fun a' w' hh=> .val hx hh.1 (hT _ _ hh.2))
   |val ho' hy2 ht2=>
    rw[ho]at ho';cases ho';rename_i u;have eo:=execOp_put (ops:=ops) oo (fun cs b=>hsel o oo cs b ho) a ox.dst v h1;have wo:=wanted_put (ops:=ops) oo a ox.dst v h1;have ex:=execOp_put (ops:=ops) ox (fun cs b=>hsel x ox cs b hx) a oo.dst u h3;have wx:=wanted_put (ops:=ops) ox a oo.dst u h3;refine .val ho (hy2.of_same eo.symm wo.symm) (.val hx (hy.of_same ex wx) ?_);rw[←Act.put_comm a v u h2];exact ht2
theorem TE.sound6 (hQ:∀c a d v w,Q (.panic c) (Act.put a d v) w→Q (.panic c) a w) (hsel:∀(j:Nat) (p:Oper) cs b,ops[j]? =some p→p.op≠ .select cs b)
  (hback:∀i o,ops[i]? =some o→∀e∈o.after,Region.binds .any e=true→e.on<i):
  ∀(fuel:Nat) (l:List Nat) (listed:Array Bool) (a:Act) (w:World),l.length=fuel→l.Nodup→(∀i∈l,i<ops.size)→pairs6 ops κ l=true→Listing ops listed l→TE P ops Q κ l a w→wpAny P .any ops Q fuel listed a w:=by
 intro fuel
 induction fuel with
 |zero=>
  intro l listed a w hl hn hlt hp hL h;obtain rfl:l=[]:=List.length_eq_zero_iff.1 hl;refine⟨?_,?_⟩
  ·rw[List.eq_nil_iff_forall_not_mem];intro i hi;have:=(hL.mem i).2 (mem_ready.1 hi).1;cases this
  ·cases h with|nil h=>exact h
 |succ fuel ih=>
  intro l listed a w hl hn hlt hp hL h;refine⟨fun hnil=> ?_,fun i hi=> ?_⟩
  ·exfalso
   match l,hl with
   |i::l',_=>exact exists_ready hback hL hlt i i (by simp) (Nat.le_refl _) hnil
  ·obtain⟨hun,o,ho,hall⟩:=mem_ready.1 hi;obtain⟨pre,post,rfl⟩:=List.append_of_mem ((hL.mem i).2 hun);obtain⟨h1,h2⟩:=pairs6_split hp;have hf:=TE.front6 hsel hQ ho pre a (fun x hx=>by
    have:=h1 x hx;unfold pair6 at this;have hxo:ops[x]? =some (ops[x]'(hlt x (by simp[hx]))):=Array.getElem?_eq_getElem _;rw[hxo,ho]at this;simp only[Bool.or_eq_true,Bool.and_eq_true]at this;rcases this with hpth|hok
    ·obtain⟨_,hpth⟩:=(behindB_path hpth.2).resolve_left (fun e=>by have:=hpth.1;simp[e]at this);have hl1:=path_listed hL.closed _ x i o ho hall hpth;have hl2:=getD_false_of_true ((hL.mem x).1 (by simp[hx]));rw[hl1]at hl2;cases hl2
    ·exact⟨_,hxo,hok.1,hok.2⟩) h
   have hl':(pre++post).length=fuel:=by simp at hl⊢;omega
   have hn':(pre++post).Nodup:=hn.sublist (List.Sublist.append_left (List.sublist_cons_self _ _) _);have hlt':∀j∈pre++post,j<ops.size:=fun j hj=>hlt j (by
    rcases List.mem_append.1 hj with hj|hj
    ·exact List.mem_append_left _ hj
    ·exact List.mem_append_right _ (List.mem_cons_of_mem _ hj))
   cases hf with
   |val ho' hy ht=>
    rw[ho]at ho';cases ho';exact YieldsIf.wpOp ho hy trivial (ih (pre++post) _ _ _ hl' hn' hlt' h2 (hL.next hn ho hall) ht)
   |eff R ho' hk hR hT=>exact wpOp_mono (fun a' w' hh=>ih (pre++post) _ _ _ hl' hn' hlt' h2 (hL.next hn ho hall) (hT a' w' hh)) hR
theorem TG.soundE6 (hQ:∀c a d v w,Q (.panic c) (Act.put a d v) w→Q (.panic c) a w) (hsel:∀(j:Nat) (p:Oper) cs b,ops[j]? =some p→p.op≠ .select cs b)
  (hback:∀i o,ops[i]? =some o→∀e∈o.after,Region.binds .any e=true→e.on<i) {rest:List Nat} (hrest:pairs6 ops κ rest=true):
  ∀(fuel:Nat) (l:List Nat) (listed:Array Bool) (a:Act) (B:Bx) (K:Land) (w:World),l.length=fuel→(l++rest).Nodup→(∀i∈l++rest,i<ops.size)→gPairsOk ops κ υ l=true→
   (∀x∈l,∀y∈rest,x≠y∧(behindB ops x).testBit y=true)→Listing ops listed (l++rest)→Closed K→
   RG T0 w0 B K w→TG P ops (fun _ a w=>TE P ops Q κ rest a w) T0 w0 κ υ l a B K→wpAny P .any ops Q (rest.length+fuel) listed a w:=by
 intro fuel
 induction fuel with
 |zero=>
  intro l listed a B K w hl hn hlt hp hb hL hK hR h;obtain rfl:l=[]:=List.length_eq_zero_iff.1 hl;have hte:TE P ops Q κ rest a w:=by
   cases h with|nil h=>exact h w hR
  exact TE.sound6 hQ hsel hback _ rest listed a w rfl (by simpa using hn) (by simpa using hlt) hrest (by simpa using hL) hte
 |succ fuel ih=>
  intro l listed a B K w hl hn hlt hp hb hL hK hR h;refine⟨fun hnil=> ?_,fun i hi=> ?_⟩
  ·exfalso
   match l,hl with
   |i::l',_=>exact exists_ready hback hL hlt i i (by simp) (Nat.le_refl _) hnil
  ·obtain⟨hun,o,ho,hall⟩:=mem_ready.1 hi;have hil:i∈l:=by
    rcases List.mem_append.1 ((hL.mem i).2 hun)with hin|hin
    ·exact hin
    ·exfalso;clear h
     match l,hl with
     |x::l',_=>
      have hxy:=hb x (by simp) i hin;obtain⟨_,hpth⟩:=(behindB_path hxy.2).resolve_left (fun e=>hxy.1 e.symm);have hl1:=path_listed hL.closed _ x i o ho hall hpth;have hl2:=getD_false_of_true ((hL.mem x).1 (by simp));rw[hl1]at hl2;cases hl2
   obtain⟨pre,post,rfl⟩:=List.append_of_mem hil;obtain⟨h1,h2⟩:=gPairsOk_split hp;have hf:=TG.front hsel ho pre a B K hK ⟨w,hR⟩ (fun x hx=>by
    have:=h1 x hx;unfold gPairOk at this;have hxo:ops[x]? =some (ops[x]'(hlt x (by simp[hx]))):=Array.getElem?_eq_getElem _;rw[hxo,ho]at this;simp only[Bool.or_eq_true,Bool.and_eq_true]at this;rcases this with hpth|hok
    ·obtain⟨_,hpth⟩:=(behindB_path hpth.2).resolve_left (fun e=>by have:=hpth.1;simp[e]at this);have hl1:=path_listed hL.closed _ x i o ho hall hpth;have hl2:=getD_false_of_true ((hL.mem x).1 (by simp[hx]));rw[hl1]at hl2;cases hl2
    ·exact⟨_,hxo,hok.1,hok.2⟩) h
   have hl':(pre++post).length=fuel:=by simp at hl⊢;omega
   have hsub:((pre++post)++rest).Sublist ((pre++i::post)++rest):=List.Sublist.append_right (List.Sublist.append_left (List.sublist_cons_self _ _) _) _;have hn':((pre++post)++rest).Nodup:=hn.sublist hsub;have hlt':∀j∈(pre++post)++rest,j<ops.size:=fun j hj=>hlt j (hsub.subset hj);have hb':∀x∈pre++post,∀y∈rest,x≠y∧(behindB ops x).testBit y=true:=fun x hx=>hb x ((List.Sublist.append_left (List.sublist_cons_self i post) pre).subset hx);have hL':Listing ops (listed.setIfInBounds i true) ((pre++post)++rest):=by
    have:=Listing.next (pre:=pre) (post:=post++rest) (i:=i) (by simpa using hL) (by simpa using hn) ho hall;simpa using this
   rcases hf.kinds with ko|ko|ko|ko
   ·obtain⟨v,hy,ht⟩:=hf.inv_val ko ho;obtain⟨T,hRT⟩:=hR;exact YieldsIf.wpOp ho hy hRT.mod (ih _ _ _ _ _ _ hl' hn' hlt' h2 hb' hL' hK ⟨T,hRT⟩ ht)
   ·obtain⟨hw,d,T,z,V,hd,hr,ht⟩:=hf.inv_alloc ko ho;obtain⟨U,hRT⟩:=hR;have hR':RG T0 w0 (B.set w.heap.size ⟨z,T,d⟩) K (w.alloc (.cells z T)):=⟨U,hRT.alloc hK z T d⟩;unfold wpOp;simp only[ho,hw,if_true];refine .inl ?_;unfold Oper.wp;rw[hr w];exact ih _ _ _ _ _ _ hl' hn' hlt' h2 hb' hL' hK hR' (ht _ hRT.none ⟨_,hR'⟩)
   ·obtain⟨hw,hd,d,T,y,p,b,hop,hev,hbb,htag,hr,ht⟩:=hf.inv_store ko ho;obtain⟨U,hRT⟩:=hR;unfold wpOp;simp only[ho,hw,if_true];refine .inl ?_;unfold Oper.wp;rw[hr w (hRT.box p b hbb).2.2];simp only[Oper.upon,hd];exact ih _ _ _ _ _ _ hl' hn' hlt' h2 hb' hL' hK ⟨U,hRT.store hK hbb _⟩ ht
   ·obtain⟨hw,K',hE,ht⟩:=hf.inv_eff ko ho;obtain⟨U,hRT⟩:=hR;exact(hE.step hRT).wp ho hw fun v w' hv=>ih _ _ _ _ _ _ hl' hn' hlt' h2 hb' hL' (hE.cl v) hv (ht v ⟨w',hv⟩)
def eReg6 (ops:Array Oper) (κ:Nat→Nat) (υ:Nat→List Tmp) (l rest:List Nat):Bool:=
 Region.noSelect ops&&((List.range ops.size).all fun i=>match ops[i]? with|none=>false|some o=>o.after.all fun e=> !Region.binds .any e||decide (e.on<i))&&
 (decide (rest.length+l.length=ops.size)&&((l++rest).all (fun i=>decide (i<ops.size))&&((List.range ops.size).all fun i=>(l++rest).contains i)))&&
 (decide (l++rest).Nodup&&gPairsOk ops κ υ l&&pairs6 ops κ rest&&l.all (fun x=>rest.all fun y=> !(x==y)&&(behindB ops x).testBit y))
def firstOk (ops:Array Oper) (listed:Array Bool) (i:Nat):Bool:=
 Region.noSelect ops&&(Region.ready .any ops listed).contains i&&match ops[i]? with
  |none=>false
  |some oi=>(List.range ops.size).all fun j=>match ops[j]? with
   |none=>true
   |some oj=>decide (j=i)||listed.getD j true||oj.after.any (fun e=>Region.binds .any e&&decide (e.on=i))||oi.apart ops oj
theorem take_first {fuel:Nat} {listed:Array Bool} {a:Act} {w:World} {i:Nat} {oi:Oper} {v:Value} (hi:ops[i]? =some oi) (hok:firstOk ops listed i=true) (hQ:∀c a d v w,Q (.panic c) (Act.put a d v) w→Q (.panic c) a w)
  (hw:Region.wanted oi (yielded ops a.tmps)=true) (hy:∀w,(execOp a.eval oi).run P w= .ok (.value v) w) (h:wpAny P .any ops Q fuel (listed.setIfInBounds i true) (a.put oi.dst v) w):wpAny P .any ops Q (fuel+1) listed a w:=by
 simp only[firstOk,hi,Bool.and_eq_true]at hok;obtain⟨⟨h1,h2⟩,h3⟩:=hok;refine wpAny_first hi (Region.noSelect_spec h1) (fun c a w=>hQ c a _ _ w) fuel listed a w (fun j oj hj hne hl hb=> ?_) (List.contains_iff_mem.1 h2) (.inl ⟨hw,hy⟩) h;have hjs:j<ops.size:=(Array.getElem?_eq_some_iff.1 hj).1;have:=List.all_eq_true.1 h3 j (List.mem_range.2 hjs);rw[hj]at this;simp only[Bool.or_eq_true,decide_eq_true_eq]at this;rcases this with((h|h)|h)|h
 ·exact absurd h hne
 ·rw[h]at hl;cases hl
 ·obtain⟨e,he,hb2⟩:=Array.any_eq_true'.1 h;simp only[Bool.and_eq_true,decide_eq_true_eq]at hb2;exact absurd hb2.2 (hb e he hb2.1)
 ·exact h
def eRegL (ops:Array Oper) (κ:Nat→Nat) (υ:Nat→List Tmp) (listed:Array Bool) (l rest:List Nat):Bool:=
 Region.noSelect ops&&((List.range ops.size).all fun i=>match ops[i]? with|none=>false|some o=>o.after.all fun e=> !Region.binds .any e||decide (e.on<i))&&
 (decide (listed.size=ops.size)&&((l++rest).all (fun i=>decide (i<ops.size))&&((List.range ops.size).all fun i=>(l++rest).contains i== !listed.getD i true)))&&
 ((List.range ops.size).all fun i=> !listed.getD i false||match ops[i]? with|none=>true|some o=>o.after.all fun e=> !Region.binds .any e||listed.getD e.on false)&&
 (decide (l++rest).Nodup&&gPairsOk ops κ υ l&&pairs6 ops κ rest&&l.all (fun x=>rest.all fun y=> !(x==y)&&(behindB ops x).testBit y))
theorem e_anyL (hQ:∀c a d v w,Q (.panic c) (Act.put a d v) w→Q (.panic c) a w) {a:Act} {w1:World} {K:Land} {listed:Array Bool} (l rest:List Nat) (hok:eRegL ops κ υ listed l rest=true) (hK:Closed K) (hR:RG T0 w0 Bx.nil K w1)
  (h:TG P ops (fun _ a w=>TE P ops Q κ rest a w) T0 w0 κ υ l a Bx.nil K):wpAny P .any ops Q (rest.length+l.length) listed a w1:=by
 simp only[eRegL,Bool.and_eq_true,List.all_eq_true,decide_eq_true_eq]at hok;obtain⟨⟨⟨⟨h1,h2⟩,h3,h4,h5⟩,hc⟩,⟨⟨hnd,h6⟩,h7⟩,h8⟩:=hok;have hback:∀i o,ops[i]? =some o→∀e∈o.after,Region.binds .any e=true→e.on<i:=fun i o ho e he hb=>by
  have:=h2 i (List.mem_range.2 (Array.getElem?_eq_some_iff.1 ho).1);rw[ho]at this;have:=Array.all_eq_true_iff_forall_mem.1 this e he;simpa[hb] using this
 refine TG.soundE6 hQ (Region.noSelect_spec h1) hback h7 _ l _ a _ _ _ rfl hnd h4 h6 (fun x hx y hy=> ?_) ?_ hK hR h
 ·have:=h8 x hx y hy;exact⟨by simpa using this.1,this.2⟩
 ·refine⟨h3,fun i=> ?_,fun i o hi ho e he hb=> ?_⟩
  ·by_cases hi:i<ops.size
   ·have:=h5 i (List.mem_range.2 hi);rw[beq_iff_eq]at this;constructor
    ·intro hm;rw[List.contains_iff_mem.2 hm]at this;simpa using this.symm
    ·intro hm;rw[hm]at this;exact List.contains_iff_mem.1 (by simpa using this)
   ·constructor
    ·intro hm;exact absurd (h4 i hm) hi
    ·intro hm;have:listed.getD i true=true:=by simp[h3,hi]
     rw[this]at hm;cases hm
  ·have:=hc i (List.mem_range.2 (Array.getElem?_eq_some_iff.1 ho).1);rw[hi,ho]at this;simp only[Bool.not_true,Bool.false_or]at this;have:=Array.all_eq_true_iff_forall_mem.1 this e he;simpa[hb] using this
theorem rg_drew {K:Land} {w:World} (hK:Closed K) (hk:K T0 w) (hlt:∀i,T0 i→i<w.heap.size):RG T0 w Bx.nil K {w with drawn:=w.drawn+1}:=
 ⟨T0,hK T0 w w.drew hk (Mod.refl _ w).drew,hlt,fun _ _ h=>h,(Mod.refl _ w).drew,fun _ _ hh=>by cases hh⟩
end
end
section
theorem eqMapU (w:World) (r:Option Nat):(binOp .eql 231 (.map r) (.map none)).run Tryz.prog w= .ok (.bool r.isNone) w:=run_eql_map_nil w _ _ _ _ Tryz.underlying231
attribute [local go_sem] eqMapU
theorem zero_u64 (w:World):(zeroValue 25).run Tryz.prog w= .ok (u64v 0) w:=by kernel_rfl
theorem bs64 (a b:UInt64) (w:World):(Instr.buildSlice 213 2 #[(0,u64v a),(1,u64v b)]).run Tryz.prog w= .ok (.slice (some ⟨w.heap.size,0,none⟩) 2 2) (w.alloc (.cells #[u64v a,u64v b] 25)):=by kernel_rfl
theorem key_at {w:World} {a:Option Addr} {l:List Key} (h:SlAt kc 32 w a l) {i:Nat} {x:Key} (hx:l[i]? =some x):∃g o C U fr,a=some ⟨g,o,none⟩∧w.heap[g]? =some (.cells C U fr)∧C.extract (o+i*32) (o+i*32+32)=kc x∧o+i*32+32≤C.size:=h.block hx
theorem lt_dec {a b:UInt64} {z:Bool} (h:decide (a<b)=z):decide (a.toNat<b.toNat)=z∧decide ((a.toNat:Int)<(b.toNat:Int))=z:=by
 subst h;have e:(a<b)↔a.toNat<b.toNat:=UInt64.lt_iff_toNat_lt;constructor<;>simp[e]
theorem would_c {t m:Nat} {L:Lim} {b s:UInt64} {l:List (Key×UInt64)} (c sp:UInt64) (a:Option Addr) (ws:List Key) (cc:Nat) (w:World) (h:TrAt w t m L b s l) (hw:SlAt kc 32 w a ws) (hn:ws.length≤100000):
  Calls Tryz.prog 120 #[ptrV t,u64v c,.slice a ws.length cc,u64v sp] w fun e w'=>e= .returned (.int .i64 (would L b s (ofK l) c ws sp:Nat))∧Mod (fun _=>False) w w':=by
 obtain⟨kt,es,cl,km,M⟩:=h;obtain⟨Lb,La,Lsp⟩:=L;dsimp only at kt;have HW:=Hi hw;have HM:=Hi M;clear hw M;go_enter Tryz.func120,Tryz.ntmps120;obtain⟨z1,hz1⟩:∃z,sat b c=z:=⟨_,rfl⟩;have HZ1:=Hi hz1;clear hz1;cases hd1:decide (Lb<z1)with
 |true=>
  obtain⟨d1,d2⟩:=lt_dec hd1;have HD:=Hi hd1;clear hd1;go_upto_region 3 with fail;have Lkt:=Ls kt;refine wp_gpass (T0:=fun _=>False) (K:=fun _ _=>True) (κ:=fun i=>[0,0,0,0,0,3,6,0,0,0,0,0,0].getD i 0) (υ:=fun i=>[[],[],[],[],[],[],[25],[],[],[],[],[],[]].getD i []) [0,1,2,3,4,5,6,7,8,9,10,11,12] (by kernel_rfl) (by kernel_rfl) (Good.true).cl (trivial) (fun _ h=>h.elim) ?_;have gK:=Good.true
  iterate 3 refine Zg ?_
  refine Zh ?_;refine Zg ?_;(refine TG.bslice (by simp only[zK];rfl) rfl (by rfl) rfl rfl ?hx6 (bs64 b c) (fun p25 hp25 _=> ?n6);(case hx6=>(simp only[List.map_toArray,List.map_cons,List.map_nil,zM];(try rfl)));try simp only[zL]);(refine ZG (fun v=>v=u64v z1) gK ?_ (s:=fun T wq kq ltq hSq ub=>by have kp25:=ub.box (p:=p25) (by first|exact Bx.set_same _ _ _|(simp only[Bx.set_same];rfl)) (by first|decide|exact List.mem_singleton.2 rfl|simp);dsimp only[Value.cells]at kp25;have nUp25:=(ub p25 _ (by first|exact Bx.set_same _ _ _|(simp only[Bx.set_same];rfl)) (by first|decide|exact List.mem_singleton.2 rfl|simp)).1;exact(tsum_c p25 b c wq kp25).mono (fun e w' h=>⟨_,h.1,by rw[HZ1.out],h.2⟩));rintro v7 hC;subst hC;try simp only[zL])
  iterate 4 refine Zg ?_
  refine Zh ?_;refine Zg ?_;refine TG.nil (fun w1 ⟨TR,hr⟩=> ?_);replace kt:=hr.q kt;obtain⟨gp25,nTp25,kp25⟩:=hr.b p25;clear gK;have m1:=hr.mod;clear hr;go_wp2_with fail;go_ret;have hx:would ⟨Lb,La,Lsp⟩ b s (ofK l) c ws sp=24:=by
   unfold would;rw[if_pos (by rw[HZ1.out];exact of_decide_eq_true HD.out)]
  exact⟨by rw[hx];rfl,m1⟩
 |false=>
  obtain⟨d1,d2⟩:=lt_dec hd1;have HD:=Hi hd1;clear hd1;go_upto_region 3 with fail;have Lkt:=Ls kt;have Lkm:=Ls km;refine wp_gpass (T0:=fun _=>False) (K:=fun _ _=>True) (κ:=fun i=>[0,0,0,0,0,3,6,0,0,0,0,0,0].getD i 0) (υ:=fun i=>[[],[],[],[],[],[],[25],[],[],[],[],[],[]].getD i []) [0,1,2,3,4,5,6,7,8,9,10,11,12] (by kernel_rfl) (by kernel_rfl) (Good.true).cl (trivial) (fun _ h=>h.elim) ?_;have gK:=Good.true
  iterate 3 refine Zg ?_
  refine Zh ?_;refine Zg ?_;(refine TG.bslice (by simp only[zK];rfl) rfl (by rfl) rfl rfl ?hx19 (bs64 b c) (fun p25 hp25 _=> ?n19);(case hx19=>(simp only[List.map_toArray,List.map_cons,List.map_nil,zM];(try rfl)));try simp only[zL]);(refine ZG (fun v=>v=u64v z1) gK ?_ (s:=fun T wq kq ltq hSq ub=>by have kp25:=ub.box (p:=p25) (by first|exact Bx.set_same _ _ _|(simp only[Bx.set_same];rfl)) (by first|decide|exact List.mem_singleton.2 rfl|simp);dsimp only[Value.cells]at kp25;have nUp25:=(ub p25 _ (by first|exact Bx.set_same _ _ _|(simp only[Bx.set_same];rfl)) (by first|decide|exact List.mem_singleton.2 rfl|simp)).1;exact(tsum_c p25 b c wq kp25).mono (fun e w' h=>⟨_,h.1,by rw[HZ1.out],h.2⟩));rintro v20 hC;subst hC;try simp only[zL])
  iterate 4 refine Zg ?_
  refine Zh ?_;refine Zg ?_;refine TG.nil (fun w1 ⟨TR,hr⟩=> ?_);replace kt:=hr.q kt;replace km:=hr.q km;obtain⟨gp25,nTp25,kp25⟩:=hr.b p25;clear gK;have m1:=hr.mod;clear hr kp25 gp25 nTp25;clear d1 d2;have KT:=Hi (Ai kt km);go_wp2_with fail;go_loopw [35] (fun s35 wx=>∃i:Nat,i≤ws.length∧s35= .int .i64 (i:Int)∧Hid ((ws.take i).any (fun k=>decide (La<sat (ofK l k) c))=false)∧Mod (fun _=>False) w1 wx) (fun s35 _=>ws.length-(intOf s35).toNat)
  case atStart=>exact⟨0,Nat.zero_le _,rfl,Hi (by simp),Mod.refl _ _⟩
  case round=>
   clear kt km;obtain⟨i,hi,rfl,HA,hm⟩:=hrel;have kt:=hm.at0 KT.out.1;have km:=hm.at0 KT.out.2;by_cases hlt:i<ws.length
   ·have hd:=Dt hlt;obtain⟨k,hk⟩:∃k,ws[i]? =some k:=⟨_,List.getElem?_eq_getElem hlt⟩;obtain⟨g,o,C,U,fr,rfl,kg,he,hle⟩:=key_at (HW.out.mod0 (m1.then0 hm)) hk;have HK:=Hi hk;clear hk;go_upto_region 7 with fail;have Lkg:=Ls kg;have Lkt:=Ls kt;have Lkm:=Ls km;refine ZP0 [0,1,3,4] ?_;refine Zv ?_;refine Zd ?_;refine Za alKey fun p10 hp10=> ?_;refine Zt ?_;refine TD.nil (fun w3 hr=> ?_);replace kg:=hr.q kg;replace kt:=hr.q kt;replace km:=hr.q km;obtain⟨gp10,kp10⟩:=hr.b p10;have hm3:=hm.then0 hr.mod;clear hr kg he hle;obtain⟨y,hy⟩:∃y,ofK l k=y:=⟨_,rfl⟩;have hlk:∀wq,Mod (fun _=>False) w3 wq→(Instr.lookup 231 (.map (some m)) (.agg (kc k)) false).run Tryz.prog wq= .ok (u64v y) wq:=fun wq hq=>by
     have:=HM.out.lookupD keyT Tryz.underlying231 zero_u64 wq (hq.at0 km) k;rw[show((lkp k l).getD 0)=y from hy]at this;exact this
    obtain⟨z2,hz2⟩:∃z,sat y c=z:=⟨_,rfl⟩;have HZ2:=Hi (Ai hz2 hy);clear hz2 hy;cases hd2:decide (La<z2)with
    |true=>
     obtain⟨d1,d2⟩:=lt_dec hd2;have HD2:=Hi hd2;clear hd2;go_upto_region 8 with fail;have Lkt:=Ls kt;have Lkm:=Ls km;have Lkp10:=Ls kp10;refine wp_gpass (T0:=fun _=>False) (K:=fun _ _=>True) (κ:=fun i=>[0,0,0,0,0,0,0,3,6,0,0,0,0,0,0].getD i 0) (υ:=fun i=>[[],[],[],[],[],[],[],[],[46],[],[],[],[],[],[]].getD i []) [0,1,2,3,4,5,6,7,8,9,10,11,12,13,14] (by kernel_rfl) (by kernel_rfl) (Good.true).cl (trivial) (fun _ h=>h.elim) ?_;have gK:=Good.true
     iterate 3 refine Zg ?_
     refine Zh ?_;refine Zh ?_;(refine TG.lookup (v:= ?v36) (p:= ?p36) (q:= ?q36) (by simp only[zK];rfl) rfl (by rfl) rfl ?hx36 ?hz36 (fun wq hSq=> ?y36) ?n36;(case hx36=>simp only[zM];try rfl);(case hz36=>simp only[zM];try rfl);(case y36=>(rw[hlk wq hSq];(try with_reducible rfl)));try simp only[zL]);refine Zg ?_;(refine TG.bslice (by simp only[zK];rfl) rfl (by rfl) rfl rfl ?hx38 (bs64 y c) (fun p46 hp46 _=> ?n38);(case hx38=>(simp only[List.map_toArray,List.map_cons,List.map_nil,zM];(try rfl)));try simp only[zL]);(refine ZG (fun v=>v=u64v z2) gK ?_ (s:=fun T wq kq ltq hSq ub=>by have kp46:=ub.box (p:=p46) (by first|exact Bx.set_same _ _ _|(simp only[Bx.set_same];rfl)) (by first|decide|exact List.mem_singleton.2 rfl|simp);dsimp only[Value.cells]at kp46;have nUp46:=(ub p46 _ (by first|exact Bx.set_same _ _ _|(simp only[Bx.set_same];rfl)) (by first|decide|exact List.mem_singleton.2 rfl|simp)).1;exact(tsum_c p46 y c wq kp46).mono (fun e w' h=>⟨_,h.1,by rw[HZ2.out.1],h.2⟩));rintro v39 hC;subst hC;try simp only[zL])
     iterate 4 refine Zg ?_
     refine Zh ?_;refine Zg ?_;refine TG.nil (fun w4 ⟨TR,hr⟩=> ?_);replace kt:=hr.q kt;replace km:=hr.q km;replace kp10:=hr.q kp10;obtain⟨gp46,nTp46,kp46⟩:=hr.b p46;clear gK;have m4:=m1.then0 (hm3.then0 hr.mod);clear hr;go_wp2_with fail;go_ret;have hx:would ⟨Lb,La,Lsp⟩ b s (ofK l) c ws sp=25:=by
      unfold would;rw[if_neg (by rw[HZ1.out];exact of_decide_eq_false HD.out),if_pos];exact List.any_eq_true.2 ⟨k,List.mem_of_getElem? HK.out,by rw[HZ2.out.2,HZ2.out.1];exact HD2.out⟩
     exact⟨by rw[hx];rfl,m4⟩
    |false=>
     obtain⟨d1,d2⟩:=lt_dec hd2;have HA2:Hid ((ws.take (i+1)).any (fun k=>decide (La<sat (ofK l k) c))=false):=Hi (by
      rw[any_take _ _ HK.out,HA.out,HZ2.out.2,HZ2.out.1,hd2];rfl)
     clear hd2;go_upto_region 8 with fail;have Lkt:=Ls kt;have Lkm:=Ls km;have Lkp10:=Ls kp10;refine wp_gpass (T0:=fun _=>False) (K:=fun _ _=>True) (κ:=fun i=>[0,0,0,0,0,0,0,3,6,0,0,0,0,0,0].getD i 0) (υ:=fun i=>[[],[],[],[],[],[],[],[],[46],[],[],[],[],[],[]].getD i []) [0,1,2,3,4,5,6,7,8,9,10,11,12,13,14] (by kernel_rfl) (by kernel_rfl) (Good.true).cl (trivial) (fun _ h=>h.elim) ?_;have gK:=Good.true
     iterate 3 refine Zg ?_
     refine Zh ?_;refine Zh ?_;(refine TG.lookup (v:= ?v51) (p:= ?p51) (q:= ?q51) (by simp only[zK];rfl) rfl (by rfl) rfl ?hx51 ?hz51 (fun wq hSq=> ?y51) ?n51;(case hx51=>simp only[zM];try rfl);(case hz51=>simp only[zM];try rfl);(case y51=>(rw[hlk wq hSq];(try with_reducible rfl)));try simp only[zL]);refine Zg ?_;(refine TG.bslice (by simp only[zK];rfl) rfl (by rfl) rfl rfl ?hx53 (bs64 y c) (fun p46 hp46 _=> ?n53);(case hx53=>(simp only[List.map_toArray,List.map_cons,List.map_nil,zM];(try rfl)));try simp only[zL]);(refine ZG (fun v=>v=u64v z2) gK ?_ (s:=fun T wq kq ltq hSq ub=>by have kp46:=ub.box (p:=p46) (by first|exact Bx.set_same _ _ _|(simp only[Bx.set_same];rfl)) (by first|decide|exact List.mem_singleton.2 rfl|simp);dsimp only[Value.cells]at kp46;have nUp46:=(ub p46 _ (by first|exact Bx.set_same _ _ _|(simp only[Bx.set_same];rfl)) (by first|decide|exact List.mem_singleton.2 rfl|simp)).1;exact(tsum_c p46 y c wq kp46).mono (fun e w' h=>⟨_,h.1,by rw[HZ2.out.1],h.2⟩));rintro v54 hC;subst hC;try simp only[zL])
     iterate 4 refine Zg ?_
     refine Zh ?_;refine Zg ?_;refine TG.nil (fun w4 ⟨TR,hr⟩=> ?_);replace kt:=hr.q kt;replace km:=hr.q km;replace kp10:=hr.q kp10;obtain⟨gp46,nTp46,kp46⟩:=hr.b p46;clear gK;have hm4:=hm3.then0 hr.mod;clear hr;go_wp2_with fail;go_roundw
     case rel=>exact⟨i+1,by omega,by go_num,HA2,hm4⟩
     case measure=>simp[intOf];omega
   ·have hd:=Df hlt;have HA2:Hid (ws.any (fun k=>decide (La<sat (ofK l k) c))=false):=Hi (by
     have:=HA.out;rw[List.take_of_length_le (by omega)]at this;exact this)
    obtain⟨z3,hz3⟩:∃z,sat s sp=z:=⟨_,rfl⟩;have HZ3:=Hi hz3;clear hz3;cases hd3:decide (Lsp<z3)with
    |true=>
     obtain⟨d1,d2⟩:=lt_dec hd3;have HD3:=Hi hd3;clear hd3;go_upto_region 11 with fail;have Lkt:=Ls kt;refine wp_gpass (T0:=fun _=>False) (K:=fun _ _=>True) (κ:=fun i=>[0,0,0,0,0,3,6,0,0,0,0,0,0].getD i 0) (υ:=fun i=>[[],[],[],[],[],[],[60],[],[],[],[],[],[]].getD i []) [0,1,2,3,4,5,6,7,8,9,10,11,12] (by kernel_rfl) (by kernel_rfl) (Good.true).cl (trivial) (fun _ h=>h.elim) ?_;have gK:=Good.true
     iterate 3 refine Zg ?_
     refine Zh ?_;refine Zg ?_;(refine TG.bslice (by simp only[zK];rfl) rfl (by rfl) rfl rfl ?hx66 (bs64 s sp) (fun p60 hp60 _=> ?n66);(case hx66=>(simp only[List.map_toArray,List.map_cons,List.map_nil,zM];(try rfl)));try simp only[zL]);(refine ZG (fun v=>v=u64v z3) gK ?_ (s:=fun T wq kq ltq hSq ub=>by have kp60:=ub.box (p:=p60) (by first|exact Bx.set_same _ _ _|(simp only[Bx.set_same];rfl)) (by first|decide|exact List.mem_singleton.2 rfl|simp);dsimp only[Value.cells]at kp60;have nUp60:=(ub p60 _ (by first|exact Bx.set_same _ _ _|(simp only[Bx.set_same];rfl)) (by first|decide|exact List.mem_singleton.2 rfl|simp)).1;exact(tsum_c p60 s sp wq kp60).mono (fun e w' h=>⟨_,h.1,by rw[HZ3.out],h.2⟩));rintro v67 hC;subst hC;try simp only[zL])
     iterate 4 refine Zg ?_
     refine Zh ?_;refine Zg ?_;refine TG.nil (fun w4 ⟨TR,hr⟩=> ?_);replace kt:=hr.q kt;obtain⟨gp60,nTp60,kp60⟩:=hr.b p60;clear gK;have m4:=m1.then0 (hm.then0 hr.mod);clear hr;go_wp2_with fail;go_ret;have hx:would ⟨Lb,La,Lsp⟩ b s (ofK l) c ws sp=26:=by
      unfold would;rw[if_neg (by rw[HZ1.out];exact of_decide_eq_false HD.out),if_neg (by rw[HA2.out];simp),if_pos (by rw[HZ3.out];exact of_decide_eq_true HD3.out)]
     exact⟨by rw[hx];rfl,m4⟩
    |false=>
     obtain⟨d1,d2⟩:=lt_dec hd3;have HD3:=Hi hd3;clear hd3;go_upto_region 11 with fail;have Lkt:=Ls kt;refine wp_gpass (T0:=fun _=>False) (K:=fun _ _=>True) (κ:=fun i=>[0,0,0,0,0,3,6,0,0,0,0,0,0].getD i 0) (υ:=fun i=>[[],[],[],[],[],[],[60],[],[],[],[],[],[]].getD i []) [0,1,2,3,4,5,6,7,8,9,10,11,12] (by kernel_rfl) (by kernel_rfl) (Good.true).cl (trivial) (fun _ h=>h.elim) ?_;have gK:=Good.true
     iterate 3 refine Zg ?_
     refine Zh ?_;refine Zg ?_;(refine TG.bslice (by simp only[zK];rfl) rfl (by rfl) rfl rfl ?hx79 (bs64 s sp) (fun p60 hp60 _=> ?n79);(case hx79=>(simp only[List.map_toArray,List.map_cons,List.map_nil,zM];(try rfl)));try simp only[zL]);(refine ZG (fun v=>v=u64v z3) gK ?_ (s:=fun T wq kq ltq hSq ub=>by have kp60:=ub.box (p:=p60) (by first|exact Bx.set_same _ _ _|(simp only[Bx.set_same];rfl)) (by first|decide|exact List.mem_singleton.2 rfl|simp);dsimp only[Value.cells]at kp60;have nUp60:=(ub p60 _ (by first|exact Bx.set_same _ _ _|(simp only[Bx.set_same];rfl)) (by first|decide|exact List.mem_singleton.2 rfl|simp)).1;exact(tsum_c p60 s sp wq kp60).mono (fun e w' h=>⟨_,h.1,by rw[HZ3.out],h.2⟩));rintro v80 hC;subst hC;try simp only[zL])
     iterate 4 refine Zg ?_
     refine Zh ?_;refine Zg ?_;refine TG.nil (fun w4 ⟨TR,hr⟩=> ?_);replace kt:=hr.q kt;obtain⟨gp60,nTp60,kp60⟩:=hr.b p60;clear gK;have m4:=m1.then0 (hm.then0 hr.mod);clear hr;go_wp2_with fail;go_ret;have hx:would ⟨Lb,La,Lsp⟩ b s (ofK l) c ws sp=0:=by
      unfold would;rw[if_neg (by rw[HZ1.out];exact of_decide_eq_false HD.out),if_neg (by rw[HA2.out];simp),if_neg (by rw[HZ3.out];exact of_decide_eq_false HD3.out)]
     exact⟨by rw[hx];rfl,m4⟩
end
end Go.Proofs.YtceodkliooeccaaGreatDoor