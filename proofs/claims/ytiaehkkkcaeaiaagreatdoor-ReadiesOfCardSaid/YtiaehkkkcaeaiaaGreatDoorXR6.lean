/- The lemmas of the proof, part XO6: how the program and its data lie in memory, and what its functions do. -/
import Derived.Test.YtiaehkkkcaeaiaaGreatDoorXR5
import Derived.OwnWalk
set_option linter.unusedSimpArgs false
set_option linter.unusedVariables false
set_option linter.unusedSectionVars false

set_option maxRecDepth 20000
set_option maxHeartbeats 6400000
namespace Go.Proofs.YtiaehkkkcaeaiaaGreatDoor
open Go.RowKit
open Go.ChangeMaps (setBlock)
attribute [local go_sem↓] eqKey1 ldKey ldSg ldTc stKey stSg stTc wlKey wlTc
attribute [local go_sem] Value.cells cell_blk frozen_blk kc_ext kc_one kc_one0 kc_size one_bool one_int one_map one_ptr one_slice sgc_ext sgc_one' sgc_one0 sgc_size txr0 txr0' txr38 txr38' txr39 txr39' txr_all txr_one txr_one' txr_size zKey_size zTx_size
def NewL {α:Type} (f:α→Array Value) (n:Nat) (E:TypeId) (b:Nat) (l:List α) (v:Value):Land:=fun T w=>NewS f n E b w v l∧∀g,v.ownBlock=some g→T g
theorem goodN {α:Type} (f:α→Array Value) (n:Nat) (E:TypeId) (b:Nat) (l:List α) (v:Value):Good (NewL f n E b l v) where
 cl:=fun T w w' h hm=>⟨h.1.mod hm (fun g hg hn=>hn (h.2 g hg)),h.2⟩
 gr:=fun T T' w hT h=>⟨h.1,fun g hg=>hT g (h.2 g hg)⟩
theorem newL {α:Type} {f:α→Array Value} {n:Nat} {E:TypeId} {b:Nat} {l:List α} {v:Value} {T:Nat→Prop} {w w':World} (h:NewS f n E w.heap.size w' v l) (hb:b≤w.heap.size):NewL f n E b l v (Grow T w w') w':=
 ⟨h.base hb,fun g hg=> .inr (h.lt g hg)⟩
theorem regH {w:World} {h r:Nat} {M:List (Key×Sl Key)} (H:RegM h r M w):h≠r:=by
 obtain⟨k1,es,c,k2,_⟩:=H;intro e;subst e;rw[k1]at k2;cases k2
theorem nsK_ne {b:Nat} {w:World} {v:Value} {l:List Key} (h:NewS kc 32 82 b w v l) {j:Nat} {es:Array MapEntry} {c:Nat} (hj:w.heap[j]? =some (.map es c)):v.ownBlock≠some j:=fun e=>by
 obtain⟨C,hk⟩:=h.ty e;rw[hj]at hk;cases hk
def putE (T:TbL) (k:Key) (l:List Key):Nat:=if l.length=0∨256<l.length then 1 else if(tbFind T k).isSome then 12 else 0
theorem putT_c {b h r:Nat} {T:TbL} (k:Key) (a:Option Addr) (l:List Key) (c:Nat) (w:World) (H:RegA b h r T w) (hl:SlAt kc 32 w a l) (hn:a=none→c=0) (hbl:l.length≤1000000):
  Calls Tryz.prog 43 #[pV r,.agg (kc k),.slice a l.length c] w fun e w'=>e= .returned (.int .i64 ((putE T k l:Nat):Int))∧RegA b h r (tbPut T k l) w'∧Mod (fun i=>i=h) w w':=by
 have HRA:=Hi H;have hP1:∀n,l.length=n→(n=0∨256<n)→putE T k l=1∧tbPut T k l=T:=fun n e hn=>by
  subst e;exact⟨if_pos hn,if_pos hn⟩
 have hP2:¬(l.length=0∨256<l.length)→(tbFind T k).isSome=true→putE T k l=12∧tbPut T k l=T:=fun e hf=>by
  unfold putE tbPut;rw[if_neg e,if_neg e,if_pos hf,if_pos hf];exact⟨rfl,rfl⟩
 have hP3:¬(l.length=0∨256<l.length)→tbFind T k=none→putE T k l=0∧tbPut T k l=T++[(k,l)]:=fun e hf=>by
  unfold putE tbPut;rw[if_neg e,if_neg e,hf];exact⟨rfl,rfl⟩
 have HP:=Hi (Ai hP1 (Ai hP2 hP3));obtain⟨n,hnl⟩:∃n,l.length=n:=⟨_,rfl⟩;have HC:=Hi (fun w1 (m:Mod (fun _=>False) w w1)=>copied_c a l c w1 (hl.mod0 m) hn hbl);have hC:=HC.out;rw[hnl]at hC;have HC2:=Hi hC;have HNL:=Hi hnl;have hnb:n≤1000000:=by rw[←hnl];exact hbl
 obtain⟨M,⟨kr,es,cl,kh,HM⟩,hT,H3,H4,H5⟩:=id H;rw[hnl];obtain⟨pe,hpe⟩:∃pe,putE T k l=pe:=⟨_,rfl⟩;obtain⟨T2,hT2⟩:∃T2,tbPut T k l=T2:=⟨_,rfl⟩;have HPE:=Hi (Ai hpe hT2);rw[hpe,hT2];clear hP1 hP2 hP3 hC HC hl hn hbl hnl H hpe hT2;go_enter Tryz.func43,Tryz.ntmps43;go_upto_region 0 with fail;have Lkr:=Ls kr;have Lkh:=Ls kh;refine ZP0 [3,0] ?_;refine Zb fun p4 hp4=> ?_;refine Zv ?_;refine TD.nil (fun w1 hr=> ?_);replace kr:=hr.q kr;replace kh:=hr.q kh;obtain⟨gp4,kp4⟩:=hr.b p4;have HM1:=Hi hr.mod;clear hr;go_wp2_with fail;go_at_call 82;refine(there_c _ kr).mono ?_;rintro e w2 ⟨rfl,rfl⟩;have HFin:Hid (∀wz,Mod (fun _=>False) w wz→T2=T→RegA b h r T2 wz∧Mod (fun i=>i=h) w wz):=Hi (fun wz m e=>⟨e▸HRA.out.mod0 m,m.mono (fun _ _ h=>h.elim)⟩);by_cases h0:n=0
 ·have HE:=Hi (HP.out.1 n HNL.out (.inl h0));have hd2:decide ((n:Int)=0)=true:=Dt (by omega);go_wp2_with fail;go_ret;exact⟨by rw[←HPE.out.1,HE.out.1];rfl,HFin.out _ HM1.out (by rw[←HPE.out.2,HE.out.2])⟩
 ·have hd2:decide ((n:Int)=0)=false:=Df (by omega);by_cases h1:256<n
  ·have HE:=Hi (HP.out.1 n HNL.out (.inr h1));have hd3:=Dt h1;go_wp2_with fail;go_ret;exact⟨by rw[←HPE.out.1,HE.out.1];rfl,HFin.out _ HM1.out (by rw[←HPE.out.2,HE.out.2])⟩
  ·have hd3:=Df h1;have HNO:Hid (¬(l.length=0∨256<l.length)):=Hi (by rw[HNL.out];omega);have hlk:∀wq,wq.heap[h]? =some (.map es cl)→(Instr.lookup 46 (.map (some h)) (.agg (kc k)) true).run Tryz.prog wq= .ok (.tuple #[((lkp k M).map slK).getD (slK ⟨none,[],0⟩),.bool (lkp k M).isSome]) wq:=fun wq hq=>HM.lookup keyTR Tryz.underlying46 slK_zero wq hq k true;have HM':=Hi HM;have H3':=Hi H3;clear HM H3;cases hk:lkp k M with
   |some s=>
    have HE:=Hi (HP.out.2.1 HNO.out (by rw[←hT,lkp_tb,hk];rfl));rw[hk]at hlk;simp only[Option.map_some,zE,Option.isSome_some]at hlk;obtain⟨vs,hvs⟩:∃vs,slK s=vs:=⟨_,rfl⟩;rw[hvs]at hlk;have hlk3:∀wq,Mod (fun _=>False) w2 wq→(Instr.lookup 46 (.map (some h)) (.agg (kc k)) true).run Tryz.prog wq= .ok (.tuple #[vs,.bool true]) wq:=fun wq hq=>hlk wq (hq.at0 kh);clear hlk hk hvs;go_upto_region 6 with fail;have Lkr:=Ls kr;have Lkp4:=Ls kp4;refine ZP [0,0,0,1,1,1,0,0,0,0,0] ?_
    iterate 5 first|refine Zv ?_|refine Zd ?_
    (refine TD.lookup (v:= ?v8) (p:= ?p8) (q:= ?q8) (Mod.refl _ _) (by simp only[zK];rfl) rfl (by rfl) rfl ?hx8 ?hz8 (fun wq hSq=> ?y8) ?n8;(case hx8=>simp only[zM];try rfl);(case hz8=>simp only[zM];try rfl);(case y8=>(rw[hlk3 wq hSq];(try with_reducible rfl)));try simp only[zL])
    iterate 5 refine Zv ?_
    refine TD.nil (fun w3 hr=> ?_);replace kr:=hr.q kr;replace kp4:=hr.q kp4;have m3:=HM1.out.then0 hr.mod;clear hr hlk3;go_wp2_with fail;go_ret;exact⟨by rw[←HPE.out.1,HE.out.1];rfl,HFin.out _ m3 (by rw[←HPE.out.2,HE.out.2])⟩
   |none=>
    have HE:=Hi (HP.out.2.2 HNO.out (by rw[←hT,lkp_tb,hk];rfl));rw[hk]at hlk;simp only[Option.map_none,Option.getD_none,Option.isSome_none]at hlk;have HK:=Hi hk;have hlk3:∀wq,Mod (fun _=>False) w2 wq→(Instr.lookup 46 (.map (some h)) (.agg (kc k)) true).run Tryz.prog wq= .ok (.tuple #[.slice none 0 0,.bool false]) wq:=fun wq hq=>hlk wq (hq.at0 kh);clear hlk hk;go_upto_region 6 with fail;have Lkr:=Ls kr;have Lkp4:=Ls kp4;have Lkh:=Ls kh;refine ZP [0,0,0,1,1,1,0,0,0,0,0] ?_
    iterate 5 first|refine Zv ?_|refine Zd ?_
    (refine TD.lookup (v:= ?v19) (p:= ?p19) (q:= ?q19) (Mod.refl _ _) (by simp only[zK];rfl) rfl (by rfl) rfl ?hx19 ?hz19 (fun wq hSq=> ?y19) ?n19;(case hx19=>simp only[zM];try rfl);(case hz19=>simp only[zM];try rfl);(case y19=>(rw[hlk3 wq hSq];(try with_reducible rfl)));try simp only[zL])
    iterate 5 refine Zv ?_
    refine TD.nil (fun w3 hr=> ?_);replace kr:=hr.q kr;replace kp4:=hr.q kp4;replace kh:=hr.q kh;have HM3:=Hi (HM1.out.then0 hr.mod);clear hr hlk3;go_upto_region 9 with fail;have Lkr:=Ls kr;have Lkp4:=Ls kp4;have Lkh:=Ls kh;refine wp_epass (T0:=fun _=>False) (K:=fun _ _=>True) (κ:=fun i=>[0,0,0,0,0,0,6,6].getD i 0) (υ:=fun _=>[]) [0,1,2,3,4,5,6] [7] (by kernel_rfl) (by kernel_rfl) (Good.true).cl (trivial) (fun _ h=>h.elim) ?_;have gK:=Good.true
    iterate 3 refine Zg ?_
    refine Zh ?_;refine Zh ?_;refine Zg ?_;(refine TG.callM (f:= ?f31) (args:= ?r31) (NewL kc 32 82 w3.heap.size l) (goodN kc 32 82 w3.heap.size l) gK (by simp only[zK];rfl) rfl (by rfl) (fun w1=> ?y31) (fun T wq kq ltq hSq ub=> ?hsp31) ?n31;(case y31=>(go_simp;(first|with_reducible rfl|(constructor<;>with_reducible rfl))));(case hsp31=>(have krq:=hSq.at kr (fun h=>h);have kp4q:=hSq.at kp4 (fun h=>h);have khq:=hSq.at kh (fun h=>h);exact(HC2.out wq (HM3.out.then0 hSq)).mono (fun e w' h=>by obtain⟨v,h1,h2,h3⟩:=h;exact⟨v,h1,h3,newL h2 hSq.size⟩)));rintro v31 ⟨wI,TI,hI⟩;replace gK:=gK.and ((goodN kc 32 82 w3.heap.size l) v31);skip;(try clear hI TI wI);try simp only[zL]);refine TG.nil (fun w6 ⟨TR,hr⟩=> ?_);replace kr:=hr.q kr;replace kp4:=hr.q kp4;replace kh:=hr.q kh;clear gK;obtain⟨_,hN,hTg⟩:=hr.k;obtain⟨a6,rfl⟩:=NewS.form2 hN;rw[HNL.out]at hTg⊢;have HM6:=Hi (HM3.out.then0 hr.mod);have HN6:=Hi hN;obtain⟨es7,cl7,hup,HM7⟩:=HM'.out.update keyTR Tryz.underlying46 w6 kh k (⟨a6,l,n⟩:Sl Key);have hup2:(Instr.mapUpdate 46 (.map (some h)) (.agg (kc k)) (.slice a6 n n)).run Tryz.prog w6= .ok () (setBlock w6 h (.map es7 cl7)):=by
     have e:slK (⟨a6,l,n⟩:Sl Key)= .slice a6 n n:=by
      unfold slK;rw[HNL.out]
     rw[e]at hup;exact hup
    have HM7':=Hi HM7;clear hup hN hTg hr HM7;refine Zz ?_;(refine eff_update (X:= ?X32) (Y:= ?Y32) (Z:= ?Z32) (w':= ?w32) (by simp only[zK];rfl) (by rfl) rfl ?hx32 ?hz32 ?hv32 ?y32 ?n32;(case hx32=>simp only[zM];try rfl);(case hz32=>simp only[zM];try rfl);(case hv32=>(simp only[zM];(try rfl)));(case y32=>exact hup2));refine TE.nil_set kh (fun wn kh mS=> ?_);have HM8:Hid (Mod (fun i=>i=h) w wn):=Hi ((HM6.out.mono (fun _ _ h=>h.elim)).trans mS);have HF:Hid (RegA b h r T2 wn):=Hi (by
     obtain⟨q1,q2⟩:=HPE.out;rw[←q2,HE.out.2,←hT];obtain⟨M0,q0,_⟩:=HRA.out;have hne:=regH q0;have hhb:h<w3.heap.size:=by
      obtain⟨_,e0,c0,k0,_⟩:=q0;exact Nat.lt_of_lt_of_le (Ls k0) HM3.out.size
     refine⟨put k (⟨a6,l,n⟩:Sl Key) M,⟨mS.at_ne kr hne.symm,_,_,kh,HM7'.out⟩,?_,?_,H4,H5⟩
     ·rw[put_none HK.out];simp[tbOf]
     ·rw[put_none HK.out];intro x hx;rcases List.mem_append.1 hx with hx|hx
      ·obtain⟨x1,x2⟩:=H3'.out x hx;obtain⟨_,e0,c0,k0,_⟩:=q0;refine⟨x1.mod HM8.out (fun g hg e=> ?_),x2⟩;have e':g=h:=e;subst e';exact nsK_ne x1 k0 hg
      ·rw[List.mem_singleton]at hx;subst hx;refine⟨?_,by have:=HNO.out;have:=HNL.out;show l.length≤256;omega⟩;have hN:=(HN6.out.mod mS (fun g hg e=>by have e':g=h:=e;have:=(HN6.out.lt g hg).1;omega)).base (b':=b) (by omega);show NewS kc 32 82 b wn (.slice a6 l.length n) l;rw[←HNL.out];exact hN)
    clear kh kr mS;go_wp2_with fail;go_ret;exact⟨by rw[←HPE.out.1,HE.out.1];rfl,HF.out,HM8.out⟩
section
structure TbR where
 k:Key
 s:Sl Key
def tbr (x:TbR):Array Value:=kx x.k [.slice x.s.a x.s.l.length x.s.c]
def zTb:Array Value:=tbr ⟨key0,⟨none,[],0⟩⟩
theorem tbr_size (x:TbR):(tbr x).size=33:=kx_size _ _
theorem tbr_one' (x:TbR):(tbr x).all (·.oneCell')=true:=kx_one _ _ rfl
theorem tbr_key (x:TbR):(tbr x).extract 0 32=kc x.k:=kx_key _ _
theorem tbr32 (x:TbR):(tbr x)[32]? =some (.slice x.s.a x.s.l.length x.s.c):=kx_get x.k _ 0
theorem zTb_size:zTb.size=33:=tbr_size _
attribute [local go_sem] tbr_size zTb_size
theorem tbT:ElT Tryz.prog 94 151 tbr 33 56 where
 u:=Tryz.underlying94
 info:=by
  obtain⟨i0,hi,hz0,hz1,hz2⟩:=info_parts (show(Tryz.prog.info? 151).map (fun i=>(i.zero,i.size,i.bytes))=some (some (.agg zTb),33,56)by kernel_rfl);exact⟨i0,_,hi,hz0,hz1,hz2,by simp[Value.cells,zTb_size]⟩
 pos:=by omega
 size x:=tbr_size x
 one x:=by
  have:=tbr_one' x;rw[Array.all_eq_true_iff_forall_mem]at this;intro u hu;exact this u (by simpa using hu)
theorem row_head {C:Array Value} {o n m:Nat} {X Y:Array Value} (h:C.extract o (o+n)=X) (hX:X.extract 0 m=Y) (hm:m≤n):C.extract o (o+m)=Y:=by
 rw[←hX,←h,Array.extract_extract];congr 1<;>omega
def RfA (b m:Nat) (T:TbL) (v:Value) (w:World):Prop:=∃L:List TbR,w.heap[m]? =some (.cells #[v] 96 (0,0))∧SlOwn tbr 33 151 w b v L∧L.map (fun x=>(x.k,x.s.l))=T∧
 (∀x∈L,SlAt kc 32 w x.s.a x.s.l∧x.s.l.length≤256∧∀g o,x.s.a=some ⟨g,o,none⟩→b≤g∧g<w.heap.size∧∃C,w.heap[g]? =some (.cells C 82 (0,0)))∧m<b
theorem RfA.mod {b m:Nat} {T:TbL} {v:Value} {w w':World} {S:Nat→Prop} (H:RfA b m T v w) (hm:Mod S w w') (h1:¬S m) (h2:∀g,v.ownBlock=some g→¬S g) (h3:∀g C,b≤g→w.heap[g]? =some (.cells C 82 (0,0))→¬S g):RfA b m T v w':=by
 obtain⟨L,k1,k2,k3,k4,k5⟩:=H;refine⟨L,hm.at k1 h1,k2.mod hm h2,k3,fun x hx=> ?_,k5⟩;obtain⟨s1,s2,s3⟩:=k4 x hx;refine⟨?_,s2,fun g o e=> ?_⟩
 ·rcases s1 with h|⟨g,o,C,U,fr,ha,hg,hr⟩
  ·exact .inl h
  ·obtain⟨q1,q2,C2,q3⟩:=s3 g o ha;exact .inr ⟨g,o,C,U,fr,ha,hm.at hg (h3 g C2 q1 q3),hr⟩
 ·obtain⟨q1,q2,C2,q3⟩:=s3 g o e;exact⟨q1,Nat.lt_of_lt_of_le q2 hm.size,C2,hm.at q3 (h3 g C2 q1 q3)⟩
theorem RfA.mod0 {b m:Nat} {T:TbL} {v:Value} {w w':World} (H:RfA b m T v w) (hm:Mod (fun _=>False) w w'):RfA b m T v w':=H.mod hm (fun h=>h) (fun _ _ h=>h) (fun _ _ _ _ h=>h)
theorem find_tb (L:List TbR) (k:Key):tbFind (L.map (fun x=>(x.k,x.s.l))) k=(L.find? (fun x=>decide (x.k=k))).map (fun x=>x.s.l):=by
 unfold tbFind;rw[List.find?_map,Option.map_map];rfl
theorem find_at {L:List TbR} {k:Key} {i:Nat} {y:TbR} (hy:L[i]? =some y) (hk:y.k=k) (h:∀j x,j<i→L[j]? =some x→x.k≠k):L.find? (fun x=>decide (x.k=k))=some y:=by
 rw[List.find?_eq_some_iff_getElem];obtain⟨hi,he⟩:=List.getElem?_eq_some_iff.1 hy;exact⟨by simpa using hk,i,hi,he,fun j hj=>by
  have:=h j _ hj (List.getElem?_eq_getElem (by omega));simpa using this⟩
theorem find_no {L:List TbR} {k:Key} (h:∀j x,j<L.length→L[j]? =some x→x.k≠k):L.find? (fun x=>decide (x.k=k))=none:=by
 rw[List.find?_eq_none];intro x hx;obtain⟨j,hj,e⟩:=List.getElem_of_mem hx;have:=h j x hj (by rw[List.getElem?_eq_getElem hj,e]);simpa using this
def RfFind (T:TbL) (k:Key) (w:World) (e:Ending) (w':World):Prop:=Mod (fun _=>False) w w'∧match tbFind T k with
 |some l=>∃v,e= .returned (.tuple #[v,.int .i64 0])∧SlOwn kc 32 82 w' w.heap.size v l
 |none=>e= .returned (.tuple #[.slice none 0 0,.int .i64 11])
theorem rfind_c {b m:Nat} {T:TbL} {v:Value} (k:Key) (w:World) (H:RfA b m T v w) (hT:T.length≤100000):Calls Tryz.prog 90 #[pV m,.agg (kc k)] w (RfFind T k w):=by
 obtain⟨L,k1,k2,k3,k4,k5⟩:=H;obtain⟨va,vc,rfl,hat,_⟩:=k2.at tbT;have HL:=Hi (Ai hat (Ai k3 (Ai k4 k1)));obtain⟨n,hn⟩:∃n,L.length=n:=⟨_,rfl⟩;have hnb:n≤100000:=by rw[←hn];have:=congrArg List.length k3;rw[List.length_map]at this;omega
 have HN:=Hi hn;have kr:=k1;rw[hn]at kr;clear k1 k2 k3 k4 k5 hat hn hT;go_enter Tryz.func90,Tryz.ntmps90;go_upto_region 0 with fail;have Lkr:=Ls kr;refine ZP0 [3,0,0] ?_;refine Zb fun p3 hp3=> ?_
 iterate 2 refine Zv ?_
 refine TD.nil (fun w1 hr=> ?_);replace kr:=hr.q kr;obtain⟨gp3,kp3⟩:=hr.b p3;have HM1:=Hi hr.mod;clear hr;go_wp2_with fail;go_loopw [6] (fun s6 ws=>∃i:Nat,i≤n∧s6= .int .i64 (i:Int)∧Hid (∀j x,j<i→L[j]? =some x→x.k≠k)∧Hid (Mod (fun _=>False) w ws)∧ws.heap[m]? =some (.cells #[.slice va n vc] 96 (0,0))∧ws.heap[p3]? =some (.cells (kc k) 82 (0,0))) (fun s6 _=>n-(intOf s6).toNat)
 case atStart=>exact⟨0,Nat.zero_le _,rfl,Hi (fun j x h=>by omega),HM1,kr,kp3⟩
 case round=>
  clear kr kp3;obtain⟨i,hi,rfl,HK,HM,kr,kp3⟩:=hrel;by_cases hlt:i<n
  ·have hd:=Dt hlt;obtain⟨y,hy⟩:∃y,L[i]? =some y:=⟨_,List.getElem?_eq_getElem (by have:=HN.out;omega)⟩;obtain⟨g,o,C,U,fr,rfl,kg,he,hle⟩:=(HL.out.1.mod0 HM.out).block hy;have hke:=row_head he (tbr_key y) (by omega);have hle2:o+i*33+32≤C.size:=by omega
   have hks:C[o+i*33+32]? =some (.slice y.s.a y.s.l.length y.s.c):=cellC he (j:=32) (tbr32 y);have HY:=Hi (Ai hy (HL.out.2.2.1 y (List.mem_of_getElem? hy)));clear hy he;go_upto_region 4 with fail;by_cases hyk:y.k=k
   ·have HE:Hid (tbFind T k=some y.s.l):=Hi (by rw[←HL.out.2.1,find_tb,find_at HY.out.1 hyk HK.out];rfl);have hdk:=Dt hyk;clear hyk;have Lkr:=Ls kr;have Lkp3:=Ls kp3;have Lkg:=Ls kg;refine ZP [0,0,0,1,0,0,0,1,1,0] ?_
    iterate 10 first|refine Zv ?_|refine Zd ?_
    refine TD.nil (fun w4 hr=> ?_);replace kr:=hr.q kr;replace kp3:=hr.q kp3;replace kg:=hr.q kg;have HM4:=Hi (HM.out.then0 hr.mod);clear hr;go_upto_region 5 with fail;obtain⟨ys,hys⟩:∃n,y.s.l.length=n:=⟨_,rfl⟩;rw[hys]at hks;have HYS:=Hi hys;clear hys;have Lkr:=Ls kr;have Lkp3:=Ls kp3;have Lkg:=Ls kg;refine ZP0 [0,0,0,1,0,0,0,1,5,0,0] ?_
    iterate 8 first|refine Zv ?_|refine Zd ?_
    refine Zi fun w5 hr=> ?_;replace kr:=hr.q kr;replace kp3:=hr.q kp3;replace kg:=hr.q kg;have HM5:=Hi (HM4.out.then0 hr.mod);obtain⟨v3,w6,hap,hO,m6,_⟩:=SlOwn.append keysT (c:=y.s.c) (SlOwn.nil (f:=kc) (n:=32) (E:=82) w5 w5.heap.size) (HY.out.2.1.mod0 HM5.out) (by have:=HY.out.2.2.1;simp;omega) (by decide) (Nat.le_refl _) 27;rw[HYS.out]at hap;have HF:Hid (Mod (fun _=>False) w w6∧SlOwn kc 32 82 w6 w.heap.size v3 y.s.l):=Hi ⟨HM5.out.then m6 (fun i hi e=>by cases e),by simpa using hO.low HM5.out.size⟩;clear hr hO m6;refine ZA hap ?_;refine Ze ?_;refine Ze ?_;refine TE.nil ?_;go_wp2_with fail;refine bodyPost_ret (results_tmp2 rfl _ _ _) rfl ?_;refine⟨HF.out.1,?_⟩;rw[HE.out];exact⟨v3,rfl,HF.out.2⟩
   ·have HK2:Hid (∀j x,j<i+1→L[j]? =some x→x.k≠k):=Hi (fun j x hj hx=>by
     rcases Nat.lt_succ_iff_lt_or_eq.1 hj with h|h
     ·exact HK.out j x h hx
     ·subst h;rw[HY.out.1]at hx;cases hx;exact hyk)
    have hdk:=Df hyk;clear hyk;have Lkr:=Ls kr;have Lkp3:=Ls kp3;have Lkg:=Ls kg;refine ZP [0,0,0,1,0,0,0,1,1,0] ?_
    iterate 10 first|refine Zv ?_|refine Zd ?_
    refine TD.nil (fun w4 hr=> ?_);replace kr:=hr.q kr;replace kp3:=hr.q kp3;replace kg:=hr.q kg;have HM4:=Hi (HM.out.then0 hr.mod);clear hr hke hks;go_wp2_with fail;go_roundw
    case rel=>exact⟨i+1,by omega,by go_num,HK2,HM4,kr,kp3⟩
    case measure=>simp[intOf];omega
  ·have hd:=Df hlt;have HE:Hid (tbFind T k=none):=Hi (by rw[←HL.out.2.1,find_tb,find_no (fun j x hj=>HK.out j x (by have:=HN.out;omega))];rfl);clear hlt;go_wp2_with fail;refine bodyPost_ret (results_tmp2 rfl _ _ _) rfl ?_;refine⟨HM.out,?_⟩;rw[HE.out];rfl
def RfC (m:Nat) (v v':Value) (w w':World):Prop:=Mod (fun i=>i=m∨v.ownBlock=some i) w w'∧(v'.ownBlock=v.ownBlock∨∃g,v'.ownBlock=some g∧w.heap.size≤g)
theorem bTbl (k:Key) (a:Option Addr) (l:List Key) (n c:Nat) (hn:l.length=n) (w:World):(Instr.build 151 #[(0,.agg (kc k)),(1,.slice a n c)]).run Tryz.prog w= .ok (.agg (tbr ⟨k,⟨a,l,c⟩⟩)) w:=by
 subst hn;refine run_build_struct (z:= .agg zTb) (places:= #[(0,32),(32,1)]) Tryz.underlying151 (fun w=>by kernel_rfl) (fun w=>by kernel_rfl) ?_ w;show Instr.fill _ zTb [(0,_),(1,_)]=_;rw[fill_cons (off:=0) (n:=32) rfl (by simp[Value.cells]) (by rw[zTb_size];omega),fill_cons (off:=32) (n:=1) rfl rfl (by rw[wr_size,zTb_size];omega)];refine congrArg some ?_;apply Array.toList_inj.1;have hk:(kc k).toList.length=32:=by simp
 rw[wr_list _ _ _ (by rw[wr_size,zTb_size];simp[Value.cells]),wr_list _ _ _ (by rw[zTb_size];simp[Value.cells])];simp only[Value.cells,List.take_zero,List.nil_append,hk];unfold tbr kx zTb;have h1:(kc k).toList.take 32=(kc k).toList:=List.take_of_length_le (by omega);have h2:(kc k).toList.drop 33=[]:=List.drop_of_length_le (by omega);simp[List.take_append,List.drop_append,hk,h1,h2,tbr,kx]
theorem bsTbl (x:TbR) (w:World):(Instr.buildSlice 94 1 #[(0,.agg (tbr x))]).run Tryz.prog w= .ok (.slice (some ⟨w.heap.size,0,none⟩) 1 1) (w.alloc (.cells (tbr x) 151)):=by
 obtain⟨i0,hi,hz0,hz1,hz2⟩:=info_parts (show(Tryz.prog.info? 151).map (fun i=>(i.zero,i.size,i.bytes))=some (some (.agg zTb),33,56)by kernel_rfl);refine run_buildSlice w _ _ 1 _ _ i0 _ Tryz.underlying94 hi hz0 (by rw[hz1];omega) (by rw[hz1];omega) ?_;rw[hz1];show Instr.fill _ _ [(0,_)]=_;rw[fill_cons (off:=0) (n:=33) rfl (by simp[Value.cells,tbr_size]) (by simp)];show some (wr _ 0 (tbr x).toList)=_;rw[wr_whole (tbr x) _ (by simp[tbr_size,Value.cells,zTb_size])]
def OwnK (l:List Key) (n b:Nat) (v:Value):Land:=fun T w=>∃a c,v= .slice a n c∧SlOwn kc 32 82 w b (.slice a n c) l∧∀g,(Value.slice a n c).ownBlock=some g→T g
theorem goodOK (l:List Key) (n b:Nat) (v:Value):Good (OwnK l n b v) where
 cl:=fun T w w' h hm=>by
  obtain⟨a,c,e,h2,h3⟩:=h;exact⟨a,c,e,h2.mod hm (fun g hg hn=>hn (h3 g hg)),h3⟩
 gr:=fun T T' w hT h=>by
  obtain⟨a,c,e,h2,h3⟩:=h;exact⟨a,c,e,h2,fun g hg=>hT g (h3 g hg)⟩
theorem app_nilK {w:World} {B0 c n:Nat} {q:List Key} {a:Option Addr} {T:Nat→Prop} (hs:SlAt kc 32 w a q) (hq:q.length≤1000000) (hn:q.length=n) (hB:B0≤w.heap.size):∃v w',(Builtin.append_ #[27,27] 27 #[.slice none 0 0,.slice a n c]).run Tryz.prog w= .ok v w'∧Mod (fun _=>False) w w'∧OwnK q n B0 v (Grow T w w') w':=by
 subst hn;obtain⟨v,w',hap,hO,m,hn⟩:=SlOwn.append keysT (c:=c) (SlOwn.nil (f:=kc) (n:=32) (E:=82) w B0) hs (by simpa using hq) (by decide) hB 27;simp only[List.nil_append]at hO;obtain⟨a2,c2,e,_⟩:=hO.at keysT;subst e;refine⟨_,w',hap,m.mono (fun _ _ e=>by cases e),a2,c2,rfl,hO,fun g hg=> ?_⟩;rcases hn with h|h
 ·rw[hg]at h;cases h
 ·rw[hg]at h;cases h;exact .inr ⟨Nat.le_refl _,(hO.lt _ hg).2⟩
def RowK (b:Nat) (L:List TbR) (v:Value):Land:=fun T w=>SlOwn tbr 33 151 w b v L∧∀g,v.ownBlock=some g→T g
theorem goodRow (b:Nat) (L:List TbR) (v:Value):Good (RowK b L v) where
 cl:=fun T w w' h hm=>⟨h.1.mod hm (fun g hg hn=>hn (h.2 g hg)),h.2⟩
 gr:=fun T T' w hT h=>⟨h.1,fun g hg=>hT g (h.2 g hg)⟩
def BothK (l:List Key) (n bk b:Nat) (L:List TbR) (v u:Value):Land:=fun T w=>OwnK l n bk v T w∧RowK b L u T w
theorem goodBoth (l:List Key) (n bk b:Nat) (L:List TbR) (v u:Value):Good (BothK l n bk b L v u):=(goodOK l n bk v).and (goodRow b L u)
def GrwK (l:List Key) (n bk b:Nat) (L:List TbR) (v:Value) (og:Option Nat) (sz:Nat) (u:Value):Land:=fun T w=>(OwnK l n bk v T w∧RowK b L u T w)∧((∃a m c,u= .slice a m c)∧(u.ownBlock=og∨∃g,u.ownBlock=some g∧sz≤g))
theorem goodGrw (l:List Key) (n bk b:Nat) (L:List TbR) (v:Value) (og:Option Nat) (sz:Nat) (u:Value):Good (GrwK l n bk b L v og sz u) where
 cl:=fun T w w' h hm=>⟨(goodBoth l n bk b L v u).cl T w w' h.1 hm,h.2⟩
 gr:=fun T T' w hT h=>⟨(goodBoth l n bk b L v u).gr T T' w hT h.1,h.2⟩
theorem keys_keep {b:Nat} {a:Option Addr} {l:List Key} {w w':World} {S:Nat→Prop} (h:SlAt kc 32 w a l) (hab:l=[]∨∀g o,a=some ⟨g,o,none⟩→g<b) (hm:Mod S w w') (hS:∀i,i<b→¬S i):SlAt kc 32 w' a l:=by
 rcases h with h|⟨g,o,C,U,fr,ha,hg,hr⟩
 ·exact .inl h
 ·rcases hab with h|h
  ·exact .inl h
  ·exact .inr ⟨g,o,C,U,fr,ha,hm.at hg (hS g (h g o ha)),hr⟩
theorem row_key_ne {b bk:Nat} {L:List TbR} {l:List Key} {u v:Value} {w:World} (h:SlOwn tbr 33 151 w b v L) (h2:SlOwn kc 32 82 w bk u l):∀g,u.ownBlock=some g→v.ownBlock≠some g:=fun g hg e=>by
 rcases h.2 with⟨q,_⟩|⟨g1,_,cur,q,_,k1,_⟩
 ·rw[q]at e;cases e
 ·rw[q]at e;cases e;rcases h2.2 with⟨q2,_⟩|⟨g2,_,cur2,q2,_,k2,_⟩
  ·rw[q2]at hg;cases hg
  ·rw[q2]at hg;cases hg;rw[k1]at k2;cases k2
theorem grow_row {l:List Key} {n bk b sz p:Nat} {L:List TbR} {v u:Value} {T:Nat→Prop} {w:World} {x:TbR} (h:BothK l n bk b L v u T w) (hp:w.heap[p]? =some (.cells (tbr x) 151 (0,0))) (hL:L.length≤1000) (hb:b≤w.heap.size) (hs:sz≤w.heap.size):
  ∃v5 w5,(Builtin.append_ #[94,94] 94 #[u,.slice (some ⟨p,0,none⟩) 1 1]).run Tryz.prog w= .ok v5 w5∧Mod T w w5∧GrwK l n bk b (L++[x]) v (u.ownBlock) sz v5 (Grow T w w5) w5:=by
 obtain⟨⟨a1,c1,e1,o1,o2⟩,r1,r2⟩:=h;obtain⟨v5,w5,h1,h3,h2,h4⟩:=SlOwn.append tbT (q:=[x]) (c:=1) r1 (SlAt.one hp x rfl (tbr_size _)) (by simp;omega) (by decide) hb 94;obtain⟨a5,c5,e5,_⟩:=h3.at tbT;refine⟨v5,w5,h1,h2.mono (fun i _ e=>r2 i e),⟨⟨a1,c1,e1,o1.mod h2 (fun g hg e=>row_key_ne r1 o1 g hg e),fun g hg=> .inl (o2 g hg)⟩,h3,fun g hg=> ?_⟩,⟨a5,_,c5,e5⟩,?_⟩
 ·rcases h4 with h4|h4
  ·rw[h4]at hg;exact .inl (r2 g hg)
  ·rw[h4]at hg;cases hg;exact .inr ⟨Nat.le_refl _,(h3.lt _ h4).2⟩
 ·rcases h4 with h4|h4
  ·exact .inl h4
  ·exact .inr ⟨_,h4,hs⟩
theorem rput_c {b m:Nat} {T:TbL} {v:Value} (k:Key) (a:Option Addr) (l:List Key) (c:Nat) (w:World) (H:RfA b m T v w) (hT:T.length≤1000) (hl:SlAt kc 32 w a l) (hab:l=[]∨∀g o,a=some ⟨g,o,none⟩→g<b) (hln:l.length≤1000000) (hb:b≤w.heap.size):
  Calls Tryz.prog 44 #[pV m,.agg (kc k),.slice a l.length c] w fun e w'=>(∃x:Int,e= .returned (.int .i64 x))∧∃v',RfA b m (tbPut T k l) v' w'∧RfC m v v' w w':=by
 have HG:=Hi (Ai H (Ai hl hb));have HAB:=Hi hab;obtain⟨n,hn⟩:∃n,l.length=n:=⟨_,rfl⟩;have HN:=Hi hn;have HT:=Hi hT;rw[hn]at hln⊢;clear H hl hb hn hT hab;go_enter Tryz.func44,Tryz.ntmps44;go_upto_region 0 with fail;refine ZP0 [3,0] ?_;refine Zb fun p4 hp4=> ?_;refine Zv ?_;refine TD.nil (fun w1 hr=> ?_);obtain⟨gp4,kp4⟩:=hr.b p4;have HM1:=Hi hr.mod;clear hr;by_cases h0:n<1
 ·have hd:=Dt h0;have hd1:decide ((n:Int)<1)=true:=Dt (by omega);have HE:Hid (tbPut T k l=T):=Hi (if_pos (.inl (by rw[HN.out];omega)));go_wp2_with fail;go_ret;exact⟨⟨_,rfl⟩,v,by rw[HE.out];exact HG.out.1.mod0 HM1.out,HM1.out.mono (fun _ _ h=>h.elim),.inl rfl⟩
 ·have hd:=Df h0;have hd1:decide ((n:Int)<1)=false:=Df (by omega);by_cases h2:256<n
  ·have hd2:=Dt h2;have hd3:decide ((n:Int)>256)=true:=Dt (by omega);have HE:Hid (tbPut T k l=T):=Hi (if_pos (.inr (by rw[HN.out];omega)));go_wp2_with fail;go_ret;exact⟨⟨_,rfl⟩,v,by rw[HE.out];exact HG.out.1.mod0 HM1.out,HM1.out.mono (fun _ _ h=>h.elim),.inl rfl⟩
  ·have hd2:=Df h2;have hd3:decide ((n:Int)>256)=false:=Df (by omega);have hd4:decide ((256:Int)<(n:Int))=false:=Df (by omega);have HNB:Hid (¬(l.length=0∨256<l.length)∧l.length≤256):=Hi ⟨by rw[HN.out];omega,by rw[HN.out];omega⟩;clear h0 h2;have hF:=rfind_c k w1 (HG.out.1.mod0 HM1.out) (by have:=HT.out;omega);go_upto_region 3 with fail;refine region_seq 8 rfl ?_;simp only[List.range,List.range.loop];refine Zq ?_;refine Zr ?_;refine ZC hF ?hout (fun vn wn hR=> ?hret) (fun ch wn hR=> ?hpan)
   case hout=>
    rintro w' ⟨_,h⟩;split at h
    ·obtain⟨_,h,_⟩:=h;cases h
    ·cases h
   case hpan=>
    exfalso;obtain⟨_,h⟩:=hR;split at h
    ·obtain⟨_,h,_⟩:=h;cases h
    ·cases h
   case hret=>
   obtain⟨hm,hr⟩:=hR;have HM2:=Hi (HM1.out.trans hm);replace kp4:=hm.at0 kp4;clear hF hm;cases hf:tbFind T k with
   |some l2=>
    rw[hf]at hr;obtain⟨v2,e0,-⟩:=hr;cases e0;have HE:Hid (tbPut T k l=T):=Hi (by unfold tbPut;rw[if_neg HNB.out.1,hf];rfl);clear hf;(try simp only[zL])
    iterate 5 refine Zq ?_
    refine sq_nil ?_;go_wp2_with fail;go_ret;exact⟨⟨_,rfl⟩,v,by rw[HE.out];exact HG.out.1.mod0 HM2.out,HM2.out.mono (fun _ _ h=>h.elim),.inl rfl⟩
   |none=>
    rw[hf]at hr;cases hr;have HE:Hid (tbPut T k l=T++[(k,l)]):=Hi (by unfold tbPut;rw[if_neg HNB.out.1,hf];rfl);clear hf;(try simp only[zL])
    iterate 5 refine Zq ?_
    refine sq_nil ?_;obtain⟨w2,rfl⟩:∃w2:World,w2=wn:=⟨_,rfl⟩;have HR2:=Hi (HG.out.1.mod0 HM2.out);obtain⟨L,kr,hrow,hT,hall,hmb⟩:=HR2.out;obtain⟨va,vc,rfl,-⟩:=hrow.at tbT;obtain⟨ln,hln2⟩:∃ln,L.length=ln:=⟨_,rfl⟩;have HL:=Hi (Ai hrow (Ai hT (Ai hall (Ai hmb hln2))));rw[hln2]at kr;have hby:=fun a1 c1=>bTbl k a1 l n c1 HN.out;clear hrow hT hall hmb hln2;go_upto_region 6 with fail;have hrow2:=HL.out.1;rw[HL.out.2.2.2.2]at hrow2;have hnm:¬((Value.slice va ln vc).ownBlock=some m):=fun e=>by
     have:=(hrow2.lt m e).1;have:=HL.out.2.2.2.1;omega
    have hnp:¬((Value.slice va ln vc).ownBlock=some p4):=fun e=>by
     rcases hrow2.2 with⟨h2,_⟩|⟨g2,cap,cur,h2,_,h3,_⟩
     ·rw[h2]at e;cases e
     ·rw[h2]at e;cases e;rw[h3]at kp4;cases kp4
    have HROW:=Hi hrow2;have hl2:=HG.out.2.1.mod0 HM2.out;have HL2:=Hi hl2;have hTl:L.length≤1000:=by have:=HL.out.2.1;have:=congrArg List.length this;rw[List.length_map]at this;have:=HT.out;omega
    clear hrow2 hl2;have Lkr:=Ls kr;have Lkp4:=Ls kp4;refine wp_epass (T0:=fun i=>(Value.slice va ln vc).ownBlock=some i) (K:=RowK b L (.slice va ln vc)) (κ:=fun i=>[0,0,0,0,0,0,0,6,0,3,6,0,0,6].getD i 0) (υ:=fun i=>[[],[],[],[],[],[],[],[],[],[],[34],[],[],[]].getD i []) [0,1,2,3,4,5,6,7,8,9,10] [11,12,13] (by kernel_rfl) (by kernel_rfl) (goodRow b L (.slice va ln vc)).cl (⟨HROW.out,fun g hg=>hg⟩) (fun i hi=>(HROW.out.lt i hi).2) ?_;have gK:=goodRow b L (.slice va ln vc)
    iterate 4 refine Zg ?_
    (refine TG.load (v:= ?v55) (p:= ?p55) (by simp only[zK];rfl) rfl (by rfl) rfl ?hx55 (fun wq hSq=> ?y55) ?n55;(case hx55=>simp only[zM];try rfl);(case y55=>(have krq:=hSq.at kr (by intro hT;first|exact hT|exact absurd hT (by assumption)|omega|(simp only at hT;omega));have kp4q:=hSq.at kp4 (by intro hT;first|exact hT|exact absurd hT (by assumption)|omega|(simp only at hT;omega));go_simp;(try with_reducible rfl)));try simp only[zL]);(refine TG.load (v:= ?v56) (p:= ?p56) (by simp only[zK];rfl) rfl (by rfl) rfl ?hx56 (fun wq hSq=> ?y56) ?n56;(case hx56=>simp only[zM];try rfl);(case y56=>(have krq:=hSq.at kr (by intro hT;first|exact hT|exact absurd hT (by assumption)|omega|(simp only at hT;omega));have kp4q:=hSq.at kp4 (by intro hT;first|exact hT|exact absurd hT (by assumption)|omega|(simp only at hT;omega));go_simp;(try with_reducible rfl)));try simp only[zL]);refine Zg ?_;(refine TG.appK (X:= ?X58) (Y:= ?Y58) (fun v1=>BothK l n w2.heap.size b L v1 (.slice va ln vc)) (fun v1=>goodBoth l n w2.heap.size b L v1 (.slice va ln vc)) (by simp only[zK];rfl) rfl (by rfl) rfl ?hx58 ?hz58 (fun T wq kq ltq hSq ub=> ?y58) ?n58;(case hx58=>simp only[zM];try rfl);(case hz58=>simp only[zM];try rfl);(case y58=>(have krq:=hSq.at kr (by intro hT;first|exact hT|exact absurd hT (by assumption)|omega|(simp only at hT;omega));have kp4q:=hSq.at kp4 (by intro hT;first|exact hT|exact absurd hT (by assumption)|omega|(simp only at hT;omega));obtain⟨v,w',h1,h2,h3⟩:=app_nilK (c:=c) (T:=T) (n:=n) (B0:=w2.heap.size) (keys_keep HL2.out HAB.out hSq (fun i hi e=>by have:=(HROW.out.lt i e).1;omega)) (by rw[HN.out];exact hln) HN.out hSq.size;exact⟨v,w',h1,h2.mono (fun _ _ e=>e.elim),h3,kq.1.mod0 h2,fun g hg=> .inl (kq.2 g hg)⟩));rintro v58 ⟨wI,TI,hI⟩;replace gK:=(fun v1=>goodBoth l n w2.heap.size b L v1 (.slice va ln vc)) v58;obtain⟨a1,c1,rfl,-,-⟩:=hI.k.1;(try clear hI TI wI);try simp only[zL]);(refine TG.build (v:= ?v59) (ps:= ?p59) (by simp only[zK];rfl) rfl (by rfl) rfl ?hx59 (fun w1=> ?y59) ?n59;(case hx59=>(simp only[List.map_toArray,List.map_cons,List.map_nil,zM];(try rfl)));(case y59=>(rw[(hby a1 c1)];(try with_reducible rfl)));try simp only[zL]);(refine TG.bslice (by simp only[zK];rfl) rfl (by rfl) rfl rfl ?hx60 (bsTbl ⟨k,⟨a1,l,c1⟩⟩) (fun p34 hp34 _=> ?n60);(case hx60=>(simp only[List.map_toArray,List.map_cons,List.map_nil,zM];(try rfl)));try simp only[zL]);(refine TG.appK (X:= ?X61) (Y:= ?Y61) (fun u=>GrwK l n w2.heap.size b (L++[⟨k,⟨a1,l,c1⟩⟩]) (.slice a1 n c1) ((Value.slice va ln vc).ownBlock) w2.heap.size u) (fun u=>goodGrw l n w2.heap.size b (L++[⟨k,⟨a1,l,c1⟩⟩]) (.slice a1 n c1) ((Value.slice va ln vc).ownBlock) w2.heap.size u) (by simp only[zK];rfl) rfl (by rfl) rfl ?hx61 ?hz61 (fun T wq kq ltq hSq ub=> ?y61) ?n61;(case hx61=>simp only[zM];try rfl);(case hz61=>simp only[zM];try rfl);(case y61=>(have krq:=hSq.at kr (by intro hT;first|exact hT|exact absurd hT (by assumption)|omega|(simp only at hT;omega));have kp4q:=hSq.at kp4 (by intro hT;first|exact hT|exact absurd hT (by assumption)|omega|(simp only at hT;omega));have kp34:=ub.box (p:=p34) (by first|exact Bx.set_same _ _ _|(simp only[Bx.set_same];rfl)) (by first|decide|exact List.mem_singleton.2 rfl|simp);dsimp only[Value.cells]at kp34;have nUp34:=(ub p34 _ (by first|exact Bx.set_same _ _ _|(simp only[Bx.set_same];rfl)) (by first|decide|exact List.mem_singleton.2 rfl|simp)).1;exact grow_row kq kp34 hTl (Nat.le_trans HG.out.2.2 (Nat.le_trans HM2.out.size hSq.size)) hSq.size));rintro v61 ⟨wI,TI,hI⟩;replace gK:=(fun u=>goodGrw l n w2.heap.size b (L++[⟨k,⟨a1,l,c1⟩⟩]) (.slice a1 n c1) ((Value.slice va ln vc).ownBlock) w2.heap.size u) v61;obtain⟨a5,q5,c5,rfl⟩:=hI.k.2.1;(try clear hI TI wI);try simp only[zL]);refine TG.nil (fun w3 ⟨TR,hr⟩=> ?_);replace kr:=hr.mod.at kr (by intro hT;first|exact hT|exact absurd hT (by assumption)|omega|(simp only at hT;omega));replace kp4:=hr.mod.at kp4 (by intro hT;first|exact hT|exact absurd hT (by assumption)|omega|(simp only at hT;omega));obtain⟨gp34,nTp34,kp34⟩:=hr.b p34;clear gK;obtain⟨⟨⟨ax,cx,ex,hO1,-⟩,hO5,-⟩,-,hn5⟩:=hr.k;injection ex with ex1 _ ex3
    subst ex1 ex3;have HF:=Hi (Ai hO1 (Ai hO5 (Ai hn5 hr.mod)));have hall3:∀x∈L,SlAt kc 32 w3 x.s.a x.s.l∧x.s.l.length≤256∧∀g o,x.s.a=some ⟨g,o,none⟩→b≤g∧g<w3.heap.size∧∃C,w3.heap[g]? =some (.cells C 82 (0,0)):=fun x hx=>by
     obtain⟨s1,s2,s3⟩:=HL.out.2.2.1 x hx;have hne:∀g C,w2.heap[g]? =some (.cells C 82 (0,0))→¬((Value.slice va ln vc).ownBlock=some g):=fun g C hg e=>by
      rcases HROW.out.2 with⟨h2,_⟩|⟨g2,cap,cur,h2,_,h3,_⟩
      ·rw[h2]at e;cases e
      ·rw[h2]at e;cases e;rw[h3]at hg;cases hg
     refine⟨?_,s2,fun g o e=> ?_⟩
     ·rcases s1 with h|⟨g,o,C,U,fr,ha,hg,hr2⟩
      ·exact .inl h
      ·obtain⟨q1,q2,C2,q3⟩:=s3 g o ha;exact .inr ⟨g,o,C,U,fr,ha,hr.mod.at hg (hne g C2 q3),hr2⟩
     ·obtain⟨q1,q2,C2,q3⟩:=s3 g o e;exact⟨q1,Nat.lt_of_lt_of_le q2 hr.mod.size,C2,hr.mod.at q3 (hne g C2 q3)⟩
    have HALL:=Hi hall3;clear hr hO1 hO5 hn5 hall3 hTl;refine Ze ?_;refine Ze ?_;refine Zz ?_;refine ZS ?_;refine ZN kr fun wn kr mS=> ?_;have HKR:=Hi kr;have HMS:=Hi mS;clear kr mS;go_wp2_with fail;go_ret;obtain⟨hO1,hO5,hn5,hm3⟩:=HF.out;have hlen:L.length+1=q5∨True:= .inr trivial;refine⟨⟨_,rfl⟩,.slice a5 q5 c5,?_,?_,?_⟩
    ·rw[HE.out];have hkeep:∀(x:TbR),SlAt kc 32 w3 x.s.a x.s.l→(∀g o,x.s.a=some ⟨g,o,none⟩→b≤g∧g<w3.heap.size∧∃C,w3.heap[g]? =some (.cells C 82 (0,0)))→SlAt kc 32 wn x.s.a x.s.l∧∀g o,x.s.a=some ⟨g,o,none⟩→b≤g∧g<wn.heap.size∧∃C,wn.heap[g]? =some (.cells C 82 (0,0)):=fun x s1 s3=>by
      have hne:∀g o,x.s.a=some ⟨g,o,none⟩→¬(g=m):=fun g o e e2=>by
       have:=(s3 g o e).1;have:=HL.out.2.2.2.1;omega
      refine⟨?_,fun g o e=> ?_⟩
      ·rcases s1 with h|⟨g,o,C,U,fr,ha,hg,hr⟩
       ·exact .inl h
       ·exact .inr ⟨g,o,C,U,fr,ha,HMS.out.at hg (hne g o ha),hr⟩
      ·obtain⟨q1,q2,C2,q3⟩:=s3 g o e;exact⟨q1,Nat.lt_of_lt_of_le q2 HMS.out.size,C2,HMS.out.at q3 (hne g o e)⟩
     refine⟨L++[⟨k,⟨a1,l,c1⟩⟩],by rw[HKR.out];simp,hO5.mod HMS.out (fun g hg e=> ?_),by rw[List.map_append,HL.out.2.1];rfl,fun x hx=> ?_,HL.out.2.2.2.1⟩
     ·have e2:g=m:=e;have:=(hO5.lt g hg).1;have:=HL.out.2.2.2.1;omega
     ·rcases List.mem_append.1 hx with hx|hx
      ·obtain⟨s1,s2,s3⟩:=HALL.out x hx;obtain⟨r1,r3⟩:=hkeep x s1 s3;exact⟨r1,s2,r3⟩
      ·rw[List.mem_singleton.1 hx];obtain⟨a9,c9,e9,s9,_⟩:=hO1.at keysT;injection e9 with e9 _ _
       obtain⟨r1,r3⟩:=hkeep ⟨k,⟨a1,l,c1⟩⟩ (by rw[e9];exact s9) (fun g o e=>by
        have e':a1=some ⟨g,o,none⟩:=e;rcases hO1.2 with⟨h2,_⟩|⟨g2,cap,cur,h2,h4,h3,_⟩
        ·injection h2 with h2
         rw[h2]at e';cases e'
        ·injection h2 with h2
         rw[h2]at e';cases e';exact⟨Nat.le_trans HG.out.2.2 (Nat.le_trans HM2.out.size h4),Ls h3,cur,h3⟩)
       exact⟨r1,HNB.out.2,r3⟩
    ·rw[HL.out.2.2.2.2];exact((HM2.out.mono (fun _ _ h=>h.elim)).trans (hm3.mono (fun i _ e=> .inr e))).trans (HMS.out.mono (fun i _ e=> .inl e))
    ·rcases hn5 with h|⟨g,h,h2⟩
     ·left;rw[h,HL.out.2.2.2.2]
     ·exact .inr ⟨g,h,Nat.le_trans HM2.out.size h2⟩
end
section
open Go.ChangeShapes Go.WideShapes Go.ChangeAt
def SlOkN {α:Type} (f:α→Array Value) (n B:Nat) (Ok:World→α→Prop) (w:World) (s:Sl α):Prop:=SlOk f n B Ok w s∧s.l.length≤s.c∧(s.a=none→s.c=0)
theorem slice_readsN {α H:Type} {enc:TypeId×Value→H} {P:Program} {t e:TypeId} {f:α→Array Value} {n B:Nat} {Ok:World→α→Prop} (ht:P.underlying t=some (.slice e)) (hn:P.cellsOf e=n) (hB:P.bytesOf e=B) (hn0:0<n) (h:Reads enc P e f Ok) (d0:α):
  Reads enc P t (slv (α:=α)) (SlOkN f n B Ok):=by
 intro w base sp held fuel cs x hx hfit;obtain⟨s,hs,hok⟩:=slice_reads ht hn hB hn0 h d0 w base sp held fuel cs x hx hfit;refine⟨s,hs,hok,?_⟩;rcases DataW.trod_slice ht hx with⟨hcs,_⟩|⟨a,len,cap,elems,rest,m,_,hcs,_,_,hlc,_⟩
 ·rw[hcs]at hs;have hs:[Value.slice none 0 0]=[.slice s.a s.l.length s.c]:=congrArg Array.toList hs;simp only[List.cons.injEq,Value.slice.injEq,and_true]at hs;obtain⟨h1,h2,h3⟩:=hs;exact⟨by omega,fun _=>h3.symm⟩
 ·rw[hcs]at hs;have hs:[Value.slice (some a) len cap]=[.slice s.a s.l.length s.c]:=congrArg Array.toList hs;simp only[List.cons.injEq,Value.slice.injEq,and_true]at hs;obtain⟨h1,h2,h3⟩:=hs;exact⟨by omega,fun e=>by rw[e]at h1;cases h1⟩
section
variable {H:Type} {enc:TypeId×Value→H}
theorem keysN_reads:Reads enc Tryz.prog 27 (slv (α:=Key)) (SlOkN kc 32 32 (fun _ _=>True)):=
 slice_readsN Tryz.underlying27 (by kernel_rfl) (by kernel_rfl) (by omega) key_reads key0
def TaOk (w:World) (x:TbR):Prop:=SlOkN kc 32 32 (fun _ _=>True) w x.s
theorem ta_reads:Reads enc Tryz.prog 93 tbr TaOk:=fun w base sp held fuel cs x h hfit=>by
 obtain⟨a0,h0,k0⟩:=field_read 0 0 32 Tryz.underlying93 rfl (by kernel_rfl) key_reads h hfit;obtain⟨a1,h1,k1⟩:=field_read 1 32 1 Tryz.underlying93 rfl (by kernel_rfl) keysN_reads h hfit;have hl:=len_of (n:=33) Tryz.underlying93 (by kernel_rfl) h;refine⟨⟨a0,a1⟩,?_,k1⟩;apply Array.toList_inj.1;show cs=_;have e:=cut_at cs 0 32;rw[cut_at cs (0+32) 1,h0,h1,end_at (n:=0+32+1) hl]at e;refine e.trans ?_;simp[tbr,kx,slv,Sl.v]
theorem tas_reads:Reads enc Tryz.prog 51 (slv (α:=TbR)) (SlOk tbr 33 56 TaOk):=
 slice_reads Tryz.underlying51 (by kernel_rfl) (by kernel_rfl) (by omega) ta_reads ⟨key0,⟨none,[],0⟩⟩
end
end
section
attribute [local go_sem] tbr_size zTb_size
def greatB (n:Nat) (l:List TbR):Bool:=decide (5000<n)||(decide (20<l.length)||l.any (fun x=>decide (400<x.s.l.length)))
theorem great_c (ba:Option Addr) (bn bc:Nat) (a:Option Addr) (l:List TbR) (c:Nat) (w:World) (hl:SlAt tbr 33 w a l):
  Calls Tryz.prog 11 #[.slice ba bn bc,.slice a l.length c] w fun e w'=>e= .returned (.bool (greatB bn l))∧Mod (fun _=>False) w w':=by
 have HL:=Hi hl;obtain⟨n,hn⟩:∃n,l.length=n:=⟨_,rfl⟩;have HN:=Hi hn;rw[hn];clear hl hn;go_enter Tryz.func11,Tryz.ntmps11;by_cases h1:5000<bn
 ·have hd:=Dt h1;have hd1:decide ((bn:Int)>5000)=true:=Dt (by omega);have HE:Hid (greatB bn l=true):=Hi (by unfold greatB;rw[hd];rfl);go_wp2_with fail;go_ret;exact⟨by rw[HE.out];rfl,Mod.refl _ _⟩
 ·have hd:=Df h1;have hd1:decide ((bn:Int)>5000)=false:=Df (by omega);have hd1':decide ((5000:Int)<(bn:Int))=false:=Df (by omega);by_cases h2:20<n
  ·have hd2:=Dt h2;have hd3:decide ((n:Int)>20)=true:=Dt (by omega);have HE:Hid (greatB bn l=true):=Hi (by unfold greatB;rw[hd,HN.out,hd2];rfl);go_wp2_with fail;go_ret;exact⟨by rw[HE.out];rfl,Mod.refl _ _⟩
  ·have hd2:=Df h2;have hd3:decide ((n:Int)>20)=false:=Df (by omega);have hd4:decide ((20:Int)<(n:Int))=false:=Df (by omega);have HE:Hid (greatB bn l=l.any (fun x=>decide (400<x.s.l.length))):=Hi (by unfold greatB;rw[hd,HN.out,hd2];rfl);have hnb:n≤20:=by omega
   clear h1 h2;go_wp2_with fail;clear hd hd1 hd1' hd2 hd3 hd4;go_loopw [5] (fun s5 ws=>∃i:Nat,i≤n∧s5= .int .i64 (i:Int)∧Hid ((l.take i).any (fun x=>decide (400<x.s.l.length))=false)∧Hid (Mod (fun _=>False) w ws)) (fun s5 _=>n-(intOf s5).toNat)
   case atStart=>exact⟨0,Nat.zero_le _,rfl,Hi rfl,Hi (Mod.refl _ _)⟩
   case round=>
    obtain⟨i,hi,rfl,HA,HM⟩:=hrel;by_cases hlt:i<n
    ·have hd:=Dt hlt;obtain⟨y,hy⟩:∃y,l[i]? =some y:=⟨_,List.getElem?_eq_getElem (by have:=HN.out;omega)⟩;obtain⟨g,o,C,U,fr,rfl,kg,he,hle⟩:=(HL.out.mod0 HM.out).block hy;obtain⟨ys,hys⟩:∃n,y.s.l.length=n:=⟨_,rfl⟩;have hks:C[o+i*33+32]? =some (.slice y.s.a ys y.s.c):=by rw[←hys];exact cellC he (j:=32) (tbr32 y)
     have HY:=Hi (Ai hy hys);clear hy he hys;by_cases h4:400<ys
     ·have h5:=Dt h4;have h6:decide ((ys:Int)>400)=true:=Dt (by omega);have HF:Hid (greatB bn l=true):=Hi (by rw[HE.out];exact List.any_eq_true.2 ⟨y,List.mem_of_getElem? HY.out.1,by rw[HY.out.2];exact h5⟩);clear h4;go_upto_region 6 with fail;have Lkg:=Ls kg;refine ZP0 [0,0,0,0,1,0,0] ?_
      iterate 7 first|refine Zv ?_|refine Zd ?_
      refine TD.nil (fun w4 hr=> ?_);replace kg:=hr.q kg;have HM4:=Hi (HM.out.then0 hr.mod);clear hr;go_wp2_with fail;go_ret;exact⟨by rw[HF.out];rfl,HM4.out⟩
     ·have h5:=Df h4;have h6:decide ((ys:Int)>400)=false:=Df (by omega);have h7:decide ((400:Int)<(ys:Int))=false:=Df (by omega);have HA2:Hid ((l.take (i+1)).any (fun x=>decide (400<x.s.l.length))=false):=Hi (by
       rw[List.take_add_one,HY.out.1,List.any_append,HA.out];simp[HY.out.2];omega)
      clear h4;go_upto_region 6 with fail;have Lkg:=Ls kg;refine ZP0 [0,0,0,0,1,0,0] ?_
      iterate 7 first|refine Zv ?_|refine Zd ?_
      refine TD.nil (fun w4 hr=> ?_);replace kg:=hr.q kg;have HM4:=Hi (HM.out.then0 hr.mod);clear hr hks;go_wp2_with fail;go_roundw
      case rel=>exact⟨i+1,by omega,by go_num,HA2,HM4⟩
      case measure=>simp[intOf];omega
    ·have hd:=Df hlt;have HF:Hid (greatB bn l=false):=Hi (by
      rw[HE.out];have:=HA.out;rw[List.take_of_length_le (by have:=HN.out;omega)]at this;exact this)
     clear hlt;go_wp2_with fail;go_ret;exact⟨by rw[HF.out];rfl,HM.out⟩
def laidT (l:List TbR):TbL:=l.foldl (fun T x=>tbPut T x.k x.s.l) []
theorem laidT_snoc {l:List TbR} {i:Nat} {x:TbR} (h:l[i]? =some x):laidT (l.take (i+1))=tbPut (laidT (l.take i)) x.k x.s.l:=by
 unfold laidT;rw[List.take_add_one,h];simp
theorem tbPut_len (T:TbL) (k:Key) (l:List Key):(tbPut T k l).length≤T.length+1:=by
 unfold tbPut;split
 ·omega
 ·split
  ·omega
  ·simp
theorem laidT_len (l:List TbR) (i:Nat):(laidT (l.take i)).length≤i:=by
 induction i with
 |zero=>simp[laidT]
 |succ i ih=>
  by_cases h:i<l.length
  ·rw[laidT_snoc (List.getElem?_eq_getElem h)];have:=tbPut_len (laidT (l.take i)) (l[i]).k (l[i]).s.l;omega
  ·have e1:l.take (i+1)=l:=List.take_of_length_le (by omega);have e2:l.take i=l:=List.take_of_length_le (by omega);rw[e1];rw[e2]at ih;omega
theorem RegA.modY {b h r:Nat} {T:TbL} {w w':World} {S:Nat→Prop} (H:RegA b h r T w) (hm:Mod S w w') (hS:∀i,S i→∃C E,w.heap[i]? =some (.cells C E (0,0))∧E≠48∧E≠82):RegA b h r T w':=by
 obtain⟨M,H1,H2,H3,H4,H5⟩:=H;have hh:¬S h:=fun s=>by
  obtain⟨C,E,hC,_⟩:=hS h s;obtain⟨_,es,c,k2,_⟩:=H1;rw[hC]at k2;cases k2
 have hr:¬S r:=fun s=>by
  obtain⟨C,E,hC,hE,_⟩:=hS r s;have k2:=H1.1;rw[hC]at k2;cases k2;exact hE rfl
 refine⟨M,H1.mod hm hh hr,H2,fun x hx=>⟨(H3 x hx).1.mod hm (fun g hg s=> ?_),(H3 x hx).2⟩,H4,H5⟩;obtain⟨C,E,hC,_,hE⟩:=hS g s;obtain⟨C2,hk⟩:=(H3 x hx).1.ty hg;rw[hC]at hk;cases hk;exact hE rfl
theorem RfA.ty {b m:Nat} {T:TbL} {v:Value} {w:World} (H:RfA b m T v w):∀i,(i=m∨v.ownBlock=some i)→∃C E,w.heap[i]? =some (.cells C E (0,0))∧E≠48∧E≠82:=fun i hi=>by
 obtain⟨L,k1,k2,_⟩:=H;rcases hi with rfl|hi
 ·exact⟨_,_,k1,by decide,by decide⟩
 ·rcases k2.2 with⟨q,_⟩|⟨g,_,cur,q,_,k,_⟩
  ·rw[q]at hi;cases hi
  ·rw[q]at hi;cases hi;exact⟨_,_,k,by decide,by decide⟩
theorem RfA.modM {b m h:Nat} {T:TbL} {v:Value} {w w':World} {es:Array MapEntry} {c:Nat} (H:RfA b m T v w) (hm:Mod (fun i=>i=h) w w') (hh:w.heap[h]? =some (.map es c)):RfA b m T v w':=
 H.mod hm (fun e=>by
  obtain⟨C,E,hC,_⟩:=H.ty m (.inl rfl);rw[e,hh]at hC;cases hC) (fun g hg e=>by
  obtain⟨C,E,hC,_⟩:=H.ty g (.inr hg);rw[e,hh]at hC;cases hC) (fun g C _ hg e=>by
  rw[e,hh]at hg;cases hg)
theorem bRf0 (w:World):(Instr.build 96 #[]).run Tryz.prog w= .ok (.agg #[.slice none 0 0]) w:=by kernel_rfl
def TaF (w:World) (x:TbR):Prop:=SlAt kc 32 w x.s.a x.s.l∧x.s.l.length≤400∧(x.s.a=none→x.s.c=0)∧(x.s.l=[]∨∀g o,x.s.a=some ⟨g,o,none⟩→g<w.heap.size)
theorem laid_c (a:Option Addr) (l:List TbR) (c:Nat) (w:World) (hl:SlAt tbr 33 w a l) (hall:∀x∈l,TaF w x) (hlen:l.length≤40):
  Calls Tryz.prog 12 #[.slice a l.length c] w fun e w'=>∃h r m b v,e= .returned (.tuple #[pV r,pV m])∧RegA w.heap.size h r (laidT l) w'∧RfA b m (laidT l) v w'∧w.heap.size≤m∧Mod (fun _=>False) w w':=by
 have HL:=Hi (Ai hl hall);obtain⟨n,hn⟩:∃n,l.length=n:=⟨_,rfl⟩;have HN:=Hi hn;rw[hn]at hlen⊢;have hb0:=bRf0;clear hl hall hn;go_enter Tryz.func12,Tryz.ntmps12;go_wp2_with fail;go_at_call 33;refine(newT_c _).mono ?_;rintro e w1 ⟨h,r,rfl,hRA,m1⟩;have HRA:=Hi hRA;have HM1:=Hi m1;clear hRA m1;go_upto_region 2 with fail;refine ZP0 [0,3,0] ?_;refine Zu hb0 ?_;refine Zb fun p9 hp9=> ?_;refine Zv ?_;refine TD.nil (fun w2 hr=> ?_);obtain⟨gp9,kp9⟩:=hr.b p9;have HS:Hid (RegA w.heap.size h r (laidT (l.take 0)) w2∧RfA (p9+1) p9 (laidT (l.take 0)) (.slice none 0 0) w2∧p9+1≤w2.heap.size∧w.heap.size≤p9∧Mod (fun _=>False) w w2):=Hi ⟨HRA.out.mod0 hr.mod,⟨[],kp9,SlOwn.nil _ _,rfl,fun x hx=>(by cases hx),by omega⟩,Ls kp9,Nat.le_trans HM1.out.size gp9,HM1.out.then0 hr.mod⟩;clear hr kp9 gp9;go_wp2_with fail;go_loopw [6] (fun s6 ws=>∃(i:Nat) (v:Value),i≤n∧s6= .int .i64 (i:Int)∧Hid (RegA w.heap.size h r (laidT (l.take i)) ws∧RfA (p9+1) p9 (laidT (l.take i)) v ws∧p9+1≤ws.heap.size∧w.heap.size≤p9∧Mod (fun _=>False) w ws)) (fun s6 _=>n-(intOf s6).toNat)
 case atStart=>exact⟨0,_,Nat.zero_le _,rfl,HS⟩
 case round=>
  clear HS;obtain⟨i,v,hi,rfl,HS⟩:=hrel;by_cases hlt:i<n
  ·have hd:=Dt hlt;obtain⟨y,hy⟩:∃y,l[i]? =some y:=⟨_,List.getElem?_eq_getElem (by have:=HN.out;omega)⟩;obtain⟨g,o,C,U,fr,rfl,kg,he,hle⟩:=(HL.out.1.mod0 HS.out.2.2.2.2).block hy;obtain⟨ys,hys⟩:∃n,y.s.l.length=n:=⟨_,rfl⟩;have hks:C[o+i*33+32]? =some (.slice y.s.a ys y.s.c):=by rw[←hys];exact cellC he (j:=32) (tbr32 y)
   have hke:=row_head he (tbr_key y) (by omega);have hle2:o+i*33+32≤C.size:=by omega
   have HY:=Hi (Ai hy (Ai hys (HL.out.2 y (List.mem_of_getElem? hy))));clear hy he hys;go_upto_region 6 with fail;have Lkg:=Ls kg;refine ZP [0,0,0,0,0,1,0,0,0,0,1,5] ?_
   iterate 11 first|refine Zv ?_|refine Zd ?_
   refine Zi fun w4 hr=> ?_;replace kg:=hr.q kg;have HS4:=Hi (show RegA w.heap.size h r (laidT (l.take i)) w4∧RfA (p9+1) p9 (laidT (l.take i)) v w4∧Mod (fun _=>False) w w4 from⟨HS.out.1.mod0 hr.mod,HS.out.2.1.mod0 hr.mod,HS.out.2.2.2.2.then0 hr.mod⟩);have HMS:=Hi hr.mod.size;have hC:=putT_c y.k y.s.a y.s.l y.s.c w4 HS4.out.1 (HY.out.2.2.1.mod0 HS4.out.2.2) HY.out.2.2.2.2.1 (by have:=HY.out.2.2.2.1;omega);rw[HY.out.2.1]at hC;clear hr;(refine eff_callT (by simp only[zK];rfl) (by rfl) ?y30 hC ?hout (fun vn wn hR=> ?hret) (fun ch wn hR=> ?hpan);(case y30=>(go_simp;(try(first|with_reducible rfl|(constructor<;>with_reducible rfl))))))
   case hout=>
    rintro w' ⟨h,_⟩;cases h
   case hpan=>
    obtain⟨h,_⟩:=hR;cases h
   case hret=>
   obtain⟨e0,hRA5,hm5⟩:=hR;cases e0;obtain⟨M4,hM4,_⟩:=HS4.out.1;obtain⟨_,es,cl,kh,_⟩:=hM4;have HS5:=Hi (show RegA w.heap.size h r (laidT (l.take (i+1))) wn∧RfA (p9+1) p9 (laidT (l.take i)) v wn∧p9+1≤wn.heap.size∧Mod (fun _=>False) w wn from
    ⟨by rw[laidT_snoc HY.out.1];exact hRA5,HS4.out.2.1.modM hm5 kh,Nat.le_trans HS.out.2.2.1 (Nat.le_trans HMS.out hm5.size),HS4.out.2.2.then hm5 (fun j hj e=>by
     obtain⟨_,_,_,_,h5,_⟩:=hRA5;have:j=h:=e;omega)⟩)
   clear hC hRA5 hm5 kh;(try simp only[zL]);refine TE.nil ?_;obtain⟨w5,rfl⟩:∃w5:World,w5=wn:=⟨_,rfl⟩;obtain⟨g2,o2,C2,U2,fr2,hga2,kg2,he2,hle3⟩:=(HL.out.1.mod0 HS5.out.2.2.2).block HY.out.1;cases hga2;have hks2:C2[o+i*33+32]? =some (.slice y.s.a ys y.s.c):=by rw[←HY.out.2.1];exact cellC he2 (j:=32) (tbr32 y)
   have hke2:=row_head he2 (tbr_key y) (by omega);have hle4:o+i*33+32≤C2.size:=by omega
   clear kg he2 hks hke hle hle2;go_upto_region 7 with fail;have Lkg2:=Ls kg2;refine ZP [0,0,0,0,0,1,0,0,0,0,1,5] ?_
   iterate 11 first|refine Zv ?_|refine Zd ?_
   refine Zi fun w6 hr=> ?_;replace kg2:=hr.q kg2;have HS6:=Hi (show RegA w.heap.size h r (laidT (l.take (i+1))) w6∧RfA (p9+1) p9 (laidT (l.take i)) v w6∧p9+1≤w6.heap.size∧Mod (fun _=>False) w w6 from⟨HS5.out.1.mod0 hr.mod,HS5.out.2.1.mod0 hr.mod,Nat.le_trans HS5.out.2.2.1 hr.mod.size,HS5.out.2.2.2.then0 hr.mod⟩);have hC:=rput_c y.k y.s.a y.s.l y.s.c w6 HS6.out.2.1 (by have:=laidT_len l i;omega) (HY.out.2.2.1.mod0 HS6.out.2.2.2) (by
    rcases HY.out.2.2.2.2.2 with h|h
    ·exact .inl h
    ·exact .inr (fun g o e=>by have:=h g o e;have:=HS.out.2.2.2.1;omega)) (by have:=HY.out.2.2.2.1;omega) HS6.out.2.2.1
   rw[HY.out.2.1]at hC;clear hr kg2 hks2 hke2 hle3 hle4;(refine eff_callT (by simp only[zK];rfl) (by rfl) ?y43 hC ?hout (fun vn wn hR=> ?hret) (fun ch wn hR=> ?hpan);(case y43=>(go_simp;(try(first|with_reducible rfl|(constructor<;>with_reducible rfl))))))
   case hout=>
    rintro w' ⟨⟨_,h⟩,_⟩;cases h
   case hpan=>
    obtain⟨⟨_,h⟩,_⟩:=hR;cases h
   case hret=>
   obtain⟨⟨x,e0⟩,v7,hRf,hC7⟩:=hR;cases e0;have hms7:=hC7.1.size;have HS7:Hid (RegA w.heap.size h r (laidT (l.take (i+1))) wn∧RfA (p9+1) p9 (laidT (l.take (i+1))) v7 wn∧p9+1≤wn.heap.size∧w.heap.size≤p9∧Mod (fun _=>False) w wn):=Hi ⟨HS6.out.1.modY hC7.1 HS6.out.2.1.ty,by rw[laidT_snoc HY.out.1];exact hRf,Nat.le_trans HS6.out.2.2.1 hms7,HS.out.2.2.2.1,HS6.out.2.2.2.then hC7.1 (fun j hj e=>by
    have:=HS.out.2.2.2.1;rcases e with e|e
    ·omega
    ·obtain⟨L7,_,k2,_,_,k5⟩:=HS6.out.2.1;have:=(k2.lt j e).1;omega)⟩
   clear hC hRf hC7 hms7;(try simp only[zL]);refine TE.nil ?_;go_wp2_with fail;go_roundw
   case rel=>exact⟨i+1,v7,by omega,by go_num,HS7⟩
   case measure=>simp[intOf];omega
  ·have hd:=Df hlt;have e:l.take i=l:=List.take_of_length_le (by have:=HN.out;omega);rw[e]at HS;clear hlt;go_wp2_with fail
   go_ret2
   exact⟨h,r,p9,p9+1,v,rfl,HS.out.1,HS.out.2.1,HS.out.2.2.2.1,HS.out.2.2.2.2⟩
end
def shP (n:Nat):List UInt8:=if n<128 then [UInt8.ofNat n]else if n<16384 then [UInt8.ofNat (n % 128+128),UInt8.ofNat (n/128)]else [UInt8.ofNat (n % 128+128),UInt8.ofNat (n/128 % 128+128),UInt8.ofNat (n/16384)]
def lisP (l:List UInt8):List UInt8:=shP l.length++l
def putI (i:InP):List UInt8:=i.p::(lisP i.a++lisP i.d)
def putLk (l:LoP):List UInt8:=l.t.l++(lisP l.w++lisP l.r)
def putM (m:MsP):List UInt8:=(if m.v0 then [128]else [])++(m.h0::m.h1::m.h2::(shP m.ks.length++(m.ks.flatMap (·.l)++(m.rc.l++(shP m.ins.length++(m.ins.flatMap putI++(if m.v0 then shP m.lks.length++m.lks.flatMap putLk else [])))))))
def putT (x:TxP):List UInt8:=shP x.sg.length++(x.sg.flatMap (·.l)++putM x.m)
section
attribute [local go_sem↓] wlMsg ldMsg stMsg ldRole stRole
attribute [local go_sem] mgx_size mgx_ext mgx_one mgx_one0 mg0 mg1 mg2 mg3 mg4 mg37 mg38 mg37' mg38' mgx_hd mgx_hs mg0' mg4' zRole_size
theorem mg1R' {v0:Bool} {h0 h1 h2:UInt8} {ka:Option Addr} {kn kc':Nat} {rc:Key} {ia:Option Addr} {n1 c1:Nat} {la:Option Addr} {n2 c2:Nat} (h:1<(mgx v0 h0 h1 h2 ka kn kc' rc ia n1 c1 la n2 c2).size):(mgx v0 h0 h1 h2 ka kn kc' rc ia n1 c1 la n2 c2)[1]=u8v h0:=at_get (mg1 ..) h
theorem mg2R' {v0:Bool} {h0 h1 h2:UInt8} {ka:Option Addr} {kn kc':Nat} {rc:Key} {ia:Option Addr} {n1 c1:Nat} {la:Option Addr} {n2 c2:Nat} (h:2<(mgx v0 h0 h1 h2 ka kn kc' rc ia n1 c1 la n2 c2).size):(mgx v0 h0 h1 h2 ka kn kc' rc ia n1 c1 la n2 c2)[2]=u8v h1:=at_get (mg2 ..) h
theorem mg3R' {v0:Bool} {h0 h1 h2:UInt8} {ka:Option Addr} {kn kc':Nat} {rc:Key} {ia:Option Addr} {n1 c1:Nat} {la:Option Addr} {n2 c2:Nat} (h:3<(mgx v0 h0 h1 h2 ka kn kc' rc ia n1 c1 la n2 c2).size):(mgx v0 h0 h1 h2 ka kn kc' rc ia n1 c1 la n2 c2)[3]=u8v h2:=at_get (mg3 ..) h
attribute [local go_sem] mg1R' mg2R' mg3R'
theorem bRole3 (k:Key) (a b:Bool) (w:World):(Instr.build 91 #[(0,.agg (kc k)),(1,.bool a),(2,.bool b)]).run Tryz.prog w= .ok (.agg (rcr ⟨k,a,b⟩)) w:=by
 refine run_build_struct (z:= .agg zRole) (places:= #[(0,32),(32,1),(33,1)]) Tryz.underlying91 (fun w=>by kernel_rfl) (fun w=>by kernel_rfl) ?_ w;show Instr.fill _ zRole [(0,_),(1,_),(2,_)]=_;rw[fill_cons (off:=0) (n:=32) rfl (by simp[Value.cells]) (by rw[zRole_size];omega),fill_cons (off:=32) (n:=1) rfl (by simp[Value.cells]) (by rw[wr_size,zRole_size];omega),fill_cons (off:=33) (n:=1) rfl (by simp[Value.cells]) (by rw[wr_size,wr_size,zRole_size];omega)];show some _=some _;congr 1;apply Array.toList_inj.1;have hk:(kc k).toList.length=32:=by simp
 rw[wr_list _ _ _ (by rw[wr_size,wr_size,zRole_size];simp[Value.cells]),wr_list _ _ _ (by rw[wr_size,zRole_size];simp[Value.cells]),wr_list _ _ _ (by rw[zRole_size];simp[Value.cells])];simp only[Value.cells,List.take_zero,List.nil_append,hk];unfold rcr rc kx zRole;have h1:(kc k).toList.take 33=(kc k).toList:=List.take_of_length_le (by omega);have h2:(kc k).toList.drop 34=[]:=List.drop_of_length_le (by omega);have h3:(kc k).toList.take 32=(kc k).toList:=List.take_of_length_le (by omega);have h4:(kc k).toList.drop 33=[]:=List.drop_of_length_le (by omega);simp[List.take_append,List.drop_append,hk,h1,h2,h3,h4]
theorem bsRole (r:Role) (w:World):(Instr.buildSlice 36 1 #[(0,.agg (rcr r))]).run Tryz.prog w= .ok (.slice (some ⟨w.heap.size,0,none⟩) 1 1) (w.alloc (.cells (rcr r) 91)):=by
 obtain⟨i0,z,hi,hz,hz1,hz2,hz3⟩:=rolesT.info;refine run_buildSlice w _ _ 1 _ _ i0 _ Tryz.underlying36 hi hz (by rw[hz1];omega) (by rw[hz1];omega) ?_;rw[hz1];show Instr.fill _ _ [(0,_)]=_;have hs:(rcr r).size=34:=rolesT.size r;rw[fill_cons (off:=0) (n:=34) rfl (by simp[Value.cells,hs]) (by simp[Value.cells,hz3,size_madeCells])];show some (wr _ 0 (rcr r).toList)=_;rw[wr_whole (rcr r) _ (by simp[Value.cells,hs,hz3,size_madeCells])]
theorem ownL_snoc {m:MsP} {l:List Key} {i:Nat} {k:Key} (h:l[i]? =some k):(l.take (i+1)).mapIdx (ownRP m)=(l.take i).mapIdx (ownRP m)++[ownRP m i k]:=by
 obtain⟨hi,_⟩:=List.getElem?_eq_some_iff.1 h;rw[List.take_add_one,h];show(l.take i++[k]).mapIdx (ownRP m)=_;rw[List.mapIdx_append];simp only[List.mapIdx_cons,List.mapIdx_nil,List.length_take];rw[Nat.min_eq_left (by omega)];simp
theorem own_c (x:RdR) (w:World) (hK:SlAt kc 32 w x.ks.a x.ks.l) (hb:x.ks.l.length≤1000000):Calls Tryz.prog 87 #[.agg (msr x)] w fun e w'=>∃v,e= .returned v∧SlOwn rcr 34 91 w' w.heap.size v (x.ks.l.mapIdx (ownRP (msgP x)))∧Mod (fun _=>False) w w':=by
 obtain⟨n,hn⟩:∃n,x.ks.l.length=n:=⟨_,rfl⟩;obtain⟨s,hs⟩:∃s,x.h0.toNat=s:=⟨_,rfl⟩;obtain⟨a,ha⟩:∃a,x.h1.toNat=a:=⟨_,rfl⟩;obtain⟨c,hc⟩:∃c,x.h2.toNat=c:=⟨_,rfl⟩;have hsb:s<256:=by rw[←hs];exact x.h0.toNat_lt
 have hab:a<256:=by rw[←ha];exact x.h1.toNat_lt
 have hcb:c<256:=by rw[←hc];exact x.h2.toNat_lt
 have hws:IntKind.i64.wrap (s:Int)=(s:Int):=by rw[IntKind.wrap_i64];omega
 have hwa:IntKind.i64.wrap (a:Int)=(a:Int):=by rw[IntKind.wrap_i64];omega
 have hwc:IntKind.i64.wrap (c:Int)=(c:Int):=by rw[IntKind.wrap_i64];omega
 rw[hn]at hb;have HX:=Hi (Ai hK (Ai hn (Ai hs (Ai ha hc))));have hw1:IntKind.i64.wrap ((s:Int)-(a:Int))=(s:Int)-(a:Int):=by rw[IntKind.wrap_i64];omega
 have hw2:IntKind.i64.wrap ((n:Int)-(c:Int))=(n:Int)-(c:Int):=by rw[IntKind.wrap_i64];omega
 show Calls Tryz.prog 87 #[.agg (mgx x.v0 x.h0 x.h1 x.h2 x.ks.a x.ks.l.length x.ks.c x.rc x.ins.a x.ins.l.length x.ins.c x.lks.a x.lks.l.length x.lks.c)] w _;rw[hn];clear hK;go_enter Tryz.func87,Tryz.ntmps87;go_upto_region 0 with fail;refine ZP0 [3,0] ?_;refine Zb fun p1 hp1=> ?_;refine Zv ?_;refine TD.nil (fun w1 hr=> ?_);obtain⟨gp1,kp1⟩:=hr.b p1;have HM1:=Hi hr.mod;have HP1:Hid (w.heap.size≤p1):=Hi gp1;clear hr;go_wp2_with fail;go_loopw [2,15] (fun s2 s15 ws=>∃i:Nat,i≤n∧s15= .int .i64 (i:Int)∧Hid (SlOwn rcr 34 91 ws w.heap.size s2 ((x.ks.l.take i).mapIdx (ownRP (msgP x)))∧s2.ownBlock≠some p1)∧Hid (Mod (fun _=>False) w ws)∧ws.heap[p1]? =some (.cells (mgx x.v0 x.h0 x.h1 x.h2 x.ks.a n x.ks.c x.rc x.ins.a x.ins.l.length x.ins.c x.lks.a x.lks.l.length x.lks.c) 33 (0,0))) (fun _ s15 _=>n-(intOf s15).toNat)
 case atStart=>exact⟨0,Nat.zero_le _,rfl,Hi ⟨SlOwn.nil _ _,fun h=>by cases h⟩,HM1,kp1⟩
 case round=>
  clear kp1;obtain⟨i,hi,rfl,HO,HM,kp1⟩:=hrel;by_cases hlt:i<n
  ·have hd:=Dt hlt;obtain⟨k,hk⟩:∃k,x.ks.l[i]? =some k:=⟨_,List.getElem?_eq_getElem (by have:=HX.out.2.1;omega)⟩;obtain⟨g,o,C,U,fr,hga,kg,he,hle⟩:=(HX.out.1.mod0 HM.out).block hk;have HT:=Hi (ownL_snoc (m:=msgP x) hk);clear hk;go_upto_region 4 with fail;have Lkg:=Ls kg;have Lkp1:=Ls kp1;refine ZP0 [0,0,1,3,0,4] ?_
   iterate 3 first|refine Zv ?_|refine Zd ?_
   refine Za alKey fun p5 hp5=> ?_;refine Zv ?_;refine Zt ?_;refine TD.nil (fun w3 hr=> ?_);replace kg:=hr.q kg;replace kp1:=hr.q kp1;obtain⟨gp5,kp5⟩:=hr.b p5;have HM3:=Hi (HM.out.then0 hr.mod);have HO3:=Hi (HO.out.1.mod0 hr.mod);clear hr he hle kg;go_upto_region 5 with fail;have Lkp1:=Ls kp1;have Lkp5:=Ls kp5;refine ZP [0,1,0,0,0,1,0,0,0] ?_
   iterate 9 first|refine Zv ?_|refine Zd ?_
   refine TD.nil (fun w4 hr=> ?_);replace kp1:=hr.q kp1;replace kp5:=hr.q kp5;have HM4:=Hi (HM3.out.then0 hr.mod);have HO4:=Hi (HO3.out.mod0 hr.mod);clear hr;by_cases hsg:i<s
   ·have hd2:=Dt hsg;obtain⟨wt,hwt⟩:∃q,decide ((i:Int)<(s:Int)-(a:Int))=q:=⟨_,rfl⟩;have HRO:Hid (ownRP (msgP x) i k=⟨k,true,wt⟩):=Hi (by
     unfold ownRP msgP;simp only;rw[HX.out.2.2.1,HX.out.2.2.2.1,if_pos hsg,hd2,hwt])
    go_upto_region 7 with fail;have Lkp1:=Ls kp1;have Lkp5:=Ls kp5;refine ZP [0,0,0,1,0,0,0] ?_
    iterate 7 first|refine Zv ?_|refine Zd ?_
    refine TD.nil (fun w5 hr=> ?_);replace kp1:=hr.q kp1;replace kp5:=hr.q kp5;have HM5:=Hi (HM4.out.then0 hr.mod);have HO5:=Hi (HO4.out.mod0 hr.mod);clear hr;have hb:=bRole3 k true wt;have hbs:=bsRole ⟨k,true,wt⟩;obtain⟨a2,c2,rfl,_⟩:=HO5.out.at rolesT;generalize hll:((x.ks.l.take i).mapIdx (ownRP (msgP x))).length=ll at *;have HLL:Hid (ll=i):=Hi (by rw[←hll,List.length_mapIdx,List.length_take];have:=HX.out.2.1;omega);clear hll;go_upto_region 8 with fail;have Lkp5:=Ls kp5;have Lkp1:=Ls kp1;refine ZP0 [0,1,0,0,0,0,0,0,0,0,0,3,5,0] ?_
    iterate 10 first|refine Zv ?_|refine Zd ?_
    refine Zu hb ?_;refine Zy hbs fun p46 hp46=> ?_;refine Zi fun w6 hr=> ?_;replace kp5:=hr.q kp5;replace kp1:=hr.q kp1;obtain⟨gp46,kp46⟩:=hr.b p46;have HM6:=Hi (HM5.out.then0 hr.mod);obtain⟨v5,w7,hap,hO7,m7,hn7⟩:=SlOwn.append rolesT (q:=[⟨k,true,wt⟩]) (c:=1) (HO5.out.mod0 hr.mod) (SlAt.one kp46 _ rfl (rolesT.size _)) (by have:=HLL.out;simp only[List.length_mapIdx,List.length_take,List.length_singleton];have:=HX.out.2.1;omega) (by decide) HM6.out.size 36;have hlo:=HO5.out.lt;have HO7:Hid (SlOwn rcr 34 91 w7 w.heap.size v5 ((x.ks.l.take (i+1)).mapIdx (ownRP (msgP x)))∧v5.ownBlock≠some p1):=Hi ⟨by rw[HT.out,HRO.out];exact hO7,fun e=>by
     rcases hn7 with h|h
     ·exact HO.out.2 (h.symm.trans e)
     ·rw[h]at e;cases e;have:=Ls kp1;omega⟩
    have HM7:Hid (Mod (fun _=>False) w w7):=Hi (HM6.out.then m7 (fun j hj e=>by have:=(hlo j e).1;omega));replace kp1:=m7.at kp1 (fun e=>HO.out.2 e);clear hr hO7 m7 hn7 hlo hb hbs kp46 kp5;refine ZA hap ?_;refine Ze ?_;refine TE.nil ?_;go_wp2_with fail;go_roundw
    case rel=>exact⟨i+1,by omega,by go_num,HO7,HM7,kp1⟩
    case measure=>simp[intOf];omega
   ·have hd2:=Df hsg;obtain⟨wt,hwt⟩:∃q,decide ((i:Int)<(n:Int)-(c:Int))=q:=⟨_,rfl⟩;have HRO:Hid (ownRP (msgP x) i k=⟨k,false,wt⟩):=Hi (by
     unfold ownRP msgP;simp only;rw[HX.out.2.2.1,HX.out.2.2.2.2,HX.out.2.1,if_neg hsg,hd2,hwt])
    have HM5:=HM4;have HO5:=HO4;have hb:=bRole3 k false wt;have hbs:=bsRole ⟨k,false,wt⟩;obtain⟨a2,c2,rfl,_⟩:=HO5.out.at rolesT;generalize hll:((x.ks.l.take i).mapIdx (ownRP (msgP x))).length=ll at *;have HLL:Hid (ll=i):=Hi (by rw[←hll,List.length_mapIdx,List.length_take];have:=HX.out.2.1;omega);clear hll;go_upto_region 8 with fail;have Lkp5:=Ls kp5;have Lkp1:=Ls kp1;refine ZP0 [0,1,0,0,0,0,0,0,0,0,0,3,5,0] ?_
    iterate 10 first|refine Zv ?_|refine Zd ?_
    refine Zu hb ?_;refine Zy hbs fun p46 hp46=> ?_;refine Zi fun w6 hr=> ?_;replace kp5:=hr.q kp5;replace kp1:=hr.q kp1;obtain⟨gp46,kp46⟩:=hr.b p46;have HM6:=Hi (HM5.out.then0 hr.mod);obtain⟨v5,w7,hap,hO7,m7,hn7⟩:=SlOwn.append rolesT (q:=[⟨k,false,wt⟩]) (c:=1) (HO5.out.mod0 hr.mod) (SlAt.one kp46 _ rfl (rolesT.size _)) (by have:=HLL.out;simp only[List.length_mapIdx,List.length_take,List.length_singleton];have:=HX.out.2.1;omega) (by decide) HM6.out.size 36;have hlo:=HO5.out.lt;have HO7:Hid (SlOwn rcr 34 91 w7 w.heap.size v5 ((x.ks.l.take (i+1)).mapIdx (ownRP (msgP x)))∧v5.ownBlock≠some p1):=Hi ⟨by rw[HT.out,HRO.out];exact hO7,fun e=>by
     rcases hn7 with h|h
     ·exact HO.out.2 (h.symm.trans e)
     ·rw[h]at e;cases e;have:=Ls kp1;omega⟩
    have HM7:Hid (Mod (fun _=>False) w w7):=Hi (HM6.out.then m7 (fun j hj e=>by have:=(hlo j e).1;omega));replace kp1:=m7.at kp1 (fun e=>HO.out.2 e);clear hr hO7 m7 hn7 hlo hb hbs kp46 kp5;refine ZA hap ?_;refine Ze ?_;refine TE.nil ?_;go_wp2_with fail;go_roundw
    case rel=>exact⟨i+1,by omega,by go_num,HO7,HM7,kp1⟩
    case measure=>simp[intOf];omega
  ·have hd:=Df hlt;obtain rfl:n=i:=by omega
   have HF:Hid (SlOwn rcr 34 91 wr w.heap.size _ (x.ks.l.mapIdx (ownRP (msgP x)))):=Hi (by
    have:=HO.out.1;rw[List.take_of_length_le (by have:=HX.out.2.1;omega)]at this;exact this)
   go_wp2_with fail;go_ret;exact⟨_,rfl,HF.out,HM.out⟩
end
theorem bsKeyT (k:Key) (w:World):(Instr.buildSlice 27 1 #[(0,.agg (kc k))]).run Tryz.prog w= .ok (.slice (some ⟨w.heap.size,0,none⟩) 1 1) (w.alloc (.cells (kc k) 82)):=by
 obtain⟨i0,hi,hz0,hz1,hz2⟩:=info_parts (show(Tryz.prog.info? 82).map (fun i=>(i.zero,i.size,i.bytes))=some (some (.agg zKey),32,32)by kernel_rfl);refine run_buildSlice w _ _ 1 _ _ i0 _ Tryz.underlying27 hi hz0 (by rw[hz1];omega) (by rw[hz1];omega) ?_;rw[hz1];show Instr.fill _ _ [(0,_)]=_;rw[fill_cons (off:=0) (n:=32) rfl (by simp[Value.cells]) (by simp[Value.cells,zKey_size,size_madeCells])];show some (wr _ 0 (kc k).toList)=_;rw[wr_whole (kc k) _ (by simp[Value.cells,zKey_size,size_madeCells])]
def preK (P:List Key) (r:Option (List Key)):Option (List Key):=r.map (P++·)
theorem preK_nil (r:Option (List Key)):preK [] r=r:=by cases r<;>rfl
theorem preK_step {P L:List Key} {A:List UInt8} {i:Nat} {c:UInt8} {k:Key} (h:A[i]? =some c) (hk:L[c.toNat]? =some k):preK P (pickP L (A.drop i))=preK (P++[k]) (pickP L (A.drop (i+1))):=by
 obtain⟨hi,e⟩:=List.getElem?_eq_some_iff.1 h;rw[List.drop_eq_getElem_cons hi,e,pickP,hk];simp only;unfold preK;cases pickP L (A.drop (i+1))<;>simp
theorem preK_none {P L:List Key} {A:List UInt8} {i:Nat} {c:UInt8} (h:A[i]? =some c) (hk:L.length≤c.toNat):preK P (pickP L (A.drop i))=none:=by
 obtain⟨hi,e⟩:=List.getElem?_eq_some_iff.1 h;rw[List.drop_eq_getElem_cons hi,e,pickP,List.getElem?_eq_none hk];rfl
def PickA (base:Nat) (v:Value) (O:List Key) (r:Option (List Key)) (w:World) (e:Ending) (w':World):Prop:=Mod (fun i=>v.ownBlock=some i) w w'∧match r with
 |some P=>∃v',e= .returned (.tuple #[v',.bool true])∧SlOwn kc 32 82 w' base v' (O++P)∧∀i,v'.ownBlock=some i→v.ownBlock=some i∨w.heap.size≤i
 |none=>e= .returned (.tuple #[.slice none 0 0,.bool false])
theorem picked_c {base:Nat} {v:Value} {O L:List Key} {A:List UInt8} {la aa:Option Addr} {lc ac:Nat} (w:World) (hO:SlOwn kc 32 82 w base v O) (hbase:base≤w.heap.size) (hL:SlAt kc 32 w la L) (hA:SlAt uc 1 w aa A)
  (hLb:∀g o,la=some ⟨g,o,none⟩→g<base) (hAb:∀g o,aa=some ⟨g,o,none⟩→g<base) (h1:L.length≤256) (h2:A.length≤65535) (h3:O.length≤900000):
  Calls Tryz.prog 86 #[v,.slice la L.length lc,.slice aa A.length ac] w (PickA base v O (pickP L A) w):=by
 obtain⟨nL,hnL⟩:∃n,L.length=n:=⟨_,rfl⟩;obtain⟨nA,hnA⟩:∃n,A.length=n:=⟨_,rfl⟩;have HN:=Hi (Ai hnL (Ai hnA h3));have HL:=Hi (Ai hL (Ai hA (Ai hLb hAb)));have HO:=Hi hO;have HBS:=Hi hbase;rw[hnL]at h1;rw[hnA]at h2;rw[hnL,hnA];have HP0:Hid (pickP L A=preK [] (pickP L (A.drop 0))):=Hi (by rw[preK_nil,List.drop_zero]);have hlo0:=hO.lt;have HLO:=Hi hlo0;clear hO hL hA hLb hAb hnL hnA h3 hbase hlo0;go_enter Tryz.func86,Tryz.ntmps86;go_wp2_with fail;go_loopw [0,12] (fun s0 s12 ws=>∃(i:Nat) (P:List Key),i≤nA∧s12= .int .i64 (i:Int)∧Hid (SlOwn kc 32 82 ws base s0 (O++P)∧P.length=i)∧Hid (pickP L A=preK P (pickP L (A.drop i)))∧Hid (Mod (fun j=>v.ownBlock=some j) w ws)∧Hid (∀j,s0.ownBlock=some j→v.ownBlock=some j∨w.heap.size≤j)) (fun _ s12 _=>nA-(intOf s12).toNat)
 case atStart=>exact⟨0,[],Nat.zero_le _,rfl,Hi ⟨by rw[List.append_nil];exact HO.out,rfl⟩,HP0,Hi (Mod.refl _ _),Hi (fun j h=> .inl h)⟩
 case round=>
  obtain⟨i,P,hi,rfl,HOi,HP,HM,HX⟩:=hrel;by_cases hlt:i<nA
  ·have hd:=Dt hlt;obtain⟨c,hc⟩:∃c,A[i]? =some c:=⟨_,List.getElem?_eq_getElem (by have:=HN.out;omega)⟩;obtain⟨g,o,C,U,fr,rfl,kg,he,hle⟩:=(HL.out.2.1.mod HM.out (fun b o e hs=>by have h1:=HL.out.2.2.2 b o e;have h2:=(HLO.out b hs).1;omega)).block hc;have c0:=cellC he (j:=0) (v:=u8v c) rfl;simp only[Nat.mul_one,Nat.add_zero]at c0;have HCC:=Hi hc;obtain⟨k,hk⟩:∃k,c.toNat=k:=⟨_,rfl⟩;have hkb:k<256:=by rw[←hk];exact c.toNat_lt
   have hw:IntKind.i64.wrap (k:Int)=(k:Int):=by rw[IntKind.wrap_i64];omega
   replace c0:C[o+i]? =some (.int .u8 (k:Int)):=by rw[←hk];exact c0
   have HK:=Hi hk;clear he hle hc hk;by_cases hge:nL≤k
   ·have hd2:=Dt hge;have HE:Hid (pickP L A=none):=Hi (by rw[HP.out,preK_none HCC.out (by rw[HK.out,HN.out.1];exact hge)]);go_wp2_with fail;refine bodyPost_ret (results_tmp2 rfl _ _ _) rfl ?_;unfold PickA;rw[HE.out];exact⟨HM.out,rfl⟩
   ·have hd2:=Df hge;have hkl:k<nL:=by omega
    obtain⟨y,hy⟩:∃y,L[k]? =some y:=⟨_,List.getElem?_eq_getElem (by have:=HN.out;omega)⟩;obtain⟨g',o',C',U',fr',rfl,kl,he,hle⟩:=(HL.out.1.mod HM.out (fun b o e hs=>by have h1:=HL.out.2.2.1 b o e;have h2:=(HLO.out b hs).1;omega)).block hy;have HP2:Hid (pickP L A=preK (P++[y]) (pickP L (A.drop (i+1)))):=Hi (by rw[HP.out,preK_step HCC.out (by rw[HK.out];exact hy)]);clear hy;have hbs:=bsKeyT y;obtain⟨a2,c2,rfl,_⟩:=HOi.out.1.at keysT;generalize hll:(O++P).length=ll at *;have HLL:Hid (ll=O.length+i):=Hi (by rw[←hll,List.length_append,HOi.out.2]);clear hll;go_upto_region 6 with fail;have Lkl:=Ls kl;refine ZP0 [0,0,0,0,1,3,5,0] ?_
    iterate 5 first|refine Zv ?_|refine Zd ?_
    refine Zy hbs fun p26 hp26=> ?_;refine Zi fun w3 hr=> ?_;replace kl:=hr.q kl;obtain⟨gp26,kp26⟩:=hr.b p26;have HM3:=Hi (HM.out.then0 hr.mod);have HO3:=Hi (HOi.out.1.mod0 hr.mod);have HSZ:=Hi hr.mod.size;have hsz:=hr.mod.size;clear hr hbs he hle kl kg;obtain⟨v5,w5,hap,hO5,m5,hn5⟩:=SlOwn.append keysT (q:=[y]) (c:=1) HO3.out (SlAt.one kp26 y rfl (kc_size _)) (by have:=HN.out;have:=HLL.out;have:=HOi.out.2;simp only[List.length_append,List.length_singleton];omega) (by decide) (Nat.le_trans HBS.out HM3.out.size) 27;have HO5:Hid (SlOwn kc 32 82 w5 base v5 (O++(P++[y]))∧(P++[y]).length=i+1):=Hi ⟨by rw[←List.append_assoc];exact hO5,by rw[List.length_append,HOi.out.2];rfl⟩;have HM5:Hid (Mod (fun j=>v.ownBlock=some j) w w5):=Hi (HM3.out.then m5 (fun j hj e=>by
     rcases HX.out j e with h|h
     ·exact h
     ·omega))
    have HX5:Hid (∀j,v5.ownBlock=some j→v.ownBlock=some j∨w.heap.size≤j):=Hi (fun j hj=>by
     rcases hn5 with h|h
     ·exact HX.out j (h.symm.trans hj)
     ·rw[h]at hj;cases hj;exact .inr HM3.out.size)
    clear hO5 m5 hn5 kp26;refine ZA hap ?_;refine Ze ?_;refine TE.nil ?_;go_wp2_with fail;go_roundw
    case rel=>exact⟨i+1,P++[y],by omega,by go_num,HO5,HP2,HM5,HX5⟩
    case measure=>simp[intOf];omega
  ·have hd:=Df hlt;have HE:Hid (pickP L A=some P):=Hi (by
    rw[HP.out,List.drop_of_length_le (by have:=HN.out;omega)];simp[preK,pickP])
   obtain⟨s,hs⟩:∃s:Value,s=s:=⟨.nilIface,rfl⟩;go_wp2_with fail;refine bodyPost_ret (results_tmp2 rfl _ _ _) rfl ?_;unfold PickA;rw[HE.out];exact⟨HM.out,_,rfl,HOi.out.1,HX.out⟩
section
attribute [local go_sem↓] wlLo ldLo stLo
attribute [local go_sem] lor32 lor33 lor32' lor33' zLo_size lor_size lor_one
theorem lor_key (y:LoR):(lor y).extract 0 32=kc y.t:=kx_key _ _
attribute [local go_sem] lor_key
def LoF (w:World) (y:LoR):Prop:=(SlAt uc 1 w y.w.a y.w.l∧(∀g o,y.w.a=some ⟨g,o,none⟩→g<w.heap.size)∧y.w.l.length≤65535)∧(SlAt uc 1 w y.r.a y.r.l∧(∀g o,y.r.a=some ⟨g,o,none⟩→g<w.heap.size)∧y.r.l.length≤65535)
theorem res_none {T:TbL} {X:List LoR} {i:Nat} {y:LoR} {O:List Key×List Key} (h:X[i]? =some y) (hf:tbFind T y.t=none):resP T ((X.drop i).map loP) O= .error 11:=by
 obtain⟨hi,e⟩:=List.getElem?_eq_some_iff.1 h;rw[List.drop_eq_getElem_cons hi,e,List.map_cons,resP];show(match tbFind T y.t with|none=>_|some l=>_)=_;rw[hf]
theorem res_bad {T:TbL} {X:List LoR} {i:Nat} {y:LoR} {O:List Key×List Key} {l:List Key} (h:X[i]? =some y) (hf:tbFind T y.t=some l) (hb:pickP l y.w.l=none∨pickP l y.r.l=none):resP T ((X.drop i).map loP) O= .error 8:=by
 obtain⟨hi,e⟩:=List.getElem?_eq_some_iff.1 h;rw[List.drop_eq_getElem_cons hi,e,List.map_cons,resP];show(match tbFind T y.t with|none=>_|some l=>match pickP l y.w.l,pickP l y.r.l with|some a,some b=>_|_,_=>_)=_;rw[hf];simp only;rcases hb with hb|hb
 ·rw[hb]
 ·rw[hb];cases pickP l y.w.l<;>rfl
theorem res_step {T:TbL} {X:List LoR} {i:Nat} {y:LoR} {O:List Key×List Key} {l a b:List Key} (h:X[i]? =some y) (hf:tbFind T y.t=some l) (ha:pickP l y.w.l=some a) (hb:pickP l y.r.l=some b):resP T ((X.drop i).map loP) O=resP T ((X.drop (i+1)).map loP) (O.1++a,O.2++b):=by
 obtain⟨hi,e⟩:=List.getElem?_eq_some_iff.1 h;rw[List.drop_eq_getElem_cons hi,e,List.map_cons,resP];show(match tbFind T y.t with|none=>_|some l=>match pickP l y.w.l,pickP l y.r.l with|some a,some b=>_|_,_=>_)=_;rw[hf];simp only;rw[ha,hb]
theorem pick_len {l:List Key}:∀ {A:List UInt8} {P:List Key},pickP l A=some P→P.length=A.length
 |[],P,h=>by
  rw[pickP]at h;cases h;rfl
 |c::A,P,h=>by
  rw[pickP]at h;split at h
  ·cases h
  ·cases hp:pickP l A with
   |none=>rw[hp]at h;cases h
   |some Q=>
    rw[hp]at h;cases h;simp[pick_len hp]
def ResA (T:TbL) (X:List LoR) (w:World) (e:Ending) (w':World):Prop:=Mod (fun _=>False) w w'∧match resP T (X.map loP) ([],[])with
 | .ok y=>∃va vb,e= .returned (.tuple #[va,vb,.int .i64 0])∧NewS kc 32 82 w.heap.size w' va y.1∧NewS kc 32 82 w.heap.size w' vb y.2
 | .error n=>e= .returned (.tuple #[.slice none 0 0,.slice none 0 0,.int .i64 (n:Int)])
theorem resolve_c {b h r:Nat} {T:TbL} {X:List LoR} {xa:Option Addr} {xc:Nat} (w:World) (H:RegA b h r T w) (hX:SlAt lor 34 w xa X) (hXl:∀y∈X,LoF w y) (hn:X.length≤1000000) (hs:loSum X≤800000):
  Calls Tryz.prog 37 #[pV r,.slice xa X.length xc] w (ResA T X w):=by
 obtain⟨n,hnX⟩:∃n,X.length=n:=⟨_,rfl⟩;have HX:=Hi (Ai hX (Ai hXl (Ai hnX hs)));have HRG:=Hi H;obtain⟨M,⟨kr,es,cl,kh,HM0⟩,hT,H3,H4,H5⟩:=id H;have hlk:∀(k:Key) wq,wq.heap[h]? =some (.map es cl)→(Instr.lookup 46 (.map (some h)) (.agg (kc k)) true).run Tryz.prog wq= .ok (.tuple #[((lkp k M).map slK).getD (slK ⟨none,[],0⟩),.bool (lkp k M).isSome]) wq:=fun k wq hq=>HM0.lookup keyTR Tryz.underlying46 slK_zero wq hq k true;have HLK:=Hi hlk;have H3':=Hi H3;have HTT:=Hi hT;rw[hnX]at hn⊢;clear hX hXl hnX hs H HM0 hlk H3 hT H4 H5;go_enter Tryz.func37,Tryz.ntmps37;go_wp2_with fail;go_at_call 82;refine(there_c _ kr).mono ?_;rintro e w1 ⟨rfl,rfl⟩;have HP0:Hid (resP T (X.map loP) ([],[])=resP T ((X.drop 0).map loP) ([],[])):=Hi (by rw[List.drop_zero]);have HKR:=Hi kr;have HKH:=Hi kh;clear kr kh;go_wp2_with fail;go_loopw [4,5,18] (fun s4 s5 s18 ws=>∃(i:Nat) (Wl Rl:List Key),i≤n∧s18= .int .i64 (i:Int)∧Hid (SlOwn kc 32 82 ws w1.heap.size s4 Wl∧SlOwn kc 32 82 ws w1.heap.size s5 Rl∧Wl.length+Rl.length=loSum (X.take i)∧∀j,s4.ownBlock=some j→s5.ownBlock≠some j)∧Hid (resP T (X.map loP) ([],[])=resP T ((X.drop i).map loP) (Wl,Rl))∧Hid (Mod (fun _=>False) w1 ws)) (fun _ _ s18 _=>n-(intOf s18).toNat)
 case atStart=>exact⟨0,[],[],Nat.zero_le _,rfl,Hi ⟨SlOwn.nil _ _,SlOwn.nil _ _,by simp[loSum],fun j h=>by cases h⟩,HP0,Hi (Mod.refl _ _)⟩
 case round=>
  obtain⟨i,Wl,Rl,hi,rfl,HO,HP,HM⟩:=hrel;by_cases hlt:i<n
  ·have hd:=Dt hlt;obtain⟨y,hy⟩:∃y,X[i]? =some y:=⟨_,List.getElem?_eq_getElem (by have:=HX.out.2.2.1;omega)⟩;obtain⟨g,o,C,U,fr,rfl,kg,he,hle⟩:=(HX.out.1.mod0 HM.out).block hy;have HY:=Hi hy;have kr:=HM.out.at0 HKR.out;have kh:=HM.out.at0 HKH.out;clear hy;go_upto_region 5 with fail;have Lkg:=Ls kg;have Lkr:=Ls kr;have Lkh:=Ls kh;refine ZP0 [0,1,3,4] ?_;refine Zv ?_;refine Zd ?_;refine Za alLo fun p8 hp8=> ?_;refine Zt ?_;refine TD.nil (fun w3 hr=> ?_);replace kg:=hr.q kg;replace kr:=hr.q kr;replace kh:=hr.q kh;obtain⟨gp8,kp8⟩:=hr.b p8;have HM3:=Hi (HM.out.then0 hr.mod);have HO3:=Hi (Ai (HO.out.1.mod0 hr.mod) (HO.out.2.1.mod0 hr.mod));clear hr he hle kg;cases hk:lkp y.t M with
   |none=>
    have hlk3:∀wq,Mod (fun _=>False) w3 wq→(Instr.lookup 46 (.map (some h)) (.agg (kc y.t)) true).run Tryz.prog wq= .ok (.tuple #[.slice none 0 0,.bool false]) wq:=fun wq hq=>by
     have:=HLK.out y.t wq (hq.at0 kh);rw[hk]at this;exact this
    have HE:Hid (resP T (X.map loP) ([],[])= .error 11):=Hi (by rw[HP.out];exact res_none HY.out (by rw[←HTT.out,lkp_tb,hk];rfl));clear hk;go_upto_region 6 with fail;have Lkr:=Ls kr;have Lkp8:=Ls kp8;refine ZP [0,0,0,1,0,1,1,0,0,0,0,0] ?_
    iterate 6 first|refine Zv ?_|refine Zd ?_
    (refine TD.lookup (v:= ?v11) (p:= ?p11) (q:= ?q11) (Mod.refl _ _) (by simp only[zK];rfl) rfl (by rfl) rfl ?hx11 ?hz11 (fun wq hSq=> ?y11) ?n11;(case hx11=>simp only[zM];try rfl);(case hz11=>simp only[zM];try rfl);(case y11=>(rw[hlk3 wq hSq];(try with_reducible rfl)));try simp only[zL])
    iterate 5 refine Zv ?_
    refine TD.nil (fun w4 hr=> ?_);replace kr:=hr.q kr;replace kp8:=hr.q kp8;have HM4:=Hi (HM3.out.then0 hr.mod);clear hr hlk3;go_wp2_with fail;refine bodyPost_ret (results_tmp3 rfl _ _ _) rfl ?_;unfold ResA;rw[HE.out];exact⟨HM4.out,rfl⟩
   |some s=>
    obtain⟨a4,c4,rfl,_⟩:=HO.out.1.at keysT;obtain⟨a5,c5,rfl,_⟩:=HO.out.2.1.at keysT;obtain⟨hsa,hsb⟩:=H3'.out (y.t,s) (lkp_mem hk);have hft:tbFind T y.t=some s.l:=by rw[←HTT.out,lkp_tb,hk];rfl
    have HFT:=Hi hft;have HSA:Hid (SlAt kc 32 w1 s.a s.l∧(∀g o,s.a=some ⟨g,o,none⟩→g<w1.heap.size)∧s.l.length≤256):=Hi ⟨(WAtG.of (show NewS kc 32 82 b w1 (.slice s.a s.l.length s.c) s.l from hsa)).sl,fun g o e=>(hsa.lt g (by show(Value.slice s.a s.l.length s.c).ownBlock=some g;rw[e];rfl)).2,hsb⟩;have HYF:=Hi (HX.out.2.1 y (List.mem_of_getElem? HY.out));have hlk3:∀wq,Mod (fun _=>False) w3 wq→(Instr.lookup 46 (.map (some h)) (.agg (kc y.t)) true).run Tryz.prog wq= .ok (.tuple #[.slice s.a s.l.length s.c,.bool true]) wq:=fun wq hq=>by
     have:=HLK.out y.t wq (hq.at0 kh);rw[hk]at this;exact this
    have HLE:Hid (Wl.length≤900000∧Rl.length≤900000):=Hi (by
     have h1:=HO.out.2.2.1;have h2:loSum (X.take i)≤loSum X:=by
      conv=>rhs;rw[←List.take_append_drop i X]
      unfold loSum;rw[List.map_append,List.sum_append];omega
     have h3:=HX.out.2.2.2;omega)
    have HP8:Hid (∀j,((Value.slice a4 Wl.length c4).ownBlock=some j∨(Value.slice a5 Rl.length c5).ownBlock=some j)→j≠p8):=Hi (fun j hj e=>by
     rcases hj with hj|hj
     ·have:=(HO.out.1.lt j hj).2;omega
     ·have:=(HO.out.2.1.lt j hj).2;omega)
    clear hsa hsb hft hk;go_upto_region 6 with fail;have Lkr:=Ls kr;have Lkp8:=Ls kp8;have Lkh:=Ls kh;refine ZP [0,0,0,1,0,1,1,0,0,0,0,0] ?_
    iterate 6 first|refine Zv ?_|refine Zd ?_
    (refine TD.lookup (v:= ?v23) (p:= ?p23) (q:= ?q23) (Mod.refl _ _) (by simp only[zK];rfl) rfl (by rfl) rfl ?hx23 ?hz23 (fun wq hSq=> ?y23) ?n23;(case hx23=>simp only[zM];try rfl);(case hz23=>simp only[zM];try rfl);(case y23=>(rw[hlk3 wq hSq];(try with_reducible rfl)));try simp only[zL])
    iterate 5 refine Zv ?_
    refine TD.nil (fun w4 hr=> ?_);replace kr:=hr.q kr;replace kp8:=hr.q kp8;replace kh:=hr.q kh;have HM4:=Hi (HM3.out.then0 hr.mod);have HO4:=Hi (Ai (HO3.out.1.mod0 hr.mod) (HO3.out.2.mod0 hr.mod));have HW4:Hid (wr.heap.size≤w4.heap.size):=Hi (by have h1:=hr.mod.size;have h2:=Ls kp8;omega);clear hr hlk3;have hP1:=picked_c (base:=w1.heap.size) (lc:=s.c) (ac:=y.w.c) w4 HO4.out.1 HM4.out.size (HSA.out.1.mod0 HM4.out) (HYF.out.1.1.mod0 HM4.out) HSA.out.2.1 HYF.out.1.2.1 HSA.out.2.2 HYF.out.1.2.2 HLE.out.1;have HP1:=Hi hP1;clear hP1;go_wp2_with fail;go_at_call 86;refine HP1.out.mono ?_;rintro e w5 ⟨m5,hP⟩;have HM5:Hid (Mod (fun _=>False) w1 w5):=Hi (HM4.out.then m5 (fun j hj e=>by have:=(HO.out.1.lt j e).1;omega));have HO5:Hid (SlOwn kc 32 82 w5 w1.heap.size (.slice a5 Rl.length c5) Rl):=Hi (HO4.out.2.mod m5 (fun j hj e=>HO.out.2.2.2 j e hj));have HW5:Hid (w4.heap.size≤w5.heap.size):=Hi m5.size;replace kp8:=m5.at kp8 (fun e=>HP8.out p8 (.inl e) rfl);have HP2:=Hi (picked_c (base:=w1.heap.size) (lc:=s.c) (ac:=y.r.c) w5 HO5.out HM5.out.size (HSA.out.1.mod0 HM5.out) (HYF.out.2.1.mod0 HM5.out) HSA.out.2.1 HYF.out.2.2.1 HSA.out.2.2 HYF.out.2.2.2 HLE.out.2);clear m5 HP1 kr kh;cases h1:pickP s.l y.w.l with
    |none=>
     rw[h1]at hP;simp only at hP;subst hP;have HE:Hid (resP T (X.map loP) ([],[])= .error 8):=Hi (by rw[HP.out];exact res_bad HY.out HFT.out (.inl h1));go_wp2_with fail;go_at_call 86;refine HP2.out.mono ?_;rintro e w6 ⟨m6,hP⟩;have HM6:Hid (Mod (fun _=>False) w1 w6):=Hi (HM5.out.then m6 (fun j hj e=>by have:=(HO.out.2.1.lt j e).1;omega));clear m6;cases h2:pickP s.l y.r.l with
     |none=>
      rw[h2]at hP;simp only at hP;subst hP;go_wp2_with fail;refine bodyPost_ret (results_tmp3 rfl _ _ _) rfl ?_;unfold ResA;rw[HE.out];exact⟨HM6.out,rfl⟩
     |some B1=>
      rw[h2]at hP;obtain⟨v5,rfl,-,-⟩:=hP;go_wp2_with fail;refine bodyPost_ret (results_tmp3 rfl _ _ _) rfl ?_;unfold ResA;rw[HE.out];exact⟨HM6.out,rfl⟩
    |some A1=>
     rw[h1]at hP;obtain⟨v4,rfl,hO4,hx4⟩:=hP;have HV4:=Hi (Ai hO4 hx4);have H1:=Hi h1;clear hO4 hx4 h1;go_wp2_with fail;go_at_call 86;refine HP2.out.mono ?_;rintro e w6 ⟨m6,hP⟩;have HM6:Hid (Mod (fun _=>False) w1 w6):=Hi (HM5.out.then m6 (fun j hj e=>by have:=(HO.out.2.1.lt j e).1;omega));cases h2:pickP s.l y.r.l with
     |none=>
      rw[h2]at hP;simp only at hP;subst hP;have HE:Hid (resP T (X.map loP) ([],[])= .error 8):=Hi (by rw[HP.out];exact res_bad HY.out HFT.out (.inr h2));clear m6;go_wp2_with fail;refine bodyPost_ret (results_tmp3 rfl _ _ _) rfl ?_;unfold ResA;rw[HE.out];exact⟨HM6.out,rfl⟩
     |some B1=>
      rw[h2]at hP;obtain⟨v5,rfl,hO5,hx5⟩:=hP;have HPN:Hid (resP T (X.map loP) ([],[])=resP T ((X.drop (i+1)).map loP) (Wl++A1,Rl++B1)):=Hi (by rw[HP.out];exact res_step HY.out HFT.out H1.out h2);have HON:Hid (SlOwn kc 32 82 w6 w1.heap.size v4 (Wl++A1)∧SlOwn kc 32 82 w6 w1.heap.size v5 (Rl++B1)∧(Wl++A1).length+(Rl++B1).length=loSum (X.take (i+1))∧∀j,v4.ownBlock=some j→v5.ownBlock≠some j):=Hi (by
       have hl4:=HV4.out.1.lt;have hs4:=HO.out.1.lt;have hs5:=HO.out.2.1.lt;refine⟨HV4.out.1.mod m6 (fun j hj e=> ?_),hO5,?_,fun j hj e=> ?_⟩
       ·have h5:=(hs5 j e).2;have h6:=HW4.out;rcases HV4.out.2 j hj with h|h
        ·exact HO.out.2.2.2 j h e
        ·omega
       ·rw[List.length_append,List.length_append,pick_len H1.out,pick_len h2,loSum_snoc HY.out,←HO.out.2.2.1];omega
       ·have h6:=HW4.out;have h7:=HW5.out;have h8:=(hl4 j hj).2;rcases HV4.out.2 j hj with h|h
        ·rcases hx5 j e with h'|h'
         ·exact HO.out.2.2.2 j h h'
         ·have:=(hs4 j h).2;omega
        ·rcases hx5 j e with h'|h'
         ·have:=(hs5 j h').2;omega
         ·omega)
      clear m6 hO5 hx5 h2;go_wp2_with fail;go_roundw
      case rel=>exact⟨i+1,Wl++A1,Rl++B1,by omega,by go_num,HON,HPN,HM6⟩
      case measure=>simp[intOf];omega
  ·have hd:=Df hlt;have HE:Hid (resP T (X.map loP) ([],[])= .ok (Wl,Rl)):=Hi (by
    rw[HP.out,List.drop_of_length_le (by have:=HX.out.2.2.1;omega)];rfl)
   obtain⟨a4,c4,v4,rfl,hcl4,hN4⟩:=HO.out.1.clip keysT;obtain⟨a5,c5,v5,rfl,hcl5,hN5⟩:=HO.out.2.1.clip keysT;have HC4:=Hi hcl4;have HC5:=Hi hcl5;have HN45:=Hi (Ai hN4 hN5);clear hcl4 hcl5 hN4 hN5;go_wp2_with fail;go_at_call 79;refine(clipKr_c v4 _ _ HC4.out).mono ?_;rintro e w5 ⟨rfl,rfl⟩;go_wp2_with fail;go_at_call 79;refine(clipKr_c v5 _ _ HC5.out).mono ?_;rintro e w6 ⟨rfl,rfl⟩;go_wp2_with fail;refine bodyPost_ret (results_tmp3 rfl _ _ _) rfl ?_;unfold ResA;rw[HE.out];exact⟨HM.out,_,_,rfl,HN45.out.1,HN45.out.2⟩
end
section
attribute [local go_sem↓] wlMsg ldMsg stMsg ldRole stRole
attribute [local go_sem] zRole_size mgx_size mgx_ext mgx_one mgx_one0
theorem bRole1 (k:Key) (w:World):(Instr.build 91 #[(0,.agg (kc k))]).run Tryz.prog w= .ok (.agg (rcr ⟨k,false,false⟩)) w:=by
 refine run_build_struct (z:= .agg zRole) (places:= #[(0,32),(32,1),(33,1)]) Tryz.underlying91 (fun w=>by kernel_rfl) (fun w=>by kernel_rfl) ?_ w;show Instr.fill _ zRole [(0,_)]=_;rw[fill_cons (off:=0) (n:=32) rfl (by simp[Value.cells]) (by rw[zRole_size];omega)];show some _=some _;congr 1;apply Array.toList_inj.1;have hk:(kc k).toList.length=32:=by simp
 rw[wr_list _ _ _ (by rw[zRole_size];simp[Value.cells])];simp only[Value.cells,List.take_zero,List.nil_append,hk];unfold rcr rc kx zRole;simp
theorem bRole2 (k:Key) (b:Bool) (w:World):(Instr.build 91 #[(0,.agg (kc k)),(2,.bool b)]).run Tryz.prog w= .ok (.agg (rcr ⟨k,false,b⟩)) w:=by
 refine run_build_struct (z:= .agg zRole) (places:= #[(0,32),(32,1),(33,1)]) Tryz.underlying91 (fun w=>by kernel_rfl) (fun w=>by kernel_rfl) ?_ w;show Instr.fill _ zRole [(0,_),(2,_)]=_;rw[fill_cons (off:=0) (n:=32) rfl (by simp[Value.cells]) (by rw[zRole_size];omega),fill_cons (off:=33) (n:=1) rfl (by simp[Value.cells]) (by rw[wr_size,zRole_size];omega)];show some _=some _;congr 1;apply Array.toList_inj.1;have hk:(kc k).toList.length=32:=by simp
 rw[wr_list _ _ _ (by rw[wr_size,zRole_size];simp[Value.cells]),wr_list _ _ _ (by rw[zRole_size];simp[Value.cells])];simp only[Value.cells,List.take_zero,List.nil_append,hk];unfold rcr rc kx zRole;have h1:(kc k).toList.take 33=(kc k).toList:=List.take_of_length_le (by omega);have h2:(kc k).toList.drop 34=[]:=List.drop_of_length_le (by omega);simp[List.take_append,List.drop_append,hk,h1,h2]
theorem role_setW {C:Array Value} {o:Nat} {r:Role} (he:C.extract o (o+34)=rcr r) (hle:o+34≤C.size) (b:Bool):C.setIfInBounds (o+33) (.bool b)=wr C o (rcr ⟨r.k,r.s,b⟩).toList:=by
 have hl:(rcr ⟨r.k,r.s,b⟩).toList.length=34:=by rw[Array.length_toList];exact rolesT.size _
 apply Array.ext_getElem?;intro t;rw[wr_get _ _ _ (by rw[hl];exact hle),hl,Array.getElem?_setIfInBounds];by_cases h1:o≤t∧t<o+34
 ·rw[if_pos h1,Array.getElem?_toList];obtain⟨j,rfl⟩:∃j,t=o+j:=⟨t-o,by omega⟩;rw[Nat.add_sub_cancel_left];have hj:j<34:=by omega
  by_cases h2:j=33
  ·subst h2;rw[if_pos rfl,if_pos (by omega)];exact(kx_get r.k [.bool r.s,.bool b] 1).symm
  ·rw[if_neg (by omega)];have h3:=congrArg (fun A:Array Value=>A[j]?) he;simp only[Array.getElem?_extract]at h3;rw[if_pos (by omega)]at h3;rw[h3];by_cases h4:j=32
   ·subst h4;exact(kx_get r.k [.bool r.s,.bool r.w] 0).trans (kx_get r.k [.bool r.s,.bool b] 0).symm
   ·have hk:∀q:Bool,(rcr ⟨r.k,r.s,q⟩)[j]? =(kc r.k)[j]? :=fun q=>by
     show(rc r.k r.s q)[j]? =_;have h5:(rc r.k r.s q).extract 0 32=kc r.k:=kx_key _ _;rw[←h5,Array.getElem?_extract,if_pos (by have:(rc r.k r.s q).size=34:=rolesT.size ⟨r.k,r.s,q⟩;omega)];simp
    exact(hk r.w).trans (hk b).symm
 ·rw[if_neg h1,if_neg (by omega)]
theorem SlOwn.baseR {α:Type} {f:α→Array Value} {n:Nat} {E:TypeId} {w:World} {b b':Nat} {v:Value} {l:List α} (h:SlOwn f n E w b v l) (hb:b'≤b):SlOwn f n E w b' v l:=
 ⟨h.1,h.2.imp_right (fun⟨g,cap,cur,e,h1,rest⟩=>⟨g,cap,cur,e,Nat.le_trans hb h1,rest⟩)⟩
def RolA (res:Except Nat (List Role)) (w:World) (e:Ending) (w':World):Prop:=Mod (fun _=>False) w w'∧match res with
 | .ok ro=>∃v,e= .returned (.tuple #[v,.int .i64 0])∧NewS rcr 34 91 w.heap.size w' v ro
 | .error n=>e= .returned (.tuple #[.slice none 0 0,.int .i64 (n:Int)])
theorem map_snoc {α β:Type} {l:List α} {i:Nat} {x:α} (f:α→β) (h:l[i]? =some x):(l.take (i+1)).map f=(l.take i).map f++[f x]:=by
 rw[List.take_add_one,h];simp
theorem clipRo_c (v2:Value) (w:World) (n:Nat) {a:Option Addr} {c:Nat} (h:∀w2,(Instr.sliceAt 36 (.slice a n c) none (some (.int .i64 (n:Int))) (some (.int .i64 (n:Int)))).run Tryz.prog w2= .ok v2 w2):
  Calls Tryz.prog 89 #[.slice a n c] w fun e w'=>e= .returned v2∧w'=w:=by
 go_enter Tryz.func89,Tryz.ntmps89;go_wp2_with fail;go_ret;exact⟨rfl,rfl⟩
def fixR (r:Role):Role:=⟨r.k,r.s,r.w&& !knownP r.k⟩
def rlK (l:List Role):List Key:=l.map (·.k)
def RowR (C:Array Value) (l:List Role):Prop:=∀j y,l[j]? =some y→C.extract (0+j*34) (0+j*34+34)=rcr y∧0+j*34+34≤C.size
theorem own_rows {w:World} {b:Nat} {v:Value} {l:List Role} (h:SlOwn rcr 34 91 w b v l) (hne:l≠[]):∃g cap C,v= .slice (some ⟨g,0,none⟩) l.length cap∧b≤g∧l.length≤cap∧w.heap[g]? =some (.cells C 91 (0,0))∧RowR C l:=by
 obtain⟨a',c',e',hs,_⟩:=h.at rolesT;rcases h.2 with⟨_,hn⟩|⟨g,cap,cur,e,hb,hg,hnc,hcm,hcs,htake⟩
 ·exact absurd (List.eq_nil_of_length_eq_zero hn) hne
 ·refine⟨g,cap,cur,e,hb,hnc,hg,fun j y hy=> ?_⟩;obtain⟨g',o',C',U',fr',ha,hk,he,hle⟩:=hs.block hy;rw[e]at e';injection e' with e1 _ _
  rw[ha]at e1;cases e1;rw[hg]at hk;cases hk;exact⟨he,hle⟩
theorem fix_get {l:List Role} {i:Nat} {r:Role} (h:l[i]? =some r):((l.take i).map fixR++l.drop i)[i]? =some r:=by
 obtain⟨hi,e⟩:=List.getElem?_eq_some_iff.1 h;rw[List.getElem?_append_right (by simp;omega),List.length_map,List.length_take,Nat.min_eq_left (by omega),Nat.sub_self,List.getElem?_drop,Nat.add_zero,h]
theorem fix_set {l:List Role} {i:Nat} {r:Role} (h:l[i]? =some r):((l.take i).map fixR++l.drop i).set i (fixR r)=(l.take (i+1)).map fixR++l.drop (i+1):=by
 obtain⟨hi,e⟩:=List.getElem?_eq_some_iff.1 h;have hl:((l.take i).map fixR).length=i:=by rw[List.length_map,List.length_take];omega
 rw[List.set_append_right _ _ (by omega),hl,Nat.sub_self,List.drop_eq_getElem_cons hi,zG,map_snoc fixR h];simp
theorem RowR.step {C:Array Value} {l:List Role} {i:Nat} {r:Role} (hR:RowR C ((l.take i).map fixR++l.drop i)) (h:l[i]? =some r):RowR (C.setIfInBounds (0+i*34+33) (.bool (fixR r).w)) ((l.take (i+1)).map fixR++l.drop (i+1)):=by
 obtain⟨h1,h2⟩:=hR i r (fix_get h);rw[role_setW h1 h2,←fix_set h];have hi:=(List.getElem?_eq_some_iff.1 h).1;exact row_set (fun x=>rolesT.size x) hR (by simp;omega) (fixR r)
theorem rolesOf_c (x:RdR) (LW LR:List Key) (wa ra:Option Addr) (wc rcx:Nat) (w:World) (hK:SlAt kc 32 w x.ks.a x.ks.l) (hb:x.ks.l.length≤1000000) (hW:SlAt kc 32 w wa LW) (hR:SlAt kc 32 w ra LR) (h1:LW.length≤100000) (h2:LR.length≤100000):
  Calls Tryz.prog 38 #[.agg (msr x),.slice wa LW.length wc,.slice ra LR.length rcx] w (RolA (rolesP (msgP x) LW LR) w):=by
 obtain⟨nW,hnW⟩:∃n,LW.length=n:=⟨_,rfl⟩;obtain⟨nR,hnR⟩:∃n,LR.length=n:=⟨_,rfl⟩;have HW:=Hi (Ai hW hnW);have HR:=Hi (Ai hR hnR);rw[hnW]at h1⊢;rw[hnR]at h2⊢;have HOW:=Hi (fun w1 (m:Mod (fun _=>False) w w1)=>own_c x w1 (hK.mod0 m) hb);obtain⟨K0,hK0⟩:∃K0,x.ks.l.mapIdx (ownRP (msgP x))=K0:=⟨_,rfl⟩;have HK0:=Hi hK0;have HB:Hid (K0.length≤1000000):=Hi (by rw[←hK0,List.length_mapIdx];exact hb);show Calls Tryz.prog 38 #[.agg (mgx x.v0 x.h0 x.h1 x.h2 x.ks.a x.ks.l.length x.ks.c x.rc x.ins.a x.ins.l.length x.ins.c x.lks.a x.lks.l.length x.lks.c),.slice wa nW wc,.slice ra nR rcx] w _;clear hK hW hR hnW hnR hK0;go_enter Tryz.func38,Tryz.ntmps38;go_upto_region 0 with fail;refine ZP0 [3,0,0] ?_;refine Zb fun p3 hp3=> ?_
 iterate 2 refine Zv ?_
 refine TD.nil (fun w1 hr=> ?_);obtain⟨gp3,kp3⟩:=hr.b p3;have HM1:=Hi hr.mod;clear hr;go_wp2_with fail;go_at_call 87;refine(HOW.out w1 HM1.out).mono ?_;rintro e w2 ⟨v,rfl,hO,m2⟩;have HO0:Hid (SlOwn rcr 34 91 w2 w.heap.size v K0):=Hi (by rw[HK0.out]at hO;exact hO.baseR HM1.out.size);have HM0:Hid (Mod (fun _=>False) w w2):=Hi (HM1.out.trans m2);have HB0:Hid (K0.length≤1200000∧nW≤100000):=Hi ⟨by have:=HB.out;omega,h1⟩;clear hO m2 kp3;go_wp2_with fail;go_loopw [8,19] (fun s8 si ws=>∃i:Nat,i≤nW∧si= .int .i64 (i:Int)∧Hid (SlOwn rcr 34 91 ws w.heap.size s8 (K0++(LW.take i).map (fun k=>(⟨k,false,true⟩:Role))))∧Hid (Mod (fun _=>False) w ws)) (fun _ si _=>nW-(intOf si).toNat)
 case atStart=>exact⟨0,Nat.zero_le _,rfl,Hi (by rw[List.take_zero,List.map_nil,List.append_nil];exact HO0.out),HM0⟩
 case round=>
  obtain⟨i,hi,rfl,HO,HM⟩:=hrel;by_cases hlt:i<nW
  ·have hd:=Dt hlt;obtain⟨k,hk⟩:∃k,LW[i]? =some k:=⟨_,List.getElem?_eq_getElem (by have:=HW.out.2;omega)⟩;obtain⟨g,o,C,U,fr,rfl,kg,he,hle⟩:=(HW.out.1.mod0 HM.out).block hk;have HT:=Hi (map_snoc (fun k=>(⟨k,false,true⟩:Role)) hk);clear hk;go_upto_region 4 with fail;have Lkg:=Ls kg;refine ZP0 [0,1,3,4] ?_;refine Zv ?_;refine Zd ?_;refine Za alKey fun p10 hp10=> ?_;refine Zt ?_;refine TD.nil (fun w3 hr=> ?_);replace kg:=hr.q kg;obtain⟨gp10,kp10⟩:=hr.b p10;have HM3:=Hi (HM.out.then0 hr.mod);have HO3:=Hi (HO.out.mod0 hr.mod);clear hr he hle kg;have hb:=(fun k=>bRole2 k true) k;have hbs:=bsRole ((fun k=>(⟨k,false,true⟩:Role)) k);obtain⟨a2,c2,rfl,_⟩:=HO3.out.at rolesT;generalize hll:(K0++(LW.take i).map (fun k=>(⟨k,false,true⟩:Role))).length=ll at *;have HLL:Hid (ll≤1300000):=Hi (by rw[←hll,List.length_append,List.length_map,List.length_take];have:=HB0.out;omega);go_upto_region 5 with fail;have Lkp10:=Ls kp10;refine ZP0 [0,1,0,3,5,0] ?_;refine Zv ?_;refine Zd ?_;refine Zu hb ?_;refine Zy hbs fun p26 hp26=> ?_;refine Zi fun w6 hr=> ?_;replace kp10:=hr.q kp10;obtain⟨gp26,kp26⟩:=hr.b p26;have HM6:=Hi (HM3.out.then0 hr.mod);obtain⟨v5,w7,hap,hO7,m7,hn7⟩:=SlOwn.appendB rolesT (q:=[(fun k=>(⟨k,false,true⟩:Role)) k]) (c:=1) (HO3.out.mod0 hr.mod) (SlAt.one kp26 _ rfl (rolesT.size _)) (by have:=HLL.out;rw[hll];simp only[List.length_singleton];omega) (by have:=HLL.out;rw[hll];simp only[List.length_singleton];omega) HM6.out.size 36;have hlo:=HO3.out.lt;have HO7:Hid (SlOwn rcr 34 91 w7 w.heap.size v5 (K0++(LW.take (i+1)).map (fun k=>(⟨k,false,true⟩:Role)))):=Hi (by rw[HT.out,←List.append_assoc];exact hO7);have HM7:Hid (Mod (fun _=>False) w w7):=Hi (HM6.out.then m7 (fun j hj e=>by have:=(hlo j (by simpa[hll] using e)).1;omega))
   try rw[hll]at hap
   clear hr hO7 m7 hn7 hlo hb hbs kp26 kp10 hll;refine ZA hap ?_;refine Ze ?_;refine TE.nil ?_;go_wp2_with fail;go_roundw
   case rel=>exact⟨i+1,by omega,by go_num,HO7,HM7⟩
   case measure=>simp[intOf];omega
  ·have hd:=Df hlt;obtain rfl:nW=i:=by omega
   obtain⟨K1,hK1⟩:∃K1,K0++LW.map (fun k=>(⟨k,false,true⟩:Role))=K1:=⟨_,rfl⟩;have HK1:=Hi hK1;have HO0:Hid (SlOwn rcr 34 91 wr w.heap.size _ K1):=Hi (by
    have:=HO.out;rw[List.take_of_length_le (by have:=HW.out.2;omega),hK1]at this;exact this)
   have HM0:=HM;have HB0:Hid (K1.length≤1200000∧nR≤100000):=Hi ⟨by rw[←hK1,List.length_append,List.length_map,HW.out.2];have:=HB.out;omega,h2⟩;clear hK1 HO HM hd hi hlt;obtain⟨wa0,rfl⟩:∃wa0:World,wa0=wr:=⟨_,rfl⟩;go_wp2_with fail;go_loopw [8,31] (fun s8 si ws=>∃i:Nat,i≤nR∧si= .int .i64 (i:Int)∧Hid (SlOwn rcr 34 91 ws w.heap.size s8 (K1++(LR.take i).map (fun k=>(⟨k,false,false⟩:Role))))∧Hid (Mod (fun _=>False) w ws)) (fun _ si _=>nR-(intOf si).toNat)
   case atStart=>exact⟨0,Nat.zero_le _,rfl,Hi (by rw[List.take_zero,List.map_nil,List.append_nil];exact HO0.out),HM0⟩
   case round=>
    obtain⟨i,hi,rfl,HO,HM⟩:=hrel;by_cases hlt:i<nR
    ·have hd:=Dt hlt;obtain⟨k,hk⟩:∃k,LR[i]? =some k:=⟨_,List.getElem?_eq_getElem (by have:=HR.out.2;omega)⟩;obtain⟨g,o,C,U,fr,rfl,kg,he,hle⟩:=(HR.out.1.mod0 HM.out).block hk;have HT:=Hi (map_snoc (fun k=>(⟨k,false,false⟩:Role)) hk);clear hk;go_upto_region 9 with fail;have Lkg:=Ls kg;refine ZP0 [0,1,3,4] ?_;refine Zv ?_;refine Zd ?_;refine Za alKey fun p12 hp12=> ?_;refine Zt ?_;refine TD.nil (fun w3 hr=> ?_);replace kg:=hr.q kg;obtain⟨gp12,kp12⟩:=hr.b p12;have HM3:=Hi (HM.out.then0 hr.mod);have HO3:=Hi (HO.out.mod0 hr.mod);clear hr he hle kg;have hb:=(fun k=>bRole1 k) k;have hbs:=bsRole ((fun k=>(⟨k,false,false⟩:Role)) k);obtain⟨a2,c2,rfl,_⟩:=HO3.out.at rolesT;generalize hll:(K1++(LR.take i).map (fun k=>(⟨k,false,false⟩:Role))).length=ll at *;have HLL:Hid (ll≤1300000):=Hi (by rw[←hll,List.length_append,List.length_map,List.length_take];have:=HB0.out;omega);go_upto_region 10 with fail;have Lkp12:=Ls kp12;refine ZP0 [0,1,0,3,5,0] ?_;refine Zv ?_;refine Zd ?_;refine Zu hb ?_;refine Zy hbs fun p38 hp38=> ?_;refine Zi fun w6 hr=> ?_;replace kp12:=hr.q kp12;obtain⟨gp38,kp38⟩:=hr.b p38;have HM6:=Hi (HM3.out.then0 hr.mod);obtain⟨v5,w7,hap,hO7,m7,hn7⟩:=SlOwn.appendB rolesT (q:=[(fun k=>(⟨k,false,false⟩:Role)) k]) (c:=1) (HO3.out.mod0 hr.mod) (SlAt.one kp38 _ rfl (rolesT.size _)) (by have:=HLL.out;rw[hll];simp only[List.length_singleton];omega) (by have:=HLL.out;rw[hll];simp only[List.length_singleton];omega) HM6.out.size 36;have hlo:=HO3.out.lt;have HO7:Hid (SlOwn rcr 34 91 w7 w.heap.size v5 (K1++(LR.take (i+1)).map (fun k=>(⟨k,false,false⟩:Role)))):=Hi (by rw[HT.out,←List.append_assoc];exact hO7);have HM7:Hid (Mod (fun _=>False) w w7):=Hi (HM6.out.then m7 (fun j hj e=>by have:=(hlo j (by simpa[hll] using e)).1;omega))
     try rw[hll]at hap
     clear hr hO7 m7 hn7 hlo hb hbs kp38 kp12 hll;refine ZA hap ?_;refine Ze ?_;refine TE.nil ?_;go_wp2_with fail;go_roundw
     case rel=>exact⟨i+1,by omega,by go_num,HO7,HM7⟩
     case measure=>simp[intOf];omega
    ·have hd:=Df hlt;obtain rfl:nR=i:=by omega
     obtain⟨Lf,hLf⟩:∃Lf,K1++LR.map (fun k=>(⟨k,false,false⟩:Role))=Lf:=⟨_,rfl⟩;have HLF:Hid (rolesL (msgP x) LW LR=Lf):=Hi (by rw[←hLf,←HK1.out,←HK0.out];rfl);have HOF:Hid (SlOwn rcr 34 91 wr w.heap.size _ Lf):=Hi (by
      have:=HO.out;rw[List.take_of_length_le (by have:=HR.out.2;omega),hLf]at this;exact this)
     have HNB:Hid (Lf.length≤1300000):=Hi (by rw[←hLf,List.length_append,List.length_map,HR.out.2];have:=HB0.out;omega);clear hLf HO hd hi hlt;obtain⟨wb0,rfl⟩:∃wb0:World,wb0=wr:=⟨_,rfl⟩;by_cases hne:Lf=[]
     ·subst hne;have HE:Hid (rolesP (msgP x) LW LR= .ok []):=Hi (by
       unfold rolesP;rw[HLF.out];simp)
      obtain⟨a2,c2,v2,rfl,hcl,hN⟩:=HOF.out.clip rolesT;simp only[List.length_nil]at hcl hN⊢;have HCL:=Hi hcl;have HNW:=Hi hN;have hmm:= @run_makeMap Tryz.prog;clear hcl hN;go_upto_region 13 with fail;have m2:Mod (fun _=>False) wb0 (wb0.alloc (.map #[] 0)):=(Mod.refl _ _).alloc _;generalize wb0.alloc (.map #[] 0)=w2 at *;have HM2:=Hi (HM.out.then0 m2);have HN2:=Hi (HNW.out.mod0 m2);clear m2 hmm;go_wp2_with fail;go_loopw [44] (fun s44 ws=>s44= .int .i64 0∧ws=w2) (fun _ _=>0)
      case atStart=>exact⟨rfl,rfl⟩
      case round=>
       obtain⟨rfl,rfl⟩:=hrel;go_wp2_with fail;go_at_call 89;refine(clipRo_c v2 _ 0 HCL.out).mono ?_;rintro e w5 ⟨rfl,rfl⟩;go_wp2_with fail;refine bodyPost_ret (results_tmp2 rfl _ _ _) rfl ?_;unfold RolA;rw[HE.out];exact⟨HM2.out,_,rfl,HN2.out⟩
     ·obtain⟨g,cap,C,rfl,hgb,hgc,kg,hrow⟩:=own_rows HOF.out hne;obtain⟨n,hn⟩:∃n,Lf.length=n:=⟨_,rfl⟩;have hnb:n≤1300000:=by rw[←hn];exact HNB.out
      rw[hn]at hgc⊢;have HNN:=Hi (Ai hn (Ai hgb hgc));have HRW:Hid (RowR C ((Lf.take 0).map fixR++Lf.drop 0)):=Hi (by simpa using hrow);have hmm:= @run_makeMap Tryz.prog;clear hrow hn hgb hne;go_upto_region 13 with fail;have km:(wb0.alloc (.map #[] 0)).heap[wb0.heap.size]? =some (.map #[] 0):=fresh1 _ _;have m2:Mod (fun _=>False) wb0 (wb0.alloc (.map #[] 0)):=(Mod.refl _ _).alloc _;have hgq:g<wb0.heap.size:=Ls kg;have kg':=m2.at0 kg;clear kg;have kg:=kg';clear kg';generalize wb0.alloc (.map #[] 0)=w2 at *;generalize wb0.heap.size=q at *;have HM2:=Hi (HM.out.then0 m2);clear m2 hmm;go_wp2_with fail;go_loopw [44] (fun s44 ws=>∃(i:Nat) (Ci:Array Value),i≤n∧s44= .int .i64 (i:Int)∧(∃es c,ws.heap[q]? =some (.map es c)∧Hid (MapIs kv nv es c (cntM (rlK (Lf.take i)))))∧ws.heap[g]? =some (.cells Ci 91 (0,0))∧Hid (RowR Ci ((Lf.take i).map fixR++Lf.drop i))∧Hid (rlK (Lf.take i)).Nodup∧Hid (Mod (fun j=>j=q∨j=g) w2 ws)) (fun s44 _=>n-(intOf s44).toNat)
      case atStart=>exact⟨0,C,by omega,rfl,⟨_,_,km,Hi (MapIs.empty kv nv)⟩,kg,HRW,Hi (by simp[rlK]),Hi (Mod.refl _ _)⟩
      case round=>
       clear km kg;obtain⟨i,Ci,hi,rfl,⟨es1,cl1,km,HMI⟩,kg,HRi,HND,HMl⟩:=hrel;by_cases hlt:i<n
       ·have hd:=Dt hlt;obtain⟨r,hr0⟩:∃r,Lf[i]? =some r:=⟨_,List.getElem?_eq_getElem (by have:=HNN.out;omega)⟩;have HRR:=Hi hr0;obtain⟨he,hle⟩:=HRi.out i r (fix_get hr0);obtain⟨k,sg,wt⟩:=r;rw[Nat.zero_add]at he hle;have c33:Ci[i*34+33]? =some (.bool wt):=cellC he (j:=33) (kx_get k [.bool sg,.bool wt] 1);have he1:Ci.extract (i*34) (i*34+32)=kc k:=by
         have h1:(rcr ⟨k,sg,wt⟩).extract 0 32=kc k:=kx_key _ _;rw[←h1,←he,Array.extract_extract];congr 1;omega
        have hle1:i*34+32≤Ci.size:=by omega
        have hkr:rlK (Lf.take (i+1))=rlK (Lf.take i)++[k]:=map_snoc (fun r:Role=>r.k) hr0;have HKR:=Hi hkr;obtain⟨c,hc⟩:∃c,(lkp k (cntM (rlK (Lf.take i)))).getD 0=c:=⟨_,rfl⟩;have hcb:c≤1300000:=by
         rw[←hc,cntM_lkp];split
         ·have h1:=List.count_le_length (a:=k) (l:=rlK (Lf.take i));have h2:=List.length_take_le i Lf;have h3:(rlK (Lf.take i)).length=(Lf.take i).length:=by simp[rlK]
          simp only[zE];omega
         ·simp
        have HC0:Hid (c=0↔k∉rlK (Lf.take i)):=Hi (by
         rw[←hc,cntM_lkp];split
         ·rename_i hm;simp only[zE];have:=List.count_pos_iff.2 hm;constructor
          ·intro h;omega
          ·intro h;exact absurd hm h
         ·rename_i hm;exact⟨fun _=>hm,fun _=>rfl⟩)
        have hwr:IntKind.i64.wrap ((c:Int)+1)=((c+1:Nat):Int):=by rw[IntKind.wrap_i64];omega
        have hlk:∀wq es cl,wq.heap[q]? =some (.map es cl)→MapIs kv nv es cl (cntM (rlK (Lf.take i)))∨MapIs kv nv es cl (put k c (cntM (rlK (Lf.take i))))→(Instr.lookup 148 (.map (some q)) (.agg (kc k)) false).run Tryz.prog wq= .ok (.int .i64 (c:Int)) wq:=fun wq es cl hq hM=>by
         rcases hM with hM|hM
         ·have:=hM.lookupD keyTR Tryz.underlying148 (z:=0) nv_zero wq hq k;rw[hc]at this;exact this
         ·have:=hM.lookupD keyTR Tryz.underlying148 (z:=0) nv_zero wq hq k;rw[lkp_put_same,zE]at this;exact this
        have HLK:=Hi hlk;have hen:=fun(wq:World) (hq:wq.heap[q]? =some (.map es1 cl1))=>HMI.out.entry keyTR Tryz.underlying148 (z:=0) nv_zero wq hq k;simp only[hc]at hen;have HEN:=Hi hen;have HT1:Hid (cntM (rlK (Lf.take (i+1)))=put k (c+1) (cntM (rlK (Lf.take i)))):=Hi (by rw[hkr,←hc];exact cntM_snoc _ _);clear hlk hen hc hkr hr0 he hle;go_upto_region 16 with fail;go_cut []from 45 to 83 (fun wx=>(∃es cl,wx.heap[q]? =some (.map es cl)∧Hid (MapIs kv nv es cl (cntM (rlK (Lf.take (i+1))))))∧wx.heap[g]? =some (.cells Ci 91 (0,0))∧Hid (Mod (fun j=>j=q∨j=g) w2 wx))
        case first=>
         have Lkg:=Ls kg;have Lkm:=Ls km;refine wp_xpass (T0:=fun _=>False) (K:=fun _ _=>True) (κ:=fun i=>[0,0,0,0,0,0,6,0,6,0,6].getD i 0) (υ:=fun _=>[]) [0,1,2,3,4,5] [6,7,8,9,10] (by kernel_rfl) (by kernel_rfl) (Good.true).cl (trivial) (fun _ h=>h.elim) ?_;have gK:=Good.true
         iterate 5 refine Zg ?_
         refine Zh ?_;refine TG.nil (fun w6 ⟨TR,hr⟩=> ?_);replace kg:=hr.q kg;replace km:=hr.q km;clear gK;have HM6:=Hi (HMl.out.then0 hr.mod);obtain⟨st,es2,cl2,hrE,M2,hF⟩:=HEN.out w6 km;have hl6:=HLK.out w6 _ _ km (.inl HMI.out);have km7:=heap_setBlock w6 (.map es2 cl2) (Ls km);have mS7:=mod_set w6 q (.map es2 cl2);generalize setBlock w6 q (.map es2 cl2)=w7 at *;have hl7:=HLK.out w7 _ _ km7 (.inr M2);obtain⟨es3,cl3,hrF,M3⟩:=hF w7 (c+1) km7;have km8:=heap_setBlock w7 (.map es3 cl3) (Ls km7);have mS8:=mod_set w7 q (.map es3 cl3);generalize setBlock w7 q (.map es3 cl3)=w8 at *;have HEND:Hid ((∃es cl,w8.heap[q]? =some (.map es cl)∧Hid (MapIs kv nv es cl (cntM (rlK (Lf.take (i+1))))))∧w8.heap[g]? =some (.cells Ci 91 (0,0))∧Hid (Mod (fun j=>j=q∨j=g) w2 w8)):=Hi ⟨⟨_,_,km8,Hi (by rw[HT1.out];exact M3)⟩,mS8.at_ne (mS7.at_ne kg (by omega)) (by omega),Hi ((HM6.out.then mS7 (fun _ _ h=> .inl h)).then mS8 (fun _ _ h=> .inl h))⟩;simp only[nv]at hrE hrF;(intro iA hiA hbA;simp only[List.mem_cons,List.not_mem_nil,or_false]at hiA;rcases hiA with rfl|rfl|rfl|rfl|rfl)
         ·clear hbA;(refine eff_look (by simp only[zK];rfl) (by rfl) rfl ?hx32 ?hz32 (by first|exact hl6|exact hl7) ?n32;(case hx32=>simp only[zM];try rfl);(case hz32=>simp only[zM];try rfl);try simp only[zL]);rw[show([6,7,8,9,10]:List Nat).erase 6=[7,8,9,10]from rfl];(intro iA hiA hbA;simp only[List.mem_cons,List.not_mem_nil,or_false]at hiA;rcases hiA with rfl|rfl|rfl|rfl)
          ·clear hbA;refine Zw ?_;rw[show([7,8,9,10]:List Nat).erase 7=[8,9,10]from rfl];(intro iA hiA hbA;simp only[List.mem_cons,List.not_mem_nil,or_false]at hiA;rcases hiA with rfl|rfl|rfl)
           ·clear hbA;(refine eff_entry (by simp only[zK];rfl) (by rfl) rfl ?hx34 ?hz34 hrE ?n34;(case hx34=>simp only[zM];try rfl);(case hz34=>simp only[zM];try rfl);try simp only[zL]);rw[show([8,9,10]:List Nat).erase 8=[9,10]from rfl];(intro iA hiA hbA;simp only[List.mem_cons,List.not_mem_nil,or_false]at hiA;rcases hiA with rfl|rfl)
            ·clear hbA;refine Zw ?_;rw[show([9,10]:List Nat).erase 9=[10]from rfl];(intro iA hiA hbA;simp only[List.mem_cons,List.not_mem_nil,or_false]at hiA;subst hiA)
             ·clear hbA;(refine eff_estore (by simp only[zK];rfl) (by rfl) rfl ?hx36 ?hz36 ?hv36 hrF ?n36;(case hx36=>simp only[zM];try rfl);(case hz36=>simp only[zM];try rfl);(case hv36=>(simp only[zM];(try rfl)));try simp only[zL]);rw[show([10]:List Nat).erase 10=[]from rfl];refine allE_nil ?_;go_wp2_with fail;go_meet;exact HEND.out
            ·exact no_head (by kernel_rfl) hbA
           ·exact no_head (by kernel_rfl) hbA
           ·exact no_head (by kernel_rfl) hbA
          ·clear hbA;(refine eff_entry (by simp only[zK];rfl) (by rfl) rfl ?hx37 ?hz37 hrE ?n37;(case hx37=>simp only[zM];try rfl);(case hz37=>simp only[zM];try rfl);try simp only[zL]);rw[show([7,8,9,10]:List Nat).erase 8=[7,9,10]from rfl];(intro iA hiA hbA;simp only[List.mem_cons,List.not_mem_nil,or_false]at hiA;rcases hiA with rfl|rfl|rfl)
           ·clear hbA;refine Zw ?_;rw[show([7,9,10]:List Nat).erase 7=[9,10]from rfl];(intro iA hiA hbA;simp only[List.mem_cons,List.not_mem_nil,or_false]at hiA;rcases hiA with rfl|rfl)
            ·clear hbA;refine Zw ?_;rw[show([9,10]:List Nat).erase 9=[10]from rfl];(intro iA hiA hbA;simp only[List.mem_cons,List.not_mem_nil,or_false]at hiA;subst hiA)
             ·clear hbA;(refine eff_estore (by simp only[zK];rfl) (by rfl) rfl ?hx40 ?hz40 ?hv40 hrF ?n40;(case hx40=>simp only[zM];try rfl);(case hz40=>simp only[zM];try rfl);(case hv40=>(simp only[zM];(try rfl)));try simp only[zL]);rw[show([10]:List Nat).erase 10=[]from rfl];refine allE_nil ?_;go_wp2_with fail;go_meet;exact HEND.out
            ·exact no_head (by kernel_rfl) hbA
           ·clear hbA;refine Zw ?_;rw[show([7,9,10]:List Nat).erase 9=[7,10]from rfl];(intro iA hiA hbA;simp only[List.mem_cons,List.not_mem_nil,or_false]at hiA;rcases hiA with rfl|rfl)
            ·clear hbA;refine Zw ?_;rw[show([7,10]:List Nat).erase 7=[10]from rfl];(intro iA hiA hbA;simp only[List.mem_cons,List.not_mem_nil,or_false]at hiA;subst hiA)
             ·clear hbA;(refine eff_estore (by simp only[zK];rfl) (by rfl) rfl ?hx43 ?hz43 ?hv43 hrF ?n43;(case hx43=>simp only[zM];try rfl);(case hz43=>simp only[zM];try rfl);(case hv43=>(simp only[zM];(try rfl)));try simp only[zL]);rw[show([10]:List Nat).erase 10=[]from rfl];refine allE_nil ?_;go_wp2_with fail;go_meet;exact HEND.out
            ·exact no_head (by kernel_rfl) hbA
           ·exact no_head (by kernel_rfl) hbA
          ·exact no_head (by kernel_rfl) hbA
          ·exact no_head (by kernel_rfl) hbA
         ·exact no_head (by kernel_rfl) hbA
         ·clear hbA;(refine eff_entry (by simp only[zK];rfl) (by rfl) rfl ?hx44 ?hz44 hrE ?n44;(case hx44=>simp only[zM];try rfl);(case hz44=>simp only[zM];try rfl);try simp only[zL]);rw[show([6,7,8,9,10]:List Nat).erase 8=[6,7,9,10]from rfl];(intro iA hiA hbA;simp only[List.mem_cons,List.not_mem_nil,or_false]at hiA;rcases hiA with rfl|rfl|rfl|rfl)
          ·clear hbA;(refine eff_look (by simp only[zK];rfl) (by rfl) rfl ?hx45 ?hz45 (by first|exact hl6|exact hl7) ?n45;(case hx45=>simp only[zM];try rfl);(case hz45=>simp only[zM];try rfl);try simp only[zL]);rw[show([6,7,9,10]:List Nat).erase 6=[7,9,10]from rfl];(intro iA hiA hbA;simp only[List.mem_cons,List.not_mem_nil,or_false]at hiA;rcases hiA with rfl|rfl|rfl)
           ·clear hbA;refine Zw ?_;rw[show([7,9,10]:List Nat).erase 7=[9,10]from rfl];(intro iA hiA hbA;simp only[List.mem_cons,List.not_mem_nil,or_false]at hiA;rcases hiA with rfl|rfl)
            ·clear hbA;refine Zw ?_;rw[show([9,10]:List Nat).erase 9=[10]from rfl];(intro iA hiA hbA;simp only[List.mem_cons,List.not_mem_nil,or_false]at hiA;subst hiA)
             ·clear hbA;(refine eff_estore (by simp only[zK];rfl) (by rfl) rfl ?hx48 ?hz48 ?hv48 hrF ?n48;(case hx48=>simp only[zM];try rfl);(case hz48=>simp only[zM];try rfl);(case hv48=>(simp only[zM];(try rfl)));try simp only[zL]);rw[show([10]:List Nat).erase 10=[]from rfl];refine allE_nil ?_;go_wp2_with fail;go_meet;exact HEND.out
            ·exact no_head (by kernel_rfl) hbA
           ·clear hbA;refine Zw ?_;rw[show([7,9,10]:List Nat).erase 9=[7,10]from rfl];(intro iA hiA hbA;simp only[List.mem_cons,List.not_mem_nil,or_false]at hiA;rcases hiA with rfl|rfl)
            ·clear hbA;refine Zw ?_;rw[show([7,10]:List Nat).erase 7=[10]from rfl];(intro iA hiA hbA;simp only[List.mem_cons,List.not_mem_nil,or_false]at hiA;subst hiA)
             ·clear hbA;(refine eff_estore (by simp only[zK];rfl) (by rfl) rfl ?hx51 ?hz51 ?hv51 hrF ?n51;(case hx51=>simp only[zM];try rfl);(case hz51=>simp only[zM];try rfl);(case hv51=>(simp only[zM];(try rfl)));try simp only[zL]);rw[show([10]:List Nat).erase 10=[]from rfl];refine allE_nil ?_;go_wp2_with fail;go_meet;exact HEND.out
            ·exact no_head (by kernel_rfl) hbA
           ·exact no_head (by kernel_rfl) hbA
          ·exact no_head (by kernel_rfl) hbA
          ·clear hbA;refine Zw ?_;rw[show([6,7,9,10]:List Nat).erase 9=[6,7,10]from rfl];(intro iA hiA hbA;simp only[List.mem_cons,List.not_mem_nil,or_false]at hiA;rcases hiA with rfl|rfl|rfl)
           ·clear hbA;(refine eff_look (by simp only[zK];rfl) (by rfl) rfl ?hx53 ?hz53 (by first|exact hl6|exact hl7) ?n53;(case hx53=>simp only[zM];try rfl);(case hz53=>simp only[zM];try rfl);try simp only[zL]);rw[show([6,7,10]:List Nat).erase 6=[7,10]from rfl];(intro iA hiA hbA;simp only[List.mem_cons,List.not_mem_nil,or_false]at hiA;rcases hiA with rfl|rfl)
            ·clear hbA;refine Zw ?_;rw[show([7,10]:List Nat).erase 7=[10]from rfl];(intro iA hiA hbA;simp only[List.mem_cons,List.not_mem_nil,or_false]at hiA;subst hiA)
             ·clear hbA;(refine eff_estore (by simp only[zK];rfl) (by rfl) rfl ?hx55 ?hz55 ?hv55 hrF ?n55;(case hx55=>simp only[zM];try rfl);(case hz55=>simp only[zM];try rfl);(case hv55=>(simp only[zM];(try rfl)));try simp only[zL]);rw[show([10]:List Nat).erase 10=[]from rfl];refine allE_nil ?_;go_wp2_with fail;go_meet;exact HEND.out
            ·exact no_head (by kernel_rfl) hbA
           ·exact no_head (by kernel_rfl) hbA
           ·exact no_head (by kernel_rfl) hbA
          ·exact no_head (by kernel_rfl) hbA
         ·exact no_head (by kernel_rfl) hbA
         ·exact no_head (by kernel_rfl) hbA
        case rest=>
         obtain⟨⟨es2,cl2,km2,HMJ⟩,kg2,HMc⟩:=hcut;have hl17:(Instr.lookup 148 (.map (some q)) (.agg (kc k)) false).run Tryz.prog wc= .ok (.int .i64 ((c+1:Nat):Int)) wc:=by
          have:=HMJ.out.lookupD keyTR Tryz.underlying148 (z:=0) nv_zero wc km2 k;rw[HT1.out,lkp_put_same,zE]at this;exact this
         clear km kg HEN HLK;by_cases h0:c=0
         ·have hnk:k∉rlK (Lf.take i):=HC0.out.1 h0;have HND2:Hid (rlK (Lf.take (i+1))).Nodup:=Hi (by
           rw[HKR.out,List.nodup_append];refine⟨HND.out,by simp,fun a ha b hb e=> ?_⟩;rw[List.mem_singleton]at hb;subst hb;subst e;exact hnk ha)
          subst h0;clear hnk hcb hwr;obtain⟨kb,hkb⟩:∃kb,knownP k=kb:=⟨_,rfl⟩;have HKB:=Hi hkb;clear hkb;have hst:=RowR.step HRi.out HRR.out;rw[Nat.zero_add]at hst;have HST:=Hi hst;clear hst;cases wt with
          |false=>
           have HR2:Hid (RowR (Ci.setIfInBounds (i*34+33) (.bool false)) ((Lf.take (i+1)).map fixR++Lf.drop (i+1))):=Hi HST.out;go_upto_region 19 with fail;have Lkg2:=Ls kg2;have Lkm2:=Ls km2;refine ZP0 [0,0,0,0,0,0,1,0,0,0,0,0,1,0,0,0,0,0,5] ?_
           iterate 8 first|refine Zv ?_|refine Zd ?_
           iterate 4 refine Zo ?_
           refine Zp ?_
           iterate 2 refine Zo ?_
           iterate 3 refine Zv ?_
           refine Zi fun wE hr=> ?_;replace kg2:=hr.mod.at0 kg2;replace km2:=hr.mod.at0 km2;have mE:=hr.mod;refine ZS ?_;refine ZN kg2 fun w9 kg2 mS=> ?_;(try simp only[Array.setIfInBounds,zL]at kg2);replace km2:=mS.at_ne km2 (by omega);have HM9:Hid (Mod (fun j=>j=q∨j=g) w2 w9):=Hi ((HMc.out.then0 mE).then mS (fun j _ e=> .inr e));clear mE mS hr hl17 c33 he1;go_wp2_with fail;go_roundw
           case rel=>exact⟨i+1,_,by omega,by go_num,⟨_,_,km2,HMJ⟩,kg2,HR2,HND2,HM9⟩
           case measure=>simp[intOf];omega
          |true=>
           have HR2:Hid (RowR (Ci.setIfInBounds (i*34+33) (.bool (!kb))) ((Lf.take (i+1)).map fixR++Lf.drop (i+1))):=Hi (by
            have:=HST.out;simp only[fixR,HKB.out,Bool.true_and]at this;exact this)
           go_upto_region 19 with fail;have Lkg2:=Ls kg2;have Lkm2:=Ls km2;refine ZR0 (fun _ _ v=>v= .bool kb) [0,0,0,0,0,0,1,0,0,0,0,0,1,2,0,0,0,0,5] ?_
           iterate 13 first|refine Zv ?_|refine Zd ?_
           (refine Zc ?_ (s:=by intro wq hSq;exact(known_c k wq).mono (fun e w' h=>⟨_,h.1,by rw[HKB.out],h.2⟩));rintro _ hC;subst hC;try simp only[zL])
           iterate 4 refine Zv ?_
           refine Zi fun wE hr=> ?_;replace kg2:=hr.mod.at0 kg2;replace km2:=hr.mod.at0 km2;have mE:=hr.mod;refine ZS ?_;refine ZN kg2 fun w9 kg2 mS=> ?_;(try simp only[Array.setIfInBounds,zL]at kg2);replace km2:=mS.at_ne km2 (by omega);have HM9:Hid (Mod (fun j=>j=q∨j=g) w2 w9):=Hi ((HMc.out.then0 mE).then mS (fun j _ e=> .inr e));clear mE mS hr hl17 c33 he1;go_wp2_with fail;go_roundw
           case rel=>exact⟨i+1,_,by omega,by go_num,⟨_,_,km2,HMJ⟩,kg2,HR2,HND2,HM9⟩
           case measure=>simp[intOf];omega
         ·have HE:Hid (rolesP (msgP x) LW LR= .error 9):=Hi (by
           have hk:k∈rlK (Lf.take i):=by
            by_cases hm:k∈rlK (Lf.take i)
            ·exact hm
            ·exact absurd (HC0.out.2 hm) h0
           unfold rolesP;rw[HLF.out,if_neg];intro hd;have hsub:((rlK (Lf.take (i+1))).Sublist (rlK Lf)):=(List.take_sublist _ _).map _;have h1:=hd.sublist hsub;rw[HKR.out,List.nodup_append]at h1;exact h1.2.2 k hk k (by simp) rfl)
          have hd3:decide (((c+1:Nat):Int)>1)=true:=Dt (by omega);have HFm:Hid (Mod (fun _=>False) w wc):=Hi (HM2.out.then HMc.out (fun j hj e=>by have:=HNN.out;omega));generalize c+1=d at *;go_wp2_with fail;refine bodyPost_ret (results_tmp2 rfl _ _ _) rfl ?_;unfold RolA;rw[HE.out];exact⟨HFm.out,rfl⟩
       ·have hd:=Df hlt;obtain rfl:n=i:=by omega
        have HE:Hid (rolesP (msgP x) LW LR= .ok (Lf.map fixR)):=Hi (by
         have h1:=HND.out;rw[List.take_of_length_le (by have:=HNN.out;omega)]at h1;unfold rolesP;rw[HLF.out];unfold rlK at h1;rw[if_pos h1];rfl)
        have HNW:Hid (NewS rcr 34 91 w.heap.size wr (.slice (some ⟨g,0,none⟩) n n) (Lf.map fixR)):=Hi (by
         have h1:=HRi.out;rw[List.take_of_length_le (by have:=HNN.out;omega),List.drop_of_length_le (by have:=HNN.out;omega),List.append_nil]at h1;refine .inr ⟨g,Ci,by rw[List.length_map,HNN.out.1],HNN.out.2.1,kg,fun j y hy=> ?_⟩;have h2:=h1 j y hy;rwa[Nat.zero_add]at h2)
        have HF:Hid (Mod (fun _=>False) w wr):=Hi (HM2.out.then HMl.out (fun j hj e=>by have:=HNN.out;omega));have HCL:=Hi (fun w=>sl_clip (P:=Tryz.prog) rolesT (g:=g) (o:=0) (show n≤cap from HNN.out.2.2) w);clear km kg;go_wp2_with fail;go_at_call 89;refine(clipRo_c _ _ n HCL.out).mono ?_;rintro e w5 ⟨rfl,rfl⟩;go_wp2_with fail;refine bodyPost_ret (results_tmp2 rfl _ _ _) rfl ?_;unfold RolA;rw[HE.out];exact⟨HF.out,_,rfl,HNW.out⟩
end
section
attribute [local go_sem↓] wlMsg ldMsg stMsg wlIn ldIn stIn
attribute [local go_sem] mgx_size mgx_ext mgx_one mgx_one0 mg0 mg1 mg2 mg3 mg4 mg37 mg38 mg37' mg38' mgx_hd mgx_hs mg0' mg4'
theorem inr0B (y:InR):(inr y)[0]? =some (.int .u8 (y.p.toNat:Int)):=rfl
theorem inr0B' (y:InR) (h:0<(inr y).size):(inr y)[0]= .int .u8 (y.p.toNat:Int):=rfl
theorem inr2B (y:InR):(inr y)[2]? =some (.slice y.d.a y.d.l.length y.d.c):=rfl
theorem inr2B' (y:InR) (h:2<(inr y).size):(inr y)[2]= .slice y.d.a y.d.l.length y.d.c:=rfl
theorem inrB_size (y:InR):(inr y).size=3:=rfl
theorem inrB_all (y:InR):(inr y).extract 0 3=inr y:=rfl
theorem inrB_one (y:InR):(inr y).all (·.oneCell') 0 3=true:=by simp[inr,Value.oneCell']
attribute [local go_sem] inrB_size inrB_all inrB_one inr0B inr0B' inr2B inr2B'
theorem word_c (x:RdR) (y:InR) (w:World) (hK:SlAt kc 32 w x.ks.a x.ks.l) (hb:x.ks.l.length≤1000000):
  Calls Tryz.prog 73 #[.agg (msr x),.agg (inr y)] w fun e w'=>e= .returned (.bool (wordP (msgP x) (inP y)))∧Mod (fun _=>False) w w':=by
 obtain⟨n,hn⟩:∃n,x.ks.l.length=n:=⟨_,rfl⟩;obtain⟨q,hq⟩:∃q,y.p.toNat=q:=⟨_,rfl⟩;have hqb:q<256:=by rw[←hq];exact y.p.toNat_lt
 have hwq:IntKind.i64.wrap (q:Int)=(q:Int):=by rw[IntKind.wrap_i64];omega
 have hQ0:=inr0B y;have hQ0':=inr0B' y;rw[hq]at hQ0 hQ0';rw[hn]at hb;have HX:=Hi (Ai hK (Ai hn hq));show Calls Tryz.prog 73 #[.agg (mgx x.v0 x.h0 x.h1 x.h2 x.ks.a x.ks.l.length x.ks.c x.rc x.ins.a x.ins.l.length x.ins.c x.lks.a x.lks.l.length x.lks.c),.agg (inr y)] w _;rw[hn];clear hK hn;go_enter Tryz.func73,Tryz.ntmps73;go_upto_region 0 with fail;refine ZP0 [3,3,0] ?_;refine Zb fun p2 hp2=> ?_;refine Zb fun p3 hp3=> ?_;obtain⟨ne_p3_p2,hp3⟩:=Bx.set_none hp3;refine Zv ?_;refine TD.nil (fun w1 hr=> ?_);obtain⟨gp2,kp2⟩:=hr.b p2 (by first|exact Bx.set_same _ _ _|(simp only[Bx.set_ne _ (Ne.symm ne_p3_p2),Bx.set_ne _ ne_p3_p2,Bx.set_same];rfl));obtain⟨gp3,kp3⟩:=hr.b p3 (by first|exact Bx.set_same _ _ _|(simp only[Bx.set_ne _ (Ne.symm ne_p3_p2),Bx.set_ne _ ne_p3_p2,Bx.set_same];rfl));have HM1:=Hi hr.mod;clear hr;by_cases hlt:q<n
 ·have hd:=Dt hlt;obtain⟨k,hk⟩:∃k,x.ks.l[q]? =some k:=⟨_,List.getElem?_eq_getElem (by have:=HX.out.2.1;omega)⟩;obtain⟨g,o,C,U,fr,hga,kg,he,hle⟩:=(HX.out.1.mod0 HM1.out).block hk;have HE:Hid (wordP (msgP x) (inP y)=decide (k=keyB)):=Hi (by
   have:(msgP x).ks[(inP y).p.toNat]? =some k:=by
    show x.ks.l[y.p.toNat]? =some k;rw[hq,hk]
   unfold wordP;rw[this])
  have HQ:=Hi hq;clear hk hq;by_cases hkb:k=keyB
  ·have hd2:=Dt hkb;go_upto_region 1 with fail;have Lkp2:=Ls kp2;have Lkp3:=Ls kp3;have Lkg:=Ls kg;refine ZR (fun _ _ v=>v= .agg (kc keyB)) [0,1,0,0,1,0,0,0,0,1,0,1,0,1,2,0,0,0] ?_
   iterate 14 first|refine Zv ?_|refine Zd ?_
   (refine Zc ?_ (s:=by intro wq hSq;exact(budgetK_c wq).mono (fun e w' h=>⟨_,h.1,rfl,h.2⟩));rintro _ hC;subst hC;try simp only[zL])
   iterate 3 refine Zv ?_
   refine TD.nil (fun w2 hr=> ?_);replace kp2:=hr.q kp2;replace kp3:=hr.q kp3;replace kg:=hr.q kg;have HM2:=Hi (HM1.out.then0 hr.mod);clear hr;go_wp2_with fail;go_ret;exact⟨by rw[HE.out,hd2];rfl,HM2.out⟩
  ·have hd2:=Df hkb;go_upto_region 1 with fail;have Lkp2:=Ls kp2;have Lkp3:=Ls kp3;have Lkg:=Ls kg;refine ZR (fun _ _ v=>v= .agg (kc keyB)) [0,1,0,0,1,0,0,0,0,1,0,1,0,1,2,0,0,0] ?_
   iterate 14 first|refine Zv ?_|refine Zd ?_
   (refine Zc ?_ (s:=by intro wq hSq;exact(budgetK_c wq).mono (fun e w' h=>⟨_,h.1,rfl,h.2⟩));rintro _ hC;subst hC;try simp only[zL])
   iterate 3 refine Zv ?_
   refine TD.nil (fun w2 hr=> ?_);replace kp2:=hr.q kp2;replace kp3:=hr.q kp3;replace kg:=hr.q kg;have HM2:=Hi (HM1.out.then0 hr.mod);clear hr;go_wp2_with fail;go_ret;exact⟨by rw[HE.out,hd2];rfl,HM2.out⟩
 ·have hd:=Df hlt;have HE:Hid (wordP (msgP x) (inP y)=false):=Hi (by
   have:(msgP x).ks[(inP y).p.toNat]? =none:=by
    show x.ks.l[y.p.toNat]? =none;rw[hq,List.getElem?_eq_none_iff];have:=HX.out.2.1;omega
   unfold wordP;rw[this])
  have HQ:=Hi hq;clear hq;go_upto_region 1 with fail;have Lkp2:=Ls kp2;have Lkp3:=Ls kp3;refine ZP [0,1,0,0,1,0,0,0,0,1,0,1,0,1,0,0,0,0] ?_
  iterate 8 first|refine Zv ?_|refine Zd ?_
  refine Zo ?_;refine Zp ?_;refine Zo ?_;refine Zp ?_;refine Zo ?_;refine Zp ?_
  iterate 2 refine Zo ?_
  iterate 2 refine Zv ?_
  refine TD.nil (fun w2 hr=> ?_);replace kp2:=hr.q kp2;replace kp3:=hr.q kp3;have HM2:=Hi (HM1.out.then0 hr.mod);clear hr;go_wp2_with fail;go_ret;exact⟨by rw[HE.out];rfl,HM2.out⟩
end
end Go.Proofs.YtiaehkkkcaeaiaaGreatDoor