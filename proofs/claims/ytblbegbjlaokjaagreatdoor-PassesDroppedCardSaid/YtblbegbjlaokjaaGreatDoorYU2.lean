/- The lemmas of the proof, part YO2: how the program and its data lie in memory, and what its functions do. -/
import Derived.Test.YtblbegbjlaokjaaGreatDoorYU1
import Derived.RangeFuncNested
import Derived.RangeFuncBox
import Derived.RangeFuncLeaves
import Derived.Shelf.Abstract
import Derived.OwnWalkIn
import Derived.TacticsInMore
import Derived.LoopNIn
import Derived.LoopIn
import Derived.Shelf.SlGeneric
import Derived.Shelf.SlSortCmp.Whole1
import Derived.Ground.SlsfProg
import Derived.Test.YtblbegbjlaokjaaGreatDoorProg
set_option linter.unusedSimpArgs false
set_option linter.unusedVariables false
set_option linter.unusedSectionVars false
set_option maxRecDepth 100000
set_option maxHeartbeats 6400000
namespace Go.Proofs
open Go.Shelf
def Tryz.sortN_ren:Go.Shelf.Ren:=⟨fun|6=>137|15=>157|14=>156|28=>174|29=>175|20=>166|21=>167|22=>168|23=>169|24=>170|25=>171|26=>172|27=>173|46=>184|47=>185|48=>186|49=>187|50=>188|57=>192|n=>n,fun|22=>224|24=>212|25=>232|3=>3|39=>260|0=>0|53=>307|55=>23|4=>4|46=>301|45=>300|50=>93|5=>5|9=>9|66=>313|70=>317|76=>321|77=>322|n=>n,fun|n=>n⟩
theorem Tryz.sortN:Go.Proofs.SlLaysF.n6 Tryz.prog Tryz.sortN_ren:= {
 mixed:=by kernel_rfl
 f6:=⟨Tryz.f137.name,by decide,Tryz.func137.trans (congrArg some (by kernel_rfl))⟩
 f14:=⟨Tryz.f156.name,by decide,Tryz.func156.trans (congrArg some (by kernel_rfl))⟩
 f15:=Tryz.func157.trans (congrArg some (by kernel_rfl))
 f20:=⟨Tryz.f166.name,by decide,Tryz.func166.trans (congrArg some (by kernel_rfl))⟩
 f21:=⟨Tryz.f167.name,by decide,Tryz.func167.trans (congrArg some (by kernel_rfl))⟩
 f22:=⟨Tryz.f168.name,by decide,Tryz.func168.trans (congrArg some (by kernel_rfl))⟩
 f23:=⟨Tryz.f169.name,by decide,Tryz.func169.trans (congrArg some (by kernel_rfl))⟩
 f24:=⟨Tryz.f170.name,by decide,Tryz.func170.trans (congrArg some (by kernel_rfl))⟩
 f25:=⟨Tryz.f171.name,by decide,Tryz.func171.trans (congrArg some (by kernel_rfl))⟩
 f26:=⟨Tryz.f172.name,by decide,Tryz.func172.trans (congrArg some (by kernel_rfl))⟩
 f27:=⟨Tryz.f173.name,by decide,Tryz.func173.trans (congrArg some (by kernel_rfl))⟩
 f28:=Tryz.func174.trans (congrArg some (by kernel_rfl))
 f29:=Tryz.func175.trans (congrArg some (by kernel_rfl))
 f46:=⟨Tryz.f184.name,by decide,Tryz.func184.trans (congrArg some (by kernel_rfl))⟩
 f47:=Tryz.func185.trans (congrArg some (by kernel_rfl))
 f48:=Tryz.func186.trans (congrArg some (by kernel_rfl))
 f49:=⟨Tryz.f187.name,by decide,Tryz.func187.trans (congrArg some (by kernel_rfl))⟩
 f50:=⟨Tryz.f188.name,by decide,Tryz.func188.trans (congrArg some (by kernel_rfl))⟩
 f57:=⟨Tryz.f192.name,by decide,Tryz.func192.trans (congrArg some (by kernel_rfl))⟩
 t0:=Tryz.underlying0
 a0:=Tryz.isAgg0
 z0:=Tryz.sizeOf0
 v0:=Tryz.zeroValue0
 t3:=Tryz.underlying3
 a3:=Tryz.isAgg3
 z3:=Tryz.sizeOf3
 v3:=Tryz.zeroValue3
 t4:=Tryz.underlying4
 a4:=Tryz.isAgg4
 z4:=Tryz.sizeOf4
 v4:=Tryz.zeroValue4
 t5:=Tryz.underlying5
 a5:=Tryz.isAgg5
 z5:=Tryz.sizeOf5
 v5:=Tryz.zeroValue5
 t9:=Tryz.underlying9
 a9:=Tryz.isAgg9
 z9:=Tryz.sizeOf9
 v9:=Tryz.zeroValue9
 t22:=Tryz.underlying224
 a22:=Tryz.isAgg224
 z22:=Tryz.sizeOf224
 v22:=Tryz.zeroValue224
 a24:=Tryz.isAgg212
 z24:=Tryz.sizeOf212
 t25:=Tryz.underlying232
 a25:=Tryz.isAgg232
 z25:=Tryz.sizeOf232
 v25:=Tryz.zeroValue232
 t39:=Tryz.underlying260
 a39:=Tryz.isAgg260
 z39:=Tryz.sizeOf260
 v39:=Tryz.zeroValue260
 t45:=Tryz.underlying300
 a45:=Tryz.isAgg300
 z45:=Tryz.sizeOf300
 v45:=Tryz.zeroValue300
 t46:=Tryz.underlying301
 a46:=Tryz.isAgg301
 z46:=Tryz.sizeOf301
 v46:=Tryz.zeroValue301
 t50:=Tryz.underlying93
 a50:=Tryz.isAgg93
 z50:=Tryz.sizeOf93
 v50:=Tryz.zeroValue93
 t53:=Tryz.underlying307
 a53:=Tryz.isAgg307
 z53:=Tryz.sizeOf307
 v53:=Tryz.zeroValue307
 t55:=Tryz.underlying23
 a55:=Tryz.isAgg23
 z55:=Tryz.sizeOf23
 v55:=Tryz.zeroValue23
 t66:=Tryz.underlying313
 a66:=Tryz.isAgg313
 z66:=Tryz.sizeOf313
 v66:=Tryz.zeroValue313
 t70:=Tryz.underlying317
 a70:=Tryz.isAgg317
 z70:=Tryz.sizeOf317
 v70:=Tryz.zeroValue317
 t76:=Tryz.underlying321
 a76:=Tryz.isAgg321
 z76:=Tryz.sizeOf321
 v76:=Tryz.zeroValue321
 t77:=Tryz.underlying322
 a77:=Tryz.isAgg322
 z77:=Tryz.sizeOf322
 v77:=Tryz.zeroValue322}
end Go.Proofs

namespace Go.Proofs.YtblbegbjlaokjaaGreatDoor
open Go.ChangeMaps (setBlock)
section
open Go.RowKit Go.Sort
attribute [local go_sem↓] eG gM fY d9
attribute [local go_sem] rkc_size ndc_size aJ aC aO aL aQ aI aP Value.cells cY
def kn (k:Bool):Nat:=if k then 1 else 0
abbrev x4 (k:Bool) (v:Value):Array Value:= #[.int .i64 (kn k:Int),.func (.func (fn k)) #[] #[],v]
structure Sd (w:We) (s:Nat) (k:Bool) (v:Wg) (L:Wd) (nd:Nat→Nd) (o:Nat→Int):Prop where
 side:w.heap[s]? =some (.cells (x4 k v) 226 (0,0))
 own:aE pc 1 212 w 0 v L
 nodes:∀(i b:Nat),L[i]? =some b→w.heap[b]? =some (.cells (ndc k (nd b) (i:Int) (o b)) 222 (0,0))
section
variable {w w':We} {s:Nat} {k:Bool} {v:Wg} {L:Wd} {nd:Nat→Nd} {o:Nat→Int}
theorem cJ {base:Nat} (h:aE pc 1 212 w base v L) {g:Nat} (hg:v.ownBlock=some g):∃cur,w.heap[g]? =some (.cells cur 212 (0,0)):=by
 rcases h.2 with⟨rfl,_⟩|⟨g',cap,cur,rfl,_,gj,_⟩
 ·cases hg
 ·cases hg;exact⟨cur,gj⟩
theorem aM {c c':Wa} {T T':Wh} (h:T≠T'):Obj.cells c T (0,0)≠ .cells c' T' (0,0):=by
 intro e;cases e;exact h rfl
theorem Sd.mod {S:Nat→Prop} (h:Sd w s k v L nd o) (hm:Mod S w w') (h1:¬S s) (h2:∀g,v.ownBlock=some g→¬S g) (h3:∀b∈L,¬S b):Sd w' s k v L nd o:=
 ⟨hm.at h.side h1,h.own.mod hm h2,fun i b hb=>hm.at (h.nodes i b hb) (h3 b (aZi hb))⟩
theorem Sd.mod0 (h:Sd w s k v L nd o) (hm:Mod (fun _=>False) w w'):Sd w' s k v L nd o:=h.mod hm (fun h=>h) (fun _ _ h=>h) (fun _ _ h=>h)
theorem Sd.nodup (h:Sd w s k v L nd o):L.Nodup:=by
 rw[aWx,List.pairwise_iff_getElem];intro i j hi hj ig e;have h1:=h.nodes i _ (aZb hi);have h2:=h.nodes j _ (aZb hj);rw[e,h2]at h1;cases k<;>simp[ndc]at h1<;>omega
theorem OU (h:Sd w s k v L nd o):Calls Tryz.prog 217 #[ptrV s] w fun e w'=>e= .returned (.int .i64 (L.length:Int))∧w'=w:=by
 obtain⟨a,c,rfl,_,_,hl⟩:=h.own.at o3;have ks:=h.side;clear h;go_enter Tryz.func217,Tryz.ntmps217;go_wp2_with fail;go_ret;exact⟨rfl,rfl⟩
theorem rB (h:Sd w s k v L nd o) {i j a b:Nat} (ha:L[i]? =some a) (hb:L[j]? =some b):Calls Tryz.prog 218 #[ptrV s,.int .i64 (i:Int),.int .i64 (j:Int)] w fun e w'=>e= .returned (.bool (xE k (nd a) (nd b)))∧Mod (fun _=>False) w w':=by
 have hi:=(aZa.1 ha).1;have hj:=(aZa.1 hb).1;obtain⟨g,cap,cur,rfl,_,kg,qm,fz,bx,_⟩:=gS h.own (fun e=>by rw[e]at hi;cases hi);have ks:=h.side;have ka:=h.nodes i a ha;have kb:=h.nodes j b hb;have ci:=bx i a ha;have cj:=bx j b hb;have ao:=fun wq (ae:Mod (fun _=>False) w wq)=>MG k a b k (nd a) (nd b) i (o a) j (o b) wq (ae.at0 ka) (ae.at0 kb);have HC:=Hi ao;clear h bx ao ka kb ha hb;go_enter Tryz.func218,Tryz.ntmps218;go_upto_region 1 with fail;have Lks:=aA ks;have Lkg:=aA kg;refine ZR (fun _ _ v=>v= .bool (xE k (nd a) (nd b))) [0,0,0,1,0,0,0,1,0,0,1,0,0,0,1,0,0,1,2,0] ?_
 iterate 18 first|refine Zv ?_|refine Zd ?_
 (refine Zc ?_ (s:=by intro wq ae;exact(HC.out wq ae).mono (fun e w' h=>⟨_,h.1,rfl,h.2⟩));rintro _ rfl;try simp only[zL]);refine Zv ?_;refine TD.nil (fun w2 hr=> ?_);replace ks:=hr.q ks;replace kg:=hr.q kg;have m2:=hr.mod;go_wp2_with fail;go_ret;exact⟨rfl,m2⟩
end
section
variable {P:Wl} {ops:Array Oper} {Q:Exit→Act→We→Prop} {κ:Nat→Nat}
theorem TE.mid_set {r:Wd} {a:Act} {w:We} {p:Nat} {o o':Obj} (hb:w.heap[p]? =some o) (h:∀w',w'.heap[p]? =some o'→Mod (fun i=>i=p) w w'→TE P ops Q κ r a w'):TE P ops Q κ r a (setBlock w p o'):=
 h _ (aF w _ (aA hb)) (bM w p o')
theorem TE.mid_setCell {r:Wd} {a:Act} {w:We} {p i:Nat} {cs:Wa} {U:Wh} {fr:Nat×Nat} {v:Wg} (hb:w.heap[p]? =some (.cells cs U fr))
  (h:∀w',w'.heap[p]? =some (.cells (cs.setIfInBounds i v) U fr)→Mod (fun i=>i=p) w w'→TE P ops Q κ r a w'):TE P ops Q κ r a (w.setCell ⟨p,i,none⟩ v):=by
 rw[setCell_blk hb];exact TE.mid_set hb h
end
section
variable {w w':We} {s:Nat} {k:Bool} {v:Wg} {L:Wd} {nd:Nat→Nd} {o:Nat→Int}
theorem rQ (h:Sd w s k v L nd o) {i j:Nat} (hi:i<L.length) (hj:j<L.length) (ig:i≠j):Calls Tryz.prog 221 #[ptrV s,.int .i64 (i:Int),.int .i64 (j:Int)] w fun e w'=>
  e= .returned (.tuple #[])∧Sd w' s k v (swapL L i j) nd o∧Mod (fun x=>v.ownBlock=some x∨x∈L) w w':=by
 have H:=Hi h;obtain⟨a,ha⟩:∃a,L[i]? =some a:=⟨_,aZb hi⟩;obtain⟨b,hb⟩:∃b,L[j]? =some b:=⟨_,aZb hj⟩;obtain⟨g,cap,cur,rfl,_,kg,qm,fz,bx,au⟩:=gS h.own (fun e=>by rw[e]at hi;cases hi);have Cg:a≠b:=fun e=>ig (by
  subst e;exact(aWd hi h.nodup).1 (by rw[ha,hb]))
 have ks:=h.side;have ka:=h.nodes i a ha;have kb:=h.nodes j b hb;have ue:s≠g:=aB ks kg (aM (by decide));have qh:a≠g:=aB ka kg (aM (by decide));have Om:b≠g:=aB kb kg (aM (by decide));have has:a≠s:=aB ka ks (aM (by decide));have ep:b≠s:=aB kb ks (aM (by decide));have ci:=bx i a ha;have cj:=bx j b hb;have HA:=Hi ha;have HB:=Hi hb;have Xk:=Hi bx;have Fh:=Hi au;have KG0:=Hi kg;clear h bx au ha hb;go_enter Tryz.func221,Tryz.ntmps221;have cj2:(cur.setIfInBounds i (ptrV b))[j]? =some (ptrV b):=by rw[aXq ig,cj]
 go_upto_region 0 with fail;have Lks:=aA ks;have Lkg:=aA kg;have Lka:=aA ka;have Lkb:=aA kb;refine ZP [0,0,0,1,0,0,0,0,1,0,0,0,0,1,0,0,1,0,0,0,1,0,0,1,0,5,0,6] ?_
 iterate 25 first|refine Zv ?_|refine Zd ?_
 refine Zi fun w2 hr=> ?_;replace ks:=hr.q ks;replace kg:=hr.q kg;replace ka:=hr.q ka;replace kb:=hr.q kb;refine ZS ?_;refine ZM kg fun wn kg mS=> ?_;have m3:=hr.mod.then0 (Mod.refl _ _);have m3:=(hr.mod.mono (fun _ _ h=>h.elim)).then mS (fun i _ e=>e);refine Ze ?_;refine Zz ?_;refine ZS ?_;refine ZN kg fun wn kg mS=> ?_;have m4:=m3.then mS (fun i _ e=>e);have c2i:((cur.setIfInBounds i (ptrV b)).setIfInBounds j (ptrV a))[i]? =some (ptrV b):=by
  rw[aXq (Ne.symm ig),aWc (by omega)]
 have c2j:((cur.setIfInBounds i (ptrV b)).setIfInBounds j (ptrV a))[j]? =some (ptrV a):=by
  rw[aWc (by rw[aWj];omega)]
 have Ox:((cur.setIfInBounds i (ptrV b)).setIfInBounds j (ptrV a)).size=cur.size:=by simp
 have Cu:Hid (∀(c x:Nat),(swapL L i j)[c]? =some x→((cur.setIfInBounds i (ptrV b)).setIfInBounds j (ptrV a))[c]? =some (ptrV x)):=Hi (fun c x hx=>by
  rw[d8 hi hj]at hx;by_cases h1:c=j
  ·subst h1;rw[if_pos rfl,HA.out]at hx;cases hx;exact c2j
  ·rw[if_neg h1]at hx;rw[aXq (Ne.symm h1)];by_cases h2:c=i
   ·subst h2;rw[if_pos rfl,HB.out]at hx;cases hx;rw[aWc (by omega)]
   ·rw[if_neg h2]at hx;rw[aXq (Ne.symm h2)];exact Xk.out c x hx)
 generalize(cur.setIfInBounds i (ptrV b)).setIfInBounds j (ptrV a)=cur2 at *;replace ks:=m4.at H.out.side ue;replace ka:=m4.at (H.out.nodes i a HA.out) qh;replace kb:=m4.at (H.out.nodes j b HB.out) Om;clear cj2 ci cj fz;cases k
 ·
  replace ka:=show _=some (Obj.cells (ndc false (nd a) i (o a)) _ _)from ka
  replace kb:=show _=some (Obj.cells (ndc false (nd b) j (o b)) _ _)from kb
  simp only[ndc,if_true,if_false,aZr]at ka kb;simp only[x4,kn,if_true,if_false,aZr]at ks;go_upto_region 1 with fail;have Lks:=aA ks;have Lkg:=aA kg;have Lka:=aA ka;have Lkb:=aA kb;refine pN (C:=fun _ _ _=>False) (κ:=fun i=>[0,0,0,1,0,0,1,0,0,0,1,0,0,0,1,0,0,1,0,0,0,1,0,0,0,0,0,5,0,0,0,6].getD i 0) [0,1,2,3,4,5,6,7,8,9,10,11,12,13,14,15,16,17,18,19,20,21,22,23,24,25,26,28,29,27,30,31] (by kernel_rfl) (by kernel_rfl) (fun _ _ d _ _ h=>by cases d<;>first|exact h|exact absurd h (hP _ _ _)) ?_
  iterate 29 first|refine Zv ?_|refine Zd ?_
  refine Zi fun w5 hr=> ?_;replace ks:=hr.q ks;replace kg:=hr.q kg;replace ka:=hr.q ka;replace kb:=hr.q kb;have m5:=m4.then0 hr.mod;refine ZS ?_;refine ZM kb fun wn kb mS=> ?_;(try simp only[Array.setIfInBounds,zL]at kb);have m6:Mod (fun i=>i=g∨i=b) w wn:=(m5.mono (fun i _ e=> .inl e)).then mS (fun i _ e=> .inr e);replace ka:=mS.at_ne ka Cg;replace kg:=mS.at_ne kg (Ne.symm Om);refine Ze ?_;refine Zz ?_;refine ZS ?_;refine ZN ka fun wn ka mS=> ?_;(try simp only[Array.setIfInBounds,zL]at ka);have m7:Mod (fun i=>i=g∨i=b∨i=a) w wn:=(m6.mono (fun i _ e=>e.elim .inl (fun h=> .inr (.inl h)))).then mS (fun i _ e=> .inr (.inr e));replace kb:=mS.at_ne kb (Ne.symm Cg);replace kg:=mS.at_ne kg (Ne.symm qh);replace ks:=m7.at H.out.side (fun e=>by rcases e with e|e|e;exact ue e;exact ep e.symm;exact has e.symm);clear hr;go_wp2_with fail;go_end0;refine⟨rfl,⟨ks,Fh.out _ _ _ kg Ox (swapL_length _ _) Cu.out,fun c x hx=> ?_⟩,m7.mono (fun t _ e=> ?_)⟩
  ·rw[d8 hi hj]at hx;by_cases h1:c=j
   ·subst h1;rw[if_pos rfl,HA.out]at hx;cases hx;exact ka
   ·rw[if_neg h1]at hx;by_cases h2:c=i
    ·subst h2;rw[if_pos rfl,HB.out]at hx;cases hx;exact kb
    ·rw[if_neg h2]at hx;have h3:=H.out.nodes c x hx;refine m7.at h3 (fun e=> ?_);rcases e with e|e|e
     ·exact(aB h3 KG0.out (aM (by decide))) e
     ·exact h1 ((aWd hj H.out.nodup).1 (by rw[hx,HB.out,e])).symm
     ·exact h2 ((aWd hi H.out.nodup).1 (by rw[hx,HA.out,e])).symm
  ·rcases e with rfl|rfl|rfl
   ·exact .inl rfl
   ·exact .inr (aZi HB.out)
   ·exact .inr (aZi HA.out)
 ·
  replace ka:=show _=some (Obj.cells (ndc true (nd a) i (o a)) _ _)from ka
  replace kb:=show _=some (Obj.cells (ndc true (nd b) j (o b)) _ _)from kb
  simp only[ndc,if_true,if_false,aZr]at ka kb;simp only[x4,kn,if_true,if_false,aZr]at ks;go_upto_region 1 with fail;have Lks:=aA ks;have Lkg:=aA kg;have Lka:=aA ka;have Lkb:=aA kb;refine pN (C:=fun _ _ _=>False) (κ:=fun i=>[0,0,0,1,0,0,1,0,0,0,1,0,0,0,1,0,0,1,0,0,0,1,0,0,0,0,0,5,0,0,0,6].getD i 0) [0,1,2,3,4,5,6,7,8,9,10,11,12,13,14,15,16,17,18,19,20,21,22,23,24,25,26,28,29,27,30,31] (by kernel_rfl) (by kernel_rfl) (fun _ _ d _ _ h=>by cases d<;>first|exact h|exact absurd h (hP _ _ _)) ?_
  iterate 29 first|refine Zv ?_|refine Zd ?_
  refine Zi fun w5 hr=> ?_;replace ks:=hr.q ks;replace kg:=hr.q kg;replace ka:=hr.q ka;replace kb:=hr.q kb;have m5:=m4.then0 hr.mod;refine ZS ?_;refine ZM kb fun wn kb mS=> ?_;(try simp only[Array.setIfInBounds,zL]at kb);have m6:Mod (fun i=>i=g∨i=b) w wn:=(m5.mono (fun i _ e=> .inl e)).then mS (fun i _ e=> .inr e);replace ka:=mS.at_ne ka Cg;replace kg:=mS.at_ne kg (Ne.symm Om);refine Ze ?_;refine Zz ?_;refine ZS ?_;refine ZN ka fun wn ka mS=> ?_;(try simp only[Array.setIfInBounds,zL]at ka);have m7:Mod (fun i=>i=g∨i=b∨i=a) w wn:=(m6.mono (fun i _ e=>e.elim .inl (fun h=> .inr (.inl h)))).then mS (fun i _ e=> .inr (.inr e));replace kb:=mS.at_ne kb (Ne.symm Cg);replace kg:=mS.at_ne kg (Ne.symm qh);replace ks:=m7.at H.out.side (fun e=>by rcases e with e|e|e;exact ue e;exact ep e.symm;exact has e.symm);clear hr;go_wp2_with fail;go_end0;refine⟨rfl,⟨ks,Fh.out _ _ _ kg Ox (swapL_length _ _) Cu.out,fun c x hx=> ?_⟩,m7.mono (fun t _ e=> ?_)⟩
  ·rw[d8 hi hj]at hx;by_cases h1:c=j
   ·subst h1;rw[if_pos rfl,HA.out]at hx;cases hx;exact ka
   ·rw[if_neg h1]at hx;by_cases h2:c=i
    ·subst h2;rw[if_pos rfl,HB.out]at hx;cases hx;exact kb
    ·rw[if_neg h2]at hx;have h3:=H.out.nodes c x hx;refine m7.at h3 (fun e=> ?_);rcases e with e|e|e
     ·exact(aB h3 KG0.out (aM (by decide))) e
     ·exact h1 ((aWd hj H.out.nodup).1 (by rw[hx,HB.out,e])).symm
     ·exact h2 ((aWd hi H.out.nodup).1 (by rw[hx,HA.out,e])).symm
  ·rcases e with rfl|rfl|rfl
   ·exact .inl rfl
   ·exact .inr (aZi HB.out)
   ·exact .inr (aZi HA.out)
end
end
section
open Go.RowKit Go.Sort
attribute [local go_sem↓] eG gM fY d9
attribute [local go_sem] rkc_size ndc_size aJ aC aO aL aQ aI aP Value.cells cY
section
variable {w w':We} {s:Nat} {k:Bool} {v:Wg} {L:Wd} {nd:Nat→Nd} {o:Nat→Int}
theorem JI {base g cap:Nat} (h:aE pc 1 212 w base (.slice (some ⟨g,0,none⟩) L.length cap) L) {m:Nat} (hm:m≤L.length):aE pc 1 212 w base (.slice (some ⟨g,0,none⟩) m cap) (L.take m):=by
 have hl:(L.take m).length=m:=by rw[aZ4];omega
 rcases h.2 with⟨h,_⟩|⟨g',cap',cur,hv,hb,hg,se,tv,fz,br⟩
 ·cases h
 ·simp only[Value.slice.injEq,aYm,Addr.mk.injEq,and_true,true_and]at hv;obtain⟨rfl,rfl⟩:=hv;refine⟨?_,.inr ⟨g,cap,cur,by rw[hl],hb,hg,by omega,tv,fz,?_⟩⟩
  ·rw[bU];simp
  ·rw[bU,hl,List.map_take,←bU,←br,List.take_take];congr 1;omega
theorem X1 (n:Nat) (w:We):(Instr.buildSlice 224 1 #[(0,ptrV n)]).run Tryz.prog w= .ok (.slice (some ⟨w.heap.size,0,none⟩) 1 1) (w.alloc (.cells (pc n) 212)):=by
 obtain⟨i0,z,hi,hz,bj,bp,yj⟩:=o3.info;refine run_buildSlice w _ _ 1 _ _ i0 _ Tryz.underlying224 hi hz (by rw[bj];omega) (by rw[bj];omega) ?_;rw[bj];show Instr.fill _ _ [(0,_)]=_;rw[cZ (off:=0) (n:=1) rfl rfl (by simp)];show some (wr _ 0 (pc n).toList)=_;rw[fI (pc n) _ (by simp[pc,yj])]
theorem ta (n:Nat) (w:We):(Instr.typeAssert (.iface 212 (ptrV n)) 20 212 true).run Tryz.prog w= .ok (.tuple #[ptrV n,.bool true]) w:=by kernel_rfl
theorem RV (h:Sd w s k v L nd o) {n:Nat} {i0:Int} (hn:w.heap[n]? =some (.cells (ndc k (nd n) i0 (o n)) 222 (0,0))) (hnL:n∉L) (hl:L.length≤900000):Calls Tryz.prog 220 #[ptrV s,.iface 212 (ptrV n)] w fun e w'=>
  e= .returned (.tuple #[])∧∃v',Sd w' s k v' (L++[n]) nd o∧Mod (fun x=>x=s∨x=n∨v.ownBlock=some x) w w'∧(v'.ownBlock=v.ownBlock∨∃g,v'.ownBlock=some g∧w.heap.size≤g):=by
 have H:=Hi h;have HN:=Hi hn;have HNL:=Hi hnL;obtain⟨a,c,rfl,_,bn,_⟩:=h.own.at o3;have HO:=Hi bn;have ks:=h.side;have kn0:=hn;have Qw:n≠s:=aB hn ks (aM (by decide));have ep:=X1 n;have hta:=ta n;clear h hn hnL bn;go_enter Tryz.func220,Tryz.ntmps220;cases k
 ·
  replace kn0:=show _=some (Obj.cells (ndc false (nd n) i0 (o n)) _ _)from kn0
  simp only[ndc,if_true,if_false,aZr]at kn0;simp only[x4,kn,if_true,if_false,aZr]at ks;go_upto_region 1 with fail;have Lks:=aA ks;have Lkn0:=aA kn0;refine ZP [0,0,0,0,1,0,0,0,1,0,0,0,0,5] ?_
  iterate 13 first|refine Zv ?_|refine Zd ?_
  refine Zi fun wE hr=> ?_;replace ks:=hr.mod.at0 ks;replace kn0:=hr.mod.at0 kn0;have mE:=hr.mod;refine ZS ?_;refine ZN kn0 fun w1 kn0 mS=> ?_;(try simp only[Array.setIfInBounds,zL]at kn0);replace ks:=mS.at_ne ks (by omega);have m1:Mod (fun x=>x=n) w w1:=(mE.mono (fun _ _ h=>h.elim)).then mS (fun _ _ h=>h);replace ks:=m1.at H.out.side (Ne.symm Qw);simp only[x4,kn,if_true,if_false,aZr]at ks;go_upto_region 2 with fail;have Lks:=aA ks;have Lkn0:=aA kn0;refine ZP0 [0,0,0,0,1,0,3,5,0,0,6] ?_
  iterate 6 first|refine Zv ?_|refine Zd ?_
  refine Zy ep fun p30 hp30=> ?_;refine Zi fun w2 hr=> ?_;replace ks:=hr.q ks;replace kn0:=hr.q kn0;obtain⟨gp30,kp30⟩:=hr.b p30;have li:aS pc 1 w2 (some ⟨p30,0,none⟩) [n]:=aS.one kp30 n rfl rfl;have m2:=m1.then0 hr.mod;have Jp:∀g,(Value.slice a L.length c).ownBlock=some g→g≠n∧g≠s:=fun g hg=>by
   obtain⟨cur,kg⟩:=cJ H.out.own hg;exact⟨aB kg HN.out (aM (by decide)),aB kg H.out.side (aM (by decide))⟩
  have Ht:=Hi Jp;have vr:=H.out.own.mod m2 (fun g hg=>(Jp g hg).1);clear Jp;obtain⟨v3,w3,az,Ig,m3,jk⟩:=aE.append o3 (c:=1) vr li (by simp;omega) (by decide) (aYf _) 224;replace ks:=m3.at ks (fun e=>(Ht.out s e).2 rfl);replace kn0:=m3.at kn0 (fun e=>(Ht.out n e).1 rfl);have m4:Mod (fun x=>x=n∨(Value.slice a L.length c).ownBlock=some x) w w3:=(m2.mono (fun _ _ h=> .inl h)).then m3 (fun _ _ h=> .inr h);obtain⟨va,vc,rfl,_⟩:=Ig.at o3;have Le:=Hi Ig;have Cz:=Hi jk;have Cb:=Hi m2.size;clear vr Ig li jk m3;refine ZA az ?_;refine Ze ?_;refine Ze ?_;refine Zz ?_;refine ZS ?_;refine ZN ks fun wn ks mS=> ?_;(try simp only[Array.setIfInBounds,zL]at ks);replace ks:wn.heap[s]? =some (.cells (x4 false (.slice va (L++[n]).length vc)) 226 (0,0)):=by
   rw[aZg];exact ks
  have m5:Mod (fun x=>x=s∨x=n∨(Value.slice a L.length c).ownBlock=some x) w wn:=(m4.mono (fun _ _ h=> .inr h)).then mS (fun _ _ h=> .inl h);replace kn0:=mS.at_ne kn0 Qw;have zc:=Hi mS;have fk:=aA H.out.side;clear mS;go_wp2_with fail;go_end0;have bn:∀g,(Value.slice va (L++[n]).length vc).ownBlock=some g→g≠s:=fun g hg e=>by
   rcases Cz.out with h|h
   ·rw[h]at hg;exact(Ht.out g hg).2 e
   ·rw[h]at hg;cases hg;have:=Cb.out;omega
  refine⟨rfl,.slice va (L++[n]).length vc,⟨ks,Le.out.mod zc.out bn,fun i b nj=> ?_⟩,m5,?_⟩
  ·by_cases hi:i<L.length
   ·rw[aZt hi]at nj;have h3:=H.out.nodes i b nj;refine m5.at h3 (fun e=> ?_);rcases e with e|e|e
    ·exact aB h3 H.out.side (aM (by decide)) e
    ·exact HNL.out (e▸aZi nj)
    ·obtain⟨cur,kg⟩:=cJ H.out.own e;exact aB h3 kg (aM (by decide)) rfl
   ·rw[aZ3 (by omega)]at nj;have h0:=(aZa.1 nj).1;simp only[aZx]at h0;obtain rfl:i=L.length:=by omega
    rw[aXn]at nj;cases nj;exact kn0
  ·rcases Cz.out with h|h
   ·exact .inl h
   ·exact .inr ⟨_,h,Cb.out⟩
 ·
  replace kn0:=show _=some (Obj.cells (ndc true (nd n) i0 (o n)) _ _)from kn0
  simp only[ndc,if_true,if_false,aZr]at kn0;simp only[x4,kn,if_true,if_false,aZr]at ks;go_upto_region 1 with fail;have Lks:=aA ks;have Lkn0:=aA kn0;refine ZP [0,0,0,0,1,0,0,0,1,0,0,0,0,5] ?_
  iterate 13 first|refine Zv ?_|refine Zd ?_
  refine Zi fun wE hr=> ?_;replace ks:=hr.mod.at0 ks;replace kn0:=hr.mod.at0 kn0;have mE:=hr.mod;refine ZS ?_;refine ZN kn0 fun w1 kn0 mS=> ?_;(try simp only[Array.setIfInBounds,zL]at kn0);replace ks:=mS.at_ne ks (by omega);have m1:Mod (fun x=>x=n) w w1:=(mE.mono (fun _ _ h=>h.elim)).then mS (fun _ _ h=>h);replace ks:=m1.at H.out.side (Ne.symm Qw);simp only[x4,kn,if_true,if_false,aZr]at ks;go_upto_region 2 with fail;have Lks:=aA ks;have Lkn0:=aA kn0;refine ZP0 [0,0,0,0,1,0,3,5,0,0,6] ?_
  iterate 6 first|refine Zv ?_|refine Zd ?_
  refine Zy ep fun p30 hp30=> ?_;refine Zi fun w2 hr=> ?_;replace ks:=hr.q ks;replace kn0:=hr.q kn0;obtain⟨gp30,kp30⟩:=hr.b p30;have li:aS pc 1 w2 (some ⟨p30,0,none⟩) [n]:=aS.one kp30 n rfl rfl;have m2:=m1.then0 hr.mod;have Jp:∀g,(Value.slice a L.length c).ownBlock=some g→g≠n∧g≠s:=fun g hg=>by
   obtain⟨cur,kg⟩:=cJ H.out.own hg;exact⟨aB kg HN.out (aM (by decide)),aB kg H.out.side (aM (by decide))⟩
  have Ht:=Hi Jp;have vr:=H.out.own.mod m2 (fun g hg=>(Jp g hg).1);clear Jp;obtain⟨v3,w3,az,Ig,m3,jk⟩:=aE.append o3 (c:=1) vr li (by simp;omega) (by decide) (aYf _) 224;replace ks:=m3.at ks (fun e=>(Ht.out s e).2 rfl);replace kn0:=m3.at kn0 (fun e=>(Ht.out n e).1 rfl);have m4:Mod (fun x=>x=n∨(Value.slice a L.length c).ownBlock=some x) w w3:=(m2.mono (fun _ _ h=> .inl h)).then m3 (fun _ _ h=> .inr h);obtain⟨va,vc,rfl,_⟩:=Ig.at o3;have Le:=Hi Ig;have Cz:=Hi jk;have Cb:=Hi m2.size;clear vr Ig li jk m3;refine ZA az ?_;refine Ze ?_;refine Ze ?_;refine Zz ?_;refine ZS ?_;refine ZN ks fun wn ks mS=> ?_;(try simp only[Array.setIfInBounds,zL]at ks);replace ks:wn.heap[s]? =some (.cells (x4 true (.slice va (L++[n]).length vc)) 226 (0,0)):=by
   rw[aZg];exact ks
  have m5:Mod (fun x=>x=s∨x=n∨(Value.slice a L.length c).ownBlock=some x) w wn:=(m4.mono (fun _ _ h=> .inr h)).then mS (fun _ _ h=> .inl h);replace kn0:=mS.at_ne kn0 Qw;have zc:=Hi mS;have fk:=aA H.out.side;clear mS;go_wp2_with fail;go_end0;have bn:∀g,(Value.slice va (L++[n]).length vc).ownBlock=some g→g≠s:=fun g hg e=>by
   rcases Cz.out with h|h
   ·rw[h]at hg;exact(Ht.out g hg).2 e
   ·rw[h]at hg;cases hg;have:=Cb.out;omega
  refine⟨rfl,.slice va (L++[n]).length vc,⟨ks,Le.out.mod zc.out bn,fun i b nj=> ?_⟩,m5,?_⟩
  ·by_cases hi:i<L.length
   ·rw[aZt hi]at nj;have h3:=H.out.nodes i b nj;refine m5.at h3 (fun e=> ?_);rcases e with e|e|e
    ·exact aB h3 H.out.side (aM (by decide)) e
    ·exact HNL.out (e▸aZi nj)
    ·obtain⟨cur,kg⟩:=cJ H.out.own e;exact aB h3 kg (aM (by decide)) rfl
   ·rw[aZ3 (by omega)]at nj;have h0:=(aZa.1 nj).1;simp only[aZx]at h0;obtain rfl:i=L.length:=by omega
    rw[aXn]at nj;cases nj;exact kn0
  ·rcases Cz.out with h|h
   ·exact .inl h
   ·exact .inr ⟨_,h,Cb.out⟩
theorem JM {n:Nat} (h:Sd w s k v (L++[n]) nd o) (hl:L.length≤900000):Calls Tryz.prog 219 #[ptrV s] w fun e w'=>
  e= .returned (.iface 212 (ptrV n))∧∃v',Sd w' s k v' L nd o∧Mod (fun x=>x=s) w w'∧v'.ownBlock=v.ownBlock:=by
 have H:=Hi h;obtain⟨g,cap,cur,rfl,_,kg,qm,fz,bx,_⟩:=gS h.own (by simp);have ks:=h.side;have ue:s≠g:=aB ks kg (aM (by decide));have cn:=bx L.length n (by simp);have ag:(L++[n]).length=L.length+1:=by simp
 have ht:=JI h.own (m:=L.length) (by omega);rw[List.take_left]at ht;have HT:=Hi ht;have fy:∀w,(Instr.sliceAt 224 (.slice (some ⟨g,0,none⟩) (L.length+1) cap) none (some (.int .i64 (L.length:Int))) none).run Tryz.prog w= .ok (.slice (some ⟨g,0,none⟩) L.length cap) w:=CP o3 (by omega);have Hc:IntKind.i64.wrap (((L.length+1:Nat):Int)-1)=(L.length:Int):=by
  rw[IntKind.wrap_i64];omega
 have ny:IntKind.i64.wrap (L.length:Int)=(L.length:Int):=by
  rw[IntKind.wrap_i64];omega
 have hlt1:(L.length:Int)<(L.length:Int)+1:=by omega
 rw[ag]at ks;clear h bx ht qm fz;go_enter Tryz.func219,Tryz.ntmps219;go_upto_region 1 with fail;have Lks:=aA ks;have Lkg:=aA kg;refine ZP0 [0,0,0,1,0,0,0] ?_
 iterate 7 first|refine Zv ?_|refine Zd ?_
 refine TD.nil (fun w1 hr=> ?_);replace ks:=hr.q ks;replace kg:=hr.q kg;have m1:=hr.mod;clear hr;go_upto_region 2 with fail;have Lks:=aA ks;have Lkg:=aA kg;refine ZP0 [0,0,0,1,0,0,1,0] ?_
 iterate 8 first|refine Zv ?_|refine Zd ?_
 refine TD.nil (fun w2 hr=> ?_);replace ks:=hr.q ks;replace kg:=hr.q kg;have m2:=m1.then0 hr.mod;clear hr;go_upto_region 3 with fail;have Lks:=aA ks;have Lkg:=aA kg;refine ZP0 [0,0,0,0,1,0,0,0,0,5] ?_
 iterate 6 first|refine Zv ?_|refine Zd ?_
 refine Zx fy ?_
 iterate 2 refine Zv ?_
 refine Zi fun wE hr=> ?_;replace ks:=hr.mod.at0 ks;replace kg:=hr.mod.at0 kg;have mE:=hr.mod;refine ZS ?_;refine ZN ks fun w3 ks mS=> ?_;(try simp only[Array.setIfInBounds,zL]at ks);replace kg:=mS.at_ne kg (by omega);have m3:Mod (fun x=>x=s) w w3:=(m2.then0 mE|>.mono (fun _ _ h=>h.elim)).then mS (fun _ _ h=>h);clear mE mS;go_wp2_with fail;go_ret;refine⟨rfl,.slice (some ⟨g,0,none⟩) L.length cap,⟨ks,HT.out.mod m3 (fun g' hg e=> ?_),fun i b nj=> ?_⟩,m3,rfl⟩
 ·cases hg;exact ue e.symm
 ·have h3:=H.out.nodes i b (by rw[aZt (aZa.1 nj).1];exact nj);exact m3.at h3 (fun e=>aB h3 H.out.side (aM (by decide)) e)
end
end
section
open Go.RowKit Go.Sort
attribute [local go_sem↓] eG gM fY d9
attribute [local go_sem] rkc_size ndc_size aJ aC aO aL aQ aI aP Value.cells cY
def bG (k:Bool) (nd:Nat→Nd) (a b:Nat):Bool:=xE k (nd a) (nd b)
theorem eK (k:Bool) (nd:Nat→Nd):yN (bG k nd):=⟨fun _ _ h=>flt_asymm h,fun _ _ _ h1 h2=>uI h1 h2⟩
abbrev TF (s:Nat):Value:= .iface 214 (ptrV s)
theorem m_less (v:Wg) (w:We):(method 443 214 v "Less").run Tryz.prog w= .ok (218,v) w:=by kernel_rfl
theorem qK (args:Wa) (w:We):(callFunc 218 args).run Tryz.prog w= .ok (.enter 218 args) w:=enters_of Tryz.func218 (by kernel_rfl) rfl args w
theorem m_swap (v:Wg) (w:We):(method 443 214 v "Swap").run Tryz.prog w= .ok (221,v) w:=by kernel_rfl
theorem qL (args:Wa) (w:We):(callFunc 221 args).run Tryz.prog w= .ok (.enter 221 args) w:=enters_of Tryz.func221 (by kernel_rfl) rfl args w
theorem m_len (v:Wg) (w:We):(method 443 214 v "Len").run Tryz.prog w= .ok (217,v) w:=by kernel_rfl
theorem ON (args:Wa) (w:We):(callFunc 217 args).run Tryz.prog w= .ok (.enter 217 args) w:=enters_of Tryz.func217 (by kernel_rfl) rfl args w
theorem m_push (v:Wg) (w:We):(method 443 214 v "Push").run Tryz.prog w= .ok (220,v) w:=by kernel_rfl
theorem P8 (args:Wa) (w:We):(callFunc 220 args).run Tryz.prog w= .ok (.enter 220 args) w:=enters_of Tryz.func220 (by kernel_rfl) rfl args w
theorem m_pop (v:Wg) (w:We):(method 443 214 v "Pop").run Tryz.prog w= .ok (219,v) w:=by kernel_rfl
theorem GZ (args:Wa) (w:We):(callFunc 219 args).run Tryz.prog w= .ok (.enter 219 args) w:=enters_of Tryz.func219 (by kernel_rfl) rfl args w
section
variable {w w':We} {s:Nat} {k:Bool} {v:Wg} {L:Wd} {nd:Nat→Nd} {o:Nat→Int}
theorem up_c (h:Sd w s k v L nd o) {n j:Nat} (hn:n≤L.length) (hj:j<n) (hl:L.length≤900000) (hu:pX (bG k nd) n L j):Calls Tryz.prog 135 #[TF s,.int .i64 (j:Int)] w fun e w'=>
  e= .returned (.tuple #[])∧∃L',Sd w' s k v L' nd o∧bF (bG k nd) n L'∧L'.Perm L∧(∀c,n≤c→L'[c]? =L[c]?)∧Mod (fun x=>v.ownBlock=some x∨x∈L) w w':=by
 have H:=Hi h;have HU:=Hi hu;clear h hu;go_enter Tryz.func135,Tryz.ntmps135;go_wp2_with fail;go_loopw [1,4] (fun s1 s4 ws=>∃(j:Nat) (L':Wd),j<n∧s1= .int .i64 (j:Int)∧Hid (Sd ws s k v L' nd o∧pX (bG k nd) n L' j∧L'.Perm L∧(∀c,n≤c→L'[c]? =L[c]?)∧Mod (fun x=>v.ownBlock=some x∨x∈L) w ws)) (fun s1 _ _=>(intOf s1).toNat)
 case atStart=>exact⟨j,L,hj,rfl,Hi ⟨H.out,HU.out,.refl _,fun _ _=>rfl,Mod.refl _ _⟩⟩
 case round=>
  obtain⟨j,L',hj,rfl,HR⟩:=hrel;rcases aWk j with rfl|hj0
  ·go_wp2_with fail;go_end0;obtain⟨h1,h2,h3,h4,h5⟩:=HR.out;exact⟨rfl,L',h1,h2.stop (.inl rfl),h3,h4,h5⟩
  ·have ht:((j:Int)-1).tdiv 2=(((j-1)/2:Nat):Int):=by
    rw[Int.tdiv_eq_ediv_of_nonneg (by omega)];omega
   have nj:((((j-1)/2:Nat):Int)==(j:Int))=false:=by
    rw[beq_eq_false_iff_ne];omega
   have hi:(j-1)/2<j:=by omega
   have HI:Hid ((j-1)/2=(j-1)/2):=Hi rfl;generalize yu:(j-1)/2=i at *;go_wp2_with fail;rw[m_less];simp only[Result.andThen,qK,Oper.upon];have ag:n≤L'.length:=by rw[HR.out.2.2.1.length_eq];exact hn
   obtain⟨a,ha⟩:∃a,L'[j]? =some a:=⟨_,aZb (by omega)⟩;obtain⟨b,hb⟩:∃b,L'[i]? =some b:=⟨_,aZb (by omega)⟩;refine(rB HR.out.1 ha hb).mono ?_;rintro e w1 ⟨rfl,m1⟩;have HA:=Hi ha;have HB:=Hi hb;clear ha hb;cases hlt:xE k (nd a) (nd b)
   ·have jh:=Hi hlt;clear hlt;go_wp2_with fail;go_end0;obtain⟨h1,h2,h3,h4,h5⟩:=HR.out;refine⟨rfl,L',h1.mod0 m1,h2.stop (.inr (fun x y hx hy=> ?_)),h3,h4,h5.then0 m1⟩;rw[HA.out]at hx;rw[yu,HB.out]at hy;cases hx;cases hy;exact jh.out
   ·have jh:=Hi hlt;clear hlt;go_wp2_with fail;rw[m_swap];simp only[Result.andThen,qL,Oper.upon];refine(rQ (HR.out.1.mod0 m1) (i:=i) (j:=j) (by omega) (by omega) (by omega)).mono ?_;rintro e w2 ⟨rfl,iw,m2⟩;have Ca:=Hi iw;clear iw;obtain⟨h1,h2,h3,h4,h5⟩:=HR.out;have HX:Hid (Sd w2 s k v (swapL L' i j) nd o∧pX (bG k nd) n (swapL L' i j) i∧(swapL L' i j).Perm L∧(∀c,n≤c→(swapL L' i j)[c]? =L[c]?)∧Mod (fun x=>v.ownBlock=some x∨x∈L) w w2):=Hi (by
     refine⟨Ca.out,?_,(lT (by omega) (by omega)).trans h3,fun c hc=> ?_,(h5.then0 m1).then m2 (fun x _ e=>e.elim .inl (fun e=> .inr (h3.mem_iff.1 e)))⟩
     ·have:=h2.step (eK k nd) ag hj0 hj HA.out (by rw[yu];exact HB.out) jh.out;rwa[yu]at this
     ·rw[d8 (by omega) (by omega),if_neg (by omega),if_neg (by omega),h4 c hc])
    clear h1 h2 h3 h4 h5;go_wp2_with fail;go_roundw
    case rel=>exact⟨i,swapL L' i j,by omega,rfl,HX⟩
    case measure=>simp[intOf];omega
end
end
section
open Go.RowKit Go.Sort
attribute [local go_sem↓] eG gM fY d9
attribute [local go_sem] rkc_size ndc_size aJ aC aO aL aQ aI aP Value.cells cY
theorem flt_irrefl (k:Bool) (a:Nd):xE k a a=false:=by cases k<;>exact nlt_irrefl a
section
variable {w w':We} {s:Nat} {k:Bool} {v:Wg} {L:Wd} {nd:Nat→Nd} {o:Nat→Int}
def LG (w ws:We) (s:Nat) (k:Bool) (v:Wg) (L L':Wd) (nd:Nat→Nd) (o:Nat→Int) (n i0 i:Nat):Prop:=
 Sd ws s k v L' nd o∧iW (bG k nd) n L' i∧(i0<i→nD (bG k nd) n L' i)∧L'.Perm L∧(∀c,n≤c→L'[c]? =L[c]?)∧Mod (fun x=>v.ownBlock=some x∨x∈L) w ws
def Y4 (w ws:We) (s:Nat) (k:Bool) (v:Wg) (L L':Wd) (nd:Nat→Nd) (o:Nat→Int) (n i0:Nat) (moved:Bool):Prop:=
 Sd ws s k v L' nd o∧(moved=true→bF (bG k nd) n L')∧(moved=false→pX (bG k nd) n L' i0)∧L'.Perm L∧(∀c,n≤c→L'[c]? =L[c]?)∧Mod (fun x=>v.ownBlock=some x∨x∈L) w ws
theorem LG.stop {w ws:We} {L L':Wd} {n i0 i:Nat} (h:LG w ws s k v L L' nd o n i0 i) (hi:i0≤i) (hs:jT (bG k nd) n L' i):Y4 w ws s k v L L' nd o n i0 (decide (i0<i)):=by
 obtain⟨h1,h2,h3,h4,h5,h6⟩:=h;refine⟨h1,fun e=> ?_,fun e=> ?_,h4,h5,h6⟩
 ·exact(h3 (of_decide_eq_true e)).stop hs
 ·have:=of_decide_eq_false e;obtain rfl:i0=i:=by omega
  exact h2.stop hs
theorem LG.mod0 {w ws wt:We} {L L':Wd} {n i0 i:Nat} (h:LG w ws s k v L L' nd o n i0 i) (hm:Mod (fun _=>False) ws wt):LG w wt s k v L L' nd o n i0 i:=by
 obtain⟨h1,h2,h3,h4,h5,h6⟩:=h;exact⟨h1.mod0 hm,h2,h3,h4,h5,h6.then0 hm⟩
theorem LG.step {w ws wt:We} {L L':Wd} {n i0 i j a b:Nat} (h:LG w ws s k v L L' nd o n i0 i) (hn:n≤L'.length) (hi:i0≤i) (hf:sJ (bG k nd) n L' i j) (ha:L'[j]? =some a) (hb:L'[i]? =some b) (hlt:xE k (nd a) (nd b)=true)
  (hS:Sd wt s k v (swapL L' i j) nd o) (hm:Mod (fun x=>v.ownBlock=some x∨x∈L') ws wt):LG w wt s k v L (swapL L' i j) nd o n i0 j:=by
 obtain⟨h1,h2,h3,h4,h5,h6⟩:=h;have hj:=hf.2.1;have ig:i<j:=by have:=hf.1;omega
 have hd:=h2.step (eK k nd) hn hf ha hb hlt;refine⟨hS,hd.sift,fun _=>hd,(lT (by omega) (by omega)).trans h4,fun c hc=> ?_,h6.then hm (fun x _ e=>e.elim .inl (fun e=> .inr (h4.mem_iff.1 e)))⟩;rw[d8 (by omega) (by omega),if_neg (by omega),if_neg (by omega),h5 c hc]
theorem down_c (h:Sd w s k v L nd o) {n i0:Nat} (hn:n≤L.length) (ir:i0<n) (hl:L.length≤900000) (hu:iW (bG k nd) n L i0):Calls Tryz.prog 134 #[TF s,.int .i64 (i0:Int),.int .i64 (n:Int)] w fun e w'=>
  ∃L' moved,e= .returned (.bool moved)∧Y4 w w' s k v L L' nd o n i0 moved:=by
 have HH:Hid (LG w w s k v L L nd o n i0 i0):=Hi ⟨h,hu,fun e=>by omega,.refl _,fun _ _=>rfl,Mod.refl _ _⟩;clear h hu;go_enter Tryz.func134,Tryz.ntmps134;go_wp2_with fail;go_loopw [7,8,9,10] (fun s7 s8 s9 s10 ws=>∃(i:Nat) (L':Wd),i<n∧i0≤i∧s7= .int .i64 (i:Int)∧Hid (LG w ws s k v L L' nd o n i0 i)) (fun s7 _ _ _ _=>n-(intOf s7).toNat)
 case atStart=>exact⟨i0,L,ir,aZq _,rfl,HH⟩
 case round=>
  clear ir;obtain⟨i,L',hi,ir,rfl,HR⟩:=hrel;have ag:n≤L'.length:=by rw[HR.out.2.2.2.1.length_eq];exact hn
  have e1:2*(i:Int)+1=((2*i+1:Nat):Int):=by omega
  have e2:((2*i+1:Nat):Int)+1=((2*i+2:Nat):Int):=by omega
  have ig:i<2*i+1:=by omega
  have ur:2*i+1<2*i+2:=by omega
  generalize rr:2*i+1=c1 at *;generalize cm:2*i+2=c2 at *;have Ky:=Hi rr;have Uh:=Hi cm;clear rr cm;by_cases hc:c1<n
  ·
   by_cases pp:c2<n
   ·obtain⟨x1,gy⟩:∃a,L'[c1]? =some a:=⟨_,aZb (by omega)⟩;obtain⟨x2,th⟩:∃a,L'[c2]? =some a:=⟨_,aZb (by omega)⟩;have Uv:=Hi gy;have Uw:=Hi th;clear gy th;go_wp2_with fail;rw[m_less];simp only[Result.andThen,qK,Oper.upon];refine(rB HR.out.1 Uw.out Uv.out).mono ?_;rintro e w1 ⟨rfl,m1⟩;have Hu:=Hi (HR.out.mod0 m1);clear m1 HR;cases hz:xE k (nd x2) (nd x1)
    ·have HF:Hid (sJ (bG k nd) n L' i c1):=Hi ⟨.inl Ky.out.symm,hc,fun c x y dt ur hx hy=>by
      rw[Uv.out]at hy;cases hy;rcases ur with e|e
      ·rw[show c=c1 by rw[e,Ky.out],Uv.out]at hx;cases hx;exact flt_irrefl _ _
      ·rw[show c=c2 by rw[e,Uh.out],Uw.out]at hx;cases hx;exact hz⟩
     clear hz;go_wp2_with fail;obtain⟨a,ha⟩:∃a,L'[c1]? =some a:=⟨_,aZb (by omega)⟩;obtain⟨b,hb⟩:∃b,L'[i]? =some b:=⟨_,aZb (by omega)⟩;rw[m_less];simp only[Result.andThen,qK,Oper.upon];refine(rB Hu.out.1 ha hb).mono ?_;rintro e w2 ⟨rfl,m2⟩;have HA:=Hi ha;have HB:=Hi hb;have qy:=Hi (Hu.out.mod0 m2);clear ha hb m2;cases hlt:xE k (nd a) (nd b)
     ·have HE:=Hi (qy.out.stop ir (jT.of_first (eK k nd) HF.out HA.out HB.out hlt));clear hlt;go_wp2_with fail;go_ret;exact⟨L',decide (i0<i),by simp,HE.out⟩
     ·have jh:=Hi hlt;clear hlt;go_wp2_with fail;rw[m_swap];simp only[Result.andThen,qL,Oper.upon];refine(rQ qy.out.1 (i:=i) (j:=c1) (by omega) (by omega) (by omega)).mono ?_;rintro e w3 ⟨rfl,tt,m3⟩;have HX:=Hi (qy.out.step ag ir HF.out HA.out HB.out jh.out tt m3);clear tt m3;go_wp2_with fail;go_roundw
      case rel=>exact⟨c1,swapL L' i c1,by omega,by omega,rfl,HX⟩
      case measure=>simp[intOf];omega
    ·have HF:Hid (sJ (bG k nd) n L' i c2):=Hi ⟨.inr Uh.out.symm,pp,fun c x y dt ur hx hy=>by
      rw[Uw.out]at hy;cases hy;rcases ur with e|e
      ·rw[show c=c1 by rw[e,Ky.out],Uv.out]at hx;cases hx;exact flt_asymm hz
      ·rw[show c=c2 by rw[e,Uh.out],Uw.out]at hx;cases hx;exact flt_irrefl _ _⟩
     clear hz;go_wp2_with fail;obtain⟨a,ha⟩:∃a,L'[c2]? =some a:=⟨_,aZb (by omega)⟩;obtain⟨b,hb⟩:∃b,L'[i]? =some b:=⟨_,aZb (by omega)⟩;rw[m_less];simp only[Result.andThen,qK,Oper.upon];refine(rB Hu.out.1 ha hb).mono ?_;rintro e w2 ⟨rfl,m2⟩;have HA:=Hi ha;have HB:=Hi hb;have qy:=Hi (Hu.out.mod0 m2);clear ha hb m2;cases hlt:xE k (nd a) (nd b)
     ·have HE:=Hi (qy.out.stop ir (jT.of_first (eK k nd) HF.out HA.out HB.out hlt));clear hlt;go_wp2_with fail;go_ret;exact⟨L',decide (i0<i),by simp,HE.out⟩
     ·have jh:=Hi hlt;clear hlt;go_wp2_with fail;rw[m_swap];simp only[Result.andThen,qL,Oper.upon];refine(rQ qy.out.1 (i:=i) (j:=c2) (by omega) (by omega) (by omega)).mono ?_;rintro e w3 ⟨rfl,tt,m3⟩;have HX:=Hi (qy.out.step ag ir HF.out HA.out HB.out jh.out tt m3);clear tt m3;go_wp2_with fail;go_roundw
      case rel=>exact⟨c2,swapL L' i c2,by omega,by omega,rfl,HX⟩
      case measure=>simp[intOf];omega
   ·have Hu:=HR;have HF:Hid (sJ (bG k nd) n L' i c1):=Hi ⟨.inl Ky.out.symm,hc,fun c x y dt ur hx hy=>by
      rcases ur with e|e
      ·rw[show c=c1 by rw[e,Ky.out],hy]at hx;cases hx;exact flt_irrefl _ _
      ·have:=Uh.out;omega⟩
    clear HR;go_wp2_with fail;obtain⟨a,ha⟩:∃a,L'[c1]? =some a:=⟨_,aZb (by omega)⟩;obtain⟨b,hb⟩:∃b,L'[i]? =some b:=⟨_,aZb (by omega)⟩;rw[m_less];simp only[Result.andThen,qK,Oper.upon];refine(rB Hu.out.1 ha hb).mono ?_;rintro e w2 ⟨rfl,m2⟩;have HA:=Hi ha;have HB:=Hi hb;have qy:=Hi (Hu.out.mod0 m2);clear ha hb m2;cases hlt:xE k (nd a) (nd b)
    ·have HE:=Hi (qy.out.stop ir (jT.of_first (eK k nd) HF.out HA.out HB.out hlt));clear hlt;go_wp2_with fail;go_ret;exact⟨L',decide (i0<i),by simp,HE.out⟩
    ·have jh:=Hi hlt;clear hlt;go_wp2_with fail;rw[m_swap];simp only[Result.andThen,qL,Oper.upon];refine(rQ qy.out.1 (i:=i) (j:=c1) (by omega) (by omega) (by omega)).mono ?_;rintro e w3 ⟨rfl,tt,m3⟩;have HX:=Hi (qy.out.step ag ir HF.out HA.out HB.out jh.out tt m3);clear tt m3;go_wp2_with fail;go_roundw
     case rel=>exact⟨c1,swapL L' i c1,by omega,by omega,rfl,HX⟩
     case measure=>simp[intOf];omega
  ·have HE:=Hi (HR.out.stop ir (jT.none (by have:=Ky.out;omega)));go_wp2_with fail;go_ret;exact⟨L',decide (i0<i),by simp,HE.out⟩
end
end
section
open Go.RowKit Go.Sort
attribute [local go_sem↓] eG gM fY d9
attribute [local go_sem] rkc_size ndc_size aJ aC aO aL aQ aI aP Value.cells cY
section
variable {w w':We} {s:Nat} {k:Bool} {v:Wg} {L:Wd} {nd:Nat→Nd} {o:Nat→Int}
theorem BX (h:Sd w s k v L nd o) {n:Nat} {i0:Int} (hn:w.heap[n]? =some (.cells (ndc k (nd n) i0 (o n)) 222 (0,0))) (hnL:n∉L) (hl:L.length≤800000) (hh:bF (bG k nd) L.length L):Calls Tryz.prog 92 #[TF s,.iface 212 (ptrV n)] w fun e w'=>
  e= .returned (.tuple #[])∧∃v' L',Sd w' s k v' L' nd o∧bF (bG k nd) L'.length L'∧L'.Perm (L++[n])∧Mod (fun x=>x=s∨x=n∨v.ownBlock=some x∨x∈L) w w'∧(v'.ownBlock=v.ownBlock∨∃g,v'.ownBlock=some g∧w.heap.size≤g):=by
 have hc:=RV h hn hnL (by omega);have HU:=Hi (hh.up n rfl (eK k nd));have Hc:IntKind.i64.wrap (((L.length+1:Nat):Int)-1)=(L.length:Int):=by
  rw[IntKind.wrap_i64];omega
 clear h hn hh;go_enter Tryz.func92,Tryz.ntmps92;go_wp2_with fail;rw[m_push];simp only[Result.andThen,P8,Oper.upon];refine hc.mono ?_;rintro e w1 ⟨rfl,v',hS,hm,hv⟩;have HS:=Hi hS;have HM:=Hi hm;have HV:=Hi hv;clear hS hm hv hc;have ag:(L++[n]).length=L.length+1:=by simp
 have HN:=Hi ag;clear ag;go_wp2_with fail;rw[m_len];simp only[Result.andThen,ON,Oper.upon];refine(OU HS.out).mono ?_;rintro e w2 ⟨rfl,rfl⟩;rw[HN.out];go_wp2_with fail;go_at_call 135;have hup:=up_c HS.out (n:=L.length+1) (j:=L.length) (by rw[HN.out];exact aZq _) (by omega) (by rw[HN.out];omega) HU.out;refine hup.mono ?_;rintro e w3 ⟨rfl,L',h1,h2,h3,h4,h5⟩;have HX:=Hi (Ai h1 (Ai h2 (Ai h3 h5)));clear h1 h2 h3 h4 h5 hup;go_wp2_with fail;go_end0;obtain⟨h1,h2,h3,h5⟩:=HX.out;refine⟨rfl,v',L',h1,by rw[h3.length_eq,HN.out];exact h2,h3,HM.out.mono (T:=fun x=>x=s∨x=n∨v.ownBlock=some x∨x∈L) (fun x _ e=> ?_)|>.then h5 (fun x hx e=> ?_),HV.out⟩
 ·rcases e with e|e|e
  ·exact .inl e
  ·exact .inr (.inl e)
  ·exact .inr (.inr (.inl e))
 ·rcases e with e|e
  ·rcases HV.out with hv|⟨g,hv,hg⟩
   ·rw[hv]at e;exact .inr (.inr (.inl e))
   ·rw[hv]at e;cases e;omega
  ·rcases aZh.1 e with e|e
   ·exact .inr (.inr (.inr e))
   ·exact .inr (.inl (aZm.1 e))
theorem uU {L2:Wd} {n x:Nat} (hl:L2.length=n+1) (hx:L2[n]? =some x):L2=L2.take n++[x]:=by
 have h1:=aY9 n L2;have h2:L2.drop n=[x]:=by
  rw[DY hx,List.drop_of_length_le (by omega)]
 rw[h2]at h1;exact h1.symm
theorem tC (h:Sd w s k v L nd o) {n i x:Nat} (hl:L.length=n+1) (hx:L[i]? =some x) (hn:n≤800000) (hh:bF (bG k nd) L.length L):Calls Tryz.prog 90 #[TF s,.int .i64 (i:Int)] w fun e w'=>
  ∃v' L',e= .returned (.iface 212 (ptrV x))∧Sd w' s k v' L' nd o∧bF (bG k nd) L'.length L'∧(L'++[x]).Perm L∧Mod (fun t=>t=s∨v.ownBlock=some t∨t∈L) w w'∧v'.ownBlock=v.ownBlock∧∃i':Int,w'.heap[x]? =some (.cells (ndc k (nd x) i' (o x)) 222 (0,0)):=by
 have hi:i<n+1:=by have:=(aZa.1 hx).1;omega
 have Li:=Hi hx;have H:=Hi h;have HHo:=Hi hh;have HL:=Hi hl;have ag:=OU h;have Hc:IntKind.i64.wrap (((n+1:Nat):Int)-1)=(n:Int):=by
  rw[IntKind.wrap_i64];omega
 rw[hl]at ag;clear h hh hx hl;go_enter Tryz.func90,Tryz.ntmps90;go_wp2_with fail;rw[m_len];simp only[Result.andThen,ON,Oper.upon];refine ag.mono ?_;rintro e w1 ⟨rfl,rfl⟩;clear ag;by_cases io:i=n
 ·subst io;have aw:((i:Int) !=(i:Int))=false:=by simp
  have hz:=uU HL.out Li.out;have HZ:Hid (Sd w1 s k v (L.take i++[x]) nd o∧bF (bG k nd) (L.take i).length (L.take i)∧(L.take i++[x]).Perm L∧Mod (fun t=>v.ownBlock=some t∨t∈L) w1 w1):=Hi (by
   rw[←hz];refine⟨H.out,?_,.refl _,Mod.refl _ _⟩;have h1:(L.take i).length=i:=by rw[aZ4,HL.out];omega
   rw[h1];exact(HHo.out.mono (by rw[HL.out];omega)).take)
  have Fl:Hid ((L.take i).length≤900000):=Hi (by rw[aZ4];omega);clear hz;go_wp2_with fail;rw[m_pop];simp only[Result.andThen,GZ,Oper.upon];refine(JM HZ.out.1 Fl.out).mono ?_;rintro e w9 ⟨rfl,v',mo,mu,wv⟩;have HX:=Hi (Ai mo (Ai mu wv));clear mo mu wv;go_wp2_with fail;go_ret;obtain⟨mo,mu,wv⟩:=HX.out;obtain⟨z1,z2,z3,z4⟩:=HZ.out;have kx:=z1.nodes _ x (by rw[aZ3 (aZq _),aXn];rfl);exact⟨v',_,rfl,mo,z2,z3,(z4.mono (fun _ _ e=> .inr e)).then mu (fun _ _ e=> .inl e),wv,_,mu.at kx (fun e=>aB kx z1.side (aM (by decide)) e)⟩
 ·have aw:((n:Int) !=(i:Int))=true:=by
   rw[bne_iff_ne];omega
  have Iy:i<n:=by omega
  go_wp2_with fail;rw[m_swap];simp only[Result.andThen,qL,Oper.upon];refine(rQ H.out (i:=i) (j:=n) (by rw[HL.out];omega) (by rw[HL.out];omega) (by omega)).mono ?_;rintro e w2 ⟨rfl,iw,m2⟩;have Ca:=Hi iw;have dd:=Hi m2;clear iw m2;have HSI:Hid (iW (bG k nd) n (swapL L i n) i):=Hi (bF.sift (eK k nd) (by rw[←HL.out];exact HHo.out) HL.out Iy);have Fo:Hid ((swapL L i n).length=n+1):=Hi (by rw[swapL_length,HL.out]);have Nl:Hid ((swapL L i n).Perm L):=Hi (lT (by rw[HL.out];omega) (by rw[HL.out];omega));have HXs:Hid ((swapL L i n)[n]? =some x):=Hi (by rw[d8 (by rw[HL.out];omega) (by rw[HL.out];omega),if_pos rfl,Li.out]);generalize swapL L i n=Ls at *;go_wp2_with fail;go_at_call 134;refine(down_c Ca.out (n:=n) (i0:=i) (by rw[Fo.out];omega) Iy (by rw[Fo.out];omega) HSI.out).mono ?_;rintro e w3 ⟨L3,moved,rfl,hE⟩;have HE:=Hi hE;clear hE;cases moved
  ·go_wp2_with fail;go_at_call 135;refine(up_c HE.out.1 (n:=n) (j:=i) (by rw[HE.out.2.2.2.1.length_eq,Fo.out];omega) Iy (by rw[HE.out.2.2.2.1.length_eq,Fo.out];omega) (HE.out.2.2.1 rfl)).mono ?_;rintro e w4 ⟨rfl,L4,h1,h2,h3,h4,h5⟩;have hz:=uU (L2:=L4) (n:=n) (x:=x) (by rw[h3.length_eq,HE.out.2.2.2.1.length_eq,Fo.out]) (by rw[h4 n (aZq _),HE.out.2.2.2.2.1 n (aZq _),HXs.out]);have HZ:Hid (Sd w4 s k v (L4.take n++[x]) nd o∧bF (bG k nd) (L4.take n).length (L4.take n)∧(L4.take n++[x]).Perm L∧Mod (fun t=>v.ownBlock=some t∨t∈L) w1 w4):=Hi (by
    rw[←hz];have e1:(L4.take n).length=n:=by rw[aZ4,h3.length_eq,HE.out.2.2.2.1.length_eq,Fo.out];omega
    refine⟨h1,by rw[e1];exact h2.take,(h3.trans HE.out.2.2.2.1).trans Nl.out,(dd.out.then HE.out.2.2.2.2.2 (fun t _ e=>e.elim .inl (fun e=> .inr (Nl.out.mem_iff.1 e)))).then h5 (fun t _ e=>e.elim .inl (fun e=> .inr (Nl.out.mem_iff.1 (HE.out.2.2.2.1.mem_iff.1 e))))⟩)
   have Fl:Hid ((L4.take n).length≤900000):=Hi (by rw[aZ4];omega);clear hz h1 h2 h3 h4 h5;go_wp2_with fail;rw[m_pop];simp only[Result.andThen,GZ,Oper.upon];refine(JM HZ.out.1 Fl.out).mono ?_;rintro e w9 ⟨rfl,v',mo,mu,wv⟩;have HX:=Hi (Ai mo (Ai mu wv));clear mo mu wv;go_wp2_with fail;go_ret;obtain⟨mo,mu,wv⟩:=HX.out;obtain⟨z1,z2,z3,z4⟩:=HZ.out;have kx:=z1.nodes _ x (by rw[aZ3 (aZq _),aXn];rfl);exact⟨v',_,rfl,mo,z2,z3,(z4.mono (fun _ _ e=> .inr e)).then mu (fun _ _ e=> .inl e),wv,_,mu.at kx (fun e=>aB kx z1.side (aM (by decide)) e)⟩
  ·have hz:=uU (L2:=L3) (n:=n) (x:=x) (by rw[HE.out.2.2.2.1.length_eq,Fo.out]) (by rw[HE.out.2.2.2.2.1 n (aZq _),HXs.out]);have HZ:Hid (Sd w3 s k v (L3.take n++[x]) nd o∧bF (bG k nd) (L3.take n).length (L3.take n)∧(L3.take n++[x]).Perm L∧Mod (fun t=>v.ownBlock=some t∨t∈L) w1 w3):=Hi (by
    rw[←hz];have e1:(L3.take n).length=n:=by rw[aZ4,HE.out.2.2.2.1.length_eq,Fo.out];omega
    refine⟨HE.out.1,by rw[e1];exact(HE.out.2.1 rfl).take,HE.out.2.2.2.1.trans Nl.out,dd.out.then HE.out.2.2.2.2.2 (fun t _ e=>e.elim .inl (fun e=> .inr (Nl.out.mem_iff.1 e)))⟩)
   have Fl:Hid ((L3.take n).length≤900000):=Hi (by rw[aZ4];omega);clear hz;go_wp2_with fail;rw[m_pop];simp only[Result.andThen,GZ,Oper.upon];refine(JM HZ.out.1 Fl.out).mono ?_;rintro e w9 ⟨rfl,v',mo,mu,wv⟩;have HX:=Hi (Ai mo (Ai mu wv));clear mo mu wv;go_wp2_with fail;go_ret;obtain⟨mo,mu,wv⟩:=HX.out;obtain⟨z1,z2,z3,z4⟩:=HZ.out;have kx:=z1.nodes _ x (by rw[aZ3 (aZq _),aXn];rfl);exact⟨v',_,rfl,mo,z2,z3,(z4.mono (fun _ _ e=> .inr e)).then mu (fun _ _ e=> .inl e),wv,_,mu.at kx (fun e=>aB kx z1.side (aM (by decide)) e)⟩
end
end
section
open Go.RowKit Go.Sort
attribute [local go_sem↓] eG gM fY d9
attribute [local go_sem] rkc_size ndc_size aJ aC aO aL aQ aI aP Value.cells cY
def uP (i:Wi):Wg:= .int .i64 i.toInt
theorem IT:lX Tryz.prog 3 uP where
 law:=Maps.int_keyed Tryz.underlying3
 lit k:=⟨.int .i64 k.toInt,Maps.keyOf_int_mk Tryz.underlying3 (by
  have h1:=k.toInt_lt;have h2:=k.le_toInt;simp[Lit.wf,IntKind.min,IntKind.max,IntKind.bits,IntKind.signed];omega)⟩
 inj a b h:=by
  simp only[uP,Value.int.injEq,true_and]at h;exact Int64.toInt_inj.1 h
structure Hp (w:We) (h s0 s1 mb:Nat) (v0 v1:Wg) (L0 L1:Wd) (nd:Nat→Nd) (m:List (Wi×Nat)):Prop where
 kh:w.heap[h]? =some (.cells #[ptrV s0,ptrV s1,.map (some mb)] 218 (0,0))
 km:∃es c,w.heap[mb]? =some (.map es c)∧aR uP ptrV es c m
 d0:Sd w s0 false v0 L0 nd (fun b=>(L1.idxOf b:Int))
 d1:Sd w s1 true v1 L1 nd (fun b=>(L0.idxOf b:Int))
 ok0:bF (bG false nd) L0.length L0
 ok1:bF (bG true nd) L1.length L1
 p0:L0.Perm (m.map Prod.snd)
 p1:L1.Perm (m.map Prod.snd)
 ids:∀i b,(i,b)∈m→(nd b).id=i
 ap:∀g,v0.ownBlock=some g→v1.ownBlock≠some g
 ss:s0≠s1
def DB (h s0 s1 mb:Nat) (v0 v1:Wg) (L0:Wd) (i:Nat):Prop:=i=h∨i=s0∨i=s1∨i=mb∨v0.ownBlock=some i∨v1.ownBlock=some i∨i∈L0
def fM (h:Nat) (C:List Nd) (T:Nat→Prop) (w:We):Prop:=∃s0 s1 mb v0 v1 L0 L1 nd m,Hp w h s0 s1 mb v0 v1 L0 L1 nd m∧C=m.map (fun p=>nd p.2)∧∀i,DB h s0 s1 mb v0 v1 L0 i→T i
theorem Hp.mod {w w':We} {h s0 s1 mb:Nat} {v0 v1:Wg} {L0 L1:Wd} {nd:Nat→Nd} {m:List (Wi×Nat)} {S:Nat→Prop} (H:Hp w h s0 s1 mb v0 v1 L0 L1 nd m) (hm:Mod S w w') (hS:∀i,DB h s0 s1 mb v0 v1 L0 i→¬S i):Hp w' h s0 s1 mb v0 v1 L0 L1 nd m:=by
 obtain⟨es,c,kb,M⟩:=H.km;have hL:∀b,b∈L1→b∈L0:=fun b hb=>H.p0.mem_iff.2 (H.p1.mem_iff.1 hb);exact⟨hm.at H.kh (hS _ (.inl rfl)),⟨es,c,hm.at kb (hS _ (.inr (.inr (.inr (.inl rfl))))),M⟩,
  H.d0.mod hm (hS _ (.inr (.inl rfl))) (fun g hg=>hS _ (.inr (.inr (.inr (.inr (.inl hg)))))) (fun b hb=>hS _ (.inr (.inr (.inr (.inr (.inr (.inr hb))))))),
  H.d1.mod hm (hS _ (.inr (.inr (.inl rfl)))) (fun g hg=>hS _ (.inr (.inr (.inr (.inr (.inr (.inl hg))))))) (fun b hb=>hS _ (.inr (.inr (.inr (.inr (.inr (.inr (hL b hb)))))))),H.ok0,H.ok1,H.p0,H.p1,H.ids,H.ap,H.ss⟩
theorem fM.good (h:Nat) (C:List Nd):aH (fM h C) where
 cl:=by
  rintro T w w' ⟨s0,s1,mb,v0,v1,L0,L1,nd,m,H,hC,hT⟩ hm;exact⟨s0,s1,mb,v0,v1,L0,L1,nd,m,H.mod hm (fun i hi hn=>hn (hT i hi)),hC,hT⟩
 gr:=by
  rintro T T' w hT ⟨s0,s1,mb,v0,v1,L0,L1,nd,m,H,hC,hO⟩;exact⟨s0,s1,mb,v0,v1,L0,L1,nd,m,H,hC,fun i hi=>hT i (hO i hi)⟩
theorem XQ (w:We):(Instr.build 226 #[(0,.int .i64 0),(1,.func (.func 96) #[] #[])]).run Tryz.prog w= .ok (.agg (x4 false (.slice none 0 0))) w:=by kernel_rfl
theorem XR (w:We):(Instr.build 226 #[(0,.int .i64 1),(1,.func (.func 121) #[] #[])]).run Tryz.prog w= .ok (.agg (x4 true (.slice none 0 0))) w:=by kernel_rfl
theorem oP (w:We) (r:Option Nat):(binOp .neq 216 (.map r) (.map none)).run Tryz.prog w= .ok (.bool !r.isNone) w:=run_neq_map_nil w _ _ _ _ Tryz.underlying216
attribute [local go_sem] oP
theorem there_c {w:We} {h b:Nat} {x y:Wg} (kh:w.heap[h]? =some (.cells #[x,y,.map (some b)] 218 (0,0))):Calls Tryz.prog 89 #[ptrV h] w fun e w'=>e= .returned (.bool true)∧w'=w:=by
 go_enter Tryz.func89,Tryz.ntmps89;go_wp2_with fail;go_ret;exact⟨rfl,rfl⟩
theorem OW (w:We):Calls Tryz.prog 80 #[] w fun e w'=>∃h,e= .returned (ptrV h)∧∃T,fM h [] T w'∧Mod (fun _=>False) w w'∧(∀i,T i→w.heap.size≤i∧i<w'.heap.size):=by
 have Gk:= @run_makeMap Tryz.prog;have ft:=XQ;have dz:=XR;go_enter Tryz.func80,Tryz.ntmps80;go_upto_region 2 with fail;obtain⟨h1,h2⟩:=uJ w (.map #[] 0) (.cells #[.pointer none,.pointer none,.map (some w.heap.size)] 218);have m0:Mod (fun _=>False) w ((w.alloc (.map #[] 0)).alloc (.cells #[.pointer none,.pointer none,.map (some w.heap.size)] 218)):=((Mod.refl _ _).alloc _).alloc _;have fu:=m0.size;have Hc:=aA h1;have ny:=aA h2;generalize(w.alloc (.map #[] 0)).alloc (.cells #[.pointer none,.pointer none,.map (some w.heap.size)] 218)=w0 at *;generalize hb:w.heap.size=b at *;have Lh1:=aA h1;have Lh2:=aA h2;refine ZP0 [0,0,3,0,0,0,5] ?_;refine Zv ?_;refine Zu ft ?_;refine Zb fun p7 Gw=> ?_
 iterate 3 refine Zv ?_
 refine Zi fun wE hr=> ?_;replace h1:=hr.mod.at0 h1;replace h2:=hr.mod.at0 h2;have mE:=hr.mod;refine ZS ?_;refine ZN h2 fun w1 h2 mS=> ?_;(try simp only[Array.setIfInBounds,zL]at h2);replace h1:=mS.at_ne h1 (by omega);obtain⟨g7,kp7⟩:=hr.box p7 _ (Bx.set_same _ _ _);replace kp7:=mS.at_ne kp7 (by omega);have sy:w1.heap[b+1]? =some (.cells #[.pointer (some ⟨p7,0,none⟩),.pointer none,.map (some b)] 218 (0,0)):=h2;have m1:Mod (fun i=>i=b+1) w w1:=((m0.then0 mE).mono (fun _ _ h=>h.elim)).then mS (fun _ _ h=>h);have s01:=mE.size;have s12:=mS.size;clear h2 hr mE mS ft;go_upto_region 3 with fail;have Lh1:=aA h1;have Lkp7:=aA kp7;have Lhr1:=aA sy;refine ZP0 [0,0,3,0,0,0,5] ?_;refine Zv ?_;refine Zu dz ?_;refine Zb fun p13 qu=> ?_
 iterate 3 refine Zv ?_
 refine Zi fun wE hr=> ?_;replace h1:=hr.mod.at0 h1;replace kp7:=hr.mod.at0 kp7;replace sy:=hr.mod.at0 sy;have mE:=hr.mod;refine ZS ?_;refine ZN sy fun w2 sy mS=> ?_;(try simp only[Array.setIfInBounds,zL]at sy);replace h1:=mS.at_ne h1 (by omega);replace kp7:=mS.at_ne kp7 (by omega);obtain⟨g13,kp13⟩:=hr.box p13 _ (Bx.set_same _ _ _);replace kp13:=mS.at_ne kp13 (by omega);have m2:Mod (fun i=>i=b+1) w w2:=(m1.then0 mE).then mS (fun _ _ h=>h);have s23:=mE.size;have s34:=mS.size;have kh:w2.heap[b+1]? =some (.cells #[ptrV p7,ptrV p13,.map (some b)] 218 (0,0)):=sy;have Ul:=Hi kh;have H7:=Hi kp7;have H13:=Hi kp13;clear hr mE mS dz sy kh kp7 kp13;go_wp2_with fail;go_ret;have l13:=aA H13.out;refine⟨b+1,rfl,fun i=>b≤i∧i<w2.heap.size,⟨p7,p13,b,.slice none 0 0,.slice none 0 0,[],[],fun _=>⟨yJ,0⟩,[],⟨Ul.out,⟨_,_,h1,aR.empty uP ptrV⟩,⟨H7.out,aE.nil _ _,fun i b hb=>(by cases hb)⟩,⟨H13.out,aE.nil _ _,fun i b hb=>(by cases hb)⟩,fun c _ hc=>(by cases hc),fun c _ hc=>(by cases hc),.refl _,.refl _,fun i b hb=>(by cases hb),fun g hg=>(by cases hg),(by omega)⟩,rfl,fun i hi=> ?_⟩,m2.mono (fun i hi e=>by omega),fun i hi=>hi⟩;rcases hi with e|e|e|e|e|e|e
 ·subst e;omega
 ·subst e;omega
 ·subst e;omega
 ·subst e;omega
 ·cases e
 ·cases e
 ·cases e
end
section
open Go.RowKit Go.Sort
attribute [local go_sem↓] eG gM fY d9
attribute [local go_sem] rkc_size ndc_size aJ aC aO aL aQ aI aP Value.cells cY oP
section
variable {w w':We} {s s':Nat} {k:Bool} {v v':Wg} {L L':Wd} {nd nd':Nat→Nd} {o o':Nat→Int}
theorem Sd.congr (h:Sd w s k v L nd o) (ct:∀b∈L,nd' b=nd b) (ho:∀b∈L,o' b=o b):Sd w s k v L nd' o':=
 ⟨h.side,h.own,fun i b hb=>by rw[ct b (aZi hb),ho b (aZi hb)];exact h.nodes i b hb⟩
theorem u9 (k:Bool) (x:Nd) (i o:Int):ndc (!k) x i o=ndc k x o i:=by cases k<;>rfl
theorem Sd.other (h:Sd w s k v L nd o) (hs:w.heap[s']? =some (.cells (x4 (!k) v') 226 (0,0))) (bn:aE pc 1 212 w 0 v' L') (bd:∀b∈L',b∈L) (ho:∀(i b:Nat),L'[i]? =some b→o b=i):
  Sd w s' (!k) v' L' nd (fun b=>(L.idxOf b:Int)):=by
 refine⟨hs,bn,fun i b hb=> ?_⟩;have hm:=bd b (aZi hb);have h1:=h.nodes (L.idxOf b) b (by rw[aZb (aWb hm)];simp);rw[u9,←ho i b hb];exact h1
theorem uQ {L:Wd} (h:L.Nodup) {i b:Nat} (hb:L[i]? =some b):(L.idxOf b:Int)=i:=by
 obtain⟨hi,rfl⟩:=aZa.1 hb;rw[h.idxOf_getElem]
theorem bF.congr {lt lt':Nat→Nat→Bool} {n:Nat} {L:Wd} (h:bF lt n L) (he:∀a∈L,∀b∈L,lt' a b=lt a b):bF lt' n L:=fun c hc dt a b ha hb=>by
 rw[he a (aZi ha) b (aZi hb)];exact h c hc dt a b ha hb
end
theorem pF (w:We) (b o:Nat):(Instr.loadAt 215 (.pointer (some ⟨b,o,none⟩))).run Tryz.prog w=
   match w.heap[b]? with
   |some (.cells cs _ _)=>if o+2≤cs.size then .ok (.agg (cs.extract o (o+2))) w else dU Tryz.prog w 215 b o
   |_=>dU Tryz.prog w 215 b o:=bK (d:=_) Tryz.underlying215 rfl (by kernel_rfl) w b o
attribute [local go_sem↓] pF
theorem WY (a b:Nat) (w:We):(Instr.index 215 (.agg #[ptrV a,ptrV b]) (.int .i64 0)).run Tryz.prog w= .ok (ptrV a) w:=by kernel_rfl
theorem WZ (a b:Nat) (w:We):(Instr.index 215 (.agg #[ptrV a,ptrV b]) (.int .i64 1)).run Tryz.prog w= .ok (ptrV b) w:=by kernel_rfl
attribute [local go_sem] WY WZ
theorem XS (r:Rk) (id:Wi) (w:We):(Instr.build 222 #[(0,.agg #[.int .u64 (r.p.toNat:Int),.int .u64 (r.n.toNat:Int)]),(1,.int .i64 id.toInt)]).run Tryz.prog w= .ok (.agg (ndc false ⟨r,id⟩ 0 0)) w:=by kernel_rfl
def upd (nd:Nat→Nd) (n:Nat) (x:Nd) (b:Nat):Nd:=if b=n then x else nd b
def WW (w0 ws:We) (s0 s1 mb:Nat) (v0 v1 v0':Wg) (L0 L1 L0':Wd) (nd:Nat→Nd) (n:Nat):Prop:=
 Sd ws s0 false v0' L0' nd (fun b=>if b=n then 0 else(L1.idxOf b:Int))∧Sd ws s1 true v1 L1 nd (fun b=>(L0'.idxOf b:Int))∧(∃i:Int,ws.heap[n]? =some (.cells (ndc true (nd n) 0 i) 222 (0,0))∧i=L0'.idxOf n)∧bF (bG false nd) L0'.length L0'∧L0'.Perm (L0++[n])∧
   Mod (fun i=>i=mb∨i=s0∨i=n∨v0.ownBlock=some i∨i∈L0) w0 ws∧(∀g,v0'.ownBlock=some g→v1.ownBlock≠some g)∧(v0'.ownBlock=v0.ownBlock∨∃g,v0'.ownBlock=some g∧w0.heap.size≤g)
def PI (w0:We) (h s0 s1 mb:Nat) (v0 v1:Wg) (L0 L1:Wd) (nd:Nat→Nd) (m:List (Wi×Nat)) (n:Nat) (j:Nat) (ws:We):Prop:=
 ws.heap[h]? =some (.cells #[ptrV s0,ptrV s1,.map (some mb)] 218 (0,0))∧(∃es c,ws.heap[mb]? =some (.map es c)∧aR uP ptrV es c m)∧
 match j with
 |0=>Sd ws s0 false v0 L0 nd (fun b=>if b=n then 0 else(L1.idxOf b:Int))∧Sd ws s1 true v1 L1 nd (fun b=>(L0.idxOf b:Int))∧ws.heap[n]? =some (.cells (ndc false (nd n) 0 0) 222 (0,0))∧Mod (fun i=>i=mb) w0 ws
 |1=>∃v0' L0',WW w0 ws s0 s1 mb v0 v1 v0' L0 L1 L0' nd n
 |_=>∃v0' L0' v1' L1',Hp ws h s0 s1 mb v0' v1' L0' L1' nd m∧L0'.Perm (L0++[n])∧Mod (fun i=>i=mb∨i=s0∨i=s1∨i=n∨v0.ownBlock=some i∨v1.ownBlock=some i∨i∈L0∨i∈L1) w0 ws∧
   (v0'.ownBlock=v0.ownBlock∨∃g,v0'.ownBlock=some g∧w0.heap.size≤g)∧(v1'.ownBlock=v1.ownBlock∨∃g,v1'.ownBlock=some g∧w0.heap.size≤g)
theorem PI.one {w0 ws w1:We} {h s0 s1 mb:Nat} {v0 v1 v0':Wg} {L0 L1 L0':Wd} {nd:Nat→Nd} {m:List (Wi×Nat)} {n:Nat} (H:PI w0 h s0 s1 mb v0 v1 L0 L1 nd m n 0 ws) (Cp:s0≠s1) (az:∀g,v0.ownBlock=some g→v1.ownBlock≠some g) (je:n∉L1) (hp:L1.Perm L0)
  (hS:Sd w1 s0 false v0' L0' nd (fun b=>if b=n then 0 else(L1.idxOf b:Int))) (ak:bF (bG false nd) L0'.length L0') (af:L0'.Perm (L0++[n])) (hm:Mod (fun x=>x=s0∨x=n∨v0.ownBlock=some x∨x∈L0) ws w1)
  (hv:v0'.ownBlock=v0.ownBlock∨∃g,v0'.ownBlock=some g∧ws.heap.size≤g):PI w0 h s0 s1 mb v0 v1 L0 L1 nd m n 1 w1:=by
 obtain⟨kh,⟨es,c,kb,M⟩,d0,d1,kn,m0⟩:=H;have own0:∀(x:Nat) (ob:Obj),ws.heap[x]? =some ob→(∀cs,ob≠ .cells cs 212 (0,0))→v0.ownBlock≠some x:=fun x ob hx aw e=>by
  obtain⟨cur,kg⟩:=cJ d0.own e;rw[hx]at kg;exact aw _ (aZz kg)
 have inL:∀(x:Nat) (ob:Obj),ws.heap[x]? =some ob→(∀cs,ob≠ .cells cs 222 (0,0))→x∉L0:=fun x ob hx aw e=>by
  obtain⟨i,hi⟩:=aZ8.1 e;have:=d0.nodes i x hi;rw[hx]at this;exact aw _ (aZz this)
 have kh1:=hm.at kh (fun e=>by
  rcases e with e|e|e|e
  ·exact aB kh d0.side (aM (by decide)) e
  ·exact aB kh kn (aM (by decide)) e
  ·exact own0 _ _ kh (fun _=>aM (by decide)) e
  ·exact inL _ _ kh (fun _=>aM (by decide)) e)
 have kb1:=hm.at kb (fun e=>by
  rcases e with e|e|e|e
  ·exact aB kb d0.side (by simp) e
  ·exact aB kb kn (by simp) e
  ·exact own0 _ _ kb (by simp) e
  ·exact inL _ _ kb (by simp) e)
 have ks1:=hm.at d1.side (fun e=>by
  rcases e with e|e|e|e
  ·exact Cp e.symm
  ·exact aB d1.side kn (aM (by decide)) e
  ·exact own0 _ _ d1.side (fun _=>aM (by decide)) e
  ·exact inL _ _ d1.side (fun _=>aM (by decide)) e)
 have qq:=d1.own.mod hm (fun g hg e=>by
  obtain⟨cur,kg⟩:=cJ d1.own hg;rcases e with e|e|e|e
  ·exact aB kg d0.side (aM (by decide)) e
  ·exact aB kg kn (aM (by decide)) e
  ·exact az g e hg
  ·exact inL _ _ kg (fun _=>aM (by decide)) e)
 have bd:∀b∈L1,b∈L0':=fun b hb=>af.mem_iff.2 (aZl _ (hp.mem_iff.1 hb));have rr:=hS.other ks1 qq bd (fun i b hb=>by
  have zv:b≠n:=fun e=>je (e▸aZi hb);show(if b=n then 0 else(L1.idxOf b:Int))=i;rw[if_neg zv];exact uQ d1.nodup hb)
 have Jm:n∈L0':=af.mem_iff.2 (by simp);have hk:=hS.nodes (L0'.idxOf n) n (by rw[aZb (aWb Jm)];simp);rw[if_pos rfl]at hk;refine⟨kh1,⟨es,c,kb1,M⟩,v0',L0',hS,rr,⟨_,hk,rfl⟩,ak,af,(m0.mono (T:=fun i=>i=mb∨i=s0∨i=n∨v0.ownBlock=some i∨i∈L0) (fun _ _ e=> .inl e)).then hm (fun i _ e=> .inr e),?_,?_⟩
 ·intro g hg e;rcases hv with hv|⟨g',hv,gj⟩
  ·rw[hv]at hg;exact az g hg e
  ·rw[hv]at hg;cases hg;have:=(d1.own.lt _ e).2;omega
 ·rcases hv with hv|⟨g',hv,gj⟩
  ·exact .inl hv
  ·exact .inr ⟨g',hv,aYb m0.size gj⟩
theorem WW.two {w0 ws w1:We} {h s0 s1 mb:Nat} {v0 v1 v0' v1':Wg} {L0 L1 L0' L1':Wd} {nd:Nat→Nd} {m:List (Wi×Nat)} {n:Nat} (kh:ws.heap[h]? =some (.cells #[ptrV s0,ptrV s1,.map (some mb)] 218 (0,0))) (km:∃es c,ws.heap[mb]? =some (.map es c)∧aR uP ptrV es c m)
  (P1:WW w0 ws s0 s1 mb v0 v1 v0' L0 L1 L0' nd n) (Cp:s0≠s1) (je:n∉L1) (hp:L1.Perm L0) (de:(L0++[n]).Perm (m.map Prod.snd)) (hids:∀i b,(i,b)∈m→(nd b).id=i)
  (hS:Sd w1 s1 true v1' L1' nd (fun b=>(L0'.idxOf b:Int))) (ak:bF (bG true nd) L1'.length L1') (af:L1'.Perm (L1++[n])) (hm:Mod (fun x=>x=s1∨x=n∨v1.ownBlock=some x∨x∈L1) ws w1)
  (hv:v1'.ownBlock=v1.ownBlock∨∃g,v1'.ownBlock=some g∧ws.heap.size≤g):PI w0 h s0 s1 mb v0 v1 L0 L1 nd m n 2 w1:=by
 obtain⟨es,c,kb,M⟩:=km;obtain⟨d0,d1,⟨i,kn,_⟩,hok0,hperm0,m0,az,ik⟩:=P1;have own1:∀(x:Nat) (ob:Obj),ws.heap[x]? =some ob→(∀cs,ob≠ .cells cs 212 (0,0))→v1.ownBlock≠some x:=fun x ob hx aw e=>by
  obtain⟨cur,kg⟩:=cJ d1.own e;rw[hx]at kg;exact aw _ (aZz kg)
 have inL:∀(x:Nat) (ob:Obj),ws.heap[x]? =some ob→(∀cs,ob≠ .cells cs 222 (0,0))→x∉L1:=fun x ob hx aw e=>by
  obtain⟨i,hi⟩:=aZ8.1 e;have:=d1.nodes i x hi;rw[hx]at this;exact aw _ (aZz this)
 have kh1:=hm.at kh (fun e=>by
  rcases e with e|e|e|e
  ·exact aB kh d1.side (aM (by decide)) e
  ·exact aB kh kn (aM (by decide)) e
  ·exact own1 _ _ kh (fun _=>aM (by decide)) e
  ·exact inL _ _ kh (fun _=>aM (by decide)) e)
 have kb1:=hm.at kb (fun e=>by
  rcases e with e|e|e|e
  ·exact aB kb d1.side (by simp) e
  ·exact aB kb kn (by simp) e
  ·exact own1 _ _ kb (by simp) e
  ·exact inL _ _ kb (by simp) e)
 have ks0:=hm.at d0.side (fun e=>by
  rcases e with e|e|e|e
  ·exact Cp e
  ·exact aB d0.side kn (aM (by decide)) e
  ·exact own1 _ _ d0.side (fun _=>aM (by decide)) e
  ·exact inL _ _ d0.side (fun _=>aM (by decide)) e)
 have Bc:=d0.own.mod hm (fun g hg e=>by
  obtain⟨cur,kg⟩:=cJ d0.own hg;rcases e with e|e|e|e
  ·exact aB kg d1.side (aM (by decide)) e
  ·exact aB kg kn (aM (by decide)) e
  ·exact az g hg e
  ·exact inL _ _ kg (fun _=>aM (by decide)) e)
 have ce:(L1++[n]).Perm (L0++[n]):=hp.append_right _;have bd:∀b∈L0',b∈L1':=fun b hb=>af.mem_iff.2 (ce.mem_iff.2 (hperm0.mem_iff.1 hb));have jd:=hS.other ks0 Bc bd (fun i b hb=>uQ d0.nodup hb);refine⟨kh1,⟨es,c,kb1,M⟩,v0',L0',v1',L1',⟨kh1,⟨es,c,kb1,M⟩,jd,hS,hok0,ak,hperm0.trans de,(af.trans ce).trans de,hids,fun g hg e=> ?_,Cp⟩,hperm0,(m0.mono (T:=fun i=>i=mb∨i=s0∨i=s1∨i=n∨v0.ownBlock=some i∨v1.ownBlock=some i∨i∈L0∨i∈L1) (fun i _ e=> ?_)).then hm (fun i _ e=> ?_),ik,?_⟩
 ·rcases hv with hv|⟨g',hv,gj⟩
  ·rw[hv]at e;exact az g hg e
  ·rw[hv]at e;cases e;have:=(d0.own.lt _ hg).2;omega
 ·rcases e with e|e|e|e|e
  ·exact .inl e
  ·exact .inr (.inl e)
  ·exact .inr (.inr (.inr (.inl e)))
  ·exact .inr (.inr (.inr (.inr (.inl e))))
  ·exact .inr (.inr (.inr (.inr (.inr (.inr (.inl e))))))
 ·rcases e with e|e|e|e
  ·exact .inr (.inr (.inl e))
  ·exact .inr (.inr (.inr (.inl e)))
  ·exact .inr (.inr (.inr (.inr (.inr (.inl e)))))
  ·exact .inr (.inr (.inr (.inr (.inr (.inr (.inr e))))))
 ·rcases hv with hv|⟨g',hv,gj⟩
  ·exact .inl hv
  ·exact .inr ⟨g',hv,aYb m0.size gj⟩
theorem vF {h:Nat} {C:List Nd} {T:Nat→Prop} {w:We} (hA:fM h C T w) (hT:∀i,T i→i<w.heap.size) (r:Rk) (id:Wi) (hC:C.length≤700000) (dx:∀x∈C,x.id≠id):
  Calls Tryz.prog 55 #[ptrV h,.agg (rkc r),.int .i64 id.toInt] w fun e w'=>e= .returned (.int .i64 0)∧∃T',fM h (C++[⟨r,id⟩]) T' w'∧Mod T w w'∧(∀i,T' i→T i∨w.heap.size≤i)∧∀i,T' i→i<w'.heap.size:=by
 obtain⟨s0,s1,mb,v0,v1,L0,L1,nd,m,H,rfl,hO⟩:=hA;have iy:lkp id m=none:=by
  rw[eQ];intro dl;obtain⟨p,hp,rfl⟩:=aZj.1 dl;exact dx _ (aZj.2 ⟨p,hp,rfl⟩) (H.ids _ _ hp)
 obtain⟨es,c,kb,M⟩:=H.km;have kh:=H.kh;have HH:=Hi H;have HO:=Hi hO;have HT:=Hi hT;have HC:=Hi hC;have HN:=Hi iy;have cd:∀wq b',wq.heap[mb]? =some (.map es c)→(Instr.lookup 216 (.map (some mb)) (.int .i64 id.toInt) b').run Tryz.prog wq=_:=fun wq b' hq=>M.lookup IT Tryz.underlying216 (z:= .pointer none) (fun w=>by kernel_rfl) wq hq id b';simp only[HN.out,Option.map_none,Option.getD_none,aW0]at cd;have ml:=Hi cd;have zv:=XS r id;clear H hO hT hC dx cd iy;show Calls Tryz.prog _ #[ptrV h,.agg #[.int .u64 (r.p.toNat:Int),.int .u64 (r.n.toNat:Int)],.int .i64 id.toInt] w _;go_enter Tryz.func55,Tryz.ntmps55;go_upto_region 0 with fail;have Lkh:=aA kh;have Lkb:=aA kb;refine ZP0 [3,0] ?_;refine Zb fun p4 od=> ?_;refine Zv ?_;refine TD.nil (fun w1 hr=> ?_);replace kh:=hr.q kh;replace kb:=hr.q kb;obtain⟨gp4,kp4⟩:=hr.b p4;have m1:=hr.mod;clear hr;go_wp2_with fail;go_at_call 89;refine(there_c kh).mono ?_;rintro e w2 ⟨rfl,rfl⟩;go_upto_region 3 with fail;have hl:∀wq,Mod (fun _=>False) w2 wq→(Instr.lookup 216 (.map (some mb)) (.int .i64 id.toInt) true).run Tryz.prog wq= .ok (.tuple #[.pointer none,.bool false]) wq:=fun wq hq=>ml.out wq true (hq.at0 kb);have Lkh:=aA kh;have Lkb:=aA kb;have Lkp4:=aA kp4;refine ZP0 [0,0,0,1,0,1,0,0,0,0,0] ?_
 iterate 5 first|refine Zv ?_|refine Zd ?_
 refine ZK hl ?_
 iterate 5 refine Zv ?_
 refine TD.nil (fun w3 hr=> ?_);replace kh:=hr.q kh;replace kb:=hr.q kb;replace kp4:=hr.q kp4;have m3:=m1.then0 hr.mod;clear hr hl;go_upto_region 6 with fail;have Lkh:=aA kh;have Lkb:=aA kb;have Lkp4:=aA kp4;refine ZP0 [1,0,0,3,0] ?_;refine Zd ?_;refine Zv ?_;refine Zu zv ?_;refine Zb fun p28 hp28=> ?_;refine Zv ?_;refine TD.nil (fun w4 hr=> ?_);replace kh:=hr.q kh;replace kb:=hr.q kb;replace kp4:=hr.q kp4;obtain⟨gp28,kp28⟩:=hr.b p28;have m4:=m3.then0 hr.mod;have s4:=hr.mod.size;clear hr zv;have hbp:p28≠mb:=aB kp28 kb (by simp);have hbh:h≠mb:=aB kh kb (by simp);go_upto_region 7 with fail;have Lkh:=aA kh;have Lkp28:=aA kp28;have Lkb:=aA kb;refine ZP0 [0,0,0,1,0,0,5] ?_
 iterate 6 first|refine Zv ?_|refine Zd ?_
 refine Zi fun wE hr=> ?_;replace kh:=hr.mod.at0 kh;replace kp28:=hr.mod.at0 kp28;replace kb:=hr.mod.at0 kb;have mE:=hr.mod;obtain⟨es25,cl25,Kb,Mkb⟩:=M.update IT Tryz.underlying216 wE kb id p28;refine ZV (Kb) ?_;refine ZN kb fun w5 kb mS=> ?_;(try simp only[Array.setIfInBounds,zL]at kb);replace kh:=mS.at_ne kh (by omega);replace kp28:=mS.at_ne kp28 (by omega);have m5:Mod (fun i=>i=mb) w w5:=((m4.then0 mE).mono (fun _ _ h=>h.elim)).then mS (fun _ _ h=>h);have Pl:w.heap.size≤p28:=aYb m3.size gp28;clear mE mS;go_upto_region 8 with fail;have Lkh:=aA kh;have Lkb:=aA kb;have Lkp28:=aA kp28;refine ZP0 [0,0,0,1,0] ?_
 iterate 5 first|refine Zv ?_|refine Zd ?_
 refine TD.nil (fun w6 hr=> ?_);replace kh:=hr.q kh;replace kb:=hr.q kb;replace kp28:=hr.q kp28;have m6:=m5.then0 hr.mod;clear hr;rw[j6 HN.out]at Mkb;have nL:∀(k:Bool) (s:Nat) (v:Wg) (L:Wd) (o:Nat→Int),Sd w s k v L nd o→p28∉L:=fun k s v L o hS hm=>by
  obtain⟨i,hi⟩:=aZ8.1 hm;have:=aA (hS.nodes i _ hi);omega
 have n0:=nL _ _ _ _ _ HH.out.d0;have n1:=nL _ _ _ _ _ HH.out.d1;have km6:∃es c,w6.heap[mb]? =some (.map es c)∧aR uP ptrV es c (m++[(id,p28)]):=⟨_,_,kb,Mkb⟩;have sm:∀(k:Bool) (s:Nat) (v:Wg) (L:Wd) (o:Nat→Int),Sd w s k v L nd o→Sd w6 s k v L nd o:=fun k s v L o hS=>by
  obtain⟨es0,c0,kb0,_⟩:=HH.out.km;refine hS.mod m6 (fun e=> ?_) (fun g hg e=> ?_) (fun b hb e=> ?_)
  ·exact aB hS.side kb0 (by simp) e
  ·obtain⟨cur,kg⟩:=cJ hS.own hg;exact aB kg kb0 (by simp) e
  ·obtain⟨i,hi⟩:=aZ8.1 hb;exact aB (hS.nodes i _ hi) kb0 (by simp) e
 have hup:∀b,b≠p28→upd nd p28 ⟨r,id⟩ b=nd b:=fun b hb=>if_neg hb;have Up:Hid (PI w h s0 s1 mb v0 v1 L0 L1 (upd nd p28 ⟨r,id⟩) (m++[(id,p28)]) p28 0 w6):=Hi (by
  refine⟨kh,km6,(sm _ _ _ _ _ HH.out.d0).congr (fun b hb=>hup b (fun e=>n0 (e▸hb))) (fun b hb=>if_neg (fun e:b=p28=>n0 (e▸hb))),(sm _ _ _ _ _ HH.out.d1).congr (fun b hb=>hup b (fun e=>n1 (e▸hb))) (fun b hb=>rfl),?_,m6⟩;rw[show upd nd p28 ⟨r,id⟩ p28=⟨r,id⟩from if_pos rfl];exact kp28)
 have Nf:=Hi n0;have zd:=Hi n1;have Lh:=Hi hup;have HG:=Hi Pl;clear kp28 kb Mkb nL n0 n1 km6 sm hup Pl kh kp4 ml;go_wp2_with fail;go_loopw [39,11] (fun s39 _ ws=>∃j:Nat,j≤2∧s39= .int .i64 (j:Int)∧Hid (PI w h s0 s1 mb v0 v1 L0 L1 (upd nd p28 ⟨r,id⟩) (m++[(id,p28)]) p28 j ws)) (fun s39 _ _=>2-(intOf s39).toNat)
 case atStart=>exact⟨0,by omega,rfl,Up⟩
 case round=>
  obtain⟨j,hj,rfl,HP⟩:=hrel;rcases(show j=0∨j=1∨j=2 by omega)with rfl|rfl|rfl
  ·go_wp2_with fail;go_at_call 92;obtain⟨_,_,d0,_,kn,_⟩:=_root_.id HP.out;have kn2:wr.heap[p28]? =some (.cells (ndc false (upd nd p28 ⟨r,id⟩ p28) 0 (if p28=p28 then 0 else(L1.idxOf p28:Int))) 222 (0,0)):=by
    rw[if_pos rfl];exact kn
   refine(BX d0 kn2 Nf.out (by rw[HH.out.p0.length_eq,aZs];have:=HC.out;rw[aZs]at this;omega) (HH.out.ok0.congr (fun a ha b hb=>by
    unfold bG;rw[Lh.out a (fun e=>Nf.out (e▸ha)),Lh.out b (fun e=>Nf.out (e▸hb))]))).mono ?_
   rintro e w7 ⟨rfl,v0',L0',hS,ak,af,hm,hv⟩;have HX:=Hi (PI.one HP.out HH.out.ss HH.out.ap zd.out (HH.out.p1.trans HH.out.p0.symm) hS ak af hm hv);clear hS ak af hm hv kn kn2 d0;go_wp2_with fail;go_roundw
   case rel=>exact⟨1,by omega,by go_num,HX⟩
   case measure=>simp[intOf]
  ·go_wp2_with fail;go_at_call 92;obtain⟨kh,km,v0',L0',P1⟩:=_root_.id HP.out;obtain⟨i,kn,rfl⟩:=P1.2.2.1;refine(BX P1.2.1 kn zd.out (by rw[HH.out.p1.length_eq,aZs];have:=HC.out;rw[aZs]at this;omega) (HH.out.ok1.congr (fun a ha b hb=>by
    unfold bG;rw[Lh.out a (fun e=>zd.out (e▸ha)),Lh.out b (fun e=>zd.out (e▸hb))]))).mono ?_
   rintro e w7 ⟨rfl,v1',L1',hS,ak,af,hm,hv⟩;have HX:=Hi (WW.two kh km P1 HH.out.ss zd.out (HH.out.p1.trans HH.out.p0.symm) (by
     rw[List.map_append];exact HH.out.p0.append_right _) (fun i b hb=>by
     rcases aZh.1 hb with hb|hb
     ·have:b∈L0:=HH.out.p0.mem_iff.2 (aZj.2 ⟨_,hb,rfl⟩);rw[Lh.out b (fun e=>Nf.out (e▸this))];exact HH.out.ids i b hb
     ·cases aZm.1 hb;show(upd nd p28 ⟨r,id⟩ p28).id=id;rw[show upd nd p28 ⟨r,id⟩ p28=⟨r,id⟩from if_pos rfl]) hS ak af hm hv)
   clear hS ak af hm hv kn kh km P1;go_wp2_with fail;go_roundw
   case rel=>exact⟨2,by omega,by go_num,HX⟩
   case measure=>simp[intOf]
  ·go_wp2_with fail;go_ret;obtain⟨_,_,v0',L0',v1',L1',Vh,af,hm,ik,jv⟩:=HP.out;refine⟨rfl,fun i=>T i∨(w.heap.size≤i∧i<wr.heap.size),⟨s0,s1,mb,v0',v1',L0',L1',_,_,Vh,?_,fun i hi=> ?_⟩,hm.mono (fun i hlt e=> ?_),fun i hi=>hi.elim .inl (fun h=> .inr h.1),fun i hi=>hi.elim (fun h=>aZd (HT.out i h) hm.size) (fun h=>h.2)⟩
   ·rw[List.map_append];congr 1
    ·refine List.map_congr_left (fun p hp=> ?_)
     have:p.2∈L0:=HH.out.p0.mem_iff.2 (aZj.2 ⟨_,hp,rfl⟩);rw[Lh.out _ (fun e=>Nf.out (e▸this))]
    ·show [_]=[upd nd p28 ⟨r,id⟩ p28];rw[show upd nd p28 ⟨r,id⟩ p28=⟨r,id⟩from if_pos rfl]
   ·rcases hi with e|e|e|e|e|e|e
    ·exact .inl (HO.out i (.inl e))
    ·exact .inl (HO.out i (.inr (.inl e)))
    ·exact .inl (HO.out i (.inr (.inr (.inl e))))
    ·exact .inl (HO.out i (.inr (.inr (.inr (.inl e)))))
    ·rcases ik with hv|⟨g,hv,hg⟩
     ·rw[hv]at e;exact .inl (HO.out i (.inr (.inr (.inr (.inr (.inl e))))))
     ·have:=(Vh.d0.own.lt _ hv).2;rw[hv]at e;cases e;exact .inr ⟨hg,this⟩
    ·rcases jv with hv|⟨g,hv,hg⟩
     ·rw[hv]at e;exact .inl (HO.out i (.inr (.inr (.inr (.inr (.inr (.inl e)))))))
     ·have:=(Vh.d1.own.lt _ hv).2;rw[hv]at e;cases e;exact .inr ⟨hg,this⟩
    ·rcases aZh.1 (af.mem_iff.1 e)with h1|h1
     ·exact .inl (HO.out i (.inr (.inr (.inr (.inr (.inr (.inr h1)))))))
     ·obtain rfl:=aZm.1 h1;obtain⟨j,hj⟩:=aZ8.1 e;exact .inr ⟨HG.out,aA (Vh.d0.nodes j _ hj)⟩
   ·have hL1:∀b,b∈L1→b∈L0:=fun b hb=>HH.out.p0.mem_iff.2 (HH.out.p1.mem_iff.1 hb);have:=HG.out;rcases e with e|e|e|e|e|e|e|e
    ·exact HO.out i (.inr (.inr (.inr (.inl e))))
    ·exact HO.out i (.inr (.inl e))
    ·exact HO.out i (.inr (.inr (.inl e)))
    ·omega
    ·exact HO.out i (.inr (.inr (.inr (.inr (.inl e)))))
    ·exact HO.out i (.inr (.inr (.inr (.inr (.inr (.inl e))))))
    ·exact HO.out i (.inr (.inr (.inr (.inr (.inr (.inr e))))))
    ·exact HO.out i (.inr (.inr (.inr (.inr (.inr (.inr (hL1 i e)))))))
end
section
open Go.RowKit Go.Sort
attribute [local go_sem↓] eG gM fY d9
attribute [local go_sem] rkc_size ndc_size aJ aC aO aL aQ aI aP Value.cells cY oP
theorem Hp.at {w:We} {h s0 s1 mb:Nat} {v0 v1:Wg} {L0 L1:Wd} {nd:Nat→Nd} {m:List (Wi×Nat)} (H:Hp w h s0 s1 mb v0 v1 L0 L1 nd m) {id:Wi} (dx:∃x∈m.map (fun p=>nd p.2),x.id=id):∃b,lkp id m=some b∧b∈L0∧(nd b).id=id:=by
 obtain⟨x,hx,rfl⟩:=dx;obtain⟨⟨i,b⟩,hp,rfl⟩:=aZj.1 hx;obtain⟨es,c,_,M⟩:=H.km;have h1:=H.ids i b hp;refine⟨b,?_,H.p0.mem_iff.2 (aZj.2 ⟨_,hp,rfl⟩),rfl⟩;show lkp (nd b).id m=some b;rw[h1];exact dJ M.nodup hp
end
section
section
variable {P:Wl} {ops:Array Oper} {Q:Exit→Act→We→Prop} {T0:Nat→Prop} {w0:We} {κ:Nat→Nat} {υ:Nat→List Tmp}
theorem TG.storeO {i:Nat} {r:Wd} {a:Act} {B:Bx} {K:aK} {o:Oper} {T:Wh} {x y:Wm} {X Y:Wg} (K':aK) (dg:aH K') (ho:ops[i]? =some o) (hk:κ i=6) (hw:Region.wanted o (yielded ops a.tmps)=true)
  (hd:o.dst=none) (aj:o.op= .store T x y) (hx:a.eval x=X) (hy:a.eval y=Y)
  (hr:∀T' w,K T' w→∃w',(Instr.storeAt T X Y).run P w= .ok () w'∧Mod T' w w'∧K' T' w')
  (h:kT T0 w0 B K'→TG P ops Q T0 w0 κ υ r a B K'):TG P ops Q T0 w0 κ υ (i::r) a B K:=by
 refine TG.eff' (fun _=>K') ho hk hw (fun _=>dg.cl) (fun T2 w k1 k2 k3 k4=> .inr (.inl ?_)) (fun v hI=>by rw[hd];exact h hI);obtain⟨w',h1,h2,h3⟩:=hr T2 w k1;refine⟨w',?_,h2,dg.gr _ _ _ (fun _ h=> .inl h) h3⟩;subst hx;subst hy;simp[execOp,aj,h1]
end
end
section
open Go.RowKit Go.Sort
attribute [local go_sem↓] eG gM fY d9
attribute [local go_sem] rkc_size ndc_size aJ aC aO aL aQ aI aP Value.cells cY oP
theorem results_cell3 {P:Wl} {fn:Func} {t u v:Tmp} {T:Wh} {tmps:Wa} {p:Addr} {x:Wg} {w:We} (h:fn.results= #[.cell t T,.tmp u,.tmp v]) (ht:tmps.getD t undef= .pointer (some p))
  (hl:(Instr.loadAt T (.pointer (some p))).run P w= .ok x w):(results fn tmps).run P w= .ok (.tuple #[x,tmps.getD u undef,tmps.getD v undef]) w:=by
 have ec:(loadVar T p).run P w= .ok x w:=by simpa[Instr.loadAt,Instr.sureAddr] using hl
 rw[zD]at ht;simp only[results,h];simp[Sem.run_bind,Result.andThen,ht,asAddr,ec]
def r8 (k:Bool) (C:List Nd) (x:Nd):Prop:=x∈C∧∀y∈C,xE k y x=false
theorem Hp.best {w:We} {h s0 s1 mb:Nat} {v0 v1:Wg} {L0 L1:Wd} {nd:Nat→Nd} {m:List (Wi×Nat)} (H:Hp w h s0 s1 mb v0 v1 L0 L1 nd m) (k:Bool) {b:Nat} (hb:(if k then L1 else L0)[0]? =some b):r8 k (m.map (fun p=>nd p.2)) (nd b):=by
 have hp:(if k then L1 else L0).Perm (m.map Prod.snd):=by
  cases k
  ·exact H.p0
  ·exact H.p1
 have ak:bF (bG k nd) (if k then L1 else L0).length (if k then L1 else L0):=by
  cases k
  ·exact H.ok0
  ·exact H.ok1
 generalize(if k then L1 else L0)=L at *;have e:m.map (fun p=>nd p.2)=(m.map Prod.snd).map nd:=by rw[aX0];rfl
 rw[e];refine⟨aZj.2 ⟨b,hp.mem_iff.1 (aZi hb),rfl⟩,fun y hy=> ?_⟩;obtain⟨c,hc,rfl⟩:=aZj.1 hy;obtain⟨i,hi⟩:=aZ8.1 (hp.mem_iff.2 hc);exact ak.root (eK k nd) (aZq _) (fun a=>flt_irrefl _ _) hb i c (aZa.1 hi).1 hi
theorem G1 {h:Nat} {T:Nat→Prop} {w:We} (hA:fM h [] T w) (k:Int):Calls Tryz.prog 88 #[ptrV h,.int .i64 k] w fun e w'=>e= .returned (.tuple #[.agg (rkc yJ),.int .i64 0,.bool false])∧Mod (fun _=>False) w w':=by
 obtain⟨s0,s1,mb,v0,v1,L0,L1,nd,m,H,hm,hO⟩:=hA;obtain rfl:m=[]:=List.map_eq_nil_iff.1 hm.symm;obtain⟨es,c,kb,M⟩:=H.km;have kh:=H.kh;have dh:∀ty (wq:We),wq.heap[mb]? =some (.map es c)→(Builtin.len_ #[216] ty #[.map (some mb)]).run Tryz.prog wq= .ok (.int .i64 0) wq:=fun ty wq hq=>M.len Tryz.underlying216 wq hq;clear H hO M hm;go_enter Tryz.func88,Tryz.ntmps88;go_upto_region 0 with fail;have Lkh:=aA kh;have Lkb:=aA kb;refine ZP0 [3,0,0] ?_;refine Za pZ fun p4 od=> ?_
 iterate 2 refine Zv ?_
 refine TD.nil (fun w1 hr=> ?_);replace kh:=hr.q kh;replace kb:=hr.q kb;obtain⟨gp4,kp4⟩:=hr.b p4;have m1:=hr.mod;clear hr;have jz:=fun ty=>dh ty w1 kb;go_wp2_with fail;go_at_call 89;refine(there_c kh).mono ?_;rintro e w2 ⟨rfl,rfl⟩;replace kp4:w2.heap[p4]? =some (.cells #[.int .u64 0,.int .u64 0] 152 (0,0)):=kp4;go_upto_region 2 with fail;have Lkp4:=aA kp4;refine ZP0 [1,5,0,0] ?_;refine Zd ?_;refine Zi fun w3 hr=> ?_;replace kp4:=hr.q kp4;have m3:=m1.then0 hr.mod;clear hr;refine ZS ?_;refine ZM kp4 fun wn kp4 mS=> ?_;(try simp only[Array.setIfInBounds,zL]at kp4);have m4:=m3.thenB mS (.inl gp4);clear mS;refine Ze ?_;refine Ze ?_;refine TE.nil ?_;go_wp2_with fail;exact bodyPost_ret (results_cell3 (x:= .agg (rkc yJ)) rfl rfl (by rw[eG];simp[kp4,rkc,yJ])) rfl ⟨rfl,m4⟩
theorem G2 {h:Nat} {C:List Nd} {T:Nat→Prop} {w:We} (hA:fM h C T w) (hC:C≠[]) (k:Bool):Calls Tryz.prog 88 #[ptrV h,.int .i64 (kn k:Int)] w fun e w'=>∃x,r8 k C x∧e= .returned (.tuple #[.agg (rkc x.r),.int .i64 x.id.toInt,.bool true])∧Mod (fun _=>False) w w':=by
 obtain⟨s0,s1,mb,v0,v1,L0,L1,nd,m,H,rfl,hO⟩:=hA;obtain⟨es,c,kb,M⟩:=H.km;have kh:=H.kh;have dh:∀ty (wq:We),wq.heap[mb]? =some (.map es c)→(Builtin.len_ #[216] ty #[.map (some mb)]).run Tryz.prog wq= .ok (.int .i64 m.length) wq:=fun ty wq hq=>M.len Tryz.underlying216 wq hq;have qa:m.length≠0:=fun e=>hC (by rw[aYn e];rfl);have hz:((m.length:Int)==0)=false:=by
  rw[beq_eq_false_iff_ne];omega
 obtain⟨b,hb⟩:∃b,(if k then L1 else L0)[0]? =some b:=by
  cases k
  ·exact⟨_,aZb (show 0<L0.length by rw[H.p0.length_eq,aZs];omega)⟩
  ·exact⟨_,aZb (show 0<L1.length by rw[H.p1.length_eq,aZs];omega)⟩
 have HB:=Hi (H.best k hb);cases k
 ·obtain⟨g,cap,cur,rfl,_,kg,qm,fz,bx,_⟩:=gS H.d0.own (fun e=>by simp only[if_true,if_false,aZr]at hb;rw[e]at hb;cases hb);have c0:=bx 0 b hb;have Pz:=(aZa.1 hb).1;have ks:=H.d0.side;have kn0:=H.d0.nodes 0 b hb;simp only[if_true,if_false,aZr]at Pz;simp only[ndc,if_true,if_false,aZr]at kn0;simp only[x4,kn,if_true,if_false,aZr]at ks;have Xo:=Hi kn0;clear H hO M hC qa bx hb;show Calls Tryz.prog _ #[ptrV h,.int .i64 0] w _;go_enter Tryz.func88,Tryz.ntmps88;go_upto_region 0 with fail;have Lkh:=aA kh;have Lkb:=aA kb;have Lks:=aA ks;have Lkg:=aA kg;have Lkn0:=aA kn0;refine ZP0 [3,0,0] ?_;refine Za pZ fun p4 od=> ?_
  iterate 2 refine Zv ?_
  refine TD.nil (fun w1 hr=> ?_);replace kh:=hr.q kh;replace kb:=hr.q kb;replace ks:=hr.q ks;replace kg:=hr.q kg;replace kn0:=hr.q kn0;obtain⟨gp4,kp4⟩:=hr.b p4;have m1:=hr.mod;clear hr;have jz:=fun ty=>dh ty w1 kb;clear dh;go_wp2_with fail;go_at_call 89;refine(there_c kh).mono ?_;rintro e w2 ⟨rfl,rfl⟩;replace kp4:w2.heap[p4]? =some (.cells #[.int .u64 0,.int .u64 0] 152 (0,0)):=kp4;go_upto_region 3 with fail;have Lkh:=aA kh;have Lks:=aA ks;have Lkg:=aA kg;have Lkn0:=aA kn0;have Lkp4:=aA kp4;refine ZP0 [0,0,0,0,0,1,0,0,1,0,1,0] ?_
  iterate 12 first|refine Zv ?_|refine Zd ?_
  refine TD.nil (fun w3 hr=> ?_);replace kh:=hr.q kh;replace ks:=hr.q ks;replace kg:=hr.q kg;replace kn0:=hr.q kn0;replace kp4:=hr.q kp4;have m3:=m1.then0 hr.mod;clear hr jz;go_upto_region 4 with fail;have hbp:b≠p4:=fun e=>by have:=aA Xo.out;omega
  have Lkn0:=aA kn0;refine bL (T0:=fun i=>i=p4) (K:=fun T w=>T p4∧w.heap[p4]? =some (.cells #[.int .u64 0,.int .u64 0] 152 (0,0))) (κ:=fun i=>[0,0,0,0,0,0,0,0,6,0,0].getD i 0) (υ:=fun _=>[]) [0,1,2,3,4,5,6,7,8,9,10] (by kernel_rfl) (by kernel_rfl) (aH.at p4 (.cells #[.int .u64 0,.int .u64 0] 152 (0,0))).cl (⟨rfl,kp4⟩) (fun i hi=>by subst hi;exact aA kp4) ?_;have gK:=aH.at p4 (.cells #[.int .u64 0,.int .u64 0] 152 (0,0))
  iterate 3 refine Zg ?_
  (refine Zk ?_ (hy:=by intro wq ae;have kn0q:=ae.atn kn0;go_simp;try with_reducible rfl))
  iterate 3 refine Zg ?_
  (refine Zk ?_ (hy:=by intro wq ae;have kn0q:=ae.atn kn0;go_simp;try with_reducible rfl));(refine TG.storeO (X:= ?X32) (Y:= ?Y32) (fun T w=>T p4∧w.heap[p4]? =some (.cells (rkc (nd b).r) 152 (0,0))) (aH.at p4 (.cells (rkc (nd b).r) 152 (0,0))) (by simp only[zK];rfl) rfl (by rfl) rfl rfl ?hx32 ?hz32 (fun T wq kq=> ?y32) (fun _=> ?n32);(case hx32=>simp only[zM];try rfl);(case hz32=>simp only[zM];try rfl);(case y32=>(obtain⟨k1,k2⟩:=kq;refine⟨setBlock wq p4 (.cells (rkc (nd b).r) 152 (0,0)),?_,(bM wq p4 _).mono (fun i _ e=>by rw[e];exact k1),k1,aF wq _ (aA k2)⟩;exact iB k2 (by kernel_rfl) rfl (by simp[Value.oneCell'])));replace gK:=(aH.at p4 (.cells (rkc (nd b).r) 152 (0,0)));try simp only[zL])
  iterate 2 refine Zg ?_
  refine TG.nil (fun w4 ⟨TR,hr⟩=> ?_);replace kn0:=hr.mod.atn kn0;clear gK;obtain⟨_,kp4⟩:=hr.k;have m5:Mod (fun _=>False) w w4:=m3.then hr.mod (fun i hi e=>by subst e;have:=gp4;omega);go_wp2_with fail;exact bodyPost_ret (results_cell3 (x:= .agg (rkc (nd b).r)) rfl rfl (by rw[eG];simp[kp4,rkc])) rfl ⟨nd b,HB.out,rfl,m5⟩
 ·obtain⟨g,cap,cur,rfl,_,kg,qm,fz,bx,_⟩:=gS H.d1.own (fun e=>by simp only[if_true,if_false,aZr]at hb;rw[e]at hb;cases hb);have c0:=bx 0 b hb;have Pz:=(aZa.1 hb).1;have ks:=H.d1.side;have kn0:=H.d1.nodes 0 b hb;simp only[if_true,if_false,aZr]at Pz;simp only[ndc,if_true,if_false,aZr]at kn0;simp only[x4,kn,if_true,if_false,aZr]at ks;have Xo:=Hi kn0;clear H hO M hC qa bx hb;show Calls Tryz.prog _ #[ptrV h,.int .i64 1] w _;go_enter Tryz.func88,Tryz.ntmps88;go_upto_region 0 with fail;have Lkh:=aA kh;have Lkb:=aA kb;have Lks:=aA ks;have Lkg:=aA kg;have Lkn0:=aA kn0;refine ZP0 [3,0,0] ?_;refine Za pZ fun p4 od=> ?_
  iterate 2 refine Zv ?_
  refine TD.nil (fun w1 hr=> ?_);replace kh:=hr.q kh;replace kb:=hr.q kb;replace ks:=hr.q ks;replace kg:=hr.q kg;replace kn0:=hr.q kn0;obtain⟨gp4,kp4⟩:=hr.b p4;have m1:=hr.mod;clear hr;have jz:=fun ty=>dh ty w1 kb;clear dh;go_wp2_with fail;go_at_call 89;refine(there_c kh).mono ?_;rintro e w2 ⟨rfl,rfl⟩;replace kp4:w2.heap[p4]? =some (.cells #[.int .u64 0,.int .u64 0] 152 (0,0)):=kp4;go_upto_region 3 with fail;have Lkh:=aA kh;have Lks:=aA ks;have Lkg:=aA kg;have Lkn0:=aA kn0;have Lkp4:=aA kp4;refine ZP0 [0,0,0,0,0,1,0,0,1,0,1,0] ?_
  iterate 12 first|refine Zv ?_|refine Zd ?_
  refine TD.nil (fun w3 hr=> ?_);replace kh:=hr.q kh;replace ks:=hr.q ks;replace kg:=hr.q kg;replace kn0:=hr.q kn0;replace kp4:=hr.q kp4;have m3:=m1.then0 hr.mod;clear hr jz;go_upto_region 4 with fail;have hbp:b≠p4:=fun e=>by have:=aA Xo.out;omega
  have Lkn0:=aA kn0;refine bL (T0:=fun i=>i=p4) (K:=fun T w=>T p4∧w.heap[p4]? =some (.cells #[.int .u64 0,.int .u64 0] 152 (0,0))) (κ:=fun i=>[0,0,0,0,0,0,0,0,6,0,0].getD i 0) (υ:=fun _=>[]) [0,1,2,3,4,5,6,7,8,9,10] (by kernel_rfl) (by kernel_rfl) (aH.at p4 (.cells #[.int .u64 0,.int .u64 0] 152 (0,0))).cl (⟨rfl,kp4⟩) (fun i hi=>by subst hi;exact aA kp4) ?_;have gK:=aH.at p4 (.cells #[.int .u64 0,.int .u64 0] 152 (0,0))
  iterate 3 refine Zg ?_
  (refine Zk ?_ (hy:=by intro wq ae;have kn0q:=ae.atn kn0;go_simp;try with_reducible rfl))
  iterate 3 refine Zg ?_
  (refine Zk ?_ (hy:=by intro wq ae;have kn0q:=ae.atn kn0;go_simp;try with_reducible rfl));(refine TG.storeO (X:= ?X58) (Y:= ?Y58) (fun T w=>T p4∧w.heap[p4]? =some (.cells (rkc (nd b).r) 152 (0,0))) (aH.at p4 (.cells (rkc (nd b).r) 152 (0,0))) (by simp only[zK];rfl) rfl (by rfl) rfl rfl ?hx58 ?hz58 (fun T wq kq=> ?y58) (fun _=> ?n58);(case hx58=>simp only[zM];try rfl);(case hz58=>simp only[zM];try rfl);(case y58=>(obtain⟨k1,k2⟩:=kq;refine⟨setBlock wq p4 (.cells (rkc (nd b).r) 152 (0,0)),?_,(bM wq p4 _).mono (fun i _ e=>by rw[e];exact k1),k1,aF wq _ (aA k2)⟩;exact iB k2 (by kernel_rfl) rfl (by simp[Value.oneCell'])));replace gK:=(aH.at p4 (.cells (rkc (nd b).r) 152 (0,0)));try simp only[zL])
  iterate 2 refine Zg ?_
  refine TG.nil (fun w4 ⟨TR,hr⟩=> ?_);replace kn0:=hr.mod.atn kn0;clear gK;obtain⟨_,kp4⟩:=hr.k;have m5:Mod (fun _=>False) w w4:=m3.then hr.mod (fun i hi e=>by subst e;have:=gp4;omega);go_wp2_with fail;exact bodyPost_ret (results_cell3 (x:= .agg (rkc (nd b).r)) rfl rfl (by rw[eG];simp[kp4,rkc])) rfl ⟨nd b,HB.out,rfl,m5⟩
end
section
open Go.RowKit Go.Sort
attribute [local go_sem↓] eG gM fY d9
attribute [local go_sem] rkc_size ndc_size aJ aC aO aL aQ aI aP Value.cells cY oP
theorem dB (r:Rk):(rkc r).all (·.oneCell') 0 2=true:=jU (rkc_size r) (by simp[rkc,Value.oneCell'])
attribute [local go_sem] dB
theorem WD {h:Nat} {C:List Nd} {T:Nat→Prop} {w:We} (hA:fM h C T w) (hC:C≠[]):Calls Tryz.prog 139 #[ptrV h] w fun e w'=>∃x,r8 false C x∧e= .returned (.tuple #[.agg (rkc x.r),.int .i64 x.id.toInt,.bool true])∧Mod (fun _=>False) w w':=by
 have HA:=Hi hA;clear hA;go_enter Tryz.func139,Tryz.ntmps139;go_upto_region 0 with fail;refine ZP0 [3,0,0] ?_;refine Za pZ fun p2 ce=> ?_
 iterate 2 refine Zv ?_
 refine TD.nil (fun w1 hr=> ?_);obtain⟨gp2,kp2⟩:=hr.b p2;have m1:=hr.mod;clear hr;have ze:=(fM.good h C).cl T w w1 HA.out (m1.mono (fun _ _ h=>h.elim));have ao:∀wq,Mod (fun _=>False) w1 wq→Calls Tryz.prog 88 #[ptrV h,.int .i64 0] wq fun e w'=>∃x,r8 false C x∧e= .returned (.tuple #[.agg (rkc x.r),.int .i64 x.id.toInt,.bool true])∧Mod (fun _=>False) wq w':=fun wq hq=>G2 ((fM.good h C).cl T w1 wq ze (hq.mono (fun _ _ h=>h.elim))) hC false;have HC:=Hi ao;clear ze ao;replace kp2:w1.heap[p2]? =some (.cells #[.int .u64 0,.int .u64 0] 152 (0,0)):=kp2;go_upto_region 1 with fail;have Lkp2:=aA kp2;refine ZR0 (fun _ _ v=>∃x,r8 false C x∧v= .tuple #[.agg (rkc x.r),.int .i64 x.id.toInt,.bool true]) [0,2,0,0,0,5,0,0] ?_;refine Zv ?_;(refine Zc ?_ (s:=by intro wq ae;exact(HC.out wq ae).mono (fun e w' h=>by obtain⟨x,h1,h2,h3⟩:=h;exact⟨_,h2,⟨x,h1,rfl⟩,h3⟩));rintro _ ⟨x,hB,rfl⟩;try simp only[zL])
 iterate 3 refine Zv ?_
 refine Zi fun w2 hr=> ?_;replace kp2:=hr.q kp2;have HB:=Hi hB;clear hB;have m2:=m1.then0 hr.mod;clear hr;refine ZS ?_;refine ZM kp2 fun wn kp2 mS=> ?_;(try simp only[Array.setIfInBounds,zL]at kp2);have m3:=m2.thenB mS (.inl gp2);clear mS;refine Ze ?_;refine Ze ?_;refine TE.nil ?_;go_wp2_with fail;exact bodyPost_ret (results_cell3 (x:= .agg (rkc x.r)) rfl rfl (by rw[eG];simp[kp2,rkc])) rfl ⟨x,HB.out,rfl,m3⟩
theorem UP {h:Nat} {C:List Nd} {T:Nat→Prop} {w:We} (hA:fM h C T w) (hC:C≠[]):Calls Tryz.prog 50 #[ptrV h] w fun e w'=>∃x,r8 true C x∧e= .returned (.tuple #[.agg (rkc x.r),.int .i64 x.id.toInt,.bool true])∧Mod (fun _=>False) w w':=by
 have HA:=Hi hA;clear hA;go_enter Tryz.func50,Tryz.ntmps50;go_upto_region 0 with fail;refine ZP0 [3,0,0] ?_;refine Za pZ fun p2 ce=> ?_
 iterate 2 refine Zv ?_
 refine TD.nil (fun w1 hr=> ?_);obtain⟨gp2,kp2⟩:=hr.b p2;have m1:=hr.mod;clear hr;have ze:=(fM.good h C).cl T w w1 HA.out (m1.mono (fun _ _ h=>h.elim));have ao:∀wq,Mod (fun _=>False) w1 wq→Calls Tryz.prog 88 #[ptrV h,.int .i64 1] wq fun e w'=>∃x,r8 true C x∧e= .returned (.tuple #[.agg (rkc x.r),.int .i64 x.id.toInt,.bool true])∧Mod (fun _=>False) wq w':=fun wq hq=>G2 ((fM.good h C).cl T w1 wq ze (hq.mono (fun _ _ h=>h.elim))) hC true;have HC:=Hi ao;clear ze ao;replace kp2:w1.heap[p2]? =some (.cells #[.int .u64 0,.int .u64 0] 152 (0,0)):=kp2;go_upto_region 1 with fail;have Lkp2:=aA kp2;refine ZR0 (fun _ _ v=>∃x,r8 true C x∧v= .tuple #[.agg (rkc x.r),.int .i64 x.id.toInt,.bool true]) [0,2,0,0,0,5,0,0] ?_;refine Zv ?_;(refine Zc ?_ (s:=by intro wq ae;exact(HC.out wq ae).mono (fun e w' h=>by obtain⟨x,h1,h2,h3⟩:=h;exact⟨_,h2,⟨x,h1,rfl⟩,h3⟩));rintro _ ⟨x,hB,rfl⟩;try simp only[zL])
 iterate 3 refine Zv ?_
 refine Zi fun w2 hr=> ?_;replace kp2:=hr.q kp2;have HB:=Hi hB;clear hB;have m2:=m1.then0 hr.mod;clear hr;refine ZS ?_;refine ZM kp2 fun wn kp2 mS=> ?_;(try simp only[Array.setIfInBounds,zL]at kp2);have m3:=m2.thenB mS (.inl gp2);clear mS;refine Ze ?_;refine Ze ?_;refine TE.nil ?_;go_wp2_with fail;exact bodyPost_ret (results_cell3 (x:= .agg (rkc x.r)) rfl rfl (by rw[eG];simp[kp2,rkc])) rfl ⟨x,HB.out,rfl,m3⟩
end
section
open Go.RowKit Go.Sort
attribute [local go_sem↓] eG gM fY d9 pF
attribute [local go_sem] rkc_size ndc_size aJ aC aO aL aQ aI aP Value.cells cY oP WY WZ dB
theorem results_cell2 {P:Wl} {fn:Func} {t u:Tmp} {T:Wh} {tmps:Wa} {p:Addr} {x:Wg} {w:We} (h:fn.results= #[.cell t T,.tmp u]) (ht:tmps.getD t undef= .pointer (some p))
  (hl:(Instr.loadAt T (.pointer (some p))).run P w= .ok x w):(results fn tmps).run P w= .ok (.tuple #[x,tmps.getD u undef]) w:=by
 have ec:(loadVar T p).run P w= .ok x w:=by simpa[Instr.loadAt,Instr.sureAddr] using hl
 rw[zD]at ht;simp only[results,h];simp[Sem.run_bind,Result.andThen,ht,asAddr,ec]
theorem bJ {P:Wl} {ops:Array Oper} {Q:Exit→Act→We→Prop} {κ:Nat→Nat} {i:Nat} {r:Wd} {a:Act} {o:Oper} {w:We} {f:Wn} {args:Wa} {v:Wg} {Post:We→Prop} (ho:ops[i]? =some o) (hw:Region.wanted o (yielded ops a.tmps)=true)
  (hy:(execOp a.eval o).run P w= .ok (.enter f args) w) (hc:Calls P f args w fun e w'=>e= .returned v∧Post w') (hn:∀w',Post w'→TE P ops Q κ r (a.put o.dst v) w'):wpOp P ops Q i (fun a' w''=>TE P ops Q κ r a' w'') a w:=by
 unfold wpOp;simp only[ho,hw,if_true];refine .inl ?_;unfold Oper.wp;rw[hy];refine hc.mono ?_;rintro e w' ⟨rfl,hp⟩;exact hn w' hp
section
variable {w w':We} {s s':Nat} {k:Bool} {v v':Wg} {L L':Wd} {nd nd':Nat→Nd} {o o':Nat→Int}
theorem Sd.cell (h:Sd w s k v L nd o) {b:Nat} (hb:b∈L):w.heap[b]? =some (.cells (ndc k (nd b) (L.idxOf b:Int) (o b)) 222 (0,0)):=
 h.nodes (L.idxOf b) b (by rw[aZb (aWb hb)];simp)
theorem Sd.notown (h:Sd w s k v L nd o) {x:Nat} {ob:Obj} (hx:w.heap[x]? =some ob) (aw:∀cs,ob≠ .cells cs 212 (0,0)):v.ownBlock≠some x:=fun e=>by
 obtain⟨cur,kg⟩:=cJ h.own e;rw[hx]at kg;exact aw _ (aZz kg)
theorem Sd.notin (h:Sd w s k v L nd o) {x:Nat} {ob:Obj} (hx:w.heap[x]? =some ob) (aw:∀cs,ob≠ .cells cs 222 (0,0)):x∉L:=fun e=>by
 obtain⟨i,hi⟩:=aZ8.1 e;have:=h.nodes i x hi;rw[hx]at this;exact aw _ (aZz this)
end
theorem del_map_perm {κ ν:Type} [DecidableEq κ] {m:List (κ×ν)} {k:κ} {b:ν} (h:lkp k m=some b):(m.map Prod.snd).Perm ((del k m).map Prod.snd++[b]):=by
 induction m with
 |nil=>cases h
 |cons p r ih=>
  unfold lkp at h;unfold del;by_cases hp:p.1=k
  ·rw[if_pos hp]at h⊢;cases h;simp only[aZo];exact(List.perm_append_singleton _ _).symm
  ·rw[if_neg hp]at h⊢;simp only[aZo,aYg];exact(ih h).cons _
theorem y7 {κ ν α:Type} [DecidableEq κ] {m:List (κ×ν)} {k:κ} (f:κ×ν→α) (g:α→Bool) (h:∀p∈m,g (f p)=decide (p.1=k)):(del k m).map f=(m.map f).eraseP g:=by
 induction m with
 |nil=>rfl
 |cons p r ih=>
  unfold del;have hp:=h p (by simp);by_cases e:p.1=k
  ·rw[if_pos e,aZo,List.eraseP_cons_of_pos (by rw[hp];exact Dt e)]
  ·rw[if_neg e,aZo,aZo,List.eraseP_cons_of_neg (by rw[hp,Df e];simp),ih (fun q hq=>h q (by simp[hq]))]
def yK (w0:We) (h s0 s1 mb:Nat) (v0 v1:Wg) (L0 L1:Wd) (nd:Nat→Nd) (m:List (Wi×Nat)) (n:Nat) (j:Nat) (ws:We):Prop:=
 ws.heap[h]? =some (.cells #[ptrV s0,ptrV s1,.map (some mb)] 218 (0,0))∧(∃es c,ws.heap[mb]? =some (.map es c)∧aR uP ptrV es c m)∧
 Mod (fun i=>i=mb∨i=s0∨i=s1∨v0.ownBlock=some i∨v1.ownBlock=some i∨i∈L0∨i∈L1) w0 ws∧
 match j with
 |0=>Sd ws s0 false v0 L0 nd (fun b=>(L1.idxOf b:Int))∧Sd ws s1 true v1 L1 nd (fun b=>(L0.idxOf b:Int))
 |1=>∃v0' L0' i',Sd ws s0 false v0' L0' nd (fun b=>(L1.idxOf b:Int))∧Sd ws s1 true v1 L1 nd (fun b=>if b=n then i' else(L0'.idxOf b:Int))∧bF (bG false nd) L0'.length L0'∧(L0'++[n]).Perm L0∧v0'.ownBlock=v0.ownBlock
 |_=>∃v0' L0' v1' L1',Hp ws h s0 s1 mb v0' v1' L0' L1' nd m∧(L0'++[n]).Perm L0∧v0'.ownBlock=v0.ownBlock∧v1'.ownBlock=v1.ownBlock∧∃k i o,ws.heap[n]? =some (.cells (ndc k (nd n) i o) 222 (0,0))
section
variable {w0 ws w1:We} {h s0 s1 mb:Nat} {v0 v1:Wg} {L0 L1:Wd} {nd:Nat→Nd} {m:List (Wi×Nat)} {n:Nat}
theorem yK.mod0 {j:Nat} (H:yK w0 h s0 s1 mb v0 v1 L0 L1 nd m n j ws) (hm:Mod (fun _=>False) ws w1):yK w0 h s0 s1 mb v0 v1 L0 L1 nd m n j w1:=by
 obtain⟨kh,⟨es,c,kb,M⟩,m0,H⟩:=H;refine⟨hm.at0 kh,⟨es,c,hm.at0 kb,M⟩,m0.then0 hm,?_⟩
 match j with
 |0=>exact⟨H.1.mod0 hm,H.2.mod0 hm⟩
 |1=>
  obtain⟨v0',L0',i',d0,d1,H⟩:=H;exact⟨v0',L0',i',d0.mod0 hm,d1.mod0 hm,H⟩
 |j+2=>
  obtain⟨v0',L0',v1',L1',hp,h1,h2,h3,k,i,o,kn⟩:=H;exact⟨v0',L0',v1',L1',hp.mod hm (fun _ _ e=>e),h1,h2,h3,k,i,o,hm.at0 kn⟩
theorem yK.one (H:yK w0 h s0 s1 mb v0 v1 L0 L1 nd m n 0 ws) (Cp:s0≠s1) (az:∀g,v0.ownBlock=some g→v1.ownBlock≠some g) (hp:L1.Perm L0) {v0':Wg} {L0':Wd}
  (hS:Sd w1 s0 false v0' L0' nd (fun b=>(L1.idxOf b:Int))) (ak:bF (bG false nd) L0'.length L0') (af:(L0'++[n]).Perm L0) (hm:Mod (fun x=>x=s0∨v0.ownBlock=some x∨x∈L0) ws w1)
  (hv:v0'.ownBlock=v0.ownBlock) {i':Int} (hn:w1.heap[n]? =some (.cells (ndc false (nd n) i' (L1.idxOf n:Int)) 222 (0,0))):yK w0 h s0 s1 mb v0 v1 L0 L1 nd m n 1 w1:=by
 obtain⟨kh,⟨es,c,kb,M⟩,m0,d0,d1⟩:=H;have no:∀(x:Nat) (ob:Obj),ws.heap[x]? =some ob→x≠s0→(∀cs,ob≠ .cells cs 212 (0,0))→(∀cs,ob≠ .cells cs 222 (0,0))→¬(x=s0∨v0.ownBlock=some x∨x∈L0):=by
  rintro x ob hx h1 h2 h3 (e|e|e)
  ·exact h1 e
  ·exact d0.notown hx h2 e
  ·exact d0.notin hx h3 e
 have kh1:=hm.at kh (no _ _ kh (aB kh d0.side (aM (by decide))) (fun _=>aM (by decide)) (fun _=>aM (by decide)));have kb1:=hm.at kb (no _ _ kb (aB kb d0.side (by simp)) (by simp) (by simp));have ks1:=hm.at d1.side (no _ _ d1.side (Ne.symm Cp) (fun _=>aM (by decide)) (fun _=>aM (by decide)));have qq:=d1.own.mod hm (fun g hg e=>by
  obtain⟨cur,kg⟩:=cJ d1.own hg;rcases e with e|e|e
  ·exact aB kg d0.side (aM (by decide)) e
  ·exact az g e hg
  ·exact d0.notin kg (fun _=>aM (by decide)) e)
 refine⟨kh1,⟨es,c,kb1,M⟩,m0.then hm (fun i _ e=> ?_),v0',L0',i',hS,⟨ks1,qq,fun i b hb=> ?_⟩,ak,af,hv⟩
 ·rcases e with e|e|e
  ·exact .inr (.inl e)
  ·exact .inr (.inr (.inr (.inl e)))
  ·exact .inr (.inr (.inr (.inr (.inr (.inl e)))))
 ·have hbi:=uQ d1.nodup hb;by_cases e:b=n
  ·subst e;rw[if_pos rfl,←u9];rw[hbi]at hn;exact hn
  ·rw[if_neg e,←u9];have h1:b∈L0':=by
    rcases aZh.1 (af.mem_iff.2 (hp.mem_iff.1 (aZi hb)))with h|h
    ·exact h
    ·exact absurd (aZm.1 h) e
   have h2:=hS.cell h1;simp only[hbi]at h2;exact h2
theorem yK.two (H:yK w0 h s0 s1 mb v0 v1 L0 L1 nd m n 1 ws) (Cp:s0≠s1) (az:∀g,v0.ownBlock=some g→v1.ownBlock≠some g) (hp:L1.Perm L0) (hids:∀i b,(i,b)∈m→(nd b).id=i) (oe:L0.Perm (m.map Prod.snd++[n])) {v1':Wg} {L1':Wd} {o1:Nat→Int}
  (qq:∀v0' L0' i',Sd ws s0 false v0' L0' nd (fun b=>(L1.idxOf b:Int))→Sd ws s1 true v1 L1 nd (fun b=>if b=n then i' else(L0'.idxOf b:Int))→(L0'++[n]).Perm L0→∀b∈L1',o1 b=(L0'.idxOf b:Int))
  (hS:Sd w1 s1 true v1' L1' nd o1) (ak:bF (bG true nd) L1'.length L1') (af:(L1'++[n]).Perm L1) (hm:Mod (fun x=>x=s1∨v1.ownBlock=some x∨x∈L1) ws w1)
  (hv:v1'.ownBlock=v1.ownBlock) {i' o':Int} (hn:w1.heap[n]? =some (.cells (ndc true (nd n) i' o') 222 (0,0))):yK w0 h s0 s1 mb v0 v1 L0 L1 nd m n 2 w1:=by
 obtain⟨kh,⟨es,c,kb,M⟩,m0,v0',L0',i0,d0,d1,hok0,hperm0,ik⟩:=H;have no:∀(x:Nat) (ob:Obj),ws.heap[x]? =some ob→x≠s1→(∀cs,ob≠ .cells cs 212 (0,0))→(∀cs,ob≠ .cells cs 222 (0,0))→¬(x=s1∨v1.ownBlock=some x∨x∈L1):=by
  rintro x ob hx h1 h2 h3 (e|e|e)
  ·exact h1 e
  ·exact d1.notown hx h2 e
  ·exact d1.notin hx h3 e
 have kh1:=hm.at kh (no _ _ kh (aB kh d1.side (aM (by decide))) (fun _=>aM (by decide)) (fun _=>aM (by decide)));have kb1:=hm.at kb (no _ _ kb (aB kb d1.side (by simp)) (by simp) (by simp));have ks0:=hm.at d0.side (no _ _ d0.side Cp (fun _=>aM (by decide)) (fun _=>aM (by decide)));have Rh:=d0.own.mod hm (fun g hg e=>by
  obtain⟨cur,kg⟩:=cJ d0.own hg;rcases e with e|e|e
  ·exact aB kg d1.side (aM (by decide)) e
  ·rw[ik]at hg;exact az g hg e
  ·exact d1.notin kg (fun _=>aM (by decide)) e)
 have hnd0:(L0'++[n]).Nodup:=hperm0.nodup_iff.2 (hp.nodup_iff.1 d1.nodup);have hnn:n∉L0':=fun e=>(aZ7.1 hnd0).2.2 n e n (by simp) rfl;have Cm:L1'.Perm L0':=(List.perm_append_right_iff [n]).1 (af.trans (hp.trans hperm0.symm));have hoo:=qq v0' L0' i0 d0 d1 hperm0;have rr:Sd w1 s1 true v1' L1' nd (fun b=>(L0'.idxOf b:Int)):=hS.congr (fun _ _=>rfl) (fun b hb=>(hoo b hb).symm);have jd:Sd w1 s0 false v0' L0' nd (fun b=>(L1'.idxOf b:Int)):=rr.other ks0 Rh (fun b hb=>Cm.mem_iff.2 hb) (fun i b hb=>uQ d0.nodup hb);have Rt:L0'.Perm (m.map Prod.snd):=(List.perm_append_right_iff [n]).1 (hperm0.trans oe);refine⟨kh1,⟨es,c,kb1,M⟩,m0.then hm (fun i _ e=> ?_),v0',L0',v1',L1',⟨kh1,⟨es,c,kb1,M⟩,jd,rr,hok0,ak,Rt,Cm.trans Rt,hids,fun g hg=>by rw[hv];rw[ik]at hg;exact az g hg,Cp⟩,hperm0,ik,hv,true,i',o',hn⟩;rcases e with e|e|e
 ·exact .inr (.inr (.inl e))
 ·exact .inr (.inr (.inr (.inr (.inl e))))
 ·exact .inr (.inr (.inr (.inr (.inr (.inr e)))))
end
end
section
open Go.RowKit Go.Sort
attribute [local go_sem↓] eG gM fY d9 pF
attribute [local go_sem] rkc_size ndc_size aJ aC aO aL aQ aI aP Value.cells cY oP WY WZ dB rC AC
theorem fM.ids {h:Nat} {C:List Nd} {T:Nat→Prop} {w:We} (hA:fM h C T w):(C.map Nd.id).Nodup:=by
 obtain⟨s0,s1,mb,v0,v1,L0,L1,nd,m,H,rfl,hO⟩:=hA;obtain⟨es,c,kb,M⟩:=H.km;have e:List.map (Nd.id∘fun p=>nd p.snd) m=m.map Prod.fst:=List.map_congr_left (fun p hp=>H.ids p.1 p.2 hp);rw[aX0,e];exact M.nodup
theorem BL {h:Nat} {C:List Nd} {T:Nat→Prop} {w:We} (hA:fM h C T w) (hT:∀i,T i→i<w.heap.size) (id:Wi) (hC:C.length≤700000) (dx:∃x∈C,x.id=id):
  Calls Tryz.prog 53 #[ptrV h,.int .i64 id.toInt] w fun e w'=>(∃x∈C,x.id=id∧e= .returned (.tuple #[.agg (rkc x.r),.int .i64 0]))∧fM h (C.eraseP (fun x=>x.id==id)) T w'∧Mod T w w':=by
 obtain⟨s0,s1,mb,v0,v1,L0,L1,nd,m,H,rfl,hO⟩:=hA;obtain⟨b,hb,zt,On⟩:=H.at dx;obtain⟨es,c,kb,M⟩:=H.km;have kh:=H.kh;have HH:=Hi H;have HO:=Hi hO;have HT:=Hi hT;have HB:=Hi (Ai hb (Ai zt On));have Nb:Hid (L0.length=m.length∧L1.length=m.length∧m.length≤700000∧0<L0.length):=Hi ⟨by rw[H.p0.length_eq,aZs],by rw[H.p1.length_eq,aZs],by simpa using hC,List.length_pos_of_mem zt⟩;have cd:∀wq b',wq.heap[mb]? =some (.map es c)→(Instr.lookup 216 (.map (some mb)) (.int .i64 id.toInt) b').run Tryz.prog wq=_:=fun wq b' hq=>M.lookup IT Tryz.underlying216 (z:= .pointer none) (fun w=>by kernel_rfl) wq hq id b';simp only[hb,aYj,zE,aWz]at cd;have ml:=Hi cd;clear H hO hT hC dx cd hb zt On;go_enter Tryz.func53,Tryz.ntmps53;go_upto_region 0 with fail;have Lkh:=aA kh;have Lkb:=aA kb;refine ZP0 [3,0] ?_;refine Za pZ fun p4 od=> ?_;refine Zv ?_;refine TD.nil (fun w1 hr=> ?_);replace kh:=hr.q kh;replace kb:=hr.q kb;obtain⟨gp4,kp4⟩:=hr.b p4;have m1:=hr.mod;clear hr;go_wp2_with fail;go_at_call 89;refine(there_c kh).mono ?_;rintro e w2 ⟨rfl,rfl⟩;go_upto_region 3 with fail;have hl:∀wq,Mod (fun _=>False) w2 wq→(Instr.lookup 216 (.map (some mb)) (.int .i64 id.toInt) true).run Tryz.prog wq= .ok (.tuple #[ptrV b,.bool true]) wq:=fun wq hq=>ml.out wq true (hq.at0 kb);have Lkh:=aA kh;have Lkb:=aA kb;have Lkp4:=aA kp4;refine ZP0 [0,0,0,1,0,1,0,0,0,0,0] ?_
 iterate 5 first|refine Zv ?_|refine Zd ?_
 refine ZK hl ?_
 iterate 5 refine Zv ?_
 refine TD.nil (fun w3 hr=> ?_);replace kh:=hr.q kh;replace kb:=hr.q kb;replace kp4:=hr.q kp4;have m3:=m1.then0 hr.mod;clear hr hl ml;replace kp4:w3.heap[p4]? =some (.cells #[.int .u64 0,.int .u64 0] 152 (0,0)):=kp4;have Ga:p4≠mb:=aB kp4 kb (by simp);have hbh:h≠mb:=aB kh kb (by simp);go_upto_region 6 with fail;have Lkh:=aA kh;have Lkp4:=aA kp4;have Lkb:=aA kb;refine ZP0 [0,0,0,1,0,5] ?_
 iterate 5 first|refine Zv ?_|refine Zd ?_
 refine Zi fun wE hr=> ?_;replace kh:=hr.mod.at0 kh;replace kp4:=hr.mod.at0 kp4;replace kb:=hr.mod.at0 kb;have mE:=hr.mod;obtain⟨es19,Jw,Mkb⟩:=M.delete IT Tryz.underlying216 wE kb id;refine ZD (Jw) ?_;refine ZN kb fun w5 kb mS=> ?_;(try simp only[Array.setIfInBounds,zL]at kb);replace kh:=mS.at_ne kh (by omega);replace kp4:=mS.at_ne kp4 (by omega);have m5:Mod (fun i=>i=mb) w w5:=((m3.then0 mE).mono (fun _ _ h=>h.elim)).then mS (fun _ _ h=>h);clear mE mS;go_upto_region 7 with fail;have Lkh:=aA kh;have Lkb:=aA kb;have Lkp4:=aA kp4;refine ZP0 [0,0,0,1,0] ?_
 iterate 5 first|refine Zv ?_|refine Zd ?_
 refine TD.nil (fun w6 hr=> ?_);replace kh:=hr.q kh;replace kb:=hr.q kb;replace kp4:=hr.q kp4;have m6:=m5.then0 hr.mod;clear hr;have sm:∀(k:Bool) (s:Nat) (v:Wg) (L:Wd) (o:Nat→Int),Sd w s k v L nd o→Sd w6 s k v L nd o:=fun k s v L o hS=>by
  obtain⟨es0,c0,kb0,_⟩:=HH.out.km;refine hS.mod m6 (fun e=> ?_) (fun g hg e=> ?_) (fun b hb e=> ?_)
  ·exact aB hS.side kb0 (by simp) e
  ·obtain⟨cur,kg⟩:=cJ hS.own hg;exact aB kg kb0 (by simp) e
  ·obtain⟨i,hi⟩:=aZ8.1 hb;exact aB (hS.nodes i _ hi) kb0 (by simp) e
 have Up:Hid (yK w6 h s0 s1 mb v0 v1 L0 L1 nd (del id m) b 0 w6):=Hi ⟨kh,⟨_,_,kb,Mkb⟩,Mod.refl _ _,sm _ _ _ _ _ HH.out.d0,sm _ _ _ _ _ HH.out.d1⟩;have HK:=Hi (Ai kp4 gp4);have Li:Hid (L0[L0.idxOf b]? =some b∧L1[L1.idxOf b]? =some b∧b∈L1):=Hi (by
  have h1:b∈L1:=HH.out.p1.mem_iff.2 (HH.out.p0.mem_iff.1 HB.out.2.1);exact⟨by rw[aZb (aWb HB.out.2.1)];simp,by rw[aZb (aWb h1)];simp,h1⟩)
 clear kb Mkb kh kp4 gp4 sm Ga hbh M;go_wp2_with fail;go_loopw [35,9] (fun s35 _ ws=>∃j:Nat,j≤2∧s35= .int .i64 (j:Int)∧Hid (yK w6 h s0 s1 mb v0 v1 L0 L1 nd (del id m) b j ws)) (fun s35 _ _=>2-(intOf s35).toNat)
 case atStart=>exact⟨0,by omega,rfl,Up⟩
 case round=>
  obtain⟨j,hj,rfl,HP⟩:=hrel;clear Up;rcases(show j=0∨j=1∨j=2 by omega)with rfl|rfl|rfl
  ·obtain⟨_,_,_,d0,d1⟩:=_root_.id HP.out;have ks:=d0.side;have kn0:=d0.cell HB.out.2.1;simp only[ndc,if_true,if_false,aZr]at kn0;simp only[x4,kn,if_true,if_false,aZr]at ks;clear d0 d1;go_upto_region 10 with fail;have Lks:=aA ks;have Lkn0:=aA kn0;refine ZP [0,0,0,0,0,0,1,0,0,0,1,5] ?_
   iterate 11 first|refine Zv ?_|refine Zd ?_
   refine Zi fun w7 hr=> ?_;replace ks:=hr.q ks;replace kn0:=hr.q kn0;have HD:=Hi (HP.out.mod0 hr.mod);have ao:Calls Tryz.prog 90 #[TF s0,.int .i64 (L0.idxOf b:Int)] w7 fun e w'=>e= .returned (.iface 212 (ptrV b))∧yK w6 h s0 s1 mb v0 v1 L0 L1 nd (del id m) b 1 w':=(tC HD.out.2.2.2.1 (n:=L0.length-1) (by have:=Nb.out;omega) Li.out.1 (by have:=Nb.out;omega) HH.out.ok0).mono (fun e w' h=>by
    obtain⟨v',L',he,hS,ak,af,hm,hv,i',hn⟩:=h;exact⟨he,yK.one HD.out HH.out.ss HH.out.ap (HH.out.p1.trans HH.out.p0.symm) hS ak af hm hv hn⟩)
   clear ks kn0 hr;(refine bJ (by simp only[zK];rfl) (by rfl) ?y37 ao (fun wn hP=> ?n37);(case y37=>(go_simp;(try(first|with_reducible rfl|(constructor<;>with_reducible rfl)))));try simp only[zL]);refine TE.nil ?_;have HX:=Hi hP;clear hP ao HD HP;go_wp2_with fail;go_roundw
   case rel=>exact⟨1,by omega,by go_num,HX⟩
   case measure=>simp[intOf]
  ·obtain⟨_,_,_,v0',L0',i',d0,d1,_,af,_⟩:=_root_.id HP.out;have ks:=d1.side;have kn0:wr.heap[b]? =some (.cells (ndc true (nd b) (L1.idxOf b:Int) i') 222 (0,0)):=by
    have h:=d1.cell Li.out.2.2;rw[if_pos rfl]at h;exact h
   simp only[ndc,if_true,if_false,aZr]at kn0;simp only[x4,kn,if_true,if_false,aZr]at ks;have D1:=Hi d1;clear d0 d1 af;go_upto_region 10 with fail;have Lks:=aA ks;have Lkn0:=aA kn0;refine ZP [0,0,0,0,0,0,1,0,0,0,1,5] ?_
   iterate 11 first|refine Zv ?_|refine Zd ?_
   refine Zi fun w7 hr=> ?_;replace ks:=hr.q ks;replace kn0:=hr.q kn0;have HD:=Hi (HP.out.mod0 hr.mod);have ao:Calls Tryz.prog 90 #[TF s1,.int .i64 (L1.idxOf b:Int)] w7 fun e w'=>e= .returned (.iface 212 (ptrV b))∧yK w6 h s0 s1 mb v0 v1 L0 L1 nd (del id m) b 2 w':=(tC (D1.out.mod0 hr.mod) (n:=L1.length-1) (by have:=Nb.out;omega) Li.out.2.1 (by have:=Nb.out;omega) HH.out.ok1).mono (fun e w' h=>by
    obtain⟨v',L',he,hS,ak,af,hm,hv,i2,hn⟩:=h;refine⟨he,yK.two HD.out HH.out.ss HH.out.ap (HH.out.p1.trans HH.out.p0.symm) (fun i x hx=>HH.out.ids i x ((BK id m).subset hx)) (HH.out.p0.trans (del_map_perm HB.out.1)) (fun v2 L2 i3 e0 e1 ce x hx=> ?_) hS ak af hm hv hn⟩;have ct:(L'++[b]).Nodup:=af.nodup_iff.2 D1.out.nodup;have Xb:x≠b:=fun e=>(aZ7.1 ct).2.2 x hx b (by simp) e;have gy:x∈L1:=af.mem_iff.1 (by simp[hx]);have c1:=(D1.out.mod0 hr.mod).cell gy;have c2:=e1.cell gy;rw[c1]at c2;simp only[ndc,if_neg Xb,aYm,Obj.cells.injEq,Array.mk.injEq,List.cons.injEq,Value.int.injEq,true_and,and_true,if_true]at c2;rw[if_neg Xb];exact c2)
   clear ks kn0 hr;(refine bJ (by simp only[zK];rfl) (by rfl) ?y50 ao (fun wn hP=> ?n50);(case y50=>(go_simp;(try(first|with_reducible rfl|(constructor<;>with_reducible rfl)))));try simp only[zL]);refine TE.nil ?_;have HX:=Hi hP;clear hP ao HD HP;go_wp2_with fail;go_roundw
   case rel=>exact⟨2,by omega,by go_num,HX⟩
   case measure=>simp[intOf]
  ·obtain⟨_,_,Qo,v0',L0',v1',L1',hp,af,ik,jv,k,i,o,kn0⟩:=_root_.id HP.out;have bn:∀x,DB h s0 s1 mb v0 v1 L0 x→x<w.heap.size:=fun x hx=>HT.out x (HO.out x hx);have Lx:∀x,(x=mb∨x=s0∨x=s1∨v0.ownBlock=some x∨v1.ownBlock=some x∨x∈L0∨x∈L1)→DB h s0 s1 mb v0 v1 L0 x:=by
    rintro x (e|e|e|e|e|e|e)
    ·exact .inr (.inr (.inr (.inl e)))
    ·exact .inr (.inl e)
    ·exact .inr (.inr (.inl e))
    ·exact .inr (.inr (.inr (.inr (.inl e))))
    ·exact .inr (.inr (.inr (.inr (.inr (.inl e)))))
    ·exact .inr (.inr (.inr (.inr (.inr (.inr e)))))
    ·exact .inr (.inr (.inr (.inr (.inr (.inr (HH.out.p0.mem_iff.2 (HH.out.p1.mem_iff.1 e)))))))
   have sk:∀x,DB h s0 s1 mb v0' v1' L0' x→DB h s0 s1 mb v0 v1 L0 x:=by
    rintro x (e|e|e|e|e|e|e)
    ·exact .inl e
    ·exact .inr (.inl e)
    ·exact .inr (.inr (.inl e))
    ·exact .inr (.inr (.inr (.inl e)))
    ·exact .inr (.inr (.inr (.inr (.inl (ik▸e)))))
    ·exact .inr (.inr (.inr (.inr (.inr (.inl (jv▸e))))))
    ·exact .inr (.inr (.inr (.inr (.inr (.inr (af.mem_iff.1 (by simp[e])))))))
   have kp4:=Qo.at HK.out.1 (fun e=>by
    have h1:=bn _ (Lx _ e);have h2:=HK.out.2;omega)
   have HF:=Hi (Ai Qo (Ai hp (Ai bn (Ai Lx sk))));clear Qo hp af ik jv bn Lx sk;go_upto_region 12 with fail;have Lkn0:=aA kn0;have Lkp4:=aA kp4;refine ZP0 [0,0,0,1,5,0] ?_
   iterate 4 first|refine Zv ?_|refine Zd ?_
   refine Zi fun w7 hr=> ?_;replace kn0:=hr.q kn0;replace kp4:=hr.q kp4;have hmF:=hr.mod;clear hr;refine ZS ?_;refine ZM kp4 fun wn kp4 mS=> ?_;(try simp only[Array.setIfInBounds,zL]at kp4);have hmG:Mod (fun i=>i=p4) wr wn:=((hmF.mono (fun _ _ h=>h.elim)).then mS (fun _ _ e=>e));clear mS hmF;refine Ze ?_;refine TE.nil ?_;go_wp2_with fail;obtain⟨Qo,hp,bn,Lx,sk⟩:=HF.out;refine bodyPost_ret (results_cell2 (x:= .agg (rkc (nd b).r)) rfl rfl (by rw[eG];simp[kp4,rkc])) rfl ⟨⟨nd b,aZj.2 ⟨(id,b),cP HB.out.1,rfl⟩,HB.out.2.2,rfl⟩,⟨s0,s1,mb,v0',v1',L0',L1',nd,del id m,hp.mod hmG (fun x hx e=> ?_),?_,fun x hx=>HO.out x (sk x hx)⟩,?_⟩
   ·have h1:=bn _ (sk _ hx);have h2:=HK.out.2;omega
   ·refine(y7 _ _ (fun p hp=> ?_)).symm;show((nd p.2).id==id)=decide (p.1=id);rw[HH.out.ids p.1 p.2 hp];rfl
   ·refine((m6.mono (T:=T) (fun x _ e=>HO.out x (.inr (.inr (.inr (.inl e)))))).then Qo (fun x hx e=>HO.out x (Lx x e))).then hmG (fun x hx e=> ?_);have h2:=HK.out.2;omega
end
section
open Go.RowKit Go.Shelf
attribute [local go_sem] Oper.semAt_some
def upto {α:Type} (f:Nat→α) (k:Nat):List α:=(List.range k).map f
theorem tK {α:Type} (f:Nat→α) (k:Nat):upto f (k+1)=upto f k++[f k]:=by simp[upto,List.range_succ]
theorem yE {α:Type} (f:Nat→α) (k:Nat):(upto f k).length=k:=by simp[upto]
theorem KZ (zs:Wd):upto (fun j=>zs[j]?.getD 0) zs.length=zs:=by
 apply List.ext_getElem
 ·simp[upto]
 ·intro i h1 h2;simp[upto,h2]
theorem FB (zs:Wd) {k:Nat} (hk:k≤zs.length):upto (fun j=>zs[j]?.getD 0) k=zs.take k:=by
 apply List.ext_getElem
 ·simp[upto,hk]
 ·intro i h1 h2
  have:i<zs.length:=by simp[upto]at h1;omega
  simp[upto,this]
theorem AP (F:Fence) (n:Nat) (h7:F.fn 138) (lq:F.round=none) (hn:1≤n) (l Bs n₀ b off len cap:Nat) (zs:Wd) (hreach:len*8≤140737488351232) (hb:b<n₀) (J Jx:Wd→We→Prop)
  (hY:∀pre x W,J pre W→pre.length<len→YieldAt F (n-1) Tryz.prog l #[ptrV x] W fun e W'=>
   (e= .returned (.bool true)∧J (pre++[x]) W'∧Below n₀ W W')∨(e= .returned (.bool false)∧Jx (pre++[x]) W'))
  (W:We) (hBs:W.cell? ⟨Bs,0,none⟩=some (.slice (some ⟨b,off,none⟩) len cap)) (hc:∀j,j<len→W.cell? ⟨b,off+j,none⟩=some (ptrV (zs[j]?.getD 0))) (h0:J [] W):
  CallsIn F n Tryz.prog 138 #[.func (.yield l) #[] #[],.pointer (some ⟨Bs,0,none⟩)] W fun e W'=>(∃v,e= .returned v)∧
   ((∃ys,ys=upto (fun j=>zs[j]?.getD 0) len∧J ys W')∨(∃pre,(∃k,k≤len∧pre=upto (fun j=>zs[j]?.getD 0) k)∧Jx pre W')):=by
 refine callsIn_of_wp Tryz.func138 rfl h7 ?_ lq;simp only[Tryz.ntmps138,aYs,aZu,aYw,Nat.reduceAdd,Nat.reduceSub,aXd,aXc,aXo,aXj,aYq,aYg]
 gi_wp2
 gi_loopw [7] (fun i wr=>∃k:Nat,k≤len∧i= .int .i64 k∧J (upto (fun j=>zs[j]?.getD 0) k) wr∧Below n₀ W wr)
  (fun i _=>len-(intOf i).toNat)
 case atStart=>exact⟨0,aYf _,rfl,h0,Below.refl _ _⟩
 case round=>
  obtain⟨k,hk,rfl,pk,nf⟩:=hrel;have Lz:k<len→wr.cell? ⟨b,off+k,none⟩=some (ptrV (zs[k]?.getD 0)):=fun h=>(nf.cell (p:=⟨b,off+k,none⟩) hb).trans (hc k h);by_cases hlt:k<len
  ·obtain⟨fn,tmps,assign,body,hy,hR⟩:=hY _ (zs[k]?.getD 0) wr pk (by rw[yE];exact hlt);have hcx':=Lz hlt
   gi_wp2
   refine hR.mono ?_;rintro e W3 (⟨rfl,Ce,jt⟩|⟨rfl,jb⟩)
   ·gi_wp2
    go_roundw
    case rel=>exact⟨k+1,by omega,by simp,by rw[tK];exact Ce,nf.trans jt⟩
    case measure=>simp[intOf];omega
   ·gi_wp2
    refine bodyPost_ret (results_none rfl _ _ _) rfl ?_;exact⟨⟨_,rfl⟩,.inr ⟨_,⟨k+1,by omega,(tK _ _).symm⟩,jb⟩⟩
  ·obtain rfl:k=len:=by omega
   gi_wp2
   go_end0;exact⟨⟨_,rfl⟩,.inl ⟨_,rfl,pk⟩⟩
def lY (n₀:Nat) (W:We) (sv:Wg) (zs:Wd):Prop:=
 (sv= .slice none 0 0∧zs=[])∨∃b off cap,sv= .slice (some ⟨b,off,none⟩) zs.length cap∧b<n₀∧∀j,j<zs.length→W.cell? ⟨b,off+j,none⟩=some (ptrV (zs[j]?.getD 0))
theorem lY.below {n₀:Nat} {A B:We} (h:Below n₀ A B) {sv:Wg} {zs:Wd}:lY n₀ A sv zs→lY n₀ B sv zs
 | .inl e=> .inl e
 | .inr ⟨b,off,cap,e,hb,hc⟩=> .inr ⟨b,off,cap,e,hb,fun j hj=>(h.cell (p:=⟨b,off+j,none⟩) hb).trans (hc j hj)⟩
theorem lY.own {w:We} {v:Wg} {L:Wd} (h:aE pc 1 212 w 0 v L):lY w.heap.size w v L:=by
 by_cases hL:L=[]
 ·subst hL;rcases h.2 with⟨rfl,_⟩|⟨g,cap,cur,rfl,_,hg,_⟩
  ·exact .inl ⟨rfl,rfl⟩
  ·exact .inr ⟨g,0,cap,rfl,aA hg,fun j hj=>by cases hj⟩
 ·obtain⟨g,cap,cur,rfl,_,kg,_,fz,bx,_⟩:=gS h hL;refine .inr ⟨g,0,cap,rfl,aA kg,fun j hj=> ?_⟩;rw[aXe,aJ,kg];simp only[aZb hj,zE];exact bx j _ (aZb hj)
theorem rR (F:Fence) (n:Nat) (h7:F.fn 138) (lq:F.round=none) (l Bs:Nat) (J:Wd→We→Prop) (W:We) (hBs:W.cell? ⟨Bs,0,none⟩=some (.slice none 0 0)) (h0:J [] W):
  CallsIn F n Tryz.prog 138 #[.func (.yield l) #[] #[],.pointer (some ⟨Bs,0,none⟩)] W fun e W'=>(∃v,e= .returned v)∧J [] W':=by
 refine callsIn_of_wp Tryz.func138 rfl h7 ?_ lq;simp only[Tryz.ntmps138,aYs,aZu,aYw,Nat.reduceAdd,Nat.reduceSub,aXd,aXc,aXo,aXj,aYq,aYg]
 gi_wp2
 gi_loopw [7] (fun i wr=>i= .int .i64 0∧J [] wr) (fun _ _=>0)
 case atStart=>exact⟨rfl,h0⟩
 case round=>
  obtain⟨rfl,pk⟩:=hrel
  gi_wp2
  go_end0;exact⟨⟨_,rfl⟩,pk⟩
theorem values_c (a:Wb) (len cap:Nat) (w:We):
  Calls Tryz.prog 94 #[.slice a len cap] w fun e w'=>e= .returned (.func (.func 138) #[] #[.pointer (some ⟨w.heap.size,0,none⟩)])∧w'=w.alloc (.cells #[.slice a len cap] 224):=by
 go_enter Tryz.func94,Tryz.ntmps94;go_wp2_with fail;go_ret;exact⟨rfl,rfl⟩
theorem vY (F:Fence) (n:Nat) (h7:F.fn 138) (lq:F.round=none) (hn:1≤n) (Bs n₀:Nat) (sv:Wg) (zs:Wd) (hreach:zs.length*8≤140737488351232) (w:We) (hBs:Bs<w.heap.size) (Qy:n₀≤w.heap.size)
  (hc:w.cell? ⟨Bs,0,none⟩=some sv) (hI:lY n₀ w sv zs):
  SeqStopsK F n Tryz.prog 138 #[.pointer (some ⟨Bs,0,none⟩)] (fun x:Nat=> #[ptrV x]) (Below n₀) (fun ys=>ys=zs) (fun pre=>pre<+:zs) zs.length w:=fun l J Jx W hW _ _ hY h0=>by
 have hc':=(hW.cell (p:=⟨Bs,0,none⟩) hBs).trans hc;rcases hI.below (hW.mono Qy)with⟨rfl,rfl⟩|⟨b,off,cap,rfl,hb,fz⟩
 ·exact(rR F n h7 lq l Bs J W hc' h0).mono fun e W' ⟨he,hj⟩=>⟨he,.inl ⟨_,rfl,hj⟩⟩
 ·refine(AP F n h7 lq hn l Bs n₀ b off zs.length cap zs hreach hb J Jx hY W hc' fz h0).mono ?_;rintro e W' ⟨he,⟨ys,rfl,hj⟩|⟨pre,⟨k,hk,rfl⟩,hj⟩⟩
  ·exact⟨he,.inl ⟨_,KZ zs,hj⟩⟩
  ·exact⟨he,.inr ⟨_,by rw[FB zs hk];exact List.take_prefix _ _,hj⟩⟩
theorem VC:(Tryz.prog.info? 212).map (fun i=>(i.zero,i.size,i.bytes))=some (some (.pointer none),1,8):=by kernel_rfl
theorem t8 (F:Fence) (n:Nat) (h4:F.fn 155) (h7:F.fn 138) (lq:F.round=none) (hn:3≤n) (Bs n₀:Nat) (sv:Wg) (zs:Wd) (ag:zs.length≤900000) (w:We) (hBs:Bs<w.heap.size) (Qy:n₀≤w.heap.size)
  (hc:w.cell? ⟨Bs,0,none⟩=some sv) (hI:lY n₀ w sv zs):
  CallsIn F n Tryz.prog 155 #[.slice none 0 0,.func (.func 138) #[] #[.pointer (some ⟨Bs,0,none⟩)]] w fun e W'=>∃v,e= .returned v∧W'.ownsRow w.heap.size 212 1 v zs.length (zs.map ptrV)∧(v= .slice none 0 0↔zs=[])∧Below w.heap.size w W':=by
 have h1:1≤n:=by omega
 obtain⟨i0,hi,cy,bj,bp⟩:=info_parts VC;refine callsIn_of_wp_marks Tryz.func155 rfl h4 ?_ lq;simp only[Tryz.ntmps155,aYs,aZu,aYw,Nat.reduceAdd,Nat.reduceSub,aXd,aXc,aXo,aXj,aYq,aYg]
 gi_wp2
 have bO:=Boxed.new w 224 (.slice none 0 0);have Dd:Below w.heap.size w (w.alloc (.cells #[.slice none 0 0] 224)):=(Below.refl _ w).alloc (aZq _) _;refine wpIn_rangeFunc_ownG lq h1 (gf:=138) (lb:= #[.pointer (some ⟨Bs,0,none⟩)]) rfl h7 (enters_of Tryz.func138 (by kernel_rfl) rfl)
  (vY F (n-1) h7 lq (by omega) Bs w.heap.size sv zs (by omega) _ (by simp;omega) (by simp) ((Dd.cell (p:=⟨Bs,0,none⟩) hBs).trans hc) ((show lY w.heap.size w sv zs from hI.imp _root_.id (fun⟨b,off,cap,e,hb,h⟩=>⟨b,off,cap,e,aZd hb Qy,h⟩)).below Dd)) belowK_t (belowK_b (by simp)) (Below.refl _ _) (fun _=>rfl)
  (fun pre W=>(∃v,Boxed W w.heap.size 224 v∧W.ownsRow w.heap.size 212 1 v pre.length (pre.map ptrV)∧(v= .slice none 0 0↔pre=[]))∧Below w.heap.size w W)
  (fun _ _ _=>False)
  (OwnFrom.and (Own.from (holdsRow_own w.heap.size w.heap.size 224 212 1 (fun pre=>pre.length) (fun pre=>pre.map ptrV) (fun pre v=>v= .slice none 0 0↔pre=[])) _) (ownFrom_below (aZq _) (by simp)))
  (fun _ _ _ _ _ hs _ _=>hs)
  ⟨⟨_,bO,World.ownsRow_nil _ _ _ _,by simp⟩,Dd⟩
  (fun x=> {tmps:= #[.slice none 0 0,.func (.func 138) #[] #[.pointer (some ⟨Bs,0,none⟩)],.pointer (some ⟨w.heap.size,0,none⟩),undef,.slice none 0 0,ptrV x,.func (.func 138) #[] #[.pointer (some ⟨Bs,0,none⟩)],ptrV x,undef,undef,undef,undef,undef],defers:=[]}) ?assign ?body ?done ?stop
 case assign=>
  intro l x W K hK
  gi_wp2
  exact hK
 case body=>
  rintro l pre x W ⟨⟨v,hv,bk,et⟩,hB⟩ hlt;have hc:=hv.cell
  gi_wp2_with (gi_at_builtin;refine wpListIn_append_own _ rfl _ _ 224 rfl w.heap.size 212 i0 (.pointer none) 1 8 Tryz.underlying224 hi cy bj bp rfl (by decide) _ _ _ rfl (bk.alloc _) ⟨W.heap.size,0,none⟩ 1 1 [ptrV x] rfl rfl (cell_one_new _ _ _) (by simp[Value.oneCell']) (by simp[maxLen];omega) (by omega) (by have:=hB.size;simp;omega) ?_;intro v' w1 sj Ah _;obtain⟨g',cap',rfl⟩:=ownsRow_succ sj;obtain⟨jv,Mp,di,jy,cq⟩:=hv.appended (by decide) bk hB.size (aZq _) sj Ah;have nh:=jv.cell;have Eb:=jv.frozen)
  exact⟨jy.from _,cq,⟨_,Mp,by simpa using di,by simp⟩,hB.trans cq⟩
 case done=>
  rintro D ys W hD rfl ⟨⟨v,hv,bk,et⟩,hB⟩ hK;have hc:=hv.cell
  gi_wp2
  refine⟨by simp,.inl ⟨_,_,rfl,run_takeDeferred hK,?_⟩⟩;exact⟨_,results_tmp rfl _ _ _,v,rfl,ownsRow_putObj bk _ hK rfl,et,hB.trans (belowK_b (w:=w) (aZq _) W D _ _ (by simp at hD;omega) hK rfl rfl)⟩
 case stop=>
  rintro D c pre W _ _ h _;exact h.elim
theorem DT (Bs n₀:Nat) (sv:Wg) (zs:Wd) (ag:zs.length≤900000) (w:We) (hBs:Bs<w.heap.size) (Qy:n₀≤w.heap.size) (hc:w.cell? ⟨Bs,0,none⟩=some sv) (hI:lY n₀ w sv zs):
  Calls Tryz.prog 136 #[.func (.func 138) #[] #[.pointer (some ⟨Bs,0,none⟩)]] w fun e W'=>∃v,e= .returned v∧W'.ownsRow w.heap.size 212 1 v zs.length (zs.map ptrV)∧(v= .slice none 0 0↔zs=[])∧Below w.heap.size w W':=by
 have ao:=callsIn_wide.1 (t8 Fence.wide 3 trivial trivial rfl (by omega) Bs n₀ sv zs ag w hBs Qy hc hI);clear hc hI;go_enter Tryz.func136,Tryz.ntmps136;go_wp2_with fail;go_at_call 155;refine ao.mono ?_;rintro e w2 ⟨v,rfl,h1,h2,h3⟩;have HX:=Hi (Ai h1 (Ai h2 h3));clear h1 h2 h3 ao;go_wp2_with fail;go_ret;exact⟨v,rfl,HX.out⟩
end
section
open Go.RowKit
theorem len64_a (w:We):Calls Tryz.prog 175 #[.int .u64 0] w fun e w'=>(∃z:Int,e= .returned (.int .i64 z))∧w'=w:=by
 go_enter Tryz.func175,Tryz.ntmps175;go_wp2_with fail;go_ret;exact⟨⟨_,rfl⟩,rfl⟩
theorem QY (w:We):Calls Tryz.prog 157 #[.int .u64 0] w fun e w'=>(∃z:Int,e= .returned (.int .i64 z))∧w'=w:=by
 go_enter Tryz.func157,Tryz.ntmps157;go_wp2_with fail;go_at_call 175;refine(len64_a w).mono ?_;rintro e w2 ⟨⟨z,rfl⟩,rfl⟩;go_wp2_with fail;go_ret;exact⟨⟨_,rfl⟩,rfl⟩
theorem len64_b (w:We):Calls Tryz.prog 175 #[.int .u64 1] w fun e w'=>(∃z:Int,e= .returned (.int .i64 z))∧w'=w:=by
 go_enter Tryz.func175,Tryz.ntmps175;go_wp2_with fail;go_ret;exact⟨⟨_,rfl⟩,rfl⟩
theorem QZ (w:We):Calls Tryz.prog 157 #[.int .u64 1] w fun e w'=>(∃z:Int,e= .returned (.int .i64 z))∧w'=w:=by
 go_enter Tryz.func157,Tryz.ntmps157;go_wp2_with fail;go_at_call 175;refine(len64_b w).mono ?_;rintro e w2 ⟨⟨z,rfl⟩,rfl⟩;go_wp2_with fail;go_ret;exact⟨⟨_,rfl⟩,rfl⟩
theorem lenB_c (n:Nat) (hn:n≤1) (w:We):Calls Tryz.prog 157 #[.int .u64 ((n:Nat):Int)] w fun e w'=>(∃z:Int,e= .returned (.int .i64 z))∧w'=w:=by
 rcases(by omega:n=0∨n=1)with rfl|rfl
 ·exact QY w
 ·exact QZ w
theorem ins_1 (s c:Wg) (n:Nat) (hn:n≤1) (z:Wg) (w:We):Calls Tryz.prog 166 #[s,.int .i64 0,.int .i64 (n:Int),c] w fun e w'=>e= .returned (.tuple #[])∧w'=w:=by
 go_enter Tryz.func166,Tryz.ntmps166;go_wp2_with fail;go_loopw [8] (fun s8 ws=>s8= .int .i64 1∧ws=w) (fun _ _=>0)
 case atStart=>exact⟨rfl,rfl⟩
 case round=>
  obtain⟨rfl,rfl⟩:=hrel;have hd:decide ((1:Int)<(n:Int))=false:=Df (by omega);go_wp2_with fail;go_end0;exact⟨rfl,rfl⟩
theorem pdq_1 (s c:Wg) (n:Nat) (hn:n≤1) (z:Wg) (w:We):Calls Tryz.prog 156 #[s,.int .i64 0,.int .i64 (n:Int),z,c] w fun e w'=>e= .returned (.tuple #[])∧w'=w:=by
 go_enter Tryz.func156,Tryz.ntmps156;go_wp2_with fail;go_loopw [1,2] (fun s1 s2 ws=>s1= .int .i64 0∧s2= .int .i64 (n:Int)∧ws=w) (fun _ _ _=>0)
 case atStart=>exact⟨rfl,rfl,rfl⟩
 case round=>
  obtain⟨rfl,rfl,rfl⟩:=hrel;have hw:IntKind.i64.wrap ((n:Int)-0)=(n:Int):=by
   rw[IntKind.wrap_i64];omega
  have hd:decide ((n:Int)≤12)=true:=Dt (by omega);go_wp2_with fail;go_at_call 166;refine(ins_1 _ _ n hn z _).mono ?_;rintro e w2 ⟨rfl,rfl⟩;go_wp2_with fail;exact bodyPost_ret (v:= .tuple #[]) (results_none rfl _ _ _) rfl ⟨rfl,rfl⟩
theorem SF (s c:Wg) (a:Wb) (n cp:Nat) (hn:n≤1) (w:We):Calls Tryz.prog 137 #[.slice a n cp,c] w fun e w'=>e= .returned (.tuple #[])∧w'=w:=by
 go_enter Tryz.func137,Tryz.ntmps137;have hw:IntKind.u64.wrap (n:Int)=(n:Int):=by
  rw[IntKind.wrap_u64];omega
 go_wp2_with fail;go_at_call 157;refine(lenB_c n hn _).mono ?_;rintro e w2 ⟨⟨z,rfl⟩,rfl⟩;go_wp2_with fail;go_at_call 156;refine(pdq_1 _ _ n hn (.int .i64 z) _).mono ?_;rintro e w2 ⟨rfl,rfl⟩;go_wp2_with fail;go_end0;exact⟨rfl,rfl⟩
end
section
open Go.RowKit Go.Sort Go.Shelf
theorem eU {α:Type} [Inhabited α] (enc:α→Wg) {w:We} {g n:Nat} {d:Array α} {os:Array Obj} {cur:Wa} {T:Wh} {fr:Nat×Nat} (hg:w.heap[g]? =some (.cells cur T fr)):
  (sortWorld enc w g 0 n d os).heap[g]? =some (.cells (putCells enc 0 d cur) T fr)∧Mod (fun i=>i=g) w (sortWorld enc w g 0 n d os):=by
 have hlt:=aA hg;have Aj:(sortWorld enc w g 0 n d os).heap=w.heap.modify g (onCells (putCells enc 0 d))++os:=rfl;refine⟨?_,rfl,rfl,rfl,?_,fun i hi aw=> ?_⟩
 ·rw[Aj,Array.getElem?_append_left (by simpa using hlt),aX9,if_pos rfl,hg];rfl
 ·rw[Aj];simp
 ·rw[Aj,Array.getElem?_append_left (by simpa using hi),aX9,if_neg (fun e=>aw e.symm)]
def tR (nd:Nat→Nd) (ys:Wd):Prop:=∀(i j a b:Nat),i<j→ys[i]? =some a→ys[j]? =some b→nlt (nd b) (nd a)=false
theorem EJ {a b c:Nd} (h1:nlt a b=true) (h2:nlt b c=true):nlt a c=true:=by
 cases h:nlt a c
 ·exact absurd h1 (by rw[eR h (nlt_asymm h2)];decide)
 ·rfl
theorem pH (x y:Nd):decide (sC x y<0)=nlt x y:=by
 unfold sC;cases nlt x y<;>rfl
theorem YW {α:Type} (f:α→Nd):SWO (ltOf (fun x y:α=>sC (f x) (f y))) where
 irrefl x:=by show decide (sC _ _<0)=false;rw[pH];exact nlt_irrefl _
 trans x y z h1 h2:=by
  change decide (sC _ _<0)=true at h1 h2⊢;rw[pH]at *;exact EJ h1 h2
 ntrans x y z h1 h2:=by
  change decide (sC _ _<0)=false at h1 h2⊢;rw[pH]at *;exact eR h1 h2
theorem sortPtrs {w:We} {base:Nat} {v:Wg} {zs:Wd} {nd:Nat→Nd} (bn:aE pc 1 212 w base v zs) (hz:zs.length≤900000) (hd:∀b∈zs,∃i o,w.heap[b]? =some (.cells (ndc false (nd b) i o) 222 (0,0))):
  Calls Tryz.prog 137 #[v,.func (.func 95) #[] #[]] w fun e w'=>e= .returned (.tuple #[])∧∃ys,ys.Perm zs∧tR nd ys∧aE pc 1 212 w' base v ys∧Mod (fun i=>v.ownBlock=some i) w w':=by
 by_cases hL:zs=[]
 ·subst hL;obtain⟨a,c,rfl,_⟩:=bn.at o3;refine(SF (.bool true) _ a 0 c (by omega) w).mono ?_;rintro e w' ⟨rfl,rfl⟩;exact⟨rfl,[],.refl _,fun i j a b _ h=>(by cases h),bn,Mod.refl _ _⟩
 ·obtain⟨g,cap,cur,rfl,_,kg,qm,fz,bx,au⟩:=gS bn hL;obtain⟨z0,cy⟩:=List.exists_mem_of_ne_nil zs hL
  let α:= {b:Nat//b∈zs}
  haveI:Inhabited α:=⟨⟨z0,cy⟩⟩
  let enc:α→Wg:=fun x=>ptrV x.1
  let d:Array α:=zs.attach.toArray
  have Cj:d.size=zs.length:=by show zs.attach.toArray.size=_;rw[aYs,List.length_attach]
  have ut:∀i (hi:i<d.size),(d[i]!).1=zs[i]'(by omega):=fun i hi=>by
   rw[getElem!_pos d i hi];show(zs.attach.toArray[i]'(hi)).1=_;rw[List.getElem_toArray];exact congrArg Subtype.val (List.getElem_attach _)
  have hH:Holds enc w g 0 d:=fun j hj=>by
   rw[aXe,aJ,aC,kg];refine⟨?_,by simp⟩;show cur[j]? =some (ptrV (d[j]!).1);rw[ut j hj];exact bx j _ (aZb (by omega))
  have eg:∀args w,(callFunc 95 args).run Tryz.prog w= .ok (.enter 95 args) w:=enters_of Tryz.func95 (by kernel_rfl) rfl;have ao:=Any.slices_SortFunc Tryz.sortN enc (fun _=>rfl) (fun x y:α=>sC (nd x.1) (nd y.1)) (YW (fun x:α=>nd x.1)) 95 #[] g 0 cap d w eg (fun m os dk hs x y=>by
   have hm:=(eU (d:=dk) (n:=m) (os:=os) enc kg).2;obtain⟨i,o,kx⟩:=hd x.1 x.2;obtain⟨i',o',ky⟩:=hd y.1 y.2;exact P3 x.1 y.1 false (nd x.1) (nd y.1) i o i' o' _ (hm.at kx (aB kx kg (aM (by decide)))) (hm.at ky (aB ky kg (aM (by decide))))) hH (aA kg) (by omega)
  rw[Cj]at ao;refine Calls.mono ao ?_;rintro e w' ⟨rfl,d',n,os,af,Bq,rfl⟩;have fu:d'.size=zs.length:=af.1.trans Cj;obtain⟨k1,m1⟩:=eU (d:=d') (n:=n) (os:=os) enc kg;have iz:d'.toList.Perm zs.attach:=by
   have h:=af.2.2;have e1:d'.extract 0 zs.length=d':=by rw[←fu];simp
   have e2:d.extract 0 zs.length=d:=by rw[←Cj];simp
   rw[e1,e2]at h;simpa[d] using h
  have Hg:(d'.toList.map Subtype.val).Perm zs:=by
   have:=iz.map Subtype.val;rwa[List.attach_map_subtype_val]at this
  have dw:∀i a,(d'.toList.map Subtype.val)[i]? =some a→i<d'.size∧(d'[i]!).1=a:=fun i a h=>by
   have hi:i<d'.size:=by have:=(aZa.1 h).1;simpa using this
   refine⟨hi,?_⟩;rw[getElem!_pos d' i hi];rw[aZv]at h;simp[hi]at h;exact h
  refine⟨rfl,d'.toList.map Subtype.val,Hg,fun i j a b ig ha hb=> ?_,au _ _ _ k1 (by simp[putCells]) (by simp[fu]) (fun i b h=> ?_),m1.mono (fun i _ e=>by rw[e];rfl)⟩
  ·obtain⟨hi,rfl⟩:=dw i a ha;obtain⟨hj,rfl⟩:=dw j b hb;have h1:=Bq i j (aYf _) ig (by omega);change decide (sC _ _<0)=false at h1;rwa[pH]at h1
  ·obtain⟨hi,rfl⟩:=dw i b h;have hic:i<cur.size:=by omega
   simp only[putCells,Array.getElem?_mapIdx,aYe hic,aYj,aYf,aXe,true_and,Nat.sub_zero,if_pos hi];rfl
theorem vR (Bs:Nat) (sv:Wg) (zs:Wd) (nd:Nat→Nd) (ag:zs.length≤900000) (w:We) (hBs:Bs<w.heap.size) (hc:w.cell? ⟨Bs,0,none⟩=some sv) (hI:lY w.heap.size w sv zs) (hd:∀b∈zs,∃i o,w.heap[b]? =some (.cells (ndc false (nd b) i o) 222 (0,0))):
  Calls Tryz.prog 93 #[.func (.func 138) #[] #[.pointer (some ⟨Bs,0,none⟩)],.func (.func 95) #[] #[]] w fun e w'=>
   ∃v ys,e= .returned v∧ys.Perm zs∧tR nd ys∧aE pc 1 212 w' w.heap.size v ys∧Mod (fun _=>False) w w':=by
 have Ab:=DT Bs w.heap.size sv zs ag w hBs (aZq _) hc hI;have HD:=Hi hd;clear hd hc hI;go_enter Tryz.func93,Tryz.ntmps93;go_wp2_with fail;go_at_call 136;refine Ab.mono ?_;rintro e w2 ⟨v,rfl,h1,h2,h3⟩;have hO:aE pc 1 212 w2 w.heap.size v zs:=by
  unfold aE;rw[bU];exact h1
 have HX:=Hi (Ai hO h3);clear h1 h2 h3 Ab hO;obtain⟨a,c,rfl,_⟩:=HX.out.1.at o3;go_wp2_with fail;go_at_call 137;refine(sortPtrs HX.out.1 ag (fun b hb=>by
  obtain⟨i,o,k⟩:=HD.out b hb;exact⟨i,o,(HX.out.2.block b (aA k)).trans k⟩)).mono ?_
 rintro e w3 ⟨rfl,ys,h1,h2,h3,h4⟩;have HY:=Hi (Ai h1 (Ai h2 (Ai h3 h4)));have hl:=h1.length_eq;clear h1 h2 h3 h4;go_wp2_with fail;go_ret;obtain⟨h1,h2,h3,h4⟩:=HY.out;refine⟨_,ys,rfl,h1,h2,h3,(Mod.of_below HX.out.2 _).then h4 (fun i hi e=> ?_)⟩;have:=(HX.out.1.lt _ e).1;omega
end
section
open Go.RowKit Go.Sort
attribute [local go_sem↓] eG gM fY d9 pF
attribute [local go_sem] rkc_size ndc_size aJ aC aO aL aQ aI aP Value.cells cY oP WY WZ dB rC AC
def ic (i:Wi):Wa:= #[.int .i64 i.toInt]
theorem gL:oM Tryz.prog 53 3 ic 1 8 where
 u:=Tryz.underlying53
 info:=by
  obtain⟨i0,hi,cy,bj,bp⟩:=info_parts (show(Tryz.prog.info? 3).map (fun i=>(i.zero,i.size,i.bytes))=some (some (.int .i64 0),1,8)by kernel_rfl);exact⟨i0,_,hi,cy,bj,bp,rfl⟩
 pos:=by omega
 size x:=rfl
 one x u hu:=by
  simp[ic]at hu;subst hu;rfl
theorem qF (l:Wc):cellsOf ic l=l.map fun b=> .int .i64 b.toInt:=by
 unfold cellsOf ic
 induction l with
 |nil=>rfl
 |cons b l ih=>simpa using ih
theorem JH {w:We} {base q n:Nat} {cur:Wa} {l:Wc} (hb:base≤q) (hg:w.heap[q]? =some (.cells cur 3 (0,0))) (hs:cur.size=n) (hl:l.length=n) (hn:n≤maxLen) (hc:∀(i:Nat) x,l[i]? =some x→cur[i]? =some (.int .i64 x.toInt)):
  aE ic 1 3 w base (.slice (some ⟨q,0,none⟩) n n) l:=by
 subst hl;refine⟨?_,.inr ⟨q,l.length,cur,rfl,hb,hg,aZq _,hn,by omega,?_⟩⟩
 ·rw[qF];simp
 ·rw[qF,aYp];apply aXm;intro i;rw[aY7,aZv];by_cases hi:i<l.length
  ·rw[if_pos hi,aZb hi];have:=hc i _ (aZb hi);simpa using this
  ·rw[if_neg hi,aY1 (by omega)];rfl
def nG (l:List Nd):Prop:=l.Pairwise (fun a b=>nlt a b=true)
theorem rN {nd:Nat→Nd} {ys:Wd} (h:tR nd ys) (hn:(ys.map (fun b=>(nd b).id)).Nodup):nG (ys.map nd):=by
 unfold nG;rw[aW1,List.pairwise_iff_getElem];intro i j hi hj ig;have h1:=h i j _ _ ig (aZb hi) (aZb hj);cases h2:nlt (nd ys[i]) (nd ys[j])
 ·have h3:=iM h2 h1;rw[aWx,aW1,List.pairwise_iff_getElem]at hn;exact absurd (by rw[h3]) (hn i j hi hj ig)
 ·rfl
theorem lY.up {n₀ n₁:Nat} {W:We} {sv:Wg} {zs:Wd} (hn:n₀≤n₁):lY n₀ W sv zs→lY n₁ W sv zs
 | .inl e=> .inl e
 | .inr ⟨b,off,cap,e,hb,hc⟩=> .inr ⟨b,off,cap,e,aZd hb hn,hc⟩
theorem Q3 {h:Nat} {C:List Nd} {T:Nat→Prop} {w:We} (hA:fM h C T w) (hC:C.length≤700000):Calls Tryz.prog 56 #[ptrV h] w fun e w'=>
  ∃(v:Wg) (l:List Nd),e= .returned v∧l.Perm C∧nG l∧aE ic 1 3 w' w.heap.size v (l.map Nd.id)∧Mod (fun _=>False) w w':=by
 have ct:=hA.ids;obtain⟨s0,s1,mb,v0,v1,L0,L1,nd,m,H,rfl,hO⟩:=hA;have kh:=H.kh;have ks:=H.d0.side;simp only[x4,kn,if_true,if_false,aZr]at ks;obtain⟨a0,c0,rfl,_⟩:=H.d0.own.at o3;have HH:=Hi H;have HN:=Hi ct;have HL:Hid (L0.length=m.length∧m.length≤700000):=Hi ⟨by rw[H.p0.length_eq,aZs],by simpa using hC⟩;clear H hO ct hC;go_enter Tryz.func56,Tryz.ntmps56;go_wp2_with fail;go_at_call 89;refine(there_c kh).mono ?_;rintro e w1 ⟨rfl,rfl⟩;go_wp2_with fail;go_at_call 94;refine(values_c _ _ _ _).mono ?_;rintro e w2 ⟨rfl,rfl⟩;have Dd:Below w1.heap.size w1 (w1.alloc (.cells #[.slice a0 L0.length c0] 224)):=(Below.refl _ w1).alloc (aZq _) _;have Yz:Mod (fun _=>False) w1 (w1.alloc (.cells #[.slice a0 L0.length c0] 224)):=(Mod.refl _ _).alloc _;have Sa:=vR w1.heap.size (.slice a0 L0.length c0) L0 nd (by have:=HL.out;omega) (w1.alloc (.cells #[.slice a0 L0.length c0] 224)) (by simp) (Boxed.new w1 _ _).cell (((lY.own HH.out.d0.own).below Dd).up Dd.size) (fun b hb=>⟨_,_,Yz.at0 (HH.out.d0.cell hb)⟩);go_wp2_with fail;go_at_call 93;refine Sa.mono ?_;rintro e w3 ⟨v,ys,rfl,af,Ge,bn,hm⟩;have m3:=Yz.then0 hm;have ij:=hm.size;obtain⟨a3,c3,rfl,_⟩:=bn.at o3;have HY:=Hi (Ai af (Ai Ge bn));have xa:ys.length=m.length:=by rw[af.length_eq];exact HL.out.1
 have hyl2:ys.length≤700000:=by rw[xa];exact HL.out.2
 clear Sa Dd Yz af Ge bn hm kh ks xa ij;obtain⟨i0,z,hi,hz,bj,bp,yj⟩:=gL.info;have na:(Instr.makeSlice 53 (.int .i64 (ys.length:Int)) (.int .i64 (ys.length:Int))).run Tryz.prog w3= .ok (.slice (some ⟨w3.heap.size,0,none⟩) ys.length ys.length) (w3.alloc (.cells (madeCells z.cells (ys.length*i0.size)) 3)):=by
  have:=run_make (P:=Tryz.prog) w3 53 3 i0 z Tryz.underlying53 hi hz .i64 .i64 (ys.length:Int) (ys.length:Int) (by omega) (by omega) (by rw[bp];omega) (by omega);simpa using this
 have fz:(madeCells z.cells (ys.length*i0.size)).size=ys.length:=by rw[size_madeCells,bj,aYp]
 generalize madeCells z.cells (ys.length*i0.size)=cur0 at *;clear hi hz bj bp yj;go_upto_region 5 with fail;have kq:=heap_alloc_new w3 (.cells cur0 3);have m4:=m3.alloc (.cells cur0 3);have mq:Mod (fun _=>False) w3 (w3.alloc (.cells cur0 3)):=(Mod.refl _ _).alloc _;have yy:w1.heap.size≤w3.heap.size:=m3.size;have HQ:=Hi (Ai yy (Ai m4 (Ai mq (aA kq))));clear na m4 mq m3;generalize hwq:w3.alloc (.cells cur0 3)=w4 at *;generalize hqe:w3.heap.size=q at *;go_wp2_with fail;go_loopw [25,5,6] (fun s25 _ _ ws=>∃(i:Nat) (cur:Wa),i≤ys.length∧s25= .int .i64 (i:Int)∧ws.heap[q]? =some (.cells cur 3 (0,0))∧cur.size=ys.length∧Hid (∀(j:Nat) b,j<i→ys[j]? =some b→cur[j]? =some (.int .i64 (nd b).id.toInt))∧Mod (fun x=>x=q) w4 ws) (fun s25 _ _ _=>ys.length-(intOf s25).toNat)
 case atStart=>exact⟨0,cur0,by omega,rfl,kq,fz,Hi (fun j b hj=>by omega),Mod.refl _ _⟩
 case round=>
  obtain⟨i,cur,hi,rfl,kq,fz,HG,hm⟩:=hrel;by_cases hlt:i<ys.length
  ·obtain⟨b,hb⟩:∃b,ys[i]? =some b:=⟨_,aZb hlt⟩;obtain⟨g,cap,curp,hv,_,kg,_,hcsp,bx,_⟩:=gS HY.out.2.2 (fun e=>by rw[e]at hlt;cases hlt);simp only[Value.slice.injEq,true_and]at hv;obtain⟨rfl,rfl⟩:=hv;have ci:=bx i b hb;have hbm:b∈L0:=HY.out.1.mem_iff.1 (aZi hb);have hgq:g≠q:=by have:=aA kg;omega
   have k0:=HH.out.d0.cell hbm;have hbq:b≠q:=by
    have:=aA k0;have:=HQ.out.1;omega
   have kn0:=hm.at (HQ.out.2.1.at0 k0) hbq;replace kg:=hm.at (HQ.out.2.2.1.at0 kg) hgq;have HB:=Hi hb;clear bx hb hbm k0 hcsp;go_upto_region 8 with fail;have Lkg:=aA kg;have Lkn0:=aA kn0;have Lkq:=aA kq;refine ZP0 [0,0,0,0,0,1,0,5] ?_
   iterate 7 first|refine Zv ?_|refine Zd ?_
   refine Zi fun w5 hr=> ?_;replace kg:=hr.q kg;replace kn0:=hr.q kn0;replace kq:=hr.q kq;have m5:=hm.then0 hr.mod;clear hr;refine ZS ?_;refine ZN kq fun wn kq mS=> ?_;have m6:=m5.then mS (fun _ _ e=>e);clear mS m5 kg kn0;go_wp2_with fail;go_roundw
   case rel=>exact⟨i+1,_,by omega,by go_num,kq,by simpa using fz,Hi (fun j b' hj el=>by
    by_cases e:j=i
    ·subst e;rw[HB.out]at el;cases el;rw[aWc (by omega)]
    ·rw[aXq (fun e'=>e e'.symm)];exact HG.out j b' (by omega) el),m6⟩
   case measure=>simp[intOf];omega
  ·have yu:i=ys.length:=by omega
   go_wp2_with fail;go_ret;have oe:(ys.map nd).Perm (m.map fun p=>nd p.2):=by
    have h1:=(HY.out.1.trans HH.out.p0).map nd;rwa[aX0]at h1
   refine⟨_,ys.map nd,rfl,oe,rN HY.out.2.1 ?_,JH HQ.out.1 kq fz (by simp) (by simp[maxLen];omega) (fun j x hx=> ?_),(HQ.out.2.1).then hm (fun x hx e=>by subst e;have:=HQ.out.1;omega)⟩
   ·have h2:=oe.map Nd.id;rw[aX0]at h2;exact h2.nodup_iff.2 HN.out
   ·rw[aZv,aZv]at hx;cases hy:ys[j]? with
    |none=>rw[hy]at hx;cases hx
    |some b=>
     rw[hy]at hx;cases hx;exact HG.out j b (by have:=(aZa.1 hy).1;omega) hy
end
section
section
variable {P:Wl} {ops:Array Oper} {Q:Exit→Act→We→Prop} {T0:Nat→Prop} {w0:We} {κ:Nat→Nat} {υ:Nat→List Tmp}
theorem TG.soundE (hsel:∀(j:Nat) (p:Oper) cs b,ops[j]? =some p→p.op≠ .select cs b)
  (au:∀i o,ops[i]? =some o→∀e∈o.after,Region.binds .any e=true→e.on<i) {rest:Wd} (hrest:eS ops κ rest=true):
  ∀(fuel:Nat) (l:Wd) (listed:Array Bool) (a:Act) (B:Bx) (K:aK) (w:We),l.length=fuel→(l++rest).Nodup→(∀i∈l++rest,i<ops.size)→cN ops κ υ l=true→
   (∀x∈l,∀y∈rest,x≠y∧(cU ops x).testBit y=true)→cA ops listed (l++rest)→bX K→
   RG T0 w0 B K w→TG P ops (fun _ a w=>TE P ops Q κ rest a w) T0 w0 κ υ l a B K→wpAny P .any ops Q (rest.length+fuel) listed a w:=by
 intro fuel
 induction fuel with
 |zero=>
  intro l listed a B K w hl hn hlt hp hb hL hK hR h;obtain rfl:l=[]:=aY2.1 hl;have Sx:TE P ops Q κ rest a w:=by
   cases h with|nil h=>exact h w hR
  exact TE.sound hsel au _ rest listed a w rfl (by simpa using hn) (by simpa using hlt) hrest (by simpa using hL) Sx
 |succ fuel ih=>
  intro l listed a B K w hl hn hlt hp hb hL hK hR h;refine⟨fun et=> ?_,fun i hi=> ?_⟩
  ·exfalso
   match l,hl with
   |i::l',_=>exact cF au hL hlt i i (by simp) (aZq _) et
  ·obtain⟨vj,o,ho,bm⟩:=mem_ready.1 hi;have jx:i∈l:=by
    rcases aZh.1 ((hL.mem i).2 vj)with io|io
    ·exact io
    ·exfalso;clear h
     match l,hl with
     |x::l',_=>
      have Cr:=hb x (by simp) i io;obtain⟨_,bo⟩:=(bN Cr.2).resolve_left (fun e=>Cr.1 e.symm);have jj:=bS hL.closed _ x i o ho bm bo;have ec:=aX ((hL.mem x).1 (by simp));rw[jj]at ec;cases ec
   obtain⟨pre,post,rfl⟩:=aXf jx;obtain⟨h1,h2⟩:=dW hp;have hf:=TG.front hsel ho pre a B K hK ⟨w,hR⟩ (fun x hx=>by
    have:=h1 x hx;unfold kK at this;have qf:ops[x]? =some (ops[x]'(hlt x (by simp[hx]))):=aYe _;rw[qf,ho]at this;simp only[aY4,aZy]at this;rcases this with bo|ak
    ·obtain⟨_,bo⟩:=(bN bo.2).resolve_left (fun e=>by have:=bo.1;simp[e]at this);have jj:=bS hL.closed _ x i o ho bm bo;have ec:=aX ((hL.mem x).1 (by simp[hx]));rw[jj]at ec;cases ec
    ·exact⟨_,qf,ak.1,ak.2⟩) h
   have gk:(pre++post).length=fuel:=by simp at hl⊢;omega
   have bd:((pre++post)++rest).Sublist ((pre++i::post)++rest):=List.Sublist.append_right (aYy (aYk _ _) _) _;have ii:((pre++post)++rest).Nodup:=hn.sublist bd;have cg:∀j∈(pre++post)++rest,j<ops.size:=fun j hj=>hlt j (bd.subset hj);have el:∀x∈pre++post,∀y∈rest,x≠y∧(cU ops x).testBit y=true:=fun x hx=>hb x ((aYy (aYk i post) pre).subset hx);have gz:cA ops (listed.setIfInBounds i true) ((pre++post)++rest):=by
    have:=cA.next (pre:=pre) (post:=post++rest) (i:=i) (by simpa using hL) (by simpa using hn) ho bm;simpa using this
   rcases hf.kinds with ko|ko|ko|ko
   ·obtain⟨v,hy,ht⟩:=hf.inv_val ko ho;obtain⟨T,fg⟩:=hR;exact YieldsIf.wpOp ho hy fg.mod (ih _ _ _ _ _ _ gk ii cg h2 el gz hK ⟨T,fg⟩ ht)
   ·obtain⟨hw,d,T,z,V,hd,hr,ht⟩:=hf.inv_alloc ko ho;obtain⟨U,fg⟩:=hR;have zl:RG T0 w0 (B.set w.heap.size ⟨z,T,d⟩) K (w.alloc (LB.o ⟨z,T,d⟩)):=⟨U,fg.alloc hK z T d⟩;unfold wpOp;simp only[ho,hw,if_true];refine .inl ?_;unfold Oper.wp;rw[hr.2 w];exact ih _ _ _ _ _ _ gk ii cg h2 el gz hK zl (ht _ fg.none ⟨_,zl⟩)
   ·obtain⟨hw,hd,d,T,y,p,b,aj,du,Ch,bu,hr,ht⟩:=hf.inv_store ko ho;obtain⟨U,fg⟩:=hR;unfold wpOp;simp only[ho,hw,if_true];refine .inl ?_;unfold Oper.wp;rw[hr w (fg.box p b Ch).2.2];simp only[Oper.upon,hd];exact ih _ _ _ _ _ _ gk ii cg h2 el gz hK ⟨U,fg.store hK Ch _⟩ ht
   ·obtain⟨hw,K',hE,ht⟩:=hf.inv_eff ko ho;obtain⟨U,fg⟩:=hR;exact(hE.step fg).wp ho hw fun v w' hv=>ih _ _ _ _ _ _ gk ii cg h2 el gz (hE.cl v) hv (ht v ⟨w',hv⟩)
def qJ (ops:Array Oper) (κ:Nat→Nat) (υ:Nat→List Tmp) (l rest:Wd):Bool:=
 Region.noSelect ops&&((List.range ops.size).all fun i=>match ops[i]? with|none=>false|some o=>o.after.all fun e=> !Region.binds .any e||decide (e.on<i))&&
 (decide (rest.length+l.length=ops.size)&&((l++rest).all (fun i=>decide (i<ops.size))&&((List.range ops.size).all fun i=>(l++rest).contains i)))&&
 (decide (l++rest).Nodup&&cN ops κ υ l&&eS ops κ rest&&l.all (fun x=>rest.all fun y=> !(x==y)&&(cU ops x).testBit y))
theorem GY {a:Act} {w1:We} {K:aK} (l rest:Wd) (ak:qJ ops κ υ l rest=true) (hK:bX K) (hR:RG T0 w0 Bx.nil K w1)
  (h:TG P ops (fun _ a w=>TE P ops Q κ rest a w) T0 w0 κ υ l a Bx.nil K):wpAny P .any ops Q ops.size (Array.replicate ops.size false) a w1:=by
 simp only[qJ,aZy,aYh,decide_eq_true_eq]at ak;obtain⟨⟨⟨h1,h2⟩,h3,h4,h5⟩,⟨⟨ct,h6⟩,h7⟩,h8⟩:=ak;have au:∀i o,ops[i]? =some o→∀e∈o.after,Region.binds .any e=true→e.on<i:=fun i o ho e he hb=>by
  have:=h2 i (aYu.2 (aZf.1 ho).1);rw[ho]at this;have:=aZ5.1 this e he;simpa[hb] using this
 rw[←h3];refine TG.soundE (Region.noSelect_spec h1) au h7 _ l _ a _ _ _ rfl ct h4 h6 (fun x hx y hy=> ?_) ?_ hK hR h
 ·have:=h8 x hx y hy;exact⟨by simpa using this.1,this.2⟩
 ·rw[h3];refine⟨by simp,fun i=> ?_,fun i o hi=> ?_⟩
  ·constructor
   ·intro hi;have:=h4 i hi;simp[this]
   ·intro hi
    have:i<ops.size:=by
     rcases aYt i ops.size with h'|h'
     ·exact h'
     ·simp[Nat.not_lt.2 h']at hi
    simpa using h5 i (aYu.2 this)
  ·exfalso
   have:(Array.replicate ops.size false).getD i false=false:=by
    by_cases h':i<ops.size
    ·simp[h']
    ·simp[h']
   rw[this]at hi;cases hi
theorem iR {id:Nat} {a:Act} {w:We} {K:aK} (l rest:Wd) (hm:P.follows .mixedOrders=true) (ak:qJ ops κ υ l rest=true) (hK:bX K) (hk:K T0 w) (hlt:∀i,T0 i→i<w.heap.size)
  (h:TG P ops (fun _ a w=>TE P ops Q κ rest a w) T0 w κ υ l a Bx.nil K):(Code.region id ops true).wp P Q a w:=
 wp_region_any hm (GY l rest ak hK ⟨T0,hK T0 w w.drew hk (Mod.refl _ w).drew,hlt,fun _ _ h=>h,(Mod.refl _ w).drew,fun _ _ hh=>by cases hh⟩ h)
theorem FD {id:Nat} {a:Act} {w:We} {K:aK} (l rest:Wd) (hlin:Region.linearise .any ops 0=List.range ops.size) (ak:qJ ops κ υ l rest=true) (hK:bX K) (hk:K T0 w) (hlt:∀i,T0 i→i<w.heap.size)
  (h:TG P ops (fun _ a w=>TE P ops Q κ rest a w) T0 w κ υ l a Bx.nil K):(Code.region id ops false).wp P Q a w:=by
 refine wp_region ?_;rw[←hlin];exact wpAny_sound ops.size 0 _ a w (GY l rest ak hK ⟨T0,hk,hlt,fun _ _ h=>h,Mod.refl _ _,fun _ _ hh=>by cases hh⟩ h)
theorem TG.appK {i:Nat} {r:Wd} {a:Act} {B:Bx} {K:aK} {o:Oper} {x y:Wm} {X Y:Wg} {ts:Array Wh} (K':Wg→aK) (dg:∀v,aH (K' v)) (ho:ops[i]? =some o) (hk:κ i=6) (hw:Region.wanted o (yielded ops a.tmps)=true)
  (aj:o.op= .call {callee:= .builtin .append,args:= #[x,y],argTypes:=ts}) (hx:a.eval x=X) (hy:a.eval y=Y)
  (hr:∀T w,K T w→(∀i,T i→i<w.heap.size)→Mod T0 w0 w→UB T (υ i) B w→∃v w',(Builtin.append_ ts o.type #[X,Y]).run P w= .ok v w'∧Mod T w w'∧K' v (Grow T w w') w')
  (h:∀v,kT T0 w0 B (K' v)→TG P ops Q T0 w0 κ υ r (a.put o.dst v) B (K' v)):TG P ops Q T0 w0 κ υ (i::r) a B K:=by
 refine TG.eff' K' ho hk hw (fun v=>(dg v).cl) (fun T w k1 k2 k3 k4=> .inl ?_) h;obtain⟨v,w',h1,h2⟩:=hr T w k1 k2 k3 k4;refine⟨v,w',?_,h2⟩;subst hx;subst hy;simp[execOp,aj,resolve,invoke,builtin,h1]
end
end
section
open Go.RowKit Go.Sort
attribute [local go_sem↓] eG gM fY d9
attribute [local go_sem] rkc_size ndc_size aJ aC aO aL aQ aI aP Value.cells dB
theorem GD (x:Wi) (w:We):(Instr.buildSlice 53 1 #[(0,.int .i64 x.toInt)]).run Tryz.prog w= .ok (.slice (some ⟨w.heap.size,0,none⟩) 1 1) (w.alloc (.cells (ic x) 3)):=by
 obtain⟨i0,z,hi,hz,bj,bp,yj⟩:=gL.info;refine run_buildSlice w _ _ 1 _ _ i0 _ Tryz.underlying53 hi hz (by rw[bj];omega) (by rw[bj];omega) ?_;rw[bj];show Instr.fill _ _ [(0,_)]=_;rw[cZ (off:=0) (n:=1) rfl rfl (by simp)];show some (wr _ 0 (ic x).toList)=_;rw[fI (ic x) _ (by simp[ic,yj])]
structure En where
 r:Rk
 id:Wi
 ok:Bool
def FJ (e:En):Wg:= .tuple #[.agg (rkc e.r),.int .i64 e.id.toInt,.bool e.ok]
def D2:Option Nd→En
 |none=>⟨yJ,0,false⟩
 |some x=>⟨x.r,x.id,true⟩
theorem nG.head {x:Nd} {l:List Nd} (h:nG (x::l)):∀y∈x::l,nlt y x=false:=fun y hy=>by
 rcases aZc.1 hy with rfl|hy
 ·exact nlt_irrefl _
 ·exact nlt_asymm (List.rel_of_pairwise_cons h hy)
theorem nG.last {x:Nd} {l:List Nd} (h:nG (l++[x])):∀y∈l++[x],nlt x y=false:=fun y hy=>by
 rcases aZh.1 hy with hy|hy
 ·exact nlt_asymm ((List.pairwise_append.1 h).2.2 y hy x (by simp))
 ·rw[aZm.1 hy];exact nlt_irrefl _
theorem F6 {C D:List Nd} {x y:Nd} (hD:D.Perm C) (hS:nG D) (hb:r8 false C x) (hh:D.head? =some y):x=y:=by
 match D,hh with
 |z::r,hh=>
  simp only[List.head?_cons,aYm]at hh;subst hh;exact iM (hS.head x (hD.mem_iff.2 hb.1)) (hb.2 z (hD.mem_iff.1 (by simp)))
theorem F5 {C D:List Nd} {x y:Nd} (hD:D.Perm C) (hS:nG D) (hb:r8 true C x) (hh:D.getLast? =some y):x=y:=by
 obtain⟨r,rfl⟩:∃r,D=r++[y]:=by
  obtain⟨h1,h2⟩:=List.getLast?_eq_some_iff.1 hh;exact⟨_,h2⟩
 exact iM (hb.2 y (hD.mem_iff.1 (by simp))) (hS.last x (hD.mem_iff.2 hb.1))
theorem BN {C D:List Nd} (hD:D.Perm C):C=[]↔D=[]:=⟨fun h=>by subst h;exact hD.eq_nil,fun h=>by subst h;exact hD.symm.eq_nil⟩
theorem rO:∀ {l D:List Nd},l.Perm D→nG l→nG D→l=D
 |[],D,h,_,_=>h.nil_eq
 |x::l,[],h,_,_=>absurd h.length_eq (by simp)
 |x::l,y::D,h,h1,h2=>by
  have e1:=h1.head y (h.mem_iff.2 (by simp));have e2:=h2.head x (h.mem_iff.1 (by simp));have e:=iM e1 e2;subst e;rw[rO h.cons_inv (List.Pairwise.of_cons h1) (List.Pairwise.of_cons h2)]
theorem SO {h:Nat} {T:Nat→Prop} {w:We} (hA:fM h [] T w):Calls Tryz.prog 139 #[ptrV h] w fun e w'=>e= .returned (.tuple #[.agg (rkc yJ),.int .i64 0,.bool false])∧Mod (fun _=>False) w w':=by
 have HA:=Hi hA;clear hA;go_enter Tryz.func139,Tryz.ntmps139;go_upto_region 0 with fail;refine ZP0 [3,0,0] ?_;refine Za pZ fun p2 ce=> ?_
 iterate 2 refine Zv ?_
 refine TD.nil (fun w1 hr=> ?_);obtain⟨gp2,kp2⟩:=hr.b p2;have m1:=hr.mod;clear hr;have ze:=(fM.good h []).cl T w w1 HA.out (m1.mono (fun _ _ h=>h.elim));have ao:∀wq,Mod (fun _=>False) w1 wq→Calls Tryz.prog 88 #[ptrV h,.int .i64 0] wq fun e w'=>e= .returned (.tuple #[.agg (rkc yJ),.int .i64 0,.bool false])∧Mod (fun _=>False) wq w':=fun wq hq=>G1 ((fM.good h []).cl T w1 wq ze (hq.mono (fun _ _ h=>h.elim))) 0;have HC:=Hi ao;clear ze ao;replace kp2:w1.heap[p2]? =some (.cells #[.int .u64 0,.int .u64 0] 152 (0,0)):=kp2;go_upto_region 1 with fail;have Lkp2:=aA kp2;refine ZR0 (fun _ _ v=>v= .tuple #[.agg (rkc yJ),.int .i64 0,.bool false]) [0,2,0,0,0,5,0,0] ?_;refine Zv ?_;(refine Zc ?_ (s:=by intro wq ae;exact(HC.out wq ae).mono (fun e w' h=>⟨_,h.1,rfl,h.2⟩));rintro _ rfl;try simp only[zL])
 iterate 3 refine Zv ?_
 refine Zi fun w2 hr=> ?_;replace kp2:=hr.q kp2;have m2:=m1.then0 hr.mod;clear hr;refine ZS ?_;refine ZM kp2 fun wn kp2 mS=> ?_;(try simp only[Array.setIfInBounds,zL]at kp2);have m3:=m2.thenB mS (.inl gp2);clear mS;refine Ze ?_;refine Ze ?_;refine TE.nil ?_;go_wp2_with fail;exact bodyPost_ret (results_cell3 (x:= .agg (rkc yJ)) rfl rfl (by rw[eG];simp[kp2,rkc,yJ])) rfl ⟨rfl,m3⟩
theorem PV {h:Nat} {T:Nat→Prop} {w:We} (hA:fM h [] T w):Calls Tryz.prog 50 #[ptrV h] w fun e w'=>e= .returned (.tuple #[.agg (rkc yJ),.int .i64 0,.bool false])∧Mod (fun _=>False) w w':=by
 have HA:=Hi hA;clear hA;go_enter Tryz.func50,Tryz.ntmps50;go_upto_region 0 with fail;refine ZP0 [3,0,0] ?_;refine Za pZ fun p2 ce=> ?_
 iterate 2 refine Zv ?_
 refine TD.nil (fun w1 hr=> ?_);obtain⟨gp2,kp2⟩:=hr.b p2;have m1:=hr.mod;clear hr;have ze:=(fM.good h []).cl T w w1 HA.out (m1.mono (fun _ _ h=>h.elim));have ao:∀wq,Mod (fun _=>False) w1 wq→Calls Tryz.prog 88 #[ptrV h,.int .i64 1] wq fun e w'=>e= .returned (.tuple #[.agg (rkc yJ),.int .i64 0,.bool false])∧Mod (fun _=>False) wq w':=fun wq hq=>G1 ((fM.good h []).cl T w1 wq ze (hq.mono (fun _ _ h=>h.elim))) 1;have HC:=Hi ao;clear ze ao;replace kp2:w1.heap[p2]? =some (.cells #[.int .u64 0,.int .u64 0] 152 (0,0)):=kp2;go_upto_region 1 with fail;have Lkp2:=aA kp2;refine ZR0 (fun _ _ v=>v= .tuple #[.agg (rkc yJ),.int .i64 0,.bool false]) [0,2,0,0,0,5,0,0] ?_;refine Zv ?_;(refine Zc ?_ (s:=by intro wq ae;exact(HC.out wq ae).mono (fun e w' h=>⟨_,h.1,rfl,h.2⟩));rintro _ rfl;try simp only[zL])
 iterate 3 refine Zv ?_
 refine Zi fun w2 hr=> ?_;replace kp2:=hr.q kp2;have m2:=m1.then0 hr.mod;clear hr;refine ZS ?_;refine ZM kp2 fun wn kp2 mS=> ?_;(try simp only[Array.setIfInBounds,zL]at kp2);have m3:=m2.thenB mS (.inl gp2);clear mS;refine Ze ?_;refine Ze ?_;refine TE.nil ?_;go_wp2_with fail;exact bodyPost_ret (results_cell3 (x:= .agg (rkc yJ)) rfl rfl (by rw[eG];simp[kp2,rkc,yJ])) rfl ⟨rfl,m3⟩
section
variable {h p:Nat} {C D:List Nd} {T:Nat→Prop} {w:We}
theorem SP (hA:fM h C T w) (hD:D.Perm C) (hS:nG D):Calls Tryz.prog 139 #[ptrV h] w fun e w'=>e= .returned (FJ (D2 D.head?))∧Mod (fun _=>False) w w':=by
 match D,hD,hS with
 |[],hD,_=>
  obtain rfl:=(BN hD).2 rfl;exact SO hA
 |y::r,hD,hS=>
  refine(WD hA (fun e=>by have:=(BN hD).1 e;cases this)).mono ?_;rintro e w' ⟨x,hx,rfl,hm⟩;rw[F6 hD hS hx rfl];exact⟨rfl,hm⟩
theorem GC (hA:fM h C T w) (hD:D.Perm C) (hS:nG D):Calls Tryz.prog 50 #[ptrV h] w fun e w'=>e= .returned (FJ (D2 D.getLast?))∧Mod (fun _=>False) w w':=by
 by_cases he:D=[]
 ·subst he;obtain rfl:=(BN hD).2 rfl;exact PV hA
 ·refine(UP hA (fun e=>he ((BN hD).1 e))).mono ?_;rintro e w' ⟨x,hx,rfl,hm⟩;have hl:=List.getLast?_eq_some_getLast he;rw[hl,F5 hD hS hx hl];exact⟨rfl,hm⟩
theorem listS_c (hA:fM h C T w) (hD:D.Perm C) (hS:nG D) (hC:C.length≤700000):Calls Tryz.prog 56 #[ptrV h] w fun e w'=>∃v,e= .returned v∧aE ic 1 3 w' w.heap.size v (D.map Nd.id)∧Mod (fun _=>False) w w':=
 (Q3 hA hC).mono fun e w' h=>by
  obtain⟨v,l,he,hp,hs,ho,hm⟩:=h;obtain rfl:=rO (hp.trans hD.symm) hs hS;exact⟨v,he,ho,hm⟩
end
end
section
open Go.RowKit
def mx (pre:List Wg) (k:aN) (post:List Wg):Wa:=(pre++(k.l.map bc++post)).toArray
section
variable {pre post:List Wg} {k:aN}
theorem u7 (pre:List Wg) (k:aN) (post:List Wg):(mx pre k post).size=pre.length+(32+post.length):=by simp[mx,k.h]
theorem jY {i:Nat} (h:i<pre.length):(mx pre k post)[i]? =pre[i]? :=by
 simp only[mx,zA];rw[aZt h]
theorem fC (j:Nat):(mx pre k post)[pre.length+(32+j)]? =post[j]? :=by
 simp only[mx,zA];rw[aZ3 (by omega),aXs,aZ3 (by simp[k.h]),aZs,k.h,aXs]
theorem kN {i:Nat} (h:i<pre.length) (v:Wg):(mx pre k post).setIfInBounds i v=mx (pre.set i v) k post:=by
 simp only[mx,zF];rw[List.set_append_left _ _ h]
theorem jB (j:Nat) (v:Wg):(mx pre k post).setIfInBounds (pre.length+(32+j)) v=mx pre k (post.set j v):=by
 simp only[mx,zF];rw[aX8 _ _ (by omega),aXs,aX8 _ _ (by simp[k.h]),aZs,k.h,aXs]
theorem JB (h1:pre.all (·.oneCell')=true) (h2:post.all (·.oneCell')=true):(mx pre k post).all (·.oneCell')=true:=by
 rw[aZ5];intro v hv;simp only[mx,List.mem_toArray,aZh,aZj]at hv;rcases hv with hv|⟨b,_,rfl⟩|hv
 ·exact aYh.1 h1 v hv
 ·rfl
 ·exact aYh.1 h2 v hv
theorem B5 {n:Nat} (h:n=pre.length+(32+post.length)):(mx pre k post).extract 0 n=mx pre k post:=by
 rw[h,←u7];exact Array.extract_size
end
structure Sg where
 l:List Wk
 h:l.length=64
def sgc (s:Sg):Wa:=(s.l.map bc).toArray
theorem dC (s:Sg):(sgc s).size=64:=by simp[sgc,s.h]
theorem sgc_one (s:Sg):∀u∈(sgc s).toList,u.oneCell'=true:=by
 intro v hv;simp only[sgc,aZj]at hv;obtain⟨b,_,rfl⟩:=hv;rfl
structure oU where
 p:Wk
 a:Sl Wk
 d:Sl Wk
def inr (x:oU):Wa:= #[.int .u8 (x.p.toNat:Int),.slice x.a.a x.a.l.length x.a.c,.slice x.d.a x.d.l.length x.d.c]
structure o8 where
 t:aN
 w:Sl Wk
 r:Sl Wk
def lor (x:o8):Wa:=kx x.t [.slice x.w.a x.w.l.length x.w.c,.slice x.r.a x.r.l.length x.r.c]
structure cT where
 b:Sl Wk
 sg:Sl Sg
 v0:Bool
 h0:Wk
 h1:Wk
 h2:Wk
 ks:Sl aN
 rc:aN
 ins:Sl oU
 lks:Sl o8
 ro:Sl aT
 un:Wj
 pr:Wj
 bad:Wi
 fee:Wj
 cost:Wj
 prio:Wj
abbrev u64v (x:UInt64):Value:= .int .u64 (x.toNat:Int)
abbrev AO (x:UInt8):Value:= .int .u8 (x.toNat:Int)
def dF (x:cT):List Wg:=[.slice x.b.a x.b.l.length x.b.c,.slice x.sg.a x.sg.l.length x.sg.c,.bool x.v0,AO x.h0,AO x.h1,AO x.h2,.slice x.ks.a x.ks.l.length x.ks.c]
def eV (x:cT):List Wg:=[.slice x.ins.a x.ins.l.length x.ins.c,.slice x.lks.a x.lks.l.length x.lks.c,.slice x.ro.a x.ro.l.length x.ro.c,u64v x.un,u64v x.pr,.int .i64 x.bad.toInt,u64v x.fee,u64v x.cost,u64v x.prio]
def b9 (x:cT):Wa:=mx (dF x) x.rc (eV x)
theorem bI (x:cT):(b9 x).size=48:=u7 _ _ _
theorem dZ (x:cT):(b9 x).extract 0 48=b9 x:=B5 rfl
theorem eT (x:cT):(b9 x).all (·.oneCell') 0 48=true:=jU (bI x) (JB rfl rfl)
theorem aU {xs:Wa} {i:Nat} {v:Wg} (h:xs[i]? =some v) (hi:i<xs.size):xs[i]=v:=(aZf.1 h).2
theorem VZ (x:cT):(b9 x)[0]? =some (.slice x.b.a x.b.l.length x.b.c):=jY (i:=0) (by simp[dF])
theorem V1 (x:cT):(b9 x)[1]? =some (.slice x.sg.a x.sg.l.length x.sg.c):=jY (i:=1) (by simp[dF])
theorem V4 (x:cT):(b9 x)[6]? =some (.slice x.ks.a x.ks.l.length x.ks.c):=jY (i:=6) (by simp[dF])
theorem O2 (x:cT):(b9 x)[39]? =some (.slice x.ins.a x.ins.l.length x.ins.c):=fC 0
theorem O3 (x:cT):(b9 x)[40]? =some (.slice x.lks.a x.lks.l.length x.lks.c):=fC 1
theorem O4 (x:cT):(b9 x)[41]? =some (.slice x.ro.a x.ro.l.length x.ro.c):=fC 2
theorem V0 (x:cT) (h:0<(b9 x).size):(b9 x)[0]= .slice x.b.a x.b.l.length x.b.c:=aU (VZ x) h
theorem V3 (x:cT) (h:1<(b9 x).size):(b9 x)[1]= .slice x.sg.a x.sg.l.length x.sg.c:=aU (V1 x) h
theorem V5 (x:cT) (h:6<(b9 x).size):(b9 x)[6]= .slice x.ks.a x.ks.l.length x.ks.c:=aU (V4 x) h
theorem R1 (x:cT) (h:39<(b9 x).size):(b9 x)[39]= .slice x.ins.a x.ins.l.length x.ins.c:=aU (O2 x) h
theorem R2 (x:cT) (h:40<(b9 x).size):(b9 x)[40]= .slice x.lks.a x.lks.l.length x.lks.c:=aU (O3 x) h
theorem R3 (x:cT) (h:41<(b9 x).size):(b9 x)[41]= .slice x.ro.a x.ro.l.length x.ro.c:=aU (O4 x) h
section
variable {x:cT} {a:Wb} {c n:Nat}
theorem V6 (l:List Wk) (hn:l.length=n):(b9 x).setIfInBounds 0 (.slice a n c)=b9 {x with b:=⟨a,l,c⟩}:=by
 subst hn;exact kN (i:=0) (by simp[dF]) _
theorem SD (l:List Sg) (hn:l.length=n):(b9 x).setIfInBounds 1 (.slice a n c)=b9 {x with sg:=⟨a,l,c⟩}:=by
 subst hn;exact kN (i:=1) (by simp[dF]) _
theorem SB (l:List aN) (hn:l.length=n):(b9 x).setIfInBounds 6 (.slice a n c)=b9 {x with ks:=⟨a,l,c⟩}:=by
 subst hn;exact kN (i:=6) (by simp[dF]) _
theorem NW (l:List oU) (hn:l.length=n):(b9 x).setIfInBounds 39 (.slice a n c)=b9 {x with ins:=⟨a,l,c⟩}:=by
 subst hn;exact jB 0 _
theorem NX (l:List o8) (hn:l.length=n):(b9 x).setIfInBounds 40 (.slice a n c)=b9 {x with lks:=⟨a,l,c⟩}:=by
 subst hn;exact jB 1 _
theorem SC (l:List aT) (hn:l.length=n):(b9 x).setIfInBounds 41 (.slice a n c)=b9 {x with ro:=⟨a,l,c⟩}:=by
 subst hn;exact jB 2 _
end
structure bT where
 n:Wj
 r:cT
 pl:Wk
 sent:Bool
def dM (y:bT):Wa:=mx (u64v y.n::dF y.r) y.r.rc (eV y.r++[AO y.pl,.bool y.sent])
theorem bD (y:bT):(dM y).size=51:=u7 _ _ _
theorem bV (y:bT):(dM y).extract 0 51=dM y:=B5 rfl
theorem cV (y:bT):(dM y).all (·.oneCell') 0 51=true:=jU (bD y) (JB rfl rfl)
theorem iJ (y:bT):(dM y)[0]? =some (u64v y.n):=jY (i:=0) (by simp[dF])
theorem eP (y:bT):(dM y)[48]? =some (u64v y.r.prio):=fC (pre:=u64v y.n::dF y.r) 8
theorem i7 (y:bT):(dM y)[49]? =some (AO y.pl):=fC (pre:=u64v y.n::dF y.r) 9
theorem fK (y:bT) (h:0<(dM y).size):(dM y)[0]=u64v y.n:=aU (iJ y) h
theorem eJ (y:bT) (h:48<(dM y).size):(dM y)[48]=u64v y.r.prio:=aU (eP y) h
theorem gP (y:bT) (h:49<(dM y).size):(dM y)[49]=AO y.pl:=aU (i7 y) h
theorem jK (y:bT):(dM y).extract 1 49=b9 y.r:=by
 apply aZ1.1;rw[aXv];show(((u64v y.n::dF y.r)++(y.r.rc.l.map bc++(eV y.r++[AO y.pl,.bool y.sent]))).drop 1).take (49-1)=dF y.r++(y.r.rc.l.map bc++eV y.r);rw[aYg,List.drop_succ_cons,List.drop_zero,←aZw (y.r.rc.l.map bc),←aZw (dF y.r)];have hl:(dF y.r++(y.r.rc.l.map bc++eV y.r)).length=48:=by simp[dF,eV,y.r.rc.h]
 rw[List.take_append_of_le_length (by omega),aY6 (by omega)]
theorem KA (y:bT) (p:Wk):(dM y).setIfInBounds 49 (AO p)=dM {y with pl:=p}:=jB (pre:=u64v y.n::dF y.r) 9 _
theorem CN (y:bT) (x:cT):wr (dM y) 1 (b9 x).toList=dM {y with r:=x}:=by
 apply aZ1.1;rw[jF _ _ _ (by rw[aYd,bI,bD];omega)];have hl:(b9 x).toList.length=48:=by rw[aYd,bI]
 rw[hl];have e:(dM y).toList=((u64v y.n::(dF y.r++(y.r.rc.l.map bc++eV y.r)))++[AO y.pl,.bool y.sent]):=by
  show((u64v y.n::dF y.r)++(y.r.rc.l.map bc++(eV y.r++[AO y.pl,.bool y.sent])))=_;simp
 have h48:(u64v y.n::(dF y.r++(y.r.rc.l.map bc++eV y.r))).length=1+48:=by simp[dF,eV,y.r.rc.h]
 rw[e]
 conv=>lhs;rhs;rw[←h48,List.drop_left]
 show(u64v y.n::(b9 x).toList)++_=(u64v y.n::dF x)++(x.rc.l.map bc++(eV x++[AO y.pl,.bool y.sent]));show(u64v y.n::(dF x++(x.rc.l.map bc++eV x)))++_=_;simp
def gW:aN:=⟨List.replicate 32 0,rfl⟩
def rd0:cT:=⟨⟨none,[],0⟩,⟨none,[],0⟩,false,0,0,0,⟨none,[],0⟩,gW,⟨none,[],0⟩,⟨none,[],0⟩,⟨none,[],0⟩,0,0,0,0,0,0⟩
def LA:Wa:=b9 rd0
theorem kS:LA.size=48:=bI _
def it0:bT:=⟨0,rd0,0,false⟩
def zItem:Wa:=dM it0
theorem bE:zItem.size=51:=bD _
def W4:Wa:=inr ⟨0,⟨none,[],0⟩,⟨none,[],0⟩⟩
def WN:Wa:=lor ⟨gW,⟨none,[],0⟩,⟨none,[],0⟩⟩
def O7:Wa:=Array.replicate 64 (.int .u8 0)
theorem jX (w:We) (b o:Nat):(Instr.loadAt 46 (.pointer (some ⟨b,o,none⟩))).run Tryz.prog w=
   match w.heap[b]? with
   |some (.cells cs _ _)=>if o+48≤cs.size then .ok (.agg (cs.extract o (o+48))) w else dU Tryz.prog w 46 b o
   |_=>dU Tryz.prog w 46 b o:=bK (d:=_) Tryz.underlying46 rfl (by kernel_rfl) w b o
theorem mX (w:We) (b o:Nat) (xs:Wa):(Instr.storeAt 46 (.pointer (some ⟨b,o,none⟩)) (.agg xs)).run Tryz.prog w=
   match w.heap[b]? with
   |some (.cells cs U (0,0))=>
    if o+48≤cs.size∧xs.size=48∧xs.all (·.oneCell')=true then .ok () (setBlock w b (.cells (if o=0∧48=cs.size then xs else wr cs o xs.toList) U (0,0)))else eM Tryz.prog w 46 b o (.agg xs)
   |_=>eM Tryz.prog w 46 b o (.agg xs):=bQ (by kernel_rfl) w b o xs
theorem nB (dst:Option Tmp) (x:Wm) (ty:Wh) (pos:String) (after:Array Edge) (g:Option (Nat×Bool)) (a:Act) (w:We) (K:Act→We→Prop) (Q:Exit→Act→We→Prop):
  Oper.wp Tryz.prog {dst:=dst,op:= .load 46 x,type:=ty,pos:=pos,after:=after,guard:=g} a w K Q=
   (match a.eval x with
   | .pointer (some ⟨b,o,none⟩)=>
    (match w.heap[b]? with
    |some (.cells cs _ _)=>if o+48≤cs.size then K (a.put dst (.agg (cs.extract o (o+48)))) w else fP Tryz.prog {dst:=dst,op:= .load 46 x,type:=ty,pos:=pos,after:=after,guard:=g} a w K Q
    |_=>fP Tryz.prog {dst:=dst,op:= .load 46 x,type:=ty,pos:=pos,after:=after,guard:=g} a w K Q)
   |_=>fP Tryz.prog {dst:=dst,op:= .load 46 x,type:=ty,pos:=pos,after:=after,guard:=g} a w K Q):=dL (d:=_) Tryz.underlying46 rfl (by kernel_rfl) dst x ty pos after g a w K Q
theorem alRdy (w:We):(Instr.alloc 46 true (.tuple #[])).run Tryz.prog w= .ok (.pointer (some ⟨w.heap.size,0,none⟩)) (w.alloc (.cells LA 46)):=
 aY (z:= .agg LA) (fun w=>by kernel_rfl) w
theorem cD (w:We) (b o:Nat):(Instr.loadAt 82 (.pointer (some ⟨b,o,none⟩))).run Tryz.prog w=
   match w.heap[b]? with
   |some (.cells cs _ _)=>if o+51≤cs.size then .ok (.agg (cs.extract o (o+51))) w else dU Tryz.prog w 82 b o
   |_=>dU Tryz.prog w 82 b o:=bK (d:=_) Tryz.underlying82 rfl (by kernel_rfl) w b o
theorem dD (w:We) (b o:Nat) (xs:Wa):(Instr.storeAt 82 (.pointer (some ⟨b,o,none⟩)) (.agg xs)).run Tryz.prog w=
   match w.heap[b]? with
   |some (.cells cs U (0,0))=>
    if o+51≤cs.size∧xs.size=51∧xs.all (·.oneCell')=true then .ok () (setBlock w b (.cells (if o=0∧51=cs.size then xs else wr cs o xs.toList) U (0,0)))else eM Tryz.prog w 82 b o (.agg xs)
   |_=>eM Tryz.prog w 82 b o (.agg xs):=bQ (by kernel_rfl) w b o xs
theorem dE (dst:Option Tmp) (x:Wm) (ty:Wh) (pos:String) (after:Array Edge) (g:Option (Nat×Bool)) (a:Act) (w:We) (K:Act→We→Prop) (Q:Exit→Act→We→Prop):
  Oper.wp Tryz.prog {dst:=dst,op:= .load 82 x,type:=ty,pos:=pos,after:=after,guard:=g} a w K Q=
   (match a.eval x with
   | .pointer (some ⟨b,o,none⟩)=>
    (match w.heap[b]? with
    |some (.cells cs _ _)=>if o+51≤cs.size then K (a.put dst (.agg (cs.extract o (o+51)))) w else fP Tryz.prog {dst:=dst,op:= .load 82 x,type:=ty,pos:=pos,after:=after,guard:=g} a w K Q
    |_=>fP Tryz.prog {dst:=dst,op:= .load 82 x,type:=ty,pos:=pos,after:=after,guard:=g} a w K Q)
   |_=>fP Tryz.prog {dst:=dst,op:= .load 82 x,type:=ty,pos:=pos,after:=after,guard:=g} a w K Q):=dL (d:=_) Tryz.underlying82 rfl (by kernel_rfl) dst x ty pos after g a w K Q
theorem eA (w:We):(Instr.alloc 82 true (.tuple #[])).run Tryz.prog w= .ok (.pointer (some ⟨w.heap.size,0,none⟩)) (w.alloc (.cells zItem 82)):=
 aY (z:= .agg zItem) (fun w=>by kernel_rfl) w
theorem YJ (w:We) (b o:Nat):(Instr.loadAt 106 (.pointer (some ⟨b,o,none⟩))).run Tryz.prog w=
   match w.heap[b]? with
   |some (.cells cs _ _)=>if o+3≤cs.size then .ok (.agg (cs.extract o (o+3))) w else dU Tryz.prog w 106 b o
   |_=>dU Tryz.prog w 106 b o:=bK (d:=_) Tryz.underlying106 rfl (by kernel_rfl) w b o
theorem YU (w:We) (b o:Nat) (xs:Wa):(Instr.storeAt 106 (.pointer (some ⟨b,o,none⟩)) (.agg xs)).run Tryz.prog w=
   match w.heap[b]? with
   |some (.cells cs U (0,0))=>
    if o+3≤cs.size∧xs.size=3∧xs.all (·.oneCell')=true then .ok () (setBlock w b (.cells (if o=0∧3=cs.size then xs else wr cs o xs.toList) U (0,0)))else eM Tryz.prog w 106 b o (.agg xs)
   |_=>eM Tryz.prog w 106 b o (.agg xs):=bQ (by kernel_rfl) w b o xs
theorem XI (w:We):(Instr.alloc 106 true (.tuple #[])).run Tryz.prog w= .ok (.pointer (some ⟨w.heap.size,0,none⟩)) (w.alloc (.cells W4 106)):=
 aY (z:= .agg W4) (fun w=>by kernel_rfl) w
theorem YK (w:We) (b o:Nat):(Instr.loadAt 109 (.pointer (some ⟨b,o,none⟩))).run Tryz.prog w=
   match w.heap[b]? with
   |some (.cells cs _ _)=>if o+34≤cs.size then .ok (.agg (cs.extract o (o+34))) w else dU Tryz.prog w 109 b o
   |_=>dU Tryz.prog w 109 b o:=bK (d:=_) Tryz.underlying109 rfl (by kernel_rfl) w b o
theorem YV (w:We) (b o:Nat) (xs:Wa):(Instr.storeAt 109 (.pointer (some ⟨b,o,none⟩)) (.agg xs)).run Tryz.prog w=
   match w.heap[b]? with
   |some (.cells cs U (0,0))=>
    if o+34≤cs.size∧xs.size=34∧xs.all (·.oneCell')=true then .ok () (setBlock w b (.cells (if o=0∧34=cs.size then xs else wr cs o xs.toList) U (0,0)))else eM Tryz.prog w 109 b o (.agg xs)
   |_=>eM Tryz.prog w 109 b o (.agg xs):=bQ (by kernel_rfl) w b o xs
theorem XJ (w:We):(Instr.alloc 109 true (.tuple #[])).run Tryz.prog w= .ok (.pointer (some ⟨w.heap.size,0,none⟩)) (w.alloc (.cells WN 109)):=
 aY (z:= .agg WN) (fun w=>by kernel_rfl) w
theorem uC (n:Wj) (x:cT) (w:We):(Instr.build 82 #[(0,u64v n),(1,.agg (b9 x))]).run Tryz.prog w= .ok (.agg (dM ⟨n,x,0,false⟩)) w:=by
 refine eZ (z:= .agg zItem) (places:= #[(0,1),(1,48),(49,1),(50,1)]) Tryz.underlying82 (fun w=>by kernel_rfl) (fun w=>by kernel_rfl) ?_ w;show Instr.fill _ zItem [(0,_),(1,_)]=_;rw[cZ (off:=0) (n:=1) rfl rfl (by rw[bE];omega),cZ (off:=1) (n:=48) rfl (by simp[Value.cells,bI]) (by rw[jG,bE];omega)];refine congrArg some ?_;have e:wr zItem 0 (u64v n).cells.toList=dM {it0 with n:=n}:=by
  show zItem.setIfInBounds 0 (u64v n)=_;exact kN (i:=0) (by simp[dF]) _
 rw[e];exact CN _ x
theorem YS:oM Tryz.prog 30 92 sgc 64 64 where
 u:=Tryz.underlying30
 info:=by
  obtain⟨i0,hi,cy,bj,bp⟩:=info_parts (show(Tryz.prog.info? 92).map (fun i=>(i.zero,i.size,i.bytes))=some (some (.agg O7),64,64)by kernel_rfl);exact⟨i0,_,hi,cy,bj,bp,by simp[Value.cells,O7]⟩
 pos:=by omega
 size:=dC
 one:=sgc_one
theorem OR:oM Tryz.prog 33 107 kc 32 32 where
 u:=Tryz.underlying33
 info:=by
  obtain⟨i0,hi,cy,bj,bp⟩:=info_parts (show(Tryz.prog.info? 107).map (fun i=>(i.zero,i.size,i.bytes))=some (some (.agg FE),32,32)by kernel_rfl);exact⟨i0,_,hi,cy,bj,bp,by simp[Value.cells,FE]⟩
 pos:=by omega
 size:=kc_size
 one k:=by
  have:=dR k;rw[aZ5]at this;intro u hu;exact this u (by simpa using hu)
theorem J4:oM Tryz.prog 42 178 rcr 34 34 where
 u:=Tryz.underlying42
 info:=by
  obtain⟨i0,hi,cy,bj,bp⟩:=info_parts (show(Tryz.prog.info? 178).map (fun i=>(i.zero,i.size,i.bytes))=some (some (.agg tP),34,34)by kernel_rfl);exact⟨i0,_,hi,cy,bj,bp,by simp[Value.cells,tP]⟩
 pos:=by omega
 size r:=kO _ _ _
 one r:=by
  have:=rA r.k [.bool r.s,.bool r.w] rfl;rw[aZ5]at this;intro u hu;exact this u (by simpa[rcr,rc] using hu)
def uc (b:Wk):Wa:= #[AO b]
theorem GF:oM Tryz.prog 29 5 uc 1 1 where
 u:=Tryz.underlying29
 info:=by
  obtain⟨i0,hi,cy,bj,bp⟩:=info_parts (show(Tryz.prog.info? 5).map (fun i=>(i.zero,i.size,i.bytes))=some (some (.int .u8 0),1,1)by kernel_rfl);exact⟨i0,_,hi,cy,bj,bp,rfl⟩
 pos:=by omega
 size x:=rfl
 one x u hu:=by
  simp[uc]at hu;subst hu;rfl
theorem IZ:oM Tryz.prog 36 106 inr 3 56 where
 u:=Tryz.underlying36
 info:=by
  obtain⟨i0,hi,cy,bj,bp⟩:=info_parts (show(Tryz.prog.info? 106).map (fun i=>(i.zero,i.size,i.bytes))=some (some (.agg W4),3,56)by kernel_rfl);exact⟨i0,_,hi,cy,bj,bp,rfl⟩
 pos:=by omega
 size x:=rfl
 one x u hu:=by
  simp[inr]at hu;rcases hu with rfl|rfl|rfl<;>rfl
theorem B2:oM Tryz.prog 37 109 lor 34 80 where
 u:=Tryz.underlying37
 info:=by
  obtain⟨i0,hi,cy,bj,bp⟩:=info_parts (show(Tryz.prog.info? 109).map (fun i=>(i.zero,i.size,i.bytes))=some (some (.agg WN),34,80)by kernel_rfl);exact⟨i0,_,hi,cy,bj,bp,by simp[Value.cells,WN,lor,kM]⟩
 pos:=by omega
 size x:=kM _ _
 one x:=by
  have:=rA x.t [.slice x.w.a x.w.l.length x.w.c,.slice x.r.a x.r.l.length x.r.c] rfl;rw[aZ5]at this;intro u hu;exact this u (by simpa[lor] using hu)
end
end Go.Proofs.YtblbegbjlaokjaaGreatDoor