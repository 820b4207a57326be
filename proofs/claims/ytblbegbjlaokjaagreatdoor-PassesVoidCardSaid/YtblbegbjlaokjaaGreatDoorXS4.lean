/- The lemmas of the proof, part XO4: how the program and its data lie in memory, and what its functions do. -/
import Derived.Test.YtblbegbjlaokjaaGreatDoorXS3
import Derived.RangeFuncNested
import Derived.RangeFuncBox
import Derived.RangeFuncLeaves
import Derived.Shelf.Abstract
import Derived.WalkKit
import Derived.OwnWalkIn
import Derived.TacticsInMore
import Derived.LoopNIn
import Derived.LoopIn
import Derived.Maps.AppendAt
import Derived.Shelf.SlGeneric
import Derived.Shelf.SlSortCmp.Whole1
import Derived.Ground.SlsfProg
import Derived.Test.YtblbegbjlaokjaaGreatDoorProg
import Derived.Deep.QuietTactic
import Derived.BigQuiet
import Derived.Sort.Walk0
import Derived.Sort.Grow
import Derived.Deep.CutBlock
import Derived.Scope
import Derived.WalkMore
set_option linter.unusedSimpArgs false
set_option linter.unusedVariables false
set_option linter.unusedSectionVars false
set_option maxRecDepth 100000
set_option maxHeartbeats 6400000
namespace Go.Proofs
open Go.Shelf
def Tryz.sortG_ren:Go.Shelf.Ren:=⟨fun|6=>142|15=>157|14=>160|28=>174|29=>175|20=>176|21=>177|22=>178|23=>179|24=>180|25=>181|26=>182|27=>183|46=>189|47=>185|48=>186|49=>190|50=>191|57=>193|n=>n,fun|22=>236|24=>238|25=>245|3=>3|39=>260|0=>0|53=>307|55=>23|4=>4|46=>301|45=>300|50=>93|5=>5|9=>9|66=>313|70=>317|76=>321|77=>322|n=>n,fun|n=>n⟩
theorem Tryz.sortG:Go.Proofs.SlLaysF.n6 Tryz.prog Tryz.sortG_ren:= {
 mixed:=by kernel_rfl
 f6:=⟨Tryz.f142.name,by decide,Tryz.func142.trans (congrArg some (by kernel_rfl))⟩
 f14:=⟨Tryz.f160.name,by decide,Tryz.func160.trans (congrArg some (by kernel_rfl))⟩
 f15:=Tryz.func157.trans (congrArg some (by kernel_rfl))
 f20:=⟨Tryz.f176.name,by decide,Tryz.func176.trans (congrArg some (by kernel_rfl))⟩
 f21:=⟨Tryz.f177.name,by decide,Tryz.func177.trans (congrArg some (by kernel_rfl))⟩
 f22:=⟨Tryz.f178.name,by decide,Tryz.func178.trans (congrArg some (by kernel_rfl))⟩
 f23:=⟨Tryz.f179.name,by decide,Tryz.func179.trans (congrArg some (by kernel_rfl))⟩
 f24:=⟨Tryz.f180.name,by decide,Tryz.func180.trans (congrArg some (by kernel_rfl))⟩
 f25:=⟨Tryz.f181.name,by decide,Tryz.func181.trans (congrArg some (by kernel_rfl))⟩
 f26:=⟨Tryz.f182.name,by decide,Tryz.func182.trans (congrArg some (by kernel_rfl))⟩
 f27:=⟨Tryz.f183.name,by decide,Tryz.func183.trans (congrArg some (by kernel_rfl))⟩
 f28:=Tryz.func174.trans (congrArg some (by kernel_rfl))
 f29:=Tryz.func175.trans (congrArg some (by kernel_rfl))
 f46:=⟨Tryz.f189.name,by decide,Tryz.func189.trans (congrArg some (by kernel_rfl))⟩
 f47:=Tryz.func185.trans (congrArg some (by kernel_rfl))
 f48:=Tryz.func186.trans (congrArg some (by kernel_rfl))
 f49:=⟨Tryz.f190.name,by decide,Tryz.func190.trans (congrArg some (by kernel_rfl))⟩
 f50:=⟨Tryz.f191.name,by decide,Tryz.func191.trans (congrArg some (by kernel_rfl))⟩
 f57:=⟨Tryz.f193.name,by decide,Tryz.func193.trans (congrArg some (by kernel_rfl))⟩
 t0:=Tryz.underlying0
 a0:=Tryz.isAgg0
 z0:=Tryz.sizeOf0
 v0:=Tryz.zeroValue0
 t3:=Tryz.underlying3
 a3:=Tryz.isAgg3
 z3:=Tryz.sizeOf3
 v3:=Tryz.zeroValue3
 t4:=Tryz.underlying4
 a4:=Tryz.isAgg4
 z4:=Tryz.sizeOf4
 v4:=Tryz.zeroValue4
 t5:=Tryz.underlying5
 a5:=Tryz.isAgg5
 z5:=Tryz.sizeOf5
 v5:=Tryz.zeroValue5
 t9:=Tryz.underlying9
 a9:=Tryz.isAgg9
 z9:=Tryz.sizeOf9
 v9:=Tryz.zeroValue9
 t22:=Tryz.underlying236
 a22:=Tryz.isAgg236
 z22:=Tryz.sizeOf236
 v22:=Tryz.zeroValue236
 a24:=Tryz.isAgg238
 z24:=Tryz.sizeOf238
 t25:=Tryz.underlying245
 a25:=Tryz.isAgg245
 z25:=Tryz.sizeOf245
 v25:=Tryz.zeroValue245
 t39:=Tryz.underlying260
 a39:=Tryz.isAgg260
 z39:=Tryz.sizeOf260
 v39:=Tryz.zeroValue260
 t45:=Tryz.underlying300
 a45:=Tryz.isAgg300
 z45:=Tryz.sizeOf300
 v45:=Tryz.zeroValue300
 t46:=Tryz.underlying301
 a46:=Tryz.isAgg301
 z46:=Tryz.sizeOf301
 v46:=Tryz.zeroValue301
 t50:=Tryz.underlying93
 a50:=Tryz.isAgg93
 z50:=Tryz.sizeOf93
 v50:=Tryz.zeroValue93
 t53:=Tryz.underlying307
 a53:=Tryz.isAgg307
 z53:=Tryz.sizeOf307
 v53:=Tryz.zeroValue307
 t55:=Tryz.underlying23
 a55:=Tryz.isAgg23
 z55:=Tryz.sizeOf23
 v55:=Tryz.zeroValue23
 t66:=Tryz.underlying313
 a66:=Tryz.isAgg313
 z66:=Tryz.sizeOf313
 v66:=Tryz.zeroValue313
 t70:=Tryz.underlying317
 a70:=Tryz.isAgg317
 z70:=Tryz.sizeOf317
 v70:=Tryz.zeroValue317
 t76:=Tryz.underlying321
 a76:=Tryz.isAgg321
 z76:=Tryz.sizeOf321
 v76:=Tryz.zeroValue321
 t77:=Tryz.underlying322
 a77:=Tryz.isAgg322
 z77:=Tryz.sizeOf322
 v77:=Tryz.zeroValue322}
end Go.Proofs

namespace Go.Proofs.YtblbegbjlaokjaaGreatDoor
open Go.RowKit
open Go.ChangeMaps (setBlock)
section
attribute [local go_sem↓] eS jY eP tS eR uR
attribute [local go_sem] bB i7 dC j8 uH uG BA uI aN aK aP aF aO cR bY aH aC Value.cells k8
def CS (m:List (aQ×Bool)) (r:aT):List (aQ×Bool):=put r.k ((lkp r.k m).getD false||r.w) m
def howL (l:List aT):List (aQ×Bool):=l.foldl CS []
theorem gZ (l:List aT) (r:aT):howL (l++[r])=CS (howL l) r:=by simp[howL,aXl]
theorem sC {κ ν:Type} [DecidableEq κ] (k:κ) (u v:ν) (m:List (κ×ν)):put k v (put k u m)=put k v m:=by
 induction m with
 |nil=>simp[put]
 |cons p r ih=>
  by_cases h:p.1=k
  ·simp[put,h]
  ·simp[put,h,ih]
theorem sY (w:World):(zeroValue 3).run Tryz.prog w= .ok (bv false) w:=by kernel_rfl
theorem WM (w:World) (a b c:Obj) (h:w.heap.size+1+1<(((w.alloc a).alloc b).alloc c).heap.size):(((w.alloc a).alloc b).alloc c).heap[w.heap.size+1+1]'h=c:=by
 have h2:=(pP w a b c).2.2;rw[aYe h]at h2;exact aZz h2
attribute [local go_sem] WM
theorem RV (w:World):(Instr.alloc 3 true (.tuple #[])).run Tryz.prog w= .ok (.pointer (some ⟨w.heap.size,0,none⟩)) (w.alloc (.cells #[.int .i64 0] 3)):=aX (z:= .int .i64 0) (fun w=>by kernel_rfl) w
theorem AY {κ ν:Type} [DecidableEq κ] (k:κ) (v:ν):∀m:List (κ×ν),(put k v m).length≤m.length+1
 |[]=>by simp[put]
 |p::r=>by
  have:=AY k v r;unfold put;split
  ·simp
  ·simp;omega
theorem wF (l:List aT):(howL l).length≤l.length:=by
 induction l using bA with
 |h0=>simp[howL]
 |h1 l r ih=>
  rw[gZ,aZg];unfold CS;have:=AY r.k ((lkp r.k (howL l)).getD false||r.w) (howL l);simp;omega
theorem dR.put0 {tag tag':u5} {w w':World} {g nb sb q a:Nat} {A:List Nat} {N:List (Int64×Nat)} {S:List (aQ×Nat)} {nd nd':Nat→Nr} {sp:Nat→Sr} (h:dR tag w g nb sb q A N S nd sp) (hm:Mod (fun i=>i=g) w w') (kg:w'.heap[g]? =some (.cells #[.map (some nb),.map (some sb),.int .i64 ((q+1:Nat):Int)] 182 (0,0)))
  (ht:∀i,i<w.heap.size→tag' i=tag i) (hx:u9 tag' w' a (nd' a)) (hnd:∀c∈A,nd' c=nd c):dR tag' w' g nb sb (q+1) (A++[a]) N S nd' sp:=by
 obtain⟨es,c,hk,M1⟩:=h.kn;obtain⟨es2,c2,hk2,M2⟩:=h.ks;have hg:∀ {i p},tag i=some p→p≠(g,5)→¬i=g:=fun e hne hi=>by
  rw[hi,h.tg]at e;cases e;exact hne rfl
 refine⟨kg,⟨es,c,hm.at hk (hg h.tnb (by simp)),M1⟩,⟨es2,c2,hm.at hk2 (hg h.tsb (by simp)),M2⟩,fun b hb=> ?_,fun p hp=>(h.spots p hp).mod hm (fun i r e h3 h4=>hg e (by simp;omega)) ht,(ht _ (aA h.c)).trans h.tg,(ht _ (aA hk)).trans h.tnb,(ht _ (aA hk2)).trans h.tsb⟩;rcases aZh.1 hb with hb|hb
 ·rw[hnd b hb];exact(h.nodes b hb).mod hm (fun i r e h3=>hg e (by simp;omega)) ht
 ·obtain rfl:=aZm.1 hb;exact hx
theorem dR.ids {tag:u5} {w w':World} {g nb sb q:Nat} {A:List Nat} {N N':List (Int64×Nat)} {S:List (aQ×Nat)} {nd:Nat→Nr} {sp:Nat→Sr} (h:dR tag w g nb sb q A N S nd sp) (hm:Mod (fun i=>i=nb) w w') (hk:∃es c,w'.heap[nb]? =some (.map es c)∧aR tK ptrV es c N'):dR tag w' g nb sb q A N' S nd sp:=by
 obtain⟨es2,c2,hk2,M2⟩:=h.ks;have hg:∀ {i p},tag i=some p→p≠(g,6)→¬i=nb:=fun e hne hi=>by
  rw[hi,h.tnb]at e;cases e;exact hne rfl
 exact⟨hm.at h.c (hg h.tg (by simp)),hk,⟨es2,c2,hm.at hk2 (hg h.tsb (by simp)),M2⟩,fun b hb=>(h.nodes b hb).mod hm (fun i r e h3=>hg e (by simp;omega)) (fun _ _=>rfl),fun p hp=>(h.spots p hp).mod hm (fun i r e h3 h4=>hg e (by simp;omega)) (fun _ _=>rfl),h.tg,h.tnb,h.tsb⟩
def oS (Q:Exit→Act→World→Prop):Exit→Act→World→Prop:=fun e a w=>(∀c,e≠ .panic c)∧e≠ .outgrown∧Q e a w
theorem TC {g q:Nat} {C:List Cn} {T:Nat→Prop} {w:World} (hA:zU g q C T w) (hT:∀i,T i→i<w.heap.size) (hq:q<900) (id:Int64) (a:Option Addr) (l:List aT) (c:Nat) (hl:aV w a l) (hll:l.length≤800) (hd:l≠[]→∀b o,a=some ⟨b,o,none⟩→¬T b) (hid:∀x∈C,x.id≠id):
  Calls Tryz.prog 102 #[ptrV g,.int .i64 id.toInt,.slice a l.length c] w fun e w'=>e= .returned (.int .i64 0)∧∃T',zU g (q+1) (C++[⟨id,eU C id (howL l),fun k=>lkp k (howL l)⟩]) T' w'∧Mod T w w'∧(∀i,T' i→T i∨w.heap.size≤i)∧∀i,T' i→i<w'.heap.size:=by
 obtain⟨tag,nb,sb,L,N,S,nd,sp,H,I,rfl,hO⟩:=hA;obtain⟨es,c0,kb,M⟩:=H.kn;have kh:=H.c;have hnone:lkp id N=none:=by
  rcases I.look M.nodup id with⟨h1,_⟩|⟨x,hx,h1,_⟩
  ·exact h1
  ·exact absurd h1 (hid _ (aZj.2 ⟨x,hx,rfl⟩))
 have hlk:=M.lookup F4 Tryz.underlying179 (z:= .pointer none) (fun w=>by kernel_rfl) w kb id false;simp only[hnone,Option.map_none,Option.getD_none,aZr,if_false]at hlk;replace hlk:(Instr.lookup 179 (.map (some nb)) (.int .i64 id.toInt) false).run Tryz.prog w= .ok (.pointer none) w:=hlk;have hmm:= @run_makeMap Tryz.prog;have hpu:IntKind.i64.wrap ((q:Int)+1)=((q+1:Nat):Int):=by
  rw[IntKind.wrap_i64];omega
 have HH:=Hi H;have HI:=Hi I;have HO:=Hi hO;have HT:=Hi hT;have HL:=Hi hl;have HD:=Hi hd;have HN:=Hi hnone;have MN:=Hi M;clear H I hO hT hl hd hid hnone M;refine callsIn_wide.1 (callsIn_of_wp_marks (n:=0) Tryz.func102 rfl trivial ?_ rfl);simp only[Tryz.ntmps102,aYs,aZu,aYw,Nat.reduceAdd,Nat.reduceSub,aXd,aXc,aXo,aXj,aYq,aYg];refine wpIn_wide.2 ?_;refine wp_mono (Q:=oS _) ?_ (fun e a w h=>h.2.2);generalize hQ0:bodyPostM Fence.wide 0 Tryz.prog _ _=Q0;have HQ0:=Hi hQ0;clear hQ0;have hP:∀c a w,¬oS Q0 (.panic c) a w:=fun c a w h=>h.1 c rfl;have hLo:¬LetsOut (oS Q0):=fun⟨a,w,h⟩=>h.2.1 rfl;generalize hQ1:oS Q0=Q1 at *;have HQ1:=Hi hQ1;clear hQ1;go_wp2_with fail;go_at_call 103;refine(there_cG kh).mono ?_;rintro e w2 ⟨rfl,rfl⟩;go_upto_region 6 with fail;obtain⟨km,kn,k7⟩:=pP w2 (.map #[] 0) (.cells #[.int .i64 id.toInt,.int .i64 id.toInt,.int .i64 (q:Int),.int .i64 0,.slice none 0 0,.map (some w2.heap.size)] 244) (.cells #[ptrV (w2.heap.size+1)] 238);have m0:Mod (fun _=>False) w2 (((w2.alloc (.map #[] 0)).alloc (.cells #[.int .i64 id.toInt,.int .i64 id.toInt,.int .i64 (q:Int),.int .i64 0,.slice none 0 0,.map (some w2.heap.size)] 244)).alloc (.cells #[ptrV (w2.heap.size+1)] 238)):=(((Mod.refl _ _).alloc _).alloc _).alloc _;generalize(((w2.alloc (.map #[] 0)).alloc (.cells #[.int .i64 id.toInt,.int .i64 id.toInt,.int .i64 (q:Int),.int .i64 0,.slice none 0 0,.map (some w2.heap.size)] 244)).alloc (.cells #[ptrV (w2.heap.size+1)] 238))=w3 at *;generalize hbn:w2.heap.size=n at *;have kh3:=m0.at0 kh;have lg:=aA kh;rw[hbn]at lg;clear hlk;have Lkh3:=aA kh3;have Lkm:=aA km;have Lkn:=aA kn;have Lk7:=aA k7;refine ZP0 [0,0,0,1,0,0,0,5] ?_
 iterate 7 first|refine Zv ?_|refine Zd ?_
 refine Zi fun wE hr=> ?_;replace kh3:=hr.mod.at0 kh3;replace km:=hr.mod.at0 km;replace kn:=hr.mod.at0 kn;replace k7:=hr.mod.at0 k7;have mE:=hr.mod;refine ZS ?_;refine ZN kh3 fun w4 kh3 mS=> ?_;(try simp only[Array.setIfInBounds,zL]at kh3);replace km:=mS.at_ne km (by omega);replace kn:=mS.at_ne kn (by omega);replace k7:=mS.at_ne k7 (by omega);have m4:Mod (fun i=>i=g) w2 w4:=((m0.then0 mE).mono (fun _ _ h=>h.elim)).then mS (fun _ _ h=>h);clear mE mS hr;have hcs:IntKind.i64.wrap ((q:Int)+1)=((q+1:Nat):Int):=hpu;have kgr:w4.heap[g]? =some (.cells #[.map (some nb),.map (some sb),.int .i64 ((q+1:Nat):Int)] 182 (0,0)):=kh3;have HG:=Hi kgr;clear kgr kh3 hcs hpu hmm;have Lkm:n<w4.heap.size:=aA km;have L7:=aA k7;go_wp2_with fail;go_loopw [44] (fun s44 wr=>∃i:Nat,i≤l.length∧s44= .int .i64 i∧(∃es c,wr.heap[n]? =some (.map es c)∧Hid (aR kv bv es c (howL (l.take i))))∧Mod (fun x=>x=n) w4 wr) (fun s44 _=>l.length-(intOf s44).toNat)
 case atStart=>exact⟨0,by omega,rfl,⟨_,_,km,Hi (aR.empty kv bv)⟩,Mod.refl _ _⟩
 case round=>
  obtain⟨i,hi,rfl,⟨es1,cl1,km,HM⟩,hm⟩:=hrel;have k7:=hm.at k7 (by omega);have kn:=hm.at kn (by omega);by_cases hlt:i<l.length
  ·obtain⟨r,hrr⟩:∃r,l[i]? =some r:=⟨_,aZb hlt⟩;obtain⟨b,o,CC,U,fr,rfl,kl,hx,hle⟩:=HL.out.block hrr;have kl4:=hm.at (m4.at kl (fun e=>HD.out (by rintro rfl;cases hlt) b o rfl (e▸HO.out g (by rw[HH.out.tg];simp)))) (by have:=aA kl;omega);clear kl;have kl:=kl4;clear kl4;obtain⟨k,s,b1⟩:=r;have HT1:Hid (l.take (i+1)=l.take i++[⟨k,s,b1⟩]):=Hi (by rw[aYa,hrr];rfl);unfold rcr at hx;dsimp only at hx;clear hrr;go_upto_region 9 with fail;have Lkn:=aA kn;have Lk7:=aA k7;have Lkm:=aA km;have Lkl:=aA kl;refine ZP0 [0,1,3,4] ?_;refine Zv ?_;refine Zd ?_;refine Za mP fun p9 hp9=> ?_;refine Zt ?_;refine TD.nil (fun w5 hr=> ?_);replace kn:=hr.q kn;replace k7:=hr.q k7;replace km:=hr.q km;replace kl:=hr.q kl;obtain⟨gp9,kp9⟩:=hr.b p9;have m5:=hm.then0 hr.mod;clear hr;obtain⟨qn,hqn⟩:∃qn,(lkp k (howL (l.take i))).getD false=qn:=⟨_,rfl⟩;have hwr:IntKind.i64.wrap (if qn then(1:Int)else 0)=(if qn then 1 else 0):=by cases qn<;>rfl
   have hlk:∀wq es c,wq.heap[n]? =some (.map es c)→aR kv bv es c (howL (l.take i))∨aR kv bv es c (put k qn (howL (l.take i)))→(Instr.lookup 161 (.map (some n)) (.agg (kc k)) false).run Tryz.prog wq= .ok (.int .i64 (if qn then 1 else 0)) wq:=fun wq es c hq hM=>by
    rcases hM with hM|hM
    ·have:=hM.lookupD keyT Tryz.underlying161 (z:=false) sY wq hq k;rw[hqn]at this;exact this
    ·have:=hM.lookupD keyT Tryz.underlying161 (z:=false) sY wq hq k;rw[cP,zE]at this;exact this
   have HLK:=Hi hlk;have hen:=fun(wq:World) (hq:wq.heap[n]? =some (.map es1 cl1))=>HM.out.entry keyT Tryz.underlying161 (z:=false) sY wq hq k;simp only[hqn]at hen;have HEN:=Hi hen;have HQ:=Hi hqn;generalize hqi:(if qn then(1:Int)else 0)=qi at *;have HQI:=Hi hqi;clear hlk hen hqn hqi;go_upto_region 10 with fail;go_cut []from 48 to 57 (fun wx=>(∃es c,wx.heap[n]? =some (.map es c)∧Hid (aR kv bv es c (put k qn (howL (l.take i)))))∧wx.heap[n+1+1]? =some (.cells #[ptrV (n+1)] 238 (0,0))∧wx.heap[n+1]? =some (.cells #[.int .i64 id.toInt,.int .i64 id.toInt,.int .i64 (q:Int),.int .i64 0,.slice none 0 0,.map (some n)] 244 (0,0))∧wx.heap[p9]? =some (.cells (rc k s b1) 178 (0,0))∧Mod (fun x=>x=n) w4 wx)
   case first=>
    have Lkn:=aA kn;have Lk7:=aA k7;have Lkm:=aA km;have Lkp9:=aA kp9;refine mI (T0:=fun _=>False) (K:=fun _ _=>True) (κ:=fun i=>[0,0,0,0,0,0,6,0,6,0,6].getD i 0) (υ:=fun _=>[]) [0,1,2,3,4,5] [6,7,8,9,10] (by kernel_rfl) (by kernel_rfl) (aI.true).cl (trivial) (fun _ h=>h.elim) ?_;have gK:=aI.true
    iterate 6 first|refine Zg ?_|refine Zh ?_
    refine TG.nil (fun w6 ⟨TR,hr⟩=> ?_);replace kn:=hr.q kn;replace k7:=hr.q k7;replace km:=hr.q km;replace kp9:=hr.q kp9;clear gK;have m6:=m5.then0 hr.mod;obtain⟨st,es2,cl2,hrE,M2,hF⟩:=HEN.out w6 km;have hl6:=HLK.out w6 _ _ km (.inl HM.out);have km7:=aD w6 (.map es2 cl2) (aA km);have mS7:=bN w6 n (.map es2 cl2);generalize setBlock w6 n (.map es2 cl2)=w7 at *;have hl7:=HLK.out w7 _ _ km7 (.inr M2);obtain⟨es3,cl3,hrF,M3⟩:=hF w7 qn km7;have km8:=aD w7 (.map es3 cl3) (aA km7);have mS8:=bN w7 n (.map es3 cl3);generalize setBlock w7 n (.map es3 cl3)=w8 at *;have hne9:p9≠n:=by have:=aA km;omega
    have hend:(∃es c,w8.heap[n]? =some (.map es c)∧Hid (aR kv bv es c (put k qn (howL (l.take i)))))∧w8.heap[n+1+1]? =some (.cells #[ptrV (n+1)] 238 (0,0))∧w8.heap[n+1]? =some (.cells #[.int .i64 id.toInt,.int .i64 id.toInt,.int .i64 (q:Int),.int .i64 0,.slice none 0 0,.map (some n)] 244 (0,0))∧w8.heap[p9]? =some (.cells (rc k s b1) 178 (0,0))∧Mod (fun x=>x=n) w4 w8:=
     ⟨⟨_,_,km8,Hi M3⟩,mS8.at_ne (mS7.at_ne k7 (by omega)) (by omega),mS8.at_ne (mS7.at_ne kn (by omega)) (by omega),mS8.at_ne (mS7.at_ne kp9 hne9) hne9,(m6.then mS7 (fun _ _ h=>h)).then mS8 (fun _ _ h=>h)⟩
    have HEND:=Hi hend;clear hend;simp only[bv,HQI.out]at hrE hrF;(intro iA hiA hbA;simp only[aZc,aZe,or_false]at hiA;rcases hiA with rfl|rfl|rfl|rfl|rfl)
    ·clear hbA;(refine ZL (by first|exact hl6|exact hl7) ?_;try simp only[zL]);rw[show([6,7,8,9,10]:List Nat).erase 6=[7,8,9,10]from rfl];(intro iA hiA hbA;simp only[aZc,aZe,or_false]at hiA;rcases hiA with rfl|rfl|rfl|rfl)
     ·clear hbA;refine Zw ?_;rw[show([7,8,9,10]:List Nat).erase 7=[8,9,10]from rfl];(intro iA hiA hbA;simp only[aZc,aZe,or_false]at hiA;rcases hiA with rfl|rfl|rfl)
      ·clear hbA;(refine ZF hrE ?_;try simp only[zL]);rw[show([8,9,10]:List Nat).erase 8=[9,10]from rfl];(intro iA hiA hbA;simp only[aZc,aZe,or_false]at hiA;rcases hiA with rfl|rfl)
       ·clear hbA;refine Zw ?_;rw[show([9,10]:List Nat).erase 9=[10]from rfl];(intro iA hiA hbA;simp only[aZc,aZe,or_false]at hiA;subst hiA)
        ·clear hbA;(refine ZW hrF ?_;try simp only[zL]);rw[show([10]:List Nat).erase 10=[]from rfl];refine bC ?_;go_wp2_with fail;go_meet;exact HEND.out
       ·exact aG (by kernel_rfl) hbA
      ·exact aG (by kernel_rfl) hbA
      ·exact aG (by kernel_rfl) hbA
     ·clear hbA;(refine ZF hrE ?_;try simp only[zL]);rw[show([7,8,9,10]:List Nat).erase 8=[7,9,10]from rfl];(intro iA hiA hbA;simp only[aZc,aZe,or_false]at hiA;rcases hiA with rfl|rfl|rfl)
      ·clear hbA;refine Zw ?_;rw[show([7,9,10]:List Nat).erase 7=[9,10]from rfl];(intro iA hiA hbA;simp only[aZc,aZe,or_false]at hiA;rcases hiA with rfl|rfl)
       ·clear hbA;refine Zw ?_;rw[show([9,10]:List Nat).erase 9=[10]from rfl];(intro iA hiA hbA;simp only[aZc,aZe,or_false]at hiA;subst hiA)
        ·clear hbA;(refine ZW hrF ?_;try simp only[zL]);rw[show([10]:List Nat).erase 10=[]from rfl];refine bC ?_;go_wp2_with fail;go_meet;exact HEND.out
       ·exact aG (by kernel_rfl) hbA
      ·clear hbA;refine Zw ?_;rw[show([7,9,10]:List Nat).erase 9=[7,10]from rfl];(intro iA hiA hbA;simp only[aZc,aZe,or_false]at hiA;rcases hiA with rfl|rfl)
       ·clear hbA;refine Zw ?_;rw[show([7,10]:List Nat).erase 7=[10]from rfl];(intro iA hiA hbA;simp only[aZc,aZe,or_false]at hiA;subst hiA)
        ·clear hbA;(refine ZW hrF ?_;try simp only[zL]);rw[show([10]:List Nat).erase 10=[]from rfl];refine bC ?_;go_wp2_with fail;go_meet;exact HEND.out
       ·exact aG (by kernel_rfl) hbA
      ·exact aG (by kernel_rfl) hbA
     ·exact aG (by kernel_rfl) hbA
     ·exact aG (by kernel_rfl) hbA
    ·exact aG (by kernel_rfl) hbA
    ·clear hbA;(refine ZF hrE ?_;try simp only[zL]);rw[show([6,7,8,9,10]:List Nat).erase 8=[6,7,9,10]from rfl];(intro iA hiA hbA;simp only[aZc,aZe,or_false]at hiA;rcases hiA with rfl|rfl|rfl|rfl)
     ·clear hbA;(refine ZL (by first|exact hl6|exact hl7) ?_;try simp only[zL]);rw[show([6,7,9,10]:List Nat).erase 6=[7,9,10]from rfl];(intro iA hiA hbA;simp only[aZc,aZe,or_false]at hiA;rcases hiA with rfl|rfl|rfl)
      ·clear hbA;refine Zw ?_;rw[show([7,9,10]:List Nat).erase 7=[9,10]from rfl];(intro iA hiA hbA;simp only[aZc,aZe,or_false]at hiA;rcases hiA with rfl|rfl)
       ·clear hbA;refine Zw ?_;rw[show([9,10]:List Nat).erase 9=[10]from rfl];(intro iA hiA hbA;simp only[aZc,aZe,or_false]at hiA;subst hiA)
        ·clear hbA;(refine ZW hrF ?_;try simp only[zL]);rw[show([10]:List Nat).erase 10=[]from rfl];refine bC ?_;go_wp2_with fail;go_meet;exact HEND.out
       ·exact aG (by kernel_rfl) hbA
      ·clear hbA;refine Zw ?_;rw[show([7,9,10]:List Nat).erase 9=[7,10]from rfl];(intro iA hiA hbA;simp only[aZc,aZe,or_false]at hiA;rcases hiA with rfl|rfl)
       ·clear hbA;refine Zw ?_;rw[show([7,10]:List Nat).erase 7=[10]from rfl];(intro iA hiA hbA;simp only[aZc,aZe,or_false]at hiA;subst hiA)
        ·clear hbA;(refine ZW hrF ?_;try simp only[zL]);rw[show([10]:List Nat).erase 10=[]from rfl];refine bC ?_;go_wp2_with fail;go_meet;exact HEND.out
       ·exact aG (by kernel_rfl) hbA
      ·exact aG (by kernel_rfl) hbA
     ·exact aG (by kernel_rfl) hbA
     ·clear hbA;refine Zw ?_;rw[show([6,7,9,10]:List Nat).erase 9=[6,7,10]from rfl];(intro iA hiA hbA;simp only[aZc,aZe,or_false]at hiA;rcases hiA with rfl|rfl|rfl)
      ·clear hbA;(refine ZL (by first|exact hl6|exact hl7) ?_;try simp only[zL]);rw[show([6,7,10]:List Nat).erase 6=[7,10]from rfl];(intro iA hiA hbA;simp only[aZc,aZe,or_false]at hiA;rcases hiA with rfl|rfl)
       ·clear hbA;refine Zw ?_;rw[show([7,10]:List Nat).erase 7=[10]from rfl];(intro iA hiA hbA;simp only[aZc,aZe,or_false]at hiA;subst hiA)
        ·clear hbA;(refine ZW hrF ?_;try simp only[zL]);rw[show([10]:List Nat).erase 10=[]from rfl];refine bC ?_;go_wp2_with fail;go_meet;exact HEND.out
       ·exact aG (by kernel_rfl) hbA
      ·exact aG (by kernel_rfl) hbA
      ·exact aG (by kernel_rfl) hbA
     ·exact aG (by kernel_rfl) hbA
    ·exact aG (by kernel_rfl) hbA
    ·exact aG (by kernel_rfl) hbA
   case rest=>
   clear kn k7 km kp9 kl hwr HLK HEN m5;obtain⟨⟨es2,cl2,km,HM2⟩,k7,kn,kp9,hm2⟩:=hcut;have HM3:Hid (put k (qn||b1) (howL (l.take i))=howL (l.take (i+1))):=Hi (by
    rw[HT1.out,gZ];unfold CS;rw[HQ.out])
   cases b1 with
   |false=>
    go_wp2_with fail;go_roundw
    case rel=>exact⟨i+1,by omega,by go_num,⟨_,_,km,Hi (by rw[←HM3.out,Bool.or_false];exact HM2.out)⟩,hm2⟩
    case measure=>simp[intOf];omega
   |true=>
    go_upto_region 12 with fail;have Lkn:=aA kn;have Lk7:=aA k7;have Lkp9:=aA kp9;have Lkm:=aA km;refine ZP [1,0,0,1,0,1,5] ?_
    iterate 6 first|refine Zd ?_|refine Zv ?_
    refine Zi fun wE hr=> ?_;replace kn:=hr.mod.at0 kn;replace k7:=hr.mod.at0 k7;replace kp9:=hr.mod.at0 kp9;replace km:=hr.mod.at0 km;have mE:=hr.mod;obtain⟨es49,cl49,hrun49,Mkm⟩:=HM2.out.update keyT Tryz.underlying161 wE km k true;refine ZV (hrun49) ?_;refine ZN km fun w6 km mS=> ?_;(try simp only[Array.setIfInBounds,zL]at km);replace kn:=mS.at_ne kn (by omega);replace k7:=mS.at_ne k7 (by omega);replace kp9:=mS.at_ne kp9 (by omega);have m6:=(hm2.then0 mE).then mS (fun _ _ h=>h);have HMk:=Hi Mkm;clear Mkm mE mS hr;go_wp2_with fail;go_roundw
    case rel=>exact⟨i+1,by omega,by go_num,⟨_,_,km,Hi (by have h1:=HMk.out;have h2:=HM3.out;rw[Bool.or_true]at h2;rw[←h2];rw[sC]at h1;exact h1)⟩,m6⟩
    case measure=>simp[intOf];omega
  ·obtain rfl:i=l.length:=by omega
   rw[aY5]at HM;go_upto_region 14 with fail;have Lkn:=aA kn;have Lk7:=aA k7;have Lkm:=aA km;refine ZP0 [3,4] ?_;refine Za RV fun p10 hp10=> ?_;refine Zt ?_;refine TD.nil (fun w5 hr=> ?_);replace kn:=hr.q kn;replace k7:=hr.q k7;replace km:=hr.q km;obtain⟨gp10,kp10⟩:=hr.b p10;have m5:=hr.mod;clear hr;have hrg:=run_range_map (P:=Tryz.prog) w5 161 107 3 n es1 cl1 Tryz.underlying161 km;go_wp2_with fail;obtain⟨w6,e6,r,hr6,kr,m6⟩:∃w6,w5.alloc (.mapIter (some n) cl1 #[] cl1)=w6∧∃r,w5.heap.size=r∧w6.heap[r]? =some (.mapIter (some n) cl1 #[] cl1)∧Mod (fun _=>False) w5 w6:=⟨_,rfl,_,rfl,heap_alloc_new _ _,(Mod.refl _ _).alloc _⟩;rw[e6,hr6];have hT1:∀i,n≤i→tag i=none:=fun i hi=>by
    cases e:tag i with
    |none=>rfl
    |some p=>
     have:=HT.out i (HO.out i (by rw[e];simp));omega
   have I:=HI.out;have hTg:T g:=HO.out g (by rw[HH.out.tg];simp);have hmW:Mod (fun i=>i=g) w2 w6:=(((m4.then hm (fun i hi e=>by omega)).then0 m5).then0 m6);have hLa:∀b∈L,T b.a:=fun b hb=>HO.out b.a (by rw[(HH.out.nodes b.a (aZj.2 ⟨b,hb,rfl⟩)).ta];simp);have hax:∀b∈L,b.a≠n+1:=fun b hb e=>by
    have:=HT.out b.a (hLa b hb);omega
   have kg6:=m6.at0 (m5.at0 (hm.at HG.out (by omega)));have kn6:=m6.at0 kn;have k76:=m6.at0 k7;have km6:=m6.at0 km;have kl6:=m6.at0 kp10;have hr5:n<r:=by
    have:=aA km;omega
   have hp5:n+1+1<p10:=by
    have:=aA k7;omega
   have L6:=m6.size;have Lr:=aA kr;have Lp:=aA kl6;have hF:KF T n w2 L ⟨n+1,id,eU (L.map An.cn) id (howL l),q,howL l⟩ n nd (n+1+1) p10 r es1 cl1:=by
    refine⟨⟨hax,fun b hb c hc e=>I.ainj hc hb e,fun b hb=>I.nds b hb,fun b hb=> ?_,fun b hb=> ?_,?_⟩,HM.out,hbn,by omega,by omega,by omega,aZq _,?_,?_⟩
    ·have:=I.ptu b hb;omega
    ·have:=I.nxl b hb;omega
    ·have:=I.Llen;omega
    ·have:=wF l;dsimp only;omega
    ·have:=I.Llen;omega
   have hK:KI T n w2 g nb sb q L ⟨n+1,id,eU (L.map An.cn) id (howL l),q,howL l⟩ n N nd (n+1+1) p10 r es1 cl1 [] (howL l) S sp (fun i=>if i=n then some (n+1,1)else if i=n+1 then some (n+1,0)else tag i) (fJ nd (n+1) ⟨id,id,q,0,.slice none 0 0,[],n,howL l⟩) [] w6:=by
    have ht:∀i,i<w2.heap.size→(if i=n then some (n+1,1)else if i=n+1 then some (n+1,0)else tag i)=tag i:=fun i hi=>by
     rw[if_neg (by omega),if_neg (by omega)]
    have htn:∀i,n+1<i→(if i=n then some (n+1,1)else if i=n+1 then some (n+1,0)else tag i)=none:=fun i hi=>by
     rw[if_neg (by omega),if_neg (by omega)];exact hT1 i (by omega)
    refine⟨⟨?_,⟨fun b hb=>⟨(nd b.a).nv,?_⟩,?_⟩,k76,kl6,fun i hi=> ?_,htn _ (by omega),htn _ (by omega)⟩,⟨I.sn,fun k ⟨h,hh⟩=>(by cases hh),fun k _=>I.sps k⟩,cZ.start HM.out kr,km6,by simp,eI.nil _ _,hmW.mono (fun i _ e=>by rw[e];exact hTg),fun i hi=> ?_,htn _ ?_⟩
    ·refine HH.out.put0 hmW kg6 ht ?_ (fun c hc=> ?_)
     ·rw[upd_same];exact⟨kn6,aE.nil _ _,⟨es1,cl1,km6,HM.out⟩,by simp,by simp,fun g hg=>by cases hg⟩
     ·obtain⟨b,hb,rfl⟩:=aZj.1 hc;exact dG _ _ (hax b hb)
    ·rw[dG _ _ (hax b hb)];simp[dX]
    ·rw[upd_same];rfl
    ·by_cases h1:i=n
     ·omega
     ·by_cases h2:i=n+1
      ·omega
      ·rw[if_neg h1,if_neg h2]at hi;have:=HT.out i (HO.out i hi);omega
    ·by_cases h1:i=n
     ·omega
     ·by_cases h2:i=n+1
      ·omega
      ·rw[if_neg h1,if_neg h2]at hi;exact .inl (HO.out i hi)
    ·have:=aA k76;have:=aA k7;omega
   have HF:=Hi hF;have HK:=Hi hK;clear hF hK kg6 kn6 k76 km6 kl6 hmW kn k7 km kp10 kr m4 m5 m6 hm hax hLa hT1;refine O7 HF.out (by omega) ⟨rfl,rfl,rfl,rfl,rfl,rfl⟩ ⟨_,_,_,_,_,_,HK.out⟩ (fun c a w h=>hP c a w h) (fun⟨a,w,h⟩=>hLo ⟨a,w,h⟩) ?_;intro D S' sp' tag' nd' a' W' hf K;obtain⟨t,ds⟩:=a';obtain⟨f0,f1,f2,f3,f4,f5⟩:=hf;dsimp only at f0 f1 f2 f3 f4 f5 K;obtain⟨u,hu,e⟩:=xX t f0;rw[hu]at f1 f2 f3 f4 f5;rw[f1,f2,f3,f4,f5]at e;subst e;have kg:=K.ei.mem.c;have k7:=K.ei.k7;obtain⟨es3,cl3,knb,hMN⟩:=K.ei.mem.kn;have HMN:=Hi hMN;have HKK:=Hi K;have n7:n+1+1≠nb:=aB k7 knb (by simp);have ng:g≠nb:=aB kg knb (by simp);have HIq:=Hi I;clear K hMN I f0 f1 f2 f3 f4 f5 hu;go_upto_region 32 with fail;have Lkg:=aA kg;have Lk7:=aA k7;have Lknb:=aA knb;refine ZP [0,0,0,1,0,1,5] ?_
   iterate 6 first|refine Zv ?_|refine Zd ?_
   refine Zi fun wE hr=> ?_;replace kg:=hr.mod.at0 kg;replace k7:=hr.mod.at0 k7;replace knb:=hr.mod.at0 knb;have mE:=hr.mod;obtain⟨es58,cl58,hrun58,Mknb⟩:=HMN.out.update F4 Tryz.underlying179 wE knb id (n+1);refine ZV (hrun58) ?_;refine ZN knb fun w9 knb mS=> ?_;(try simp only[Array.setIfInBounds,zL]at knb);replace kg:=mS.at_ne kg (by omega);replace k7:=mS.at_ne k7 (by omega);have m9:Mod (fun i=>i=nb) W' w9:=(mE.mono (fun _ _ h=>h.elim)).then mS (fun _ _ h=>h);have HMk:=Hi Mknb;clear mE mS hr Mknb;go_wp2_with fail;rw[←HQ1.out];refine⟨by simp,by simp,?_⟩;rw[←HQ0.out];have K:=HKK.out;have hTnb:T nb:=HO.out nb (by rw[HH.out.tnb];simp);have hTsb:T sb:=HO.out sb (by rw[HH.out.tsb];simp);have lnb:=HT.out nb hTnb;have lsb:=HT.out sb hTsb;have km9:w9.heap[n]? =some (.map es1 cl1):=m9.at K.km (by omega);refine tT (n:=n) ds w9 (K.mks.mod m9 (fun i hi e=> ?_)) (fun w' hm'=>⟨_,results_tmp rfl _ _ _,rfl,fun i=>tag' i≠none,⟨tag',nb,sb,L++[⟨n+1,id,eU (L.map An.cn) id (howL l),q,howL l⟩],put id (n+1) N,S',nd',sp',?_,?_,?_,fun i hi=>hi⟩,?_,K.ow,fun i hi=> ?_⟩)
   ·obtain⟨_,_,h1,_⟩:=K.ei.mem.kn;rw[e,h1]at hi;cases hi
   ·rw[List.map_append];have h1:=K.ei.mem.ids m9 ⟨_,_,knb,HMk.out⟩;refine h1.turn (B:=n+1) hm' (fun i hi=>⟨?_,fun cs T h=> ?_⟩) (by omega) (by omega) (fun c hc=> ?_)
    ·have:i≠n:=fun e=>by
      rw[e,km9]at hi;cases hi.2
     have:=hi.1;omega
    ·rw[hi.2]at h;cases h
    ·rw[K.ei.kbs c hc];by_cases e:c=n+1
     ·rw[if_pos e];omega
     ·rw[if_neg e];have hcL:c∈L.map An.a:=by
       rcases aZh.1 hc with h|h
       ·exact h
       ·exact absurd (aZm.1 h) e
      have h2:=(HH.out.nodes c hcL).tk;have:=HT.out _ (HO.out (nd c).kb (by rw[h2];simp));omega
   ·have hlen:=wF l;exact HIq.out.put hq HF.out.pf.ha HN.out HM.out.nodup (by omega) (by simpa using K.pm) K.ei.ndp K.spp
   ·rw[List.map_append];rfl
   ·refine((K.fr.then m9 (fun i hi e=>by rw[e];exact hTnb))).then hm' (fun i hi e=> ?_);have:=e.1;omega
   ·exact aZd (K.ei.hlt i hi) (aYb m9.size hm'.size)
end
section
def o0 (x y:Cn):Prop:=∃k,jG k (x.how k) (y.how k)
theorem o0.symm {x y:Cn} (h:o0 x y):o0 y x:=h.imp fun _=>rY
theorem AN {x:An} (hn:(x.ks.map Prod.fst).Nodup) {p:aQ×Bool} (h:p∈x.ks):x.how p.1=some p.2:=dP hn h
theorem fI {X:List An} {x:An} (hn:(x.ks.map Prod.fst).Nodup):dX X x.ks=[]↔∀y∈X,¬o0 y.cn x.cn:=by
 constructor
 ·rintro h y hy ⟨k,hk⟩
  have:∃h',x.how k=some h':=by
   cases e:x.how k with
   |none=>
    unfold An.cn at hk;dsimp only at hk;rw[e]at hk;unfold jG at hk;cases hy':y.how k<;>rw[hy']at hk<;>exact hk.elim
   |some h'=>exact⟨h',rfl⟩
  obtain⟨h',e⟩:=this;refine BL (p:=(k,h')) hy (dD e) ?_ h;have hk2:jG k (y.how k) (x.how k):=hk;rwa[e]at hk2
 ·intro h;cases e:dX X x.ks with
  |nil=>rfl
  |cons b r=>
   obtain⟨h1,p,hp,hh⟩:=jU (show b∈dX X x.ks by rw[e];simp);exact absurd ⟨p.1,by have:=AN hn hp;unfold An.cn;dsimp only;rw[this];exact hh⟩ (h b h1)
theorem vU {κ ν:Type} [DecidableEq κ] {k:κ} {v:ν}:∀ {m:List (κ×ν)},(m.map Prod.fst).Nodup→(k,v)∈m→m.Perm ((k,v)::del k m)
 |[],_,h=>by cases h
 |p::r,hn,h=>by
  rw[aZo,aYc]at hn;rcases aZc.1 h with rfl|h
  ·simp[del]
  ·have hpk:p.1≠k:=fun e=>hn.1 (e▸aZj.2 ⟨_,h,rfl⟩);rw[del,if_neg hpk];exact((vU hn.2 h).cons p).trans (List.Perm.swap _ _ _)
theorem app_split {α:Type}:∀ {X Y X' Y':List α} {x:α},X++Y=X'++x::Y'→(∃Z,X=X'++x::Z∧Y'=Z++Y)∨∃Z,X'=X++Z∧Y=Z++x::Y'
 |[],Y,X',Y',x,h=> .inr ⟨X',rfl,h⟩
 |a::X,Y,[],Y',x,h=>by
  simp at h;exact .inl ⟨X,by rw[h.1];rfl,h.2.symm⟩
 |a::X,Y,b::X',Y',x,h=>by
  simp only[aYg,List.cons.injEq]at h;rcases app_split h.2 with⟨Z,h1,h2⟩|⟨Z,h1,h2⟩
  ·exact .inl ⟨Z,by rw[h.1,h1];rfl,h2⟩
  ·exact .inr ⟨Z,by rw[h.1,h1];rfl,h2⟩
theorem qZ {l:List An} {p:An}:(l.filter fun x=>decide (x≠p)).length=l.length-l.count p:=by
 induction l with
 |nil=>rfl
 |cons x r ih=>
  have hc:=aWg (a:=p) (l:=r);rw[aWr];by_cases h:x=p
  ·rw[if_neg (by simp[h]),ih,aZu,h,List.count_cons_self];omega
  ·rw[if_pos (by simp[h]),aZu,ih,aZu,List.count_cons_of_ne h];omega
theorem nW {α:Type} [DecidableEq α] {l:List α} {p:α} (h:∀y∈l,y≠p):l.filter (fun y=>decide (y≠p))=l:=aX1.2 fun y hy=>Dt (h y hy)
theorem oG {l:List An} {p b:An} (h:b≠p):(l.filter fun x=>decide (x≠p)).count b=l.count b:=by
 induction l with
 |nil=>rfl
 |cons x r ih=>
  rw[aWr];by_cases hx:x=p
  ·rw[if_neg (by simp[hx]),ih,hx,List.count_cons_of_ne (Ne.symm h)]
  ·rw[if_pos (by simp[hx]),List.count_cons,List.count_cons,ih]
def FT (a:Nat) (s:Sr) (s':Sr):Prop:=s'.wr=(if s.wr=some a then none else s.wr)∧s'.rs=s.rs.filter fun y=>decide (y≠a)
section
variable {q:Nat} {X Y:List An} {p:An} {N:List (Int64×Nat)} {S:List (aQ×Nat)} {nd nd':Nat→Nr} {sp sp':Nat→Sr}
theorem eH.notin (I:eH q (X++p::Y) N S nd sp):p∉X∧p∉Y:=by
 have h:=I.ad;rw[List.map_append,aZo,aZ7,aYc]at h;exact⟨fun hp=>h.2.2 p.a (aZj.2 ⟨p,hp,rfl⟩) p.a (by simp) rfl,fun hp=>h.2.1.1 (aZj.2 ⟨p,hp,rfl⟩)⟩
theorem tW {x:An} (h:x∈X++Y):x∈X++p::Y:=by
 rcases aZh.1 h with h|h
 ·exact aZl _ h
 ·exact aYi _ (aZp _ h)
def RL (L:List An) (p:An) (nd nd':Nat→Nr):Prop:=∀c∈L,nd' c.a= {nd c.a with wt:=(nd c.a).wt-(nd p.a).nx.count c.a}
def ML (p:An) (S:List (aQ×Nat)) (sp sp':Nat→Sr):Prop:=∀k s,lkp k S=some s→((∃h,(k,h)∈p.ks)→FT p.a (sp s) (sp' s))∧((∀h,(k,h)∉p.ks)→sp' s=sp s)
theorem eH.pop (I:eH q (X++p::Y) N S nd sp) (hN:(N.map Prod.fst).Nodup) (h0:dX X p.ks=[]) (hnd:RL (X++Y) p nd nd') (hsp:ML p S sp sp'):eH q (X++Y) (del p.id N) S nd' sp':=by
 obtain⟨hp1,hp2⟩:=I.notin;have hpn:=I.kn p (by simp);have hne:∀ {b},b∈X++Y→b≠p:=fun h e=>by
  subst e;rcases aZh.1 h with h|h
  ·exact hp1 h
  ·exact hp2 h
 have hc:∀k,p.how k=some true→∀x∈X,x.how k=none:=fun k hk x hx=>by
  cases e:x.how k with
  |none=>rfl
  |some b=>exact absurd h0 (BL (p:=(k,true)) hx (dD hk) (by rw[e];exact .inr rfl))
 have hsub:((X++Y).map An.a).Sublist ((X++p::Y).map An.a):=((aYk p Y).append_left X).map _;have hsub2:((X++Y).map An.pt).Sublist ((X++p::Y).map An.pt):=((aYk p Y).append_left X).map _;have hmem:∀ {x},x∈X++Y→x∈X++p::Y:=fun h=>tW h
 --the two decompositions
 have hdec:∀X' x Y',X++Y=X'++x::Y'→∃X2 Y2,X++p::Y=X2++x::Y2∧dX X' x.ks=(dX X2 x.ks).filter fun y=>decide (y≠p):=by
  intro X' x Y' h;rcases app_split h with⟨Z,h1,h2⟩|⟨Z,h1,h2⟩
  ·refine⟨X',Z++p::Y,by rw[h1];simp,?_⟩;exact(nW (fun y hy e=>hp1 (by
    rw[←e,h1];exact aZl _ (jU hy).1))).symm
  ·refine⟨X++p::Z,Y',by rw[h2];simp,?_⟩;rw[h1];exact DQ hp1 (fun h=>hp2 (by rw[h2];exact aZl _ h)) hc
 refine⟨?_,I.ad.sublist hsub,I.pts.sublist hsub2,fun x hx=>I.ptu x (hmem hx),I.pub,fun x hx=>I.kl x (hmem hx),fun b hb=> ?_,fun x hx=> ?_,fun x hx=>I.kn x (hmem hx),I.sn,fun k=> ?_,fun X' x Y' h=> ?_,fun X' x Y' h b hb=> ?_,fun b hb y hy=> ?_⟩
 ·have h1:(p.id,p.a)∈N:=I.N.mem_iff.2 (aZj.2 ⟨p,by simp,rfl⟩);have h2:=(vU hN h1).symm.trans I.N;refine List.Perm.cons_inv (a:=(p.id,p.a)) (h2.trans ?_);rw[List.map_append,aZo,List.map_append];exact List.perm_middle
 ·rw[hnd b hb];exact I.nxl b (hmem hb)
 ·rw[hnd x hx];exact I.nds x (hmem hx)
 ·rw[nZ hp1 (hc k) Y hp2];obtain⟨h1,h2⟩:=I.sps k;refine⟨fun s hs=> ?_,fun hs=>by rw[h2 hs];rfl⟩;have h3:=h1 s hs;have hw:∀x,(spotOf k (X++p::Y)).1=some x→x∈X++p::Y∧x.how k=some true:=fun x hx=>spotOf_writer hx;have hr:∀x,x∈(spotOf k (X++p::Y)).2→x∈X++p::Y∧x.how k=some false:=fun x hx=>dI hx;have hia:∀x,x∈X++p::Y→(x.a=p.a↔x=p):=fun x hx=>⟨fun e=>I.ainj hx (by simp) e,fun e=>by rw[e]⟩;by_cases hk:∃h,(k,h)∈p.ks
  ·obtain⟨g1,g2⟩:=(hsp k s hs).1 hk;refine⟨?_,?_⟩
   ·rw[g1,h3.1];cases e:(spotOf k (X++p::Y)).1 with
    |none=>simp[Option.filter]
    |some x=>
     have:=hia x (hw x e).1;by_cases ex:x=p
     ·simp[Option.filter,ex]
     ·have:¬x.a=p.a:=fun h=>ex (this.1 h);simp[Option.filter,ex,this]
   ·rw[g2,h3.2,List.filter_map];congr 1;refine List.filter_congr fun x hx=> ?_;have:=hia x (hr x hx).1;simp[this]
  ·have hk':∀h,(k,h)∉p.ks:=fun h hh=>hk ⟨h,hh⟩;have hpk:∀b,p.how k≠some b:=fun b e=>hk ⟨b,dD e⟩;rw[(hsp k s hs).2 hk'];refine⟨?_,?_⟩
   ·rw[h3.1];cases e:(spotOf k (X++p::Y)).1 with
    |none=>rfl
    |some x=>
     have:x≠p:=fun e2=>hpk true (e2▸(hw x e).2);simp[Option.filter,this]
   ·rw[h3.2];exact congrArg (List.map An.a) (nW (p:=p) (fun x hx e2=>hpk false (by rw[←e2];exact(hr x hx).2))).symm
 ·obtain⟨X2,Y2,h1,h2⟩:=hdec X' x Y' h;have hx:x∈X++Y:=by rw[h];simp
  rw[hnd x hx,h2,qZ];dsimp only;rw[I.wts X2 x Y2 h1,I.nxs X2 x Y2 h1 p (by simp)]
 ·obtain⟨X2,Y2,h1,h2⟩:=hdec X' x Y' h;rw[hnd b hb,h2,oG (hne hb)];exact I.nxs X2 x Y2 h1 b (hmem hb)
 ·rw[hnd b hb]at hy;obtain⟨x,hx,e⟩:=I.nxm b (hmem hb) y hy;refine⟨x,?_,e⟩;have hxp:x≠p:=fun e2=>by
   have h1:=I.nxs X p Y rfl b (hmem hb);rw[h0,List.count_nil,List.count_eq_zero]at h1;exact h1 (by rw[←e2,e];exact hy)
  rcases aZh.1 hx with h|h
  ·exact aZl _ h
  ·rcases aZc.1 h with h|h
   ·exact absurd h hxp
   ·exact aYi _ h
end
end
section
open Go.RowKit Go.Shelf
attribute [local go_sem] Oper.semAt_some
theorem cZ.walks {κ ν:Type} {f:κ→Value} {g:ν→Value} {w w':World} {r b:Nat} {es:Array MapEntry} {clock:Nat} {rem:List (κ×ν)} (h:cZ w r b f g es clock rem) (hk:KeepsWalks w w'):cZ w' r b f g es clock rem:=by
 obtain⟨since,seen,c0,h1,h2,h3,h4,h5⟩:=h;exact⟨since,seen,c0,hk.same _ _ h1 rfl,h2,h3,h4,h5⟩
theorem tH {r:Nat} {w w':World} (h:Mod (fun i=>i=r) w w'):w.grownBy w' (some r):=⟨h.os,h.tape,h.output,h.size,fun k hk hne=>h.block k hk (fun e=>hne (by rw[e]))⟩
theorem xK (n l Bs nb c:Nat) (es:Array MapEntry) (N:List (Int64×Nat)) (M:aR tK ptrV es c N) (J Jx:List Nat→World→Prop)
  (hY:∀pre x W,J pre W→pre.length<N.length→YieldAt Fence.wide n Tryz.prog l #[ptrV x] W fun e W'=>
   (e= .returned (.bool true)∧J (pre++[x]) W'∧KeepsWalks W W')∨(e= .returned (.bool false)∧Jx (pre++[x]) W'))
  (W:World) (hJ:AbidesFrom W.heap.size J) (hBs:W.cell? ⟨Bs,0,none⟩=some (.map (some nb))) (kb:W.heap[nb]? =some (.map es c)) (h0:J [] W):
  CallsIn Fence.wide (n+1) Tryz.prog 143 #[.func (.yield l) #[] #[],.pointer (some ⟨Bs,0,none⟩)] W fun e W'=>(∃v,e= .returned v)∧
   ((∃ys:List Nat,ys.Perm (N.map Prod.snd)∧J ys W')∨(∃pre,True∧Jx pre W')):=by
 refine callsIn_of_wp Tryz.func143 rfl trivial ?_ rfl;simp only[Tryz.ntmps143,aYs,aZu,aYw,Nat.reduceAdd,Nat.reduceSub,aXd,aXc,aXo,aXj,aYq,aYg];have hrg:=run_range_map (P:=Tryz.prog) W 179 3 238 nb es c Tryz.underlying179 kb;have HM:=Hi M;have HJ:=Hi hJ;have HY:=Hi hY;have HK:=Hi kb;clear M hJ hY kb
 gi_wp2
 obtain⟨W1,e1,r,hr1,kr,m1⟩:∃W1,W.alloc (.mapIter (some nb) c #[] c)=W1∧∃r,W.heap.size=r∧W1.heap[r]? =some (.mapIter (some nb) c #[] c)∧Mod (fun _=>False) W W1:=⟨_,rfl,_,rfl,heap_alloc_new _ _,(Mod.refl _ _).alloc _⟩;have hJ1:J [] W1:=by
  rw[←e1];exact HJ.out [] W _ none h0 (World.grownBy_alloc W _ none) (fun r e=>by cases e)
 rw[e1,hr1];have kb1:=m1.at0 HK.out;have hit:=cZ.start HM.out kr;have HR:=Hi hr1;clear hrg kr m1 e1 hr1
 gi_loopw [7] (fun _ wr=>∃(ys:List Nat) (rem:List (Int64×Nat)),Hid ((ys++rem.map Prod.snd).Perm (N.map Prod.snd))∧cZ wr r nb tK ptrV es c rem∧wr.heap[nb]? =some (.map es c)∧J ys wr) (fun _ wr=>leftN wr r nb)
 case atStart=>exact⟨[],N,Hi (by simp),hit,kb1,hJ1⟩
 case round=>
  clear hit kb1 hJ1 h0;obtain⟨ys,rem,HP,hit,kb,hJs⟩:=hrel;have hmeas:=hit.leftN kb;have HL:=Hi hmeas;clear hmeas;obtain⟨s1,s2,s3,k0,_⟩:=id hit;rcases hit.next (P:=Tryz.prog) HM.out kb 0 with⟨rfl,hrun⟩|⟨z,rem',w3,it,hperm,hrun,kr3,m3,kb3,hent⟩
  ·clear hit k0
   gi_wp2
   go_end0;exact⟨⟨_,rfl⟩,.inl ⟨ys,by simpa using HP.out,hJs⟩⟩
  ·obtain⟨k,y⟩:=z;have hJ2:J ys w3:=HJ.out ys wr w3 (some r) hJs (tH m3) (fun r' e=>by
    cases e;exact⟨by rw[HR.out];exact aZq _,_,k0,rfl⟩)
   have hlen:ys.length<N.length:=by
    have h1:=HP.out.length_eq;have h2:=hperm.length_eq;simp only[aZg,aZs,aZu]at h1 h2;omega
   have hent2:=(hent w3 kr3 kb3).1;have hwk:it.isWalk=true:=by
    obtain⟨_,_,_,h1,_⟩:=(hent w3 kr3 kb3).2;rw[kr3]at h1;cases h1;rfl
   have HWK:=Hi hwk;have HEn:=Hi hent;clear hwk;have HPM:=Hi hperm;obtain⟨fn,tmps,assign,body,hy,hR⟩:=HY.out ys y w3 hJ2 hlen;clear hit k0 m3 hent hperm hJs hJ2
   gi_wp2
   refine hR.mono ?_;rintro e W3 (⟨rfl,hJ3,hk3⟩|⟨rfl,hJx3⟩)
   ·have kr4:=hk3.same r it kr3 HWK.out;have kb4:=hk3.same nb _ kb3 rfl;have hit4:=(HEn.out W3 kr4 kb4).2;have HI4:=Hi hit4;have hms:leftN W3 r nb<leftN wr r nb:=by
     rw[HI4.out.leftN kb4,HL.out,HPM.out.length_eq];simp
    have HMS:=Hi hms;clear hit4 hms
    gi_wp2
    go_roundw
    case rel=>
     refine⟨ys++[y],rem',Hi ?_,HI4.out,kb4,hJ3⟩;refine .trans ?_ HP.out;rw[aZw];exact((HPM.out.map Prod.snd).symm).append_left ys
    case measure=>exact HMS.out
   ·gi_wp2
    refine bodyPost_ret (results_none rfl _ _ _) rfl ?_;exact⟨⟨_,rfl⟩,.inr ⟨_,trivial,hJx3⟩⟩
abbrev BQ (Bs:Nat):Value:= .func (.func 143) #[] #[.pointer (some ⟨Bs,0,none⟩)]
theorem values_cG (nb:Nat) (w:World):
  Calls Tryz.prog 105 #[.map (some nb)] w fun e w'=>e= .returned (BQ w.heap.size)∧w'=w.alloc (.cells #[.map (some nb)] 179):=by
 go_enter Tryz.func105,Tryz.ntmps105;go_wp2_with fail;go_ret;exact⟨rfl,rfl⟩
theorem rG (n Bs nb c:Nat) (es:Array MapEntry) (N:List (Int64×Nat)) (M:aR tK ptrV es c N) (w:World) (hBs:w.heap[Bs]? =some (.cells #[.map (some nb)] 179 (0,0))) (kb:w.heap[nb]? =some (.map es c)):
  SeqStopsK Fence.wide (n+1) Tryz.prog 143 #[.pointer (some ⟨Bs,0,none⟩)] (fun x:Nat=> #[ptrV x]) KeepsWalks (fun ys=>ys.Perm (N.map Prod.snd)) (fun _=>True) N.length w:=fun l J Jx W hW hJ _ hY h0=>by
 have h1:W.heap[Bs]? =some (.cells #[.map (some nb)] 179 (0,0)):=(hW.block Bs (aA hBs)).trans hBs;exact xK n l Bs nb c es N M J Jx hY W hJ (by rw[aH,h1];rfl) ((hW.block nb (aA kb)).trans kb) h0
theorem O5:(Tryz.prog.info? 238).map (fun i=>(i.zero,i.size,i.bytes))=some (some (.pointer none),1,8):=by kernel_rfl
theorem vL (Bs nb c:Nat) (es:Array MapEntry) (N:List (Int64×Nat)) (M:aR tK ptrV es c N) (hlen:N.length≤900000) (w:World) (hBs:w.heap[Bs]? =some (.cells #[.map (some nb)] 179 (0,0))) (kb:w.heap[nb]? =some (.map es c)):
  Calls Tryz.prog 159 #[.slice none 0 0,BQ Bs] w fun e W'=>∃v ys,ys.Perm (N.map Prod.snd)∧e= .returned v∧aE pc 1 238 W' w.heap.size v ys∧Mod (fun _=>False) w W':=by
 obtain⟨i0,hi,hz0,hz1,hz2⟩:=info_parts O5;refine callsIn_wide.1 (callsIn_of_wp_marks (n:=2) Tryz.func159 rfl trivial ?_ rfl);simp only[Tryz.ntmps159,aYs,aZu,aYw,Nat.reduceAdd,Nat.reduceSub,aXd,aXc,aXo,aXj,aYq,aYg]
 gi_wp2
 have bO:=Boxed.new w 236 (.slice none 0 0);have hB0:Below w.heap.size w (w.alloc (.cells #[.slice none 0 0] 236)):=(Below.refl _ w).alloc (aZq _) _;have hm0:Mod (fun _=>False) w (w.alloc (.cells #[.slice none 0 0] 236)):=(Mod.refl _ _).alloc _;refine wpIn_rangeFunc_ownG rfl (by omega) (gf:=143) (lb:= #[.pointer (some ⟨Bs,0,none⟩)]) rfl trivial (enters_of Tryz.func143 (by kernel_rfl) rfl)
  (rG 0 Bs nb c es N M _ (hm0.at0 hBs) (hm0.at0 kb)) walksK_t walksK_b (Below.refl _ _) (fun _=>rfl)
  (fun pre W=>(∃v,Boxed W w.heap.size 236 v∧W.ownsRow w.heap.size 238 1 v pre.length (pre.map ptrV)∧(v= .slice none 0 0↔pre=[]))∧Below w.heap.size w W)
  (fun _ _ _=>False)
  (OwnFrom.and (Own.from (holdsRow_own w.heap.size w.heap.size 236 238 1 (fun pre=>pre.length) (fun pre=>pre.map ptrV) (fun pre v=>v= .slice none 0 0↔pre=[])) _) (ownFrom_below (aZq _) (by simp)))
  (fun _ _ _ _ _ hs _ _=>hs)
  ⟨⟨_,bO,World.ownsRow_nil _ _ _ _,by simp⟩,hB0⟩
  (fun x=> {tmps:= #[.slice none 0 0,.func (.func 143) #[] #[.pointer (some ⟨Bs,0,none⟩)],.pointer (some ⟨w.heap.size,0,none⟩),undef,.slice none 0 0,ptrV x,.func (.func 143) #[] #[.pointer (some ⟨Bs,0,none⟩)],ptrV x,undef,undef,undef,undef,undef],defers:=[]}) ?assign ?body ?done ?stop
 case assign=>
  intro l x W K hK
  gi_wp2
  exact hK
 case body=>
  rintro l pre x W ⟨⟨v,hv,hrow,hnil⟩,hB⟩ hlt;have hc:=hv.cell
  gi_wp2_with (gi_at_builtin;refine wpListIn_append_own _ rfl _ _ 236 rfl w.heap.size 238 i0 (.pointer none) 1 8 Tryz.underlying236 hi hz0 hz1 hz2 rfl (by decide) _ _ _ rfl (hrow.alloc _) ⟨W.heap.size,0,none⟩ 1 1 [ptrV x] rfl rfl (cell_one_new _ _ _) (by simp[Value.oneCell']) (by simp[maxLen];omega) (by omega) (by have:=hB.size;simp;omega) ?_;intro v' w1 hown' hgrow _;obtain⟨g',cap',rfl⟩:=ownsRow_succ hown';obtain⟨hv1,hv2,hr2,hk2,hb2⟩:=hv.appended (by decide) hrow hB.size (aZq _) hown' hgrow;have hc1:=hv1.cell;have hf1:=hv1.frozen)
  exact⟨hk2.from _,hk2.walks,⟨_,hv2,by simpa using hr2,by simp⟩,hB.trans hb2⟩
 case done=>
  rintro D ys W hD hys ⟨⟨v,hv,hrow,hnil⟩,hB⟩ hK;have hc:=hv.cell;have HYS:=Hi hys;clear hys
  gi_wp2
  refine⟨by simp,.inl ⟨_,_,rfl,run_takeDeferred hK,?_⟩⟩;refine⟨_,results_tmp rfl _ _ _,v,ys,HYS.out,rfl,?_,Mod.of_below (hB.trans (belowK_b (w:=w) (aZq _) W D _ _ (by simp at hD;omega) hK rfl rfl)) _⟩;unfold aE;rw[bP];exact ownsRow_putObj hrow _ hK rfl
 case stop=>
  rintro D c pre W _ _ h _;exact h.elim
theorem x6 (Bs nb c:Nat) (es:Array MapEntry) (N:List (Int64×Nat)) (M:aR tK ptrV es c N) (hlen:N.length≤900000) (w:World) (hBs:w.heap[Bs]? =some (.cells #[.map (some nb)] 179 (0,0))) (kb:w.heap[nb]? =some (.map es c)):
  Calls Tryz.prog 141 #[BQ Bs] w fun e W'=>∃v ys,ys.Perm (N.map Prod.snd)∧e= .returned v∧aE pc 1 238 W' w.heap.size v ys∧Mod (fun _=>False) w W':=by
 have hcall:=vL Bs nb c es N M hlen w hBs kb;clear hBs kb M;go_enter Tryz.func141,Tryz.ntmps141;go_wp2_with fail;go_at_call 159;refine hcall.mono ?_;rintro e w2 ⟨v,ys,hp,rfl,h1,h2⟩;have HX:=Hi (Ai hp (Ai h1 h2));clear h1 h2 hp hcall;go_wp2_with fail;go_ret;exact⟨v,ys,HX.out.1,rfl,HX.out.2⟩
end
theorem ins_1G (s c:Value) (n:Nat) (hn:n≤1) (z:Value) (w:World):Calls Tryz.prog 176 #[s,.int .i64 0,.int .i64 (n:Int),c] w fun e w'=>e= .returned (.tuple #[])∧w'=w:=by
 go_enter Tryz.func176,Tryz.ntmps176;go_wp2_with fail;go_loopw [8] (fun s8 ws=>s8= .int .i64 1∧ws=w) (fun _ _=>0)
 case atStart=>exact⟨rfl,rfl⟩
 case round=>
  obtain⟨rfl,rfl⟩:=hrel;have hd:decide ((1:Int)<(n:Int))=false:=Df (by omega);go_wp2_with fail;go_end0;exact⟨rfl,rfl⟩
theorem pdq_1G (s c:Value) (n:Nat) (hn:n≤1) (z:Value) (w:World):Calls Tryz.prog 160 #[s,.int .i64 0,.int .i64 (n:Int),z,c] w fun e w'=>e= .returned (.tuple #[])∧w'=w:=by
 go_enter Tryz.func160,Tryz.ntmps160;go_wp2_with fail;go_loopw [1,2] (fun s1 s2 ws=>s1= .int .i64 0∧s2= .int .i64 (n:Int)∧ws=w) (fun _ _ _=>0)
 case atStart=>exact⟨rfl,rfl,rfl⟩
 case round=>
  obtain⟨rfl,rfl,rfl⟩:=hrel;have hw:IntKind.i64.wrap ((n:Int)-0)=(n:Int):=by
   rw[IntKind.wrap_i64];omega
  have hd:decide ((n:Int)≤12)=true:=Dt (by omega);go_wp2_with fail;go_at_call 176;refine(ins_1G _ _ n hn z _).mono ?_;rintro e w2 ⟨rfl,rfl⟩;go_wp2_with fail;exact bodyPost_ret (v:= .tuple #[]) (results_none rfl _ _ _) rfl ⟨rfl,rfl⟩
theorem LW (s c:Value) (a:Option Addr) (n cp:Nat) (hn:n≤1) (w:World):Calls Tryz.prog 142 #[.slice a n cp,c] w fun e w'=>e= .returned (.tuple #[])∧w'=w:=by
 go_enter Tryz.func142,Tryz.ntmps142;have hw:IntKind.u64.wrap (n:Int)=(n:Int):=by
  rw[IntKind.wrap_u64];omega
 go_wp2_with fail;go_at_call 157;refine(lenB_c n hn _).mono ?_;rintro e w2 ⟨⟨z,rfl⟩,rfl⟩;go_wp2_with fail;go_at_call 160;refine(pdq_1G _ _ n hn (.int .i64 z) _).mono ?_;rintro e w2 ⟨rfl,rfl⟩;go_wp2_with fail;go_end0;exact⟨rfl,rfl⟩
section
open Go.RowKit Go.Sort Go.Shelf
attribute [local go_sem] aH aC aN aK aP aF aO Value.cells
def nK (a b:Nat):Int:=if a<b then-1 else if b<a then 1 else 0
theorem oT (x y:Nat):decide (nK x y<0)=decide (x<y):=by
 unfold nK;by_cases h:x<y
 ·simp[h]
 ·by_cases h2:y<x<;>simp[h,h2]
theorem W5 {α:Type} (f:α→Nat):SWO (ltOf (fun x y:α=>nK (f x) (f y))) where
 irrefl x:=by show decide (nK _ _<0)=false;rw[oT];simp
 trans x y z h1 h2:=by
  change decide (nK _ _<0)=true at h1 h2⊢;rw[oT]at *;simp at *;omega
 ntrans x y z h1 h2:=by
  change decide (nK _ _<0)=false at h1 h2⊢;rw[oT]at *;simp at *;omega
theorem isNaN_c (a:Nat) (w:World):Calls Tryz.prog 144 #[.int .i64 (a:Int)] w fun e w'=>e= .returned (.bool false)∧w'=w:=by
 go_enter Tryz.func144,Tryz.ntmps144;go_wp2_with fail;go_ret;exact⟨by first|rfl|simp,rfl⟩
theorem CJ (a b:Nat) (w:World):Calls Tryz.prog 107 #[.int .i64 (a:Int),.int .i64 (b:Int)] w fun e w'=>e= .returned (.int .i64 (nK a b))∧w'=w:=by
 have HP:Hid (nK a b=if a<b then-1 else if b<a then 1 else 0):=Hi rfl;go_enter Tryz.func107,Tryz.ntmps107;go_wp2_with fail;go_at_call 144;refine(isNaN_c a w).mono ?_;rintro e w2 ⟨rfl,rfl⟩;go_wp2_with fail;go_at_call 144;refine(isNaN_c b _).mono ?_;rintro e w2 ⟨rfl,rfl⟩;by_cases h1:a<b
 ·have hd:=Dt h1;have H1:=Hi h1;clear h1;go_wp2_with fail;go_ret;exact⟨by rw[HP.out,if_pos H1.out];rfl,rfl⟩
 ·have hd:=Df h1;have H1:=Hi h1;clear h1;by_cases h2:b<a
  ·have hd2:=Dt h2;have H2:=Hi h2;clear h2;go_wp2_with fail;go_ret;exact⟨by rw[HP.out,if_neg H1.out,if_pos H2.out];rfl,rfl⟩
  ·have hd2:=Df h2;have H2:=Hi h2;clear h2;go_wp2_with fail;go_ret;exact⟨by rw[HP.out,if_neg H1.out,if_neg H2.out];rfl,rfl⟩
theorem IC (a b:Nat) (x y:Nr) (w:World) (ka:w.heap[a]? =some (.cells (JI x) 244 (0,0))) (kb:w.heap[b]? =some (.cells (JI y) 244 (0,0))):
  Calls Tryz.prog 106 #[ptrV a,ptrV b] w fun e w'=>e= .returned (.int .i64 (nK x.pt y.pt))∧∃q os,w'=grow (w.drewN q) os:=by
 have hc:∀m,Calls Tryz.prog 107 #[.int .i64 (x.pt:Int),.int .i64 (y.pt:Int)] (w.drewN m) fun e w'=>e= .returned (.int .i64 (nK x.pt y.pt))∧w'=w.drewN m:=fun m=>CJ x.pt y.pt _;have HC:=Hi hc;clear hc;go_enter Tryz.func106,Tryz.ntmps106;go_upto_region 1 with fail
 go_quiet ((go_at_call 107;exact Calls.quiet_of_same (HC.out _)))
 go_wp2_with fail;go_ret;exact⟨rfl,nq,#[],by simp[grow,World.drewN]⟩
def xQ (pt:Nat→Nat) (ys:List Nat):Prop:=∀(i j a b:Nat),i<j→ys[i]? =some a→ys[j]? =some b→¬pt b<pt a
theorem sortPtrsG {w:World} {base:Nat} {v:Value} {zs:List Nat} {pt:Nat→Nat} (hown:aE pc 1 238 w base v zs) (hz:zs.length≤900000) (hd:∀b∈zs,∃x:Nr,w.heap[b]? =some (.cells (JI x) 244 (0,0))∧x.pt=pt b):
  Calls Tryz.prog 142 #[v,.func (.func 106) #[] #[]] w fun e w'=>e= .returned (.tuple #[])∧∃ys,ys.Perm zs∧xQ pt ys∧aE pc 1 238 w' base v ys∧Mod (fun i=>v.ownBlock=some i) w w':=by
 by_cases hL:zs=[]
 ·subst hL;obtain⟨a,c,rfl,_⟩:=hown.at fF;refine(LW (.bool true) _ a 0 c (by omega) w).mono ?_;rintro e w' ⟨rfl,rfl⟩;exact⟨rfl,[],.refl _,fun i j a b _ h=>(by cases h),hown,Mod.refl _ _⟩
 ·obtain⟨g,cap,cur,rfl,_,kg,hcap,hcs,hcur,hback⟩:=iF hown hL;obtain⟨z0,hz0⟩:=List.exists_mem_of_ne_nil zs hL
  let α:= {b:Nat//b∈zs}
  haveI:Inhabited α:=⟨⟨z0,hz0⟩⟩
  let enc:α→Value:=fun x=>ptrV x.1
  let d:Array α:=zs.attach.toArray
  have hds:d.size=zs.length:=by show zs.attach.toArray.size=_;rw[aYs,List.length_attach]
  have hdl:∀i (hi:i<d.size),(d[i]!).1=zs[i]'(by omega):=fun i hi=>by
   rw[getElem!_pos d i hi];show(zs.attach.toArray[i]'(hi)).1=_;rw[List.getElem_toArray];exact congrArg Subtype.val (List.getElem_attach _)
  have hH:Holds enc w g 0 d:=fun j hj=>by
   rw[aXe,aH,aC,kg];refine⟨?_,by simp⟩;show cur[j]? =some (ptrV (d[j]!).1);rw[hdl j hj];exact hcur j _ (aZb (by omega))
  have eg:∀args w,(callFunc 106 args).run Tryz.prog w= .ok (.enter 106 args) w:=enters_of Tryz.func106 (by kernel_rfl) rfl;have hcall:=Any.slices_SortFunc Tryz.sortG enc (fun _=>rfl) (fun x y:α=>nK (pt x.1) (pt y.1)) (W5 (fun x:α=>pt x.1)) 106 #[] g 0 cap d w eg (fun m os dk hs x y=>by
   have hm:=(eN (d:=dk) (n:=m) (os:=os) enc kg).2;obtain⟨xr,kx,ex⟩:=hd x.1 x.2;obtain⟨yr,ky,ey⟩:=hd y.1 y.2;show Calls _ _ #[ptrV x.1,ptrV y.1] _ fun e w'=>e= .returned (.int .i64 (nK (pt x.1) (pt y.1)))∧_;rw[←ex,←ey];exact IC x.1 y.1 xr yr _ (hm.at kx (aB kx kg (aM (by decide)))) (hm.at ky (aB ky kg (aM (by decide))))) hH (aA kg) (by omega)
  rw[hds]at hcall;refine Calls.mono hcall ?_;rintro e w' ⟨rfl,d',n,os,hperm,hsort,rfl⟩;have hsz:d'.size=zs.length:=hperm.1.trans hds;obtain⟨k1,m1⟩:=eN (d:=d') (n:=n) (os:=os) enc kg;have hpl:d'.toList.Perm zs.attach:=by
   have h:=hperm.2.2;have e1:d'.extract 0 zs.length=d':=by rw[←hsz];simp
   have e2:d.extract 0 zs.length=d:=by rw[←hds];simp
   rw[e1,e2]at h;simpa[d] using h
  have hys:(d'.toList.map Subtype.val).Perm zs:=by
   have:=hpl.map Subtype.val;rwa[List.attach_map_subtype_val]at this
  have hget:∀i a,(d'.toList.map Subtype.val)[i]? =some a→i<d'.size∧(d'[i]!).1=a:=fun i a h=>by
   have hi:i<d'.size:=by have:=(aZa.1 h).1;simpa using this
   refine⟨hi,?_⟩;rw[getElem!_pos d' i hi];rw[aZv]at h;simp[hi]at h;exact h
  refine⟨rfl,d'.toList.map Subtype.val,hys,fun i j a b hij ha hb=> ?_,hback _ _ _ k1 (by simp[putCells]) (by simp[hsz]) (fun i b h=> ?_),m1.mono (fun i _ e=>by rw[e];rfl)⟩
  ·obtain⟨hi,rfl⟩:=hget i a ha;obtain⟨hj,rfl⟩:=hget j b hb;have h1:=hsort i j (aYf _) hij (by omega);change decide (nK _ _<0)=false at h1;rw[oT]at h1;exact of_decide_eq_false h1
  ·obtain⟨hi,rfl⟩:=hget i b h;have hic:i<cur.size:=by omega
   simp only[putCells,Array.getElem?_mapIdx,aYe hic,aYj,aYf,aXe,true_and,Nat.sub_zero,if_pos hi];rfl
theorem kJ {pt:Nat→Nat}:∀ {zs ys:List Nat},ys.Perm zs→xQ pt ys→zs.Pairwise (fun a b=>pt a<pt b)→ys=zs
 |[],ys,hp,_,_=>hp.eq_nil
 |z::zr,[],hp,_,_=>by cases hp.length_eq
 |z::zr,y::yr,hp,hr,hz=>by
  rw[List.pairwise_cons]at hz;have hyz:y=z:=by
   have h1:y∈z::zr:=hp.mem_iff.1 (by simp);have h2:z∈y::yr:=hp.mem_iff.2 (by simp);rcases aZc.1 h1 with h1|h1
   ·exact h1
   ·rcases aZc.1 h2 with h2|h2
    ·exact h2.symm
    ·obtain⟨j,hj⟩:=aZ8.1 h2;exact absurd (hz.1 y h1) (hr 0 (j+1) y z (by omega) rfl (by simpa using hj))
  subst hyz;have hp2:yr.Perm zr:=hp.cons_inv;rw[kJ hp2 (fun i j a b hij ha hb=>hr (i+1) (j+1) a b (by omega) (by simpa using ha) (by simpa using hb)) hz.2]
theorem rF (Bs nb c:Nat) (es:Array MapEntry) (N:List (Int64×Nat)) (M:aR tK ptrV es c N) (pt:Nat→Nat) (hlen:N.length≤900000) (w:World) (hBs:w.heap[Bs]? =some (.cells #[.map (some nb)] 179 (0,0))) (kb:w.heap[nb]? =some (.map es c))
  (hd:∀b∈N.map Prod.snd,∃x:Nr,w.heap[b]? =some (.cells (JI x) 244 (0,0))∧x.pt=pt b):
  Calls Tryz.prog 104 #[BQ Bs,.func (.func 106) #[] #[]] w fun e w'=>
   ∃v ys,e= .returned v∧ys.Perm (N.map Prod.snd)∧xQ pt ys∧aE pc 1 238 w' w.heap.size v ys∧Mod (fun _=>False) w w':=by
 have hcol:=x6 Bs nb c es N M hlen w hBs kb;have HD:=Hi hd;clear hd hBs kb M;go_enter Tryz.func104,Tryz.ntmps104;go_wp2_with fail;go_at_call 141;refine hcol.mono ?_;rintro e w2 ⟨v,zs,hp,rfl,hO,h3⟩;have HX:=Hi (Ai hO (Ai h3 hp));clear h3 hcol hO hp;obtain⟨a,c,rfl,_⟩:=HX.out.1.at fF;have hzl:zs.length≤900000:=by
  have:=HX.out.2.2.length_eq;rw[aZs]at this;omega
 have HZ:=Hi hzl;go_wp2_with fail;go_at_call 142;refine(sortPtrsG (pt:=pt) HX.out.1 HZ.out (fun b hb=>by
  obtain⟨x,k,e⟩:=HD.out b (HX.out.2.2.mem_iff.1 hb);exact⟨x,HX.out.2.1.at0 k,e⟩)).mono ?_
 rintro e w3 ⟨rfl,ys,h1,h2,h3,h4⟩;have HY:=Hi (Ai h1 (Ai h2 (Ai h3 h4)));have hl:=h1.length_eq;clear h1 h2 h3 h4;go_wp2_with fail;go_ret;obtain⟨h1,h2,h3,h4⟩:=HY.out;refine⟨_,ys,rfl,h1.trans HX.out.2.2,h2,h3,HX.out.2.1.then h4 (fun i hi e=> ?_)⟩;have:=(HX.out.1.lt _ e).1;omega
end
section
open Go.RowKit Go.Sort
attribute [local go_sem] aH aC aN aK aP aF aO Value.cells k8
section
variable {α:Type} {P:Program} {T E:TypeId} {f:α→Array Value} {n B:Nat}
end
theorem PQ (w:World) (x:Int64):aS ic 1 (w.alloc (.cells (ic x) 3)) (some ⟨w.heap.size,0,none⟩) [x]:=by
 have hb:=heap_alloc_new w (.cells (ic x) 3);refine .inr ⟨_,0,_,_,_,rfl,hb,fun i y hy=> ?_⟩;cases i with
 |zero=>
  simp at hy;subst hy;exact⟨rfl,by simp[ic]⟩
 |succ i=>simp at hy
theorem clipI_cG (v v2:Value) (w:World) (n:Nat) {a:Option Addr} {c:Nat} (hv:v= .slice a n c) (h:∀w2,(Instr.sliceAt 53 v none (some (.int .i64 (n:Int))) (some (.int .i64 (n:Int)))).run Tryz.prog w2= .ok v2 w2):
  Calls Tryz.prog 37 #[v] w fun e w'=>e= .returned v2∧w'=w:=by
 subst hv;go_enter Tryz.func37,Tryz.ntmps37;go_wp2_with fail;go_ret;exact⟨rfl,rfl⟩
noncomputable def readyFrom (pre:List Cn):List Cn→List Int64
 |[]=>[]
 |x::r=>(open Classical in if∃y∈pre,o0 y x then []else [x.id])++readyFrom (pre++[x]) r
noncomputable def readyC (C:List Cn):List Int64:=readyFrom [] C
def outL (nd:Nat→Nr) (l:List An):List Int64:=(l.filter fun x=>decide ((nd x.a).wt=0)).map An.id
section
variable {q:Nat} {L:List An} {N:List (Int64×Nat)} {S:List (aQ×Nat)} {nd:Nat→Nr} {sp:Nat→Sr}
theorem eH.wt0 (I:eH q L N S nd sp) {X Y:List An} {x:An} (h:L=X++x::Y):(nd x.a).wt=0↔∀y∈X,¬o0 y.cn x.cn:=by
 rw[I.wts X x Y h,aY2];exact fI (I.kn x (by rw[h];simp))
theorem eH.ready (I:eH q L N S nd sp):∀(Y X:List An),L=X++Y→outL nd Y=readyFrom (X.map An.cn) (Y.map An.cn)
 |[],_,_=>rfl
 |x::Y,X,h=>by
  have h2:=eH.ready I Y (X++[x]) (by rw[h];simp);have h3:=I.wt0 h;rw[List.map_append]at h2;show outL nd (x::Y)=_++readyFrom _ _;rw[←show [x].map An.cn=[x.cn]from rfl,←h2];unfold outL;rw[aWr];by_cases h0:(nd x.a).wt=0
  ·rw[if_pos (by simpa using h0),if_neg (fun⟨y,hy,hh⟩=>by
    obtain⟨z,hz,rfl⟩:=aZj.1 hy;exact h3.1 h0 z hz hh)]
   rfl
  ·rw[if_neg (by simpa using h0),if_pos (Classical.byContradiction fun hn=>h0 (h3.2 fun y hy hh=>hn ⟨y.cn,aZj.2 ⟨y,hy,rfl⟩,hh⟩))];rfl
end
theorem IE {g q:Nat} {C:List Cn} {T:Nat→Prop} {w:World} (hA:zU g q C T w):Calls Tryz.prog 69 #[ptrV g] w fun e w'=>
  ∃a,e= .returned (.slice a (readyC C).length (readyC C).length)∧aS ic 1 w' a (readyC C)∧Fz w' a∧(∀x,a=some x→w.heap.size≤x.block)∧Mod (fun _=>False) w w':=by
 obtain⟨tag,nb,sb,L,N,S,nd,sp,H,I,rfl,hO⟩:=hA;obtain⟨es,c0,kb,M⟩:=H.kn;have kh:=H.c;have hrd:outL nd L=readyC (L.map An.cn):=I.ready L [] rfl;rw[←hrd];have hNl:N.length≤900:=by
  rw[I.len];have h1:=I.Llen;have h2:=I.pub;omega
 have hLl:L.length≤900:=by
  rw[←I.len];exact hNl
 have hnd:∀b∈L.map An.a,w.heap[b]? =some (.cells (JI (nd b)) 244 (0,0)):=fun b hb=>(H.nodes b hb).c;have hNp:(N.map Prod.snd).Perm (L.map An.a):=by
  have:=I.N.map Prod.snd;rwa[aX0]at this
 have hsrt:(L.map An.a).Pairwise (fun a b=>(nd a).pt<(nd b).pt):=by
  rw[List.pairwise_map];have h1:=I.pts;rw[List.pairwise_map]at h1;exact(List.pairwise_iff_forall_sublist.2 fun{x y} h=>by
   have h2:=(List.pairwise_iff_forall_sublist.1 h1) h;have hx:x∈L:=h.subset (by simp);have hy:y∈L:=h.subset (by simp);rw[(I.nds x hx).2.2.1,(I.nds y hy).2.2.1];exact h2)
 have HI:=Hi (Ai I (Ai hnd (Ai hNp hsrt)));have HM:=Hi M;have HB:=Hi kb;clear H I hO M kb hrd hnd hNp hsrt;go_enter Tryz.func69,Tryz.ntmps69;go_wp2_with fail;go_at_call 103;refine(there_cG kh).mono ?_;rintro e w1 ⟨rfl,rfl⟩;go_wp2_with fail;go_at_call 105;refine(values_cG nb _).mono ?_;rintro e w2 ⟨rfl,rfl⟩;have hm2:Mod (fun _=>False) w1 (w1.alloc (.cells #[.map (some nb)] 179)):=(Mod.refl _ _).alloc _;have hsf:=rF w1.heap.size nb c0 es N HM.out (fun b=>(nd b).pt) (by omega) (w1.alloc (.cells #[.map (some nb)] 179)) (heap_alloc_new _ _) (hm2.at0 HB.out) (fun b hb=>⟨nd b,hm2.at0 (HI.out.2.1 b (HI.out.2.2.1.mem_iff.1 hb)),rfl⟩);have HS:=Hi hsf;have HM2:=Hi hm2;clear hsf hm2;go_wp2_with fail;go_at_call 104;refine HS.out.mono ?_;rintro e w3 ⟨v,ys,rfl,hperm,hris,hown,hm⟩;have hys:ys=L.map An.a:=kJ (hperm.trans HI.out.2.2.1) hris HI.out.2.2.2;subst hys;have m3:=HM2.out.then0 hm;obtain⟨a3,c3,rfl,_⟩:=hown.at fF;have HY:=Hi hown;have hln:(L.map An.a).length=L.length:=aZs _;rw[hln];have HLN:=Hi hln;have HM3:=Hi m3;clear hperm hris hown hm m3 kh hln;go_wp2_with fail;go_loopw [18,4] (fun s18 s4 ws=>∃i:Nat,i≤L.length∧s18= .int .i64 i∧aE ic 1 3 ws w3.heap.size s4 (outL nd (L.take i))∧Mod (fun _=>False) w3 ws) (fun s18 _ _=>L.length-(intOf s18).toNat)
 case atStart=>exact⟨0,aYf _,rfl,aE.nil _ _,Mod.refl _ _⟩
 case round=>
  obtain⟨i,hi,rfl,hO,hm⟩:=hrel;by_cases hlt:i<L.length
  ·obtain⟨x,hx⟩:∃x,L[i]? =some x:=⟨_,aZb hlt⟩;obtain⟨g1,cap,cur,hv,_,kg,_,_,hcur,_⟩:=iF HY.out (fun e=>by
    rw[List.map_eq_nil_iff]at e;rw[e]at hlt;cases hlt)
   rw[HLN.out]at hv;cases hv;have ci:=hcur i x.a (by rw[aZv,hx];rfl);have hxL:=aZi hx;have k0:=hm.at0 (HM3.out.at0 (HI.out.2.1 x.a (aZj.2 ⟨x,hxL,rfl⟩)));have hid0:(nd x.a).id=x.id:=(HI.out.1.nds x hxL).1;unfold JI at k0;rw[hid0]at k0;replace kg:=hm.at0 kg;have HX:=Hi hx;have hwb:(nd x.a).wt≤1000000000:=by
    obtain⟨X',Y',hdec⟩:=aXf hxL;have h2:=HI.out.1.wts X' x Y' hdec;have h3:=l8 X' x.ks;have h4:=HI.out.1.kl x hxL;have h7:X'.length≤L.length:=by rw[hdec];simp
    have h8:x.ks.length*(X'.length+1)≤1000*901:=Nat.mul_le_mul h4 (by omega);omega
   clear hx hxL hid0 hcur;by_cases h0:(nd x.a).wt=0
   ·have hf:outL nd (L.take (i+1))=outL nd (L.take i)++[x.id]:=by
     rw[aYa,HX.out];unfold outL;rw[aZ6,List.map_append];simp[h0]
    have HF:=Hi hf;rw[h0]at k0;have hll:(outL nd (L.take i)).length≤1000:=by
     unfold outL;rw[aZs];have h1:=List.length_filter_le (fun x:An=>decide ((nd x.a).wt=0)) (L.take i);rw[aZ4]at h1;omega
    have hbs:=ET x.id wr;have mal:=(Mod.refl (fun _=>False) wr).alloc (.cells (ic x.id) 3);have hone:=PQ wr x.id;obtain⟨a4,c4,rfl,_⟩:=hO.at fZ;obtain⟨v5,w5,hap,hO5,m5,hn5⟩:=aE.append fZ (q:=[x.id]) (c:=1) (hO.mod0 mal) hone (by simp only[aZx];omega) (by decide) (aYb hm.size mal.size) 53;have hap:(Builtin.append_ #[53,53] 53 #[.slice a4 (outL nd (L.take i)).length c4,.slice (some ⟨wr.heap.size,0,none⟩) 1 1]).run Tryz.prog _=_:=hap;have hol:=hO.lt;have mm5:Mod (fun _=>False) w3 w5:=(hm.then0 mal).then m5 (fun z hz e=>by have:=(hol z e).1;omega);have HO5:=Hi (Ai hO5 mm5);clear hf h0 hll hol m5 hn5 mal hone hO5 mm5 hO;generalize(outL nd (L.take i)).length=ol at *;go_upto_region 9 with fail;refine region_seq 8 rfl ?_;simp only[List.range,List.range.loop]
    iterate 4 refine Zq ?_
    refine Zr ?_;(refine IU (by simp only[zK];rfl) (by rfl) rfl ?hx6 hbs ?n6;(case hx6=>(simp only[aYr,aZo,aYo,zM];(try rfl)));try simp only[zL]);(refine DO (by simp only[zK];rfl) (by rfl) rfl ?hx7 ?hz7 hap ?n7;(case hx7=>simp only[zM];try rfl);(case hz7=>simp only[zM];try rfl);try simp only[zL]);refine Zq ?_;refine jT ?_;clear hap hbs;go_wp2_with fail;go_roundw
    case rel=>exact⟨i+1,by omega,by go_num,by rw[HF.out];exact HO5.out.1,HO5.out.2⟩
    case measure=>simp[intOf];omega
   ·have hf:outL nd (L.take (i+1))=outL nd (L.take i):=by
     rw[aYa,HX.out];unfold outL;rw[aZ6,List.map_append];simp[h0]
    have HF:=Hi hf;have hd:(((nd x.a).wt:Int)==0)=false:=by
     rw[beq_eq_false_iff_ne];omega
    clear hf h0;go_wp2_with fail;go_roundw
    case rel=>exact⟨i+1,by omega,by go_num,by rw[HF.out];exact hO,hm⟩
    case measure=>simp[intOf];omega
  ·obtain rfl:i=L.length:=by omega
   rw[aY5]at hO;obtain⟨a,c,rfl,hcl,hsl,hbk,hfz⟩:=fO fZ hO;have HCL:=Hi hcl;have HE:=Hi (Ai hsl (Ai hbk (Ai hfz hm)));clear hO hcl hsl hbk hfz hm;generalize hol:(outL nd L).length=ol at *;have HOL:=Hi hol;clear hol;go_wp2_with fail;go_at_call 37;refine(clipI_cG _ _ _ ol rfl HCL.out).mono ?_;rintro e w5 ⟨rfl,rfl⟩;go_wp2_with fail;go_ret;refine⟨a,by rw[HOL.out];rfl,HE.out.1,HE.out.2.2.1,fun z hz=> ?_,HM3.out.then0 HE.out.2.2.2⟩;have:=(HE.out.2.1 z hz).1;have:=HM3.out.size;omega
end
theorem Q6 (vs:List Value) (cs:Array Value) (o:Nat) (h:o+vs.length≤cs.size) (t:Nat):(wr cs o vs)[t]? =if o≤t∧t<o+vs.length then vs[t-o]? else cs[t]? :=by
 rw[←aWp,iY vs cs o h];have hl:cs.toList.length=cs.size:=aYd;by_cases h1:t<o
 ·rw[if_neg (by omega),aZw,aZt (by rw[aZ4];omega),aY7,if_pos h1,aWp]
 ·by_cases h2:t<o+vs.length
  ·rw[if_pos ⟨by omega,h2⟩,aZw,aZ3 (by rw[aZ4];omega),aZ4,aX7 (by omega),aZt (by omega)]
  ·rw[if_neg (by omega),aZ3 (by rw[aZg,aZ4];omega),aZg,aZ4,aX7 (by omega),List.getElem?_drop,aWp];congr 1;omega
theorem yO {xs cs:Array Value} {o n:Nat} (h:xs.size=n):(if o=0∧n=cs.size then xs else wr cs o xs.toList)=wr cs o xs.toList:=by
 split
 ·rename_i hh;obtain⟨rfl,h2⟩:=hh;rw[iK _ _ (by omega)]
 ·rfl
structure JP (R:List aQ) (next:Nat) (L:List aQ):Prop where
 size:R.length=150
 nlt:next<150
 len:L.length≤150
 at':∀i,i<L.length→R[(next+299-i) % 150]? =L[i]?
theorem JP.zero (R:List aQ) (h:R.length=150):JP R 0 []:=⟨h,by omega,by simp,fun i hi=>by simp at hi⟩
theorem JP.push {R:List aQ} {next:Nat} {L:List aQ} (h:JP R next L) (k:aQ):JP (R.set next k) ((next+1) % 150) ((k::L).take 150) where
 size:=by rw[aZn,h.size]
 nlt:=aWt _ (by omega)
 len:=by rw[aZ4];omega
 at' i hi:=by
  have hn:=h.nlt;have hs:=h.size;rw[aZ4,aZu]at hi;rw[aXx (by omega)];cases i with
  |zero=>
   have e:((next+1) % 150+299-0) % 150=next:=by omega
   rw[e,List.getElem?_set_self (by omega)];rfl
  |succ i=>
   have e:((next+1) % 150+299-(i+1)) % 150=(next+299-i) % 150:=by omega
   rw[e,aZ0 (by omega),h.at' i (by omega),aWx]
theorem JP.many {R:List aQ} {next:Nat} {L:List aQ} (h:JP R next L) (k:aQ):((k::L).take 150).length=if L.length=150 then 150 else L.length+1:=by
 have:=h.len;rw[aZ4,aZu];split<;>omega
section
attribute [local go_sem↓] eS eP eR
attribute [local go_sem] bB aH aC dC aN aK aP aF aO cR bY kc_size Value.cells
def mK:Array Value:=Array.replicate 32 (.int .u8 0)
theorem fY:mK.size=32:=by simp[mK]
theorem jL (w:World) (b o:Nat):(Instr.loadAt 35 (.pointer (some ⟨b,o,none⟩))).run Tryz.prog w=
   match w.heap[b]? with
   |some (.cells cs _ _)=>if o+32≤cs.size then .ok (.agg (cs.extract o (o+32))) w else dU Tryz.prog w 35 b o
   |_=>dU Tryz.prog w 35 b o:=bL (d:=_) Tryz.underlying35 rfl (by kernel_rfl) w b o
theorem uQ (w:World) (b o:Nat) (xs:Array Value):(Instr.storeAt 35 (.pointer (some ⟨b,o,none⟩)) (.agg xs)).run Tryz.prog w=
   match w.heap[b]? with
   |some (.cells cs U (0,0))=>
    if o+32≤cs.size∧xs.size=32∧xs.all (·.oneCell')=true then .ok () (setBlock w b (.cells (if o=0∧32=cs.size then xs else wr cs o xs.toList) U (0,0)))else eG Tryz.prog w 35 b o (.agg xs)
   |_=>eG Tryz.prog w 35 b o (.agg xs):=bK (by kernel_rfl) w b o xs
theorem uY (dst:Option Tmp) (x:Operand) (ty:TypeId) (pos:String) (after:Array Edge) (g:Option (Nat×Bool)) (a:Act) (w:World) (K:Act→World→Prop) (Q:Exit→Act→World→Prop):
  Oper.wp Tryz.prog {dst:=dst,op:= .load 35 x,type:=ty,pos:=pos,after:=after,guard:=g} a w K Q=
   (match a.eval x with
   | .pointer (some ⟨b,o,none⟩)=>
    (match w.heap[b]? with
    |some (.cells cs _ _)=>if o+32≤cs.size then K (a.put dst (.agg (cs.extract o (o+32)))) w else gN Tryz.prog {dst:=dst,op:= .load 35 x,type:=ty,pos:=pos,after:=after,guard:=g} a w K Q
    |_=>gN Tryz.prog {dst:=dst,op:= .load 35 x,type:=ty,pos:=pos,after:=after,guard:=g} a w K Q)
   |_=>gN Tryz.prog {dst:=dst,op:= .load 35 x,type:=ty,pos:=pos,after:=after,guard:=g} a w K Q):=d7 (d:=_) Tryz.underlying35 rfl (by kernel_rfl) dst x ty pos after g a w K Q
theorem EF (w:World):(Instr.alloc 35 true (.tuple #[])).run Tryz.prog w= .ok (.pointer (some ⟨w.heap.size,0,none⟩)) (w.alloc (.cells mK 35)):=
 aX (z:= .agg mK) (fun w=>by kernel_rfl) w
def qr (R:List aQ) (nx mn md:Int):Array Value:=(cellsOf kc R).toArray++ #[.int .i64 nx,.int .i64 mn,.int .i64 md]
def ring0:List aQ:=List.replicate 150 iC
theorem dT (R:List aQ):(cellsOf kc R).length=R.length*32:=fA (n:=32) kc_size R
theorem uF {R:List aQ} (h:R.length=150) (nx mn md:Int):(qr R nx mn md).size=4803:=by
 simp[qr,dT,h]
def qU:Array Value:=qr ring0 0 0 0
theorem MG (w:World):(zeroValue 141).run Tryz.prog w= .ok (.agg qU) w:=by kernel_rfl
theorem uE {R:List aQ} (h:R.length=150) (nx mn md:Int) (j:Nat) (v:Value):(qr R nx mn md).setIfInBounds (4800+j) v=(cellsOf kc R).toArray++(#[.int .i64 nx,.int .i64 mn,.int .i64 md]:Array Value).setIfInBounds j v:=by
 unfold qr;rw[Array.setIfInBounds_append_right (by simp[dT,h])];congr 2;simp[dT,h]
theorem nO {R:List aQ} (h:R.length=150) (nx mn md:Int) (j:Nat):(qr R nx mn md)[4800+j]? =(#[.int .i64 nx,.int .i64 mn,.int .i64 md]:Array Value)[j]? :=by
 unfold qr;rw[Array.getElem?_append_right (by simp[dT,h])];congr 1;simp[dT,h]
theorem A0 {R:List aQ} (h:R.length=150) (nx mn md:Int) {i:Nat} {k:aQ} (hk:R[i]? =some k):(qr R nx mn md).extract (i*32) (i*32+32)=kc k:=by
 obtain⟨hi,rfl⟩:=aZa.1 hk;apply aZ1.1;rw[aXv];have e:cellsOf kc R=cellsOf kc (R.take i)++(cellsOf kc [R[i]]++cellsOf kc (R.drop (i+1))):=by
  rw[←cH,←cH,List.singleton_append,←aXr hi,aY9]
 have l1:(cellsOf kc (R.take i)).length=i*32:=by rw[dT,aZ4,aX7 (by omega)]
 have l2:(cellsOf kc [R[i]]).length=32:=by rw[dT];simp
 show((qr R nx mn md).toList.extract (i*32) (i*32+32))=_;unfold qr;rw[aWi,e];simp only[List.extract,aZw];rw[←l1,List.drop_left,aXs,←l2,List.take_left];simp[cellsOf]
theorem G3 {R:List aQ} (h:R.length=150) (nx mn md:Int) {i:Nat} (hi:i<150) (k:aQ):wr (qr R nx mn md) (i*32) (kc k).toList=qr (R.set i k) nx mn md:=by
 apply aZ1.1;have hkl:(kc k).toList.length=32:=by simp
 rw[iY _ _ _ (by rw[hkl,uF h];omega),hkl];have e:cellsOf kc R=cellsOf kc (R.take i)++(cellsOf kc [R[i]]++cellsOf kc (R.drop (i+1))):=by
  rw[←cH,←cH,List.singleton_append,←aXr,aY9]
 have e2:cellsOf kc (R.set i k)=cellsOf kc (R.take i)++(cellsOf kc [k]++cellsOf kc (R.drop (i+1))):=by
  rw[←cH,←cH,List.singleton_append,List.set_eq_take_append_cons_drop,if_pos (by omega)]
 have l1:(cellsOf kc (R.take i)).length=i*32:=by rw[dT,aZ4,aX7 (by omega)]
 have l2:(cellsOf kc [R[i]]).length=32:=by rw[dT];simp
 unfold qr;simp only[aWi];rw[e2,e];simp only[aZw]
 conv=>lhs;arg 1;rw[←l1,List.take_left]
 conv=>lhs;arg 2;arg 2;rw[show i*32+32=(cellsOf kc (R.take i)++cellsOf kc [R[i]]).length by rw[aZg,l1,l2],←aZw,List.drop_left]
 simp[cellsOf]
theorem ER (w:World):(Instr.build 141 #[(3,.int .i64 1)]).run Tryz.prog w= .ok (.agg (qr ring0 0 0 1)) w:=by
 refine eW (z:= .agg qU) (places:= #[(0,4800),(4800,1),(4801,1),(4802,1)]) Tryz.underlying141 MG (fun w=>by kernel_rfl) ?_ w;show Instr.fill _ qU [(3,_)]=_;rw[dV (off:=4802) (n:=1) rfl rfl (by rw[show qU.size=4803 from uF (by simp[ring0]) 0 0 0];omega)];refine congrArg some ?_;show qU.setIfInBounds (4800+2) (.int .i64 1)=_;exact uE (by simp[ring0]) 0 0 0 2 _
attribute [local go_sem↓] uY jL uQ
attribute [local go_sem] fY
def oF (w:World) (q:Nat) (L:List aQ):Prop:=∃(R:List aQ) (nx:Nat),w.heap[q]? =some (.cells (qr R (nx:Int) (L.length:Int) 1) 141 (0,0))∧JP R nx L
theorem PL (w:World):Calls Tryz.prog 41 #[] w fun e w'=>∃q,e= .returned (ptrV q)∧w.heap.size≤q∧oF w' q []∧Mod (fun _=>False) w w':=by
 have hb:=ER;go_enter Tryz.func41,Tryz.ntmps41;go_upto_region 1 with fail;refine ZP0 [0,3,0] ?_;refine Zu hb ?_;refine Zb fun p2 hp2=> ?_;refine Zv ?_;refine TD.nil (fun w1 hr=> ?_);obtain⟨gp2,kp2⟩:=hr.b p2;go_wp2_with fail;go_ret;exact⟨_,rfl,gp2,⟨ring0,0,kp2,JP.zero _ (by simp[ring0])⟩,hr.mod⟩
theorem oF.mod {w w':World} {q:Nat} {L:List aQ} {S:Nat→Prop} (h:oF w q L) (hm:Mod S w w') (h1:¬S q):oF w' q L:=by
 obtain⟨R,nx,k,hq⟩:=h;exact⟨R,nx,hm.at k h1,hq⟩
theorem oF.mod0 {w w':World} {q:Nat} {L:List aQ} (h:oF w q L) (hm:Mod (fun _=>False) w w'):oF w' q L:=h.mod hm (fun h=>h)
theorem O0:gJ Tryz.prog 35 5 where
 laid:=laid
 row:=of_decide_eq_true (by kernel_rfl)
 at2:=by kernel_rfl
 u:=Tryz.underlying35
 e:=Tryz.underlying5
 cK:=by kernel_rfl
 cE:=by kernel_rfl
 kt:=by kernel_rfl
theorem yE (a b:aQ) (w:World):(Op.equalIn 10000 35 (.agg (kc a)) (.agg (kc b))).run Tryz.prog w= .ok (decide (a=b)) w:=O0.eqIn 9998 a b w
attribute [local go_sem↓] yE
structure QC (C:Array Value) (nx mn:Nat):Prop where
 size:C.size=4803
 c0:C[4800]? =some (.int .i64 (nx:Int))
 c1:C[4801]? =some (.int .i64 (mn:Int))
 c2:C[4802]? =some (.int .i64 1)
 g0:∀h:4800<C.size,C[4800]= .int .i64 (nx:Int)
 g1:∀h:4801<C.size,C[4801]= .int .i64 (mn:Int)
 g2:∀h:4802<C.size,C[4802]= .int .i64 1
theorem wV {R:List aQ} (h:R.length=150) (nx mn:Nat):QC (qr R nx mn 1) nx mn:=⟨uF h _ _ _,nO h _ _ _ 0,nO h _ _ _ 1,nO h _ _ _ 2,fun hh=>aU (nO h _ _ _ 0) hh,fun hh=>aU (nO h _ _ _ 1) hh,fun hh=>aU (nO h _ _ _ 2) hh⟩
theorem qthere_c (q:Nat) (C:Array Value) (nx mn:Nat) (w:World) (kq:w.heap[q]? =some (.cells C 141 (0,0))) (h:QC C nx mn):Calls Tryz.prog 46 #[ptrV q] w fun e w'=>e= .returned (.bool true)∧w=w':=by
 obtain⟨hs,h0,h1,h2,g0,g1,g2⟩:=h;go_enter Tryz.func46,Tryz.ntmps46
 go_wp2
 go_ret;exact⟨rfl,rfl⟩
theorem NE (q:Nat) (C:Array Value) (nx mn i:Nat) (w:World) (kq:w.heap[q]? =some (.cells C 141 (0,0))) (h:QC C nx mn) (hn:nx<150) (hi:i<150):Calls Tryz.prog 61 #[ptrV q,.int .i64 (i:Int)] w fun e w'=>e= .returned (.int .i64 (((nx+299-i) % 150:Nat):Int))∧w=w':=by
 obtain⟨hs,h0,h1,h2,g0,g1,g2⟩:=h;obtain⟨d,hd⟩:∃d,d+i=nx+299:=⟨nx+299-i,by omega⟩;have e0:nx+299-i=d:=by omega
 rw[e0];have e1:IntKind.i64.wrap ((nx:Int)-1)=(nx:Int)-1:=IntWalk.i64_in _ (by omega);have e2:IntKind.i64.wrap ((nx:Int)-1-(i:Int))=(nx:Int)-1-(i:Int):=IntWalk.i64_in _ (by omega);have e3:IntKind.i64.wrap ((nx:Int)-1-(i:Int)+300)=(d:Int):=(IntWalk.i64_in _ (by omega)).trans (by omega);clear e0;go_enter Tryz.func61,Tryz.ntmps61
 go_wp2
 go_ret;exact⟨by go_num,rfl⟩
theorem yV {L:List aQ} {k x:aQ} {i:Nat} (h:k∉L.take i) (hx:L[i]? =some x) (hne:x≠k):k∉L.take (i+1):=by
 rw[aYa,hx];simp only[Option.toList_some,aZh,aZm];rintro(h2|h2)
 ·exact h h2
 ·exact hne h2.symm
theorem age_c (q:Nat) (L:List aQ) (k:aQ) (w:World) (h:oF w q L):Calls Tryz.prog 22 #[ptrV q,.agg (kc k)] w fun e w'=>∃i:Nat,e= .returned (.tuple #[.int .i64 (i:Int),.bool (decide (k∈L))])∧Mod (fun _=>False) w w':=by
 obtain⟨R,nx,kQ,hq⟩:=h;have hnx:=hq.nlt;have hll:=hq.len;obtain⟨C,hC⟩:∃C,C=qr R nx L.length 1:=⟨_,rfl⟩;have HC:Hid (QC C nx L.length):=Hi (by rw[hC];exact wV hq.size _ _);have HR:Hid (∀i,i<L.length→∀x,L[i]? =some x→C.extract ((nx+299-i) % 150*32) ((nx+299-i) % 150*32+32)=kc x):=Hi (fun i hi x hx=>by
  rw[hC];exact A0 hq.size _ _ _ ((hq.at' i hi).trans hx))
 rw[←hC]at kQ;clear hC hq;have HS:=Hi HC.out.size;obtain⟨hs,h0,h1,h2,g0,g1,g2⟩:=HC.out;go_enter Tryz.func22,Tryz.ntmps22;go_upto_region 0 with fail;have LkQ:=aA kQ;refine ZP0 [3,0,0] ?_;refine Zb fun p3 hp3=> ?_
 iterate 2 refine Zv ?_
 refine TD.nil (fun w1 hr=> ?_);replace kQ:=hr.q kQ;obtain⟨gp3,kp3⟩:=hr.b p3;have m1:=hr.mod;clear hr;go_wp2_with fail;refine wp_scope_straight ?_;go_wp2_with fail;go_at_call 46;refine(qthere_c q C nx L.length _ kQ HC.out).mono ?_;rintro e w2 ⟨rfl,rfl⟩;go_wp2_with fail;apply wp_label;go_wp2_with fail;go_loopw [4,5,14] (fun s4 s5 s14 ws=>∃i:Nat,i≤L.length∧s14= .int .i64 (i:Int)∧s4= .int .i64 0∧s5= .bool false∧Hid (k∉L.take i)∧Mod (fun _=>False) w1 ws) (fun _ _ s14 _=>L.length-(intOf s14).toNat)
 case atStart=>exact⟨0,aYf _,rfl,rfl,rfl,Hi (by simp),Mod.refl _ _⟩
 case round=>
  obtain⟨i,hi,rfl,rfl,rfl,HT,hm⟩:=hrel;replace kQ:=hm.at0 kQ;replace kp3:=hm.at0 kp3;by_cases hlt:i<L.length
  ·have hd:=Dt hlt;obtain⟨x,hx⟩:∃x,L[i]? =some x:=⟨_,aZb hlt⟩;have he:=HR.out i hlt x hx;have HX:=Hi hx;obtain⟨j,hj⟩:∃j,(nx+299-i) % 150=j:=⟨_,rfl⟩;have hj1:((j:Nat):Int)<150:=by omega
   have hj2:j*32≤4771:=by omega
   rw[hj]at he;have HJ:=Hi hj;clear hx hj;by_cases hxk:x=k
   ·have HE:Hid (k∈L):=Hi (by rw[←hxk];exact aZi HX.out);have hne:=Dt hxk;clear hxk;go_upto_region 6 with fail;have LkQ:=aA kQ;have Lkp3:=aA kp3;refine cJ (T0:=fun _=>False) (K:=fun _ _=>True) (κ:=fun i=>[0,0,0,6,0,0,0,0,0,0].getD i 0) (υ:=fun _=>[]) [0,1,2,3,4,5,6,7,8,9] (by kernel_rfl) (by kernel_rfl) (aI.true).cl (trivial) (fun _ h=>h.elim) ?_;have gK:=aI.true
    iterate 3 refine Zg ?_
    (refine ZG (fun v=>v= .int .i64 (j:Int)) gK ?_ (s:=fun T wq kq ltq hSq ub=>by have kQq:=hSq.at kQ (fun h=>h);exact(NE q C nx L.length i wq kQq HC.out hnx (by omega)).mono (fun e w' h=>⟨_,h.1,by rw[HJ.out],by rw[h.2];exact Mod.refl _ _⟩));rintro v10 hC;subst hC;try simp only[zL])
    iterate 6 first|refine Zg ?_|refine Zh ?_
    refine TG.nil (fun w3 ⟨TR,hr⟩=> ?_);replace kQ:=hr.q kQ;replace kp3:=hr.q kp3;clear gK;have hm3:=hm.then0 hr.mod;clear hr;go_wp2_with fail;(try simp only[Exit.noGoto])
    go_ret2
    exact⟨i,by rw[Dt HE.out];rfl,m1.then0 hm3⟩
   ·have HN:=Hi (yV HT.out HX.out hxk);have hne:=Df hxk;clear hxk;go_upto_region 6 with fail;have LkQ:=aA kQ;have Lkp3:=aA kp3;refine cJ (T0:=fun _=>False) (K:=fun _ _=>True) (κ:=fun i=>[0,0,0,6,0,0,0,0,0,0].getD i 0) (υ:=fun _=>[]) [0,1,2,3,4,5,6,7,8,9] (by kernel_rfl) (by kernel_rfl) (aI.true).cl (trivial) (fun _ h=>h.elim) ?_;have gK:=aI.true
    iterate 3 refine Zg ?_
    (refine ZG (fun v=>v= .int .i64 (j:Int)) gK ?_ (s:=fun T wq kq ltq hSq ub=>by have kQq:=hSq.at kQ (fun h=>h);exact(NE q C nx L.length i wq kQq HC.out hnx (by omega)).mono (fun e w' h=>⟨_,h.1,by rw[HJ.out],by rw[h.2];exact Mod.refl _ _⟩));rintro v20 hC;subst hC;try simp only[zL])
    iterate 6 first|refine Zg ?_|refine Zh ?_
    refine TG.nil (fun w3 ⟨TR,hr⟩=> ?_);replace kQ:=hr.q kQ;replace kp3:=hr.q kp3;clear gK;have hm3:=hm.then0 hr.mod;clear hr;go_wp2_with fail;go_roundw
    case rel=>exact⟨i+1,by omega,by go_num,rfl,rfl,HN,hm3⟩
    case measure=>simp[intOf];omega
  ·have hd:=Df hlt;have HE:Hid (k∉L):=Hi (by
    have h1:=HT.out;rw[aY6 (by omega)]at h1;exact h1)
   go_wp2_with fail;(try simp only[Exit.noGoto])
   go_ret2
   exact⟨0,by rw[Df HE.out];rfl,m1.then0 hm⟩
def gF (L:List aQ) (k:aQ):List aQ:=if k∈L then L else(k::L).take 150
theorem iL:mK.extract 0 32=mK:=dC iC
theorem i6:mK.all (·.oneCell') 0 32=true:=bY iC
attribute [local go_sem] iL i6
theorem wH {w:World} {p:Nat} {k:aQ} {U:TypeId} (h:w.heap[p]? =some (.cells (kc k) U (0,0))):(Instr.loadAt 35 (.pointer (some ⟨p,0,none⟩))).run Tryz.prog w= .ok (.agg (kc k)) w:=by
 rw[jL,h];simp
theorem AZ (q:Nat) (L:List aQ) (k:aQ) (w:World) (h:oF w q L):Calls Tryz.prog 13 #[ptrV q,.agg (kc k)] w fun e w'=>(∃v,e= .returned v)∧oF w' q (gF L k)∧Mod (fun i=>i=q) w w':=by
 have H:=Hi h;obtain⟨R,nx,kQ,hq⟩:=h;have HQ:=Hi hq;have hnx:=hq.nlt;have hll:=hq.len;obtain⟨C,hC⟩:∃C,C=qr R nx L.length 1:=⟨_,rfl⟩;have HC:Hid (QC C nx L.length):=Hi (by rw[hC];exact wV hq.size _ _);rw[←hC]at kQ;clear hq;have HCC:=Hi hC;clear hC;go_enter Tryz.func13,Tryz.ntmps13;go_upto_region 0 with fail;have LkQ:=aA kQ;refine ZP0 [3,3,0,0] ?_;refine Zb fun p3 hp3=> ?_;refine Za EF fun p4 hp4=> ?_;obtain⟨ne_p4_p3,hp4⟩:=Bx.set_none hp4
 iterate 2 refine Zv ?_
 refine TD.nil (fun w1 hr=> ?_);replace kQ:=hr.q kQ;obtain⟨gp3,kp3⟩:=hr.b p3 (by first|exact Bx.set_same _ _ _|(simp only[Bx.set_ne _ (Ne.symm ne_p4_p3),Bx.set_ne _ ne_p4_p3,Bx.set_same];rfl));obtain⟨gp4,kp4⟩:=hr.b p4 (by first|exact Bx.set_same _ _ _|(simp only[Bx.set_ne _ (Ne.symm ne_p4_p3),Bx.set_ne _ ne_p4_p3,Bx.set_same];rfl));have m1:=hr.mod;clear hr;go_wp2_with fail;go_at_call 46;refine(qthere_c q C nx L.length _ kQ HC.out).mono ?_;rintro e w2 ⟨rfl,rfl⟩;go_upto_region 3 with fail;go_wp2_with fail;go_at_call 22;refine(age_c q L k _ (H.out.mod0 m1)).mono ?_;rintro e w2 ⟨a,rfl,m2⟩;replace kQ:=m2.at0 kQ;replace kp3:=m2.at0 kp3;replace kp4:=m2.at0 kp4;replace m2:=m1.then0 m2;have hq4:q≠p4:=by
  have:=aA kQ;intro e;subst e;have h1:=H.out;obtain⟨_,_,h2,_⟩:=h1;have:=aA h2;omega
 have hq4':p4≠q:=hq4.symm;have HM2:Hid (Mod (fun i=>i=q) w w2):=Hi (m2.mono (fun _ _ h=>h.elim));have hp4:w.heap.size≤p4:=by omega
 clear m1 m2;by_cases hk:k∈L
 ·have HK:=Hi hk;rw[Dt hk];clear hk;go_upto_region 5 with fail;have LkQ:=aA kQ;have Lkp4:=aA kp4;refine jZ (C:=fun _ _ _=>False) (κ:=fun i=>[1,5,0,0].getD i 0) [0,2,3,1] (by kernel_rfl) (by kernel_rfl) (fun _ _ d _ _ h=>by cases d<;>first|exact h|exact absurd h (hP _ _ _)) ?_
  iterate 3 first|refine Zd ?_|refine Zv ?_
  refine Zi fun wE hr=> ?_;replace kQ:=hr.mod.at0 kQ;replace kp4:=hr.mod.at0 kp4;have mE:=hr.mod;refine ZS ?_;refine ZN kp4 fun w5 kp4 mS=> ?_;(try simp only[Array.setIfInBounds,zL]at kp4);replace kQ:=mS.at_ne kQ (by omega);replace HM2:=Hi (HM2.out.then ((mE.mono (T:=fun i=>i=p4) (fun _ _ h=>h.elim)).trans mS) (fun i hi e=>by omega));go_wp2_with fail;(try simp only[Exit.noGoto]);refine bodyPost_ret (results_cell3 (x:= .agg mK) rfl rfl (by rw[jL];simp[kp4,fY,iL])) rfl ⟨⟨_,rfl⟩,?_,HM2.out⟩;rw[show gF L k=L from if_pos HK.out];exact⟨R,nx,by rw[←HCC.out];exact kQ,HQ.out⟩
 ·have HK:=Hi hk;rw[Df hk];clear hk;obtain⟨hs,h0,h1,h2,g0,g1,g2⟩:=HC.out;by_cases hful:L.length=150
  ·have hd:decide (L.length=150)=true:=Dt hful;have hdi:((L.length:Int)==150)=true:=by rw[beq_iff_eq];omega
   have HC2:Hid (QC C nx 150):=by rw[←hful];exact HC
   have HC2E:Hid (C=qr R nx ((150:Nat):Int) 1):=Hi (by rw[HCC.out,hful]);obtain⟨x,hx⟩:∃x,R[nx]? =some x:=⟨_,aZb (by rw[HQ.out.size];exact hnx)⟩;have he:C.extract (nx*32) (nx*32+32)=kc x:=by
    rw[HCC.out];exact A0 HQ.out.size _ _ _ hx
   have hb:nx*32≤4771:=by omega
   have hb2:((nx:Nat):Int)<150:=by omega
   clear hx;go_upto_region 8 with fail;have LkQ:=aA kQ;have Lkp4:=aA kp4;have Lkp3:=aA kp3;refine ZP [0,0,0,0,1,0,0,0,1,5] ?_
   iterate 9 first|refine Zv ?_|refine Zd ?_
   refine Zi fun wE hr=> ?_;replace kQ:=hr.mod.at0 kQ;replace kp4:=hr.mod.at0 kp4;replace kp3:=hr.mod.at0 kp3;have mE:=hr.mod;refine ZS ?_;refine ZN kp4 fun w3 kp4 mS=> ?_;(try simp only[Array.setIfInBounds,zL]at kp4);replace kQ:=mS.at_ne kQ (by omega);replace kp3:=mS.at_ne kp3 (by omega);replace HM2:=Hi (HM2.out.then ((mE.mono (T:=fun i=>i=p4) (fun _ _ h=>h.elim)).trans mS) (fun i hi e=>by omega));clear hr mE mS hs h0 h1 h2 g0 g1 g2 hb hb2;obtain⟨C2,rfl⟩:∃C2:Array Value,C2=C:=⟨_,rfl⟩;obtain⟨mn,hmn⟩:∃mn:Nat,mn=150:=⟨_,rfl⟩;rw[←hmn]at HC2 HC2E;have HLn:Hid ((gF L k).length=mn):=Hi (by
    rw[show gF L k=(k::L).take 150 from if_neg HK.out,HQ.out.many,if_pos hful,hmn])
   clear hmn hful hd hdi;obtain⟨y4,rfl⟩:∃y4,y4=x:=⟨_,rfl⟩;have hC2s:C2.size=4803:=HC2.out.size;obtain⟨n1,hn1⟩:∃n1,nx+1=n1:=⟨_,rfl⟩;have HN1:=Hi hn1;obtain⟨nx',hnx'⟩:∃nx',n1 % 150=nx':=⟨_,rfl⟩;obtain⟨C3,hC3⟩:∃C3,C3=qr (R.set nx k) nx (mn:Int) 1:=⟨_,rfl⟩;obtain⟨C4,hC4⟩:∃C4,C4=qr (R.set nx k) nx' (mn:Int) 1:=⟨_,rfl⟩;have e3:wr C2 (nx*32) (kc k).toList=C3:=by rw[HC2E.out,hC3];exact G3 HQ.out.size _ _ _ HQ.out.nlt k
   have e4:C3.setIfInBounds 4800 (.int .i64 (nx':Int))=C4:=by
    rw[hC3,hC4];exact uE (by rw[aZn];exact HQ.out.size) _ _ _ 0 _
   have HC3:Hid (QC C3 nx mn):=Hi (by rw[hC3];exact wV (by rw[aZn];exact HQ.out.size) _ _);have HC4E:=Hi hC4;have HN':=Hi hnx';have E3:=Hi e3;have E4:=Hi e4;clear hC3 hC4 e3 e4 hnx' hC2s hn1;obtain⟨hs,h0,h1,h2,g0,g1,g2⟩:=HC2.out;have hb:nx*32≤4771:=by omega
   have hb2:((nx:Nat):Int)<150:=by omega
   go_upto_region 10 with fail;have Lkp3:=aA kp3;have LkQ:=aA kQ;have Lkp4:=aA kp4;refine ZP [0,0,0,0,1,1,0,0,0,5] ?_
   iterate 9 first|refine Zv ?_|refine Zd ?_
   refine Zi fun wE hr=> ?_;replace kp3:=hr.mod.at0 kp3;replace kQ:=hr.mod.at0 kQ;replace kp4:=hr.mod.at0 kp4;have mE:=hr.mod;refine ZS ?_;refine ZN kQ fun w5 kQ mS=> ?_;(try simp only[Array.setIfInBounds,zL]at kQ);replace kp3:=mS.at_ne kp3 (by omega);replace kp4:=mS.at_ne kp4 (by omega);replace HM2:=Hi (HM2.out.trans ((mE.mono (T:=fun i=>i=q) (fun _ _ h=>h.elim)).trans mS));clear hr mE mS hs h0 h1 h2 g0 g1 g2;rw[E3.out]at kQ;obtain⟨hs,h0,h1,h2,g0,g1,g2⟩:=HC3.out;have ew:IntKind.i64.wrap ((nx:Int)+1)=(n1:Int):=(IntWalk.i64_in _ (by omega)).trans (by have:=HN1.out;omega);go_upto_region 11 with fail;have LkQ:=aA kQ;have Lkp4:=aA kp4;refine ZP0 [0,0,0,0,1,0,0,0,0,5] ?_
   iterate 9 first|refine Zv ?_|refine Zd ?_
   refine Zi fun wE hr=> ?_;replace kQ:=hr.mod.at0 kQ;replace kp4:=hr.mod.at0 kp4;have mE:=hr.mod;refine ZS ?_;refine ZN kQ fun w6 kQ mS=> ?_;replace kp4:=mS.at_ne kp4 (by omega);replace HM2:=Hi (HM2.out.trans ((mE.mono (T:=fun i=>i=q) (fun _ _ h=>h.elim)).trans mS));clear hr mE mS hs h0 h1 h2 g0 g1 g2;rw[show(n1:Int).tmod 150=(nx':Int)by rw[aWf (by omega)];have:=HN'.out;omega,E4.out]at kQ;go_upto_region 12 with fail;have HKQ:=Hi kQ;clear kQ LkQ Lkp4 ew;have Lkp4:=aA kp4;refine jZ (C:=fun _ _ _=>False) (κ:=fun i=>[1,0,5,0,0].getD i 0) [0,1,3,4,2] (by kernel_rfl) (by kernel_rfl) (fun _ _ d _ _ h=>by cases d<;>first|exact h|exact absurd h (hP _ _ _)) ?_;(refine TD.load (v:= ?v65) (p:= ?p65) (Mod.refl _ _) (by simp only[zK];rfl) rfl (by rfl) rfl ?hx65 (fun wq hSq=> ?y65) ?n65;(case hx65=>simp only[zM];try rfl);(case y65=>(have kp4q:=hSq.at kp4 (fun h=>h);exact(wH kp4q)));try simp only[zL])
   iterate 3 refine Zv ?_
   refine Zi fun wE hr=> ?_;replace kp4:=hr.mod.at0 kp4;have mE:=hr.mod;refine ZS ?_;refine ZN kp4 fun w7 kp4 mS=> ?_;(try simp only[Array.setIfInBounds,zL]at kp4);replace HKQ:=Hi (mS.at_ne (mE.at0 HKQ.out) hq4);replace HM2:=Hi (HM2.out.then ((mE.mono (T:=fun i=>i=p4) (fun _ _ h=>h.elim)).trans mS) (fun i hi e=>by omega));clear hr mE mS;go_wp2_with fail;(try simp only[Exit.noGoto]);refine bodyPost_ret (results_cell3 (x:= .agg (kc y4)) rfl rfl (by rw[jL];simp[kp4])) rfl ⟨⟨_,rfl⟩,⟨R.set nx k,nx',?_,?_⟩,HM2.out⟩
   ·rw[HLn.out,←HC4E.out];exact HKQ.out
   ·rw[show gF L k=(k::L).take 150 from if_neg HK.out,←HN'.out,←HN1.out];exact HQ.out.push k
  ·have hd:decide (L.length=150)=false:=Df hful;have hdi:((L.length:Int)==150)=false:=by rw[beq_eq_false_iff_ne];omega
   obtain⟨mn,hmn⟩:∃mn:Nat,mn=L.length+1:=⟨_,rfl⟩;have hw:IntKind.i64.wrap ((L.length:Int)+1)=(mn:Int):=(IntWalk.i64_in _ (by omega)).trans (by omega);have HLn:Hid ((gF L k).length=mn):=Hi (by
    rw[show gF L k=(k::L).take 150 from if_neg HK.out,HQ.out.many,if_neg hful,hmn])
   clear hmn hful;go_upto_region 9 with fail;have LkQ:=aA kQ;have Lkp4:=aA kp4;have Lkp3:=aA kp3;refine ZP0 [0,0,0,1,0,0,0,5] ?_
   iterate 7 first|refine Zv ?_|refine Zd ?_
   refine Zi fun wE hr=> ?_;replace kQ:=hr.mod.at0 kQ;replace kp4:=hr.mod.at0 kp4;replace kp3:=hr.mod.at0 kp3;have mE:=hr.mod;refine ZS ?_;refine ZN kQ fun w3 kQ mS=> ?_;replace kp4:=mS.at_ne kp4 (by omega);replace kp3:=mS.at_ne kp3 (by omega);replace HM2:=Hi (HM2.out.trans ((mE.mono (T:=fun i=>i=q) (fun _ _ h=>h.elim)).trans mS));clear hr mE mS hs h0 h1 h2 g0 g1 g2 hw hd hdi;obtain⟨C2,hC2⟩:∃C2,C.setIfInBounds 4801 (.int .i64 (mn:Int))=C2:=⟨_,rfl⟩;rw[hC2]at kQ;have HC2E:Hid (C2=qr R nx (mn:Int) 1):=Hi (by
    rw[←hC2,HCC.out];exact uE HQ.out.size _ _ _ 1 _)
   have HC2:Hid (QC C2 nx mn):=by rw[HC2E.out];exact Hi (wV HQ.out.size _ _)
   clear hC2;obtain⟨y4,hy4⟩:∃y4,mK=kc y4:=⟨iC,rfl⟩;rw[hy4]at kp4;clear hy4;have hC2s:C2.size=4803:=HC2.out.size;obtain⟨n1,hn1⟩:∃n1,nx+1=n1:=⟨_,rfl⟩;have HN1:=Hi hn1;obtain⟨nx',hnx'⟩:∃nx',n1 % 150=nx':=⟨_,rfl⟩;obtain⟨C3,hC3⟩:∃C3,C3=qr (R.set nx k) nx (mn:Int) 1:=⟨_,rfl⟩;obtain⟨C4,hC4⟩:∃C4,C4=qr (R.set nx k) nx' (mn:Int) 1:=⟨_,rfl⟩;have e3:wr C2 (nx*32) (kc k).toList=C3:=by rw[HC2E.out,hC3];exact G3 HQ.out.size _ _ _ HQ.out.nlt k
   have e4:C3.setIfInBounds 4800 (.int .i64 (nx':Int))=C4:=by
    rw[hC3,hC4];exact uE (by rw[aZn];exact HQ.out.size) _ _ _ 0 _
   have HC3:Hid (QC C3 nx mn):=Hi (by rw[hC3];exact wV (by rw[aZn];exact HQ.out.size) _ _);have HC4E:=Hi hC4;have HN':=Hi hnx';have E3:=Hi e3;have E4:=Hi e4;clear hC3 hC4 e3 e4 hnx' hC2s hn1;obtain⟨hs,h0,h1,h2,g0,g1,g2⟩:=HC2.out;have hb:nx*32≤4771:=by omega
   have hb2:((nx:Nat):Int)<150:=by omega
   go_upto_region 10 with fail;have Lkp3:=aA kp3;have LkQ:=aA kQ;have Lkp4:=aA kp4;refine ZP [0,0,0,0,1,1,0,0,0,5] ?_
   iterate 9 first|refine Zv ?_|refine Zd ?_
   refine Zi fun wE hr=> ?_;replace kp3:=hr.mod.at0 kp3;replace kQ:=hr.mod.at0 kQ;replace kp4:=hr.mod.at0 kp4;have mE:=hr.mod;refine ZS ?_;refine ZN kQ fun w5 kQ mS=> ?_;(try simp only[Array.setIfInBounds,zL]at kQ);replace kp3:=mS.at_ne kp3 (by omega);replace kp4:=mS.at_ne kp4 (by omega);replace HM2:=Hi (HM2.out.trans ((mE.mono (T:=fun i=>i=q) (fun _ _ h=>h.elim)).trans mS));clear hr mE mS hs h0 h1 h2 g0 g1 g2;rw[E3.out]at kQ;obtain⟨hs,h0,h1,h2,g0,g1,g2⟩:=HC3.out;have ew:IntKind.i64.wrap ((nx:Int)+1)=(n1:Int):=(IntWalk.i64_in _ (by omega)).trans (by have:=HN1.out;omega);go_upto_region 11 with fail;have LkQ:=aA kQ;have Lkp4:=aA kp4;refine ZP0 [0,0,0,0,1,0,0,0,0,5] ?_
   iterate 9 first|refine Zv ?_|refine Zd ?_
   refine Zi fun wE hr=> ?_;replace kQ:=hr.mod.at0 kQ;replace kp4:=hr.mod.at0 kp4;have mE:=hr.mod;refine ZS ?_;refine ZN kQ fun w6 kQ mS=> ?_;replace kp4:=mS.at_ne kp4 (by omega);replace HM2:=Hi (HM2.out.trans ((mE.mono (T:=fun i=>i=q) (fun _ _ h=>h.elim)).trans mS));clear hr mE mS hs h0 h1 h2 g0 g1 g2;rw[show(n1:Int).tmod 150=(nx':Int)by rw[aWf (by omega)];have:=HN'.out;omega,E4.out]at kQ;go_upto_region 12 with fail;have HKQ:=Hi kQ;clear kQ LkQ Lkp4 ew;have Lkp4:=aA kp4;refine jZ (C:=fun _ _ _=>False) (κ:=fun i=>[1,0,5,0,0].getD i 0) [0,1,3,4,2] (by kernel_rfl) (by kernel_rfl) (fun _ _ d _ _ h=>by cases d<;>first|exact h|exact absurd h (hP _ _ _)) ?_;(refine TD.load (v:= ?v98) (p:= ?p98) (Mod.refl _ _) (by simp only[zK];rfl) rfl (by rfl) rfl ?hx98 (fun wq hSq=> ?y98) ?n98;(case hx98=>simp only[zM];try rfl);(case y98=>(have kp4q:=hSq.at kp4 (fun h=>h);exact(wH kp4q)));try simp only[zL])
   iterate 3 refine Zv ?_
   refine Zi fun wE hr=> ?_;replace kp4:=hr.mod.at0 kp4;have mE:=hr.mod;refine ZS ?_;refine ZN kp4 fun w7 kp4 mS=> ?_;(try simp only[Array.setIfInBounds,zL]at kp4);replace HKQ:=Hi (mS.at_ne (mE.at0 HKQ.out) hq4);replace HM2:=Hi (HM2.out.then ((mE.mono (T:=fun i=>i=p4) (fun _ _ h=>h.elim)).trans mS) (fun i hi e=>by omega));clear hr mE mS;go_wp2_with fail;(try simp only[Exit.noGoto]);refine bodyPost_ret (results_cell3 (x:= .agg (kc y4)) rfl rfl (by rw[jL];simp[kp4])) rfl ⟨⟨_,rfl⟩,⟨R.set nx k,nx',?_,?_⟩,HM2.out⟩
   ·rw[HLn.out,←HC4E.out];exact HKQ.out
   ·rw[show gF L k=(k::L).take 150 from if_neg HK.out,←HN'.out,←HN1.out];exact HQ.out.push k
end
section
theorem Sg.ext {a b:Sg} (h:a.l=b.l):a=b:=by cases a;cases b;cases h;rfl
instance:DecidableEq Sg:=fun a b=>if h:a.l=b.l then .isTrue (Sg.ext h)else .isFalse (fun e=>h (e▸rfl))
theorem LQ {a b:Sg} (h:sgc a=sgc b):a=b:=by
 have h1:a.l.map bc=b.l.map bc:=by simpa[sgc] using h
 exact Sg.ext (List.map_inj_right (fun _ _=>EN)|>.1 h1)
theorem qI (s:Sg):(sgc s).all (·.oneCell')=true:=by
 rw[aZ5];intro u hu;exact sgc_one s u (by simpa using hu)
theorem xA (s:Sg):(sgc s).all (·.oneCell') 0 64=true:=jK (fD s) (qI s)
theorem BI (s:Sg):(sgc s).extract 0 64=sgc s:=by
 rw[show(64:Nat)=(sgc s).size by rw[fD]];exact Array.extract_size
def NJ (s:Sg):Value:= .agg (sgc s)
theorem LR {a b:Sg} (h:NJ a=NJ b):a=b:=LQ (by simpa[NJ] using h)
section
variable {P:Program} {K E:TypeId}
structure o3 (P:Program) (K E:TypeId):Prop where
 laid:laidOutB P=true
 row:K<P.types.size
 at2:P.keyTypeAt 2 K=true
 u:P.underlying K=some (.array 64 E)
 e:P.underlying E=some (.int .u8)
 cK:P.cellsOf K=64
 cE:P.cellsOf E=1
 kt:P.keyType K=true
theorem o3.lits (h:o3 P K E) (k:Sg) (d:Nat):∃l,P.keyLits (d+2) K (sgc k).toList=some l:=by
 have hs:(sgc k).toList.length=64:=by rw[aYd,fD]
 have:∀i∈List.range 64,P.keyLits (d+1) E (((sgc k).toList.drop (i*P.cellsOf E)).take (P.cellsOf E))=some [Lit.int .u8 ((k.l.getD i 0).toNat:Int)]:=by
  intro i hi;have hi':i<64:=by simpa using hi
  have hl:i<k.l.length:=by rw[k.h];exact hi'
  have h1:((sgc k).toList.drop (i*P.cellsOf E)).take (P.cellsOf E)=[bc (k.l.getD i 0)]:=by
   rw[h.cE,aYp];simp only[sgc];show((k.l.map bc).drop i).take 1=_;rw[←List.map_drop,←List.map_take,aXr hl];simp only[List.take_succ_cons,List.take_zero,aZo,aYo];rw[aZk,aZb hl];rfl
  rw[h1];unfold Program.keyLits;rw[h.e];simp[bc,MP]
 unfold Program.keyLits;rw[h.u];simp only[hs,h.cK,if_true];rw[nF _ _ _ this];exact⟨_,rfl⟩
theorem o3.keyT (h:o3 P K E):mM P K NJ where
 law:=Maps.Keyed.of_law (deep_law_laid h.laid (m:=2) (by omega) h.row h.at2 (by rw[h.u]))
 lit k:=by
  obtain⟨n,hn⟩:∃n,P.types.size=n+1:=⟨P.types.size-1,(Nat.sub_add_cancel (aX3 (aYf _) h.row)).symm⟩;obtain⟨l,hl⟩:=h.lits k n;unfold keyOf;rw[h.u];simp only[h.kt,NJ,Value.formed,h.u,fD,h.cK,aWs,beq_self_eq_true,if_true,Value.cells,hn,hl];exact⟨_,rfl⟩
 inj _ _:=LR
end
end
section
attribute [local go_sem↓] eS eP eR uY jL uQ yE
attribute [local go_sem] bB aH aC dC aN aK aP aF aO cR bY kc_size Value.cells fY iL i6
theorem MZ (w:World) (b o:Nat):(Instr.loadAt 92 (.pointer (some ⟨b,o,none⟩))).run Tryz.prog w=
   match w.heap[b]? with
   |some (.cells cs _ _)=>if o+64≤cs.size then .ok (.agg (cs.extract o (o+64))) w else dU Tryz.prog w 92 b o
   |_=>dU Tryz.prog w 92 b o:=bL (d:=_) Tryz.underlying92 rfl (by kernel_rfl) w b o
theorem NK (w:World) (b o:Nat) (xs:Array Value):(Instr.storeAt 92 (.pointer (some ⟨b,o,none⟩)) (.agg xs)).run Tryz.prog w=
   match w.heap[b]? with
   |some (.cells cs U (0,0))=>
    if o+64≤cs.size∧xs.size=64∧xs.all (·.oneCell')=true then .ok () (setBlock w b (.cells (if o=0∧64=cs.size then xs else wr cs o xs.toList) U (0,0)))else eG Tryz.prog w 92 b o (.agg xs)
   |_=>eG Tryz.prog w 92 b o (.agg xs):=bK (by kernel_rfl) w b o xs
theorem RW (w:World):(Instr.alloc 92 true (.tuple #[])).run Tryz.prog w= .ok (.pointer (some ⟨w.heap.size,0,none⟩)) (w.alloc (.cells UL 92)):=
 aX (z:= .agg UL) (fun w=>by kernel_rfl) w
attribute [local go_sem↓] MZ NK
attribute [local go_sem] fD BI xA qI fY
def NZ (T:Nat→Prop) (B:Nat) (w:World) (v:Value):Prop:=∃l:List Sg,aE sgc 64 92 w 0 v l∧(∀g,v.ownBlock=some g→T g)∧l.length≤B
structure kD (T:Nat→Prop) (w:World) (n:Nat) (l:List (Sg×aQ)):Prop where
 ex:∃a b es c es2 c2,∃m2:List (aQ×Value),w.heap[n]? =some (.cells #[.map (some a),.map (some b)] 167 (0,0))∧w.heap[a]? =some (.map es c)∧aR NJ kv es c l∧w.heap[b]? =some (.map es2 c2)∧aR kv id es2 c2 m2∧
  a≠b∧T n∧T a∧T b∧(∀p∈m2,NZ T l.length w p.2)∧∀p∈m2,∀q∈m2,p.1≠q.1→∀i,p.2.ownBlock=some i→q.2.ownBlock≠some i
theorem NZ.mod {T S:Nat→Prop} {B:Nat} {w w':World} {v:Value} (h:NZ T B w v) (hm:Mod S w w') (hS:∀i,T i→¬S i):NZ T B w' v:=by
 obtain⟨l,h1,h2,h3⟩:=h;exact⟨l,h1.mod hm (fun b hb=>hS b (h2 b hb)),h2,h3⟩
theorem NZ.mono {T T':Nat→Prop} {B B':Nat} {w:World} {v:Value} (h:NZ T B w v) (hT:∀i,T i→T' i) (hB:B≤B'):NZ T' B' w v:=by
 obtain⟨l,h1,h2,h3⟩:=h;exact⟨l,h1,fun g hg=>hT g (h2 g hg),aYb h3 hB⟩
theorem kD.mod {T S:Nat→Prop} {w w':World} {n:Nat} {l:List (Sg×aQ)} (h:kD T w n l) (hm:Mod S w w') (hS:∀i,T i→¬S i):kD T w' n l:=by
 obtain⟨a,b,es,c,es2,c2,m2,h1,h2,h3,h4,h5,h6,t1,t2,t3,h7,h8⟩:=h.ex;exact⟨a,b,es,c,es2,c2,m2,hm.at h1 (hS _ t1),hm.at h2 (hS _ t2),h3,hm.at h4 (hS _ t3),h5,h6,t1,t2,t3,fun p hp=>(h7 p hp).mod hm hS,h8⟩
theorem kD.mod0 {T:Nat→Prop} {w w':World} {n:Nat} {l:List (Sg×aQ)} (h:kD T w n l) (hm:Mod (fun _=>False) w w'):kD T w' n l:=h.mod hm (fun _ _ h=>h)
theorem kD.mono {T T':Nat→Prop} {w:World} {n:Nat} {l:List (Sg×aQ)} (h:kD T w n l) (hT:∀i,T i→T' i):kD T' w n l:=by
 obtain⟨a,b,es,c,es2,c2,m2,h1,h2,h3,h4,h5,h6,t1,t2,t3,h7,h8⟩:=h.ex;exact⟨a,b,es,c,es2,c2,m2,h1,h2,h3,h4,h5,h6,hT _ t1,hT _ t2,hT _ t3,fun p hp=>(h7 p hp).mono hT (aZq _),h8⟩
attribute [local go_sem↓] yE
attribute [local go_sem] iL i6
theorem TP:o3 Tryz.prog 92 5 where
 laid:=laid
 row:=of_decide_eq_true (by kernel_rfl)
 at2:=by kernel_rfl
 u:=Tryz.underlying92
 e:=Tryz.underlying5
 cK:=by kernel_rfl
 cE:=by kernel_rfl
 kt:=by kernel_rfl
theorem TQ:mM Tryz.prog 92 NJ:=TP.keyT
theorem PK (w:World) (r:Option Nat):(binOp .neq 164 (.map r) (.map none)).run Tryz.prog w= .ok (.bool !r.isNone) w:=run_neq_map_nil w _ _ _ _ Tryz.underlying164
attribute [local go_sem] PK
theorem sthere_c {n a b:Nat} (w:World) (kn:w.heap[n]? =some (.cells #[.map (some a),.map (some b)] 167 (0,0))):Calls Tryz.prog 62 #[ptrV n] w fun e w'=>e= .returned (.bool true)∧w=w':=by
 go_enter Tryz.func62,Tryz.ntmps62
 go_wp2
 go_ret;exact⟨rfl,rfl⟩
theorem D4 (w:World):(zeroValue 35).run Tryz.prog w= .ok (.agg (kc iC)) w:=by kernel_rfl
theorem shas_c {T:Nat→Prop} (n:Nat) (N:List (Sg×aQ)) (g:Sg) (w:World) (h:kD T w n N):Calls Tryz.prog 23 #[ptrV n,.agg (sgc g)] w fun e w'=>e= .returned (.bool (lkp g N).isSome)∧Mod (fun _=>False) w w':=by
 obtain⟨a,b,es,c,es2,c2,m2,kn,ka,M,-⟩:=h.ex;go_enter Tryz.func23,Tryz.ntmps23;go_upto_region 0 with fail;have Lkn:=aA kn;have Lka:=aA ka;refine ZP0 [3,0] ?_;refine Zb fun p3 hp3=> ?_;refine Zv ?_;refine TD.nil (fun w1 hr=> ?_);replace kn:=hr.q kn;replace ka:=hr.q ka;obtain⟨gp3,kp3⟩:=hr.b p3;have m1:=hr.mod;clear hr;go_wp2_with fail;go_at_call 62;refine(sthere_c _ kn).mono ?_;rintro e w2 ⟨rfl,rfl⟩;have hlk:∀wq,Mod (fun _=>False) w1 wq→(Instr.lookup 164 (.map (some a)) (.agg (sgc g)) true).run Tryz.prog wq= .ok (.tuple #[.agg (kc ((lkp g N).getD iC)),.bool (lkp g N).isSome]) wq:=fun wq hq=>by
  have:=M.lookup TQ Tryz.underlying164 D4 wq (hq.at0 ka) g true;rw[if_pos rfl]at this;refine this.trans ?_;cases lkp g N<;>rfl
 generalize hx:(lkp g N).getD iC=x at *;generalize hb:(lkp g N).isSome=is at *;have HB:=Hi hb;clear hx hb M;go_upto_region 3 with fail;have Lkn:=aA kn;have Lka:=aA ka;have Lkp3:=aA kp3;refine ZP [0,0,0,1,1,1,0,0,0,3,4,0] ?_
 iterate 5 first|refine Zv ?_|refine Zd ?_
 refine ZK hlk ?_
 iterate 3 refine Zv ?_
 refine Za EF fun p5 hp5=> ?_;refine Zt ?_;refine Zv ?_;refine TD.nil (fun w3 hr=> ?_);replace kn:=hr.q kn;replace ka:=hr.q ka;replace kp3:=hr.q kp3;obtain⟨gp5,kp5⟩:=hr.b p5;have m3:=m1.then0 hr.mod;clear hlk;go_wp2_with fail;go_ret;exact⟨by rw[HB.out];rfl,m3⟩
theorem mem_put {κ ν:Type} [DecidableEq κ] {k:κ} {v:ν} {m:List (κ×ν)} {p:κ×ν} (h:p∈put k v m):p=(k,v)∨p∈m:=by
 induction m with
 |nil=>simpa[put] using h
 |cons q r ih=>
  simp only[put]at h;split at h
  ·rcases aZc.1 h with h|h
   ·exact .inl h
   ·exact .inr (aZp _ h)
  ·rcases aZc.1 h with h|h
   ·exact .inr (h▸List.mem_cons_self ..)
   ·rcases ih h with h|h
    ·exact .inl h
    ·exact .inr (aZp _ h)
end
structure XC where
 p:UInt8
 a:List UInt8
 d:List UInt8
structure XD where
 t:aQ
 w:List UInt8
 r:List UInt8
structure JG where
 b:List UInt8
 sg:List Sg
 v0:Bool
 h0:UInt8
 h1:UInt8
 h2:UInt8
 ks:List aQ
 rc:aQ
 ins:List XC
 lks:List XD
 ro:List aT
 un:UInt64
 pr:UInt64
 bad:Int64
 fee:UInt64
 cost:UInt64
 prio:UInt64
def oC.con (x:oC):XC:=⟨x.p,x.a.l,x.d.l⟩
def oM.con (x:oM):XD:=⟨x.t,x.w.l,x.r.l⟩
def cS.con (x:cS):JG:=⟨x.b.l,x.sg.l,x.v0,x.h0,x.h1,x.h2,x.ks.l,x.rc,x.ins.l.map oC.con,x.lks.l.map oM.con,x.ro.l,x.un,x.pr,x.bad,x.fee,x.cost,x.prio⟩
structure It where
 n:UInt64
 r:JG
 pl:Nat
 sent:Bool
def It.rk (x:It):Rk:=⟨x.r.prio,x.n⟩
def idn (k:Nat):Int64:=Int64.ofNat k
theorem cB {k:Nat} (h:k<9223372036854775808):(idn k).toInt=k:=Int64.toInt_ofNat_of_lt h
theorem tJ {j k:Nat} (hj:j<9223372036854775808) (hk:k<9223372036854775808) (h:idn j=idn k):j=k:=by
 have:=congrArg Int64.toInt h;rw[cB hj,cB hk]at this;omega
def nodeOf (k:Nat):Option It→List Nd
 |some x=>if x.pl=0 then [⟨x.rk,idn k⟩]else []
 |none=>[]
def f9:Nat→List (Option It)→List Nd
 |_,[]=>[]
 |k,o::r=>nodeOf k o++f9 (k+1) r
theorem qR:∀(A:List (Option It)) (k:Nat) (B:List (Option It)),f9 k (A++B)=f9 k A++f9 (k+A.length) B
 |[],k,B=>rfl
 |o::A,k,B=>by
  show nodeOf k o++f9 (k+1) (A++B)=(nodeOf k o++f9 (k+1) A)++_;rw[qR A (k+1) B,aZw,aZu,show k+1+A.length=k+(A.length+1)by omega]
theorem qA {k:Nat} {o:Option It} {x:Nd} (h:x∈nodeOf k o):∃y,o=some y∧y.pl=0∧x=⟨y.rk,idn k⟩:=by
 cases o with
 |none=>cases h
 |some y=>
  unfold nodeOf at h;by_cases hp:y.pl=0
  ·simp only[hp,if_true,aZm]at h;exact⟨y,rfl,hp,h⟩
  ·simp[hp]at h
theorem i5:∀ {S:List (Option It)} {k:Nat} {x:Nd},x∈f9 k S→∃i y,S[i]? =some (some y)∧y.pl=0∧x=⟨y.rk,idn (k+i)⟩
 |[],k,x,h=>by cases h
 |o::S,k,x,h=>by
  rcases aZh.1 h with h|h
  ·obtain⟨y,rfl,h1,h2⟩:=qA h;exact⟨0,y,rfl,h1,h2⟩
  ·obtain⟨i,y,h1,h2,h3⟩:=i5 (S:=S) (k:=k+1) h;exact⟨i+1,y,h1,h2,by rw[h3,show k+1+i=k+(i+1)by omega]⟩
theorem AS:∀ {S:List (Option It)} {k i:Nat} {y:It},S[i]? =some (some y)→y.pl=0→⟨y.rk,idn (k+i)⟩∈f9 k S
 |[],k,i,y,h,_=>by simp at h
 |o::S,k,0,y,h,hp=>by
  simp only[zC,aYm]at h;subst h;refine aZl _ ?_;simp[nodeOf,hp]
 |o::S,k,i+1,y,h,hp=>by
  refine aYi _ ?_;have:=AS (S:=S) (k:=k+1) (i:=i) (by simpa using h) hp;rwa[show k+1+i=k+(i+1)by omega]at this
theorem EM {α:Type} {S:List α} {i:Nat} {o:α} (h:S[i]? =some o):∃A B,S=A++o::B∧A.length=i:=by
 obtain⟨hi,rfl⟩:=aZa.1 h;exact⟨S.take i,S.drop (i+1),by rw[List.getElem_cons_drop,aY9],by rw[aZ4];omega⟩
theorem DI {α:Type} {A B:List α} {o p:α}:(A++o::B).set A.length p=A++p::B:=by
 rw[aX8 _ _ (aZq _),aXn];rfl
theorem uZ:∀ {S:List (Option It)} {k:Nat},k+S.length<9223372036854775808→((f9 k S).map Nd.id).Nodup
 |[],k,_=>aWn
 |o::S,k,h=>by
  rw[aZu]at h;have ih:=uZ (S:=S) (k:=k+1) (by omega);show((nodeOf k o++f9 (k+1) S).map Nd.id).Nodup;rw[List.map_append,aZ7];refine⟨?_,ih,?_⟩
  ·cases o with
   |none=>exact aWn
   |some x=>
    by_cases hp:x.pl=0<;>simp[nodeOf,hp]
  ·rintro a ha b hb rfl;obtain⟨x,hx,rfl⟩:=aZj.1 ha;obtain⟨z,hz,e⟩:=aZj.1 hb;obtain⟨y,_,_,rfl⟩:=qA hx;obtain⟨i,u,hu,_,rfl⟩:=i5 hz;have hi:i<S.length:=(aZa.1 hu).1;have:=tJ (by omega) (by omega) e;omega
theorem mJ {S:List (Option It)} {k:Nat}:(f9 k S).length≤S.length:=by
 induction S generalizing k with
 |nil=>exact aZq _
 |cons o S ih=>
  show(nodeOf k o++f9 (k+1) S).length≤_;rw[aZg,aZu];have h:=ih (k:=k+1)
  have:(nodeOf k o).length≤1:=by
   unfold nodeOf;split
   ·split<;>simp
   ·simp
  omega
def wtgo (i:Nat) (S:List (Option It)):List Nd:=f9 0 (S.take i)++f9 (i+1) (S.drop (i+1))
theorem zO {S:List (Option It)} {i:Nat} {o:Option It} (h:S[i]? =some o):(f9 0 S).Perm (nodeOf i o++wtgo i S):=by
 have hi:i<S.length:=(aZa.1 h).1;have e:S=S.take i++o::S.drop (i+1):=by
  obtain⟨_,rfl⟩:=aZa.1 h;rw[List.getElem_cons_drop,aY9]
 have hl:(S.take i).length=i:=by rw[aZ4];omega
 have e2:f9 0 S=f9 0 (S.take i)++(nodeOf i o++f9 (i+1) (S.drop (i+1))):=by
  conv=>lhs;rw[e]
  rw[qR,hl,aXe];rfl
 rw[e2];unfold wtgo;rw[←aZw,←aZw];exact List.perm_append_comm.append_right _
theorem qT {S:List (Option It)} {i:Nat} {o:Option It}:wtgo i (S.set i o)=wtgo i S:=by
 unfold wtgo;rw[List.take_set_of_le (aZq _),List.drop_set_of_lt (by omega)]
theorem BU {S:List (Option It)} {i:Nat} {o:Option It} (hi:i<S.length):(f9 0 (S.set i o)).Perm (nodeOf i o++wtgo i S):=by
 rw[←qT (o:=o)];exact zO (by rw[List.getElem?_set_self hi])
theorem oX {S:List (Option It)} {i:Nat} (hS:S.length<4611686018427387904) {x:Nd} (hx:x∈wtgo i S) (hi:i<S.length):x.id≠idn i:=by
 intro e;rcases aZh.1 hx with h|h
 ·obtain⟨j,y,h1,_,rfl⟩:=i5 h;have hj:=(aZa.1 h1).1;rw[aZ4]at hj;have:=tJ (by omega) (by omega) e;omega
 ·obtain⟨j,y,h1,_,rfl⟩:=i5 h;have hj:=(aZa.1 h1).1;rw[List.length_drop]at hj;have:=tJ (by omega) (by omega) e;omega
theorem mT {C:List Nd} {S:List (Option It)} {i:Nat} {x:It} (hS:S.length<4611686018427387904) (hC:C.Perm (f9 0 S)) (hx:S[i]? =some (some x)) (hp:x.pl=0):
  (C.eraseP (fun y=>y.id==idn i)).Perm (wtgo i S):=by
 have hi:=(aZa.1 hx).1;have h1:=hC.trans (zO hx);have hn:nodeOf i (some x)=[⟨x.rk,idn i⟩]:=by simp[nodeOf,hp]
 rw[hn]at h1;have hnd:(C.map Nd.id).Nodup:=(hC.map Nd.id).nodup_iff.2 (uZ (by omega));have h2:=List.Perm.eraseP (fun y:Nd=>y.id==idn i) (by
  rw[aWw,List.pairwise_map]at hnd;exact hnd.imp (fun{a b} hab ha hb=>hab ((beq_iff_eq.1 ha).trans (beq_iff_eq.1 hb).symm))) h1
 rw[List.singleton_append,List.eraseP_cons_of_pos (by simp)]at h2;exact h2
theorem wN {C:List Nd} {S:List (Option It)} {i:Nat} {x:It} (hC:C.Perm (f9 0 S)) (hx:S[i]? =some (some x)) (hp:x.pl=0):(⟨x.rk,idn i⟩:Nd)∈C:=by
 have:=AS (k:=0) hx hp;rw[aXe]at this;exact hC.mem_iff.2 this
theorem nJ {C:List Nd} {S:List (Option It)} {i:Nat} {o:Option It} (hS:S.length<4611686018427387904) (hC:C.Perm (f9 0 S)) (ho:S[i]? =some o) (hn:nodeOf i o=[]):(∀x∈C,x.id≠idn i)∧C.Perm (wtgo i S):=by
 have h1:=hC.trans (zO ho);rw[hn,aYq]at h1;exact⟨fun x hx=>oX hS (h1.mem_iff.1 hx) (aZa.1 ho).1,h1⟩
theorem nM {C:List Nd} {S:List (Option It)} {i:Nat} {x:It} (hC:C.Perm (wtgo i S)) (hi:i<S.length) (hp:x.pl=0):(C++[(⟨x.rk,idn i⟩:Nd)]).Perm (f9 0 (S.set i (some x))):=by
 refine List.Perm.trans ?_ (BU hi).symm;have hn:nodeOf i (some x)=[⟨x.rk,idn i⟩]:=by simp[nodeOf,hp]
 rw[hn];exact(hC.append_right _).trans List.perm_append_comm
theorem iB {C:List Nd} {S:List (Option It)} {i:Nat} {o:Option It} (hC:C.Perm (wtgo i S)) (hi:i<S.length) (hn:nodeOf i o=[]):C.Perm (f9 0 (S.set i o)):=by
 refine List.Perm.trans ?_ (BU hi).symm;rw[hn];exact hC
section
attribute [local go_sem↓] dH bZ dF
attribute [local go_sem] aH aC aN aK aP aF aO Value.cells bD bW dB bG
def rD (R:List (Option bU)) (i:Nat):Bool:=(R[i]?.getD none).isSome
theorem qC {R:List (Option bU)} {i:Nat} {y:bU} (h:R[i]? =some (some y)):rD R i=true:=by simp[rD,h]
theorem qB {R:List (Option bU)} {i:Nat} (h:R[i]? =some none):rD R i=false:=by simp[rD,h]
theorem uA {R:List (Option bU)} {i j:Nat} {o:Option bU} (hi:i<R.length):rD (R.set i o) j=if j=i then o.isSome else rD R j:=by
 unfold rD;rw[List.getElem?_set];by_cases h:j=i
 ·subst h;simp[hi]
 ·rw[if_neg (fun e=>h e.symm),if_neg h]
def wcell (n:Nat):Value:= .int .u64 (n:Int)
def lK (R:List (Option bU)) (us:List Nat):Prop:=us.length=(R.length+63)/64∧∀(j x:Nat),us[j]? =some x→x<2^64∧∀k,k<64→x.testBit k=rD R (64*j+k)
def jI (R:List (Option bU)) (cur:Array Value):Prop:=cur.size=R.length*51∧∀(i:Nat) y,R[i]? =some (some y)→cur.extract (i*51) (i*51+51)=dL y
structure qW (w:World) (s g u:Nat) (R:List (Option bU)) (cur:Array Value) (us:List Nat):Prop where
 ks:w.heap[s]? =some (.cells #[.slice (some ⟨g,0,none⟩) R.length R.length,.slice (some ⟨u,0,none⟩) us.length us.length,.int .i64 (R.countP Option.isSome:Nat)] 209 (0,0))
 kg:w.heap[g]? =some (.cells cur 82 (0,0))
 rows:jI R cur
 ku:w.heap[u]? =some (.cells (us.map wcell).toArray 23 (0,0))
 words:lK R us
 len:1≤R.length∧R.length≤4096
theorem nR {us:List Nat} {j x:Nat} (h:us[j]? =some x):(us.map wcell).toArray[j]? =some (.int .u64 (x:Int)):=by
 simp[h,wcell]
theorem qW.word {w:World} {s g u:Nat} {R:List (Option bU)} {cur:Array Value} {us:List Nat} (H:qW w s g u R cur us) {i:Nat} (hi:i<R.length):∃x,us[i/64]? =some x∧x<18446744073709551616∧(∀k,k<64→x.testBit k=rD R (64*(i/64)+k))∧x.testBit (i % 64)=rD R i:=by
 obtain⟨h1,h2⟩:=H.words;have hj:i/64<us.length:=by rw[h1];omega
 have hx:=aZb hj;obtain⟨h3,h4⟩:=h2 _ _ hx;refine⟨_,hx,h3,h4,?_⟩;rw[h4 _ (aWt _ (by omega)),aWu]
def vC (s:Nat) (R:List (Option bU)) (T:Nat→Prop) (w:World):Prop:=∃g u cur us,qW w s g u R cur us∧T s∧T g∧T u
theorem qW.mod {w w':World} {s g u:Nat} {R:List (Option bU)} {cur:Array Value} {us:List Nat} {S:Nat→Prop} (H:qW w s g u R cur us) (hm:Mod S w w') (h1:¬S s) (h2:¬S g) (h3:¬S u):qW w' s g u R cur us:=
 ⟨hm.at H.ks h1,hm.at H.kg h2,H.rows,hm.at H.ku h3,H.words,H.len⟩
theorem vC.good (s:Nat) (R:List (Option bU)):aI (vC s R) where
 cl:=by
  rintro T w w' ⟨g,u,cur,us,H,h1,h2,h3⟩ hm;exact⟨g,u,cur,us,H.mod hm (fun e=>e h1) (fun e=>e h2) (fun e=>e h3),h1,h2,h3⟩
 gr:=by
  rintro T T' w hT ⟨g,u,cur,us,H,h1,h2,h3⟩;exact⟨g,u,cur,us,H,hT _ h1,hT _ h2,hT _ h3⟩
theorem o8 (x i:Nat) (hx:x<18446744073709551616):bits .and .u64 ((x:Int)/2^i) 1=if x.testBit i then 1 else 0:=by
 have h1:=u64_and_nat (x/2^i) 1 (aX3 (Nat.div_le_self _ _) hx) (by omega);have e:((x/2^i:Nat):Int)=(x:Int)/2^i:=by simp
 rw[e]at h1;have h2:((1:Nat):Int)=1:=rfl;rw[h2]at h1;rw[h1,Nat.and_one_is_mod,Nat.testBit_eq_decide_div_mod_eq];have:=aWt (x/2^i) (show 0<2 by omega);by_cases h:x/2^i % 2=1
 ·simp[h]
 ·have:x/2^i % 2=0:=by omega
  simp[this]
theorem FM (w:World) (a:Option Addr) (n c:Nat):(binOp .eql 79 (.slice a n c) (.slice none 0 0)).run Tryz.prog w= .ok (.bool a.isNone) w:=by
 cases a<;>kernel_rfl
attribute [local go_sem] FM
theorem F2 {w:World} {s g u:Nat} {R:List (Option bU)} {cur:Array Value} {us:List Nat} (H:qW w s g u R cur us) {i:Nat} (hi:i<R.length):Calls Tryz.prog 91 #[ptrV s,.int .i64 (i:Int)] w fun e w'=>e= .returned (.int .i64 (if rD R i then 0 else 11))∧w'=w:=by
 obtain⟨x,hx,hlt,_,hb⟩:=H.word hi;have ks:=H.ks;have ku:=H.ku;have hc:=nR hx;have hl:i≤4095:=by have:=H.len;omega
 have hus:us.length=(R.length+63)/64:=H.words.1;have ha:=o8 x (i % 64) hlt;rw[hb]at ha;have hj:i/64<us.length:=by rw[hus];omega
 have hrl:=H.len.2;have hi0:decide ((i:Int)<0)=false:=Df (by omega);generalize R.countP Option.isSome=many at *;generalize R.length=rl at *;generalize us.length=ul at *;generalize(us.map wcell).toArray=U at *;have hir:decide (rl≤i)=false:=Df (by omega);clear H hx hb hus;have key:∀z:Int,z=(if rD R i then 1 else 0)→bits .and .u64 ((x:Int)/2^(i % 64)) 1=z→Calls Tryz.prog 91 #[ptrV s,.int .i64 (i:Int)] w fun e w'=>e= .returned (.int .i64 (if rD R i then 0 else 11))∧w'=w:=by
  intro z hz hb;clear ha;cases ho:rD R i
  ·rw[ho]at hz;simp only[aZr,if_false]at hz;subst hz;clear ho;go_enter Tryz.func91,Tryz.ntmps91;go_wp2_with fail;go_ret;exact⟨rfl,rfl⟩
  ·rw[ho]at hz;simp only[if_true]at hz;subst hz;clear ho;go_enter Tryz.func91,Tryz.ntmps91;go_wp2_with fail;go_ret;exact⟨rfl,rfl⟩
 exact key _ rfl ha
end
section
attribute [local go_sem↓] dH bZ dF
attribute [local go_sem] aH aC aN aK aP aF aO Value.cells bD bW dB bG FM
theorem cD:zItem.extract 0 51=zItem:=bW _
theorem cF:zItem.all (·.oneCell') 0 51=true:=dB _
attribute [local go_sem] cD cF
theorem jI.set {R:List (Option bU)} {cur:Array Value} (h:jI R cur) {i:Nat} (hi:i<R.length) {o:Option bU} {vs:Array Value} (hs:vs.size=51) (ho:∀y,o=some y→vs=dL y):jI (R.set i o) (wr cur (i*51) vs.toList):=by
 obtain⟨h1,h2⟩:=h;refine⟨by rw[iZ,h1,aZn],fun j y hy=> ?_⟩;have hl:vs.toList.length=51:=by rw[aYd,hs]
 have hii:(i+1)*51≤R.length*51:=aXu _ hi;have hget:=fun t=>Q6 vs.toList cur (i*51) (by rw[hl];omega) t;rw[hl]at hget;by_cases hj:j=i
 ·subst hj;rw[List.getElem?_set_self hi]at hy;have hv:=ho y (aZz hy);rw[←hv];apply aY8;intro t;rw[aYl,iZ];by_cases ht:t<51
  ·rw[if_pos (by omega),hget,if_pos (by omega),aXs,aWp]
  ·rw[if_neg (by omega),aXh (by omega)]
 ·rw[aZ0 (fun e=>hj e.symm)]at hy;rw[←h2 j y hy];apply aY8;intro t;rw[aYl,aYl,iZ];by_cases ht:t<51
  ·have h9:¬(i*51≤j*51+t∧j*51+t<i*51+51):=by omega
   rw[hget,if_neg h9]
  ·rw[if_neg (by omega),if_neg (by omega)]
theorem jI.le {R:List (Option bU)} {cur:Array Value} (h:jI R cur) {i:Nat} (hi:i<R.length):i*51+51≤cur.size:=by
 rw[h.1];omega
section
variable {w:World} {s g u:Nat} {R:List (Option bU)} {cur:Array Value} {us:List Nat}
theorem yI (H:qW w s g u R cur us) {n:Int} (hn:n<0∨(R.length:Int)≤n):Calls Tryz.prog 91 #[ptrV s,.int .i64 n] w fun e w'=>e= .returned (.int .i64 11)∧w'=w:=by
 have ks:=H.ks;generalize R.countP Option.isSome=many at *;generalize R.length=rl at *;generalize us.length=ul at *;clear H;rcases hn with hn|hn
 ·have hd:=Dt hn;clear hn;go_enter Tryz.func91,Tryz.ntmps91;go_wp2_with fail;go_ret;exact⟨rfl,rfl⟩
 ·have hd:=Dt hn;have hd0:decide (n<0)=false:=Df (by omega);clear hn;go_enter Tryz.func91,Tryz.ntmps91;go_wp2_with fail;go_ret;exact⟨rfl,rfl⟩
def RF (R:List (Option bU)) (n:Int):Prop:=n<0∨(R.length:Int)≤n∨R[n.toNat]? =some none
theorem hasN_c (H:qW w s g u R cur us) {n:Int} (hn:RF R n):Calls Tryz.prog 91 #[ptrV s,.int .i64 n] w fun e w'=>e= .returned (.int .i64 11)∧w'=w:=by
 rcases hn with h|h|h
 ·exact yI H (.inl h)
 ·exact yI H (.inr h)
 ·by_cases h0:n<0
  ·exact yI H (.inl h0)
  ·have hi:=(aZa.1 h).1;have:=F2 H hi;rw[qB h,Int.toNat_of_nonneg (by omega)]at this;exact this
theorem hasY_c (H:qW w s g u R cur us) {i:Nat} {y:bU} (hy:R[i]? =some (some y)):Calls Tryz.prog 91 #[ptrV s,.int .i64 (i:Int)] w fun e w'=>e= .returned (.int .i64 0)∧w'=w:=by
 have:=F2 H (aZa.1 hy).1;rw[qC hy]at this;exact this
theorem qW.mod0 {w':World} (H:qW w s g u R cur us) (hm:Mod (fun _=>False) w w'):qW w' s g u R cur us:=H.mod hm (fun h=>h) (fun h=>h) (fun h=>h)
theorem WN (H:qW w s g u R cur us) {n:Int} (hn:RF R n):Calls Tryz.prog 97 #[ptrV s,.int .i64 n] w fun e w'=>e= .returned (.tuple #[.agg zItem,.int .i64 11])∧Mod (fun _=>False) w w':=by
 have HH:=Hi (Ai H hn);clear H hn;go_enter Tryz.func97,Tryz.ntmps97;go_upto_region 0 with fail;refine ZP0 [3,0] ?_;refine Za eT fun p4 hp4=> ?_;refine Zv ?_;refine TD.nil (fun w1 hr=> ?_);obtain⟨gp4,kp4⟩:=hr.b p4;have m1:=hr.mod;clear hr;go_wp2_with fail;go_at_call 91;refine(hasN_c (HH.out.1.mod0 m1) HH.out.2).mono ?_;rintro e w2 ⟨rfl,rfl⟩;go_upto_region 3 with fail;have Lkp4:=aA kp4;refine ZP0 [1,0,5,0] ?_;refine Zd ?_;refine Zv ?_;refine Zi fun w3 hr=> ?_;have kp4:=hr.mod.at kp4 (fun h=>h);have m3:=m1.then0 hr.mod;clear hr;refine ZS ?_;refine ZM kp4 fun wn kp4 mS=> ?_;(try simp only[Array.setIfInBounds,zL]at kp4);have m4:=m3.thenB mS (.inl gp4);clear mS;refine Ze ?_;refine TE.nil ?_;go_wp2_with fail;exact bodyPost_ret (results_cell2 (x:= .agg zItem) rfl rfl (by rw[bZ];simp[kp4,zItem,bW,bD])) rfl ⟨rfl,m4⟩
theorem jI.size (h:jI R cur) {i:Nat} (hi:i<R.length):i*51+51≤cur.size:=by
 rw[h.1];omega
theorem OY (H:qW w s g u R cur us) {i:Nat} {y:bU} (hy:R[i]? =some (some y)):Calls Tryz.prog 97 #[ptrV s,.int .i64 (i:Int)] w fun e w'=>e= .returned (.tuple #[.agg (dL y),.int .i64 0])∧Mod (fun _=>False) w w':=by
 have HH:=Hi (Ai H hy);have hi:=(aZa.1 hy).1;have hsz:=H.rows.size hi;have hrow:=H.rows.2 i y hy;have ks:=H.ks;have kg:=H.kg;have hi2:(i:Int)<(R.length:Int):=by omega
 generalize R.countP Option.isSome=many at *;generalize R.length=rl at *;clear H hy;go_enter Tryz.func97,Tryz.ntmps97;go_upto_region 0 with fail;have Lks:=aA ks;have Lkg:=aA kg;refine ZP0 [3,0] ?_;refine Za eT fun p4 hp4=> ?_;refine Zv ?_;refine TD.nil (fun w1 hr=> ?_);have ks:=hr.mod.at ks (fun h=>h);have kg:=hr.mod.at kg (fun h=>h);obtain⟨gp4,kp4⟩:=hr.b p4;have m1:=hr.mod;clear hr;go_wp2_with fail;go_at_call 91;refine(hasY_c (HH.out.1.mod0 m1) HH.out.2).mono ?_;rintro e w2 ⟨rfl,rfl⟩;go_upto_region 4 with fail;have Lks:=aA ks;have Lkg:=aA kg;have Lkp4:=aA kp4;refine ZP0 [0,0,0,1,0,0,1,5,0] ?_
 iterate 7 first|refine Zv ?_|refine Zd ?_
 refine Zi fun w3 hr=> ?_;have ks:=hr.mod.at ks (fun h=>h);have kg:=hr.mod.at kg (fun h=>h);have kp4:=hr.mod.at kp4 (fun h=>h);have m3:=m1.then0 hr.mod;clear hr;refine ZS ?_;refine ZM kp4 fun wn kp4 mS=> ?_;(try simp only[Array.setIfInBounds,zL]at kp4);have m4:=m3.thenB mS (.inl gp4);clear mS;refine Ze ?_;refine TE.nil ?_;go_wp2_with fail;exact bodyPost_ret (results_cell2 (x:= .agg (dL y)) rfl rfl (by rw[bZ];simp[kp4,bW,bD])) rfl ⟨rfl,m4⟩
theorem QH (H:qW w s g u R cur us) {i:Nat} {y:bU} (hy:R[i]? =some (some y)) (z:bU):Calls Tryz.prog 120 #[ptrV s,.int .i64 (i:Int),.agg (dL z)] w fun e w'=>e= .returned (.int .i64 0)∧∃cur',qW w' s g u (R.set i (some z)) cur' us∧Mod (fun b=>b=g) w w':=by
 have HH:=Hi (Ai H hy);have hi:=(aZa.1 hy).1;have hsz:=H.rows.size hi;have ks:=H.ks;have kg:=H.kg;have hsg:s≠g:=aB ks kg (aM (by decide));have hug:u≠g:=aB H.ku kg (aM (by decide));have hi2:(i:Int)<(R.length:Int):=by omega
 generalize hmany:R.countP Option.isSome=many at *;generalize hrl:R.length=rl at *;have HE:=Hi (Ai hmany (Ai hrl (Ai hsg hug)));clear H hy hmany hrl;go_enter Tryz.func120,Tryz.ntmps120;go_upto_region 0 with fail;have Lks:=aA ks;have Lkg:=aA kg;refine ZP0 [3,0] ?_;refine Zb fun p5 hp5=> ?_;refine Zv ?_;refine TD.nil (fun w1 hr=> ?_);have ks:=hr.mod.at ks (fun h=>h);have kg:=hr.mod.at kg (fun h=>h);obtain⟨gp5,kp5⟩:=hr.b p5;have m1:=hr.mod;clear hr;go_wp2_with fail;go_at_call 91;refine(hasY_c (HH.out.1.mod0 m1) HH.out.2).mono ?_;rintro e w2 ⟨rfl,rfl⟩;go_upto_region 3 with fail;have Lks:=aA ks;have Lkp5:=aA kp5;have Lkg:=aA kg;refine ZP [0,0,0,1,0,1,0,5] ?_
 iterate 7 first|refine Zv ?_|refine Zd ?_
 refine Zi fun wE hr=> ?_;have ks:=hr.mod.at0 ks;have kp5:=hr.mod.at0 kp5;have kg:=hr.mod.at0 kg;have mE:=hr.mod;refine ZS ?_;refine ZN kg fun w3 kg mS=> ?_;(try simp only[Array.setIfInBounds,zL]at kg);have ks:=mS.at_ne ks (by omega);have kp5:=mS.at_ne kp5 (by omega);have m3:Mod (fun b=>b=g) w w3:=((m1.then0 mE).mono (fun _ _ h=>h.elim)).then mS (fun _ _ h=>h);clear hr mE mS;go_wp2_with fail;go_ret;have hz:(dL z).size=51:=bD z;have hi3:i<R.length:=(aZa.1 HH.out.2).1;refine⟨rfl,wr cur (i*51) (dL z).toList,?_,m3⟩;have H:=HH.out.1;have hcnt:(R.set i (some z)).countP Option.isSome=R.countP Option.isSome:=by
  rw[List.countP_set hi3];have h9:R[i]=some y:=(aZa.1 HH.out.2).2;have hp:0<R.countP Option.isSome:=List.countP_pos_iff.2 ⟨R[i],aXt _,by rw[h9];rfl⟩;simp[h9];omega
 refine⟨?_,?_,H.rows.set hi3 hz (fun y' e=>by cases e;rfl),?_,?_,by rw[aZn];exact H.len⟩
 ·rw[aZn,hcnt];exact m3.at H.ks (HE.out.2.2.1)
 ·rw[kg];congr 2;exact yO hz
 ·exact m3.at H.ku (HE.out.2.2.2)
 ·refine⟨by rw[aZn];exact H.words.1,fun j x hx=>⟨(H.words.2 j x hx).1,fun k hk=> ?_⟩⟩;rw[(H.words.2 j x hx).2 k hk,uA hi3];split
  ·rename_i e;rw[e,qC HH.out.2];rfl
  ·rfl
theorem lK.set (h:lK R us) {i:Nat} (hi:i<R.length) {o:Option bU} {x:Nat} (hx:x<2^64) (hb:∀k,k<64→x.testBit k=if k=i % 64 then o.isSome else rD R (64*(i/64)+k)):lK (R.set i o) (us.set (i/64) x):=by
 obtain⟨h1,h2⟩:=h;refine⟨by rw[aZn,aZn];exact h1,fun j y hy=> ?_⟩;by_cases hj:j=i/64
 ·subst hj;rw[List.getElem?_set_self (by rw[h1];omega)]at hy;cases hy;refine⟨hx,fun k hk=> ?_⟩;rw[hb k hk,uA hi];by_cases hki:k=i % 64
  ·rw[if_pos hki,if_pos (by omega)]
  ·rw[if_neg hki,if_neg (by omega)]
 ·rw[aZ0 (fun e=>hj e.symm)]at hy;refine⟨(h2 j y hy).1,fun k hk=> ?_⟩;rw[(h2 j y hy).2 k hk,uA hi,if_neg (by omega)]
theorem sK {us:List Nat} {j x:Nat}:(us.map wcell).toArray.setIfInBounds j (.int .u64 (x:Int))=((us.set j x).map wcell).toArray:=by
 rw[aX4];simp[wcell]
theorem rR {i:Nat} {o o':Option bU} (h:R[i]? =some o):((R.set i o').countP Option.isSome:Int)=(R.countP Option.isSome:Int)-(if o.isSome then 1 else 0)+(if o'.isSome then 1 else 0):=by
 obtain⟨hi,h9⟩:=aZa.1 h;rw[List.countP_set hi,h9];have hp:o.isSome=true→0<R.countP Option.isSome:=fun e=>List.countP_pos_iff.2 ⟨R[i],aXt _,by rw[h9];exact e⟩;cases ho:o.isSome
 ·cases o'.isSome<;>simp
 ·have:=hp ho;cases o'.isSome<;>simp<;>omega
theorem wS (i:Nat):IntKind.u64.wrap ((2:Int)^(i % 64))=((2^(i % 64):Nat):Int)∧2^(i % 64)<18446744073709551616:=by
 have he:i % 64<64:=aWt _ (by omega);have hp0:2^(i % 64)<2^64:=Nat.pow_lt_pow_right (by omega) he;rw[show(2:Int)^(i % 64)=((2^(i % 64):Nat):Int)by simp];generalize 2^(i % 64)=P at *;rw[IntKind.wrap_u64];omega
theorem sR {x i:Nat} (hlt:x<18446744073709551616):∃P xn:Nat,IntKind.u64.wrap ((2:Int)^(i % 64))=(P:Int)∧bits .andNot .u64 (x:Int) (P:Int)=(xn:Int)∧xn<18446744073709551616∧∀k,k<64→xn.testBit k=if k=i % 64 then false else x.testBit k:=by
 obtain⟨h1,h2⟩:=wS i;refine⟨_,_,h1,u64_andNot_nat _ _ hlt h2,Nat.and_lt_two_pow (n:=64) _ ?_,fun k hk=> ?_⟩
 ·generalize 2^(i % 64)=P at *;omega
 rw[aX6,show 18446744073709551615-2^(i % 64)=2^64-1-2^(i % 64)from rfl,mR h2,aXp,Dt hk];by_cases hki:k=i % 64
 ·rw[if_pos hki,Dt hki.symm];simp
 ·rw[if_neg hki,show decide (i % 64=k)=false from Df (fun e=>hki e.symm)];simp
theorem GS {x i:Nat} (hlt:x<18446744073709551616):∃P xn:Nat,IntKind.u64.wrap ((2:Int)^(i % 64))=(P:Int)∧bits .or .u64 (x:Int) (P:Int)=(xn:Int)∧xn<18446744073709551616∧∀k,k<64→xn.testBit k=if k=i % 64 then true else x.testBit k:=by
 obtain⟨h1,h2⟩:=wS i;refine⟨_,_,h1,u64_or_nat _ _ hlt h2,Nat.or_lt_two_pow (n:=64) hlt h2,fun k hk=> ?_⟩;rw[Nat.testBit_or,aXp];by_cases hki:k=i % 64
 ·rw[if_pos hki,Dt hki.symm];simp
 ·rw[if_neg hki,show decide (i % 64=k)=false from Df (fun e=>hki e.symm)];simp
theorem KJ (H:qW w s g u R cur us) {i:Nat} {y:bU} (hy:R[i]? =some (some y)):Calls Tryz.prog 54 #[ptrV s,.int .i64 (i:Int)] w fun e w'=>e= .returned (.int .i64 0)∧∃cur' us',qW w' s g u (R.set i none) cur' us'∧Mod (fun b=>b=g∨b=u∨b=s) w w':=by
 have HH:=Hi (Ai H hy);have hi:=(aZa.1 hy).1;have hsz:=H.rows.size hi;have ks:=H.ks;have kg:=H.kg;have ku:=H.ku;obtain⟨x,hx,hlt,hbs,hb⟩:=H.word hi;have hc:=nR hx;have hsg:s≠g:=aB ks kg (aM (by decide));have hug:u≠g:=aB ku kg (aM (by decide));have hsu:s≠u:=aB ks ku (aM (by decide));have hgu:g≠u:=Ne.symm hug;have hgs:g≠s:=Ne.symm hsg;have hus:u≠s:=Ne.symm hsu;have hi2:(i:Int)<(R.length:Int):=by omega
 have hj:i/64<us.length:=(aZa.1 hx).1;have hl:i≤4095:=by have:=H.len;omega
 have hmp:0<R.countP Option.isSome∧R.countP Option.isSome≤4096:=⟨List.countP_pos_iff.2 ⟨R[i],aXt _,by rw[(aZa.1 hy).2];rfl⟩,aYb List.countP_le_length H.len.2⟩;generalize hmany:R.countP Option.isSome=many at *;generalize hrl:R.length=rl at *;generalize hul:us.length=ul at *;generalize hU:(us.map wcell).toArray=U at *;have hUs:i/64<U.size:=by rw[←hU];simp;omega
 have hms:IntKind.i64.wrap ((many:Int)-1)=((many-1:Nat):Int):=by
  rw[IntKind.wrap_i64];omega
 have q1:IntKind.i64.wrap ((i:Int)/64)=((i/64:Nat):Int):=by
  rw[IntKind.wrap_i64];omega
 have q2:Int.tmod (i:Int) 64=((i % 64:Nat):Int):=by
  rw[aWf (by omega)];omega
 have he:i % 64<64:=aWt _ (by omega);have he2:((i % 64:Nat):Int)≤64:=by omega
 have he3:i % 64≤64:=by omega
 obtain⟨P,xn,q3,q4,hn2,hn3⟩:=sR (i:=i) hlt;have hc2:∀h:i/64<U.size,U[i/64]= .int .u64 (x:Int):=fun h=>aU hc h;have HE:=Hi (Ai hmany (Ai hrl (Ai hul (Ai hU (Ai hx (Ai hlt (Ai hn2 (Ai hn3 hbs))))))));clear H hy hmany hrl hul hU hx hbs hb hn2 hn3;generalize hdd:i/64=d at *;generalize hee:i % 64=ee at *;have HDE:=Hi (Ai hdd hee);clear hdd hee;go_enter Tryz.func54,Tryz.ntmps54;go_wp2_with fail;go_at_call 91;refine(hasY_c HH.out.1 HH.out.2).mono ?_;rintro e w1 ⟨rfl,rfl⟩;go_upto_region 3 with fail;have Lks:=aA ks;have Lkg:=aA kg;have Lku:=aA ku;refine ZP0 [3] ?_;refine Za eT fun p6 hp6=> ?_;refine TD.nil (fun w2 hr=> ?_);have ks:=hr.mod.at ks (fun h=>h);have kg:=hr.mod.at kg (fun h=>h);have ku:=hr.mod.at ku (fun h=>h);obtain⟨gp6,kp6⟩:=hr.b p6;have m2:=hr.mod;clear hr;go_upto_region 4 with fail;have Lks:=aA ks;have Lku:=aA ku;have Lkp6:=aA kp6;have Lkg:=aA kg;refine ZP [0,0,0,1,0,1,0,5] ?_
 iterate 7 first|refine Zv ?_|refine Zd ?_
 refine Zi fun wE hr=> ?_;have ks:=hr.mod.at0 ks;have ku:=hr.mod.at0 ku;have kp6:=hr.mod.at0 kp6;have kg:=hr.mod.at0 kg;have mE:=hr.mod;refine ZS ?_;refine ZN kg fun w3 kg mS=> ?_;(try simp only[Array.setIfInBounds,zL]at kg);have ks:=mS.at_ne ks (by omega);have ku:=mS.at_ne ku (by omega);have kp6:=mS.at_ne kp6 (by omega);have m3:Mod (fun b=>b=g) w1 w3:=((m2.then0 mE).mono (fun _ _ h=>h.elim)).then mS (fun _ _ h=>h);clear hr mE mS;go_upto_region 5 with fail;have Lks:=aA ks;have Lkg:=aA kg;have Lku:=aA ku;refine ZP [0,0,0,1,0,0,0,1,0,0,0,0,0,5] ?_
 iterate 13 first|refine Zv ?_|refine Zd ?_
 refine Zi fun wE hr=> ?_;have ks:=hr.mod.at0 ks;have kg:=hr.mod.at0 kg;have ku:=hr.mod.at0 ku;have mE:=hr.mod;refine ZS ?_;refine ZN ku fun w4 ku mS=> ?_;have ks:=mS.at_ne ks (by omega);have kg:=mS.at_ne kg (by omega);have m4:Mod (fun b=>b=g∨b=u) w1 w4:=((m3.then0 mE).mono (fun _ _ h=> .inl h)).then mS (fun _ _ h=> .inr h);clear hr mE mS;go_upto_region 6 with fail;have Lkg:=aA kg;have Lku:=aA ku;have Lks:=aA ks;refine ZP0 [0,0,0,1,0,0,0,5] ?_
 iterate 7 first|refine Zv ?_|refine Zd ?_
 refine Zi fun wE hr=> ?_;have kg:=hr.mod.at0 kg;have ku:=hr.mod.at0 ku;have ks:=hr.mod.at0 ks;have mE:=hr.mod;refine ZS ?_;refine ZN ks fun w5 ks mS=> ?_;(try simp only[Array.setIfInBounds,zL]at ks);have kg:=mS.at_ne kg (by omega);have ku:=mS.at_ne ku (by omega);have m5:Mod (fun b=>b=g∨b=u∨b=s) w1 w5:=((m4.then0 mE).mono (fun i _ h=>by rcases h with h|h<;>simp[h])).then mS (fun _ _ h=> .inr (.inr h));clear hr mE mS;go_wp2_with fail;go_ret;obtain⟨H,hy⟩:=HH.out;obtain⟨hmany,hrl,hul,hU,hx,hlt,hn2,hn3,hbs⟩:=HE.out;obtain⟨hdd,hee⟩:=HDE.out;have hz:zItem.size=51:=bG;have hi3:i<R.length:=by omega
 have hcnt:=rR hy (o':=none);have hcnt2:(R.set i none).countP Option.isSome=many-1:=by
  simp only[Option.isSome_some,if_true,Option.isSome_none,aZr,if_false]at hcnt;omega
 refine⟨rfl,wr cur (i*51) zItem.toList,us.set d xn,?_,m5⟩;refine⟨?_,?_,H.rows.set hi3 hz (fun y' e=>by cases e),?_,?_,by rw[aZn];exact H.len⟩
 ·rw[aZn,aZn,hcnt2,hrl,hul];exact ks
 ·rw[kg,yO hz]
 ·rw[ku,←hU,sK]
 ·rw[←hdd];refine H.words.set hi3 hn2 (fun k hk=> ?_);rw[hn3 k hk,hee];by_cases hke:k=ee
  ·rw[if_pos hke,if_pos hke];rfl
  ·rw[if_neg hke,if_neg hke,hdd];exact hbs k hk
end
end
section
attribute [local go_sem↓] dH bZ dF
attribute [local go_sem] aH aC aN aK aP aF aO Value.cells bD bW dB bG FM cD cF
section
variable {w:World} {s g u:Nat} {R:List (Option bU)} {cur:Array Value} {us:List Nat}
theorem MF {x:Nat} (hx:x<2^64):bits .xor .u64 IntKind.u64.max (x:Int)=((2^64-1-x:Nat):Int):=by
 have h:=u64_xor_nat 18446744073709551615 x (by omega) hx;rw[show IntKind.u64.max=((18446744073709551615:Nat):Int)by decide,h];congr 1;apply aXb;intro i;rw[Nat.testBit_xor,mR hx,show 18446744073709551615=2^64-1 from rfl,aWa];by_cases hi:i<64
 ·simp[hi]
 ·rw[Df hi,aXg (aZd hx (aXa (by omega) (by omega)))];rfl
def oZ (R:List (Option bU)) (n:Nat):Prop:=R[n]? =some none∧∀i,i<n→rD R i=true
theorem vW (hf:R.countP Option.isSome≠R.length):∃i,i<R.length∧rD R i=false:=by
 have h1:¬∀a∈R,Option.isSome a=true:=fun h=>hf (List.countP_eq_length.2 h)
 have:∃a∈R,a=none:=by
  refine Classical.byContradiction fun hc=>h1 fun a ha=> ?_;cases a with
  |none=>exact absurd ⟨none,ha,rfl⟩ hc
  |some y=>rfl
 obtain⟨a,ha,rfl⟩:=this;obtain⟨i,hi⟩:=aZ8.1 ha;exact⟨i,(aZa.1 hi).1,qB hi⟩
theorem P5 (H:qW w s g u R cur us) (hw:dS w) (hf:R.countP Option.isSome≠R.length) (y:bU):Calls Tryz.prog 49 #[ptrV s,.agg (dL y)] w fun e w'=>∃n:Nat,oZ R n∧e= .returned (.tuple #[.int .i64 (n:Int),.int .i64 0])∧∃cur' us',qW w' s g u (R.set n (some y)) cur' us'∧Mod (fun b=>b=g∨b=u∨b=s) w w':=by
 obtain⟨i0,hi0,ho0⟩:=vW hf;have HH:=Hi (Ai H (Ai hi0 ho0));have ks:=H.ks;have kg:=H.kg;have ku:=H.ku;have hsg:s≠g:=aB ks kg (aM (by decide));have hug:u≠g:=aB ku kg (aM (by decide));have hsu:s≠u:=aB ks ku (aM (by decide));have hgu:g≠u:=Ne.symm hug;have hgs:g≠s:=Ne.symm hsg;have hus:u≠s:=Ne.symm hsu;have hmp:R.countP Option.isSome<4096:=aZd (Nat.lt_of_le_of_ne List.countP_le_length hf) H.len.2;have hrl4:=H.len.2;have hulr:=H.words.1;have hde:((R.countP Option.isSome:Int)==(R.length:Int))=false:=by
  rw[beq_eq_false_iff_ne];exact fun e=>hf (by exact_mod_cast e)
 generalize hmany:R.countP Option.isSome=many at *;generalize hrl:R.length=rl at *;generalize hul:us.length=ul at *;generalize hU:(us.map wcell).toArray=U at *;have HE:=Hi (Ai hmany (Ai hrl (Ai hul (Ai hU hulr))));have hulB:ul≤64:=by omega
 clear H hi0 ho0 hmany hrl hul hU hulr hf;go_enter Tryz.func49,Tryz.ntmps49;go_upto_region 0 with fail;have Lks:=aA ks;have Lkg:=aA kg;have Lku:=aA ku;refine ZP0 [3,0,0] ?_;refine Zb fun p3 hp3=> ?_
 iterate 2 refine Zv ?_
 refine TD.nil (fun w1 hr=> ?_);have ks:=hr.mod.at ks (fun h=>h);have kg:=hr.mod.at kg (fun h=>h);have ku:=hr.mod.at ku (fun h=>h);obtain⟨gp3,kp3⟩:=hr.b p3;have m1:=hr.mod;have hw1:=Hi (hw.mod0 hr.mod);clear hr hw
 go_upto_block 0 with fail
 refine wp_scope_straight ?_;refine wp_seq_k fun K hK=> ?_;refine wp_block ?_;go_upto_region 3 with fail;have Lks:=aA ks;have Lkg:=aA kg;have Lku:=aA ku;have Lkp3:=aA kp3;refine ZP [0,0,0,1,0,0,0,1,0,0,0] ?_
 iterate 11 first|refine Zv ?_|refine Zd ?_
 refine TD.nil (fun w2 hr=> ?_);have ks:=hr.mod.at ks (fun h=>h);have kg:=hr.mod.at kg (fun h=>h);have ku:=hr.mod.at ku (fun h=>h);have kp3:=hr.mod.at kp3 (fun h=>h);have m2:=m1.then0 hr.mod;have hw2:=Hi (hw1.out.mod0 hr.mod);clear hr hw1;go_wp2_with fail
 go_step3
 go_wp2_with fail;go_loopw [35,4,6,7,8] (fun s35 s4 s6 s7 s8 ws=>∃j:Nat,j≤ul∧s35= .int .i64 (j:Int)∧Hid (∀i,i<64*j→rD R i=true)∧ws=w2) (fun s35 _ _ _ _ _=>ul-(intOf s35).toNat)
 case atStart=>exact⟨0,by omega,rfl,Hi (fun i hi=>by omega),rfl⟩
 case round=>
  obtain⟨j,hj,rfl,HO,rfl⟩:=hrel;by_cases hlt:j<ul
  ·obtain⟨hmany,hrl,hul,hU,hulr⟩:=HE.out;have hx:=aZb (l:=us) (i:=j) (by omega);generalize us[j]=x at hx;obtain⟨hx64,hbs⟩:=HH.out.1.words.2 j x hx;have hc:U[j]? =some (.int .u64 (x:Int)):=by rw[←hU];exact nR hx
   have hc2:∀h:j<U.size,U[j]= .int .u64 (x:Int):=fun h=>aU hc h;have hcb:=mR hx64;have hwc:bits .xor .u64 IntKind.u64.max (x:Int)=((2^64-1-x:Nat):Int):=MF hx64;have hns:IntKind.u64.signed=false:=rfl;have hy64:2^64-1-x<2^64:=by omega
   generalize 2^64-1-x=z at *;have HX:=Hi (Ai hx (Ai hx64 (Ai hbs (Ai hcb hy64))));clear hmany hrl hul hU hulr hx hx64 hbs hcb hy64;go_wp2_with fail;go_at_call 87;rcases aWk z with rfl|hz
   ·refine(UA _).mono ?_;rintro e w3 ⟨rfl,rfl⟩;go_wp2_with fail;go_roundw
    case rel=>exact⟨j+1,by omega,by go_num,Hi (fun i hi=>by
     by_cases h9:i<64*j
     ·exact HO.out i h9
     ·obtain⟨_,_,hbs,hcb,_⟩:=HX.out;have h8:=hcb (i-64*j);rw[Nat.zero_testBit,Dt (by omega),aWs]at h8;have h7:=hbs (i-64*j) (by omega);rw[show 64*j+(i-64*j)=i by omega]at h7;rw[←h7];simpa using h8.symm),trivial⟩
    case measure=>simp[intOf];omega
   ·obtain⟨k,h1,h0⟩:=CV hz;have hk:=o9 HX.out.2.2.2.2 h1;have hkd:=Dt hk;refine(UC HX.out.2.2.2.2 h1 h0 hw2.out).mono ?_;rintro e w3 ⟨rfl,rfl⟩;have HK:=Hi (Ai h1 h0);clear h1 h0;obtain⟨n,hn,hnI⟩:∃n:Nat,n=64*j+k∧(j:Int)*64+(k:Int)=(n:Int):=⟨64*j+k,rfl,by omega⟩;have hfree:oZ R n:=by
     obtain⟨hmany,hrl,hul,hU,hulr⟩:=HE.out;obtain⟨_,_,hbs,hcb,_⟩:=HX.out;obtain⟨h1,h0⟩:=HK.out;have hbelow:∀i,i<n→rD R i=true:=fun i hi=>by
      by_cases h9:i<64*j
      ·exact HO.out i h9
      ·have h8:=hcb (i-64*j);rw[h0 _ (by omega),Dt (by omega),aWs]at h8;have h7:=hbs (i-64*j) (by omega);rw[show 64*j+(i-64*j)=i by omega]at h7;rw[←h7];simpa using h8.symm
     have hnot:rD R n=false:=by
      have h8:=hcb k;rw[h1,Dt hk,aWs]at h8;rw[hn,←hbs k hk];simpa using h8.symm
     obtain⟨H,hi0,ho0⟩:=HH.out;have hnl:n<R.length:=by
      rcases aYt i0 n with h|h
      ·rw[hbelow i0 h]at ho0;cases ho0
      ·omega
     refine⟨?_,hbelow⟩;cases hR:R[n]? with
     |none=>rw[List.getElem?_eq_none_iff]at hR;omega
     |some o=>
      cases o with
      |none=>rfl
      |some y=>rw[qC hR]at hnot;cases hnot
    have hnl:n<R.length:=(aZa.1 hfree.1).1;have hsz:=HH.out.1.rows.size hnl;have hrlE:=HE.out.2.1;have hnr:n<rl:=by omega
    have hnr2:(n:Int)<(rl:Int):=by omega
    have hn4:n≤4095:=by omega
    obtain⟨P,xn,q3,q4,hn2,hn3⟩:=GS (i:=n) HX.out.2.1;have hmk:n % 64=k:=by omega
    have hdj:n/64=j:=by omega
    rw[hmk]at q3;have q1:IntKind.i64.wrap ((n:Int)/64)=(j:Int):=by
     rw[IntKind.wrap_i64];omega
    have q2:Int.tmod (n:Int) 64=(k:Int):=by
     rw[aWf (by omega)];omega
    have q5:IntKind.i64.wrap ((many:Int)+1)=((many+1:Nat):Int):=by
     rw[IntKind.wrap_i64];omega
    have hk3:k≤64:=by omega
    have HN:=Hi (Ai hfree (Ai hn (Ai hn2 (Ai hn3 (Ai hmk hdj)))));clear hfree hn hn2 hn3 hmk hdj hnl hrlE;go_upto_region 12 with fail;clear hnI;have Lks:=aA ks;have Lkg:=aA kg;have Lkp3:=aA kp3;have Lku:=aA ku;refine ZP [0,0,0,1,0,0,0,1,0,0,0,0,0,5] ?_
    iterate 13 first|refine Zv ?_|refine Zd ?_
    refine Zi fun wE hr=> ?_;have ks:=hr.mod.at0 ks;have kg:=hr.mod.at0 kg;have kp3:=hr.mod.at0 kp3;have ku:=hr.mod.at0 ku;have mE:=hr.mod;refine ZS ?_;refine ZN ku fun w4 ku mS=> ?_;have ks:=mS.at_ne ks (by omega);have kg:=mS.at_ne kg (by omega);have kp3:=mS.at_ne kp3 (by omega);have m4:Mod (fun b=>b=u) w3 w4:=(mE.mono (fun _ _ h=>h.elim)).then mS (fun _ _ h=>h);clear hr mE mS;go_upto_region 13 with fail;have Lks:=aA ks;have Lku:=aA ku;have Lkp3:=aA kp3;have Lkg:=aA kg;refine ZP [0,0,0,1,0,1,0,5] ?_
    iterate 7 first|refine Zv ?_|refine Zd ?_
    refine Zi fun wE hr=> ?_;have ks:=hr.mod.at0 ks;have ku:=hr.mod.at0 ku;have kp3:=hr.mod.at0 kp3;have kg:=hr.mod.at0 kg;have mE:=hr.mod;refine ZS ?_;refine ZN kg fun w5 kg mS=> ?_;(try simp only[Array.setIfInBounds,zL]at kg);have ks:=mS.at_ne ks (by omega);have ku:=mS.at_ne ku (by omega);have kp3:=mS.at_ne kp3 (by omega);have m5:Mod (fun b=>b=g∨b=u) w3 w5:=((m4.then0 mE).mono (fun _ _ h=> .inr h)).then mS (fun _ _ h=> .inl h);clear hr mE mS;go_upto_region 14 with fail;have Lkg:=aA kg;have Lku:=aA ku;have Lks:=aA ks;refine ZP0 [0,0,0,1,0,0,0,5] ?_
    iterate 7 first|refine Zv ?_|refine Zd ?_
    refine Zi fun wE hr=> ?_;have kg:=hr.mod.at0 kg;have ku:=hr.mod.at0 ku;have ks:=hr.mod.at0 ks;have mE:=hr.mod;refine ZS ?_;refine ZN ks fun w6 ks mS=> ?_;(try simp only[Array.setIfInBounds,zL]at ks);have kg:=mS.at_ne kg (by omega);have ku:=mS.at_ne ku (by omega);have m6:Mod (fun b=>b=g∨b=u∨b=s) w3 w6:=((m5.then0 mE).mono (fun i _ h=>by rcases h with h|h<;>simp[h])).then mS (fun _ _ h=> .inr (.inr h));clear hr mE mS;have mF:=(m2.mono (T:=fun b=>b=g∨b=u∨b=s) (fun _ _ h=>h.elim)).trans m6;go_wp2_with fail
    try rw[Exit.noGoto_ret]
    obtain⟨H,hi0,ho0⟩:=HH.out;obtain⟨hmany,hrl,hul,hU,hulr⟩:=HE.out;obtain⟨hfree,hn,hn2,hn3,hmk,hdj⟩:=HN.out;have hz:(dL y).size=51:=bD y;have hnl:n<R.length:=by omega
    have hcnt:=rR hfree.1 (o':=some y);have hcnt2:(R.set n (some y)).countP Option.isSome=many+1:=by
     simp only[Option.isSome_some,if_true,Option.isSome_none,aZr,if_false]at hcnt;omega
    refine bodyPost_ret (results_tmp2 rfl _ _ _) rfl ⟨n,hfree,rfl,wr cur (n*51) (dL y).toList,us.set j xn,?_,mF⟩;refine⟨?_,?_,H.rows.set hnl hz (fun y' e=>by cases e;rfl),?_,?_,by rw[aZn];exact H.len⟩
    ·rw[aZn,aZn,hcnt2,hrl,hul];exact ks
    ·rw[kg,yO hz]
    ·rw[ku,←hU,sK]
    ·rw[←hdj];refine H.words.set hnl hn2 (fun k' hk'=> ?_);rw[hn3 k' hk'];by_cases hke:k'=n % 64
     ·rw[if_pos hke,if_pos hke];rfl
     ·rw[if_neg hke,if_neg hke,hdj];exact HX.out.2.2.1 k' hk'
  ·exfalso;obtain⟨hmany,hrl,hul,hU,hulr⟩:=HE.out;obtain⟨H,hi0,ho0⟩:=HH.out;rw[HO.out i0 (by omega)]at ho0;cases ho0
end
end
section
attribute [local go_sem↓] dH bZ dF
attribute [local go_sem] aH aC aN aK aP aF aO Value.cells FM
section
variable {w:World} {s g u:Nat} {R:List (Option bU)} {cur:Array Value} {us:List Nat}
end
end
section
section
variable {P:Program} {ops:Array Oper} {Q:Exit→Act→World→Prop} {S:World→Prop} {C:FuncId→Array Value→Value→Prop} {w0:World} {κ:Nat→Nat}
theorem TD.mks {i:Nat} {r:List Nat} {a:Act} {B:Bx} {o:Oper} {d:Tmp} {T E:TypeId} {n m:Nat} {x y:Operand} {X Y:Value} {z:Array Value} (ho:ops[i]? =some o) (hk:κ i=3)
  (hw:Region.wanted o (yielded ops a.tmps)=true) (hd:o.dst=some d) (hop:o.op= .makeSlice T x y) (hx:a.eval x=X) (hy:a.eval y=Y)
  (hr:∀w,(Instr.makeSlice T X Y).run P w= .ok (.slice (some ⟨w.heap.size,0,none⟩) n m) (w.alloc (.cells z E)))
  (h:∀p,B p=none→TD P ops Q S C w0 κ r (a.put o.dst (.slice (some ⟨p,0,none⟩) n m)) (B.set p ⟨z,E,d⟩)):TD P ops Q S C w0 κ (i::r) a B:=
 .alloc (fun p=> .slice (some ⟨p,0,none⟩) n m) ho hk hw hd (fun w=>by subst hx;subst hy;simp[execOp,hop,hr w]) h
end
end
section
attribute [local go_sem↓] dH bZ dF
attribute [local go_sem] aH aC aN aK aP aF aO Value.cells FM
theorem F9:∃i0,Tryz.prog.info? 82=some i0∧i0.zero=some (.agg zItem)∧i0.size=51∧i0.bytes≤1000:=by
 obtain⟨i0,hi,hz0,hz1,hz2⟩:=info_parts (show(Tryz.prog.info? 82).map (fun i=>(i.zero,i.size,i.bytes))=some (some (.agg zItem),51,248)by kernel_rfl);exact⟨i0,hi,hz0,hz1,by omega⟩
theorem KR:∃i0,Tryz.prog.info? 23=some i0∧i0.zero=some (.int .u64 0)∧i0.size=1∧i0.bytes=8:=by
 obtain⟨i0,hi,hz0,hz1,hz2⟩:=info_parts (show(Tryz.prog.info? 23).map (fun i=>(i.zero,i.size,i.bytes))=some (some (.int .u64 0),1,8)by kernel_rfl);exact⟨i0,hi,hz0,hz1,hz2⟩
theorem D0 (n:Nat):lK (List.replicate n none) (List.replicate ((n+63)/64) 0):=by
 refine⟨by simp,fun j x hx=> ?_⟩;obtain⟨_,hx⟩:=aZa.1 hx;rw[aX2]at hx;subst hx;refine⟨by omega,fun k hk=> ?_⟩;rw[Nat.zero_testBit];symm;unfold rD;rw[aY3];split<;>rfl
theorem JY (a b:Addr) (n m:Nat) (w:World):(Instr.build 209 #[(0,.slice (some a) n n),(1,.slice (some b) m m)]).run Tryz.prog w= .ok (.agg #[.slice (some a) n n,.slice (some b) m m,.int .i64 0]) w:=by kernel_rfl
theorem newY_c (w:World) {n:Nat} (h1:1≤n) (h2:n≤4096):Calls Tryz.prog 79 #[.int .i64 (n:Int)] w fun e w'=>∃s g u cur us,e= .returned (.tuple #[ptrV s,.int .i64 0])∧qW w' s g u (List.replicate n none) cur us∧w.heap.size≤s∧w.heap.size≤g∧w.heap.size≤u∧Mod (fun _=>False) w w':=by
 obtain⟨i0,hi,hz,hz1,hz2⟩:=F9;obtain⟨i1,hi1,hzu,hzu1,hzu2⟩:=KR;have hmk:∀w,(Instr.makeSlice 79 (.int .i64 (n:Int)) (.int .i64 (n:Int))).run Tryz.prog w= .ok (.slice (some ⟨w.heap.size,0,none⟩) n n) (w.alloc (.cells (madeCells zItem (n*i0.size)) 82)):=fun w=>by
  have hb:(i0.bytes:Int)*(n:Int)≤281474976710656:=by
   have:i0.bytes*n≤1000*4096:=Nat.mul_le_mul hz2 h2;have h3:(i0.bytes:Int)*(n:Int)=((i0.bytes*n:Nat):Int):=by simp
   omega
  have:=run_make (P:=Tryz.prog) w 79 82 i0 _ Tryz.underlying79 hi hz .i64 .i64 (n:Int) (n:Int) (by omega) (by omega) hb (by omega);simpa[Value.cells] using this
 have hmk3:∀W:Nat,W≤100→∀w,(Instr.makeSlice 67 (.int .i64 (W:Int)) (.int .i64 (W:Int))).run Tryz.prog w= .ok (.slice (some ⟨w.heap.size,0,none⟩) W W) (w.alloc (.cells (madeCells #[.int .u64 0] (W*i1.size)) 23)):=fun W hW w=>by
  have:=run_make (P:=Tryz.prog) w 67 23 i1 _ Tryz.underlying67 hi1 hzu .i64 .i64 (W:Int) (W:Int) (by omega) (by omega) (by rw[hzu2];omega) (by omega);simpa[Value.cells] using this
 have hmk2:=hmk3 ((n+63)/64) (by omega);clear hmk3;rw[hzu1,aYp]at hmk2;rw[hz1]at hmk;have hcs:(madeCells zItem (n*51)).size=n*51:=size_madeCells _ _;have hus:madeCells #[.int .u64 0] ((n+63)/64)=((List.replicate ((n+63)/64) 0).map wcell).toArray:=by
  apply aZ1.1;rw[toList_madeCells_one];simp[wcell]
 rw[hus]at hmk2;have hd1:decide ((n:Int)<1)=false:=Df (by omega);have hd2:decide ((4096:Int)<(n:Int))=false:=Df (by omega);have q1:IntKind.i64.wrap ((n:Int)+64)=(n:Int)+64:=by rw[IntKind.wrap_i64];omega
 have q2:IntKind.i64.wrap ((n:Int)+64-1)=((n+63:Nat):Int):=by rw[IntKind.wrap_i64];omega
 have q3:IntKind.i64.wrap (((n+63:Nat):Int)/64)=(((n+63)/64:Nat):Int):=by rw[IntKind.wrap_i64];omega
 have hul:((List.replicate ((n+63)/64) 0).map wcell).length=(n+63)/64:=by simp
 have hbl:=JY;have HU:=Hi (Ai hul (D0 n));generalize madeCells zItem (n*51)=cur at *;generalize hW:(n+63)/64=W at *;generalize hUU:((List.replicate W 0).map wcell).toArray=U at *;have HUU:=Hi hUU;clear hUU;generalize n+63=n63 at *;have HC:=Hi (Ai hcs (Ai h1 h2));clear hi hz hz1 hz2 hi1 hzu hzu1 hzu2 hus hcs h1 h2 hul;go_enter Tryz.func79,Tryz.ntmps79;go_upto_region 3 with fail;refine ZP [0,3,0,0,0,0,3,0,3,0,0] ?_;refine Zv ?_;(refine TD.mks (by simp only[zK];rfl) rfl (by rfl) rfl rfl ?hx2 ?hz2 hmk (fun p11 hp11=> ?n2);(case hx2=>simp only[zM];try rfl);(case hz2=>simp only[zM];try rfl);try simp only[zL])
 iterate 4 refine Zv ?_
 (refine TD.mks (by simp only[zK];rfl) rfl (by rfl) rfl rfl ?hx7 ?hz7 hmk2 (fun p16 hp16=> ?n7);(case hx7=>simp only[zM];try rfl);(case hz7=>simp only[zM];try rfl);try simp only[zL]);obtain⟨ne_p16_p11,hp16⟩:=Bx.set_none hp16;refine Zu (hbl _ _ _ _) ?_;refine Zb fun p18 hp18=> ?_;obtain⟨ne_p18_p16,hp18⟩:=Bx.set_none hp18;obtain⟨ne_p18_p11,hp18⟩:=Bx.set_none hp18
 iterate 2 refine Zv ?_
 refine TD.nil (fun w1 hr=> ?_);obtain⟨gp11,kp11⟩:=hr.b p11 (by first|exact Bx.set_same _ _ _|(simp only[Bx.set_ne _ (Ne.symm ne_p16_p11),Bx.set_ne _ (Ne.symm ne_p18_p11),Bx.set_ne _ (Ne.symm ne_p18_p16),Bx.set_ne _ ne_p16_p11,Bx.set_ne _ ne_p18_p11,Bx.set_ne _ ne_p18_p16,Bx.set_same];rfl));obtain⟨gp16,kp16⟩:=hr.b p16 (by first|exact Bx.set_same _ _ _|(simp only[Bx.set_ne _ (Ne.symm ne_p16_p11),Bx.set_ne _ (Ne.symm ne_p18_p11),Bx.set_ne _ (Ne.symm ne_p18_p16),Bx.set_ne _ ne_p16_p11,Bx.set_ne _ ne_p18_p11,Bx.set_ne _ ne_p18_p16,Bx.set_same];rfl));obtain⟨gp18,kp18⟩:=hr.b p18 (by first|exact Bx.set_same _ _ _|(simp only[Bx.set_ne _ (Ne.symm ne_p16_p11),Bx.set_ne _ (Ne.symm ne_p18_p11),Bx.set_ne _ (Ne.symm ne_p18_p16),Bx.set_ne _ ne_p16_p11,Bx.set_ne _ ne_p18_p11,Bx.set_ne _ ne_p18_p16,Bx.set_same];rfl));have mm:=hr.mod;clear hr hmk hmk2 hbl;go_wp2_with fail;refine bodyPost_ret (results_tmp2 rfl _ _ _) rfl ⟨p18,p11,p16,cur,List.replicate W 0,rfl,?_,by omega,by omega,by omega,mm⟩;have hcnt:(List.replicate n (none:Option bU)).countP Option.isSome=0:=by rw[List.countP_eq_zero];intro a ha;rw[(List.mem_replicate.1 ha).2];simp
 refine⟨?_,kp11,⟨by rw[aZ9];exact HC.out.1,fun i y hy=> ?_⟩,?_,HU.out.2,by rw[aZ9];exact HC.out.2⟩
 ·rw[aZ9,aZ9,hcnt];exact kp18
 ·obtain⟨_,e⟩:=aZa.1 hy;rw[aX2]at e;cases e
 ·rw[HUU.out];exact kp16
end
end Go.Proofs.YtblbegbjlaokjaaGreatDoor