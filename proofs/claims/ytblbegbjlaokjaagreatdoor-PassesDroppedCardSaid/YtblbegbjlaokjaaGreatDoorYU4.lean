/- The lemmas of the proof, part YO4: how the program and its data lie in memory, and what its functions do. -/
import Derived.Test.YtblbegbjlaokjaaGreatDoorYU3
import Derived.Test.YtblbegbjlaokjaaGreatDoorProg
import Derived.Deep.QuietTactic
import Derived.Sort.Walk0
import Derived.Sort.Grow
import Derived.Deep.CutBlock
import Derived.Scope
import Derived.WalkMore
set_option linter.unusedSimpArgs false
set_option linter.unusedVariables false
set_option linter.unusedSectionVars false
set_option maxRecDepth 100000
set_option maxHeartbeats 6400000
namespace Go.Proofs
open Go.Shelf
def Tryz.sortG_ren:Go.Shelf.Ren:=⟨fun|6=>142|15=>157|14=>160|28=>174|29=>175|20=>176|21=>177|22=>178|23=>179|24=>180|25=>181|26=>182|27=>183|46=>189|47=>185|48=>186|49=>190|50=>191|57=>193|n=>n,fun|22=>236|24=>238|25=>245|3=>3|39=>260|0=>0|53=>307|55=>23|4=>4|46=>301|45=>300|50=>93|5=>5|9=>9|66=>313|70=>317|76=>321|77=>322|n=>n,fun|n=>n⟩
theorem Tryz.sortG:Go.Proofs.SlLaysF.n6 Tryz.prog Tryz.sortG_ren:= {
 mixed:=by kernel_rfl
 f6:=⟨Tryz.f142.name,by decide,Tryz.func142.trans (congrArg some (by kernel_rfl))⟩
 f14:=⟨Tryz.f160.name,by decide,Tryz.func160.trans (congrArg some (by kernel_rfl))⟩
 f15:=Tryz.func157.trans (congrArg some (by kernel_rfl))
 f20:=⟨Tryz.f176.name,by decide,Tryz.func176.trans (congrArg some (by kernel_rfl))⟩
 f21:=⟨Tryz.f177.name,by decide,Tryz.func177.trans (congrArg some (by kernel_rfl))⟩
 f22:=⟨Tryz.f178.name,by decide,Tryz.func178.trans (congrArg some (by kernel_rfl))⟩
 f23:=⟨Tryz.f179.name,by decide,Tryz.func179.trans (congrArg some (by kernel_rfl))⟩
 f24:=⟨Tryz.f180.name,by decide,Tryz.func180.trans (congrArg some (by kernel_rfl))⟩
 f25:=⟨Tryz.f181.name,by decide,Tryz.func181.trans (congrArg some (by kernel_rfl))⟩
 f26:=⟨Tryz.f182.name,by decide,Tryz.func182.trans (congrArg some (by kernel_rfl))⟩
 f27:=⟨Tryz.f183.name,by decide,Tryz.func183.trans (congrArg some (by kernel_rfl))⟩
 f28:=Tryz.func174.trans (congrArg some (by kernel_rfl))
 f29:=Tryz.func175.trans (congrArg some (by kernel_rfl))
 f46:=⟨Tryz.f189.name,by decide,Tryz.func189.trans (congrArg some (by kernel_rfl))⟩
 f47:=Tryz.func185.trans (congrArg some (by kernel_rfl))
 f48:=Tryz.func186.trans (congrArg some (by kernel_rfl))
 f49:=⟨Tryz.f190.name,by decide,Tryz.func190.trans (congrArg some (by kernel_rfl))⟩
 f50:=⟨Tryz.f191.name,by decide,Tryz.func191.trans (congrArg some (by kernel_rfl))⟩
 f57:=⟨Tryz.f193.name,by decide,Tryz.func193.trans (congrArg some (by kernel_rfl))⟩
 t0:=Tryz.underlying0
 a0:=Tryz.isAgg0
 z0:=Tryz.sizeOf0
 v0:=Tryz.zeroValue0
 t3:=Tryz.underlying3
 a3:=Tryz.isAgg3
 z3:=Tryz.sizeOf3
 v3:=Tryz.zeroValue3
 t4:=Tryz.underlying4
 a4:=Tryz.isAgg4
 z4:=Tryz.sizeOf4
 v4:=Tryz.zeroValue4
 t5:=Tryz.underlying5
 a5:=Tryz.isAgg5
 z5:=Tryz.sizeOf5
 v5:=Tryz.zeroValue5
 t9:=Tryz.underlying9
 a9:=Tryz.isAgg9
 z9:=Tryz.sizeOf9
 v9:=Tryz.zeroValue9
 t22:=Tryz.underlying236
 a22:=Tryz.isAgg236
 z22:=Tryz.sizeOf236
 v22:=Tryz.zeroValue236
 a24:=Tryz.isAgg238
 z24:=Tryz.sizeOf238
 t25:=Tryz.underlying245
 a25:=Tryz.isAgg245
 z25:=Tryz.sizeOf245
 v25:=Tryz.zeroValue245
 t39:=Tryz.underlying260
 a39:=Tryz.isAgg260
 z39:=Tryz.sizeOf260
 v39:=Tryz.zeroValue260
 t45:=Tryz.underlying300
 a45:=Tryz.isAgg300
 z45:=Tryz.sizeOf300
 v45:=Tryz.zeroValue300
 t46:=Tryz.underlying301
 a46:=Tryz.isAgg301
 z46:=Tryz.sizeOf301
 v46:=Tryz.zeroValue301
 t50:=Tryz.underlying93
 a50:=Tryz.isAgg93
 z50:=Tryz.sizeOf93
 v50:=Tryz.zeroValue93
 t53:=Tryz.underlying307
 a53:=Tryz.isAgg307
 z53:=Tryz.sizeOf307
 v53:=Tryz.zeroValue307
 t55:=Tryz.underlying23
 a55:=Tryz.isAgg23
 z55:=Tryz.sizeOf23
 v55:=Tryz.zeroValue23
 t66:=Tryz.underlying313
 a66:=Tryz.isAgg313
 z66:=Tryz.sizeOf313
 v66:=Tryz.zeroValue313
 t70:=Tryz.underlying317
 a70:=Tryz.isAgg317
 z70:=Tryz.sizeOf317
 v70:=Tryz.zeroValue317
 t76:=Tryz.underlying321
 a76:=Tryz.isAgg321
 z76:=Tryz.sizeOf321
 v76:=Tryz.zeroValue321
 t77:=Tryz.underlying322
 a77:=Tryz.isAgg322
 z77:=Tryz.sizeOf322
 v77:=Tryz.zeroValue322}
end Go.Proofs

namespace Go.Proofs.YtblbegbjlaokjaaGreatDoor
open Go.RowKit
open Go.ChangeMaps (setBlock)
section
attribute [local go_sem↓] gJ kG f9 uW gG vS
attribute [local go_sem] bH jH eB kO vJ vI CI vK aO aL aQ aI aP dR cW aJ aC Value.cells lM
def D8 (m:List (aN×Bool)) (r:aT):List (aN×Bool):=put r.k ((lkp r.k m).getD false||r.w) m
def howL (l:List aT):List (aN×Bool):=l.foldl D8 []
theorem iH (l:List aT) (r:aT):howL (l++[r])=D8 (howL l) r:=by simp[howL,aXl]
theorem tF {κ ν:Type} [DecidableEq κ] (k:κ) (u v:ν) (m:List (κ×ν)):put k v (put k u m)=put k v m:=by
 induction m with
 |nil=>simp[put]
 |cons p r ih=>
  by_cases h:p.1=k
  ·simp[put,h]
  ·simp[put,h,ih]
theorem uE (w:We):(zeroValue 3).run Tryz.prog w= .ok (bv false) w:=by kernel_rfl
theorem YE (w:We) (a b c:Obj) (h:w.heap.size+1+1<(((w.alloc a).alloc b).alloc c).heap.size):(((w.alloc a).alloc b).alloc c).heap[w.heap.size+1+1]'h=c:=by
 have h2:=(qS w a b c).2.2;rw[aYe h]at h2;exact aZz h2
attribute [local go_sem] YE
theorem UF (w:We):(Instr.alloc 3 true (.tuple #[])).run Tryz.prog w= .ok (.pointer (some ⟨w.heap.size,0,none⟩)) (w.alloc (.cells #[.int .i64 0] 3)):=aY (z:= .int .i64 0) (fun w=>by kernel_rfl) w
theorem CF {κ ν:Type} [DecidableEq κ] (k:κ) (v:ν):∀m:List (κ×ν),(put k v m).length≤m.length+1
 |[]=>by simp[put]
 |p::r=>by
  have:=CF k v r;unfold put;split
  ·simp
  ·simp;omega
theorem xI (l:List aT):(howL l).length≤l.length:=by
 induction l using bB with
 |h0=>simp[howL]
 |h1 l r ih=>
  rw[iH,aZg];unfold D8;have:=CF r.k ((lkp r.k (howL l)).getD false||r.w) (howL l);simp;omega
theorem dX.put0 {tag tag':wA} {w w':We} {g nb sb q a:Nat} {A:Wd} {N:List (Wi×Nat)} {S:List (aN×Nat)} {nd nd':Nat→Nr} {sp:Nat→Sr} (h:dX tag w g nb sb q A N S nd sp) (hm:Mod (fun i=>i=g) w w') (kg:w'.heap[g]? =some (.cells #[.map (some nb),.map (some sb),.int .i64 ((q+1:Nat):Int)] 182 (0,0)))
  (ht:∀i,i<w.heap.size→tag' i=tag i) (hx:wF tag' w' a (nd' a)) (ct:∀c∈A,nd' c=nd c):dX tag' w' g nb sb (q+1) (A++[a]) N S nd' sp:=by
 obtain⟨es,c,hk,M1⟩:=h.kn;obtain⟨es2,c2,jy,M2⟩:=h.ks;have hg:∀ {i p},tag i=some p→p≠(g,5)→¬i=g:=fun e aw hi=>by
  rw[hi,h.tg]at e;cases e;exact aw rfl
 refine⟨kg,⟨es,c,hm.at hk (hg h.tnb (by simp)),M1⟩,⟨es2,c2,hm.at jy (hg h.tsb (by simp)),M2⟩,fun b hb=> ?_,fun p hp=>(h.spots p hp).mod hm (fun i r e h3 h4=>hg e (by simp;omega)) ht,(ht _ (aA h.c)).trans h.tg,(ht _ (aA hk)).trans h.tnb,(ht _ (aA jy)).trans h.tsb⟩;rcases aZh.1 hb with hb|hb
 ·rw[ct b hb];exact(h.nodes b hb).mod hm (fun i r e h3=>hg e (by simp;omega)) ht
 ·obtain rfl:=aZm.1 hb;exact hx
theorem dX.ids {tag:wA} {w w':We} {g nb sb q:Nat} {A:Wd} {N N':List (Wi×Nat)} {S:List (aN×Nat)} {nd:Nat→Nr} {sp:Nat→Sr} (h:dX tag w g nb sb q A N S nd sp) (hm:Mod (fun i=>i=nb) w w') (hk:∃es c,w'.heap[nb]? =some (.map es c)∧aR uP ptrV es c N'):dX tag w' g nb sb q A N' S nd sp:=by
 obtain⟨es2,c2,jy,M2⟩:=h.ks;have hg:∀ {i p},tag i=some p→p≠(g,6)→¬i=nb:=fun e aw hi=>by
  rw[hi,h.tnb]at e;cases e;exact aw rfl
 exact⟨hm.at h.c (hg h.tg (by simp)),hk,⟨es2,c2,hm.at jy (hg h.tsb (by simp)),M2⟩,fun b hb=>(h.nodes b hb).mod hm (fun i r e h3=>hg e (by simp;omega)) (fun _ _=>rfl),fun p hp=>(h.spots p hp).mod hm (fun i r e h3 h4=>hg e (by simp;omega)) (fun _ _=>rfl),h.tg,h.tnb,h.tsb⟩
def pI (Q:Exit→Act→We→Prop):Exit→Act→We→Prop:=fun e a w=>(∀c,e≠ .panic c)∧e≠ .outgrown∧Q e a w
theorem VX {g q:Nat} {C:List Cn} {T:Nat→Prop} {w:We} (hA:AY g q C T w) (hT:∀i,T i→i<w.heap.size) (hq:q<900) (id:Wi) (a:Wb) (l:List aT) (c:Nat) (hl:aV w a l) (bw:l.length≤800) (hd:l≠[]→∀b o,a=some ⟨b,o,none⟩→¬T b) (dx:∀x∈C,x.id≠id):
  Calls Tryz.prog 102 #[ptrV g,.int .i64 id.toInt,.slice a l.length c] w fun e w'=>e= .returned (.int .i64 0)∧∃T',AY g (q+1) (C++[⟨id,eW C id (howL l),fun k=>lkp k (howL l)⟩]) T' w'∧Mod T w w'∧(∀i,T' i→T i∨w.heap.size≤i)∧∀i,T' i→i<w'.heap.size:=by
 obtain⟨tag,nb,sb,L,N,S,nd,sp,H,I,rfl,hO⟩:=hA;obtain⟨es,c0,kb,M⟩:=H.kn;have kh:=H.c;have iy:lkp id N=none:=by
  rcases I.look M.nodup id with⟨h1,_⟩|⟨x,hx,h1,_⟩
  ·exact h1
  ·exact absurd h1 (dx _ (aZj.2 ⟨x,hx,rfl⟩))
 have cd:=M.lookup IT Tryz.underlying179 (z:= .pointer none) (fun w=>by kernel_rfl) w kb id false;simp only[iy,Option.map_none,Option.getD_none,aZr,if_false]at cd;replace cd:(Instr.lookup 179 (.map (some nb)) (.int .i64 id.toInt) false).run Tryz.prog w= .ok (.pointer none) w:=cd;have Gk:= @run_makeMap Tryz.prog;have hpu:IntKind.i64.wrap ((q:Int)+1)=((q+1:Nat):Int):=by
  rw[IntKind.wrap_i64];omega
 have HH:=Hi H;have HI:=Hi I;have HO:=Hi hO;have HT:=Hi hT;have HL:=Hi hl;have HD:=Hi hd;have HN:=Hi iy;have MN:=Hi M;clear H I hO hT hl hd dx iy M;refine callsIn_wide.1 (callsIn_of_wp_marks (n:=0) Tryz.func102 rfl trivial ?_ rfl);simp only[Tryz.ntmps102,aYs,aZu,aYw,Nat.reduceAdd,Nat.reduceSub,aXd,aXc,aXo,aXj,aYq,aYg];refine wpIn_wide.2 ?_;refine wp_mono (Q:=pI _) ?_ (fun e a w h=>h.2.2);generalize Oa:bodyPostM Fence.wide 0 Tryz.prog _ _=Q0;have Lf:=Hi Oa;clear Oa;have hP:∀c a w,¬pI Q0 (.panic c) a w:=fun c a w h=>h.1 c rfl;have hLo:¬LetsOut (pI Q0):=fun⟨a,w,h⟩=>h.2.1 rfl;generalize Ob:pI Q0=Q1 at *;have Yd:=Hi Ob;clear Ob;go_wp2_with fail;go_at_call 103;refine(there_cG kh).mono ?_;rintro e w2 ⟨rfl,rfl⟩;go_upto_region 6 with fail;obtain⟨km,kn,k7⟩:=qS w2 (.map #[] 0) (.cells #[.int .i64 id.toInt,.int .i64 id.toInt,.int .i64 (q:Int),.int .i64 0,.slice none 0 0,.map (some w2.heap.size)] 244) (.cells #[ptrV (w2.heap.size+1)] 238);have m0:Mod (fun _=>False) w2 (((w2.alloc (.map #[] 0)).alloc (.cells #[.int .i64 id.toInt,.int .i64 id.toInt,.int .i64 (q:Int),.int .i64 0,.slice none 0 0,.map (some w2.heap.size)] 244)).alloc (.cells #[ptrV (w2.heap.size+1)] 238)):=(((Mod.refl _ _).alloc _).alloc _).alloc _;generalize(((w2.alloc (.map #[] 0)).alloc (.cells #[.int .i64 id.toInt,.int .i64 id.toInt,.int .i64 (q:Int),.int .i64 0,.slice none 0 0,.map (some w2.heap.size)] 244)).alloc (.cells #[ptrV (w2.heap.size+1)] 238))=w3 at *;generalize zv:w2.heap.size=n at *;have kh3:=m0.at0 kh;have lg:=aA kh;rw[zv]at lg;clear cd;have Lkh3:=aA kh3;have Lkm:=aA km;have Lkn:=aA kn;have Lk7:=aA k7;refine ZP0 [0,0,0,1,0,0,0,5] ?_
 iterate 7 first|refine Zv ?_|refine Zd ?_
 refine Zi fun wE hr=> ?_;replace kh3:=hr.mod.at0 kh3;replace km:=hr.mod.at0 km;replace kn:=hr.mod.at0 kn;replace k7:=hr.mod.at0 k7;have mE:=hr.mod;refine ZS ?_;refine ZN kh3 fun w4 kh3 mS=> ?_;(try simp only[Array.setIfInBounds,zL]at kh3);replace km:=mS.at_ne km (by omega);replace kn:=mS.at_ne kn (by omega);replace k7:=mS.at_ne k7 (by omega);have m4:Mod (fun i=>i=g) w2 w4:=((m0.then0 mE).mono (fun _ _ h=>h.elim)).then mS (fun _ _ h=>h);clear mE mS hr;have fz:IntKind.i64.wrap ((q:Int)+1)=((q+1:Nat):Int):=hpu;have kgr:w4.heap[g]? =some (.cells #[.map (some nb),.map (some sb),.int .i64 ((q+1:Nat):Int)] 182 (0,0)):=kh3;have HG:=Hi kgr;clear kgr kh3 fz hpu Gk;have Lkm:n<w4.heap.size:=aA km;have L7:=aA k7;go_wp2_with fail;go_loopw [44] (fun s44 wr=>∃i:Nat,i≤l.length∧s44= .int .i64 i∧(∃es c,wr.heap[n]? =some (.map es c)∧Hid (aR kv bv es c (howL (l.take i))))∧Mod (fun x=>x=n) w4 wr) (fun s44 _=>l.length-(intOf s44).toNat)
 case atStart=>exact⟨0,by omega,rfl,⟨_,_,km,Hi (aR.empty kv bv)⟩,Mod.refl _ _⟩
 case round=>
  obtain⟨i,hi,rfl,⟨es1,cl1,km,HM⟩,hm⟩:=hrel;have k7:=hm.at k7 (by omega);have kn:=hm.at kn (by omega);by_cases hlt:i<l.length
  ·obtain⟨r,ri⟩:∃r,l[i]? =some r:=⟨_,aZb hlt⟩;obtain⟨b,o,CC,U,fr,rfl,kl,hx,dh⟩:=HL.out.block ri;have kl4:=hm.at (m4.at kl (fun e=>HD.out (by rintro rfl;cases hlt) b o rfl (e▸HO.out g (by rw[HH.out.tg];simp)))) (by have:=aA kl;omega);clear kl;have kl:=kl4;clear kl4;obtain⟨k,s,b1⟩:=r;have Ur:Hid (l.take (i+1)=l.take i++[⟨k,s,b1⟩]):=Hi (by rw[aYa,ri];rfl);unfold rcr at hx;dsimp only at hx;clear ri;go_upto_region 9 with fail;have Lkn:=aA kn;have Lk7:=aA k7;have Lkm:=aA km;have Lkl:=aA kl;refine ZP0 [0,1,3,4] ?_;refine Zv ?_;refine Zd ?_;refine Za nH fun p9 qv=> ?_;refine Zt ?_;refine TD.nil (fun w5 hr=> ?_);replace kn:=hr.q kn;replace k7:=hr.q k7;replace km:=hr.q km;replace kl:=hr.q kl;obtain⟨gp9,kp9⟩:=hr.b p9;have m5:=hm.then0 hr.mod;clear hr;obtain⟨qn,sw⟩:∃qn,(lkp k (howL (l.take i))).getD false=qn:=⟨_,rfl⟩;have He:IntKind.i64.wrap (if qn then(1:Int)else 0)=(if qn then 1 else 0):=by cases qn<;>rfl
   have cd:∀wq es c,wq.heap[n]? =some (.map es c)→aR kv bv es c (howL (l.take i))∨aR kv bv es c (put k qn (howL (l.take i)))→(Instr.lookup 161 (.map (some n)) (.agg (kc k)) false).run Tryz.prog wq= .ok (.int .i64 (if qn then 1 else 0)) wq:=fun wq es c hq hM=>by
    rcases hM with hM|hM
    ·have:=hM.lookupD keyT Tryz.underlying161 (z:=false) uE wq hq k;rw[sw]at this;exact this
    ·have:=hM.lookupD keyT Tryz.underlying161 (z:=false) uE wq hq k;rw[cH,zE]at this;exact this
   have ml:=Hi cd;have vw:=fun(wq:We) (hq:wq.heap[n]? =some (.map es1 cl1))=>HM.out.entry keyT Tryz.underlying161 (z:=false) uE wq hq k;simp only[sw]at vw;have Fi:=Hi vw;have HQ:=Hi sw;generalize Wt:(if qn then(1:Int)else 0)=qi at *;have HQI:=Hi Wt;clear cd vw sw Wt;go_upto_region 10 with fail;go_cut []from 48 to 57 (fun wx=>(∃es c,wx.heap[n]? =some (.map es c)∧Hid (aR kv bv es c (put k qn (howL (l.take i)))))∧wx.heap[n+1+1]? =some (.cells #[ptrV (n+1)] 238 (0,0))∧wx.heap[n+1]? =some (.cells #[.int .i64 id.toInt,.int .i64 id.toInt,.int .i64 (q:Int),.int .i64 0,.slice none 0 0,.map (some n)] 244 (0,0))∧wx.heap[p9]? =some (.cells (rc k s b1) 178 (0,0))∧Mod (fun x=>x=n) w4 wx)
   case first=>
    have Lkn:=aA kn;have Lk7:=aA k7;have Lkm:=aA km;have Lkp9:=aA kp9;refine kI (T0:=fun _=>False) (K:=fun _ _=>True) (κ:=fun i=>[0,0,0,0,0,0,6,0,6,0,6].getD i 0) (υ:=fun _=>[]) [0,1,2,3,4,5] [6,7,8,9,10] (by kernel_rfl) (by kernel_rfl) (aH.true).cl (trivial) (fun _ h=>h.elim) ?_;have gK:=aH.true
    iterate 6 first|refine Zg ?_|refine Zh ?_
    refine TG.nil (fun w6 ⟨TR,hr⟩=> ?_);replace kn:=hr.q kn;replace k7:=hr.q k7;replace km:=hr.q km;replace kp9:=hr.q kp9;clear gK;have m6:=m5.then0 hr.mod;obtain⟨st,es2,cl2,qw,M2,hF⟩:=Fi.out w6 km;have uy:=ml.out w6 _ _ km (.inl HM.out);have km7:=aF w6 (.map es2 cl2) (aA km);have mS7:=bM w6 n (.map es2 cl2);generalize setBlock w6 n (.map es2 cl2)=w7 at *;have uz:=ml.out w7 _ _ km7 (.inr M2);obtain⟨es3,cl3,jf,M3⟩:=hF w7 qn km7;have km8:=aF w7 (.map es3 cl3) (aA km7);have mS8:=bM w7 n (.map es3 cl3);generalize setBlock w7 n (.map es3 cl3)=w8 at *;have Jj:p9≠n:=by have:=aA km;omega
    have ru:(∃es c,w8.heap[n]? =some (.map es c)∧Hid (aR kv bv es c (put k qn (howL (l.take i)))))∧w8.heap[n+1+1]? =some (.cells #[ptrV (n+1)] 238 (0,0))∧w8.heap[n+1]? =some (.cells #[.int .i64 id.toInt,.int .i64 id.toInt,.int .i64 (q:Int),.int .i64 0,.slice none 0 0,.map (some n)] 244 (0,0))∧w8.heap[p9]? =some (.cells (rc k s b1) 178 (0,0))∧Mod (fun x=>x=n) w4 w8:=
     ⟨⟨_,_,km8,Hi M3⟩,mS8.at_ne (mS7.at_ne k7 (by omega)) (by omega),mS8.at_ne (mS7.at_ne kn (by omega)) (by omega),mS8.at_ne (mS7.at_ne kp9 Jj) Jj,(m6.then mS7 (fun _ _ h=>h)).then mS8 (fun _ _ h=>h)⟩
    have ay:=Hi ru;clear ru;simp only[bv,HQI.out]at qw jf;(intro iA ai ah;simp only[aZc,aZe,or_false]at ai;rcases ai with rfl|rfl|rfl|rfl|rfl)
    ·clear ah;(refine ZL (by first|exact uy|exact uz) ?_;try simp only[zL]);rw[show([6,7,8,9,10]:Wd).erase 6=[7,8,9,10]from rfl];(intro iA ai ah;simp only[aZc,aZe,or_false]at ai;rcases ai with rfl|rfl|rfl|rfl)
     ·clear ah;refine Zw ?_;rw[show([7,8,9,10]:Wd).erase 7=[8,9,10]from rfl];(intro iA ai ah;simp only[aZc,aZe,or_false]at ai;rcases ai with rfl|rfl|rfl)
      ·clear ah;(refine ZF qw ?_;try simp only[zL]);rw[show([8,9,10]:Wd).erase 8=[9,10]from rfl];(intro iA ai ah;simp only[aZc,aZe,or_false]at ai;rcases ai with rfl|rfl)
       ·clear ah;refine Zw ?_;rw[show([9,10]:Wd).erase 9=[10]from rfl];(intro iA ai ah;simp only[aZc,aZe,or_false]at ai;subst ai)
        ·clear ah;(refine ZW jf ?_;try simp only[zL]);rw[show([10]:Wd).erase 10=[]from rfl];refine bA ?_;go_wp2_with fail;go_meet;exact ay.out
       ·exact aD (by kernel_rfl) ah
      ·exact aD (by kernel_rfl) ah
      ·exact aD (by kernel_rfl) ah
     ·clear ah;(refine ZF qw ?_;try simp only[zL]);rw[show([7,8,9,10]:Wd).erase 8=[7,9,10]from rfl];(intro iA ai ah;simp only[aZc,aZe,or_false]at ai;rcases ai with rfl|rfl|rfl)
      ·clear ah;refine Zw ?_;rw[show([7,9,10]:Wd).erase 7=[9,10]from rfl];(intro iA ai ah;simp only[aZc,aZe,or_false]at ai;rcases ai with rfl|rfl)
       ·clear ah;refine Zw ?_;rw[show([9,10]:Wd).erase 9=[10]from rfl];(intro iA ai ah;simp only[aZc,aZe,or_false]at ai;subst ai)
        ·clear ah;(refine ZW jf ?_;try simp only[zL]);rw[show([10]:Wd).erase 10=[]from rfl];refine bA ?_;go_wp2_with fail;go_meet;exact ay.out
       ·exact aD (by kernel_rfl) ah
      ·clear ah;refine Zw ?_;rw[show([7,9,10]:Wd).erase 9=[7,10]from rfl];(intro iA ai ah;simp only[aZc,aZe,or_false]at ai;rcases ai with rfl|rfl)
       ·clear ah;refine Zw ?_;rw[show([7,10]:Wd).erase 7=[10]from rfl];(intro iA ai ah;simp only[aZc,aZe,or_false]at ai;subst ai)
        ·clear ah;(refine ZW jf ?_;try simp only[zL]);rw[show([10]:Wd).erase 10=[]from rfl];refine bA ?_;go_wp2_with fail;go_meet;exact ay.out
       ·exact aD (by kernel_rfl) ah
      ·exact aD (by kernel_rfl) ah
     ·exact aD (by kernel_rfl) ah
     ·exact aD (by kernel_rfl) ah
    ·exact aD (by kernel_rfl) ah
    ·clear ah;(refine ZF qw ?_;try simp only[zL]);rw[show([6,7,8,9,10]:Wd).erase 8=[6,7,9,10]from rfl];(intro iA ai ah;simp only[aZc,aZe,or_false]at ai;rcases ai with rfl|rfl|rfl|rfl)
     ·clear ah;(refine ZL (by first|exact uy|exact uz) ?_;try simp only[zL]);rw[show([6,7,9,10]:Wd).erase 6=[7,9,10]from rfl];(intro iA ai ah;simp only[aZc,aZe,or_false]at ai;rcases ai with rfl|rfl|rfl)
      ·clear ah;refine Zw ?_;rw[show([7,9,10]:Wd).erase 7=[9,10]from rfl];(intro iA ai ah;simp only[aZc,aZe,or_false]at ai;rcases ai with rfl|rfl)
       ·clear ah;refine Zw ?_;rw[show([9,10]:Wd).erase 9=[10]from rfl];(intro iA ai ah;simp only[aZc,aZe,or_false]at ai;subst ai)
        ·clear ah;(refine ZW jf ?_;try simp only[zL]);rw[show([10]:Wd).erase 10=[]from rfl];refine bA ?_;go_wp2_with fail;go_meet;exact ay.out
       ·exact aD (by kernel_rfl) ah
      ·clear ah;refine Zw ?_;rw[show([7,9,10]:Wd).erase 9=[7,10]from rfl];(intro iA ai ah;simp only[aZc,aZe,or_false]at ai;rcases ai with rfl|rfl)
       ·clear ah;refine Zw ?_;rw[show([7,10]:Wd).erase 7=[10]from rfl];(intro iA ai ah;simp only[aZc,aZe,or_false]at ai;subst ai)
        ·clear ah;(refine ZW jf ?_;try simp only[zL]);rw[show([10]:Wd).erase 10=[]from rfl];refine bA ?_;go_wp2_with fail;go_meet;exact ay.out
       ·exact aD (by kernel_rfl) ah
      ·exact aD (by kernel_rfl) ah
     ·exact aD (by kernel_rfl) ah
     ·clear ah;refine Zw ?_;rw[show([6,7,9,10]:Wd).erase 9=[6,7,10]from rfl];(intro iA ai ah;simp only[aZc,aZe,or_false]at ai;rcases ai with rfl|rfl|rfl)
      ·clear ah;(refine ZL (by first|exact uy|exact uz) ?_;try simp only[zL]);rw[show([6,7,10]:Wd).erase 6=[7,10]from rfl];(intro iA ai ah;simp only[aZc,aZe,or_false]at ai;rcases ai with rfl|rfl)
       ·clear ah;refine Zw ?_;rw[show([7,10]:Wd).erase 7=[10]from rfl];(intro iA ai ah;simp only[aZc,aZe,or_false]at ai;subst ai)
        ·clear ah;(refine ZW jf ?_;try simp only[zL]);rw[show([10]:Wd).erase 10=[]from rfl];refine bA ?_;go_wp2_with fail;go_meet;exact ay.out
       ·exact aD (by kernel_rfl) ah
      ·exact aD (by kernel_rfl) ah
      ·exact aD (by kernel_rfl) ah
     ·exact aD (by kernel_rfl) ah
    ·exact aD (by kernel_rfl) ah
    ·exact aD (by kernel_rfl) ah
   case rest=>
   clear kn k7 km kp9 kl He ml Fi m5;obtain⟨⟨es2,cl2,km,dd⟩,k7,kn,kp9,de⟩:=hcut;have pj:Hid (put k (qn||b1) (howL (l.take i))=howL (l.take (i+1))):=Hi (by
    rw[Ur.out,iH];unfold D8;rw[HQ.out])
   cases b1 with
   |false=>
    go_wp2_with fail;go_roundw
    case rel=>exact⟨i+1,by omega,by go_num,⟨_,_,km,Hi (by rw[←pj.out,Bool.or_false];exact dd.out)⟩,de⟩
    case measure=>simp[intOf];omega
   |true=>
    go_upto_region 12 with fail;have Lkn:=aA kn;have Lk7:=aA k7;have Lkp9:=aA kp9;have Lkm:=aA km;refine ZP [1,0,0,1,0,1,5] ?_
    iterate 6 first|refine Zd ?_|refine Zv ?_
    refine Zi fun wE hr=> ?_;replace kn:=hr.mod.at0 kn;replace k7:=hr.mod.at0 k7;replace kp9:=hr.mod.at0 kp9;replace km:=hr.mod.at0 km;have mE:=hr.mod;obtain⟨es49,cl49,Kd,Mkm⟩:=dd.out.update keyT Tryz.underlying161 wE km k true;refine ZV (Kd) ?_;refine ZN km fun w6 km mS=> ?_;(try simp only[Array.setIfInBounds,zL]at km);replace kn:=mS.at_ne kn (by omega);replace k7:=mS.at_ne k7 (by omega);replace kp9:=mS.at_ne kp9 (by omega);have m6:=(de.then0 mE).then mS (fun _ _ h=>h);have Nc:=Hi Mkm;clear Mkm mE mS hr;go_wp2_with fail;go_roundw
    case rel=>exact⟨i+1,by omega,by go_num,⟨_,_,km,Hi (by have h1:=Nc.out;have h2:=pj.out;rw[Bool.or_true]at h2;rw[←h2];rw[tF]at h1;exact h1)⟩,m6⟩
    case measure=>simp[intOf];omega
  ·obtain rfl:i=l.length:=by omega
   rw[aY5]at HM;go_upto_region 14 with fail;have Lkn:=aA kn;have Lk7:=aA k7;have Lkm:=aA km;refine ZP0 [3,4] ?_;refine Za UF fun p10 ph=> ?_;refine Zt ?_;refine TD.nil (fun w5 hr=> ?_);replace kn:=hr.q kn;replace k7:=hr.q k7;replace km:=hr.q km;obtain⟨gp10,kp10⟩:=hr.b p10;have m5:=hr.mod;clear hr;have Mn:=run_range_map (P:=Tryz.prog) w5 161 107 3 n es1 cl1 Tryz.underlying161 km;go_wp2_with fail;obtain⟨w6,e6,r,Wu,kr,m6⟩:∃w6,w5.alloc (.mapIter (some n) cl1 #[] cl1)=w6∧∃r,w5.heap.size=r∧w6.heap[r]? =some (.mapIter (some n) cl1 #[] cl1)∧Mod (fun _=>False) w5 w6:=⟨_,rfl,_,rfl,heap_alloc_new _ _,(Mod.refl _ _).alloc _⟩;rw[e6,Wu];have Cf:∀i,n≤i→tag i=none:=fun i hi=>by
    cases e:tag i with
    |none=>rfl
    |some p=>
     have:=HT.out i (HO.out i (by rw[e];simp));omega
   have I:=HI.out;have hTg:T g:=HO.out g (by rw[HH.out.tg];simp);have hmW:Mod (fun i=>i=g) w2 w6:=(((m4.then hm (fun i hi e=>by omega)).then0 m5).then0 m6);have hLa:∀b∈L,T b.a:=fun b hb=>HO.out b.a (by rw[(HH.out.nodes b.a (aZj.2 ⟨b,hb,rfl⟩)).ta];simp);have Vl:∀b∈L,b.a≠n+1:=fun b hb e=>by
    have:=HT.out b.a (hLa b hb);omega
   have kg6:=m6.at0 (m5.at0 (hm.at HG.out (by omega)));have kn6:=m6.at0 kn;have k76:=m6.at0 k7;have km6:=m6.at0 km;have kl6:=m6.at0 kp10;have hr5:n<r:=by
    have:=aA km;omega
   have ip:n+1+1<p10:=by
    have:=aA k7;omega
   have L6:=m6.size;have Lr:=aA kr;have Lp:=aA kl6;have hF:KF T n w2 L ⟨n+1,id,eW (L.map An.cn) id (howL l),q,howL l⟩ n nd (n+1+1) p10 r es1 cl1:=by
    refine⟨⟨Vl,fun b hb c hc e=>I.ainj hc hb e,fun b hb=>I.nds b hb,fun b hb=> ?_,fun b hb=> ?_,?_⟩,HM.out,zv,by omega,by omega,by omega,aZq _,?_,?_⟩
    ·have:=I.ptu b hb;omega
    ·have:=I.nxl b hb;omega
    ·have:=I.Llen;omega
    ·have:=xI l;dsimp only;omega
    ·have:=I.Llen;omega
   have hK:KI T n w2 g nb sb q L ⟨n+1,id,eW (L.map An.cn) id (howL l),q,howL l⟩ n N nd (n+1+1) p10 r es1 cl1 [] (howL l) S sp (fun i=>if i=n then some (n+1,1)else if i=n+1 then some (n+1,0)else tag i) (fR nd (n+1) ⟨id,id,q,0,.slice none 0 0,[],n,howL l⟩) [] w6:=by
    have ht:∀i,i<w2.heap.size→(if i=n then some (n+1,1)else if i=n+1 then some (n+1,0)else tag i)=tag i:=fun i hi=>by
     rw[if_neg (by omega),if_neg (by omega)]
    have htn:∀i,n+1<i→(if i=n then some (n+1,1)else if i=n+1 then some (n+1,0)else tag i)=none:=fun i hi=>by
     rw[if_neg (by omega),if_neg (by omega)];exact Cf i (by omega)
    refine⟨⟨?_,⟨fun b hb=>⟨(nd b.a).nv,?_⟩,?_⟩,k76,kl6,fun i hi=> ?_,htn _ (by omega),htn _ (by omega)⟩,⟨I.sn,fun k ⟨h,hh⟩=>(by cases hh),fun k _=>I.sps k⟩,dG.start HM.out kr,km6,by simp,eO.nil _ _,hmW.mono (fun i _ e=>by rw[e];exact hTg),fun i hi=> ?_,htn _ ?_⟩
    ·refine HH.out.put0 hmW kg6 ht ?_ (fun c hc=> ?_)
     ·rw[upd_same];exact⟨kn6,aE.nil _ _,⟨es1,cl1,km6,HM.out⟩,by simp,by simp,fun g hg=>by cases hg⟩
     ·obtain⟨b,hb,rfl⟩:=aZj.1 hc;exact dK _ _ (Vl b hb)
    ·rw[dK _ _ (Vl b hb)];simp[d7]
    ·rw[upd_same];rfl
    ·by_cases h1:i=n
     ·omega
     ·by_cases h2:i=n+1
      ·omega
      ·rw[if_neg h1,if_neg h2]at hi;have:=HT.out i (HO.out i hi);omega
    ·by_cases h1:i=n
     ·omega
     ·by_cases h2:i=n+1
      ·omega
      ·rw[if_neg h1,if_neg h2]at hi;exact .inl (HO.out i hi)
    ·have:=aA k76;have:=aA k7;omega
   have HF:=Hi hF;have HK:=Hi hK;clear hF hK kg6 kn6 k76 km6 kl6 hmW kn k7 km kp10 kr m4 m5 m6 hm Vl hLa Cf;refine QV HF.out (by omega) ⟨rfl,rfl,rfl,rfl,rfl,rfl⟩ ⟨_,_,_,_,_,_,HK.out⟩ (fun c a w h=>hP c a w h) (fun⟨a,w,h⟩=>hLo ⟨a,w,h⟩) ?_;intro D S' sp' tag' nd' a' W' hf K;obtain⟨t,ds⟩:=a';obtain⟨f0,f1,f2,f3,f4,f5⟩:=hf;dsimp only at f0 f1 f2 f3 f4 f5 K;obtain⟨u,hu,e⟩:=yT t f0;rw[hu]at f1 f2 f3 f4 f5;rw[f1,f2,f3,f4,f5]at e;subst e;have kg:=K.ei.mem.c;have k7:=K.ei.k7;obtain⟨es3,cl3,knb,Nw⟩:=K.ei.mem.kn;have Xw:=Hi Nw;have HKK:=Hi K;have n7:n+1+1≠nb:=aB k7 knb (by simp);have ng:g≠nb:=aB kg knb (by simp);have HIq:=Hi I;clear K Nw I f0 f1 f2 f3 f4 f5 hu;go_upto_region 32 with fail;have Lkg:=aA kg;have Lk7:=aA k7;have Lknb:=aA knb;refine ZP [0,0,0,1,0,1,5] ?_
   iterate 6 first|refine Zv ?_|refine Zd ?_
   refine Zi fun wE hr=> ?_;replace kg:=hr.mod.at0 kg;replace k7:=hr.mod.at0 k7;replace knb:=hr.mod.at0 knb;have mE:=hr.mod;obtain⟨es58,cl58,Kf,Mknb⟩:=Xw.out.update IT Tryz.underlying179 wE knb id (n+1);refine ZV (Kf) ?_;refine ZN knb fun w9 knb mS=> ?_;(try simp only[Array.setIfInBounds,zL]at knb);replace kg:=mS.at_ne kg (by omega);replace k7:=mS.at_ne k7 (by omega);have m9:Mod (fun i=>i=nb) W' w9:=(mE.mono (fun _ _ h=>h.elim)).then mS (fun _ _ h=>h);have Nc:=Hi Mknb;clear mE mS hr Mknb;go_wp2_with fail;rw[←Yd.out];refine⟨by simp,by simp,?_⟩;rw[←Lf.out];have K:=HKK.out;have Dq:T nb:=HO.out nb (by rw[HH.out.tnb];simp);have hTsb:T sb:=HO.out sb (by rw[HH.out.tsb];simp);have lnb:=HT.out nb Dq;have lsb:=HT.out sb hTsb;have km9:w9.heap[n]? =some (.map es1 cl1):=m9.at K.km (by omega);refine uX (n:=n) ds w9 (K.mks.mod m9 (fun i hi e=> ?_)) (fun w' Gh=>⟨_,results_tmp rfl _ _ _,rfl,fun i=>tag' i≠none,⟨tag',nb,sb,L++[⟨n+1,id,eW (L.map An.cn) id (howL l),q,howL l⟩],put id (n+1) N,S',nd',sp',?_,?_,?_,fun i hi=>hi⟩,?_,K.ow,fun i hi=> ?_⟩)
   ·obtain⟨_,_,h1,_⟩:=K.ei.mem.kn;rw[e,h1]at hi;cases hi
   ·rw[List.map_append];have h1:=K.ei.mem.ids m9 ⟨_,_,knb,Nc.out⟩;refine h1.turn (B:=n+1) Gh (fun i hi=>⟨?_,fun cs T h=> ?_⟩) (by omega) (by omega) (fun c hc=> ?_)
    ·have:i≠n:=fun e=>by
      rw[e,km9]at hi;cases hi.2
     have:=hi.1;omega
    ·rw[hi.2]at h;cases h
    ·rw[K.ei.kbs c hc];by_cases e:c=n+1
     ·rw[if_pos e];omega
     ·rw[if_neg e];have Vn:c∈L.map An.a:=by
       rcases aZh.1 hc with h|h
       ·exact h
       ·exact absurd (aZm.1 h) e
      have h2:=(HH.out.nodes c Vn).tk;have:=HT.out _ (HO.out (nd c).kb (by rw[h2];simp));omega
   ·have ag:=xI l;exact HIq.out.put hq HF.out.pf.ha HN.out HM.out.nodup (by omega) (by simpa using K.pm) K.ei.ndp K.spp
   ·rw[List.map_append];rfl
   ·refine((K.fr.then m9 (fun i hi e=>by rw[e];exact Dq))).then Gh (fun i hi e=> ?_);have:=e.1;omega
   ·exact aZd (K.ei.hlt i hi) (aYb m9.size Gh.size)
end
section
def pT (x y:Cn):Prop:=∃k,jP k (x.how k) (y.how k)
theorem pT.symm {x y:Cn} (h:pT x y):pT y x:=h.imp fun _=>tA
theorem BW {x:An} (hn:(x.ks.map Prod.fst).Nodup) {p:aN×Bool} (h:p∈x.ks):x.how p.1=some p.2:=dJ hn h
theorem fQ {X:List An} {x:An} (hn:(x.ks.map Prod.fst).Nodup):d7 X x.ks=[]↔∀y∈X,¬pT y.cn x.cn:=by
 constructor
 ·rintro h y hy ⟨k,hk⟩
  have:∃h',x.how k=some h':=by
   cases e:x.how k with
   |none=>
    unfold An.cn at hk;dsimp only at hk;rw[e]at hk;unfold jP at hk;cases ja:y.how k<;>rw[ja]at hk<;>exact hk.elim
   |some h'=>exact⟨h',rfl⟩
  obtain⟨h',e⟩:=this;refine CQ (p:=(k,h')) hy (cP e) ?_ h;have jy:jP k (y.how k) (x.how k):=hk;rwa[e]at jy
 ·intro h;cases e:d7 X x.ks with
  |nil=>rfl
  |cons b r=>
   obtain⟨h1,p,hp,hh⟩:=kF (show b∈d7 X x.ks by rw[e];simp);exact absurd ⟨p.1,by have:=BW hn hp;unfold An.cn;dsimp only;rw[this];exact hh⟩ (h b h1)
theorem wX {κ ν:Type} [DecidableEq κ] {k:κ} {v:ν}:∀ {m:List (κ×ν)},(m.map Prod.fst).Nodup→(k,v)∈m→m.Perm ((k,v)::del k m)
 |[],_,h=>by cases h
 |p::r,hn,h=>by
  rw[aZo,aYc]at hn;rcases aZc.1 h with rfl|h
  ·simp[del]
  ·have nu:p.1≠k:=fun e=>hn.1 (e▸aZj.2 ⟨_,h,rfl⟩);rw[del,if_neg nu];exact((wX hn.2 h).cons p).trans (List.Perm.swap _ _ _)
theorem app_split {α:Type}:∀ {X Y X' Y':List α} {x:α},X++Y=X'++x::Y'→(∃Z,X=X'++x::Z∧Y'=Z++Y)∨∃Z,X'=X++Z∧Y=Z++x::Y'
 |[],Y,X',Y',x,h=> .inr ⟨X',rfl,h⟩
 |a::X,Y,[],Y',x,h=>by
  simp at h;exact .inl ⟨X,by rw[h.1];rfl,h.2.symm⟩
 |a::X,Y,b::X',Y',x,h=>by
  simp only[aYg,List.cons.injEq]at h;rcases app_split h.2 with⟨Z,h1,h2⟩|⟨Z,h1,h2⟩
  ·exact .inl ⟨Z,by rw[h.1,h1];rfl,h2⟩
  ·exact .inr ⟨Z,by rw[h.1,h1];rfl,h2⟩
theorem sA {l:List An} {p:An}:(l.filter fun x=>decide (x≠p)).length=l.length-l.count p:=by
 induction l with
 |nil=>rfl
 |cons x r ih=>
  have hc:=aWg (a:=p) (l:=r);rw[aWr];by_cases h:x=p
  ·rw[if_neg (by simp[h]),ih,aZu,h,List.count_cons_self];omega
  ·rw[if_pos (by simp[h]),aZu,ih,aZu,List.count_cons_of_ne h];omega
theorem oO {α:Type} [DecidableEq α] {l:List α} {p:α} (h:∀y∈l,y≠p):l.filter (fun y=>decide (y≠p))=l:=aX1.2 fun y hy=>Dt (h y hy)
theorem oZ {l:List An} {p b:An} (h:b≠p):(l.filter fun x=>decide (x≠p)).count b=l.count b:=by
 induction l with
 |nil=>rfl
 |cons x r ih=>
  rw[aWr];by_cases hx:x=p
  ·rw[if_neg (by simp[hx]),ih,hx,List.count_cons_of_ne (Ne.symm h)]
  ·rw[if_pos (by simp[hx]),List.count_cons,List.count_cons,ih]
def IF (a:Nat) (s:Sr) (s':Sr):Prop:=s'.wr=(if s.wr=some a then none else s.wr)∧s'.rs=s.rs.filter fun y=>decide (y≠a)
section
variable {q:Nat} {X Y:List An} {p:An} {N:List (Wi×Nat)} {S:List (aN×Nat)} {nd nd':Nat→Nr} {sp sp':Nat→Sr}
theorem eN.notin (I:eN q (X++p::Y) N S nd sp):p∉X∧p∉Y:=by
 have h:=I.ad;rw[List.map_append,aZo,aZ7,aYc]at h;exact⟨fun hp=>h.2.2 p.a (aZj.2 ⟨p,hp,rfl⟩) p.a (by simp) rfl,fun hp=>h.2.1.1 (aZj.2 ⟨p,hp,rfl⟩)⟩
theorem u4 {x:An} (h:x∈X++Y):x∈X++p::Y:=by
 rcases aZh.1 h with h|h
 ·exact aZl _ h
 ·exact aYi _ (aZp _ h)
def TV (L:List An) (p:An) (nd nd':Nat→Nr):Prop:=∀c∈L,nd' c.a= {nd c.a with wt:=(nd c.a).wt-(nd p.a).nx.count c.a}
def OJ (p:An) (S:List (aN×Nat)) (sp sp':Nat→Sr):Prop:=∀k s,lkp k S=some s→((∃h,(k,h)∈p.ks)→IF p.a (sp s) (sp' s))∧((∀h,(k,h)∉p.ks)→sp' s=sp s)
theorem eN.pop (I:eN q (X++p::Y) N S nd sp) (hN:(N.map Prod.fst).Nodup) (h0:d7 X p.ks=[]) (ct:TV (X++Y) p nd nd') (ff:OJ p S sp sp'):eN q (X++Y) (del p.id N) S nd' sp':=by
 obtain⟨fx,ce⟩:=I.notin;have Bi:=I.kn p (by simp);have aw:∀ {b},b∈X++Y→b≠p:=fun h e=>by
  subst e;rcases aZh.1 h with h|h
  ·exact fx h
  ·exact ce h
 have hc:∀k,p.how k=some true→∀x∈X,x.how k=none:=fun k hk x hx=>by
  cases e:x.how k with
  |none=>rfl
  |some b=>exact absurd h0 (CQ (p:=(k,true)) hx (cP hk) (by rw[e];exact .inr rfl))
 have bd:((X++Y).map An.a).Sublist ((X++p::Y).map An.a):=((aYk p Y).append_left X).map _;have Sq:((X++Y).map An.pt).Sublist ((X++p::Y).map An.pt):=((aYk p Y).append_left X).map _;have dl:∀ {x},x∈X++Y→x∈X++p::Y:=fun h=>u4 h
 --the two decompositions
 have ni:∀X' x Y',X++Y=X'++x::Y'→∃X2 Y2,X++p::Y=X2++x::Y2∧d7 X' x.ks=(d7 X2 x.ks).filter fun y=>decide (y≠p):=by
  intro X' x Y' h;rcases app_split h with⟨Z,h1,h2⟩|⟨Z,h1,h2⟩
  ·refine⟨X',Z++p::Y,by rw[h1];simp,?_⟩;exact(oO (fun y hy e=>fx (by
    rw[←e,h1];exact aZl _ (kF hy).1))).symm
  ·refine⟨X++p::Z,Y',by rw[h2];simp,?_⟩;rw[h1];exact E2 fx (fun h=>ce (by rw[h2];exact aZl _ h)) hc
 refine⟨?_,I.ad.sublist bd,I.pts.sublist Sq,fun x hx=>I.ptu x (dl hx),I.pub,fun x hx=>I.kl x (dl hx),fun b hb=> ?_,fun x hx=> ?_,fun x hx=>I.kn x (dl hx),I.sn,fun k=> ?_,fun X' x Y' h=> ?_,fun X' x Y' h b hb=> ?_,fun b hb y hy=> ?_⟩
 ·have h1:(p.id,p.a)∈N:=I.N.mem_iff.2 (aZj.2 ⟨p,by simp,rfl⟩);have h2:=(wX hN h1).symm.trans I.N;refine List.Perm.cons_inv (a:=(p.id,p.a)) (h2.trans ?_);rw[List.map_append,aZo,List.map_append];exact List.perm_middle
 ·rw[ct b hb];exact I.nxl b (dl hb)
 ·rw[ct x hx];exact I.nds x (dl hx)
 ·rw[oR fx (hc k) Y ce];obtain⟨h1,h2⟩:=I.sps k;refine⟨fun s hs=> ?_,fun hs=>by rw[h2 hs];rfl⟩;have h3:=h1 s hs;have hw:∀x,(spotOf k (X++p::Y)).1=some x→x∈X++p::Y∧x.how k=some true:=fun x hx=>spotOf_writer hx;have hr:∀x,x∈(spotOf k (X++p::Y)).2→x∈X++p::Y∧x.how k=some false:=fun x hx=>dN hx;have hia:∀x,x∈X++p::Y→(x.a=p.a↔x=p):=fun x hx=>⟨fun e=>I.ainj hx (by simp) e,fun e=>by rw[e]⟩;by_cases hk:∃h,(k,h)∈p.ks
  ·obtain⟨g1,g2⟩:=(ff k s hs).1 hk;refine⟨?_,?_⟩
   ·rw[g1,h3.1];cases e:(spotOf k (X++p::Y)).1 with
    |none=>simp[Option.filter]
    |some x=>
     have:=hia x (hw x e).1;by_cases ex:x=p
     ·simp[Option.filter,ex]
     ·have:¬x.a=p.a:=fun h=>ex (this.1 h);simp[Option.filter,ex,this]
   ·rw[g2,h3.2,List.filter_map];congr 1;refine List.filter_congr fun x hx=> ?_;have:=hia x (hr x hx).1;simp[this]
  ·have cu:∀h,(k,h)∉p.ks:=fun h hh=>hk ⟨h,hh⟩;have nu:∀b,p.how k≠some b:=fun b e=>hk ⟨b,cP e⟩;rw[(ff k s hs).2 cu];refine⟨?_,?_⟩
   ·rw[h3.1];cases e:(spotOf k (X++p::Y)).1 with
    |none=>rfl
    |some x=>
     have:x≠p:=fun e2=>nu true (e2▸(hw x e).2);simp[Option.filter,this]
   ·rw[h3.2];exact congrArg (List.map An.a) (oO (p:=p) (fun x hx e2=>nu false (by rw[←e2];exact(hr x hx).2))).symm
 ·obtain⟨X2,Y2,h1,h2⟩:=ni X' x Y' h;have hx:x∈X++Y:=by rw[h];simp
  rw[ct x hx,h2,sA];dsimp only;rw[I.wts X2 x Y2 h1,I.nxs X2 x Y2 h1 p (by simp)]
 ·obtain⟨X2,Y2,h1,h2⟩:=ni X' x Y' h;rw[ct b hb,h2,oZ (aw hb)];exact I.nxs X2 x Y2 h1 b (dl hb)
 ·rw[ct b hb]at hy;obtain⟨x,hx,e⟩:=I.nxm b (dl hb) y hy;refine⟨x,?_,e⟩;have hxp:x≠p:=fun e2=>by
   have h1:=I.nxs X p Y rfl b (dl hb);rw[h0,List.count_nil,List.count_eq_zero]at h1;exact h1 (by rw[←e2,e];exact hy)
  rcases aZh.1 hx with h|h
  ·exact aZl _ h
  ·rcases aZc.1 h with h|h
   ·exact absurd h hxp
   ·exact aYi _ h
end
end
section
open Go.RowKit Go.Shelf
attribute [local go_sem] Oper.semAt_some
theorem dG.walks {κ ν:Type} {f:κ→Wg} {g:ν→Wg} {w w':We} {r b:Nat} {es:Array MapEntry} {clock:Nat} {rem:List (κ×ν)} (h:dG w r b f g es clock rem) (hk:KeepsWalks w w'):dG w' r b f g es clock rem:=by
 obtain⟨since,seen,c0,h1,h2,h3,h4,h5⟩:=h;exact⟨since,seen,c0,hk.same _ _ h1 rfl,h2,h3,h4,h5⟩
theorem uM {r:Nat} {w w':We} (h:Mod (fun i=>i=r) w w'):w.grownBy w' (some r):=⟨h.os,h.tape,h.output,h.size,fun k hk aw=>h.block k hk (fun e=>aw (by rw[e]))⟩
theorem yF (n l Bs nb c:Nat) (es:Array MapEntry) (N:List (Wi×Nat)) (M:aR uP ptrV es c N) (J Jx:Wd→We→Prop)
  (hY:∀pre x W,J pre W→pre.length<N.length→YieldAt Fence.wide n Tryz.prog l #[ptrV x] W fun e W'=>
   (e= .returned (.bool true)∧J (pre++[x]) W'∧KeepsWalks W W')∨(e= .returned (.bool false)∧Jx (pre++[x]) W'))
  (W:We) (hJ:AbidesFrom W.heap.size J) (hBs:W.cell? ⟨Bs,0,none⟩=some (.map (some nb))) (kb:W.heap[nb]? =some (.map es c)) (h0:J [] W):
  CallsIn Fence.wide (n+1) Tryz.prog 143 #[.func (.yield l) #[] #[],.pointer (some ⟨Bs,0,none⟩)] W fun e W'=>(∃v,e= .returned v)∧
   ((∃ys:Wd,ys.Perm (N.map Prod.snd)∧J ys W')∨(∃pre,True∧Jx pre W')):=by
 refine callsIn_of_wp Tryz.func143 rfl trivial ?_ rfl;simp only[Tryz.ntmps143,aYs,aZu,aYw,Nat.reduceAdd,Nat.reduceSub,aXd,aXc,aXo,aXj,aYq,aYg];have Mn:=run_range_map (P:=Tryz.prog) W 179 3 238 nb es c Tryz.underlying179 kb;have HM:=Hi M;have HJ:=Hi hJ;have HY:=Hi hY;have HK:=Hi kb;clear M hJ hY kb
 gi_wp2
 obtain⟨W1,e1,r,sy,kr,m1⟩:∃W1,W.alloc (.mapIter (some nb) c #[] c)=W1∧∃r,W.heap.size=r∧W1.heap[r]? =some (.mapIter (some nb) c #[] c)∧Mod (fun _=>False) W W1:=⟨_,rfl,_,rfl,heap_alloc_new _ _,(Mod.refl _ _).alloc _⟩;have hJ1:J [] W1:=by
  rw[←e1];exact HJ.out [] W _ none h0 (World.grownBy_alloc W _ none) (fun r e=>by cases e)
 rw[e1,sy];have kb1:=m1.at0 HK.out;have dm:=dG.start HM.out kr;have HR:=Hi sy;clear Mn kr m1 e1 sy
 gi_loopw [7] (fun _ wr=>∃(ys:Wd) (rem:List (Wi×Nat)),Hid ((ys++rem.map Prod.snd).Perm (N.map Prod.snd))∧dG wr r nb uP ptrV es c rem∧wr.heap[nb]? =some (.map es c)∧J ys wr) (fun _ wr=>leftN wr r nb)
 case atStart=>exact⟨[],N,Hi (by simp),dm,kb1,hJ1⟩
 case round=>
  clear dm kb1 hJ1 h0;obtain⟨ys,rem,HP,dm,kb,pk⟩:=hrel;have rz:=dm.leftN kb;have HL:=Hi rz;clear rz;obtain⟨s1,s2,s3,k0,_⟩:=id dm;rcases dm.next (P:=Tryz.prog) HM.out kb 0 with⟨rfl,bi⟩|⟨z,rem',w3,it,af,bi,kr3,m3,kb3,fh⟩
  ·clear dm k0
   gi_wp2
   go_end0;exact⟨⟨_,rfl⟩,.inl ⟨ys,by simpa using HP.out,pk⟩⟩
  ·obtain⟨k,y⟩:=z;have hJ2:J ys w3:=HJ.out ys wr w3 (some r) pk (uM m3) (fun r' e=>by
    cases e;exact⟨by rw[HR.out];exact aZq _,_,k0,rfl⟩)
   have ag:ys.length<N.length:=by
    have h1:=HP.out.length_eq;have h2:=af.length_eq;simp only[aZg,aZs,aZu]at h1 h2;omega
   have jm:=(fh w3 kr3 kb3).1;have hwk:it.isWalk=true:=by
    obtain⟨_,_,_,h1,_⟩:=(fh w3 kr3 kb3).2;rw[kr3]at h1;cases h1;rfl
   have Uu:=Hi hwk;have Ms:=Hi fh;clear hwk;have xc:=Hi af;obtain⟨fn,tmps,assign,body,hy,hR⟩:=HY.out ys y w3 hJ2 ag;clear dm k0 m3 fh af pk hJ2
   gi_wp2
   refine hR.mono ?_;rintro e W3 (⟨rfl,Ce,jt⟩|⟨rfl,jb⟩)
   ·have kr4:=jt.same r it kr3 Uu.out;have kb4:=jt.same nb _ kb3 rfl;have Pv:=(Ms.out W3 kr4 kb4).2;have HI4:=Hi Pv;have Ek:leftN W3 r nb<leftN wr r nb:=by
     rw[HI4.out.leftN kb4,HL.out,xc.out.length_eq];simp
    have zc:=Hi Ek;clear Pv Ek
    gi_wp2
    go_roundw
    case rel=>
     refine⟨ys++[y],rem',Hi ?_,HI4.out,kb4,Ce⟩;refine .trans ?_ HP.out;rw[aZw];exact((xc.out.map Prod.snd).symm).append_left ys
    case measure=>exact zc.out
   ·gi_wp2
    refine bodyPost_ret (results_none rfl _ _ _) rfl ?_;exact⟨⟨_,rfl⟩,.inr ⟨_,trivial,jb⟩⟩
abbrev CV (Bs:Nat):Value:= .func (.func 143) #[] #[.pointer (some ⟨Bs,0,none⟩)]
theorem values_cG (nb:Nat) (w:We):
  Calls Tryz.prog 105 #[.map (some nb)] w fun e w'=>e= .returned (CV w.heap.size)∧w'=w.alloc (.cells #[.map (some nb)] 179):=by
 go_enter Tryz.func105,Tryz.ntmps105;go_wp2_with fail;go_ret;exact⟨rfl,rfl⟩
theorem sG (n Bs nb c:Nat) (es:Array MapEntry) (N:List (Wi×Nat)) (M:aR uP ptrV es c N) (w:We) (hBs:w.heap[Bs]? =some (.cells #[.map (some nb)] 179 (0,0))) (kb:w.heap[nb]? =some (.map es c)):
  SeqStopsK Fence.wide (n+1) Tryz.prog 143 #[.pointer (some ⟨Bs,0,none⟩)] (fun x:Nat=> #[ptrV x]) KeepsWalks (fun ys=>ys.Perm (N.map Prod.snd)) (fun _=>True) N.length w:=fun l J Jx W hW hJ _ hY h0=>by
 have h1:W.heap[Bs]? =some (.cells #[.map (some nb)] 179 (0,0)):=(hW.block Bs (aA hBs)).trans hBs;exact yF n l Bs nb c es N M J Jx hY W hJ (by rw[aJ,h1];rfl) ((hW.block nb (aA kb)).trans kb) h0
theorem QT:(Tryz.prog.info? 238).map (fun i=>(i.zero,i.size,i.bytes))=some (some (.pointer none),1,8):=by kernel_rfl
theorem wR (Bs nb c:Nat) (es:Array MapEntry) (N:List (Wi×Nat)) (M:aR uP ptrV es c N) (ag:N.length≤900000) (w:We) (hBs:w.heap[Bs]? =some (.cells #[.map (some nb)] 179 (0,0))) (kb:w.heap[nb]? =some (.map es c)):
  Calls Tryz.prog 159 #[.slice none 0 0,CV Bs] w fun e W'=>∃v ys,ys.Perm (N.map Prod.snd)∧e= .returned v∧aE pc 1 238 W' w.heap.size v ys∧Mod (fun _=>False) w W':=by
 obtain⟨i0,hi,cy,bj,bp⟩:=info_parts QT;refine callsIn_wide.1 (callsIn_of_wp_marks (n:=2) Tryz.func159 rfl trivial ?_ rfl);simp only[Tryz.ntmps159,aYs,aZu,aYw,Nat.reduceAdd,Nat.reduceSub,aXd,aXc,aXo,aXj,aYq,aYg]
 gi_wp2
 have bO:=Boxed.new w 236 (.slice none 0 0);have Dd:Below w.heap.size w (w.alloc (.cells #[.slice none 0 0] 236)):=(Below.refl _ w).alloc (aZq _) _;have qa:Mod (fun _=>False) w (w.alloc (.cells #[.slice none 0 0] 236)):=(Mod.refl _ _).alloc _;refine wpIn_rangeFunc_ownG rfl (by omega) (gf:=143) (lb:= #[.pointer (some ⟨Bs,0,none⟩)]) rfl trivial (enters_of Tryz.func143 (by kernel_rfl) rfl)
  (sG 0 Bs nb c es N M _ (qa.at0 hBs) (qa.at0 kb)) walksK_t walksK_b (Below.refl _ _) (fun _=>rfl)
  (fun pre W=>(∃v,Boxed W w.heap.size 236 v∧W.ownsRow w.heap.size 238 1 v pre.length (pre.map ptrV)∧(v= .slice none 0 0↔pre=[]))∧Below w.heap.size w W)
  (fun _ _ _=>False)
  (OwnFrom.and (Own.from (holdsRow_own w.heap.size w.heap.size 236 238 1 (fun pre=>pre.length) (fun pre=>pre.map ptrV) (fun pre v=>v= .slice none 0 0↔pre=[])) _) (ownFrom_below (aZq _) (by simp)))
  (fun _ _ _ _ _ hs _ _=>hs)
  ⟨⟨_,bO,World.ownsRow_nil _ _ _ _,by simp⟩,Dd⟩
  (fun x=> {tmps:= #[.slice none 0 0,.func (.func 143) #[] #[.pointer (some ⟨Bs,0,none⟩)],.pointer (some ⟨w.heap.size,0,none⟩),undef,.slice none 0 0,ptrV x,.func (.func 143) #[] #[.pointer (some ⟨Bs,0,none⟩)],ptrV x,undef,undef,undef,undef,undef],defers:=[]}) ?assign ?body ?done ?stop
 case assign=>
  intro l x W K hK
  gi_wp2
  exact hK
 case body=>
  rintro l pre x W ⟨⟨v,hv,bk,et⟩,hB⟩ hlt;have hc:=hv.cell
  gi_wp2_with (gi_at_builtin;refine wpListIn_append_own _ rfl _ _ 236 rfl w.heap.size 238 i0 (.pointer none) 1 8 Tryz.underlying236 hi cy bj bp rfl (by decide) _ _ _ rfl (bk.alloc _) ⟨W.heap.size,0,none⟩ 1 1 [ptrV x] rfl rfl (cell_one_new _ _ _) (by simp[Value.oneCell']) (by simp[maxLen];omega) (by omega) (by have:=hB.size;simp;omega) ?_;intro v' w1 sj Ah _;obtain⟨g',cap',rfl⟩:=ownsRow_succ sj;obtain⟨jv,Mp,di,jy,cq⟩:=hv.appended (by decide) bk hB.size (aZq _) sj Ah;have nh:=jv.cell;have Eb:=jv.frozen)
  exact⟨jy.from _,jy.walks,⟨_,Mp,by simpa using di,by simp⟩,hB.trans cq⟩
 case done=>
  rintro D ys W hD Hg ⟨⟨v,hv,bk,et⟩,hB⟩ hK;have hc:=hv.cell;have HYS:=Hi Hg;clear Hg
  gi_wp2
  refine⟨by simp,.inl ⟨_,_,rfl,run_takeDeferred hK,?_⟩⟩;refine⟨_,results_tmp rfl _ _ _,v,ys,HYS.out,rfl,?_,Mod.of_below (hB.trans (belowK_b (w:=w) (aZq _) W D _ _ (by simp at hD;omega) hK rfl rfl)) _⟩;unfold aE;rw[bU];exact ownsRow_putObj bk _ hK rfl
 case stop=>
  rintro D c pre W _ _ h _;exact h.elim
theorem yZ (Bs nb c:Nat) (es:Array MapEntry) (N:List (Wi×Nat)) (M:aR uP ptrV es c N) (ag:N.length≤900000) (w:We) (hBs:w.heap[Bs]? =some (.cells #[.map (some nb)] 179 (0,0))) (kb:w.heap[nb]? =some (.map es c)):
  Calls Tryz.prog 141 #[CV Bs] w fun e W'=>∃v ys,ys.Perm (N.map Prod.snd)∧e= .returned v∧aE pc 1 238 W' w.heap.size v ys∧Mod (fun _=>False) w W':=by
 have ao:=wR Bs nb c es N M ag w hBs kb;clear hBs kb M;go_enter Tryz.func141,Tryz.ntmps141;go_wp2_with fail;go_at_call 159;refine ao.mono ?_;rintro e w2 ⟨v,ys,hp,rfl,h1,h2⟩;have HX:=Hi (Ai hp (Ai h1 h2));clear h1 h2 hp ao;go_wp2_with fail;go_ret;exact⟨v,ys,HX.out.1,rfl,HX.out.2⟩
end
theorem ins_1G (s c:Wg) (n:Nat) (hn:n≤1) (z:Wg) (w:We):Calls Tryz.prog 176 #[s,.int .i64 0,.int .i64 (n:Int),c] w fun e w'=>e= .returned (.tuple #[])∧w'=w:=by
 go_enter Tryz.func176,Tryz.ntmps176;go_wp2_with fail;go_loopw [8] (fun s8 ws=>s8= .int .i64 1∧ws=w) (fun _ _=>0)
 case atStart=>exact⟨rfl,rfl⟩
 case round=>
  obtain⟨rfl,rfl⟩:=hrel;have hd:decide ((1:Int)<(n:Int))=false:=Df (by omega);go_wp2_with fail;go_end0;exact⟨rfl,rfl⟩
theorem pdq_1G (s c:Wg) (n:Nat) (hn:n≤1) (z:Wg) (w:We):Calls Tryz.prog 160 #[s,.int .i64 0,.int .i64 (n:Int),z,c] w fun e w'=>e= .returned (.tuple #[])∧w'=w:=by
 go_enter Tryz.func160,Tryz.ntmps160;go_wp2_with fail;go_loopw [1,2] (fun s1 s2 ws=>s1= .int .i64 0∧s2= .int .i64 (n:Int)∧ws=w) (fun _ _ _=>0)
 case atStart=>exact⟨rfl,rfl,rfl⟩
 case round=>
  obtain⟨rfl,rfl,rfl⟩:=hrel;have hw:IntKind.i64.wrap ((n:Int)-0)=(n:Int):=by
   rw[IntKind.wrap_i64];omega
  have hd:decide ((n:Int)≤12)=true:=Dt (by omega);go_wp2_with fail;go_at_call 176;refine(ins_1G _ _ n hn z _).mono ?_;rintro e w2 ⟨rfl,rfl⟩;go_wp2_with fail;exact bodyPost_ret (v:= .tuple #[]) (results_none rfl _ _ _) rfl ⟨rfl,rfl⟩
theorem N4 (s c:Wg) (a:Wb) (n cp:Nat) (hn:n≤1) (w:We):Calls Tryz.prog 142 #[.slice a n cp,c] w fun e w'=>e= .returned (.tuple #[])∧w'=w:=by
 go_enter Tryz.func142,Tryz.ntmps142;have hw:IntKind.u64.wrap (n:Int)=(n:Int):=by
  rw[IntKind.wrap_u64];omega
 go_wp2_with fail;go_at_call 157;refine(lenB_c n hn _).mono ?_;rintro e w2 ⟨⟨z,rfl⟩,rfl⟩;go_wp2_with fail;go_at_call 160;refine(pdq_1G _ _ n hn (.int .i64 z) _).mono ?_;rintro e w2 ⟨rfl,rfl⟩;go_wp2_with fail;go_end0;exact⟨rfl,rfl⟩
section
open Go.RowKit Go.Sort Go.Shelf
attribute [local go_sem] aJ aC aO aL aQ aI aP Value.cells
def oE (a b:Nat):Int:=if a<b then-1 else if b<a then 1 else 0
theorem pJ (x y:Nat):decide (oE x y<0)=decide (x<y):=by
 unfold oE;by_cases h:x<y
 ·simp[h]
 ·by_cases h2:y<x<;>simp[h,h2]
theorem YX {α:Type} (f:α→Nat):SWO (ltOf (fun x y:α=>oE (f x) (f y))) where
 irrefl x:=by show decide (oE _ _<0)=false;rw[pJ];simp
 trans x y z h1 h2:=by
  change decide (oE _ _<0)=true at h1 h2⊢;rw[pJ]at *;simp at *;omega
 ntrans x y z h1 h2:=by
  change decide (oE _ _<0)=false at h1 h2⊢;rw[pJ]at *;simp at *;omega
theorem isNaN_c (a:Nat) (w:We):Calls Tryz.prog 144 #[.int .i64 (a:Int)] w fun e w'=>e= .returned (.bool false)∧w'=w:=by
 go_enter Tryz.func144,Tryz.ntmps144;go_wp2_with fail;go_ret;exact⟨by first|rfl|simp,rfl⟩
theorem DU (a b:Nat) (w:We):Calls Tryz.prog 107 #[.int .i64 (a:Int),.int .i64 (b:Int)] w fun e w'=>e= .returned (.int .i64 (oE a b))∧w'=w:=by
 have HP:Hid (oE a b=if a<b then-1 else if b<a then 1 else 0):=Hi rfl;go_enter Tryz.func107,Tryz.ntmps107;go_wp2_with fail;go_at_call 144;refine(isNaN_c a w).mono ?_;rintro e w2 ⟨rfl,rfl⟩;go_wp2_with fail;go_at_call 144;refine(isNaN_c b _).mono ?_;rintro e w2 ⟨rfl,rfl⟩;by_cases h1:a<b
 ·have hd:=Dt h1;have H1:=Hi h1;clear h1;go_wp2_with fail;go_ret;exact⟨by rw[HP.out,if_pos H1.out];rfl,rfl⟩
 ·have hd:=Df h1;have H1:=Hi h1;clear h1;by_cases h2:b<a
  ·have cm:=Dt h2;have H2:=Hi h2;clear h2;go_wp2_with fail;go_ret;exact⟨by rw[HP.out,if_neg H1.out,if_pos H2.out];rfl,rfl⟩
  ·have cm:=Df h2;have H2:=Hi h2;clear h2;go_wp2_with fail;go_ret;exact⟨by rw[HP.out,if_neg H1.out,if_neg H2.out];rfl,rfl⟩
theorem J0 (a b:Nat) (x y:Nr) (w:We) (ka:w.heap[a]? =some (.cells (LJ x) 244 (0,0))) (kb:w.heap[b]? =some (.cells (LJ y) 244 (0,0))):
  Calls Tryz.prog 106 #[ptrV a,ptrV b] w fun e w'=>e= .returned (.int .i64 (oE x.pt y.pt))∧∃q os,w'=grow (w.drewN q) os:=by
 have hc:∀m,Calls Tryz.prog 107 #[.int .i64 (x.pt:Int),.int .i64 (y.pt:Int)] (w.drewN m) fun e w'=>e= .returned (.int .i64 (oE x.pt y.pt))∧w'=w.drewN m:=fun m=>DU x.pt y.pt _;have HC:=Hi hc;clear hc;go_enter Tryz.func106,Tryz.ntmps106;go_upto_region 1 with fail
 go_quiet ((go_at_call 107;exact Calls.quiet_of_same (HC.out _)))
 go_wp2_with fail;go_ret;exact⟨rfl,nq,#[],by simp[grow,World.drewN]⟩
def yM (pt:Nat→Nat) (ys:Wd):Prop:=∀(i j a b:Nat),i<j→ys[i]? =some a→ys[j]? =some b→¬pt b<pt a
theorem sortPtrsG {w:We} {base:Nat} {v:Wg} {zs:Wd} {pt:Nat→Nat} (bn:aE pc 1 238 w base v zs) (hz:zs.length≤900000) (hd:∀b∈zs,∃x:Nr,w.heap[b]? =some (.cells (LJ x) 244 (0,0))∧x.pt=pt b):
  Calls Tryz.prog 142 #[v,.func (.func 106) #[] #[]] w fun e w'=>e= .returned (.tuple #[])∧∃ys,ys.Perm zs∧yM pt ys∧aE pc 1 238 w' base v ys∧Mod (fun i=>v.ownBlock=some i) w w':=by
 by_cases hL:zs=[]
 ·subst hL;obtain⟨a,c,rfl,_⟩:=bn.at fN;refine(N4 (.bool true) _ a 0 c (by omega) w).mono ?_;rintro e w' ⟨rfl,rfl⟩;exact⟨rfl,[],.refl _,fun i j a b _ h=>(by cases h),bn,Mod.refl _ _⟩
 ·obtain⟨g,cap,cur,rfl,_,kg,qm,fz,bx,au⟩:=iN bn hL;obtain⟨z0,cy⟩:=List.exists_mem_of_ne_nil zs hL
  let α:= {b:Nat//b∈zs}
  haveI:Inhabited α:=⟨⟨z0,cy⟩⟩
  let enc:α→Wg:=fun x=>ptrV x.1
  let d:Array α:=zs.attach.toArray
  have Cj:d.size=zs.length:=by show zs.attach.toArray.size=_;rw[aYs,List.length_attach]
  have ut:∀i (hi:i<d.size),(d[i]!).1=zs[i]'(by omega):=fun i hi=>by
   rw[getElem!_pos d i hi];show(zs.attach.toArray[i]'(hi)).1=_;rw[List.getElem_toArray];exact congrArg Subtype.val (List.getElem_attach _)
  have hH:Holds enc w g 0 d:=fun j hj=>by
   rw[aXe,aJ,aC,kg];refine⟨?_,by simp⟩;show cur[j]? =some (ptrV (d[j]!).1);rw[ut j hj];exact bx j _ (aZb (by omega))
  have eg:∀args w,(callFunc 106 args).run Tryz.prog w= .ok (.enter 106 args) w:=enters_of Tryz.func106 (by kernel_rfl) rfl;have ao:=Any.slices_SortFunc Tryz.sortG enc (fun _=>rfl) (fun x y:α=>oE (pt x.1) (pt y.1)) (YX (fun x:α=>pt x.1)) 106 #[] g 0 cap d w eg (fun m os dk hs x y=>by
   have hm:=(eU (d:=dk) (n:=m) (os:=os) enc kg).2;obtain⟨xr,kx,ex⟩:=hd x.1 x.2;obtain⟨yr,ky,ey⟩:=hd y.1 y.2;show Calls _ _ #[ptrV x.1,ptrV y.1] _ fun e w'=>e= .returned (.int .i64 (oE (pt x.1) (pt y.1)))∧_;rw[←ex,←ey];exact J0 x.1 y.1 xr yr _ (hm.at kx (aB kx kg (aM (by decide)))) (hm.at ky (aB ky kg (aM (by decide))))) hH (aA kg) (by omega)
  rw[Cj]at ao;refine Calls.mono ao ?_;rintro e w' ⟨rfl,d',n,os,af,Bq,rfl⟩;have fu:d'.size=zs.length:=af.1.trans Cj;obtain⟨k1,m1⟩:=eU (d:=d') (n:=n) (os:=os) enc kg;have iz:d'.toList.Perm zs.attach:=by
   have h:=af.2.2;have e1:d'.extract 0 zs.length=d':=by rw[←fu];simp
   have e2:d.extract 0 zs.length=d:=by rw[←Cj];simp
   rw[e1,e2]at h;simpa[d] using h
  have Hg:(d'.toList.map Subtype.val).Perm zs:=by
   have:=iz.map Subtype.val;rwa[List.attach_map_subtype_val]at this
  have dw:∀i a,(d'.toList.map Subtype.val)[i]? =some a→i<d'.size∧(d'[i]!).1=a:=fun i a h=>by
   have hi:i<d'.size:=by have:=(aZa.1 h).1;simpa using this
   refine⟨hi,?_⟩;rw[getElem!_pos d' i hi];rw[aZv]at h;simp[hi]at h;exact h
  refine⟨rfl,d'.toList.map Subtype.val,Hg,fun i j a b ig ha hb=> ?_,au _ _ _ k1 (by simp[putCells]) (by simp[fu]) (fun i b h=> ?_),m1.mono (fun i _ e=>by rw[e];rfl)⟩
  ·obtain⟨hi,rfl⟩:=dw i a ha;obtain⟨hj,rfl⟩:=dw j b hb;have h1:=Bq i j (aYf _) ig (by omega);change decide (oE _ _<0)=false at h1;rw[pJ]at h1;exact of_decide_eq_false h1
  ·obtain⟨hi,rfl⟩:=dw i b h;have hic:i<cur.size:=by omega
   simp only[putCells,Array.getElem?_mapIdx,aYe hic,aYj,aYf,aXe,true_and,Nat.sub_zero,if_pos hi];rfl
theorem kZ {pt:Nat→Nat}:∀ {zs ys:Wd},ys.Perm zs→yM pt ys→zs.Pairwise (fun a b=>pt a<pt b)→ys=zs
 |[],ys,hp,_,_=>hp.eq_nil
 |z::zr,[],hp,_,_=>by cases hp.length_eq
 |z::zr,y::yr,hp,hr,hz=>by
  rw[List.pairwise_cons]at hz;have hyz:y=z:=by
   have h1:y∈z::zr:=hp.mem_iff.1 (by simp);have h2:z∈y::yr:=hp.mem_iff.2 (by simp);rcases aZc.1 h1 with h1|h1
   ·exact h1
   ·rcases aZc.1 h2 with h2|h2
    ·exact h2.symm
    ·obtain⟨j,hj⟩:=aZ8.1 h2;exact absurd (hz.1 y h1) (hr 0 (j+1) y z (by omega) rfl (by simpa using hj))
  subst hyz;have ce:yr.Perm zr:=hp.cons_inv;rw[kZ ce (fun i j a b ig ha hb=>hr (i+1) (j+1) a b (by omega) (by simpa using ha) (by simpa using hb)) hz.2]
theorem sF (Bs nb c:Nat) (es:Array MapEntry) (N:List (Wi×Nat)) (M:aR uP ptrV es c N) (pt:Nat→Nat) (ag:N.length≤900000) (w:We) (hBs:w.heap[Bs]? =some (.cells #[.map (some nb)] 179 (0,0))) (kb:w.heap[nb]? =some (.map es c))
  (hd:∀b∈N.map Prod.snd,∃x:Nr,w.heap[b]? =some (.cells (LJ x) 244 (0,0))∧x.pt=pt b):
  Calls Tryz.prog 104 #[CV Bs,.func (.func 106) #[] #[]] w fun e w'=>
   ∃v ys,e= .returned v∧ys.Perm (N.map Prod.snd)∧yM pt ys∧aE pc 1 238 w' w.heap.size v ys∧Mod (fun _=>False) w w':=by
 have Ab:=yZ Bs nb c es N M ag w hBs kb;have HD:=Hi hd;clear hd hBs kb M;go_enter Tryz.func104,Tryz.ntmps104;go_wp2_with fail;go_at_call 141;refine Ab.mono ?_;rintro e w2 ⟨v,zs,hp,rfl,hO,h3⟩;have HX:=Hi (Ai hO (Ai h3 hp));clear h3 Ab hO hp;obtain⟨a,c,rfl,_⟩:=HX.out.1.at fN;have Fg:zs.length≤900000:=by
  have:=HX.out.2.2.length_eq;rw[aZs]at this;omega
 have HZ:=Hi Fg;go_wp2_with fail;go_at_call 142;refine(sortPtrsG (pt:=pt) HX.out.1 HZ.out (fun b hb=>by
  obtain⟨x,k,e⟩:=HD.out b (HX.out.2.2.mem_iff.1 hb);exact⟨x,HX.out.2.1.at0 k,e⟩)).mono ?_
 rintro e w3 ⟨rfl,ys,h1,h2,h3,h4⟩;have HY:=Hi (Ai h1 (Ai h2 (Ai h3 h4)));have hl:=h1.length_eq;clear h1 h2 h3 h4;go_wp2_with fail;go_ret;obtain⟨h1,h2,h3,h4⟩:=HY.out;refine⟨_,ys,rfl,h1.trans HX.out.2.2,h2,h3,HX.out.2.1.then h4 (fun i hi e=> ?_)⟩;have:=(HX.out.1.lt _ e).1;omega
end
section
open Go.RowKit Go.Sort
attribute [local go_sem] aJ aC aO aL aQ aI aP Value.cells lM
section
variable {α:Type} {P:Wl} {T E:Wh} {f:α→Wa} {n B:Nat}
end
theorem RJ (w:We) (x:Wi):aS ic 1 (w.alloc (.cells (ic x) 3)) (some ⟨w.heap.size,0,none⟩) [x]:=by
 have hb:=heap_alloc_new w (.cells (ic x) 3);refine .inr ⟨_,0,_,_,_,rfl,hb,fun i y hy=> ?_⟩;cases i with
 |zero=>
  simp at hy;subst hy;exact⟨rfl,by simp[ic]⟩
 |succ i=>simp at hy
theorem clipI_cG (v v2:Wg) (w:We) (n:Nat) {a:Wb} {c:Nat} (hv:v= .slice a n c) (h:∀w2,(Instr.sliceAt 53 v none (some (.int .i64 (n:Int))) (some (.int .i64 (n:Int)))).run Tryz.prog w2= .ok v2 w2):
  Calls Tryz.prog 37 #[v] w fun e w'=>e= .returned v2∧w'=w:=by
 subst hv;go_enter Tryz.func37,Tryz.ntmps37;go_wp2_with fail;go_ret;exact⟨rfl,rfl⟩
noncomputable def readyFrom (pre:List Cn):List Cn→Wc
 |[]=>[]
 |x::r=>(open Classical in if∃y∈pre,pT y x then []else [x.id])++readyFrom (pre++[x]) r
noncomputable def readyC (C:List Cn):Wc:=readyFrom [] C
def outL (nd:Nat→Nr) (l:List An):Wc:=(l.filter fun x=>decide ((nd x.a).wt=0)).map An.id
section
variable {q:Nat} {L:List An} {N:List (Wi×Nat)} {S:List (aN×Nat)} {nd:Nat→Nr} {sp:Nat→Sr}
theorem eN.wt0 (I:eN q L N S nd sp) {X Y:List An} {x:An} (h:L=X++x::Y):(nd x.a).wt=0↔∀y∈X,¬pT y.cn x.cn:=by
 rw[I.wts X x Y h,aY2];exact fQ (I.kn x (by rw[h];simp))
theorem eN.ready (I:eN q L N S nd sp):∀(Y X:List An),L=X++Y→outL nd Y=readyFrom (X.map An.cn) (Y.map An.cn)
 |[],_,_=>rfl
 |x::Y,X,h=>by
  have h2:=eN.ready I Y (X++[x]) (by rw[h];simp);have h3:=I.wt0 h;rw[List.map_append]at h2;show outL nd (x::Y)=_++readyFrom _ _;rw[←show [x].map An.cn=[x.cn]from rfl,←h2];unfold outL;rw[aWr];by_cases h0:(nd x.a).wt=0
  ·rw[if_pos (by simpa using h0),if_neg (fun⟨y,hy,hh⟩=>by
    obtain⟨z,hz,rfl⟩:=aZj.1 hy;exact h3.1 h0 z hz hh)]
   rfl
  ·rw[if_neg (by simpa using h0),if_pos (Classical.byContradiction fun hn=>h0 (h3.2 fun y hy hh=>hn ⟨y.cn,aZj.2 ⟨y,hy,rfl⟩,hh⟩))];rfl
end
theorem J2 {g q:Nat} {C:List Cn} {T:Nat→Prop} {w:We} (hA:AY g q C T w):Calls Tryz.prog 69 #[ptrV g] w fun e w'=>
  ∃a,e= .returned (.slice a (readyC C).length (readyC C).length)∧aS ic 1 w' a (readyC C)∧Fz w' a∧(∀x,a=some x→w.heap.size≤x.block)∧Mod (fun _=>False) w w':=by
 obtain⟨tag,nb,sb,L,N,S,nd,sp,H,I,rfl,hO⟩:=hA;obtain⟨es,c0,kb,M⟩:=H.kn;have kh:=H.c;have ud:outL nd L=readyC (L.map An.cn):=I.ready L [] rfl;rw[←ud];have Vi:N.length≤900:=by
  rw[I.len];have h1:=I.Llen;have h2:=I.pub;omega
 have hLl:L.length≤900:=by
  rw[←I.len];exact Vi
 have ct:∀b∈L.map An.a,w.heap[b]? =some (.cells (LJ (nd b)) 244 (0,0)):=fun b hb=>(H.nodes b hb).c;have hNp:(N.map Prod.snd).Perm (L.map An.a):=by
  have:=I.N.map Prod.snd;rwa[aX0]at this
 have Sp:(L.map An.a).Pairwise (fun a b=>(nd a).pt<(nd b).pt):=by
  rw[aW1];have h1:=I.pts;rw[aW1]at h1;exact(List.pairwise_iff_forall_sublist.2 fun{x y} h=>by
   have h2:=(List.pairwise_iff_forall_sublist.1 h1) h;have hx:x∈L:=h.subset (by simp);have hy:y∈L:=h.subset (by simp);rw[(I.nds x hx).2.2.1,(I.nds y hy).2.2.1];exact h2)
 have HI:=Hi (Ai I (Ai ct (Ai hNp Sp)));have HM:=Hi M;have HB:=Hi kb;clear H I hO M kb ud ct hNp Sp;go_enter Tryz.func69,Tryz.ntmps69;go_wp2_with fail;go_at_call 103;refine(there_cG kh).mono ?_;rintro e w1 ⟨rfl,rfl⟩;go_wp2_with fail;go_at_call 105;refine(values_cG nb _).mono ?_;rintro e w2 ⟨rfl,rfl⟩;have de:Mod (fun _=>False) w1 (w1.alloc (.cells #[.map (some nb)] 179)):=(Mod.refl _ _).alloc _;have Sa:=sF w1.heap.size nb c0 es N HM.out (fun b=>(nd b).pt) (by omega) (w1.alloc (.cells #[.map (some nb)] 179)) (heap_alloc_new _ _) (de.at0 HB.out) (fun b hb=>⟨nd b,de.at0 (HI.out.2.1 b (HI.out.2.2.1.mem_iff.1 hb)),rfl⟩);have HS:=Hi Sa;have dd:=Hi de;clear Sa de;go_wp2_with fail;go_at_call 104;refine HS.out.mono ?_;rintro e w3 ⟨v,ys,rfl,af,Rx,bn,hm⟩;have Hg:ys=L.map An.a:=kZ (af.trans HI.out.2.2.1) Rx HI.out.2.2.2;subst Hg;have m3:=dd.out.then0 hm;obtain⟨a3,c3,rfl,_⟩:=bn.at fN;have HY:=Hi bn;have oz:(L.map An.a).length=L.length:=aZs _;rw[oz];have Lb:=Hi oz;have pj:=Hi m3;clear af Rx bn hm m3 kh oz;go_wp2_with fail;go_loopw [18,4] (fun s18 s4 ws=>∃i:Nat,i≤L.length∧s18= .int .i64 i∧aE ic 1 3 ws w3.heap.size s4 (outL nd (L.take i))∧Mod (fun _=>False) w3 ws) (fun s18 _ _=>L.length-(intOf s18).toNat)
 case atStart=>exact⟨0,aYf _,rfl,aE.nil _ _,Mod.refl _ _⟩
 case round=>
  obtain⟨i,hi,rfl,hO,hm⟩:=hrel;by_cases hlt:i<L.length
  ·obtain⟨x,hx⟩:∃x,L[i]? =some x:=⟨_,aZb hlt⟩;obtain⟨g1,cap,cur,hv,_,kg,_,_,bx,_⟩:=iN HY.out (fun e=>by
    rw[List.map_eq_nil_iff]at e;rw[e]at hlt;cases hlt)
   rw[Lb.out]at hv;cases hv;have ci:=bx i x.a (by rw[aZv,hx];rfl);have Tu:=aZi hx;have k0:=hm.at0 (pj.out.at0 (HI.out.2.1 x.a (aZj.2 ⟨x,Tu,rfl⟩)));have Ps:(nd x.a).id=x.id:=(HI.out.1.nds x Tu).1;unfold LJ at k0;rw[Ps]at k0;replace kg:=hm.at0 kg;have HX:=Hi hx;have hwb:(nd x.a).wt≤1000000000:=by
    obtain⟨X',Y',ni⟩:=aXf Tu;have h2:=HI.out.1.wts X' x Y' ni;have h3:=mV X' x.ks;have h4:=HI.out.1.kl x Tu;have h7:X'.length≤L.length:=by rw[ni];simp
    have h8:x.ks.length*(X'.length+1)≤1000*901:=Nat.mul_le_mul h4 (by omega);omega
   clear hx Tu Ps bx;by_cases h0:(nd x.a).wt=0
   ·have hf:outL nd (L.take (i+1))=outL nd (L.take i)++[x.id]:=by
     rw[aYa,HX.out];unfold outL;rw[aZ6,List.map_append];simp[h0]
    have HF:=Hi hf;rw[h0]at k0;have bw:(outL nd (L.take i)).length≤1000:=by
     unfold outL;rw[aZs];have h1:=List.length_filter_le (fun x:An=>decide ((nd x.a).wt=0)) (L.take i);rw[aZ4]at h1;omega
    have ep:=GD x.id wr;have mal:=(Mod.refl (fun _=>False) wr).alloc (.cells (ic x.id) 3);have li:=RJ wr x.id;obtain⟨a4,c4,rfl,_⟩:=hO.at gL;obtain⟨v5,w5,az,Nz,m5,tz⟩:=aE.append gL (q:=[x.id]) (c:=1) (hO.mod0 mal) li (by simp only[aZx];omega) (by decide) (aYb hm.size mal.size) 53;have az:(Builtin.append_ #[53,53] 53 #[.slice a4 (outL nd (L.take i)).length c4,.slice (some ⟨wr.heap.size,0,none⟩) 1 1]).run Tryz.prog _=_:=az;have Gn:=hO.lt;have mm5:Mod (fun _=>False) w3 w5:=(hm.then0 mal).then m5 (fun z hz e=>by have:=(Gn z e).1;omega);have Nj:=Hi (Ai Nz mm5);clear hf h0 bw Gn m5 tz mal li Nz mm5 hO;generalize(outL nd (L.take i)).length=ol at *;go_upto_region 9 with fail;refine region_seq 8 rfl ?_;simp only[List.range,List.range.loop]
    iterate 4 refine Zq ?_
    refine Zr ?_;(refine KN (by simp only[zK];rfl) (by rfl) rfl ?hx6 ep ?n6;(case hx6=>(simp only[aYr,aZo,aYo,zM];(try rfl)));try simp only[zL]);(refine EZ (by simp only[zK];rfl) (by rfl) rfl ?Ku ?Ua az ?n7;(case Ku=>simp only[zM];try rfl);(case Ua=>simp only[zM];try rfl);try simp only[zL]);refine Zq ?_;refine oI ?_;clear az ep;go_wp2_with fail;go_roundw
    case rel=>exact⟨i+1,by omega,by go_num,by rw[HF.out];exact Nj.out.1,Nj.out.2⟩
    case measure=>simp[intOf];omega
   ·have hf:outL nd (L.take (i+1))=outL nd (L.take i):=by
     rw[aYa,HX.out];unfold outL;rw[aZ6,List.map_append];simp[h0]
    have HF:=Hi hf;have hd:(((nd x.a).wt:Int)==0)=false:=by
     rw[beq_eq_false_iff_ne];omega
    clear hf h0;go_wp2_with fail;go_roundw
    case rel=>exact⟨i+1,by omega,by go_num,by rw[HF.out];exact hO,hm⟩
    case measure=>simp[intOf];omega
  ·obtain rfl:i=L.length:=by omega
   rw[aY5]at hO;obtain⟨a,c,rfl,dg,fy,Vm,hfz⟩:=fV gL hO;have ui:=Hi dg;have HE:=Hi (Ai fy (Ai Vm (Ai hfz hm)));clear hO dg fy Vm hfz hm;generalize Gn:(outL nd L).length=ol at *;have HOL:=Hi Gn;clear Gn;go_wp2_with fail;go_at_call 37;refine(clipI_cG _ _ _ ol rfl ui.out).mono ?_;rintro e w5 ⟨rfl,rfl⟩;go_wp2_with fail;go_ret;refine⟨a,by rw[HOL.out];rfl,HE.out.1,HE.out.2.2.1,fun z hz=> ?_,pj.out.then0 HE.out.2.2.2⟩;have:=(HE.out.2.1 z hz).1;have:=pj.out.size;omega
end
theorem SX (vs:List Wg) (cs:Wa) (o:Nat) (h:o+vs.length≤cs.size) (t:Nat):(wr cs o vs)[t]? =if o≤t∧t<o+vs.length then vs[t-o]? else cs[t]? :=by
 rw[←aWp,jF vs cs o h];have hl:cs.toList.length=cs.size:=aYd;by_cases h1:t<o
 ·rw[if_neg (by omega),aZw,aZt (by rw[aZ4];omega),aY7,if_pos h1,aWp]
 ·by_cases h2:t<o+vs.length
  ·rw[if_pos ⟨by omega,h2⟩,aZw,aZ3 (by rw[aZ4];omega),aZ4,aX7 (by omega),aZt (by omega)]
  ·rw[if_neg (by omega),aZ3 (by rw[aZg,aZ4];omega),aZg,aZ4,aX7 (by omega),List.getElem?_drop,aWp];congr 1;omega
theorem zY {xs cs:Wa} {o n:Nat} (h:xs.size=n):(if o=0∧n=cs.size then xs else wr cs o xs.toList)=wr cs o xs.toList:=by
 split
 ·rename_i hh;obtain⟨rfl,h2⟩:=hh;rw[fI _ _ (by omega)]
 ·rfl
structure LP (R:List aN) (next:Nat) (L:List aN):Prop where
 size:R.length=150
 nlt:next<150
 len:L.length≤150
 at':∀i,i<L.length→R[(next+299-i) % 150]? =L[i]?
theorem LP.zero (R:List aN) (h:R.length=150):LP R 0 []:=⟨h,by omega,by simp,fun i hi=>by simp at hi⟩
theorem LP.push {R:List aN} {next:Nat} {L:List aN} (h:LP R next L) (k:aN):LP (R.set next k) ((next+1) % 150) ((k::L).take 150) where
 size:=by rw[aZn,h.size]
 nlt:=aWt _ (by omega)
 len:=by rw[aZ4];omega
 at' i hi:=by
  have hn:=h.nlt;have hs:=h.size;rw[aZ4,aZu]at hi;rw[aXx (by omega)];cases i with
  |zero=>
   have e:((next+1) % 150+299-0) % 150=next:=by omega
   rw[e,List.getElem?_set_self (by omega)];rfl
  |succ i=>
   have e:((next+1) % 150+299-(i+1)) % 150=(next+299-i) % 150:=by omega
   rw[e,aZ0 (by omega),h.at' i (by omega),aW2]
theorem LP.many {R:List aN} {next:Nat} {L:List aN} (h:LP R next L) (k:aN):((k::L).take 150).length=if L.length=150 then 150 else L.length+1:=by
 have:=h.len;rw[aZ4,aZu];split<;>omega
section
attribute [local go_sem↓] gJ f9 gG
attribute [local go_sem] bH aJ aC eB aO aL aQ aI aP dR cW kc_size Value.cells
def lC:Wa:=Array.replicate 32 (.int .u8 0)
theorem eH:lC.size=32:=by simp[lC]
theorem i8 (w:We) (b o:Nat):(Instr.loadAt 35 (.pointer (some ⟨b,o,none⟩))).run Tryz.prog w=
   match w.heap[b]? with
   |some (.cells cs _ _)=>if o+32≤cs.size then .ok (.agg (cs.extract o (o+32))) w else dU Tryz.prog w 35 b o
   |_=>dU Tryz.prog w 35 b o:=bK (d:=_) Tryz.underlying35 rfl (by kernel_rfl) w b o
theorem rP (w:We) (b o:Nat) (xs:Wa):(Instr.storeAt 35 (.pointer (some ⟨b,o,none⟩)) (.agg xs)).run Tryz.prog w=
   match w.heap[b]? with
   |some (.cells cs U (0,0))=>
    if o+32≤cs.size∧xs.size=32∧xs.all (·.oneCell')=true then .ok () (setBlock w b (.cells (if o=0∧32=cs.size then xs else wr cs o xs.toList) U (0,0)))else eM Tryz.prog w 35 b o (.agg xs)
   |_=>eM Tryz.prog w 35 b o (.agg xs):=bQ (by kernel_rfl) w b o xs
theorem rT (dst:Option Tmp) (x:Wm) (ty:Wh) (pos:String) (after:Array Edge) (g:Option (Nat×Bool)) (a:Act) (w:We) (K:Act→We→Prop) (Q:Exit→Act→We→Prop):
  Oper.wp Tryz.prog {dst:=dst,op:= .load 35 x,type:=ty,pos:=pos,after:=after,guard:=g} a w K Q=
   (match a.eval x with
   | .pointer (some ⟨b,o,none⟩)=>
    (match w.heap[b]? with
    |some (.cells cs _ _)=>if o+32≤cs.size then K (a.put dst (.agg (cs.extract o (o+32)))) w else fP Tryz.prog {dst:=dst,op:= .load 35 x,type:=ty,pos:=pos,after:=after,guard:=g} a w K Q
    |_=>fP Tryz.prog {dst:=dst,op:= .load 35 x,type:=ty,pos:=pos,after:=after,guard:=g} a w K Q)
   |_=>fP Tryz.prog {dst:=dst,op:= .load 35 x,type:=ty,pos:=pos,after:=after,guard:=g} a w K Q):=dL (d:=_) Tryz.underlying35 rfl (by kernel_rfl) dst x ty pos after g a w K Q
theorem FW (w:We):(Instr.alloc 35 true (.tuple #[])).run Tryz.prog w= .ok (.pointer (some ⟨w.heap.size,0,none⟩)) (w.alloc (.cells lC 35)):=
 aY (z:= .agg lC) (fun w=>by kernel_rfl) w
def qr (R:List aN) (nx mn md:Int):Wa:=(cellsOf kc R).toArray++ #[.int .i64 nx,.int .i64 mn,.int .i64 md]
def ring0:List aN:=List.replicate 150 gW
theorem dY (R:List aN):(cellsOf kc R).length=R.length*32:=fF (n:=32) kc_size R
theorem vH {R:List aN} (h:R.length=150) (nx mn md:Int):(qr R nx mn md).size=4803:=by
 simp[qr,dY,h]
def rX:Wa:=qr ring0 0 0 0
theorem OD (w:We):(zeroValue 141).run Tryz.prog w= .ok (.agg rX) w:=by kernel_rfl
theorem vG {R:List aN} (h:R.length=150) (nx mn md:Int) (j:Nat) (v:Wg):(qr R nx mn md).setIfInBounds (4800+j) v=(cellsOf kc R).toArray++(#[.int .i64 nx,.int .i64 mn,.int .i64 md]:Wa).setIfInBounds j v:=by
 unfold qr;rw[Array.setIfInBounds_append_right (by simp[dY,h])];congr 2;simp[dY,h]
theorem oH {R:List aN} (h:R.length=150) (nx mn md:Int) (j:Nat):(qr R nx mn md)[4800+j]? =(#[.int .i64 nx,.int .i64 mn,.int .i64 md]:Wa)[j]? :=by
 unfold qr;rw[Array.getElem?_append_right (by simp[dY,h])];congr 1;simp[dY,h]
theorem CH {R:List aN} (h:R.length=150) (nx mn md:Int) {i:Nat} {k:aN} (hk:R[i]? =some k):(qr R nx mn md).extract (i*32) (i*32+32)=kc k:=by
 obtain⟨hi,rfl⟩:=aZa.1 hk;apply aZ1.1;rw[aXv];have e:cellsOf kc R=cellsOf kc (R.take i)++(cellsOf kc [R[i]]++cellsOf kc (R.drop (i+1))):=by
  rw[←cL,←cL,List.singleton_append,←aXr hi,aY9]
 have l1:(cellsOf kc (R.take i)).length=i*32:=by rw[dY,aZ4,aX7 (by omega)]
 have l2:(cellsOf kc [R[i]]).length=32:=by rw[dY];simp
 show((qr R nx mn md).toList.extract (i*32) (i*32+32))=_;unfold qr;rw[aWi,e];simp only[List.extract,aZw];rw[←l1,List.drop_left,aXs,←l2,List.take_left];simp[cellsOf]
theorem JT {R:List aN} (h:R.length=150) (nx mn md:Int) {i:Nat} (hi:i<150) (k:aN):wr (qr R nx mn md) (i*32) (kc k).toList=qr (R.set i k) nx mn md:=by
 apply aZ1.1;have Gf:(kc k).toList.length=32:=by simp
 rw[jF _ _ _ (by rw[Gf,vH h];omega),Gf];have e:cellsOf kc R=cellsOf kc (R.take i)++(cellsOf kc [R[i]]++cellsOf kc (R.drop (i+1))):=by
  rw[←cL,←cL,List.singleton_append,←aXr,aY9]
 have e2:cellsOf kc (R.set i k)=cellsOf kc (R.take i)++(cellsOf kc [k]++cellsOf kc (R.drop (i+1))):=by
  rw[←cL,←cL,List.singleton_append,List.set_eq_take_append_cons_drop,if_pos (by omega)]
 have l1:(cellsOf kc (R.take i)).length=i*32:=by rw[dY,aZ4,aX7 (by omega)]
 have l2:(cellsOf kc [R[i]]).length=32:=by rw[dY];simp
 unfold qr;simp only[aWi];rw[e2,e];simp only[aZw]
 conv=>lhs;arg 1;rw[←l1,List.take_left]
 conv=>lhs;arg 2;arg 2;rw[show i*32+32=(cellsOf kc (R.take i)++cellsOf kc [R[i]]).length by rw[aZg,l1,l2],←aZw,List.drop_left]
 simp[cellsOf]
theorem GA (w:We):(Instr.build 141 #[(3,.int .i64 1)]).run Tryz.prog w= .ok (.agg (qr ring0 0 0 1)) w:=by
 refine eZ (z:= .agg rX) (places:= #[(0,4800),(4800,1),(4801,1),(4802,1)]) Tryz.underlying141 OD (fun w=>by kernel_rfl) ?_ w;show Instr.fill _ rX [(3,_)]=_;rw[cZ (off:=4802) (n:=1) rfl rfl (by rw[show rX.size=4803 from vH (by simp[ring0]) 0 0 0];omega)];refine congrArg some ?_;show rX.setIfInBounds (4800+2) (.int .i64 1)=_;exact vG (by simp[ring0]) 0 0 0 2 _
attribute [local go_sem↓] rT i8 rP
attribute [local go_sem] eH
def oX (w:We) (q:Nat) (L:List aN):Prop:=∃(R:List aN) (nx:Nat),w.heap[q]? =some (.cells (qr R (nx:Int) (L.length:Int) 1) 141 (0,0))∧LP R nx L
theorem RC (w:We):Calls Tryz.prog 41 #[] w fun e w'=>∃q,e= .returned (ptrV q)∧w.heap.size≤q∧oX w' q []∧Mod (fun _=>False) w w':=by
 have hb:=GA;go_enter Tryz.func41,Tryz.ntmps41;go_upto_region 1 with fail;refine ZP0 [0,3,0] ?_;refine Zu hb ?_;refine Zb fun p2 ce=> ?_;refine Zv ?_;refine TD.nil (fun w1 hr=> ?_);obtain⟨gp2,kp2⟩:=hr.b p2;go_wp2_with fail;go_ret;exact⟨_,rfl,gp2,⟨ring0,0,kp2,LP.zero _ (by simp[ring0])⟩,hr.mod⟩
theorem oX.mod {w w':We} {q:Nat} {L:List aN} {S:Nat→Prop} (h:oX w q L) (hm:Mod S w w') (h1:¬S q):oX w' q L:=by
 obtain⟨R,nx,k,hq⟩:=h;exact⟨R,nx,hm.at k h1,hq⟩
theorem oX.mod0 {w w':We} {q:Nat} {L:List aN} (h:oX w q L) (hm:Mod (fun _=>False) w w'):oX w' q L:=h.mod hm (fun h=>h)
theorem IR:gV Tryz.prog 35 5 where
 laid:=laid
 row:=of_decide_eq_true (by kernel_rfl)
 at2:=by kernel_rfl
 u:=Tryz.underlying35
 e:=Tryz.underlying5
 cK:=by kernel_rfl
 cE:=by kernel_rfl
 kt:=by kernel_rfl
theorem U3:lX Tryz.prog 35 kv:=IR.keyT
theorem zP (a b:aN) (w:We):(Op.equalIn 10000 35 (.agg (kc a)) (.agg (kc b))).run Tryz.prog w= .ok (decide (a=b)) w:=IR.eqIn 9998 a b w
attribute [local go_sem↓] zP
structure QC (C:Wa) (nx mn:Nat):Prop where
 size:C.size=4803
 c0:C[4800]? =some (.int .i64 (nx:Int))
 c1:C[4801]? =some (.int .i64 (mn:Int))
 c2:C[4802]? =some (.int .i64 1)
 g0:∀h:4800<C.size,C[4800]= .int .i64 (nx:Int)
 g1:∀h:4801<C.size,C[4801]= .int .i64 (mn:Int)
 g2:∀h:4802<C.size,C[4802]= .int .i64 1
theorem xX {R:List aN} (h:R.length=150) (nx mn:Nat):QC (qr R nx mn 1) nx mn:=⟨vH h _ _ _,oH h _ _ _ 0,oH h _ _ _ 1,oH h _ _ _ 2,fun hh=>aU (oH h _ _ _ 0) hh,fun hh=>aU (oH h _ _ _ 1) hh,fun hh=>aU (oH h _ _ _ 2) hh⟩
theorem qthere_c (q:Nat) (C:Wa) (nx mn:Nat) (w:We) (kq:w.heap[q]? =some (.cells C 141 (0,0))) (h:QC C nx mn):Calls Tryz.prog 46 #[ptrV q] w fun e w'=>e= .returned (.bool true)∧w=w':=by
 obtain⟨hs,h0,h1,h2,g0,g1,g2⟩:=h;go_enter Tryz.func46,Tryz.ntmps46
 go_wp2
 go_ret;exact⟨rfl,rfl⟩
theorem O0 (q:Nat) (C:Wa) (nx mn i:Nat) (w:We) (kq:w.heap[q]? =some (.cells C 141 (0,0))) (h:QC C nx mn) (hn:nx<150) (hi:i<150):Calls Tryz.prog 61 #[ptrV q,.int .i64 (i:Int)] w fun e w'=>e= .returned (.int .i64 (((nx+299-i) % 150:Nat):Int))∧w=w':=by
 obtain⟨hs,h0,h1,h2,g0,g1,g2⟩:=h;obtain⟨d,hd⟩:∃d,d+i=nx+299:=⟨nx+299-i,by omega⟩;have e0:nx+299-i=d:=by omega
 rw[e0];have e1:IntKind.i64.wrap ((nx:Int)-1)=(nx:Int)-1:=IntWalk.i64_in _ (by omega);have e2:IntKind.i64.wrap ((nx:Int)-1-(i:Int))=(nx:Int)-1-(i:Int):=IntWalk.i64_in _ (by omega);have e3:IntKind.i64.wrap ((nx:Int)-1-(i:Int)+300)=(d:Int):=(IntWalk.i64_in _ (by omega)).trans (by omega);clear e0;go_enter Tryz.func61,Tryz.ntmps61
 go_wp2
 go_ret;exact⟨by go_num,rfl⟩
theorem AD {L:List aN} {k x:aN} {i:Nat} (h:k∉L.take i) (hx:L[i]? =some x) (aw:x≠k):k∉L.take (i+1):=by
 rw[aYa,hx];simp only[Option.toList_some,aZh,aZm];rintro(h2|h2)
 ·exact h h2
 ·exact aw h2.symm
theorem age_c (q:Nat) (L:List aN) (k:aN) (w:We) (h:oX w q L):Calls Tryz.prog 22 #[ptrV q,.agg (kc k)] w fun e w'=>∃i:Nat,e= .returned (.tuple #[.int .i64 (i:Int),.bool (decide (k∈L))])∧Mod (fun _=>False) w w':=by
 obtain⟨R,nx,kQ,hq⟩:=h;have nf:=hq.nlt;have bw:=hq.len;obtain⟨C,hC⟩:∃C,C=qr R nx L.length 1:=⟨_,rfl⟩;have HC:Hid (QC C nx L.length):=Hi (by rw[hC];exact xX hq.size _ _);have HR:Hid (∀i,i<L.length→∀x,L[i]? =some x→C.extract ((nx+299-i) % 150*32) ((nx+299-i) % 150*32+32)=kc x):=Hi (fun i hi x hx=>by
  rw[hC];exact CH hq.size _ _ _ ((hq.at' i hi).trans hx))
 rw[←hC]at kQ;clear hC hq;have HS:=Hi HC.out.size;obtain⟨hs,h0,h1,h2,g0,g1,g2⟩:=HC.out;go_enter Tryz.func22,Tryz.ntmps22;go_upto_region 0 with fail;have LkQ:=aA kQ;refine ZP0 [3,0,0] ?_;refine Zb fun p3 yv=> ?_
 iterate 2 refine Zv ?_
 refine TD.nil (fun w1 hr=> ?_);replace kQ:=hr.q kQ;obtain⟨gp3,kp3⟩:=hr.b p3;have m1:=hr.mod;clear hr;go_wp2_with fail;refine wp_scope_straight ?_;go_wp2_with fail;go_at_call 46;refine(qthere_c q C nx L.length _ kQ HC.out).mono ?_;rintro e w2 ⟨rfl,rfl⟩;go_wp2_with fail;apply wp_label;go_wp2_with fail;go_loopw [4,5,14] (fun s4 s5 s14 ws=>∃i:Nat,i≤L.length∧s14= .int .i64 (i:Int)∧s4= .int .i64 0∧s5= .bool false∧Hid (k∉L.take i)∧Mod (fun _=>False) w1 ws) (fun _ _ s14 _=>L.length-(intOf s14).toNat)
 case atStart=>exact⟨0,aYf _,rfl,rfl,rfl,Hi (by simp),Mod.refl _ _⟩
 case round=>
  obtain⟨i,hi,rfl,rfl,rfl,HT,hm⟩:=hrel;replace kQ:=hm.at0 kQ;replace kp3:=hm.at0 kp3;by_cases hlt:i<L.length
  ·have hd:=Dt hlt;obtain⟨x,hx⟩:∃x,L[i]? =some x:=⟨_,aZb hlt⟩;have he:=HR.out i hlt x hx;have HX:=Hi hx;obtain⟨j,hj⟩:∃j,(nx+299-i) % 150=j:=⟨_,rfl⟩;have hj1:((j:Nat):Int)<150:=by omega
   have Ja:j*32≤4771:=by omega
   rw[hj]at he;have HJ:=Hi hj;clear hx hj;by_cases Cq:x=k
   ·have HE:Hid (k∈L):=Hi (by rw[←Cq];exact aZi HX.out);have aw:=Dt Cq;clear Cq;go_upto_region 6 with fail;have LkQ:=aA kQ;have Lkp3:=aA kp3;refine bL (T0:=fun _=>False) (K:=fun _ _=>True) (κ:=fun i=>[0,0,0,6,0,0,0,0,0,0].getD i 0) (υ:=fun _=>[]) [0,1,2,3,4,5,6,7,8,9] (by kernel_rfl) (by kernel_rfl) (aH.true).cl (trivial) (fun _ h=>h.elim) ?_;have gK:=aH.true
    iterate 3 refine Zg ?_
    (refine ZG (fun v=>v= .int .i64 (j:Int)) gK ?_ (s:=fun T wq kq ltq ae ub=>by have kQq:=ae.at kQ (fun h=>h);exact(O0 q C nx L.length i wq kQq HC.out nf (by omega)).mono (fun e w' h=>⟨_,h.1,by rw[HJ.out],by rw[h.2];exact Mod.refl _ _⟩));rintro v10 hC;subst hC;try simp only[zL])
    iterate 6 first|refine Zg ?_|refine Zh ?_
    refine TG.nil (fun w3 ⟨TR,hr⟩=> ?_);replace kQ:=hr.q kQ;replace kp3:=hr.q kp3;clear gK;have qc:=hm.then0 hr.mod;clear hr;go_wp2_with fail;(try simp only[Exit.noGoto])
    go_ret2
    exact⟨i,by rw[Dt HE.out];rfl,m1.then0 qc⟩
   ·have HN:=Hi (AD HT.out HX.out Cq);have aw:=Df Cq;clear Cq;go_upto_region 6 with fail;have LkQ:=aA kQ;have Lkp3:=aA kp3;refine bL (T0:=fun _=>False) (K:=fun _ _=>True) (κ:=fun i=>[0,0,0,6,0,0,0,0,0,0].getD i 0) (υ:=fun _=>[]) [0,1,2,3,4,5,6,7,8,9] (by kernel_rfl) (by kernel_rfl) (aH.true).cl (trivial) (fun _ h=>h.elim) ?_;have gK:=aH.true
    iterate 3 refine Zg ?_
    (refine ZG (fun v=>v= .int .i64 (j:Int)) gK ?_ (s:=fun T wq kq ltq ae ub=>by have kQq:=ae.at kQ (fun h=>h);exact(O0 q C nx L.length i wq kQq HC.out nf (by omega)).mono (fun e w' h=>⟨_,h.1,by rw[HJ.out],by rw[h.2];exact Mod.refl _ _⟩));rintro v20 hC;subst hC;try simp only[zL])
    iterate 6 first|refine Zg ?_|refine Zh ?_
    refine TG.nil (fun w3 ⟨TR,hr⟩=> ?_);replace kQ:=hr.q kQ;replace kp3:=hr.q kp3;clear gK;have qc:=hm.then0 hr.mod;clear hr;go_wp2_with fail;go_roundw
    case rel=>exact⟨i+1,by omega,by go_num,rfl,rfl,HN,qc⟩
    case measure=>simp[intOf];omega
  ·have hd:=Df hlt;have HE:Hid (k∉L):=Hi (by
    have h1:=HT.out;rw[aY6 (by omega)]at h1;exact h1)
   go_wp2_with fail;(try simp only[Exit.noGoto])
   go_ret2
   exact⟨0,by rw[Df HE.out];rfl,m1.then0 hm⟩
def gD (L:List aN) (k:aN):List aN:=if k∈L then L else(k::L).take 150
theorem fA:lC.extract 0 32=lC:=eB gW
theorem fB:lC.all (·.oneCell') 0 32=true:=cW gW
attribute [local go_sem] fA fB
theorem xK {w:We} {p:Nat} {k:aN} {U:Wh} (h:w.heap[p]? =some (.cells (kc k) U (0,0))):(Instr.loadAt 35 (.pointer (some ⟨p,0,none⟩))).run Tryz.prog w= .ok (.agg (kc k)) w:=by
 rw[i8,h];simp
theorem CG (q:Nat) (L:List aN) (k:aN) (w:We) (h:oX w q L):Calls Tryz.prog 13 #[ptrV q,.agg (kc k)] w fun e w'=>(∃v,e= .returned v)∧oX w' q (gD L k)∧Mod (fun i=>i=q) w w':=by
 have H:=Hi h;obtain⟨R,nx,kQ,hq⟩:=h;have HQ:=Hi hq;have nf:=hq.nlt;have bw:=hq.len;obtain⟨C,hC⟩:∃C,C=qr R nx L.length 1:=⟨_,rfl⟩;have HC:Hid (QC C nx L.length):=Hi (by rw[hC];exact xX hq.size _ _);rw[←hC]at kQ;clear hq;have Ug:=Hi hC;clear hC;go_enter Tryz.func13,Tryz.ntmps13;go_upto_region 0 with fail;have LkQ:=aA kQ;refine ZP0 [3,3,0,0] ?_;refine Zb fun p3 yv=> ?_;refine Za FW fun p4 od=> ?_;obtain⟨ne_p4_p3,od⟩:=Bx.set_none od
 iterate 2 refine Zv ?_
 refine TD.nil (fun w1 hr=> ?_);replace kQ:=hr.q kQ;obtain⟨gp3,kp3⟩:=hr.b p3;obtain⟨gp4,kp4⟩:=hr.b p4;have m1:=hr.mod;clear hr;go_wp2_with fail;go_at_call 46;refine(qthere_c q C nx L.length _ kQ HC.out).mono ?_;rintro e w2 ⟨rfl,rfl⟩;go_upto_region 3 with fail;go_wp2_with fail;go_at_call 22;refine(age_c q L k _ (H.out.mod0 m1)).mono ?_;rintro e w2 ⟨a,rfl,m2⟩;replace kQ:=m2.at0 kQ;replace kp3:=m2.at0 kp3;replace kp4:=m2.at0 kp4;replace m2:=m1.then0 m2;have Ws:q≠p4:=by
  have:=aA kQ;intro e;subst e;have h1:=H.out;obtain⟨_,_,h2,_⟩:=h1;have:=aA h2;omega
 have hq4':p4≠q:=Ws.symm;have dd:Hid (Mod (fun i=>i=q) w w2):=Hi (m2.mono (fun _ _ h=>h.elim));have od:w.heap.size≤p4:=by omega
 clear m1 m2;by_cases hk:k∈L
 ·have HK:=Hi hk;rw[Dt hk];clear hk;go_upto_region 5 with fail;have LkQ:=aA kQ;have Lkp4:=aA kp4;refine kH (C:=fun _ _ _=>False) (κ:=fun i=>[1,5,0,0].getD i 0) [0,2,3,1] (by kernel_rfl) (by kernel_rfl) (fun _ _ d _ _ h=>by cases d<;>first|exact h|exact absurd h (hP _ _ _)) ?_
  iterate 3 first|refine Zd ?_|refine Zv ?_
  refine Zi fun wE hr=> ?_;replace kQ:=hr.mod.at0 kQ;replace kp4:=hr.mod.at0 kp4;have mE:=hr.mod;refine ZS ?_;refine ZN kp4 fun w5 kp4 mS=> ?_;(try simp only[Array.setIfInBounds,zL]at kp4);replace kQ:=mS.at_ne kQ (by omega);replace dd:=Hi (dd.out.then ((mE.mono (T:=fun i=>i=p4) (fun _ _ h=>h.elim)).trans mS) (fun i hi e=>by omega));go_wp2_with fail;(try simp only[Exit.noGoto]);refine bodyPost_ret (results_cell3 (x:= .agg lC) rfl rfl (by rw[i8];simp[kp4,eH,fA])) rfl ⟨⟨_,rfl⟩,?_,dd.out⟩;rw[show gD L k=L from if_pos HK.out];exact⟨R,nx,by rw[←Ug.out];exact kQ,HQ.out⟩
 ·have HK:=Hi hk;rw[Df hk];clear hk;obtain⟨hs,h0,h1,h2,g0,g1,g2⟩:=HC.out;by_cases hful:L.length=150
  ·have hd:decide (L.length=150)=true:=Dt hful;have hdi:((L.length:Int)==150)=true:=by rw[beq_iff_eq];omega
   have Cu:Hid (QC C nx 150):=by rw[←hful];exact HC
   have za:Hid (C=qr R nx ((150:Nat):Int) 1):=Hi (by rw[Ug.out,hful]);obtain⟨x,hx⟩:∃x,R[nx]? =some x:=⟨_,aZb (by rw[HQ.out.size];exact nf)⟩;have he:C.extract (nx*32) (nx*32+32)=kc x:=by
    rw[Ug.out];exact CH HQ.out.size _ _ _ hx
   have hb:nx*32≤4771:=by omega
   have cq:((nx:Nat):Int)<150:=by omega
   clear hx;go_upto_region 8 with fail;have LkQ:=aA kQ;have Lkp4:=aA kp4;have Lkp3:=aA kp3;refine ZP [0,0,0,0,1,0,0,0,1,5] ?_
   iterate 9 first|refine Zv ?_|refine Zd ?_
   refine Zi fun wE hr=> ?_;replace kQ:=hr.mod.at0 kQ;replace kp4:=hr.mod.at0 kp4;replace kp3:=hr.mod.at0 kp3;have mE:=hr.mod;refine ZS ?_;refine ZN kp4 fun w3 kp4 mS=> ?_;(try simp only[Array.setIfInBounds,zL]at kp4);replace kQ:=mS.at_ne kQ (by omega);replace kp3:=mS.at_ne kp3 (by omega);replace dd:=Hi (dd.out.then ((mE.mono (T:=fun i=>i=p4) (fun _ _ h=>h.elim)).trans mS) (fun i hi e=>by omega));clear hr mE mS hs h0 h1 h2 g0 g1 g2 hb cq;obtain⟨C2,rfl⟩:∃C2:Wa,C2=C:=⟨_,rfl⟩;obtain⟨mn,Mj⟩:∃mn:Nat,mn=150:=⟨_,rfl⟩;rw[←Mj]at Cu za;have Xq:Hid ((gD L k).length=mn):=Hi (by
    rw[show gD L k=(k::L).take 150 from if_neg HK.out,HQ.out.many,if_pos hful,Mj])
   clear Mj hful hd hdi;obtain⟨y4,rfl⟩:∃y4,y4=x:=⟨_,rfl⟩;have Hy:C2.size=4803:=Cu.out.size;obtain⟨n1,je⟩:∃n1,nx+1=n1:=⟨_,rfl⟩;have zd:=Hi je;obtain⟨nx',Bb⟩:∃nx',n1 % 150=nx':=⟨_,rfl⟩;obtain⟨C3,De⟩:∃C3,C3=qr (R.set nx k) nx (mn:Int) 1:=⟨_,rfl⟩;obtain⟨C4,vp⟩:∃C4,C4=qr (R.set nx k) nx' (mn:Int) 1:=⟨_,rfl⟩;have e3:wr C2 (nx*32) (kc k).toList=C3:=by rw[za.out,De];exact JT HQ.out.size _ _ _ HQ.out.nlt k
   have e4:C3.setIfInBounds 4800 (.int .i64 (nx':Int))=C4:=by
    rw[De,vp];exact vG (by rw[aZn];exact HQ.out.size) _ _ _ 0 _
   have Xe:Hid (QC C3 nx mn):=Hi (by rw[De];exact xX (by rw[aZn];exact HQ.out.size) _ _);have Hj:=Hi vp;have Cx:=Hi Bb;have E3:=Hi e3;have E4:=Hi e4;clear De vp e3 e4 Bb Hy je;obtain⟨hs,h0,h1,h2,g0,g1,g2⟩:=Cu.out;have hb:nx*32≤4771:=by omega
   have cq:((nx:Nat):Int)<150:=by omega
   go_upto_region 10 with fail;have Lkp3:=aA kp3;have LkQ:=aA kQ;have Lkp4:=aA kp4;refine ZP [0,0,0,0,1,1,0,0,0,5] ?_
   iterate 9 first|refine Zv ?_|refine Zd ?_
   refine Zi fun wE hr=> ?_;replace kp3:=hr.mod.at0 kp3;replace kQ:=hr.mod.at0 kQ;replace kp4:=hr.mod.at0 kp4;have mE:=hr.mod;refine ZS ?_;refine ZN kQ fun w5 kQ mS=> ?_;(try simp only[Array.setIfInBounds,zL]at kQ);replace kp3:=mS.at_ne kp3 (by omega);replace kp4:=mS.at_ne kp4 (by omega);replace dd:=Hi (dd.out.trans ((mE.mono (T:=fun i=>i=q) (fun _ _ h=>h.elim)).trans mS));clear hr mE mS hs h0 h1 h2 g0 g1 g2;rw[E3.out]at kQ;obtain⟨hs,h0,h1,h2,g0,g1,g2⟩:=Xe.out;have ew:IntKind.i64.wrap ((nx:Int)+1)=(n1:Int):=(IntWalk.i64_in _ (by omega)).trans (by have:=zd.out;omega);go_upto_region 11 with fail;have LkQ:=aA kQ;have Lkp4:=aA kp4;refine ZP0 [0,0,0,0,1,0,0,0,0,5] ?_
   iterate 9 first|refine Zv ?_|refine Zd ?_
   refine Zi fun wE hr=> ?_;replace kQ:=hr.mod.at0 kQ;replace kp4:=hr.mod.at0 kp4;have mE:=hr.mod;refine ZS ?_;refine ZN kQ fun w6 kQ mS=> ?_;replace kp4:=mS.at_ne kp4 (by omega);replace dd:=Hi (dd.out.trans ((mE.mono (T:=fun i=>i=q) (fun _ _ h=>h.elim)).trans mS));clear hr mE mS hs h0 h1 h2 g0 g1 g2;rw[show(n1:Int).tmod 150=(nx':Int)by rw[aWf (by omega)];have:=Cx.out;omega,E4.out]at kQ;go_upto_region 12 with fail;have Hq:=Hi kQ;clear kQ LkQ Lkp4 ew;have Lkp4:=aA kp4;refine kH (C:=fun _ _ _=>False) (κ:=fun i=>[1,0,5,0,0].getD i 0) [0,1,3,4,2] (by kernel_rfl) (by kernel_rfl) (fun _ _ d _ _ h=>by cases d<;>first|exact h|exact absurd h (hP _ _ _)) ?_;(refine TD.load (v:= ?v65) (p:= ?p65) (Mod.refl _ _) (by simp only[zK];rfl) rfl (by rfl) rfl ?hx65 (fun wq ae=> ?y65) ?n65;(case hx65=>simp only[zM];try rfl);(case y65=>(have kp4q:=ae.at kp4 (fun h=>h);exact(xK kp4q)));try simp only[zL])
   iterate 3 refine Zv ?_
   refine Zi fun wE hr=> ?_;replace kp4:=hr.mod.at0 kp4;have mE:=hr.mod;refine ZS ?_;refine ZN kp4 fun w7 kp4 mS=> ?_;(try simp only[Array.setIfInBounds,zL]at kp4);replace Hq:=Hi (mS.at_ne (mE.at0 Hq.out) Ws);replace dd:=Hi (dd.out.then ((mE.mono (T:=fun i=>i=p4) (fun _ _ h=>h.elim)).trans mS) (fun i hi e=>by omega));clear hr mE mS;go_wp2_with fail;(try simp only[Exit.noGoto]);refine bodyPost_ret (results_cell3 (x:= .agg (kc y4)) rfl rfl (by rw[i8];simp[kp4])) rfl ⟨⟨_,rfl⟩,⟨R.set nx k,nx',?_,?_⟩,dd.out⟩
   ·rw[Xq.out,←Hj.out];exact Hq.out
   ·rw[show gD L k=(k::L).take 150 from if_neg HK.out,←Cx.out,←zd.out];exact HQ.out.push k
  ·have hd:decide (L.length=150)=false:=Df hful;have hdi:((L.length:Int)==150)=false:=by rw[beq_eq_false_iff_ne];omega
   obtain⟨mn,Mj⟩:∃mn:Nat,mn=L.length+1:=⟨_,rfl⟩;have hw:IntKind.i64.wrap ((L.length:Int)+1)=(mn:Int):=(IntWalk.i64_in _ (by omega)).trans (by omega);have Xq:Hid ((gD L k).length=mn):=Hi (by
    rw[show gD L k=(k::L).take 150 from if_neg HK.out,HQ.out.many,if_neg hful,Mj])
   clear Mj hful;go_upto_region 9 with fail;have LkQ:=aA kQ;have Lkp4:=aA kp4;have Lkp3:=aA kp3;refine ZP0 [0,0,0,1,0,0,0,5] ?_
   iterate 7 first|refine Zv ?_|refine Zd ?_
   refine Zi fun wE hr=> ?_;replace kQ:=hr.mod.at0 kQ;replace kp4:=hr.mod.at0 kp4;replace kp3:=hr.mod.at0 kp3;have mE:=hr.mod;refine ZS ?_;refine ZN kQ fun w3 kQ mS=> ?_;replace kp4:=mS.at_ne kp4 (by omega);replace kp3:=mS.at_ne kp3 (by omega);replace dd:=Hi (dd.out.trans ((mE.mono (T:=fun i=>i=q) (fun _ _ h=>h.elim)).trans mS));clear hr mE mS hs h0 h1 h2 g0 g1 g2 hw hd hdi;obtain⟨C2,Yt⟩:∃C2,C.setIfInBounds 4801 (.int .i64 (mn:Int))=C2:=⟨_,rfl⟩;rw[Yt]at kQ;have za:Hid (C2=qr R nx (mn:Int) 1):=Hi (by
    rw[←Yt,Ug.out];exact vG HQ.out.size _ _ _ 1 _)
   have Cu:Hid (QC C2 nx mn):=by rw[za.out];exact Hi (xX HQ.out.size _ _)
   clear Yt;obtain⟨y4,hy4⟩:∃y4,lC=kc y4:=⟨gW,rfl⟩;rw[hy4]at kp4;clear hy4;have Hy:C2.size=4803:=Cu.out.size;obtain⟨n1,je⟩:∃n1,nx+1=n1:=⟨_,rfl⟩;have zd:=Hi je;obtain⟨nx',Bb⟩:∃nx',n1 % 150=nx':=⟨_,rfl⟩;obtain⟨C3,De⟩:∃C3,C3=qr (R.set nx k) nx (mn:Int) 1:=⟨_,rfl⟩;obtain⟨C4,vp⟩:∃C4,C4=qr (R.set nx k) nx' (mn:Int) 1:=⟨_,rfl⟩;have e3:wr C2 (nx*32) (kc k).toList=C3:=by rw[za.out,De];exact JT HQ.out.size _ _ _ HQ.out.nlt k
   have e4:C3.setIfInBounds 4800 (.int .i64 (nx':Int))=C4:=by
    rw[De,vp];exact vG (by rw[aZn];exact HQ.out.size) _ _ _ 0 _
   have Xe:Hid (QC C3 nx mn):=Hi (by rw[De];exact xX (by rw[aZn];exact HQ.out.size) _ _);have Hj:=Hi vp;have Cx:=Hi Bb;have E3:=Hi e3;have E4:=Hi e4;clear De vp e3 e4 Bb Hy je;obtain⟨hs,h0,h1,h2,g0,g1,g2⟩:=Cu.out;have hb:nx*32≤4771:=by omega
   have cq:((nx:Nat):Int)<150:=by omega
   go_upto_region 10 with fail;have Lkp3:=aA kp3;have LkQ:=aA kQ;have Lkp4:=aA kp4;refine ZP [0,0,0,0,1,1,0,0,0,5] ?_
   iterate 9 first|refine Zv ?_|refine Zd ?_
   refine Zi fun wE hr=> ?_;replace kp3:=hr.mod.at0 kp3;replace kQ:=hr.mod.at0 kQ;replace kp4:=hr.mod.at0 kp4;have mE:=hr.mod;refine ZS ?_;refine ZN kQ fun w5 kQ mS=> ?_;(try simp only[Array.setIfInBounds,zL]at kQ);replace kp3:=mS.at_ne kp3 (by omega);replace kp4:=mS.at_ne kp4 (by omega);replace dd:=Hi (dd.out.trans ((mE.mono (T:=fun i=>i=q) (fun _ _ h=>h.elim)).trans mS));clear hr mE mS hs h0 h1 h2 g0 g1 g2;rw[E3.out]at kQ;obtain⟨hs,h0,h1,h2,g0,g1,g2⟩:=Xe.out;have ew:IntKind.i64.wrap ((nx:Int)+1)=(n1:Int):=(IntWalk.i64_in _ (by omega)).trans (by have:=zd.out;omega);go_upto_region 11 with fail;have LkQ:=aA kQ;have Lkp4:=aA kp4;refine ZP0 [0,0,0,0,1,0,0,0,0,5] ?_
   iterate 9 first|refine Zv ?_|refine Zd ?_
   refine Zi fun wE hr=> ?_;replace kQ:=hr.mod.at0 kQ;replace kp4:=hr.mod.at0 kp4;have mE:=hr.mod;refine ZS ?_;refine ZN kQ fun w6 kQ mS=> ?_;replace kp4:=mS.at_ne kp4 (by omega);replace dd:=Hi (dd.out.trans ((mE.mono (T:=fun i=>i=q) (fun _ _ h=>h.elim)).trans mS));clear hr mE mS hs h0 h1 h2 g0 g1 g2;rw[show(n1:Int).tmod 150=(nx':Int)by rw[aWf (by omega)];have:=Cx.out;omega,E4.out]at kQ;go_upto_region 12 with fail;have Hq:=Hi kQ;clear kQ LkQ Lkp4 ew;have Lkp4:=aA kp4;refine kH (C:=fun _ _ _=>False) (κ:=fun i=>[1,0,5,0,0].getD i 0) [0,1,3,4,2] (by kernel_rfl) (by kernel_rfl) (fun _ _ d _ _ h=>by cases d<;>first|exact h|exact absurd h (hP _ _ _)) ?_;(refine TD.load (v:= ?v98) (p:= ?p98) (Mod.refl _ _) (by simp only[zK];rfl) rfl (by rfl) rfl ?hx98 (fun wq ae=> ?y98) ?n98;(case hx98=>simp only[zM];try rfl);(case y98=>(have kp4q:=ae.at kp4 (fun h=>h);exact(xK kp4q)));try simp only[zL])
   iterate 3 refine Zv ?_
   refine Zi fun wE hr=> ?_;replace kp4:=hr.mod.at0 kp4;have mE:=hr.mod;refine ZS ?_;refine ZN kp4 fun w7 kp4 mS=> ?_;(try simp only[Array.setIfInBounds,zL]at kp4);replace Hq:=Hi (mS.at_ne (mE.at0 Hq.out) Ws);replace dd:=Hi (dd.out.then ((mE.mono (T:=fun i=>i=p4) (fun _ _ h=>h.elim)).trans mS) (fun i hi e=>by omega));clear hr mE mS;go_wp2_with fail;(try simp only[Exit.noGoto]);refine bodyPost_ret (results_cell3 (x:= .agg (kc y4)) rfl rfl (by rw[i8];simp[kp4])) rfl ⟨⟨_,rfl⟩,⟨R.set nx k,nx',?_,?_⟩,dd.out⟩
   ·rw[Xq.out,←Hj.out];exact Hq.out
   ·rw[show gD L k=(k::L).take 150 from if_neg HK.out,←Cx.out,←zd.out];exact HQ.out.push k
end
section
theorem Sg.ext {a b:Sg} (h:a.l=b.l):a=b:=by cases a;cases b;cases h;rfl
instance:DecidableEq Sg:=fun a b=>if h:a.l=b.l then .isTrue (Sg.ext h)else .isFalse (fun e=>h (e▸rfl))
theorem NY {a b:Sg} (h:sgc a=sgc b):a=b:=by
 have h1:a.l.map bc=b.l.map bc:=by simpa[sgc] using h
 exact Sg.ext (List.map_inj_right (fun _ _=>F4)|>.1 h1)
theorem kD (s:Sg):(sgc s).all (·.oneCell')=true:=by
 rw[aZ5];intro u hu;exact sgc_one s u (by simpa using hu)
theorem mR (s:Sg):(sgc s).all (·.oneCell') 0 64=true:=jU (dC s) (kD s)
theorem pM (s:Sg):(sgc s).extract 0 64=sgc s:=by
 rw[show(64:Nat)=(sgc s).size by rw[dC]];exact Array.extract_size
def O5 (s:Sg):Wg:= .agg (sgc s)
theorem NZ {a b:Sg} (h:O5 a=O5 b):a=b:=NY (by simpa[O5] using h)
section
variable {P:Wl} {K E:Wh}
structure pU (P:Wl) (K E:Wh):Prop where
 laid:laidOutB P=true
 row:K<P.types.size
 at2:P.keyTypeAt 2 K=true
 u:P.underlying K=some (.array 64 E)
 e:P.underlying E=some (.int .u8)
 cK:P.cellsOf K=64
 cE:P.cellsOf E=1
 kt:P.keyType K=true
theorem pU.lits (h:pU P K E) (k:Sg) (d:Nat):∃l,P.keyLits (d+2) K (sgc k).toList=some l:=by
 have hs:(sgc k).toList.length=64:=by rw[aYd,dC]
 have:∀i∈List.range 64,P.keyLits (d+1) E (((sgc k).toList.drop (i*P.cellsOf E)).take (P.cellsOf E))=some [Lit.int .u8 ((k.l.getD i 0).toNat:Int)]:=by
  intro i hi;have hi':i<64:=by simpa using hi
  have hl:i<k.l.length:=by rw[k.h];exact hi'
  have h1:((sgc k).toList.drop (i*P.cellsOf E)).take (P.cellsOf E)=[bc (k.l.getD i 0)]:=by
   rw[h.cE,aYp];simp only[sgc];show((k.l.map bc).drop i).take 1=_;rw[←List.map_drop,←List.map_take,aXr hl];simp only[List.take_succ_cons,List.take_zero,aZo,aYo];rw[aZk,aZb hl];rfl
  rw[h1];unfold Program.keyLits;rw[h.e];simp[bc,OL]
 unfold Program.keyLits;rw[h.u];simp only[hs,h.cK,if_true];rw[nX _ _ _ this];exact⟨_,rfl⟩
theorem pU.keyT (h:pU P K E):lX P K O5 where
 law:=Maps.Keyed.of_law (deep_law_laid h.laid (m:=2) (by omega) h.row h.at2 (by rw[h.u]))
 lit k:=by
  obtain⟨n,hn⟩:∃n,P.types.size=n+1:=⟨P.types.size-1,(Nat.sub_add_cancel (aX3 (aYf _) h.row)).symm⟩;obtain⟨l,hl⟩:=h.lits k n;unfold keyOf;rw[h.u];simp only[h.kt,O5,Value.formed,h.u,dC,h.cK,aWs,beq_self_eq_true,if_true,Value.cells,hn,hl];exact⟨_,rfl⟩
 inj _ _:=NZ
end
end
section
attribute [local go_sem↓] gJ f9 gG rT i8 rP zP
attribute [local go_sem] bH aJ aC eB aO aL aQ aI aP dR cW kc_size Value.cells eH fA fB
theorem iS:O7.size=64:=by simp[O7]
theorem B0 (w:We) (b o:Nat):(Instr.loadAt 92 (.pointer (some ⟨b,o,none⟩))).run Tryz.prog w=
   match w.heap[b]? with
   |some (.cells cs _ _)=>if o+64≤cs.size then .ok (.agg (cs.extract o (o+64))) w else dU Tryz.prog w 92 b o
   |_=>dU Tryz.prog w 92 b o:=bK (d:=_) Tryz.underlying92 rfl (by kernel_rfl) w b o
theorem CS (w:We) (b o:Nat) (xs:Wa):(Instr.storeAt 92 (.pointer (some ⟨b,o,none⟩)) (.agg xs)).run Tryz.prog w=
   match w.heap[b]? with
   |some (.cells cs U (0,0))=>
    if o+64≤cs.size∧xs.size=64∧xs.all (·.oneCell')=true then .ok () (setBlock w b (.cells (if o=0∧64=cs.size then xs else wr cs o xs.toList) U (0,0)))else eM Tryz.prog w 92 b o (.agg xs)
   |_=>eM Tryz.prog w 92 b o (.agg xs):=bQ (by kernel_rfl) w b o xs
theorem yG (dst:Option Tmp) (x:Wm) (ty:Wh) (pos:String) (after:Array Edge) (g:Option (Nat×Bool)) (a:Act) (w:We) (K:Act→We→Prop) (Q:Exit→Act→We→Prop):
  Oper.wp Tryz.prog {dst:=dst,op:= .load 92 x,type:=ty,pos:=pos,after:=after,guard:=g} a w K Q=
   (match a.eval x with
   | .pointer (some ⟨b,o,none⟩)=>
    (match w.heap[b]? with
    |some (.cells cs _ _)=>if o+64≤cs.size then K (a.put dst (.agg (cs.extract o (o+64)))) w else fP Tryz.prog {dst:=dst,op:= .load 92 x,type:=ty,pos:=pos,after:=after,guard:=g} a w K Q
    |_=>fP Tryz.prog {dst:=dst,op:= .load 92 x,type:=ty,pos:=pos,after:=after,guard:=g} a w K Q)
   |_=>fP Tryz.prog {dst:=dst,op:= .load 92 x,type:=ty,pos:=pos,after:=after,guard:=g} a w K Q):=dL (d:=_) Tryz.underlying92 rfl (by kernel_rfl) dst x ty pos after g a w K Q
theorem F0 (w:We):(Instr.alloc 92 true (.tuple #[])).run Tryz.prog w= .ok (.pointer (some ⟨w.heap.size,0,none⟩)) (w.alloc (.cells O7 92)):=
 aY (z:= .agg O7) (fun w=>by kernel_rfl) w
attribute [local go_sem↓] yG B0 CS
attribute [local go_sem] iS dC pM mR kD eH
theorem F9 (w:We):(Instr.build 35 #[]).run Tryz.prog w= .ok (.agg lC) w:=by kernel_rfl
def FR (T:Nat→Prop) (B:Nat) (w:We) (v:Wg):Prop:=∃l:List Sg,aE sgc 64 92 w 0 v l∧(∀g,v.ownBlock=some g→T g)∧l.length≤B
structure iV (T:Nat→Prop) (w:We) (n:Nat) (l:List (Sg×aN)):Prop where
 ex:∃a b es c es2 c2,∃m2:List (aN×Wg),w.heap[n]? =some (.cells #[.map (some a),.map (some b)] 167 (0,0))∧w.heap[a]? =some (.map es c)∧aR O5 kv es c l∧w.heap[b]? =some (.map es2 c2)∧aR kv id es2 c2 m2∧
  a≠b∧T n∧T a∧T b∧(∀p∈m2,FR T l.length w p.2)∧∀p∈m2,∀q∈m2,p.1≠q.1→∀i,p.2.ownBlock=some i→q.2.ownBlock≠some i
theorem FR.mod {T S:Nat→Prop} {B:Nat} {w w':We} {v:Wg} (h:FR T B w v) (hm:Mod S w w') (hS:∀i,T i→¬S i):FR T B w' v:=by
 obtain⟨l,h1,h2,h3⟩:=h;exact⟨l,h1.mod hm (fun b hb=>hS b (h2 b hb)),h2,h3⟩
theorem FR.mono {T T':Nat→Prop} {B B':Nat} {w:We} {v:Wg} (h:FR T B w v) (hT:∀i,T i→T' i) (hB:B≤B'):FR T' B' w v:=by
 obtain⟨l,h1,h2,h3⟩:=h;exact⟨l,h1,fun g hg=>hT g (h2 g hg),aYb h3 hB⟩
theorem iV.mod {T S:Nat→Prop} {w w':We} {n:Nat} {l:List (Sg×aN)} (h:iV T w n l) (hm:Mod S w w') (hS:∀i,T i→¬S i):iV T w' n l:=by
 obtain⟨a,b,es,c,es2,c2,m2,h1,h2,h3,h4,h5,h6,t1,t2,t3,h7,h8⟩:=h.ex;exact⟨a,b,es,c,es2,c2,m2,hm.at h1 (hS _ t1),hm.at h2 (hS _ t2),h3,hm.at h4 (hS _ t3),h5,h6,t1,t2,t3,fun p hp=>(h7 p hp).mod hm hS,h8⟩
theorem iV.mod0 {T:Nat→Prop} {w w':We} {n:Nat} {l:List (Sg×aN)} (h:iV T w n l) (hm:Mod (fun _=>False) w w'):iV T w' n l:=h.mod hm (fun _ _ h=>h)
theorem iV.mono {T T':Nat→Prop} {w:We} {n:Nat} {l:List (Sg×aN)} (h:iV T w n l) (hT:∀i,T i→T' i):iV T' w n l:=by
 obtain⟨a,b,es,c,es2,c2,m2,h1,h2,h3,h4,h5,h6,t1,t2,t3,h7,h8⟩:=h.ex;exact⟨a,b,es,c,es2,c2,m2,h1,h2,h3,h4,h5,h6,hT _ t1,hT _ t2,hT _ t3,fun p hp=>(h7 p hp).mono hT (aZq _),h8⟩
attribute [local go_sem↓] zP
attribute [local go_sem] fA fB
theorem V7:pU Tryz.prog 92 5 where
 laid:=laid
 row:=of_decide_eq_true (by kernel_rfl)
 at2:=by kernel_rfl
 u:=Tryz.underlying92
 e:=Tryz.underlying5
 cK:=by kernel_rfl
 cE:=by kernel_rfl
 kt:=by kernel_rfl
theorem O6:lX Tryz.prog 92 O5:=V7.keyT
theorem RB (w:We) (r:Option Nat):(binOp .neq 164 (.map r) (.map none)).run Tryz.prog w= .ok (.bool !r.isNone) w:=run_neq_map_nil w _ _ _ _ Tryz.underlying164
attribute [local go_sem] RB
theorem sthere_c {n a b:Nat} (w:We) (kn:w.heap[n]? =some (.cells #[.map (some a),.map (some b)] 167 (0,0))):Calls Tryz.prog 62 #[ptrV n] w fun e w'=>e= .returned (.bool true)∧w=w':=by
 go_enter Tryz.func62,Tryz.ntmps62
 go_wp2
 go_ret;exact⟨rfl,rfl⟩
theorem FF (w:We):(zeroValue 35).run Tryz.prog w= .ok (.agg (kc gW)) w:=by kernel_rfl
theorem FG (w:We):(zeroValue 30).run Tryz.prog w= .ok (.slice none 0 0) w:=by kernel_rfl
theorem shas_c {T:Nat→Prop} (n:Nat) (N:List (Sg×aN)) (g:Sg) (w:We) (h:iV T w n N):Calls Tryz.prog 23 #[ptrV n,.agg (sgc g)] w fun e w'=>e= .returned (.bool (lkp g N).isSome)∧Mod (fun _=>False) w w':=by
 obtain⟨a,b,es,c,es2,c2,m2,kn,ka,M,-⟩:=h.ex;go_enter Tryz.func23,Tryz.ntmps23;go_upto_region 0 with fail;have Lkn:=aA kn;have Lka:=aA ka;refine ZP0 [3,0] ?_;refine Zb fun p3 yv=> ?_;refine Zv ?_;refine TD.nil (fun w1 hr=> ?_);replace kn:=hr.q kn;replace ka:=hr.q ka;obtain⟨gp3,kp3⟩:=hr.b p3;have m1:=hr.mod;clear hr;go_wp2_with fail;go_at_call 62;refine(sthere_c _ kn).mono ?_;rintro e w2 ⟨rfl,rfl⟩;have cd:∀wq,Mod (fun _=>False) w1 wq→(Instr.lookup 164 (.map (some a)) (.agg (sgc g)) true).run Tryz.prog wq= .ok (.tuple #[.agg (kc ((lkp g N).getD gW)),.bool (lkp g N).isSome]) wq:=fun wq hq=>by
  have:=M.lookup O6 Tryz.underlying164 FF wq (hq.at0 ka) g true;rw[if_pos rfl]at this;refine this.trans ?_;cases lkp g N<;>rfl
 generalize hx:(lkp g N).getD gW=x at *;generalize hb:(lkp g N).isSome=is at *;have HB:=Hi hb;clear hx hb M;go_upto_region 3 with fail;have Lkn:=aA kn;have Lka:=aA ka;have Lkp3:=aA kp3;refine ZP [0,0,0,1,1,1,0,0,0,3,4,0] ?_
 iterate 5 first|refine Zv ?_|refine Zd ?_
 refine ZK cd ?_
 iterate 3 refine Zv ?_
 refine Za FW fun p5 ip=> ?_;refine Zt ?_;refine Zv ?_;refine TD.nil (fun w3 hr=> ?_);replace kn:=hr.q kn;replace ka:=hr.q ka;replace kp3:=hr.q kp3;obtain⟨gp5,kp5⟩:=hr.b p5;have m3:=m1.then0 hr.mod;clear cd;go_wp2_with fail;go_ret;exact⟨by rw[HB.out];rfl,m3⟩
theorem UR (g:Sg) (w:We):(Instr.buildSlice 30 1 #[(0,.agg (sgc g))]).run Tryz.prog w= .ok (.slice (some ⟨w.heap.size,0,none⟩) 1 1) (w.alloc (.cells (sgc g) 92)):=by
 obtain⟨i0,hi,cy,bj,bp⟩:=info_parts (show(Tryz.prog.info? 92).map (fun i=>(i.zero,i.size,i.bytes))=some (some (.agg O7),64,64)by kernel_rfl);refine run_buildSlice w _ _ 1 _ _ i0 _ Tryz.underlying30 hi cy (by rw[bj];omega) (by rw[bj];omega) ?_;rw[bj];show Instr.fill _ _ [(0,_)]=_;rw[cZ (off:=0) (n:=64) rfl (by simp[Value.cells,dC]) (by simp[Value.cells,iS,size_madeCells])];show some (wr _ 0 (sgc g).toList)=_;rw[fI (sgc g) _ (by simp[Value.cells,iS,dC,size_madeCells])]
def jL (N:List (Sg×aN)) (g:Sg) (k:aN):List (Sg×aN):=if(lkp g N).isSome then N else put g k N
theorem FR.zero (T:Nat→Prop) (B:Nat) (w:We):FR T B w (.slice none 0 0):=⟨[],aE.nil _ _,(fun g h=>by cases h),aYf _⟩
theorem B7 {α:Type} {f:α→Wa} {n:Nat} {E:Wh} {w:We} {base:Nat} {v:Wg} {l:List α} (h:aE f n E w base v l) {g:Nat} (hg:v.ownBlock=some g):∃cur,w.heap[g]? =some (.cells cur E (0,0)):=by
 rcases h.2 with⟨rfl,hn⟩|⟨g',cap,cur,rfl,hb,hk,_⟩
 ·cases hg
 ·cases hg;exact⟨cur,hk⟩
theorem j3 {α:Type} {f:α→Wa} {n:Nat} {E:Wh} {w:We} {base:Nat} {v:Wg} {l:List α} (h:aE f n E w base v l) {a c:Nat} {es:Array MapEntry} (ka:w.heap[a]? =some (.map es c)):∀g,v.ownBlock=some g→¬g=a:=fun g hg=>by
 obtain⟨cur,hk⟩:=B7 h hg;exact aB hk ka (by simp)
theorem mem_put {κ ν:Type} [DecidableEq κ] {k:κ} {v:ν} {m:List (κ×ν)} {p:κ×ν} (h:p∈put k v m):p=(k,v)∨p∈m:=by
 induction m with
 |nil=>simpa[put] using h
 |cons q r ih=>
  simp only[put]at h;split at h
  ·rcases aZc.1 h with h|h
   ·exact .inl h
   ·exact .inr (aZp _ h)
  ·rcases aZc.1 h with h|h
   ·exact .inr (h▸List.mem_cons_self ..)
   ·rcases ih h with h|h
    ·exact .inl h
    ·exact .inr (aZp _ h)
theorem M0 {κ ν:Type} [DecidableEq κ] (k:κ) (v:ν) (m:List (κ×ν)):m.length≤(put k v m).length∧(lkp k m=none→(put k v m).length=m.length+1):=by
 induction m with
 |nil=>simp[put]
 |cons q r ih=>
  simp only[put,lkp];split
  ·rename_i hq;exact⟨by simp,fun h=>by simp[hq]at h⟩
  ·rename_i hq;refine⟨by have:=ih.1;simp only[aZu];omega,fun h=> ?_⟩;have h2:lkp k r=none:=by simpa[hq] using h
   have:=ih.2 h2;simp only[aZu];omega
theorem Q6 {T:Nat→Prop} (n:Nat) (N:List (Sg×aN)) (g:Sg) (k:aN) (w:We) (h:iV T w n N) (hT:∀i,T i→i<w.heap.size) (hN:N.length<1000000):Calls Tryz.prog 57 #[ptrV n,.agg (sgc g),.agg (kc k)] w fun e w'=>(∃v,e= .returned v)∧iV (fun i=>T i∨(w.heap.size≤i∧i<w'.heap.size)) w' n (jL N g k)∧Mod T w w':=by
 have H:=Hi h;have HT:=Hi hT;have hh0:= @F9;obtain⟨a,b,es,c,es2,c2,m2,kn,ka,M,kb,M2,Cg,tn,ta,tb,de,Cj⟩:=h.ex;have HM:=Hi M;have dd:=Hi (Ai M2 de);have HDS:=Hi Cj;have rn:=Hi (Ai tn (Ai ta tb));clear h hT hh0 M M2 de tn ta tb Cj;have Mk:n≠a:=aB kn ka (by simp);have wi:n≠b:=aB kn kb (by simp);go_enter Tryz.func57,Tryz.ntmps57;go_upto_region 0 with fail;have Lkn:=aA kn;have Lka:=aA ka;have Lkb:=aA kb;refine ZP0 [3,3,0] ?_;refine Zb fun p4 od=> ?_;refine Zb fun p5 ip=> ?_;obtain⟨ne_p5_p4,ip⟩:=Bx.set_none ip;refine Zv ?_;refine TD.nil (fun w1 hr=> ?_);replace kn:=hr.q kn;replace ka:=hr.q ka;replace kb:=hr.q kb;obtain⟨gp4,kp4⟩:=hr.b p4;obtain⟨gp5,kp5⟩:=hr.b p5;have m1:=hr.mod;clear hr;go_wp2_with fail;go_at_call 62;refine(sthere_c _ kn).mono ?_;rintro e w2 ⟨rfl,rfl⟩;go_upto_region 3 with fail;go_wp2_with fail;go_at_call 23;refine(shas_c n N g _ (H.out.mod0 m1)).mono ?_;rintro e w2 ⟨rfl,mh⟩;replace kn:=mh.at0 kn;replace ka:=mh.at0 ka;replace kb:=mh.at0 kb;replace kp4:=mh.at0 kp4;replace kp5:=mh.at0 kp5;have m2w:=m1.then0 mh;have Hs:=Hi m2w;clear m1 mh;cases hl:lkp g N with
 |some x=>
  have HL:=Hi hl;clear hl;rw[aWz];go_wp2_with fail;go_ret;refine⟨⟨_,rfl⟩,?_,Hs.out.mono (fun _ _ h=>h.elim)⟩;rw[show jL N g k=N from if_pos (by rw[HL.out];rfl)];exact(H.out.mod0 Hs.out).mono (fun i hi=> .inl hi)
 |none=>
  have HL:=Hi hl;clear hl;rw[aW0];have Cl:a<w.heap.size:=HT.out a rn.out.2.1;have Qd:b<w.heap.size:=HT.out b rn.out.2.2;have hp4a:p4≠a:=by omega
  have hp5a:p5≠a:=by omega
  have hp4b:p4≠b:=by omega
  have hp5b:p5≠b:=by omega
  go_upto_region 5 with fail;obtain⟨v0,ik⟩:∃v0,(lkp k m2).getD (.slice none 0 0)=v0:=⟨_,rfl⟩;have HKA:=Hi ka;have ue:FR T N.length w v0:=by
   rw[←ik];cases cd:lkp k m2 with
   |some x=>exact dd.out.2 (k,x) (cP cd)
   |none=>exact FR.zero _ _ _
  obtain⟨ls,hO,bn,ag⟩:=ue;have vr:=hO.mod0 m2w;have Jk:=j3 vr ka;have Qt:=j3 vr kb;have Yj:=Hi ik;have HOW:=Hi bn;have Fm:=Hi ag;clear ik hO bn ag;have Lkn:=aA kn;have Lkp4:=aA kp4;have Lkp5:=aA kp5;have Lkb:=aA kb;have Lka:=aA ka;refine ZP [0,0,0,1,1,1,5] ?_
  iterate 6 first|refine Zv ?_|refine Zd ?_
  refine Zi fun wE hr=> ?_;replace kn:=hr.mod.at0 kn;replace kp4:=hr.mod.at0 kp4;replace kp5:=hr.mod.at0 kp5;replace kb:=hr.mod.at0 kb;replace ka:=hr.mod.at0 ka;have mE:=hr.mod;obtain⟨es24,cl24,Ka,Mka⟩:=HM.out.update O6 Tryz.underlying164 wE ka g k;refine ZV (Ka) ?_;refine ZN ka fun w5 ka mS=> ?_;(try simp only[Array.setIfInBounds,zL]at ka);replace kn:=mS.at_ne kn (by omega);replace kp4:=mS.at_ne kp4 (by omega);replace kp5:=mS.at_ne kp5 (by omega);replace kb:=mS.at_ne kb (by omega);have m5:=(m2w.mono (T:=T) (fun _ _ h=>h.elim)).then ((mE.mono (T:=fun i=>i=a) (fun _ _ h=>h.elim)).trans mS) (fun i _ e=>by rw[e];exact rn.out.2.1);have tm:=Hi (Ai m5 Mka);have Nz:=(vr.mod0 mE).mod mS Jk;have Um:Hid (Mod (fun i=>i=a) w2 w5∧w2.heap[a]? =some (.map es c)∧True):=Hi ⟨(mE.mono (T:=fun i=>i=a) (fun _ _ h=>h.elim)).trans mS,HKA.out,trivial⟩;have Nj:=Hi (Ai Nz (Ai Jk Qt));clear m2w mE mS hr m5 Mka vr Jk Qt Nz;have ep:=UR g;go_upto_region 6 with fail;have Qf:w.heap.size≤w5.heap.size:=tm.out.1.size;have Lkn:=aA kn;have Lkp4:=aA kp4;have Lkp5:=aA kp5;have Lka:=aA ka;have Lkb:=aA kb;refine kI (T0:=fun _=>False) (K:=fun _ _=>True) (κ:=fun i=>[0,0,0,0,0,0,3,6,0,6,0,6].getD i 0) (υ:=fun _=>[]) [0,1,2,3,4,5,6] [7,8,9,10,11] (by kernel_rfl) (by kernel_rfl) (aH.true).cl (trivial) (fun _ h=>h.elim) ?_;have gK:=aH.true
  iterate 6 first|refine Zg ?_|refine Zh ?_
  (refine TG.bslice (by simp only[zK];rfl) rfl (by rfl) rfl rfl ?hx31 ep (fun p28 hp28 _=> ?n31);(case hx31=>(simp only[aYr,aZo,aYo,zM];(try rfl)));try simp only[zL]);refine TG.nil (fun w6 ⟨TR,hr⟩=> ?_);replace kn:=hr.q kn;replace kp4:=hr.q kp4;replace kp5:=hr.q kp5;replace ka:=hr.q ka;replace kb:=hr.q kb;obtain⟨gp28,nTp28,kp28⟩:=hr.b p28;clear gK;have m6:=hr.mod;clear hr ep;obtain⟨st,es3,c3,hE,ME,iu⟩:=dd.out.1.entry U3 Tryz.underlying165 (z:=Value.slice none 0 0) FG w6 kb k;rw[Yj.out]at hE ME;have im:=Nj.out.1.mod0 m6;have m7:=bM w6 b (.map es3 c3);have kb7:=aF w6 (.map es3 c3) (aA kb);have kn7:=m7.at_ne kn wi;have ka7:=m7.at_ne ka Cg;have Rm:p28≠b:=by omega
  have kp287:=m7.at_ne kp28 Rm;have Lt:=im.mod m7 Nj.out.2.2;obtain⟨w7,Hd⟩:∃w7,setBlock w6 b (.map es3 c3)=w7:=⟨_,rfl⟩;rw[Hd]at hE m7 kb7 kn7 ka7 kp287 Lt;obtain⟨v8,w8,az,hO8,m8,Ba⟩:=aE.append YS (c:=1) (q:=[g]) Lt (aS.one kp287 g rfl (dC g)) (by have:=Fm.out;simp only[aZx];omega) (by decide) (aYf _) 30;have Gt:=j3 Lt kb7;have Bg:=j3 Lt ka7;have Bh:∀i,v0.ownBlock=some i→¬i=n:=fun i hi e=>by
   obtain⟨cur,hk⟩:=B7 Lt hi;rw[e,kn7]at hk;cases hk
  have kb8:=m8.at kb7 (fun e=>Gt b e rfl);have ka8:=m8.at ka7 (fun e=>Bg a e rfl);have kn8:=m8.at kn7 (fun e=>Bh n e rfl);obtain⟨es9,c9,hF,M9⟩:=iu w8 v8 kb8;have m9:=bM w8 b (.map es9 c9);have kb9:=aF w8 (.map es9 c9) (aA kb8);have kn9:=m9.at_ne kn8 wi;have ka9:=m9.at_ne ka8 Cg;have Vj:=hO8.mod m9 (j3 hO8 kb8);obtain⟨w9,Tk⟩:∃w9,setBlock w8 b (.map es9 c9)=w9:=⟨_,rfl⟩;rw[Tk]at hF m9 kb9 kn9 ka9 Vj;have Ss:w.heap.size≤w7.heap.size:=aYb Qf (aYb m6.size m7.size);have hsz9:w7.heap.size≤w9.heap.size:=aYb m8.size m9.size;have mF:Mod T w w9:=(((tm.out.1.then0 m6).then m7 (fun i _ e=>by rw[e];exact rn.out.2.2)).then m8 (fun i _ e=>HOW.out i e)).then m9 (fun i _ e=>by rw[e];exact rn.out.2.2);have Fx:∀i,T i→i<w9.heap.size:=fun i hi=>aZd (HT.out i hi) mF.size;have Gu:∀i,v8.ownBlock=some i→T i∨(w.heap.size≤i∧i<w9.heap.size):=fun i hi=>by
   rcases Ba with e|e
   ·rw[e]at hi;exact .inl (HOW.out i hi)
   ·have hlt:=(Vj.lt i hi).2;rw[e]at hi;cases hi;exact .inr ⟨Ss,hlt⟩
  have pi:(put g k N).length=N.length+1:=(M0 g k N).2 HL.out;have Dh:iV (fun i=>T i∨(w.heap.size≤i∧i<w9.heap.size)) w9 n (jL N g k):=by
   rw[show jL N g k=put g k N from if_neg (by rw[HL.out];simp)];have dl:∀p∈put k v8 m2,p=(k,v8)∨(p∈m2∧p.1≠k):=fun p hp=>by
    have h1:=dJ M9.nodup hp;by_cases hk:p.1=k
    ·left;rw[hk,cH]at h1;exact Prod.ext hk (aZz h1).symm
    ·right;rw[i9 hk]at h1;exact⟨cP h1,hk⟩
   have ik:∀p∈m2,p.1≠k→∀i,p.2.ownBlock=some i→v0.ownBlock≠some i:=fun p hp hk i hi e=>by
    cases cd:lkp k m2 with
    |some x=>
     have hx:x=v0:=by have:=Yj.out;rw[cd]at this;exact this
     subst hx;exact HDS.out p hp (k,x) (cP cd) hk i hi e
    |none=>
     have hx:Value.slice none 0 0=v0:=by have:=Yj.out;rw[cd]at this;exact this
     rw[←hx]at e;cases e
   refine⟨a,b,_,_,es9,c9,put k v8 m2,kn9,ka9,tm.out.2,kb9,M9,Cg,.inl rn.out.1,.inl rn.out.2.1,.inl rn.out.2.2,fun p hp=> ?_,fun p hp q hq hpq i hi hj=> ?_⟩
   ·rcases dl p hp with rfl|⟨h1,h2⟩
    ·exact⟨ls++[g],Vj,Gu,by rw[pi,aZg,aZx];have:=Fm.out;omega⟩
    ·obtain⟨l2,q1,q2,q3⟩:=dd.out.2 p h1;have aw:=ik p h1 h2;have q1a:=q1.mod0 Hs.out;have q15:aE sgc 64 92 w5 0 p.2 l2:=q1a.mod Um.out.1 (j3 q1a Um.out.2.1);have q16:=q15.mod0 m6;have q17:=q16.mod m7 (j3 q16 kb);have q18:=q17.mod m8 (fun i hi e=>aw i hi e);have q19:=q18.mod m9 (j3 q18 kb8);exact⟨l2,q19,fun i hi=> .inl (q2 i hi),by rw[pi];omega⟩
   ·rcases dl p hp with rfl|⟨h1,h2⟩
    ·rcases dl q hq with rfl|⟨h3,h4⟩
     ·exact hpq rfl
     ·rcases Ba with e|e
      ·rw[e]at hi;exact ik q h3 h4 i hj hi
      ·rw[e]at hi;cases hi;obtain⟨_,_,q2,_⟩:=dd.out.2 q h3;have:=HT.out _ (q2 _ hj);omega
    ·rcases dl q hq with rfl|⟨h3,h4⟩
     ·rcases Ba with e|e
      ·rw[e]at hj;exact ik p h1 h2 i hi hj
      ·rw[e]at hj;cases hj;obtain⟨_,_,q2,_⟩:=dd.out.2 p h1;have:=HT.out _ (q2 _ hi);omega
     ·exact HDS.out p h1 q h3 hpq i hi hj
  have ay:=Hi (Ai Dh mF);have xd:=Hi (Ai hE (Ai az hF));clear Dh mF Fx Gu pi hsz9 Ss Vj hO8 Lt im Gt Bg Bh kn9 ka9 kb9 kn8 ka8 kb8 kn7 ka7 kb7 m9 m8 m7 m6 M9 ME iu Ba Tk Hd kp287;have hE:=xd.out.1;have az:=xd.out.2.1;have hF:=xd.out.2.2;simp only[id]at hE hF;(intro iA ai ah;simp only[aZc,aZe,or_false]at ai;rcases ai with rfl|rfl|rfl|rfl|rfl)
  ·clear ah;(refine ZF hE ?_;try simp only[zL]);rw[show([7,8,9,10,11]:Wd).erase 7=[8,9,10,11]from rfl];(intro iA ai ah;simp only[aZc,aZe,or_false]at ai;rcases ai with rfl|rfl|rfl|rfl)
   ·clear ah;refine Zw ?_;rw[show([8,9,10,11]:Wd).erase 8=[9,10,11]from rfl];(intro iA ai ah;simp only[aZc,aZe,or_false]at ai;rcases ai with rfl|rfl|rfl)
    ·clear ah;refine ZA az ?_;rw[show([9,10,11]:Wd).erase 9=[10,11]from rfl];(intro iA ai ah;simp only[aZc,aZe,or_false]at ai;rcases ai with rfl|rfl)
     ·clear ah;refine Zw ?_;rw[show([10,11]:Wd).erase 10=[11]from rfl];(intro iA ai ah;simp only[aZc,aZe,or_false]at ai;subst ai)
      ·clear ah;(refine ZW hF ?_;try simp only[zL]);rw[show([11]:Wd).erase 11=[]from rfl];refine bA ?_;go_wp2_with fail;go_ret;exact⟨⟨_,rfl⟩,ay.out⟩
     ·exact aD (by kernel_rfl) ah
    ·clear ah;refine Zw ?_;rw[show([9,10,11]:Wd).erase 10=[9,11]from rfl];(intro iA ai ah;simp only[aZc,aZe,or_false]at ai;rcases ai with rfl|rfl)
     ·clear ah;refine ZA az ?_;rw[show([9,11]:Wd).erase 9=[11]from rfl];(intro iA ai ah;simp only[aZc,aZe,or_false]at ai;subst ai)
      ·clear ah;(refine ZW hF ?_;try simp only[zL]);rw[show([11]:Wd).erase 11=[]from rfl];refine bA ?_;go_wp2_with fail;go_ret;exact⟨⟨_,rfl⟩,ay.out⟩
     ·exact aD (by kernel_rfl) ah
    ·exact aD (by kernel_rfl) ah
   ·exact aD (by kernel_rfl) ah
   ·clear ah;refine Zw ?_;rw[show([8,9,10,11]:Wd).erase 10=[8,9,11]from rfl];(intro iA ai ah;simp only[aZc,aZe,or_false]at ai;rcases ai with rfl|rfl|rfl)
    ·clear ah;refine Zw ?_;rw[show([8,9,11]:Wd).erase 8=[9,11]from rfl];(intro iA ai ah;simp only[aZc,aZe,or_false]at ai;rcases ai with rfl|rfl)
     ·clear ah;refine ZA az ?_;rw[show([9,11]:Wd).erase 9=[11]from rfl];(intro iA ai ah;simp only[aZc,aZe,or_false]at ai;subst ai)
      ·clear ah;(refine ZW hF ?_;try simp only[zL]);rw[show([11]:Wd).erase 11=[]from rfl];refine bA ?_;go_wp2_with fail;go_ret;exact⟨⟨_,rfl⟩,ay.out⟩
     ·exact aD (by kernel_rfl) ah
    ·exact aD (by kernel_rfl) ah
    ·exact aD (by kernel_rfl) ah
   ·exact aD (by kernel_rfl) ah
  ·exact aD (by kernel_rfl) ah
  ·exact aD (by kernel_rfl) ah
  ·exact aD (by kernel_rfl) ah
  ·exact aD (by kernel_rfl) ah
end
structure Y5 where
 p:Wk
 a:List Wk
 d:List Wk
structure Y6 where
 t:aN
 w:List Wk
 r:List Wk
structure AZ where
 b:List Wk
 sg:List Sg
 v0:Bool
 h0:Wk
 h1:Wk
 h2:Wk
 ks:List aN
 rc:aN
 ins:List Y5
 lks:List Y6
 ro:List aT
 un:Wj
 pr:Wj
 bad:Wi
 fee:Wj
 cost:Wj
 prio:Wj
def oU.con (x:oU):Y5:=⟨x.p,x.a.l,x.d.l⟩
def o8.con (x:o8):Y6:=⟨x.t,x.w.l,x.r.l⟩
def cT.con (x:cT):AZ:=⟨x.b.l,x.sg.l,x.v0,x.h0,x.h1,x.h2,x.ks.l,x.rc,x.ins.l.map oU.con,x.lks.l.map o8.con,x.ro.l,x.un,x.pr,x.bad,x.fee,x.cost,x.prio⟩
structure It where
 n:Wj
 r:AZ
 pl:Nat
 sent:Bool
def It.rk (x:It):Rk:=⟨x.r.prio,x.n⟩
def idn (k:Nat):Wi:=Int64.ofNat k
theorem bR {k:Nat} (h:k<9223372036854775808):(idn k).toInt=k:=Int64.toInt_ofNat_of_lt h
theorem uO {j k:Nat} (hj:j<9223372036854775808) (hk:k<9223372036854775808) (h:idn j=idn k):j=k:=by
 have:=congrArg Int64.toInt h;rw[bR hj,bR hk]at this;omega
def nodeOf (k:Nat):Option It→List Nd
 |some x=>if x.pl=0 then [⟨x.rk,idn k⟩]else []
 |none=>[]
def fJ:Nat→List (Option It)→List Nd
 |_,[]=>[]
 |k,o::r=>nodeOf k o++fJ (k+1) r
theorem rV:∀(A:List (Option It)) (k:Nat) (B:List (Option It)),fJ k (A++B)=fJ k A++fJ (k+A.length) B
 |[],k,B=>rfl
 |o::A,k,B=>by
  show nodeOf k o++fJ (k+1) (A++B)=(nodeOf k o++fJ (k+1) A)++_;rw[rV A (k+1) B,aZw,aZu,show k+1+A.length=k+(A.length+1)by omega]
theorem rD {k:Nat} {o:Option It} {x:Nd} (h:x∈nodeOf k o):∃y,o=some y∧y.pl=0∧x=⟨y.rk,idn k⟩:=by
 cases o with
 |none=>cases h
 |some y=>
  unfold nodeOf at h;by_cases hp:y.pl=0
  ·simp only[hp,if_true,aZm]at h;exact⟨y,rfl,hp,h⟩
  ·simp[hp]at h
theorem fS:∀ {S:List (Option It)} {k:Nat} {x:Nd},x∈fJ k S→∃i y,S[i]? =some (some y)∧y.pl=0∧x=⟨y.rk,idn (k+i)⟩
 |[],k,x,h=>by cases h
 |o::S,k,x,h=>by
  rcases aZh.1 h with h|h
  ·obtain⟨y,rfl,h1,h2⟩:=rD h;exact⟨0,y,rfl,h1,h2⟩
  ·obtain⟨i,y,h1,h2,h3⟩:=fS (S:=S) (k:=k+1) h;exact⟨i+1,y,h1,h2,by rw[h3,show k+1+i=k+(i+1)by omega]⟩
theorem u5:∀ {S:List (Option It)} {k i:Nat} {y:It},S[i]? =some (some y)→y.pl=0→⟨y.rk,idn (k+i)⟩∈fJ k S
 |[],k,i,y,h,_=>by simp at h
 |o::S,k,0,y,h,hp=>by
  simp only[zC,aYm]at h;subst h;refine aZl _ ?_;simp[nodeOf,hp]
 |o::S,k,i+1,y,h,hp=>by
  refine aYi _ ?_;have:=u5 (S:=S) (k:=k+1) (i:=i) (by simpa using h) hp;rwa[show k+1+i=k+(i+1)by omega]at this
theorem F3 {α:Type} {S:List α} {i:Nat} {o:α} (h:S[i]? =some o):∃A B,S=A++o::B∧A.length=i:=by
 obtain⟨hi,rfl⟩:=aZa.1 h;exact⟨S.take i,S.drop (i+1),by rw[List.getElem_cons_drop,aY9],by rw[aZ4];omega⟩
theorem ET {α:Type} {A B:List α} {o p:α}:(A++o::B).set A.length p=A++p::B:=by
 rw[aX8 _ _ (aZq _),aXn];rfl
theorem pO:∀ {S:List (Option It)} {k:Nat},k+S.length<9223372036854775808→((fJ k S).map Nd.id).Nodup
 |[],k,_=>aWn
 |o::S,k,h=>by
  rw[aZu]at h;have ih:=pO (S:=S) (k:=k+1) (by omega);show((nodeOf k o++fJ (k+1) S).map Nd.id).Nodup;rw[List.map_append,aZ7];refine⟨?_,ih,?_⟩
  ·cases o with
   |none=>exact aWn
   |some x=>
    by_cases hp:x.pl=0<;>simp[nodeOf,hp]
  ·rintro a ha b hb rfl;obtain⟨x,hx,rfl⟩:=aZj.1 ha;obtain⟨z,hz,e⟩:=aZj.1 hb;obtain⟨y,_,_,rfl⟩:=rD hx;obtain⟨i,u,hu,_,rfl⟩:=fS hz;have hi:i<S.length:=(aZa.1 hu).1;have:=uO (by omega) (by omega) e;omega
theorem nC {S:List (Option It)} {k:Nat}:(fJ k S).length≤S.length:=by
 induction S generalizing k with
 |nil=>exact aZq _
 |cons o S ih=>
  show(nodeOf k o++fJ (k+1) S).length≤_;rw[aZg,aZu];have h:=ih (k:=k+1)
  have:(nodeOf k o).length≤1:=by
   unfold nodeOf;split
   ·split<;>simp
   ·simp
  omega
def wtgo (i:Nat) (S:List (Option It)):List Nd:=fJ 0 (S.take i)++fJ (i+1) (S.drop (i+1))
theorem AQ {S:List (Option It)} {i:Nat} {o:Option It} (h:S[i]? =some o):(fJ 0 S).Perm (nodeOf i o++wtgo i S):=by
 have hi:i<S.length:=(aZa.1 h).1;have e:S=S.take i++o::S.drop (i+1):=by
  obtain⟨_,rfl⟩:=aZa.1 h;rw[List.getElem_cons_drop,aY9]
 have hl:(S.take i).length=i:=by rw[aZ4];omega
 have e2:fJ 0 S=fJ 0 (S.take i)++(nodeOf i o++fJ (i+1) (S.drop (i+1))):=by
  conv=>lhs;rw[e]
  rw[rV,hl,aXe];rfl
 rw[e2];unfold wtgo;rw[←aZw,←aZw];exact List.perm_append_comm.append_right _
theorem rW {S:List (Option It)} {i:Nat} {o:Option It}:wtgo i (S.set i o)=wtgo i S:=by
 unfold wtgo;rw[List.take_set_of_le (aZq _),List.drop_set_of_lt (by omega)]
theorem C6 {S:List (Option It)} {i:Nat} {o:Option It} (hi:i<S.length):(fJ 0 (S.set i o)).Perm (nodeOf i o++wtgo i S):=by
 rw[←rW (o:=o)];exact AQ (by rw[List.getElem?_set_self hi])
theorem pP {S:List (Option It)} {i:Nat} (hS:S.length<4611686018427387904) {x:Nd} (hx:x∈wtgo i S) (hi:i<S.length):x.id≠idn i:=by
 intro e;rcases aZh.1 hx with h|h
 ·obtain⟨j,y,h1,_,rfl⟩:=fS h;have hj:=(aZa.1 h1).1;rw[aZ4]at hj;have:=uO (by omega) (by omega) e;omega
 ·obtain⟨j,y,h1,_,rfl⟩:=fS h;have hj:=(aZa.1 h1).1;rw[List.length_drop]at hj;have:=uO (by omega) (by omega) e;omega
theorem nM {C:List Nd} {S:List (Option It)} {i:Nat} {x:It} (hS:S.length<4611686018427387904) (hC:C.Perm (fJ 0 S)) (hx:S[i]? =some (some x)) (hp:x.pl=0):
  (C.eraseP (fun y=>y.id==idn i)).Perm (wtgo i S):=by
 have hi:=(aZa.1 hx).1;have h1:=hC.trans (AQ hx);have hn:nodeOf i (some x)=[⟨x.rk,idn i⟩]:=by simp[nodeOf,hp]
 rw[hn]at h1;have ct:(C.map Nd.id).Nodup:=(hC.map Nd.id).nodup_iff.2 (pO (by omega));have h2:=List.Perm.eraseP (fun y:Nd=>y.id==idn i) (by
  rw[aWx,aW1]at ct;exact ct.imp (fun{a b} Cg ha hb=>Cg ((beq_iff_eq.1 ha).trans (beq_iff_eq.1 hb).symm))) h1
 rw[List.singleton_append,List.eraseP_cons_of_pos (by simp)]at h2;exact h2
theorem xP {C:List Nd} {S:List (Option It)} {i:Nat} {x:It} (hC:C.Perm (fJ 0 S)) (hx:S[i]? =some (some x)) (hp:x.pl=0):(⟨x.rk,idn i⟩:Nd)∈C:=by
 have:=u5 (k:=0) hx hp;rw[aXe]at this;exact hC.mem_iff.2 this
theorem oC {C:List Nd} {S:List (Option It)} {i:Nat} {o:Option It} (hS:S.length<4611686018427387904) (hC:C.Perm (fJ 0 S)) (ho:S[i]? =some o) (hn:nodeOf i o=[]):(∀x∈C,x.id≠idn i)∧C.Perm (wtgo i S):=by
 have h1:=hC.trans (AQ ho);rw[hn,aYq]at h1;exact⟨fun x hx=>pP hS (h1.mem_iff.1 hx) (aZa.1 ho).1,h1⟩
theorem oF {C:List Nd} {S:List (Option It)} {i:Nat} {x:It} (hC:C.Perm (wtgo i S)) (hi:i<S.length) (hp:x.pl=0):(C++[(⟨x.rk,idn i⟩:Nd)]).Perm (fJ 0 (S.set i (some x))):=by
 refine List.Perm.trans ?_ (C6 hi).symm;have hn:nodeOf i (some x)=[⟨x.rk,idn i⟩]:=by simp[nodeOf,hp]
 rw[hn];exact(hC.append_right _).trans List.perm_append_comm
theorem iK {C:List Nd} {S:List (Option It)} {i:Nat} {o:Option It} (hC:C.Perm (wtgo i S)) (hi:i<S.length) (hn:nodeOf i o=[]):C.Perm (fJ 0 (S.set i o)):=by
 refine List.Perm.trans ?_ (C6 hi).symm;rw[hn];exact hC
section
attribute [local go_sem↓] dE cD dD
attribute [local go_sem] aJ aC aO aL aQ aI aP Value.cells bD bV cV bE
def sE (R:List (Option bT)) (i:Nat):Bool:=(R[i]?.getD none).isSome
theorem rF {R:List (Option bT)} {i:Nat} {y:bT} (h:R[i]? =some (some y)):sE R i=true:=by simp[sE,h]
theorem rE {R:List (Option bT)} {i:Nat} (h:R[i]? =some none):sE R i=false:=by simp[sE,h]
theorem vB {R:List (Option bT)} {i j:Nat} {o:Option bT} (hi:i<R.length):sE (R.set i o) j=if j=i then o.isSome else sE R j:=by
 unfold sE;rw[List.getElem?_set];by_cases h:j=i
 ·subst h;simp[hi]
 ·rw[if_neg (fun e=>h e.symm),if_neg h]
def wcell (n:Nat):Wg:= .int .u64 (n:Int)
def lZ (R:List (Option bT)) (us:Wd):Prop:=us.length=(R.length+63)/64∧∀(j x:Nat),us[j]? =some x→x<2^64∧∀k,k<64→x.testBit k=sE R (64*j+k)
def jS (R:List (Option bT)) (cur:Wa):Prop:=cur.size=R.length*51∧∀(i:Nat) y,R[i]? =some (some y)→cur.extract (i*51) (i*51+51)=dM y
structure o9 (w:We) (s g u:Nat) (R:List (Option bT)) (cur:Wa) (us:Wd):Prop where
 ks:w.heap[s]? =some (.cells #[.slice (some ⟨g,0,none⟩) R.length R.length,.slice (some ⟨u,0,none⟩) us.length us.length,.int .i64 (R.countP Option.isSome:Nat)] 209 (0,0))
 kg:w.heap[g]? =some (.cells cur 82 (0,0))
 rows:jS R cur
 ku:w.heap[u]? =some (.cells (us.map wcell).toArray 23 (0,0))
 words:lZ R us
 len:1≤R.length∧R.length≤4096
theorem oK {us:Wd} {j x:Nat} (h:us[j]? =some x):(us.map wcell).toArray[j]? =some (.int .u64 (x:Int)):=by
 simp[h,wcell]
theorem o9.word {w:We} {s g u:Nat} {R:List (Option bT)} {cur:Wa} {us:Wd} (H:o9 w s g u R cur us) {i:Nat} (hi:i<R.length):∃x,us[i/64]? =some x∧x<18446744073709551616∧(∀k,k<64→x.testBit k=sE R (64*(i/64)+k))∧x.testBit (i % 64)=sE R i:=by
 obtain⟨h1,h2⟩:=H.words;have hj:i/64<us.length:=by rw[h1];omega
 have hx:=aZb hj;obtain⟨h3,h4⟩:=h2 _ _ hx;refine⟨_,hx,h3,h4,?_⟩;rw[h4 _ (aWt _ (by omega)),aWu]
def tU (s:Nat) (R:List (Option bT)) (T:Nat→Prop) (w:We):Prop:=∃g u cur us,o9 w s g u R cur us∧T s∧T g∧T u
theorem o9.mod {w w':We} {s g u:Nat} {R:List (Option bT)} {cur:Wa} {us:Wd} {S:Nat→Prop} (H:o9 w s g u R cur us) (hm:Mod S w w') (h1:¬S s) (h2:¬S g) (h3:¬S u):o9 w' s g u R cur us:=
 ⟨hm.at H.ks h1,hm.at H.kg h2,H.rows,hm.at H.ku h3,H.words,H.len⟩
theorem tU.good (s:Nat) (R:List (Option bT)):aH (tU s R) where
 cl:=by
  rintro T w w' ⟨g,u,cur,us,H,h1,h2,h3⟩ hm;exact⟨g,u,cur,us,H.mod hm (fun e=>e h1) (fun e=>e h2) (fun e=>e h3),h1,h2,h3⟩
 gr:=by
  rintro T T' w hT ⟨g,u,cur,us,H,h1,h2,h3⟩;exact⟨g,u,cur,us,H,hT _ h1,hT _ h2,hT _ h3⟩
theorem qB (x i:Nat) (hx:x<18446744073709551616):bits .and .u64 ((x:Int)/2^i) 1=if x.testBit i then 1 else 0:=by
 have h1:=u64_and_nat (x/2^i) 1 (aX3 (Nat.div_le_self _ _) hx) (by omega);have e:((x/2^i:Nat):Int)=(x:Int)/2^i:=by simp
 rw[e]at h1;have h2:((1:Nat):Int)=1:=rfl;rw[h2]at h1;rw[h1,Nat.and_one_is_mod,Nat.testBit_eq_decide_div_mod_eq];have:=aWt (x/2^i) (show 0<2 by omega);by_cases h:x/2^i % 2=1
 ·simp[h]
 ·have:x/2^i % 2=0:=by omega
  simp[this]
theorem G8 (w:We) (a:Wb) (n c:Nat):(binOp .eql 79 (.slice a n c) (.slice none 0 0)).run Tryz.prog w= .ok (.bool a.isNone) w:=by
 cases a<;>kernel_rfl
attribute [local go_sem] G8
theorem IQ {w:We} {s g u:Nat} {R:List (Option bT)} {cur:Wa} {us:Wd} (H:o9 w s g u R cur us) {i:Nat} (hi:i<R.length):Calls Tryz.prog 91 #[ptrV s,.int .i64 (i:Int)] w fun e w'=>e= .returned (.int .i64 (if sE R i then 0 else 11))∧w'=w:=by
 obtain⟨x,hx,hlt,_,hb⟩:=H.word hi;have ks:=H.ks;have ku:=H.ku;have hc:=oK hx;have hl:i≤4095:=by have:=H.len;omega
 have Fb:us.length=(R.length+63)/64:=H.words.1;have ha:=qB x (i % 64) hlt;rw[hb]at ha;have hj:i/64<us.length:=by rw[Fb];omega
 have lm:=H.len.2;have ir:decide ((i:Int)<0)=false:=Df (by omega);generalize R.countP Option.isSome=many at *;generalize R.length=rl at *;generalize us.length=ul at *;generalize(us.map wcell).toArray=U at *;have Vy:decide (rl≤i)=false:=Df (by omega);clear H hx hb Fb;have key:∀z:Int,z=(if sE R i then 1 else 0)→bits .and .u64 ((x:Int)/2^(i % 64)) 1=z→Calls Tryz.prog 91 #[ptrV s,.int .i64 (i:Int)] w fun e w'=>e= .returned (.int .i64 (if sE R i then 0 else 11))∧w'=w:=by
  intro z hz hb;clear ha;cases ho:sE R i
  ·rw[ho]at hz;simp only[aZr,if_false]at hz;subst hz;clear ho;go_enter Tryz.func91,Tryz.ntmps91;go_wp2_with fail;go_ret;exact⟨rfl,rfl⟩
  ·rw[ho]at hz;simp only[if_true]at hz;subst hz;clear ho;go_enter Tryz.func91,Tryz.ntmps91;go_wp2_with fail;go_ret;exact⟨rfl,rfl⟩
 exact key _ rfl ha
end
section
attribute [local go_sem↓] dE cD dD
attribute [local go_sem] aJ aC aO aL aQ aI aP Value.cells bD bV cV bE G8
theorem cB:zItem.extract 0 51=zItem:=bV _
theorem cC:zItem.all (·.oneCell') 0 51=true:=cV _
attribute [local go_sem] cB cC
theorem jS.set {R:List (Option bT)} {cur:Wa} (h:jS R cur) {i:Nat} (hi:i<R.length) {o:Option bT} {vs:Wa} (hs:vs.size=51) (ho:∀y,o=some y→vs=dM y):jS (R.set i o) (wr cur (i*51) vs.toList):=by
 obtain⟨h1,h2⟩:=h;refine⟨by rw[jG,h1,aZn],fun j y hy=> ?_⟩;have hl:vs.toList.length=51:=by rw[aYd,hs]
 have hii:(i+1)*51≤R.length*51:=aXu _ hi;have dw:=fun t=>SX vs.toList cur (i*51) (by rw[hl];omega) t;rw[hl]at dw;by_cases hj:j=i
 ·subst hj;rw[List.getElem?_set_self hi]at hy;have hv:=ho y (aZz hy);rw[←hv];apply aY8;intro t;rw[aYl,jG];by_cases ht:t<51
  ·rw[if_pos (by omega),dw,if_pos (by omega),aXs,aWp]
  ·rw[if_neg (by omega),aXh (by omega)]
 ·rw[aZ0 (fun e=>hj e.symm)]at hy;rw[←h2 j y hy];apply aY8;intro t;rw[aYl,aYl,jG];by_cases ht:t<51
  ·have h9:¬(i*51≤j*51+t∧j*51+t<i*51+51):=by omega
   rw[dw,if_neg h9]
  ·rw[if_neg (by omega),if_neg (by omega)]
theorem jS.le {R:List (Option bT)} {cur:Wa} (h:jS R cur) {i:Nat} (hi:i<R.length):i*51+51≤cur.size:=by
 rw[h.1];omega
section
variable {w:We} {s g u:Nat} {R:List (Option bT)} {cur:Wa} {us:Wd}
theorem zT (H:o9 w s g u R cur us) {n:Int} (hn:n<0∨(R.length:Int)≤n):Calls Tryz.prog 91 #[ptrV s,.int .i64 n] w fun e w'=>e= .returned (.int .i64 11)∧w'=w:=by
 have ks:=H.ks;generalize R.countP Option.isSome=many at *;generalize R.length=rl at *;generalize us.length=ul at *;clear H;rcases hn with hn|hn
 ·have hd:=Dt hn;clear hn;go_enter Tryz.func91,Tryz.ntmps91;go_wp2_with fail;go_ret;exact⟨rfl,rfl⟩
 ·have hd:=Dt hn;have jd:decide (n<0)=false:=Df (by omega);clear hn;go_enter Tryz.func91,Tryz.ntmps91;go_wp2_with fail;go_ret;exact⟨rfl,rfl⟩
def TN (R:List (Option bT)) (n:Int):Prop:=n<0∨(R.length:Int)≤n∨R[n.toNat]? =some none
theorem hasN_c (H:o9 w s g u R cur us) {n:Int} (hn:TN R n):Calls Tryz.prog 91 #[ptrV s,.int .i64 n] w fun e w'=>e= .returned (.int .i64 11)∧w'=w:=by
 rcases hn with h|h|h
 ·exact zT H (.inl h)
 ·exact zT H (.inr h)
 ·by_cases h0:n<0
  ·exact zT H (.inl h0)
  ·have hi:=(aZa.1 h).1;have:=IQ H hi;rw[rE h,Int.toNat_of_nonneg (by omega)]at this;exact this
theorem hasY_c (H:o9 w s g u R cur us) {i:Nat} {y:bT} (hy:R[i]? =some (some y)):Calls Tryz.prog 91 #[ptrV s,.int .i64 (i:Int)] w fun e w'=>e= .returned (.int .i64 0)∧w'=w:=by
 have:=IQ H (aZa.1 hy).1;rw[rF hy]at this;exact this
theorem o9.mod0 {w':We} (H:o9 w s g u R cur us) (hm:Mod (fun _=>False) w w'):o9 w' s g u R cur us:=H.mod hm (fun h=>h) (fun h=>h) (fun h=>h)
theorem YF (H:o9 w s g u R cur us) {n:Int} (hn:TN R n):Calls Tryz.prog 97 #[ptrV s,.int .i64 n] w fun e w'=>e= .returned (.tuple #[.agg zItem,.int .i64 11])∧Mod (fun _=>False) w w':=by
 have HH:=Hi (Ai H hn);clear H hn;go_enter Tryz.func97,Tryz.ntmps97;go_upto_region 0 with fail;refine ZP0 [3,0] ?_;refine Za eA fun p4 od=> ?_;refine Zv ?_;refine TD.nil (fun w1 hr=> ?_);obtain⟨gp4,kp4⟩:=hr.b p4;have m1:=hr.mod;clear hr;go_wp2_with fail;go_at_call 91;refine(hasN_c (HH.out.1.mod0 m1) HH.out.2).mono ?_;rintro e w2 ⟨rfl,rfl⟩;go_upto_region 3 with fail;have Lkp4:=aA kp4;refine ZP0 [1,0,5,0] ?_;refine Zd ?_;refine Zv ?_;refine Zi fun w3 hr=> ?_;have kp4:=hr.mod.at kp4 (fun h=>h);have m3:=m1.then0 hr.mod;clear hr;refine ZS ?_;refine ZM kp4 fun wn kp4 mS=> ?_;(try simp only[Array.setIfInBounds,zL]at kp4);have m4:=m3.thenB mS (.inl gp4);clear mS;refine Ze ?_;refine TE.nil ?_;go_wp2_with fail;exact bodyPost_ret (results_cell2 (x:= .agg zItem) rfl rfl (by rw[cD];simp[kp4,zItem,bV,bD])) rfl ⟨rfl,m4⟩
theorem jS.size (h:jS R cur) {i:Nat} (hi:i<R.length):i*51+51≤cur.size:=by
 rw[h.1];omega
theorem QN (H:o9 w s g u R cur us) {i:Nat} {y:bT} (hy:R[i]? =some (some y)):Calls Tryz.prog 97 #[ptrV s,.int .i64 (i:Int)] w fun e w'=>e= .returned (.tuple #[.agg (dM y),.int .i64 0])∧Mod (fun _=>False) w w':=by
 have HH:=Hi (Ai H hy);have hi:=(aZa.1 hy).1;have fu:=H.rows.size hi;have bk:=H.rows.2 i y hy;have ks:=H.ks;have kg:=H.kg;have rf:(i:Int)<(R.length:Int):=by omega
 generalize R.countP Option.isSome=many at *;generalize R.length=rl at *;clear H hy;go_enter Tryz.func97,Tryz.ntmps97;go_upto_region 0 with fail;have Lks:=aA ks;have Lkg:=aA kg;refine ZP0 [3,0] ?_;refine Za eA fun p4 od=> ?_;refine Zv ?_;refine TD.nil (fun w1 hr=> ?_);have ks:=hr.mod.at ks (fun h=>h);have kg:=hr.mod.at kg (fun h=>h);obtain⟨gp4,kp4⟩:=hr.b p4;have m1:=hr.mod;clear hr;go_wp2_with fail;go_at_call 91;refine(hasY_c (HH.out.1.mod0 m1) HH.out.2).mono ?_;rintro e w2 ⟨rfl,rfl⟩;go_upto_region 4 with fail;have Lks:=aA ks;have Lkg:=aA kg;have Lkp4:=aA kp4;refine ZP0 [0,0,0,1,0,0,1,5,0] ?_
 iterate 7 first|refine Zv ?_|refine Zd ?_
 refine Zi fun w3 hr=> ?_;have ks:=hr.mod.at ks (fun h=>h);have kg:=hr.mod.at kg (fun h=>h);have kp4:=hr.mod.at kp4 (fun h=>h);have m3:=m1.then0 hr.mod;clear hr;refine ZS ?_;refine ZM kp4 fun wn kp4 mS=> ?_;(try simp only[Array.setIfInBounds,zL]at kp4);have m4:=m3.thenB mS (.inl gp4);clear mS;refine Ze ?_;refine TE.nil ?_;go_wp2_with fail;exact bodyPost_ret (results_cell2 (x:= .agg (dM y)) rfl rfl (by rw[cD];simp[kp4,bV,bD])) rfl ⟨rfl,m4⟩
theorem R9 (H:o9 w s g u R cur us) {i:Nat} {y:bT} (hy:R[i]? =some (some y)) (z:bT):Calls Tryz.prog 120 #[ptrV s,.int .i64 (i:Int),.agg (dM z)] w fun e w'=>e= .returned (.int .i64 0)∧∃cur',o9 w' s g u (R.set i (some z)) cur' us∧Mod (fun b=>b=g) w w':=by
 have HH:=Hi (Ai H hy);have hi:=(aZa.1 hy).1;have fu:=H.rows.size hi;have ks:=H.ks;have kg:=H.kg;have ue:s≠g:=aB ks kg (aM (by decide));have Ta:u≠g:=aB H.ku kg (aM (by decide));have rf:(i:Int)<(R.length:Int):=by omega
 generalize ev:R.countP Option.isSome=many at *;generalize lm:R.length=rl at *;have HE:=Hi (Ai ev (Ai lm (Ai ue Ta)));clear H hy ev lm;go_enter Tryz.func120,Tryz.ntmps120;go_upto_region 0 with fail;have Lks:=aA ks;have Lkg:=aA kg;refine ZP0 [3,0] ?_;refine Zb fun p5 ip=> ?_;refine Zv ?_;refine TD.nil (fun w1 hr=> ?_);have ks:=hr.mod.at ks (fun h=>h);have kg:=hr.mod.at kg (fun h=>h);obtain⟨gp5,kp5⟩:=hr.b p5;have m1:=hr.mod;clear hr;go_wp2_with fail;go_at_call 91;refine(hasY_c (HH.out.1.mod0 m1) HH.out.2).mono ?_;rintro e w2 ⟨rfl,rfl⟩;go_upto_region 3 with fail;have Lks:=aA ks;have Lkp5:=aA kp5;have Lkg:=aA kg;refine ZP [0,0,0,1,0,1,0,5] ?_
 iterate 7 first|refine Zv ?_|refine Zd ?_
 refine Zi fun wE hr=> ?_;have ks:=hr.mod.at0 ks;have kp5:=hr.mod.at0 kp5;have kg:=hr.mod.at0 kg;have mE:=hr.mod;refine ZS ?_;refine ZN kg fun w3 kg mS=> ?_;(try simp only[Array.setIfInBounds,zL]at kg);have ks:=mS.at_ne ks (by omega);have kp5:=mS.at_ne kp5 (by omega);have m3:Mod (fun b=>b=g) w w3:=((m1.then0 mE).mono (fun _ _ h=>h.elim)).then mS (fun _ _ h=>h);clear hr mE mS;go_wp2_with fail;go_ret;have hz:(dM z).size=51:=bD z;have Ef:i<R.length:=(aZa.1 HH.out.2).1;refine⟨rfl,wr cur (i*51) (dM z).toList,?_,m3⟩;have H:=HH.out.1;have iq:(R.set i (some z)).countP Option.isSome=R.countP Option.isSome:=by
  rw[List.countP_set Ef];have h9:R[i]=some y:=(aZa.1 HH.out.2).2;have hp:0<R.countP Option.isSome:=List.countP_pos_iff.2 ⟨R[i],aXt _,by rw[h9];rfl⟩;simp[h9];omega
 refine⟨?_,?_,H.rows.set Ef hz (fun y' e=>by cases e;rfl),?_,?_,by rw[aZn];exact H.len⟩
 ·rw[aZn,iq];exact m3.at H.ks (HE.out.2.2.1)
 ·rw[kg];congr 2;exact zY hz
 ·exact m3.at H.ku (HE.out.2.2.2)
 ·refine⟨by rw[aZn];exact H.words.1,fun j x hx=>⟨(H.words.2 j x hx).1,fun k hk=> ?_⟩⟩;rw[(H.words.2 j x hx).2 k hk,vB Ef];split
  ·rename_i e;rw[e,rF HH.out.2];rfl
  ·rfl
theorem SE (H:o9 w s g u R cur us):Calls Tryz.prog 59 #[ptrV s] w fun e w'=>e= .returned (.int .i64 (R.countP Option.isSome:Nat))∧w'=w:=by
 have ks:=H.ks;clear H;generalize R.countP Option.isSome=many at *;go_enter Tryz.func59,Tryz.ntmps59;go_wp2_with fail;go_ret;exact⟨rfl,rfl⟩
theorem lZ.set (h:lZ R us) {i:Nat} (hi:i<R.length) {o:Option bT} {x:Nat} (hx:x<2^64) (hb:∀k,k<64→x.testBit k=if k=i % 64 then o.isSome else sE R (64*(i/64)+k)):lZ (R.set i o) (us.set (i/64) x):=by
 obtain⟨h1,h2⟩:=h;refine⟨by rw[aZn,aZn];exact h1,fun j y hy=> ?_⟩;by_cases hj:j=i/64
 ·subst hj;rw[List.getElem?_set_self (by rw[h1];omega)]at hy;cases hy;refine⟨hx,fun k hk=> ?_⟩;rw[hb k hk,vB hi];by_cases wg:k=i % 64
  ·rw[if_pos wg,if_pos (by omega)]
  ·rw[if_neg wg,if_neg (by omega)]
 ·rw[aZ0 (fun e=>hj e.symm)]at hy;refine⟨(h2 j y hy).1,fun k hk=> ?_⟩;rw[(h2 j y hy).2 k hk,vB hi,if_neg (by omega)]
theorem tN {us:Wd} {j x:Nat}:(us.map wcell).toArray.setIfInBounds j (.int .u64 (x:Int))=((us.set j x).map wcell).toArray:=by
 rw[aX4];simp[wcell]
theorem sT {i:Nat} {o o':Option bT} (h:R[i]? =some o):((R.set i o').countP Option.isSome:Int)=(R.countP Option.isSome:Int)-(if o.isSome then 1 else 0)+(if o'.isSome then 1 else 0):=by
 obtain⟨hi,h9⟩:=aZa.1 h;rw[List.countP_set hi,h9];have hp:o.isSome=true→0<R.countP Option.isSome:=fun e=>List.countP_pos_iff.2 ⟨R[i],aXt _,by rw[h9];exact e⟩;cases ho:o.isSome
 ·cases o'.isSome<;>simp
 ·have:=hp ho;cases o'.isSome<;>simp<;>omega
theorem xU (i:Nat):IntKind.u64.wrap ((2:Int)^(i % 64))=((2^(i % 64):Nat):Int)∧2^(i % 64)<18446744073709551616:=by
 have he:i % 64<64:=aWt _ (by omega);have jl:2^(i % 64)<2^64:=Nat.pow_lt_pow_right (by omega) he;rw[show(2:Int)^(i % 64)=((2^(i % 64):Nat):Int)by simp];generalize 2^(i % 64)=P at *;rw[IntKind.wrap_u64];omega
theorem tX {x i:Nat} (hlt:x<18446744073709551616):∃P xn:Nat,IntKind.u64.wrap ((2:Int)^(i % 64))=(P:Int)∧bits .andNot .u64 (x:Int) (P:Int)=(xn:Int)∧xn<18446744073709551616∧∀k,k<64→xn.testBit k=if k=i % 64 then false else x.testBit k:=by
 obtain⟨h1,h2⟩:=xU i;refine⟨_,_,h1,u64_andNot_nat _ _ hlt h2,Nat.and_lt_two_pow (n:=64) _ ?_,fun k hk=> ?_⟩
 ·generalize 2^(i % 64)=P at *;omega
 rw[aX6,show 18446744073709551615-2^(i % 64)=2^64-1-2^(i % 64)from rfl,nJ h2,aXp,Dt hk];by_cases wg:k=i % 64
 ·rw[if_pos wg,Dt wg.symm];simp
 ·rw[if_neg wg,show decide (i % 64=k)=false from Df (fun e=>wg e.symm)];simp
theorem JG {x i:Nat} (hlt:x<18446744073709551616):∃P xn:Nat,IntKind.u64.wrap ((2:Int)^(i % 64))=(P:Int)∧bits .or .u64 (x:Int) (P:Int)=(xn:Int)∧xn<18446744073709551616∧∀k,k<64→xn.testBit k=if k=i % 64 then true else x.testBit k:=by
 obtain⟨h1,h2⟩:=xU i;refine⟨_,_,h1,u64_or_nat _ _ hlt h2,Nat.or_lt_two_pow (n:=64) hlt h2,fun k hk=> ?_⟩;rw[Nat.testBit_or,aXp];by_cases wg:k=i % 64
 ·rw[if_pos wg,Dt wg.symm];simp
 ·rw[if_neg wg,show decide (i % 64=k)=false from Df (fun e=>wg e.symm)];simp
theorem MO (H:o9 w s g u R cur us) {i:Nat} {y:bT} (hy:R[i]? =some (some y)):Calls Tryz.prog 54 #[ptrV s,.int .i64 (i:Int)] w fun e w'=>e= .returned (.int .i64 0)∧∃cur' us',o9 w' s g u (R.set i none) cur' us'∧Mod (fun b=>b=g∨b=u∨b=s) w w':=by
 have HH:=Hi (Ai H hy);have hi:=(aZa.1 hy).1;have fu:=H.rows.size hi;have ks:=H.ks;have kg:=H.kg;have ku:=H.ku;obtain⟨x,hx,hlt,ep,hb⟩:=H.word hi;have hc:=oK hx;have ue:s≠g:=aB ks kg (aM (by decide));have Ta:u≠g:=aB ku kg (aM (by decide));have hsu:s≠u:=aB ks ku (aM (by decide));have Po:g≠u:=Ne.symm Ta;have Pn:g≠s:=Ne.symm ue;have Fb:u≠s:=Ne.symm hsu;have rf:(i:Int)<(R.length:Int):=by omega
 have hj:i/64<us.length:=(aZa.1 hx).1;have hl:i≤4095:=by have:=H.len;omega
 have hmp:0<R.countP Option.isSome∧R.countP Option.isSome≤4096:=⟨List.countP_pos_iff.2 ⟨R[i],aXt _,by rw[(aZa.1 hy).2];rfl⟩,aYb List.countP_le_length H.len.2⟩;generalize ev:R.countP Option.isSome=many at *;generalize lm:R.length=rl at *;generalize ug:us.length=ul at *;generalize hU:(us.map wcell).toArray=U at *;have hUs:i/64<U.size:=by rw[←hU];simp;omega
 have Ek:IntKind.i64.wrap ((many:Int)-1)=((many-1:Nat):Int):=by
  rw[IntKind.wrap_i64];omega
 have q1:IntKind.i64.wrap ((i:Int)/64)=((i/64:Nat):Int):=by
  rw[IntKind.wrap_i64];omega
 have q2:Int.tmod (i:Int) 64=((i % 64:Nat):Int):=by
  rw[aWf (by omega)];omega
 have he:i % 64<64:=aWt _ (by omega);have he2:((i % 64:Nat):Int)≤64:=by omega
 have he3:i % 64≤64:=by omega
 obtain⟨P,xn,q3,q4,dy,jk⟩:=tX (i:=i) hlt;have pp:∀h:i/64<U.size,U[i/64]= .int .u64 (x:Int):=fun h=>aU hc h;have HE:=Hi (Ai ev (Ai lm (Ai ug (Ai hU (Ai hx (Ai hlt (Ai dy (Ai jk ep))))))));clear H hy ev lm ug hU hx ep hb dy jk;generalize Pb:i/64=d at *;generalize Vr:i % 64=ee at *;have HDE:=Hi (Ai Pb Vr);clear Pb Vr;go_enter Tryz.func54,Tryz.ntmps54;go_wp2_with fail;go_at_call 91;refine(hasY_c HH.out.1 HH.out.2).mono ?_;rintro e w1 ⟨rfl,rfl⟩;go_upto_region 3 with fail;have Lks:=aA ks;have Lkg:=aA kg;have Lku:=aA ku;refine ZP0 [3] ?_;refine Za eA fun p6 rh=> ?_;refine TD.nil (fun w2 hr=> ?_);have ks:=hr.mod.at ks (fun h=>h);have kg:=hr.mod.at kg (fun h=>h);have ku:=hr.mod.at ku (fun h=>h);obtain⟨gp6,kp6⟩:=hr.b p6;have m2:=hr.mod;clear hr;go_upto_region 4 with fail;have Lks:=aA ks;have Lku:=aA ku;have Lkp6:=aA kp6;have Lkg:=aA kg;refine ZP [0,0,0,1,0,1,0,5] ?_
 iterate 7 first|refine Zv ?_|refine Zd ?_
 refine Zi fun wE hr=> ?_;have ks:=hr.mod.at0 ks;have ku:=hr.mod.at0 ku;have kp6:=hr.mod.at0 kp6;have kg:=hr.mod.at0 kg;have mE:=hr.mod;refine ZS ?_;refine ZN kg fun w3 kg mS=> ?_;(try simp only[Array.setIfInBounds,zL]at kg);have ks:=mS.at_ne ks (by omega);have ku:=mS.at_ne ku (by omega);have kp6:=mS.at_ne kp6 (by omega);have m3:Mod (fun b=>b=g) w1 w3:=((m2.then0 mE).mono (fun _ _ h=>h.elim)).then mS (fun _ _ h=>h);clear hr mE mS;go_upto_region 5 with fail;have Lks:=aA ks;have Lkg:=aA kg;have Lku:=aA ku;refine ZP [0,0,0,1,0,0,0,1,0,0,0,0,0,5] ?_
 iterate 13 first|refine Zv ?_|refine Zd ?_
 refine Zi fun wE hr=> ?_;have ks:=hr.mod.at0 ks;have kg:=hr.mod.at0 kg;have ku:=hr.mod.at0 ku;have mE:=hr.mod;refine ZS ?_;refine ZN ku fun w4 ku mS=> ?_;have ks:=mS.at_ne ks (by omega);have kg:=mS.at_ne kg (by omega);have m4:Mod (fun b=>b=g∨b=u) w1 w4:=((m3.then0 mE).mono (fun _ _ h=> .inl h)).then mS (fun _ _ h=> .inr h);clear hr mE mS;go_upto_region 6 with fail;have Lkg:=aA kg;have Lku:=aA ku;have Lks:=aA ks;refine ZP0 [0,0,0,1,0,0,0,5] ?_
 iterate 7 first|refine Zv ?_|refine Zd ?_
 refine Zi fun wE hr=> ?_;have kg:=hr.mod.at0 kg;have ku:=hr.mod.at0 ku;have ks:=hr.mod.at0 ks;have mE:=hr.mod;refine ZS ?_;refine ZN ks fun w5 ks mS=> ?_;(try simp only[Array.setIfInBounds,zL]at ks);have kg:=mS.at_ne kg (by omega);have ku:=mS.at_ne ku (by omega);have m5:Mod (fun b=>b=g∨b=u∨b=s) w1 w5:=((m4.then0 mE).mono (fun i _ h=>by rcases h with h|h<;>simp[h])).then mS (fun _ _ h=> .inr (.inr h));clear hr mE mS;go_wp2_with fail;go_ret;obtain⟨H,hy⟩:=HH.out;obtain⟨ev,lm,ug,hU,hx,hlt,dy,jk,ep⟩:=HE.out;obtain⟨Pb,Vr⟩:=HDE.out;have hz:zItem.size=51:=bE;have Ef:i<R.length:=by omega
 have iq:=sT hy (o':=none);have Aa:(R.set i none).countP Option.isSome=many-1:=by
  simp only[aWz,if_true,aW0,aZr,if_false]at iq;omega
 refine⟨rfl,wr cur (i*51) zItem.toList,us.set d xn,?_,m5⟩;refine⟨?_,?_,H.rows.set Ef hz (fun y' e=>by cases e),?_,?_,by rw[aZn];exact H.len⟩
 ·rw[aZn,aZn,Aa,lm,ug];exact ks
 ·rw[kg,zY hz]
 ·rw[ku,←hU,tN]
 ·rw[←Pb];refine H.words.set Ef dy (fun k hk=> ?_);rw[jk k hk,Vr];by_cases hke:k=ee
  ·rw[if_pos hke,if_pos hke];rfl
  ·rw[if_neg hke,if_neg hke,Pb];exact ep k hk
end
end
section
attribute [local go_sem↓] dE cD dD
attribute [local go_sem] aJ aC aO aL aQ aI aP Value.cells bD bV cV bE G8 cB cC
section
variable {w:We} {s g u:Nat} {R:List (Option bT)} {cur:Wa} {us:Wd}
theorem RW (H:o9 w s g u R cur us) (hf:R.countP Option.isSome=R.length) (y:bT):Calls Tryz.prog 49 #[ptrV s,.agg (dM y)] w fun e w'=>e= .returned (.tuple #[.int .i64 0,.int .i64 3])∧Mod (fun _=>False) w w':=by
 have ks:=H.ks;rw[hf]at ks;generalize R.length=rl at *;clear H hf;go_enter Tryz.func49,Tryz.ntmps49;go_upto_region 0 with fail;have Lks:=aA ks;refine ZP0 [3,0,0] ?_;refine Zb fun p3 yv=> ?_
 iterate 2 refine Zv ?_
 refine TD.nil (fun w1 hr=> ?_);have ks:=hr.mod.at ks (fun h=>h);obtain⟨gp3,kp3⟩:=hr.b p3;have m1:=hr.mod;clear hr
 go_upto_block 0 with fail
 refine wp_scope_straight ?_;refine wp_seq_k fun K hK=> ?_;refine wp_block ?_;go_upto_region 3 with fail;have Lks:=aA ks;refine ZP [0,0,0,1,0,0,0,1,0,0,0] ?_
 iterate 11 first|refine Zv ?_|refine Zd ?_
 refine TD.nil (fun w2 hr=> ?_);have ks:=hr.mod.at ks (fun h=>h);have m2:=m1.then0 hr.mod;clear hr;go_wp2_with fail;rw[Exit.noGoto_ret];exact bodyPost_ret (results_tmp2 rfl _ _ _) rfl ⟨rfl,m2⟩
theorem OC {x:Nat} (hx:x<2^64):bits .xor .u64 IntKind.u64.max (x:Int)=((2^64-1-x:Nat):Int):=by
 have h:=u64_xor_nat 18446744073709551615 x (by omega) hx;rw[show IntKind.u64.max=((18446744073709551615:Nat):Int)by decide,h];congr 1;apply aXb;intro i;rw[Nat.testBit_xor,nJ hx,show 18446744073709551615=2^64-1 from rfl,aWa];by_cases hi:i<64
 ·simp[hi]
 ·rw[Df hi,aXg (aZd hx (aXa (by omega) (by omega)))];rfl
def pS (R:List (Option bT)) (n:Nat):Prop:=R[n]? =some none∧∀i,i<n→sE R i=true
theorem xA (hf:R.countP Option.isSome≠R.length):∃i,i<R.length∧sE R i=false:=by
 have h1:¬∀a∈R,Option.isSome a=true:=fun h=>hf (List.countP_eq_length.2 h)
 have:∃a∈R,a=none:=by
  refine Classical.byContradiction fun hc=>h1 fun a ha=> ?_;cases a with
  |none=>exact absurd ⟨none,ha,rfl⟩ hc
  |some y=>rfl
 obtain⟨a,ha,rfl⟩:=this;obtain⟨i,hi⟩:=aZ8.1 ha;exact⟨i,(aZa.1 hi).1,rE hi⟩
theorem RY (H:o9 w s g u R cur us) (hw:dP w) (hf:R.countP Option.isSome≠R.length) (y:bT):Calls Tryz.prog 49 #[ptrV s,.agg (dM y)] w fun e w'=>∃n:Nat,pS R n∧e= .returned (.tuple #[.int .i64 (n:Int),.int .i64 0])∧∃cur' us',o9 w' s g u (R.set n (some y)) cur' us'∧Mod (fun b=>b=g∨b=u∨b=s) w w':=by
 obtain⟨i0,ir,Bc⟩:=xA hf;have HH:=Hi (Ai H (Ai ir Bc));have ks:=H.ks;have kg:=H.kg;have ku:=H.ku;have ue:s≠g:=aB ks kg (aM (by decide));have Ta:u≠g:=aB ku kg (aM (by decide));have hsu:s≠u:=aB ks ku (aM (by decide));have Po:g≠u:=Ne.symm Ta;have Pn:g≠s:=Ne.symm ue;have Fb:u≠s:=Ne.symm hsu;have hmp:R.countP Option.isSome<4096:=aZd (Nat.lt_of_le_of_ne List.countP_le_length hf) H.len.2;have hrl4:=H.len.2;have vi:=H.words.1;have hde:((R.countP Option.isSome:Int)==(R.length:Int))=false:=by
  rw[beq_eq_false_iff_ne];exact fun e=>hf (by exact_mod_cast e)
 generalize ev:R.countP Option.isSome=many at *;generalize lm:R.length=rl at *;generalize ug:us.length=ul at *;generalize hU:(us.map wcell).toArray=U at *;have HE:=Hi (Ai ev (Ai lm (Ai ug (Ai hU vi))));have hulB:ul≤64:=by omega
 clear H ir Bc ev lm ug hU vi hf;go_enter Tryz.func49,Tryz.ntmps49;go_upto_region 0 with fail;have Lks:=aA ks;have Lkg:=aA kg;have Lku:=aA ku;refine ZP0 [3,0,0] ?_;refine Zb fun p3 yv=> ?_
 iterate 2 refine Zv ?_
 refine TD.nil (fun w1 hr=> ?_);have ks:=hr.mod.at ks (fun h=>h);have kg:=hr.mod.at kg (fun h=>h);have ku:=hr.mod.at ku (fun h=>h);obtain⟨gp3,kp3⟩:=hr.b p3;have m1:=hr.mod;have Hc:=Hi (hw.mod0 hr.mod);clear hr hw
 go_upto_block 0 with fail
 refine wp_scope_straight ?_;refine wp_seq_k fun K hK=> ?_;refine wp_block ?_;go_upto_region 3 with fail;have Lks:=aA ks;have Lkg:=aA kg;have Lku:=aA ku;have Lkp3:=aA kp3;refine ZP [0,0,0,1,0,0,0,1,0,0,0] ?_
 iterate 11 first|refine Zv ?_|refine Zd ?_
 refine TD.nil (fun w2 hr=> ?_);have ks:=hr.mod.at ks (fun h=>h);have kg:=hr.mod.at kg (fun h=>h);have ku:=hr.mod.at ku (fun h=>h);have kp3:=hr.mod.at kp3 (fun h=>h);have m2:=m1.then0 hr.mod;have ny:=Hi (Hc.out.mod0 hr.mod);clear hr Hc;go_wp2_with fail
 go_step3
 go_wp2_with fail;go_loopw [35,4,6,7,8] (fun s35 s4 s6 s7 s8 ws=>∃j:Nat,j≤ul∧s35= .int .i64 (j:Int)∧Hid (∀i,i<64*j→sE R i=true)∧ws=w2) (fun s35 _ _ _ _ _=>ul-(intOf s35).toNat)
 case atStart=>exact⟨0,by omega,rfl,Hi (fun i hi=>by omega),rfl⟩
 case round=>
  obtain⟨j,hj,rfl,HO,rfl⟩:=hrel;by_cases hlt:j<ul
  ·obtain⟨ev,lm,ug,hU,vi⟩:=HE.out;have hx:=aZb (l:=us) (i:=j) (by omega);generalize us[j]=x at hx;obtain⟨Fe,ep⟩:=HH.out.1.words.2 j x hx;have hc:U[j]? =some (.int .u64 (x:Int)):=by rw[←hU];exact oK hx
   have pp:∀h:j<U.size,U[j]= .int .u64 (x:Int):=fun h=>aU hc h;have xl:=nJ Fe;have hwc:bits .xor .u64 IntKind.u64.max (x:Int)=((2^64-1-x:Nat):Int):=OC Fe;have Qw:IntKind.u64.signed=false:=rfl;have Tv:2^64-1-x<2^64:=by omega
   generalize 2^64-1-x=z at *;have HX:=Hi (Ai hx (Ai Fe (Ai ep (Ai xl Tv))));clear ev lm ug hU vi hx Fe ep xl Tv;go_wp2_with fail;go_at_call 87;rcases aWk z with rfl|hz
   ·refine(WE _).mono ?_;rintro e w3 ⟨rfl,rfl⟩;go_wp2_with fail;go_roundw
    case rel=>exact⟨j+1,by omega,by go_num,Hi (fun i hi=>by
     by_cases h9:i<64*j
     ·exact HO.out i h9
     ·obtain⟨_,_,ep,xl,_⟩:=HX.out;have h8:=xl (i-64*j);rw[Nat.zero_testBit,Dt (by omega),aWs]at h8;have h7:=ep (i-64*j) (by omega);rw[show 64*j+(i-64*j)=i by omega]at h7;rw[←h7];simpa using h8.symm),trivial⟩
    case measure=>simp[intOf];omega
   ·obtain⟨k,h1,h0⟩:=EA hz;have hk:=qC HX.out.2.2.2.2 h1;have hkd:=Dt hk;refine(WF HX.out.2.2.2.2 h1 h0 ny.out).mono ?_;rintro e w3 ⟨rfl,rfl⟩;have HK:=Hi (Ai h1 h0);clear h1 h0;obtain⟨n,hn,hnI⟩:∃n:Nat,n=64*j+k∧(j:Int)*64+(k:Int)=(n:Int):=⟨64*j+k,rfl,by omega⟩;have gh:pS R n:=by
     obtain⟨ev,lm,ug,hU,vi⟩:=HE.out;obtain⟨_,_,ep,xl,_⟩:=HX.out;obtain⟨h1,h0⟩:=HK.out;have zu:∀i,i<n→sE R i=true:=fun i hi=>by
      by_cases h9:i<64*j
      ·exact HO.out i h9
      ·have h8:=xl (i-64*j);rw[h0 _ (by omega),Dt (by omega),aWs]at h8;have h7:=ep (i-64*j) (by omega);rw[show 64*j+(i-64*j)=i by omega]at h7;rw[←h7];simpa using h8.symm
     have Qu:sE R n=false:=by
      have h8:=xl k;rw[h1,Dt hk,aWs]at h8;rw[hn,←ep k hk];simpa using h8.symm
     obtain⟨H,ir,Bc⟩:=HH.out;have Gl:n<R.length:=by
      rcases aYt i0 n with h|h
      ·rw[zu i0 h]at Bc;cases Bc
      ·omega
     refine⟨?_,zu⟩;cases hR:R[n]? with
     |none=>rw[List.getElem?_eq_none_iff]at hR;omega
     |some o=>
      cases o with
      |none=>rfl
      |some y=>rw[rF hR]at Qu;cases Qu
    have Gl:n<R.length:=(aZa.1 gh.1).1;have fu:=HH.out.1.rows.size Gl;have hrlE:=HE.out.2.1;have Qv:n<rl:=by omega
    have hnr2:(n:Int)<(rl:Int):=by omega
    have Qr:n≤4095:=by omega
    obtain⟨P,xn,q3,q4,dy,jk⟩:=JG (i:=n) HX.out.2.1;have na:n % 64=k:=by omega
    have Gc:n/64=j:=by omega
    rw[na]at q3;have q1:IntKind.i64.wrap ((n:Int)/64)=(j:Int):=by
     rw[IntKind.wrap_i64];omega
    have q2:Int.tmod (n:Int) 64=(k:Int):=by
     rw[aWf (by omega)];omega
    have q5:IntKind.i64.wrap ((many:Int)+1)=((many+1:Nat):Int):=by
     rw[IntKind.wrap_i64];omega
    have jt:k≤64:=by omega
    have HN:=Hi (Ai gh (Ai hn (Ai dy (Ai jk (Ai na Gc)))));clear gh hn dy jk na Gc Gl hrlE;go_upto_region 12 with fail;clear hnI;have Lks:=aA ks;have Lkg:=aA kg;have Lkp3:=aA kp3;have Lku:=aA ku;refine ZP [0,0,0,1,0,0,0,1,0,0,0,0,0,5] ?_
    iterate 13 first|refine Zv ?_|refine Zd ?_
    refine Zi fun wE hr=> ?_;have ks:=hr.mod.at0 ks;have kg:=hr.mod.at0 kg;have kp3:=hr.mod.at0 kp3;have ku:=hr.mod.at0 ku;have mE:=hr.mod;refine ZS ?_;refine ZN ku fun w4 ku mS=> ?_;have ks:=mS.at_ne ks (by omega);have kg:=mS.at_ne kg (by omega);have kp3:=mS.at_ne kp3 (by omega);have m4:Mod (fun b=>b=u) w3 w4:=(mE.mono (fun _ _ h=>h.elim)).then mS (fun _ _ h=>h);clear hr mE mS;go_upto_region 13 with fail;have Lks:=aA ks;have Lku:=aA ku;have Lkp3:=aA kp3;have Lkg:=aA kg;refine ZP [0,0,0,1,0,1,0,5] ?_
    iterate 7 first|refine Zv ?_|refine Zd ?_
    refine Zi fun wE hr=> ?_;have ks:=hr.mod.at0 ks;have ku:=hr.mod.at0 ku;have kp3:=hr.mod.at0 kp3;have kg:=hr.mod.at0 kg;have mE:=hr.mod;refine ZS ?_;refine ZN kg fun w5 kg mS=> ?_;(try simp only[Array.setIfInBounds,zL]at kg);have ks:=mS.at_ne ks (by omega);have ku:=mS.at_ne ku (by omega);have kp3:=mS.at_ne kp3 (by omega);have m5:Mod (fun b=>b=g∨b=u) w3 w5:=((m4.then0 mE).mono (fun _ _ h=> .inr h)).then mS (fun _ _ h=> .inl h);clear hr mE mS;go_upto_region 14 with fail;have Lkg:=aA kg;have Lku:=aA ku;have Lks:=aA ks;refine ZP0 [0,0,0,1,0,0,0,5] ?_
    iterate 7 first|refine Zv ?_|refine Zd ?_
    refine Zi fun wE hr=> ?_;have kg:=hr.mod.at0 kg;have ku:=hr.mod.at0 ku;have ks:=hr.mod.at0 ks;have mE:=hr.mod;refine ZS ?_;refine ZN ks fun w6 ks mS=> ?_;(try simp only[Array.setIfInBounds,zL]at ks);have kg:=mS.at_ne kg (by omega);have ku:=mS.at_ne ku (by omega);have m6:Mod (fun b=>b=g∨b=u∨b=s) w3 w6:=((m5.then0 mE).mono (fun i _ h=>by rcases h with h|h<;>simp[h])).then mS (fun _ _ h=> .inr (.inr h));clear hr mE mS;have mF:=(m2.mono (T:=fun b=>b=g∨b=u∨b=s) (fun _ _ h=>h.elim)).trans m6;go_wp2_with fail
    try rw[Exit.noGoto_ret]
    obtain⟨H,ir,Bc⟩:=HH.out;obtain⟨ev,lm,ug,hU,vi⟩:=HE.out;obtain⟨gh,hn,dy,jk,na,Gc⟩:=HN.out;have hz:(dM y).size=51:=bD y;have Gl:n<R.length:=by omega
    have iq:=sT gh.1 (o':=some y);have Aa:(R.set n (some y)).countP Option.isSome=many+1:=by
     simp only[aWz,if_true,aW0,aZr,if_false]at iq;omega
    refine bodyPost_ret (results_tmp2 rfl _ _ _) rfl ⟨n,gh,rfl,wr cur (n*51) (dM y).toList,us.set j xn,?_,mF⟩;refine⟨?_,?_,H.rows.set Gl hz (fun y' e=>by cases e;rfl),?_,?_,by rw[aZn];exact H.len⟩
    ·rw[aZn,aZn,Aa,lm,ug];exact ks
    ·rw[kg,zY hz]
    ·rw[ku,←hU,tN]
    ·rw[←Gc];refine H.words.set Gl dy (fun k' cu=> ?_);rw[jk k' cu];by_cases hke:k'=n % 64
     ·rw[if_pos hke,if_pos hke];rfl
     ·rw[if_neg hke,if_neg hke,Gc];exact HX.out.2.2.1 k' cu
  ·exfalso;obtain⟨ev,lm,ug,hU,vi⟩:=HE.out;obtain⟨H,ir,Bc⟩:=HH.out;rw[HO.out i0 (by omega)]at Bc;cases Bc
end
end
section
attribute [local go_sem↓] dE cD dD
attribute [local go_sem] aJ aC aO aL aQ aI aP Value.cells G8
section
variable {w:We} {s g u:Nat} {R:List (Option bT)} {cur:Wa} {us:Wd}
end
end
section
section
variable {P:Wl} {ops:Array Oper} {Q:Exit→Act→We→Prop} {S:We→Prop} {C:Wn→Wa→Wg→Prop} {w0:We} {κ:Nat→Nat}
theorem TD.mks {i:Nat} {r:Wd} {a:Act} {B:Bx} {o:Oper} {d:Tmp} {T E:Wh} {n m:Nat} {x y:Wm} {X Y:Wg} {z:Wa} (ho:ops[i]? =some o) (hk:κ i=3)
  (hw:Region.wanted o (yielded ops a.tmps)=true) (hd:o.dst=some d) (aj:o.op= .makeSlice T x y) (hx:a.eval x=X) (hy:a.eval y=Y)
  (hr:∀w,(Instr.makeSlice T X Y).run P w= .ok (.slice (some ⟨w.heap.size,0,none⟩) n m) (w.alloc (.cells z E)))
  (h:∀p,B p=none→TD P ops Q S C w0 κ r (a.put o.dst (.slice (some ⟨p,0,none⟩) n m)) (B.set p ⟨z,E,d⟩)):TD P ops Q S C w0 κ (i::r) a B:=
 .alloc (fun p=> .slice (some ⟨p,0,none⟩) n m) ho hk hw hd (fun w=>by subst hx;subst hy;simp[execOp,aj,hr w]) h
end
end
section
attribute [local go_sem↓] dE cD dD
attribute [local go_sem] aJ aC aO aL aQ aI aP Value.cells G8
theorem IY:∃i0,Tryz.prog.info? 82=some i0∧i0.zero=some (.agg zItem)∧i0.size=51∧i0.bytes≤1000:=by
 obtain⟨i0,hi,cy,bj,bp⟩:=info_parts (show(Tryz.prog.info? 82).map (fun i=>(i.zero,i.size,i.bytes))=some (some (.agg zItem),51,248)by kernel_rfl);exact⟨i0,hi,cy,bj,by omega⟩
theorem MT:∃i0,Tryz.prog.info? 23=some i0∧i0.zero=some (.int .u64 0)∧i0.size=1∧i0.bytes=8:=by
 obtain⟨i0,hi,cy,bj,bp⟩:=info_parts (show(Tryz.prog.info? 23).map (fun i=>(i.zero,i.size,i.bytes))=some (some (.int .u64 0),1,8)by kernel_rfl);exact⟨i0,hi,cy,bj,bp⟩
theorem FC (n:Nat):lZ (List.replicate n none) (List.replicate ((n+63)/64) 0):=by
 refine⟨by simp,fun j x hx=> ?_⟩;obtain⟨_,hx⟩:=aZa.1 hx;rw[aX2]at hx;subst hx;refine⟨by omega,fun k hk=> ?_⟩;rw[Nat.zero_testBit];symm;unfold sE;rw[aY3];split<;>rfl
theorem LW (a b:Addr) (n m:Nat) (w:We):(Instr.build 209 #[(0,.slice (some a) n n),(1,.slice (some b) m m)]).run Tryz.prog w= .ok (.agg #[.slice (some a) n n,.slice (some b) m m,.int .i64 0]) w:=by kernel_rfl
theorem newY_c (w:We) {n:Nat} (h1:1≤n) (h2:n≤4096):Calls Tryz.prog 79 #[.int .i64 (n:Int)] w fun e w'=>∃s g u cur us,e= .returned (.tuple #[ptrV s,.int .i64 0])∧o9 w' s g u (List.replicate n none) cur us∧w.heap.size≤s∧w.heap.size≤g∧w.heap.size≤u∧Mod (fun _=>False) w w':=by
 obtain⟨i0,hi,hz,bj,bp⟩:=IY;obtain⟨i1,Ck,hzu,Ud,Ue⟩:=MT;have na:∀w,(Instr.makeSlice 79 (.int .i64 (n:Int)) (.int .i64 (n:Int))).run Tryz.prog w= .ok (.slice (some ⟨w.heap.size,0,none⟩) n n) (w.alloc (.cells (madeCells zItem (n*i0.size)) 82)):=fun w=>by
  have hb:(i0.bytes:Int)*(n:Int)≤281474976710656:=by
   have:i0.bytes*n≤1000*4096:=Nat.mul_le_mul bp h2;have h3:(i0.bytes:Int)*(n:Int)=((i0.bytes*n:Nat):Int):=by simp
   omega
  have:=run_make (P:=Tryz.prog) w 79 82 i0 _ Tryz.underlying79 hi hz .i64 .i64 (n:Int) (n:Int) (by omega) (by omega) hb (by omega);simpa[Value.cells] using this
 have Qm:∀W:Nat,W≤100→∀w,(Instr.makeSlice 67 (.int .i64 (W:Int)) (.int .i64 (W:Int))).run Tryz.prog w= .ok (.slice (some ⟨w.heap.size,0,none⟩) W W) (w.alloc (.cells (madeCells #[.int .u64 0] (W*i1.size)) 23)):=fun W hW w=>by
  have:=run_make (P:=Tryz.prog) w 67 23 i1 _ Tryz.underlying67 Ck hzu .i64 .i64 (W:Int) (W:Int) (by omega) (by omega) (by rw[Ue];omega) (by omega);simpa[Value.cells] using this
 have qp:=Qm ((n+63)/64) (by omega);clear Qm;rw[Ud,aYp]at qp;rw[bj]at na;have fz:(madeCells zItem (n*51)).size=n*51:=size_madeCells _ _;have Fb:madeCells #[.int .u64 0] ((n+63)/64)=((List.replicate ((n+63)/64) 0).map wcell).toArray:=by
  apply aZ1.1;rw[toList_madeCells_one];simp[wcell]
 rw[Fb]at qp;have rr:decide ((n:Int)<1)=false:=Df (by omega);have cm:decide ((4096:Int)<(n:Int))=false:=Df (by omega);have q1:IntKind.i64.wrap ((n:Int)+64)=(n:Int)+64:=by rw[IntKind.wrap_i64];omega
 have q2:IntKind.i64.wrap ((n:Int)+64-1)=((n+63:Nat):Int):=by rw[IntKind.wrap_i64];omega
 have q3:IntKind.i64.wrap (((n+63:Nat):Int)/64)=(((n+63)/64:Nat):Int):=by rw[IntKind.wrap_i64];omega
 have ug:((List.replicate ((n+63)/64) 0).map wcell).length=(n+63)/64:=by simp
 have jw:=LW;have HU:=Hi (Ai ug (FC n));generalize madeCells zItem (n*51)=cur at *;generalize hW:(n+63)/64=W at *;generalize hUU:((List.replicate W 0).map wcell).toArray=U at *;have HUU:=Hi hUU;clear hUU;generalize n+63=n63 at *;have HC:=Hi (Ai fz (Ai h1 h2));clear hi hz bj bp Ck hzu Ud Ue Fb fz h1 h2 ug;go_enter Tryz.func79,Tryz.ntmps79;go_upto_region 3 with fail;refine ZP [0,3,0,0,0,0,3,0,3,0,0] ?_;refine Zv ?_;(refine TD.mks (by simp only[zK];rfl) rfl (by rfl) rfl rfl ?th ?bp na (fun p11 ns=> ?n2);(case th=>simp only[zM];try rfl);(case bp=>simp only[zM];try rfl);try simp only[zL])
 iterate 4 refine Zv ?_
 (refine TD.mks (by simp only[zK];rfl) rfl (by rfl) rfl rfl ?Ku ?Ua qp (fun p16 Rj=> ?n7);(case Ku=>simp only[zM];try rfl);(case Ua=>simp only[zM];try rfl);try simp only[zL]);obtain⟨ne_p16_p11,Rj⟩:=Bx.set_none Rj;refine Zu (jw _ _ _ _) ?_;refine Zb fun p18 ya=> ?_;obtain⟨ne_p18_p16,ya⟩:=Bx.set_none ya;obtain⟨ne_p18_p11,ya⟩:=Bx.set_none ya
 iterate 2 refine Zv ?_
 refine TD.nil (fun w1 hr=> ?_);obtain⟨gp11,kp11⟩:=hr.b p11;obtain⟨gp16,kp16⟩:=hr.b p16;obtain⟨gp18,kp18⟩:=hr.b p18;have mm:=hr.mod;clear hr na qp jw;go_wp2_with fail;refine bodyPost_ret (results_tmp2 rfl _ _ _) rfl ⟨p18,p11,p16,cur,List.replicate W 0,rfl,?_,by omega,by omega,by omega,mm⟩;have iq:(List.replicate n (none:Option bT)).countP Option.isSome=0:=by rw[List.countP_eq_zero];intro a ha;rw[(List.mem_replicate.1 ha).2];simp
 refine⟨?_,kp11,⟨by rw[aZ9];exact HC.out.1,fun i y hy=> ?_⟩,?_,HU.out.2,by rw[aZ9];exact HC.out.2⟩
 ·rw[aZ9,aZ9,iq];exact kp18
 ·obtain⟨_,e⟩:=aZa.1 hy;rw[aX2]at e;cases e
 ·rw[HUU.out];exact kp16
end
end Go.Proofs.YtblbegbjlaokjaaGreatDoor