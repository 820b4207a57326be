/- The lemmas of the proof, part XO5: how the program and its data lie in memory, and what its functions do. -/
import Derived.Test.YtiaehkkkcaeaiaaGreatDoorXR4
import Derived.Shelf.Abstract
set_option linter.unusedSimpArgs false
set_option linter.unusedVariables false
set_option linter.unusedSectionVars false

set_option maxRecDepth 20000
set_option maxHeartbeats 6400000
namespace Go.Proofs.YtiaehkkkcaeaiaaGreatDoor
open Go.RowKit
open Go.ChangeMaps (setBlock)
attribute [local go_sem↓] eqKey1 ldKey ldSg stKey stSg wlKey
attribute [local go_sem] Value.cells cell_blk frozen_blk kc_ext kc_one kc_one0 kc_size one_bool one_int one_map one_ptr one_slice sgc_ext sgc_one' sgc_one0 sgc_size zKey_size
section
section
variable {P:Program} {ops:Array Oper} {Q:Exit→Act→World→Prop} {T0:Nat→Prop} {w0:World} {κ:Nat→Nat} {υ:Nat→List Tmp}
theorem TG.soundX (hsel:∀(j:Nat) (p:Oper) cs b,ops[j]? =some p→p.op≠ .select cs b)
  (hback:∀i o,ops[i]? =some o→∀e∈o.after,Region.binds .any e=true→e.on<i) {rest:List Nat} {E:Act→World→Prop} (hE:∀listed a w,Listing ops listed rest→E a w→wpAny P .any ops Q rest.length listed a w):
  ∀(fuel:Nat) (l:List Nat) (listed:Array Bool) (a:Act) (B:Bx) (K:Land) (w:World),l.length=fuel→(l++rest).Nodup→(∀i∈l++rest,i<ops.size)→gPairsOk ops κ υ l=true→
   (∀x∈l,∀y∈rest,x≠y∧(behindB ops x).testBit y=true)→Listing ops listed (l++rest)→Closed K→
   RG T0 w0 B K w→TG P ops (fun _ a w=>E a w) T0 w0 κ υ l a B K→wpAny P .any ops Q (rest.length+fuel) listed a w:=by
 intro fuel
 induction fuel with
 |zero=>
  intro l listed a B K w hl hn hlt hp hb hL hK hR h;obtain rfl:l=[]:=List.length_eq_zero_iff.1 hl;have hte:E a w:=by
   cases h with|nil h=>exact h w hR
  exact hE listed a w (by simpa using hL) hte
 |succ fuel ih=>
  intro l listed a B K w hl hn hlt hp hb hL hK hR h;refine⟨fun hnil=> ?_,fun i hi=> ?_⟩
  ·exfalso
   match l,hl with
   |i::l',_=>exact exists_ready hback hL hlt i i (by simp) (Nat.le_refl _) hnil
  ·obtain⟨hun,o,ho,hall⟩:=mem_ready.1 hi;have hil:i∈l:=by
    rcases List.mem_append.1 ((hL.mem i).2 hun)with hin|hin
    ·exact hin
    ·exfalso;clear h
     match l,hl with
     |x::l',_=>
      have hxy:=hb x (by simp) i hin;obtain⟨_,hpth⟩:=(behindB_path hxy.2).resolve_left (fun e=>hxy.1 e.symm);have hl1:=path_listed hL.closed _ x i o ho hall hpth;have hl2:=getD_false_of_true ((hL.mem x).1 (by simp));rw[hl1]at hl2;cases hl2
   obtain⟨pre,post,rfl⟩:=List.append_of_mem hil;obtain⟨h1,h2⟩:=gPairsOk_split hp;have hf:=TG.front hsel ho pre a B K hK ⟨w,hR⟩ (fun x hx=>by
    have:=h1 x hx;unfold gPairOk at this;have hxo:ops[x]? =some (ops[x]'(hlt x (by simp[hx]))):=Array.getElem?_eq_getElem _;rw[hxo,ho]at this;simp only[Bool.or_eq_true,Bool.and_eq_true]at this;rcases this with hpth|hok
    ·obtain⟨_,hpth⟩:=(behindB_path hpth.2).resolve_left (fun e=>by have:=hpth.1;simp[e]at this);have hl1:=path_listed hL.closed _ x i o ho hall hpth;have hl2:=getD_false_of_true ((hL.mem x).1 (by simp[hx]));rw[hl1]at hl2;cases hl2
    ·exact⟨_,hxo,hok.1,hok.2⟩) h
   have hl':(pre++post).length=fuel:=by simp at hl⊢;omega
   have hsub:((pre++post)++rest).Sublist ((pre++i::post)++rest):=List.Sublist.append_right (List.Sublist.append_left (List.sublist_cons_self _ _) _) _;have hn':((pre++post)++rest).Nodup:=hn.sublist hsub;have hlt':∀j∈(pre++post)++rest,j<ops.size:=fun j hj=>hlt j (hsub.subset hj);have hb':∀x∈pre++post,∀y∈rest,x≠y∧(behindB ops x).testBit y=true:=fun x hx=>hb x ((List.Sublist.append_left (List.sublist_cons_self i post) pre).subset hx);have hL':Listing ops (listed.setIfInBounds i true) ((pre++post)++rest):=by
    have:=Listing.next (pre:=pre) (post:=post++rest) (i:=i) (by simpa using hL) (by simpa using hn) ho hall;simpa using this
   rcases hf.kinds with ko|ko|ko|ko
   ·obtain⟨v,hy,ht⟩:=hf.inv_val ko ho;obtain⟨T,hRT⟩:=hR;exact YieldsIf.wpOp ho hy hRT.mod (ih _ _ _ _ _ _ hl' hn' hlt' h2 hb' hL' hK ⟨T,hRT⟩ ht)
   ·obtain⟨hw,d,T,z,V,hd,hr,ht⟩:=hf.inv_alloc ko ho;obtain⟨U,hRT⟩:=hR;have hR':RG T0 w0 (B.set w.heap.size ⟨z,T,d⟩) K (w.alloc (.cells z T)):=⟨U,hRT.alloc hK z T d⟩;unfold wpOp;simp only[ho,hw,if_true];refine .inl ?_;unfold Oper.wp;rw[hr w];exact ih _ _ _ _ _ _ hl' hn' hlt' h2 hb' hL' hK hR' (ht _ hRT.none ⟨_,hR'⟩)
   ·obtain⟨hw,hd,d,T,y,p,b,hop,hev,hbb,htag,hr,ht⟩:=hf.inv_store ko ho;obtain⟨U,hRT⟩:=hR;unfold wpOp;simp only[ho,hw,if_true];refine .inl ?_;unfold Oper.wp;rw[hr w (hRT.box p b hbb).2.2];simp only[Oper.upon,hd];exact ih _ _ _ _ _ _ hl' hn' hlt' h2 hb' hL' hK ⟨U,hRT.store hK hbb _⟩ ht
   ·obtain⟨hw,K',hE,ht⟩:=hf.inv_eff ko ho;obtain⟨U,hRT⟩:=hR;exact(hE.step hRT).wp ho hw fun v w' hv=>ih _ _ _ _ _ _ hl' hn' hlt' h2 hb' hL' (hE.cl v) hv (ht v ⟨w',hv⟩)
def headB (ops:Array Oper) (rest:List Nat) (i:Nat):Bool:=rest.all fun j=>j==i|| !(behindB ops j).testBit i
def AllE (P:Program) (ops:Array Oper) (Q:Exit→Act→World→Prop):Nat→List Nat→Act→World→Prop
 |0,_,a,w=>Q .normal a w
 |n+1,rest,a,w=>∀i∈rest,headB ops rest i=true→wpOp P ops Q i (AllE P ops Q n (rest.erase i)) a w
theorem allE_nil {rest:List Nat} {a:Act} {w:World} (h:Q .normal a w):AllE P ops Q 0 rest a w:=h
theorem no_head {b:Bool} {p:Prop} (hf:b=false) (hb:b=true):p:=by
 rw[hf]at hb;cases hb
theorem allE_any (hsel:∀(j:Nat) (p:Oper) cs b,ops[j]? =some p→p.op≠ .select cs b)
  (hback:∀i o,ops[i]? =some o→∀e∈o.after,Region.binds .any e=true→e.on<i):∀(n:Nat) (rest:List Nat),rest.length=n→rest.Nodup→(∀i∈rest,i<ops.size)→
  ∀(listed:Array Bool) (a:Act) (w:World),Listing ops listed rest→AllE P ops Q n rest a w→wpAny P .any ops Q n listed a w:=by
 intro n
 induction n with
 |zero=>
  intro rest hl hn hlt listed a w hL h;obtain rfl:=List.length_eq_zero_iff.1 hl;exact TE.sound (κ:=fun _=>0) hsel hback 0 [] listed a w rfl List.nodup_nil (by simp) rfl hL (.nil h)
 |succ n ih=>
  intro rest hl hn hlt listed a w hL h;have hne:rest≠[]:=by intro e;rw[e]at hl;cases hl
  refine⟨fun hnil=> ?_,fun i hi=> ?_⟩
  ·exfalso;obtain⟨x,hx⟩:=List.exists_mem_of_ne_nil _ hne;exact exists_ready hback hL hlt x x hx (Nat.le_refl _) hnil
  ·obtain⟨hun,o,ho,hall⟩:=mem_ready.1 hi;have hin:=(hL.mem i).2 hun;have hhead:headB ops rest i=true:=by
    unfold headB;rw[List.all_eq_true];intro j hj;by_cases e:j=i
    ·simp[e]
    ·cases hb:(behindB ops j).testBit i with
     |false=>simp
     |true=>
      exfalso;obtain⟨_,hpth⟩:=(behindB_path hb).resolve_left (fun e'=>e e'.symm);have hl1:=path_listed hL.closed _ j i o ho hall hpth;have hl2:=getD_false_of_true ((hL.mem j).1 hj);rw[hl1]at hl2;cases hl2
   obtain⟨pre,post,hr⟩:=List.append_of_mem hin;have hN:=Listing.next (pre:=pre) (post:=post) (i:=i) (by rw[←hr];exact hL) (by rw[←hr];exact hn) ho hall;have hq:(rest.erase i).Perm (pre++post):=List.Perm.cons_inv ((List.perm_cons_erase hin).symm.trans (by rw[hr];exact List.perm_middle));refine wpOp_mono (fun a' w' hk=> ?_) (h i hin hhead);refine ih (rest.erase i) (by rw[List.length_erase_of_mem hin];omega) (hn.erase i) (fun x hx=>hlt x (List.mem_of_mem_erase hx)) _ a' w' ⟨hN.size,fun x=>(hq.mem_iff).trans (hN.mem x),hN.closed⟩ hk
def xRegOk (ops:Array Oper) (κ:Nat→Nat) (υ:Nat→List Tmp) (l rest:List Nat):Bool:=
 Region.noSelect ops&&((List.range ops.size).all fun i=>match ops[i]? with|none=>false|some o=>o.after.all fun e=> !Region.binds .any e||decide (e.on<i))&&
 (decide (rest.length+l.length=ops.size)&&((l++rest).all (fun i=>decide (i<ops.size))&&((List.range ops.size).all fun i=>(l++rest).contains i)))&&
 (decide (l++rest).Nodup&&gPairsOk ops κ υ l&&
  l.all (fun x=>rest.all fun y=> !(x==y)&&(behindB ops x).testBit y))
theorem x_any {a:Act} {w1:World} {K:Land} (l rest:List Nat) (hok:xRegOk ops κ υ l rest=true) (hK:Closed K) (hR:RG T0 w0 Bx.nil K w1)
  (h:TG P ops (fun _ a w=>AllE P ops Q rest.length rest a w) T0 w0 κ υ l a Bx.nil K):wpAny P .any ops Q ops.size (Array.replicate ops.size false) a w1:=by
 simp only[xRegOk,Bool.and_eq_true,List.all_eq_true,decide_eq_true_eq]at hok;obtain⟨⟨⟨h1,h2⟩,h3,h4,h5⟩,⟨hnd,h6⟩,h8⟩:=hok;have hback:∀i o,ops[i]? =some o→∀e∈o.after,Region.binds .any e=true→e.on<i:=fun i o ho e he hb=>by
  have:=h2 i (List.mem_range.2 (Array.getElem?_eq_some_iff.1 ho).1);rw[ho]at this;have:=Array.all_eq_true_iff_forall_mem.1 this e he;simpa[hb] using this
 rw[←h3];have hnr:rest.Nodup:=(List.nodup_append.1 hnd).2.1;refine TG.soundX (Region.noSelect_spec h1) hback (fun listed a w hL hE=>allE_any (Region.noSelect_spec h1) hback rest.length rest rfl hnr (fun i hi=>h4 i (List.mem_append_right _ hi)) listed a w hL hE) _ l _ a _ _ _ rfl hnd h4 h6 (fun x hx y hy=> ?_) ?_ hK hR h
 ·have:=h8 x hx y hy;exact⟨by simpa using this.1,this.2⟩
 ·rw[h3];refine⟨by simp,fun i=> ?_,fun i o hi=> ?_⟩
  ·constructor
   ·intro hi;have:=h4 i hi;simp[this]
   ·intro hi;have:i<ops.size:=by
     rcases Nat.lt_or_ge i ops.size with h'|h'
     ·exact h'
     ·simp[Nat.not_lt.2 h']at hi
    simpa using h5 i (List.mem_range.2 this)
  ·exfalso;have:(Array.replicate ops.size false).getD i false=false:=by
    by_cases h':i<ops.size
    ·simp[h']
    ·simp[h']
   rw[this]at hi;cases hi
theorem wp_xpass {id:Nat} {a:Act} {w:World} {K:Land} (l rest:List Nat) (hm:P.follows .mixedOrders=true) (hok:xRegOk ops κ υ l rest=true) (hK:Closed K) (hk:K T0 w) (hlt:∀i,T0 i→i<w.heap.size)
  (h:TG P ops (fun _ a w=>AllE P ops Q rest.length rest a w) T0 w κ υ l a Bx.nil K):(Code.region id ops true).wp P Q a w:=
 wp_region_any hm (x_any l rest hok hK ⟨T0,hK T0 w w.drew hk (Mod.refl _ w).drew,hlt,fun _ _ h=>h,(Mod.refl _ w).drew,fun _ _ hh=>by cases hh⟩ h)
end
end
section
attribute [local go_sem↓] wlTc ldTc stTc
attribute [local go_sem] txr_size txr_all txr_one txr_one' txr0 txr38 txr39 txr0' txr38' txr39' zTx_size
attribute [local go_sem↓] wlLo ldLo stLo wlIn ldIn stIn
attribute [local go_sem] txr2 txr5 txr2' txr5' txr_hd
theorem keyTR:KeyT Tryz.prog 82 kv:=keyIs.keyT
def nv (n:Nat):Value:= .int .i64 (n:Int)
theorem fresh1 (w:World) (a:Obj):(w.alloc a).heap[w.heap.size]? =some a:=by
 unfold World.alloc;rw[Array.getElem?_push,if_pos rfl]
theorem nv_zero (w:World):(zeroValue 3).run Tryz.prog w= .ok (nv 0) w:=by kernel_rfl
def cntM (l:List Key):List (Key×Nat):=l.foldl (fun m k=>put k ((lkp k m).getD 0+1) m) []
theorem cntM_snoc (l:List Key) (k:Key):cntM (l++[k])=put k ((lkp k (cntM l)).getD 0+1) (cntM l):=by simp[cntM]
theorem put_length {ν:Type} (k:Key) (v:ν) (m:List (Key×ν)):(put k v m).length=if(lkp k m).isSome then m.length else m.length+1:=by
 induction m with
 |nil=>rfl
 |cons p r ih=>
  unfold put lkp;by_cases h:p.1=k
  ·simp[h]
  ·simp only[if_neg h,List.length_cons,ih];split<;>simp
theorem snocInd {α:Type} {P:List α→Prop} (h0:P []) (h1:∀l x,P l→P (l++[x])) (l:List α):P l:=by
 have:∀l:List α,P l.reverse:=fun l=>by
  induction l with
  |nil=>exact h0
  |cons x l ih=>rw[List.reverse_cons];exact h1 _ _ ih
 have h:=this l.reverse;rwa[List.reverse_reverse]at h
theorem cntM_lkp (l:List Key) (k:Key):lkp k (cntM l)=if k∈l then some (l.count k)else none:=by
 induction l using snocInd with
 |h0=>rfl
 |h1 l x ih=>
  rw[cntM_snoc,lkp_put];by_cases h:k=x
  ·subst h;rw[if_pos rfl,ih];by_cases hm:k∈l
   ·simp[hm]
   ·simp[hm,List.count_eq_zero.2 hm]
  ·rw[if_neg h,ih];have hx:(x==k)=false:=by simp;exact fun e=>h e.symm
   simp[h,List.count_singleton,hx]
theorem cntM_len (l:List Key):(cntM l).length≤l.length∧((cntM l).length=l.length↔l.Nodup):=by
 induction l using snocInd with
 |h0=>simp[cntM]
 |h1 l x ih=>
  rw[cntM_snoc,put_length,cntM_lkp];have hn:(l++[x]).Nodup↔l.Nodup∧x∉l:=by
   rw[List.nodup_append];simp;intro _;constructor
   ·exact fun h hx=>h x hx rfl
   ·exact fun h a ha e=>h (e▸ha)
  rw[hn,List.length_append,List.length_singleton];by_cases hm:x∈l
  ·simp[hm];omega
  ·simp[hm];exact⟨ih.1,ih.2⟩
theorem once_c (x:RdR) (w:World) (h:TxRd w x):Calls Tryz.prog 71 #[.agg (txr x)] w fun e w'=>e= .returned (.bool (onceP (txP x)))∧Mod (fun _=>False) w w':=by
 have HX:=Hi h;clear h;have hP:onceP (txP x)=decide ((cntM x.ks.l).length=x.ks.l.length):=decide_eq_decide.2 (cntM_len x.ks.l).2.symm;rw[hP];obtain⟨n,hn⟩:∃n,x.ks.l.length=n:=⟨_,rfl⟩;have hbn:n≤1000000:=by rw[←hn];exact HX.out.2.1.2
 have HN:=Hi hn;obtain⟨t,ht⟩:∃t,(cntM x.ks.l).length=t:=⟨_,rfl⟩;have HTT:=Hi ht;rw[hn,ht];clear ht hP;have hmm:= @run_makeMap Tryz.prog;go_enter Tryz.func71,Tryz.ntmps71;go_upto_region 0 with fail;refine ZP0 [3,0] ?_;refine Zb fun p1 hp1=> ?_;refine Zv ?_;refine TD.nil (fun w1 hr=> ?_);obtain⟨gp1,kp1⟩:=hr.b p1;have m1:=hr.mod;clear hr;go_upto_region 2 with fail;have km:(w1.alloc (.map #[] 0)).heap[w1.heap.size]? =some (.map #[] 0):=fresh1 _ _;have m2:Mod (fun _=>False) w1 (w1.alloc (.map #[] 0)):=(Mod.refl _ _).alloc _;have hp1q:p1<w1.heap.size:=Ls kp1;have kp1':=m2.at0 kp1;clear kp1;have kp1:=kp1';clear kp1';generalize w1.alloc (.map #[] 0)=w2 at *;have hq:w.heap.size≤w1.heap.size:=m1.size;generalize w1.heap.size=q at *;have HM2:=Hi (m1.then0 m2);clear m1 m2 hmm;go_wp2_with fail;go_loopw [11] (fun s11 ws=>∃i:Nat,i≤n∧s11= .int .i64 (i:Int)∧(∃es c,ws.heap[q]? =some (.map es c)∧Hid (MapIs kv nv es c (cntM (x.ks.l.take i))))∧Mod (fun j=>j=q) w2 ws) (fun s11 _=>n-(intOf s11).toNat)
 case atStart=>exact⟨0,by omega,rfl,⟨_,_,km,Hi (MapIs.empty kv nv)⟩,Mod.refl _ _⟩
 case round=>
  clear km;obtain⟨i,hi,rfl,⟨es1,cl1,km,HM⟩,hm⟩:=hrel;have kp1:=hm.at kp1 (by omega);have HM3:Hid (Mod (fun j=>j=q) w wr):=Hi ((HM2.out.mono (fun _ _ h=>h.elim)).trans hm);by_cases hlt:i<n
  ·have hd:=Dt hlt;obtain⟨k,hk⟩:∃k,x.ks.l[i]? =some k:=⟨_,List.getElem?_eq_getElem (by have:=HN.out;omega)⟩;obtain⟨g,o,C,U,fr,ha,kl0,he,hle⟩:=HX.out.2.1.1.block hk;have hg:=Ls kl0;have kl:=HM3.out.at kl0 (by omega);have HQB:=Hi (Ls km);clear kl0 hg;go_upto_region 4 with fail;have Lkl:=Ls kl;have Lkm:=Ls km;have Lkp1:=Ls kp1;refine ZP0 [0,1,3,4] ?_;refine Zv ?_;refine Zd ?_;refine Za alKey fun p5 hp5=> ?_;refine Zt ?_;refine TD.nil (fun w3 hr=> ?_);replace kl:=hr.q kl;replace km:=hr.q km;replace kp1:=hr.q kp1;obtain⟨gp5,kp5⟩:=hr.b p5;have HM4:Hid (Mod (fun j=>j=q) w2 w3):=Hi (hm.then0 hr.mod);have hp5:p5≠q:=by have:=HQB.out;omega
   clear hr he hle kl hm;obtain⟨c,hc⟩:∃c,(lkp k (cntM (x.ks.l.take i))).getD 0=c:=⟨_,rfl⟩;have hcb:c≤1000000:=by
    rw[←hc,cntM_lkp];split
    ·have h1:=List.count_le_length (a:=k) (l:=x.ks.l.take i);have h2:=List.length_take_le i x.ks.l;simp only[zE];omega
    ·simp
   have hwr:IntKind.i64.wrap ((c:Int)+1)=((c+1:Nat):Int):=by rw[IntKind.wrap_i64];omega
   have HT1:Hid (cntM (x.ks.l.take (i+1))=put k (c+1) (cntM (x.ks.l.take i))):=Hi (by rw[List.take_add_one,hk,←hc];exact cntM_snoc _ _);have hlk:∀wq es cl,wq.heap[q]? =some (.map es cl)→MapIs kv nv es cl (cntM (x.ks.l.take i))∨MapIs kv nv es cl (put k c (cntM (x.ks.l.take i)))→(Instr.lookup 148 (.map (some q)) (.agg (kc k)) false).run Tryz.prog wq= .ok (.int .i64 (c:Int)) wq:=fun wq es cl hq hM=>by
    rcases hM with hM|hM
    ·have:=hM.lookupD keyTR Tryz.underlying148 (z:=0) nv_zero wq hq k;rw[hc]at this;exact this
    ·have:=hM.lookupD keyTR Tryz.underlying148 (z:=0) nv_zero wq hq k;rw[lkp_put_same,zE]at this;exact this
   have HLK:=Hi hlk;have hen:=fun(wq:World) (hq:wq.heap[q]? =some (.map es1 cl1))=>HM.out.entry keyTR Tryz.underlying148 (z:=0) nv_zero wq hq k;simp only[hc]at hen;have HEN:=Hi hen;clear hlk hen hc hk ha;go_upto_region 5 with fail;have Lkp5:=Ls kp5;have Lkm:=Ls km;have Lkp1:=Ls kp1;refine wp_xpass (T0:=fun _=>False) (K:=fun _ _=>True) (κ:=fun i=>[0,0,6,0,6,0,6].getD i 0) (υ:=fun _=>[]) [0,1] [2,3,4,5,6] (by kernel_rfl) (by kernel_rfl) (Good.true).cl (trivial) (fun _ h=>h.elim) ?_;have gK:=Good.true;refine Zg ?_;refine Zh ?_;refine TG.nil (fun w6 ⟨TR,hr⟩=> ?_);replace kp5:=hr.q kp5;replace km:=hr.q km;replace kp1:=hr.q kp1;clear gK;have HM6:=Hi (HM4.out.then0 hr.mod);obtain⟨st,es2,cl2,hrE,M2,hF⟩:=HEN.out w6 km;have hl6:=HLK.out w6 _ _ km (.inl HM.out);have km7:=heap_setBlock w6 (.map es2 cl2) (Ls km);have mS7:=mod_set w6 q (.map es2 cl2);generalize setBlock w6 q (.map es2 cl2)=w7 at *;have hl7:=HLK.out w7 _ _ km7 (.inr M2);obtain⟨es3,cl3,hrF,M3⟩:=hF w7 (c+1) km7;have km8:=heap_setBlock w7 (.map es3 cl3) (Ls km7);have mS8:=mod_set w7 q (.map es3 cl3);generalize setBlock w7 q (.map es3 cl3)=w8 at *;have HEND:Hid ((∃es cl,w8.heap[q]? =some (.map es cl)∧Hid (MapIs kv nv es cl (cntM (x.ks.l.take (i+1)))))∧Mod (fun j=>j=q) w2 w8):=Hi ⟨⟨_,_,km8,Hi (by rw[HT1.out];exact M3)⟩,(HM6.out.then mS7 (fun _ _ h=>h)).then mS8 (fun _ _ h=>h)⟩;simp only[nv]at hrE hrF;(intro iA hiA hbA;simp only[List.mem_cons,List.not_mem_nil,or_false]at hiA;rcases hiA with rfl|rfl|rfl|rfl|rfl)
   ·clear hbA;(refine eff_look (by simp only[zK];rfl) (by rfl) rfl ?hx9 ?hz9 (by first|exact hl6|exact hl7) ?n9;(case hx9=>simp only[zM];try rfl);(case hz9=>simp only[zM];try rfl);try simp only[zL]);rw[show([2,3,4,5,6]:List Nat).erase 2=[3,4,5,6]from rfl];(intro iA hiA hbA;simp only[List.mem_cons,List.not_mem_nil,or_false]at hiA;rcases hiA with rfl|rfl|rfl|rfl)
    ·clear hbA;refine Zw ?_;rw[show([3,4,5,6]:List Nat).erase 3=[4,5,6]from rfl];(intro iA hiA hbA;simp only[List.mem_cons,List.not_mem_nil,or_false]at hiA;rcases hiA with rfl|rfl|rfl)
     ·clear hbA;(refine eff_entry (by simp only[zK];rfl) (by rfl) rfl ?hx11 ?hz11 hrE ?n11;(case hx11=>simp only[zM];try rfl);(case hz11=>simp only[zM];try rfl);try simp only[zL]);rw[show([4,5,6]:List Nat).erase 4=[5,6]from rfl];(intro iA hiA hbA;simp only[List.mem_cons,List.not_mem_nil,or_false]at hiA;rcases hiA with rfl|rfl)
      ·clear hbA;refine Zw ?_;rw[show([5,6]:List Nat).erase 5=[6]from rfl];(intro iA hiA hbA;simp only[List.mem_cons,List.not_mem_nil,or_false]at hiA;subst hiA)
       ·clear hbA;(refine eff_estore (by simp only[zK];rfl) (by rfl) rfl ?hx13 ?hz13 ?hv13 hrF ?n13;(case hx13=>simp only[zM];try rfl);(case hz13=>simp only[zM];try rfl);(case hv13=>(simp only[zM];(try rfl)));try simp only[zL]);rw[show([6]:List Nat).erase 6=[]from rfl];refine allE_nil ?_;go_wp2_with fail;go_roundw;(exact⟨i+1,by omega,by go_num,HEND.out.1,HEND.out.2⟩);(simp[intOf];omega)
      ·exact no_head (by kernel_rfl) hbA
     ·exact no_head (by kernel_rfl) hbA
     ·exact no_head (by kernel_rfl) hbA
    ·clear hbA;(refine eff_entry (by simp only[zK];rfl) (by rfl) rfl ?hx14 ?hz14 hrE ?n14;(case hx14=>simp only[zM];try rfl);(case hz14=>simp only[zM];try rfl);try simp only[zL]);rw[show([3,4,5,6]:List Nat).erase 4=[3,5,6]from rfl];(intro iA hiA hbA;simp only[List.mem_cons,List.not_mem_nil,or_false]at hiA;rcases hiA with rfl|rfl|rfl)
     ·clear hbA;refine Zw ?_;rw[show([3,5,6]:List Nat).erase 3=[5,6]from rfl];(intro iA hiA hbA;simp only[List.mem_cons,List.not_mem_nil,or_false]at hiA;rcases hiA with rfl|rfl)
      ·clear hbA;refine Zw ?_;rw[show([5,6]:List Nat).erase 5=[6]from rfl];(intro iA hiA hbA;simp only[List.mem_cons,List.not_mem_nil,or_false]at hiA;subst hiA)
       ·clear hbA;(refine eff_estore (by simp only[zK];rfl) (by rfl) rfl ?hx17 ?hz17 ?hv17 hrF ?n17;(case hx17=>simp only[zM];try rfl);(case hz17=>simp only[zM];try rfl);(case hv17=>(simp only[zM];(try rfl)));try simp only[zL]);rw[show([6]:List Nat).erase 6=[]from rfl];refine allE_nil ?_;go_wp2_with fail;go_roundw;(exact⟨i+1,by omega,by go_num,HEND.out.1,HEND.out.2⟩);(simp[intOf];omega)
      ·exact no_head (by kernel_rfl) hbA
     ·clear hbA;refine Zw ?_;rw[show([3,5,6]:List Nat).erase 5=[3,6]from rfl];(intro iA hiA hbA;simp only[List.mem_cons,List.not_mem_nil,or_false]at hiA;rcases hiA with rfl|rfl)
      ·clear hbA;refine Zw ?_;rw[show([3,6]:List Nat).erase 3=[6]from rfl];(intro iA hiA hbA;simp only[List.mem_cons,List.not_mem_nil,or_false]at hiA;subst hiA)
       ·clear hbA;(refine eff_estore (by simp only[zK];rfl) (by rfl) rfl ?hx20 ?hz20 ?hv20 hrF ?n20;(case hx20=>simp only[zM];try rfl);(case hz20=>simp only[zM];try rfl);(case hv20=>(simp only[zM];(try rfl)));try simp only[zL]);rw[show([6]:List Nat).erase 6=[]from rfl];refine allE_nil ?_;go_wp2_with fail;go_roundw;(exact⟨i+1,by omega,by go_num,HEND.out.1,HEND.out.2⟩);(simp[intOf];omega)
      ·exact no_head (by kernel_rfl) hbA
     ·exact no_head (by kernel_rfl) hbA
    ·exact no_head (by kernel_rfl) hbA
    ·exact no_head (by kernel_rfl) hbA
   ·exact no_head (by kernel_rfl) hbA
   ·clear hbA;(refine eff_entry (by simp only[zK];rfl) (by rfl) rfl ?hx21 ?hz21 hrE ?n21;(case hx21=>simp only[zM];try rfl);(case hz21=>simp only[zM];try rfl);try simp only[zL]);rw[show([2,3,4,5,6]:List Nat).erase 4=[2,3,5,6]from rfl];(intro iA hiA hbA;simp only[List.mem_cons,List.not_mem_nil,or_false]at hiA;rcases hiA with rfl|rfl|rfl|rfl)
    ·clear hbA;(refine eff_look (by simp only[zK];rfl) (by rfl) rfl ?hx22 ?hz22 (by first|exact hl6|exact hl7) ?n22;(case hx22=>simp only[zM];try rfl);(case hz22=>simp only[zM];try rfl);try simp only[zL]);rw[show([2,3,5,6]:List Nat).erase 2=[3,5,6]from rfl];(intro iA hiA hbA;simp only[List.mem_cons,List.not_mem_nil,or_false]at hiA;rcases hiA with rfl|rfl|rfl)
     ·clear hbA;refine Zw ?_;rw[show([3,5,6]:List Nat).erase 3=[5,6]from rfl];(intro iA hiA hbA;simp only[List.mem_cons,List.not_mem_nil,or_false]at hiA;rcases hiA with rfl|rfl)
      ·clear hbA;refine Zw ?_;rw[show([5,6]:List Nat).erase 5=[6]from rfl];(intro iA hiA hbA;simp only[List.mem_cons,List.not_mem_nil,or_false]at hiA;subst hiA)
       ·clear hbA;(refine eff_estore (by simp only[zK];rfl) (by rfl) rfl ?hx25 ?hz25 ?hv25 hrF ?n25;(case hx25=>simp only[zM];try rfl);(case hz25=>simp only[zM];try rfl);(case hv25=>(simp only[zM];(try rfl)));try simp only[zL]);rw[show([6]:List Nat).erase 6=[]from rfl];refine allE_nil ?_;go_wp2_with fail;go_roundw;(exact⟨i+1,by omega,by go_num,HEND.out.1,HEND.out.2⟩);(simp[intOf];omega)
      ·exact no_head (by kernel_rfl) hbA
     ·clear hbA;refine Zw ?_;rw[show([3,5,6]:List Nat).erase 5=[3,6]from rfl];(intro iA hiA hbA;simp only[List.mem_cons,List.not_mem_nil,or_false]at hiA;rcases hiA with rfl|rfl)
      ·clear hbA;refine Zw ?_;rw[show([3,6]:List Nat).erase 3=[6]from rfl];(intro iA hiA hbA;simp only[List.mem_cons,List.not_mem_nil,or_false]at hiA;subst hiA)
       ·clear hbA;(refine eff_estore (by simp only[zK];rfl) (by rfl) rfl ?hx28 ?hz28 ?hv28 hrF ?n28;(case hx28=>simp only[zM];try rfl);(case hz28=>simp only[zM];try rfl);(case hv28=>(simp only[zM];(try rfl)));try simp only[zL]);rw[show([6]:List Nat).erase 6=[]from rfl];refine allE_nil ?_;go_wp2_with fail;go_roundw;(exact⟨i+1,by omega,by go_num,HEND.out.1,HEND.out.2⟩);(simp[intOf];omega)
      ·exact no_head (by kernel_rfl) hbA
     ·exact no_head (by kernel_rfl) hbA
    ·exact no_head (by kernel_rfl) hbA
    ·clear hbA;refine Zw ?_;rw[show([2,3,5,6]:List Nat).erase 5=[2,3,6]from rfl];(intro iA hiA hbA;simp only[List.mem_cons,List.not_mem_nil,or_false]at hiA;rcases hiA with rfl|rfl|rfl)
     ·clear hbA;(refine eff_look (by simp only[zK];rfl) (by rfl) rfl ?hx30 ?hz30 (by first|exact hl6|exact hl7) ?n30;(case hx30=>simp only[zM];try rfl);(case hz30=>simp only[zM];try rfl);try simp only[zL]);rw[show([2,3,6]:List Nat).erase 2=[3,6]from rfl];(intro iA hiA hbA;simp only[List.mem_cons,List.not_mem_nil,or_false]at hiA;rcases hiA with rfl|rfl)
      ·clear hbA;refine Zw ?_;rw[show([3,6]:List Nat).erase 3=[6]from rfl];(intro iA hiA hbA;simp only[List.mem_cons,List.not_mem_nil,or_false]at hiA;subst hiA)
       ·clear hbA;(refine eff_estore (by simp only[zK];rfl) (by rfl) rfl ?hx32 ?hz32 ?hv32 hrF ?n32;(case hx32=>simp only[zM];try rfl);(case hz32=>simp only[zM];try rfl);(case hv32=>(simp only[zM];(try rfl)));try simp only[zL]);rw[show([6]:List Nat).erase 6=[]from rfl];refine allE_nil ?_;go_wp2_with fail;go_roundw;(exact⟨i+1,by omega,by go_num,HEND.out.1,HEND.out.2⟩);(simp[intOf];omega)
      ·exact no_head (by kernel_rfl) hbA
     ·exact no_head (by kernel_rfl) hbA
     ·exact no_head (by kernel_rfl) hbA
    ·exact no_head (by kernel_rfl) hbA
   ·exact no_head (by kernel_rfl) hbA
   ·exact no_head (by kernel_rfl) hbA
  ·have hd:=Df hlt;obtain rfl:n=i:=by omega
   have hl:=fun ty=>HM.out.len (P:=Tryz.prog) (ty:=ty) Tryz.underlying148 wr km;rw[List.take_of_length_le (by have:=HN.out;omega)]at hl;rw[HTT.out]at hl;have HF:Hid (Mod (fun _=>False) w wr):=Hi (HM3.out.mono (fun j h1 h2=>by have h3:j=q:=h2;omega));clear hm HM3;by_cases h0:t=n
   ·have hd1:=Dt h0;have hd2:decide ((t:Int)=(n:Int))=true:=Dt (by omega);go_wp2_with fail;go_ret;exact⟨by first|rfl|(simp[h0];done),HF.out⟩
   ·have hd1:=Df h0;have hd2:decide ((t:Int)=(n:Int))=false:=Df (by omega);go_wp2_with fail;go_ret;exact⟨by first|rfl|(simp[h0];done)|(simp[h0];omega),HF.out⟩
end
section
attribute [local go_sem↓] wlTc ldTc stTc
attribute [local go_sem] txr_size txr_all txr_one txr_one' txr0 txr38 txr39 txr0' txr38' txr39' zTx_size
attribute [local go_sem] txr2 txr5 txr2' txr5' txr_hd
abbrev fnV (f:FuncId):Value:= .func (.func f) #[] #[]
def zRule:Array Value:= #[.nilFunc,.int .i64 0]
theorem ldRule (w:World) (b o:Nat):(Instr.loadAt 118 (.pointer (some ⟨b,o,none⟩))).run Tryz.prog w=
   match w.heap[b]? with
   |some (.cells cs _ _)=>if o+2≤cs.size then .ok (.agg (cs.extract o (o+2))) w else farL Tryz.prog w 118 b o
   |_=>farL Tryz.prog w 118 b o:=load_rule (d:=_) Tryz.underlying118 rfl (by kernel_rfl) w b o
theorem stRule (w:World) (b o:Nat) (xs:Array Value):(Instr.storeAt 118 (.pointer (some ⟨b,o,none⟩)) (.agg xs)).run Tryz.prog w=
   match w.heap[b]? with
   |some (.cells cs U (0,0))=>
    if o+2≤cs.size∧xs.size=2∧xs.all (·.oneCell')=true then .ok () (setBlock w b (.cells (if o=0∧2=cs.size then xs else wr cs o xs.toList) U (0,0)))else farS Tryz.prog w 118 b o (.agg xs)
   |_=>farS Tryz.prog w 118 b o (.agg xs):=store_rule (by kernel_rfl) w b o xs
theorem alRule (w:World):(Instr.alloc 118 true (.tuple #[])).run Tryz.prog w= .ok (.pointer (some ⟨w.heap.size,0,none⟩)) (w.alloc (.cells zRule 118)):=
 run_alloc_row (z:= .agg zRule) (fun w=>by kernel_rfl) w
theorem zRule_size:zRule.size=2:=rfl
attribute [local go_sem↓] ldRule stRule
attribute [local go_sem] zRule_size
theorem bRule (f:FuncId) (n:Int) (w:World):(Instr.build 118 #[(0,fnV f),(1,.int .i64 n)]).run Tryz.prog w= .ok (.agg #[fnV f,.int .i64 n]) w:=by kernel_rfl
def rlC:Array Value:= #[fnV 66,.int .i64 6,fnV 67,.int .i64 7,fnV 68,.int .i64 10,fnV 69,.int .i64 3,fnV 70,.int .i64 8,fnV 71,.int .i64 9]
theorem bsRules (w:World):(Instr.buildSlice 119 6 #[(0,.agg #[fnV 66,.int .i64 6]),(1,.agg #[fnV 67,.int .i64 7]),(2,.agg #[fnV 68,.int .i64 10]),(3,.agg #[fnV 69,.int .i64 3]),(4,.agg #[fnV 70,.int .i64 8]),(5,.agg #[fnV 71,.int .i64 9])]).run Tryz.prog w= .ok (.slice (some ⟨w.heap.size,0,none⟩) 6 6) (w.alloc (.cells rlC 118)):=by kernel_rfl
theorem rlC_size:rlC.size=12:=rfl
theorem rlC0:rlC.extract 0 2= #[fnV 66,.int .i64 6]:=rfl
theorem rlC1:rlC.extract 2 4= #[fnV 67,.int .i64 7]:=rfl
theorem rlC2:rlC.extract 4 6= #[fnV 68,.int .i64 10]:=rfl
theorem rlC3:rlC.extract 6 8= #[fnV 69,.int .i64 3]:=rfl
theorem rlC4:rlC.extract 8 10= #[fnV 70,.int .i64 8]:=rfl
theorem rlC5:rlC.extract 10 12= #[fnV 71,.int .i64 9]:=rfl
theorem fn_one (f:FuncId):(fnV f).oneCell'=true:=rfl
theorem fn_one2 (f:FuncId):(Value.func (.func f) #[] #[]).oneCell'=true:=rfl
attribute [local go_sem] fn_one fn_one2
attribute [local go_sem] rlC_size rlC0 rlC1 rlC2 rlC3 rlC4 rlC5
def rP:Nat→TxP→Bool
 |0=>signedP
 |1=>headedP
 |2=>lookedP
 |3=>fewP
 |4=>pointedP
 |_=>onceP
theorem chk_all {x:TxP} (h:∀j,j<6→rP j x=true):chkP x=0:=by
 have h0:signedP x=true:=h 0 (by omega);have h1:headedP x=true:=h 1 (by omega);have h2:lookedP x=true:=h 2 (by omega);have h3:fewP x=true:=h 3 (by omega);have h4:pointedP x=true:=h 4 (by omega);have h5:onceP x=true:=h 5 (by omega);simp[chkP,h0,h1,h2,h3,h4,h5]
theorem chk_a {x:TxP} (h:∀j,j<0→rP j x=true) (hf:rP 0 x=false):chkP x=6:=by
 have h0:0<0→signedP x=true:=h 0;have h1:1<0→headedP x=true:=h 1;have h2:2<0→lookedP x=true:=h 2;have h3:3<0→fewP x=true:=h 3;have h4:4<0→pointedP x=true:=h 4;simp at h0 h1 h2 h3 h4;simp[rP]at hf
 simp_all[chkP]
theorem chk_b {x:TxP} (h:∀j,j<1→rP j x=true) (hf:rP 1 x=false):chkP x=7:=by
 have h0:0<1→signedP x=true:=h 0;have h1:1<1→headedP x=true:=h 1;have h2:2<1→lookedP x=true:=h 2;have h3:3<1→fewP x=true:=h 3;have h4:4<1→pointedP x=true:=h 4;simp at h0 h1 h2 h3 h4;simp[rP]at hf
 simp_all[chkP]
theorem chk_c {x:TxP} (h:∀j,j<2→rP j x=true) (hf:rP 2 x=false):chkP x=10:=by
 have h0:0<2→signedP x=true:=h 0;have h1:1<2→headedP x=true:=h 1;have h2:2<2→lookedP x=true:=h 2;have h3:3<2→fewP x=true:=h 3;have h4:4<2→pointedP x=true:=h 4;simp at h0 h1 h2 h3 h4;simp[rP]at hf
 simp_all[chkP]
theorem chk_d {x:TxP} (h:∀j,j<3→rP j x=true) (hf:rP 3 x=false):chkP x=3:=by
 have h0:0<3→signedP x=true:=h 0;have h1:1<3→headedP x=true:=h 1;have h2:2<3→lookedP x=true:=h 2;have h3:3<3→fewP x=true:=h 3;have h4:4<3→pointedP x=true:=h 4;simp at h0 h1 h2 h3 h4;simp[rP]at hf
 simp_all[chkP]
theorem chk_e {x:TxP} (h:∀j,j<4→rP j x=true) (hf:rP 4 x=false):chkP x=8:=by
 have h0:0<4→signedP x=true:=h 0;have h1:1<4→headedP x=true:=h 1;have h2:2<4→lookedP x=true:=h 2;have h3:3<4→fewP x=true:=h 3;have h4:4<4→pointedP x=true:=h 4;simp at h0 h1 h2 h3 h4;simp[rP]at hf
 simp_all[chkP]
theorem chk_f {x:TxP} (h:∀j,j<5→rP j x=true) (hf:rP 5 x=false):chkP x=9:=by
 have h0:0<5→signedP x=true:=h 0;have h1:1<5→headedP x=true:=h 1;have h2:2<5→lookedP x=true:=h 2;have h3:3<5→fewP x=true:=h 3;have h4:4<5→pointedP x=true:=h 4;simp at h0 h1 h2 h3 h4;simp[rP]at hf
 simp_all[chkP]
theorem rP_step {x:TxP} {i:Nat} (h:∀j,j<i→rP j x=true) (hi:rP i x=true):∀j,j<i+1→rP j x=true:=fun j hj=>by
 by_cases e:j=i
 ·rw[e];exact hi
 ·exact h j (by omega)
theorem check_c (x:RdR) (w:World) (h:TxRd w x):Calls Tryz.prog 25 #[.agg (txr x)] w fun e w'=>e= .returned (.int .i64 ((chkP (txP x):Nat):Int))∧Mod (fun _=>False) w w':=by
 have HX:=Hi h;clear h;obtain⟨r,hr0⟩:∃r,chkP (txP x)=r:=⟨_,rfl⟩;have hb0:=fun w=>bRule 66 6 w;have hb1:=fun w=>bRule 67 7 w;have hb2:=fun w=>bRule 68 10 w;have hb3:=fun w=>bRule 69 3 w;have hb4:=fun w=>bRule 70 8 w;have hb5:=fun w=>bRule 71 9 w;have hbs:=bsRules;clear hr0;go_enter Tryz.func25,Tryz.ntmps25;go_upto_region 0 with fail;refine ZP0 [3,0] ?_;refine Zb fun p1 hp1=> ?_;refine Zv ?_;refine TD.nil (fun w1 hr=> ?_);obtain⟨gp1,kp1⟩:=hr.b p1;have HM1:=Hi hr.mod;clear hr;go_upto_region 1 with fail;have Lkp1:=Ls kp1;refine ZP0 [0,0,0,0,0,0,3,0,0] ?_;refine Zu hb0 ?_;refine Zu hb1 ?_;refine Zu hb2 ?_;refine Zu hb3 ?_;refine Zu hb4 ?_;refine Zu hb5 ?_;refine Zy hbs fun p11 hp11=> ?_
 iterate 2 refine Zv ?_
 refine TD.nil (fun w2 hr=> ?_);replace kp1:=hr.q kp1;obtain⟨gp11,kp11⟩:=hr.b p11;have HM2:=Hi (HM1.out.then0 hr.mod);have kl:=kp11;clear hr hb0 hb1 hb2 hb3 hb4 hb5 hbs kp11;go_wp2_with fail;go_loopw [13] (fun s13 ws=>∃i:Nat,i≤6∧s13= .int .i64 (i:Int)∧Hid (∀j,j<i→rP j (txP x)=true)∧Hid (Mod (fun _=>False) w ws)∧ws.heap[p11]? =some (.cells rlC 118 (0,0))∧ws.heap[p1]? =some (.cells (txr x) 35 (0,0))) (fun s13 _=>6-(intOf s13).toNat)
 case atStart=>exact⟨0,by omega,rfl,Hi (fun j hj=>by omega),HM2,kl,kp1⟩
 case round=>
  clear kl kp1;obtain⟨i,hi,rfl,HI,HM,kl,kp1⟩:=hrel;rcases(by omega:i=0∨i=1∨i=2∨i=3∨i=4∨i=5∨i=6)with rfl|rfl|rfl|rfl|rfl|rfl|rfl
  ·
   obtain⟨b,hb⟩:∃b,signedP (txP x)=b:=⟨_,rfl⟩;have HB:=Hi hb;clear hb;go_upto_region 3 with fail;have Lkl:=Ls kl;have Lkp1:=Ls kp1;refine ZP0 [0,1,3,4] ?_;refine Zv ?_;refine Zd ?_;refine Za alRule fun p4 hp4=> ?_;refine Zt ?_;refine TD.nil (fun w3 hr=> ?_);replace kl:=hr.q kl;replace kp1:=hr.q kp1;obtain⟨gp4,kp4⟩:=hr.b p4;have HM3:=Hi (HM.out.then0 hr.mod);clear hr;go_wp2_with fail;go_at_call 66;refine(signed_c x _).mono ?_;rintro e w4 ⟨rfl,m4⟩;rw[HB.out];have HM4:=Hi (HM3.out.trans m4);replace kl:=m4.at0 kl;replace kp1:=m4.at0 kp1;replace kp4:=m4.at0 kp4;clear m4;cases b with
   |false=>
    have HE:=Hi (chk_a HI.out HB.out);go_wp2_with fail;go_ret;exact⟨by rw[HE.out];rfl,HM4.out⟩
   |true=>
    have HI2:=Hi (rP_step HI.out HB.out);go_wp2_with fail;go_roundw
    case rel=>exact⟨1,by omega,by go_num,HI2,HM4,kl,kp1⟩
    case measure=>simp[intOf]
  ·
   obtain⟨b,hb⟩:∃b,headedP (txP x)=b:=⟨_,rfl⟩;have HB:=Hi hb;clear hb;go_upto_region 3 with fail;have Lkl:=Ls kl;have Lkp1:=Ls kp1;refine ZP0 [0,1,3,4] ?_;refine Zv ?_;refine Zd ?_;refine Za alRule fun p4 hp4=> ?_;refine Zt ?_;refine TD.nil (fun w3 hr=> ?_);replace kl:=hr.q kl;replace kp1:=hr.q kp1;obtain⟨gp4,kp4⟩:=hr.b p4;have HM3:=Hi (HM.out.then0 hr.mod);clear hr;go_wp2_with fail;go_at_call 67;refine(headed_c x _).mono ?_;rintro e w4 ⟨rfl,m4⟩;rw[HB.out];have HM4:=Hi (HM3.out.trans m4);replace kl:=m4.at0 kl;replace kp1:=m4.at0 kp1;replace kp4:=m4.at0 kp4;clear m4;cases b with
   |false=>
    have HE:=Hi (chk_b HI.out HB.out);go_wp2_with fail;go_ret;exact⟨by rw[HE.out];rfl,HM4.out⟩
   |true=>
    have HI2:=Hi (rP_step HI.out HB.out);go_wp2_with fail;go_roundw
    case rel=>exact⟨2,by omega,by go_num,HI2,HM4,kl,kp1⟩
    case measure=>simp[intOf]
  ·
   obtain⟨b,hb⟩:∃b,lookedP (txP x)=b:=⟨_,rfl⟩;have HB:=Hi hb;clear hb;go_upto_region 3 with fail;have Lkl:=Ls kl;have Lkp1:=Ls kp1;refine ZP0 [0,1,3,4] ?_;refine Zv ?_;refine Zd ?_;refine Za alRule fun p4 hp4=> ?_;refine Zt ?_;refine TD.nil (fun w3 hr=> ?_);replace kl:=hr.q kl;replace kp1:=hr.q kp1;obtain⟨gp4,kp4⟩:=hr.b p4;have HM3:=Hi (HM.out.then0 hr.mod);clear hr;go_wp2_with fail;go_at_call 68;refine(looked_c x _ (HX.out.mod0 HM3.out)).mono ?_;rintro e w4 ⟨rfl,m4⟩;rw[HB.out];have HM4:=Hi (HM3.out.trans m4);replace kl:=m4.at0 kl;replace kp1:=m4.at0 kp1;replace kp4:=m4.at0 kp4;clear m4;cases b with
   |false=>
    have HE:=Hi (chk_c HI.out HB.out);go_wp2_with fail;go_ret;exact⟨by rw[HE.out];rfl,HM4.out⟩
   |true=>
    have HI2:=Hi (rP_step HI.out HB.out);go_wp2_with fail;go_roundw
    case rel=>exact⟨3,by omega,by go_num,HI2,HM4,kl,kp1⟩
    case measure=>simp[intOf]
  ·
   obtain⟨b,hb⟩:∃b,fewP (txP x)=b:=⟨_,rfl⟩;have HB:=Hi hb;clear hb;go_upto_region 3 with fail;have Lkl:=Ls kl;have Lkp1:=Ls kp1;refine ZP0 [0,1,3,4] ?_;refine Zv ?_;refine Zd ?_;refine Za alRule fun p4 hp4=> ?_;refine Zt ?_;refine TD.nil (fun w3 hr=> ?_);replace kl:=hr.q kl;replace kp1:=hr.q kp1;obtain⟨gp4,kp4⟩:=hr.b p4;have HM3:=Hi (HM.out.then0 hr.mod);clear hr;go_wp2_with fail;go_at_call 69;refine(few_c x _ (HX.out.mod0 HM3.out)).mono ?_;rintro e w4 ⟨rfl,m4⟩;rw[HB.out];have HM4:=Hi (HM3.out.trans m4);replace kl:=m4.at0 kl;replace kp1:=m4.at0 kp1;replace kp4:=m4.at0 kp4;clear m4;cases b with
   |false=>
    have HE:=Hi (chk_d HI.out HB.out);go_wp2_with fail;go_ret;exact⟨by rw[HE.out];rfl,HM4.out⟩
   |true=>
    have HI2:=Hi (rP_step HI.out HB.out);go_wp2_with fail;go_roundw
    case rel=>exact⟨4,by omega,by go_num,HI2,HM4,kl,kp1⟩
    case measure=>simp[intOf]
  ·
   obtain⟨b,hb⟩:∃b,pointedP (txP x)=b:=⟨_,rfl⟩;have HB:=Hi hb;clear hb;go_upto_region 3 with fail;have Lkl:=Ls kl;have Lkp1:=Ls kp1;refine ZP0 [0,1,3,4] ?_;refine Zv ?_;refine Zd ?_;refine Za alRule fun p4 hp4=> ?_;refine Zt ?_;refine TD.nil (fun w3 hr=> ?_);replace kl:=hr.q kl;replace kp1:=hr.q kp1;obtain⟨gp4,kp4⟩:=hr.b p4;have HM3:=Hi (HM.out.then0 hr.mod);clear hr;go_wp2_with fail;go_at_call 70;refine(pointed_c x _ (HX.out.mod0 HM3.out)).mono ?_;rintro e w4 ⟨rfl,m4⟩;rw[HB.out];have HM4:=Hi (HM3.out.trans m4);replace kl:=m4.at0 kl;replace kp1:=m4.at0 kp1;replace kp4:=m4.at0 kp4;clear m4;cases b with
   |false=>
    have HE:=Hi (chk_e HI.out HB.out);go_wp2_with fail;go_ret;exact⟨by rw[HE.out];rfl,HM4.out⟩
   |true=>
    have HI2:=Hi (rP_step HI.out HB.out);go_wp2_with fail;go_roundw
    case rel=>exact⟨5,by omega,by go_num,HI2,HM4,kl,kp1⟩
    case measure=>simp[intOf]
  ·
   obtain⟨b,hb⟩:∃b,onceP (txP x)=b:=⟨_,rfl⟩;have HB:=Hi hb;clear hb;go_upto_region 3 with fail;have Lkl:=Ls kl;have Lkp1:=Ls kp1;refine ZP0 [0,1,3,4] ?_;refine Zv ?_;refine Zd ?_;refine Za alRule fun p4 hp4=> ?_;refine Zt ?_;refine TD.nil (fun w3 hr=> ?_);replace kl:=hr.q kl;replace kp1:=hr.q kp1;obtain⟨gp4,kp4⟩:=hr.b p4;have HM3:=Hi (HM.out.then0 hr.mod);clear hr;go_wp2_with fail;go_at_call 71;refine(once_c x _ (HX.out.mod0 HM3.out)).mono ?_;rintro e w4 ⟨rfl,m4⟩;rw[HB.out];have HM4:=Hi (HM3.out.trans m4);replace kl:=m4.at0 kl;replace kp1:=m4.at0 kp1;replace kp4:=m4.at0 kp4;clear m4;cases b with
   |false=>
    have HE:=Hi (chk_f HI.out HB.out);go_wp2_with fail;go_ret;exact⟨by rw[HE.out];rfl,HM4.out⟩
   |true=>
    have HI2:=Hi (rP_step HI.out HB.out);go_wp2_with fail;go_roundw
    case rel=>exact⟨6,by omega,by go_num,HI2,HM4,kl,kp1⟩
    case measure=>simp[intOf]
  ·have HE:=Hi (chk_all HI.out);go_wp2_with fail;go_ret;exact⟨by rw[HE.out];rfl,HM.out⟩
end
section
attribute [local go_sem↓] wlTc ldTc stTc
attribute [local go_sem] txr_size txr_all txr_one txr_one' txr0 txr38 txr39 txr0' txr38' txr39' zTx_size
attribute [local go_sem] txr2 txr5 txr2' txr5' txr_hd zTc_size zTc_ext zTc_all zTc_all0
theorem results_ct {P:Program} {fn:Func} {t1 t2:Tmp} {T1:TypeId} {tmps:Array Value} {p1:Addr} {v1:Value} {w:World} (h:fn.results= #[.cell t1 T1,.tmp t2])
  (h1:tmps.getD t1 undef= .pointer (some p1)) (k1:(Instr.loadAt T1 (.pointer (some p1))).run P w= .ok v1 w):(results fn tmps).run P w= .ok (.tuple #[v1,tmps.getD t2 undef]) w:=by
 have l1:(loadVar T1 p1).run P w= .ok v1 w:=by simpa[Instr.loadAt,Instr.sureAddr] using k1
 unfold results;rw[h];have hmap:∀ {α β:Type} (f:α→β) (x:Sem α) (w:World),(f<$>x).run P w=(x.run P w).andThen fun a w=> .ok (f a) w:=fun f x w=>by
  show(x>>=fun a=>pure (f a)).run P w=_;rw[Sem.run_bind];rfl
 simp only[List.mapM_toArray,List.mapM_cons,List.mapM_nil,h1,asAddr,Sem.run_bind,hmap,Sem.run_pure,Result.andThen_ok,l1];rfl
theorem wP_ne (l:List UInt8) (n:Nat) (h:wholeP l= .error n):n≠0:=by
 unfold wholeP at h;split at h
 ·cases h;decide
 ·split at h
  ·rename_i e he;cases h;intro e0;subst e0;exact NE.tx l he
  ·split at h
   ·cases h;decide
   ·cases h
def WhoP (w:World) (l:List UInt8) (e:Ending) (w':World):Prop:=Mod (fun _=>False) w w'∧match wholeP l with
 | .ok x=>∃r,e= .returned (.tuple #[.agg (txr r),i64n 0])∧TxO w.heap.size w' r∧txP r=x∧TxB x
 | .error n=>e= .returned (.tuple #[.agg zTc,i64n n])
theorem whole_c {a:Option Addr} {l:List UInt8} {c:Nat} (w:World) (hl:SlAt uc 1 w a l) (hc:l.length≤c) (hn:a=none→c=0) (hln:l.length≤900000) (hin:∀x,a=some x→x.block<w.heap.size):
  Calls Tryz.prog 54 #[.slice a l.length c] w (WhoP w l):=by
 have HG:=Hi (fun w1 (m:Mod (fun _=>False) w w1)=>pget_c (c:=c) w1 (hl.mod0 m) hc hn hln (by intro x h;exact Nat.lt_of_lt_of_le (hin x h) m.size));have hG:=HG.out;obtain⟨ll,hll⟩:∃ll,l.length=ll:=⟨_,rfl⟩;rw[hll]at hG;have HG2:=Hi hG;have HL:=Hi hll;rw[hll];have hbt:=bTx0;have ha1:=alTx;clear hl hc hn hln hin hG HG hll;go_enter Tryz.func54,Tryz.ntmps54;go_upto_region 0 with fail;refine ZP0 [3,0] ?_;refine Za alTc fun p2 hp2=> ?_;refine Zv ?_;refine TD.nil (fun w1 hr=> ?_);obtain⟨gp2,kp2⟩:=hr.b p2;have HM1:=Hi hr.mod;clear hr;by_cases hbig:1232<ll
 ·have HE:Hid (wholeP l= .error 3):=Hi (by unfold wholeP;rw[if_pos (by rw[HL.out];exact hbig)]);go_upto_region 2 with fail;have Lkp2:=Ls kp2;refine ZP0 [0,5,0] ?_;refine Zu hbt ?_;refine Zi fun w2 hr=> ?_;replace kp2:=hr.q kp2;have HM8:=Hi (HM1.out.then0 hr.mod);clear hr;refine ZS ?_;refine ZM kp2 fun wn kp2 mS=> ?_;have HM9:=Hi (HM8.out.thenB mS (.inl gp2));clear mS;refine Ze ?_;refine TE.nil ?_;go_wp2_with fail;refine bodyPost_ret (results_ct rfl rfl (ldTcZ kp2)) rfl ?_;unfold WhoP;rw[HE.out];exact⟨HM9.out,rfl⟩
 ·have hd1:=Df hbig;have hG:=HG2.out w1 HM1.out;go_upto_region 3 with fail;refine region_seq 10 rfl ?_;simp only[List.range,List.range.loop];refine Zq ?_;refine ZC hG ?hout (fun vn wn hR=> ?hret) (fun ch wn hR=> ?hpan)
  case hout=>
   intro w' h;unfold PgetP at h;split at h
   ·obtain⟨_,_,h,_⟩:=h;cases h
   ·cases h.2
  case hpan=>
   exfalso;unfold PgetP at hR;split at hR
   ·obtain⟨_,_,h,_⟩:=hR;cases h
   ·cases hR.2
  case hret=>
  obtain⟨hm,hr⟩:=hR;clear hG;have HM3:=Hi (HM1.out.trans hm);have HP2:=Hi (Ls kp2);replace kp2:=hm.at0 kp2;cases hres:pTx l with
  |error e0=>
   rw[hres]at hr;simp only at hr;cases hr;have he0:((e0:Int) !=0)=true:=by
    have h1:=NE.tx l;rw[NE,hres]at h1;simpa using fun e=>h1 (by rw[e])
   have HE:Hid (wholeP l= .error e0):=Hi (by unfold wholeP;rw[if_neg (by rw[HL.out];exact hbig),hres]);clear hm hres;(try simp only[zL]);obtain⟨w4,rfl⟩:∃w4:World,w4=wn:=⟨_,rfl⟩
   iterate 4 refine Zq ?_
   (refine sq_alloc (by simp only[zK];rfl) (by rfl) rfl alTx (fun p4 wn gp4 kp4 mp4=> ?n13);try simp only[zL]);refine ZT ?_;refine ZQ kp4 fun wn kp4 mS=> ?_
   iterate 2 refine Zq ?_
   refine sq_nil ?_;have HM5:Hid (Mod (fun _=>False) w wn):=Hi ((HM3.out.trans mp4).then mS (fun i hi e=>by have:=HM3.out.size;omega));have hp24:p2<w4.heap.size:=Ls kp2;have kp2':wn.heap[p2]? =some (.cells zTc 35 (0,0)):=mS.at (mp4.at0 kp2) (fun e=>by omega);have kp2:=kp2';clear mS mp4 kp4 kp2' hp24 gp4;obtain⟨w5,rfl⟩:∃w5:World,w5=wn:=⟨_,rfl⟩;go_upto_region 5 with fail;have Lkp2:=Ls kp2;refine ZP0 [0,0,5,0] ?_;refine Zu hbt ?_;refine Zv ?_;refine Zi fun w6 hr=> ?_;replace kp2:=hr.q kp2;have HM8:=Hi (HM5.out.then0 hr.mod);clear hr;refine ZS ?_;refine ZM kp2 fun wn kp2 mS=> ?_;have HM9:=Hi (HM8.out.thenB mS (.inl gp2));clear mS;refine Ze ?_;refine TE.nil ?_;go_wp2_with fail;refine bodyPost_ret (results_ct rfl rfl (ldTcZ kp2)) rfl ?_;unfold WhoP;rw[HE.out];exact⟨HM9.out,rfl⟩
  |ok y=>
   obtain⟨x,k⟩:=y;rw[hres]at hr;obtain⟨v,hv0,hv,hk1⟩:=hr;cases hv0;obtain⟨r,rfl,hrx,hO⟩:=hv.toO;have HB:=Hi (PO.tx x k hres).2;have HO:=Hi hO;have HRX:=Hi hrx;have HK:Hid (k≤ll):=Hi (by rw[←HL.out];exact hk1);clear hm hO hrx hv hk1;(try simp only[zL]);obtain⟨w4,rfl⟩:∃w4:World,w4=wn:=⟨_,rfl⟩
   iterate 4 refine Zq ?_
   (refine sq_alloc (by simp only[zK];rfl) (by rfl) rfl alTx (fun p4 wn gp4 kp4 mp4=> ?n26);try simp only[zL]);refine ZT ?_;refine ZQ kp4 fun wn kp4 mS=> ?_
   iterate 2 refine Zq ?_
   refine sq_nil ?_;replace kp4:wn.heap[p4]? =some (.cells (txr r) 35 (0,0)):=kp4;have m4:Mod (fun _=>False) w4 wn:=mp4.then mS (fun i hi e=>by omega);have HM5:=Hi (HM3.out.trans m4);have HO5:=Hi (HO.out.mod0 m4);have kp2':=m4.at0 kp2;clear kp2;have kp2:=kp2';clear mS mp4 kp2' gp4 m4;obtain⟨w5,rfl⟩:∃w5:World,w5=wn:=⟨_,rfl⟩;by_cases hk:k<ll
   ·have HE:Hid (wholeP l= .error 4):=Hi (by unfold wholeP;rw[if_neg (by rw[HL.out];exact hbig),hres];simp only;rw[if_pos (by rw[HL.out];exact hk)]);clear hres;go_upto_region 7 with fail;have Lkp2:=Ls kp2;refine ZP0 [0,5,0] ?_;refine Zu hbt ?_;refine Zi fun w6 hr=> ?_;replace kp2:=hr.q kp2;have HM8:=Hi (HM5.out.then0 hr.mod);clear hr;refine ZS ?_;refine ZM kp2 fun wn kp2 mS=> ?_;have HM9:=Hi (HM8.out.thenB mS (.inl gp2));clear mS;refine Ze ?_;refine TE.nil ?_;go_wp2_with fail;refine bodyPost_ret (results_ct rfl rfl (ldTcZ kp2)) rfl ?_;unfold WhoP;rw[HE.out];exact⟨HM9.out,rfl⟩
   ·have HE:Hid (wholeP l= .ok x):=Hi (by unfold wholeP;rw[if_neg (by rw[HL.out];exact hbig),hres];simp only;rw[if_neg (by rw[HL.out];exact hk)]);have hd5:=Df hk;clear hres;go_upto_region 8 with fail;have Lkp2:=Ls kp2;have Lkp4:=Ls kp4;refine ZP0 [1,5,0] ?_;refine Zd ?_;refine Zi fun w6 hr=> ?_;replace kp2:=hr.q kp2;replace kp4:=hr.q kp4;have HM8:=Hi (HM5.out.then0 hr.mod);have HO6:=Hi (HO5.out.mod0 hr.mod);clear hr;refine ZS ?_;refine ZM kp2 fun wn kp2 mS=> ?_;have HM9:=Hi (HM8.out.thenB mS (.inl gp2));have HO9:=Hi ((HO6.out.mod mS (Apt.below (fun i e=>by have e':i=p2:=e;have:=HP2.out;omega))).base HM1.out.size);clear mS;refine Ze ?_;refine TE.nil ?_;go_wp2_with fail;refine bodyPost_ret (results_ct rfl rfl (ldTxr kp2)) rfl ?_;unfold WhoP;rw[HE.out];exact⟨HM9.out,r,rfl,HO9.out,HRX.out,HB.out⟩
end
section
attribute [local go_sem↓] wlTc ldTc stTc
attribute [local go_sem] txr_size txr_all txr_one txr_one' txr0 txr38 txr39 txr0' txr38' txr39' zTx_size
attribute [local go_sem↓] ldRole stRole
attribute [local go_sem] zRole_size
theorem kx_take (k:Key) (xs:List Value):(kx k xs).toList.take 32=(kc k).toList:=by
 unfold kx;rw[Array.toList_append,List.take_append_of_le_length (by simp)];exact List.take_of_length_le (by simp)
theorem kx_drop (k:Key) (xs:List Value) (j:Nat):(kx k xs).toList.drop (32+j)=xs.drop j:=by
 unfold kx;rw[Array.toList_append,List.drop_append,List.drop_eq_nil_of_le (by simp),List.nil_append];simp
theorem lits_bool (b:Bool) (d:Nat):Tryz.prog.keyLits (d+1) 4 [Value.bool b]=some [.bool b]:=by
 unfold Program.keyLits;rw[Tryz.underlying4]
theorem bool_cells:Tryz.prog.cellsOf 4=1:=by kernel_rfl
theorem role_cells:Tryz.prog.cellsOf 91=34:=by kernel_rfl
theorem role_lits (r:Role) (d:Nat):∃l,Tryz.prog.keyLits (d+3) 91 (rcr r).toList=some l:=by
 obtain⟨l,hl⟩:=keyIs.lits r.k d;unfold Program.keyLits;rw[Tryz.underlying91];simp only[rcr,rc,role_cells];rw[if_pos ⟨by rw[Array.length_toList];exact kx_size _ _,by kernel_rfl⟩];have h1:=kx_take r.k [.bool r.s,.bool r.w];have h2:=kx_drop r.k [.bool r.s,.bool r.w] 0;have h3:=kx_drop r.k [.bool r.s,.bool r.w] 1;simp only[Nat.add_zero,List.drop_zero,List.drop_succ_cons]at h2 h3;simp only[List.mapM_cons,List.mapM_nil,keyIs.cK,bool_cells,List.drop_zero,h1,hl,h2,h3,List.take_succ_cons,List.take_zero,lits_bool r.s (d+1),lits_bool r.w (d+1)];exact⟨_,rfl⟩
theorem eq_struct3 {T:TypeId} (hk:Tryz.prog.keyTypeAt 3 T=true) (ht:Tryz.prog.tiled 3 T=true) {x y:Array Value} {lx ly:List Lit} (fx:(Value.agg x).formed Tryz.prog T=true) (fy:(Value.agg y).formed Tryz.prog T=true)
  (hx:Tryz.prog.keyLits 3 T x.toList=some lx) (hy:Tryz.prog.keyLits 3 T y.toList=some ly) (w:World):∃r:Bool,(Op.equalIn 10000 T (.agg x) (.agg y)).run Tryz.prog w= .ok r w∧(r=true↔x=y):=by
 obtain⟨r,hr,hiff⟩:=run_equalIn_deep (P:=Tryz.prog) 9997 3 T hk w 3 3 (.agg x) (.agg y) lx ly fx fy hx hy;refine⟨r,hr,hiff.trans ⟨fun e=> ?_,fun e=> ?_⟩⟩
 ·have h1:=cells_of_lits 3 T ht 3 _ _ hx;have h2:=cells_of_lits 3 T ht 3 _ _ hy;rw[e,←h2]at h1;exact Array.toList_inj.1 h1
 ·subst e;rw[hx]at hy;exact Option.some.inj hy
theorem eqRole1 (x:Role) (w:World):(Op.equalIn 10000 91 (.agg (rcr x)) (.agg (rcr x))).run Tryz.prog w= .ok true w:=by
 obtain⟨lx,hx⟩:=role_lits x 0;have hat:Tryz.prog.keyTypeAt 3 91=true:=by kernel_rfl
 have hti:Tryz.prog.tiled 3 91=true:=by kernel_rfl
 have hf:(Value.agg (rcr x)).formed Tryz.prog 91=true:=by
  simp[Value.formed,Tryz.underlying91,role_cells,rcr,rc_size]
 obtain⟨r,hr,hiff⟩:=eq_struct3 hat hti hf hf hx hx w;rw[hr,hiff.2 rfl]
theorem rcr_size (x:Role):(rcr x).size=34:=rc_size _ _ _
theorem rcr_one0 (x:Role):(rcr x).all (·.oneCell') 0 34=true:=rc_one _ _ _
end
section
theorem wr_get (vs:List Value) (cs:Array Value) (o:Nat) (h:o+vs.length≤cs.size) (t:Nat):(wr cs o vs)[t]? =if o≤t∧t<o+vs.length then vs[t-o]? else cs[t]? :=by
 rw[←Array.getElem?_toList,wr_list vs cs o h];have hl:cs.toList.length=cs.size:=Array.length_toList;by_cases h1:t<o
 ·rw[if_neg (by omega),List.append_assoc,List.getElem?_append_left (by rw[List.length_take];omega),List.getElem?_take,if_pos h1,Array.getElem?_toList]
 ·by_cases h2:t<o+vs.length
  ·rw[if_pos ⟨by omega,h2⟩,List.append_assoc,List.getElem?_append_right (by rw[List.length_take];omega),List.length_take,Nat.min_eq_left (by omega),List.getElem?_append_left (by omega)]
  ·rw[if_neg (by omega),List.getElem?_append_right (by rw[List.length_append,List.length_take];omega),List.length_append,List.length_take,Nat.min_eq_left (by omega),List.getElem?_drop,Array.getElem?_toList];congr 1;omega
theorem row_set {α:Type} {f:α→Array Value} {n o i:Nat} {C:Array Value} {l:List α} (hs:∀x,(f x).size=n) (hrow:∀j y,l[j]? =some y→C.extract (o+j*n) (o+j*n+n)=f y∧o+j*n+n≤C.size) (hi:i<l.length) (x:α):
  ∀j y,(l.set i x)[j]? =some y→(wr C (o+i*n) (f x).toList).extract (o+j*n) (o+j*n+n)=f y∧o+j*n+n≤(wr C (o+i*n) (f x).toList).size:=by
 intro j y hy;have hfl:(f x).toList.length=n:=by rw[Array.length_toList,hs]
 have hii:=(hrow i _ (List.getElem?_eq_getElem hi)).2;rw[wr_size];have hget:=fun t=>wr_get (f x).toList C (o+i*n) (by rw[hfl];exact hii) t;rw[hfl]at hget;by_cases hj:j=i
 ·subst hj;rw[List.getElem?_set_self hi]at hy;cases hy;refine⟨?_,hii⟩;apply Array.ext_getElem?;intro t;rw[Array.getElem?_extract,wr_size];by_cases ht:t<n
  ·rw[if_pos (by omega),hget,if_pos (by omega),Nat.add_sub_cancel_left,Array.getElem?_toList]
  ·rw[if_neg (by omega),Array.getElem?_eq_none (by rw[hs];omega)]
 ·rw[List.getElem?_set_ne (fun e=>hj e.symm)]at hy;obtain⟨h1,h2⟩:=hrow j y hy;refine⟨?_,h2⟩;rw[←h1];apply Array.ext_getElem?;intro t;rw[Array.getElem?_extract,Array.getElem?_extract,wr_size];by_cases ht:t<n
  ·rw[if_pos (by omega),if_pos (by omega),hget,if_neg];intro hh;rcases Nat.lt_or_ge j i with h|h
   ·have:(j+1)*n≤i*n:=Nat.mul_le_mul_right _ h;rw[Nat.add_mul,Nat.one_mul]at this;omega
   ·have:(i+1)*n≤j*n:=Nat.mul_le_mul_right _ (by omega);rw[Nat.add_mul,Nat.one_mul]at this;omega
  ·rw[if_neg (by omega),if_neg (by omega)]
theorem ite_wr {xs cs:Array Value} {o n:Nat} (h:xs.size=n):(if o=0∧n=cs.size then xs else wr cs o xs.toList)=wr cs o xs.toList:=by
 split
 ·rename_i hh;obtain⟨rfl,h2⟩:=hh;rw[wr_whole _ _ (by omega)]
 ·rfl
theorem ite_wr2 {xs cs:Array Value} {o k n:Nat} (h:xs.size=n):(if(o=0∧k=0)∧n=cs.size then xs else wr cs (o+k) xs.toList)=wr cs (o+k) xs.toList:=by
 split
 ·rename_i hh;obtain⟨⟨rfl,rfl⟩,h2⟩:=hh;rw[Nat.zero_add,wr_whole _ _ (by omega)]
 ·rfl
theorem set_repG {α:Type} {h:α} {l:List α} {i:Nat} (hi:i<l.length):(List.replicate i h++l.drop i).set i h=List.replicate (i+1) h++l.drop (i+1):=by
 rw[List.set_append_right _ _ (by simp),List.length_replicate,Nat.sub_self,List.drop_eq_getElem_cons hi,zG,List.replicate_succ'];simp
def WAtG {α:Type} (f:α→Array Value) (n:Nat) (w:World) (a:Option Addr) (l:List α):Prop:=l=[]∨∃b o C U,a=some ⟨b,o,none⟩∧w.heap[b]? =some (.cells C U (0,0))∧∀j y,l[j]? =some y→C.extract (o+j*n) (o+j*n+n)=f y∧o+j*n+n≤C.size
section
variable {α:Type} {f:α→Array Value} {n:Nat}
theorem WAtG.sl {w:World} {a:Option Addr} {l:List α} (h:WAtG f n w a l):SlAt f n w a l:=by
 rcases h with h|⟨b,o,C,U,h1,h2,h3⟩
 ·exact .inl h
 ·exact .inr ⟨b,o,C,_,_,h1,h2,h3⟩
theorem WAtG.mod {w w':World} {a:Option Addr} {l:List α} {S:Nat→Prop} (h:WAtG f n w a l) (hm:Mod S w w') (hS:∀b o,a=some ⟨b,o,none⟩→¬S b):WAtG f n w' a l:=by
 rcases h with h|⟨b,o,C,U,h1,h2,h3⟩
 ·exact .inl h
 ·exact .inr ⟨b,o,C,U,h1,hm.at h2 (hS b o h1),h3⟩
theorem WAtG.of {E:TypeId} {b:Nat} {w:World} {a:Option Addr} {m c:Nat} {l:List α} (h:NewS f n E b w (.slice a m c) l):WAtG f n w a l:=by
 rcases h with⟨_,h⟩|⟨g,cur,h1,_,h2,h3⟩
 ·exact .inl h
 ·injection h1 with h1 _ _
  exact .inr ⟨g,0,cur,E,h1,h2,fun j y hy=>by simpa using h3 j y hy⟩
end
def InAd (a:Option Addr) (i:Nat):Prop:=∃o,a=some ⟨i,o,none⟩
inductive Pg
 |y (a:Option Addr) (n:Nat) (h f:UInt8)
 |k (a:Option Addr) (n:Nat) (h f:Key)
 |s (a:Option Addr) (n:Nat) (h f:Sg)
 |r (a:Option Addr) (n:Nat) (h f:Role)
 |z (a:Option Addr) (n c:Nat) (h f:UInt8)
def Pg.a:Pg→Option Addr
 | .y a _ _ _=>a
 | .k a _ _ _=>a
 | .s a _ _ _=>a
 | .r a _ _ _=>a
 | .z a _ _ _ _=>a
def Pg.n:Pg→Nat
 | .y _ n _ _=>n
 | .k _ n _ _=>n
 | .s _ n _ _=>n
 | .r _ n _ _=>n
 | .z _ n _ _ _=>n
def shy (a:Option Addr) (n:Nat) (h f:UInt8):Array Value:= #[.slice a n n,u8v h,u8v f]
def shz (a:Option Addr) (n c:Nat) (h f:UInt8):Array Value:= #[.slice a n c,u8v h,u8v f]
def shk (a:Option Addr) (n:Nat) (h f:Key):Array Value:= #[.slice a n n]++(kc h++kc f)
def shs (a:Option Addr) (n:Nat) (h f:Sg):Array Value:= #[.slice a n n]++(sgc h++sgc f)
def shr (a:Option Addr) (n:Nat) (h f:Role):Array Value:= #[.slice a n n]++(rcr h++rcr f)
def shc:Pg→Array Value
 | .y a n h f=>shy a n h f
 | .k a n h f=>shk a n h f
 | .s a n h f=>shs a n h f
 | .r a n h f=>shr a n h f
 | .z a n c h f=>shz a n c h f
def shT:Pg→TypeId
 | .y .. =>107
 | .k .. =>205
 | .s .. =>166
 | .r .. =>164
 | .z .. =>107
def pgc (p:Pg):Array Value:= #[.iface (shT p) (.agg (shc p))]
theorem pageT:ElT Tryz.prog 62 112 pgc 1 16 where
 u:=Tryz.underlying62
 info:=by
  obtain⟨i0,hi,hz0,hz1,hz2⟩:=info_parts (show(Tryz.prog.info? 112).map (fun i=>(i.zero,i.size,i.bytes))=some (some .nilIface,1,16)by kernel_rfl);exact⟨i0,_,hi,hz0,hz1,hz2,rfl⟩
 pos:=by omega
 size x:=rfl
 one x u hu:=by
  simp[pgc]at hu;subst hu;rfl
def signF:Pg→FuncId
 | .y .. =>175
 | .k .. =>193
 | .s .. =>179
 | .r .. =>177
 | .z .. =>175
def ownF:Pg→FuncId
 | .y .. =>174
 | .k .. =>192
 | .s .. =>178
 | .r .. =>176
 | .z .. =>174
theorem m_sign (p:Pg) (v:Value) (w:World):(method 371 (shT p) v "ferryhouse/ferryhouselaw01.sign").run Tryz.prog w= .ok (signF p,v) w:=by
 cases p<;>kernel_rfl
theorem m_own (p:Pg) (v:Value) (w:World):(method 371 (shT p) v "ferryhouse/ferryhouselaw01.own").run Tryz.prog w= .ok (ownF p,v) w:=by
 cases p<;>kernel_rfl
theorem e_sign (p:Pg) (args:Array Value) (w:World):(callFunc (signF p) args).run Tryz.prog w= .ok (.enter (signF p) args) w:=by
 cases p
 ·exact enters_of Tryz.func175 (by kernel_rfl) rfl args w
 ·exact enters_of Tryz.func193 (by kernel_rfl) rfl args w
 ·exact enters_of Tryz.func179 (by kernel_rfl) rfl args w
 ·exact enters_of Tryz.func177 (by kernel_rfl) rfl args w
 ·exact enters_of Tryz.func175 (by kernel_rfl) rfl args w
theorem e_own (p:Pg) (args:Array Value) (w:World):(callFunc (ownF p) args).run Tryz.prog w= .ok (.enter (ownF p) args) w:=by
 cases p
 ·exact enters_of Tryz.func174 (by kernel_rfl) rfl args w
 ·exact enters_of Tryz.func192 (by kernel_rfl) rfl args w
 ·exact enters_of Tryz.func178 (by kernel_rfl) rfl args w
 ·exact enters_of Tryz.func176 (by kernel_rfl) rfl args w
 ·exact enters_of Tryz.func174 (by kernel_rfl) rfl args w
def SgP (w:World):Pg→Prop
 | .y a n h _=>WAtG uc 1 w a (List.replicate n h)
 | .k a n h _=>WAtG kc 32 w a (List.replicate n h)
 | .s a n h _=>WAtG sgc 64 w a (List.replicate n h)
 | .r a n h _=>WAtG rcr 34 w a (List.replicate n h)
 | .z a n c h f=>WAtG uc 1 w a (List.replicate n h++List.replicate (c-n) f)
def SgQ (w:World):Pg→Prop
 | .z a n c h _=>∃m:List UInt8,m.length=c-n∧WAtG uc 1 w a (List.replicate n h++m)
 | .y a n h f=>SgP w (.y a n h f)
 | .k a n h f=>SgP w (.k a n h f)
 | .s a n h f=>SgP w (.s a n h f)
 | .r a n h f=>SgP w (.r a n h f)
theorem SgP.mod {w w':World} {p:Pg} {S:Nat→Prop} (h:SgP w p) (hm:Mod S w w') (hS:∀g,InAd p.a g→¬S g):SgP w' p:=by
 cases p<;>exact WAtG.mod h hm (fun b o e=>hS b ⟨o,e⟩)
theorem SgQ.mod {w w':World} {p:Pg} {S:Nat→Prop} (h:SgQ w p) (hm:Mod S w w') (hS:∀g,InAd p.a g→¬S g):SgQ w' p:=by
 cases p with
 |z a n c h' f=>obtain⟨m,h1,h2⟩:=h;exact⟨m,h1,h2.mod hm (fun b o e=>hS b ⟨o,e⟩)⟩
 |y a n h' f=>exact SgP.mod (p:= .y a n h' f) h hm hS
 |k a n h' f=>exact SgP.mod (p:= .k a n h' f) h hm hS
 |s a n h' f=>exact SgP.mod (p:= .s a n h' f) h hm hS
 |r a n h' f=>exact SgP.mod (p:= .r a n h' f) h hm hS
end
section
attribute [local go_sem↓] eqSigS
attribute [local go_sem↓] ldRole stRole eqRole1
attribute [local go_sem] rcr_size rcr_one0
theorem shK_size (a:Option Addr) (n:Nat) (h f:Key):(shk a n h f).size=65:=by simp[shk,kc_size]
theorem shK_h (a:Option Addr) (n:Nat) (h f:Key):(shk a n h f).extract 1 (1+32)=kc h:=extract_app (n:=1) (m:=32) rfl (kc_size _)
theorem shK_0 (a:Option Addr) (n:Nat) (h f:Key):(shk a n h f)[0]? =some (.slice a n n):=by
 unfold shk;rw[Array.getElem?_append_left (by simp)];rfl
theorem shK_0' {a:Option Addr} {n:Nat} {h f:Key} (hi:0<(shk a n h f).size):(shk a n h f)[0]= .slice a n n:=at_get (shK_0 ..) hi
attribute [local go_sem] shK_size shK_0 shK_0' shK_h
theorem sign0K_c (pa:Option Addr) (pn:Nat) (ph pf:Key) (l:List Key) (hl:l.length=pn) (hb:pn≤900000) (w:World) (h:WAtG kc 32 w pa l):Calls Tryz.prog 193 #[.agg (shk pa pn ph pf),.bool false] w fun e w'=>e= .returned (.tuple #[])∧WAtG kc 32 w' pa (List.replicate pn ph)∧Mod (InAd pa) w w':=by
 go_enter Tryz.func193,Tryz.ntmps193;go_upto_region 0 with fail;refine ZP0 [3] ?_;refine Zb fun p2 hp2=> ?_;refine TD.nil (fun w1 hr=> ?_);obtain⟨gp2,kp2⟩:=hr.b p2;have m1:=hr.mod;have hW:=h.mod m1 (fun _ _ _ h=>h);have HW0:=Hi h;clear h;go_wp2_with fail;go_loopw [4] (fun s4 ws=>∃i:Nat,i≤pn∧s4= .int .i64 (i:Int)∧WAtG kc 32 ws pa (List.replicate i ph++l.drop i)∧Mod (InAd pa) w1 ws∧ws.heap[p2]? =some (.cells (shk pa pn ph pf) 205 (0,0))) (fun s4 _=>pn-(intOf s4).toNat)
 case atStart=>exact⟨0,by omega,rfl,by simpa using hW,Mod.refl _ _,kp2⟩
 case round=>
  clear kp2;obtain⟨i,hi,rfl,hW2,hm,kp2⟩:=hrel;by_cases hlt:i<pn
  ·have hlen:(List.replicate i ph++l.drop i).length=pn:=by simp;omega
   rcases id hW2 with hnil|⟨g,o,C,U,ha,kl,hrow⟩
   ·rw[hnil]at hlen;simp at hlen;omega
   ·have HROW:=Hi hrow;have hle:=(hrow i _ (List.getElem?_eq_getElem (by omega))).2;have hgp:p2≠g:=fun e=>by
     subst e;rcases HW0.out with h0|⟨g0,o0,C0,U0,ha0,kl0,_⟩
     ·rw[h0]at hl;simp at hl;omega
     ·rw[ha]at ha0;cases ha0;have:=Ls kl0;omega
    have e1:=shK_h pa pn ph pf;have HLEN:=Hi hlen;have HL:=Hi hl;clear hrow hW2 hlen hW hl;subst ha;go_upto_region 5 with fail;have Lkl:=Ls kl;have Lkp2:=Ls kp2;refine ZP0 [0,1,0,0,1,0,5] ?_
    iterate 6 first|refine Zv ?_|refine Zd ?_
    refine Zi fun wE hr=> ?_;replace kl:=hr.mod.at0 kl;replace kp2:=hr.mod.at0 kp2;have mE:=hr.mod;refine ZS ?_;refine ZN kl fun w3 kl mS=> ?_;(try simp only[Array.setIfInBounds,zL]at kl);replace kp2:=mS.at_ne kp2 (by omega);rw[ite_wr2 (kc_size ph)]at kl;have hrow2:=row_set kc_size HROW.out (i:=i) (by rw[HLEN.out];exact hlt) ph;rw[set_repG (by rw[HL.out];exact hlt)]at hrow2;have HW3:Hid (WAtG kc 32 w3 (some ⟨g,o,none⟩) (List.replicate (i+1) ph++l.drop (i+1))):=Hi (.inr ⟨g,o,_,_,rfl,kl,hrow2⟩);have hm3:=(hm.then0 mE).then mS (fun j _ e=>⟨o,by rw[e]⟩);clear e1 kl hrow2 hm mS mE hle;go_wp2_with fail;go_roundw
    case rel=>exact⟨i+1,by omega,by go_num,HW3.out,hm3,kp2⟩
    case measure=>simp[intOf];omega
  ·obtain rfl:i=pn:=by omega
   have HW2:Hid (WAtG kc 32 wr pa (List.replicate i ph)):=Hi (by
    have:=hW2;rw[List.drop_of_length_le (by omega),List.append_nil]at this;exact this)
   clear hW2 hW;go_wp2_with fail;exact bodyPost_ret (v:= .tuple #[]) (results_none rfl _ _ _) rfl ⟨rfl,HW2.out,(m1.mono (fun _ _ h=>h.elim)).trans hm⟩
theorem sign1K_c (pa:Option Addr) (pn:Nat) (ph pf:Key) (hb:pn≤900000) (hsl:∀w2,(Instr.sliceAt 27 (.slice pa pn pn) none (some (.int .i64 (pn:Int))) none).run Tryz.prog w2= .ok (.slice pa pn pn) w2) (w:World):Calls Tryz.prog 193 #[.agg (shk pa pn ph pf),.bool true] w fun e w'=>e= .returned (.tuple #[])∧Mod (fun _=>False) w w':=by
 go_enter Tryz.func193,Tryz.ntmps193;go_upto_region 0 with fail;refine ZP0 [3] ?_;refine Zb fun p2 hp2=> ?_;refine TD.nil (fun w1 hr=> ?_);obtain⟨gp2,kp2⟩:=hr.b p2;have m1:=hr.mod;go_upto_region 6 with fail;have Lkp2:=Ls kp2;refine ZP0 [0,1,0,1,0,0,0] ?_
 iterate 5 first|refine Zv ?_|refine Zd ?_
 refine Zx hsl ?_;refine Zv ?_;refine TD.nil (fun w2 hr=> ?_);replace kp2:=hr.q kp2;have m2:=m1.then0 hr.mod;go_wp2_with fail;go_loopw [6] (fun s6 ws=>s6= .int .i64 (pn:Int)∧ws=w2) (fun _ _=>0)
 case atStart=>exact⟨rfl,rfl⟩
 case round=>
  obtain⟨rfl,rfl⟩:=hrel;go_wp2_with fail;go_end0;exact⟨rfl,m2⟩
theorem ownK_c (pa:Option Addr) (pn:Nat) (ph pf:Key) (hb:pn≤900000) (hsl:∀w2,(Instr.sliceAt 27 (.slice pa pn pn) none (some (.int .i64 (pn:Int))) none).run Tryz.prog w2= .ok (.slice pa pn pn) w2) (w:World) (h:WAtG kc 32 w pa (List.replicate pn ph)):Calls Tryz.prog 192 #[.agg (shk pa pn ph pf)] w fun e w'=>e= .returned (.bool true)∧Mod (fun _=>False) w w':=by
 have hs:=h.sl;clear h;go_enter Tryz.func192,Tryz.ntmps192;go_upto_region 0 with fail;refine ZP0 [3,0] ?_;refine Zb fun p1 hp1=> ?_;refine Zv ?_;refine TD.nil (fun w1 hr=> ?_);obtain⟨gp1,kp1⟩:=hr.b p1;have m1:=hr.mod;have hs1:=hs.mod0 hr.mod;clear hs;go_wp2_with fail;go_loopw [3] (fun s3 ws=>∃i:Nat,i≤pn∧s3= .int .i64 (i:Int)∧Mod (fun _=>False) w1 ws) (fun s3 _=>pn-(intOf s3).toNat)
 case atStart=>exact⟨0,by omega,rfl,Mod.refl _ _⟩
 case round=>
  obtain⟨i,hi,rfl,hm⟩:=hrel;have kp1:=hm.at0 kp1;by_cases hlt:i<pn
  ·have hx:(List.replicate pn ph)[i]? =some ph:=by rw[List.getElem?_replicate,if_pos hlt]
   obtain⟨g,o,C,U,fr,ha,kl,he,hle⟩:=(hs1.mod0 hm).block hx;have e1:=shK_h pa pn ph pf;have HS1:=Hi hs1;have HSL:=Hi hsl;clear hs1 hx hsl;subst ha;go_upto_region 4 with fail;have Lkl:=Ls kl;have Lkp1:=Ls kp1;refine ZP [0,1,0,0,1,0,1,0] ?_
   iterate 8 first|refine Zv ?_|refine Zd ?_
   refine TD.nil (fun w3 hr=> ?_);replace kl:=hr.q kl;replace kp1:=hr.q kp1;have hm3:=hm.then0 hr.mod;clear e1 he hle kl;go_wp2_with fail;go_roundw
   case rel=>exact⟨i+1,by omega,by go_num,hm3⟩
   case measure=>simp[intOf];omega
  ·obtain rfl:i=pn:=by omega
   clear hs1;go_upto_region 6 with fail;have Lkp1:=Ls kp1;refine ZP0 [0,1,0,1,0,0,0] ?_
   iterate 5 first|refine Zv ?_|refine Zd ?_
   refine Zx hsl ?_;refine Zv ?_;refine TD.nil (fun w2 hr=> ?_);replace kp1:=hr.q kp1;have m2:=(m1.then0 hm).then0 hr.mod;go_wp2_with fail;go_loopw [5] (fun s5 ws=>s5= .int .i64 (i:Int)∧ws=w2) (fun _ _=>0)
   case atStart=>exact⟨rfl,rfl⟩
   case round=>
    obtain⟨rfl,rfl⟩:=hrel;go_wp2_with fail;go_ret;exact⟨rfl,m2⟩
theorem shR_size (a:Option Addr) (n:Nat) (h f:Role):(shr a n h f).size=69:=by simp[shr,rcr_size]
theorem shR_h (a:Option Addr) (n:Nat) (h f:Role):(shr a n h f).extract 1 (1+34)=rcr h:=extract_app (n:=1) (m:=34) rfl (rcr_size _)
theorem shR_0 (a:Option Addr) (n:Nat) (h f:Role):(shr a n h f)[0]? =some (.slice a n n):=by
 unfold shr;rw[Array.getElem?_append_left (by simp)];rfl
theorem shR_0' {a:Option Addr} {n:Nat} {h f:Role} (hi:0<(shr a n h f).size):(shr a n h f)[0]= .slice a n n:=at_get (shR_0 ..) hi
attribute [local go_sem] shR_size shR_0 shR_0' shR_h
theorem sign0R_c (pa:Option Addr) (pn:Nat) (ph pf:Role) (l:List Role) (hl:l.length=pn) (hb:pn≤900000) (w:World) (h:WAtG rcr 34 w pa l):Calls Tryz.prog 177 #[.agg (shr pa pn ph pf),.bool false] w fun e w'=>e= .returned (.tuple #[])∧WAtG rcr 34 w' pa (List.replicate pn ph)∧Mod (InAd pa) w w':=by
 go_enter Tryz.func177,Tryz.ntmps177;go_upto_region 0 with fail;refine ZP0 [3] ?_;refine Zb fun p2 hp2=> ?_;refine TD.nil (fun w1 hr=> ?_);obtain⟨gp2,kp2⟩:=hr.b p2;have m1:=hr.mod;have hW:=h.mod m1 (fun _ _ _ h=>h);have HW0:=Hi h;clear h;go_wp2_with fail;go_loopw [4] (fun s4 ws=>∃i:Nat,i≤pn∧s4= .int .i64 (i:Int)∧WAtG rcr 34 ws pa (List.replicate i ph++l.drop i)∧Mod (InAd pa) w1 ws∧ws.heap[p2]? =some (.cells (shr pa pn ph pf) 164 (0,0))) (fun s4 _=>pn-(intOf s4).toNat)
 case atStart=>exact⟨0,by omega,rfl,by simpa using hW,Mod.refl _ _,kp2⟩
 case round=>
  clear kp2;obtain⟨i,hi,rfl,hW2,hm,kp2⟩:=hrel;by_cases hlt:i<pn
  ·have hlen:(List.replicate i ph++l.drop i).length=pn:=by simp;omega
   rcases id hW2 with hnil|⟨g,o,C,U,ha,kl,hrow⟩
   ·rw[hnil]at hlen;simp at hlen;omega
   ·have HROW:=Hi hrow;have hle:=(hrow i _ (List.getElem?_eq_getElem (by omega))).2;have hgp:p2≠g:=fun e=>by
     subst e;rcases HW0.out with h0|⟨g0,o0,C0,U0,ha0,kl0,_⟩
     ·rw[h0]at hl;simp at hl;omega
     ·rw[ha]at ha0;cases ha0;have:=Ls kl0;omega
    have e1:=shR_h pa pn ph pf;have HLEN:=Hi hlen;have HL:=Hi hl;clear hrow hW2 hlen hW hl;subst ha;go_upto_region 5 with fail;have Lkl:=Ls kl;have Lkp2:=Ls kp2;refine ZP0 [0,1,0,0,1,0,5] ?_
    iterate 6 first|refine Zv ?_|refine Zd ?_
    refine Zi fun wE hr=> ?_;replace kl:=hr.mod.at0 kl;replace kp2:=hr.mod.at0 kp2;have mE:=hr.mod;refine ZS ?_;refine ZN kl fun w3 kl mS=> ?_;(try simp only[Array.setIfInBounds,zL]at kl);replace kp2:=mS.at_ne kp2 (by omega);rw[ite_wr2 (rcr_size ph)]at kl;have hrow2:=row_set rcr_size HROW.out (i:=i) (by rw[HLEN.out];exact hlt) ph;rw[set_repG (by rw[HL.out];exact hlt)]at hrow2;have HW3:Hid (WAtG rcr 34 w3 (some ⟨g,o,none⟩) (List.replicate (i+1) ph++l.drop (i+1))):=Hi (.inr ⟨g,o,_,_,rfl,kl,hrow2⟩);have hm3:=(hm.then0 mE).then mS (fun j _ e=>⟨o,by rw[e]⟩);clear e1 kl hrow2 hm mS mE hle;go_wp2_with fail;go_roundw
    case rel=>exact⟨i+1,by omega,by go_num,HW3.out,hm3,kp2⟩
    case measure=>simp[intOf];omega
  ·obtain rfl:i=pn:=by omega
   have HW2:Hid (WAtG rcr 34 wr pa (List.replicate i ph)):=Hi (by
    have:=hW2;rw[List.drop_of_length_le (by omega),List.append_nil]at this;exact this)
   clear hW2 hW;go_wp2_with fail;exact bodyPost_ret (v:= .tuple #[]) (results_none rfl _ _ _) rfl ⟨rfl,HW2.out,(m1.mono (fun _ _ h=>h.elim)).trans hm⟩
theorem sign1R_c (pa:Option Addr) (pn:Nat) (ph pf:Role) (hb:pn≤900000) (hsl:∀w2,(Instr.sliceAt 36 (.slice pa pn pn) none (some (.int .i64 (pn:Int))) none).run Tryz.prog w2= .ok (.slice pa pn pn) w2) (w:World):Calls Tryz.prog 177 #[.agg (shr pa pn ph pf),.bool true] w fun e w'=>e= .returned (.tuple #[])∧Mod (fun _=>False) w w':=by
 go_enter Tryz.func177,Tryz.ntmps177;go_upto_region 0 with fail;refine ZP0 [3] ?_;refine Zb fun p2 hp2=> ?_;refine TD.nil (fun w1 hr=> ?_);obtain⟨gp2,kp2⟩:=hr.b p2;have m1:=hr.mod;go_upto_region 6 with fail;have Lkp2:=Ls kp2;refine ZP0 [0,1,0,1,0,0,0] ?_
 iterate 5 first|refine Zv ?_|refine Zd ?_
 refine Zx hsl ?_;refine Zv ?_;refine TD.nil (fun w2 hr=> ?_);replace kp2:=hr.q kp2;have m2:=m1.then0 hr.mod;go_wp2_with fail;go_loopw [6] (fun s6 ws=>s6= .int .i64 (pn:Int)∧ws=w2) (fun _ _=>0)
 case atStart=>exact⟨rfl,rfl⟩
 case round=>
  obtain⟨rfl,rfl⟩:=hrel;go_wp2_with fail;go_end0;exact⟨rfl,m2⟩
theorem ownR_c (pa:Option Addr) (pn:Nat) (ph pf:Role) (hb:pn≤900000) (hsl:∀w2,(Instr.sliceAt 36 (.slice pa pn pn) none (some (.int .i64 (pn:Int))) none).run Tryz.prog w2= .ok (.slice pa pn pn) w2) (w:World) (h:WAtG rcr 34 w pa (List.replicate pn ph)):Calls Tryz.prog 176 #[.agg (shr pa pn ph pf)] w fun e w'=>e= .returned (.bool true)∧Mod (fun _=>False) w w':=by
 have hs:=h.sl;clear h;go_enter Tryz.func176,Tryz.ntmps176;go_upto_region 0 with fail;refine ZP0 [3,0] ?_;refine Zb fun p1 hp1=> ?_;refine Zv ?_;refine TD.nil (fun w1 hr=> ?_);obtain⟨gp1,kp1⟩:=hr.b p1;have m1:=hr.mod;have hs1:=hs.mod0 hr.mod;clear hs;go_wp2_with fail;go_loopw [3] (fun s3 ws=>∃i:Nat,i≤pn∧s3= .int .i64 (i:Int)∧Mod (fun _=>False) w1 ws) (fun s3 _=>pn-(intOf s3).toNat)
 case atStart=>exact⟨0,by omega,rfl,Mod.refl _ _⟩
 case round=>
  obtain⟨i,hi,rfl,hm⟩:=hrel;have kp1:=hm.at0 kp1;by_cases hlt:i<pn
  ·have hx:(List.replicate pn ph)[i]? =some ph:=by rw[List.getElem?_replicate,if_pos hlt]
   obtain⟨g,o,C,U,fr,ha,kl,he,hle⟩:=(hs1.mod0 hm).block hx;have e1:=shR_h pa pn ph pf;have HS1:=Hi hs1;have HSL:=Hi hsl;clear hs1 hx hsl;subst ha;go_upto_region 4 with fail;have Lkl:=Ls kl;have Lkp1:=Ls kp1;refine ZP [0,1,0,0,1,0,1,0] ?_
   iterate 8 first|refine Zv ?_|refine Zd ?_
   refine TD.nil (fun w3 hr=> ?_);replace kl:=hr.q kl;replace kp1:=hr.q kp1;have hm3:=hm.then0 hr.mod;clear e1 he hle kl;go_wp2_with fail;go_roundw
   case rel=>exact⟨i+1,by omega,by go_num,hm3⟩
   case measure=>simp[intOf];omega
  ·obtain rfl:i=pn:=by omega
   clear hs1;go_upto_region 6 with fail;have Lkp1:=Ls kp1;refine ZP0 [0,1,0,1,0,0,0] ?_
   iterate 5 first|refine Zv ?_|refine Zd ?_
   refine Zx hsl ?_;refine Zv ?_;refine TD.nil (fun w2 hr=> ?_);replace kp1:=hr.q kp1;have m2:=(m1.then0 hm).then0 hr.mod;go_wp2_with fail;go_loopw [5] (fun s5 ws=>s5= .int .i64 (i:Int)∧ws=w2) (fun _ _=>0)
   case atStart=>exact⟨rfl,rfl⟩
   case round=>
    obtain⟨rfl,rfl⟩:=hrel;go_wp2_with fail;go_ret;exact⟨rfl,m2⟩
theorem shS_size (a:Option Addr) (n:Nat) (h f:Sg):(shs a n h f).size=129:=by simp[shs,sgc_size]
theorem shS_h (a:Option Addr) (n:Nat) (h f:Sg):(shs a n h f).extract 1 (1+64)=sgc h:=extract_app (n:=1) (m:=64) rfl (sgc_size _)
theorem shS_0 (a:Option Addr) (n:Nat) (h f:Sg):(shs a n h f)[0]? =some (.slice a n n):=by
 unfold shs;rw[Array.getElem?_append_left (by simp)];rfl
theorem shS_0' {a:Option Addr} {n:Nat} {h f:Sg} (hi:0<(shs a n h f).size):(shs a n h f)[0]= .slice a n n:=at_get (shS_0 ..) hi
attribute [local go_sem] shS_size shS_0 shS_0' shS_h
theorem sign0S_c (pa:Option Addr) (pn:Nat) (ph pf:Sg) (l:List Sg) (hl:l.length=pn) (hb:pn≤900000) (w:World) (h:WAtG sgc 64 w pa l):Calls Tryz.prog 179 #[.agg (shs pa pn ph pf),.bool false] w fun e w'=>e= .returned (.tuple #[])∧WAtG sgc 64 w' pa (List.replicate pn ph)∧Mod (InAd pa) w w':=by
 go_enter Tryz.func179,Tryz.ntmps179;go_upto_region 0 with fail;refine ZP0 [3] ?_;refine Zb fun p2 hp2=> ?_;refine TD.nil (fun w1 hr=> ?_);obtain⟨gp2,kp2⟩:=hr.b p2;have m1:=hr.mod;have hW:=h.mod m1 (fun _ _ _ h=>h);have HW0:=Hi h;clear h;go_wp2_with fail;go_loopw [4] (fun s4 ws=>∃i:Nat,i≤pn∧s4= .int .i64 (i:Int)∧WAtG sgc 64 ws pa (List.replicate i ph++l.drop i)∧Mod (InAd pa) w1 ws∧ws.heap[p2]? =some (.cells (shs pa pn ph pf) 166 (0,0))) (fun s4 _=>pn-(intOf s4).toNat)
 case atStart=>exact⟨0,by omega,rfl,by simpa using hW,Mod.refl _ _,kp2⟩
 case round=>
  clear kp2;obtain⟨i,hi,rfl,hW2,hm,kp2⟩:=hrel;by_cases hlt:i<pn
  ·have hlen:(List.replicate i ph++l.drop i).length=pn:=by simp;omega
   rcases id hW2 with hnil|⟨g,o,C,U,ha,kl,hrow⟩
   ·rw[hnil]at hlen;simp at hlen;omega
   ·have HROW:=Hi hrow;have hle:=(hrow i _ (List.getElem?_eq_getElem (by omega))).2;have hgp:p2≠g:=fun e=>by
     subst e;rcases HW0.out with h0|⟨g0,o0,C0,U0,ha0,kl0,_⟩
     ·rw[h0]at hl;simp at hl;omega
     ·rw[ha]at ha0;cases ha0;have:=Ls kl0;omega
    have e1:=shS_h pa pn ph pf;have HLEN:=Hi hlen;have HL:=Hi hl;clear hrow hW2 hlen hW hl;subst ha;go_upto_region 5 with fail;have Lkl:=Ls kl;have Lkp2:=Ls kp2;refine ZP0 [0,1,0,0,1,0,5] ?_
    iterate 6 first|refine Zv ?_|refine Zd ?_
    refine Zi fun wE hr=> ?_;replace kl:=hr.mod.at0 kl;replace kp2:=hr.mod.at0 kp2;have mE:=hr.mod;refine ZS ?_;refine ZN kl fun w3 kl mS=> ?_;(try simp only[Array.setIfInBounds,zL]at kl);replace kp2:=mS.at_ne kp2 (by omega);rw[ite_wr2 (sgc_size ph)]at kl;have hrow2:=row_set sgc_size HROW.out (i:=i) (by rw[HLEN.out];exact hlt) ph;rw[set_repG (by rw[HL.out];exact hlt)]at hrow2;have HW3:Hid (WAtG sgc 64 w3 (some ⟨g,o,none⟩) (List.replicate (i+1) ph++l.drop (i+1))):=Hi (.inr ⟨g,o,_,_,rfl,kl,hrow2⟩);have hm3:=(hm.then0 mE).then mS (fun j _ e=>⟨o,by rw[e]⟩);clear e1 kl hrow2 hm mS mE hle;go_wp2_with fail;go_roundw
    case rel=>exact⟨i+1,by omega,by go_num,HW3.out,hm3,kp2⟩
    case measure=>simp[intOf];omega
  ·obtain rfl:i=pn:=by omega
   have HW2:Hid (WAtG sgc 64 wr pa (List.replicate i ph)):=Hi (by
    have:=hW2;rw[List.drop_of_length_le (by omega),List.append_nil]at this;exact this)
   clear hW2 hW;go_wp2_with fail;exact bodyPost_ret (v:= .tuple #[]) (results_none rfl _ _ _) rfl ⟨rfl,HW2.out,(m1.mono (fun _ _ h=>h.elim)).trans hm⟩
theorem sign1S_c (pa:Option Addr) (pn:Nat) (ph pf:Sg) (hb:pn≤900000) (hsl:∀w2,(Instr.sliceAt 24 (.slice pa pn pn) none (some (.int .i64 (pn:Int))) none).run Tryz.prog w2= .ok (.slice pa pn pn) w2) (w:World):Calls Tryz.prog 179 #[.agg (shs pa pn ph pf),.bool true] w fun e w'=>e= .returned (.tuple #[])∧Mod (fun _=>False) w w':=by
 go_enter Tryz.func179,Tryz.ntmps179;go_upto_region 0 with fail;refine ZP0 [3] ?_;refine Zb fun p2 hp2=> ?_;refine TD.nil (fun w1 hr=> ?_);obtain⟨gp2,kp2⟩:=hr.b p2;have m1:=hr.mod;go_upto_region 6 with fail;have Lkp2:=Ls kp2;refine ZP0 [0,1,0,1,0,0,0] ?_
 iterate 5 first|refine Zv ?_|refine Zd ?_
 refine Zx hsl ?_;refine Zv ?_;refine TD.nil (fun w2 hr=> ?_);replace kp2:=hr.q kp2;have m2:=m1.then0 hr.mod;go_wp2_with fail;go_loopw [6] (fun s6 ws=>s6= .int .i64 (pn:Int)∧ws=w2) (fun _ _=>0)
 case atStart=>exact⟨rfl,rfl⟩
 case round=>
  obtain⟨rfl,rfl⟩:=hrel;go_wp2_with fail;go_end0;exact⟨rfl,m2⟩
theorem ownS_c (pa:Option Addr) (pn:Nat) (ph pf:Sg) (hb:pn≤900000) (hsl:∀w2,(Instr.sliceAt 24 (.slice pa pn pn) none (some (.int .i64 (pn:Int))) none).run Tryz.prog w2= .ok (.slice pa pn pn) w2) (w:World) (h:WAtG sgc 64 w pa (List.replicate pn ph)):Calls Tryz.prog 178 #[.agg (shs pa pn ph pf)] w fun e w'=>e= .returned (.bool true)∧Mod (fun _=>False) w w':=by
 have hs:=h.sl;clear h;go_enter Tryz.func178,Tryz.ntmps178;go_upto_region 0 with fail;refine ZP0 [3,0] ?_;refine Zb fun p1 hp1=> ?_;refine Zv ?_;refine TD.nil (fun w1 hr=> ?_);obtain⟨gp1,kp1⟩:=hr.b p1;have m1:=hr.mod;have hs1:=hs.mod0 hr.mod;clear hs;go_wp2_with fail;go_loopw [3] (fun s3 ws=>∃i:Nat,i≤pn∧s3= .int .i64 (i:Int)∧Mod (fun _=>False) w1 ws) (fun s3 _=>pn-(intOf s3).toNat)
 case atStart=>exact⟨0,by omega,rfl,Mod.refl _ _⟩
 case round=>
  obtain⟨i,hi,rfl,hm⟩:=hrel;have kp1:=hm.at0 kp1;by_cases hlt:i<pn
  ·have hx:(List.replicate pn ph)[i]? =some ph:=by rw[List.getElem?_replicate,if_pos hlt]
   obtain⟨g,o,C,U,fr,ha,kl,he,hle⟩:=(hs1.mod0 hm).block hx;have e1:=shS_h pa pn ph pf;have HS1:=Hi hs1;have HSL:=Hi hsl;clear hs1 hx hsl;subst ha;go_upto_region 4 with fail;have Lkl:=Ls kl;have Lkp1:=Ls kp1;refine ZP [0,1,0,0,1,0,1,0] ?_
   iterate 8 first|refine Zv ?_|refine Zd ?_
   refine TD.nil (fun w3 hr=> ?_);replace kl:=hr.q kl;replace kp1:=hr.q kp1;have hm3:=hm.then0 hr.mod;clear e1 he hle kl;go_wp2_with fail;go_roundw
   case rel=>exact⟨i+1,by omega,by go_num,hm3⟩
   case measure=>simp[intOf];omega
  ·obtain rfl:i=pn:=by omega
   clear hs1;go_upto_region 6 with fail;have Lkp1:=Ls kp1;refine ZP0 [0,1,0,1,0,0,0] ?_
   iterate 5 first|refine Zv ?_|refine Zd ?_
   refine Zx hsl ?_;refine Zv ?_;refine TD.nil (fun w2 hr=> ?_);replace kp1:=hr.q kp1;have m2:=(m1.then0 hm).then0 hr.mod;go_wp2_with fail;go_loopw [5] (fun s5 ws=>s5= .int .i64 (i:Int)∧ws=w2) (fun _ _=>0)
   case atStart=>exact⟨rfl,rfl⟩
   case round=>
    obtain⟨rfl,rfl⟩:=hrel;go_wp2_with fail;go_ret;exact⟨rfl,m2⟩
end
section
theorem wy_get {w:World} {a:Option Addr} {l:List UInt8} (h:WAtG uc 1 w a l):l=[]∨∃b o C U,a=some ⟨b,o,none⟩∧w.heap[b]? =some (.cells C U (0,0))∧∀j y,l[j]? =some y→C[o+j]? =some (.int .u8 (y.toNat:Int)):=by
 rcases h with h|⟨b,o,C,U,h1,h2,h3⟩
 ·exact .inl h
 ·refine .inr ⟨b,o,C,U,h1,h2,fun j y hy=> ?_⟩;obtain⟨h4,h5⟩:=h3 j y hy;have h0:=congrArg (fun A:Array Value=>A[0]?) h4;simp only[Nat.mul_one]at h0 h5;rw[Array.getElem?_extract,if_pos (by omega)]at h0;simpa[uc] using h0
theorem wy_of {w:World} {l:List UInt8} {b o:Nat} {C:Array Value} {U:TypeId} (h2:w.heap[b]? =some (.cells C U (0,0))) (h3:∀j y,l[j]? =some y→C[o+j]? =some (.int .u8 (y.toNat:Int))):WAtG uc 1 w (some ⟨b,o,none⟩) l:=by
 refine .inr ⟨b,o,C,U,rfl,h2,fun j y hy=> ?_⟩;have h4:=h3 j y hy;have h5:=(Array.getElem?_eq_some_iff.1 h4).1;rw[Nat.mul_one];refine⟨?_,by omega⟩;apply Array.ext_getElem?;intro t;rw[Array.getElem?_extract];cases t with
 |zero=>
  rw[if_pos (by omega),Nat.add_zero,h4];rfl
 |succ t=>
  rw[if_neg (by omega)];rfl
theorem shy_0 (a:Option Addr) (n:Nat) (h f:UInt8):(shy a n h f)[0]? =some (.slice a n n):=rfl
theorem shy_1 (a:Option Addr) (n:Nat) (h f:UInt8):(shy a n h f)[1]? =some (.int .u8 (h.toNat:Int)):=rfl
theorem shy_2 (a:Option Addr) (n:Nat) (h f:UInt8):(shy a n h f)[2]? =some (.int .u8 (f.toNat:Int)):=rfl
theorem shy_0' {a:Option Addr} {n:Nat} {h f:UInt8} (hi:0<(shy a n h f).size):(shy a n h f)[0]= .slice a n n:=rfl
theorem shy_1' {a:Option Addr} {n:Nat} {h f:UInt8} (hi:1<(shy a n h f).size):(shy a n h f)[1]= .int .u8 (h.toNat:Int):=rfl
attribute [local go_sem] shy_0 shy_1 shy_2 shy_0' shy_1'
theorem shz_0 (a:Option Addr) (n c:Nat) (h f:UInt8):(shz a n c h f)[0]? =some (.slice a n c):=rfl
theorem shz_1 (a:Option Addr) (n c:Nat) (h f:UInt8):(shz a n c h f)[1]? =some (.int .u8 (h.toNat:Int)):=rfl
theorem shz_2 (a:Option Addr) (n c:Nat) (h f:UInt8):(shz a n c h f)[2]? =some (.int .u8 (f.toNat:Int)):=rfl
theorem shz_0' {a:Option Addr} {n c:Nat} {h f:UInt8} (hi:0<(shz a n c h f).size):(shz a n c h f)[0]= .slice a n c:=rfl
theorem shz_1' {a:Option Addr} {n c:Nat} {h f:UInt8} (hi:1<(shz a n c h f).size):(shz a n c h f)[1]= .int .u8 (h.toNat:Int):=rfl
theorem shz_2' {a:Option Addr} {n c:Nat} {h f:UInt8} (hi:2<(shz a n c h f).size):(shz a n c h f)[2]= .int .u8 (f.toNat:Int):=rfl
attribute [local go_sem] shz_0 shz_1 shz_2 shz_0' shz_1' shz_2'
theorem sign0Y_c (pa:Option Addr) (pn:Nat) (ph pf:UInt8) (l:List UInt8) (hl:l.length=pn) (hb:pn≤900000) (w:World) (h:WAtG uc 1 w pa l):Calls Tryz.prog 175 #[.agg (shy pa pn ph pf),.bool false] w fun e w'=>e= .returned (.tuple #[])∧WAtG uc 1 w' pa (List.replicate pn ph)∧Mod (InAd pa) w w':=by
 go_enter Tryz.func175,Tryz.ntmps175;go_upto_region 0 with fail;refine ZP0 [3] ?_;refine Zb fun p2 hp2=> ?_;refine TD.nil (fun w1 hr=> ?_);obtain⟨gp2,kp2⟩:=hr.b p2;have m1:=hr.mod;have hW:=h.mod m1 (fun _ _ _ h=>h);have HW0:=Hi h;replace kp2:w1.heap[p2]? =some (.cells (shy pa pn ph pf) 107 (0,0)):=kp2;clear h;go_wp2_with fail;go_loopw [4] (fun s4 ws=>∃i:Nat,i≤pn∧s4= .int .i64 (i:Int)∧WAtG uc 1 ws pa (List.replicate i ph++l.drop i)∧Mod (InAd pa) w1 ws∧ws.heap[p2]? =some (.cells (shy pa pn ph pf) 107 (0,0))) (fun s4 _=>pn-(intOf s4).toNat)
 case atStart=>exact⟨0,by omega,rfl,by simpa using hW,Mod.refl _ _,kp2⟩
 case round=>
  clear kp2;obtain⟨i,hi,rfl,hW2,hm,kp2⟩:=hrel;by_cases hlt:i<pn
  ·have hlen:(List.replicate i ph++l.drop i).length=pn:=by simp;omega
   rcases wy_get hW2 with hnil|⟨g,o,C,U,ha,kl,hrow⟩
   ·rw[hnil]at hlen;simp at hlen;omega
   ·have HROW:=Hi hrow;have hci:=hrow i _ (List.getElem?_eq_getElem (by omega));have hci2:o+i<C.size:=(Array.getElem?_eq_some_iff.1 hci).1;have hgp:p2≠g:=fun e=>by
     subst e;rcases HW0.out with h0|⟨g0,o0,C0,U0,ha0,kl0,_⟩
     ·rw[h0]at hl;simp at hl;omega
     ·rw[ha]at ha0;cases ha0;have:=Ls kl0;omega
    have HLEN:=Hi hlen;have HL:=Hi hl;clear hrow hW2 hlen hW hl hci;subst ha;go_upto_region 5 with fail;have Lkl:=Ls kl;have Lkp2:=Ls kp2;refine ZP0 [0,1,0,0,1,0,5] ?_
    iterate 6 first|refine Zv ?_|refine Zd ?_
    refine Zi fun wE hr=> ?_;replace kl:=hr.mod.at0 kl;replace kp2:=hr.mod.at0 kp2;have mE:=hr.mod;refine ZS ?_;refine ZN kl fun w3 kl mS=> ?_;replace kp2:=mS.at_ne kp2 (by omega);have HW3:Hid (WAtG uc 1 w3 (some ⟨g,o,none⟩) (List.replicate (i+1) ph++l.drop (i+1))):=Hi (wy_of kl (fun j y hy=>by
     rw[←set_repG (by rw[HL.out];exact hlt)]at hy;rw[Array.getElem?_setIfInBounds];by_cases hj:j=i
     ·subst hj;rw[List.getElem?_set_self (by rw[HLEN.out];exact hlt)]at hy;cases hy;rw[if_pos rfl,if_pos hci2]
     ·rw[List.getElem?_set_ne (fun e=>hj e.symm)]at hy;rw[if_neg (by omega)];exact HROW.out j y hy))
    have hm3:=(hm.then0 mE).then mS (fun j _ e=>⟨o,by rw[e]⟩);clear kl hm mS mE hci2;go_wp2_with fail;go_roundw
    case rel=>exact⟨i+1,by omega,by go_num,HW3.out,hm3,kp2⟩
    case measure=>simp[intOf];omega
  ·obtain rfl:i=pn:=by omega
   have HW2:Hid (WAtG uc 1 wr pa (List.replicate i ph)):=Hi (by
    have:=hW2;rw[List.drop_of_length_le (by omega),List.append_nil]at this;exact this)
   clear hW2 hW;go_wp2_with fail;exact bodyPost_ret (v:= .tuple #[]) (results_none rfl _ _ _) rfl ⟨rfl,HW2.out,(m1.mono (fun _ _ h=>h.elim)).trans hm⟩
theorem sign1Y_c (pa:Option Addr) (pn:Nat) (ph pf:UInt8) (hb:pn≤900000) (hsl:∀w2,(Instr.sliceAt 22 (.slice pa pn pn) none (some (.int .i64 (pn:Int))) none).run Tryz.prog w2= .ok (.slice pa pn pn) w2) (w:World):Calls Tryz.prog 175 #[.agg (shy pa pn ph pf),.bool true] w fun e w'=>e= .returned (.tuple #[])∧Mod (fun _=>False) w w':=by
 go_enter Tryz.func175,Tryz.ntmps175;go_upto_region 0 with fail;refine ZP0 [3] ?_;refine Zb fun p2 hp2=> ?_;refine TD.nil (fun w1 hr=> ?_);obtain⟨gp2,kp2⟩:=hr.b p2;have m1:=hr.mod;replace kp2:w1.heap[p2]? =some (.cells (shy pa pn ph pf) 107 (0,0)):=kp2;go_upto_region 6 with fail;have Lkp2:=Ls kp2;refine ZP0 [0,1,0,1,0,0,0] ?_
 iterate 5 first|refine Zv ?_|refine Zd ?_
 refine Zx hsl ?_;refine Zv ?_;refine TD.nil (fun w2 hr=> ?_);replace kp2:=hr.q kp2;have m2:=m1.then0 hr.mod;go_wp2_with fail;go_loopw [6] (fun s6 ws=>s6= .int .i64 (pn:Int)∧ws=w2) (fun _ _=>0)
 case atStart=>exact⟨rfl,rfl⟩
 case round=>
  obtain⟨rfl,rfl⟩:=hrel;go_wp2_with fail;go_end0;exact⟨rfl,m2⟩
theorem ownY_c (pa:Option Addr) (pn:Nat) (ph pf:UInt8) (hb:pn≤900000) (hsl:∀w2,(Instr.sliceAt 22 (.slice pa pn pn) none (some (.int .i64 (pn:Int))) none).run Tryz.prog w2= .ok (.slice pa pn pn) w2) (w:World) (h:WAtG uc 1 w pa (List.replicate pn ph)):Calls Tryz.prog 174 #[.agg (shy pa pn ph pf)] w fun e w'=>e= .returned (.bool true)∧Mod (fun _=>False) w w':=by
 have HS:=Hi h;have hpp:((ph.toNat:Int) !=(ph.toNat:Int))=false:=by simp
 clear h;go_enter Tryz.func174,Tryz.ntmps174;go_upto_region 0 with fail;refine ZP0 [3,0] ?_;refine Zb fun p1 hp1=> ?_;refine Zv ?_;refine TD.nil (fun w1 hr=> ?_);obtain⟨gp1,kp1⟩:=hr.b p1;have m1:=hr.mod;replace kp1:w1.heap[p1]? =some (.cells (shy pa pn ph pf) 107 (0,0)):=kp1;have HS1:=Hi (HS.out.mod hr.mod (fun _ _ _ h=>h));clear hr;go_wp2_with fail;go_loopw [3] (fun s3 ws=>∃i:Nat,i≤pn∧s3= .int .i64 (i:Int)∧Mod (fun _=>False) w1 ws) (fun s3 _=>pn-(intOf s3).toNat)
 case atStart=>exact⟨0,by omega,rfl,Mod.refl _ _⟩
 case round=>
  obtain⟨i,hi,rfl,hm⟩:=hrel;have kp1:=hm.at0 kp1;by_cases hlt:i<pn
  ·rcases wy_get (HS1.out.mod hm (fun _ _ _ h=>h))with hnil|⟨g,o,C,U,ha,kl,hrow⟩
   ·have:=congrArg List.length hnil;simp at this;omega
   have hci:=hrow i ph (by rw[List.getElem?_replicate,if_pos hlt]);have HSL:=Hi hsl;clear hsl hrow;subst ha;go_upto_region 4 with fail;have Lkl:=Ls kl;have Lkp1:=Ls kp1;refine ZP [0,1,0,0,1,0,1,0] ?_
   iterate 8 first|refine Zv ?_|refine Zd ?_
   refine TD.nil (fun w3 hr=> ?_);replace kl:=hr.q kl;replace kp1:=hr.q kp1;have hm3:=hm.then0 hr.mod;clear kl hci;go_wp2_with fail;go_roundw
   case rel=>exact⟨i+1,by omega,by go_num,hm3⟩
   case measure=>simp[intOf];omega
  ·obtain rfl:i=pn:=by omega
   go_upto_region 6 with fail;have Lkp1:=Ls kp1;refine ZP0 [0,1,0,1,0,0,0] ?_
   iterate 5 first|refine Zv ?_|refine Zd ?_
   refine Zx hsl ?_;refine Zv ?_;refine TD.nil (fun w2 hr=> ?_);replace kp1:=hr.q kp1;have m2:=(m1.then0 hm).then0 hr.mod;go_wp2_with fail;go_loopw [5] (fun s5 ws=>s5= .int .i64 (i:Int)∧ws=w2) (fun _ _=>0)
   case atStart=>exact⟨rfl,rfl⟩
   case round=>
    obtain⟨rfl,rfl⟩:=hrel;go_wp2_with fail;go_ret;exact⟨rfl,m2⟩
theorem sign0Z_c (pa:Option Addr) (pn pc:Nat) (ph pf:UInt8) (l:List UInt8) (hl:l.length=pc) (hnc:pn≤pc) (hb:pc≤900000) (w:World) (h:WAtG uc 1 w pa l):Calls Tryz.prog 175 #[.agg (shz pa pn pc ph pf),.bool false] w fun e w'=>e= .returned (.tuple #[])∧(∃m:List UInt8,m.length=pc-pn∧WAtG uc 1 w' pa (List.replicate pn ph++m))∧Mod (InAd pa) w w':=by
 go_enter Tryz.func175,Tryz.ntmps175;go_upto_region 0 with fail;refine ZP0 [3] ?_;refine Zb fun p2 hp2=> ?_;refine TD.nil (fun w1 hr=> ?_);obtain⟨gp2,kp2⟩:=hr.b p2;have m1:=hr.mod;have hW:=h.mod m1 (fun _ _ _ h=>h);have HW0:=Hi h;replace kp2:w1.heap[p2]? =some (.cells (shz pa pn pc ph pf) 107 (0,0)):=kp2;clear h;go_wp2_with fail;go_loopw [4] (fun s4 ws=>∃i:Nat,i≤pn∧s4= .int .i64 (i:Int)∧WAtG uc 1 ws pa (List.replicate i ph++l.drop i)∧Mod (InAd pa) w1 ws∧ws.heap[p2]? =some (.cells (shz pa pn pc ph pf) 107 (0,0))) (fun s4 _=>pn-(intOf s4).toNat)
 case atStart=>exact⟨0,by omega,rfl,by simpa using hW,Mod.refl _ _,kp2⟩
 case round=>
  clear kp2;obtain⟨i,hi,rfl,hW2,hm,kp2⟩:=hrel;by_cases hlt:i<pn
  ·have hlen:(List.replicate i ph++l.drop i).length=pc:=by simp;omega
   rcases wy_get hW2 with hnil|⟨g,o,C,U,ha,kl,hrow⟩
   ·rw[hnil]at hlen;simp at hlen;omega
   ·have HROW:=Hi hrow;have hci:=hrow i _ (List.getElem?_eq_getElem (by omega));have hci2:o+i<C.size:=(Array.getElem?_eq_some_iff.1 hci).1;have hgp:p2≠g:=fun e=>by
     subst e;rcases HW0.out with h0|⟨g0,o0,C0,U0,ha0,kl0,_⟩
     ·rw[h0]at hl;simp at hl;omega
     ·rw[ha]at ha0;cases ha0;have:=Ls kl0;omega
    have HLEN:=Hi hlen;have HL:=Hi hl;clear hrow hW2 hlen hW hl hci;subst ha;go_upto_region 5 with fail;have Lkl:=Ls kl;have Lkp2:=Ls kp2;refine ZP0 [0,1,0,0,1,0,5] ?_
    iterate 6 first|refine Zv ?_|refine Zd ?_
    refine Zi fun wE hr=> ?_;replace kl:=hr.mod.at0 kl;replace kp2:=hr.mod.at0 kp2;have mE:=hr.mod;refine ZS ?_;refine ZN kl fun w3 kl mS=> ?_;replace kp2:=mS.at_ne kp2 (by omega);have HW3:Hid (WAtG uc 1 w3 (some ⟨g,o,none⟩) (List.replicate (i+1) ph++l.drop (i+1))):=Hi (wy_of kl (fun j y hy=>by
     rw[←set_repG (by rw[HL.out];omega)]at hy;rw[Array.getElem?_setIfInBounds];by_cases hj:j=i
     ·subst hj;rw[List.getElem?_set_self (by rw[HLEN.out];omega)]at hy;cases hy;rw[if_pos rfl,if_pos hci2]
     ·rw[List.getElem?_set_ne (fun e=>hj e.symm)]at hy;rw[if_neg (by omega)];exact HROW.out j y hy))
    have hm3:=(hm.then0 mE).then mS (fun j _ e=>⟨o,by rw[e]⟩);clear kl hm mS mE hci2;go_wp2_with fail;go_roundw
    case rel=>exact⟨i+1,by omega,by go_num,HW3.out,hm3,kp2⟩
    case measure=>simp[intOf];omega
  ·obtain rfl:i=pn:=by omega
   have HW2:Hid (∃m:List UInt8,m.length=pc-i∧WAtG uc 1 wr pa (List.replicate i ph++m)):=Hi ⟨l.drop i,by rw[List.length_drop,hl],hW2⟩;clear hW2 hW;go_wp2_with fail;exact bodyPost_ret (v:= .tuple #[]) (results_none rfl _ _ _) rfl ⟨rfl,HW2.out,(m1.mono (fun _ _ h=>h.elim)).trans hm⟩
theorem sign1Z_c (pa:Option Addr) (pn pc:Nat) (ph pf:UInt8) (m:List UInt8) (hl:m.length=pc-pn) (hnc:pn≤pc) (hb:pc≤900000) (hsl:∀w2,(Instr.sliceAt 22 (.slice pa pn pc) none (some (.int .i64 (pc:Int))) none).run Tryz.prog w2= .ok (.slice pa pc pc) w2) (w:World) (h:WAtG uc 1 w pa (List.replicate pn ph++m)):Calls Tryz.prog 175 #[.agg (shz pa pn pc ph pf),.bool true] w fun e w'=>e= .returned (.tuple #[])∧WAtG uc 1 w' pa (List.replicate pn ph++List.replicate (pc-pn) pf)∧Mod (InAd pa) w w':=by
 go_enter Tryz.func175,Tryz.ntmps175;go_upto_region 0 with fail;refine ZP0 [3] ?_;refine Zb fun p2 hp2=> ?_;refine TD.nil (fun w1 hr=> ?_);obtain⟨gp2,kp2⟩:=hr.b p2;have m1:=hr.mod;have HW0:=Hi (Ai h (Ai hl (Ls kp2)));have HG:=Hi gp2;replace kp2:w1.heap[p2]? =some (.cells (shz pa pn pc ph pf) 107 (0,0)):=kp2;have hW:=h.mod m1 (fun _ _ _ h=>h);clear h hr hl;go_upto_region 6 with fail;have Lkp2:=Ls kp2;refine ZP0 [0,1,0,1,0,0,0] ?_
 iterate 5 first|refine Zv ?_|refine Zd ?_
 refine Zx hsl ?_;refine Zv ?_;refine TD.nil (fun w2 hr=> ?_);replace kp2:=hr.q kp2;have m2:=m1.then0 hr.mod;have hW2:WAtG uc 1 w2 pa (List.replicate pn ph++(List.replicate 0 pf++m.drop 0)):=by simpa using hW.mod hr.mod (fun _ _ _ h=>h)
 clear hr hW;go_wp2_with fail;have HM2:=Hi m2;clear m2 m1;go_loopw [6] (fun s6 ws=>∃i:Nat,i≤pc-pn∧s6= .int .i64 ((pn+i:Nat):Int)∧Hid (WAtG uc 1 ws pa (List.replicate pn ph++(List.replicate i pf++m.drop i)))∧Hid (Mod (InAd pa) w ws)∧ws.heap[p2]? =some (.cells (shz pa pn pc ph pf) 107 (0,0))) (fun s6 _=>pc-(intOf s6).toNat)
 case atStart=>exact⟨0,by omega,rfl,Hi hW2,Hi (HM2.out.mono (fun _ _ h=>h.elim)),kp2⟩
 case round=>
  clear kp2 hW2;obtain⟨i,hi,rfl,HWI,HM,kp2⟩:=hrel;obtain⟨q,hq⟩:∃q,pn+i=q:=⟨_,rfl⟩;rw[hq];by_cases hlt:q<pc
  ·have hd:=Dt hlt;have hlen:(List.replicate pn ph++(List.replicate i pf++m.drop i)).length=pc:=by simp;have:=HW0.out.2.1;omega
   have HLEN:=Hi hlen;rcases wy_get HWI.out with hnil|⟨g,o,C,U,ha,kl,hrow⟩
   ·rw[hnil]at hlen;simp at hlen;omega
   ·have HROW:=Hi hrow;have hci2:o+q<C.size:=by
     have h1:=hrow q _ (List.getElem?_eq_getElem (by omega));exact(Array.getElem?_eq_some_iff.1 h1).1
    have hgp:p2≠g:=fun e=>by
     subst e;rcases HW0.out.1 with h0|⟨g0,o0,C0,U0,ha0,kl0,_⟩
     ·have h5:=congrArg List.length h0;have h6:=HW0.out.2.1;rw[List.length_append,List.length_replicate,List.length_nil]at h5;omega
     ·rw[ha]at ha0;cases ha0;have:=Ls kl0;have:=HG.out;omega
    have HQ:=Hi hq;clear hrow hlen hq;subst ha;have hs2:=HQ.out;go_upto_region 10 with fail;have Lkl:=Ls kl;have Lkp2:=Ls kp2;refine ZP0 [0,0,0,1,0,5] ?_
    iterate 5 first|refine Zv ?_|refine Zd ?_
    refine Zi fun wE hr=> ?_;replace kl:=hr.mod.at0 kl;replace kp2:=hr.mod.at0 kp2;have mE:=hr.mod;refine ZS ?_;refine ZN kl fun w3 kl mS=> ?_;replace kp2:=mS.at_ne kp2 (by omega);have HW3:Hid (WAtG uc 1 w3 (some ⟨g,o,none⟩) (List.replicate pn ph++(List.replicate (i+1) pf++m.drop (i+1)))):=Hi (wy_of kl (fun j y hy=>by
     have hset:(List.replicate pn ph++(List.replicate i pf++m.drop i)).set q pf=List.replicate pn ph++(List.replicate (i+1) pf++m.drop (i+1)):=by
      rw[List.set_append_right _ _ (by simp;omega),List.length_replicate,show q-pn=i by have:=HQ.out;omega,set_repG (by have:=HW0.out.2.1;have:=HQ.out;omega)]
     rw[←hset]at hy;rw[Array.getElem?_setIfInBounds];by_cases hj:j=q
     ·subst hj;rw[List.getElem?_set_self (by rw[HLEN.out];exact hlt)]at hy;cases hy;rw[if_pos rfl,if_pos hci2]
     ·rw[List.getElem?_set_ne (fun e=>hj e.symm)]at hy;rw[if_neg (by omega)];exact HROW.out j y hy))
    have HM3:Hid (Mod (InAd (some ⟨g,o,none⟩)) w w3):=Hi ((HM.out.then0 mE).then mS (fun j _ e=>⟨o,by rw[e]⟩));clear kl mS mE hci2 hr;go_wp2_with fail;go_roundw
    case rel=>exact⟨i+1,by have:=HQ.out;omega,by rw[←Nat.add_assoc,HQ.out];go_num,HW3,HM3,kp2⟩
    case measure=>simp[intOf];omega
  ·have hd:=Df hlt;obtain rfl:q=pc:=by omega
   have HWF:Hid (WAtG uc 1 wr pa (List.replicate pn ph++List.replicate (q-pn) pf)):=Hi (by
    have h5:=HWI.out;rw[List.drop_of_length_le (by have:=HW0.out.2.1;omega),List.append_nil,show i=q-pn by omega]at h5;exact h5)
   clear HWI;go_wp2_with fail;go_end0;exact⟨rfl,HWF.out,HM.out⟩
theorem ownZ_c (pa:Option Addr) (pn pc:Nat) (ph pf:UInt8) (hnc:pn≤pc) (hb:pc≤900000) (hsl:∀w2,(Instr.sliceAt 22 (.slice pa pn pc) none (some (.int .i64 (pc:Int))) none).run Tryz.prog w2= .ok (.slice pa pc pc) w2) (w:World) (h:WAtG uc 1 w pa (List.replicate pn ph++List.replicate (pc-pn) pf)):Calls Tryz.prog 174 #[.agg (shz pa pn pc ph pf)] w fun e w'=>e= .returned (.bool true)∧Mod (fun _=>False) w w':=by
 have HS:=Hi h;have hpp:((ph.toNat:Int) !=(ph.toNat:Int))=false:=by simp
 have hff:((pf.toNat:Int) !=(pf.toNat:Int))=false:=by simp
 clear h;go_enter Tryz.func174,Tryz.ntmps174;go_upto_region 0 with fail;refine ZP0 [3,0] ?_;refine Zb fun p1 hp1=> ?_;refine Zv ?_;refine TD.nil (fun w1 hr=> ?_);obtain⟨gp1,kp1⟩:=hr.b p1;have m1:=hr.mod;replace kp1:w1.heap[p1]? =some (.cells (shz pa pn pc ph pf) 107 (0,0)):=kp1;have HS1:=Hi (HS.out.mod hr.mod (fun _ _ _ h=>h));clear hr;go_wp2_with fail;go_loopw [3] (fun s3 ws=>∃i:Nat,i≤pn∧s3= .int .i64 (i:Int)∧Mod (fun _=>False) w1 ws) (fun s3 _=>pn-(intOf s3).toNat)
 case atStart=>exact⟨0,by omega,rfl,Mod.refl _ _⟩
 case round=>
  obtain⟨i,hi,rfl,hm⟩:=hrel;have kp1:=hm.at0 kp1;by_cases hlt:i<pn
  ·rcases wy_get (HS1.out.mod hm (fun _ _ _ h=>h))with hnil|⟨g,o,C,U,ha,kl,hrow⟩
   ·have:=congrArg List.length hnil;simp at this;omega
   have hci:=hrow i ph (by rw[List.getElem?_append_left (by simp;omega),List.getElem?_replicate,if_pos hlt]);have HSL:=Hi hsl;clear hsl hrow;subst ha;go_upto_region 4 with fail;have Lkl:=Ls kl;have Lkp1:=Ls kp1;refine ZP [0,1,0,0,1,0,1,0] ?_
   iterate 8 first|refine Zv ?_|refine Zd ?_
   refine TD.nil (fun w3 hr=> ?_);replace kl:=hr.q kl;replace kp1:=hr.q kp1;have hm3:=hm.then0 hr.mod;clear kl hci;go_wp2_with fail;go_roundw
   case rel=>exact⟨i+1,by omega,by go_num,hm3⟩
   case measure=>simp[intOf];omega
  ·obtain rfl:i=pn:=by omega
   have HMa:=Hi (Ai (m1.then0 hm) hm);clear m1 hm hi hlt;go_upto_region 6 with fail;have Lkp1:=Ls kp1;refine ZP0 [0,1,0,1,0,0,0] ?_
   iterate 5 first|refine Zv ?_|refine Zd ?_
   refine Zx hsl ?_;refine Zv ?_;refine TD.nil (fun w2 hr=> ?_);replace kp1:=hr.q kp1;have HM2:=Hi (HMa.out.1.then0 hr.mod);have HS2:=Hi ((HS1.out.mod HMa.out.2 (fun _ _ _ h=>h)).mod hr.mod (fun _ _ _ h=>h));clear hr;have kp1b:=kp1;clear kp1;go_wp2_with fail;go_loopw [5] (fun s5 ws=>∃q:Nat,i≤q∧q≤pc∧s5= .int .i64 (q:Int)∧Mod (fun _=>False) w2 ws) (fun s5 _=>pc-(intOf s5).toNat)
   case atStart=>exact⟨i,by omega,by omega,rfl,Mod.refl _ _⟩
   case round=>
    obtain⟨q,hq1,hq2,rfl,hm⟩:=hrel;have kp1:=hm.at0 kp1b;by_cases hlt:q<pc
    ·have hd:=Dt hlt;rcases wy_get (HS2.out.mod hm (fun _ _ _ h=>h))with hnil|⟨g,o,C,U,ha,kl,hrow⟩
     ·have:=congrArg List.length hnil;simp at this;omega
     have hci:=hrow q pf (by rw[List.getElem?_append_right (by simp;omega),List.length_replicate,List.getElem?_replicate,if_pos (by omega)]);have HM5:=Hi hm;clear hrow hm kp1b;subst ha;go_upto_region 10 with fail;have Lkl:=Ls kl;have Lkp1:=Ls kp1;refine ZP [0,0,0,1,0,1,0] ?_
     iterate 7 first|refine Zv ?_|refine Zd ?_
     refine TD.nil (fun w3 hr=> ?_);replace kl:=hr.q kl;replace kp1:=hr.q kp1;have HM6:=Hi (HM5.out.then0 hr.mod);clear kl hci hr;go_wp2_with fail;go_roundw
     case rel=>exact⟨q+1,by omega,by omega,by go_num,HM6.out⟩
     case measure=>simp[intOf];omega
    ·have hd:=Df hlt;have HM6:=Hi (HM2.out.then0 hm);clear hm kp1b;go_wp2_with fail;go_ret;exact⟨rfl,HM6.out⟩
end
def bk3 (x y z:UInt8):Key:=⟨[x,y,77,0,0,0,0,0,0,0,0,0,0,0,0,0,0,0,0,0,0,0,0,0,0,0,0,0,0,0,0,z],rfl⟩
def bs3 (x y z:UInt8):Sg:=⟨x::y::z::List.replicate 61 0,by simp⟩
theorem bkbG (x y z:UInt8) (w:World):(Instr.build 82 #[(0,u8v x),(1,u8v y),(2,.int .u8 77),(31,u8v z)]).run Tryz.prog w= .ok (.agg (kc (bk3 x y z))) w:=by kernel_rfl
theorem bsbG1 (x y:UInt8) (w:World):(Instr.build 101 #[(0,u8v x),(1,u8v y),(2,.int .u8 1)]).run Tryz.prog w= .ok (.agg (sgc (bs3 x y 1))) w:=by kernel_rfl
theorem bsbG2 (x y:UInt8) (w:World):(Instr.build 101 #[(0,u8v x),(1,u8v y),(2,.int .u8 2)]).run Tryz.prog w= .ok (.agg (sgc (bs3 x y 2))) w:=by kernel_rfl
theorem byteOf (n:Nat):∃x:UInt8,IntKind.u8.wrap (n:Int)=(x.toNat:Int):=⟨UInt8.ofNat n,by
 rw[IntKind.wrap_u8];simp
 ⟩
theorem keyG_c (n:Nat) (hn:n≤2000000000) {x y:UInt8} (hx:IntKind.u8.wrap (n:Int)=(x.toNat:Int)) (hy:IntKind.u8.wrap ((n:Int)/256)=(y.toNat:Int)) (z:UInt8) (w:World):Calls Tryz.prog 103 #[.int .i64 (n:Int),u8v z] w fun e w'=>e= .returned (.agg (kc (bk3 x y z)))∧Mod (fun _=>False) w w':=by
 have hb:=bkbG x y z;go_enter Tryz.func103,Tryz.ntmps103;go_upto_region 0 with fail;refine ZP0 [3] ?_;refine Za alKey fun p4 hp4=> ?_;refine TD.nil (fun w1 hr=> ?_);obtain⟨gp4,kp4⟩:=hr.b p4;have m1:=hr.mod;have hdv:IntKind.i64.wrap ((n:Int)/256)=(n:Int)/256:=by rw[IntKind.wrap_i64];omega
 go_upto_region 1 with fail;have Lkp4:=Ls kp4;refine ZP0 [0,0,0,0,0,0,0,5] ?_
 iterate 6 refine Zv ?_
 refine Zu hb ?_;refine Zi fun wE hr=> ?_;replace kp4:=hr.mod.at0 kp4;have mE:=hr.mod;refine ZS ?_;refine ZN kp4 fun w2 kp4 mS=> ?_;(try simp only[Array.setIfInBounds,zL]at kp4);have m2:=(m1.then0 mE).thenB mS (.inl gp4);clear hr mE mS;go_wp2_with fail;exact bodyPost_ret (results_cell1 (v:= .agg (kc (bk3 x y z))) rfl rfl (by rw[ldKey];simp[kp4,kc_size,kc_ext])) rfl ⟨rfl,m2⟩
def BookAt (w:World) (r:Nat) (L:List Pg):Prop:=∃v,w.heap[r]? =some (.cells #[v] 64 (0,0))∧SlOwn pgc 1 112 w (r+1) v L
theorem number_c (r:Nat) (L:List Pg) (w:World) (h:BookAt w r L) (hL:L.length≤1000000000):Calls Tryz.prog 60 #[.pointer (some ⟨r,0,none⟩)] w fun e w'=>e= .returned (.int .i64 ((L.length+1:Nat):Int))∧w'=w:=by
 obtain⟨v,kr,hO⟩:=h;obtain⟨a,c,rfl,_⟩:=hO.at pageT;clear hO;have hw:IntKind.i64.wrap ((L.length:Int)+1)=((L.length+1:Nat):Int):=by
  rw[IntKind.wrap_i64];omega
 go_enter Tryz.func60,Tryz.ntmps60;go_wp2_with fail;go_ret;exact⟨by first|rfl|simp,rfl⟩
theorem bldShY (a:Option Addr) (n:Nat) (h f:UInt8) (w:World):(Instr.build 107 #[(0,.slice a n n),(1,u8v h),(2,u8v f)]).run Tryz.prog w= .ok (.agg (shy a n h f)) w:=by kernel_rfl
theorem bldShZ (a:Option Addr) (n c:Nat) (h f:UInt8) (w:World):(Instr.build 107 #[(0,.slice a n c),(1,u8v h),(2,u8v f)]).run Tryz.prog w= .ok (.agg (shz a n c h f)) w:=by kernel_rfl
def zShK:Array Value:= #[.slice none 0 0]++(Array.replicate 32 (.int .u8 0)++Array.replicate 32 (.int .u8 0))
theorem zShK_size:zShK.size=65:=by simp[zShK,zRole]
theorem bldShK (a:Option Addr) (n:Nat) (h f:Key) (w:World):(Instr.build 205 #[(0,.slice a n n),(1,.agg (kc h)),(2,.agg (kc f))]).run Tryz.prog w= .ok (.agg (shk a n h f)) w:=by
 refine run_build_struct (z:= .agg zShK) (places:= #[(0,1),(1,32),(33,32)]) Tryz.underlying205 (fun w=>by kernel_rfl) (fun w=>by kernel_rfl) ?_ w;show Instr.fill _ zShK [(0,_),(1,_),(2,_)]=_;rw[fill_cons (off:=0) (n:=1) rfl rfl (by rw[zShK_size];omega),fill_cons (off:=1) (n:=32) rfl (by simp[Value.cells,kc_size]) (by rw[wr_size,zShK_size];omega),fill_cons (off:=33) (n:=32) rfl (by simp[Value.cells,kc_size]) (by rw[wr_size,wr_size,zShK_size];omega)];refine congrArg some ?_;apply Array.toList_inj.1;have h1:(kc h).toList.length=32:=by rw[Array.length_toList,kc_size]
 have h2:(kc f).toList.length=32:=by rw[Array.length_toList,kc_size]
 have hz:zShK.toList.length=65:=by rw[Array.length_toList,zShK_size]
 obtain⟨z0,z1,hz01⟩:∃z0 z1,zShK.toList=z0::z1:=by
  cases h:zShK.toList with
  |nil=>rw[h]at hz;simp at hz
  |cons x y=>exact⟨x,y,rfl⟩
 have hz1:z1.length=65-1:=by rw[hz01]at hz;simp at hz;omega
 rw[wr_list _ _ _ (by rw[wr_size,wr_size,zShK_size];simp[Value.cells,kc_size]),wr_list _ _ _ (by rw[wr_size,zShK_size];simp[Value.cells,kc_size]),wr_list _ _ _ (by rw[zShK_size];simp[Value.cells])];simp only[Value.cells,shk,Array.toList_append,List.append_nil,List.take_zero,List.nil_append,h1,h2,hz01];simp only[List.length_cons,List.length_nil,List.drop_succ_cons,List.drop_zero,List.cons_append,List.nil_append,List.take_succ_cons,List.take_zero,Nat.zero_add];rw[List.take_append_of_le_length (by simp[h1]),List.take_of_length_le (by simp[h1]),List.drop_of_length_le (by simp[h1,h2,hz1])];simp
def zShR:Array Value:= #[.slice none 0 0]++(zRole++zRole)
theorem zShR_size:zShR.size=69:=by simp[zShR,zRole]
theorem bldShR (a:Option Addr) (n:Nat) (h f:Role) (w:World):(Instr.build 164 #[(0,.slice a n n),(1,.agg (rcr h)),(2,.agg (rcr f))]).run Tryz.prog w= .ok (.agg (shr a n h f)) w:=by
 refine run_build_struct (z:= .agg zShR) (places:= #[(0,1),(1,34),(35,34)]) Tryz.underlying164 (fun w=>by kernel_rfl) (fun w=>by kernel_rfl) ?_ w;show Instr.fill _ zShR [(0,_),(1,_),(2,_)]=_;rw[fill_cons (off:=0) (n:=1) rfl rfl (by rw[zShR_size];omega),fill_cons (off:=1) (n:=34) rfl (by simp[Value.cells,rcr_size]) (by rw[wr_size,zShR_size];omega),fill_cons (off:=35) (n:=34) rfl (by simp[Value.cells,rcr_size]) (by rw[wr_size,wr_size,zShR_size];omega)];refine congrArg some ?_;apply Array.toList_inj.1;have h1:(rcr h).toList.length=34:=by rw[Array.length_toList,rcr_size]
 have h2:(rcr f).toList.length=34:=by rw[Array.length_toList,rcr_size]
 have hz:zShR.toList.length=69:=by rw[Array.length_toList,zShR_size]
 obtain⟨z0,z1,hz01⟩:∃z0 z1,zShR.toList=z0::z1:=by
  cases h:zShR.toList with
  |nil=>rw[h]at hz;simp at hz
  |cons x y=>exact⟨x,y,rfl⟩
 have hz1:z1.length=69-1:=by rw[hz01]at hz;simp at hz;omega
 rw[wr_list _ _ _ (by rw[wr_size,wr_size,zShR_size];simp[Value.cells,rcr_size]),wr_list _ _ _ (by rw[wr_size,zShR_size];simp[Value.cells,rcr_size]),wr_list _ _ _ (by rw[zShR_size];simp[Value.cells])];simp only[Value.cells,shr,Array.toList_append,List.append_nil,List.take_zero,List.nil_append,h1,h2,hz01];simp only[List.length_cons,List.length_nil,List.drop_succ_cons,List.drop_zero,List.cons_append,List.nil_append,List.take_succ_cons,List.take_zero,Nat.zero_add];rw[List.take_append_of_le_length (by simp[h1]),List.take_of_length_le (by simp[h1]),List.drop_of_length_le (by simp[h1,h2,hz1])];simp
def zShS:Array Value:= #[.slice none 0 0]++(Array.replicate 64 (.int .u8 0)++Array.replicate 64 (.int .u8 0))
theorem zShS_size:zShS.size=129:=by simp[zShS,zRole]
theorem bldShS (a:Option Addr) (n:Nat) (h f:Sg) (w:World):(Instr.build 166 #[(0,.slice a n n),(1,.agg (sgc h)),(2,.agg (sgc f))]).run Tryz.prog w= .ok (.agg (shs a n h f)) w:=by
 refine run_build_struct (z:= .agg zShS) (places:= #[(0,1),(1,64),(65,64)]) Tryz.underlying166 (fun w=>by kernel_rfl) (fun w=>by kernel_rfl) ?_ w;show Instr.fill _ zShS [(0,_),(1,_),(2,_)]=_;rw[fill_cons (off:=0) (n:=1) rfl rfl (by rw[zShS_size];omega),fill_cons (off:=1) (n:=64) rfl (by simp[Value.cells,sgc_size]) (by rw[wr_size,zShS_size];omega),fill_cons (off:=65) (n:=64) rfl (by simp[Value.cells,sgc_size]) (by rw[wr_size,wr_size,zShS_size];omega)];refine congrArg some ?_;apply Array.toList_inj.1;have h1:(sgc h).toList.length=64:=by rw[Array.length_toList,sgc_size]
 have h2:(sgc f).toList.length=64:=by rw[Array.length_toList,sgc_size]
 have hz:zShS.toList.length=129:=by rw[Array.length_toList,zShS_size]
 obtain⟨z0,z1,hz01⟩:∃z0 z1,zShS.toList=z0::z1:=by
  cases h:zShS.toList with
  |nil=>rw[h]at hz;simp at hz
  |cons x y=>exact⟨x,y,rfl⟩
 have hz1:z1.length=129-1:=by rw[hz01]at hz;simp at hz;omega
 rw[wr_list _ _ _ (by rw[wr_size,wr_size,zShS_size];simp[Value.cells,sgc_size]),wr_list _ _ _ (by rw[wr_size,zShS_size];simp[Value.cells,sgc_size]),wr_list _ _ _ (by rw[zShS_size];simp[Value.cells])];simp only[Value.cells,shs,Array.toList_append,List.append_nil,List.take_zero,List.nil_append,h1,h2,hz01];simp only[List.length_cons,List.length_nil,List.drop_succ_cons,List.drop_zero,List.cons_append,List.nil_append,List.take_succ_cons,List.take_zero,Nat.zero_add];rw[List.take_append_of_le_length (by simp[h1]),List.take_of_length_le (by simp[h1]),List.drop_of_length_le (by simp[h1,h2,hz1])];simp
theorem bsPage (p:Pg) (w:World):(Instr.buildSlice 62 1 #[(0,.iface (shT p) (.agg (shc p)))]).run Tryz.prog w= .ok (.slice (some ⟨w.heap.size,0,none⟩) 1 1) (w.alloc (.cells (pgc p) 112)):=by
 obtain⟨i0,z,hi,hz,hz1,hz2,hz3⟩:=pageT.info;refine run_buildSlice w _ _ 1 _ _ i0 _ Tryz.underlying62 hi hz (by rw[hz1];omega) (by rw[hz1];omega) ?_;rw[hz1];show Instr.fill _ _ [(0,_)]=_;rw[fill_cons (off:=0) (n:=1) rfl rfl (by simp)];show some (wr _ 0 (pgc p).toList)=_;rw[wr_whole (pgc p) _ (by simp[pgc,hz3])]
section
abbrev Pl:=Nat×Option Addr×Nat
def Pg.pl:Pg→Pl
 | .y a n _ _=>(0,a,n)
 | .k a n _ _=>(1,a,n)
 | .s a n _ _=>(2,a,n)
 | .r a n _ _=>(3,a,n)
 | .z a n c _ _=>(4+c,a,n)
def plB (p:Pl):List Nat:=(Value.slice p.2.1 0 0).ownBlock.toList
theorem plB_eq (k:Nat) (a:Option Addr) (n m c:Nat):plB (k,a,n)=(Value.slice a m c).ownBlock.toList:=by cases a<;>rfl
theorem plB_in {p:Pl} {g:Nat} (h:InAd p.2.1 g):g∈plB p:=by
 obtain⟨k,a,n⟩:=p;obtain⟨o,h⟩:=h;simp only at h;subst h;simp[plB,Value.ownBlock]
def FmL (a:Option Addr) (n:Nat):Prop:=(a=none∧n=0)∨∃g,a=some ⟨g,0,none⟩
section
variable {α:Type} {f:α→Array Value} {n B:Nat} {P:Program} {T E:TypeId}
theorem NewS.fm {b m c:Nat} {w:World} {a:Option Addr} {l:List α} (h:NewS f n E b w (.slice a m c) l):FmL a l.length:=by
 rcases h with⟨h1,h2⟩|⟨g,cur,h1,_⟩
 ·injection h1 with h1 _ _
  subst h1;subst h2;exact .inl ⟨rfl,rfl⟩
 ·injection h1 with h1 _ _
  exact .inr ⟨g,h1⟩
theorem sl_nil (hT:ElT P T E f n B) (w:World):(Instr.sliceAt T (.slice none 0 0) none (some (.int .i64 0)) none).run P w= .ok (.slice none 0 0) w:=by
 obtain⟨i0,z,hi,hz,hz1,hz2,hz3⟩:=hT.info;simp only[Instr.sliceAt,Instr.slice,Instr.sliceBounds,Instr.sliceBound,asIntOf,sizeOf,typeInfo,run_underlying hT.u,hi,Sem.run_bind,Sem.run_pure,Result.andThen_ok];rw[if_pos ⟨by omega,by omega⟩];simp[Sem.run_pure,Result.andThen_ok,Go.program,Sem.run,hi,hz1]
theorem sl_all (hT:ElT P T E f n B) {a:Option Addr} {m:Nat} (h:FmL a m) (w:World):(Instr.sliceAt T (.slice a m m) none (some (.int .i64 (m:Int))) none).run P w= .ok (.slice a m m) w:=by
 rcases h with⟨rfl,rfl⟩|⟨g,rfl⟩
 ·exact sl_nil hT w
 ·exact sl_take hT (Nat.le_refl _) w
end
def WrL (w:World) (p:Pl):Prop:=FmL p.2.1 p.2.2∧(p.1=0→∃l,l.length=p.2.2∧WAtG uc 1 w p.2.1 l)∧(p.1=1→∃l,l.length=p.2.2∧WAtG kc 32 w p.2.1 l)∧(p.1=2→∃l,l.length=p.2.2∧WAtG sgc 64 w p.2.1 l)∧(p.1=3→∃l,l.length=p.2.2∧WAtG rcr 34 w p.2.1 l)∧(4≤p.1→(∃l,l.length=p.1-4∧WAtG uc 1 w p.2.1 l)∧p.2.2≤p.1-4∧p.1≤900000∧∃g,p.2.1=some ⟨g,0,none⟩)
theorem pl_a (p:Pg):p.pl.2.1=p.a:=by cases p<;>rfl
theorem WrL.mod {w w':World} {p:Pl} {S:Nat→Prop} (h:WrL w p) (hm:Mod S w w') (hS:∀g,InAd p.2.1 g→¬S g):WrL w' p:=by
 refine⟨h.1,fun e=> ?_,fun e=> ?_,fun e=> ?_,fun e=> ?_,fun e=> ?_⟩
 ·obtain⟨l,h1,h2⟩:=h.2.1 e;exact⟨l,h1,h2.mod hm (fun b o e=>hS b ⟨o,e⟩)⟩
 ·obtain⟨l,h1,h2⟩:=h.2.2.1 e;exact⟨l,h1,h2.mod hm (fun b o e=>hS b ⟨o,e⟩)⟩
 ·obtain⟨l,h1,h2⟩:=h.2.2.2.1 e;exact⟨l,h1,h2.mod hm (fun b o e=>hS b ⟨o,e⟩)⟩
 ·obtain⟨l,h1,h2⟩:=h.2.2.2.2.1 e;exact⟨l,h1,h2.mod hm (fun b o e=>hS b ⟨o,e⟩)⟩
 ·obtain⟨⟨l,h1,h2⟩,h3⟩:=h.2.2.2.2.2 e;exact⟨⟨l,h1,h2.mod hm (fun b o e=>hS b ⟨o,e⟩)⟩,h3⟩
def insPl (L:List InR):List Pl:=L.flatMap fun r=>[(0,r.a.a,r.a.l.length),(0,r.d.a,r.d.l.length)]
def losPl (L:List LoR):List Pl:=L.flatMap fun r=>[(0,r.w.a,r.w.l.length),(0,r.r.a,r.r.l.length)]
def msgPl (x:RdR):List Pl:=(1,x.ks.a,x.ks.l.length)::(insPl x.ins.l++losPl x.lks.l)
def txPl (x:RdR):List Pl:=(2,x.sg.a,x.sg.l.length)::msgPl x
theorem insPl_b (L:List InR):(insPl L).flatMap plB=insB L:=by
 unfold insPl insB;rw[List.flatMap_assoc];congr 1;funext r;simp only[List.flatMap_cons,List.flatMap_nil,List.append_nil];rw[plB_eq 0 r.a.a _ r.a.l.length r.a.c,plB_eq 0 r.d.a _ r.d.l.length r.d.c];rfl
theorem losPl_b (L:List LoR):(losPl L).flatMap plB=losB L:=by
 unfold losPl losB;rw[List.flatMap_assoc];congr 1;funext r;simp only[List.flatMap_cons,List.flatMap_nil,List.append_nil];rw[plB_eq 0 r.w.a _ r.w.l.length r.w.c,plB_eq 0 r.r.a _ r.r.l.length r.r.c];rfl
theorem txPl_b (x:RdR):(txPl x).flatMap plB=blk x:=by
 unfold txPl msgPl blk;rw[List.flatMap_cons,List.flatMap_cons,List.flatMap_append,insPl_b,losPl_b,plB_eq 2 x.sg.a _ x.sg.l.length x.sg.c,plB_eq 1 x.ks.a _ x.ks.l.length x.ks.c]
theorem All2.left {α β:Type} {R:α→β→Prop} {l:List α} {m:List β} (h:All2 R l m):∀x∈l,∃y∈m,R x y:=by
 induction h with
 |nil=>exact fun x h=>by cases h
 | @cons a b l m hx _ ih=>
  intro x hx';rcases List.mem_cons.1 hx' with rfl|hx'
  ·exact⟨b,List.mem_cons_self,hx⟩
  ·obtain⟨y,h1,h2⟩:=ih x hx';exact⟨y,List.mem_cons_of_mem _ h1,h2⟩
theorem WrL.y {b c m:Nat} {w:World} {a:Option Addr} {l:List UInt8} (h:NewS uc 1 5 b w (.slice a m c) l):WrL w (0,a,l.length):=⟨h.fm,fun _=>⟨l,rfl,WAtG.of h⟩,fun e=>(by cases e),fun e=>(by cases e),fun e=>(by cases e),fun e=>absurd (show 4≤0 from e) (by decide)⟩
theorem WrL.k {b c m:Nat} {w:World} {a:Option Addr} {l:List Key} (h:NewS kc 32 82 b w (.slice a m c) l):WrL w (1,a,l.length):=⟨h.fm,fun e=>(by cases e),fun _=>⟨l,rfl,WAtG.of h⟩,fun e=>(by cases e),fun e=>(by cases e),fun e=>absurd (show 4≤1 from e) (by decide)⟩
theorem WrL.s {b c m:Nat} {w:World} {a:Option Addr} {l:List Sg} (h:NewS sgc 64 101 b w (.slice a m c) l):WrL w (2,a,l.length):=⟨h.fm,fun e=>(by cases e),fun e=>(by cases e),fun _=>⟨l,rfl,WAtG.of h⟩,fun e=>(by cases e),fun e=>absurd (show 4≤2 from e) (by decide)⟩
theorem WrL.r {b c m:Nat} {w:World} {a:Option Addr} {l:List Role} (h:NewS rcr 34 91 b w (.slice a m c) l):WrL w (3,a,l.length):=⟨h.fm,fun e=>(by cases e),fun e=>(by cases e),fun e=>(by cases e),fun _=>⟨l,rfl,WAtG.of h⟩,fun e=>absurd (show 4≤3 from e) (by decide)⟩
theorem ins_pl {b:Nat} {w:World} {L:List InR} {xs:List InP} (h:InsOk b w L xs) (hb:∀x∈xs,InB x):∀p∈insPl L,WrL w p∧p.2.2≤65535:=by
 intro p hp;obtain⟨r,hr,hp⟩:=List.mem_flatMap.1 hp;obtain⟨x,hx,_,h2,h3,h4,h5⟩:=h.1.left r hr;have hB:=hb x hx;rw[←h2]at h4;rw[←h3]at h5;simp only[List.mem_cons,List.not_mem_nil,or_false]at hp;rcases hp with rfl|rfl
 ·exact⟨WrL.y h4,by rw[h2];exact hB.1⟩
 ·exact⟨WrL.y h5,by rw[h3];exact hB.2⟩
theorem los_pl {b:Nat} {w:World} {L:List LoR} {xs:List LoP} (h:LosOk b w L xs) (hb:∀x∈xs,LoB x):∀p∈losPl L,WrL w p∧p.2.2≤65535:=by
 intro p hp;obtain⟨r,hr,hp⟩:=List.mem_flatMap.1 hp;obtain⟨x,hx,_,h2,h3,h4,h5⟩:=h.1.left r hr;have hB:=hb x hx;rw[←h2]at h4;rw[←h3]at h5;simp only[List.mem_cons,List.not_mem_nil,or_false]at hp;rcases hp with rfl|rfl
 ·exact⟨WrL.y h4,by rw[h2];exact hB.1⟩
 ·exact⟨WrL.y h5,by rw[h3];exact hB.2⟩
def DjP (p q:Pl):Prop:=∀g∈plB p,g∉plB q
theorem djP_of {Q:List Pl} (h:(Q.flatMap plB).Pairwise (·<·)):Q.Pairwise DjP:=by
 rw[List.pairwise_flatMap]at h;exact h.2.imp (fun hpq g hg hg'=>by have:=hpq g hg g hg';omega)
theorem tx_pl {b:Nat} {w:World} {x:RdR} (h:TxO b w x) (hB:TxB (txP x)):(∀p∈txPl x,WrL w p∧p.2.2≤65535)∧(txPl x).Pairwise DjP:=by
 obtain⟨h1,h2,h3,h4,h5,h6,h7⟩:=h;have hr:∀p∈insPl x.ins.l++losPl x.lks.l,∀g∈plB p,∃C,w.heap[g]? =some (.cells C 5 (0,0)):=by
  intro p hp g hg;have hm:g∈(insPl x.ins.l++losPl x.lks.l).flatMap plB:=List.mem_flatMap.2 ⟨p,hp,hg⟩;rw[List.flatMap_append,insPl_b,losPl_b]at hm;rcases List.mem_append.1 hm with hm|hm
  ·exact(h4.2.2 g hm).2.2
  ·exact(h6.2.2 g hm).2.2
 have hs:∀g∈plB (2,x.sg.a,x.sg.l.length),∃C,w.heap[g]? =some (.cells C 101 (0,0)):=by
  intro g hg;rw[plB_eq 2 x.sg.a _ x.sg.l.length x.sg.c,Option.mem_toList]at hg;exact h1.ty hg
 have hk:∀g∈plB (1,x.ks.a,x.ks.l.length),∃C,w.heap[g]? =some (.cells C 82 (0,0)):=by
  intro g hg;rw[plB_eq 1 x.ks.a _ x.ks.l.length x.ks.c,Option.mem_toList]at hg;exact h2.ty hg
 refine⟨fun p hp=> ?_,?_⟩
 ·rcases List.mem_cons.1 hp with rfl|hp
  ·exact⟨WrL.s h1,hB.1⟩
  rcases List.mem_cons.1 hp with rfl|hp
  ·exact⟨WrL.k h2,hB.2.1⟩
  rcases List.mem_append.1 hp with hp|hp
  ·exact ins_pl h4 hB.2.2.1.2 p hp
  ·exact los_pl h6 hB.2.2.2.2 p hp
 ·unfold txPl msgPl;refine List.pairwise_cons.2 ⟨fun q hq g hg hg'=> ?_,List.pairwise_cons.2 ⟨fun q hq g hg hg'=> ?_,djP_of ?_⟩⟩
  ·obtain⟨C,e1⟩:=hs g hg;rcases List.mem_cons.1 hq with rfl|hq
   ·obtain⟨C',e2⟩:=hk g hg';rw[e1]at e2;injection e2 with e2
    injection e2 with _ e2
    simp at e2
   ·obtain⟨C',e2⟩:=hr q hq g hg';rw[e1]at e2;injection e2 with e2
    injection e2 with _ e2
    simp at e2
  ·obtain⟨C,e1⟩:=hk g hg;obtain⟨C',e2⟩:=hr q hq g hg';rw[e1]at e2;injection e2 with e2
   injection e2 with _ e2
   simp at e2
  ·rw[List.flatMap_append,insPl_b,losPl_b];exact List.pairwise_append.2 ⟨h4.2.1,h6.2.1,fun a ha c hc=>h7 a ha c hc⟩
theorem insPl_len (L:List InR):(insPl L).length=2*L.length:=by
 induction L with
 |nil=>rfl
 |cons x l ih=>rw[insPl,List.flatMap_cons,List.length_append,←insPl,ih];simp;omega
theorem losPl_len (L:List LoR):(losPl L).length=2*L.length:=by
 induction L with
 |nil=>rfl
 |cons x l ih=>rw[losPl,List.flatMap_cons,List.length_append,←losPl,ih];simp;omega
theorem txPl_len {x:RdR} (hB:TxB (txP x)):(txPl x).length≤262142:=by
 have h1:=hB.2.2.1.1;have h2:=hB.2.2.2.1;simp only[txP,msgP,List.length_map]at h1 h2;simp only[txPl,msgPl,List.length_cons,List.length_append,insPl_len,losPl_len];omega
theorem WrL.z {w:World} {g n c:Nat} {l:List UInt8} (hl:l.length=c) (hn:n≤c) (hc:c≤800000) (h:WAtG uc 1 w (some ⟨g,0,none⟩) l):WrL w (4+c,some ⟨g,0,none⟩,n):=
 ⟨.inr ⟨g,rfl⟩,fun e=>absurd e (by show¬4+c=0;omega),fun e=>absurd e (by show¬4+c=1;omega),fun e=>absurd e (by show¬4+c=2;omega),fun e=>absurd e (by show¬4+c=3;omega),fun _=>⟨⟨l,by show l.length=4+c-4;omega,h⟩,by show n≤4+c-4;omega,by show 4+c≤900000;omega,g,rfl⟩⟩
theorem sl_room (g n c:Nat) (w:World):(Instr.sliceAt 22 (.slice (some ⟨g,0,none⟩) n c) none (some (.int .i64 (c:Int))) none).run Tryz.prog w= .ok (.slice (some ⟨g,0,none⟩) c c) w:=sl_take bytesT (Nat.le_refl _) w
theorem zf {w:World} {a:Option Addr} {n c:Nat} (h:WrL w (4+c,a,n)):(∃l,l.length=c∧WAtG uc 1 w a l)∧n≤c∧c≤900000∧∃g,a=some ⟨g,0,none⟩:=by
 obtain⟨⟨l,h1,h2⟩,h3,h4,h5⟩:=h.2.2.2.2.2 (by show 4≤4+c;omega);have h1':l.length=4+c-4:=h1;have h3':n≤4+c-4:=h3;have h4':4+c≤900000:=h4;exact⟨⟨l,by omega,h2⟩,by omega,by omega,h5⟩
theorem signG0_c (p:Pg) (w:World) (h:WrL w p.pl) (hb:p.pl.2.2≤65535):Calls Tryz.prog (signF p) #[.agg (shc p),.bool false] w fun e w'=>e= .returned (.tuple #[])∧SgQ w' p∧Mod (InAd p.a) w w':=by
 cases p with
 |y a n h' f=>
  obtain⟨l,hl,hw⟩:=h.2.1 rfl;exact sign0Y_c a n h' f l hl (Nat.le_trans hb (by decide)) w hw
 |k a n h' f=>
  obtain⟨l,hl,hw⟩:=h.2.2.1 rfl;exact sign0K_c a n h' f l hl (Nat.le_trans hb (by decide)) w hw
 |s a n h' f=>
  obtain⟨l,hl,hw⟩:=h.2.2.2.1 rfl;exact sign0S_c a n h' f l hl (Nat.le_trans hb (by decide)) w hw
 |r a n h' f=>
  obtain⟨l,hl,hw⟩:=h.2.2.2.2.1 rfl;exact sign0R_c a n h' f l hl (Nat.le_trans hb (by decide)) w hw
 |z a n c h' f=>
  obtain⟨⟨l,hl,hw⟩,h2,h3,-⟩:=zf h;exact sign0Z_c a n c h' f l hl h2 h3 w hw
theorem signG1_c (p:Pg) (w0 w:World) (h:WrL w0 p.pl) (hb:p.pl.2.2≤65535) (hs:SgQ w p):Calls Tryz.prog (signF p) #[.agg (shc p),.bool true] w fun e w'=>e= .returned (.tuple #[])∧SgP w' p∧Mod (InAd p.a) w w':=by
 cases p with
 |y a n h' f=>exact(sign1Y_c a n h' f (Nat.le_trans hb (by decide)) (sl_all bytesT h.1) w).mono (fun e w' q=>⟨q.1,SgP.mod hs q.2 (fun _ _ h=>h),q.2.mono (fun _ _ h=>h.elim)⟩)
 |k a n h' f=>exact(sign1K_c a n h' f (Nat.le_trans hb (by decide)) (sl_all keysT h.1) w).mono (fun e w' q=>⟨q.1,SgP.mod hs q.2 (fun _ _ h=>h),q.2.mono (fun _ _ h=>h.elim)⟩)
 |s a n h' f=>exact(sign1S_c a n h' f (Nat.le_trans hb (by decide)) (sl_all sgT h.1) w).mono (fun e w' q=>⟨q.1,SgP.mod hs q.2 (fun _ _ h=>h),q.2.mono (fun _ _ h=>h.elim)⟩)
 |r a n h' f=>exact(sign1R_c a n h' f (Nat.le_trans hb (by decide)) (sl_all rolesT h.1) w).mono (fun e w' q=>⟨q.1,SgP.mod hs q.2 (fun _ _ h=>h),q.2.mono (fun _ _ h=>h.elim)⟩)
 |z a n c h' f=>
  obtain⟨-,h2,h3,g,rfl⟩:=zf h;obtain⟨m,h4,h5⟩:=hs;exact sign1Z_c _ n c h' f m h4 h2 h3 (sl_room g n c) w h5
theorem ownG_c (p:Pg) (w0 w:World) (h:WrL w0 p.pl) (hb:p.pl.2.2≤65535) (hs:SgP w p):Calls Tryz.prog (ownF p) #[.agg (shc p)] w fun e w'=>e= .returned (.bool true)∧Mod (fun _=>False) w w':=by
 cases p with
 |y a n h' f=>exact ownY_c a n h' f (Nat.le_trans hb (by decide)) (sl_all bytesT h.1) w hs
 |k a n h' f=>exact ownK_c a n h' f (Nat.le_trans hb (by decide)) (sl_all keysT h.1) w hs
 |s a n h' f=>exact ownS_c a n h' f (Nat.le_trans hb (by decide)) (sl_all sgT h.1) w hs
 |r a n h' f=>exact ownR_c a n h' f (Nat.le_trans hb (by decide)) (sl_all rolesT h.1) w hs
 |z a n c h' f=>
  obtain⟨-,h2,h3,g,rfl⟩:=zf h;exact ownZ_c _ n c h' f h2 h3 (sl_room g n c) w hs
end
theorem ns_rd {α:Type} {f:α→Array Value} {n:Nat} {E:TypeId} {b m c:Nat} {w:World} {a:Option Addr} {l:List α} (h:NewS f n E b w (.slice a m c) l):SlAt f n w a l:=(WAtG.of h).sl
theorem so_rd {α:Type} {P:Program} {T E:TypeId} {f:α→Array Value} {n B:Nat} (hT:ElT P T E f n B) {w:World} {base m c:Nat} {a:Option Addr} {l:List α} (h:SlOwn f n E w base (.slice a m c) l):SlAt f n w a l:=by
 obtain⟨a',c',e,hs,_⟩:=h.at hT;injection e with e _ _
 rw[e];exact hs
theorem TxO.rd {b:Nat} {w:World} {x:RdR} (h:TxO b w x) (hB:TxB (txP x)):TxRd w x:=by
 obtain⟨h1,h2,h3,h4,h5,h6,h7⟩:=h;obtain⟨b1,b2,⟨b3,b4⟩,b5,b6⟩:=hB;simp only[txP,msgP,List.length_map]at b1 b2 b3 b4 b5 b6;refine⟨⟨ns_rd h1,by omega⟩,⟨ns_rd h2,by omega⟩,⟨ns_rd h3,by omega,fun i hi=> ?_⟩,ns_rd h5,by omega,fun i hi=> ?_⟩
 ·obtain⟨y,hy,_,e2,e3,e4,e5⟩:=h4.1.left i hi;have hb:=b4 y hy;rw[←e2]at e4;rw[←e3]at e5;exact⟨⟨ns_rd e4,by rw[e2];exact Nat.le_trans hb.1 (by decide)⟩,⟨ns_rd e5,by rw[e3];exact Nat.le_trans hb.2 (by decide)⟩⟩
 ·obtain⟨y,hy,_,e2,e3,e4,e5⟩:=h6.1.left i hi;have hb:=b6 y hy;rw[←e2]at e4;rw[←e3]at e5;exact⟨⟨ns_rd e4,by rw[e2];exact Nat.le_trans hb.1 (by decide)⟩,⟨ns_rd e5,by rw[e3];exact Nat.le_trans hb.2 (by decide)⟩⟩
theorem TxLd.rd {b:Nat} {w:World} {x:RdR} (h:TxLd b w x) (hB:TxB (txP x)):TxRd w x:=by
 obtain⟨h1,h2,⟨h3,h4⟩,h5,h6⟩:=h;obtain⟨b1,b2,⟨b3,b4⟩,b5,b6⟩:=hB;simp only[txP,msgP,List.length_map]at b1 b2 b3 b4 b5 b6;refine⟨⟨so_rd sgT h1,by omega⟩,⟨so_rd keysT h2,by omega⟩,⟨so_rd instrT h3,by omega,fun i hi=> ?_⟩,so_rd lookupT h5,by omega,fun i hi=> ?_⟩
 ·have hb:=b4 (inP i) (List.mem_map_of_mem hi);exact⟨⟨(h4 i hi).1.1,Nat.le_trans hb.1 (by decide)⟩,⟨(h4 i hi).2.1,Nat.le_trans hb.2 (by decide)⟩⟩
 ·have hb:=b6 (loP i) (List.mem_map_of_mem hi);exact⟨⟨(h6 i hi).1.1,Nat.le_trans hb.1 (by decide)⟩,⟨(h6 i hi).2.1,Nat.le_trans hb.2 (by decide)⟩⟩
section
attribute [local go_sem↓] wlTc ldTc stTc
attribute [local go_sem] txr_size txr_all txr_one txr_one' txr0 txr38 txr39 txr0' txr38' txr39' zTx_size
attribute [local go_sem] txr2 txr5 txr2' txr5' txr_hd zTc_size zTc_ext zTc_all zTc_all0
theorem chk_ne {l:List UInt8} {n:Nat} (h:wireP l= .error n):n≠0:=by
 unfold wireP at h;split at h
 ·rename_i e he;cases h;exact wP_ne l n he
 ·split at h
  ·cases h
  ·cases h;assumption
def WirP (w:World) (l:List UInt8) (e:Ending) (w':World):Prop:=Mod (fun _=>False) w w'∧match wireP l with
 | .ok x=>∃r,e= .returned (.tuple #[.agg (txr r),i64n 0])∧TxO w.heap.size w' r∧txP r=x∧TxB x
 | .error n=>e= .returned (.tuple #[.agg zTc,i64n n])
def G2 (p2 p3:Nat) (X:Array Value) (E:Int):Land:=fun T w=>(T p2∧w.heap[p2]? =some (.cells X 35 (0,0)))∧(T p3∧w.heap[p3]? =some (.cells #[.int .i64 E] 42 (0,0)))
theorem ldX {w:World} {p:Nat} {X:Array Value} (hX:X.size=40) (h:w.heap[p]? =some (.cells X 35 (0,0))):(Instr.loadAt 35 (pV p)).run Tryz.prog w= .ok (.agg X) w:=by
 rw[ldTc,h];have:X.extract 0 40=X:=by rw[←hX];simp
 simp[hX,this]
theorem wire1_c {p2 p3 n:Nat} {X:Array Value} {w:World} (h2:w.heap[p2]? =some (.cells X 35 (0,0))) (h3:w.heap[p3]? =some (.cells #[.int .i64 (n:Int)] 42 (0,0))) (hX:X.size=40) (h1:p2≠p3):
  CallsD Tryz.prog 53 #[pV p3,pV p2] .returning w fun e u' w'=>u'= .returning∧(e= .returned (.tuple #[])∧w'.heap[p2]? =some (.cells (if n=0 then X else zTc) 35 (0,0))∧w'.heap[p3]? =some (.cells #[.int .i64 (n:Int)] 42 (0,0))∧Mod (fun i=>i=p2) w w'):=by
 have hbt:=bTx0;by_cases hn:n=0
 ·rw[if_pos hn];have hd:((n:Int) !=0)=false:=by simp[hn]
  refine callsD_of_wp Tryz.func53 rfl ?_;simp only[Tryz.ntmps53,List.size_toArray,List.length_cons,List.length_nil,Nat.reduceAdd,Nat.reduceSub,Array.replicate_succ,Array.replicate_zero,List.push_toArray,List.append_toArray,List.nil_append,List.cons_append];have HH:=Hi h2;clear hn;go_wp2_with fail;exact bodyPost_end (results_none rfl _ _ _) rfl ⟨rfl,HH.out,h3,Mod.refl _ _⟩
 ·rw[if_neg hn];have hd:((n:Int) !=0)=true:=by simp[hn]
  refine callsD_of_wp Tryz.func53 rfl ?_;simp only[Tryz.ntmps53,List.size_toArray,List.length_cons,List.length_nil,Nat.reduceAdd,Nat.reduceSub,Array.replicate_succ,Array.replicate_zero,List.push_toArray,List.append_toArray,List.nil_append,List.cons_append];clear hn;go_upto_region 1 with fail;have Lh2:=Ls h2;have Lh3:=Ls h3;refine ZP0 [0,5] ?_;refine Zu hbt ?_;refine Zi fun w2 hr=> ?_;replace h2:=hr.q h2;replace h3:=hr.q h3;have HM2:=Hi (hr.mod);clear hr;refine ZS ?_;refine ZN h2 fun wn h2 mS=> ?_;have HF:=Hi (Ai h2 (Ai (mS.at_ne h3 h1.symm) ((HM2.out.mono (fun _ _ h=>h.elim)).trans mS)));clear h2 h3 mS;go_wp2_with fail;exact bodyPost_end (results_none rfl _ _ _) rfl ⟨rfl,HF.out⟩
theorem two {w w1:World} {A B:Obj} (h:w1=(w.alloc A).alloc B):w1.heap.size=w.heap.size+2∧w1.heap[w.heap.size]? =some A∧w1.heap[w.heap.size+1]? =some B∧Mod (fun _=>False) w w1:=by
 have hz:∀(v:World) (o:Obj),(v.alloc o).heap.size=v.heap.size+1:=fun v o=>Array.size_push ..;have e1:=hz w A;have e2:=hz (w.alloc A) B;rw[e1]at e2;have a1:=heap_alloc_new w A;have a2:=heap_alloc_new (w.alloc A) B;rw[e1]at a2;have m2:=(Mod.refl (fun _=>False) (w.alloc A)).alloc B;rw[←h]at a2 e2 m2;exact⟨e2,m2.at0 a1,a2,((Mod.refl _ w).alloc _).trans m2⟩
theorem results_cell2 {P:Program} {fn:Func} {t1 t2:Tmp} {T1 T2:TypeId} {tmps:Array Value} {p1 p2:Addr} {v1 v2:Value} {w:World} (h:fn.results= #[.cell t1 T1,.cell t2 T2])
  (h1:tmps.getD t1 undef= .pointer (some p1)) (h2:tmps.getD t2 undef= .pointer (some p2))
  (k1:(Instr.loadAt T1 (.pointer (some p1))).run P w= .ok v1 w) (k2:(Instr.loadAt T2 (.pointer (some p2))).run P w= .ok v2 w):(results fn tmps).run P w= .ok (.tuple #[v1,v2]) w:=by
 have l1:(loadVar T1 p1).run P w= .ok v1 w:=by simpa[Instr.loadAt,Instr.sureAddr] using k1
 have l2:(loadVar T2 p2).run P w= .ok v2 w:=by simpa[Instr.loadAt,Instr.sureAddr] using k2
 unfold results;rw[h];have hmap:∀ {α β:Type} (f:α→β) (x:Sem α) (w:World),(f<$>x).run P w=(x.run P w).andThen fun a w=> .ok (f a) w:=fun f x w=>by
  show(x>>=fun a=>pure (f a)).run P w=_;rw[Sem.run_bind];rfl
 simp only[List.mapM_toArray,List.mapM_cons,List.mapM_nil,h1,h2,asAddr,Sem.run_bind,hmap,Sem.run_pure,Result.andThen_ok,l1,l2];rfl
section
variable {P:Program} {ops:Array Oper} {Q:Exit→Act→World→Prop} {T0:Nat→Prop} {w0:World} {κ:Nat→Nat} {υ:Nat→List Tmp}
theorem TG.storeU {i:Nat} {r:List Nat} {a:Act} {B:Bx} {K:Land} {o:Oper} {T:TypeId} {x y:Operand} {X Y:Value} (K':Land) (hcl:Good K') (ho:ops[i]? =some o) (hk:κ i=6) (hw:Region.wanted o (yielded ops a.tmps)=true)
  (hd:o.dst=none) (hop:o.op= .store T x y) (hx:a.eval x=X) (hy:a.eval y=Y)
  (hr:∀T' w,Mod T0 w0 w→K T' w→∃w',(Instr.storeAt T X Y).run P w= .ok () w'∧Mod T' w w'∧K' T' w')
  (h:Inh T0 w0 B K'→TG P ops Q T0 w0 κ υ r a B K'):TG P ops Q T0 w0 κ υ (i::r) a B K:=by
 refine TG.eff' (fun _=>K') ho hk hw (fun _=>hcl.cl) (fun T2 w k1 k2 k3 k4=> .inr (.inl ?_)) (fun v hI=>by rw[hd];exact h hI);obtain⟨w',h1,h2,h3⟩:=hr T2 w k3 k1;refine⟨w',?_,h2,hcl.gr _ _ _ (fun _ h=> .inl h) h3⟩;subst hx;subst hy;simp[execOp,hop,h1]
end
theorem wire_c {a:Option Addr} {l:List UInt8} {c:Nat} (w:World) (hl:SlAt uc 1 w a l) (hc:l.length≤c) (hn:a=none→c=0) (hln:l.length≤900000) (hin:∀x,a=some x→x.block<w.heap.size):
  Calls Tryz.prog 15 #[.slice a l.length c] w (WirP w l):=by
 have HG:=Hi (fun w1 (m:Mod (fun _=>False) w w1)=>whole_c (c:=c) w1 (hl.mod0 m) hc hn hln (by intro x h;exact Nat.lt_of_lt_of_le (hin x h) m.size));have hG:=HG.out;obtain⟨ll,hll⟩:∃ll,l.length=ll:=⟨_,rfl⟩;rw[hll]at hG;have HG2:=Hi hG;rw[hll];have hmf:=hmf;clear hl hc hn hln hin hG HG hll;have ha1:=alTc;have ha2:=alE3
 go_enter_defers Tryz.func15,Tryz.ntmps15
 go_upto_region 2 with fail;refine(fun w1 hw1=> ?_:∀w1,w1=_→Code.wp _ _ _ _ w1) _ rfl;obtain⟨hs,kp2,kp3,m1⟩:=two hw1;replace kp2:w1.heap[w.heap.size]? =some (.cells zTc 35 (0,0)):=kp2;clear hw1 ha1 ha2 hmf;obtain⟨ps,hps⟩:∃ps,w.heap.size=ps:=⟨_,rfl⟩;obtain⟨p3,hp3⟩:∃p3,ps+1=p3:=⟨_,rfl⟩;rw[hps]at kp2 kp3 hs⊢;rw[hp3]at kp3⊢;have HNE:Hid (ps≠p3):=Hi (by omega);have HS:=Hi (Ai hps (Ai hp3 hs));have HM1:=Hi m1;have hG:=HG2.out w1 m1;clear hps hp3 hs m1;refine region_seq 7 rfl ?_;simp only[List.range,List.range.loop];refine Zq ?_;refine ZC hG ?hout (fun vn wn hR=> ?hret) (fun ch wn hR=> ?hpan)
 case hout=>
  intro w' h;unfold WhoP at h;split at h
  ·obtain⟨_,_,h,_⟩:=h;cases h
  ·cases h.2
 case hpan=>
  exfalso;unfold WhoP at hR;split at hR
  ·obtain⟨_,_,h,_⟩:=hR;cases h
  ·cases hR.2
 case hret=>
  obtain⟨hm,hr⟩:=hR;clear hG;have HM3:=Hi (HM1.out.trans hm);replace kp2:=hm.at0 kp2;replace kp3:=hm.at0 kp3;have HSZ:=Hi hm.size;clear hm;cases hres:wholeP l with
  |error e0=>
   rw[hres]at hr;simp only at hr;cases hr;have h0:=wP_ne l e0 hres;have HFN:Hid (∀wz,Mod (fun _=>False) w wz→WirP w l (.returned (.tuple #[.agg zTc,.int .i64 (e0:Int)])) wz):=Hi (fun wz m=>by
    have hw:wireP l= .error e0:=by unfold wireP;rw[hres]
    refine⟨m,?_⟩;rw[hw])
   have hd:decide ((e0:Int)=0)=false:=Df (by omega);have hd2:((e0:Int)==0)=false:=by simpa using h0
   have hd3:(e0==0)=false:=by simpa using h0
   have hd4:decide (e0=0)=false:=Df h0;have H0:=Hi h0;clear hres h0;(try simp only[zL]);obtain⟨w4,rfl⟩:∃w4:World,w4=wn:=⟨_,rfl⟩
   iterate 3 refine Zq ?_
   refine ZT ?_;refine ZQ kp2 fun wn kp2 mS=> ?_;have HM5:Hid (Mod (fun i=>i=ps∨i=p3) w4 wn):=Hi (mS.mono (fun i _ e=> .inl e));replace kp3:=mS.at_ne kp3 HNE.out.symm;clear mS;obtain⟨w5,rfl⟩:∃w5:World,w5=wn:=⟨_,rfl⟩;refine ZT ?_;refine ZQ kp3 fun wn kp3 mS=> ?_;refine sq_nil ?_;have HM6:Hid (Mod (fun i=>i=ps∨i=p3) w4 wn):=Hi (HM5.out.then mS (fun i _ e=> .inr e));replace kp2:=mS.at_ne kp2 HNE.out;clear mS;have HXS:Hid (zTc.size=40∧zTc.all (·.oneCell')=true):=Hi ⟨zTc_size,zTc_all⟩;have HFIN:Hid (∀wz,Mod (fun i=>i=ps∨i=p3) wn wz→WirP w l (.returned (.tuple #[.agg (if e0=0 then zTc else zTc),.int .i64 (e0:Int)])) wz):=Hi (fun wz m=>by
    rw[if_neg H0.out];exact HFN.out wz ((HM3.out.then HM6.out (fun i hi e=>by have:=HS.out;omega)).then m (fun i hi e=>by have:=HS.out;omega)))
   have hxz:(Instr.loadAt 35 (pV ps)).run Tryz.prog wn= .ok (.agg zTc) wn:=ldX HXS.out.1 kp2;have HLX:Hid (∀w':World,w'.heap[ps]? =some (.cells zTc 35 (0,0))→(Instr.loadAt 35 (pV ps)).run Tryz.prog w'= .ok (.agg zTc) w'):=Hi (fun w' h=>ldX HXS.out.1 h);clear hxz;go_upto_region 5 with fail;refine wp_mono (Q:=fun e a' w'=>e= .normal∧(a'.tmps.getD 2 undef=pV ps∧a'.tmps.getD 3 undef=pV p3∧a'.defers=[{target:= .fn (.func 53) #[pV p3,pV ps],args:= #[]}])∧G2 ps p3 zTc (e0:Int) (fun i=>i=ps∨i=p3) w'∧Mod (fun i=>i=ps∨i=p3) wn w') ?_ ?_
   ·have hP:∀(c:List PanicEntry) (a:Act) (w':World),¬((Exit.panic c=Exit.normal)∧(a.tmps.getD 2 undef=pV ps∧a.tmps.getD 3 undef=pV p3∧a.defers=[{target:= .fn (.func 53) #[pV p3,pV ps],args:= #[]}])∧G2 ps p3 zTc (e0:Int) (fun i=>i=ps∨i=p3) w'∧Mod (fun i=>i=ps∨i=p3) wn w'):=fun c a w' h=>by cases h.1
    have HK2:=Hi kp2;have HK3:Hid (wn.heap[p3]? =some (.cells #[.int .i64 (e0:Int)] 42 (0,0))):=Hi (by simpa using kp3);refine wp_gpass (T0:=fun _=>False) (K:=fun _ _=>True) (κ:=fun i=>[0,0,6,6].getD i 0) (υ:=fun _=>[]) [0,1,2,3] (by kernel_rfl) (by kernel_rfl) (Good.true).cl (trivial) (fun _ h=>h.elim) ?_;have gK:=Good.true;(refine TG.load (v:= ?v11) (p:= ?p11) (by simp only[zK];rfl) rfl (by rfl) rfl ?hx11 (fun wq hSq=> ?y11) ?n11;(case hx11=>simp only[zM];try rfl);(case y11=>(exact HLX.out _ (hSq.at0 HK2.out)));try simp only[zL]);(refine TG.load (v:= ?v12) (p:= ?p12) (by simp only[zK];rfl) rfl (by rfl) rfl ?hx12 (fun wq hSq=> ?y12) ?n12;(case hx12=>simp only[zM];try rfl);(case y12=>(exact ldE3 (hSq.at0 HK3.out)));try simp only[zL]);(refine TG.storeU (X:= ?X13) (Y:= ?Y13) (fun _ _=>True) (Good.true) (by simp only[zK];rfl) rfl (by rfl) rfl rfl ?hx13 ?hz13 (fun T wq hSq kq=> ?y13) (fun _=> ?n13);(case hx13=>simp only[zM];try rfl);(case hz13=>simp only[zM];try rfl);(case y13=>(exact⟨wq,by have:=run_store_box (P:=Tryz.prog) (T:=35) (hSq.at0 HK2.out) (by rw[HXS.out.1];kernel_rfl) rfl HXS.out.2;rw[setBlock_same (hSq.at0 HK2.out)]at this;exact this,Mod.refl _ _,trivial⟩));replace gK:=(Good.true);try simp only[zL]);(refine TG.storeU (X:= ?X14) (Y:= ?Y14) (fun _ _=>True) (Good.true) (by simp only[zK];rfl) rfl (by rfl) rfl rfl ?hx14 ?hz14 (fun T wq hSq kq=> ?y14) (fun _=> ?n14);(case hx14=>simp only[zM];try rfl);(case hz14=>simp only[zM];try rfl);(case y14=>(exact⟨wq,by have:(Instr.storeAt 42 (pV p3) (.int .i64 (e0:Int))).run Tryz.prog wq= .ok () (setBlock wq p3 (.cells #[.int .i64 (e0:Int)] 42 (0,0))):=run_store_one (hSq.at0 HK3.out) (by kernel_rfl) (by simp) rfl;rw[setBlock_same (hSq.at0 HK3.out)]at this;exact this,Mod.refl _ _,trivial⟩));replace gK:=(Good.true);try simp only[zL]);refine TG.nil (fun w3 ⟨TR,hr⟩=> ?_);clear gK;exact⟨rfl,⟨rfl,rfl,rfl⟩,⟨⟨.inl rfl,hr.mod.at0 HK2.out⟩,.inr rfl,hr.mod.at0 HK3.out⟩,hr.mod.mono (fun _ _ h=>h.elim)⟩
   ·rintro e a' w3 ⟨rfl,ha,hG,hm⟩;obtain⟨tm,df⟩:=a';obtain⟨h2,h3,h5⟩:=ha;simp only at h2 h3 h5;subst h5;go_wp2_with fail;refine leaves_cons (f:=53) (args:= #[pV p3,pV ps]) (by simp) (by simp[go_sem]) ?_;refine(wire1_c (n:=e0) hG.1.2 hG.2.2 HXS.out.1 HNE.out).mono ?_;rintro e u' w4 ⟨rfl,rfl,k2,k3,m4⟩;refine⟨_,results_cell2 rfl h2 h3 (ldX (by split;exact HXS.out.1;exact zTc_size) k2) (ldE3 k3),?_⟩;exact HFIN.out w4 (hm.then m4 (fun i _ e=> .inl e))
  |ok x=>
   rw[hres]at hr;obtain⟨r,hv0,hO,hrx,hB⟩:=hr;cases hv0;obtain⟨nc,hnc⟩:∃nc,chkP (txP r)=nc:=⟨_,rfl⟩;have HFN:Hid (∀wz,Mod (fun _=>False) w wz→TxO w1.heap.size wz r→WirP w l (.returned (.tuple #[.agg (if nc=0 then txr r else zTc),.int .i64 (nc:Int)])) wz):=Hi (fun wz m ho=>by
    have hw:wireP l=if nc=0 then .ok x else .error nc:=by unfold wireP;rw[hres,←hnc,hrx]
    refine⟨m,?_⟩;rw[hw];by_cases h0:nc=0
    ·rw[if_pos h0,if_pos h0];subst h0;exact⟨r,rfl,ho.base HM1.out.size,hrx,hB⟩
    ·rw[if_neg h0,if_neg h0])
   have HO:=Hi (Ai hO (Ai hrx (Ai hB hnc)));clear hres hO hrx hB hnc;(try simp only[zL]);obtain⟨w4,rfl⟩:∃w4:World,w4=wn:=⟨_,rfl⟩
   iterate 3 refine Zq ?_
   refine ZT ?_;refine ZQ kp2 fun wn kp2 mS=> ?_;have HM5:Hid (Mod (fun i=>i=ps∨i=p3) w4 wn):=Hi (mS.mono (fun i _ e=> .inl e));replace kp3:=mS.at_ne kp3 HNE.out.symm;replace kp2:wn.heap[ps]? =some (.cells (txr r) 35 (0,0)):=kp2;clear mS;obtain⟨w5,rfl⟩:∃w5:World,w5=wn:=⟨_,rfl⟩;refine ZT ?_;refine ZQ kp3 fun wn kp3 mS=> ?_;refine sq_nil ?_;have HM6:Hid (Mod (fun i=>i=ps∨i=p3) w4 wn):=Hi (HM5.out.then mS (fun i _ e=> .inr e));replace kp2:=mS.at_ne kp2 HNE.out;clear mS;have HO6:Hid (TxO w1.heap.size wn r):=Hi (HO.out.1.mod HM6.out (Apt.below (fun i e=>by have:=HS.out;omega)));obtain⟨w6,rfl⟩:∃w6:World,w6=wn:=⟨_,rfl⟩;have hC:=check_c r w6 (HO6.out.rd (by rw[HO.out.2.1];exact HO.out.2.2.1));rw[HO.out.2.2.2]at hC;go_upto_region 4 with fail;refine region_seq 3 rfl ?_;simp only[List.range,List.range.loop];refine Zr ?_;refine ZC hC ?hout (fun vn wn hR=> ?hret) (fun ch wn hR=> ?hpan)
   case hout=>exact fun w' h=>by cases h.1
   case hpan=>cases hR.1
   case hret=>
   obtain⟨e1,hm⟩:=hR;cases e1;clear hC;replace kp2:=hm.at0 kp2;replace kp3:=hm.at0 kp3;have HM7:=Hi (HM6.out.then0 hm);clear hm;(try simp only[zL]);obtain⟨w7,rfl⟩:∃w7:World,w7=wn:=⟨_,rfl⟩;refine ZT ?_;refine ZQ kp3 fun wn kp3 mS=> ?_;refine sq_nil ?_;have HM8:Hid (Mod (fun i=>i=ps∨i=p3) w4 wn):=Hi (HM7.out.then mS (fun i _ e=> .inr e));replace kp2:=mS.at_ne kp2 HNE.out;clear mS;have HXS:Hid ((txr r).size=40∧(txr r).all (·.oneCell')=true):=Hi ⟨txr_size r,txr_one' r⟩;have HFIN:Hid (∀wz,Mod (fun i=>i=ps∨i=p3) wn wz→WirP w l (.returned (.tuple #[.agg (if nc=0 then txr r else zTc),.int .i64 (nc:Int)])) wz):=Hi (fun wz m=>by
    have hm9:=HM8.out.trans m;exact HFN.out wz (HM3.out.then hm9 (fun i hi e=>by have:=HS.out;omega)) (HO.out.1.mod hm9 (Apt.below (fun i e=>by have:=HS.out;omega))))
   have hxz:(Instr.loadAt 35 (pV ps)).run Tryz.prog wn= .ok (.agg (txr r)) wn:=ldX HXS.out.1 kp2;have HLX:Hid (∀w':World,w'.heap[ps]? =some (.cells (txr r) 35 (0,0))→(Instr.loadAt 35 (pV ps)).run Tryz.prog w'= .ok (.agg (txr r)) w'):=Hi (fun w' h=>ldX HXS.out.1 h);clear hxz;go_upto_region 5 with fail;refine wp_mono (Q:=fun e a' w'=>e= .normal∧(a'.tmps.getD 2 undef=pV ps∧a'.tmps.getD 3 undef=pV p3∧a'.defers=[{target:= .fn (.func 53) #[pV p3,pV ps],args:= #[]}])∧G2 ps p3 (txr r) (nc:Int) (fun i=>i=ps∨i=p3) w'∧Mod (fun i=>i=ps∨i=p3) wn w') ?_ ?_
   ·have hP:∀(c:List PanicEntry) (a:Act) (w':World),¬((Exit.panic c=Exit.normal)∧(a.tmps.getD 2 undef=pV ps∧a.tmps.getD 3 undef=pV p3∧a.defers=[{target:= .fn (.func 53) #[pV p3,pV ps],args:= #[]}])∧G2 ps p3 (txr r) (nc:Int) (fun i=>i=ps∨i=p3) w'∧Mod (fun i=>i=ps∨i=p3) wn w'):=fun c a w' h=>by cases h.1
    have HK2:=Hi kp2;have HK3:Hid (wn.heap[p3]? =some (.cells #[.int .i64 (nc:Int)] 42 (0,0))):=Hi (by simpa using kp3);refine wp_gpass (T0:=fun _=>False) (K:=fun _ _=>True) (κ:=fun i=>[0,0,6,6].getD i 0) (υ:=fun _=>[]) [0,1,2,3] (by kernel_rfl) (by kernel_rfl) (Good.true).cl (trivial) (fun _ h=>h.elim) ?_;have gK:=Good.true;(refine TG.load (v:= ?v23) (p:= ?p23) (by simp only[zK];rfl) rfl (by rfl) rfl ?hx23 (fun wq hSq=> ?y23) ?n23;(case hx23=>simp only[zM];try rfl);(case y23=>(exact HLX.out _ (hSq.at0 HK2.out)));try simp only[zL]);(refine TG.load (v:= ?v24) (p:= ?p24) (by simp only[zK];rfl) rfl (by rfl) rfl ?hx24 (fun wq hSq=> ?y24) ?n24;(case hx24=>simp only[zM];try rfl);(case y24=>(exact ldE3 (hSq.at0 HK3.out)));try simp only[zL]);(refine TG.storeU (X:= ?X25) (Y:= ?Y25) (fun _ _=>True) (Good.true) (by simp only[zK];rfl) rfl (by rfl) rfl rfl ?hx25 ?hz25 (fun T wq hSq kq=> ?y25) (fun _=> ?n25);(case hx25=>simp only[zM];try rfl);(case hz25=>simp only[zM];try rfl);(case y25=>(exact⟨wq,by have:=run_store_box (P:=Tryz.prog) (T:=35) (hSq.at0 HK2.out) (by rw[HXS.out.1];kernel_rfl) rfl HXS.out.2;rw[setBlock_same (hSq.at0 HK2.out)]at this;exact this,Mod.refl _ _,trivial⟩));replace gK:=(Good.true);try simp only[zL]);(refine TG.storeU (X:= ?X26) (Y:= ?Y26) (fun _ _=>True) (Good.true) (by simp only[zK];rfl) rfl (by rfl) rfl rfl ?hx26 ?hz26 (fun T wq hSq kq=> ?y26) (fun _=> ?n26);(case hx26=>simp only[zM];try rfl);(case hz26=>simp only[zM];try rfl);(case y26=>(exact⟨wq,by have:(Instr.storeAt 42 (pV p3) (.int .i64 (nc:Int))).run Tryz.prog wq= .ok () (setBlock wq p3 (.cells #[.int .i64 (nc:Int)] 42 (0,0))):=run_store_one (hSq.at0 HK3.out) (by kernel_rfl) (by simp) rfl;rw[setBlock_same (hSq.at0 HK3.out)]at this;exact this,Mod.refl _ _,trivial⟩));replace gK:=(Good.true);try simp only[zL]);refine TG.nil (fun w3 ⟨TR,hr⟩=> ?_);clear gK;exact⟨rfl,⟨rfl,rfl,rfl⟩,⟨⟨.inl rfl,hr.mod.at0 HK2.out⟩,.inr rfl,hr.mod.at0 HK3.out⟩,hr.mod.mono (fun _ _ h=>h.elim)⟩
   ·rintro e a' w3 ⟨rfl,ha,hG,hm⟩;obtain⟨tm,df⟩:=a';obtain⟨h2,h3,h5⟩:=ha;simp only at h2 h3 h5;subst h5;go_wp2_with fail;refine leaves_cons (f:=53) (args:= #[pV p3,pV ps]) (by simp) (by simp[go_sem]) ?_;refine(wire1_c (n:=nc) hG.1.2 hG.2.2 HXS.out.1 HNE.out).mono ?_;rintro e u' w4 ⟨rfl,rfl,k2,k3,m4⟩;refine⟨_,results_cell2 rfl h2 h3 (ldX (by split;exact HXS.out.1;exact zTc_size) k2) (ldE3 k3),?_⟩;exact HFIN.out w4 (hm.then m4 (fun i _ e=> .inl e))
end
section
section
variable {P:Program} {ops:Array Oper} {Q:Exit→Act→World→Prop} {S:World→Prop} {C:FuncId→Array Value→Value→Prop} {w0:World} {κ:Nat→Nat}
theorem TD.mks {i:Nat} {r:List Nat} {a:Act} {B:Bx} {o:Oper} {d:Tmp} {T E:TypeId} {n m:Nat} {x y:Operand} {X Y:Value} {z:Array Value} (ho:ops[i]? =some o) (hk:κ i=3)
  (hw:Region.wanted o (yielded ops a.tmps)=true) (hd:o.dst=some d) (hop:o.op= .makeSlice T x y) (hx:a.eval x=X) (hy:a.eval y=Y)
  (hr:∀w,(Instr.makeSlice T X Y).run P w= .ok (.slice (some ⟨w.heap.size,0,none⟩) n m) (w.alloc (.cells z E)))
  (h:∀p,B p=none→TD P ops Q S C w0 κ r (a.put o.dst (.slice (some ⟨p,0,none⟩) n m)) (B.set p ⟨z,E,d⟩)):TD P ops Q S C w0 κ (i::r) a B:=
 .alloc (fun p=> .slice (some ⟨p,0,none⟩) n m) ho hk hw hd (fun w=>by subst hx;subst hy;simp[execOp,hop,hr w]) h
end
end
section
attribute [local go_sem↓] wlTc ldTc stTc
attribute [local go_sem] txr_size txr_all txr_one txr_one' txr0 txr38 txr39 txr0' txr38' txr39' zTx_size
theorem copied_c (a:Option Addr) (l:List Key) (c:Nat) (w:World) (hl:SlAt kc 32 w a l) (hn:a=none→c=0) (hb:l.length≤1000000):Calls Tryz.prog 83 #[.slice a l.length c] w fun e w'=>∃v,e= .returned v∧NewS kc 32 82 w.heap.size w' v l∧Mod (fun _=>False) w w':=by
 obtain⟨n,hnl⟩:∃n,l.length=n:=⟨_,rfl⟩;rw[hnl]at hb;obtain⟨cur,hcs,hmk⟩:=makeT keysT n (by omega) (by omega);have hcp:∀w1 p,Mod (fun _=>False) w w1→w1.heap[p]? =some (.cells cur 82 (0,0))→∃k,∀ty,(Builtin.copy_ #[27,27] ty #[.slice (some ⟨p,0,none⟩) n n,.slice a n c]).run Tryz.prog w1= .ok (goInt k) (setBlock w1 p (.cells (cellsOf kc l).toArray 82 (0,0))):=fun w1 p m hp=>by
  cases a with
  |none=>
   have hl0:l=[]:=by
    rcases hl with h|⟨_,_,_,_,_,h,_⟩
    ·exact h
    ·cases h
   subst hl0;simp at hnl;subst hnl;rw[hn rfl];refine⟨0,fun ty=> ?_⟩;have h1:=copyT0 (ty:=ty) (m:=0) (cap:=0) (p:=p) keysT w1;have h2:cur= #[]:=by
    apply Array.eq_empty_of_size_eq_zero;rw[hcs]
   rw[h2]at hp;rw[show(cellsOf kc []).toArray= #[]from rfl,setBlock_same hp];exact h1
  |some ad=>
   refine⟨n,fun ty=> ?_⟩;have h1:=copyT (ty:=ty) (p:=p) (cap:=n) (c:=c) keysT (hl.mod0 m) hp (by rw[hcs,hnl]);rw[hnl]at h1;exact h1
 have HCP:=Hi hcp;have HNL:=Hi hnl;rw[hnl];clear hl hn hcp hnl hcs;go_enter Tryz.func83,Tryz.ntmps83;go_upto_region 1 with fail;refine ZP0 [0,0,3,0] ?_
 iterate 2 refine Zv ?_
 (refine TD.mks (by simp only[zK];rfl) rfl (by rfl) rfl rfl ?hx3 ?hz3 hmk (fun p6 hp6=> ?n3);(case hx3=>simp only[zM];try rfl);(case hz3=>simp only[zM];try rfl);try simp only[zL]);refine Zv ?_;refine TD.nil (fun w1 hr=> ?_);obtain⟨gp6,kp6⟩:=hr.b p6;have HM1:=Hi hr.mod;have HG:=Hi gp6;clear hr hmk gp6;go_upto_region 2 with fail;have Lkp6:=Ls kp6;refine ZP0 [0,0,5] ?_
 iterate 2 refine Zv ?_
 refine Zi fun w2 hr=> ?_;replace kp6:=hr.q kp6;obtain⟨k,hcpy⟩:=HCP.out w2 p6 (HM1.out.then0 hr.mod) kp6;have HM2:=Hi (HM1.out.then0 hr.mod);clear hr;(refine eff_copy (by simp only[zK];rfl) (by rfl) rfl ?hx8 ?hz8 (hcpy _) ?n8;(case hx8=>simp only[zM];try rfl);(case hz8=>simp only[zM];try rfl);try simp only[zL]);refine TE.nil_set kp6 (fun wn kp6 mS=> ?_);have HF:Hid (NewS kc 32 82 w.heap.size wn (.slice (some ⟨p6,0,none⟩) l.length l.length) l∧Mod (fun _=>False) w wn):=Hi ⟨NewS.made keysT HG.out kp6,HM2.out.thenB mS (.inl HG.out)⟩;have hf:=HF.out;rw[HNL.out]at hf;have HF2:=Hi hf;clear kp6 mS hf HF;go_wp2_with fail;go_ret;exact⟨_,rfl,HF2.out.1,HF2.out.2⟩
end
section
attribute [local go_sem↓] wlTc ldTc stTc
attribute [local go_sem] txr_size txr_all txr_one txr_one' txr0 txr38 txr39 txr0' txr38' txr39' zTx_size
def slK (s:Sl Key):Value:= .slice s.a s.l.length s.c
theorem neMapR (w:World) (r:Option Nat):(binOp .neq 46 (.map r) (.map none)).run Tryz.prog w= .ok (.bool !r.isNone) w:=run_neq_map_nil w _ _ _ _ Tryz.underlying46
theorem bReg (m:Option Nat) (w:World):(Instr.build 48 #[(0,.map m)]).run Tryz.prog w= .ok (.agg #[.map m]) w:=by kernel_rfl
theorem slK_zero (w:World):(zeroValue 27).run Tryz.prog w= .ok (slK ⟨none,[],0⟩) w:=by kernel_rfl
def RegM (h r:Nat) (M:List (Key×Sl Key)) (w:World):Prop:=w.heap[r]? =some (.cells #[.map (some h)] 48 (0,0))∧∃es c,w.heap[h]? =some (.map es c)∧MapIs kv slK es c M
def tbOf (M:List (Key×Sl Key)):TbL:=M.map (fun x=>(x.1,x.2.l))
def RegA (b h r:Nat) (T:TbL) (w:World):Prop:=∃M,RegM h r M w∧tbOf M=T∧(∀x∈M,NewS kc 32 82 b w (slK x.2) x.2.l∧x.2.l.length≤256)∧b≤h∧b≤r
theorem RegM.mod {h r:Nat} {M:List (Key×Sl Key)} {w w':World} {S:Nat→Prop} (H:RegM h r M w) (hm:Mod S w w') (h1:¬S h) (h2:¬S r):RegM h r M w':=by
 obtain⟨k1,es,c,k2,k3⟩:=H;exact⟨hm.at k1 h2,es,c,hm.at k2 h1,k3⟩
theorem RegA.mod {b h r:Nat} {T:TbL} {w w':World} {S:Nat→Prop} (H:RegA b h r T w) (hm:Mod S w w') (hS:∀i,b≤i→i<w.heap.size→¬S i):RegA b h r T w':=by
 obtain⟨M,H1,H2,H3,H4,H5⟩:=H;refine⟨M,H1.mod hm (hS h H4 ?_) (hS r H5 (Ls H1.1)),H2,fun x hx=>⟨(H3 x hx).1.mod hm (fun g hg=> ?_),(H3 x hx).2⟩,H4,H5⟩
 ·obtain⟨_,es,c,k2,_⟩:=H1;exact Ls k2
 ·have:=(H3 x hx).1.lt g hg;exact hS g this.1 this.2
theorem RegA.mod0 {b h r:Nat} {T:TbL} {w w':World} (H:RegA b h r T w) (hm:Mod (fun _=>False) w w'):RegA b h r T w':=H.mod hm (fun _ _ _ h=>h)
theorem lkp_tb (M:List (Key×Sl Key)) (k:Key):tbFind (tbOf M) k=(lkp k M).map (·.l):=by
 unfold tbFind tbOf
 induction M with
 |nil=>rfl
 |cons x M ih=>
  unfold lkp;by_cases h:x.1=k
  ·simp[h]
  ·simp only[List.map_cons,List.find?_cons,if_neg h];rw[show(decide (x.1=k))=false from Df h];exact ih
theorem there_c {r m:Nat} (w:World) (kr:w.heap[r]? =some (.cells #[.map (some m)] 48 (0,0))):Calls Tryz.prog 82 #[pV r] w fun e w'=>e= .returned (.bool true)∧w'=w:=by
 have hne:=neMapR;go_enter Tryz.func82,Tryz.ntmps82;go_wp2_with fail;go_ret;exact⟨rfl,rfl⟩
theorem newT_c (w:World):Calls Tryz.prog 33 #[] w fun e w'=>∃h r,e= .returned (pV r)∧RegA w.heap.size h r [] w'∧Mod (fun _=>False) w w':=by
 have hmm:= @run_makeMap Tryz.prog;have hbd:=bReg;go_enter Tryz.func33,Tryz.ntmps33;go_wp2_with fail;go_ret;obtain⟨h1,h2⟩:=fresh2 w (.map #[] 0) (.cells #[.map (some w.heap.size)] 48);exact⟨w.heap.size,_,rfl,⟨[],⟨h2,_,_,h1,MapIs.empty kv slK⟩,rfl,fun x hx=>(by cases hx),by omega,by omega⟩,((Mod.refl _ _).alloc _).alloc _⟩
theorem findE_c {b h r:Nat} {T:TbL} (k:Key) (w:World) (H:RegA b h r T w):Calls Tryz.prog 34 #[pV r,.agg (kc k)] w fun e w'=>(∃v,e= .returned (.tuple #[v,.int .i64 (if(tbFind T k).isSome then 0 else 11)]))∧Mod (fun _=>False) w w':=by
 obtain⟨M,⟨kr,es,cl,kh,HM⟩,rfl,H3,H4,H5⟩:=id H;rw[lkp_tb];have hlk:∀wq,wq.heap[h]? =some (.map es cl)→(Instr.lookup 46 (.map (some h)) (.agg (kc k)) true).run Tryz.prog wq= .ok (.tuple #[((lkp k M).map slK).getD (slK ⟨none,[],0⟩),.bool (lkp k M).isSome]) wq:=fun wq hq=>HM.lookup keyTR Tryz.underlying46 slK_zero wq hq k true;have H3':=Hi H3;cases hk:lkp k M with
 |none=>
  rw[hk]at hlk;simp only[Option.map_none,Option.getD_none,Option.isSome_none]at hlk;have hlk2:∀wq,Mod (fun _=>False) w wq→(Instr.lookup 46 (.map (some h)) (.agg (kc k)) true).run Tryz.prog wq= .ok (.tuple #[.slice none 0 0,.bool false]) wq:=fun wq hq=>hlk wq (hq.at0 kh);have HLK:=Hi hlk2;clear hlk hlk2 H3 HM hk H;go_enter Tryz.func34,Tryz.ntmps34;go_upto_region 0 with fail;have Lkr:=Ls kr;refine ZP0 [3,0,0] ?_;refine Zb fun p3 hp3=> ?_
  iterate 2 refine Zv ?_
  refine TD.nil (fun w1 hr=> ?_);replace kr:=hr.q kr;obtain⟨gp3,kp3⟩:=hr.b p3;have m1:=hr.mod;clear hr;go_wp2_with fail;go_at_call 82;refine(there_c _ kr).mono ?_;rintro e w2 ⟨rfl,rfl⟩;have hlk3:∀wq,Mod (fun _=>False) w2 wq→(Instr.lookup 46 (.map (some h)) (.agg (kc k)) true).run Tryz.prog wq= .ok (.tuple #[.slice none 0 0,.bool false]) wq:=fun wq hq=>HLK.out wq (m1.trans hq);go_upto_region 3 with fail;have Lkr:=Ls kr;have Lkp3:=Ls kp3;refine ZP [0,0,0,1,1,1,0,0,0,0,0] ?_
  iterate 5 first|refine Zv ?_|refine Zd ?_
  (refine TD.lookup (v:= ?v15) (p:= ?p15) (q:= ?q15) (Mod.refl _ _) (by simp only[zK];rfl) rfl (by rfl) rfl ?hx15 ?hz15 (fun wq hSq=> ?y15) ?n15;(case hx15=>simp only[zM];try rfl);(case hz15=>simp only[zM];try rfl);(case y15=>(rw[hlk3 wq hSq];(try with_reducible rfl)));try simp only[zL])
  iterate 5 refine Zv ?_
  refine TD.nil (fun w3 hr=> ?_);replace kr:=hr.q kr;replace kp3:=hr.q kp3;have m3:=m1.then0 hr.mod;clear hr hlk3;go_wp2_with fail;exact bodyPost_ret (results_tmp2 rfl _ _ _) rfl ⟨⟨_,rfl⟩,m3⟩
 |some s=>
  rw[hk]at hlk;simp only[Option.map_some,zE,Option.isSome_some]at hlk;obtain⟨ha,hb⟩:=H3 (k,s) (lkp_mem hk);have hn0:s.a=none→s.c=0:=by
   rcases ha with⟨e,_⟩|⟨g,cur,e,_⟩
   ·injection e with _ _ e
    exact fun _=>e
   ·injection e with e _ _
    intro e2;rw[e]at e2;cases e2
  have HCP:=Hi (fun w1 (m:Mod (fun _=>False) w w1)=>copied_c s.a s.l s.c w1 ((WAtG.of ha).sl.mod0 m) hn0 (Nat.le_trans hb (by decide)));obtain⟨sa,hsa⟩:∃sa,s.a=sa:=⟨_,rfl⟩;obtain⟨sn,hsn⟩:∃sn,s.l.length=sn:=⟨_,rfl⟩;obtain⟨sc,hsc⟩:∃sc,s.c=sc:=⟨_,rfl⟩;have hlk2:∀wq,Mod (fun _=>False) w wq→(Instr.lookup 46 (.map (some h)) (.agg (kc k)) true).run Tryz.prog wq= .ok (.tuple #[.slice sa sn sc,.bool true]) wq:=fun wq hq=>by
   have:=hlk wq (hq.at0 kh);unfold slK at this;rw[hsa,hsn,hsc]at this;exact this
  have hC:=HCP.out;rw[hsa,hsn,hsc]at hC;have HC:=Hi hC;have HLK:=Hi hlk2;clear hlk hlk2 H3 HM hk H ha hb hn0 hsa hsn hsc hC HCP;go_enter Tryz.func34,Tryz.ntmps34;go_upto_region 0 with fail;have Lkr:=Ls kr;refine ZP0 [3,0,0] ?_;refine Zb fun p3 hp3=> ?_
  iterate 2 refine Zv ?_
  refine TD.nil (fun w1 hr=> ?_);replace kr:=hr.q kr;obtain⟨gp3,kp3⟩:=hr.b p3;have m1:=hr.mod;clear hr;go_wp2_with fail;go_at_call 82;refine(there_c _ kr).mono ?_;rintro e w2 ⟨rfl,rfl⟩;have hlk3:∀wq,Mod (fun _=>False) w2 wq→(Instr.lookup 46 (.map (some h)) (.agg (kc k)) true).run Tryz.prog wq= .ok (.tuple #[.slice sa sn sc,.bool true]) wq:=fun wq hq=>HLK.out wq (m1.trans hq);go_upto_region 3 with fail;have Lkr:=Ls kr;have Lkp3:=Ls kp3;refine ZP [0,0,0,1,1,1,0,0,0,0,0] ?_
  iterate 5 first|refine Zv ?_|refine Zd ?_
  (refine TD.lookup (v:= ?v29) (p:= ?p29) (q:= ?q29) (Mod.refl _ _) (by simp only[zK];rfl) rfl (by rfl) rfl ?hx29 ?hz29 (fun wq hSq=> ?y29) ?n29;(case hx29=>simp only[zM];try rfl);(case hz29=>simp only[zM];try rfl);(case y29=>(rw[hlk3 wq hSq];(try with_reducible rfl)));try simp only[zL])
  iterate 5 refine Zv ?_
  refine TD.nil (fun w3 hr=> ?_);replace kr:=hr.q kr;replace kp3:=hr.q kp3;have m3:=m1.then0 hr.mod;clear hr hlk3;go_wp2_with fail;go_at_call 83;refine(HC.out _ m3).mono ?_;rintro e w4 ⟨v,rfl,-,m4⟩;have m5:=m3.trans m4;go_wp2_with fail;exact bodyPost_ret (results_tmp2 rfl _ _ _) rfl ⟨⟨_,rfl⟩,m5⟩
end
end Go.Proofs.YtiaehkkkcaeaiaaGreatDoor