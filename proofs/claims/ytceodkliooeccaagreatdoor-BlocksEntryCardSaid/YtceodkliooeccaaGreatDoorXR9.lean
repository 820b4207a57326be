/- The lemmas of the proof, part XO9: how the program and its data lie in memory, and what its functions do. -/
import Derived.Test.YtceodkliooeccaaGreatDoorXR8
set_option linter.unusedSimpArgs false
set_option linter.unusedVariables false
set_option linter.unusedSectionVars false

set_option maxRecDepth 20000
set_option maxHeartbeats 12800000
namespace Go.Proofs.YtceodkliooeccaaGreatDoor
open Go.RowKit
open Go.ChangeMaps (setBlock)
attribute [local go_sem↓] eqKey1 ldAcct ldHash ldHold ldKey ldLim ldOut ldRdy ldSig ldTd ldTx stHash stKey stOut stRdy stSig stTd stTx wlHash wlKey wlLim wlOut wlRdy wlSig wlTd wlTx
attribute [local go_sem] Value.cells av_all av_size cell_blk frozen_blk hd_acct hd_key hd_one hd_size kc_ext kc_one kc_one0 kc_size neMap ocr2 ocr2' ocr3 ocr3' ocr4 ocr4' ocr5 ocr5' ocr_all ocr_one ocr_size one_bool one_int one_map one_ptr one_slice rdr1 rdr1' rdr_all rdr_one rdr_rec rdr_size sgc_ext sgc_one' sgc_one0 sgc_size tdr0 tdr0' tdr41 tdr41' tdr50 tdr50' tdr51 tdr51' tdr52 tdr52' tdr_all tdr_o tdr_one tdr_r tdr_rec tdr_size tdr_tx txr0 txr0' txr38 txr38' txr39 txr39' txr_all txr_one txr_size zHash_size zHold_size zKey_size zLim_size zOut_size zRdy_size zSg_size zTried_size zTx_size
theorem bclone_c {w:World} {a:Option Addr} {l:List UInt8} {c:Nat} (hl:SlAt uc 1 w a l) (hlen:l.length≤1000000):Calls Tryz.prog 50 #[.slice a l.length c] w fun e w'=>∃v,e= .returned v∧SlOwn uc 1 5 w' w.heap.size v l∧Mod (fun _=>False) w w':=by
 have he:=eqNilY;cases a with
 |none=>
  obtain rfl:l=[]:=by
   rcases hl with h|⟨_,_,_,_,_,h,_⟩
   ·exact h
   ·cases h
  go_enter Tryz.func50,Tryz.ntmps50;go_wp2_with fail;go_ret;exact⟨_,rfl,SlOwn.nil _ _,Mod.refl _ _⟩
 |some p=>
  have HL:=Hi hl;have hbs:=bsEY;generalize hll:l.length=ll at *;have HLL:=Hi hll;clear hl hll;go_enter Tryz.func50,Tryz.ntmps50;go_upto_region 3 with fail;refine ZP0 [3,0,5,0] ?_;refine Zy hbs fun p5 hp5=> ?_;refine Zv ?_;refine Zi fun w1 hr=> ?_;obtain⟨gp5,kp5⟩:=hr.b p5;have m1:=hr.mod;clear hr;obtain⟨v3,w6,hap,hO6,m6,hn6⟩:=SlOwn.append bytesT (c:=c) (own_e (f:=uc) (n:=1) gp5 kp5) (HL.out.mod0 m1) (by simp;have:=HLL.out;omega) (by decide) m1.size 42;have mF:Mod (fun _=>False) w w6:=m1.then m6 (fun i hi e=>by
   have e2:p5=i:=Option.some.inj e;omega)
  rw[HLL.out]at hap;have HO:=Hi hO6;clear hn6 m6 hO6;refine ZA hap ?_;refine Ze ?_;refine TE.nil ?_;go_wp2_with fail;go_ret;exact⟨_,rfl,HO.out,mF⟩
def EnO (b:Nat) (w:World) (x:Sl UInt8):Prop:=NewS uc 1 5 b w x.v x.l
def EnL (b0 b:Nat) (e:List UInt8) (l:List (Sl UInt8)) (v:Value):Land:=fun T w=>∃x:Sl UInt8,x.l=e∧NewL uc 1 5 b0 x.l x.v T w∧OwnL slv 1 42 b (l++[x]) v T w
theorem goodEn (b0 b:Nat) (e:List UInt8) (l:List (Sl UInt8)) (v:Value):Good (EnL b0 b e l v):=Good.ex fun x=>(Good.pure _).and ((goodN _ _ _ _ _ _).and (goodOL _ _ _ _ _ _))
theorem app_en {T:Nat→Prop} {w:World} {v:Value} {l:List (Sl UInt8)} {e:List UInt8} {b0 b p n:Nat} {a:Option Addr} {U:TypeId} {fr:Nat×Nat} (hO:OwnL slv 1 42 b l v T w) (hc:NewL uc 1 5 b0 e (.slice a n n) T w) (hn:e.length=n) (kp:w.heap[p]? =some (.cells #[.slice a n n] U fr)) (hlen:l.length+1≤1000000) (hb:b≤w.heap.size) (ty:TypeId):
  ∃v' w',(Builtin.append_ #[40,40] ty #[v,.slice (some ⟨p,0,none⟩) 1 1]).run Tryz.prog w= .ok v' w'∧Mod T w w'∧EnL b0 b e l v' (Grow T w w') w':=by
 obtain⟨y,hy⟩:∃y:Sl UInt8,y=⟨a,e,n⟩:=⟨_,rfl⟩;have h1:slv y= #[.slice a n n]:=by rw[hy,←hn];rfl
 have h2:y.v= .slice a n n:=by rw[hy,←hn];rfl
 have h3:y.l=e:=by rw[hy]
 obtain⟨v',w',hap,hO',m',hn'⟩:=SlOwn.append slsT (q:=[y]) (c:=1) hO.1 (SlAt.one kp y h1.symm rfl) (by simpa using hlen) (by decide) hb ty;have hlt:=m'.size;refine⟨v',w',hap,m'.mono (fun i _ h=>hO.2 i h),y,h3,⟨?_,?_⟩,hO',?_⟩
 ·rw[h2,h3];refine hc.1.mod m' (fun g hg hs=> ?_);obtain⟨c1,k1⟩:=hc.1.ty hg;obtain⟨c2,k2⟩:=own_blk hO.1 hs;rw[k1]at k2;injection (Option.some.inj k2)with _ e2
  exact absurd e2 (by decide)
 ·rw[h2];exact fun g hg=> .inl (hc.2 g hg)
 ·intro g hg;rcases hn' with h|h
  ·exact .inl (hO.2 g (h▸hg))
  ·have:=(hO'.lt g hg).2;rw[h]at hg;cases hg;exact .inr ⟨Nat.le_refl _,this⟩
theorem ents_c {Tn Tr:Nat→Prop} {b s:Nat} {S:BS} (w:World) (hk:BkAt Tn Tr w b s S) (hn:S.es.length≤900000) (hch:∀e∈S.es,e.length≤900000):Calls Tryz.prog 10 #[ptrV b] w fun e w'=>
  (∃a L,e= .returned (.slice a S.es.length S.es.length)∧SlAt slv 1 w' a L∧L.map (·.l)=S.es∧∀x∈L,EnO w.heap.size w' x)∧Mod (fun _=>False) w w':=by
 obtain⟨q,n,t,m,ea,en,ec,oa,on,oc,er,orr,kb,-,⟨he1,he2,he3⟩,-⟩:=hk;obtain⟨ll,hll⟩:∃ll,er.length=ll:=⟨_,rfl⟩;have hL:S.es.length=ll:=by rw[←he2,List.length_map,hll]
 obtain⟨a',c',e',hat,-⟩:=he1.at slsT;injection e' with e1 e2 e3
 subst e1 e3;rw[hll]at e2;subst e2;rw[hL]at hn⊢;have HES:=Hi he2;have HLL:=Hi hll;have HA:Hid (SlAt slv 1 w ea er∧∀x∈er,SlAt uc 1 w x.a x.l∧x.l.length≤900000):=Hi ⟨hat,fun x hx=>by
  refine⟨?_,hch x.l (by rw[←he2];exact List.mem_map_of_mem hx)⟩;exact(own_slAt (he3 x hx)).1⟩
 have KB:=Hi kb;unfold blkC at kb;clear hat he1 he2 he3 hll hL hch;go_enter Tryz.func10,Tryz.ntmps10;go_wp2_with fail;go_at_call 43;refine(bthere_c _ KB.out).mono ?_;rintro e w2 ⟨rfl,rfl⟩;go_wp2_with fail;go_loopw [2,13] (fun s2 s13 ws=>∃(i:Nat) (L:List (Sl UInt8)) (a2:Option Addr) (c2:Nat),i≤en∧s2= .slice a2 i c2∧s13= .int .i64 (i:Int)∧Hid (L.length=i∧L.map (·.l)=(er.take i).map (·.l))∧Hid (SlOwn slv 1 42 ws w.heap.size (.slice a2 i c2) L∧∀x∈L,EnO w.heap.size ws x)∧Hid (Mod (fun _=>False) w ws)) (fun _ s13 _=>en-(intOf s13).toNat)
 case atStart=>exact⟨0,[],none,0,by omega,rfl,rfl,Hi ⟨rfl,rfl⟩,Hi ⟨SlOwn.nil _ _,fun x h=>by cases h⟩,Hi (Mod.refl _ _)⟩
 case round=>
  obtain⟨i,L,a2,c2,hi,rfl,rfl,HLi,HO,HM⟩:=hrel;have kb:=HM.out.at0 kb;by_cases hlt:i<en
  ·have hd:=Dt hlt;obtain⟨x,hx⟩:∃x,er[i]? =some x:=⟨_,List.getElem?_eq_getElem (by rw[HLL.out];exact hlt)⟩;obtain⟨g,o,C,U,fr,rfl,kg,he,hle⟩:=SlAt.block (HA.out.1.mod0 HM.out) hx;have hc0:=cellC he (j:=0) (v:= .slice x.a x.l.length x.c) rfl;simp only[Nat.mul_one,Nat.add_zero]at hc0;have HX:=Hi (HA.out.2 x (List.mem_of_getElem? hx));have HTK:Hid ((er.take (i+1)).map (·.l)=(er.take i).map (·.l)++[x.l]):=Hi (by rw[List.take_add_one,hx];simp);clear hx he;have hxn:x.l.length≤900000:=HX.out.2;obtain⟨xl,hxl⟩:∃xl,x.l.length=xl:=⟨_,rfl⟩;have HXL:=Hi hxl;rw[hxl]at hc0;obtain⟨W,hW⟩:∃W:Nat→Prop,(fun g=>(Value.slice a2 i c2).ownBlock=some g)=W:=⟨_,rfl⟩;have HKK:Hid (OwnL slv 1 42 w.heap.size L (.slice a2 i c2) W wr):=Hi ⟨HO.out.1,fun g hg=>by rw[←hW];exact hg⟩;have hWT:∀j,W j→j<wr.heap.size:=by
    rw[←hW];intro j hj;exact(HO.out.1.lt j hj).2
   have hWw:Hid (∀j,W j→w.heap.size≤j):=Hi (by
    rw[←hW];intro j hj;exact(HO.out.1.lt j hj).1)
   have HWO:Hid (∀j,W j→∃C,wr.heap[j]? =some (.cells C 42 (0,0))):=Hi (by
    rw[←hW];intro j hj;exact own_blk HO.out.1 hj)
   have hlen:L.length+1≤1000000:=by rw[HLi.out.1];omega
   clear hW hxl hxn;go_upto_region 6 with fail;refine wp_gpass0 (T0:=W) (K:=OwnL slv 1 42 w.heap.size L (.slice a2 i c2)) (κ:=fun i=>[0,0,6,6,3,6,0].getD i 0) (υ:=fun i=>[[],[],[],[],[],[21],[]].getD i []) [0,1,2,3,4,5,6] (by kernel_rfl) (by kernel_rfl) (goodOL slv 1 42 w.heap.size L (.slice a2 i c2)).cl (HKK.out) (hWT) ?_;have gK:=goodOL slv 1 42 w.heap.size L (.slice a2 i c2)
   iterate 2 refine Zg ?_
   (refine TG.callM (f:= ?f8) (args:= ?r8) (ClL x.l xl wr.heap.size) (goodCl x.l xl wr.heap.size) gK (by simp only[zK];rfl) rfl (by rfl) (fun w1=> ?y8) (fun T wq kq ltq hSq ub=> ?hsp8) ?n8;(case y8=>(go_simp;(first|with_reducible rfl|(constructor<;>with_reducible rfl))));(case hsp8=>(exact(by have h:=bclone_c (c:=x.c) (HX.out.1.mod0 (HM.out.then hSq (fun j hj h=>by have:=hWw.out j h;omega))) (by have:=HX.out.2;omega);rw[HXL.out]at h;exact h.mono (fun e w' h=>by obtain⟨v,h1,h2,h3⟩:=h;exact⟨_,h1,h3,clL h2 hSq.size HXL.out⟩))));rintro v8 ⟨wI,TI,hI⟩;replace gK:=gK.and ((goodCl x.l xl wr.heap.size) v8);obtain⟨a61,c61,rfl,hcl,-,-⟩:=hI.k.2;(try clear hI TI wI);try simp only[zL]);(refine ZG (fun v=>v= .slice a61 xl xl) gK ?_ (s:=fun T wq kq ltq hSq ub=>by exact(clipY_c _ _ _ hcl).mono (fun e w' h=>⟨_,h.1,rfl,by rw[h.2];exact Mod.refl _ _⟩));rintro v9 hC;subst hC;try simp only[zL]);(refine TG.bslice (by simp only[zK];rfl) rfl (by rfl) rfl rfl ?hx10 (bsBs1 a61 xl xl) (fun p21 hp21 _=> ?n10);(case hx10=>(simp only[List.map_toArray,List.map_cons,List.map_nil,zM];(try rfl)));try simp only[zL]);(refine TG.appK (X:= ?X11) (Y:= ?Y11) (EnL wr.heap.size w.heap.size x.l L) (goodEn wr.heap.size w.heap.size x.l L) (by simp only[zK];rfl) rfl (by rfl) rfl ?hx11 ?hz11 (fun T wq kq ltq hSq ub=> ?y11) ?n11;(case hx11=>simp only[zM];try rfl);(case hz11=>simp only[zM];try rfl);(case y11=>(have kp21:=ub.box (p:=p21) (by first|exact Bx.set_same _ _ _|(simp only[Bx.set_same];rfl)) (by first|decide|exact List.mem_singleton.2 rfl|simp);dsimp only[Value.cells]at kp21;have nUp21:=(ub p21 _ (by first|exact Bx.set_same _ _ _|(simp only[Bx.set_same];rfl)) (by first|decide|exact List.mem_singleton.2 rfl|simp)).1;exact(by obtain⟨a9,c9,e9,-,h1,h2⟩:=kq.2;injection e9 with e1 e2 e3;subst e1;exact app_en kq.1 ⟨h1,h2⟩ HXL.out kp21 hlen (Nat.le_trans HM.out.size hSq.size) _)));rintro v11 ⟨wI,TI,hI⟩;replace gK:=(goodEn wr.heap.size w.heap.size x.l L) v11;skip;(try clear hI TI wI);try simp only[zL]);refine Zg ?_;refine TG.nil (fun w5 ⟨TR,hr⟩=> ?_);obtain⟨gp21,nTp21,kp21⟩:=hr.b p21;clear gK;obtain⟨y,hyl,hNL,hOL⟩:=hr.k;obtain⟨a3,c3,rfl,-⟩:=hOL.1.at slsT;have hlo:(L++[y]).length=i+1:=by rw[List.length_append,HLi.out.1];rfl
   have HN:Hid (SlOwn slv 1 42 w5 w.heap.size (.slice a3 (i+1) c3) (L++[y])∧∀x∈L++[y],EnO w.heap.size w5 x):=Hi ⟨by rw[←hlo];exact hOL.1,fun z hz=>by
    rcases List.mem_append.1 hz with hz|hz
    ·refine NewS.mod (HO.out.2 z hz) hr.mod (fun g hg hs=> ?_);obtain⟨c1,k1⟩:=(HO.out.2 z hz).ty hg;obtain⟨c2,k2⟩:=HWO.out g hs;rw[k1]at k2;injection (Option.some.inj k2)with _ e2
     exact absurd e2 (by decide)
    ·rw[List.mem_singleton.1 hz];exact hNL.1.base HM.out.size⟩
   have HL2:Hid ((L++[y]).length=i+1∧(L++[y]).map (·.l)=(er.take (i+1)).map (·.l)):=Hi ⟨hlo,by rw[HTK.out,List.map_append,HLi.out.2,←hyl];rfl⟩;have HM5:=Hi (HM.out.then hr.mod (fun j hj h=>by have:=hWw.out j h;omega));rw[hlo];clear hr hyl hNL hOL hlo hWT hlen;go_wp2_with fail;go_roundw
   case rel=>exact⟨i+1,L++[y],a3,c3,by omega,rfl,by go_num,HL2,HN,HM5⟩
   case measure=>simp[intOf];omega
  ·have hd:=Df hlt;obtain rfl:en=i:=by omega
   obtain⟨a5,c5,v2,e5,hcl,hnew⟩:=HO.out.1.clip slsT;obtain⟨a6,rfl⟩:=hnew.form;rw[HLi.out.1]at hcl hnew;have HCL:=Hi hcl;have HNW:=Hi hnew;clear hcl hnew e5;go_wp2_with fail;go_at_call 51;refine(clipE_c _ _ _ HCL.out).mono ?_;rintro e w6 ⟨rfl,rfl⟩;go_wp2_with fail;go_ret;refine⟨⟨a6,L,rfl,?_,?_,HO.out.2⟩,HM.out⟩
   ·have h:=HNW.out;rw[←HLi.out.1]at h;exact h.slAt
   ·rw[HLi.out.2,List.take_of_length_le (by rw[HLL.out];omega),HES.out]
def L3 (Tn1 Tr1:Nat→Prop) (B:Nat) (v0:Value) (w5:World) (W:List (Sl UInt8)) (T:List TdR) (z:Bool) (v:Value) (W3:List (Sl UInt8)) (ws:World):Prop:=
 SlOwn slv 1 42 ws B v W3∧(∀x∈W3,NewS uc 1 5 B ws x.v x.l∧∀g,x.v.ownBlock=some g→¬Tn1 g∧¬Tr1 g)∧W3.map (·.l)=W.map (·.l)++T.map (fun x=>x.r.b.l)∧z=decide (T.length≠0)∧
 (∀g,v.ownBlock=some g→v0.ownBlock=some g∨w5.heap.size≤g)∧Mod (fun g=>v0.ownBlock=some g) w5 ws
theorem L3.start {Tn Tr Tn1 Tr1:Nat→Prop} {B c:Nat} {v:Value} {wa w5:World} {W:List (Sl UInt8)} (hSO:SlOwn slv 1 42 wa B v W) (hv:∀g,v.ownBlock=some g→¬Tn g∧¬Tr g) (hx:∀x∈W,NewS uc 1 5 B wa x.v x.l∧∀g,x.v.ownBlock=some g→¬Tn g∧¬Tr g)
  (hm:Mod (fun j=>Tn j∨Tr j) wa w5) (h1:∀j,Tn1 j∨Tr1 j→Tn j∨Tr j∨c≤j) (hc:wa.heap.size≤c):L3 Tn1 Tr1 B v w5 W [] false v W w5:=by
 refine⟨hSO.mod hm (fun g hg h=>h.elim (hv g hg).1 (hv g hg).2),fun x hxx=> ?_,by simp,rfl,fun g h=> .inl h,Mod.refl _ _⟩;obtain⟨a1,a2⟩:=hx x hxx;refine⟨a1.mod hm (fun g hg h=>h.elim (a2 g hg).1 (a2 g hg).2),fun g hg=> ?_⟩;have h2:=(a1.lt g hg).2;have h3:=a2 g hg;constructor
 ·intro h;rcases h1 g (.inl h)with h|h|h
  ·exact h3.1 h
  ·exact h3.2 h
  ·omega
 ·intro h;rcases h1 g (.inr h)with h|h|h
  ·exact h3.1 h
  ·exact h3.2 h
  ·omega
theorem L3.step {Tn1 Tr1:Nat→Prop} {B:Nat} {v0 v v2:Value} {w5 ws w1 w2:World} {W W3:List (Sl UInt8)} {T:List TdR} {z:Bool} {y:TdR} (h:L3 Tn1 Tr1 B v0 w5 W T z v W3 ws) (m:Mod (fun _=>False) ws w1) (hO:SlOwn slv 1 42 w2 B v2 (W3++[y.r.b]))
  (m2:Mod (fun i=>v.ownBlock=some i) w1 w2) (hn:v2.ownBlock=v.ownBlock∨v2.ownBlock=some w1.heap.size) (hy:NewS uc 1 5 B ws y.r.b.v y.r.b.l) (hyT:∀g,y.r.b.v.ownBlock=some g→¬Tn1 g∧¬Tr1 g):L3 Tn1 Tr1 B v0 w5 W (T++[y]) true v2 (W3++[y.r.b]) w2:=by
 obtain⟨h1,h2,h3,h4,h5,h6⟩:=h;have hk:∀x:Sl UInt8,NewS uc 1 5 B ws x.v x.l→NewS uc 1 5 B w2 x.v x.l:=fun x hx=>(hx.mod0 m).mod m2 (fun g hg e=>by
  obtain⟨cur,hc⟩:=own_blk (h1.mod0 m) e;obtain⟨cur2,hc2⟩:=(hx.mod0 m).ty hg;rw[hc]at hc2;injection (Option.some.inj hc2)with _ e2
  exact absurd e2 (by decide))
 refine⟨hO,fun x hx=> ?_,?_,?_,fun g hg=> ?_,?_⟩
 ·rcases List.mem_append.1 hx with h|h
  ·exact⟨hk x (h2 x h).1,(h2 x h).2⟩
  ·rw[List.mem_singleton.1 h];exact⟨hk _ hy,hyT⟩
 ·rw[List.map_append,h3,List.map_append];simp
 ·simp
 ·rcases hn with h|h
  ·exact h5 g (h▸hg)
  ·rw[h]at hg;cases hg;have h7:=h6.size;have h8:=m.size;exact .inr (by omega)
 ·exact(h6.then0 m).then m2 (fun i hi e=>(h5 i e).resolve_right (fun h=>by omega))
theorem L3.len {Tn1 Tr1:Nat→Prop} {B:Nat} {v0 v:Value} {w5 ws:World} {W W3:List (Sl UInt8)} {T:List TdR} {z:Bool} (h:L3 Tn1 Tr1 B v0 w5 W T z v W3 ws):W3.length=W.length+T.length:=by
 have:=congrArg List.length h.2.2.1;simpa using this
theorem take_next {α:Type} {l:List α} {k:Nat} {x:α} (h:l[k]? =some x):l.take (k+1)=l.take k++[x]:=by
 rw[List.take_add_one,h];rfl
theorem taken_take {l:List TdR} {vs:List Nat} {k n:Nat} {x:TdR} (hx:l[k]? =some x) (hn:vs[k]? =some n):takenT (l.take (k+1)) (vs.take (k+1))=takenT (l.take k) (vs.take k)++(if n=0 then [x]else []):=by
 rw[take_next hx,take_next hn];have h1:=(List.getElem?_eq_some_iff.1 hx).1;have h2:=(List.getElem?_eq_some_iff.1 hn).1;exact taken_snoc _ _ _ _ (by rw[List.length_take,List.length_take];omega)
theorem mem_le_sum:∀ {l:List Nat} {n:Nat},n∈l→n≤l.sum
 |[],n,h=>by cases h
 |a::l,n,h=>by
  rw[List.sum_cons];rcases List.mem_cons.1 h with rfl|h
  ·omega
  ·have:=mem_le_sum h;omega
theorem BPk.eb {S:BS} {W:List (List UInt8)} {G:List (List (List UInt8×TxP))} (h:BPk S W G):∀e∈S.es,e.length≤8+W.length*1232:=by
 intro e he;rw[h.es]at he;obtain⟨g,hg,rfl⟩:=List.mem_map.1 he;rw[List.length_append,leB_len,List.length_flatMap];have h1:(g.map (fun y=>y.1.length)).sum≤g.length*1232:=by
  have hm:∀y∈g,y.1.length≤1232:=fun y hy=>(wire_put ((h.ok g hg).2 y hy)).2;clear hg he
  induction g with
  |nil=>simp
  |cons y g ih=>
   simp only[List.map_cons,List.sum_cons,List.length_cons];have:=hm y List.mem_cons_self;have:=ih (fun z hz=>hm z (List.mem_cons_of_mem _ hz));omega
 have h2:g.length≤W.length:=by
  rw[h.wn,List.length_map,List.length_flatMap];have:g.length∈G.map (fun x=>(id x).length):=List.mem_map.2 ⟨g,hg,rfl⟩;exact mem_le_sum this
 have h3:g.length*1232≤W.length*1232:=Nat.mul_le_mul_right _ h2;omega
theorem BPk.wl {S:BS} {W:List (List UInt8)} {G:List (List (List UInt8×TxP))} (h:BPk S W G):W.length=(G.flatMap id).length:=by
 rw[h.wn,List.length_map]
theorem flat_at {G:List (List (List UInt8×TxP))} {i:Nat} {g:List (List UInt8×TxP)} (hg:G[i]? =some g):((G.take (i+1)).flatMap id).length=((G.take i).flatMap id).length+g.length:=by
 rw[List.take_add_one,hg];simp[List.flatMap_append]
theorem sameBytes_c (a a2:Option Addr) (l:List UInt8) (c c2:Nat) (w:World) (h1:SlAt uc 1 w a l) (h2:SlAt uc 1 w a2 l) (hb:l.length≤1000000):Calls Tryz.prog 14 #[.slice a l.length c,.slice a2 l.length c2] w fun e w'=>e= .returned (.bool true)∧Mod (fun _=>False) w w':=by
 have hC:=sameB_c a a2 l l c c2 w h1 h2 hb;have hd:decide (l=l)=true:=by simp
 rw[hd]at hC;obtain⟨n,hn⟩:∃n,l.length=n:=⟨_,rfl⟩;rw[hn]at hC⊢;clear hd hn h1 h2 hb;have HC:=Hi hC;clear hC;go_enter Tryz.func14,Tryz.ntmps14;go_wp2_with fail;go_at_call 58;refine HC.out.mono ?_;rintro e w2 ⟨rfl,m2⟩;go_wp2_with fail;go_ret;exact⟨rfl,m2⟩
section
attribute [local go_sem↓] eqHash eqSig eqAcct wlGnd ldGnd
attribute [local go_sem] zHash_ext zHash_one0 neMapS grc_size grc_all grc_lim grc0 grc1 grc2 grc3 grc4 grc5 grc0' grc1' grc2' grc3' grc4' grc5'
theorem greatN_c (g:GrR') (w:World):
  Calls Tryz.prog 4 #[.agg (grc g),.slice none 0 0] w (GrR (g.L.l.length≤200∧g.H.l.length≤160∧g.M.l.length≤100) w):=by
 go_enter Tryz.func4,Tryz.ntmps4;go_upto_region 0 with fail;refine ZP0 [3,0] ?_;refine Zb fun p2 hp2=> ?_;refine Zv ?_;refine TD.nil (fun w1 hr=> ?_);obtain⟨gp2,kp2⟩:=hr.b p2;have m1:=hr.mod;clear hr;go_upto_region 1 with fail;by_cases n1:g.L.l.length>200
 ·have hd1:decide ((g.L.l.length:Int)>200)=true:=Dt (by omega);have Lkp2:=Ls kp2;refine ZP0 [0,1,0,0,0,0,1,0,0,0,0,0,1,0,0,0,0,0,0,0,0] ?_
  iterate 5 first|refine Zv ?_|refine Zd ?_
  refine Zo ?_;refine Zp ?_
  iterate 2 refine Zo ?_
  iterate 2 refine Zv ?_
  refine Zo ?_;refine Zp ?_
  iterate 2 refine Zo ?_
  iterate 2 refine Zv ?_
  iterate 3 refine Zo ?_
  refine Zv ?_;refine TD.nil (fun w2 hr=> ?_);replace kp2:=hr.q kp2;have m2:=m1.then0 hr.mod;clear hr;go_wp2_with fail;go_ret;exact GrR.of true rfl (fun h=>by cases h) m2
 have hd1:decide ((g.L.l.length:Int)>200)=false:=Df (by omega);by_cases n2:g.H.l.length>160
 ·have hd2:decide ((g.H.l.length:Int)>160)=true:=Dt (by omega);have Lkp2:=Ls kp2;refine ZP0 [0,1,0,0,0,0,1,0,0,0,0,0,1,0,0,0,0,0,0,0,0] ?_
  iterate 11 first|refine Zv ?_|refine Zd ?_
  refine Zo ?_;refine Zp ?_
  iterate 2 refine Zo ?_
  iterate 2 refine Zv ?_
  iterate 3 refine Zo ?_
  refine Zv ?_;refine TD.nil (fun w2 hr=> ?_);replace kp2:=hr.q kp2;have m2:=m1.then0 hr.mod;clear hr;go_wp2_with fail;go_ret;exact GrR.of true rfl (fun h=>by cases h) m2
 have hd2:decide ((g.H.l.length:Int)>160)=false:=Df (by omega);by_cases n3:g.M.l.length>100
 ·have hd3:decide ((g.M.l.length:Int)>100)=true:=Dt (by omega);have Lkp2:=Ls kp2;refine ZP0 [0,1,0,0,0,0,1,0,0,0,0,0,1,0,0,0,0,0,0,0,0] ?_
  iterate 17 first|refine Zv ?_|refine Zd ?_
  iterate 3 refine Zo ?_
  refine Zv ?_;refine TD.nil (fun w2 hr=> ?_);replace kp2:=hr.q kp2;have m2:=m1.then0 hr.mod;clear hr;go_wp2_with fail;go_ret;exact GrR.of true rfl (fun h=>by cases h) m2
 have hd3:decide ((g.M.l.length:Int)>100)=false:=Df (by omega);have Lkp2:=Ls kp2;refine ZP0 [0,1,0,0,0,0,1,0,0,0,0,0,1,0,0,0,0,0,0,0,0] ?_
 iterate 21 first|refine Zv ?_|refine Zd ?_
 refine TD.nil (fun w2 hr=> ?_);replace kp2:=hr.q kp2;have m2:=m1.then0 hr.mod;have HN:=Hi (Ai n1 (Ai n2 n3));have HM2:=Hi m2;clear hr n1 n2 n3 hd1 hd2 hd3;go_wp2_with fail;go_loopw [5,6] (fun s5 s6 ws=>s5= .int .i64 0∧s6= .int .i64 0∧Hid (Mod (fun _=>False) w2 ws)) (fun _ _ _=>0)
 case atStart=>exact⟨rfl,rfl,Hi (Mod.refl _ _)⟩
 case round=>
  obtain⟨rfl,rfl,HM⟩:=hrel;go_wp2_with fail;go_ret;have h1:=HN.out;exact GrR.of false rfl (fun _=>⟨by omega,by omega,by omega⟩) (HM2.out.trans HM.out)
end
section
def SlOkN {α:Type} (f:α→Array Value) (n B:Nat) (Ok:World→α→Prop) (w:World) (s:Sl α):Prop:=SlOk f n B Ok w s∧s.l.length≤s.c∧(s.a=none→s.c=0)
theorem slice_readsN {α H:Type} {enc:TypeId×Value→H} {P:Program} {t e:TypeId} {f:α→Array Value} {n B:Nat} {Ok:World→α→Prop} (ht:P.underlying t=some (.slice e)) (hn:P.cellsOf e=n) (hB:P.bytesOf e=B) (hn0:0<n) (h:Reads enc P e f Ok) (d0:α):
  Reads enc P t (slv (α:=α)) (SlOkN f n B Ok):=by
 intro w base sp held fuel cs x hx hfit;obtain⟨s,hs,hok⟩:=slice_reads ht hn hB hn0 h d0 w base sp held fuel cs x hx hfit;refine⟨s,hs,hok,?_⟩;rcases DataW.trod_slice ht hx with⟨hcs,_⟩|⟨a,len,cap,elems,rest,m,_,hcs,_,_,hlc,_⟩
 ·rw[hcs]at hs;have hs:[Value.slice none 0 0]=[.slice s.a s.l.length s.c]:=congrArg Array.toList hs;simp only[List.cons.injEq,Value.slice.injEq,and_true]at hs;obtain⟨h1,h2,h3⟩:=hs;exact⟨by omega,fun _=>h3.symm⟩
 ·rw[hcs]at hs;have hs:[Value.slice (some a) len cap]=[.slice s.a s.l.length s.c]:=congrArg Array.toList hs;simp only[List.cons.injEq,Value.slice.injEq,and_true]at hs;obtain⟨h1,h2,h3⟩:=hs;exact⟨by omega,fun e=>by rw[e]at h1;cases h1⟩
section
variable {H:Type} {enc:TypeId×Value→H}
def PkRd (w:World) (s:Sl UInt8):Prop:=SlOkN uc 1 1 (fun _ _=>True) w s
def PksRd (w:World) (s:Sl (Sl UInt8)):Prop:=SlOk slv 1 24 PkRd w s
theorem pk_reads:Reads enc Tryz.prog 42 (slv (α:=UInt8)) PkRd:=slice_readsN Tryz.underlying42 (by kernel_rfl) (by kernel_rfl) (by omega) u8_reads 0
theorem pks_reads:Reads enc Tryz.prog 40 (slv (α:=Sl UInt8)) PksRd:=slice_reads Tryz.underlying40 (by kernel_rfl) (by kernel_rfl) (by omega) pk_reads ⟨none,[],0⟩
theorem pkss_reads:Reads enc Tryz.prog 30 (slv (α:=Sl (Sl UInt8))) (SlOk slv 1 24 PksRd):=slice_reads Tryz.underlying30 (by kernel_rfl) (by kernel_rfl) (by omega) pks_reads ⟨none,[],0⟩
end
end
section
attribute [local go_sem↓] eqHash eqSig eqAcct wlGnd ldGnd
attribute [local go_sem] zHash_ext zHash_one0 neMapS grc_size grc_all grc_lim grc0 grc1 grc2 grc3 grc4 grc5 grc0' grc1' grc2' grc3' grc4' grc5'
def WO (Tn Tr:Nat→Prop) (B:Nat) (w:World) (v:Value) (W:List (Sl UInt8)):Prop:=SlOwn slv 1 42 w B v W∧(∀g,v.ownBlock=some g→¬Tn g∧¬Tr g)∧∀x∈W,NewS uc 1 5 B w x.v x.l∧∀g,x.v.ownBlock=some g→¬Tn g∧¬Tr g
def LI (w:World) (b s h r B i many nb:Nat) (vW:Value) (W:List (Sl UInt8)) (ws:World):Prop:=∃(Tn Tr:Nat→Prop) (S:BS) (G:List (List (List UInt8×TxP))),BkAt Tn Tr ws b s S∧WO Tn Tr B ws vW W∧(BPk S (W.map (·.l)) G∧G.length=nb)∧
 (S.N.length≤200+many∧S.es.length≤i∧W.length≤many)∧RegM h r [] ws∧(∀j,Tn j∨Tr j→w.heap.size≤j∧j≠h∧j≠r∧j<ws.heap.size)∧(w.heap.size≤B∧B≤ws.heap.size∧h<B∧r<B)∧Mod (fun _=>False) w ws
theorem regA_nil {h r:Nat} {w:World} (H:RegM h r [] w):RegA 0 h r [] w:=by
 refine⟨[],H,rfl,?_,Nat.zero_le _,Nat.zero_le _⟩;intro x hx;cases hx
theorem budW_mod0 {w w':World} (h:BudW w) (hm:Mod (fun _=>False) w w'):BudW w':=by
 obtain⟨⟨U,fr,k⟩,⟨U2,fr2,k2⟩⟩:=h;exact⟨⟨U,fr,hm.at0 k⟩,⟨U2,fr2,hm.at0 k2⟩⟩
theorem ready_ne {T:TbL} {l:List UInt8} {n:Nat} (h:readyP T l= .error n):n≠0:=by
 unfold readyP at h;split at h
 ·rename_i e he;cases h;exact chk_ne he
 ·split at h
  ·rename_i e he;cases h;exact res_ne he
  ·split at h
   ·rename_i e he;cases h;unfold rolesP at he;split at he
    ·cases he
    ·cases he;decide
   ·cases h
theorem ReaP.two {T:TbL} {w w':World} {l:List UInt8} {v:Value} (h:ReaP T w l (.returned v) w'):Mod (fun _=>False) w w'∧∃(z:RdR) (n:Nat),v= .tuple #[.agg (rdr z),i64n n]∧((∃y,readyP T l= .ok y∧RyO w.heap.size w' z∧ryP z=y∧TxB (txP z))∧n=0∨readyP T l= .error n∧n≠0∧z=rd0):=by
 unfold ReaP at h;obtain⟨hm,h⟩:=h;refine⟨hm,?_⟩;cases hres:readyP T l with
 |ok y=>
  rw[hres]at h;obtain⟨r,h1,h2,h3,h4⟩:=h;cases h1;exact⟨r,0,rfl,.inl ⟨⟨y,rfl,h2,h3,h4⟩,rfl⟩⟩
 |error n=>
  rw[hres]at h;cases h;exact⟨rd0,n,rfl,.inr ⟨rfl,ready_ne hres,rfl⟩⟩
theorem ReaP.out {T:TbL} {w w':World} {l:List UInt8} (h:ReaP T w l .outgrown w'):False:=by
 unfold ReaP at h;split at h
 ·obtain⟨_,_,h,_⟩:=h;cases h
 ·cases h.2
theorem ReaP.pan {T:TbL} {w w':World} {l:List UInt8} {ch:_} (h:ReaP T w l (.panicked ch) w'):False:=by
 unfold ReaP at h;split at h
 ·obtain⟨_,_,h,_⟩:=h;cases h
 ·cases h.2
theorem RyO.base {b b':Nat} {w:World} {r:RdR} (h:RyO b w r) (hb:b'≤b):RyO b' w r:=⟨h.1.base hb,h.2.1.base hb,h.2.2.1.base hb,h.2.2.2⟩
theorem entryLaw_c (g:GrR') (a:Option Addr) (l:List (Sl (Sl UInt8))) (c:Nat) (w:World) (hok:GrOk w g) (hl:SlAt slv 1 w a l) (hx:∀x∈l,PksRd w x) (hn:l.length≤140737488355328) (hB:BudW w):
  Calls Tryz.prog 3 #[.agg (grc g),.slice a l.length c] w fun e w'=>e= .returned (.bool true)∧Mod (fun _=>False) w w':=by
 have HL:=Hi (Ai hl (Ai hx (Ai hB hok)));clear hl hx hB hok;obtain⟨ll,hll⟩:∃ll,l.length=ll:=⟨_,rfl⟩;have HLL:=Hi hll;rw[hll]at hn⊢;clear hll;go_enter Tryz.func3,Tryz.ntmps3;go_upto_region 0 with fail;refine ZP0 [3,0] ?_;refine Zb fun p2 hp2=> ?_;refine Zv ?_;refine TD.nil (fun w1 hr=> ?_);obtain⟨gp2,kp2⟩:=hr.b p2;have m1:=hr.mod;clear hr;by_cases h20:ll>20
 ·have hd:decide ((ll:Int)>20)=true:=Dt (by omega);go_upto_region 1 with fail;go_wp2_with fail;go_at_call 4;refine(greatN_c g _).mono ?_;rintro e w2 ⟨bz,rfl,hz,m2⟩;have mm:=m1.trans m2;clear hz;cases bz
  ·go_upto_region 2 with fail;go_wp2_with fail;go_at_call 5;refine(lives_c _).mono ?_;rintro e wl ⟨rfl,ml⟩;go_wp2_with fail;go_ret;exact⟨rfl,mm.trans ml⟩
  ·go_upto_region 2 with fail;go_wp2_with fail;go_at_call 5;refine(lives_c _).mono ?_;rintro e wl ⟨rfl,ml⟩;go_wp2_with fail;go_ret;exact⟨rfl,mm.trans ml⟩
 have hd:decide ((ll:Int)>20)=false:=Df (by omega);go_upto_region 1 with fail;go_wp2_with fail;go_at_call 4;refine(greatN_c g _).mono ?_;rintro e w2 ⟨bz,rfl,hz,m2⟩;have kp2:=m2.at0 kp2;have mm:=m1.trans m2;cases bz
 case true=>
  clear hz;go_upto_region 2 with fail;go_wp2_with fail;go_at_call 5;refine(lives_c _).mono ?_;rintro e wl ⟨rfl,ml⟩;go_wp2_with fail;go_ret;exact⟨rfl,mm.trans ml⟩
 case false=>
 have HZ:=Hi (hz rfl);have hle:ll≤20:=by omega
 clear hz hd h20 hn;go_upto_region 3 with fail;go_wp2_with fail;go_at_call 6;refine(opened_c g _ (grOk_mod0 HL.out.2.2.2 mm) HZ.out.1 HZ.out.2.1 HZ.out.2.2).mono ?_;rintro e w4 ⟨b,s,r0,sb,Tn,Tr,rfl,hbk,hlo,-,m4⟩;have HBK:=Hi (Ai hbk (Ai hlo (Ai m4 mm)));clear hbk hlo m4 mm kp2 m1 m2;go_upto_region 4 with fail;go_wp2_with fail;go_at_call 7;refine(newT11_c _).mono ?_;rintro e w5 ⟨h,r,rfl,hreg,m5⟩;have HI0:Hid (LI w b s h r w5.heap.size 0 0 0 (.slice none 0 0) [] w5):=Hi (by
  obtain⟨M,hM,hT,-,b1,b2⟩:=hreg;have hM0:M=[]:=List.map_eq_nil_iff.1 hT;subst hM0;have mm:=(HBK.out.2.2.2.trans HBK.out.2.2.1).trans m5;have e1:=HBK.out.2.2.2.size;have e2:=HBK.out.2.2.1.size;have e3:=m5.size;have hM2:=hM;obtain⟨k1,_,_,k2,_⟩:=hM2;have e4:=Ls k1;have e5:=Ls k2;have hs:=seL_len g.M.l;have hs2:=HZ.out.2.2;refine⟨Tn,Tr,_,[],HBK.out.1.mod0 m5,⟨SlOwn.nil _ _,(fun g h=>by cases h),(fun x hx=>by cases hx)⟩,⟨⟨rfl,rfl,rfl,(fun g hg=>by cases hg),(fun o ho=>by cases ho)⟩,rfl⟩,⟨by show(seL g.M.l).length≤200+0;omega,Nat.le_refl _,Nat.le_refl _⟩,hM,fun j hj=> ?_,⟨by omega,Nat.le_refl _,e5,e4⟩,mm⟩;have:=HBK.out.2.1 j hj;exact⟨by omega,by omega,by omega,by omega⟩)
 clear hreg m5 HBK;go_upto_region 9 with fail;obtain⟨B,hBB⟩:∃B,w5.heap.size=B:=⟨_,rfl⟩;rw[hBB]at HI0;clear hBB;go_loopw [9,10,11,12] (fun s9 s10 s11 s12 ws=>∃(i many nb:Nat) (aW:Option Addr) (cW:Nat) (W:List (Sl UInt8)),i≤ll∧many≤40∧s9= .slice aW W.length cW∧s10= .int .i64 (many:Int)∧s11= .int .i64 (nb:Int)∧s12= .int .i64 (i:Int)∧Hid (LI w b s h r B i many nb (.slice aW W.length cW) W ws)) (fun _ _ _ s12 _=>ll-(intOf s12).toNat)
 case atStart=>exact⟨0,0,0,none,0,[],by omega,by omega,rfl,rfl,rfl,rfl,HI0⟩
 case round=>
  clear HI0;obtain⟨i,many,nb,aW,cW,W,hi,hmany,rfl,rfl,rfl,rfl,HI⟩:=hrel;obtain⟨wn,hwn⟩:∃wn,W.length=wn:=⟨_,rfl⟩;have HWN:=Hi hwn;rw[hwn]at HI⊢;clear hwn;by_cases hlt:i<ll
  ·have hd:=Dt hlt;obtain⟨x,hx⟩:∃x,l[i]? =some x:=⟨_,List.getElem?_eq_getElem (by rw[HLL.out];exact hlt)⟩;have HM:Hid (Mod (fun _=>False) w wr):=Hi (by
    obtain⟨_,_,_,_,_,_,_,_,_,_,_,hm⟩:=HI.out;exact hm)
   obtain⟨g1,o1,C1,U1,fr1,rfl,kl,he,hle1⟩:=SlAt.block (HL.out.1.mod0 HM.out) hx;have hc1:=cellC he (j:=0) (v:= .slice x.a x.l.length x.c) rfl;simp only[Nat.mul_one,Nat.add_zero]at hc1;have HREG:Hid (RegM h r [] wr):=Hi (by
    obtain⟨_,_,_,_,_,_,_,_,hh,_⟩:=HI.out;exact hh)
   have HX:Hid (PksRd w x):=Hi (HL.out.2.1 x (List.mem_of_getElem? hx));have KL:=Hi (Ai kl hc1);obtain⟨xn,hxn⟩:∃xn,x.l.length=xn:=⟨_,rfl⟩;have HXN:=Hi hxn;rw[hxn]at hc1 KL;clear hx he kl hc1 hxn;have hxb:xn≤9223372036854775807:=by
    have h:=HX.out.2.2.2.2;rw[HXN.out]at h;exact Nat.le_trans h (by decide)
   go_upto_region 13 with fail;obtain⟨wa,rfl⟩:∃wa:World,wa=wr:=⟨_,rfl⟩;obtain⟨b0,hb0⟩:∃b0,wa.heap.size=b0:=⟨_,rfl⟩;have HB0:=Hi hb0;clear hb0;go_loopw [10,13,14] (fun s10 s13 s14 ws=>∃(k many2:Nat) (aR:Option Addr) (cR rn:Nat) (R:List TdR),k≤xn∧many2≤40∧s10= .int .i64 (many2:Int)∧s13= .slice aR rn cR∧s14= .int .i64 (k:Int)∧Hid (R.length=rn∧rn+many≤many2)∧Hid (SlOwn tdr 54 65 ws b0 (.slice aR rn cR) R∧∀y∈R,RdK b0 ws y)∧Hid (Mod (fun _=>False) wa ws)) (fun _ _ s14 _=>xn-(intOf s14).toNat)
   case atStart=>exact⟨0,many,none,0,0,[],by omega,hmany,rfl,rfl,rfl,Hi ⟨rfl,by omega⟩,Hi ⟨SlOwn.nil _ _,(fun y h=>by cases h)⟩,Hi (Mod.refl _ _)⟩
   case round=>
    obtain⟨k,many2,aR,cR,rn,R,hk,hm2,rfl,rfl,rfl,HR1,HR2,HM2⟩:=hrel;have kl:=HM2.out.at0 KL.out.1;have hc1:=KL.out.2;by_cases hkx:k<xn
    ·have hdk:=Dt hkx;obtain⟨y,hy⟩:∃y,x.l[k]? =some y:=⟨_,List.getElem?_eq_getElem (by rw[HXN.out];exact hkx)⟩;have HY:Hid (PkRd w y):=Hi (HX.out.2.1 y (List.mem_of_getElem? hy));obtain⟨g2,o2,C2,U2,fr2,hg2,kl2,he2,hle2⟩:=SlAt.block (HX.out.1.mod0 (HM.out.then0 HM2.out)) hy;have hc2:=cellC he2 (j:=0) (v:= .slice y.a y.l.length y.c) rfl;simp only[Nat.mul_one,Nat.add_zero]at hc2;obtain⟨yn,hyn⟩:∃yn,y.l.length=yn:=⟨_,rfl⟩;have HYN:=Hi hyn;rw[hyn]at hc2;rw[hg2]at hc1;have HKL:=Hi (Ai kl (Ai hc1 (Ai kl2 hc2)));clear hy he2 hyn hg2 hle2;by_cases h40:many2+1>40
     ·have hd40:decide ((many2:Int)+1>40)=true:=Dt (by omega);have mm:=HM.out.then0 HM2.out;go_upto_region 17 with fail;go_wp2_with fail;go_at_call 5;refine(lives_c _).mono ?_;rintro e wl ⟨rfl,ml⟩;go_wp2_with fail;go_ret;exact⟨rfl,mm.trans ml⟩
     have hd40:decide ((many2:Int)+1>40)=false:=Df (by omega);by_cases h13:yn>1300
     ·have hd13:decide ((yn:Int)>1300)=true:=Dt (by omega);have mm:=HM.out.then0 HM2.out;go_upto_region 17 with fail;go_wp2_with fail;go_at_call 5;refine(lives_c _).mono ?_;rintro e wl ⟨rfl,ml⟩;go_wp2_with fail;go_ret;exact⟨rfl,mm.trans ml⟩
     have hd13:decide ((yn:Int)>1300)=false:=Df (by omega);have mm:=HM.out.then0 HM2.out;have hC:=ready_c (T:=[]) (l:=y.l) (c:=y.c) (a:=y.a) wr (regA_nil (HREG.out.mod HM2.out (fun h=>h) (fun h=>h))) (budW_mod0 HL.out.2.2.1 mm) (HY.out.1.1.mod0 mm) HY.out.2.1 HY.out.2.2 (by rw[HYN.out];omega) (fun z e=>(HY.out.1.2.2.2.1 z e).imp (fun h=>by have:=mm.size;omega) id);rw[HYN.out]at hC;clear mm;go_upto_region 18 with fail;refine region_seq 15 rfl ?_;simp only[List.range,List.range.loop]
     iterate 3 refine Zq ?_
     refine Zr ?_
     iterate 2 refine Zq ?_
     refine Zr ?_;refine Zq ?_;refine ZC hC ?hout (fun vn wn hR=> ?hret) (fun ch wn hR=> ?hpan)
     case hout=>exact fun w' h=>h.out
     case hpan=>exact hR.pan.elim
     case hret=>
     obtain⟨m3,z,n,e0,hcase⟩:=hR.two;cases e0;have HM3:=Hi (HM2.out.then0 m3);have HR3:Hid (SlOwn tdr 54 65 wn b0 (.slice aR rn cR) R∧∀y∈R,RdK b0 wn y):=Hi ⟨HR2.out.1.mod0 m3,fun z hz=>(HR2.out.2 z hz).mod m3 (fun _ h=>h.elim)⟩;have HZ2:Hid ((n=0∧RdK b0 wn ⟨z,oc0⟩)∨n≠0):=Hi (by
      rcases hcase with⟨⟨yy,hrd,hRy,hrp,hTB⟩,h0⟩|⟨_,h0,_⟩
      ·exact .inl ⟨h0,RdK.of hrd (RyO.base hRy (by rw[←HB0.out];exact HM2.out.size)) hrp hTB⟩
      ·exact .inr h0)
     clear hcase hR m3 hC hc1 hc2 kl kl2;obtain⟨w4,rfl⟩:∃w4:World,w4=wn:=⟨_,rfl⟩
     iterate 3 refine Zq ?_
     (refine sq_alloc (by simp only[zK];rfl) (by rfl) rfl alRdy (fun p15 wn gp15 kp15 mp15=> ?n15);try simp only[zL]);refine ZT ?_;refine ZQ kp15 fun wn kp15 mS=> ?_;refine Zq ?_;refine sq_nil ?_;replace kp15:wn.heap[p15]? =some (.cells (rdr z) 58 (0,0)):=kp15;have m4:Mod (fun _=>False) w4 wn:=mp15.then mS (fun i hi e=>by omega);have HM4:=Hi (HM3.out.then0 m4);have HR4:Hid (SlOwn tdr 54 65 wn b0 (.slice aR rn cR) R∧∀y∈R,RdK b0 wn y):=Hi ⟨HR3.out.1.mod0 m4,fun z hz=>(HR3.out.2 z hz).mod m4 (fun _ h=>h.elim)⟩;have HZ4:Hid ((n=0∧RdK b0 wn ⟨z,oc0⟩)∨n≠0):=Hi (HZ2.out.imp (fun h=>⟨h.1,h.2.mod m4 (fun _ h=>h.elim)⟩) id);clear m4 mS mp15 HM3 HR3 HZ2;by_cases hn0:n=0
     ·subst hn0;have HRK:Hid (RdK b0 wn ⟨z,oc0⟩):=Hi (HZ4.out.elim (fun h=>h.2) (fun h=>absurd rfl h));have hnz:((0:Int)==0)=true:=rfl;go_upto_region 20 with fail;have Lkp15:=Ls kp15;refine ZP0 [0,1,0,3,5,0] ?_;refine Zv ?_;refine Zd ?_;refine Zu (bldTdR z) ?_;refine Zy (bsTd ⟨z,oc0⟩) fun p91 hp91=> ?_;refine Zi fun w5 hr=> ?_;replace kp15:=hr.q kp15;obtain⟨gp91,kp91⟩:=hr.b p91;have m5:=hr.mod;clear hr;obtain⟨v3,w6,hap,hO6,m6,hn6⟩:=SlOwn.append tdT (q:=[(⟨z,oc0⟩:TdR)]) (c:=1) (HR4.out.1.mod0 m5) (SlAt.one kp91 (⟨z,oc0⟩:TdR) rfl (tdr_size _)) (by have h1:=HR1.out.1;have h2:=HR1.out.2;simp only[List.length_cons,List.length_nil];omega) (by decide) (by have h1:=HM4.out.size;have h2:=HB0.out;have h3:=m5.size;omega) 41;have hlo:=HR4.out.1.lt;have HM6:Hid (Mod (fun _=>False) wa w6):=Hi ((HM4.out.then0 m5).then m6 (fun j hj e=>by
       have h1:=(hlo j e).1;have h2:=HB0.out;omega))
      have HR6:Hid (SlOwn tdr 54 65 w6 b0 v3 (R++[(⟨z,oc0⟩:TdR)])∧∀y∈R++[(⟨z,oc0⟩:TdR)],RdK b0 w6 y):=Hi ⟨hO6,by
       have hk:∀y,RdK b0 wn y→RdK b0 w6 y:=fun y hy=>(hy.mod m5 (fun _ h=>h.elim)).mod m6 (fun g hg=> .inr (by
        obtain⟨cur,hc⟩:=own_blk (HR4.out.1.mod0 m5) hg;exact⟨cur,_,hc,by decide,by decide,by decide,by decide⟩))
       intro y hy;rcases List.mem_append.1 hy with h|h
       ·exact hk y (HR4.out.2 y h)
       ·rw[List.mem_singleton.1 h];exact hk _ HRK.out⟩
      obtain⟨a3,c3,rfl,-⟩:=hO6.at tdT;have hlen:(R++[(⟨z,oc0⟩:TdR)]).length=rn+1:=by rw[List.length_append,HR1.out.1];rfl
      rw[hlen]at hap HR6;have HL6:=Hi hlen;simp only[List.length_cons,List.length_nil,Nat.zero_add]at hap;clear hO6 m6 hn6 hlo m5 hlen;refine ZA hap ?_;refine Ze ?_;refine TE.nil ?_;go_wp2_with fail;go_roundw
      case rel=>exact⟨k+1,many2+1,a3,c3,rn+1,_,by omega,by omega,by go_num,rfl,by go_num,Hi ⟨HL6.out,by have:=HR1.out.2;omega⟩,HR6,HM6⟩
      case measure=>simp[intOf];omega
     ·have hnz:((n:Int)==0)=false:=by simp[hn0]
      clear hn0;go_upto_region 14 with fail;go_wp2_with fail;go_roundw
      case rel=>exact⟨k+1,many2+1,aR,cR,rn,R,by omega,by omega,by go_num,rfl,by go_num,Hi ⟨HR1.out.1,by have:=HR1.out.2;omega⟩,HR4,HM4⟩
      case measure=>simp[intOf];omega
    ·obtain rfl:k=xn:=by omega
     have hdk:decide (k<k)=false:=by simp
     have HRC:Hid (∀(Tn Tr:Nat→Prop),(∀j,Tn j∨Tr j→j<b0)→∀w',Mod (fun j=>Tn j∨Tr j) wr w'→(SlAt tdr 54 w' aR R∧∀y∈R,RdK b0 w' y)):=Hi (fun Tn Tr hT w' hm=>by
      refine⟨?_,fun y hy=>(HR2.out.2 y hy).mod hm (fun g hg=> .inl (hT g hg))⟩;have hO:=HR2.out.1.mod hm (fun g hg hs=>by
       have h1:=(HR2.out.1.lt g hg).1;have h2:=hT g hs;omega)
      obtain⟨a',c',e',hat,-⟩:=hO.at tdT;injection e' with e1 e2 e3
      subst e1;exact hat)
     obtain⟨Tn,Tr,S,G,hbk,hwo,⟨hbp,hgl⟩,⟨z1,z2,z3⟩,-,htt,hbb,-⟩:=HI.out;have hT:∀j,Tn j∨Tr j→j<b0:=fun j hj=>by
      have h1:=(htt j hj).2.2.2;have h2:=HB0.out;omega
     have hsz:=HM2.out.size;have hrec:=record_g aR R cR wr (hbk.mod0 HM2.out) (fun w' hm=>⟨(HRC.out Tn Tr hT w' hm).1,fun y hy=>((HRC.out Tn Tr hT w' hm).2 y hy).rc⟩) (fun j hj=>by have h1:=hT j hj;have h2:=HB0.out;omega) (by have h1:=HR1.out;omega) (by have h1:=HR1.out;have h2:=hbp.os;rw[List.length_map,HWN.out]at h2;rw[HWN.out]at z3;omega) (by
      have h1:=sum_leC (fun y:TdR=>y.r.b.l.length) 1232 R (fun y hy=>(HR2.out.2 y hy).2.2.2.2.1.2.2.2.2);have h2:=HR1.out;omega) (by omega) (by have h1:=HR1.out;omega)
     rw[HR1.out.1]at hrec;have HREC:=Hi hrec;have HST:=Hi (Ai hwo (Ai hbp (Ai hgl (Ai z1 (Ai z2 (Ai z3 (Ai htt (Ai hbb hT))))))));clear hrec hwo hbp hgl z1 z2 z3 htt hbb hT hbk hsz;go_upto_region 21 with fail;go_wp2_with fail;go_at_call 9;refine HREC.out.mono ?_;rintro e w5 ⟨gv,vs,S1,ent,kk,Tn1,Tr1,rfl,hgv,kv,hrun,hbk1,hb1,m5⟩;rw[HR1.out.1];have hne:((rn:Int) !=(rn:Int))=false:=by simp
     have HRUN:=Hi (Ai hgv (Ai hrun (Ai hbk1 (Ai hb1 m5))));clear hgv hrun hbk1 hb1 m5 kl hc1;obtain⟨wb,rfl⟩:∃wb:World,wb=wr:=⟨_,rfl⟩;have HVL:Hid (vs.length=rn):=Hi (by rw[HRUN.out.2.1.len.1,HR1.out.1]);have HL3:Hid (L3 Tn1 Tr1 B (.slice aW wn cW) w5 W (takenT (R.take 0) (vs.take 0)) false (.slice aW wn cW) W w5):=Hi (by
      rw[List.take_zero,List.take_zero];exact L3.start HST.out.1.1 HST.out.1.2.1 HST.out.1.2.2 ((HM2.out.mono (fun _ _ h=>h.elim)).trans HRUN.out.2.2.2.2) (fun j hj=>(HRUN.out.2.2.2.1 j hj).2.1) HM2.out.size)
     have HV0:Hid (∀g,(Value.slice aW wn cW).ownBlock=some g→B≤g∧g<wa.heap.size):=Hi HST.out.1.1.lt;have hw5:=HRUN.out.2.2.2.2.size;have HSZ:Hid (wa.heap.size≤wb.heap.size∧wb.heap.size≤w5.heap.size∧wb.heap.size≤gv):=Hi ⟨HM2.out.size,hw5,HRUN.out.1⟩;have HKV:=Hi kv;clear kv hw5;go_upto_region 26 with fail;go_loopw [9,18,19] (fun s9 s18 s19 ws=>∃(j n3:Nat) (z:Bool) (a3:Option Addr) (c3:Nat) (W3:List (Sl UInt8)),j≤rn∧s9= .slice a3 n3 c3∧s18= .bool z∧s19= .int .i64 (j:Int)∧Hid (W3.length=n3)∧Hid (L3 Tn1 Tr1 B (.slice aW wn cW) w5 W (takenT (R.take j) (vs.take j)) z (.slice a3 n3 c3) W3 ws)) (fun _ _ s19 _=>rn-(intOf s19).toNat)
     case atStart=>exact⟨0,wn,false,aW,cW,W,by omega,rfl,rfl,rfl,HWN,HL3⟩
     case round=>
      clear HL3;obtain⟨j,n3,z,a3,c3,W3,hj,rfl,rfl,rfl,HN3,HL3⟩:=hrel;by_cases hjr:j<rn
      ·--{
       have hdj:=Dt hjr;have hrb:rn≤40:=by have h1:=HR1.out.2;omega
       obtain⟨y,hy⟩:∃y,R[j]? =some y:=⟨_,List.getElem?_eq_getElem (by rw[HR1.out.1];exact hjr)⟩;obtain⟨n,hn⟩:∃n,vs[j]? =some n:=⟨_,List.getElem?_eq_getElem (by rw[HVL.out];exact hjr)⟩;have kvq:=HL3.out.2.2.2.2.2.at HKV.out (fun e=>by have h1:=(HV0.out _ e).2;have h2:=HSZ.out;omega);obtain⟨g3,o3,C3,U3,fr3,hg3,kl3,he3,hle3⟩:=SlAt.block (errC_at kvq) hn;cases hg3;have hc3:=cellC he3 (j:=0) (v:= .int .i64 (n:Int)) rfl;simp only[Nat.mul_one,Nat.add_zero,Nat.zero_add]at hc3;have HKR:=HRC.out (fun q=>(Tn q∨Tr q)∨(Value.slice aW wn cW).ownBlock=some q) (fun _=>False) (fun q hq=>by
        rcases hq with(h|h)|h
        ·exact HST.out.2.2.2.2.2.2.2.2 q h
        ·have h1:=(HV0.out q h).2;have h2:=HB0.out;omega
        ·exact h.elim) wr ((HRUN.out.2.2.2.2.mono (fun _ _ h=> .inl (.inl h))).then HL3.out.2.2.2.2.2 (fun q _ e=> .inl (.inr e)))
       have HY:Hid (NewS uc 1 5 B wr y.r.b.v y.r.b.l∧∀g,y.r.b.v.ownBlock=some g→¬Tn1 g∧¬Tr1 g):=Hi ⟨(HKR.2 y (List.mem_of_getElem? hy)).2.2.2.1.base (by rw[←HB0.out];exact HST.out.2.2.2.2.2.2.2.1.2.1),fun g hg=>by
        have h1:=(HR2.out.2 y (List.mem_of_getElem? hy)).2.2.2.1.lt g hg;have h2:¬(Tn1 g∨Tr1 g):=fun h=>by
         rcases(HRUN.out.2.2.2.1 g h).2.1 with h|h|h
         ·have:=HST.out.2.2.2.2.2.2.2.2 g (.inl h);omega
         ·have:=HST.out.2.2.2.2.2.2.2.2 g (.inr h);omega
         ·omega
        exact⟨fun h=>h2 (.inl h),fun h=>h2 (.inr h)⟩⟩
       obtain⟨g4,o4,C4,U4,fr4,rfl,kl4,he4,hle4⟩:=SlAt.block HKR.1 hy;have hc4:=cellC he4 (j:=0) (tdr0 y);simp only[Nat.add_zero]at hc4;have HKR2:=Hi HKR;have HYN:=Hi (Ai hy hn);clear hy hn HKR he3 he4 kvq;by_cases hn0:n=0
       ·subst hn0;have hnz:((0:Int)==0)=true:=rfl;go_upto_region 29 with fail;have Lkl4:=Ls kl4;refine ZP0 [0,0,0,0,0,0,1,3,5,0] ?_
        iterate 7 first|refine Zv ?_|refine Zd ?_
        refine Zy (bsBs1 y.r.b.a y.r.b.l.length y.r.b.c) fun p119 hp119=> ?_;refine Zi fun w6 hr=> ?_;replace kl4:=hr.q kl4;obtain⟨gp119,kp119⟩:=hr.b p119;have m6:=hr.mod;clear hr;obtain⟨v6,w7,hap,hO7,m7,hn7⟩:=SlOwn.append slsT (q:=[y.r.b]) (c:=1) (HL3.out.1.mod0 m6) (SlAt.one kp119 y.r.b rfl rfl) (by
         have h1:=HL3.out.len;have h2:=taken_len (R.take j) (vs.take j);have h3:=List.length_take_le j R;have h4:=HST.out.2.2.2.2.2.1;have h5:=HR1.out;simp only[List.length_cons,List.length_nil];omega) (by decide) (by have h1:=m6.size;have h2:=HL3.out.2.2.2.2.2.size;have h3:=HSZ.out;have h4:=HST.out.2.2.2.2.2.2.2.1;omega) 40
        have HL7:Hid (L3 Tn1 Tr1 B (.slice aW wn cW) w5 W (takenT (R.take (j+1)) (vs.take (j+1))) true v6 (W3++[y.r.b]) w7):=Hi (by
         rw[taken_take HYN.out.1 HYN.out.2,if_pos rfl];exact HL3.out.step m6 hO7 m7 hn7 HY.out.1 HY.out.2)
        obtain⟨a6,c6,rfl,-⟩:=hO7.at slsT;have hlen:(W3++[y.r.b]).length=n3+1:=by rw[List.length_append,HN3.out];rfl
        rw[hlen]at hap HL7;have HN7:=Hi hlen;simp only[List.length_cons,List.length_nil,Nat.zero_add]at hap;clear hO7 m7 hn7 m6 hlen;refine ZA hap ?_;refine Ze ?_;refine TE.nil ?_;go_wp2_with fail;go_roundw
        case rel=>exact⟨j+1,n3+1,true,a6,c6,_,by omega,rfl,rfl,by go_num,HN7,HL7⟩
        case measure=>simp[intOf];omega
       ·have hnz:((n:Int)==0)=false:=by simp[hn0]
        have HL7:Hid (L3 Tn1 Tr1 B (.slice aW wn cW) w5 W (takenT (R.take (j+1)) (vs.take (j+1))) z (.slice a3 n3 c3) W3 wr):=Hi (by
         rw[taken_take HYN.out.1 HYN.out.2,if_neg hn0,List.append_nil];exact HL3.out)
        clear hn0;go_upto_region 27 with fail;go_wp2_with fail;go_roundw
        case rel=>exact⟨j+1,n3,z,a3,c3,W3,by omega,rfl,rfl,by go_num,HN3,HL7⟩
        case measure=>simp[intOf];omega
      ·obtain rfl:rn=j:=by omega
       have hdj:decide (rn<rn)=false:=by simp
       have HT:Hid (L3 Tn1 Tr1 B (.slice aW wn cW) w5 W (takenT R vs) z (.slice a3 n3 c3) W3 wr):=Hi (by
        have h:=HL3.out;rw[List.take_of_length_le (by rw[HR1.out.1];exact Nat.le_refl _),List.take_of_length_le (by rw[HVL.out];exact Nat.le_refl _)]at h;exact h)
       have HMM:Hid (Mod (fun q=>(Tn q∨Tr q)∨(Value.slice aW wn cW).ownBlock=some q) wa wr):=Hi (((HM2.out.mono (fun _ _ h=>h.elim)).trans (HRUN.out.2.2.2.2.mono (fun _ _ h=> .inl h))).then HT.out.2.2.2.2.2 (fun q _ e=> .inr e));have HLI:Hid (LI w b s h r B (i+1) many2 (nb+if z then 1 else 0) (.slice a3 n3 c3) W3 wr):=Hi (by
        obtain⟨d1,d2,d3,d4,d5⟩:=HRUN.out;obtain⟨e1,e2,e3,e4,e5,e6,e7,e8,e9⟩:=HST.out;have hl:=HT.out.len;have htl:=taken_len R vs;have hr1:=HR1.out;have hv0:=HV0.out;have hsz:=HSZ.out;have hm5:=d5.size;have hm6:=HT.out.2.2.2.2.2.size;obtain⟨l1,l2,l3,l4,l5,l6,-⟩:=d2.len;have hstep:=e2.step d2 (fun x hx=>(HR2.out.2 x hx).pk);rw[←HT.out.2.2.1]at hstep;have hz:=HT.out.2.2.2.1;have hb:=HB0.out;refine⟨Tn1,Tr1,_,addG G (takenT R vs),d3.mod HT.out.2.2.2.2.2 ?_ ?_ ?_,⟨HT.out.1,?_,HT.out.2.1⟩,⟨hstep,?_⟩,⟨?_,?_,by omega⟩,?_,?_,⟨by omega,by omega,by omega,by omega⟩,?_⟩
        ·intro q hq e;have h1:=(hv0 q e);rcases(d4 q (.inl hq)).2.1 with h|h|h
         ·exact(e1.2.1 q e).1 h
         ·exact(e1.2.1 q e).2 h
         ·omega
        ·intro q hq e;have h1:=(hv0 q e);rcases(d4 q (.inr hq)).2.1 with h|h|h
         ·exact(e1.2.1 q e).1 h
         ·exact(e1.2.1 q e).2 h
         ·omega
        ·intro q c0 c1 c2 hq e;obtain⟨cur,hc⟩:=own_blk (e1.1.mod ((HM2.out.mono (fun _ _ h=>h.elim)).trans d5) (fun g hg h=>h.elim (e1.2.1 g hg).1 (e1.2.1 g hg).2)) e;rw[hq]at hc;injection (Option.some.inj hc)with _ e2
         exact absurd e2 (by decide)
        ·intro g hg;have h2:¬(Tn1 g∨Tr1 g):=fun h=>by
          have h3:=d4 g h;rcases HT.out.2.2.2.2.1 g hg with h4|h4
          ·have h5:=hv0 g h4;rcases h3.2.1 with h|h|h
           ·exact(e1.2.1 g h4).1 h
           ·exact(e1.2.1 g h4).2 h
           ·omega
          ·omega
         exact⟨fun h=>h2 (.inl h),fun h=>h2 (.inr h)⟩
        ·rw[addG_len,hz];by_cases h0:(takenT R vs).length=0
         ·simp[h0,e3]
         ·simp[h0,e3]
        ·split
         ·omega
         ·show S1.N.length≤_;omega
        ·split
         ·rw[l6];omega
         ·show(S1.es++[_]).length≤_;rw[List.length_append,l6];simp only[List.length_cons,List.length_nil];omega
        ·refine HREG.out.mod HMM.out (fun hh=> ?_) (fun hh=> ?_)
         ·rcases hh with hh|hh
          ·exact(e7 h hh).2.1 rfl
          ·have:=hv0 h hh;omega
         ·rcases hh with hh|hh
          ·exact(e7 r hh).2.2.1 rfl
          ·have:=hv0 r hh;omega
        ·intro q hq;have h3:=d4 q hq;rcases h3.2.1 with h|h|h
         ·have:=e7 q (.inl h);exact⟨this.1,this.2.1,this.2.2.1,by omega⟩
         ·have:=e7 q (.inr h);exact⟨this.1,this.2.1,this.2.2.1,by omega⟩
         ·exact⟨by omega,by omega,by omega,by omega⟩
        ·exact HM.out.then HMM.out (fun q hq hs=>by
          rcases hs with hs|hs
          ·have:=(e7 q hs).1;omega
          ·have:=(hv0 q hs).1;omega))
       have hnb:nb≤i:=by
        have h1:=HST.out.2.1.es;have h2:=HST.out.2.2.1;have h3:=HST.out.2.2.2.2.1;rw[h1,List.length_map,h2]at h3;exact h3
       have hn3:=HN3.out;subst hn3;clear HN3 HT HMM HL3 HRC HREC HST HRUN HKV HV0 HSZ HVL;cases z
       ·go_upto_region 10 with fail;go_wp2_with fail;go_roundw
        case rel=>exact⟨i+1,many2,nb,a3,c3,W3,by omega,hm2,rfl,rfl,rfl,by go_num,HLI⟩
        case measure=>simp[intOf];omega
       ·go_upto_region 10 with fail;go_wp2_with fail;go_roundw
        case rel=>exact⟨i+1,many2,nb+1,a3,c3,W3,by omega,hm2,rfl,rfl,by go_num,by go_num,HLI⟩
        case measure=>simp[intOf];omega
  ·obtain rfl:ll=i:=by omega
   have hd:decide (ll<ll)=false:=by simp
   obtain⟨Tn,Tr,S,G,hbk,hwo,⟨hbp,hgl⟩,⟨z1,z2,z3⟩,-,-,hbb,hmw⟩:=HI.out;have hesl:S.es.length=nb:=by rw[hbp.es,List.length_map,hgl]
   have hosl:S.os.length=wn:=by rw[hbp.os,List.length_map,HWN.out]
   have hE:=ents_c wr hbk (by rw[hbp.es,List.length_map,hgl,←hesl];omega) (fun e he=>by
    have h1:=hbp.eb e he;rw[List.length_map,HWN.out]at h1;rw[HWN.out]at z3;omega)
   rw[hesl]at hE;have HE:=Hi hE;have HO:=Hi (fun w' (m:Mod (fun _=>False) wr w')=>outs_c w' (hbk.mod0 m) (by rw[hosl];rw[HWN.out]at z3;omega) (fun o ho=>by rw[hbp.ch o ho];exact Nat.zero_le _));have HG:=Hi (Ai hwo (Ai hbp (Ai hgl (Ai hmw (Ai z3 hesl)))));have HOS:=Hi hosl;have hnb40:nb≤40∧wn≤40:=by
    have h1:=hesl;rw[HWN.out]at z3;omega
   have HNB:=Hi hnb40;clear hnb40;clear hE hbk hwo hbp hgl z1 z2 z3 hbb hmw hesl hosl HI;obtain⟨wa,rfl⟩:∃wa:World,wa=wr:=⟨_,rfl⟩;go_upto_region 33 with fail;go_wp2_with fail;go_at_call 10;refine HE.out.mono ?_;rintro e w6 ⟨⟨aE,L,rfl,hEl,hLe,hLn⟩,m6⟩;have hC:=HO.out w6 m6;rw[HOS.out]at hC;have HL:=Hi (Ai hEl (Ai hLe hLn));have HC:=Hi hC;have HM6:=Hi m6;have hne:((nb:Int) !=(nb:Int))=false:=by simp
   have hne2:((wn:Int) !=(wn:Int))=false:=by simp
   clear hC hEl hLe hLn m6 HE HO;go_upto_region 34 with fail;go_wp2_with fail;go_at_call 11;refine HC.out.mono ?_;rintro e w7 ⟨⟨aO,cO,rfl⟩,m7⟩;have HM7:=Hi m7;clear m7 HC;go_upto_region 38 with fail;go_loopw [21,22] (fun s21 s22 ws=>∃(q n4:Nat),q≤nb∧s21= .int .i64 (n4:Int)∧s22= .int .i64 (q:Int)∧Hid (n4=((G.take q).flatMap id).length)∧Hid (Mod (fun _=>False) w7 ws)) (fun _ s22 _=>nb-(intOf s22).toNat)
   case atStart=>exact⟨0,0,by omega,rfl,rfl,Hi rfl,Hi (Mod.refl _ _)⟩
   case round=>
    obtain⟨q,n4,hq,rfl,rfl,HN4,HM8⟩:=hrel;by_cases hqn:q<nb
    ·have hdq:=Dt hqn;obtain⟨g1,hg⟩:∃g1,G[q]? =some g1:=⟨_,List.getElem?_eq_getElem (by rw[HG.out.2.2.1];exact hqn)⟩;have hgn:g1.length≤40:=by
      have h1:=flat_at hg;have h2:=HG.out.2.1.wl;have h3:=HG.out.2.2.2.2.1;rw[List.length_map]at h2;have h4:((G.take (q+1)).flatMap id).length≤(G.flatMap id).length:=by
       conv=>rhs;rw[←List.take_append_drop (q+1) G,List.flatMap_append,List.length_append]
       omega
      omega
     obtain⟨b1,b2,b3,b4,b5⟩:=HG.out.2.1.at hg (by omega);obtain⟨x,hx⟩:∃x,L[q]? =some x:=⟨_,List.getElem?_eq_getElem (by
      have h1:=congrArg List.length HL.out.2.1;rw[List.length_map,HG.out.2.2.2.2.2]at h1;rw[h1];exact hqn)⟩
     have hxl:x.l=leB g1.length.toUInt64++g1.flatMap (·.1):=by
      have h1:=congrArg (fun z:List (List UInt8)=>z[q]?) HL.out.2.1;simp only[List.getElem?_map,hx,Option.map_some,b1]at h1;exact Option.some.inj h1
     have HMW:Hid (Mod (fun _=>False) w6 wr):=Hi (HM7.out.trans HM8.out);have hen:=(HL.out.2.2 x (List.mem_of_getElem? hx)).mod0 HMW.out;have hbb:(x.l.length≤x.c∧(x.a=none→x.c=0)∧∀z,x.a=some z→z.block<wr.heap.size):=by
      rcases hen with⟨h1,h2⟩|⟨g,cur,h1,h2,h3,h4⟩
      ·injection h1 with e1 e2 e3
       rw[e1,e3,h2];exact⟨Nat.le_refl _,fun _=>rfl,fun z h=>by cases h⟩
      ·injection h1 with e1 e2 e3
       rw[e1,e3];exact⟨Nat.le_refl _,(fun h=>by cases h),fun z h=>by cases h;exact Ls h3⟩
     have hxn:x.l.length≤900000:=by
      have h1:=HG.out.2.1.eb x.l (by rw[hxl];exact List.mem_of_getElem? b1);rw[List.length_map]at h1;have h3:=HG.out.2.2.2.2.1;omega
     have hsx:=hen.slAt;have hDC:=decode_c wr hsx hbb.1 hbb.2.1 hxn hbb.2.2;have hdx:decP x.l=some (g1.map (·.2)):=by rw[hxl];exact b2
     obtain⟨xn,hxn2⟩:∃xn,x.l.length=xn:=⟨_,rfl⟩;rw[hxn2]at hDC;have HDC:=Hi hDC;have HDX:=Hi hdx;obtain⟨g5,o5,C5,U5,fr5,rfl,kl5,he5,hle5⟩:=SlAt.block (HL.out.1.mod0 HMW.out) hx;have hc5:=cellC he5 (j:=0) (v:= .slice x.a x.l.length x.c) rfl;simp only[Nat.mul_one,Nat.add_zero]at hc5;rw[hxn2]at hc5;have HAT:=Hi (Ai b3 (Ai b4 (Ai b5 (Ai hg (HG.out.2.1.ok g1 (List.mem_of_getElem? hg)).2))));have HQB:Hid (q<nb):=Hi hqn;obtain⟨gn,hgn2⟩:∃gn,g1.length=gn:=⟨_,rfl⟩;have HGN:=Hi hgn2;rw[hgn2]at hgn;have hg0:gn≠0:=fun e=>b3 (List.eq_nil_of_length_eq_zero (hgn2.trans e));clear hx hxl hen hbb hxn hsx hDC hdx hxn2 he5 b1 b2 b3 b4 b5 hg hgn2;go_upto_region 40 with fail;go_wp2_with fail;go_at_call 12;refine HDC.out.mono ?_;rintro e w8 hD;unfold DecA at hD;rw[HDX.out]at hD;obtain⟨m8,v8,L8,rfl,hN8,hO8,hx8⟩:=hD;obtain⟨a8,rfl,hs8,-⟩:=hN8.at;have hl8:L8.length=gn:=by
      have h1:=congrArg List.length hx8;rw[List.length_map,List.length_map]at h1;rw[h1,HGN.out]
     rw[hl8];have HS8:=Hi (Ai hs8 (Ai hO8 (Ai hx8 (Ai hl8 m8))));have hd0:((gn:Int)==0)=false:=by simp[hg0]
     clear hN8 hs8 hO8 hx8 hl8 m8 hc5 kl5 HDC;obtain⟨wc,rfl⟩:∃wc:World,wc=wr:=⟨_,rfl⟩;go_upto_region 44 with fail;go_loopw [21,25] (fun s21 s25 ws=>∃(k n5:Nat),k≤gn∧s21= .int .i64 (n5:Int)∧s25= .int .i64 (k:Int)∧Hid (n5=n4+k)∧Hid (Mod (fun _=>False) w8 ws)) (fun _ s25 _=>gn-(intOf s25).toNat)
     case atStart=>exact⟨0,n4,by omega,rfl,rfl,Hi rfl,Hi (Mod.refl _ _)⟩
     case round=>
      obtain⟨k,n5,hk,rfl,rfl,HN5,HM9⟩:=hrel;by_cases hkg:k<gn
      ·have hdk:=Dt hkg;have hwn40:wn≤40:=HNB.out.2;obtain⟨y,hy⟩:∃y,g1[k]? =some y:=⟨_,List.getElem?_eq_getElem (by rw[HGN.out];exact hkg)⟩;obtain⟨X,hX⟩:∃X,L8[k]? =some X:=⟨_,List.getElem?_eq_getElem (by rw[HS8.out.2.2.2.1];exact hkg)⟩;have hXy:txP X=y.2:=by
        have h1:=congrArg (fun z:List TxP=>z[k]?) HS8.out.2.2.1;simp only[List.getElem?_map,hX,hy,Option.map_some]at h1;exact Option.some.inj h1
       obtain⟨c1,c2,c3⟩:=HAT.out.2.2.1 k y hy;rw[←HN4.out,←HN5.out,List.getElem?_map]at c1;obtain⟨x2,hx2,hx2l⟩:=Option.map_eq_some_iff.1 c1;have hTB:TxB (txP X):=by
        rw[hXy];exact decP_B HDX.out _ (List.mem_map_of_mem (List.mem_of_getElem? hy))
       have hleg:X.v0=true∨(X.lks.l.length=0∧X.h0.toNat<128):=by
        have h1:=wire_leg (HAT.out.2.2.2.2 y (List.mem_of_getElem? hy));rw[←hXy]at h1;simpa[txP,msgP] using h1
       have hput:putT (txP X)=y.1:=by rw[hXy,c2]
       have hP:=pput_c X wr (((HS8.out.2.1.1 X (List.mem_of_getElem? hX)).rd hTB).mod0 HM9.out) hTB hleg (by rw[hput];exact c3);rw[hput]at hP;obtain⟨yn,hyn⟩:∃yn,y.1.length=yn:=⟨_,rfl⟩;rw[hyn]at hP;have HP:=Hi hP;obtain⟨g6,o6,C6,U6,fr6,ha6,kl6,he6,hle6⟩:=(HS8.out.1.mod0 HM9.out).block hX;have hn5w:n5<wn:=by
        have h1:=(List.getElem?_eq_some_iff.1 hx2).1;rw[HWN.out]at h1;exact h1
       have HY:=Hi (Ai hx2 (Ai hx2l (Ai hyn c3)));subst ha6;clear hy hX hXy c1 c2 c3 hx2 hx2l hTB hleg hput hP hyn;go_upto_region 46 with fail;go_wp2_with fail;go_at_call 13;refine HP.out.mono ?_;rintro e w10 ⟨aP,rfl,hsP,m10⟩;have hMM:Mod (fun _=>False) wa w10:=((((HM6.out.trans HMW.out).trans HS8.out.2.2.2.2).trans HM9.out).trans m10);obtain⟨g7,o7,C7,U7,fr7,ha7,kl7,he7,hle7⟩:=((so_rd slsT HG.out.1.1).mod0 hMM).block HY.out.1;have hc7:=cellC he7 (j:=0) (v:= .slice x2.a x2.l.length x2.c) rfl;simp only[Nat.mul_one,Nat.add_zero]at hc7;have hsx:=((HG.out.1.2.2 x2 (List.mem_of_getElem? HY.out.1)).1.mod0 hMM).slAt;rw[HY.out.2.1]at hsx hc7;rw[HY.out.2.2.1]at hc7;have hSB:=sameBytes_c aP x2.a y.1 yn x2.c w10 hsP hsx (by have:=HY.out.2.2.2;omega);rw[HY.out.2.2.1]at hSB;have HSB:=Hi hSB;have HM10:=Hi (HM9.out.trans m10);have hdw:decide ((wn:Int)≤(n5:Int))=false:=Df (by omega);have hdw2:decide (wn≤n5)=false:=Df (by omega);subst ha7;clear hMM hsx hsP m10 hSB he7 he6 kl6 hle6 HP;go_upto_region 47 with fail;go_wp2_with fail;go_at_call 14;refine HSB.out.mono ?_;rintro e w11 ⟨rfl,m11⟩;have HM11:=Hi (HM10.out.trans m11);clear m11 kl7 hc7 HSB;go_wp2_with fail;go_roundw
       case rel=>exact⟨k+1,n5+1,by omega,by go_num,by go_num,Hi (by have:=HN5.out;omega),HM11⟩
       case measure=>simp[intOf];omega
      ·obtain rfl:gn=k:=by omega
       have hdk:decide (gn<gn)=false:=by simp
       have HN6:Hid (n5=((G.take (q+1)).flatMap id).length):=Hi (by
        rw[flat_at HAT.out.2.2.2.1,←HN4.out,HN5.out,HGN.out])
       have HM10:Hid (Mod (fun _=>False) w7 wr):=Hi ((HM8.out.trans HS8.out.2.2.2.2).trans HM9.out);have hnb2:nb≤40:=HNB.out.1;go_upto_region 39 with fail;go_wp2_with fail;go_roundw
       case rel=>exact⟨q+1,n5,by omega,rfl,by go_num,HN6,HM10⟩
       case measure=>simp[intOf];omega
    ·obtain rfl:nb=q:=by omega
     have hdq:decide (nb<nb)=false:=by simp
     have hn4:n4=wn:=by
      have h1:=HG.out.2.1.wl;rw[HN4.out,List.take_of_length_le (by rw[HG.out.2.2.1];exact Nat.le_refl _),←h1,List.length_map,HWN.out]
     subst hn4;have hnn:((n4:Int)==(n4:Int))=true:=by simp
     have HMZ:Hid (Mod (fun _=>False) w wr):=Hi (((HG.out.2.2.2.1.trans HM6.out).trans HM7.out).trans HM8.out);go_upto_region 50 with fail;go_wp2_with fail;go_at_call 5;refine(lives_c _).mono ?_;rintro e wl ⟨rfl,ml⟩;go_wp2_with fail;go_ret;exact⟨rfl,HMZ.out.trans ml⟩
end
end Go.Proofs.YtceodkliooeccaaGreatDoor