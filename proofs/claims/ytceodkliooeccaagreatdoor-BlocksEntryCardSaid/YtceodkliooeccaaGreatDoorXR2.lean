/- The lemmas of the proof, part XO2: how the program and its data lie in memory, and what its functions do. -/
import Derived.Test.YtceodkliooeccaaGreatDoorXR1
import Derived.Lib.EndianBits
import Derived.WalkLawsBesides
import Derived.WideKeyEntry
import Derived.Defers
import Derived.Recover
set_option linter.unusedSimpArgs false
set_option linter.unusedVariables false
set_option linter.unusedSectionVars false

set_option maxRecDepth 20000
set_option maxHeartbeats 3200000
namespace Go.Proofs.YtceodkliooeccaaGreatDoor
open Go.RowKit
open Go.ChangeMaps (setBlock)
attribute [local go_sem] Value.cells cell_blk frozen_blk one_bool one_int one_map one_ptr one_slice
section
def Fz (w:World) (a:Option Addr):Prop:=∀p o,a=some ⟨p,o,none⟩→∃C U,w.heap[p]? =some (.cells C U (0,0))
section
variable {α:Type} {P:Program} {T E:TypeId} {f:α→Array Value} {n B:Nat}
theorem sl_clip (hT:ElT P T E f n B) {g o cap len:Nat} (hk:len≤cap) (w:World):
  (Instr.sliceAt T (.slice (some ⟨g,o,none⟩) len cap) none (some (.int .i64 (len:Int))) (some (.int .i64 (len:Int)))).run P w= .ok (.slice (some ⟨g,o,none⟩) len len) w:=by
 obtain⟨i0,z,hi,hz,hz1,hz2,hz3⟩:=hT.info;have hadd:(⟨g,o,none⟩:Addr).add (0*n)=⟨g,o,none⟩:=by
  unfold Addr.add;rw[Nat.zero_mul,if_pos rfl]
 have hp:(0:Int)≤(len:Int)∧(len:Int)≤(cap:Int):=⟨by omega,by omega⟩;have hp2:(0:Int)≤(len:Int)∧(len:Int)≤(len:Int):=⟨by omega,by omega⟩;simp only[Instr.sliceAt,Instr.slice,Instr.sliceBounds,Instr.sliceBound,asIntOf,sizeOf,typeInfo,run_underlying hT.u,hi,Sem.run_bind,Sem.run_pure,Result.andThen_ok];rw[if_pos hp];simp only[Sem.run_pure,Result.andThen_ok,Go.program,Sem.run,hi,hz1,Option.map_some,Int.toNat_natCast,hadd,Nat.sub_zero,ite_self,hp2,and_self,if_true]
theorem sl_clip0 (hT:ElT P T E f n B) (w:World):
  (Instr.sliceAt T (.slice none 0 0) none (some (.int .i64 0)) (some (.int .i64 0))).run P w= .ok (.slice none 0 0) w:=by
 obtain⟨i0,z,hi,hz,hz1,hz2,hz3⟩:=hT.info;simp only[Instr.sliceAt,Instr.slice,Instr.sliceBounds,Instr.sliceBound,asIntOf,sizeOf,typeInfo,run_underlying hT.u,hi,Sem.run_bind,Sem.run_pure,Result.andThen_ok];rw[if_pos ⟨by omega,by omega⟩];simp[Sem.run_pure,Result.andThen_ok,Go.program,Sem.run,hi,hz1]
theorem clip_own (hT:ElT P T E f n B) {w:World} {base:Nat} {v:Value} {l:List α} (h:SlOwn f n E w base v l):
  ∃a c,v= .slice a l.length c∧(∀w2,(Instr.sliceAt T v none (some (.int .i64 (l.length:Int))) (some (.int .i64 (l.length:Int)))).run P w2= .ok (.slice a l.length l.length) w2)∧SlAt f n w a l∧(∀x,a=some x→base≤x.block∧v.ownBlock=some x.block)∧Fz w a:=by
 obtain⟨a,c,h1,h2,h3,h4⟩:=h.at hT;rcases h.2 with⟨rfl,hn⟩|⟨g,cap,cur,rfl,hb,hg,hnc,hcm,hcs,htake⟩
 ·obtain rfl:l=[]:=List.eq_nil_of_length_eq_zero hn;injection h1 with e1 e2 e3
  subst e1;exact⟨none,0,rfl,fun w2=>sl_clip0 hT w2,h2,fun x hx=>⟨(h3 x hx).1,(h3 x hx).2.2⟩,fun p o e=>by cases e⟩
 ·injection h1 with e1 e2 e3
  subst e1;exact⟨_,cap,rfl,fun w2=>sl_clip hT hnc w2,h2,fun x hx=>⟨(h3 x hx).1,(h3 x hx).2.2⟩,fun p o e=>by cases e;exact⟨_,_,hg⟩⟩
end
section
variable {α:Type} {P:Program} {T E:TypeId} {f:α→Array Value} {n B:Nat}
def NewS (f:α→Array Value) (n:Nat) (E:TypeId) (base:Nat) (w:World) (v:Value) (l:List α):Prop:=
 (v= .slice none 0 0∧l=[])∨∃g cur,v= .slice (some ⟨g,0,none⟩) l.length l.length∧base≤g∧w.heap[g]? =some (.cells cur E (0,0))∧∀(i:Nat) x,l[i]? =some x→cur.extract (i*n) (i*n+n)=f x∧i*n+n≤cur.size
theorem NewS.at {base:Nat} {w:World} {v:Value} {l:List α} (h:NewS f n E base w v l):∃a,v= .slice a l.length l.length∧SlAt f n w a l∧∀g o,a=some ⟨g,o,none⟩→base≤g∧g<w.heap.size:=by
 rcases h with⟨rfl,rfl⟩|⟨g,cur,rfl,hb,hg,hc⟩
 ·exact⟨none,rfl,.inl rfl,fun g o e=>by cases e⟩
 ·exact⟨_,rfl,.inr ⟨g,0,cur,_,_,rfl,hg,fun i x hx=>by simpa using hc i x hx⟩,fun g' o e=>by cases e;exact⟨hb,Ls hg⟩⟩
theorem NewS.mod {base:Nat} {w w':World} {v:Value} {l:List α} {S:Nat→Prop} (h:NewS f n E base w v l) (hm:Mod S w w') (hS:∀g,v.ownBlock=some g→¬S g):NewS f n E base w' v l:=by
 rcases h with h|⟨g,cur,rfl,hb,hg,hc⟩
 ·exact .inl h
 ·exact .inr ⟨g,cur,rfl,hb,hm.at hg (hS g rfl),hc⟩
theorem NewS.mod0 {base:Nat} {w w':World} {v:Value} {l:List α} (h:NewS f n E base w v l) (hm:Mod (fun _=>False) w w'):NewS f n E base w' v l:=h.mod hm (fun _ _ h=>h)
theorem NewS.base {b b':Nat} {w:World} {v:Value} {l:List α} (h:NewS f n E b w v l) (hb:b'≤b):NewS f n E b' w v l:=by
 rcases h with h|⟨g,cur,e,h1,h2⟩
 ·exact .inl h
 ·exact .inr ⟨g,cur,e,Nat.le_trans hb h1,h2⟩
theorem NewS.lt {base:Nat} {w:World} {v:Value} {l:List α} (h:NewS f n E base w v l):∀g,v.ownBlock=some g→base≤g∧g<w.heap.size:=by
 intro g hg;rcases h with⟨rfl,_⟩|⟨g',cur,rfl,h1,h2,_⟩
 ·cases hg
 ·cases hg;exact⟨h1,Ls h2⟩
theorem own_e {w:World} {base q:Nat} (hb:base≤q) (hg:w.heap[q]? =some (.cells #[] E (0,0))):SlOwn f n E w base (.slice (some ⟨q,0,none⟩) 0 0) ([]:List α):=
 ⟨by simp[cellsOf],.inr ⟨q,0,#[],rfl,hb,hg,Nat.le_refl _,by simp[maxLen],by simp,by simp[cellsOf]⟩⟩
theorem SlOwn.clip (hT:ElT P T E f n B) {w:World} {base:Nat} {v:Value} {l:List α} (h:SlOwn f n E w base v l):
  ∃a c v2,v= .slice a l.length c∧(∀w2,(Instr.sliceAt T v none (some (.int .i64 (l.length:Int))) (some (.int .i64 (l.length:Int)))).run P w2= .ok v2 w2)∧NewS f n E base w v2 l:=by
 rcases h.2 with⟨rfl,hn⟩|⟨g,cap,cur,rfl,hb,hg,hnc,hcm,hcs,htake⟩
 ·obtain rfl:l=[]:=List.eq_nil_of_length_eq_zero hn;exact⟨none,0,_,rfl,fun w2=>sl_clip0 hT w2,.inl ⟨rfl,rfl⟩⟩
 ·refine⟨_,cap,_,rfl,fun w2=>sl_clip hT hnc w2,.inr ⟨g,cur,rfl,hb,hg,fun i x hx=> ?_⟩⟩;obtain⟨a,c,e,hat,_⟩:=h.at hT;injection e with e1 _ _
  subst e1;obtain⟨b,o,C,U,fr,e2,hb2,he,hle⟩:=hat.block hx;cases e2;rw[hg]at hb2;cases hb2;simpa using Ai he hle
end
theorem outT:ElT Tryz.prog 69 63 ocr 6 64 where
 u:=Tryz.underlying69
 info:=by
  obtain⟨i0,hi,hz0,hz1,hz2⟩:=info_parts (show(Tryz.prog.info? 63).map (fun i=>(i.zero,i.size,i.bytes))=some (some (.agg zOut),6,64)by kernel_rfl);exact⟨i0,_,hi,hz0,hz1,hz2,by simp[Value.cells,zOut,ocr_size]⟩
 pos:=by omega
 size:=ocr_size
 one o:=by
  have h2:=ocr_one' o;rw[Array.all_eq_true_iff_forall_mem]at h2;intro u hu;exact h2 u (by simpa using hu)
end
theorem u8_at {w:World} {a:Option Addr} {l:List UInt8} (h:SlAt uc 1 w a l) {i:Nat} {x:UInt8} (hx:l[i]? =some x):∃b o C U fr,a=some ⟨b,o,none⟩∧w.heap[b]? =some (.cells C U fr)∧C[o+i]? =some (.int .u8 (x.toNat:Int)):=by
 obtain⟨b,o,C,U,fr,ha,hb,he,hle⟩:=h.block hx;refine⟨b,o,C,U,fr,ha,hb,?_⟩;have h0:=congrArg (fun A:Array Value=>A[0]?) he;simp only[Nat.mul_one]at h0 hle;rw[Array.getElem?_extract,if_pos (by omega)]at h0;simpa[uc] using h0
def gsh:Nat→Nat→List UInt8→Nat×Nat×Nat
 |_,_,[]=>(0,0,5)
 |i,n,c::r=>if(0<i∧c.toNat=0)∨(i=2∧3<c.toNat)then(0,0,4)else if c.toNat<128 then(n+c.toNat % 128*128^i,i+1,0)else gsh (i+1) (n+c.toNat % 128*128^i) r
theorem andN_all:∀k,k<256→bits .andNot .u8 ((k:Nat):Int) 128=((k % 128:Nat):Int):=by decide+kernel
theorem andN (x:UInt8):bits .andNot .u8 (x.toNat:Int) 128=((x.toNat % 128:Nat):Int):=andN_all _ x.toNat_lt
theorem wrap64_id {n:Int} (h0:0≤n) (h1:n<9223372036854775808):wrap64 n=n:=by
 unfold wrap64;omega
theorem orI {n m i:Nat} (hn:n<128^i) (hm:m<128) (hi:i≤2):bits .or .i64 (n:Int) (wrap64 (wrap64 (m:Int)*2^(7*i)))=((n+m*128^i:Nat):Int):=by
 have key:∀(j:Nat) (p:Int),p=2^j→0<p∧p≤16384→(n:Int)<2^j→bits .or .i64 (n:Int) (wrap64 (wrap64 (m:Int)*p))=(n:Int)+(m:Int)*p:=fun j p hp hpp hn2=>by
  have h1:(m:Int)*p≤127*16384:=by
   have h2:(m:Int)≤127:=by omega
   calc (m:Int)*p≤127*p:=Int.mul_le_mul_of_nonneg_right h2 (by omega)
    _≤127*16384:=by omega
  have h0:0≤(m:Int)*p:=Int.mul_nonneg (by omega) (by omega);rw[wrap64_id (n:=(m:Int)) (by omega) (by omega),wrap64_id h0 (by omega)];refine bits_join_low .i64 60 (by decide) (fun z h0 h1=>by rw[IntKind.wrap_i64];omega) j _ _ (by omega) hn2 (by omega) h0 ?_ (by omega);rw[hp,Int.mul_emod_left]
 rcases(by omega:i=0∨i=1∨i=2)with rfl|rfl|rfl
 ·have:=key 0 1 (by decide) (by decide) (by simp at hn⊢;omega);simpa using this
 ·have:=key 7 128 (by decide) (by decide) (by simp at hn⊢;omega);simpa using this
 ·have:=key 14 16384 (by decide) (by decide) (by simp at hn⊢;omega);simpa using this
abbrev i64n (n:Nat):Value:= .int .i64 (n:Int)
theorem gsh_c (a:Option Addr) (l:List UInt8) (c:Nat) (w:World) (hl:SlAt uc 1 w a l) (hn:l.length≤140737488355328):
  Calls Tryz.prog 99 #[.slice a l.length c] w fun e w'=>e= .returned (.tuple #[i64n (gsh 0 0 l).1,i64n (gsh 0 0 l).2.1,i64n (gsh 0 0 l).2.2])∧Mod (fun _=>False) w w':=by
 have HL:=Hi hl;clear hl;obtain⟨ll,hll⟩:∃ll,l.length=ll:=⟨_,rfl⟩;have HLL:=Hi hll;rw[hll]at hn⊢;clear hll;go_enter Tryz.func99,Tryz.ntmps99;go_wp2_with fail;go_loopw [2,9] (fun s2 s9 ws=>∃i n:Nat,i≤ll∧i≤2∧s2= .int .i64 (n:Int)∧s9= .int .i64 (i:Int)∧Hid (n<128^i)∧Hid (gsh 0 0 l=gsh i n (l.drop i))∧Mod (fun _=>False) w ws) (fun _ s9 _=>ll-(intOf s9).toNat)
 case atStart=>exact⟨0,0,by omega,by omega,rfl,rfl,Hi (by decide),Hi (by simp),Mod.refl _ _⟩
 case round=>
  obtain⟨i,n,hi,hi2,rfl,rfl,HN,HG,hm⟩:=hrel;by_cases hlt:i<ll
  ·have hd:=Dt hlt;obtain⟨x,hx⟩:∃x,l[i]? =some x:=⟨_,List.getElem?_eq_getElem (by rw[HLL.out];exact hlt)⟩;obtain⟨b,o,C,U,fr,rfl,kb,hc⟩:=u8_at (HL.out.mod0 hm) hx;have HD:Hid (l.drop i=x::l.drop (i+1)):=Hi (by
    obtain⟨h1,rfl⟩:=List.getElem?_eq_some_iff.1 hx;exact List.drop_eq_getElem_cons h1)
   clear hx;have hx256:=x.toNat_lt;obtain⟨p1,h1⟩:∃p,decide (0<i)=p:=⟨_,rfl⟩;obtain⟨p2,h2⟩:∃p,((x.toNat:Int)==0)=p:=⟨_,rfl⟩;obtain⟨p3,h3⟩:∃p,((i:Int)==2)=p:=⟨_,rfl⟩;obtain⟨p4,h4⟩:∃p,decide (3<x.toNat)=p:=⟨_,rfl⟩;have h1b:decide ((i:Int)>0)=p1:=by rw[←h1,decide_eq_decide];omega
   have h4b:decide ((x.toNat:Int)>3)=p4:=by rw[←h4,decide_eq_decide];omega
   have HBAD:Hid (((0<i∧x.toNat=0)∨(i=2∧3<x.toNat))↔(p1&&p2||p3&&p4)=true):=Hi (by
    rw[←h1,←h2,←h3,←h4];simp only[Bool.or_eq_true,Bool.and_eq_true,decide_eq_true_iff,beq_iff_eq];omega)
   go_upto_region 4 with fail;go_cut [9,27]from 9 to 41 (fun s9 s27 wx=>s9= .int .i64 (i:Int)∧s27= .bool (p1&&p2||p3&&p4)∧wx=wr)
   case first=>
    cases p1<;>cases p2<;>cases p3<;>cases p4<;>(go_wp2_with fail;go_meet;exact⟨rfl,rfl,rfl⟩)
   case rest=>
   obtain⟨rfl,rfl,rfl⟩:=hcut;obtain⟨q,hq⟩:∃q,(p1&&p2||p3&&p4)=q:=⟨_,rfl⟩;rw[hq]at HBAD⊢;clear hq h1 h2 h3 h4 h1b h4b;have hx256:=x.toNat_lt;cases q with
   |true=>
    have HE:Hid (gsh 0 0 l=(0,0,4)):=Hi (by rw[HG.out,HD.out,gsh,if_pos (HBAD.out.2 rfl)]);go_wp2_with fail;refine bodyPost_ret (results_tmp3 rfl _ _ _) rfl ⟨?_,hm⟩;rw[HE.out];rfl
   |false=>
    have HB:Hid (¬((0<i∧x.toNat=0)∨(i=2∧3<x.toNat))):=Hi (fun h=>by have:=HBAD.out.1 h;cases this);obtain⟨m,hmm⟩:∃m,x.toNat % 128=m:=⟨_,rfl⟩;have hA:=andN x;rw[hmm]at hA;have hm128:m<128:=by omega
    obtain⟨nn,hnn⟩:∃nn,n+m*128^i=nn:=⟨_,rfl⟩;have hO:=orI HN.out hm128 hi2;rw[hnn]at hO;have hw:wrap64 (m:Int)=(m:Int):=wrap64_id (by omega) (by omega);have hO2:=hO;rw[hw]at hO2;have HNN:=Hi (Ai hnn hmm);clear hmm hnn;go_upto_region 7 with fail;clear hA hO hO2 hw;by_cases h128:x.toNat<128
    ·have hd7:decide ((x.toNat:Int)<128)=true:=Dt (by omega);have HE:Hid (gsh 0 0 l=(nn,i+1,0)):=Hi (by rw[HG.out,HD.out,gsh,if_neg HB.out,if_pos h128,HNN.out.2,HNN.out.1]);go_wp2_with fail;refine bodyPost_ret (results_tmp3 rfl _ _ _) rfl ⟨?_,hm⟩;rw[HE.out];rfl
    ·have hd7:decide ((x.toNat:Int)<128)=false:=Df (by omega);have HE:Hid (gsh 0 0 l=gsh (i+1) nn (l.drop (i+1))):=Hi (by rw[HG.out,HD.out,gsh,if_neg HB.out,if_neg h128,HNN.out.2,HNN.out.1]);have hi3:i+1≤2:=by
      have:=HB.out;omega
     have HNX:Hid (nn<128^(i+1)):=Hi (by
      rw[←HNN.out.1,Nat.pow_succ];have h1:=HN.out;have h2:m*128^i≤127*128^i:=Nat.mul_le_mul_right _ (by omega);omega)
     go_wp2_with fail;go_roundw
     case rel=>exact⟨i+1,nn,by omega,hi3,rfl,by go_num,HNX,HE,hm⟩
     case measure=>simp[intOf];omega
  ·have hd:=Df hlt;obtain rfl:ll=i:=by omega
   have HE:Hid (gsh 0 0 l=(0,0,5)):=Hi (by rw[HG.out,List.drop_of_length_le (by rw[HLL.out];omega),gsh]);go_wp2_with fail;refine bodyPost_ret (results_tmp3 rfl _ _ _) rfl ⟨?_,hm⟩;rw[HE.out];rfl
def leV:List UInt8→Nat
 |[]=>0
 |c::r=>c.toNat+256*leV r
theorem leV_lt:∀l:List UInt8,leV l<256^l.length
 |[]=>by simp[leV]
 |c::r=>by
  have h1:=leV_lt r;have h2:=c.toNat_lt;rw[leV,List.length_cons,Nat.pow_succ];omega
theorem leV_snoc:∀(l:List UInt8) (c:UInt8),leV (l++[c])=leV l+c.toNat*256^l.length
 |[],c=>by simp[leV]
 |d::r,c=>by
  have h1:=leV_snoc r c;rw[List.cons_append,leV,leV,h1,List.length_cons,Nat.pow_succ,←Nat.mul_assoc c.toNat];omega
theorem orU {n x i:Nat} (hn:n<256^i) (hx:x<256) (hi:i≤7):bits .or .u64 (n:Int) (IntKind.u64.wrap ((x:Int)*2^(8*i)))=((n+x*256^i:Nat):Int):=by
 have key:∀(j:Nat) (p:Int),p=2^j→0<p∧p≤72057594037927936→(n:Int)<2^j→(n:Int)<72057594037927936→bits .or .u64 (n:Int) (IntKind.u64.wrap ((x:Int)*p))=(n:Int)+(x:Int)*p:=fun j p hp hpp hn2 hn3=>by
  have h1:(x:Int)*p≤255*72057594037927936:=by
   have h2:(x:Int)≤255:=by omega
   calc (x:Int)*p≤255*p:=Int.mul_le_mul_of_nonneg_right h2 (by omega)
    _≤255*72057594037927936:=by omega
  have h0:0≤(x:Int)*p:=Int.mul_nonneg (by omega) (by omega);rw[wraps_u64 _ h0 (by omega)];refine bits_join_low .u64 64 (by decide) wraps_u64 j _ _ (by omega) hn2 (by omega) h0 ?_ (by omega);rw[hp,Int.mul_emod_left]
 rcases(by omega:i=0∨i=1∨i=2∨i=3∨i=4∨i=5∨i=6∨i=7)with rfl|rfl|rfl|rfl|rfl|rfl|rfl|rfl
 ·simpa using key 0 1 (by decide) (by decide) (by simp at hn⊢;omega) (by simp at hn;omega)
 ·simpa using key 8 256 (by decide) (by decide) (by simp at hn⊢;omega) (by simp at hn;omega)
 ·simpa using key 16 65536 (by decide) (by decide) (by simp at hn⊢;omega) (by simp at hn;omega)
 ·simpa using key 24 16777216 (by decide) (by decide) (by simp at hn⊢;omega) (by simp at hn;omega)
 ·simpa using key 32 4294967296 (by decide) (by decide) (by simp at hn⊢;omega) (by simp at hn;omega)
 ·simpa using key 40 1099511627776 (by decide) (by decide) (by simp at hn⊢;omega) (by simp at hn;omega)
 ·simpa using key 48 281474976710656 (by decide) (by decide) (by simp at hn⊢;omega) (by simp at hn;omega)
 ·simpa using key 56 72057594037927936 (by decide) (by decide) (by simp at hn⊢;omega) (by simp at hn;omega)
def getN (l:List UInt8) (k:Nat):Nat×Nat:=if l.length<k then(0,5)else(leV (l.take k),0)
abbrev u64n (n:Nat):Value:= .int .u64 (n:Int)
theorem getN_c (a:Option Addr) (l:List UInt8) (c k:Nat) (w:World) (hl:SlAt uc 1 w a l) (hn:l.length≤140737488355328) (hk:1≤k∧k≤8):
  Calls Tryz.prog 53 #[.slice a l.length c,.int .i64 (k:Int)] w fun e w'=>e= .returned (.tuple #[u64n (getN l k).1,i64n (getN l k).2])∧Mod (fun _=>False) w w':=by
 have HL:=Hi hl;clear hl;obtain⟨ll,hll⟩:∃ll,l.length=ll:=⟨_,rfl⟩;have HLL:=Hi hll;rw[hll]at hn⊢;clear hll;have hk1:decide ((k:Int)<1)=false:=Df (by omega);have hk8:decide ((k:Int)>8)=false:=Df (by omega);go_enter Tryz.func53,Tryz.ntmps53;by_cases hs:ll<k
 ·have hd:=Dt hs;have HE:Hid (getN l k=(0,5)):=Hi (by rw[getN,HLL.out,if_pos hs]);go_wp2_with fail;refine bodyPost_ret (results_tmp2 rfl _ _ _) rfl ⟨?_,Mod.refl _ _⟩;rw[HE.out];rfl
 ·have hd:=Df hs;have HE:Hid (getN l k=(leV (l.take k),0)):=Hi (by rw[getN,HLL.out,if_neg hs]);go_wp2_with fail;go_loopw [4,20] (fun s4 s20 ws=>∃i n:Nat,i≤k∧s4= .int .u64 (n:Int)∧s20= .int .i64 (i:Int)∧Hid (n<256^i∧n=leV (l.take i))∧Mod (fun _=>False) w ws) (fun _ s20 _=>k-(intOf s20).toNat)
  case atStart=>exact⟨0,0,by omega,rfl,rfl,Hi ⟨by decide,rfl⟩,Mod.refl _ _⟩
  case round=>
   obtain⟨i,n,hi,rfl,rfl,HN,hm⟩:=hrel;by_cases hlt:i<k
   ·have hdi:=Dt hlt;have hil:i<ll:=by omega
    obtain⟨x,hx⟩:∃x,l[i]? =some x:=⟨_,List.getElem?_eq_getElem (by rw[HLL.out];exact hil)⟩;obtain⟨b,o,C,U,fr,rfl,kb,hc⟩:=u8_at (HL.out.mod0 hm) hx;have hx256:=x.toNat_lt;obtain⟨nn,hnn⟩:∃nn,n+x.toNat*256^i=nn:=⟨_,rfl⟩;have hO:=orU HN.out.1 hx256 (by omega);rw[hnn]at hO;have HX:Hid (nn<256^(i+1)∧nn=leV (l.take (i+1))):=Hi (by
     have h1:nn=leV (l.take (i+1)):=by
      rw[List.take_add_one,hx,Option.toList_some,leV_snoc,List.length_take,HLL.out,Nat.min_eq_left (by omega),←HN.out.2,hnn]
     refine⟨?_,h1⟩;have h2:=leV_lt (l.take (i+1));rw[List.length_take,HLL.out,Nat.min_eq_left (by omega)]at h2;rw[h1];exact h2)
    clear hx hnn;go_wp2_with fail;go_roundw
    case rel=>exact⟨i+1,nn,by omega,rfl,by go_num,HX,hm⟩
    case measure=>simp[intOf];omega
   ·have hdi:=Df hlt;obtain rfl:k=i:=by omega
    go_wp2_with fail;refine bodyPost_ret (results_tmp2 rfl _ _ _) rfl ⟨?_,hm⟩;rw[HE.out,←HN.out.2];rfl
theorem sl_part {α:Type} {P:Program} {T E:TypeId} {f:α→Array Value} {n B:Nat} (hT:ElT P T E f n B) {w0:World} {a:Option Addr} {l:List α} {c k m:Nat} (hl:SlAt f n w0 a l) (hk:k≤m) (hm:m≤l.length) (hc:l.length≤c) (hn:a=none→c=0):
  ∃a',(∀w,(Instr.sliceAt T (.slice a l.length c) (some (.int .i64 (k:Int))) (some (.int .i64 (m:Int))) none).run P w= .ok (.slice a' (m-k) (c-k)) w)∧
   (∀w,SlAt f n w a l→SlAt f n w a' ((l.drop k).take (m-k)))∧(∀x,a'=some x→∃y,a=some y∧y.block=x.block)∧(a'=none→a=none):=by
 obtain⟨i0,z,hi,hz,hz1,hz2,hz3⟩:=hT.info;have hp:(0:Int)≤(m:Int)∧(m:Int)≤(c:Int):=⟨by omega,by omega⟩;have hp2:(0:Int)≤(k:Int)∧(k:Int)≤(m:Int):=⟨by omega,by omega⟩;cases a with
 |none=>
  have hc0:=hn rfl;have hk0:k=0:=by omega
  have hm0:m=0:=by omega
  subst hk0 hm0;refine⟨none,fun w=> ?_,fun w h=> .inl (by simp),fun x e=>(by cases e),fun _=>rfl⟩;simp only[Instr.sliceAt,Instr.slice,Instr.sliceBounds,Instr.sliceBound,asIntOf,sizeOf,typeInfo,run_underlying hT.u,hi,Sem.run_bind,Sem.run_pure,Result.andThen_ok];rw[if_pos hp];simp only[Sem.run_pure,Result.andThen_ok,Int.toNat_natCast];rw[if_pos hp2];simp[Sem.run_pure,Result.andThen_ok,Go.program,Sem.run,hi,hz1]
 |some x=>
  refine⟨some (if c=k then x else x.add (k*n)),fun w=> ?_,fun w h=> ?_,fun y e=> ?_,fun h=>by cases h⟩
  ·simp only[Instr.sliceAt,Instr.slice,Instr.sliceBounds,Instr.sliceBound,asIntOf,sizeOf,typeInfo,run_underlying hT.u,hi,Sem.run_bind,Sem.run_pure,Result.andThen_ok];rw[if_pos hp];simp only[Sem.run_pure,Result.andThen_ok,Int.toNat_natCast];rw[if_pos hp2];by_cases hck:c=k<;>simp[Sem.run_pure,Result.andThen_ok,Go.program,Sem.run,hi,hz1,hck]
  ·by_cases hmk:m=k
   ·subst hmk;exact .inl (by simp)
   ·have hck:c≠k:=by omega
    rw[if_neg hck];rcases h with h|⟨b,o,C,U,fr,ha,hb,hcc⟩
    ·subst h;exact .inl (by simp)
    ·cases ha;have hadd:(⟨b,o,none⟩:Addr).add (k*n)=⟨b,o+k*n,none⟩:=by
      unfold Addr.add;split<;>simp_all
     rw[hadd];refine .inr ⟨b,o+k*n,C,U,fr,rfl,hb,fun i y hy=> ?_⟩;have hy2:l[k+i]? =some y:=by
      rw[List.getElem?_take]at hy;split at hy
      ·rw[List.getElem?_drop]at hy;exact hy
      ·cases hy
     have:=hcc (k+i) y hy2;rw[Nat.add_mul,←Nat.add_assoc]at this;exact this
  ·have e2:(if c=k then x else x.add (k*n))=y:=Option.some.inj e;refine⟨x,rfl,?_⟩;rw[←e2];split
   ·rfl
   ·unfold Addr.add;split
    ·rfl
    ·rfl
theorem sl_from {α:Type} {P:Program} {T E:TypeId} {f:α→Array Value} {n B:Nat} (hT:ElT P T E f n B) {w0:World} {a:Option Addr} {l:List α} {c k:Nat} (hl:SlAt f n w0 a l) (hk:k≤l.length) (hc:l.length≤c) (hn:a=none→c=0):
  ∃a',(∀w,(Instr.sliceAt T (.slice a l.length c) (some (.int .i64 (k:Int))) none none).run P w= .ok (.slice a' (l.length-k) (c-k)) w)∧
   (∀w,SlAt f n w a l→SlAt f n w a' (l.drop k))∧(∀x,a'=some x→∃y,a=some y∧y.block=x.block)∧(a'=none→a=none):=by
 obtain⟨i0,z,hi,hz,hz1,hz2,hz3⟩:=hT.info;have hp2:(0:Int)≤(k:Int)∧(k:Int)≤(l.length:Int):=⟨by omega,by omega⟩;cases a with
 |none=>
  have hc0:=hn rfl;have hk0:k=0:=by omega
  subst hk0;have hll:l.length=0:=by omega
  refine⟨none,fun w=> ?_,fun w h=> .inl (by rw[List.drop_zero];exact List.eq_nil_of_length_eq_zero hll),fun x e=>(by cases e),fun _=>rfl⟩;simp only[Instr.sliceAt,Instr.slice,Instr.sliceBounds,Instr.sliceBound,asIntOf,sizeOf,typeInfo,run_underlying hT.u,hi,Sem.run_bind,Sem.run_pure,Result.andThen_ok];rw[if_pos hp2];simp[Sem.run_pure,Result.andThen_ok,Go.program,Sem.run,hi,hz1,hll,hc0]
 |some x=>
  refine⟨some (if c=k then x else x.add (k*n)),fun w=> ?_,fun w h=> ?_,fun y e=> ?_,fun h=>by cases h⟩
  ·simp only[Instr.sliceAt,Instr.slice,Instr.sliceBounds,Instr.sliceBound,asIntOf,sizeOf,typeInfo,run_underlying hT.u,hi,Sem.run_bind,Sem.run_pure,Result.andThen_ok];rw[if_pos hp2];by_cases hck:c=k<;>simp[Sem.run_pure,Result.andThen_ok,Go.program,Sem.run,hi,hz1,hck]
  ·by_cases hmk:l.length=k
   ·exact .inl (List.drop_of_length_le (by omega))
   ·have hck:c≠k:=by omega
    rw[if_neg hck];rcases h with h|⟨b,o,C,U,fr,ha,hb,hcc⟩
    ·subst h;exact .inl (by simp)
    ·cases ha;have hadd:(⟨b,o,none⟩:Addr).add (k*n)=⟨b,o+k*n,none⟩:=by
      unfold Addr.add;split<;>simp_all
     rw[hadd];refine .inr ⟨b,o+k*n,C,U,fr,rfl,hb,fun i y hy=> ?_⟩;rw[List.getElem?_drop]at hy;have:=hcc (k+i) y hy;rw[Nat.add_mul,←Nat.add_assoc]at this;exact this
  ·have e2:(if c=k then x else x.add (k*n))=y:=Option.some.inj e;refine⟨x,rfl,?_⟩;rw[←e2];split
   ·rfl
   ·unfold Addr.add;split
    ·rfl
    ·rfl
theorem eff_callT {P:Program} {ops:Array Oper} {Q:Exit→Act→World→Prop} {κ:Nat→Nat} {i:Nat} {r:List Nat} {a:Act} {o:Oper} {w:World} {f:FuncId} {args:Array Value} {R:Ending→World→Prop} (ho:ops[i]? =some o) (hw:Region.wanted o (yielded ops a.tmps)=true)
  (hy:(execOp a.eval o).run P w= .ok (.enter f args) w) (hc:Calls P f args w R) (hout:∀w',¬R .outgrown w') (hn:∀v w',R (.returned v) w'→TE P ops Q κ r (a.put o.dst v) w') (hp:∀ch w',R (.panicked ch) w'→Q (.panic ch) a w'):wpOp P ops Q i (fun a' w''=>TE P ops Q κ r a' w'') a w:=by
 unfold wpOp;simp only[ho,hw,if_true];refine .inl ?_;unfold Oper.wp;rw[hy,Oper.upon_enter];refine hc.mono ?_;intro e w' h;cases e with
 |returned v=>exact hn v w' h
 |panicked ch=>exact hp ch w' h
 |outgrown=>exact absurd h (hout w')
theorem eff_loadV {P:Program} {ops:Array Oper} {Q:Exit→Act→World→Prop} {i:Nat} {a:Act} {o:Oper} {K:Act→World→Prop} {w:World} {T:TypeId} {x:Operand} {X v:Value} (ho:ops[i]? =some o) (hw:Region.wanted o (yielded ops a.tmps)=true)
  (hop:o.op= .load T x) (hx:a.eval x=X) (hr:(Instr.loadAt T X).run P w= .ok v w) (h:K (a.put o.dst v) w):wpOp P ops Q i K a w:=
 eff_value ho hw (by subst hx;simp[execOp,hop,hr]) h
theorem must_t (v:Value) (w:World):Calls Tryz.prog 134 #[.bool true,v] w fun e w'=>e= .returned (.tuple #[])∧w'=w:=by
 go_enter Tryz.func134,Tryz.ntmps134;go_wp2_with fail;go_end0;exact⟨rfl,rfl⟩
theorem must_f (n:Int) (w:World):Calls Tryz.prog 134 #[.bool false,.int .i64 n] w fun e w'=>e= .panicked [{v:= .iface 262 (.agg #[.int .i64 n]),recovered:=false}]∧w'=w:=by
 go_enter Tryz.func134,Tryz.ntmps134;go_wp2_with fail
 first|exact⟨rfl,rfl⟩|exact⟨rfl,rfl,rfl⟩|simp[bodyPost]
theorem bsEY (w:World):(Instr.buildSlice 42 0 #[]).run Tryz.prog w= .ok (.slice (some ⟨w.heap.size,0,none⟩) 0 0) (w.alloc (.cells #[] 5)):=by kernel_rfl
theorem eqNilY (w:World) (a:Option Addr) (n c:Nat):(binOp .eql 42 (.slice a n c) (.slice none 0 0)).run Tryz.prog w= .ok (.bool a.isNone) w:=by
 cases a<;>kernel_rfl
theorem cloneY_c {w:World} {a:Option Addr} {l:List UInt8} {c:Nat} (hl:SlAt uc 1 w a l) (hlen:l.length≤1000000):Calls Tryz.prog 37 #[.slice a l.length c] w fun e w'=>∃v,e= .returned v∧SlOwn uc 1 5 w' w.heap.size v l∧Mod (fun _=>False) w w':=by
 have he:=eqNilY;cases a with
 |none=>
  obtain rfl:l=[]:=by
   rcases hl with h|⟨_,_,_,_,_,h,_⟩
   ·exact h
   ·cases h
  go_enter Tryz.func37,Tryz.ntmps37;go_wp2_with fail;go_ret;exact⟨_,rfl,SlOwn.nil _ _,Mod.refl _ _⟩
 |some p=>
  have HL:=Hi hl;have hbs:=bsEY;generalize hll:l.length=ll at *;have HLL:=Hi hll;clear hl hll;go_enter Tryz.func37,Tryz.ntmps37;go_upto_region 3 with fail;refine ZP0 [3,0,5,0] ?_;refine Zy hbs fun p5 hp5=> ?_;refine Zv ?_;refine Zi fun w1 hr=> ?_;obtain⟨gp5,kp5⟩:=hr.b p5;have m1:=hr.mod;clear hr;obtain⟨v3,w6,hap,hO6,m6,hn6⟩:=SlOwn.append bytesT (c:=c) (own_e (f:=uc) (n:=1) gp5 kp5) (HL.out.mod0 m1) (by simp;have:=HLL.out;omega) (by decide) m1.size 42;have mF:Mod (fun _=>False) w w6:=m1.then m6 (fun i hi e=>by
   have e2:p5=i:=Option.some.inj e;omega)
  rw[HLL.out]at hap;have HO:=Hi hO6;clear hn6 m6 hO6;refine ZA hap ?_;refine Ze ?_;refine TE.nil ?_;go_wp2_with fail;go_ret;exact⟨_,rfl,HO.out,mF⟩
theorem SlOwn.low {α:Type} {f:α→Array Value} {n:Nat} {E:TypeId} {w:World} {b b':Nat} {v:Value} {l:List α} (h:SlOwn f n E w b v l) (hb:b'≤b):SlOwn f n E w b' v l:=by
 refine⟨h.1,?_⟩;rcases h.2 with h2|⟨g,cap,cur,e,h3,h4⟩
 ·exact .inl h2
 ·exact .inr ⟨g,cap,cur,e,Nat.le_trans hb h3,h4⟩
abbrev pV (p:Nat):Value:= .pointer (some ⟨p,0,none⟩)
def stopE (n:Nat):PanicEntry:= {v:= .iface 262 (.agg #[.int .i64 (n:Int)]),recovered:=false}
def rdrC (a:Option Addr) (n c k:Nat):Array Value:= #[.slice a n c,.int .i64 (k:Int)]
def RdA (p:Nat) (a:Option Addr) (l:List UInt8) (c k:Nat) (w:World):Prop:=
 w.heap[p]? =some (.cells (rdrC a l.length c k) 266 (0,0))∧SlAt uc 1 w a l∧k≤l.length∧l.length≤c∧(a=none→c=0)∧(∀x,a=some x→x.block≠p)∧l.length≤1000000
theorem SlAt.modB {α:Type} {f:α→Array Value} {n:Nat} {w w':World} {a:Option Addr} {l:List α} {p:Nat} (h:SlAt f n w a l) (hm:Mod (fun i=>i=p) w w') (ha:∀x,a=some x→x.block≠p):SlAt f n w' a l:=h.mod hm (fun b o e he=>ha _ e he)
def RdP (p:Nat) (a:Option Addr) (l:List UInt8) (c k:Nat) (w w':World):Prop:=RdA p a l c k w'∧Mod (fun i=>i=p) w w'
theorem rbytes_c {p:Nat} {a:Option Addr} {l:List UInt8} {c k:Nat} (n:Nat) (w:World) (h:RdA p a l c k w) (hn:n≤1000000):
  Calls Tryz.prog 145 #[pV p,.int .i64 (n:Int)] w fun e w'=>
   (k+n≤l.length∧∃v,e= .returned v∧SlOwn uc 1 5 w' w.heap.size v ((l.drop k).take n)∧RdP p a l c (k+n) w w')∨(l.length<k+n∧e= .panicked [stopE 5]∧Mod (fun _=>False) w w'):=by
 obtain⟨kp,hl,hk,hc,hna,hap,hln⟩:=h;have HL:=Hi (Ai hl (Ai hap hna));obtain⟨ll,hll⟩:∃ll,l.length=ll:=⟨_,rfl⟩;have HLL:=Hi hll;have KP:=Hi kp;unfold rdrC at kp;rw[hll]at kp hk hc hln⊢;clear hl hap hna hll;go_enter Tryz.func145,Tryz.ntmps145;by_cases hs:k+n≤ll
 ·obtain⟨d,hd0⟩:∃d,ll-k=d:=⟨_,rfl⟩;have hdw:IntKind.i64.wrap ((ll:Int)-(k:Int))=(d:Int):=by rw[IntKind.wrap_i64];omega
  have hd:decide (n≤d)=true:=Dt (by omega);have hd1:decide ((n:Int)≤(d:Int))=true:=Dt (by omega);clear hd0;obtain⟨kn,hkn⟩:∃kn,k+n=kn:=⟨_,rfl⟩;obtain⟨sp,hsp,hsat,-,-⟩:=sl_part (P:=Tryz.prog) bytesT (c:=c) (k:=k) (m:=k+n) HL.out.1 (by omega) (by rw[HLL.out];exact hs) (by rw[HLL.out];exact hc) HL.out.2.2;rw[HLL.out,show k+n-k=n by omega,hkn]at hsp;rw[show k+n-k=n by omega]at hsat;have HSAT:=Hi hsat;have HTL:Hid (((l.drop k).take n).length=n):=Hi (by rw[List.length_take,List.length_drop,HLL.out];omega);have hka:IntKind.i64.wrap ((k:Int)+(n:Int))=(kn:Int):=by rw[IntKind.wrap_i64];omega
  have hks:IntKind.i64.wrap ((kn:Int)-(n:Int))=(k:Int):=by rw[IntKind.wrap_i64];omega
  have HKN:=Hi hkn;rw[hkn]at hs;clear hsat hkn;go_upto_region 1 with fail;have Lkp:=Ls kp;refine wp_gpass (T0:=fun _=>False) (K:=fun _ _=>True) (κ:=fun i=>[0,0,0,0,0,0,0,0,0,0,0,0,6].getD i 0) (υ:=fun _=>[]) [0,1,2,3,4,5,6,7,8,9,10,11,12] (by kernel_rfl) (by kernel_rfl) (Good.true).cl (trivial) (fun _ h=>h.elim) ?_;have gK:=Good.true
  iterate 4 refine Zg ?_
  refine Zh ?_
  iterate 4 refine Zg ?_
  refine Zh ?_
  iterate 2 refine Zg ?_
  (refine ZG (fun v=>v= .tuple #[]) gK ?_ (s:=fun T wq kq ltq hSq ub=>by exact(must_t _ wq).mono (fun e w' h=>⟨_,h.1,rfl,by rw[h.2];exact Mod.refl _ _⟩));rintro v13 hC;subst hC;try simp only[zL]);refine TG.nil (fun w1 ⟨TR,hr⟩=> ?_);replace kp:=hr.q kp;clear gK;have m1:=hr.mod;clear hr hdw hd hd1;go_upto_region 2 with fail;have Lkp:=Ls kp;refine ZP0 [0,0,0,1,0,0,0,0,5] ?_
  iterate 8 first|refine Zv ?_|refine Zd ?_
  refine Zi fun wE hr=> ?_;replace kp:=hr.mod.at0 kp;have mE:=hr.mod;refine ZS ?_;refine ZN kp fun w2 kp mS=> ?_;(try simp only[Array.setIfInBounds,zL]at kp);have m2:=(m1.mono (T:=fun i=>i=p) (fun _ _ h=>h.elim)).trans ((mE.mono (fun _ _ h=>h.elim)).trans mS);clear hr mE mS hka m1;go_upto_region 3 with fail;have Lkp:=Ls kp;refine ZP [0,0,0,1,0,0,0,1,0,0,0,0,0,1,0,5,0] ?_
  iterate 14 first|refine Zv ?_|refine Zd ?_
  refine Zx hsp ?_;refine Zi fun w3 hr=> ?_;replace kp:=hr.q kp;have m3:=m2.then0 hr.mod;have m3s:w.heap.size≤w3.heap.size:=m3.size;have HS3:Hid (SlAt uc 1 w3 sp ((l.drop k).take n)):=Hi (HSAT.out _ (HL.out.1.modB m3 HL.out.2.1));have hcl:=cloneY_c (w:=w3) (c:=c-k) HS3.out (by rw[HTL.out];exact hn);rw[HTL.out]at hcl;clear hr hsp hks;(refine eff_callT (by simp only[zK];rfl) (by rfl) ?y39 hcl ?hout (fun vn wn hR=> ?hret) (fun ch wn hR=> ?hpan);(case y39=>(go_simp;(try(first|with_reducible rfl|(constructor<;>with_reducible rfl))))))
  case hout=>exact fun w' h=>by obtain⟨v,h,_⟩:=h;cases h
  case hpan=>exact by obtain⟨v,h,_⟩:=hR;cases h
  case hret=>
  obtain⟨v4,e4,hO4,m4⟩:=hR;cases e4;have HF:Hid (SlOwn uc 1 5 wn w3.heap.size vn ((l.drop k).take n)∧wn.heap[p]? =some (.cells (rdrC a ll c kn) 266 (0,0))∧Mod (fun i=>i=p) w wn):=Hi ⟨hO4,m4.at0 kp,m3.then0 m4⟩;clear hO4 m4 m3 m2 kp;(try simp only[zL]);refine Ze ?_;refine TE.nil ?_;go_wp2_with fail;go_ret;refine .inl ⟨by rw[HKN.out];exact hs,_,rfl,SlOwn.low HF.out.1 m3s,?_,HF.out.2.2⟩;rw[HKN.out,RdA,HLL.out];exact⟨HF.out.2.1,HL.out.1.modB HF.out.2.2 HL.out.2.1,hs,hc,HL.out.2.2,HL.out.2.1,hln⟩
 ·have hs2:ll<k+n:=by omega
  obtain⟨d,hd0⟩:∃d,ll-k=d:=⟨_,rfl⟩;have hdw:IntKind.i64.wrap ((ll:Int)-(k:Int))=(d:Int):=by rw[IntKind.wrap_i64];omega
  have hd:decide (n≤d)=false:=Df (by omega);have hd1:decide ((n:Int)≤(d:Int))=false:=Df (by omega);clear hd0;go_upto_region 1 with fail;have Lkp:=Ls kp;refine ZP [0,0,0,0,1,0,0,0,0,1,0,0,5] ?_
  iterate 12 first|refine Zv ?_|refine Zd ?_
  refine Zi fun w1 hr=> ?_;replace kp:=hr.q kp;have m1:=hr.mod;have hmf:=must_f 5 w1;clear hr;(refine eff_callT (by simp only[zK];rfl) (by rfl) ?y54 hmf ?hout (fun vn wn hR=> ?hret) (fun ch wn hR=> ?hpan);(case y54=>(go_simp;(try(first|with_reducible rfl|(constructor<;>with_reducible rfl))))))
  case hout=>exact fun w' h=>by cases h.1
  case hret=>exact absurd hR.1 (by simp)
  case hpan=>
  obtain⟨e4,rfl⟩:=hR;cases e4
  first|exact Or.inr ⟨hs2,rfl,m1⟩|exact⟨rfl,Or.inr ⟨hs2,rfl,m1⟩⟩|(simp only[Exit.then];exact Or.inr ⟨hs2,rfl,m1⟩)
abbrev PR (α:Type):=Except Nat (α×Nat)
def pByte (l:List UInt8) (k:Nat):PR UInt8:=match l[k]? with
 |some c=> .ok (c,k+1)
 |none=> .error 5
def pBytes (l:List UInt8) (k n:Nat):PR (List UInt8):=if k+n≤l.length then .ok ((l.drop k).take n,k+n)else .error 5
def pShort (l:List UInt8) (k:Nat):PR Nat:=if(gsh 0 0 (l.drop k)).2.2=0 then .ok ((gsh 0 0 (l.drop k)).1,k+(gsh 0 0 (l.drop k)).2.1)else .error (gsh 0 0 (l.drop k)).2.2
def pList (l:List UInt8) (k:Nat):PR (List UInt8):=match pShort l k with
 | .ok (n,k1)=>pBytes l k1 n
 | .error e=> .error e
def StepP {α:Type} (p:Nat) (a:Option Addr) (l:List UInt8) (c:Nat) (w:World) (res:PR α) (V:Nat→World→Value→α→Prop) (e:Ending) (w':World):Prop:=match res with
 | .ok (x,k)=>∃v,e= .returned v∧V w.heap.size w' v x∧RdP p a l c k w w'
 | .error n=>e= .panicked [stopE n]∧Mod (fun i=>i=p) w w'
theorem gsh_fit:∀(l:List UInt8) (i n:Nat),n<128^i→i≤2→(gsh i n l).2.2=0→(gsh i n l).1≤65535∧(gsh i n l).2.1≤i+l.length∧i+1≤(gsh i n l).2.1
 |[],i,n,_,_,h=>by simp[gsh]at h
 |c::r,i,n,hn,hi,h=>by
  rw[gsh]at h⊢;split at h
  ·simp at h
  ·rename_i hb;rw[if_neg hb];have hc:=c.toNat_lt;split at h
   ·rename_i h128;rw[if_pos h128];have hm:c.toNat % 128=c.toNat:=Nat.mod_eq_of_lt h128;refine⟨?_,by simp only[List.length_cons];omega,Nat.le_refl _⟩;show n+c.toNat % 128*128^i≤65535;rw[hm];rcases(by omega:i=0∨i=1∨i=2)with rfl|rfl|rfl
    ·simp at hn⊢;omega
    ·simp at hn⊢;omega
    ·simp at hn hb⊢;omega
   ·rename_i h128;rw[if_neg h128];have hi2:i+1≤2:=by omega
    have:=gsh_fit r (i+1) (n+c.toNat % 128*128^i) (by
     rw[Nat.pow_succ];have:c.toNat % 128*128^i≤127*128^i:=Nat.mul_le_mul_right _ (by omega);omega) hi2 h
    simp only[List.length_cons];omega
theorem pShort_fit {l:List UInt8} {k n k1:Nat} (h:pShort l k= .ok (n,k1)) (hk:k≤l.length):n≤65535∧k1≤l.length∧k<k1:=by
 unfold pShort at h;split at h
 ·rename_i h0;have:=gsh_fit (l.drop k) 0 0 (by decide) (by omega) h0;injection h with h
  injection h with h1 h2
  rw[List.length_drop]at this;omega
 ·cases h
theorem rbyte_c {p:Nat} {a:Option Addr} {l:List UInt8} {c k:Nat} (w:World) (h:RdA p a l c k w):
  Calls Tryz.prog 133 #[pV p] w fun e w'=>StepP p a l c w (pByte l k) (fun _ _ v x=>v= .int .u8 (x.toNat:Int)) e w':=by
 have HR:=Hi (rbytes_c 1 w h (by omega));have hlen:=h.2.2.2.2.2.2;clear h;go_enter Tryz.func133,Tryz.ntmps133;go_wp2_with fail;go_at_call 145;refine HR.out.mono ?_;rintro e w2 (⟨h1,v,rfl,hO,hP⟩|⟨h1,rfl,hm⟩)
 ·obtain⟨x,hx⟩:∃x,l[k]? =some x:=⟨_,List.getElem?_eq_getElem (by omega)⟩;have hone:(l.drop k).take 1=[x]:=by
   obtain⟨h2,rfl⟩:=List.getElem?_eq_some_iff.1 hx;rw[List.drop_eq_getElem_cons h2];rfl
  rw[hone]at hO;obtain⟨a2,c2,rfl,hS,-⟩:=hO.at bytesT;obtain⟨b,o,C,U,fr,rfl,kb,hc⟩:=u8_at hS (i:=0) rfl;have hc2:C[o]? =some (.int .u8 (x.toNat:Int)):=by simpa using hc
  have HX:=Hi (Ai hx hP);clear hx hone hO hS hP hc;simp only[List.length_singleton];go_wp2_with fail;go_ret;have h4:=HX.out.2;unfold StepP pByte;rw[HX.out.1];exact⟨_,rfl,rfl,h4⟩
 ·have HX:Hid (l[k]? =none):=Hi (List.getElem?_eq_none (by omega));have h4:StepP p a l c w (pByte l k) (fun _ _ v x=>v= .int .u8 (x.toNat:Int)) (.panicked [stopE 5]) w2:=by
   unfold StepP pByte;rw[HX.out];exact⟨rfl,hm.mono (fun _ _ h=>h.elim)⟩
  first|exact h4|exact⟨rfl,h4⟩
theorem clipY_c (v2:Value) (w:World) (n:Nat) {a:Option Addr} {c:Nat} (h:∀w2,(Instr.sliceAt 42 (.slice a n c) none (some (.int .i64 (n:Int))) (some (.int .i64 (n:Int)))).run Tryz.prog w2= .ok v2 w2):
  Calls Tryz.prog 36 #[.slice a n c] w fun e w'=>e= .returned v2∧w'=w:=by
 go_enter Tryz.func36,Tryz.ntmps36;go_wp2_with fail;go_ret;exact⟨rfl,rfl⟩
theorem StepP.err {α:Type} {p:Nat} {a:Option Addr} {l:List UInt8} {c:Nat} {w w':World} {res:PR α} {V:Nat→World→Value→α→Prop} {n:Nat} (hr:res= .error n) (hm:Mod (fun i=>i=p) w w'):StepP p a l c w res V (.panicked [stopE n]) w':=by
 subst hr;exact⟨rfl,hm⟩
theorem StepP.ok {α:Type} {p:Nat} {a:Option Addr} {l:List UInt8} {c k:Nat} {w w':World} {res:PR α} {V:Nat→World→Value→α→Prop} {x:α} {v:Value} (hr:res= .ok (x,k)) (hv:V w.heap.size w' v x) (hP:RdP p a l c k w w'):StepP p a l c w res V (.returned v) w':=by
 subst hr;exact⟨v,rfl,hv,hP⟩
theorem StepP.not_out {α:Type} {p:Nat} {a:Option Addr} {l:List UInt8} {c:Nat} {w w':World} {res:PR α} {V:Nat→World→Value→α→Prop} (h:StepP p a l c w res V .outgrown w'):False:=by
 unfold StepP at h;split at h
 ·obtain⟨_,h,_⟩:=h;cases h
 ·cases h.1
theorem StepP.cases {α:Type} {p:Nat} {a:Option Addr} {l:List UInt8} {c:Nat} {w w':World} {res:PR α} {V:Nat→World→Value→α→Prop} {e:Ending} (h:StepP p a l c w res V e w'):
  (∃x k v,res= .ok (x,k)∧e= .returned v∧V w.heap.size w' v x∧RdP p a l c k w w')∨(∃n,res= .error n∧e= .panicked [stopE n]∧Mod (fun i=>i=p) w w'):=by
 unfold StepP at h;cases res with
 |ok y=>
  obtain⟨v,h1,h2,h3⟩:=h;exact .inl ⟨y.1,y.2,v,rfl,h1,h2,h3⟩
 |error n=>exact .inr ⟨n,rfl,h.1,h.2⟩
theorem rshort_c {p:Nat} {a:Option Addr} {l:List UInt8} {c k:Nat} (w:World) (h:RdA p a l c k w):
  Calls Tryz.prog 146 #[pV p] w fun e w'=>StepP p a l c w (pShort l k) (fun _ _ v x=>v= .int .i64 (x:Int)) e w':=by
 obtain⟨kp,hl,hk,hc,hna,hap,hln⟩:=h;have HL:=Hi (Ai hl (Ai hap hna));obtain⟨ll,hll⟩:∃ll,l.length=ll:=⟨_,rfl⟩;have HLL:=Hi hll;unfold rdrC at kp;rw[hll]at kp hk hc hln;clear hl hap hna hll;obtain⟨sp,hsp,hsat,-,-⟩:=sl_from (P:=Tryz.prog) bytesT (c:=c) (k:=k) HL.out.1 (by rw[HLL.out];exact hk) (by rw[HLL.out];exact hc) HL.out.2.2;rw[HLL.out]at hsp;have HSAT:=Hi hsat;have HTL:Hid ((l.drop k).length=ll-k):=Hi (by rw[List.length_drop,HLL.out]);obtain⟨n,took,er,hg⟩:∃n took er,gsh 0 0 (l.drop k)=(n,took,er):=⟨_,_,_,rfl⟩;have HG:=Hi hg;clear hsat hg;go_enter Tryz.func146,Tryz.ntmps146;go_upto_region 1 with fail;have Lkp:=Ls kp;refine wp_gpass (T0:=fun _=>False) (K:=fun _ _=>True) (κ:=fun i=>[0,0,0,0,0,0,0,0,0,6,0,0,0,0,0,0,0].getD i 0) (υ:=fun _=>[]) [0,1,2,3,4,5,6,7,8,9,10,11,12,13,14,15,16] (by kernel_rfl) (by kernel_rfl) (Good.true).cl (trivial) (fun _ h=>h.elim) ?_;have gK:=Good.true
 iterate 3 refine Zg ?_
 refine Zh ?_
 iterate 3 refine Zg ?_
 refine Zh ?_;(refine TG.slice (by simp only[zK];rfl) rfl (by rfl) rfl ?hs9 ?hl9 ?hh9 ?hm9 hsp ?n9;(case hs9=>simp only[zM];try rfl);(case hl9=>first|rfl|(simp only[Option.map_some,zM];(try rfl)));(case hh9=>first|rfl|(simp only[Option.map_some,zM];(try rfl)));(case hm9=>rfl);try simp only[zL]);(refine ZG (fun v=>v= .tuple #[i64n n,i64n took,i64n er]) gK ?_ (s:=fun T wq kq ltq hSq ub=>by have hh:=gsh_c sp (l.drop k) (c-k) wq (HSAT.out wq (HL.out.1.mod0 hSq)) (by rw[HTL.out];omega);rw[HTL.out,HG.out]at hh;exact hh.mono (fun e w' h=>⟨_,h.1,rfl,h.2⟩));rintro v10 hC;subst hC;try simp only[zL])
 iterate 7 refine Zg ?_
 refine TG.nil (fun w1 ⟨TR,hr⟩=> ?_);replace kp:=hr.q kp;clear gK;have m1:=hr.mod;clear hr hsp;by_cases he:er=0
 ·subst he;have HP:Hid (pShort l k= .ok (n,k+took)):=Hi (by unfold pShort;rw[HG.out,if_pos rfl]);have hfit:=pShort_fit HP.out (by rw[HLL.out];exact hk);obtain⟨kn,hkn⟩:∃kn,k+took=kn:=⟨_,rfl⟩;have hka:IntKind.i64.wrap ((k:Int)+(took:Int))=(kn:Int):=by rw[IntKind.wrap_i64];have:=HLL.out;omega
  have HK:Hid (pShort l k= .ok (n,kn)∧kn≤ll):=Hi ⟨by rw[HP.out,hkn],by have:=HLL.out;omega⟩;clear hkn hfit;go_upto_region 2 with fail;go_wp2_with fail;go_at_call 134;refine(must_t _ _).mono ?_;rintro e w2 ⟨rfl,rfl⟩;go_upto_region 3 with fail;have Lkp:=Ls kp;refine ZP0 [0,0,0,1,0,0,0,0,5] ?_
  iterate 8 first|refine Zv ?_|refine Zd ?_
  refine Zi fun wE hr=> ?_;replace kp:=hr.mod.at0 kp;have mE:=hr.mod;refine ZS ?_;refine ZN kp fun w3 kp mS=> ?_;(try simp only[Array.setIfInBounds,zL]at kp);have m2:=(m1.mono (T:=fun i=>i=p) (fun _ _ h=>h.elim)).trans ((mE.mono (fun _ _ h=>h.elim)).trans mS);clear hr mE mS hka m1;have HF:=Hi (Ai kp m2);go_wp2_with fail;go_ret;refine StepP.ok HK.out.1 rfl ⟨?_,HF.out.2⟩;rw[RdA,HLL.out];exact⟨HF.out.1,HL.out.1.modB HF.out.2 HL.out.2.1,HK.out.2,hc,HL.out.2.2,HL.out.2.1,hln⟩
 ·have HP:Hid (pShort l k= .error er):=Hi (by unfold pShort;rw[HG.out,if_neg he]);have hz:((er:Int)==0)=false:=by rw[beq_eq_false_iff_ne];omega
  clear he;go_upto_region 2 with fail;go_wp2_with fail;go_at_call 134;refine(must_f _ _).mono ?_;rintro e w2 ⟨rfl,rfl⟩;have h4:StepP p a l c w (pShort l k) (fun _ _ v x=>v= .int .i64 (x:Int)) (.panicked [stopE er]) _:=StepP.err HP.out (m1.mono (fun _ _ h=>h.elim))
  first|exact h4|exact⟨rfl,h4⟩
theorem rlist_c {p:Nat} {a:Option Addr} {l:List UInt8} {c k:Nat} (w:World) (h:RdA p a l c k w):
  Calls Tryz.prog 148 #[pV p] w fun e w'=>StepP p a l c w (pList l k) (fun b w' v x=>NewS uc 1 5 b w' v x) e w':=by
 have HR:=Hi (rshort_c w h);have hk0:=h.2.2.1;clear h;go_enter Tryz.func148,Tryz.ntmps148;go_wp2_with fail;go_at_call 146;refine HR.out.mono ?_;intro e w1 h;rcases h.cases with⟨n,k1,v,h1,rfl,rfl,hP⟩|⟨n,h1,rfl,hm⟩
 ·have hf:=pShort_fit h1 hk0;have HB:=Hi (rbytes_c n w1 hP.1 (by omega));have H1:=Hi (Ai h1 hP);clear h1 hP h;go_wp2_with fail;go_at_call 145;refine HB.out.mono ?_;rintro e w2 (⟨h2,v,rfl,hO,hP⟩|⟨h2,rfl,hm⟩)
  ·obtain⟨a2,c2,v2,e2,hcl,hnew⟩:=hO.clip bytesT;subst e2;have HT:Hid (((l.drop k1).take n).length=n):=Hi (by rw[List.length_take,List.length_drop];omega);have HF:Hid (StepP p a l c w (pList l k) (fun b w' v x=>NewS uc 1 5 b w' v x) (.returned v2) w2):=Hi (StepP.ok (x:=(l.drop k1).take n) (k:=k1+n) (by unfold pList;rw[H1.out.1];show pBytes l k1 n=_;unfold pBytes;rw[if_pos h2]) (hnew.base H1.out.2.2.size) ⟨hP.1,H1.out.2.2.trans hP.2⟩);rw[HT.out]at hcl;rw[HT.out];have HCL:=Hi hcl;clear hnew hP hO h2 hcl;go_wp2_with fail;go_at_call 36;refine(clipY_c _ _ _ HCL.out).mono ?_;rintro e w3 ⟨rfl,rfl⟩;go_wp2_with fail;go_ret;exact HF.out
  ·have h4:StepP p a l c w (pList l k) (fun b w' v x=>NewS uc 1 5 b w' v x) (.panicked [stopE 5]) w2:=StepP.err (by unfold pList;rw[H1.out.1];show pBytes l k1 n=_;unfold pBytes;rw[if_neg (by omega)]) (H1.out.2.2.then0 hm)
   first|exact h4|exact⟨rfl,h4⟩
 ·have h4:StepP p a l c w (pList l k) (fun b w' v x=>NewS uc 1 5 b w' v x) (.panicked [stopE n]) w1:=StepP.err (by unfold pList;rw[h1]) hm
  first|exact h4|exact⟨rfl,h4⟩
section
attribute [local go_sem↓] wlKey ldKey stKey
attribute [local go_sem] kc_ext kc_one kc_one0 kc_size zKey_size
theorem row_of {C:Array Value} {o n:Nat} {L:List UInt8} (hL:L.length=n) (h:∀(i:Nat) x,L[i]? =some x→C.extract (o+i*1) (o+i*1+1)=uc x∧o+i*1+1≤C.size) (hn:0<n):C.extract o (o+n)=(L.map bc).toArray∧o+n≤C.size:=by
 have hsz:o+n≤C.size:=by
  have:=(h (n-1) (L[n-1]'(by omega)) (List.getElem?_eq_getElem _)).2;omega
 refine⟨?_,hsz⟩;apply Array.ext_getElem?;intro i;by_cases hi:i<n
 ·have hx:L[i]? =some (L[i]'(by omega)):=List.getElem?_eq_getElem _;have h0:=congrArg (fun A:Array Value=>A[0]?) (h i _ hx).1;simp only[Nat.mul_one]at h0;rw[Array.getElem?_extract,if_pos (by omega)]at h0;rw[Array.getElem?_extract,if_pos (by omega)];simp only[Nat.add_zero]at h0;rw[h0];simp[uc,hx,bc]
 ·rw[Array.getElem?_extract,if_neg (by omega),zA,List.getElem?_map,List.getElem?_eq_none (by omega)];rfl
theorem arrKey (b o c:Nat) (w:World):(Instr.arrayAt 110 (.slice (some ⟨b,o,none⟩) 32 c)).run Tryz.prog w= .ok (.pointer (some ⟨b,o,none⟩)) w:=by kernel_rfl
theorem RdA.mod0 {p:Nat} {a:Option Addr} {l:List UInt8} {c k:Nat} {w w':World} (h:RdA p a l c k w) (m:Mod (fun _=>False) w w'):RdA p a l c k w':=by
 obtain⟨kp,hl,hk,hc,hna,hap,hln⟩:=h;exact⟨m.at0 kp,hl.mod0 m,hk,hc,hna,hap,hln⟩
def pKey (l:List UInt8) (k:Nat):PR Key:=if h:k+32≤l.length then .ok (⟨(l.drop k).take 32,by rw[List.length_take,List.length_drop];omega⟩,k+32)else .error 5
theorem rkey_c {p:Nat} {a:Option Addr} {l:List UInt8} {c k:Nat} (w:World) (h:RdA p a l c k w):
  Calls Tryz.prog 136 #[pV p] w fun e w'=>StepP p a l c w (pKey l k) (fun _ _ v x=>v= .agg (kc x)) e w':=by
 have hp:=Ls h.1;have hlen:=h.2.2.2.2.2.2;have HRD:=Hi h;clear h;go_enter Tryz.func136,Tryz.ntmps136;go_upto_region 0 with fail;refine ZP0 [3] ?_;refine Za alKey fun p2 hp2=> ?_;refine TD.nil (fun w1 hr=> ?_);obtain⟨gp2,kp2⟩:=hr.b p2;have m1:=hr.mod;clear hr;have HR1:=Hi (HRD.out.mod0 m1);have h2p:p2≠p:=by omega
 go_upto_region 1 with fail;have Lkp2:=Ls kp2;refine ZP0 [0,5,0,6,6] ?_;refine Zv ?_;refine Zi fun w1b hr=> ?_;replace kp2:=hr.q kp2;have m1b:=hr.mod;have HB:=Hi (rbytes_c 32 w1b (HR1.out.mod0 m1b) (by omega));have hB:=HB.out;clear hr;(refine eff_callT (by simp only[zK];rfl) (by rfl) ?y4 hB ?hout (fun vn wn hR=> ?hret) (fun ch wn hR=> ?hpan);(case y4=>(go_simp;(try(first|with_reducible rfl|(constructor<;>with_reducible rfl))))))
 case hout=>exact fun w' h=>by rcases h with⟨_,v,h,_⟩|⟨_,h,_⟩<;>cases h
 case hret=>
  rcases hR with⟨h1,v,e1,hO,hP⟩|⟨_,h,_⟩
  ·cases e1;have hL32:((l.drop k).take 32).length=32:=by rw[List.length_take,List.length_drop];omega
   have kp2:=hP.2.at_ne kp2 h2p;obtain⟨a2,c2,rfl,hS,-⟩:=hO.at bytesT;rcases hS with hS|⟨b,o,C,U,fr,rfl,kb,hcc⟩
   ·rw[hS]at hL32;cases hL32
   obtain⟨hrow,hsz⟩:=row_of hL32 hcc (by omega);obtain⟨K,hK⟩:∃K:Key,kc K=(((l.drop k).take 32).map bc).toArray∧pKey l k= .ok (K,k+32):=⟨⟨(l.drop k).take 32,hL32⟩,rfl,by unfold pKey;rw[dif_pos h1]⟩;rw[←hK.1]at hrow;rw[hL32];have HF:=Hi (Ai hK (Ai hP (m1.trans m1b)));have har:=arrKey b o c2;clear hK hP hO hcc hL32 hB;(try simp only[zL]);refine Ze ?_;refine Zz ?_;(refine eff_loadV (v:= ?v6) (X:= ?X6) (by simp only[zK];rfl) (by rfl) rfl ?hx6 ?y6 ?n6;(case hx6=>simp only[zM];try rfl);(case y6=>go_simp;try with_reducible rfl);try simp only[zL]);refine Zz ?_;refine ZS ?_;refine ZN kp2 fun wn kp2 mS=> ?_;(try simp only[Array.setIfInBounds,zL]at kp2);go_wp2_with fail;refine bodyPost_ret (results_cell1 (v:= .agg (kc K)) rfl rfl (by rw[ldKey];simp[kp2,kc_size,kc_ext])) rfl ?_;have mm:Mod (fun i=>i=p) w wn:=((HF.out.2.2.mono (fun _ _ h=>h.elim)).trans HF.out.2.1.2).then mS (fun i hi e=>by omega);have hP:=HF.out.2.1.1;exact StepP.ok HF.out.1.2 rfl ⟨⟨mS.at_ne hP.1 h2p.symm,HRD.out.2.1.modB mm HRD.out.2.2.2.2.2.1,hP.2.2⟩,mm⟩
  ·cases h
 case hpan=>
  rcases hR with⟨_,v,h,_⟩|⟨h1,e1,hm⟩
  ·cases h
  ·cases e1;have h4:StepP p a l c w (pKey l k) (fun _ _ v x=>v= .agg (kc x)) (.panicked [stopE 5]) wn:=StepP.err (by unfold pKey;rw[dif_neg (by omega)]) (((m1.trans m1b).trans hm).mono (fun _ _ h=>h.elim))
   first|exact h4|exact⟨rfl,h4⟩|(simp only[Exit.then];exact h4)
end
section
attribute [local go_sem↓] wlKey ldKey stKey wlIn ldIn stIn wlLo ldLo stLo
attribute [local go_sem] kc_ext kc_one kc_one0 kc_size zKey_size
theorem NewS.form2 {α:Type} {f:α→Array Value} {n:Nat} {E:TypeId} {base:Nat} {w:World} {v:Value} {l:List α} (h:NewS f n E base w v l):∃a,v= .slice a l.length l.length:=by
 obtain⟨a,h,_⟩:=h.at;exact⟨a,h⟩
structure InP where
 p:UInt8
 a:List UInt8
 d:List UInt8
structure LoP where
 t:Key
 w:List UInt8
 r:List UInt8
def pInstr (l:List UInt8) (k:Nat):PR InP:=match pByte l k with
 | .error e=> .error e
 | .ok (q,k1)=>match pList l k1 with
  | .error e=> .error e
  | .ok (x,k2)=>match pList l k2 with
   | .error e=> .error e
   | .ok (y,k3)=> .ok (⟨q,x,y⟩,k3)
def pLook (l:List UInt8) (k:Nat):PR LoP:=match pKey l k with
 | .error e=> .error e
 | .ok (q,k1)=>match pList l k1 with
  | .error e=> .error e
  | .ok (x,k2)=>match pList l k2 with
   | .error e=> .error e
   | .ok (y,k3)=> .ok (⟨q,x,y⟩,k3)
abbrev NewY (b:Nat) (w:World) (v:Value) (x:List UInt8):Prop:=NewS uc 1 5 b w v x
def VIn (b:Nat) (w:World) (v:Value) (x:InP):Prop:=∃r:InR,v= .agg (inr r)∧r.p=x.p∧r.a.l=x.a∧r.d.l=x.d∧NewY b w r.a.v x.a∧NewY b w r.d.v x.d∧(∀g h,r.a.v.ownBlock=some g→r.d.v.ownBlock=some h→g<h)
def VLo (b:Nat) (w:World) (v:Value) (x:LoP):Prop:=∃r:LoR,v= .agg (lor r)∧r.t=x.t∧r.w.l=x.w∧r.r.l=x.r∧NewY b w r.w.v x.w∧NewY b w r.r.v x.r∧(∀g h,r.w.v.ownBlock=some g→r.r.v.ownBlock=some h→g<h)
theorem RdA.modN {p q:Nat} {a:Option Addr} {l:List UInt8} {c k:Nat} {w0 w w':World} {k0:Nat} (h0:RdA p a l c k0 w0) (hq:w0.heap.size≤q) (h:RdA p a l c k w) (m:Mod (fun i=>i=q) w w'):RdA p a l c k w':=by
 obtain⟨kp,hl,hr⟩:=h;have hp:=Ls h0.1;refine⟨m.at_ne kp (by omega),?_,hr⟩;rcases h0.2.1 with h1|⟨b,o,C,U,fr,ha,hb,_⟩
 ·exact .inl h1
 ·have hb2:=Ls hb;refine hl.mod m (fun b' o' e hh=> ?_);rw[ha]at e;cases e;omega
theorem rinstr_c {p:Nat} {a:Option Addr} {l:List UInt8} {c k:Nat} (w:World) (h:RdA p a l c k w):
  Calls Tryz.prog 138 #[pV p] w fun e w'=>StepP p a l c w (pInstr l k) VIn e w':=by
 have hp:=Ls h.1;have HRD:=Hi h;clear h;go_enter Tryz.func138,Tryz.ntmps138;go_upto_region 0 with fail;refine ZP0 [3] ?_;refine Za alIn fun p2 hp2=> ?_;refine TD.nil (fun w1 hr=> ?_);obtain⟨gp2,kp2⟩:=hr.b p2;have m1:=hr.mod;clear hr;have h2p:p2≠p:=by omega
 replace kp2:w1.heap[p2]? =some (.cells #[.int .u8 0,.slice none 0 0,.slice none 0 0] 146 (0,0)):=kp2;go_upto_region 1 with fail;have Lkp2:=Ls kp2;refine ZP0 [0,5,0,6] ?_;refine Zv ?_;refine Zi fun w2 hr=> ?_;replace kp2:=hr.q kp2;have HM:Hid (Mod (fun i=>i=p) w w2):=Hi ((m1.trans hr.mod).mono (fun _ _ h=>h.elim));have HA:Hid (RdA p a l c k w2):=Hi (HRD.out.mod0 (m1.trans hr.mod));have hB:=rbyte_c w2 HA.out;clear hr;(refine eff_callT (by simp only[zK];rfl) (by rfl) ?y4 hB ?hout (fun vn wn hR=> ?hret) (fun ch wn hR=> ?hpan);(case y4=>(go_simp;(try(first|with_reducible rfl|(constructor<;>with_reducible rfl))))))
 case hout=>exact fun w' h=>h.not_out
 case hpan=>
  rcases hR.cases with⟨_,_,_,_,h,_⟩|⟨n0,hres,e1,hm⟩
  ·cases h
  ·cases e1;have h4:StepP p a l c w (pInstr l k) VIn (.panicked [stopE n0]) wn:=StepP.err (by unfold pInstr;rw[hres]) (HM.out.trans hm)
   first|exact h4|exact⟨rfl,h4⟩|(simp only[Exit.then];exact h4)
 case hret=>
 rcases hR.cases with⟨q,k1,v1,hr1,e1,hv1,hP1⟩|⟨_,_,h,_⟩
 case inr=>cases h
 cases e1;subst hv1;have kp2:=hP1.2.at_ne kp2 h2p;clear hB hR;(try simp only[zL]);refine Ze ?_;refine Zz ?_;refine ZS ?_;refine ZN kp2 fun wn kp2 mS=> ?_;(try simp only[Array.setIfInBounds,zL]at kp2);have H1:Hid (pByte l k= .ok (q,k1)∧Mod (fun i=>i=p) w wn∧RdA p a l c k1 wn):=Hi ⟨hr1,(HM.out.trans hP1.2).then mS (fun i hi e=>by omega),RdA.modN HRD.out gp2 hP1.1 mS⟩;clear hr1 hP1 mS HM HA;go_upto_region 2 with fail;have Lkp2:=Ls kp2;refine ZP0 [0,5,0,6] ?_;refine Zv ?_;refine Zi fun w3 hr=> ?_;replace kp2:=hr.q kp2;have HM:Hid (Mod (fun i=>i=p) w w3):=Hi (H1.out.2.1.then0 hr.mod);have hB:=rlist_c w3 (H1.out.2.2.mod0 hr.mod);have hp23:=Ls kp2;clear hr;(refine eff_callT (by simp only[zK];rfl) (by rfl) ?y9 hB ?hout (fun vn wn hR=> ?hret) (fun ch wn hR=> ?hpan);(case y9=>(go_simp;(try(first|with_reducible rfl|(constructor<;>with_reducible rfl))))))
 case hout=>exact fun w' h=>h.not_out
 case hpan=>
  rcases hR.cases with⟨_,_,_,_,h,_⟩|⟨n0,hres,e1,hm⟩
  ·cases h
  ·cases e1;have h4:StepP p a l c w (pInstr l k) VIn (.panicked [stopE n0]) wn:=StepP.err (by unfold pInstr;rw[H1.out.1];show(match pList l k1 with| .error e=>_| .ok (x,k2)=>_)=_;rw[hres]) (HM.out.trans hm)
   first|exact h4|exact⟨rfl,h4⟩|(simp only[Exit.then];exact h4)
 case hret=>
 rcases hR.cases with⟨x,k2,v2,hr2,e1,hv2,hP2⟩|⟨_,_,h,_⟩
 case inr=>cases h
 cases e1;obtain⟨a2,rfl⟩:=NewS.form2 hv2;have kp2:=hP2.2.at_ne kp2 h2p;have hlt2:=hv2.lt;clear hB hR;(try simp only[zL]);refine Ze ?_;refine Zz ?_;refine ZS ?_;refine ZN kp2 fun wn kp2 mS=> ?_;(try simp only[Array.setIfInBounds,zL]at kp2);have H2:Hid (pList l k1= .ok (x,k2)∧Mod (fun i=>i=p) w wn∧RdA p a l c k2 wn∧NewY w3.heap.size wn (.slice a2 x.length x.length) x∧p2<w3.heap.size∧w.heap.size≤w3.heap.size):=Hi ⟨hr2,(HM.out.trans hP2.2).then mS (fun i hi e=>by omega),RdA.modN HRD.out gp2 hP2.1 mS,hv2.mod mS (fun g hg e=>by have:=(hlt2 g hg).1;omega),hp23,HM.out.size⟩;clear hr2 hP2 mS HM hv2 hlt2;go_upto_region 3 with fail;have Lkp2:=Ls kp2;refine ZP0 [0,5,0,6] ?_;refine Zv ?_;refine Zi fun w4 hr=> ?_;replace kp2:=hr.q kp2;have HM:Hid (Mod (fun i=>i=p) w w4):=Hi (H2.out.2.1.then0 hr.mod);have HN2:Hid (NewY w3.heap.size w4 (.slice a2 x.length x.length) x):=Hi (H2.out.2.2.2.1.mod hr.mod (fun _ _ h=>h));have hB:=rlist_c w4 (H2.out.2.2.1.mod0 hr.mod);have hp24:=Ls kp2;clear hr;(refine eff_callT (by simp only[zK];rfl) (by rfl) ?y14 hB ?hout (fun vn wn hR=> ?hret) (fun ch wn hR=> ?hpan);(case y14=>(go_simp;(try(first|with_reducible rfl|(constructor<;>with_reducible rfl))))))
 case hout=>exact fun w' h=>h.not_out
 case hpan=>
  rcases hR.cases with⟨_,_,_,_,h,_⟩|⟨n0,hres,e1,hm⟩
  ·cases h
  ·cases e1;have h4:StepP p a l c w (pInstr l k) VIn (.panicked [stopE n0]) wn:=StepP.err (by unfold pInstr;rw[H1.out.1];show(match pList l k1 with| .error e=>_| .ok (x,k2)=>_)=_;rw[H2.out.1];show(match pList l k2 with| .error e=>_| .ok (y,k3)=>_)=_;rw[hres]) (HM.out.trans hm)
   first|exact h4|exact⟨rfl,h4⟩|(simp only[Exit.then];exact h4)
 case hret=>
 rcases hR.cases with⟨y,k3,v3,hr3,e1,hv3,hP3⟩|⟨_,_,h,_⟩
 case inr=>cases h
 cases e1;obtain⟨a3,rfl⟩:=NewS.form2 hv3;have kp2:=hP3.2.at_ne kp2 h2p;have hlt3:=hv3.lt;have hlt2:=HN2.out.lt;clear hB hR;(try simp only[zL]);refine Ze ?_;refine Zz ?_;refine ZS ?_;refine ZN kp2 fun wn kp2 mS=> ?_;(try simp only[Array.setIfInBounds,zL]at kp2);have H3:Hid (pInstr l k= .ok (⟨q,x,y⟩,k3)∧RdP p a l c k3 w wn∧NewY w.heap.size wn (.slice a2 x.length x.length) x∧NewY w.heap.size wn (.slice a3 y.length y.length) y∧(∀g h,(Value.slice a2 x.length x.length).ownBlock=some g→(Value.slice a3 y.length y.length).ownBlock=some h→g<h)∧(∀g,(Value.slice a2 x.length x.length).ownBlock=some g→p2<g)∧(∀g,(Value.slice a3 y.length y.length).ownBlock=some g→p2<g)):=Hi ⟨by
   unfold pInstr;rw[H1.out.1];show(match pList l k1 with| .error e=>_| .ok (x,k2)=>_)=_;rw[H2.out.1];show(match pList l k2 with| .error e=>_| .ok (y,k3)=>_)=_;rw[hr3],⟨RdA.modN HRD.out gp2 hP3.1 mS,(HM.out.trans hP3.2).then mS (fun i hi e=>by omega)⟩,
  ((HN2.out.mod hP3.2 (fun g hg e=>by have:=(hlt2 g hg).1;have:=H2.out.2.2.2.2;omega)).mod mS (fun g hg e=>by have:=(hlt2 g hg).1;have:=H2.out.2.2.2.2;omega)).base H2.out.2.2.2.2.2,
  (hv3.mod mS (fun g hg e=>by have:=(hlt3 g hg).1;omega)).base HM.out.size,fun g h hg hh=>by have h1:=(hlt2 g hg).2;have h2:=(hlt3 h hh).1;omega,fun g hg=>by have:=(hlt2 g hg).1;have:=H2.out.2.2.2.2.1;omega,fun g hg=>by have:=(hlt3 g hg).1;omega⟩
 clear hr3 hP3 mS HM HN2 hv3 hlt2 hlt3;go_upto_region 4 with fail;have Lkp2:=Ls kp2;refine ZP0 [1,5] ?_;refine Zd ?_;refine Zi fun wE hr=> ?_;replace kp2:=hr.mod.at0 kp2;have mE:=hr.mod;refine ZS ?_;refine ZN kp2 fun w5 kp2 mS=> ?_;(try simp only[Array.setIfInBounds,zL]at kp2);have m5:=(mE.mono (T:=fun i=>i=p2) (fun _ _ h=>h.elim)).trans mS;clear hr mE mS;have HF:Hid (StepP p a l c w (pInstr l k) VIn (.returned (.agg #[.int .u8 (q.toNat:Int),.slice a2 x.length x.length,.slice a3 y.length y.length])) w5):=Hi (StepP.ok H3.out.1 ⟨⟨q,⟨a2,x,x.length⟩,⟨a3,y,y.length⟩⟩,rfl,rfl,rfl,rfl,H3.out.2.2.1.mod m5 (fun g hg e=>by have:=H3.out.2.2.2.2.2.1 g hg;omega),H3.out.2.2.2.1.mod m5 (fun g hg e=>by have:=H3.out.2.2.2.2.2.2 g hg;omega),H3.out.2.2.2.2.1⟩ ⟨RdA.modN HRD.out gp2 H3.out.2.1.1 m5,H3.out.2.1.2.then m5 (fun i hi e=>by omega)⟩);clear m5;go_wp2_with fail;refine bodyPost_ret (results_cell1 (v:= .agg #[.int .u8 (q.toNat:Int),.slice a2 x.length x.length,.slice a3 y.length y.length]) rfl rfl (by rw[ldIn];simp[kp2])) rfl ?_;exact HF.out
end
section
attribute [local go_sem↓] wlKey ldKey stKey wlLo ldLo stLo
attribute [local go_sem] kc_ext kc_one kc_one0 kc_size zKey_size
def lox (t:Key) (a:Option Addr) (n c:Nat) (b:Option Addr) (m d:Nat):Array Value:=kx t [.slice a n c,.slice b m d]
theorem lox_size (t:Key) (a:Option Addr) (n c:Nat) (b:Option Addr) (m d:Nat):(lox t a n c b m d).size=34:=kx_size _ _
theorem lox_ext (t:Key) (a:Option Addr) (n c:Nat) (b:Option Addr) (m d:Nat):(lox t a n c b m d).extract 0 34=lox t a n c b m d:=kx_all _ _ rfl
theorem lox_one (t:Key) (a:Option Addr) (n c:Nat) (b:Option Addr) (m d:Nat):(lox t a n c b m d).all (·.oneCell')=true:=kx_one _ _ rfl
theorem lox_one0 (t:Key) (a:Option Addr) (n c:Nat) (b:Option Addr) (m d:Nat):(lox t a n c b m d).all (·.oneCell') 0 34=true:=all_of (lox_size ..) (lox_one ..)
theorem lox_key (t t':Key) (a:Option Addr) (n c:Nat) (b:Option Addr) (m d:Nat):wr (lox t a n c b m d) 0 (kc t').toList=lox t' a n c b m d:=by
 apply Array.toList_inj.1;rw[wr_list _ _ _ (by rw[lox_size,Array.length_toList,kc_size];omega)];rw[Array.length_toList,kc_size];unfold lox kx;have h1:(kc t).toList.length=32:=by rw[Array.length_toList,kc_size]
 simp[h1]
theorem kx_set1 (k:Key) (xs:List Value) (j:Nat) (v:Value):(kx k xs).setIfInBounds (32+j) v=kx k (xs.set j v):=by
 apply Array.toList_inj.1;have h1:(kc k).toList.length=32:=by rw[Array.length_toList,kc_size]
 unfold kx;rw[Array.toList_setIfInBounds,Array.toList_append,List.set_append_right _ _ (by rw[h1];omega),h1,Array.toList_append];simp
theorem lox_w (t:Key) (a a':Option Addr) (n n' c c':Nat) (b:Option Addr) (m d:Nat):(lox t a n c b m d).setIfInBounds 32 (.slice a' n' c')=lox t a' n' c' b m d:=kx_set1 t _ 0 _
theorem lox_r (t:Key) (a b':Option Addr) (n m' c d':Nat) (b:Option Addr) (m d:Nat):(lox t a n c b m d).setIfInBounds 33 (.slice b' m' d')=lox t a n c b' m' d':=kx_set1 t _ 1 _
attribute [local go_sem] lox_size lox_ext lox_one lox_one0
theorem ldLox {wq:World} {p2:Nat} {t:Key} {a b:Option Addr} {n c m d:Nat} {U:TypeId} {fr:Nat×Nat} (h:wq.heap[p2]? =some (.cells (lox t a n c b m d) U fr)):(Instr.loadAt 148 (.pointer (some ⟨p2,0,none⟩))).run Tryz.prog wq= .ok (.agg (lox t a n c b m d)) wq:=by
 rw[ldLo,h];simp[lox_size,lox_ext]
theorem rlook_c {p:Nat} {a:Option Addr} {l:List UInt8} {c k:Nat} (w:World) (h:RdA p a l c k w):
  Calls Tryz.prog 140 #[pV p] w fun e w'=>StepP p a l c w (pLook l k) VLo e w':=by
 have hp:=Ls h.1;have HRD:=Hi h;clear h;go_enter Tryz.func140,Tryz.ntmps140;go_upto_region 0 with fail;refine ZP0 [3] ?_;refine Za alLo fun p2 hp2=> ?_;refine TD.nil (fun w1 hr=> ?_);obtain⟨gp2,kp2⟩:=hr.b p2;have m1:=hr.mod;clear hr;have h2p:p2≠p:=by omega
 replace kp2:w1.heap[p2]? =some (.cells (lox key0 none 0 0 none 0 0) 148 (0,0)):=kp2;go_upto_region 1 with fail;have Lkp2:=Ls kp2;refine ZP0 [0,5,0,6] ?_;refine Zv ?_;refine Zi fun w2 hr=> ?_;replace kp2:=hr.q kp2;have HM:Hid (Mod (fun i=>i=p) w w2):=Hi ((m1.trans hr.mod).mono (fun _ _ h=>h.elim));have HA:Hid (RdA p a l c k w2):=Hi (HRD.out.mod0 (m1.trans hr.mod));have hB:=rkey_c w2 HA.out;clear hr;(refine eff_callT (by simp only[zK];rfl) (by rfl) ?y4 hB ?hout (fun vn wn hR=> ?hret) (fun ch wn hR=> ?hpan);(case y4=>(go_simp;(try(first|with_reducible rfl|(constructor<;>with_reducible rfl))))))
 case hout=>exact fun w' h=>h.not_out
 case hpan=>
  rcases hR.cases with⟨_,_,_,_,h,_⟩|⟨n0,hres,e1,hm⟩
  ·cases h
  ·cases e1;have h4:StepP p a l c w (pLook l k) VLo (.panicked [stopE n0]) wn:=StepP.err (by unfold pLook;rw[hres]) (HM.out.trans hm)
   first|exact h4|exact⟨rfl,h4⟩|(simp only[Exit.then];exact h4)
 case hret=>
 rcases hR.cases with⟨q,k1,v1,hr1,e1,hv1,hP1⟩|⟨_,_,h,_⟩
 case inr=>cases h
 cases e1;subst hv1;have kp2:=hP1.2.at_ne kp2 h2p;clear hB hR;(try simp only[zL]);refine Ze ?_;refine Zz ?_;refine ZS ?_;refine ZN kp2 fun wn kp2 mS=> ?_;(try simp only[Array.setIfInBounds,zL]at kp2);replace kp2:wn.heap[p2]? =some (.cells (lox q none 0 0 none 0 0) 148 (0,0)):=by
  rw[kp2]
  first|rw[lox_key]|(simp[lox_key];done)|(simp[lox_size,lox_key])
 have H1:Hid (pKey l k= .ok (q,k1)∧Mod (fun i=>i=p) w wn∧RdA p a l c k1 wn):=Hi ⟨hr1,(HM.out.trans hP1.2).then mS (fun i hi e=>by omega),RdA.modN HRD.out gp2 hP1.1 mS⟩;clear hr1 hP1 mS HM HA;go_upto_region 2 with fail;have Lkp2:=Ls kp2;refine ZP0 [0,5,0,6] ?_;refine Zv ?_;refine Zi fun w3 hr=> ?_;replace kp2:=hr.q kp2;have HM:Hid (Mod (fun i=>i=p) w w3):=Hi (H1.out.2.1.then0 hr.mod);have hB:=rlist_c w3 (H1.out.2.2.mod0 hr.mod);have hp23:=Ls kp2;clear hr;(refine eff_callT (by simp only[zK];rfl) (by rfl) ?y9 hB ?hout (fun vn wn hR=> ?hret) (fun ch wn hR=> ?hpan);(case y9=>(go_simp;(try(first|with_reducible rfl|(constructor<;>with_reducible rfl))))))
 case hout=>exact fun w' h=>h.not_out
 case hpan=>
  rcases hR.cases with⟨_,_,_,_,h,_⟩|⟨n0,hres,e1,hm⟩
  ·cases h
  ·cases e1;have h4:StepP p a l c w (pLook l k) VLo (.panicked [stopE n0]) wn:=StepP.err (by unfold pLook;rw[H1.out.1];show(match pList l k1 with| .error e=>_| .ok (x,k2)=>_)=_;rw[hres]) (HM.out.trans hm)
   first|exact h4|exact⟨rfl,h4⟩|(simp only[Exit.then];exact h4)
 case hret=>
 rcases hR.cases with⟨x,k2,v2,hr2,e1,hv2,hP2⟩|⟨_,_,h,_⟩
 case inr=>cases h
 cases e1;obtain⟨a2,rfl⟩:=NewS.form2 hv2;have kp2:=hP2.2.at_ne kp2 h2p;have hlt2:=hv2.lt;clear hB hR;(try simp only[zL]);refine Ze ?_;refine Zz ?_;refine ZS ?_;refine ZN kp2 fun wn kp2 mS=> ?_;replace kp2:wn.heap[p2]? =some (.cells (lox q a2 x.length x.length none 0 0) 148 (0,0)):=by
  rw[kp2]
  first|rw[lox_w]|(simp[lox_w];done)
 have H2:Hid (pList l k1= .ok (x,k2)∧Mod (fun i=>i=p) w wn∧RdA p a l c k2 wn∧NewY w3.heap.size wn (.slice a2 x.length x.length) x∧p2<w3.heap.size∧w.heap.size≤w3.heap.size):=Hi ⟨hr2,(HM.out.trans hP2.2).then mS (fun i hi e=>by omega),RdA.modN HRD.out gp2 hP2.1 mS,hv2.mod mS (fun g hg e=>by have:=(hlt2 g hg).1;omega),hp23,HM.out.size⟩;clear hr2 hP2 mS HM hv2 hlt2;go_upto_region 3 with fail;have Lkp2:=Ls kp2;refine ZP0 [0,5,0,6] ?_;refine Zv ?_;refine Zi fun w4 hr=> ?_;replace kp2:=hr.q kp2;have HM:Hid (Mod (fun i=>i=p) w w4):=Hi (H2.out.2.1.then0 hr.mod);have HN2:Hid (NewY w3.heap.size w4 (.slice a2 x.length x.length) x):=Hi (H2.out.2.2.2.1.mod hr.mod (fun _ _ h=>h));have hB:=rlist_c w4 (H2.out.2.2.1.mod0 hr.mod);have hp24:=Ls kp2;clear hr;(refine eff_callT (by simp only[zK];rfl) (by rfl) ?y14 hB ?hout (fun vn wn hR=> ?hret) (fun ch wn hR=> ?hpan);(case y14=>(go_simp;(try(first|with_reducible rfl|(constructor<;>with_reducible rfl))))))
 case hout=>exact fun w' h=>h.not_out
 case hpan=>
  rcases hR.cases with⟨_,_,_,_,h,_⟩|⟨n0,hres,e1,hm⟩
  ·cases h
  ·cases e1;have h4:StepP p a l c w (pLook l k) VLo (.panicked [stopE n0]) wn:=StepP.err (by unfold pLook;rw[H1.out.1];show(match pList l k1 with| .error e=>_| .ok (x,k2)=>_)=_;rw[H2.out.1];show(match pList l k2 with| .error e=>_| .ok (y,k3)=>_)=_;rw[hres]) (HM.out.trans hm)
   first|exact h4|exact⟨rfl,h4⟩|(simp only[Exit.then];exact h4)
 case hret=>
 rcases hR.cases with⟨y,k3,v3,hr3,e1,hv3,hP3⟩|⟨_,_,h,_⟩
 case inr=>cases h
 cases e1;obtain⟨a3,rfl⟩:=NewS.form2 hv3;have kp2:=hP3.2.at_ne kp2 h2p;have hlt3:=hv3.lt;have hlt2:=HN2.out.lt;clear hB hR;(try simp only[zL]);refine Ze ?_;refine Zz ?_;refine ZS ?_;refine ZN kp2 fun wn kp2 mS=> ?_;replace kp2:wn.heap[p2]? =some (.cells (lox q a2 x.length x.length a3 y.length y.length) 148 (0,0)):=by
  rw[kp2]
  first|rw[lox_r]|(simp[lox_r];done)
 have H3:Hid (pLook l k= .ok (⟨q,x,y⟩,k3)∧RdP p a l c k3 w wn∧NewY w.heap.size wn (.slice a2 x.length x.length) x∧NewY w.heap.size wn (.slice a3 y.length y.length) y∧(∀g h,(Value.slice a2 x.length x.length).ownBlock=some g→(Value.slice a3 y.length y.length).ownBlock=some h→g<h)∧(∀g,(Value.slice a2 x.length x.length).ownBlock=some g→p2<g)∧(∀g,(Value.slice a3 y.length y.length).ownBlock=some g→p2<g)):=Hi ⟨by
   unfold pLook;rw[H1.out.1];show(match pList l k1 with| .error e=>_| .ok (x,k2)=>_)=_;rw[H2.out.1];show(match pList l k2 with| .error e=>_| .ok (y,k3)=>_)=_;rw[hr3],⟨RdA.modN HRD.out gp2 hP3.1 mS,(HM.out.trans hP3.2).then mS (fun i hi e=>by omega)⟩,
  ((HN2.out.mod hP3.2 (fun g hg e=>by have:=(hlt2 g hg).1;have:=H2.out.2.2.2.2;omega)).mod mS (fun g hg e=>by have:=(hlt2 g hg).1;have:=H2.out.2.2.2.2;omega)).base H2.out.2.2.2.2.2,
  (hv3.mod mS (fun g hg e=>by have:=(hlt3 g hg).1;omega)).base HM.out.size,fun g h hg hh=>by have h1:=(hlt2 g hg).2;have h2:=(hlt3 h hh).1;omega,fun g hg=>by have:=(hlt2 g hg).1;have:=H2.out.2.2.2.2.1;omega,fun g hg=>by have:=(hlt3 g hg).1;omega⟩
 clear hr3 hP3 mS HM HN2 hv3 hlt2 hlt3;go_upto_region 4 with fail;have Lkp2:=Ls kp2;refine ZP0 [1,5] ?_;(refine TD.load (v:= ?v17) (p:= ?p17) (Mod.refl _ _) (by simp only[zK];rfl) rfl (by rfl) rfl ?hx17 (fun wq hSq=> ?y17) ?n17;(case hx17=>simp only[zM];try rfl);(case y17=>(have kp2q:=hSq.at kp2 (fun h=>h);exact(ldLox kp2q)));try simp only[zL]);refine Zi fun wE hr=> ?_;replace kp2:=hr.mod.at0 kp2;have mE:=hr.mod;refine ZS ?_;refine ZN kp2 fun w5 kp2 mS=> ?_;(try simp only[Array.setIfInBounds,zL]at kp2);have m5:=(mE.mono (T:=fun i=>i=p2) (fun _ _ h=>h.elim)).trans mS;clear hr mE mS;have HF:Hid (StepP p a l c w (pLook l k) VLo (.returned (.agg (lox q a2 x.length x.length a3 y.length y.length))) w5):=Hi (StepP.ok H3.out.1 ⟨⟨q,⟨a2,x,x.length⟩,⟨a3,y,y.length⟩⟩,rfl,rfl,rfl,rfl,H3.out.2.2.1.mod m5 (fun g hg e=>by have:=H3.out.2.2.2.2.2.1 g hg;omega),H3.out.2.2.2.1.mod m5 (fun g hg e=>by have:=H3.out.2.2.2.2.2.2 g hg;omega),H3.out.2.2.2.2.1⟩ ⟨RdA.modN HRD.out gp2 H3.out.2.1.1 m5,H3.out.2.1.2.then m5 (fun i hi e=>by omega)⟩);clear m5;go_wp2_with fail;refine bodyPost_ret (results_cell1 (v:= .agg (lox q a2 x.length x.length a3 y.length y.length)) rfl rfl (ldLox kp2)) rfl ?_;exact HF.out
end
section
attribute [local go_sem↓] wlKey ldKey stKey
attribute [local go_sem] kc_ext kc_one kc_one0 kc_size zKey_size
theorem sq_new {P:Program} {ops:Array Oper} {Q:Exit→Act→World→Prop} {i:Nat} {r:List Nat} {a:Act} {o:Oper} {w:World} {T E:TypeId} {n:Nat} {parts:Array (Nat×Operand)} {ps:Array (Nat×Value)} {z:Array Value} (ho:ops[i]? =some o) (hw:Region.wanted o (yielded ops a.tmps)=true)
  (hop:o.op= .buildSlice T n parts) (hx:parts.map (fun(p:Nat×Operand)=>(p.1,a.eval p.2))=ps) (hr:(Instr.buildSlice T n ps).run P w= .ok (.slice (some ⟨w.heap.size,0,none⟩) n n) (w.alloc (.cells z E)))
  (h:∀q w',w.heap.size=q→w'.heap[q]? =some (.cells z E (0,0))→Mod (fun _=>False) w w'→wpOps P ops Q r (a.put o.dst (.slice (some ⟨q,0,none⟩) n n)) w'):wpOps P ops Q (i::r) a w:=
 sq_eff ho hw (by subst hx;simp[execOp,hop,hr]) (h _ _ rfl (heap_alloc_new _ _) ((Mod.refl _ _).alloc _))
theorem sq_callT {P:Program} {ops:Array Oper} {Q:Exit→Act→World→Prop} {i:Nat} {r:List Nat} {a:Act} {o:Oper} {w:World} {f:FuncId} {args:Array Value} {R:Ending→World→Prop} (ho:ops[i]? =some o) (hw:Region.wanted o (yielded ops a.tmps)=true)
  (hy:(execOp a.eval o).run P w= .ok (.enter f args) w) (hc:Calls P f args w R) (hout:∀w',¬R .outgrown w') (hn:∀v w',R (.returned v) w'→wpOps P ops Q r (a.put o.dst v) w') (hp:∀ch w',R (.panicked ch) w'→Q (.panic ch) a w'):wpOps P ops Q (i::r) a w:=by
 unfold wpOps;simp only[ho,hw,if_true];refine .inl ?_;unfold Oper.wp;rw[hy,Oper.upon_enter];refine hc.mono ?_;intro e w' h;cases e with
 |returned v=>exact hn v w' h
 |panicked ch=>exact hp ch w' h
 |outgrown=>exact absurd h (hout w')
theorem ZC {P:Program} {ops:Array Oper} {Q:Exit→Act→World→Prop} {i:Nat} {r:List Nat} {a:Act} {w:World} {o:Oper} {f:FuncId} {args:Array Value} {R:Ending→World→Prop} (hc:Calls P f args w R) (hout:∀w',¬R .outgrown w') (hn:∀v w',R (.returned v) w'→wpOps P ops Q r (a.put o.dst v) w') (hp:∀ch w',R (.panicked ch) w'→Q (.panic ch) a w') (ho:ops[i]? =some o:=by simp only[zK];rfl) (hw:Region.wanted o (yielded ops a.tmps)=true:=by rfl) (hy:(execOp a.eval o).run P w= .ok (.enter f args) w:=by go_simp;(try(first|with_reducible rfl|(constructor<;>with_reducible rfl)))):wpOps P ops Q (i::r) a w:=sq_callT ho hw hy hc hout hn hp
def pRep {α:Type} (one:Nat→PR α):Nat→Nat→PR (List α)
 |0,k=> .ok ([],k)
 |n+1,k=>match one k with
  | .error e=> .error e
  | .ok (x,k1)=>match pRep one n k1 with
   | .error e=> .error e
   | .ok (xs,k2)=> .ok (x::xs,k2)
def pAll {α:Type} (one:Nat→PR α) (l:List UInt8) (k:Nat):PR (List α):=match pShort l k with
 | .error e=> .error e
 | .ok (n,k1)=>pRep one n k1
def pMore {α:Type} (xs:List α):PR (List α)→PR (List α)
 | .error e=> .error e
 | .ok (ys,k)=> .ok (xs++ys,k)
theorem pMore_nil {α:Type} (r:PR (List α)):pMore [] r=r:=by
 cases r<;>rfl
theorem pMore_step {α:Type} {one:Nat→PR α} {n k k1:Nat} {x:α} (xs:List α) (h:one k= .ok (x,k1)):pMore xs (pRep one (n+1) k)=pMore (xs++[x]) (pRep one n k1):=by
 rw[pRep,h];dsimp only;generalize pRep one n k1=r;cases r with
 |error e=>rfl
 |ok y=>simp[pMore]
theorem pMore_err {α:Type} {one:Nat→PR α} {n k e:Nat} (xs:List α) (h:one k= .error e):pMore xs (pRep one (n+1) k)= .error e:=by
 rw[pRep,h];rfl
theorem bsKeyR (k:Key) (w:World):(Instr.buildSlice 45 1 #[(0,.agg (kc k))]).run Tryz.prog w= .ok (.slice (some ⟨w.heap.size,0,none⟩) 1 1) (w.alloc (.cells (kc k) 110)):=by
 obtain⟨i0,hi,hz0,hz1,hz2⟩:=info_parts (show(Tryz.prog.info? 110).map (fun i=>(i.zero,i.size,i.bytes))=some (some (.agg zKey),32,32)by kernel_rfl);refine run_buildSlice w _ _ 1 _ _ i0 _ Tryz.underlying45 hi hz0 (by rw[hz1];omega) (by rw[hz1];omega) ?_;rw[hz1];show Instr.fill _ _ [(0,_)]=_;rw[fill_cons (off:=0) (n:=32) rfl (by simp[Value.cells]) (by simp[Value.cells,zKey_size,size_madeCells])];show some (wr _ 0 (kc k).toList)=_;rw[wr_whole (kc k) _ (by simp[Value.cells,zKey_size,size_madeCells])]
theorem clipKr_c (v2:Value) (w:World) (n:Nat) {a:Option Addr} {c:Nat} (h:∀w2,(Instr.sliceAt 45 (.slice a n c) none (some (.int .i64 (n:Int))) (some (.int .i64 (n:Int)))).run Tryz.prog w2= .ok v2 w2):
  Calls Tryz.prog 77 #[.slice a n c] w fun e w'=>e= .returned v2∧w'=w:=by
 go_enter Tryz.func77,Tryz.ntmps77;go_wp2_with fail;go_ret;exact⟨rfl,rfl⟩
theorem allK_c {p:Nat} {a:Option Addr} {l:List UInt8} {c k:Nat} (w:World) (h:RdA p a l c k w):
  Calls Tryz.prog 135 #[pV p,.func (.func 136) #[pV p] #[]] w fun e w'=>StepP p a l c w (pAll (pKey l) l k) (fun b w' v x=>NewS kc 32 110 b w' v x) e w':=by
 have hp:=Ls h.1;have hk0:=h.2.2.1;have HS:=Hi (rshort_c w h);have HRD:=Hi h;clear h;go_enter Tryz.func135,Tryz.ntmps135;go_wp2_with fail;go_at_call 146;refine HS.out.mono ?_;intro e w1 h;rcases h.cases with⟨n,k1,v,h1,rfl,rfl,hP⟩|⟨n,h1,rfl,hm⟩
 ·have hf:=pShort_fit h1 hk0;have H1:=Hi (Ai h1 hP);have hn:=hf.1;clear h1 hP h hf HS;go_wp2_with fail;go_loopw [4,7] (fun s4 s7 ws=>∃(i ki c2:Nat) (a2:Option Addr) (L:List Key),i≤n∧s4= .slice a2 i c2∧s7= .int .i64 (i:Int)∧Hid (L.length=i)∧Hid (SlOwn kc 32 110 ws w.heap.size (.slice a2 i c2) L)∧Hid (RdP p a l c ki w ws)∧Hid (pAll (pKey l) l k=pMore L (pRep (pKey l) (n-i) ki))) (fun _ s7 _=>n-(intOf s7).toNat)
  case atStart=>exact⟨0,k1,0,none,[],by omega,rfl,rfl,Hi rfl,Hi (SlOwn.nil _ _),Hi H1.out.2,Hi (by rw[pMore_nil,pAll,H1.out.1];rfl)⟩
  case round=>
   obtain⟨i,ki,c2,a2,L,hi,rfl,rfl,HLi,HO,HP,HM⟩:=hrel;by_cases hlt:i<n
   ·have hd:=Dt hlt;go_upto_region 3 with fail;have hB:=rkey_c wr HP.out.1;refine region_seq 6 rfl ?_;simp only[List.range,List.range.loop]
    iterate 2 refine Zq ?_
    refine ZC hB ?hout (fun vn wn hR=> ?hret) (fun ch wn hR=> ?hpan)
    case hout=>exact fun w' h=>h.not_out
    case hpan=>
     rcases hR.cases with⟨_,_,_,_,h,_⟩|⟨n0,hres,e1,hm⟩
     ·cases h
     ·cases e1;have h4:StepP p a l c w (pAll (pKey l) l k) (fun b w' v x=>NewS kc 32 110 b w' v x) (.panicked [stopE n0]) wn:=StepP.err (by rw[HM.out,show n-i=(n-(i+1))+1 by omega];exact pMore_err L hres) (HP.out.2.trans hm)
      first|exact h4|exact⟨rfl,h4⟩|(simp only[Exit.then];exact h4)
    case hret=>
    rcases hR.cases with⟨x,k2,v2,hres,e1,hv,hP2⟩|⟨_,_,h,_⟩
    case inr=>cases h
    cases e1;subst hv;have hlo:=HO.out.lt;have HO2:Hid (SlOwn kc 32 110 wn w.heap.size (.slice a2 i c2) L):=Hi (HO.out.mod hP2.2 (fun g hg e=>by have:=(hlo g hg).1;omega));have HP2:Hid (RdP p a l c k2 w wn):=Hi ⟨hP2.1,HP.out.2.trans hP2.2⟩;have HM2:Hid (pAll (pKey l) l k=pMore (L++[x]) (pRep (pKey l) (n-(i+1)) k2)):=Hi (by rw[HM.out,show n-i=(n-(i+1))+1 by omega];exact pMore_step L hres);clear hB hR hlo hres hP2;obtain⟨w5,rfl⟩:∃w5:World,w5=wn:=⟨_,rfl⟩;(try simp only[zL]);(refine sq_new (by simp only[zK];rfl) (by rfl) rfl ?hx4 (bsKeyR x _) (fun q2 wn gq2 kq2 mq2=> ?n4);(case hx4=>(simp only[List.map_toArray,List.map_cons,List.map_nil,zM];(try rfl)));try simp only[zL]);obtain⟨v6,w6,hap,hO6,m6,hn6⟩:=SlOwn.append keysT (c:=1) (q:=[x]) (HO2.out.mod0 mq2) (SlAt.one kq2 x rfl (kc_size _)) (by rw[HLi.out];simp only[List.length_singleton];omega) (by decide) (Nat.le_trans HP2.out.2.size mq2.size) 45;obtain⟨a6,c6,rfl,-,-⟩:=hO6.at keysT;have hL6:(L++[x]).length=i+1:=by rw[List.length_append,HLi.out];rfl
    rw[hL6]at hap hO6;have hlo:=HO2.out.lt;have m56:Mod (fun i=>i=p) w w6:=(HP2.out.2.then0 mq2).then m6 (fun j hj e=>by have:=(hlo j e).1;omega);have kp6:=m6.at (mq2.at0 HP2.out.1.1) (fun e=>by have:=(hlo p e).1;omega);have HF:Hid (SlOwn kc 32 110 w6 w.heap.size (.slice a6 (i+1) c6) (L++[x])∧RdP p a l c k2 w w6∧(L++[x]).length=i+1):=Hi ⟨hO6,⟨⟨kp6,HRD.out.2.1.modB m56 HRD.out.2.2.2.2.2.1,HP2.out.1.2.2⟩,m56⟩,hL6⟩;clear hO6 hn6 kp6 hlo m56 m6 mq2 kq2 gq2 hL6;(refine sq_append (by simp only[zK];rfl) (by rfl) rfl ?hx5 ?hz5 hap ?n5;(case hx5=>simp only[zM];try rfl);(case hz5=>simp only[zM];try rfl);try simp only[zL]);refine Zq ?_;refine sq_nil ?_;go_wp2_with fail;go_roundw
    case rel=>exact⟨i+1,k2,c6,a6,L++[x],by omega,rfl,by go_num,Hi HF.out.2.2,Hi HF.out.1,Hi HF.out.2.1,HM2⟩
    case measure=>simp[intOf];omega
   ·have hd:=Df hlt;obtain rfl:n=i:=by omega
    have HE:Hid (pAll (pKey l) l k= .ok (L,ki)):=Hi (by rw[HM.out,Nat.sub_self,pRep,pMore,List.append_nil]);obtain⟨a5,c5,v2,e5,hcl,hnew⟩:=HO.out.clip keysT;rw[HLi.out]at hcl;have HCL:=Hi hcl;have HF:Hid (StepP p a l c w (pAll (pKey l) l k) (fun b w' v x=>NewS kc 32 110 b w' v x) (.returned v2) wr):=Hi (StepP.ok HE.out hnew HP.out);clear hcl hnew e5;go_wp2_with fail;go_at_call 77;refine(clipKr_c _ _ _ HCL.out).mono ?_;rintro e w6 ⟨rfl,rfl⟩;go_wp2_with fail;go_ret;exact HF.out
 ·have h4:StepP p a l c w (pAll (pKey l) l k) (fun b w' v x=>NewS kc 32 110 b w' v x) (.panicked [stopE n]) w1:=StepP.err (by rw[pAll,h1]) hm
  first|exact h4|exact⟨rfl,h4⟩
end
section
attribute [local go_sem↓] wlKey ldKey stKey wlIn ldIn stIn
attribute [local go_sem] kc_ext kc_one kc_one0 kc_size zKey_size
inductive All2 {α β:Type} (R:α→β→Prop):List α→List β→Prop
 |nil:All2 R [] []
 |cons {x:α} {y:β} {l:List α} {m:List β} (hx:R x y) (h:All2 R l m):All2 R (x::l) (y::m)
def insB (L:List InR):List Nat:=L.flatMap (fun r=>r.a.v.ownBlock.toList++r.d.v.ownBlock.toList)
def In1 (b:Nat) (w:World) (r:InR) (x:InP):Prop:=r.p=x.p∧r.a.l=x.a∧r.d.l=x.d∧NewY b w r.a.v x.a∧NewY b w r.d.v x.d
def InsOk (b:Nat) (w:World) (L:List InR) (xs:List InP):Prop:=All2 (In1 b w) L xs∧(insB L).Pairwise (·<·)∧∀g∈insB L,b≤g∧g<w.heap.size∧∃C,w.heap[g]? =some (.cells C 5 (0,0))
def VIns (b:Nat) (w:World) (v:Value) (xs:List InP):Prop:=∃L,NewS inr 3 146 b w v L∧InsOk b w L xs
theorem newY_blk {b:Nat} {w:World} {v:Value} {x:List UInt8} (h:NewY b w v x) {g:Nat} (hg:v.ownBlock=some g):b≤g∧g<w.heap.size∧∃C,w.heap[g]? =some (.cells C 5 (0,0)):=by
 have h2:=h.lt g hg;rcases h with⟨rfl,_⟩|⟨g',cur,rfl,_,hk,_⟩
 ·cases hg
 ·cases hg;exact⟨h2.1,h2.2,cur,hk⟩
theorem In1.mod {b:Nat} {w w':World} {r:InR} {x:InP} {S:Nat→Prop} (h:In1 b w r x) (hm:Mod S w w') (hS:∀g,b≤g→g<w.heap.size→(∃C,w.heap[g]? =some (.cells C 5 (0,0)))→¬S g):In1 b w' r x:=
 ⟨h.1,h.2.1,h.2.2.1,h.2.2.2.1.mod hm (fun g hg=>by obtain⟨h1,h2,h3⟩:=newY_blk h.2.2.2.1 hg;exact hS g h1 h2 h3),h.2.2.2.2.mod hm (fun g hg=>by obtain⟨h1,h2,h3⟩:=newY_blk h.2.2.2.2 hg;exact hS g h1 h2 h3)⟩
theorem InsOk.mod {b:Nat} {w w':World} {L:List InR} {xs:List InP} {S:Nat→Prop} (h:InsOk b w L xs) (hm:Mod S w w') (hS:∀g,b≤g→g<w.heap.size→(∃C,w.heap[g]? =some (.cells C 5 (0,0)))→¬S g):InsOk b w' L xs:=by
 refine⟨?_,h.2.1,fun g hg=> ?_⟩
 ·have h1:=h.1;clear h
  induction h1 with
  |nil=>exact .nil
  |cons hx _ ih=>exact .cons (hx.mod hm hS) ih
 ·obtain⟨h1,h2,C,h3⟩:=h.2.2 g hg;exact⟨h1,Nat.lt_of_lt_of_le h2 hm.size,C,hm.at h3 (hS g h1 h2 ⟨C,h3⟩)⟩
theorem InsOk.nil (b:Nat) (w:World):InsOk b w [] []:=⟨.nil,.nil,fun g h=>by cases h⟩
theorem All2.snoc {α β:Type} {R:α→β→Prop} {l:List α} {m:List β} {x:α} {y:β} (h:All2 R l m) (hx:R x y):All2 R (l++[x]) (m++[y]):=by
 induction h with
 |nil=>exact .cons hx .nil
 |cons hy _ ih=>exact .cons hy ih
theorem InsOk.snoc {b:Nat} {w w':World} {L:List InR} {xs:List InP} {r:InR} {x:InP} {p:Nat} (h:InsOk b w L xs) (hm:Mod (fun i=>i=p) w w') (hp:p<b) (hb:b≤w.heap.size) (hv:In1 w.heap.size w' r x) (ho:∀g h,r.a.v.ownBlock=some g→r.d.v.ownBlock=some h→g<h):InsOk b w' (L++[r]) (xs++[x]):=by
 have h1:=h.mod hm (fun g hg _ _ e=>by omega);have hlow:In1 b w' r x:=⟨hv.1,hv.2.1,hv.2.2.1,hv.2.2.2.1.base hb,hv.2.2.2.2.base hb⟩;have hnew:∀g∈r.a.v.ownBlock.toList++r.d.v.ownBlock.toList,w.heap.size≤g∧g<w'.heap.size∧∃C,w'.heap[g]? =some (.cells C 5 (0,0)):=fun g hg=>by
  rcases List.mem_append.1 hg with h|h
  ·exact newY_blk hv.2.2.2.1 (by simpa using h)
  ·exact newY_blk hv.2.2.2.2 (by simpa using h)
 have hcat:insB (L++[r])=insB L++(r.a.v.ownBlock.toList++r.d.v.ownBlock.toList):=by simp[insB]
 refine⟨h1.1.snoc hlow,?_,fun g hg=> ?_⟩
 ·rw[hcat,List.pairwise_append];refine⟨h.2.1,?_,fun g hg q hq=> ?_⟩
  ·rw[List.pairwise_append];refine⟨?_,?_,fun g hg q hq=>ho g q (by simpa using hg) (by simpa using hq)⟩
   ·cases r.a.v.ownBlock<;>simp
   ·cases r.d.v.ownBlock<;>simp
  ·have h3:=(h.2.2 g hg).2.1;have h4:=(hnew q hq).1;omega
 ·rw[hcat]at hg;rcases List.mem_append.1 hg with h3|h3
  ·exact h1.2.2 g h3
  ·obtain⟨h4,h5⟩:=hnew g h3;exact⟨Nat.le_trans hb h4,h5⟩
end
section
attribute [local go_sem↓] wlKey ldKey stKey wlIn ldIn stIn
attribute [local go_sem] kc_ext kc_one kc_one0 kc_size zKey_size
theorem bsInR (x:InR) (w:World):(Instr.buildSlice 48 1 #[(0,.agg (inr x))]).run Tryz.prog w= .ok (.slice (some ⟨w.heap.size,0,none⟩) 1 1) (w.alloc (.cells (inr x) 146)):=by
 obtain⟨i0,hi,hz0,hz1,hz2⟩:=info_parts (show(Tryz.prog.info? 146).map (fun i=>(i.zero,i.size,i.bytes))=some (some (.agg zIn),3,56)by kernel_rfl);refine run_buildSlice w _ _ 1 _ _ i0 _ Tryz.underlying48 hi hz0 (by rw[hz1];omega) (by rw[hz1];omega) ?_;rw[hz1];show Instr.fill _ _ [(0,_)]=_;rw[fill_cons (off:=0) (n:=3) rfl (by simp[Value.cells,inr]) (by simp[Value.cells,zIn,inr,size_madeCells])];show some (wr _ 0 (inr x).toList)=_;rw[wr_whole (inr x) _ (by simp[Value.cells,zIn,inr,size_madeCells])]
theorem own_blk2 {α:Type} {f:α→Array Value} {n:Nat} {E:TypeId} {w:World} {base:Nat} {v:Value} {l:List α} (h:SlOwn f n E w base v l):∀g,v.ownBlock=some g→∃cur,w.heap[g]? =some (.cells cur E (0,0)):=fun g hg=>by
 rcases h.2 with⟨rfl,hn⟩|⟨g',cap,cur,rfl,hb,hk,_⟩
 ·cases hg
 ·cases hg;exact⟨cur,hk⟩
theorem clipIr_c (v2:Value) (w:World) (n:Nat) {a:Option Addr} {c:Nat} (h:∀w2,(Instr.sliceAt 48 (.slice a n c) none (some (.int .i64 (n:Int))) (some (.int .i64 (n:Int)))).run Tryz.prog w2= .ok v2 w2):
  Calls Tryz.prog 147 #[.slice a n c] w fun e w'=>e= .returned v2∧w'=w:=by
 go_enter Tryz.func147,Tryz.ntmps147;go_wp2_with fail;go_ret;exact⟨rfl,rfl⟩
theorem allI_c {p:Nat} {a:Option Addr} {l:List UInt8} {c k:Nat} (w:World) (h:RdA p a l c k w):
  Calls Tryz.prog 137 #[pV p,.func (.func 138) #[pV p] #[]] w fun e w'=>StepP p a l c w (pAll (pInstr l) l k) VIns e w':=by
 have hp:=Ls h.1;have hk0:=h.2.2.1;have HS:=Hi (rshort_c w h);have HRD:=Hi h;clear h;go_enter Tryz.func137,Tryz.ntmps137;go_wp2_with fail;go_at_call 146;refine HS.out.mono ?_;intro e w1 h;rcases h.cases with⟨n,k1,v,h1,rfl,rfl,hP⟩|⟨n,h1,rfl,hm⟩
 ·have hf:=pShort_fit h1 hk0;have H1:=Hi (Ai h1 hP);have hn:=hf.1;clear h1 hP h hf HS;go_wp2_with fail;go_loopw [4,7] (fun s4 s7 ws=>∃(i ki c2:Nat) (a2:Option Addr) (L:List InR) (xs:List InP),i≤n∧s4= .slice a2 i c2∧s7= .int .i64 (i:Int)∧Hid (L.length=i∧InsOk w.heap.size ws L xs)∧Hid (SlOwn inr 3 146 ws w.heap.size (.slice a2 i c2) L)∧Hid (RdP p a l c ki w ws)∧Hid (pAll (pInstr l) l k=pMore xs (pRep (pInstr l) (n-i) ki))) (fun _ s7 _=>n-(intOf s7).toNat)
  case atStart=>exact⟨0,k1,0,none,[],[],by omega,rfl,rfl,Hi ⟨rfl,InsOk.nil _ _⟩,Hi (SlOwn.nil _ _),Hi H1.out.2,Hi (by rw[pMore_nil,pAll,H1.out.1];rfl)⟩
  case round=>
   obtain⟨i,ki,c2,a2,L,xs,hi,rfl,rfl,HLX,HO,HP,HM⟩:=hrel;have HLi:=Hi HLX.out.1;by_cases hlt:i<n
   ·have hd:=Dt hlt;go_upto_region 3 with fail;have hB:=rinstr_c wr HP.out.1;refine region_seq 6 rfl ?_;simp only[List.range,List.range.loop]
    iterate 2 refine Zq ?_
    refine ZC hB ?hout (fun vn wn hR=> ?hret) (fun ch wn hR=> ?hpan)
    case hout=>exact fun w' h=>h.not_out
    case hpan=>
     rcases hR.cases with⟨_,_,_,_,h,_⟩|⟨n0,hres,e1,hm⟩
     ·cases h
     ·cases e1;have h4:StepP p a l c w (pAll (pInstr l) l k) VIns (.panicked [stopE n0]) wn:=StepP.err (by rw[HM.out,show n-i=(n-(i+1))+1 by omega];exact pMore_err xs hres) (HP.out.2.trans hm)
      first|exact h4|exact⟨rfl,h4⟩|(simp only[Exit.then];exact h4)
    case hret=>
    rcases hR.cases with⟨x,k2,v2,hres,e1,hv,hP2⟩|⟨_,_,h,_⟩
    case inr=>cases h
    cases e1;obtain⟨r,rfl,hr1,hr2,hr3,hr4,hr5,hr6⟩:=hv;have HX2:Hid (InsOk w.heap.size wn (L++[r]) (xs++[x])):=Hi (HLX.out.2.snoc hP2.2 hp HP.out.2.size ⟨hr1,hr2,hr3,hr4,hr5⟩ hr6);clear hr1 hr2 hr3 hr4 hr5 hr6;have hlo:=HO.out.lt;have HO2:Hid (SlOwn inr 3 146 wn w.heap.size (.slice a2 i c2) L):=Hi (HO.out.mod hP2.2 (fun g hg e=>by have:=(hlo g hg).1;omega));have HP2:Hid (RdP p a l c k2 w wn):=Hi ⟨hP2.1,HP.out.2.trans hP2.2⟩;have HM2:Hid (pAll (pInstr l) l k=pMore (xs++[x]) (pRep (pInstr l) (n-(i+1)) k2)):=Hi (by rw[HM.out,show n-i=(n-(i+1))+1 by omega];exact pMore_step xs hres);clear hB hR hlo hres hP2;obtain⟨w5,rfl⟩:∃w5:World,w5=wn:=⟨_,rfl⟩;(try simp only[zL]);(refine sq_new (by simp only[zK];rfl) (by rfl) rfl ?hx4 (bsInR r _) (fun q2 wn gq2 kq2 mq2=> ?n4);(case hx4=>(simp only[List.map_toArray,List.map_cons,List.map_nil,zM];(try rfl)));try simp only[zL]);have hO2w:=HO2.out.mod0 mq2;obtain⟨v6,w6,hap,hO6,m6,hn6⟩:=SlOwn.append instrT (c:=1) (q:=[r]) (HO2.out.mod0 mq2) (SlAt.one kq2 r rfl rfl) (by rw[HLi.out];simp only[List.length_singleton];omega) (by decide) (Nat.le_trans HP2.out.2.size mq2.size) 48;obtain⟨a6,c6,rfl,-,-⟩:=hO6.at instrT;have hL6:(L++[r]).length=i+1:=by rw[List.length_append,HLi.out];rfl
    rw[hL6]at hap hO6;have hlo:=HO2.out.lt;have m56:Mod (fun i=>i=p) w w6:=(HP2.out.2.then0 mq2).then m6 (fun j hj e=>by have:=(hlo j e).1;omega);have kp6:=m6.at (mq2.at0 HP2.out.1.1) (fun e=>by have:=(hlo p e).1;omega);have hown:=own_blk2 hO2w;have HX6:Hid (InsOk w.heap.size w6 (L++[r]) (xs++[x])):=Hi ((HX2.out.mod mq2 (fun _ _ _ _ e=>e)).mod m6 (fun g hg hg2 hC e=>by
     obtain⟨C,hC⟩:=hC;obtain⟨cur,hk⟩:=hown g e;rw[hk]at hC;injection (Option.some.inj hC)with h1 h2
     exact absurd h2 (by decide)))
    clear hown hO2w;have HF:Hid (SlOwn inr 3 146 w6 w.heap.size (.slice a6 (i+1) c6) (L++[r])∧RdP p a l c k2 w w6∧(L++[r]).length=i+1):=Hi ⟨hO6,⟨⟨kp6,HRD.out.2.1.modB m56 HRD.out.2.2.2.2.2.1,HP2.out.1.2.2⟩,m56⟩,hL6⟩;clear hO6 hn6 kp6 hlo m56 m6 mq2 kq2 gq2 hL6;(refine sq_append (by simp only[zK];rfl) (by rfl) rfl ?hx5 ?hz5 hap ?n5;(case hx5=>simp only[zM];try rfl);(case hz5=>simp only[zM];try rfl);try simp only[zL]);refine Zq ?_;refine sq_nil ?_;go_wp2_with fail;go_roundw
    case rel=>exact⟨i+1,k2,c6,a6,L++[r],xs++[x],by omega,rfl,by go_num,Hi ⟨HF.out.2.2,HX6.out⟩,Hi HF.out.1,Hi HF.out.2.1,HM2⟩
    case measure=>simp[intOf];omega
   ·have hd:=Df hlt;obtain rfl:n=i:=by omega
    have HE:Hid (pAll (pInstr l) l k= .ok (xs,ki)):=Hi (by rw[HM.out,Nat.sub_self,pRep,pMore,List.append_nil]);obtain⟨a5,c5,v2,e5,hcl,hnew⟩:=HO.out.clip instrT;rw[HLi.out]at hcl;have HCL:=Hi hcl;have HF:Hid (StepP p a l c w (pAll (pInstr l) l k) VIns (.returned v2) wr):=Hi (StepP.ok HE.out ⟨L,hnew,HLX.out.2⟩ HP.out);clear hcl hnew e5;go_wp2_with fail;go_at_call 147;refine(clipIr_c _ _ _ HCL.out).mono ?_;rintro e w6 ⟨rfl,rfl⟩;go_wp2_with fail;go_ret;exact HF.out
 ·have h4:StepP p a l c w (pAll (pInstr l) l k) VIns (.panicked [stopE n]) w1:=StepP.err (by rw[pAll,h1]) hm
  first|exact h4|exact⟨rfl,h4⟩
end
section
attribute [local go_sem↓] wlKey ldKey stKey wlLo ldLo stLo
attribute [local go_sem] kc_ext kc_one kc_one0 kc_size zKey_size
theorem lor_size2 (x:LoR):(lor x).size=34:=kx_size _ _
def losB (L:List LoR):List Nat:=L.flatMap (fun r=>r.w.v.ownBlock.toList++r.r.v.ownBlock.toList)
def Lo1 (b:Nat) (w:World) (r:LoR) (x:LoP):Prop:=r.t=x.t∧r.w.l=x.w∧r.r.l=x.r∧NewY b w r.w.v x.w∧NewY b w r.r.v x.r
def LosOk (b:Nat) (w:World) (L:List LoR) (xs:List LoP):Prop:=All2 (Lo1 b w) L xs∧(losB L).Pairwise (·<·)∧∀g∈losB L,b≤g∧g<w.heap.size∧∃C,w.heap[g]? =some (.cells C 5 (0,0))
def VLos (b:Nat) (w:World) (v:Value) (xs:List LoP):Prop:=∃L,NewS lor 34 148 b w v L∧LosOk b w L xs
theorem Lo1.mod {b:Nat} {w w':World} {r:LoR} {x:LoP} {S:Nat→Prop} (h:Lo1 b w r x) (hm:Mod S w w') (hS:∀g,b≤g→g<w.heap.size→(∃C,w.heap[g]? =some (.cells C 5 (0,0)))→¬S g):Lo1 b w' r x:=
 ⟨h.1,h.2.1,h.2.2.1,h.2.2.2.1.mod hm (fun g hg=>by obtain⟨h1,h2,h3⟩:=newY_blk h.2.2.2.1 hg;exact hS g h1 h2 h3),h.2.2.2.2.mod hm (fun g hg=>by obtain⟨h1,h2,h3⟩:=newY_blk h.2.2.2.2 hg;exact hS g h1 h2 h3)⟩
theorem LosOk.mod {b:Nat} {w w':World} {L:List LoR} {xs:List LoP} {S:Nat→Prop} (h:LosOk b w L xs) (hm:Mod S w w') (hS:∀g,b≤g→g<w.heap.size→(∃C,w.heap[g]? =some (.cells C 5 (0,0)))→¬S g):LosOk b w' L xs:=by
 refine⟨?_,h.2.1,fun g hg=> ?_⟩
 ·have h1:=h.1;clear h
  induction h1 with
  |nil=>exact .nil
  |cons hx _ ih=>exact .cons (hx.mod hm hS) ih
 ·obtain⟨h1,h2,C,h3⟩:=h.2.2 g hg;exact⟨h1,Nat.lt_of_lt_of_le h2 hm.size,C,hm.at h3 (hS g h1 h2 ⟨C,h3⟩)⟩
theorem LosOk.nil (b:Nat) (w:World):LosOk b w [] []:=⟨.nil,.nil,fun g h=>by cases h⟩
theorem LosOk.snoc {b:Nat} {w w':World} {L:List LoR} {xs:List LoP} {r:LoR} {x:LoP} {p:Nat} (h:LosOk b w L xs) (hm:Mod (fun i=>i=p) w w') (hp:p<b) (hb:b≤w.heap.size) (hv:Lo1 w.heap.size w' r x) (ho:∀g h,r.w.v.ownBlock=some g→r.r.v.ownBlock=some h→g<h):LosOk b w' (L++[r]) (xs++[x]):=by
 have h1:=h.mod hm (fun g hg _ _ e=>by omega);have hlow:Lo1 b w' r x:=⟨hv.1,hv.2.1,hv.2.2.1,hv.2.2.2.1.base hb,hv.2.2.2.2.base hb⟩;have hnew:∀g∈r.w.v.ownBlock.toList++r.r.v.ownBlock.toList,w.heap.size≤g∧g<w'.heap.size∧∃C,w'.heap[g]? =some (.cells C 5 (0,0)):=fun g hg=>by
  rcases List.mem_append.1 hg with h|h
  ·exact newY_blk hv.2.2.2.1 (by simpa using h)
  ·exact newY_blk hv.2.2.2.2 (by simpa using h)
 have hcat:losB (L++[r])=losB L++(r.w.v.ownBlock.toList++r.r.v.ownBlock.toList):=by simp[losB]
 refine⟨h1.1.snoc hlow,?_,fun g hg=> ?_⟩
 ·rw[hcat,List.pairwise_append];refine⟨h.2.1,?_,fun g hg q hq=> ?_⟩
  ·rw[List.pairwise_append];refine⟨?_,?_,fun g hg q hq=>ho g q (by simpa using hg) (by simpa using hq)⟩
   ·cases r.w.v.ownBlock<;>simp
   ·cases r.r.v.ownBlock<;>simp
  ·have h3:=(h.2.2 g hg).2.1;have h4:=(hnew q hq).1;omega
 ·rw[hcat]at hg;rcases List.mem_append.1 hg with h3|h3
  ·exact h1.2.2 g h3
  ·obtain⟨h4,h5⟩:=hnew g h3;exact⟨Nat.le_trans hb h4,h5⟩
theorem bsLoR (x:LoR) (w:World):(Instr.buildSlice 49 1 #[(0,.agg (lor x))]).run Tryz.prog w= .ok (.slice (some ⟨w.heap.size,0,none⟩) 1 1) (w.alloc (.cells (lor x) 148)):=by
 obtain⟨i0,hi,hz0,hz1,hz2⟩:=info_parts (show(Tryz.prog.info? 148).map (fun i=>(i.zero,i.size,i.bytes))=some (some (.agg zLo),34,80)by kernel_rfl);refine run_buildSlice w _ _ 1 _ _ i0 _ Tryz.underlying49 hi hz0 (by rw[hz1];omega) (by rw[hz1];omega) ?_;rw[hz1];show Instr.fill _ _ [(0,_)]=_;rw[fill_cons (off:=0) (n:=34) rfl (by simp[Value.cells,lor_size2]) (by simp[Value.cells,zLo,lor_size2,size_madeCells])];show some (wr _ 0 (lor x).toList)=_;rw[wr_whole (lor x) _ (by simp[Value.cells,zLo,lor_size2,size_madeCells])]
theorem clipLr_c (v2:Value) (w:World) (n:Nat) {a:Option Addr} {c:Nat} (h:∀w2,(Instr.sliceAt 49 (.slice a n c) none (some (.int .i64 (n:Int))) (some (.int .i64 (n:Int)))).run Tryz.prog w2= .ok v2 w2):
  Calls Tryz.prog 149 #[.slice a n c] w fun e w'=>e= .returned v2∧w'=w:=by
 go_enter Tryz.func149,Tryz.ntmps149;go_wp2_with fail;go_ret;exact⟨rfl,rfl⟩
theorem allL_c {p:Nat} {a:Option Addr} {l:List UInt8} {c k:Nat} (w:World) (h:RdA p a l c k w):
  Calls Tryz.prog 139 #[pV p,.func (.func 140) #[pV p] #[]] w fun e w'=>StepP p a l c w (pAll (pLook l) l k) VLos e w':=by
 have hp:=Ls h.1;have hk0:=h.2.2.1;have HS:=Hi (rshort_c w h);have HRD:=Hi h;clear h;go_enter Tryz.func139,Tryz.ntmps139;go_wp2_with fail;go_at_call 146;refine HS.out.mono ?_;intro e w1 h;rcases h.cases with⟨n,k1,v,h1,rfl,rfl,hP⟩|⟨n,h1,rfl,hm⟩
 ·have hf:=pShort_fit h1 hk0;have H1:=Hi (Ai h1 hP);have hn:=hf.1;clear h1 hP h hf HS;go_wp2_with fail;go_loopw [4,7] (fun s4 s7 ws=>∃(i ki c2:Nat) (a2:Option Addr) (L:List LoR) (xs:List LoP),i≤n∧s4= .slice a2 i c2∧s7= .int .i64 (i:Int)∧Hid (L.length=i∧LosOk w.heap.size ws L xs)∧Hid (SlOwn lor 34 148 ws w.heap.size (.slice a2 i c2) L)∧Hid (RdP p a l c ki w ws)∧Hid (pAll (pLook l) l k=pMore xs (pRep (pLook l) (n-i) ki))) (fun _ s7 _=>n-(intOf s7).toNat)
  case atStart=>exact⟨0,k1,0,none,[],[],by omega,rfl,rfl,Hi ⟨rfl,LosOk.nil _ _⟩,Hi (SlOwn.nil _ _),Hi H1.out.2,Hi (by rw[pMore_nil,pAll,H1.out.1];rfl)⟩
  case round=>
   obtain⟨i,ki,c2,a2,L,xs,hi,rfl,rfl,HLX,HO,HP,HM⟩:=hrel;have HLi:=Hi HLX.out.1;by_cases hlt:i<n
   ·have hd:=Dt hlt;go_upto_region 3 with fail;have hB:=rlook_c wr HP.out.1;refine region_seq 6 rfl ?_;simp only[List.range,List.range.loop]
    iterate 2 refine Zq ?_
    refine ZC hB ?hout (fun vn wn hR=> ?hret) (fun ch wn hR=> ?hpan)
    case hout=>exact fun w' h=>h.not_out
    case hpan=>
     rcases hR.cases with⟨_,_,_,_,h,_⟩|⟨n0,hres,e1,hm⟩
     ·cases h
     ·cases e1;have h4:StepP p a l c w (pAll (pLook l) l k) VLos (.panicked [stopE n0]) wn:=StepP.err (by rw[HM.out,show n-i=(n-(i+1))+1 by omega];exact pMore_err xs hres) (HP.out.2.trans hm)
      first|exact h4|exact⟨rfl,h4⟩|(simp only[Exit.then];exact h4)
    case hret=>
    rcases hR.cases with⟨x,k2,v2,hres,e1,hv,hP2⟩|⟨_,_,h,_⟩
    case inr=>cases h
    cases e1;obtain⟨r,rfl,hr1,hr2,hr3,hr4,hr5,hr6⟩:=hv;have HX2:Hid (LosOk w.heap.size wn (L++[r]) (xs++[x])):=Hi (HLX.out.2.snoc hP2.2 hp HP.out.2.size ⟨hr1,hr2,hr3,hr4,hr5⟩ hr6);clear hr1 hr2 hr3 hr4 hr5 hr6;have hlo:=HO.out.lt;have HO2:Hid (SlOwn lor 34 148 wn w.heap.size (.slice a2 i c2) L):=Hi (HO.out.mod hP2.2 (fun g hg e=>by have:=(hlo g hg).1;omega));have HP2:Hid (RdP p a l c k2 w wn):=Hi ⟨hP2.1,HP.out.2.trans hP2.2⟩;have HM2:Hid (pAll (pLook l) l k=pMore (xs++[x]) (pRep (pLook l) (n-(i+1)) k2)):=Hi (by rw[HM.out,show n-i=(n-(i+1))+1 by omega];exact pMore_step xs hres);clear hB hR hlo hres hP2;obtain⟨w5,rfl⟩:∃w5:World,w5=wn:=⟨_,rfl⟩;(try simp only[zL]);(refine sq_new (by simp only[zK];rfl) (by rfl) rfl ?hx4 (bsLoR r _) (fun q2 wn gq2 kq2 mq2=> ?n4);(case hx4=>(simp only[List.map_toArray,List.map_cons,List.map_nil,zM];(try rfl)));try simp only[zL]);have hO2w:=HO2.out.mod0 mq2;obtain⟨v6,w6,hap,hO6,m6,hn6⟩:=SlOwn.append lookupT (c:=1) (q:=[r]) (HO2.out.mod0 mq2) (SlAt.one kq2 r rfl (lor_size2 r)) (by rw[HLi.out];simp only[List.length_singleton];omega) (by decide) (Nat.le_trans HP2.out.2.size mq2.size) 49;obtain⟨a6,c6,rfl,-,-⟩:=hO6.at lookupT;have hL6:(L++[r]).length=i+1:=by rw[List.length_append,HLi.out];rfl
    rw[hL6]at hap hO6;have hlo:=HO2.out.lt;have m56:Mod (fun i=>i=p) w w6:=(HP2.out.2.then0 mq2).then m6 (fun j hj e=>by have:=(hlo j e).1;omega);have kp6:=m6.at (mq2.at0 HP2.out.1.1) (fun e=>by have:=(hlo p e).1;omega);have hown:=own_blk2 hO2w;have HX6:Hid (LosOk w.heap.size w6 (L++[r]) (xs++[x])):=Hi ((HX2.out.mod mq2 (fun _ _ _ _ e=>e)).mod m6 (fun g hg hg2 hC e=>by
     obtain⟨C,hC⟩:=hC;obtain⟨cur,hk⟩:=hown g e;rw[hk]at hC;injection (Option.some.inj hC)with h1 h2
     exact absurd h2 (by decide)))
    clear hown hO2w;have HF:Hid (SlOwn lor 34 148 w6 w.heap.size (.slice a6 (i+1) c6) (L++[r])∧RdP p a l c k2 w w6∧(L++[r]).length=i+1):=Hi ⟨hO6,⟨⟨kp6,HRD.out.2.1.modB m56 HRD.out.2.2.2.2.2.1,HP2.out.1.2.2⟩,m56⟩,hL6⟩;clear hO6 hn6 kp6 hlo m56 m6 mq2 kq2 gq2 hL6;(refine sq_append (by simp only[zK];rfl) (by rfl) rfl ?hx5 ?hz5 hap ?n5;(case hx5=>simp only[zM];try rfl);(case hz5=>simp only[zM];try rfl);try simp only[zL]);refine Zq ?_;refine sq_nil ?_;go_wp2_with fail;go_roundw
    case rel=>exact⟨i+1,k2,c6,a6,L++[r],xs++[x],by omega,rfl,by go_num,Hi ⟨HF.out.2.2,HX6.out⟩,Hi HF.out.1,Hi HF.out.2.1,HM2⟩
    case measure=>simp[intOf];omega
   ·have hd:=Df hlt;obtain rfl:n=i:=by omega
    have HE:Hid (pAll (pLook l) l k= .ok (xs,ki)):=Hi (by rw[HM.out,Nat.sub_self,pRep,pMore,List.append_nil]);obtain⟨a5,c5,v2,e5,hcl,hnew⟩:=HO.out.clip lookupT;rw[HLi.out]at hcl;have HCL:=Hi hcl;have HF:Hid (StepP p a l c w (pAll (pLook l) l k) VLos (.returned v2) wr):=Hi (StepP.ok HE.out ⟨L,hnew,HLX.out.2⟩ HP.out);clear hcl hnew e5;go_wp2_with fail;go_at_call 149;refine(clipLr_c _ _ _ HCL.out).mono ?_;rintro e w6 ⟨rfl,rfl⟩;go_wp2_with fail;go_ret;exact HF.out
 ·have h4:StepP p a l c w (pAll (pLook l) l k) VLos (.panicked [stopE n]) w1:=StepP.err (by rw[pAll,h1]) hm
  first|exact h4|exact⟨rfl,h4⟩
end
theorem mx_wr {pre post:List Value} {k k':Key}:wr (mx pre k post) pre.length (kc k').toList=mx pre k' post:=by
 apply Array.toList_inj.1;have h1:(kc k').toList.length=32:=by rw[Array.length_toList,kc_size]
 rw[wr_list _ _ _ (by rw[mx_size,h1];omega),h1];have h2:(mx pre k post).toList=pre++(k.l.map bc++post):=rfl;have h3:(mx pre k' post).toList=pre++(k'.l.map bc++post):=rfl;have h4:(kc k').toList=k'.l.map bc:=rfl;rw[h2,h3,h4,List.take_left',List.append_assoc,←List.drop_drop,List.drop_left' rfl,List.drop_left' (by simp[k.h])];rfl
structure MsP where
 v0:Bool
 h0:UInt8
 h1:UInt8
 h2:UInt8
 ks:List Key
 rc:Key
 ins:List InP
 lks:List LoP
def pBind {α β:Type} (r:PR α) (f:α→Nat→PR β):PR β:=match r with
 | .ok (x,k)=>f x k
 | .error e=> .error e
theorem pBind_ok {α β:Type} {r:PR α} {f:α→Nat→PR β} {x:α} {k:Nat} (h:r= .ok (x,k)):pBind r f=f x k:=by subst h;rfl
theorem pBind_err {α β:Type} {r:PR α} {f:α→Nat→PR β} {e:Nat} (h:r= .error e):pBind r f= .error e:=by subst h;rfl
def pMsg (l:List UInt8) (k:Nat):PR MsP:=pBind (pByte l k) fun c k1=>if 128<c.toNat then .error 4 else
 pBind (if c.toNat=128 then pByte l k1 else .ok (c,k1)) fun h0 k2=>pBind (pByte l k2) fun h1 k3=>pBind (pByte l k3) fun h2 k4=>pBind (pAll (pKey l) l k4) fun ks k5=>pBind (pKey l k5) fun rc k6=>
 pBind (pAll (pInstr l) l k6) fun ins k7=>pBind (if c.toNat=128 then pAll (pLook l) l k7 else .ok ([],k7)) fun lks k8=> .ok (⟨decide (c.toNat=128),h0,h1,h2,ks,rc,ins,lks⟩,k8)
section
attribute [local go_sem↓] wlKey ldKey stKey
attribute [local go_sem] kc_ext kc_one kc_one0 kc_size zKey_size
def mgx (v0:Bool) (h0 h1 h2:UInt8) (ka:Option Addr) (kn kc':Nat) (rc:Key) (ia:Option Addr) (n1 c1:Nat) (la:Option Addr) (n2 c2:Nat):Array Value:=mx [.bool v0,u8v h0,u8v h1,u8v h2,.slice ka kn kc'] rc [.slice ia n1 c1,.slice la n2 c2]
def zMsg:Array Value:=mgx false 0 0 0 none 0 0 key0 none 0 0 none 0 0
theorem ldMsg (w:World) (b o:Nat):(Instr.loadAt 51 (.pointer (some ⟨b,o,none⟩))).run Tryz.prog w=
   match w.heap[b]? with
   |some (.cells cs _ _)=>if o+39≤cs.size then .ok (.agg (cs.extract o (o+39))) w else farL Tryz.prog w 51 b o
   |_=>farL Tryz.prog w 51 b o:=load_rule (d:=_) Tryz.underlying51 rfl (by kernel_rfl) w b o
theorem stMsg (w:World) (b o:Nat) (xs:Array Value):(Instr.storeAt 51 (.pointer (some ⟨b,o,none⟩)) (.agg xs)).run Tryz.prog w=
   match w.heap[b]? with
   |some (.cells cs U (0,0))=>
    if o+39≤cs.size∧xs.size=39∧xs.all (·.oneCell')=true then .ok () (setBlock w b (.cells (if o=0∧39=cs.size then xs else wr cs o xs.toList) U (0,0)))else farS Tryz.prog w 51 b o (.agg xs)
   |_=>farS Tryz.prog w 51 b o (.agg xs):=store_rule (by kernel_rfl) w b o xs
theorem wlMsg (dst:Option Tmp) (x:Operand) (ty:TypeId) (pos:String) (after:Array Edge) (g:Option (Nat×Bool)) (a:Act) (w:World) (K:Act→World→Prop) (Q:Exit→Act→World→Prop):
  Oper.wp Tryz.prog {dst:=dst,op:= .load 51 x,type:=ty,pos:=pos,after:=after,guard:=g} a w K Q=
   (match a.eval x with
   | .pointer (some ⟨b,o,none⟩)=>
    (match w.heap[b]? with
    |some (.cells cs _ _)=>if o+39≤cs.size then K (a.put dst (.agg (cs.extract o (o+39)))) w else farW Tryz.prog {dst:=dst,op:= .load 51 x,type:=ty,pos:=pos,after:=after,guard:=g} a w K Q
    |_=>farW Tryz.prog {dst:=dst,op:= .load 51 x,type:=ty,pos:=pos,after:=after,guard:=g} a w K Q)
   |_=>farW Tryz.prog {dst:=dst,op:= .load 51 x,type:=ty,pos:=pos,after:=after,guard:=g} a w K Q):=wp_load_rule (d:=_) Tryz.underlying51 rfl (by kernel_rfl) dst x ty pos after g a w K Q
theorem alMsg (w:World):(Instr.alloc 51 true (.tuple #[])).run Tryz.prog w= .ok (.pointer (some ⟨w.heap.size,0,none⟩)) (w.alloc (.cells zMsg 51)):=
 run_alloc_row (z:= .agg zMsg) (fun w=>by kernel_rfl) w
theorem mgx_v0 (v0:Bool) (h0 h1 h2:UInt8) (ka:Option Addr) (kn kc':Nat) (rc:Key) (ia:Option Addr) (n1 c1:Nat) (la:Option Addr) (n2 c2:Nat) (v:Bool):(mgx v0 h0 h1 h2 ka kn kc' rc ia n1 c1 la n2 c2).setIfInBounds 0 (.bool v)=mgx v h0 h1 h2 ka kn kc' rc ia n1 c1 la n2 c2:=mx_setpre (by simp) _
theorem mgx_h0 (v0:Bool) (h0 h1 h2:UInt8) (ka:Option Addr) (kn kc':Nat) (rc:Key) (ia:Option Addr) (n1 c1:Nat) (la:Option Addr) (n2 c2:Nat) (v:UInt8):(mgx v0 h0 h1 h2 ka kn kc' rc ia n1 c1 la n2 c2).setIfInBounds 1 (.int .u8 (v.toNat:Int))=mgx v0 v h1 h2 ka kn kc' rc ia n1 c1 la n2 c2:=mx_setpre (by simp) _
theorem mgx_h1 (v0:Bool) (h0 h1 h2:UInt8) (ka:Option Addr) (kn kc':Nat) (rc:Key) (ia:Option Addr) (n1 c1:Nat) (la:Option Addr) (n2 c2:Nat) (v:UInt8):(mgx v0 h0 h1 h2 ka kn kc' rc ia n1 c1 la n2 c2).setIfInBounds 2 (.int .u8 (v.toNat:Int))=mgx v0 h0 v h2 ka kn kc' rc ia n1 c1 la n2 c2:=mx_setpre (by simp) _
theorem mgx_h2 (v0:Bool) (h0 h1 h2:UInt8) (ka:Option Addr) (kn kc':Nat) (rc:Key) (ia:Option Addr) (n1 c1:Nat) (la:Option Addr) (n2 c2:Nat) (v:UInt8):(mgx v0 h0 h1 h2 ka kn kc' rc ia n1 c1 la n2 c2).setIfInBounds 3 (.int .u8 (v.toNat:Int))=mgx v0 h0 h1 v ka kn kc' rc ia n1 c1 la n2 c2:=mx_setpre (by simp) _
theorem mgx_ks (v0:Bool) (h0 h1 h2:UInt8) (ka:Option Addr) (kn kc':Nat) (rc:Key) (ia:Option Addr) (n1 c1:Nat) (la:Option Addr) (n2 c2:Nat) (a':Option Addr) (n' c':Nat):(mgx v0 h0 h1 h2 ka kn kc' rc ia n1 c1 la n2 c2).setIfInBounds 4 (.slice a' n' c')=mgx v0 h0 h1 h2 a' n' c' rc ia n1 c1 la n2 c2:=mx_setpre (by simp) _
theorem mgx_rc (v0:Bool) (h0 h1 h2:UInt8) (ka:Option Addr) (kn kc':Nat) (rc:Key) (ia:Option Addr) (n1 c1:Nat) (la:Option Addr) (n2 c2:Nat) (v:Key):wr (mgx v0 h0 h1 h2 ka kn kc' rc ia n1 c1 la n2 c2) 5 (kc v).toList=mgx v0 h0 h1 h2 ka kn kc' v ia n1 c1 la n2 c2:=mx_wr
theorem mgx_ins (v0:Bool) (h0 h1 h2:UInt8) (ka:Option Addr) (kn kc':Nat) (rc:Key) (ia:Option Addr) (n1 c1:Nat) (la:Option Addr) (n2 c2:Nat) (a':Option Addr) (n' c':Nat):(mgx v0 h0 h1 h2 ka kn kc' rc ia n1 c1 la n2 c2).setIfInBounds 37 (.slice a' n' c')=mgx v0 h0 h1 h2 ka kn kc' rc a' n' c' la n2 c2:=mx_setpost (pre:=[.bool v0,u8v h0,u8v h1,u8v h2,.slice ka kn kc']) 0 _
theorem mgx_lks (v0:Bool) (h0 h1 h2:UInt8) (ka:Option Addr) (kn kc':Nat) (rc:Key) (ia:Option Addr) (n1 c1:Nat) (la:Option Addr) (n2 c2:Nat) (a':Option Addr) (n' c':Nat):(mgx v0 h0 h1 h2 ka kn kc' rc ia n1 c1 la n2 c2).setIfInBounds 38 (.slice a' n' c')=mgx v0 h0 h1 h2 ka kn kc' rc ia n1 c1 a' n' c':=mx_setpost (pre:=[.bool v0,u8v h0,u8v h1,u8v h2,.slice ka kn kc']) 1 _
theorem mgx_size (v0:Bool) (h0 h1 h2:UInt8) (ka:Option Addr) (kn kc':Nat) (rc:Key) (ia:Option Addr) (n1 c1:Nat) (la:Option Addr) (n2 c2:Nat):(mgx v0 h0 h1 h2 ka kn kc' rc ia n1 c1 la n2 c2).size=39:=mx_size _ _ _
theorem mgx_ext (v0:Bool) (h0 h1 h2:UInt8) (ka:Option Addr) (kn kc':Nat) (rc:Key) (ia:Option Addr) (n1 c1:Nat) (la:Option Addr) (n2 c2:Nat):(mgx v0 h0 h1 h2 ka kn kc' rc ia n1 c1 la n2 c2).extract 0 39=mgx v0 h0 h1 h2 ka kn kc' rc ia n1 c1 la n2 c2:=mx_full rfl
theorem mgx_one (v0:Bool) (h0 h1 h2:UInt8) (ka:Option Addr) (kn kc':Nat) (rc:Key) (ia:Option Addr) (n1 c1:Nat) (la:Option Addr) (n2 c2:Nat):(mgx v0 h0 h1 h2 ka kn kc' rc ia n1 c1 la n2 c2).all (·.oneCell')=true:=mx_one rfl rfl
theorem mgx_one0 (v0:Bool) (h0 h1 h2:UInt8) (ka:Option Addr) (kn kc':Nat) (rc:Key) (ia:Option Addr) (n1 c1:Nat) (la:Option Addr) (n2 c2:Nat):(mgx v0 h0 h1 h2 ka kn kc' rc ia n1 c1 la n2 c2).all (·.oneCell') 0 39=true:=all_of (mgx_size ..) (mgx_one ..)
theorem mg0 (v0:Bool) (h0 h1 h2:UInt8) (ka:Option Addr) (kn kc':Nat) (rc:Key) (ia:Option Addr) (n1 c1:Nat) (la:Option Addr) (n2 c2:Nat):(mgx v0 h0 h1 h2 ka kn kc' rc ia n1 c1 la n2 c2)[0]? =some (.bool v0):=mx_pre (by simp)
theorem mg1 (v0:Bool) (h0 h1 h2:UInt8) (ka:Option Addr) (kn kc':Nat) (rc:Key) (ia:Option Addr) (n1 c1:Nat) (la:Option Addr) (n2 c2:Nat):(mgx v0 h0 h1 h2 ka kn kc' rc ia n1 c1 la n2 c2)[1]? =some (u8v h0):=mx_pre (by simp)
theorem mg2 (v0:Bool) (h0 h1 h2:UInt8) (ka:Option Addr) (kn kc':Nat) (rc:Key) (ia:Option Addr) (n1 c1:Nat) (la:Option Addr) (n2 c2:Nat):(mgx v0 h0 h1 h2 ka kn kc' rc ia n1 c1 la n2 c2)[2]? =some (u8v h1):=mx_pre (by simp)
theorem mg3 (v0:Bool) (h0 h1 h2:UInt8) (ka:Option Addr) (kn kc':Nat) (rc:Key) (ia:Option Addr) (n1 c1:Nat) (la:Option Addr) (n2 c2:Nat):(mgx v0 h0 h1 h2 ka kn kc' rc ia n1 c1 la n2 c2)[3]? =some (u8v h2):=mx_pre (by simp)
theorem mg4 (v0:Bool) (h0 h1 h2:UInt8) (ka:Option Addr) (kn kc':Nat) (rc:Key) (ia:Option Addr) (n1 c1:Nat) (la:Option Addr) (n2 c2:Nat):(mgx v0 h0 h1 h2 ka kn kc' rc ia n1 c1 la n2 c2)[4]? =some (.slice ka kn kc'):=mx_pre (by simp)
theorem mg37 (v0:Bool) (h0 h1 h2:UInt8) (ka:Option Addr) (kn kc':Nat) (rc:Key) (ia:Option Addr) (n1 c1:Nat) (la:Option Addr) (n2 c2:Nat):(mgx v0 h0 h1 h2 ka kn kc' rc ia n1 c1 la n2 c2)[37]? =some (.slice ia n1 c1):=mx_post (pre:=[.bool v0,u8v h0,u8v h1,u8v h2,.slice ka kn kc']) 0
theorem mg38 (v0:Bool) (h0 h1 h2:UInt8) (ka:Option Addr) (kn kc':Nat) (rc:Key) (ia:Option Addr) (n1 c1:Nat) (la:Option Addr) (n2 c2:Nat):(mgx v0 h0 h1 h2 ka kn kc' rc ia n1 c1 la n2 c2)[38]? =some (.slice la n2 c2):=mx_post (pre:=[.bool v0,u8v h0,u8v h1,u8v h2,.slice ka kn kc']) 1
theorem stHs (w:World) (b o:Nat) (xs:Array Value):(Instr.storeAt 47 (.pointer (some ⟨b,o,none⟩)) (.agg xs)).run Tryz.prog w=
   match w.heap[b]? with
   |some (.cells cs U (0,0))=>
    if o+32≤cs.size∧xs.size=32∧xs.all (·.oneCell')=true then .ok () (setBlock w b (.cells (if o=0∧32=cs.size then xs else wr cs o xs.toList) U (0,0)))else farS Tryz.prog w 47 b o (.agg xs)
   |_=>farS Tryz.prog w 47 b o (.agg xs):=store_rule (by kernel_rfl) w b o xs
theorem ldMgx {wq:World} {p2:Nat} {v0:Bool} {h0 h1 h2:UInt8} {ka:Option Addr} {kn kc':Nat} {rc:Key} {ia:Option Addr} {n1 c1:Nat} {la:Option Addr} {n2 c2:Nat} {U:TypeId} {fr:Nat×Nat} (h:wq.heap[p2]? =some (.cells (mgx v0 h0 h1 h2 ka kn kc' rc ia n1 c1 la n2 c2) U fr)):(Instr.loadAt 51 (.pointer (some ⟨p2,0,none⟩))).run Tryz.prog wq= .ok (.agg (mgx v0 h0 h1 h2 ka kn kc' rc ia n1 c1 la n2 c2)) wq:=by
 rw[ldMsg,h];simp[mgx_size,mgx_ext]
end
section
attribute [local go_sem↓] wlKey ldKey stKey wlMsg ldMsg stMsg
attribute [local go_sem] kc_ext kc_one kc_one0 kc_size zKey_size
attribute [local go_sem↓] stHs
attribute [local go_sem] mgx_size mgx_ext mgx_one mgx_one0 mg0 mg1 mg2 mg3 mg4 mg37 mg38
theorem NewS.modP {α:Type} {f:α→Array Value} {n:Nat} {E:TypeId} {b q:Nat} {w w':World} {v:Value} {l:List α} (h:NewS f n E b w v l) (hm:Mod (fun i=>i=q) w w') (hq:q<b):NewS f n E b w' v l:=
 h.mod hm (fun g hg e=>by have:=(h.lt g hg).1;omega)
theorem In1.base {b b':Nat} {w:World} {r:InR} {x:InP} (h:In1 b w r x) (hb:b'≤b):In1 b' w r x:=⟨h.1,h.2.1,h.2.2.1,h.2.2.2.1.base hb,h.2.2.2.2.base hb⟩
theorem Lo1.base {b b':Nat} {w:World} {r:LoR} {x:LoP} (h:Lo1 b w r x) (hb:b'≤b):Lo1 b' w r x:=⟨h.1,h.2.1,h.2.2.1,h.2.2.2.1.base hb,h.2.2.2.2.base hb⟩
theorem All2.imp {α β:Type} {R S:α→β→Prop} {l:List α} {m:List β} (h:All2 R l m) (hi:∀x y,R x y→S x y):All2 S l m:=by
 induction h with
 |nil=>exact .nil
 |cons hx _ ih=>exact .cons (hi _ _ hx) ih
theorem InsOk.base {b b':Nat} {w:World} {L:List InR} {xs:List InP} (h:InsOk b w L xs) (hb:b'≤b):InsOk b' w L xs:=
 ⟨h.1.imp (fun _ _ h=>h.base hb),h.2.1,fun g hg=>⟨Nat.le_trans hb (h.2.2 g hg).1,(h.2.2 g hg).2⟩⟩
theorem LosOk.base {b b':Nat} {w:World} {L:List LoR} {xs:List LoP} (h:LosOk b w L xs) (hb:b'≤b):LosOk b' w L xs:=
 ⟨h.1.imp (fun _ _ h=>h.base hb),h.2.1,fun g hg=>⟨Nat.le_trans hb (h.2.2 g hg).1,(h.2.2 g hg).2⟩⟩
theorem InsOk.modP {b q:Nat} {w w':World} {L:List InR} {xs:List InP} (h:InsOk b w L xs) (hm:Mod (fun i=>i=q) w w') (hq:q<b):InsOk b w' L xs:=h.mod hm (fun g hg _ _ e=>by omega)
theorem LosOk.modP {b q:Nat} {w w':World} {L:List LoR} {xs:List LoP} (h:LosOk b w L xs) (hm:Mod (fun i=>i=q) w w') (hq:q<b):LosOk b w' L xs:=h.mod hm (fun g hg _ _ e=>by omega)
def VMsg (b:Nat) (w:World) (v:Value) (x:MsP):Prop:=∃(ka ia la:Option Addr) (L:List InR) (M:List LoR),v= .agg (mgx x.v0 x.h0 x.h1 x.h2 ka x.ks.length x.ks.length x.rc ia L.length L.length la M.length M.length)∧NewS kc 32 110 b w (.slice ka x.ks.length x.ks.length) x.ks∧NewS inr 3 146 b w (.slice ia L.length L.length) L∧InsOk b w L x.ins∧NewS lor 34 148 b w (.slice la M.length M.length) M∧LosOk b w M x.lks∧∀g∈insB L,∀h∈losB M,g<h
theorem rmsg_c {p:Nat} {a:Option Addr} {l:List UInt8} {c k:Nat} (w:World) (h:RdA p a l c k w):
  Calls Tryz.prog 123 #[pV p] w fun e w'=>StepP p a l c w (pMsg l k) VMsg e w':=by
 have hp:=Ls h.1;have HRD:=Hi h;clear h;go_enter Tryz.func123,Tryz.ntmps123;go_upto_region 0 with fail;refine ZP0 [3] ?_;refine Za alMsg fun p2 hp2=> ?_;refine TD.nil (fun w1 hr=> ?_);obtain⟨gp2,kp2⟩:=hr.b p2;have m1:=hr.mod;clear hr;have h2p:p2≠p:=by omega
 replace kp2:w1.heap[p2]? =some (.cells (mgx false 0 0 0 none 0 0 key0 none 0 0 none 0 0) 51 (0,0)):=kp2;have HM:Hid (Mod (fun i=>i=p) w w1):=Hi (m1.mono (fun _ _ h=>h.elim));have HA:Hid (RdA p a l c k w1):=Hi (HRD.out.mod0 m1);have HE:Hid (pMsg l k=pMsg l k):=Hi rfl;clear m1;go_upto_region 1 with fail;have hB:=rbyte_c w1 HA.out;refine region_seq 3 rfl ?_;simp only[List.range,List.range.loop];refine Zq ?_;refine ZC hB ?hout (fun vn wn hR=> ?hret) (fun ch wn hR=> ?hpan)
 case hout=>exact fun w' h=>h.not_out
 case hpan=>
  rcases hR.cases with⟨_,_,_,_,h,_⟩|⟨n0,hres,e1,hm⟩
  ·cases h
  ·cases e1;have h4:StepP p a l c w (pMsg l k) VMsg (.panicked [stopE n0]) wn:=StepP.err (pBind_err hres) (HM.out.trans hm)
   first|exact h4|exact⟨rfl,h4⟩|(simp only[Exit.then];exact h4)
 case hret=>
 rcases hR.cases with⟨q,k1,v1,hr1,e1,hv1,hP1⟩|⟨_,_,h,_⟩
 case inr=>cases h
 cases e1;subst hv1;have kp2:=hP1.2.at_ne kp2 h2p;have HE1:Hid (pMsg l k=_):=Hi (pBind_ok hr1);have HA:=Hi hP1.1;have HM:=Hi (HM.out.trans hP1.2);clear hB hR hr1 hP1;obtain⟨w2,rfl⟩:∃w2:World,w2=wn:=⟨_,rfl⟩;(try simp only[zL]);refine Zq ?_;refine sq_nil ?_;by_cases h128:128<q.toNat
 ·have hd:decide ((q.toNat:Int)≤128)=false:=Df (by omega);have hd2:decide (q.toNat≤128)=false:=Df (by omega);have H4:Hid (pMsg l k= .error 4):=Hi (HE1.out.trans (if_pos h128));go_upto_region 2 with fail;go_wp2_with fail;go_at_call 134;refine(must_f _ _).mono ?_;rintro e w3 ⟨rfl,rfl⟩;have h4:StepP p a l c w (pMsg l k) VMsg (.panicked [stopE 4]) _:=StepP.err H4.out HM.out
  first|exact h4|exact⟨rfl,h4⟩
 ·have hq256:=q.toNat_lt;have hd:decide ((q.toNat:Int)≤128)=true:=Dt (by omega);have hd2:decide (q.toNat≤128)=true:=Dt (by omega);go_upto_region 2 with fail;go_wp2_with fail;go_at_call 134;refine(must_t _ _).mono ?_;rintro e w3 ⟨rfl,rfl⟩;have HE2:Hid (pMsg l k=_):=Hi (HE1.out.trans (if_neg h128));clear HE1 hd hd2;obtain⟨z,hz⟩:∃z,((q.toNat:Int)==128)=z:=⟨_,rfl⟩;have hzq:decide (q.toNat=128)=z:=by
   rw[←hz,Bool.eq_iff_iff,decide_eq_true_iff,beq_iff_eq];omega
  have HZ:=Hi hzq;clear hzq
  go_upto_if 10 with fail
  go_cut [3]from 4 (fun s3 wx=>∃(h0:UInt8) (k2:Nat),s3= .int .u8 (h0.toNat:Int)∧Hid ((if q.toNat=128 then pByte l k1 else .ok (q,k1))= .ok (h0,k2))∧Hid (RdA p a l c k2 wx)∧Hid (Mod (fun i=>i=p) w wx)∧wx.heap[p2]? =some (.cells (mgx z 0 0 0 none 0 0 key0 none 0 0 none 0 0) 51 (0,0)))
  case first=>
   cases z with
   |false=>
    have HQ:Hid ((if q.toNat=128 then pByte l k1 else .ok (q,k1))= .ok (q,k1)):=Hi (if_neg (of_decide_eq_false HZ.out));go_wp2_with fail;go_meet
    case rel=>exact⟨q,k1,rfl,HQ,HA,HM,kp2⟩
   |true=>
    have HQ:Hid ((if q.toNat=128 then pByte l k1 else .ok (q,k1))=pByte l k1):=Hi (if_pos (of_decide_eq_true HZ.out));go_upto_region 4 with fail;have Lkp2:=Ls kp2;refine ZP0 [0,5] ?_;refine Zv ?_;refine Zi fun wE hr=> ?_;replace kp2:=hr.mod.at0 kp2;have mE:=hr.mod;refine ZS ?_;refine ZN kp2 fun w4 kp2 mS=> ?_;replace kp2:w4.heap[p2]? =some (.cells (mgx true 0 0 0 none 0 0 key0 none 0 0 none 0 0) 51 (0,0)):=by
     rw[kp2,mgx_v0]
    have m4:=(mE.mono (T:=fun i=>i=p2) (fun _ _ h=>h.elim)).trans mS;have HA:=Hi (RdA.modN HRD.out gp2 HA.out m4);have HM:=Hi (HM.out.then m4 (fun i hi e=>by omega));clear hr mE mS m4;go_upto_region 5 with fail;have hB:=rbyte_c w4 HA.out;refine region_seq 3 rfl ?_;simp only[List.range,List.range.loop];refine Zq ?_;refine ZC hB ?hout (fun vn wn hR=> ?hret) (fun ch wn hR=> ?hpan)
    case hout=>exact fun w' h=>h.not_out
    case hpan=>
     rcases hR.cases with⟨_,_,_,_,h,_⟩|⟨n0,hres,e1,hm⟩
     ·cases h
     ·cases e1;have h4:StepP p a l c w (pMsg l k) VMsg (.panicked [stopE n0]) wn:=StepP.err (HE2.out.trans (pBind_err (HQ.out.trans hres))) (HM.out.trans hm)
      first|exact h4|exact⟨rfl,h4⟩|(simp only[Exit.then];exact h4)
    case hret=>
    rcases hR.cases with⟨q2,k2,v1,hr1,e1,hv1,hP1⟩|⟨_,_,h,_⟩
    case inr=>cases h
    cases e1;subst hv1;have kp2:=hP1.2.at_ne kp2 h2p;have HF:=Hi (Ai (HQ.out.trans hr1) (Ai hP1.1 (HM.out.trans hP1.2)));clear hB hR hr1 hP1;(try simp only[zL]);refine Zq ?_;refine sq_nil ?_;go_wp2_with fail;go_meet
    case rel=>exact⟨q2,k2,rfl,Hi HF.out.1,Hi HF.out.2.1,Hi HF.out.2.2,kp2⟩
  case rest=>
  obtain⟨b0,k2,rfl,HQ,HA,HM,kp2⟩:=hcut;have HE3:Hid (pMsg l k=_):=Hi (HE2.out.trans (pBind_ok HQ.out));clear HE2 HQ;go_upto_region 6 with fail;have Lkp2:=Ls kp2;refine ZP0 [0,0,0,5] ?_
  iterate 3 refine Zv ?_
  refine Zi fun wE hr=> ?_;replace kp2:=hr.mod.at0 kp2;have mE:=hr.mod;refine ZS ?_;refine ZN kp2 fun w4 kp2 mS=> ?_;replace kp2:w4.heap[p2]? =some (.cells (mgx z b0 0 0 none 0 0 key0 none 0 0 none 0 0) 51 (0,0)):=by
   rw[kp2,mgx_h0]
  have m4:=(mE.mono (T:=fun i=>i=p2) (fun _ _ h=>h.elim)).trans mS;have HA:=Hi (RdA.modN HRD.out gp2 HA.out m4);have HM:=Hi (HM.out.then m4 (fun i hi e=>by omega));clear hr mE mS m4;go_upto_region 7 with fail;have Lkp2:=Ls kp2;refine ZP0 [0,5,0,0,6] ?_;refine Zv ?_;refine Zi fun w5 hr=> ?_;replace kp2:=hr.q kp2;have hB:=rbyte_c w5 (HA.out.mod0 hr.mod);have HM:=Hi (HM.out.then0 hr.mod);clear hr;(refine eff_callT (by simp only[zK];rfl) (by rfl) ?y16 hB ?hout (fun vn wn hR=> ?hret) (fun ch wn hR=> ?hpan);(case y16=>(go_simp;(try(first|with_reducible rfl|(constructor<;>with_reducible rfl))))))
  case hout=>exact fun w' h=>h.not_out
  case hpan=>
   rcases hR.cases with⟨_,_,_,_,h,_⟩|⟨n0,hres,e1,hm⟩
   ·cases h
   ·cases e1;have h4:StepP p a l c w (pMsg l k) VMsg (.panicked [stopE n0]) wn:=StepP.err (HE3.out.trans (pBind_err hres)) (HM.out.trans hm)
    first|exact h4|exact⟨rfl,h4⟩|(simp only[Exit.then];exact h4)
  case hret=>
  rcases hR.cases with⟨b1,k3,v1,hr1,e1,hv1,hP1⟩|⟨_,_,h,_⟩
  case inr=>cases h
  cases e1;subst hv1;have kp2:=hP1.2.at_ne kp2 h2p;have HE4:Hid (pMsg l k=_):=Hi (HE3.out.trans (pBind_ok hr1));have HA:=Hi hP1.1;have HM:=Hi (HM.out.trans hP1.2);clear hB hR hr1 hP1;(try simp only[zL]);refine Ze ?_;refine Ze ?_;refine Zz ?_;refine ZS ?_;refine ZN kp2 fun wn kp2 mS=> ?_;replace kp2:wn.heap[p2]? =some (.cells (mgx z b0 b1 0 none 0 0 key0 none 0 0 none 0 0) 51 (0,0)):=by
   rw[kp2,mgx_h1]
  have HA:=Hi (RdA.modN HRD.out gp2 HA.out mS);have HM:=Hi (HM.out.then mS (fun i hi e=>by omega));clear mS;go_upto_region 8 with fail;have Lkp2:=Ls kp2;refine ZP0 [0,5,0,0,6] ?_;refine Zv ?_;refine Zi fun w6 hr=> ?_;replace kp2:=hr.q kp2;have hB:=rbyte_c w6 (HA.out.mod0 hr.mod);have HM:=Hi (HM.out.then0 hr.mod);clear hr;(refine eff_callT (by simp only[zK];rfl) (by rfl) ?y22 hB ?hout (fun vn wn hR=> ?hret) (fun ch wn hR=> ?hpan);(case y22=>(go_simp;(try(first|with_reducible rfl|(constructor<;>with_reducible rfl))))))
  case hout=>exact fun w' h=>h.not_out
  case hpan=>
   rcases hR.cases with⟨_,_,_,_,h,_⟩|⟨n0,hres,e1,hm⟩
   ·cases h
   ·cases e1;have h4:StepP p a l c w (pMsg l k) VMsg (.panicked [stopE n0]) wn:=StepP.err (HE4.out.trans (pBind_err hres)) (HM.out.trans hm)
    first|exact h4|exact⟨rfl,h4⟩|(simp only[Exit.then];exact h4)
  case hret=>
  rcases hR.cases with⟨b2,k3,v1,hr1,e1,hv1,hP1⟩|⟨_,_,h,_⟩
  case inr=>cases h
  cases e1;subst hv1;have kp2:=hP1.2.at_ne kp2 h2p;have HE5:Hid (pMsg l k=_):=Hi (HE4.out.trans (pBind_ok hr1));have HA:=Hi hP1.1;have HM:=Hi (HM.out.trans hP1.2);clear hB hR hr1 hP1;(try simp only[zL]);refine Ze ?_;refine Ze ?_;refine Zz ?_;refine ZS ?_;refine ZN kp2 fun wn kp2 mS=> ?_;replace kp2:wn.heap[p2]? =some (.cells (mgx z b0 b1 b2 none 0 0 key0 none 0 0 none 0 0) 51 (0,0)):=by
   rw[kp2,mgx_h2]
  have HA:=Hi (RdA.modN HRD.out gp2 HA.out mS);have HM:=Hi (HM.out.then mS (fun i hi e=>by omega));clear mS;have hmf:∀(fn:Fn) (first cap:Array Value) (w:World),(Instr.makeFunc fn first cap).run Tryz.prog w= .ok (.func fn first cap) w:=fun _ _ _ _=>rfl;go_upto_region 9 with fail;have Lkp2:=Ls kp2;refine ZP0 [0,0,0,5,0,6] ?_
  iterate 3 refine Zv ?_
  refine Zi fun w7 hr=> ?_;replace kp2:=hr.q kp2;have hB:=allK_c w7 (HA.out.mod0 hr.mod);have HM:=Hi (HM.out.then0 hr.mod);have hp27:=Ls kp2;have hw7:=HM.out.size;clear hr;(refine eff_callT (by simp only[zK];rfl) (by rfl) ?y30 hB ?hout (fun vn wn hR=> ?hret) (fun ch wn hR=> ?hpan);(case y30=>(go_simp;(try(first|with_reducible rfl|(constructor<;>with_reducible rfl))))))
  case hout=>exact fun w' h=>h.not_out
  case hpan=>
   rcases hR.cases with⟨_,_,_,_,h,_⟩|⟨n0,hres,e1,hm⟩
   ·cases h
   ·cases e1;have h4:StepP p a l c w (pMsg l k) VMsg (.panicked [stopE n0]) wn:=StepP.err (HE5.out.trans (pBind_err hres)) (HM.out.trans hm)
    first|exact h4|exact⟨rfl,h4⟩|(simp only[Exit.then];exact h4)
  case hret=>
  rcases hR.cases with⟨ks,k5,v1,hr1,e1,hv1,hP1⟩|⟨_,_,h,_⟩
  case inr=>cases h
  cases e1;obtain⟨ka,rfl⟩:=NewS.form2 hv1;have kp2:=hP1.2.at_ne kp2 h2p;have HE6:Hid (pMsg l k=_):=Hi (HE5.out.trans (pBind_ok hr1));have HA:=Hi hP1.1;have HM:=Hi (HM.out.trans hP1.2);have HKS:Hid (NewS kc 32 110 (p2+1) wn (.slice ka ks.length ks.length) ks):=Hi (hv1.base hp27);clear hv1 hB hR hr1 hP1;(try simp only[zL]);refine Ze ?_;refine Zz ?_;refine ZS ?_;refine ZN kp2 fun wn kp2 mS=> ?_;replace kp2:wn.heap[p2]? =some (.cells (mgx z b0 b1 b2 ka ks.length ks.length key0 none 0 0 none 0 0) 51 (0,0)):=by
   rw[kp2,mgx_ks]
  have HA:=Hi (RdA.modN HRD.out gp2 HA.out mS);have HM:=Hi (HM.out.then mS (fun i hi e=>by omega));have HKS:=Hi (HKS.out.modP mS (by omega));clear mS hp27 hw7;obtain⟨wa,rfl⟩:∃wa:World,wa=wn:=⟨_,rfl⟩;go_upto_region 10 with fail;have Lkp2:=Ls kp2;refine ZP0 [0,5,0,6] ?_;refine Zv ?_;refine Zi fun w8 hr=> ?_;replace kp2:=hr.q kp2;have hB:=rkey_c w8 (HA.out.mod0 hr.mod);have HM:=Hi (HM.out.then0 hr.mod);have HKS:=Hi (HKS.out.mod0 hr.mod);clear hr;(refine eff_callT (by simp only[zK];rfl) (by rfl) ?y35 hB ?hout (fun vn wn hR=> ?hret) (fun ch wn hR=> ?hpan);(case y35=>(go_simp;(try(first|with_reducible rfl|(constructor<;>with_reducible rfl))))))
  case hout=>exact fun w' h=>h.not_out
  case hpan=>
   rcases hR.cases with⟨_,_,_,_,h,_⟩|⟨n0,hres,e1,hm⟩
   ·cases h
   ·cases e1;have h4:StepP p a l c w (pMsg l k) VMsg (.panicked [stopE n0]) wn:=StepP.err (HE6.out.trans (pBind_err hres)) (HM.out.trans hm)
    first|exact h4|exact⟨rfl,h4⟩|(simp only[Exit.then];exact h4)
  case hret=>
  rcases hR.cases with⟨rc,k6,v1,hr1,e1,hv1,hP1⟩|⟨_,_,h,_⟩
  case inr=>cases h
  cases e1;subst hv1;have kp2:=hP1.2.at_ne kp2 h2p;have HE7:Hid (pMsg l k=_):=Hi (HE6.out.trans (pBind_ok hr1));have HA:=Hi hP1.1;have HM:=Hi (HM.out.trans hP1.2);have HKS:=Hi (HKS.out.modP hP1.2 (by omega));clear hB hR hr1 hP1;(try simp only[zL]);refine Ze ?_;refine Zz ?_;refine ZS ?_;refine ZN kp2 fun wn kp2 mS=> ?_;replace kp2:wn.heap[p2]? =some (.cells (mgx z b0 b1 b2 ka ks.length ks.length rc none 0 0 none 0 0) 51 (0,0)):=by
   rw[kp2]
   first|rw[mgx_rc]|simp[mgx_rc]
  have HA:=Hi (RdA.modN HRD.out gp2 HA.out mS);have HM:=Hi (HM.out.then mS (fun i hi e=>by omega));have HKS:=Hi (HKS.out.modP mS (by omega));clear mS;obtain⟨wb,rfl⟩:∃wb:World,wb=wn:=⟨_,rfl⟩;go_upto_region 11 with fail;have Lkp2:=Ls kp2;refine ZP0 [0,0,0,5,0,6] ?_
  iterate 3 refine Zv ?_
  refine Zi fun w9 hr=> ?_;replace kp2:=hr.q kp2;have hB:=allI_c w9 (HA.out.mod0 hr.mod);have HM:=Hi (HM.out.then0 hr.mod);have HKS:=Hi (HKS.out.mod0 hr.mod);have hp29:=Ls kp2;clear hr;(refine eff_callT (by simp only[zK];rfl) (by rfl) ?y42 hB ?hout (fun vn wn hR=> ?hret) (fun ch wn hR=> ?hpan);(case y42=>(go_simp;(try(first|with_reducible rfl|(constructor<;>with_reducible rfl))))))
  case hout=>exact fun w' h=>h.not_out
  case hpan=>
   rcases hR.cases with⟨_,_,_,_,h,_⟩|⟨n0,hres,e1,hm⟩
   ·cases h
   ·cases e1;have h4:StepP p a l c w (pMsg l k) VMsg (.panicked [stopE n0]) wn:=StepP.err (HE7.out.trans (pBind_err hres)) (HM.out.trans hm)
    first|exact h4|exact⟨rfl,h4⟩|(simp only[Exit.then];exact h4)
  case hret=>
  rcases hR.cases with⟨ins,k7,v1,hr1,e1,hv1,hP1⟩|⟨_,_,h,_⟩
  case inr=>cases h
  cases e1;obtain⟨L,hv1,hio⟩:=hv1;obtain⟨ia,rfl⟩:=NewS.form2 hv1;have kp2:=hP1.2.at_ne kp2 h2p;have HE8:Hid (pMsg l k=_):=Hi (HE7.out.trans (pBind_ok hr1));have HA:=Hi hP1.1;have HM:=Hi (HM.out.trans hP1.2);have HKS:=Hi (HKS.out.modP hP1.2 (by omega));have HIS:Hid (NewS inr 3 146 (p2+1) wn (.slice ia L.length L.length) L∧InsOk (p2+1) wn L ins):=Hi ⟨hv1.base hp29,hio.base hp29⟩;clear hv1 hio hB hR hr1 hP1;(try simp only[zL]);refine Ze ?_;refine Zz ?_;refine ZS ?_;refine ZN kp2 fun wn kp2 mS=> ?_;replace kp2:wn.heap[p2]? =some (.cells (mgx z b0 b1 b2 ka ks.length ks.length rc ia L.length L.length none 0 0) 51 (0,0)):=by
   rw[kp2,mgx_ins]
  have HA:=Hi (RdA.modN HRD.out gp2 HA.out mS);have HM:=Hi (HM.out.then mS (fun i hi e=>by omega));have HKS:=Hi (HKS.out.modP mS (by omega));have HIS:=Hi (Ai (HIS.out.1.modP mS (by omega)) (HIS.out.2.modP mS (by omega)));clear mS hp29;obtain⟨wc,rfl⟩:∃wc:World,wc=wn:=⟨_,rfl⟩;cases z with
  |false=>
   have HE9:Hid (pMsg l k= .ok (⟨false,b0,b1,b2,ks,rc,ins,[]⟩,k7)):=Hi (by rw[HE8.out,if_neg (of_decide_eq_false HZ.out),HZ.out];rfl);go_upto_region 14 with fail;have Lkp2:=Ls kp2;refine ZP0 [1,5] ?_;(refine TD.load (v:= ?v45) (p:= ?p45) (Mod.refl _ _) (by simp only[zK];rfl) rfl (by rfl) rfl ?hx45 (fun wq hSq=> ?y45) ?n45;(case hx45=>simp only[zM];try rfl);(case y45=>(have kp2q:=hSq.at kp2 (fun h=>h);exact(ldMgx kp2q)));try simp only[zL]);refine Zi fun wE hr=> ?_;replace kp2:=hr.mod.at0 kp2;have mE:=hr.mod;refine ZS ?_;refine ZN kp2 fun w10 kp2 mS=> ?_;(try simp only[Array.setIfInBounds,zL]at kp2);have m5:=(mE.mono (T:=fun i=>i=p2) (fun _ _ h=>h.elim)).trans mS;clear hr mE mS;have HF:Hid (StepP p a l c w (pMsg l k) VMsg (.returned (.agg (mgx false b0 b1 b2 ka ks.length ks.length rc ia L.length L.length none 0 0))) w10):=Hi (StepP.ok HE9.out ⟨ka,ia,none,L,[],rfl,(HKS.out.modP m5 (by omega)).base (by omega),(HIS.out.1.modP m5 (by omega)).base (by omega),(HIS.out.2.modP m5 (by omega)).base (by omega),.inl ⟨rfl,rfl⟩,LosOk.nil _ _,fun g _ h hh=>nomatch hh⟩ ⟨RdA.modN HRD.out gp2 HA.out m5,HM.out.then m5 (fun i hi e=>by omega)⟩);clear m5;go_wp2_with fail;refine bodyPost_ret (results_cell1 (v:= .agg (mgx false b0 b1 b2 ka ks.length ks.length rc ia L.length L.length none 0 0)) rfl rfl (ldMgx kp2)) rfl ?_;exact HF.out
  |true=>
   have HE9:Hid (pMsg l k=pBind (pAll (pLook l) l k7) fun lks k8=> .ok (⟨true,b0,b1,b2,ks,rc,ins,lks⟩,k8)):=Hi (by rw[HE8.out,if_pos (of_decide_eq_true HZ.out),HZ.out]);go_upto_region 13 with fail;have Lkp2:=Ls kp2;refine ZP0 [0,0,0,5,0,6] ?_
   iterate 3 refine Zv ?_
   refine Zi fun w9 hr=> ?_;replace kp2:=hr.q kp2;have hB:=allL_c w9 (HA.out.mod0 hr.mod);have HM:=Hi (HM.out.then0 hr.mod);have HKS:=Hi (HKS.out.mod0 hr.mod);have HIS:=Hi (Ai (HIS.out.1.mod0 hr.mod) (HIS.out.2.mod hr.mod (fun _ _ _ _ h=>h)));have hp29:=Ls kp2;clear hr;(refine eff_callT (by simp only[zK];rfl) (by rfl) ?y51 hB ?hout (fun vn wn hR=> ?hret) (fun ch wn hR=> ?hpan);(case y51=>(go_simp;(try(first|with_reducible rfl|(constructor<;>with_reducible rfl))))))
   case hout=>exact fun w' h=>h.not_out
   case hpan=>
    rcases hR.cases with⟨_,_,_,_,h,_⟩|⟨n0,hres,e1,hm⟩
    ·cases h
    ·cases e1;have h4:StepP p a l c w (pMsg l k) VMsg (.panicked [stopE n0]) wn:=StepP.err (HE9.out.trans (pBind_err hres)) (HM.out.trans hm)
     first|exact h4|exact⟨rfl,h4⟩|(simp only[Exit.then];exact h4)
   case hret=>
   rcases hR.cases with⟨lks,k8,v1,hr1,e1,hv1,hP1⟩|⟨_,_,h,_⟩
   case inr=>cases h
   cases e1;obtain⟨M,hv1,hlo⟩:=hv1;obtain⟨la,rfl⟩:=NewS.form2 hv1;have kp2:=hP1.2.at_ne kp2 h2p;have HE10:Hid (pMsg l k=_):=Hi (HE9.out.trans (pBind_ok hr1));have HA:=Hi hP1.1;have HM:=Hi (HM.out.trans hP1.2);have hord:∀g∈insB L,∀h∈losB M,g<h:=fun g hg h hh=>Nat.lt_of_lt_of_le (HIS.out.2.2.2 g hg).2.1 (hlo.2.2 h hh).1;have HLS:Hid (NewS lor 34 148 (p2+1) wn (.slice la M.length M.length) M∧LosOk (p2+1) wn M lks∧∀g∈insB L,∀h∈losB M,g<h):=Hi ⟨hv1.base hp29,hlo.base hp29,hord⟩;have HKS:=Hi (HKS.out.modP hP1.2 (by omega));have HIS:=Hi (Ai (HIS.out.1.modP hP1.2 (by omega)) (HIS.out.2.modP hP1.2 (by omega)));clear hv1 hlo hB hR hr1 hP1 hord;(try simp only[zL]);refine Ze ?_;refine Zz ?_;refine ZS ?_;refine ZN kp2 fun wn kp2 mS=> ?_;replace kp2:wn.heap[p2]? =some (.cells (mgx true b0 b1 b2 ka ks.length ks.length rc ia L.length L.length la M.length M.length) 51 (0,0)):=by
    rw[kp2,mgx_lks]
   have HA:=Hi (RdA.modN HRD.out gp2 HA.out mS);have HM:=Hi (HM.out.then mS (fun i hi e=>by omega));have HKS:=Hi (HKS.out.modP mS (by omega));have HIS:=Hi (Ai (HIS.out.1.modP mS (by omega)) (HIS.out.2.modP mS (by omega)));have HLS:=Hi (Ai (HLS.out.1.modP mS (by omega)) (Ai (HLS.out.2.1.modP mS (by omega)) HLS.out.2.2));clear mS hp29;obtain⟨wd,rfl⟩:∃wd:World,wd=wn:=⟨_,rfl⟩;go_upto_region 14 with fail;have Lkp2:=Ls kp2;refine ZP0 [1,5] ?_;(refine TD.load (v:= ?v54) (p:= ?p54) (Mod.refl _ _) (by simp only[zK];rfl) rfl (by rfl) rfl ?hx54 (fun wq hSq=> ?y54) ?n54;(case hx54=>simp only[zM];try rfl);(case y54=>(have kp2q:=hSq.at kp2 (fun h=>h);exact(ldMgx kp2q)));try simp only[zL]);refine Zi fun wE hr=> ?_;replace kp2:=hr.mod.at0 kp2;have mE:=hr.mod;refine ZS ?_;refine ZN kp2 fun w10 kp2 mS=> ?_;(try simp only[Array.setIfInBounds,zL]at kp2);have m5:=(mE.mono (T:=fun i=>i=p2) (fun _ _ h=>h.elim)).trans mS;clear hr mE mS;have HF:Hid (StepP p a l c w (pMsg l k) VMsg (.returned (.agg (mgx true b0 b1 b2 ka ks.length ks.length rc ia L.length L.length la M.length M.length))) w10):=Hi (StepP.ok HE10.out ⟨ka,ia,la,L,M,rfl,(HKS.out.modP m5 (by omega)).base (by omega),(HIS.out.1.modP m5 (by omega)).base (by omega),(HIS.out.2.modP m5 (by omega)).base (by omega),(HLS.out.1.modP m5 (by omega)).base (by omega),(HLS.out.2.1.modP m5 (by omega)).base (by omega),HLS.out.2.2⟩ ⟨RdA.modN HRD.out gp2 HA.out m5,HM.out.then m5 (fun i hi e=>by omega)⟩);clear m5;go_wp2_with fail;refine bodyPost_ret (results_cell1 (v:= .agg (mgx true b0 b1 b2 ka ks.length ks.length rc ia L.length L.length la M.length M.length)) rfl rfl (ldMgx kp2)) rfl ?_;exact HF.out
end
section
theorem find_born {es:Array MapEntry} {j:Nat} {e0:MapEntry} (hn:(es.toList.map (·.born)).Nodup) (h:es.toList[j]? =some e0):es.findIdx? (fun e=>((e.born:Nat):Int)==((e0.born:Nat):Int))=some j:=by
 rw[Array.findIdx?_eq_some_iff_getElem];have hj:j<es.size:=by simpa using(List.getElem?_eq_some_iff.1 h).1
 have he:es[j]=e0:=by
  have:=(List.getElem?_eq_some_iff.1 h).2;simpa using this
 refine⟨hj,by simp[he],fun i hi=> ?_⟩;intro e;have hi2:i<es.size:=by omega
 have e2:es[i].born=e0.born:=by
  have:=beq_iff_eq.1 e
  exact_mod_cast this
 rw[List.nodup_iff_pairwise_ne,List.pairwise_iff_getElem]at hn;have:=hn i j (by simpa using hi2) (by simpa using hj) hi;simp at this;exact this (by rw[e2,←he])
section
variable {κ ν:Type} [DecidableEq κ] {P:Program} {T K E:TypeId} {f:κ→Value} {g:ν→Value}
theorem MapIs.entry {es:Array MapEntry} {clock:Nat} {m:List (κ×ν)} (h:MapIs f g es clock m) (hk:KeyT P K f) (hT:P.underlying T=some (.map K E)) {z:ν} (hz:∀w,(zeroValue E).run P w= .ok (g z) w)
  (w:World) {b:Nat} (hb:w.heap[b]? =some (.map es clock)) (k:κ):
  ∃st es1 c1,(Instr.mapEntry T (.map (some b)) (f k)).run P w= .ok (.tuple #[g ((lkp k m).getD z),goInt st]) (setBlock w b (.map es1 c1))∧MapIs f g es1 c1 (put k ((lkp k m).getD z) m)∧
   ∀(w2:World) (x:ν),w2.heap[b]? =some (.map es1 c1)→∃es' c',(Instr.entryStore T (.map (some b)) (goInt st) (g x)).run P w2= .ok () (setBlock w2 b (.map es' c'))∧MapIs f g es' c' (put k x m):=by
 obtain⟨l,hl⟩:=hk.lit k;rcases h.find hk w k with⟨h1,h2⟩|⟨j,u,e,hm,he,hek,hev,h1,h2⟩
 ·refine⟨clock,es.push ⟨f k,g z,clock⟩,clock+1,?_,?_,fun w2 x hw2=>⟨es.push ⟨f k,g x,clock⟩,clock+1,?_,?_⟩⟩
  ·simp[Instr.mapEntry,run_underlying hT,MapKept.run_getObj_map hb,hk.law.check w _ hl,h2,h1,hz,MapKept.run_setObj_map _ hb,Result.andThen,setBlock]
  ·obtain⟨es',c',hr,M⟩:=h.update hk hT w hb k z;have e1:(Instr.mapUpdate T (.map (some b)) (f k) (g z)).run P w= .ok () (setBlock w b (.map (es.push ⟨f k,g z,clock⟩) (clock+1))):=by
    simp[Instr.mapUpdate,run_underlying hT,MapKept.run_getObj_map hb,hk.law.check w _ hl,h2,MapKept.run_setObj_map _ hb,Result.andThen,setBlock]
   rw[e1]at hr;have e2:=congrArg (fun r=>match r with| .ok _ w=>w.heap[b]? |_=>none) hr;simp only[heap_setBlock w _ (Ls hb)]at e2;cases e2;rw[h1];exact M
  ·have hidx:(es.push ⟨f k,g z,clock⟩).findIdx? (fun e=>((e.born:Nat):Int)==((clock:Nat):Int))=some es.size:=by
    have:=find_born (es:=es.push ⟨f k,g z,clock⟩) (j:=es.size) (e0:=⟨f k,g z,clock⟩) (by
     simp only[Array.toList_push,List.map_append,List.map_cons,List.map_nil];refine List.nodup_append.2 ⟨h.apart,by simp,fun a ha c hc e1=> ?_⟩;simp only[List.mem_singleton]at hc;obtain⟨x,hx,rfl⟩:=List.mem_map.1 ha;have:=h.lt x hx;omega) (by simp)
    exact this
   have hmod:(es.push ⟨f k,g z,clock⟩).modify es.size (fun e=> {e with val:=g x})=es.push ⟨f k,g x,clock⟩:=by
    apply Array.ext';rw[Array.toList_modify,Array.toList_push,Array.toList_push,←Array.length_toList,modify_at _ (e:=⟨f k,g z,clock⟩) (by simp)];simp
   simp[Instr.entryStore,MapKept.run_getObj_map hw2,asInt,asIntOf,goInt,hidx,hmod,MapKept.run_setObj_map _ hw2,Result.andThen,setBlock]
  ·obtain⟨es',c',hr,M⟩:=h.update hk hT w hb k x;have e1:(Instr.mapUpdate T (.map (some b)) (f k) (g x)).run P w= .ok () (setBlock w b (.map (es.push ⟨f k,g x,clock⟩) (clock+1))):=by
    simp[Instr.mapUpdate,run_underlying hT,MapKept.run_getObj_map hb,hk.law.check w _ hl,h2,MapKept.run_setObj_map _ hb,Result.andThen,setBlock]
   rw[e1]at hr;have e2:=congrArg (fun r=>match r with| .ok _ w=>w.heap[b]? |_=>none) hr;simp only[heap_setBlock w _ (Ls hb)]at e2;cases e2;exact M
 ·have hj:es[j]? =some e:=by simpa using he
  have hsame:es.modify j (fun e=> {e with key:=f k})=es:=by
   apply Array.ext';rw[Array.toList_modify,modify_at _ he];have:({e with key:=f k}:MapEntry)=e:=by rw[←hek]
   rw[this];exact set_same he
  refine⟨e.born,es,clock,?_,?_,fun w2 x hw2=>⟨es.modify j (fun e'=> {e' with key:=f k,val:=g x}),clock,?_,?_⟩⟩
  ·simp[Instr.mapEntry,run_underlying hT,MapKept.run_getObj_map hb,hk.law.check w _ hl,h2,hj,hek,hk.law.stays w hl,hsame,MapKept.run_setObj_map _ hb,Result.andThen,setBlock,h1]
  ·rw[h1,zE,put_at h.nodup hm,set_same hm];exact h
  ·have hidx:es.findIdx? (fun e'=>((e'.born:Nat):Int)==((e.born:Nat):Int))=some j:=find_born h.apart he;have hmod:es.modify j (fun e=> {e with val:=g x})=es.modify j (fun e'=> {e' with key:=f k,val:=g x}):=by
    apply Array.ext';rw[Array.toList_modify,Array.toList_modify,modify_at _ he,modify_at _ he,←hek]
   simp[Instr.entryStore,MapKept.run_getObj_map hw2,asInt,asIntOf,goInt,hidx,hmod,MapKept.run_setObj_map _ hw2,Result.andThen,setBlock]
  ·obtain⟨es',c',hr,M⟩:=h.update hk hT w hb k x;have e1:(Instr.mapUpdate T (.map (some b)) (f k) (g x)).run P w= .ok () (setBlock w b (.map (es.modify j (fun e'=> {e' with key:=f k,val:=g x})) clock)):=by
    simp[Instr.mapUpdate,run_underlying hT,MapKept.run_getObj_map hb,hk.law.check w _ hl,h2,hj,hek,hk.law.stays w hl,MapKept.run_setObj_map _ hb,Result.andThen,setBlock]
   rw[e1]at hr;have e2:=congrArg (fun r=>match r with| .ok _ w=>w.heap[b]? |_=>none) hr;simp only[heap_setBlock w _ (Ls hb)]at e2;cases e2;exact M
end
section
variable {P:Program} {ops:Array Oper}
theorem eff_entry {i:Nat} {a:Act} {o:Oper} {K:Act→World→Prop} {w w':World} {T:TypeId} {x y:Operand} {X Y v:Value} {Q:Exit→Act→World→Prop} (ho:ops[i]? =some o) (hw:Region.wanted o (yielded ops a.tmps)=true)
  (hop:o.op= .mapEntry T x y) (hx:a.eval x=X) (hy:a.eval y=Y) (hr:(Instr.mapEntry T X Y).run P w= .ok v w') (h:K (a.put o.dst v) w'):wpOp P ops Q i K a w:=
 eff_value ho hw (by subst hx;subst hy;simp[execOp,hop,hr,Result.andThen]) h
theorem eff_look {i:Nat} {a:Act} {o:Oper} {K:Act→World→Prop} {w w':World} {T:TypeId} {x y:Operand} {b:Bool} {X Y v:Value} {Q:Exit→Act→World→Prop} (ho:ops[i]? =some o) (hw:Region.wanted o (yielded ops a.tmps)=true)
  (hop:o.op= .lookup T x y b) (hx:a.eval x=X) (hy:a.eval y=Y) (hr:(Instr.lookup T X Y b).run P w= .ok v w') (h:K (a.put o.dst v) w'):wpOp P ops Q i K a w:=
 eff_value ho hw (by subst hx;subst hy;simp[execOp,hop,hr,Result.andThen]) h
theorem eff_estore {i:Nat} {a:Act} {o:Oper} {K:Act→World→Prop} {w w':World} {T:TypeId} {x y z:Operand} {X Y Z:Value} {Q:Exit→Act→World→Prop} (ho:ops[i]? =some o) (hw:Region.wanted o (yielded ops a.tmps)=true)
  (hop:o.op= .entryStore T x y z) (hx:a.eval x=X) (hy:a.eval y=Y) (hz:a.eval z=Z) (hr:(Instr.entryStore T X Y Z).run P w= .ok () w') (h:K (a.put o.dst undef) w'):wpOp P ops Q i K a w:=
 eff_skip ho hw (by subst hx;subst hy;subst hz;simp[execOp,hop,hr,Result.andThen]) h
theorem TE.mid_set {κ:Nat→Nat} {Q:Exit→Act→World→Prop} {r:List Nat} {a:Act} {w:World} {p:Nat} {o o':Obj} (hb:w.heap[p]? =some o) (h:∀w',w'.heap[p]? =some o'→Mod (fun i=>i=p) w w'→TE P ops Q κ r a w'):TE P ops Q κ r a (setBlock w p o'):=
 h _ (heap_setBlock w _ (Ls hb)) (mod_set w p o')
theorem TE.mid_setCell {κ:Nat→Nat} {Q:Exit→Act→World→Prop} {r:List Nat} {a:Act} {w:World} {p i:Nat} {cs:Array Value} {U:TypeId} {fr:Nat×Nat} {v:Value} (hb:w.heap[p]? =some (.cells cs U fr))
  (h:∀w',w'.heap[p]? =some (.cells (cs.setIfInBounds i v) U fr)→Mod (fun i=>i=p) w w'→TE P ops Q κ r a w'):TE P ops Q κ r a (w.setCell ⟨p,i,none⟩ v):=by
 rw[setCell_blk hb];exact TE.mid_set hb h
end
end
section
section
variable {P:Program} {ops:Array Oper} {Q:Exit→Act→World→Prop} {T0:Nat→Prop} {w0:World} {κ:Nat→Nat} {υ:Nat→List Tmp}
theorem TG.storeO {i:Nat} {r:List Nat} {a:Act} {B:Bx} {K:Land} {o:Oper} {T:TypeId} {x y:Operand} {X Y:Value} (K':Land) (hcl:Good K') (ho:ops[i]? =some o) (hk:κ i=6) (hw:Region.wanted o (yielded ops a.tmps)=true)
  (hd:o.dst=none) (hop:o.op= .store T x y) (hx:a.eval x=X) (hy:a.eval y=Y)
  (hr:∀T' w,K T' w→∃w',(Instr.storeAt T X Y).run P w= .ok () w'∧Mod T' w w'∧K' T' w')
  (h:Inh T0 w0 B K'→TG P ops Q T0 w0 κ υ r a B K'):TG P ops Q T0 w0 κ υ (i::r) a B K:=by
 refine TG.eff' (fun _=>K') ho hk hw (fun _=>hcl.cl) (fun T2 w k1 k2 k3 k4=> .inr (.inl ?_)) (fun v hI=>by rw[hd];exact h hI);obtain⟨w',h1,h2,h3⟩:=hr T2 w k1;refine⟨w',?_,h2,hcl.gr _ _ _ (fun _ h=> .inl h) h3⟩;subst hx;subst hy;simp[execOp,hop,h1]
end
end
section
attribute [local go_sem↓] wlKey ldKey stKey wlMsg ldMsg stMsg
attribute [local go_sem] kc_ext kc_one kc_one0 kc_size zKey_size mgx_size mgx_ext mgx_one mgx_one0
theorem alStop (w:World):(Instr.alloc 262 true (.tuple #[])).run Tryz.prog w= .ok (.pointer (some ⟨w.heap.size,0,none⟩)) (w.alloc (.cells #[.int .i64 0] 262)):=
 run_alloc_row (z:= .agg #[.int .i64 0]) (fun w=>by kernel_rfl) w
theorem zMsg_size:zMsg.size=39:=mgx_size ..
theorem zMsg_all:zMsg.all (·.oneCell')=true:=mgx_one ..
theorem zMsg_all0:zMsg.all (·.oneCell') 0 39=true:=mgx_one0 ..
attribute [local go_sem] zMsg_size zMsg_all zMsg_all0
theorem bMsg0 (w:World):(Instr.build 51 #[]).run Tryz.prog w= .ok (.agg zMsg) w:=by kernel_rfl
theorem taStop (n:Nat) (w:World):(Instr.typeAssert (.iface 262 (.agg #[.int .i64 (n:Int)])) 20 262 true).run Tryz.prog w= .ok (.tuple #[.agg #[.int .i64 (n:Int)],.bool true]) w:=by kernel_rfl
theorem c0_eta (c:Frame) (cs:List Frame) {u:FrameMode} (h:c.mode=u):(c::cs)= {c with mode:=u}::cs:=by
 subst h;rfl
theorem getFr (a b c x:Value): #[a,b,c]++((Array.replicate 17 undef).setIfInBounds 3 x).setIfInBounds 0 x= #[a,b,c,x,undef,undef,x,undef,undef,undef,undef,undef,undef,undef,undef,undef,undef,undef,undef,undef]:=by kernel_rfl
theorem catch_idle (pm pt pe:Nat) (w:World):
  CallsD Tryz.prog 122 #[pV pm,pV pt,pV pe] .returning w fun e u' w'=>e= .returned (.tuple #[])∧u'= .returning∧w'=w:=by
 refine callsD_of_wpS Tryz.func122 rfl fun c₀ cs hu=> ?_;apply wpS_seq;apply wpS_region;simp[wpOpsS,go_sem,recoverD,hu,Tryz.ntmps122,Exit.thenS];refine wpS_of_wp ?_;rw[getFr];go_wp2_with fail;exact⟨rfl,_,c0_eta c₀ cs hu,_,results_none rfl _ _ _,rfl,rfl,rfl⟩
def G3 (pm pt pe:Nat) (M:Array Value) (x y:Int):Land:=fun T w=>(T pm∧w.heap[pm]? =some (.cells M 51 (0,0)))∧(T pt∧w.heap[pt]? =some (.cells #[.int .i64 x] 3 (0,0)))∧(T pe∧w.heap[pe]? =some (.cells #[.int .i64 y] 59 (0,0)))
theorem goodG3 (pm pt pe:Nat) (M:Array Value) (x y:Int):Good (G3 pm pt pe M x y):=(Good.at _ _).and ((Good.at _ _).and (Good.at _ _))
theorem g3_m {pm pt pe:Nat} {M:Array Value} {x y:Int} {T:Nat→Prop} {w:World} (hM:M.size=39) (h1:pm≠pt) (h2:pm≠pe) (h:G3 pm pt pe M x y T w):∃w',(Instr.storeAt 51 (pV pm) (.agg zMsg)).run Tryz.prog w= .ok () w'∧Mod T w w'∧G3 pm pt pe zMsg x y T w':=
 have m:=mod_set w pm (.cells zMsg 51 (0,0))
 ⟨_,run_store_box h.1.2 (by kernel_rfl) (by rw[zMsg_size,hM]) zMsg_all,m.mono (fun i _ e=>by rw[e];exact h.1.1),⟨h.1.1,heap_setBlock w _ (Ls h.1.2)⟩,⟨h.2.1.1,m.at_ne h.2.1.2 h1.symm⟩,h.2.2.1,m.at_ne h.2.2.2 h2.symm⟩
theorem g3_t {pm pt pe:Nat} {M:Array Value} {x y:Int} {T:Nat→Prop} {w:World} (h1:pm≠pt) (h3:pt≠pe) (h:G3 pm pt pe M x y T w):∃w',(Instr.storeAt 3 (pV pt) (.int .i64 0)).run Tryz.prog w= .ok () w'∧Mod T w w'∧G3 pm pt pe M 0 y T w':=
 have m:=mod_set w pt (.cells #[.int .i64 0] 3 (0,0))
 ⟨_,run_store_one h.2.1.2 (by kernel_rfl) (by simp) rfl,m.mono (fun i _ e=>by rw[e];exact h.2.1.1),⟨h.1.1,m.at_ne h.1.2 h1⟩,⟨h.2.1.1,heap_setBlock w _ (Ls h.2.1.2)⟩,h.2.2.1,m.at_ne h.2.2.2 h3.symm⟩
theorem g3_e {pm pt pe:Nat} {M:Array Value} {x y z:Int} {T:Nat→Prop} {w:World} (h2:pm≠pe) (h3:pt≠pe) (h:G3 pm pt pe M x y T w):∃w',(Instr.storeAt 59 (pV pe) (.int .i64 z)).run Tryz.prog w= .ok () w'∧Mod T w w'∧G3 pm pt pe M x z T w':=
 have m:=mod_set w pe (.cells #[.int .i64 z] 59 (0,0))
 ⟨_,run_store_one h.2.2.2 (by kernel_rfl) (by simp) rfl,m.mono (fun i _ e=>by rw[e];exact h.2.2.1),⟨h.1.1,m.at_ne h.1.2 h2⟩,⟨h.2.1.1,m.at_ne h.2.1.2 h3⟩,h.2.2.1,heap_setBlock w _ (Ls h.2.2.2)⟩
theorem catch_pan {pm pt pe n x y:Nat} {w:World} (M:Array Value) (hm:w.heap[pm]? =some (.cells M 51 (0,0))) (hM:M.size=39) (ht:w.heap[pt]? =some (.cells #[.int .i64 x] 3 (0,0))) (he:w.heap[pe]? =some (.cells #[.int .i64 y] 59 (0,0))) (h1:pm≠pt) (h2:pm≠pe) (h3:pt≠pe):
  CallsD Tryz.prog 122 #[pV pm,pV pt,pV pe] (.panicking [stopE n]) w fun e u' w'=>e= .returned (.tuple #[])∧u'= .panicking [{stopE n with recovered:=true}]∧
   w'.heap[pm]? =some (.cells zMsg 51 (0,0))∧w'.heap[pt]? =some (.cells #[.int .i64 0] 3 (0,0))∧w'.heap[pe]? =some (.cells #[.int .i64 n] 59 (0,0))∧Mod (fun i=>i=pm∨i=pt∨i=pe) w w':=by
 refine callsD_of_wpS Tryz.func122 rfl fun c₀ cs hu=> ?_;have hu2:c₀.mode= .panicking ({v:= .iface 262 (.agg #[.int .i64 (n:Int)]),recovered:=false,goexit:=false}::[]):=hu;apply wpS_seq;apply wpS_region;simp[wpOpsS,go_sem,recoverD,hu2,Tryz.ntmps122,Exit.thenS];refine wpS_of_wp ?_;rw[getFr];go_upto_region 2 with fail;have hta:=taStop;have Lhm:=Ls hm;have Lht:=Ls ht;have Lhe:=Ls he;refine ZP0 [0,0,0,0,0,3,4,0] ?_
 iterate 5 refine Zv ?_
 refine Za alStop fun p4 hp4=> ?_;refine Zt ?_;refine Zv ?_;refine TD.nil (fun w2 hr=> ?_);replace hm:=hr.q hm;replace ht:=hr.q ht;replace he:=hr.q he;obtain⟨gp4,kp4⟩:=hr.b p4;have m2:=hr.mod;clear hr hta;replace kp4:w2.heap[p4]? =some (.cells #[.int .i64 (n:Int)] 262 (0,0)):=kp4;have lm:=Ls hm;have lt:=Ls ht;have le:=Ls he;have hb:=bMsg0;go_upto_region 5 with fail;have nW:¬(fun i=>i=pm∨i=pt∨i=pe) p4:=by simp only;omega
 clear lm lt le;have Lkp4:=Ls kp4;refine wp_gpass (T0:=fun i=>i=pm∨i=pt∨i=pe) (K:=G3 pm pt pe M x y) (κ:=fun i=>[0,0,0,6,6,6].getD i 0) (υ:=fun _=>[]) [0,1,2,3,4,5] (by kernel_rfl) (by kernel_rfl) (goodG3 pm pt pe M x y).cl (⟨⟨.inl rfl,hm⟩,⟨.inr (.inl rfl),ht⟩,.inr (.inr rfl),he⟩) (fun i hi=>hi.elim (fun e=>e▸Ls hm) (fun hi=>hi.elim (fun e=>e▸Ls ht) (fun e=>e▸Ls he))) ?_;have gK:=goodG3 pm pt pe M x y;(refine TG.build (v:= ?v9) (ps:= ?p9) (by simp only[zK];rfl) rfl (by rfl) rfl ?hx9 (fun w1=> ?y9) ?n9;(case hx9=>(simp only[List.map_toArray,List.map_cons,List.map_nil,zM];(try rfl)));(case y9=>(rw[hb];(try with_reducible rfl)));try simp only[zL]);refine Zg ?_;(refine TG.load (v:= ?v11) (p:= ?p11) (by simp only[zK];rfl) rfl (by rfl) rfl ?hx11 (fun wq hSq=> ?y11) ?n11;(case hx11=>simp only[zM];try rfl);(case y11=>(have kp4q:=hSq.at kp4 (by intro hT;first|exact hT|exact absurd hT (by assumption)|omega|(simp only at hT;omega));go_simp;(try with_reducible rfl)));try simp only[zL]);(refine TG.storeO (X:= ?X12) (Y:= ?Y12) (G3 pm pt pe zMsg x y) (goodG3 pm pt pe zMsg x y) (by simp only[zK];rfl) rfl (by rfl) rfl rfl ?hx12 ?hz12 (fun T wq kq=> ?y12) (fun _=> ?n12);(case hx12=>simp only[zM];try rfl);(case hz12=>simp only[zM];try rfl);(case y12=>(exact g3_m hM h1 h2 kq));replace gK:=(goodG3 pm pt pe zMsg x y);try simp only[zL]);(refine TG.storeO (X:= ?X13) (Y:= ?Y13) (G3 pm pt pe zMsg 0 y) (goodG3 pm pt pe zMsg 0 y) (by simp only[zK];rfl) rfl (by rfl) rfl rfl ?hx13 ?hz13 (fun T wq kq=> ?y13) (fun _=> ?n13);(case hx13=>simp only[zM];try rfl);(case hz13=>simp only[zM];try rfl);(case y13=>(exact g3_t h1 h3 kq));replace gK:=(goodG3 pm pt pe zMsg 0 y);try simp only[zL]);(refine TG.storeO (X:= ?X14) (Y:= ?Y14) (G3 pm pt pe zMsg 0 n) (goodG3 pm pt pe zMsg 0 n) (by simp only[zK];rfl) rfl (by rfl) rfl rfl ?hx14 ?hz14 (fun T wq kq=> ?y14) (fun _=> ?n14);(case hx14=>simp only[zM];try rfl);(case hz14=>simp only[zM];try rfl);(case y14=>(exact g3_e h2 h3 kq));replace gK:=(goodG3 pm pt pe zMsg 0 n);try simp only[zL]);refine TG.nil (fun w3 ⟨TR,hr⟩=> ?_);replace kp4:=hr.mod.at kp4 (by intro hT;first|exact hT|exact absurd hT (by assumption)|omega|(simp only at hT;omega));clear gK;have HF:Hid (w3.heap[pm]? =some (.cells zMsg 51 (0,0))∧w3.heap[pt]? =some (.cells #[.int .i64 0] 3 (0,0))∧w3.heap[pe]? =some (.cells #[.int .i64 n] 59 (0,0))∧Mod (fun i=>i=pm∨i=pt∨i=pe) w w3):=Hi ⟨hr.k.1.2,hr.k.2.1.2,hr.k.2.2.2,(m2.mono (fun _ _ h=>h.elim)).trans hr.mod⟩;clear hm ht he hr;go_wp2_with fail;exact⟨rfl,_,rfl,_,results_none rfl _ _ _,rfl,rfl,HF.out⟩
end
section
section
variable {P:Program} {ops:Array Oper} {Q:Exit→Act→World→Prop} {T0:Nat→Prop} {w0:World} {κ:Nat→Nat} {υ:Nat→List Tmp}
theorem TG.loadO {i:Nat} {r:List Nat} {a:Act} {B:Bx} {K:Land} {o:Oper} {T:TypeId} {x:Operand} {X v:Value} (hK:Good K) (ho:ops[i]? =some o) (hk:κ i=6) (hw:Region.wanted o (yielded ops a.tmps)=true)
  (hop:o.op= .load T x) (hx:a.eval x=X) (hr:∀T' w,K T' w→(Instr.loadAt T X).run P w= .ok v w)
  (h:TG P ops Q T0 w0 κ υ r (a.put o.dst v) B K):TG P ops Q T0 w0 κ υ (i::r) a B K:=by
 refine TG.eff' (fun v' T w=>v'=v∧K T w) ho hk hw (fun v'=>((Good.pure (v'=v)).and hK).cl) (fun T2 w k1 k2 k3 k4=> .inl ⟨v,w,?_,Mod.refl _ _,rfl,hK.gr _ _ _ (fun _ h=> .inl h) k1⟩) (fun v' hI=> ?_)
 ·subst hx;simp[execOp,hop,hr T2 w k1]
 ·obtain⟨w1,T1,hI⟩:=hI;obtain rfl:v'=v:=hI.k.1;exact h.mono (fun _ _ h=>h.2)
end
end
section
attribute [local go_sem↓] wlKey ldKey stKey wlMsg ldMsg stMsg
attribute [local go_sem] kc_ext kc_one kc_one0 kc_size zKey_size mgx_size mgx_ext mgx_one mgx_one0 zMsg_size zMsg_all zMsg_all0
theorem alI3 (w:World):(Instr.alloc 3 true (.tuple #[])).run Tryz.prog w= .ok (.pointer (some ⟨w.heap.size,0,none⟩)) (w.alloc (.cells #[.int .i64 0] 3)):=by kernel_rfl
theorem alE3 (w:World):(Instr.alloc 59 true (.tuple #[])).run Tryz.prog w= .ok (.pointer (some ⟨w.heap.size,0,none⟩)) (w.alloc (.cells #[.int .i64 0] 59)):=by kernel_rfl
def MgetP (w:World) (l:List UInt8) (e:Ending) (w':World):Prop:=Mod (fun _=>False) w w'∧match pMsg l 0 with
 | .ok (x,k)=>∃v,e= .returned (.tuple #[v,i64n k,i64n 0])∧VMsg w.heap.size w' v x∧k≤l.length
 | .error n=>e= .returned (.tuple #[.agg zMsg,i64n 0,i64n n])
theorem bRdr (a:Option Addr) (n c:Nat) (w:World):(Instr.build 266 #[(0,.slice a n c)]).run Tryz.prog w= .ok (.agg (rdrC a n c 0)) w:=by kernel_rfl
theorem four {w w1:World} {A B C D:Obj} (h:w1=(((w.alloc A).alloc B).alloc C).alloc D):w1.heap.size=w.heap.size+4∧w1.heap[w.heap.size]? =some A∧w1.heap[w.heap.size+1]? =some B∧w1.heap[w.heap.size+1+1]? =some C∧w1.heap[w.heap.size+1+1+1]? =some D∧Mod (fun _=>False) w w1:=by
 have hz:∀(v:World) (o:Obj),(v.alloc o).heap.size=v.heap.size+1:=fun v o=>Array.size_push ..;have e1:=hz w A;have e2:=hz (w.alloc A) B;have e3:=hz ((w.alloc A).alloc B) C;have e4:=hz (((w.alloc A).alloc B).alloc C) D;rw[e1]at e2;rw[e2]at e3;rw[e3]at e4;have a1:=heap_alloc_new w A;have a2:=heap_alloc_new (w.alloc A) B;have a3:=heap_alloc_new ((w.alloc A).alloc B) C;have a4:=heap_alloc_new (((w.alloc A).alloc B).alloc C) D;rw[e1]at a2;rw[e2]at a3;rw[e3]at a4;have m2:=(Mod.refl (fun _=>False) (w.alloc A)).alloc B;have m3:=(Mod.refl (fun _=>False) ((w.alloc A).alloc B)).alloc C;have m4:=(Mod.refl (fun _=>False) (((w.alloc A).alloc B).alloc C)).alloc D;rw[←h]at a4 e4 m4;exact⟨e4,m4.at0 (m3.at0 (m2.at0 a1)),m4.at0 (m3.at0 a2),m4.at0 a3,a4,(((Mod.refl _ w).alloc _).trans (m2.trans m3)).trans m4⟩
theorem results_cell3 {P:Program} {fn:Func} {t1 t2 t3:Tmp} {T1 T2 T3:TypeId} {tmps:Array Value} {p1 p2 p3:Addr} {v1 v2 v3:Value} {w:World} (h:fn.results= #[.cell t1 T1,.cell t2 T2,.cell t3 T3])
  (h1:tmps.getD t1 undef= .pointer (some p1)) (h2:tmps.getD t2 undef= .pointer (some p2)) (h3:tmps.getD t3 undef= .pointer (some p3))
  (k1:(Instr.loadAt T1 (.pointer (some p1))).run P w= .ok v1 w) (k2:(Instr.loadAt T2 (.pointer (some p2))).run P w= .ok v2 w) (k3:(Instr.loadAt T3 (.pointer (some p3))).run P w= .ok v3 w):(results fn tmps).run P w= .ok (.tuple #[v1,v2,v3]) w:=by
 have l1:(loadVar T1 p1).run P w= .ok v1 w:=by simpa[Instr.loadAt,Instr.sureAddr] using k1
 have l2:(loadVar T2 p2).run P w= .ok v2 w:=by simpa[Instr.loadAt,Instr.sureAddr] using k2
 have l3:(loadVar T3 p3).run P w= .ok v3 w:=by simpa[Instr.loadAt,Instr.sureAddr] using k3
 unfold results;rw[h];have hmap:∀ {α β:Type} (f:α→β) (x:Sem α) (w:World),(f<$>x).run P w=(x.run P w).andThen fun a w=> .ok (f a) w:=fun f x w=>by
  show(x>>=fun a=>pure (f a)).run P w=_;rw[Sem.run_bind];rfl
 simp only[List.mapM_toArray,List.mapM_cons,List.mapM_nil,h1,h2,h3,asAddr,Sem.run_bind,hmap,Sem.run_pure,Result.andThen_ok,l1,l2,l3];rfl
theorem ldI3 {T:TypeId} {w:World} {p:Nat} {z:Int} (h:w.heap[p]? =some (.cells #[.int .i64 z] T (0,0))):(Instr.loadAt 3 (.pointer (some ⟨p,0,none⟩))).run Tryz.prog w= .ok (.int .i64 z) w:=by go_simp
theorem ldE3 {T:TypeId} {w:World} {p:Nat} {z:Int} (h:w.heap[p]? =some (.cells #[.int .i64 z] T (0,0))):(Instr.loadAt 59 (.pointer (some ⟨p,0,none⟩))).run Tryz.prog w= .ok (.int .i64 z) w:=by go_simp
theorem ldZM {w:World} {p:Nat} (h:w.heap[p]? =some (.cells zMsg 51 (0,0))):(Instr.loadAt 51 (.pointer (some ⟨p,0,none⟩))).run Tryz.prog w= .ok (.agg zMsg) w:=ldMgx h
theorem sq_store {P:Program} {ops:Array Oper} {Q:Exit→Act→World→Prop} {i:Nat} {r:List Nat} {a:Act} {o:Oper} {w w':World} {T:TypeId} {x y:Operand} {X Y:Value} (ho:ops[i]? =some o) (hw:Region.wanted o (yielded ops a.tmps)=true) (hd:o.dst=none)
  (hop:o.op= .store T x y) (hx:a.eval x=X) (hy:a.eval y=Y) (hr:(Instr.storeAt T X Y).run P w= .ok () w') (h:wpOps P ops Q r a w'):wpOps P ops Q (i::r) a w:=by
 unfold wpOps;simp only[ho,hw,if_true];refine .inl ?_;unfold Oper.wp;have he:(execOp a.eval o).run P w= .ok .skip w':=by
  subst hx;subst hy;simp[execOp,hop,hr]
 rw[he];simpa[Oper.upon,Act.put,hd] using h
theorem ZT {P:Program} {ops:Array Oper} {Q:Exit→Act→World→Prop} {i:Nat} {r:List Nat} {a:Act} {w w':World} {o:Oper} {T:TypeId} {x y:Operand} {X Y:Value} (h:wpOps P ops Q r a w') (ho:ops[i]? =some o:=by simp only[zK];rfl) (hw:Region.wanted o (yielded ops a.tmps)=true:=by rfl) (hd:o.dst=none:=by rfl) (hop:o.op= .store T x y:=by rfl) (hx:a.eval x=X:=by(try simp only[zM]);(try rfl)) (hy:a.eval y=Y:=by(try simp only[zM]);(try rfl)) (hr:(Instr.storeAt T X Y).run P w= .ok () w':=by go_simp;try with_reducible rfl):wpOps P ops Q (i::r) a w:=sq_store ho hw hd hop hx hy hr h
theorem g3_mX {pm pt pe:Nat} {M X:Array Value} {x y:Int} {T:Nat→Prop} {w:World} (hX:X.size=39) (hX1:X.all (·.oneCell')=true) (h1:pm≠pt) (h2:pm≠pe) (h:G3 pm pt pe M x y T w) (hM:M.size=39):∃w',(Instr.storeAt 51 (pV pm) (.agg X)).run Tryz.prog w= .ok () w'∧Mod T w w'∧G3 pm pt pe X x y T w':=
 have m:=mod_set w pm (.cells X 51 (0,0))
 ⟨_,run_store_box h.1.2 (by rw[hX];kernel_rfl) (by rw[hX,hM]) hX1,m.mono (fun i _ e=>by rw[e];exact h.1.1),⟨h.1.1,heap_setBlock w _ (Ls h.1.2)⟩,⟨h.2.1.1,m.at_ne h.2.1.2 h1.symm⟩,h.2.2.1,m.at_ne h.2.2.2 h2.symm⟩
theorem g3_tk {pm pt pe:Nat} {M:Array Value} {x y z:Int} {T:Nat→Prop} {w:World} (h1:pm≠pt) (h3:pt≠pe) (h:G3 pm pt pe M x y T w):∃w',(Instr.storeAt 3 (pV pt) (.int .i64 z)).run Tryz.prog w= .ok () w'∧Mod T w w'∧G3 pm pt pe M z y T w':=
 have m:=mod_set w pt (.cells #[.int .i64 z] 3 (0,0))
 ⟨_,run_store_one h.2.1.2 (by kernel_rfl) (by simp) rfl,m.mono (fun i _ e=>by rw[e];exact h.2.1.1),⟨h.1.1,m.at_ne h.1.2 h1⟩,⟨h.2.1.1,heap_setBlock w _ (Ls h.2.1.2)⟩,h.2.2.1,m.at_ne h.2.2.2 h3.symm⟩
theorem mget_c {a:Option Addr} {l:List UInt8} {c:Nat} (w:World) (hl:SlAt uc 1 w a l) (hc:l.length≤c) (hn:a=none→c=0) (hln:l.length≤1000000) (hin:∀x,a=some x→x.block<w.heap.size):
  Calls Tryz.prog 101 #[.slice a l.length c] w (MgetP w l):=by
 have hmf:∀(fn:Fn) (first cap:Array Value) (w:World),(Instr.makeFunc fn first cap).run Tryz.prog w= .ok (.func fn first cap) w:=fun _ _ _ _=>rfl;have HL:=Hi (Ai hl (Ai hc (Ai hn hln)));obtain⟨ll,hll⟩:∃ll,l.length=ll:=⟨_,rfl⟩;have HLL:=Hi hll;rw[hll];clear hl hc hn hln hll
 go_enter_defers Tryz.func101,Tryz.ntmps101
 have ha1:=alMsg;have ha2:=alI3;have ha3:=alE3;have hb:=bRdr;go_upto_region 3 with fail;refine(fun w1 hw1=> ?_:∀w1,w1=_→Code.wp _ _ _ _ w1) _ rfl;obtain⟨hs,kp2,kp3,kp4,kp5,m1⟩:=four hw1;replace kp2:w1.heap[w.heap.size]? =some (.cells zMsg 51 (0,0)):=kp2;replace kp5:w1.heap[w.heap.size+1+1+1]? =some (.cells (rdrC a ll c 0) 266 (0,0)):=kp5;clear hw1 ha1 ha2 ha3 hb hmf;have HRD:Hid (RdA (w.heap.size+1+1+1) a l c 0 w1):=Hi ⟨by rw[HLL.out];exact kp5,HL.out.1.mod0 m1,Nat.zero_le _,HL.out.2.1,HL.out.2.2.1,fun x hx e=>by have:=hin x hx;omega,HL.out.2.2.2⟩;obtain⟨ps,hps⟩:∃ps,w.heap.size=ps:=⟨_,rfl⟩;have hB:=rmsg_c w1 HRD.out;rw[hps]at kp2 kp3 kp4 kp5 hB hs⊢;refine region_seq 3 rfl ?_;simp only[List.range,List.range.loop];refine Zq ?_;refine ZC hB ?hout (fun vn wn hR=> ?hret) (fun ch wn hR=> ?hpan)
 case hout=>exact fun w' h=>h.not_out
 case hpan=>
  rcases hR.cases with⟨_,_,_,_,h,_⟩|⟨n0,hres,e1,hm⟩
  ·cases h
  ·cases e1;have ne1:ps≠ps+1+1+1:=by omega
   have kp2:=hm.at_ne kp2 ne1;have kp3:=hm.at_ne kp3 (by omega);have kp4:=hm.at_ne kp4 (by omega);have HM:Hid (Mod (fun _=>False) w wn):=Hi (m1.then hm (fun i hi e=>by omega));refine leaves_cons (f:=122) (args:= #[pV ps,pV (ps+1),pV (ps+1+1)]) (by simp) (by simp[go_sem]) ?_;refine(catch_pan (x:=0) (y:=0) zMsg kp2 zMsg_size kp3 kp4 (by omega) (by omega) (by omega)).mono ?_;rintro e u' w2 ⟨rfl,rfl,k2,k3,k4,m⟩;refine⟨_,results_cell3 rfl rfl rfl rfl (ldZM k2) (ldI3 k3) (ldE3 k4),?_⟩;unfold MgetP;rw[hres];exact⟨HM.out.then m (fun i hi e=>by omega),rfl⟩
 case hret=>
  rcases hR.cases with⟨q,k1,v1,hr1,e1,hv1,hP1⟩|⟨_,_,h,_⟩
  case inr=>cases h
  cases e1;obtain⟨ka,ia,la,L,M,rfl,hV⟩:=hv1;have kp2:=hP1.2.at_ne kp2 (by omega);have kp3:=hP1.2.at_ne kp3 (by omega);have kp4:=hP1.2.at_ne kp4 (by omega);have kp5:=hP1.1.1;have HKL:=Hi hP1.1.2.2.1;have HM:Hid (Mod (fun _=>False) w wn):=Hi (m1.then hP1.2 (fun i hi e=>by omega));have HV:=Hi hV;have HR:=Hi hr1;clear hB hR hV hr1 hP1;rw[HLL.out]at kp5;unfold rdrC at kp5;(try simp only[zL]);have hst:(Instr.storeAt 51 (pV ps) (.agg (mgx q.v0 q.h0 q.h1 q.h2 ka q.ks.length q.ks.length q.rc ia L.length L.length la M.length M.length))).run Tryz.prog wn= .ok () (setBlock wn ps (.cells (mgx q.v0 q.h0 q.h1 q.h2 ka q.ks.length q.ks.length q.rc ia L.length L.length la M.length M.length) 51 (0,0))):=run_store_box kp2 (by rw[mgx_size];kernel_rfl) (by rw[zMsg_size,mgx_size]) (mgx_one ..);have m2:=mod_set wn ps (.cells (mgx q.v0 q.h0 q.h1 q.h2 ka q.ks.length q.ks.length q.rc ia L.length L.length la M.length M.length) 51 (0,0));have k2:=heap_setBlock wn (.cells (mgx q.v0 q.h0 q.h1 q.h2 ka q.ks.length q.ks.length q.rc ia L.length L.length la M.length M.length) 51 (0,0)) (Ls kp2);generalize hX:mgx q.v0 q.h0 q.h1 q.h2 ka q.ks.length q.ks.length q.rc ia L.length L.length la M.length M.length=X at *;have hXs:X.size=39:=by rw[←hX,mgx_size]
  have HX:=Hi hX;clear hX;have kp3:=m2.at_ne kp3 (by omega);have kp4:=m2.at_ne kp4 (by omega);have kp5:=m2.at_ne kp5 (by omega);refine sq_store (by simp only[zK];rfl) rfl rfl rfl rfl rfl hst ?_;refine sq_nil ?_;generalize setBlock wn ps (.cells X 51 (0,0))=w2 at *;clear hst kp2;go_upto_region 4 with fail;have H2:=Hi (Ai (Nat.succ_ne_self (ps+1)) m2);have hkX:(Instr.loadAt 51 (pV ps)).run Tryz.prog w2= .ok (.agg X) w2:=by rw[←HX.out]at k2⊢;exact ldMgx k2
  have hldX:∀w':World,w'.heap[ps]? =some (.cells X 51 (0,0))→(Instr.loadAt 51 (pV ps)).run Tryz.prog w'= .ok (.agg X) w':=fun w' h=>by rw[←HX.out]at h⊢;exact ldMgx h
  have HLX:=Hi hldX;clear hkX hldX m2;have hXo:X.all (·.oneCell')=true:=by rw[←HX.out];exact mgx_one ..
  have HXS:=Hi (Ai hXs hXo);clear hXs hXo;have hlts:=Ls k2;have nW:¬(fun i=>i=ps∨i=ps+1∨i=ps+1+1) (ps+1+1+1):=by simp only;omega
  refine wp_mono (Q:=fun e a' w'=>e= .normal∧(a'.tmps.getD 2 undef=pV ps∧a'.tmps.getD 3 undef=pV (ps+1)∧a'.tmps.getD 4 undef=pV (ps+1+1)∧a'.defers=[{target:= .fn (.func 122) #[pV ps,pV (ps+1),pV (ps+1+1)],args:= #[]}])∧G3 ps (ps+1) (ps+1+1) X k1 0 (fun i=>i=ps∨i=ps+1∨i=ps+1+1) w'∧Mod (fun i=>i=ps∨i=ps+1∨i=ps+1+1) w2 w') ?_ ?_
  ·have hP:∀(c:List PanicEntry) (a:Act) (w':World),¬((Exit.panic c=Exit.normal)∧(a.tmps.getD 2 undef=pV ps∧a.tmps.getD 3 undef=pV (ps+1)∧a.tmps.getD 4 undef=pV (ps+1+1)∧a.defers=[{target:= .fn (.func 122) #[pV ps,pV (ps+1),pV (ps+1+1)],args:= #[]}])∧G3 ps (ps+1) (ps+1+1) X k1 0 (fun i=>i=ps∨i=ps+1∨i=ps+1+1) w'∧Mod (fun i=>i=ps∨i=ps+1∨i=ps+1+1) w2 w'):=fun _ _ _ h=>by cases h.1
   have Lkp5:=Ls kp5;refine wp_gpass (T0:=fun i=>i=ps∨i=ps+1∨i=ps+1+1) (K:=G3 ps (ps+1) (ps+1+1) X 0 0) (κ:=fun i=>[6,0,0,0,0,6,6,6].getD i 0) (υ:=fun _=>[]) [0,1,2,3,4,5,6,7] (by kernel_rfl) (by kernel_rfl) (goodG3 ps (ps+1) (ps+1+1) X 0 0).cl (⟨⟨.inl rfl,k2⟩,⟨.inr (.inl rfl),kp3⟩,.inr (.inr rfl),kp4⟩) (fun i hi=>hi.elim (fun e=>e▸Ls k2) (fun hi=>hi.elim (fun e=>e▸Ls kp3) (fun e=>e▸Ls kp4))) ?_;have gK:=goodG3 ps (ps+1) (ps+1+1) X 0 0;(refine TG.loadO (v:= ?v3) (X:= ?X3) gK (by simp only[zK];rfl) rfl (by rfl) rfl ?hx3 (fun T wq kq=> ?y3) ?n3;(case hx3=>simp only[zM];try rfl);(case y3=>(exact HLX.out _ kq.1.2));try simp only[zL])
   iterate 3 refine Zg ?_
   (refine TG.load (v:= ?v7) (p:= ?p7) (by simp only[zK];rfl) rfl (by rfl) rfl ?hx7 (fun wq hSq=> ?y7) ?n7;(case hx7=>simp only[zM];try rfl);(case y7=>(have kp5q:=hSq.at kp5 (by intro hT;first|exact hT|exact absurd hT (by assumption)|omega|(simp only at hT;omega));go_simp;(try with_reducible rfl)));try simp only[zL]);(refine TG.storeO (X:= ?X8) (Y:= ?Y8) (G3 ps (ps+1) (ps+1+1) X 0 0) (goodG3 ps (ps+1) (ps+1+1) X 0 0) (by simp only[zK];rfl) rfl (by rfl) rfl rfl ?hx8 ?hz8 (fun T wq kq=> ?y8) (fun _=> ?n8);(case hx8=>simp only[zM];try rfl);(case hz8=>simp only[zM];try rfl);(case y8=>(exact g3_mX HXS.out.1 HXS.out.2 (by omega) (by omega) kq HXS.out.1));replace gK:=(goodG3 ps (ps+1) (ps+1+1) X 0 0);try simp only[zL]);(refine TG.storeO (X:= ?X9) (Y:= ?Y9) (G3 ps (ps+1) (ps+1+1) X k1 0) (goodG3 ps (ps+1) (ps+1+1) X k1 0) (by simp only[zK];rfl) rfl (by rfl) rfl rfl ?hx9 ?hz9 (fun T wq kq=> ?y9) (fun _=> ?n9);(case hx9=>simp only[zM];try rfl);(case hz9=>simp only[zM];try rfl);(case y9=>(exact g3_tk (by omega) (by omega) kq));replace gK:=(goodG3 ps (ps+1) (ps+1+1) X k1 0);try simp only[zL]);(refine TG.storeO (X:= ?X10) (Y:= ?Y10) (G3 ps (ps+1) (ps+1+1) X k1 0) (goodG3 ps (ps+1) (ps+1+1) X k1 0) (by simp only[zK];rfl) rfl (by rfl) rfl rfl ?hx10 ?hz10 (fun T wq kq=> ?y10) (fun _=> ?n10);(case hx10=>simp only[zM];try rfl);(case hz10=>simp only[zM];try rfl);(case y10=>(exact g3_e (by omega) (by omega) kq));replace gK:=(goodG3 ps (ps+1) (ps+1+1) X k1 0);try simp only[zL]);refine TG.nil (fun w3 ⟨TR,hr⟩=> ?_);replace kp5:=hr.mod.at kp5 (by intro hT;first|exact hT|exact absurd hT (by assumption)|omega|(simp only at hT;omega));clear gK;exact⟨rfl,⟨rfl,rfl,rfl,rfl⟩,⟨⟨.inl rfl,hr.k.1.2⟩,⟨.inr (.inl rfl),hr.k.2.1.2⟩,.inr (.inr rfl),hr.k.2.2.2⟩,hr.mod⟩
  ·rintro e a' w3 ⟨rfl,ha,hG,hm⟩;obtain⟨tm,df⟩:=a';obtain⟨h2,h3,h4,h5⟩:=ha;simp only at h2 h3 h4 h5;subst h5;go_wp2_with fail;refine leaves_cons (f:=122) (args:= #[pV ps,pV (ps+1),pV (ps+1+1)]) (by simp) (by simp[go_sem]) ?_;refine(catch_idle ps (ps+1) (ps+1+1) _).mono ?_;rintro e u' w4 ⟨rfl,rfl,rfl⟩;refine⟨_,results_cell3 rfl h2 h3 h4 (HLX.out _ hG.1.2) (ldI3 hG.2.1.2) (ldE3 hG.2.2.2),?_⟩;unfold MgetP;rw[HR.out];have hm3:Mod (fun i=>i=ps∨i=ps+1∨i=ps+1+1) wn w4:=(H2.out.2.mono (fun i _ e=> .inl e)).trans hm;refine⟨HM.out.then hm3 (fun i hi e=>by omega),_,rfl,⟨ka,ia,la,L,M,by rw[HX.out],?_⟩,HKL.out⟩;rw[hps];have hV:=HV.out;have hb:ps≤w1.heap.size:=by omega
   exact⟨(hV.1.mod hm3 (fun g hg e=>by have:=(hV.1.lt g hg).1;omega)).base hb,(hV.2.1.mod hm3 (fun g hg e=>by have:=(hV.2.1.lt g hg).1;omega)).base hb,(hV.2.2.1.mod hm3 (fun g hg _ _ e=>by omega)).base hb,(hV.2.2.2.1.mod hm3 (fun g hg e=>by have:=(hV.2.2.2.1.lt g hg).1;omega)).base hb,(hV.2.2.2.2.1.mod hm3 (fun g hg _ _ e=>by omega)).base hb,hV.2.2.2.2.2⟩
end
section
attribute [local go_sem↓] wlKey ldKey stKey wlMsg ldMsg stMsg
attribute [local go_sem] kc_ext kc_one kc_one0 kc_size zKey_size mgx_size mgx_ext mgx_one mgx_one0 zMsg_size zMsg_all zMsg_all0
theorem sl_head {α:Type} {P:Program} {T E:TypeId} {f:α→Array Value} {n B:Nat} (hT:ElT P T E f n B) {b o nn c m:Nat} (hm:m≤c) (h1:1≤c) (w:World):
  (Instr.sliceAt T (.slice (some ⟨b,o,none⟩) nn c) none (some (.int .i64 (m:Int))) none).run P w= .ok (.slice (some ⟨b,o,none⟩) m c) w:=by
 obtain⟨i0,z,hi,hz,hz1,hz2,hz3⟩:=hT.info;have hp:(0:Int)≤(m:Int)∧(m:Int)≤(c:Int):=⟨by omega,by omega⟩;have hp2:(0:Int)≤(0:Int)∧(0:Int)≤(m:Int):=⟨by omega,by omega⟩;have hc:c≠0:=by omega
 simp only[Instr.sliceAt,Instr.slice,Instr.sliceBounds,Instr.sliceBound,asIntOf,sizeOf,typeInfo,run_underlying hT.u,hi,Sem.run_bind,Sem.run_pure,Result.andThen_ok];rw[if_pos hp];simp[Sem.run_pure,Result.andThen_ok,Go.program,Sem.run,hi,hz1,hc,Addr.add]
structure McR where
 v0:Bool
 h0:UInt8
 h1:UInt8
 h2:UInt8
 ka:Option Addr
 kn:Nat
 kc:Nat
 rc:Key
 ia:Option Addr
 n1:Nat
 c1:Nat
 la:Option Addr
 n2:Nat
 c2:Nat
def mcx (m:McR):Array Value:=mgx m.v0 m.h0 m.h1 m.h2 m.ka m.kn m.kc m.rc m.ia m.n1 m.c1 m.la m.n2 m.c2
def mc0:McR:=⟨false,0,0,0,none,0,0,key0,none,0,0,none,0,0⟩
def mpr (m:McR):List Value:=[.bool m.v0,u8v m.h0,u8v m.h1,u8v m.h2,.slice m.ka m.kn m.kc]
def mpo (m:McR):List Value:=[.slice m.ia m.n1 m.c1,.slice m.la m.n2 m.c2]
def tcx (sa:Option Addr) (sn sc:Nat) (m:McR):Array Value:=mx (.slice sa sn sc::mpr m) m.rc (mpo m)
def rgx (sa:Option Addr) (sn sc:Nat) (m:McR) (la:Option Addr) (ln lc:Nat):Array Value:=mx (.slice sa sn sc::mpr m) m.rc (mpo m++[.slice la ln lc])
section
variable (sa sa':Option Addr) (sn sn' sc sc':Nat) (m m':McR) (la la':Option Addr) (ln ln' lc lc':Nat)
theorem mcx_size:(mcx m).size=39:=mgx_size ..
theorem mcx_one0:(mcx m).all (·.oneCell') 0 39=true:=mgx_one0 ..
theorem mcx_ext:(mcx m).extract 0 39=mcx m:=mgx_ext ..
theorem tcx_size:(tcx sa sn sc m).size=40:=mx_size _ _ _
theorem tcx_ext:(tcx sa sn sc m).extract 0 40=tcx sa sn sc m:=mx_full rfl
theorem tcx_one:(tcx sa sn sc m).all (·.oneCell')=true:=mx_one rfl rfl
theorem tcx_one0:(tcx sa sn sc m).all (·.oneCell') 0 40=true:=all_of (tcx_size ..) (tcx_one ..)
theorem rgx_size:(rgx sa sn sc m la ln lc).size=41:=mx_size _ _ _
theorem rgx_one:(rgx sa sn sc m la ln lc).all (·.oneCell')=true:=mx_one rfl rfl
theorem rgx_one0:(rgx sa sn sc m la ln lc).all (·.oneCell') 0 41=true:=all_of (rgx_size ..) (rgx_one ..)
theorem rgx_tx:(rgx sa sn sc m la ln lc).extract 0 40=tcx sa sn sc m:=by
 have:=part_of (pre:=[]) (mid:=(Value.slice sa sn sc::mpr m)++(m.rc.l.map bc++mpo m)) (post:=[Value.slice la ln lc]) (a:=0) (b:=40) rfl (by simp[mpr,mpo,m.rc.h]);simpa[rgx,tcx,mx,mpr,mpo] using this
theorem rgx0:(rgx sa sn sc m la ln lc)[0]? =some (.slice sa sn sc):=mx_pre (by simp)
theorem rgx40:(rgx sa sn sc m la ln lc)[40]? =some (.slice la ln lc):=mx_post (pre:= .slice sa sn sc::mpr m) 2
theorem rgx_s:(rgx sa sn sc m la ln lc).setIfInBounds 0 (.slice sa' sn' sc')=rgx sa' sn' sc' m la ln lc:=mx_setpre (by simp) _
theorem rgx_l:(rgx sa sn sc m la ln lc).setIfInBounds 40 (.slice la' ln' lc')=rgx sa sn sc m la' ln' lc':=mx_setpost (pre:= .slice sa sn sc::mpr m) 2 _
theorem rgx_m:wr (rgx sa sn sc m la ln lc) 1 (mcx m').toList=rgx sa sn sc m' la ln lc:=by
 apply Array.toList_inj.1;have h1:(mcx m').toList.length=39:=by rw[Array.length_toList,mcx_size]
 rw[wr_list _ _ _ (by rw[rgx_size,h1];omega),h1];have e1:(rgx sa sn sc m la ln lc).toList=[.slice sa sn sc]++((mpr m++(m.rc.l.map bc++mpo m))++[.slice la ln lc]):=by simp[rgx,mx]
 have e2:(mcx m').toList=mpr m'++(m'.rc.l.map bc++mpo m'):=rfl;have e3:(rgx sa sn sc m' la ln lc).toList=[.slice sa sn sc]++((mpr m'++(m'.rc.l.map bc++mpo m'))++[.slice la ln lc]):=by simp[rgx,mx]
 have h39:(mpr m++(m.rc.l.map bc++mpo m)).length=39:=by simp[mpr,mpo,m.rc.h]
 rw[e1,e2,e3];generalize mpr m++(m.rc.l.map bc++mpo m)=X at *;rw[List.take_left' (by rfl),←List.drop_drop,List.drop_left' (by rfl),List.drop_left' h39];simp
end
def zRg:Array Value:=rgx none 0 0 mc0 none 0 0
def zTc:Array Value:=tcx none 0 0 mc0
theorem ldRg (w:World) (b o:Nat):(Instr.loadAt 221 (.pointer (some ⟨b,o,none⟩))).run Tryz.prog w=
   match w.heap[b]? with
   |some (.cells cs _ _)=>if o+41≤cs.size then .ok (.agg (cs.extract o (o+41))) w else farL Tryz.prog w 221 b o
   |_=>farL Tryz.prog w 221 b o:=load_rule (d:=_) Tryz.underlying221 rfl (by kernel_rfl) w b o
theorem stRg (w:World) (b o:Nat) (xs:Array Value):(Instr.storeAt 221 (.pointer (some ⟨b,o,none⟩)) (.agg xs)).run Tryz.prog w=
   match w.heap[b]? with
   |some (.cells cs U (0,0))=>
    if o+41≤cs.size∧xs.size=41∧xs.all (·.oneCell')=true then .ok () (setBlock w b (.cells (if o=0∧41=cs.size then xs else wr cs o xs.toList) U (0,0)))else farS Tryz.prog w 221 b o (.agg xs)
   |_=>farS Tryz.prog w 221 b o (.agg xs):=store_rule (by kernel_rfl) w b o xs
theorem wlRg (dst:Option Tmp) (x:Operand) (ty:TypeId) (pos:String) (after:Array Edge) (g:Option (Nat×Bool)) (a:Act) (w:World) (K:Act→World→Prop) (Q:Exit→Act→World→Prop):
  Oper.wp Tryz.prog {dst:=dst,op:= .load 221 x,type:=ty,pos:=pos,after:=after,guard:=g} a w K Q=
   (match a.eval x with
   | .pointer (some ⟨b,o,none⟩)=>
    (match w.heap[b]? with
    |some (.cells cs _ _)=>if o+41≤cs.size then K (a.put dst (.agg (cs.extract o (o+41)))) w else farW Tryz.prog {dst:=dst,op:= .load 221 x,type:=ty,pos:=pos,after:=after,guard:=g} a w K Q
    |_=>farW Tryz.prog {dst:=dst,op:= .load 221 x,type:=ty,pos:=pos,after:=after,guard:=g} a w K Q)
   |_=>farW Tryz.prog {dst:=dst,op:= .load 221 x,type:=ty,pos:=pos,after:=after,guard:=g} a w K Q):=wp_load_rule (d:=_) Tryz.underlying221 rfl (by kernel_rfl) dst x ty pos after g a w K Q
theorem alRg (w:World):(Instr.alloc 221 true (.tuple #[])).run Tryz.prog w= .ok (.pointer (some ⟨w.heap.size,0,none⟩)) (w.alloc (.cells zRg 221)):=
 run_alloc_row (z:= .agg zRg) (fun w=>by kernel_rfl) w
theorem ldTc (w:World) (b o:Nat):(Instr.loadAt 53 (.pointer (some ⟨b,o,none⟩))).run Tryz.prog w=
   match w.heap[b]? with
   |some (.cells cs _ _)=>if o+40≤cs.size then .ok (.agg (cs.extract o (o+40))) w else farL Tryz.prog w 53 b o
   |_=>farL Tryz.prog w 53 b o:=load_rule (d:=_) Tryz.underlying53 rfl (by kernel_rfl) w b o
theorem stTc (w:World) (b o:Nat) (xs:Array Value):(Instr.storeAt 53 (.pointer (some ⟨b,o,none⟩)) (.agg xs)).run Tryz.prog w=
   match w.heap[b]? with
   |some (.cells cs U (0,0))=>
    if o+40≤cs.size∧xs.size=40∧xs.all (·.oneCell')=true then .ok () (setBlock w b (.cells (if o=0∧40=cs.size then xs else wr cs o xs.toList) U (0,0)))else farS Tryz.prog w 53 b o (.agg xs)
   |_=>farS Tryz.prog w 53 b o (.agg xs):=store_rule (by kernel_rfl) w b o xs
theorem wlTc (dst:Option Tmp) (x:Operand) (ty:TypeId) (pos:String) (after:Array Edge) (g:Option (Nat×Bool)) (a:Act) (w:World) (K:Act→World→Prop) (Q:Exit→Act→World→Prop):
  Oper.wp Tryz.prog {dst:=dst,op:= .load 53 x,type:=ty,pos:=pos,after:=after,guard:=g} a w K Q=
   (match a.eval x with
   | .pointer (some ⟨b,o,none⟩)=>
    (match w.heap[b]? with
    |some (.cells cs _ _)=>if o+40≤cs.size then K (a.put dst (.agg (cs.extract o (o+40)))) w else farW Tryz.prog {dst:=dst,op:= .load 53 x,type:=ty,pos:=pos,after:=after,guard:=g} a w K Q
    |_=>farW Tryz.prog {dst:=dst,op:= .load 53 x,type:=ty,pos:=pos,after:=after,guard:=g} a w K Q)
   |_=>farW Tryz.prog {dst:=dst,op:= .load 53 x,type:=ty,pos:=pos,after:=after,guard:=g} a w K Q):=wp_load_rule (d:=_) Tryz.underlying53 rfl (by kernel_rfl) dst x ty pos after g a w K Q
theorem alTc (w:World):(Instr.alloc 53 true (.tuple #[])).run Tryz.prog w= .ok (.pointer (some ⟨w.heap.size,0,none⟩)) (w.alloc (.cells zTc 53)):=
 run_alloc_row (z:= .agg zTc) (fun w=>by kernel_rfl) w
theorem ldSg (w:World) (b o:Nat):(Instr.loadAt 103 (.pointer (some ⟨b,o,none⟩))).run Tryz.prog w=
   match w.heap[b]? with
   |some (.cells cs _ _)=>if o+64≤cs.size then .ok (.agg (cs.extract o (o+64))) w else farL Tryz.prog w 103 b o
   |_=>farL Tryz.prog w 103 b o:=load_rule (d:=_) Tryz.underlying103 rfl (by kernel_rfl) w b o
theorem stSg (w:World) (b o:Nat) (xs:Array Value):(Instr.storeAt 103 (.pointer (some ⟨b,o,none⟩)) (.agg xs)).run Tryz.prog w=
   match w.heap[b]? with
   |some (.cells cs U (0,0))=>
    if o+64≤cs.size∧xs.size=64∧xs.all (·.oneCell')=true then .ok () (setBlock w b (.cells (if o=0∧64=cs.size then xs else wr cs o xs.toList) U (0,0)))else farS Tryz.prog w 103 b o (.agg xs)
   |_=>farS Tryz.prog w 103 b o (.agg xs):=store_rule (by kernel_rfl) w b o xs
theorem alSg (w:World):(Instr.alloc 103 true (.tuple #[])).run Tryz.prog w= .ok (.pointer (some ⟨w.heap.size,0,none⟩)) (w.alloc (.cells zSg 103)):=
 run_alloc_row (z:= .agg zSg) (fun w=>by kernel_rfl) w
end
section
attribute [local go_sem↓] wlKey ldKey stKey wlMsg ldMsg stMsg wlRg ldRg stRg wlTc ldTc stTc ldSg stSg
attribute [local go_sem] kc_ext kc_one kc_one0 kc_size zKey_size mgx_size mgx_ext mgx_one mgx_one0 zMsg_size zMsg_all zMsg_all0
theorem rgx0' {sa:Option Addr} {sn sc:Nat} {m:McR} {la:Option Addr} {ln lc:Nat} (h:0<(rgx sa sn sc m la ln lc).size):(rgx sa sn sc m la ln lc)[0]= .slice sa sn sc:=at_get (rgx0 ..) h
theorem rgx40' {sa:Option Addr} {sn sc:Nat} {m:McR} {la:Option Addr} {ln lc:Nat} (h:40<(rgx sa sn sc m la ln lc).size):(rgx sa sn sc m la ln lc)[40]= .slice la ln lc:=at_get (rgx40 ..) h
attribute [local go_sem] rgx_size rgx_one rgx_one0 rgx0 rgx40 rgx0' rgx40' sgc_size sgc_ext sgc_one0 sgc_one'
def RgA (p:Nat) (S:List Sg) (L:List UInt8) (w:World):Prop:=∃sa sc la lc,w.heap[p]? =some (.cells (rgx sa S.length sc mc0 la L.length lc) 221 (0,0))∧SlOwn sgc 64 103 w (p+1) (.slice sa S.length sc) S∧SlAt uc 1 w la L∧L.length≤lc∧(la=none→lc=0)∧(∀x,la=some x→x.block<p)∧L.length+S.length≤1000000
theorem arrSig2 (b o c:Nat) (w:World):(Instr.arrayAt 103 (.slice (some ⟨b,o,none⟩) 64 c)).run Tryz.prog w= .ok (.pointer (some ⟨b,o,none⟩)) w:=by kernel_rfl
theorem bsSg (k:Sg) (w:World):(Instr.buildSlice 24 1 #[(0,.agg (sgc k))]).run Tryz.prog w= .ok (.slice (some ⟨w.heap.size,0,none⟩) 1 1) (w.alloc (.cells (sgc k) 103)):=by
 obtain⟨i0,hi,hz0,hz1,hz2⟩:=info_parts (show(Tryz.prog.info? 103).map (fun i=>(i.zero,i.size,i.bytes))=some (some (.agg zSg),64,64)by kernel_rfl);refine run_buildSlice w _ _ 1 _ _ i0 _ Tryz.underlying24 hi hz0 (by rw[hz1];omega) (by rw[hz1];omega) ?_;rw[hz1];show Instr.fill _ _ [(0,_)]=_;rw[fill_cons (off:=0) (n:=64) rfl (by simp[Value.cells,sgc_size]) (by simp[Value.cells,zSg,size_madeCells])];show some (wr _ 0 (sgc k).toList)=_;rw[wr_whole (sgc k) _ (by simp[Value.cells,zSg,size_madeCells,sgc_size])]
theorem ldSgRow {b o:Nat} {C:Array Value} {U:TypeId} {fr:Nat×Nat} {x:Sg} {w:World} (h:w.heap[b]? =some (.cells C U fr)) (hr:C.extract o (o+64)=sgc x∧o+64≤C.size):(Instr.loadAt 103 (.pointer (some ⟨b,o,none⟩))).run Tryz.prog w= .ok (.agg (sgc x)) w:=by
 rw[ldSg,h];simp[hr.1,hr.2]
theorem sigY_c {p:Nat} {S:List Sg} {L:List UInt8} {w:World} (h:RgA p S L w) (h64:64≤L.length):
  Calls Tryz.prog 100 #[pV p] w fun e w'=>e= .returned (.bool true)∧RgA p (S++[⟨L.take 64,by rw[List.length_take];omega⟩]) (L.drop 64) w'∧Mod (fun i=>p≤i) w w':=by
 obtain⟨sa,sc,la,lc,kp,hS,hL,hlc,hnl,hbl,hln⟩:=h;obtain⟨nL,hnL⟩:∃nL,L.length=nL:=⟨_,rfl⟩;obtain⟨nS,hnS⟩:∃nS,S.length=nS:=⟨_,rfl⟩;have hL32:(L.take 64).length=64:=by rw[List.length_take];omega
 obtain⟨d,hd0⟩:∃d,nL-64=d:=⟨_,rfl⟩;obtain⟨x,hx⟩:∃x:Sg,x=⟨L.take 64,hL32⟩:=⟨_,rfl⟩;rw[hnL,hnS]at kp;rcases hL with h|⟨b,o,C,U,fr,rfl,kb,hcc⟩
 ·rw[h]at h64;cases h64
 have hrow:=row_of (C:=C) (o:=o) hL32 (fun i y hy=>by
  rw[List.getElem?_take]at hy;split at hy
  ·exact hcc i y hy
  ·cases hy) (by omega)
 have hx2:sgc x=((L.take 64).map bc).toArray:=by rw[hx];rfl
 rw[←hx2]at hrow;have hbp:=hbl _ rfl;simp only at hbp;have HI:=Hi (Ai hnL (Ai hnS (Ai hln (Ai hlc hx))));have HS:=Hi hS;have hlt:=hS.lt;have HLT:=Hi hlt;have HRW:=Hi hrow;have HHD:=Hi (fun w2=>sl_head (P:=Tryz.prog) bytesT (b:=b) (o:=o) (nn:=nL) (c:=lc) (m:=64) (by omega) (by omega) w2);obtain⟨la2,hfr,hfs,hfb,hfn⟩:=sl_from (P:=Tryz.prog) bytesT (w0:=w) (a:=some ⟨b,o,none⟩) (c:=lc) (k:=64) (.inr ⟨b,o,C,U,fr,rfl,kb,hcc⟩) h64 hlc (fun e=>by cases e);rw[hnL]at hfr;rw[hd0]at hfr;have HFR:=Hi hfr;have HD:=Hi hd0;have HFS:=Hi (Ai hfs (Ai hfb hfn));have HKB:Hid (SlAt uc 1 w (some ⟨b,o,none⟩) L):=Hi (.inr ⟨b,o,C,U,fr,rfl,kb,hcc⟩);have hdd:decide (nL<64)=false:=Df (by omega);have hdd1:decide ((nL:Int)<64)=false:=Df (by omega);have har:=arrSig2;clear hS hlt hrow hx2 hfr hfs hfb hfn hx hcc hnl hln hbl hlc hnL hnS hd0;go_enter Tryz.func100,Tryz.ntmps100;go_upto_region 3 with fail;have hsl:=HHD.out;have hbs:=bsSg x;have Lkp:=Ls kp;have Lkb:=Ls kb;refine ZP [0,0,0,0,0,1,0,0,0,1,0,0,1,3,5,0,0,0,6] ?_
 iterate 10 first|refine Zv ?_|refine Zd ?_
 refine Zx hsl ?_;refine Zv ?_;(refine TD.load (v:= ?v13) (p:= ?p13) (Mod.refl _ _) (by simp only[zK];rfl) rfl (by rfl) rfl ?hx13 (fun wq hSq=> ?y13) ?n13;(case hx13=>simp only[zM];try rfl);(case y13=>(have kpq:=hSq.at kp (fun h=>h);have kbq:=hSq.at kb (fun h=>h);exact(ldSgRow kbq HRW.out)));try simp only[zL]);refine Zy hbs fun p22 hp22=> ?_;refine Zi fun w2 hr=> ?_;replace kp:=hr.q kp;replace kb:=hr.q kb;obtain⟨gp22,kp22⟩:=hr.b p22;have m2:=hr.mod;have hpp:=Ls kp;clear hr hsl hbs har;have hO2:=HS.out.mod0 m2;have hNS:=HI.out.2.1;obtain⟨v4,w4,hap,hO4,m4,hn4⟩:=SlOwn.append sgT (q:=[x]) (c:=1) hO2 (SlAt.one kp22 x rfl (sgc_size _)) (by have:=HI.out.2.2.1;simp only[List.length_singleton];omega) (by decide) (by omega) 24;obtain⟨a4,c4,rfl,-,-⟩:=hO4.at sgT;have hlen:(S++[x]).length=nS+1:=by rw[List.length_append,hNS];rfl
 rw[hlen]at hap hO4;rw[hNS]at hap;have hlo:=hO2.lt;replace kp:=m4.at kp (fun e=>by have:=(hlo p e).1;omega);have mF:Mod (fun i=>p≤i) w w4:=(m2.mono (fun _ _ h=>h.elim)).then m4 (fun i _ e=>by have:=(hlo i e).1;omega);have HF:Hid (SlOwn sgc 64 103 w4 (p+1) (.slice a4 (nS+1) c4) (S++[x])∧Mod (fun i=>p≤i) w w4):=Hi ⟨hO4,mF⟩;have HLN:=Hi hlen;clear hO2 hO4 hlo hn4 m4 mF m2 hNS hlen kb kp22 gp22 hpp;refine ZA hap ?_;refine Ze ?_;refine Ze ?_;refine Ze ?_;refine Zz ?_;refine ZS ?_;refine ZN kp fun wn kp mS=> ?_;replace kp:wn.heap[p]? =some (.cells (rgx a4 (nS+1) c4 mc0 (some ⟨b,o,none⟩) nL lc) 221 (0,0)):=by
  rw[kp,rgx_s]
 have hO:=HF.out.1.mod mS (fun i hi e=>by have:=(HF.out.1.lt i hi).1;omega);have HF2:=Hi (Ai hO (HF.out.2.trans (mS.mono (fun i _ e=>by omega))));clear hO mS;obtain⟨w5,rfl⟩:∃w5:World,w5=wn:=⟨_,rfl⟩;go_upto_region 4 with fail;have hfr:=HFR.out;have Lkp:=Ls kp;refine ZP0 [0,0,0,0,1,0,0,0,5] ?_
 iterate 5 first|refine Zv ?_|refine Zd ?_
 refine Zx hfr ?_
 iterate 2 refine Zv ?_
 refine Zi fun wE hr=> ?_;replace kp:=hr.mod.at0 kp;have mE:=hr.mod;refine ZS ?_;refine ZN kp fun w6 kp mS=> ?_;replace kp:w6.heap[p]? =some (.cells (rgx a4 (nS+1) c4 mc0 la2 d (lc-64)) 221 (0,0)):=by
  rw[kp,rgx_l]
 have hO:=(HF2.out.1.mod0 mE).mod mS (fun i hi e=>by have:=(HF2.out.1.lt i hi).1;omega);have HF3:=Hi (Ai hO ((HF2.out.2.then0 mE).trans (mS.mono (fun i _ e=>by omega))));have HKP:=Hi kp;clear hO mS mE hr hfr kp;go_wp2_with fail;go_ret;have hx:=HI.out.2.2.2.2;have hnL:=HI.out.1;have hln:=HI.out.2.2.1;have hdl:(L.drop 64).length=d:=by rw[List.length_drop,hnL];exact HD.out
 refine⟨rfl,⟨a4,c4,la2,lc-64,?_,?_,HFS.out.1 _ (HKB.out.mod HF3.out.2 (fun b' o' e=>by cases e;simp;omega)),by rw[hdl];have:=HI.out.2.2.2.1;have:=HD.out;omega,fun e=>absurd (HFS.out.2.2 e) (by simp),fun y e=>by
  obtain⟨z,hz,he⟩:=HFS.out.2.1 y e;cases hz;rw[←he];exact hbp,by rw[List.length_drop,List.length_append];simp only[List.length_singleton];omega⟩,HF3.out.2⟩
 ·rw[←hx,HLN.out,hdl];exact HKP.out
 ·rw[←hx,HLN.out];exact HF3.out.1
theorem sigN_c {p:Nat} {S:List Sg} {L:List UInt8} {w:World} (h:RgA p S L w) (h64:L.length<64):
  Calls Tryz.prog 100 #[pV p] w fun e w'=>e= .returned (.bool false)∧w'=w:=by
 obtain⟨sa,sc,la,lc,kp,hS,hL,hlc,hnl,hbl,hln⟩:=h;obtain⟨nL,hnL⟩:∃nL,L.length=nL:=⟨_,rfl⟩;obtain⟨nS,hnS⟩:∃nS,S.length=nS:=⟨_,rfl⟩;rw[hnL,hnS]at kp;rw[hnL]at h64;have hdd:decide (nL<64)=true:=Dt (by omega);have hdd1:decide ((nL:Int)<64)=true:=Dt (by omega);clear hS hL hlc hnl hbl hln hnL hnS;go_enter Tryz.func100,Tryz.ntmps100;go_wp2_with fail;go_ret;exact⟨rfl,rfl⟩
end
section
section
variable {P:Program} {ops:Array Oper} {Q:Exit→Act→World→Prop} {i:Nat} {r:List Nat} {a:Act} {o:Oper} {w:World}
theorem sq_alloc {T:TypeId} {z:Array Value} (ho:ops[i]? =some o) (hw:Region.wanted o (yielded ops a.tmps)=true) (hop:o.op= .alloc T)
  (hr:∀w,(Instr.alloc T true (.tuple #[])).run P w= .ok (.pointer (some ⟨w.heap.size,0,none⟩)) (w.alloc (.cells z T)))
  (h:∀q w',w.heap.size=q→w'.heap[q]? =some (.cells z T (0,0))→Mod (fun _=>False) w w'→wpOps P ops Q r (a.put o.dst (.pointer (some ⟨q,0,none⟩))) w'):wpOps P ops Q (i::r) a w:=
 sq_eff ho hw (by simp[execOp,hop,hr w]) (h _ _ rfl (heap_alloc_new _ _) ((Mod.refl _ _).alloc _))
theorem sq_set {p:Nat} {o1 o':Obj} (hb:w.heap[p]? =some o1) (h:∀w',w'.heap[p]? =some o'→Mod (fun i=>i=p) w w'→wpOps P ops Q r a w'):wpOps P ops Q r a (setBlock w p o'):=
 h _ (heap_setBlock w _ (Ls hb)) (mod_set w p o')
theorem sq_setCell {p i:Nat} {cs:Array Value} {U:TypeId} {fr:Nat×Nat} {v:Value} (hb:w.heap[p]? =some (.cells cs U fr))
  (h:∀w',w'.heap[p]? =some (.cells (cs.setIfInBounds i v) U fr)→Mod (fun i=>i=p) w w'→wpOps P ops Q r a w'):wpOps P ops Q r a (w.setCell ⟨p,i,none⟩ v):=by
 rw[setCell_blk hb];exact sq_set hb h
end
end
end Go.Proofs.YtceodkliooeccaaGreatDoor