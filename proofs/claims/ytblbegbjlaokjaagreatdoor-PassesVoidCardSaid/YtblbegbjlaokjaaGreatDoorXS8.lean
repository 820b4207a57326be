/- The lemmas of the proof, part XO8: how the program and its data lie in memory, and what its functions do. -/
import Derived.Test.YtblbegbjlaokjaaGreatDoorXS7
import Derived.Deep.LoopGhost
set_option linter.unusedSimpArgs false
set_option linter.unusedVariables false
set_option linter.unusedSectionVars false

set_option maxRecDepth 20000
set_option maxHeartbeats 3200000
namespace Go.Proofs.YtblbegbjlaokjaaGreatDoor
open Go.RowKit
open Go.ChangeMaps (setBlock)
attribute [local go_sem↓] eP eR eS
attribute [local go_sem] Value.cells aH aC dC cR bY kc_size aK aN aO aP aF bB
structure Ev where
 win:Nat
 bat:Nat
 fli:Nat
 n:Nat
 spd:List Nat
 H:List aQ
 N:List (Sg×aQ)
structure Pa where
 S:List (Option It)
 D:List Nd
 K:List Rn
 q:Nat
 L:List Lk
 al:List aT
 hi:List (Int64×Nat)
 op:List (List Int64)
 gi:List (Nat×List Int64)
 dr:List (UInt64×Nat)
 sd:List Int64
 la:List (List (List Int64))
 fl:List Nat
 co:List UInt64
def ix (i:Int64):Nat:=i.toInt.toNat
def itS (S:List (Option It)) (i:Int64):Option It:=(S[ix i]?).join
def roS (S:List (Option It)) (i:Int64):List aT:=((itS S i).map fun x=>x.r.ro).getD []
def fillP (E:Ev):List Nd→Pa→Pa
 |[],s=> {s with D:=[]}
 |y::D,s=>if s.K.length<E.win then
   match itS s.S y.id with
   |some x=>if cN E.H E.N x.r=0 then fillP E D {s with S:=s.S.set (ix y.id) (some {x with pl:=1}),K:=s.K++[⟨y.id,eC s.K y.id x.r.ro,x.r.ro⟩],q:=s.q+1}
    else fillP E D {s with S:=s.S.set (ix y.id) none,dr:=s.dr++[(x.n,cN E.H E.N x.r)]}
   |none=> {s with D:=y::D}
  else{s with D:=y::D}
def drc (x:UInt64×Nat):Array Value:= #[u64v x.1,.int .u8 (x.2:Int)]
structure Gv where
 w:Nat
 a:Option Addr
 n:Nat
 c:Nat
def gvc (x:Gv):Array Value:= #[.int .i64 (x.w:Int),.slice x.a x.n x.c]
theorem UX:nU Tryz.prog 52 97 drc 2 16 where
 u:=Tryz.underlying52
 info:=by
  obtain⟨i0,hi,hz0,hz1,hz2⟩:=info_parts (show(Tryz.prog.info? 97).map (fun i=>(i.zero,i.size,i.bytes))=some (some (.agg #[.int .u64 0,.int .u8 0]),2,16)by kernel_rfl);exact⟨i0,_,hi,hz0,hz1,hz2,rfl⟩
 pos:=by omega
 size:=fun _=>rfl
 one:=fun x u hu=>by
  simp only[drc,aZc,aZe,or_false]at hu;rcases hu with rfl|rfl<;>rfl
theorem UY:nU Tryz.prog 51 86 gvc 2 32 where
 u:=Tryz.underlying51
 info:=by
  obtain⟨i0,hi,hz0,hz1,hz2⟩:=info_parts (show(Tryz.prog.info? 86).map (fun i=>(i.zero,i.size,i.bytes))=some (some (.agg #[.int .i64 0,.slice none 0 0]),2,32)by kernel_rfl);exact⟨i0,_,hi,hz0,hz1,hz2,rfl⟩
 pos:=by omega
 size:=fun _=>rfl
 one:=fun x u hu=>by
  simp only[gvc,aZc,aZe,or_false]at hu;rcases hu with rfl|rfl<;>rfl
def RowL {α:Type} (f:α→Array Value) (n:Nat) (E:TypeId) (v:Value) (l:List α):aL:=fun T w=>aE f n E w 0 v l∧∀g,v.ownBlock=some g→T g
theorem RowL.good {α:Type} (f:α→Array Value) (n:Nat) (E:TypeId) (v:Value) (l:List α):aI (RowL f n E v l) where
 cl:=fun T w w' h hm=>⟨h.1.mod hm (fun g hg hn=>hn (h.2 g hg)),h.2⟩
 gr:=fun T T' w hT h=>⟨h.1,fun g hg=>hT g (h.2 g hg)⟩
theorem RowL.app {α:Type} {f:α→Array Value} {n B:Nat} {Y E:TypeId} (hT:nU Tryz.prog Y E f n B) {v:Value} {l q:List α} {T:Nat→Prop} {w:World} (h:RowL f n E v l T w) {a:Option Addr} {c:Nat} (hq:aS f n w a q) (hlen:l.length+q.length≤1000000) (hB:B≤100000000) (ty:TypeId):
  ∃v' w',(Builtin.append_ #[Y,Y] ty #[v,.slice a q.length c]).run Tryz.prog w= .ok v' w'∧Goes (RowL f n E v' (l++q)) T w w':=by
 obtain⟨v',w',h1,h2,h3,h4⟩:=aE.append hT (c:=c) h.1 hq hlen hB (aYf _) ty;refine⟨v',w',h1,Grow T w w',⟨h2,fun g hg=> ?_⟩,h3.mono (fun i _ hi=>h.2 i hi),fun _ h=>h⟩;have hlt:=(h2.lt g hg).2;rcases h4 with h4|h4
 ·rw[h4]at hg;exact .inl (h.2 g hg)
 ·rw[h4]at hg;cases hg;exact .inr ⟨aZq _,hlt⟩
def CeL (b:Nat) (C:Array Value) (E:TypeId):aL:=fun T w=>T b∧w.heap[b]? =some (.cells C E (0,0))
theorem CeL.good (b:Nat) (C:Array Value) (E:TypeId):aI (CeL b C E):=aI.at b _
def natV (n:Nat):Value:= .int .i64 (n:Int)
def MI (b:Nat) (m:List (Int64×Nat)):aL:=fun T w=>T b∧∃es c,w.heap[b]? =some (.map es c)∧aR tK natV es c m
theorem MI.good (b:Nat) (m:List (Int64×Nat)):aI (MI b m) where
 cl:=fun T w w' ⟨t,es,c,h,M⟩ hm=>⟨t,es,c,hm.at h (fun e=>e t),M⟩
 gr:=fun T T' w hT ⟨t,h⟩=>⟨hT _ t,h⟩
def BatL (n:Nat) (V:List Value) (L:List (List Int64)):aL:=fun T w=>V.length=L.length∧(∀(j:Nat) (v:Value) (l:List Int64),V[j]? =some v→L[j]? =some l→(j<n→aE ic 1 3 w 0 v l)∧(n≤j→aY ic 1 3 0 w v l)∧∀g,v.ownBlock=some g→T g)∧∀(i j:Nat) (u v:Value),i≠j→V[i]? =some u→V[j]? =some v→∀g,u.ownBlock=some g→v.ownBlock≠some g
theorem BatL.good (n:Nat) (V:List Value) (L:List (List Int64)):aI (BatL n V L) where
 cl:=fun T w w' h hm=>⟨h.1,fun j v l h1 h2=>by
  obtain⟨k1,k2,k3⟩:=h.2.1 j v l h1 h2;exact⟨fun hj=>(k1 hj).mod hm (fun g hg hn=>hn (k3 g hg)),fun hj=>(k2 hj).mod hm (fun g hg hn=>hn (k3 g hg)),k3⟩,h.2.2⟩
 gr:=fun T T' w hT h=>⟨h.1,fun j v l h1 h2=>by
  obtain⟨k1,k2,k3⟩:=h.2.1 j v l h1 h2;exact⟨k1,k2,fun g hg=>hT g (k3 g hg)⟩,h.2.2⟩
theorem BatL.move {n j:Nat} {V:List Value} {A B:List (List Int64)} {T:Nat→Prop} {w:World} (h:BatL n V (A++B) T w) (hA:A.length=n) {b:List Int64} (hj:A[j]? =some b) {v v2:Value} (hv:V[j]? =some v) (hN:aY ic 1 3 0 w v2 b) (ho:v2.ownBlock=v.ownBlock):
  BatL n (V.set j (.slice none 0 0)++[v2]) (A.set j []++(B++[b])) T w:=by
 have hjn:=(aZa.1 hj).1;have hjV:=(aZa.1 hv).1;have hVl:=h.1;rw[aZg]at hVl;have hLe:A.set j []++(B++[b])=(A++B).set j []++[b]:=by rw[List.set_append_left _ _ hjn,aZw]
 have hb0:(A++B)[j]? =some b:=by rw[aZt hjn];exact hj
 have hvT:=(h.2.1 j v b hv hb0).2.2;have hcase:∀(i:Nat) (u:Value),(V.set j (.slice none 0 0)++[v2])[i]? =some u→(u= .slice none 0 0∧i=j)∨(V[i]? =some u∧i≠j∧i<V.length)∨(u=v2∧i=V.length):=fun i u hu=>by
  rw[List.getElem?_append]at hu;split at hu
  ·rename_i hlt;rw[List.getElem?_set]at hu;split at hu
   ·rename_i e
    (try split at hu)<;>cases hu
    exact .inl ⟨rfl,e.symm⟩
   ·rename_i e;rw[aZn]at hlt;exact .inr (.inl ⟨hu,fun e2=>e e2.symm,hlt⟩)
  ·rename_i hlt;rw[aZn]at hlt hu;have h1:=(aZa.1 hu).1;have h2:i=V.length:=by simp at h1;omega
   subst h2;rw[aXn]at hu;cases hu;exact .inr (.inr ⟨rfl,rfl⟩)
 rw[hLe];refine⟨by simp[hVl],fun i u l hu hl=> ?_,fun i k u u' hik hu hu' g hg=> ?_⟩
 ·rcases hcase i u hu with⟨rfl,rfl⟩|⟨h1,h2,h3⟩|⟨rfl,rfl⟩
  ·rw[aZt (by rw[aZn,aZg];omega),List.getElem?_set_self (by rw[aZg];omega)]at hl;cases hl;exact⟨fun _=>aE.nil w 0,fun _=> .inl ⟨rfl,rfl⟩,fun g hg=>by cases hg⟩
  ·rw[aZt (by rw[aZn,aZg];omega),aZ0 (fun e=>h2 e.symm)]at hl;exact h.2.1 i u l h1 hl
  ·have hl2:l=b:=by
    rw[aZ3 (by rw[aZn,aZg];omega),aZn,aZg,hVl,aXn]at hl;cases hl;rfl
   subst hl2;exact⟨fun hlt=>by omega,fun _=>hN,fun g hg=>hvT g (by rw[←ho];exact hg)⟩
 ·rcases hcase i u hu with⟨rfl,rfl⟩|⟨h1,h2,h3⟩|⟨rfl,rfl⟩
  ·cases hg
  ·rcases hcase k u' hu' with⟨rfl,rfl⟩|⟨k1,k2,k3⟩|⟨rfl,rfl⟩
   ·exact fun e=>by cases e
   ·exact h.2.2 i k u u' hik h1 k1 g hg
   ·rw[ho];exact h.2.2 i j u v h2 h1 hv g hg
  ·rw[ho]at hg;rcases hcase k u' hu' with⟨rfl,rfl⟩|⟨k1,k2,k3⟩|⟨rfl,rfl⟩
   ·exact fun e=>by cases e
   ·exact h.2.2 j k v u' (fun e=>k2 e.symm) hv k1 g hg
   ·exact absurd rfl hik
structure Md where
 D:Dk
 X:Pk
 p:Nat
 sb:Nat
 fb:Nat
 cb:Nat
 ob:Nat
 V:List Value
 G:List Gv
 sc:Nat
 sx:List Value
def parts (M:Md) (E:Ev) (s:Pa):List aL:=
 [CeL M.p (pac M.X) 121,CeL M.X.d (iR M.D) 69,BT M.D.b s.S,GL M.X.g s.q s.K,RowL drc 2 97 M.X.dv s.dr,sO M.D.q E.H,JH M.D.sn E.N,fG M.D.t E.n s.L,mN M.D.ln E.n s.la,iM M.X.ab (addB [] s.al),
  CeL M.fb (s.fl.map natV).toArray 3,CeL M.cb (s.co.map u64v).toArray 23,CeL M.sb (E.spd.map fv++M.sx).toArray 129,MI M.X.hb s.hi,CeL M.ob (M.V.take E.n).toArray 53,BatL E.n M.V (s.op++s.gi.map Prod.snd),RowL gvc 2 86 M.X.gv M.G,RowL ic 1 3 M.X.av s.sd]
theorem parts.good (M:Md) (E:Ev) (s:Pa):∀K∈parts M E s,aI K:=by
 intro K hK;simp only[parts,aZc,aZe,or_false]at hK;rcases hK with rfl|rfl|rfl|rfl|rfl|rfl|rfl|rfl|rfl|rfl|rfl|rfl|rfl|rfl|rfl|rfl|rfl|rfl
 ·exact CeL.good _ _ _
 ·exact CeL.good _ _ _
 ·exact BT.good _ _
 ·exact GL.good _ _ _
 ·exact RowL.good _ _ _ _ _
 ·exact sO.good _ _
 ·exact JH.good _ _
 ·exact fG.good _ _ _
 ·exact mN.good _ _ _
 ·exact iM.good _ _
 ·exact CeL.good _ _ _
 ·exact CeL.good _ _ _
 ·exact CeL.good _ _ _
 ·exact MI.good _ _
 ·exact CeL.good _ _ _
 ·exact BatL.good _ _ _
 ·exact RowL.good _ _ _ _ _
 ·exact RowL.good _ _ _ _ _
structure EA (M:Md) (E:Ev) (s:Pa):Prop where
 win:M.D.win=E.win
 bat:M.D.bat=E.bat
 fli:M.D.fli=E.fli
 n1:1≤E.n
 n2:E.n≤64
 fv:M.D.fv= .slice (some ⟨M.fb,0,none⟩) E.n E.n
 cv:M.D.cv= .slice (some ⟨M.cb,0,none⟩) E.n E.n
 sv:M.D.sp= .slice (some ⟨M.sb,0,none⟩) E.n M.sc
 ov:M.X.ov= .slice (some ⟨M.ob,0,none⟩) E.n E.n
 fl:s.fl.length=E.n
 co:s.co.length=E.n
 sp:E.spd.length=E.n
 op:s.op.length=E.n
 la:s.la.length=E.n
 gw:M.G.map (fun x=>(x.w,Value.slice x.a x.n x.c))=(s.gi.map Prod.fst).zip (M.V.drop E.n)
 gl:s.gi.length=M.G.length
def bS (p d:Nat) (E:Ev) (s:Pa):aL:=fun T w=>∃M:Md,M.p=p∧M.X.d=d∧EA M E s∧bQ (parts M E s) T w
theorem bS.good (p d:Nat) (E:Ev) (s:Pa):aI (bS p d E s) where
 cl:=fun T w w' ⟨M,h1,h2,h3,h4⟩ hm=>⟨M,h1,h2,h3,(bQ.good (parts.good M E s)).cl _ _ _ h4 hm⟩
 gr:=fun T T' w hT ⟨M,h1,h2,h3,h4⟩=>⟨M,h1,h2,h3,(bQ.good (parts.good M E s)).gr _ _ _ hT h4⟩
structure jE (s:Pa):Prop where
 pm:s.D.Perm (f9 0 s.S)
 sr:u4 s.D
 qb:s.q+s.D.length≤800
 kd:∀x∈s.K,∀y∈s.D,x.id≠y.id
 db:s.dr.length+s.D.length≤10000
 ro:∀(i:Nat) (x:It),s.S[i]? =some (some x)→x.r.ro.length≤800
 sl:s.S.length≤4096
theorem yQ {i:Nat} (h:i<9223372036854775808):ix (idn i)=i:=by
 unfold ix;rw[cB h];omega
theorem oN (E:Ev):∀(D:List Nd) (s:Pa) (X:List Nd),fillP E D {s with D:=X}=fillP E D s
 |[],s,X=>rfl
 |y::D,s,X=>by
  unfold fillP;dsimp only;split
  ·cases itS s.S y.id with
   |none=>rfl
   |some x=>
    dsimp only;split
    ·exact oN E D {s with S:=s.S.set (ix y.id) (some {x with pl:=1}),K:=s.K++[⟨y.id,eC s.K y.id x.r.ro,x.r.ro⟩],q:=s.q+1} X
    ·exact oN E D {s with S:=s.S.set (ix y.id) none,dr:=s.dr++[(x.n,cN E.H E.N x.r)]} X
  ·rfl
theorem jE.head {s:Pa} (h:jE s) {y:Nd} {D:List Nd} (hD:s.D=y::D):∃i x,y=⟨x.rk,idn i⟩∧s.S[i]? =some (some x)∧x.pl=0∧ix y.id=i∧itS s.S y.id=some x∧i<4096:=by
 obtain⟨i,x,h1,h2,rfl⟩:=i5 (h.pm.mem_iff.1 (by rw[hD];exact List.mem_cons_self));rw[aXe]at *;have hi:=(aZa.1 h1).1;have hs:=h.sl;have hx:ix (idn i)=i:=yQ (by omega);refine⟨i,x,rfl,h1,h2,hx,?_,by omega⟩;unfold itS;dsimp only;rw[hx,h1];rfl
theorem jE.tail {s:Pa} (h:jE s) {y:Nd} {D:List Nd} (hD:s.D=y::D) {i:Nat} {x:It} (hy:y=⟨x.rk,idn i⟩) (hx:s.S[i]? =some (some x)) (hp:x.pl=0):D.Perm (wtgo i s.S)∧u4 D:=by
 have hs:=h.sl;have h1:=mT (by omega) h.pm hx hp;rw[hD,hy,List.eraseP_cons_of_pos (by simp)]at h1;have h2:=h.sr;rw[hD]at h2;exact⟨h1,(List.pairwise_cons.1 h2).2⟩
theorem jE.put {s:Pa} (h:jE s) {y:Nd} {D:List Nd} (hD:s.D=y::D) {i:Nat} {x:It} (hy:y=⟨x.rk,idn i⟩) (hx:s.S[i]? =some (some x)) (hp:x.pl=0) (c:Int64):jE {s with S:=s.S.set i (some {x with pl:=1}),K:=s.K++[⟨y.id,c,x.r.ro⟩],q:=s.q+1,D:=D}:=by
 obtain⟨h1,h2⟩:=h.tail hD hy hx hp;have hi:=(aZa.1 hx).1;have hs:=h.sl;have hq:=h.qb;have hdb:=h.db;rw[hD,aZu]at hq hdb;refine⟨iB h1 hi (by simp[nodeOf]),h2,by show s.q+1+D.length≤800;omega,fun z hz u hu=> ?_,by show s.dr.length+D.length≤10000;omega,fun j z hj=> ?_,by show(s.S.set i _).length≤4096;rw[aZn];exact hs⟩
 ·rcases aZh.1 hz with hz|hz
  ·exact h.kd z hz u (by rw[hD];exact aZp _ hu)
  ·obtain rfl:=aZm.1 hz;rw[hy];exact fun e=>oX (by omega) (h1.mem_iff.1 hu) hi e.symm
 ·dsimp only at hj;rw[List.getElem?_set]at hj;split at hj
  ·(try split at hj)<;>cases hj
   exact h.ro i x hx
  ·exact h.ro j z hj
theorem jE.drop {s:Pa} (h:jE s) {y:Nd} {D:List Nd} (hD:s.D=y::D) {i:Nat} {x:It} (hy:y=⟨x.rk,idn i⟩) (hx:s.S[i]? =some (some x)) (hp:x.pl=0) (f:UInt64×Nat):jE {s with S:=s.S.set i none,dr:=s.dr++[f],D:=D}:=by
 obtain⟨h1,h2⟩:=h.tail hD hy hx hp;have hi:=(aZa.1 hx).1;have hs:=h.sl;have hq:=h.qb;have hdb:=h.db;rw[hD,aZu]at hq hdb;refine⟨iB h1 hi (by simp[nodeOf]),h2,by show s.q+D.length≤800;omega,fun z hz u hu=>h.kd z hz u (by rw[hD];exact aZp _ hu),by show(s.dr++[f]).length+D.length≤10000;rw[aZg,aZx];omega,fun j z hj=> ?_,by show(s.S.set i _).length≤4096;rw[aZn];exact hs⟩;dsimp only at hj;rw[List.getElem?_set]at hj;split at hj
 ·(try split at hj)<;>cases hj
 ·exact h.ro j z hj
theorem rV {E:Ev} {s:Pa} {y:Nd} {D:List Nd} {i:Nat} {x:It} (hD:s.D=y::D) (hl:s.K.length<E.win) (hi:ix y.id=i) (hx:itS s.S y.id=some x) (hf:cN E.H E.N x.r=0):
  fillP E s.D s=fillP E D {s with S:=s.S.set i (some {x with pl:=1}),K:=s.K++[⟨y.id,eC s.K y.id x.r.ro,x.r.ro⟩],q:=s.q+1,D:=D}:=by
 rw[hD]
 conv=>lhs;unfold fillP
 rw[if_pos hl,hx];dsimp only;rw[if_pos hf,hi];exact(oN E D {s with S:=s.S.set i (some {x with pl:=1}),K:=s.K++[⟨y.id,eC s.K y.id x.r.ro,x.r.ro⟩],q:=s.q+1} D).symm
theorem pK {E:Ev} {s:Pa} {y:Nd} {D:List Nd} {i:Nat} {x:It} (hD:s.D=y::D) (hl:s.K.length<E.win) (hi:ix y.id=i) (hx:itS s.S y.id=some x) (hf:cN E.H E.N x.r≠0):
  fillP E s.D s=fillP E D {s with S:=s.S.set i none,dr:=s.dr++[(x.n,cN E.H E.N x.r)],D:=D}:=by
 rw[hD]
 conv=>lhs;unfold fillP
 rw[if_pos hl,hx];dsimp only;rw[if_neg hf,hi];exact(oN E D {s with S:=s.S.set i none,dr:=s.dr++[(x.n,cN E.H E.N x.r)]} D).symm
theorem mY {E:Ev} {s:Pa} (hD:s.D=[]):fillP E s.D s=s:=by
 rw[hD];unfold fillP;cases s;dsimp only at hD;subst hD;rfl
theorem pL {E:Ev} {s:Pa} (hl:¬s.K.length<E.win):fillP E s.D s=s:=by
 cases hD:s.D with
 |nil=>rw[←hD];exact mY hD
 |cons y D=>
  unfold fillP;rw[if_neg hl];cases s;dsimp only at hD;subst hD;rfl
section
attribute [local go_sem↓] jY
attribute [local go_sem] bF dE dW
def NU (base:Nat) (x:It) (v:Value):aL:=fun T w=>∃z:bU,v= .agg (dL z)∧z.con=x∧dM base w z.r∧kA T z.r
theorem nB (base:Nat) (x:It) (v:Value):aI (NU base x v) where
 cl:=fun T w w' h hm=>by
  obtain⟨x,e,hc,hn,hi⟩:=h;exact⟨x,e,hc,hn.mod hm hi (fun i hi hn=>hn hi),hi⟩
 gr:=fun T T' w hT h=>by
  obtain⟨x,e,hc,hn,hi⟩:=h;exact⟨x,e,hc,hn,hi.mono hT⟩
theorem GB {wq:World} {p:Nat} {D:Dk} {X:Pk} {S:List (Option It)} {TB:Nat→Prop} {i:Nat} {x:It} (base:Nat) (hb:base≤wq.heap.size) (T:Nat→Prop) (kp:wq.heap[p]? =some (.cells (pac X) 121 (0,0))) (kd:wq.heap[X.d]? =some (.cells (iR D) 69 (0,0))) (h:BT D.b S TB wq) (hx:S[i]? =some (some x)):Calls Tryz.prog 72 #[ptrV p,.int .i64 (i:Int)] wq fun e w'=>∃v,e= .returned v∧Mod (fun _=>False) wq w'∧NU base x v (Grow T wq w') w':=
 (O6 kp kd h hx).mono fun e w' h=>by
  obtain⟨⟨z,hc,hn,he⟩,hm⟩:=h;exact⟨_,he,hm,z,rfl,hc,hn.lower hb,hn.inn.mono (fun i hi=> .inr hi)⟩
theorem R2 (a:UInt64) (f:Nat) (w:World):(Instr.build 97 #[(0,u64v a),(1,.int .u8 (f:Int))]).run Tryz.prog w= .ok (.agg (drc (a,f))) w:=by kernel_rfl
theorem V6 (x:UInt64×Nat) (w:World):(Instr.buildSlice 52 1 #[(0,.agg (drc x))]).run Tryz.prog w= .ok (.slice (some ⟨w.heap.size,0,none⟩) 1 1) (w.alloc (.cells (drc x) 97)):=by
 obtain⟨i0,hi,hz0,hz1,hz2⟩:=info_parts (show(Tryz.prog.info? 97).map (fun i=>(i.zero,i.size,i.bytes))=some (some (.agg #[.int .u64 0,.int .u8 0]),2,16)by kernel_rfl);refine run_buildSlice w _ _ 1 _ _ i0 _ Tryz.underlying52 hi hz0 (by rw[hz1];omega) (by rw[hz1];omega) ?_;rw[hz1];show Instr.fill _ _ [(0,_)]=_;rw[dV (off:=0) (n:=2) rfl (by simp[Value.cells,drc]) (by simp[Value.cells,size_madeCells])];show some (wr _ 0 (drc x).toList)=_;rw[iK (drc x) _ (by simp[drc,Value.cells,size_madeCells])]
theorem vX (H:List aQ) (N:List (Sg×aQ)) (r:JG):cN H N r=0∨cN H N r=5∨cN H N r=6:=by
 unfold cN;split
 ·split
  ·exact .inr (.inr rfl)
  ·exact .inl rfl
 ·exact .inr (.inl rfl)
theorem gY {Ks:List aL} (h:∀K∈Ks,aI K) {K':aL} (h':aI K') (i:Nat):∀K∈Ks.set i K',aI K:=fun K hK=>by
 rcases aXi hK with h1|rfl
 ·exact h K h1
 ·exact h'
theorem EA.same {M:Md} {E:Ev} {s s':Pa} (h:EA M E s) (h1:s'.fl=s.fl) (h2:s'.co=s.co) (h3:s'.op=s.op) (h4:s'.la=s.la) (h5:s'.gi=s.gi):EA M E s':=
 ⟨h.win,h.bat,h.fli,h.n1,h.n2,h.fv,h.cv,h.sv,h.ov,by rw[h1];exact h.fl,by rw[h2];exact h.co,h.sp,by rw[h3];exact h.op,by rw[h4];exact h.la,by rw[h5];exact h.gw,by rw[h5];exact h.gl⟩
theorem bQ.callX {P:Program} {f:FuncId} {args:Array Value} {Ks:List aL} {T:Nat→Prop} {w:World} {R:Ending→World→Prop} (hG:∀K∈Ks,aI K) (hT:∀a,T a→a<w.heap.size) (hS:bQ Ks T w) {i:Nat} {K K':aL} (hi:Ks[i]? =some K)
  (hc:∀T',(∀a,T' a→T a)→(∀a,T' a→a<w.heap.size)→K T' w→Calls P f args w fun e w'=>R e w'∧Goes K' T' w w'):
  Calls P f args w fun e w'=>R e w'∧Goes (bQ (Ks.set i K')) T w w':=by
 obtain⟨Ts,h1,h2,h3⟩:=hS;refine(hc (Ts i) (h2 i) (fun a ha=>hT a (h2 i a ha)) (h1 i K hi)).mono ?_;rintro e w' ⟨hR,hg⟩;obtain⟨k1,k2⟩:=bQ.step hG hT (aZa.1 hi).1 h1 h2 h3 hg;exact⟨hR,_,k1,k2,fun _ h=>h⟩
attribute [local go_sem↓] dH bZ dF
attribute [local go_sem] bD bW dB jA fS yP tN tO nD tM bG cD cF
theorem OW {p d:Nat} {E:Ev} {s:Pa} {T:Nat→Prop} {w:World} (h:bS p d E s T w) (hT:∀a,T a→a<w.heap.size) (hok:jE s):
  Calls Tryz.prog 68 #[ptrV p] w fun e w'=>e= .returned (.tuple #[])∧Goes (bS p d E (fillP E s.D s)) T w w':=by
 obtain⟨R,hR⟩:∃R,fillP E s.D s=R:=⟨_,rfl⟩;rw[hR];have h0:∃s':Pa,s'.D.length=s.D.length∧jE s'∧fillP E s'.D s'=R∧Goes (bS p d E s') T w w:=⟨s,rfl,hok,hR,Goes.into h (Mod.refl _ _)⟩;have H0:=Hi h0;have HT:=Hi hT;clear h0 h hT hok hR;go_enter Tryz.func68,Tryz.ntmps68;go_wp2_with fail
 go_loopg [] s.D.length (fun k ws=>Hid (∃s':Pa,s'.D.length=k∧jE s'∧fillP E s'.D s'=R∧Goes (bS p d E s') T w ws))
 case atStart=>exact H0
 case round=>
  obtain⟨s',hk,hok,hR,T',hP,hm,hTT⟩:=hrel.out;obtain⟨M,hp,hd,hMk,hS⟩:=hP;have hG:=parts.good M E s';have hT':∀a,T' a→a<wr.heap.size:=fun a ha=>by
   rcases hTT a ha with h|h
   ·have:=HT.out a h;have:=hm.size;omega
   ·exact h.2
  obtain⟨T0,⟨t0,kp⟩,s0⟩:=hS.get (i:=0) rfl;obtain⟨T1,⟨t1,kd⟩,s1⟩:=hS.get (i:=1) rfl;obtain⟨T3,g3,s3⟩:=hS.get (i:=3) rfl;have hr3:qY M.X.g s'.q s'.K T3 wr:=⟨g3,fun a ha=>hT' a (s3 a ha)⟩;rw[hp]at kp;rw[hd]at kd;have HC:=Hi (Ai hk (Ai hok (Ai hR (Ai hm hTT))));have HS:=Hi (Ai hS (Ai hG (Ai hT' (Ai hp (Ai hd hMk)))));have HR3:=Hi hr3;have kpp:=kp;have kdd:=kd;have hwin:=hMk.win;have KPD:=Hi (Ai kp kd);clear hk hok hR hm hTT hS hG hT' hp hMk g3 hr3 s0 s1 s3 t0 t1 hrel kpp kdd;unfold pac at kp;unfold iR at kd;rw[hd]at kp;go_upto_region 0 with fail;have Lkp:=aA kp;have Lkd:=aA kd;refine ZR (fun _ _ v=>v= .int .i64 (s'.K.length:Int)) [0,0,0,1,2,0,0,0,1,0,0,0,1,0] ?_
  iterate 4 first|refine Zv ?_|refine Zd ?_
  (refine Zc ?_ (s:=by intro wq hSq;exact(lenR_c (HR3.out.mod0 hSq)).mono (fun e w' h=>⟨_,h.1,rfl,by rw[h.2];exact Mod.refl _ _⟩));rintro _ rfl;try simp only[zL])
  iterate 9 first|refine Zv ?_|refine Zd ?_
  refine TD.nil (fun w1 hr=> ?_);replace kp:=hr.q kp;replace kd:=hr.q kd;have m1:=hr.mod;clear hr;by_cases hlt:s'.K.length<E.win
  ·have hcd:decide ((s'.K.length:Int)<(M.D.win:Int))=true:=Dt (by rw[hwin];omega);have hlt2:s'.K.length<M.D.win:=by rw[hwin];exact hlt
   have HLT:=Hi hlt;have HM1:=Hi m1;clear hlt hwin m1;obtain hDn|⟨y,D,hDc⟩:s'.D=[]∨∃y D,s'.D=y::D:=by cases s'.D with|nil=>exact .inl rfl|cons y D=>exact .inr ⟨y,D,rfl⟩
   ·obtain⟨hS,hG,hT',hp,hd2,hMk⟩:=HS.out;obtain⟨T2,g2,s2⟩:=hS.get (i:=2) rfl;have hw:f9 0 s'.S=[]:=by
     have:=HC.out.2.1.pm;rw[hDn]at this;exact List.perm_nil.1 this.symm
    have hB:=((BT.good _ _).cl _ _ _ g2 (HM1.out.mono (fun _ _ h=>h.elim)):BT M.D.b s'.S T2 w1);have HB:=Hi (Ai hB hw);have HDN:=Hi hDn;clear hS hG hT' hp hd2 hMk g2 s2 hw hB hDn;go_wp2_with fail;go_at_call 99;refine(bpopN_c HB.out.1.bh HB.out.2).mono ?_;rintro e w2 ⟨rfl,m2⟩;go_wp2_with fail;refine bodyPost_ret (v:= .tuple #[]) (results_none rfl _ _ _) rfl ⟨rfl,?_⟩;obtain⟨hk,hok,hR,hm,hTT⟩:=HC.out;obtain⟨hS,hG,hT',hp,hd2,hMk⟩:=HS.out;rw[mY HDN.out]at hR;rw[←hR];have mm:=HM1.out.then0 m2;exact⟨T',(bS.good p d E s').cl _ _ _ ⟨M,hp,hd2,hMk,hS⟩ (mm.mono (fun _ _ h=>h.elim)),hm.then0 mm,fun a ha=>(hTT a ha).imp (fun h=>h) (fun h=>⟨h.1,aZd h.2 mm.size⟩)⟩
   ·obtain⟨i,x,hy,hx,hpl,hix,hit,hi4⟩:=HC.out.2.1.head hDc;obtain⟨hS,hG,hT',hp,hd2,hMk⟩:=HS.out;have hS1:=hS.mod0 hG HM1.out;have hT1:∀a,T' a→a<w1.heap.size:=fun a ha=>aZd (hT' a ha) HM1.out.size;have hpop:=fun(T2:Nat→Prop) (ht:∀a,T2 a→a<w1.heap.size) (hB:BT M.D.b s'.S T2 w1)=>BT.pop hB HC.out.2.1.pm HC.out.2.1.sr hx (by rw[hDc,hy];rfl);have HPOP:=Hi (bQ.callW (R:=fun e _=>e= .returned (.tuple #[.int .i64 (i:Int),.bool true])) hG hT1 hS1 (i:=2) rfl hpop);have HX:=Hi (Ai hDc (Ai hy (Ai hx (Ai hpl (Ai hix (Ai hit hi4))))));clear hS hG hT' hp hd2 hMk hS1 hT1 hpop hDc hy hx hpl hix hit hi4;go_wp2_with fail;go_at_call 99;refine HPOP.out.mono ?_;rintro e w2 ⟨rfl,hgo⟩;obtain⟨s1,hs1⟩:∃s1:Pa,s1= {s' with S:=s'.S.set i (some {x with pl:=1})}:=⟨_,rfl⟩;have hgo2:Goes (bQ (parts M E s1)) T' w1 w2:=by rw[hs1];exact hgo
    clear hgo HPOP kp kd;obtain⟨T2,hS2,hm2,hT2⟩:=hgo2;obtain⟨U0,⟨_,kp⟩,_⟩:=hS2.get (i:=0) rfl;obtain⟨U1,⟨_,kd⟩,_⟩:=hS2.get (i:=1) rfl;rw[HS.out.2.2.2.1]at kp;rw[hd]at kd;have hx1:s1.S[i]? =some (some {x with pl:=1}):=by rw[hs1];dsimp only;rw[List.getElem?_set_self (aZa.1 HX.out.2.2.1).1]
    obtain⟨U2,hB2,_⟩:=hS2.get (i:=2) rfl;obtain⟨U5,hQ2,_⟩:=hS2.get (i:=5) rfl;obtain⟨U6,hE2,_⟩:=hS2.get (i:=6) rfl;have HB2:=Hi (Ai hB2 (Ai hx1 (Ai hQ2.1 (Ai hE2 (Ai kp kd)))));have HS2:=Hi (Ai hS2 (Ai hm2 (Ai hT2 hs1)));clear hB2 hx1 hQ2 hE2 hS2 hm2 hT2 hs1;unfold pac at kp;unfold iR at kd;rw[hd]at kp;go_upto_region 3 with fail;have Lkp:=aA kp;have Lkd:=aA kd;refine wp_gpass0 (T0:=fun _=>False) (K:=fun _ _=>True) (κ:=fun i=>[0,0,6,3,4].getD i 0) (υ:=fun _=>[]) [0,1,2,3,4] (by kernel_rfl) (by kernel_rfl) (aI.true).cl (trivial) (fun _ h=>h.elim) ?_;have gK:=aI.true
    iterate 2 refine Zg ?_
    (refine ZJ (NU w2.heap.size {x with pl:=1}) (nB w2.heap.size {x with pl:=1}) gK ?_ (s:=fun T wq kq ltq hSq ub=>by have kpq:=hSq.at kp (fun h=>h);have kdq:=hSq.at kd (fun h=>h);exact GB w2.heap.size hSq.size T (hSq.at0 HB2.out.2.2.2.2.1) (hSq.at0 (by rw[hd];exact HB2.out.2.2.2.2.2)) ((BT.good _ _).cl _ _ _ HB2.out.1 (hSq.mono (fun _ _ h=>h.elim))) HB2.out.2.1);rintro v17 ⟨wI,TI,hI⟩;replace gK:=gK.and ((nB w2.heap.size {x with pl:=1}) v17);(obtain⟨_,z,rfl,_⟩:=hI.k);(try clear hI TI wI);try simp only[zL]);(refine TG.allocB (by simp only[zK];rfl) rfl (by rfl) rfl rfl eT (fun p4 hp4 _=> ?n18);try simp only[zL]);(refine TG.storeB (d:= ?d19) (T:= ?T19) (y:= ?y19) (p:= ?p19) (b:= ?b19) (v:= ?v19) (by simp only[zK];rfl) rfl (by rfl) ?hd19 ?hop19 ?hev19 ?hx19 ?hb19 ?htag19 (fun w1 hb1=> ?hy19) ?hn19;(case hd19=>rfl);(case hop19=>rfl);(case hev19=>(simp only[zM];(try rfl)));(case hx19=>simp only[zM];try rfl);(case hb19=>first|exact Bx.set_same _ _ _|(simp only[Bx.set_same];rfl));(case htag19=>exact⟨rfl,rfl⟩);(case hy19=>(go_simp;(try first|with_reducible rfl|(rw[setCell_blk hb1];rfl))));try simp only[zL]);refine TG.nil (fun w3 ⟨TR,hr⟩=> ?_);replace kp:=hr.q kp;replace kd:=hr.q kd;obtain⟨gp4,nTp4,kp4⟩:=hr.b p4;clear gK;obtain⟨_,z2,hz,hzc,hzn,hzi⟩:=hr.k;rename_i hZ0 _ _;clear hZ0;injection hz with hz
    have m3:=hr.mod;have HZ:=Hi (Ai hzc (Ai hzn hzi));rw[hz]at kp4;clear hr hzc hzn hzi hz;have hfa:=OV (p:=p) (D:=M.D) (X:=M.X) (m3.at0 HB2.out.2.2.2.2.1) (m3.at0 (by rw[hd];exact HB2.out.2.2.2.2.2)) (HB2.out.2.2.1.mod0 m3) (HB2.out.2.2.2.1.mod0 m3) z2 HZ.out.2.1.ok.sg;have HFA:=Hi hfa;clear hfa;go_wp2_with fail;go_at_call 100;refine HFA.out.mono ?_;rintro e w4 ⟨rfl,m4⟩;have kp4:=m4.at0 kp4;have kp:=m4.at0 kp;have kd:=m4.at0 kd;have hcon:z2.r.con=x.r:=congrArg It.r HZ.out.1;have hnum:z2.n=x.n:=congrArg It.n HZ.out.1;rw[hcon];have M4:=Hi (m3.then0 m4);have M34:=Hi m4;have HCN:=Hi (Ai hcon hnum);clear hcon hnum m3 HFA m4;by_cases hf:cN E.H E.N x.r=0
    ·rw[hf];have HF:=Hi hf;clear hf;go_upto_region 8 with fail;have Lkp:=aA kp;have Lkd:=aA kd;have Lkp4:=aA kp4;refine ZP [0,0,0,1,0,0,0,1,5] ?_
     iterate 8 first|refine Zv ?_|refine Zd ?_
     refine Zi fun w5 hr=> ?_;replace kp:=hr.q kp;replace kd:=hr.q kd;replace kp4:=hr.q kp4;have M5:=Hi (M4.out.then0 hr.mod);have M35:=Hi (M34.out.then0 hr.mod);clear hr;have hputt:Calls Tryz.prog 102 #[ptrV M.X.g,.int .i64 (i:Int),.slice z2.r.ro.a z2.r.ro.l.length z2.r.ro.c] w5 fun e w'=>e= .returned (.int .i64 0)∧Goes (bQ ((parts M E s1).set 3 (GL M.X.g (s1.q+1) (s1.K++[⟨idn i,eC s1.K (idn i) z2.r.ro.l,z2.r.ro.l⟩])))) T2 w2 w':=by
      obtain⟨hS2,hm2,hT2,hs1⟩:=HS2.out;obtain⟨hDc,hy,hx,hpl,hix,hit,hi4⟩:=HX.out;have hlt2:∀a,T2 a→a<w2.heap.size:=fun a ha=>by
       rcases hT2 a ha with h|h
       ·have h1:=HS.out.2.2.1 a h;have h2:=HM1.out.size;have h3:=hm2.size;omega
       ·exact h.2
      have hlt5:∀a,T2 a→a<w5.heap.size:=fun a ha=>aZd (hlt2 a ha) M5.out.size;have hcall:=bQ.callX (R:=fun e _=>e= .returned (.int .i64 0)) (parts.good M E s1) hlt5 (hS2.mod0 (parts.good M E s1) M5.out) (i:=3) rfl (fun T3 hsub ht hg=>GL.put hg ht (q:=s1.q) (by
        have:=HC.out.2.1.qb;rw[hs1];show s'.q<900;omega) (idn i) z2.r.ro.a z2.r.ro.l z2.r.ro.c ((HZ.out.2.1.mod0 M35.out).ok.ro) (by
        have h1:z2.r.ro.l=x.r.ro:=congrArg JG.ro HCN.out.1;rw[h1];exact HC.out.2.1.ro i x hx) (fun _ b o hb ht3=>by
        have h1:=hlt2 b (hsub b ht3);have h2:=(HZ.out.2.1.inn.ro b o hb).1;omega) (fun u hu=>by
        rw[hs1]at hu;have:=HC.out.2.1.kd u hu y (by rw[hDc];exact List.mem_cons_self);rw[hy]at this;exact this))
      rw[cB (by omega)]at hcall;refine hcall.mono ?_;rintro e w' ⟨he,hg⟩;exact⟨he,Goes.trans (K1:=bQ (parts M E s1)) (M5.out.mono (fun _ _ h=>h.elim)) (fun a ha=> .inl ha) hg⟩
     (refine cA (by simp only[zK];rfl) (by rfl) ?y29 hputt (fun wn hP=> ?n29);(case y29=>(go_simp;(try(first|with_reducible rfl|(constructor<;>with_reducible rfl)))));try simp only[zL]);refine TE.nil ?_;clear hputt;go_wp2_with fail
     go_roundg D.length
     case measure=>
      have h1:=HC.out.1;rw[HX.out.1,aZu]at h1;omega
     case rel=>
      obtain⟨hk,hok,hR,hm,hTT⟩:=HC.out;obtain⟨hS,hG,hT',hp,hd2,hMk⟩:=HS.out;obtain⟨hDc,hy,hx,hpl,hix,hit,hi4⟩:=HX.out;obtain⟨hS2,hm2,hT2,hs1⟩:=HS2.out;have hro:z2.r.ro.l=x.r.ro:=congrArg JG.ro HCN.out.1;have hyi:y.id=idn i:=by rw[hy]
      refine Hi ⟨{s' with S:=s'.S.set i (some {x with pl:=1}),K:=s'.K++[⟨y.id,eC s'.K y.id x.r.ro,x.r.ro⟩],q:=s'.q+1,D:=D},rfl,hok.put hDc hy hx hpl _,by rw[←hR];exact(rV hDc HLT.out hix hit HF.out).symm,?_⟩;refine Goes.trans (K1:=bS p d E s') (hm.then0 HM1.out) (fun a ha=>(hTT a ha).imp (fun h=>h) (fun h=>⟨h.1,aZd h.2 HM1.out.size⟩)) ?_;refine Goes.trans (K1:=bS p d E s1) hm2 hT2 ?_;obtain⟨T5,k1,k2,k3⟩:=hP;refine⟨T5,⟨M,hp,hd2,hMk.same rfl rfl rfl rfl rfl,?_⟩,k2,k3⟩;rw[hs1,hro,←hyi]at k1;exact k1
    ·obtain⟨F,hFe⟩:∃F,cN E.H E.N x.r=F:=⟨_,rfl⟩;have hF5:=vX E.H E.N x.r;rw[hFe]at hF5 hf;rw[hFe];have hF0:¬((F:Int)=0):=by omega
     have hd0:decide ((F:Int)=0)=false:=Df hF0;have HFE:=Hi (Ai hFe hf);clear hFe hf hF5;go_upto_region 6 with fail;have Lkp:=aA kp;have Lkd:=aA kd;have Lkp4:=aA kp4;refine ZP [0,0,0,0,0,1,0,1,0,0,3,5,0,0,0,6] ?_
     iterate 9 first|refine Zv ?_|refine Zd ?_
     refine Zu (R2 z2.n F) ?_;refine Zy (V6 (z2.n,F)) fun p51 hp51=> ?_;refine Zi fun w5 hr=> ?_;replace kp:=hr.q kp;replace kd:=hr.q kd;replace kp4:=hr.q kp4;obtain⟨gp51,kp51⟩:=hr.b p51;have M5:=Hi (M4.out.then0 hr.mod);clear hr;have happ:∃v6 w6,(Builtin.append_ #[52,52] 52 #[M.X.dv,.slice (some ⟨p51,0,none⟩) 1 1]).run Tryz.prog w5= .ok v6 w6∧Goes (bQ (parts M E s1|>.set 4 (RowL drc 2 97 v6 (s1.dr++[(z2.n,F)])))) T2 w5 w6∧∃a6 n6 c6,v6= .slice a6 n6 c6:=by
      obtain⟨hS2,hm2,hT2,hs1⟩:=HS2.out;have hG:=parts.good M E s1;obtain⟨Ts,h1,h2,h3⟩:=hS2.mod0 hG M5.out;have hlt2:∀a,T2 a→a<w2.heap.size:=fun a ha=>by
       rcases hT2 a ha with h|h
       ·have h1:=HS.out.2.2.1 a h;have h2:=HM1.out.size;have h3:=hm2.size;omega
       ·exact h.2
      have hlt5:∀a,T2 a→a<w5.heap.size:=fun a ha=>aZd (hlt2 a ha) M5.out.size;have hr4:RowL drc 2 97 M.X.dv s1.dr (Ts 4) w5:=h1 4 _ rfl;have hdb:s1.dr.length+1≤1000000:=by
       have:=HC.out.2.1.db;rw[hs1];show s'.dr.length+1≤1000000;omega
      obtain⟨v6,w6,hap,hg⟩:=RowL.app UX hr4 (q:=[(z2.n,F)]) (c:=1) (aS.one kp51 (z2.n,F) rfl rfl) (by simp only[aZx];exact hdb) (by decide) 52;obtain⟨k1,k2⟩:=bQ.step hG hlt5 (i:=4) (by simp[parts]) h1 h2 h3 hg;obtain⟨T9,hrow,_⟩:=id hg;obtain⟨a6,c6,e6,_⟩:=hrow.1.at UX;exact⟨v6,w6,hap,⟨_,k1,k2,fun _ h=>h⟩,a6,_,c6,e6⟩
     obtain⟨v6,w6,hap,hg6,a6,n6,c6,rfl⟩:=happ;obtain⟨T6,hS6,hm6,hT6⟩:=hg6;obtain⟨U7,⟨_,kp6⟩,_⟩:=hS6.get (i:=0) rfl;rw[HS.out.2.2.2.1]at kp6;unfold pac at kp6;rw[hd]at kp6;have H6:=Hi (Ai hS6 (Ai hm6 hT6));clear hS6 hm6 hT6 kp kd kp4 kp51;refine ZA hap ?_;refine Ze ?_;refine Ze ?_;refine Ze ?_;refine Zz ?_;refine ZS ?_;refine ZN kp6 fun wn kp6 mS=> ?_;(try simp only[Array.setIfInBounds,zL]at kp6);clear hap;have h7:∃M1 s2,M1= {M with X:= {M.X with dv:= .slice a6 n6 c6}}∧s2= {s1 with dr:=s1.dr++[(z2.n,F)]}∧Goes (bQ (parts M1 E s2)) T6 w6 wn:=by
      obtain⟨hS6,hm6,hT6⟩:=H6.out;have hlt6:∀a,T6 a→a<w6.heap.size:=fun a ha=>by
       rcases hT6 a ha with h|h
       ·obtain⟨hS2,hm2,hT2,hs1⟩:=HS2.out;have h5:=M5.out.size;have h6:=hm6.size;rcases hT2 a h with h|h
        ·have h1:=HS.out.2.2.1 a h;have h2:=HM1.out.size;have h3:=hm2.size;omega
        ·have:=h.2;omega
       ·exact h.2
      have hG:∀K∈((parts M E s1).set 4 (RowL drc 2 97 (.slice a6 n6 c6) (s1.dr++[(z2.n,F)]))),aI K:=gY (parts.good M E s1) (RowL.good _ _ _ _ _) 4;obtain⟨Ts,h1,h2,h3⟩:=hS6;have hp0:CeL M.p (pac M.X) 121 (Ts 0) w6:=h1 0 _ rfl;have hg:Goes (CeL M.p (pac {M.X with dv:= .slice a6 n6 c6}) 121) (Ts 0) w6 wn:=Goes.into ⟨hp0.1,by
       rw[HS.out.2.2.2.1];unfold pac;dsimp only;rw[hd];exact kp6⟩ (mS.mono (fun a _ ha=>by rw[ha,←HS.out.2.2.2.1];exact hp0.1))
      obtain⟨k1,k2⟩:=bQ.step hG hlt6 (i:=0) (by simp[parts]) h1 h2 h3 hg;exact⟨_,_,rfl,rfl,_,k1,k2,fun _ h=>h⟩
     obtain⟨M1,s2,hM1,hs2,hg7⟩:=h7;obtain⟨T7,hS7,hm7,hT7⟩:=hg7;have hd7:M1.X.d=d:=by rw[hM1];exact hd
     have hp7:M1.p=p:=by rw[hM1];exact HS.out.2.2.2.1
     have hb7:M1.D=M.D:=by rw[hM1]
     obtain⟨U8,⟨_,kp⟩,_⟩:=hS7.get (i:=0) rfl;obtain⟨U9,⟨_,kd⟩,_⟩:=hS7.get (i:=1) rfl;rw[hp7]at kp;rw[hd7]at kd;unfold pac at kp;rw[hd7]at kp;rw[hb7]at kd;unfold iR at kd;have H7:=Hi (Ai hS7 (Ai hm7 (Ai hT7 (Ai hM1 hs2))));clear hS7 hm7 hT7 hM1 hs2 kp6 mS hd7 hp7 hb7;have hdone:Calls Tryz.prog 101 #[ptrV M.D.b,.int .i64 (i:Int)] wn fun e w'=>e= .returned (.int .i64 0)∧Goes (bQ ((parts M1 E s2).set 2 (BT M.D.b (s2.S.set i none)))) T7 wn w':=by
      obtain⟨hS7,hm7,hT7,hM1,hs2⟩:=H7.out;obtain⟨hS6,hm6,hT6⟩:=H6.out;obtain⟨hS2,hm2,hT2,hs1⟩:=HS2.out;have hlt7:∀a,T7 a→a<wn.heap.size:=fun a ha=>by
       have h7:=hm7.size;have h5:=M5.out.size;have h6:=hm6.size;rcases hT7 a ha with h|h
       ·rcases hT6 a h with h|h
        ·rcases hT2 a h with h|h
         ·have h1:=HS.out.2.2.1 a h;have h2:=HM1.out.size;have h3:=hm2.size;omega
         ·have:=h.2;omega
        ·have:=h.2;omega
       ·exact h.2
      have hx2:s2.S[i]? =some (some {x with pl:=1}):=by
       rw[hs2];show s1.S[i]? =_;exact HB2.out.2.1
      exact bQ.callW (R:=fun e _=>e= .returned (.int .i64 0)) (parts.good M1 E s2) hlt7 hS7 (i:=2) rfl (fun T3 ht hB=>by
       rw[hM1]at hB;exact BT.done hB hx2)
     have HDO:=Hi hdone;clear hdone;go_wp2_with fail;go_at_call 101;refine HDO.out.mono ?_;rintro e w8 ⟨rfl,hg8⟩;clear kp kd HDO;go_wp2_with fail
     go_roundg D.length
     case measure=>
      have h1:=HC.out.1;rw[HX.out.1,aZu]at h1;omega
     case rel=>
      obtain⟨hk,hok,hR,hm,hTT⟩:=HC.out;obtain⟨hS,hG,hT',hp,hd2,hMk⟩:=HS.out;obtain⟨hDc,hy,hx,hpl,hix,hit,hi4⟩:=HX.out;obtain⟨hS2,hm2,hT2,hs1⟩:=HS2.out;obtain⟨hS6,hm6,hT6⟩:=H6.out;obtain⟨hS7,hm7,hT7,hM1,hs2⟩:=H7.out;refine Hi ⟨{s' with S:=s'.S.set i none,dr:=s'.dr++[(x.n,cN E.H E.N x.r)],D:=D},rfl,hok.drop hDc hy hx hpl _,by rw[←hR];exact(pK hDc HLT.out hix hit (by rw[HFE.out.1];exact HFE.out.2)).symm,?_⟩;refine Goes.trans (K1:=bS p d E s') (hm.then0 HM1.out) (fun a ha=>(hTT a ha).imp (fun h=>h) (fun h=>⟨h.1,aZd h.2 HM1.out.size⟩)) ?_;refine Goes.trans (K1:=bS p d E s1) hm2 hT2 ?_;refine Goes.trans (K1:=bS p d E s1) (M5.out.mono (fun _ _ h=>h.elim)) (fun a ha=> .inl ha) ?_;refine Goes.trans (K1:=bS p d E s1) hm6 hT6 ?_;refine Goes.trans (K1:=bS p d E s1) hm7 hT7 ?_;obtain⟨T8,k1,k2,k3⟩:=hg8;refine⟨T8,⟨M1,by rw[hM1];exact hp,by rw[hM1];exact hd2,?_,?_⟩,k2,k3⟩
      ·rw[hM1];exact⟨hMk.win,hMk.bat,hMk.fli,hMk.n1,hMk.n2,hMk.fv,hMk.cv,hMk.sv,hMk.ov,hMk.fl,hMk.co,hMk.sp,hMk.op,hMk.la,hMk.gw,hMk.gl⟩
      ·have e:s2.S.set i none=s'.S.set i none:=by
        rw[hs2,hs1];exact List.set_set ..
       rw[e,hM1,hs2,hs1,HCN.out.2,←HFE.out.1]at k1;rw[hM1];exact k1
  ·have hcd:decide ((s'.K.length:Int)<(M.D.win:Int))=false:=Df (by rw[hwin];omega);have hlt2:¬s'.K.length<M.D.win:=by rw[hwin];exact hlt
   have HLT:=Hi hlt;have HM1:=Hi m1;clear hlt hwin m1;go_wp2_with fail
   first
    |refine bodyPost_end (v:= .tuple #[]) (results_none rfl _ _ _) rfl ⟨rfl,?_⟩
    |refine bodyPost_ret (v:= .tuple #[]) (results_none rfl _ _ _) rfl ⟨rfl,?_⟩
   obtain⟨hk,hok,hR,hm,hTT⟩:=HC.out;obtain⟨hS,hG,hT',hp,hd2,hMk⟩:=HS.out;rw[pL HLT.out]at hR;rw[←hR];exact⟨T',(bS.good p d E s').cl _ _ _ ⟨M,hp,hd2,hMk,hS⟩ (HM1.out.mono (fun _ _ h=>h.elim)),hm.then0 HM1.out,fun a ha=>(hTT a ha).imp (fun h=>h) (fun h=>⟨h.1,aZd h.2 HM1.out.size⟩)⟩
end
def pushP (j:Nat) (s:Pa):Pa:=if s.op.getD j []=[]then s else{s with la:=s.la.set j (s.la.getD j []++[s.op.getD j []]),gi:=s.gi++[(j,s.op.getD j [])],op:=s.op.set j []}
theorem b9 {T T1 S:Nat→Prop} {w w1:World} (hT:∀a,T a→a<w.heap.size) (hm:Mod S w w1) (h:∀a,T1 a→T a∨(w.heap.size≤a∧a<w1.heap.size)):∀a,T1 a→a<w1.heap.size:=fun a ha=>by
 rcases h a ha with h|h
 ·exact aZd (hT a h) hm.size
 ·exact h.2
theorem bldBa (j:Nat) (a:Option Addr) (n c:Nat) (w:World):(Instr.build 86 #[(0,.int .i64 (j:Int)),(1,.slice a n c)]).run Tryz.prog w= .ok (.agg (gvc ⟨j,a,n,c⟩)) w:=by kernel_rfl
theorem bsBa (x:Gv) (w:World):(Instr.buildSlice 51 1 #[(0,.agg (gvc x))]).run Tryz.prog w= .ok (.slice (some ⟨w.heap.size,0,none⟩) 1 1) (w.alloc (.cells (gvc x) 86)):=by
 obtain⟨i0,hi,hz0,hz1,hz2⟩:=info_parts (show(Tryz.prog.info? 86).map (fun i=>(i.zero,i.size,i.bytes))=some (some (.agg #[.int .i64 0,.slice none 0 0]),2,32)by kernel_rfl);refine run_buildSlice w _ _ 1 _ _ i0 _ Tryz.underlying51 hi hz0 (by rw[hz1];omega) (by rw[hz1];omega) ?_;rw[hz1];show Instr.fill _ _ [(0,_)]=_;rw[dV (off:=0) (n:=2) rfl (by simp[Value.cells,gvc]) (by simp[Value.cells,size_madeCells])];show some (wr _ 0 (gvc x).toList)=_;rw[iK (gvc x) _ (by simp[gvc,Value.cells,size_madeCells])]
theorem AX {p d j:Nat} {E:Ev} {s:Pa} {T:Nat→Prop} {w:World} (h:bS p d E s T w) (hT:∀a,T a→a<w.heap.size) (hj:j<E.n) {b:List Int64} (hb:s.op[j]? =some b) {q:List (List Int64)} (hq:s.la[j]? =some q) (hbl:b.length≤64) (hql:q.length≤1000) (hsum:sumB q≤100000) (hgi:s.gi.length≤10000):
  Calls Tryz.prog 33 #[ptrV p,.int .i64 (j:Int)] w fun e w'=>e= .returned (.tuple #[])∧Goes (bS p d E (pushP j s)) T w w':=by
 obtain⟨M,hp,hd,hMk,hS⟩:=h;have hG:=parts.good M E s;obtain⟨T0,⟨_,kp⟩,_⟩:=hS.get (i:=0) rfl;obtain⟨T1,⟨_,kd⟩,_⟩:=hS.get (i:=1) rfl;obtain⟨T14,⟨_,kob⟩,_⟩:=hS.get (i:=14) rfl;obtain⟨T15,hB,_⟩:=hS.get (i:=15) rfl;have hb0:(s.op++s.gi.map Prod.snd)[j]? =some b:=by rw[aZt (by rw[hMk.op];exact hj)];exact hb
 have hVl:=hB.1;rw[aZg,hMk.op]at hVl;obtain⟨v,hv⟩:∃v,M.V[j]? =some v:=⟨_,aZb (by omega)⟩;have hown:=(hB.2.1 j v b hv hb0).1 hj;obtain⟨a,c,v2,hv1,hv2,hcl,hN,ho⟩:=hown.newS fZ;subst hv1;subst hv2;have hsl:=hN.at;obtain⟨C,hC⟩:∃C,(M.V.take E.n).toArray=C:=⟨_,rfl⟩;have hk0:C[j]? =some (.slice a b.length c):=by
  rw[←hC,zA,aXx hj];exact hv
 have hk1:∀h:j<C.size,C[j]= .slice a b.length c:=fun h=>aU hk0 h;have hk2:=(aZf.1 hk0).1;rw[hC]at kob;have HS:=Hi (Ai hS (Ai hT (Ai hp (Ai hd hMk))));have HB:=Hi (Ai hb (Ai hq (Ai hv (Ai hcl (Ai hN (Ai ho hC))))));have hov:=hMk.ov;rw[hp]at kp;rw[hd]at kd;unfold pac at kp;unfold iR at kd;rw[hd,hov]at kp;clear hS hT hp hMk hb hq hv hcl hN ho hC hb0 hVl hB hG hown hsl hov;go_enter Tryz.func33,Tryz.ntmps33;by_cases hbn:b=[]
 ·subst hbn;have hkk0:C[j]? =some (.slice a 0 c):=hk0;have hkk1:∀h:j<C.size,C[j]= .slice a 0 c:=hk1;clear hk0 hk1;go_wp2_with fail;refine bodyPost_ret (v:= .tuple #[]) (results_none rfl _ _ _) rfl ⟨rfl,?_⟩;obtain⟨hS,hT,hp,hd2,hMk⟩:=HS.out;have hP:pushP j s=s:=by
   unfold pushP;rw[if_pos];rw[aZk,HB.out.1];rfl
  rw[hP];exact Goes.into ⟨M,hp,hd2,hMk,hS⟩ (Mod.refl _ _)
 ·have hlen:0<b.length:=List.length_pos_iff.2 hbn;have hne:¬((b.length:Int)=0):=by omega
  have hne2:¬b.length=0:=by omega
  go_upto_region 1 with fail;have Lkp:=aA kp;have Lkd:=aA kd;have Lkob:=aA kob;refine ZP [0,0,0,1,0,0,1,0,0,0,0,1,0,0,1,5] ?_
  iterate 15 first|refine Zv ?_|refine Zd ?_
  refine Zi fun w1 hr=> ?_;replace kp:=hr.q kp;replace kd:=hr.q kd;replace kob:=hr.q kob;have m1:=Hi hr.mod;clear hr;obtain⟨s1,hs1⟩:∃s1:Pa,s1= {s with la:=s.la.set j (q++[b])}:=⟨_,rfl⟩;have hpush:Calls Tryz.prog 76 #[ptrV M.D.ln,.int .i64 (j:Int),.slice a b.length c] w1 fun e w'=>e= .returned (.int .i64 0)∧Goes (bQ (parts M E s1)) T w1 w':=by
   obtain⟨hS,hT,hp,hd2,hMk⟩:=HS.out;obtain⟨hb,hq,hv,hcl,hN,ho,hC⟩:=HB.out;have hG:=parts.good M E s;have hlt:∀x,T x→x<w1.heap.size:=fun x hx=>aZd (hT x hx) m1.out.size;obtain⟨Ts,h1,h2,h3⟩:=hS.mod0 hG m1.out;have hl8:mN M.D.ln E.n s.la (Ts 8) w1:=h1 8 _ rfl;have hb15:BatL E.n M.V (s.op++s.gi.map Prod.snd) (Ts 15) w1:=h1 15 _ rfl;have hb0:(s.op++s.gi.map Prod.snd)[j]? =some b:=by rw[aZt (by rw[hMk.op];exact hj)];exact hb
   obtain⟨k1,_,k3⟩:=hb15.2.1 j _ b hv hb0;obtain⟨a2,c2,e2,hat,_⟩:=(k1 hj).at fZ;injection e2 with e3 _ e4
   subst e3;refine(K0 hl8 (fun i hi=>hlt i (h2 8 i hi)) hj hMk.n2 hq hql hsum a b c hat (fun g o hg ht=>h3 15 8 g (by decide) (k3 g (by rw[hg];rfl)) ht) (by omega) hbl).mono ?_;rintro e w' ⟨he,hg⟩;obtain⟨k1,k2⟩:=bQ.step hG hlt (i:=8) (by simp[parts]) h1 h2 h3 hg;rw[hs1];exact⟨he,_,k1,k2,fun _ h=>h⟩
  (refine cA (by simp only[zK];rfl) (by rfl) ?y17 hpush (fun wn hP=> ?n17);(case y17=>(go_simp;(try(first|with_reducible rfl|(constructor<;>with_reducible rfl)))));try simp only[zL]);refine TE.nil ?_;clear hpush kp kd kob;obtain⟨w2,hw2⟩:∃w2,wn=w2:=⟨_,rfl⟩;rw[hw2]at hP⊢;obtain⟨T2,hS2,hm2,hT2⟩:=hP;have hMk1:EA M E s1:=by rw[hs1];exact⟨HS.out.2.2.2.2.win,HS.out.2.2.2.2.bat,HS.out.2.2.2.2.fli,HS.out.2.2.2.2.n1,HS.out.2.2.2.2.n2,HS.out.2.2.2.2.fv,HS.out.2.2.2.2.cv,HS.out.2.2.2.2.sv,HS.out.2.2.2.2.ov,HS.out.2.2.2.2.fl,HS.out.2.2.2.2.co,HS.out.2.2.2.2.sp,HS.out.2.2.2.2.op,by show(s.la.set j (q++[b])).length=E.n;rw[aZn];exact HS.out.2.2.2.2.la,HS.out.2.2.2.2.gw,HS.out.2.2.2.2.gl⟩
  obtain⟨U0,⟨_,kp⟩,_⟩:=hS2.get (i:=0) rfl;obtain⟨U14,⟨_,kob⟩,_⟩:=hS2.get (i:=14) rfl;rw[HB.out.2.2.2.2.2.2]at kob;rw[HS.out.2.2.1]at kp;unfold pac at kp;rw[hd,HS.out.2.2.2.2.ov]at kp;have H2:=Hi (Ai hS2 (Ai hm2 (Ai hT2 (Ai hMk1 hs1))));have hcl:=HB.out.2.2.2.1;have HCL:=Hi hcl;clear hS2 hm2 hT2 hMk1 hs1 hcl hw2;go_upto_region 2 with fail;have Lkp:=aA kp;have Lkob:=aA kob;refine ZR (fun _ _ v=>v= .slice a b.length b.length) [0,0,0,0,0,1,0,0,0,0,1,0,0,1,2,0,3,5,0,0,0,6] ?_
  iterate 14 first|refine Zv ?_|refine Zd ?_
  (refine Zc ?_ (s:=by intro wq hSq;exact(clipI_cG (.slice a b.length c) (.slice a b.length b.length) wq b.length rfl HCL.out).mono (fun e w' h=>⟨_,h.1,rfl,by rw[h.2];exact Mod.refl _ _⟩));rintro _ rfl;try simp only[zL]);refine Zu (bldBa j a b.length b.length) ?_;refine Zy (bsBa ⟨j,a,b.length,b.length⟩) fun p45 hp45=> ?_;refine Zi fun w3 hr=> ?_;replace kp:=hr.q kp;replace kob:=hr.q kob;obtain⟨gp45,kp45⟩:=hr.b p45;have m3:=Hi hr.mod;clear hr;have hlt3:Hid (∀x,T2 x→x<w3.heap.size):=Hi (b9 (T:=T2) (w:=w2) (S:=fun _=>False) (b9 (fun x hx=>aZd (HS.out.2.1 x hx) m1.out.size) H2.out.2.1 H2.out.2.2.1) m3.out (fun x hx=> .inl hx));have happ:∃v6 w6,(Builtin.append_ #[51,51] 51 #[M.X.gv,.slice (some ⟨p45,0,none⟩) 1 1]).run Tryz.prog w3= .ok v6 w6∧Goes (bQ ((parts M E s1).set 16 (RowL gvc 2 86 v6 (M.G++[⟨j,a,b.length,b.length⟩])))) T2 w3 w6∧∃a6 n6 c6,v6= .slice a6 n6 c6:=by
   have hG:=parts.good M E s1;obtain⟨Ts,h1,h2,h3⟩:=H2.out.1.mod0 hG m3.out;have hr16:RowL gvc 2 86 M.X.gv M.G (Ts 16) w3:=h1 16 _ rfl;have hdb:M.G.length+1≤1000000:=by
    have:=HS.out.2.2.2.2.gl;omega
   obtain⟨v6,w6,hap,hg⟩:=RowL.app UY hr16 (q:=[⟨j,a,b.length,b.length⟩]) (c:=1) (aS.one kp45 (⟨j,a,b.length,b.length⟩:Gv) rfl rfl) (by simp only[aZx];exact hdb) (by decide) 51;obtain⟨k1,k2⟩:=bQ.step hG hlt3.out (i:=16) (by simp[parts]) h1 h2 h3 hg;obtain⟨T9,hrow,_⟩:=id hg;obtain⟨a6,c6,e6,_⟩:=hrow.1.at UY;exact⟨v6,w6,hap,⟨_,k1,k2,fun _ h=>h⟩,a6,_,c6,e6⟩
  obtain⟨v6,w6,hap,hg6,a6,n6,c6,rfl⟩:=happ;obtain⟨T6,hS6,hm6,hT6⟩:=hg6;obtain⟨U7,⟨_,kp6⟩,_⟩:=hS6.get (i:=0) rfl;obtain⟨Uf,⟨_,kob⟩,_⟩:=hS6.get (i:=14) rfl;rw[HS.out.2.2.1]at kp6;rw[HB.out.2.2.2.2.2.2]at kob;unfold pac at kp6;rw[hd,HS.out.2.2.2.2.ov]at kp6;have hpo:p≠M.ob:=fun e=>by
   rw[←e,kp6]at kob;injection (aZz kob)with _ e2
   exact absurd e2 (by decide)
  have H6:=Hi (Ai hS6 (Ai hm6 hT6));clear hS6 hm6 hT6 kp kp45;refine ZA hap ?_;refine Ze ?_;refine Ze ?_;refine Ze ?_;refine Zz ?_;refine ZS ?_;refine ZN kp6 fun wn kp6 mS=> ?_;(try simp only[Array.setIfInBounds,zL]at kp6);clear hap;have kob:=mS.at_ne kob (fun e=>hpo e.symm);have KP6:=Hi kp6;obtain⟨w7,hw7⟩:∃w7,wn=w7:=⟨_,rfl⟩;rw[hw7]at kp6 kob mS⊢;have MS7:=Hi (Ai mS kp6);clear mS hw7;go_upto_region 3 with fail;have Lkp6:=aA kp6;have Lkob:=aA kob;refine ZP0 [0,0,0,1,0,0,5] ?_
  iterate 6 first|refine Zv ?_|refine Zd ?_
  refine Zi fun wE hr=> ?_;replace kp6:=hr.mod.at0 kp6;replace kob:=hr.mod.at0 kob;have mE:=hr.mod;refine ZS ?_;refine ZN kob fun w8 kob mS=> ?_;(try simp only[Array.setIfInBounds,zL]at kob);replace kp6:=mS.at_ne kp6 (by omega);have m78:=(mE.mono (fun _ _ h=>h.elim)).trans mS;refine bodyPost_end (v:= .tuple #[]) (results_none rfl _ _ _) rfl ⟨rfl,?_⟩;obtain⟨hS,hT,hp,hd2,hMk⟩:=HS.out;obtain⟨hb,hq,hv,hcl,hN,ho,hC⟩:=HB.out;obtain⟨hS2,hm2,hT2,hMk1,hs1⟩:=H2.out;obtain⟨hS6,hm6,hT6⟩:=H6.out;have hP:pushP j s= {s with la:=s.la.set j (q++[b]),gi:=s.gi++[(j,b)],op:=s.op.set j []}:=by
   unfold pushP;rw[aZk,aZk,hb,hq,zE,zE,if_neg hbn]
  rw[hP];refine Goes.trans (K1:=bS p d E s) (m1.out.mono (fun _ _ h=>h.elim)) (fun x hx=> .inl hx) ?_;refine Goes.trans (K1:=bS p d E s) hm2 hT2 ?_;refine Goes.trans (K1:=bS p d E s) (m3.out.mono (fun _ _ h=>h.elim)) (fun x hx=> .inl hx) ?_;refine Goes.trans (K1:=bS p d E s) hm6 hT6 ?_;have hlt6:=b9 hlt3.out hm6 hT6;have hG6:∀K∈((parts M E s1).set 16 (RowL gvc 2 86 (.slice a6 n6 c6) (M.G++[⟨j,a,b.length,b.length⟩]))),aI K:=gY (parts.good M E s1) (RowL.good _ _ _ _ _) 16;obtain⟨Ts,h1,h2,h3⟩:=hS6;have hp0:CeL M.p (pac M.X) 121 (Ts 0) w6:=h1 0 _ rfl;have hg0:Goes (CeL M.p (pac {M.X with gv:= .slice a6 n6 c6}) 121) (Ts 0) w6 w7:=Goes.into ⟨hp0.1,by
   rw[hp];unfold pac;dsimp only;rw[hd,hMk.ov];exact MS7.out.2⟩ (MS7.out.1.mono (fun x _ hx=>by rw[hx,←hp];exact hp0.1))
  obtain⟨hS7,hm7⟩:=bQ.step hG6 hlt6 (i:=0) (by simp[parts]) h1 h2 h3 hg0;have hG7:=gY hG6 (CeL.good M.p (pac {M.X with gv:= .slice a6 n6 c6}) 121) 0;have hlt7:=b9 hlt6 hm7 (T1:=Grow T6 w6 w7) (fun _ h=>h);refine Goes.trans (K1:=bS p d E s) hm7 (T1:=Grow T6 w6 w7) (fun _ h=>h) ?_;clear hp0 hg0;obtain⟨Ts7,h1,h2,h3⟩:=hS7;have hp14:CeL M.ob (M.V.take E.n).toArray 53 (Ts7 14) w7:=h1 14 _ rfl;have hV8:C.setIfInBounds j (Value.slice none 0 0)=((M.V.set j (.slice none 0 0)++[Value.slice a b.length b.length]).take E.n).toArray:=by
   have hVl:E.n≤M.V.length:=by
    have h15:BatL E.n M.V (s1.op++s1.gi.map Prod.snd) (Ts7 15) w7:=h1 15 _ rfl;rw[h15.1,aZg,hMk1.op];omega
   rw[←hC,zF,List.take_append_of_le_length (by rw[aZn];exact hVl),List.take_set]
  have hg14:Goes (CeL M.ob ((M.V.set j (.slice none 0 0)++[Value.slice a b.length b.length]).take E.n).toArray 53) (Ts7 14) w7 w8:=Goes.into ⟨hp14.1,by rw[←hV8];exact kob⟩ (m78.mono (fun x _ hx=>by rw[hx];exact hp14.1));obtain⟨hS8,hm8⟩:=bQ.step hG7 hlt7 (i:=14) (by simp[parts]) h1 h2 h3 hg14;have hG8:=gY hG7 (CeL.good M.ob ((M.V.set j (.slice none 0 0)++[Value.slice a b.length b.length]).take E.n).toArray 53) 14;have hlt8:=b9 hlt7 hm8 (T1:=Grow (Grow T6 w6 w7) w7 w8) (fun _ h=>h);refine Goes.trans (K1:=bS p d E s) hm8 (T1:=Grow (Grow T6 w6 w7) w7 w8) (fun _ h=>h) ?_;obtain⟨Ts8,h1,h2,h3⟩:=hS8;have h15:BatL E.n M.V (s1.op++s1.gi.map Prod.snd) (Ts8 15) w8:=h1 15 _ rfl;have hb1:s1.op[j]? =some b:=by rw[hs1];exact hb
  have hb0:(s1.op++s1.gi.map Prod.snd)[j]? =some b:=by rw[aZt (by rw[hMk1.op];exact hj)];exact hb1
  obtain⟨a',c',v2',e1,e2,_,hN8,ho8⟩:=((h15.2.1 j _ b hv hb0).1 hj).newS fZ;injection e1 with e3 _ _
  subst e3;subst e2;have hmv:=h15.move hMk1.op hb1 hv hN8 ho8;obtain⟨hS9,hm9⟩:=bQ.step hG8 hlt8 (i:=15) (by simp[parts]) h1 h2 h3 (Goes.into hmv (Mod.refl _ _));refine⟨_,⟨{M with X:= {M.X with gv:= .slice a6 n6 c6},G:=M.G++[⟨j,a,b.length,b.length⟩],V:=M.V.set j (.slice none 0 0)++[Value.slice a b.length b.length]},hp,hd2,?_,?_⟩,hm9,fun _ h=>h⟩
  ·have hVl:E.n≤M.V.length:=by
    rw[h15.1,aZg,hMk1.op];omega
   refine⟨hMk.win,hMk.bat,hMk.fli,hMk.n1,hMk.n2,hMk.fv,hMk.cv,hMk.sv,hMk.ov,hMk.fl,hMk.co,hMk.sp,by show(s.op.set j []).length=E.n;rw[aZn];exact hMk.op,by show(s.la.set j (q++[b])).length=E.n;rw[aZn];exact hMk.la,?_,?_⟩
   ·show(M.G++[(⟨j,a,b.length,b.length⟩:Gv)]).map (fun x=>(x.w,Value.slice x.a x.n x.c))=((s.gi++[(j,b)]).map Prod.fst).zip ((M.V.set j (Value.slice none 0 0)++[Value.slice a b.length b.length]).drop E.n);have hdl:(M.V.drop E.n).length=s.gi.length:=by
     have:=h15.1;rw[aZg,hMk1.op,aZs,hs1]at this;rw[List.length_drop,this];show E.n+s.gi.length-E.n=s.gi.length;omega
    rw[List.map_append,List.map_append,hMk.gw,List.drop_append_of_le_length (by rw[aZn];exact hVl),List.drop_set_of_lt hj,List.zip_append (by rw[aZs,hdl])];rfl
   ·show(s.gi++[(j,b)]).length=(M.G++[(⟨j,a,b.length,b.length⟩:Gv)]).length;rw[aZg,aZg,hMk.gl];rfl
  ·have hmap:s.gi.map Prod.snd++[b]=(s.gi++[(j,b)]).map Prod.snd:=by rw[List.map_append];rfl
   rw[hs1]at hS9;dsimp only at hS9;rw[hmap]at hS9;exact hS9
section
def mkP (E:Ev) (s:Pa) (ro:List aT) (i:Nat):Nat:=d9 (fun j=>gW s.L ro j&&(decide (i≤j)||decide (s.fl.getD j 0<E.fli))) E.n
def wtsP (E:Ev) (s:Pa):List Nat:=(List.range E.n).map fun j=>waP (s.co.getD j 0) (E.spd.getD j 0)
def wkP (E:Ev) (s:Pa) (ro:List aT) (ch:Int64):Option Nat:=if lM s.al ro then none else
 match lkp ch s.hi with
 |some w=>if(mkP E s ro E.n).testBit w then some w else pkR (mkP E s ro E.n) (wtsP E s)
 |none=>pkR (mkP E s ro E.n) (wtsP E s)
theorem tX (E:Ev) (s:Pa) (ro:List aT) (i:Nat) (hn:E.n≤64):mkP E s ro i<18446744073709551616:=
 aZd (nG _ E.n) (aXa (by omega) hn:2^E.n≤2^64)
theorem NA (E:Ev) (s:Pa) (ro:List aT):mkP E s ro 0=d9 (gW s.L ro) E.n:=iU _ (fun j _=>by simp)
theorem GK {E:Ev} {s:Pa} {ro:List aT} {i:Nat} (h:s.fl.getD i 0<E.fli):mkP E s ro (i+1)=mkP E s ro i:=iU _ (fun j _=>by
 by_cases e:j=i
 ·subst e;rw[Dt h];simp
 ·congr 2;exact decide_eq_decide.2 (by omega))
theorem K5 {E:Ev} {s:Pa} {ro:List aT} {i:Nat} (h:¬s.fl.getD i 0<E.fli) (j:Nat):(mkP E s ro (i+1)).testBit j=((mkP E s ro i).testBit j&& !decide (j=i)):=by
 unfold mkP;rw[maskOf_testBit,maskOf_testBit];by_cases e:j=i
 ·subst e;rw[Df h];simp
 ·have h1:decide (i+1≤j)=decide (i≤j):=decide_eq_decide.2 (by omega);rw[h1];simp[e]
theorem xW {m m' i:Nat} (hm:m<18446744073709551616) (hm':m'<18446744073709551616) (hi:i<64) (h:∀j,m'.testBit j=(m.testBit j&& !decide (j=i))):bits .andNot .u64 (m:Int) ((2^i:Nat):Int)=(m':Int):=by
 have hp:2^i<18446744073709551616:=by
  have:2^i<2^64:=Nat.pow_lt_pow_right (by omega) hi;omega
 show IntKind.u64.wrap ((BitVec.ofInt 64 (m:Int)&&& ~~~BitVec.ofInt 64 ((2^i:Nat):Int)).toNat:Int)=_;have e:(BitVec.ofInt 64 (m:Int)&&& ~~~BitVec.ofInt 64 ((2^i:Nat):Int)).toNat=m':=by
  apply aXb;intro j;rw[h,BitVec.testBit_toNat];by_cases hj:j<64
  ·rw[BitVec.getLsbD_and,BitVec.getLsbD_not,BitVec.ofInt_natCast,BitVec.ofInt_natCast,BitVec.getLsbD_ofNat,BitVec.getLsbD_ofNat,aXp];simp[hj];by_cases e:i=j
   ·subst e;simp
   ·have e2:¬j=i:=fun e3=>e e3.symm;simp[e,e2]
  ·rw[BitVec.getLsbD_of_ge _ _ (by omega)]
   have:m.testBit j=false:=aXg (aZd hm (show 18446744073709551616≤2^j from(aXa (by omega) (show 64≤j by omega):2^64≤2^j)));rw[this];rfl
 rw[e,IntKind.wrap_u64];omega
theorem WU (n:Nat) (hn:n≤100000) (w:World):(Instr.makeSlice 22 (.int .i64 (n:Int)) (.int .i64 (n:Int))).run Tryz.prog w= .ok (.slice (some ⟨w.heap.size,0,none⟩) n n) (w.alloc (.cells (List.replicate n (fv 0)).toArray 129)):=by
 obtain⟨i0,hi,hz0,hz1,hz2⟩:=info_parts (show(Tryz.prog.info? 129).map (fun i=>(i.zero,i.size,i.bytes))=some (some (fv 0),1,8)by kernel_rfl);have:=run_make (P:=Tryz.prog) w 22 129 i0 _ Tryz.underlying22 hi hz0 .i64 .i64 (n:Int) (n:Int) (by omega) (by omega) (by rw[hz2];omega) (by omega);have hc:madeCells #[fv 0] n=(List.replicate n (fv 0)).toArray:=by
  apply aZ1.1;rw[toList_madeCells_one]
 rw[hz1,aYp]at this;have hc2:madeCells #[Value.float .f64 0] n=(List.replicate n (Value.float .f64 0)).toArray:=hc;simpa[Value.cells,hc2,fv] using this
theorem DC (x:Nat):(Value.float .f64 x).oneCell'=true:=rfl
theorem oK {P:Program} {w:World} {a:Addr} {m:Mode} (x:Nat):(store a (.float .f64 x) m).run P w=stored P w a (.float .f64 x) m:=run_store P w a _ m rfl
attribute [local go_sem] DC oK
theorem I6 {p d:Nat} {E:Ev} {s:Pa} {T:Nat→Prop} {w:World} (h:bS p d E s T w) (hT:∀a,T a→a<w.heap.size) (htw:dS w) (a:Option Addr) (ro:List aT) (c:Nat) (hl:aV w a ro) (hrl:ro.length≤1000000) (ch:Int64) (hin:∀x∈s.hi,x.2<64):
  Calls Tryz.prog 73 #[ptrV p,.slice a ro.length c,.int .i64 ch.toInt] w fun e w'=>e= .returned (.tuple #[.int .i64 (((wkP E s ro ch).getD 0:Nat):Int),.bool (wkP E s ro ch).isSome])∧Mod (fun _=>False) w w':=by
 obtain⟨M,hp,hd,hMk,hS⟩:=h;have hG:=parts.good M E s;obtain⟨T0,⟨_,kp⟩,_⟩:=hS.get (i:=0) rfl;obtain⟨T1,⟨_,kd⟩,_⟩:=hS.get (i:=1) rfl;obtain⟨T7,h7,_⟩:=hS.get (i:=7) rfl;obtain⟨T9,h9,_⟩:=hS.get (i:=9) rfl;obtain⟨T10,⟨_,kf⟩,_⟩:=hS.get (i:=10) rfl;obtain⟨T11,⟨_,kc⟩,_⟩:=hS.get (i:=11) rfl;obtain⟨T12,⟨_,ks⟩,_⟩:=hS.get (i:=12) rfl;obtain⟨T13,⟨_,es,cl,kh,Mh⟩,_⟩:=hS.get (i:=13) rfl;rw[hp]at kp;rw[hd]at kd;unfold pac at kp;unfold iR at kd;rw[hd]at kp;rw[hMk.fv,hMk.cv,hMk.sv]at kd;have HH:=Hi (Ai h7 (Ai h9 (Ai hl (Ai hrl (Ai htw (Ai Mh hMk))))));have HIN:=Hi hin;obtain⟨R,hR⟩:∃R,wkP E s ro ch=R:=⟨_,rfl⟩;rw[hR];have hn1:=hMk.n1;have hn2:=hMk.n2;have HR:=Hi hR;clear hS hG h7 h9 hl hrl htw Mh hMk hp hin hR;go_enter Tryz.func73,Tryz.ntmps73;go_wp2_with fail;go_at_call 111;refine(HH.out.2.1.hits a ro c HH.out.2.2.1 HH.out.2.2.2.1).mono ?_;rintro e w1 ⟨rfl,m1⟩;have kp:=m1.at0 kp;have kd:=m1.at0 kd;have kf:=m1.at0 kf;have kc:=m1.at0 kc;have ks:=m1.at0 ks;have kh:=m1.at0 kh;cases hcf:lM s.al ro with
 |true=>
  have hR:=HR.out;unfold wkP at hR;rw[hcf,if_pos rfl]at hR;subst hR;clear HR HH HIN;go_wp2_with fail
  go_ret2
  exact⟨rfl,m1⟩
 |false=>
  have hR:=HR.out;unfold wkP at hR;rw[hcf,if_neg (by simp)]at hR;have HR:=Hi hR;clear hR hcf;have hthr:=fG.threads ((fG.good _ _ _).cl _ _ _ HH.out.1 (m1.mono (fun _ _ h=>h.elim))) a ro c hn1 hn2 (HH.out.2.2.1.mod0 m1) HH.out.2.2.2.1;rw[←NA]at hthr;have HTHR:=Hi (fun wq (hq:Mod (fun _=>False) w1 wq)=>fG.threads ((fG.good _ _ _).cl _ _ _ HH.out.1 ((m1.then0 hq).mono (fun _ _ h=>h.elim))) a ro c hn1 hn2 (HH.out.2.2.1.mod0 (m1.then0 hq)) HH.out.2.2.2.1);have hmk:=WU E.n (by omega);clear hthr;have M1:=Hi m1;clear m1;go_upto_region 3 with fail;have Lkp:=aA kp;have Lkd:=aA kd;have Lkf:=aA kf;have Lkc:=aA kc;have Lks:=aA ks;have Lkh:=aA kh;refine ZR (fun _ _ v=>v= .int .u64 (mkP E s ro 0:Nat)) [0,0,0,1,0,0,1,0,2,0,0,0,1,0,0,1,0,3,0,0] ?_
  iterate 8 first|refine Zv ?_|refine Zd ?_
  (refine Zc ?_ (s:=by intro wq hSq;exact(HTHR.out wq hSq).mono (fun e w' h=>⟨_,h.1,by rw[NA],h.2⟩));rintro _ rfl;try simp only[zL])
  iterate 8 first|refine Zv ?_|refine Zd ?_
  (refine TD.mks (by simp only[zK];rfl) rfl (by rfl) rfl rfl ?hx18 ?hz18 hmk (fun p37 hp37=> ?n18);(case hx18=>simp only[zM];try rfl);(case hz18=>simp only[zM];try rfl);try simp only[zL])
  iterate 2 refine Zv ?_
  refine TD.nil (fun w2 hr=> ?_);replace kp:=hr.q kp;replace kd:=hr.q kd;replace kf:=hr.q kf;replace kc:=hr.q kc;replace ks:=hr.q ks;replace kh:=hr.q kh;obtain⟨gp37,kp37⟩:=hr.b p37;have M2:=Hi (M1.out.then0 hr.mod);have hp37:Hid (w.heap.size≤p37):=Hi (by have:=M1.out.size;omega);clear hr hmk HTHR;obtain⟨F,hF⟩:∃F,(s.fl.map natV).toArray=F:=⟨_,rfl⟩;obtain⟨G,hGG⟩:∃G,(s.co.map u64v).toArray=G:=⟨_,rfl⟩;obtain⟨J,hJ⟩:∃J,(E.spd.map fv++M.sx).toArray=J:=⟨_,rfl⟩;rw[hF]at kf;rw[hGG]at kc;rw[hJ]at ks;have HA:=Hi (Ai hF (Ai hGG hJ));have KK:=Hi (Ai kp (Ai kd (Ai kf (Ai kc (Ai ks kh)))));have HN:Hid (p≠p37∧d≠p37∧M.fb≠p37∧M.cb≠p37∧M.sb≠p37∧M.X.hb≠p37):=Hi ⟨by omega,by omega,by omega,by omega,by omega,by omega⟩;clear hF hGG hJ kf kc ks kh;have k37:w2.heap[p37]? =some (.cells (((wtsP E s).take 0).map fv++List.replicate (E.n-0) (fv 0)).toArray 129 (0,0)):=kp37;clear kp37;go_wp2_with fail;clear kp kd;go_loopw [46,8] (fun s46 s8 ws=>∃i:Nat,i≤E.n∧s46= .int .i64 (i:Int)∧s8= .int .u64 (mkP E s ro i:Nat)∧ws.heap[p37]? =some (.cells (((wtsP E s).take i).map fv++List.replicate (E.n-i) (fv 0)).toArray 129 (0,0))∧Mod (fun x=>x=p37) w2 ws) (fun s46 _ _=>E.n-(intOf s46).toNat)
  case atStart=>exact⟨0,by omega,rfl,rfl,k37,Mod.refl _ _⟩
  case round=>
   clear k37;obtain⟨i,hi,rfl,rfl,kw,hm⟩:=hrel;obtain⟨kp,kd,kf,kc,ks,kh⟩:=KK.out;have kp:=hm.at kp HN.out.1;have kd:=hm.at kd HN.out.2.1;by_cases hlt:i<E.n
   ·have kf:=hm.at kf HN.out.2.2.1;have kc:=hm.at kc HN.out.2.2.2.1;have ks:=hm.at ks HN.out.2.2.2.2.1;clear kh;obtain⟨f,hf⟩:∃f,s.fl[i]? =some f:=⟨_,aZb (by rw[HH.out.2.2.2.2.2.2.fl];exact hlt)⟩;obtain⟨co,hco⟩:∃co,s.co[i]? =some co:=⟨_,aZb (by rw[HH.out.2.2.2.2.2.2.co];exact hlt)⟩;obtain⟨sp,hsp⟩:∃sp,E.spd[i]? =some sp:=⟨_,aZb (by rw[HH.out.2.2.2.2.2.2.sp];exact hlt)⟩;have f0:F[i]? =some (.int .i64 (f:Int)):=by rw[←HA.out.1,zA,aZv,hf];rfl
    have g0:G[i]? =some (u64v co):=by rw[←HA.out.2.1,zA,aZv,hco];rfl
    have j0:J[i]? =some (.float .f64 sp):=by rw[←HA.out.2.2,zA,aZt (by rw[aZs];exact(aZa.1 hsp).1),aZv,hsp];rfl
    have f1:∀h:i<F.size,F[i]= .int .i64 (f:Int):=fun h=>aU f0 h;have g1:∀h:i<G.size,G[i]=u64v co:=fun h=>aU g0 h;have j1:∀h:i<J.size,J[i]= .float .f64 sp:=fun h=>aU j0 h;have f2:=(aZf.1 f0).1;have g2:=(aZf.1 g0).1;have j2:=(aZf.1 j0).1;have hwl:(wtsP E s).length=E.n:=by simp[wtsP]
    have hwi:(wtsP E s)[i]? =some (waP co sp):=by
     unfold wtsP;rw[aZv,List.getElem?_range hlt];simp[aZk,hco,hsp]
    have hstep:(((wtsP E s).take i).map fv++List.replicate (E.n-i) (fv 0)).toArray.setIfInBounds i (fv (waP co sp))=(((wtsP E s).take (i+1)).map fv++List.replicate (E.n-(i+1)) (fv 0)).toArray:=by
     have h1:E.n-i=(E.n-(i+1))+1:=by omega
     have h2:=uJ (((wtsP E s).take i).map fv) (E.n-(i+1)) (fv (waP co sp)) (fv 0);rw[aZs,aZ4,hwl,aX7 hi]at h2;rw[h1,h2,aYa,hwi];simp
    have hgd:s.fl.getD i 0=f:=by rw[aZk,hf];rfl
    obtain⟨W,hW⟩:∃W,(((wtsP E s).take i).map fv++List.replicate (E.n-i) (fv 0)).toArray=W:=⟨_,rfl⟩;have w0:i<W.size:=by rw[←hW];simp[hwl];omega
    rw[hW]at kw hstep;have HST:=Hi (Ai hstep hgd);clear hf hco hsp hwl hwi hstep hW hgd f0 g0 j0;go_upto_region 7 with fail;have Lkp:=aA kp;have Lkd:=aA kd;have Lkf:=aA kf;have Lkc:=aA kc;have Lks:=aA ks;have Lkw:=aA kw;refine ZR (fun _ _ v=>v= .float .f64 (waP co sp)) [0,0,0,0,0,1,0,0,1,0,0,1,0,0,0,1,0,0,0,1,0,0,1,2,0,5] ?_
    iterate 23 first|refine Zv ?_|refine Zd ?_
    (refine Zc ?_ (s:=by intro wq hSq;exact(wait_c co sp wq).mono (fun e w' h=>⟨_,h.1,rfl,by rw[h.2];exact Mod.refl _ _⟩));rintro _ rfl;try simp only[zL]);refine Zv ?_;refine Zi fun wE hr=> ?_;replace kp:=hr.mod.at0 kp;replace kd:=hr.mod.at0 kd;replace kf:=hr.mod.at0 kf;replace kc:=hr.mod.at0 kc;replace ks:=hr.mod.at0 ks;replace kw:=hr.mod.at0 kw;have mE:=hr.mod;refine ZS ?_;refine ZN kw fun w3 kw mS=> ?_;replace kp:=mS.at_ne kp (by omega);replace kd:=mS.at_ne kd (by omega);replace kf:=mS.at_ne kf (by omega);replace kc:=mS.at_ne kc (by omega);replace ks:=mS.at_ne ks (by omega);have m3:=hm.then0 mE;have m3:=m3.trans mS;rw[show(Value.float .f64 (waP co sp))=fv (waP co sp)from rfl,HST.out.1]at kw;have M3:=Hi m3;clear mE mS m3 hr;by_cases hge:E.fli≤f
    ·have hb:=xW (tX E s ro i hn2) (tX E s ro (i+1) hn2) (show i<64 by omega) (K5 (by rw[HST.out.2];omega));have hfl:=HH.out.2.2.2.2.2.2.fli;have hge2:M.D.fli≤f:=by omega
     have hd1:=Dt hge2;have HB:=Hi hb;clear hfl;go_wp2_with fail;have hw2:IntKind.u64.wrap ((2:Int)^i)=((2^i:Nat):Int):=by
      have h1:2^i<2^64:=Nat.pow_lt_pow_right (by omega) (show i<64 by omega);have h2:((2:Int)^i)=((2^i:Nat):Int):=by rw[Int.natCast_pow];rfl
      have key:∀P:Nat,P<2^64→IntKind.u64.wrap (P:Int)=(P:Int):=fun P h=>by
       rw[IntKind.wrap_u64];omega
      rw[h2];exact key _ h1
     exact⟨⟨i+1,by omega,rfl,by rw[hw2,HB.out],kw,M3.out⟩,by simp[intOf];omega⟩
    ·have hfl:=HH.out.2.2.2.2.2.2.fli;have hge2:¬M.D.fli≤f:=by omega
     have hd1:=Df hge2;have hkp:=GK (E:=E) (s:=s) (ro:=ro) (i:=i) (by rw[HST.out.2];omega);have HB:=Hi hkp;clear hfl hkp;go_wp2_with fail;go_roundw
     case rel=>exact⟨i+1,by omega,by go_num,by rw[HB.out],kw,M3.out⟩
     case measure=>simp[intOf];omega
   ·obtain rfl:i=E.n:=by omega
    have kh:=hm.at kh HN.out.2.2.2.2.2;clear kf kc ks;have hwl:(wtsP E s).length=E.n:=by simp[wtsP]
    rw[aY6 (by omega),aXn,List.replicate_zero,aYx]at kw;have hsl:aS pQ 1 wr (some ⟨p37,0,none⟩) (wtsP E s):=by
     refine .inr ⟨p37,0,_,_,_,rfl,kw,fun k x hx=> ?_⟩;have hk:=aZa.1 hx;simp only[aXe,aYp];refine⟨?_,by simp;exact hk.1⟩;apply aZ1.1;rw[aXv];show(((wtsP E s).map fv).drop k).take (k+1-k)=[fv x];rw[show k+1-k=1 by omega,aXr (by simpa using hk.1)];simp[hk.2]
    have MR:=Hi (M2.out.then hm (fun j h1 h2=>by have:=hp37.out;omega));have HW:=Hi (Ai hsl hwl);clear hsl hwl kw hm;have hlook:=HH.out.2.2.2.2.2.1.lookup F4 Tryz.underlying119 (z:= .int .i64 0) (fun w=>by kernel_rfl) wr kh ch true;simp only[if_true]at hlook;replace hlook:(Instr.lookup 119 (.map (some M.X.hb)) (.int .i64 ch.toInt) true).run Tryz.prog wr= .ok (.tuple #[((lkp ch s.hi).map natV).getD (.int .i64 0),.bool (lkp ch s.hi).isSome]) wr:=hlook;have hpick:Calls Tryz.prog 114 #[.int .u64 (mkP E s ro E.n:Int),.slice (some ⟨p37,0,none⟩) E.n E.n] wr fun e w'=>e= .returned (.tuple #[.int .i64 (((pkR (mkP E s ro E.n) (wtsP E s)).getD 0:Nat):Int),.bool (pkR (mkP E s ro E.n) (wtsP E s)).isSome])∧Mod (fun _=>False) wr w':=by
     have h1:=PZ (mkP E s ro E.n) (tX E s ro E.n hn2) (some ⟨p37,0,none⟩) (wtsP E s) E.n wr HW.out.1 (by rw[HW.out.2];omega) (dS.mod0 HH.out.2.2.2.2.1 MR.out);rw[HW.out.2]at h1;exact h1
    have HPK:=Hi hpick;have hml:=tX E s ro E.n hn2;clear hpick;cases hlk:lkp ch s.hi with
    |none=>
     have hR:=HR.out;rw[hlk]at hR hlook;dsimp only at hR;replace hlook:(Instr.lookup 119 (.map (some M.X.hb)) (.int .i64 ch.toInt) true).run Tryz.prog wr= .ok (.tuple #[.int .i64 0,.bool false]) wr:=hlook;have HRR:=Hi hR;clear hR HR hlk;go_wp2_with fail;go_at_call 114;refine HPK.out.mono ?_;rintro e w5 ⟨rfl,m5⟩;go_wp2_with fail
     go_ret2
     rw[←HRR.out];exact⟨rfl,MR.out.then0 m5⟩
    |some wk=>
     have hwk:wk<64:=HIN.out _ (dD hlk);have hR:=HR.out;rw[hlk]at hR hlook;dsimp only at hR;replace hlook:(Instr.lookup 119 (.map (some M.X.hb)) (.int .i64 ch.toInt) true).run Tryz.prog wr= .ok (.tuple #[.int .i64 (wk:Int),.bool true]) wr:=hlook;have hb1:=o8 (mkP E s ro E.n) wk hml;cases htb:(mkP E s ro E.n).testBit wk with
     |true=>
      rw[htb,if_pos rfl]at hb1 hR;have HRR:=Hi hR;clear hR HR hlk htb;go_wp2_with fail
      go_ret2
      rw[←HRR.out];exact⟨rfl,MR.out⟩
     |false=>
      rw[htb,if_neg (by simp)]at hb1 hR;have HRR:=Hi hR;clear hR HR hlk htb;go_wp2_with fail;go_at_call 114;refine HPK.out.mono ?_;rintro e w5 ⟨rfl,m5⟩;go_wp2_with fail
      go_ret2
      rw[←HRR.out];exact⟨rfl,MR.out.then0 m5⟩
end
section
attribute [local go_sem↓] jY
attribute [local go_sem] bF dE dW
theorem lA (x:cS):(bT x)[41]? =some (.slice x.ro.a x.ro.l.length x.ro.c):=eY (pre:=cX x) 2
theorem oU (x:cS) (h:41<(bT x).size):(bT x)[41]= .slice x.ro.a x.ro.l.length x.ro.c:=aU (lA x) h
attribute [local go_sem↓] dH bZ dF jX iD jV
attribute [local go_sem] bD bW dB jA fS yP tN tO nD tM jB bG cD cF lA oU
theorem KB {P:Program} {t:TypeId} {fs:Array Field} {k n:Nat} {f:Field} {xs:Array Value} {w:World} (hu:P.underlying t=some (.struct fs)) (hf:fs[k]? =some f) (h1:(isAgg f.type).run P w= .ok true w) (h2:(sizeOf f.type).run P w= .ok n w):(Instr.field t (.agg xs) k).run P w= .ok (.agg (xs.extract f.offset (f.offset+n))) w:=by
 unfold Instr.field;simp only[Sem.run_bind,run_underlying hu,Result.andThen_ok,hf];show(Go.part f.type xs f.offset).run P w=_;unfold Go.part;simp only[Sem.run_bind,h1,h2,Result.andThen_ok,if_true];rfl
theorem KA {P:Program} {t:TypeId} {fs:Array Field} {k:Nat} {f:Field} {xs:Array Value} {w:World} {v:Value} (hu:P.underlying t=some (.struct fs)) (hf:fs[k]? =some f) (h1:(isAgg f.type).run P w= .ok false w) (h2:xs[f.offset]? =some v):(Instr.field t (.agg xs) k).run P w= .ok v w:=by
 unfold Instr.field;simp only[Sem.run_bind,run_underlying hu,Result.andThen_ok,hf];show(Go.part f.type xs f.offset).run P w=_;unfold Go.part;simp only[Sem.run_bind,h1,Result.andThen_ok,aZr,if_false,h2];rfl
theorem AI (z:bU) (w:World):(Instr.field 82 (.agg (dL z)) 1).run Tryz.prog w= .ok (.agg (bT z.r)) w:=by
 rw[←jB];exact KB (k:=1) (n:=48) Tryz.underlying82 rfl (by kernel_rfl) (by kernel_rfl)
theorem SD (x:cS) (w:World):(Instr.field 46 (.agg (bT x)) 2).run Tryz.prog w= .ok (.slice x.ro.a x.ro.l.length x.ro.c) w:=
 KA (k:=2) Tryz.underlying46 rfl (by kernel_rfl) (lA x)
attribute [local go_sem] AI SD
theorem OE {base:Nat} {x:It} {z:bU} {T:Nat→Prop} {w:World} (h:NU base x (.agg (dL z)) T w) {y:cS} (hy:aV w y.ro.a y.ro.l) (hyl:y.ro.l.length≤1000000) (hxl:x.r.ro.length≤1000000):
  Calls Tryz.prog 21 #[.slice z.r.ro.a z.r.ro.l.length z.r.ro.c,.slice y.ro.a y.ro.l.length y.ro.c] w fun e w'=>∃v,e= .returned v∧v= .bool (dJ x.r.ro y.ro.l)∧Mod (fun _=>False) w w':=by
 obtain⟨z2,e,hc,hn,hi⟩:=h;injection e with e
 have h1:some (Value.slice z.r.ro.a z.r.ro.l.length z.r.ro.c)=some (Value.slice z2.r.ro.a z2.r.ro.l.length z2.r.ro.c):=by rw[←nD,←nD,e]
 have h2:=aZz h1;have h3:z2.r.ro.l=x.r.ro:=congrArg (fun u:It=>u.r.ro) hc;rw[h2,←h3];refine(LE z2.r.ro.a y.ro.a z2.r.ro.l y.ro.l z2.r.ro.c y.ro.c w hn.ok.ro hy (by rw[h3];exact hxl) hyl).mono ?_;rintro e w' ⟨h4,h5⟩;exact⟨_,h4,rfl,h5⟩
section
variable {p d b pb rb:Nat} {D:Dk} {X:Pk} {S:List (Option It)} {T:Nat→Prop} {w:World}
theorem K3 (kp:w.heap[p]? =some (.cells (pac X) 121 (0,0))) (kd:w.heap[X.d]? =some (.cells (iR D) 69 (0,0))) (hB:BT D.b S T w) {i:Nat} {x:It} (hx:S[i]? =some (some x)) (hxl:x.r.ro.length≤1000000)
  (kb:w.heap[pb]? =some (.cells #[ptrV p] 114 (0,0))) {y:cS} (kr:w.heap[rb]? =some (.cells (bT y) 46 (0,0))) (hy:aV w y.ro.a y.ro.l) (hyl:y.ro.l.length≤1000000):
  Calls Tryz.prog 117 #[.int .i64 (i:Int),ptrV pb,ptrV rb] w fun e w'=>e= .returned (.bool (dJ x.r.ro y.ro.l))∧Mod (fun _=>False) w w':=by
 have HH:=Hi (Ai kp (Ai kd (Ai hB (Ai hx (Ai hxl (Ai hy hyl))))));clear kp kd hB hx hxl hy hyl;go_enter Tryz.func117,Tryz.ntmps117;go_upto_region 1 with fail;have Lkb:=aA kb;have Lkr:=aA kr;refine cJ (T0:=fun _=>False) (K:=fun _ _=>True) (κ:=fun i=>[0,0,6,0,0,0,0,6,0].getD i 0) (υ:=fun _=>[]) [0,1,2,3,4,5,6,7,8] (by kernel_rfl) (by kernel_rfl) (aI.true).cl (trivial) (fun _ h=>h.elim) ?_;have gK:=aI.true;refine Zh ?_;refine Zg ?_;(refine ZJ (NU w.heap.size x) (nB w.heap.size x) gK ?_ (s:=fun T wq kq ltq hSq ub=>by have kbq:=hSq.at kb (fun h=>h);have krq:=hSq.at kr (fun h=>h);exact GB w.heap.size hSq.size T (hSq.at0 HH.out.1) (hSq.at0 HH.out.2.1) ((BT.good _ _).cl _ _ _ HH.out.2.2.1 (hSq.mono (fun _ _ h=>h.elim))) HH.out.2.2.2.1);rintro v3 ⟨wI,TI,hI⟩;replace gK:=gK.and ((nB w.heap.size x) v3);(obtain⟨_,z,rfl,_⟩:=hI.k);(try clear hI TI wI);try simp only[zL])
 iterate 3 refine Zg ?_
 refine Zh ?_;(refine ZG (fun v=>v= .bool (dJ x.r.ro y.ro.l)) gK ?_ (s:=fun T wq kq ltq hSq ub=>by exact OE kq.2 (HH.out.2.2.2.2.2.1.mod0 hSq) HH.out.2.2.2.2.2.2 HH.out.2.2.2.2.1);rintro v8 hC;subst hC;try simp only[zL]);refine Zg ?_;refine TG.nil (fun w3 ⟨TR,hr⟩=> ?_);replace kb:=hr.q kb;replace kr:=hr.q kr;clear gK;have m3:=hr.mod;clear hr;go_wp2_with fail;go_ret;exact⟨rfl,m3⟩
end
def U4 (pb rb:Nat):Value:= .func (.func 117) #[] #[.pointer (some ⟨pb,0,none⟩),.pointer (some ⟨rb,0,none⟩)]
attribute [local go_sem] U4
theorem O4 {w:World} {a:Option Addr} {l:List Int64} {c:Nat} (hl:aS ic 1 w a l) (hlen:l.length≤1000000) (pb rb:Nat) (P:Int64→Bool) (hq:∀x∈l,∀wq,Mod (fun _=>False) w wq→Calls Tryz.prog 117 #[.int .i64 x.toInt,ptrV pb,ptrV rb] wq fun e w'=>e= .returned (.bool (P x))∧Mod (fun _=>False) wq w'):
  Calls Tryz.prog 154 #[.slice a l.length c,U4 pb rb] w fun e w'=>(∃n:Int,e= .returned (.int .i64 n)∧decide (0≤n)=l.any P)∧Mod (fun _=>False) w w':=by
 have HL:=Hi (Ai hl hq);clear hl hq;go_enter Tryz.func154,Tryz.ntmps154;go_wp2_with fail;go_loopw [8] (fun s8 ws=>∃i:Nat,i≤l.length∧s8= .int .i64 (i:Int)∧Hid ((l.take i).any P=false)∧Mod (fun _=>False) w ws) (fun s8 _=>l.length-(intOf s8).toNat)
 case atStart=>exact⟨0,aYf _,rfl,Hi (by simp),Mod.refl _ _⟩
 case round=>
  obtain⟨i,hi,rfl,HN,hm⟩:=hrel;by_cases hlt:i<l.length
  ·obtain⟨y,hy⟩:∃y,l[i]? =some y:=⟨_,aZb hlt⟩;obtain⟨g,o,C,U,fr,e,kg0,hx,hle⟩:=HL.out.1.block hy;subst e;have kg:=hm.at0 kg0;simp only[aYp]at hx hle;have hce:C[o+i]? =some (.int .i64 y.toInt):=by
    have h1:=congrArg (fun A=>A[0]?) hx;rw[aYl]at h1;split at h1
    ·rw[aXz]at h1;exact h1
    ·omega
   have hc1:∀h:o+i<C.size,C[o+i]= .int .i64 y.toInt:=fun h=>aU hce h;have HY:=Hi hy;have hin:=aZi hy;have HQ:=Hi (HL.out.2 y hin wr hm);have HM:=Hi hm;clear hy hx kg0 hin hm;go_wp2_with fail;go_at_call 117;refine HQ.out.mono ?_;rintro e w2 ⟨rfl,m2⟩;have hm2:=Hi (HM.out.then0 m2);clear kg m2;cases hP:P y with
   |true=>
    have hres:Hid (decide ((0:Int)≤(i:Int))=l.any P):=Hi (by
     rw[show l.any P=true from aYv.2 ⟨y,aZi HY.out,hP⟩];exact Dt (by omega))
    clear hP;go_wp2_with fail;go_ret;exact⟨⟨_,rfl,hres.out⟩,hm2.out⟩
   |false=>
    have hst:Hid ((l.take (i+1)).any P=false):=Hi (by
     rw[aYa,HY.out,List.any_append,HN.out];simp[hP])
    clear hP;go_wp2_with fail;go_roundw
    case rel=>exact⟨i+1,by omega,by go_num,hst,hm2.out⟩
    case measure=>simp[intOf];omega
  ·obtain rfl:i=l.length:=by omega
   have hres:Hid (decide ((0:Int)≤(-1:Int))=l.any P):=Hi (by
    have:=HN.out;rw[aY5]at this;rw[this];decide)
   go_wp2_with fail;go_ret;exact⟨⟨_,rfl,hres.out⟩,hm⟩
theorem J6 {w:World} {a:Option Addr} {l:List Int64} {c:Nat} (hl:aS ic 1 w a l) (hlen:l.length≤1000000) (pb rb:Nat) (P:Int64→Bool) (hq:∀x∈l,∀wq,Mod (fun _=>False) w wq→Calls Tryz.prog 117 #[.int .i64 x.toInt,ptrV pb,ptrV rb] wq fun e w'=>e= .returned (.bool (P x))∧Mod (fun _=>False) wq w'):
  Calls Tryz.prog 118 #[.slice a l.length c,U4 pb rb] w fun e w'=>e= .returned (.bool (l.any P))∧Mod (fun _=>False) w w':=by
 have HI:=Hi (O4 (c:=c) hl hlen pb rb P hq);clear hl hq;go_enter Tryz.func118,Tryz.ntmps118;go_wp2_with fail;go_at_call 154;refine HI.out.mono ?_;rintro e w2 ⟨⟨n,rfl,hn⟩,m2⟩;have HN:=Hi hn;clear hn;go_wp2_with fail;go_ret;rw[←HN.out];exact⟨rfl,m2⟩
end
theorem BatL.app {n j:Nat} {V:List Value} {L:List (List Int64)} {T:Nat→Prop} {w:World} (h:BatL n V L T w) (hj:j<n) {b q:List Int64} (hb:L[j]? =some b) {v:Value} (hv:V[j]? =some v) {a:Option Addr} {c:Nat} (hq:aS ic 1 w a q) (hlen:b.length+q.length≤1000000) (ty:TypeId):
  ∃v' w',(Builtin.append_ #[53,53] ty #[v,.slice a q.length c]).run Tryz.prog w= .ok v' w'∧Goes (BatL n (V.set j v') (L.set j (b++q))) T w w'∧∃a' c',v'= .slice a' (b++q).length c':=by
 obtain⟨k1,k2,k3⟩:=h.2.1 j v b hv hb;obtain⟨v',w',h1,h2,h3,h4⟩:=aE.append fZ (c:=c) (k1 hj) hq hlen (by decide) (aYf _) ty;have hjV:=(aZa.1 hv).1;have hjL:=(aZa.1 hb).1;have hoth:∀(i:Nat) (u:Value),i≠j→V[i]? =some u→∀g,u.ownBlock=some g→v.ownBlock≠some g:=fun i u hi hu g hg=>h.2.2 i j u v hi hu hv g hg;have hnew:∀g,v'.ownBlock=some g→v.ownBlock=some g∨(w.heap.size≤g∧g<w'.heap.size):=fun g hg=>by
  have hlt:=(h2.lt g hg).2;rcases h4 with h4|h4
  ·rw[h4]at hg;exact .inl hg
  ·rw[h4]at hg;cases hg;exact .inr ⟨aZq _,hlt⟩
 have hold:∀(i:Nat) (u:Value) (l:List Int64),V[i]? =some u→L[i]? =some l→∀g,u.ownBlock=some g→g<w.heap.size:=fun i u l hu hl g hg=>by
  obtain⟨p1,p2,_⟩:=h.2.1 i u l hu hl;by_cases hi:i<n
  ·exact((p1 hi).lt g hg).2
  ·exact((p2 (by omega)).lt g hg).2
 obtain⟨a',c',e',_⟩:=h2.at fZ;refine⟨v',w',h1,⟨Grow T w w',⟨by rw[aZn,aZn];exact h.1,fun i u l hu hl=> ?_,fun i k u u' hik hu hu' g hg=> ?_⟩,h3.mono (fun i _ hi=>k3 i hi),fun _ h=>h⟩,a',c',e'⟩
 ·rw[List.getElem?_set]at hu hl;by_cases e:j=i
  ·subst e;rw[if_pos rfl,if_pos hjV]at hu;rw[if_pos rfl,if_pos hjL]at hl;cases hu;cases hl;exact⟨fun _=>h2,fun hh=>by omega,fun g hg=>(hnew g hg).imp (fun hh=>k3 g hh) (fun hh=>hh)⟩
  ·rw[if_neg e]at hu hl;obtain⟨p1,p2,p3⟩:=h.2.1 i u l hu hl;exact⟨fun hi=>(p1 hi).mod h3 (fun g hg e2=>hoth i u (fun h=>e h.symm) hu g hg e2),fun hi=>(p2 hi).mod h3 (fun g hg e2=>hoth i u (fun h=>e h.symm) hu g hg e2),fun g hg=> .inl (p3 g hg)⟩
 ·rw[List.getElem?_set]at hu hu';by_cases e:j=i
  ·subst e;rw[if_pos rfl,if_pos hjV]at hu;rw[if_neg hik]at hu';cases hu;intro hg';rcases hnew g hg with hh|hh
   ·exact h.2.2 j k v u' hik hv hu' g hh hg'
   ·obtain⟨l,hl⟩:∃l,L[k]? =some l:=⟨_,aZb (by rw[←h.1];exact(aZa.1 hu').1)⟩;have:=hold k u' l hu' hl g hg';omega
  ·rw[if_neg e]at hu;by_cases e2:j=k
   ·subst e2;rw[if_pos rfl,if_pos hjV]at hu';cases hu';intro hg';rcases hnew g hg' with hh|hh
    ·exact h.2.2 i j u v hik hu hv g hg hh
    ·obtain⟨l,hl⟩:∃l,L[i]? =some l:=⟨_,aZb (by rw[←h.1];exact(aZa.1 hu).1)⟩;have:=hold i u l hu hl g hg;omega
   ·rw[if_neg e2]at hu';exact h.2.2 i k u u' hik hu hu' g hg
def wf (j:Nat):Fin 64:=⟨j % 64,aWt _ (by omega)⟩
theorem I5 {j:Nat} (h:j<64):(wf j).val=j:=Nat.mod_eq_of_lt h
theorem fG.takeJ {T:Nat→Prop} {t n:Nat} {L:List Lk} {w:World} (h:fG t n L T w) (a:Option Addr) (l:List aT) (c:Nat) {j:Nat} (hn:1≤n) (hn2:n≤64) (hl:aV w a l) (hlen:L.length+l.length≤1000000) (hj:j<n) (hf:gW L l j=true):
  Calls Tryz.prog 115 #[ptrV t,.slice a l.length c,.int .i64 (j:Int)] w fun e w'=>e= .returned (.int .i64 0)∧Goes (fG t n (addL L l (wf j))) T w w':=by
 have hv:=I5 (show j<64 by omega);have h1:=fG.take h a l c (wf j) hn hn2 hl hlen (by rw[hv];exact hj) (by rw[hv];exact hf);rw[hv]at h1;exact h1
def takeP (j:Nat) (ro:List aT) (cost:UInt64) (s:Pa):Pa:= {s with L:=addL s.L ro (wf j),fl:=s.fl.set j (s.fl.getD j 0+1),co:=s.co.set j (sat (s.co.getD j 0) cost)}
def jN (j:Nat) (i:Int64) (s:Pa):Pa:= {s with op:=s.op.set j (s.op.getD j []++[i])}
def giveP (E:Ev) (j:Nat) (i:Int64) (ro:List aT) (cost:UInt64) (s:Pa):Pa:=
 jN j i (if E.bat≤(s.op.getD j []).length∨(s.op.getD j []).any (fun k=>dJ (roS s.S k) ro)=true then pushP j (takeP j ro cost s)else takeP j ro cost s)
def popK (K:List Rn) (i:Int64):List Rn:=K.filter fun y=>decide (y.id≠i)
def chK (K:List Rn) (i:Int64):Int64:=((K.find? fun y=>decide (y.id=i)).map Rn.ch).getD 0
def stepP (E:Ev) (s:Pa) (i:Int64):Pa:=
 match itS s.S i with
 |none=>s
 |some x=>match wkP E s x.r.ro (chK s.K i)with
  |some w=>giveP E w i x.r.ro x.r.cost {s with K:=popK s.K i,hi:=put (chK s.K i) w s.hi}
  |none=> {s with K:=popK s.K i,al:=s.al++x.r.ro,sd:=s.sd++[i]}
theorem qE {X Y:List Rn} {x:Rn} (h:((X++x::Y).map Rn.id).Nodup):popK (X++x::Y) x.id=X++Y:=by
 rw[List.map_append,aZo,aZ7,aYc]at h;obtain⟨h1,⟨h2,h3⟩,h4⟩:=h;unfold popK;rw[aZ6,List.filter_cons_of_neg (by simp),aX1.2,aX1.2]
 ·intro y hy;refine Dt (fun e=>h2 ?_);rw[←e];exact aZj.2 ⟨y,hy,rfl⟩
 ·intro y hy;refine Dt (h4 _ (aZj.2 ⟨y,hy,rfl⟩) _ List.mem_cons_self)
theorem CE {X Y:List Rn} {x:Rn} (h:((X++x::Y).map Rn.id).Nodup):chK (X++x::Y) x.id=x.ch:=by
 rw[List.map_append,aZo,aZ7]at h;have h4:=h.2.2;unfold chK;rw[List.find?_append,List.find?_eq_none.2,Option.none_or,List.find?_cons_of_pos (by simp)]
 ·rfl
 ·intro y hy e;have e:=of_decide_eq_true e;exact h4 _ (aZj.2 ⟨y,hy,rfl⟩) _ List.mem_cons_self e
theorem wR {K:List Rn} {x:Rn} (h:x∈K):(popK K x.id).length+1≤K.length:=by
 obtain⟨X,Y,rfl⟩:=aXf h;have h1:=List.length_filter_le (fun y:Rn=>decide (y.id≠x.id)) X;have h2:=List.length_filter_le (fun y:Rn=>decide (y.id≠x.id)) Y;unfold popK;rw[aZ6,List.filter_cons_of_neg (by simp),aZg,aZg,aZu];omega
def xP (K:List Rn) (i:Int64):Prop:=∃X x Y,K=X++x::Y∧x.id=i∧X.any (fun y=>dJ y.l x.l)=false
theorem xP.mem {K:List Rn} {i:Int64} (h:xP K i):∃x∈K,x.id=i:=by
 obtain⟨X,x,Y,rfl,e,_⟩:=h;exact⟨x,by simp,e⟩
theorem xP.pop {K:List Rn} {i j:Int64} (h:xP K i) (hne:i≠j):xP (popK K j) i:=by
 obtain⟨X,x,Y,rfl,rfl,hf⟩:=h;refine⟨popK X j,x,popK Y j,?_,rfl,?_⟩
 ·unfold popK;rw[aZ6,List.filter_cons_of_pos (by simpa using hne)]
 ·rw[aWl]at hf⊢;exact fun y hy=>hf y (List.mem_filter.1 hy).1
theorem QB {K pre:List Rn}:∀ {i:Int64},i∈gG pre K→∃X x Y,K=X++x::Y∧x.id=i∧(pre++X).any (fun y=>dJ y.l x.l)=false:=by
 induction K generalizing pre with
 |nil=>intro i h;cases h
 |cons z K ih=>
  intro i h;rcases aZh.1 h with h|h
  ·split at h
   ·cases h
   ·rename_i hn;obtain rfl:=aZm.1 h;exact⟨[],z,K,rfl,rfl,by rw[aYx];simpa using hn⟩
  ·obtain⟨X,x,Y,rfl,e,hf⟩:=ih h;exact⟨z::X,x,Y,rfl,e,by rw[aZw]at hf;exact hf⟩
theorem oV {K:List Rn} {i:Int64} (h:i∈readyR K):xP K i:=by
 obtain⟨X,x,Y,h1,h2,h3⟩:=QB h;exact⟨X,x,Y,h1,h2,by rw[aYq]at h3;exact h3⟩
theorem jQ:∀(K pre:List Rn),(gG pre K).Sublist (K.map Rn.id)
 |[],_=>List.Sublist.slnil
 |x::K,pre=>by
  have ih:=jQ K (pre++[x]);show((if pre.any (fun y=>dJ y.l x.l)then []else [x.id])++gG (pre++[x]) K).Sublist (x.id::K.map Rn.id);split
  ·exact ih.cons _
  ·exact ih.cons_cons _
theorem jR {K:List Rn} (h:(K.map Rn.id).Nodup):(readyR K).Nodup:=h.sublist (jQ K [])
theorem DH {K:List Rn} (h:readyR K=[]):K=[]:=by
 cases K with
 |nil=>rfl
 |cons x K=>cases h
theorem getD_mem {α:Type} (l:List (List α)) (j:Nat):l.getD j []=[]∨l.getD j []∈l:=by
 rw[aZk];cases h:l[j]? with
 |none=>exact .inl rfl
 |some x=>exact .inr (aZi h)
theorem fC {α:Type} {l:List α} {j k:Nat} {v d:α}:(l.set j v).getD k d=if j=k∧k<l.length then v else l.getD k d:=by
 rw[aZk,aZk,List.getElem?_set];by_cases e:j=k
 ·subst e;by_cases h:j<l.length
  ·simp[h]
  ·simp[h]
 ·simp[e]
theorem wT (j:Nat) (s:Pa):(pushP j s).op=s.op.set j []:=by
 unfold pushP;split
 ·rename_i h;apply aXm;intro k;rw[List.getElem?_set];rw[aZk]at h;by_cases e:j=k
  ·subst e;rw[if_pos rfl];by_cases hj:j<s.op.length
   ·rw[if_pos hj];rw[aZb hj]at h⊢;exact congrArg some h
   ·rw[if_neg hj,aY1 (by omega)]
  ·rw[if_neg e]
 ·rfl
theorem qF (j:Nat) (s:Pa):(pushP j s).S=s.S∧(pushP j s).D=s.D∧(pushP j s).K=s.K∧(pushP j s).q=s.q∧(pushP j s).L=s.L∧(pushP j s).al=s.al∧(pushP j s).hi=s.hi∧(pushP j s).dr=s.dr∧(pushP j s).sd=s.sd∧(pushP j s).fl=s.fl∧(pushP j s).co=s.co:=by
 unfold pushP;split<;>exact⟨rfl,rfl,rfl,rfl,rfl,rfl,rfl,rfl,rfl,rfl,rfl⟩
structure eA (E:Ev) (s:Pa):Prop where
 fi:jE s
 kn:(s.K.map Rn.id).Nodup
 b1:1≤E.bat
 b2:E.bat≤64
 n2:E.n≤64
 lo:s.op.length=E.n
 ll:s.la.length=E.n
 hi:∀x∈s.hi,x.2<64
 it:∀y∈s.K,∃x,itS s.S y.id=some x∧x.pl≠0∧y.l=x.r.ro∧y.id=idn (ix y.id)
 oi:∀b∈s.op,∀k∈b,∃x,itS s.S k=some x∧x.pl≠0∧k=idn (ix k)
 ol:∀b∈s.op,b.length≤E.bat
 bl:s.L.length+800*(s.D.length+s.K.length)≤800000
 bg:s.gi.length+(s.D.length+s.K.length)≤9000
 bq:∀q∈s.la,q.length+(s.D.length+s.K.length)≤900
 bb:∀q∈s.la,sumB q+64*(s.D.length+s.K.length)≤90000
 bf:∀j,s.fl.getD j 0+(s.D.length+s.K.length)≤90000
 bs:s.sd.length+(s.D.length+s.K.length)≤9000
 si:∀k∈s.sd,∃x,itS s.S k=some x∧x.pl≠0∧k=idn (ix k)
theorem dA {S:List (Option It)} {i:Nat} {k:Int64} {v:Option It} (h:ix k≠i):itS (S.set i v) k=itS S k:=by
 unfold itS;rw[aZ0 (fun e=>h e.symm)]
theorem KV {S:List (Option It)} {k:Int64} {v:Option It} (h:ix k<S.length):itS (S.set (ix k) v) k=v:=by
 unfold itS;rw[List.getElem?_set_self h];rfl
theorem eX {S:List (Option It)} {k:Int64} {x:It} (h:itS S k=some x):S[ix k]? =some (some x):=by
 unfold itS at h;cases h2:S[ix k]? with
 |none=>rw[h2]at h;cases h
 |some o=>rw[h2]at h;exact congrArg some h
theorem lR {S:List (Option It)} {i:Nat} {x:It} (hx:S[i]? =some (some x)) (hp:x.pl=0) (v:Option It) {k:Int64} (h:∃x,itS S k=some x∧x.pl≠0∧k=idn (ix k)):∃x,itS (S.set i v) k=some x∧x.pl≠0∧k=idn (ix k):=by
 obtain⟨z,h1,h2,h3⟩:=h;have hne:ix k≠i:=fun e=>by
  have:=eX h1;rw[e,hx]at this;cases this;exact h2 hp
 exact⟨z,by rw[dA hne];exact h1,h2,h3⟩
theorem eA.put {E:Ev} {s:Pa} (h:eA E s) {y:Nd} {D:List Nd} (hD:s.D=y::D) {i:Nat} {x:It} (hy:y=⟨x.rk,idn i⟩) (hi:ix y.id=i) (hx:s.S[i]? =some (some x)) (hp:x.pl=0):eA E {s with S:=s.S.set i (some {x with pl:=1}),K:=s.K++[⟨y.id,eC s.K y.id x.r.ro,x.r.ro⟩],q:=s.q+1,D:=D}:=by
 have hl:s.D.length=D.length+1:=by rw[hD];rfl
 have hil:=(aZa.1 hx).1;have hkl:(s.K++[(⟨y.id,eC s.K y.id x.r.ro,x.r.ro⟩:Rn)]).length=s.K.length+1:=aZg;have e0:D.length+(s.K++[(⟨y.id,eC s.K y.id x.r.ro,x.r.ro⟩:Rn)]).length=s.D.length+s.K.length:=by omega
 refine⟨h.fi.put hD hy hx hp _,?_,h.b1,h.b2,h.n2,h.lo,h.ll,h.hi,fun u hu=> ?_,fun b hb k hk=>lR hx hp _ (h.oi b hb k hk),h.ol,?_,?_,?_,?_,?_,?_,fun k hk=>lR hx hp _ (h.si k hk)⟩
 ·show((s.K++[_]).map Rn.id).Nodup;rw[List.map_append,aZ7];refine⟨h.kn,by simp,fun a ha b hb=> ?_⟩;obtain⟨u,hu,rfl⟩:=aZj.1 ha;obtain rfl:=aZm.1 hb;exact h.fi.kd u hu y (by rw[hD];exact List.mem_cons_self)
 ·rcases aZh.1 hu with hu|hu
  ·obtain⟨z,h1,h2,h3,h4⟩:=h.it u hu;obtain⟨z2,k1,k2,k3⟩:=lR hx hp (some {x with pl:=1}) ⟨z,h1,h2,h4⟩;have hne:ix u.id≠i:=fun e=>by
    have:=eX h1;rw[e,hx]at this;cases this;exact h2 hp
   rw[dA hne,h1]at k1;cases k1;exact⟨z,by show itS (s.S.set i _) u.id=_;rw[dA hne];exact h1,h2,h3,h4⟩
  ·obtain rfl:=aZm.1 hu;refine⟨{x with pl:=1},?_,by simp,rfl,?_⟩
   ·show itS (s.S.set i _) y.id=_;rw[←hi,KV (by rw[hi];exact hil)]
   ·show y.id=idn (ix y.id);rw[hi,hy]
 ·show s.L.length+800*(D.length+_)≤_;rw[e0];exact h.bl
 ·show s.gi.length+(D.length+_)≤_;rw[e0];exact h.bg
 ·intro q hq;show _+(D.length+_)≤_;rw[e0];exact h.bq q hq
 ·intro q hq;show _+64*(D.length+_)≤_;rw[e0];exact h.bb q hq
 ·intro j;show _+(D.length+_)≤_;rw[e0];exact h.bf j
 ·show _+(D.length+_)≤_;rw[e0];exact h.bs
theorem eA.drop {E:Ev} {s:Pa} (h:eA E s) {y:Nd} {D:List Nd} (hD:s.D=y::D) {i:Nat} {x:It} (hy:y=⟨x.rk,idn i⟩) (hx:s.S[i]? =some (some x)) (hp:x.pl=0) (f:UInt64×Nat):eA E {s with S:=s.S.set i none,dr:=s.dr++[f],D:=D}:=by
 have hl:s.D.length=D.length+1:=by rw[hD];rfl
 refine⟨h.fi.drop hD hy hx hp f,h.kn,h.b1,h.b2,h.n2,h.lo,h.ll,h.hi,fun u hu=> ?_,fun b hb k hk=>lR hx hp _ (h.oi b hb k hk),h.ol,?_,?_,?_,?_,?_,?_,fun k hk=>lR hx hp _ (h.si k hk)⟩
 ·obtain⟨z,h1,h2,h3,h4⟩:=h.it u hu;have hne:ix u.id≠i:=fun e=>by
   have:=eX h1;rw[e,hx]at this;cases this;exact h2 hp
  exact⟨z,by show itS (s.S.set i _) u.id=_;rw[dA hne];exact h1,h2,h3,h4⟩
 ·have:=h.bl;show s.L.length+800*(D.length+s.K.length)≤_;omega
 ·have:=h.bg;show s.gi.length+(D.length+s.K.length)≤_;omega
 ·intro q hq;have:=h.bq q hq;show _+(D.length+s.K.length)≤_;omega
 ·intro q hq;have:=h.bb q hq;show _+64*(D.length+s.K.length)≤_;omega
 ·intro j;have:=h.bf j;show s.fl.getD j 0+(D.length+s.K.length)≤_;omega
 ·have:=h.bs;show s.sd.length+(D.length+s.K.length)≤_;omega
theorem mX {E:Ev} {I:Pa→Prop} (hf:∀s,I s→jE s)
  (hput:∀(s:Pa) (y:Nd) (D:List Nd) (i:Nat) (x:It),I s→s.D=y::D→y=⟨x.rk,idn i⟩→ix y.id=i→s.S[i]? =some (some x)→x.pl=0→s.K.length<E.win→cN E.H E.N x.r=0→I {s with S:=s.S.set i (some {x with pl:=1}),K:=s.K++[⟨y.id,eC s.K y.id x.r.ro,x.r.ro⟩],q:=s.q+1,D:=D})
  (hdrop:∀(s:Pa) (y:Nd) (D:List Nd) (i:Nat) (x:It),I s→s.D=y::D→y=⟨x.rk,idn i⟩→ix y.id=i→s.S[i]? =some (some x)→x.pl=0→cN E.H E.N x.r≠0→I {s with S:=s.S.set i none,dr:=s.dr++[(x.n,cN E.H E.N x.r)],D:=D}):
  ∀(n:Nat) (s:Pa),s.D.length=n→I s→I (fillP E s.D s)∧((fillP E s.D s).D=[]∨E.win≤(fillP E s.D s).K.length)∧(fillP E s.D s).D.length+(fillP E s.D s).K.length≤s.D.length+s.K.length:=by
 intro n
 induction n with
 |zero=>
  intro s hn hI;have hD:=aYn hn;rw[mY hD];exact⟨hI,.inl hD,aZq _⟩
 |succ n ih=>
  intro s hn hI;by_cases hl:s.K.length<E.win
  ·cases hD:s.D with
   |nil=>rw[hD]at hn;cases hn
   |cons y D=>
    have hn2:D.length=n:=by rw[hD]at hn;exact Nat.succ.inj hn
    obtain⟨i,x,hy,hx,hp,hi,hit,_⟩:=(hf s hI).head hD;rw[←hD];by_cases h0:cN E.H E.N x.r=0
    ·rw[rV hD hl hi hit h0];obtain⟨h1,h2,h3⟩:=ih _ hn2 (hput s y D i x hI hD hy hi hx hp hl h0);refine⟨h1,h2,aYb h3 ?_⟩;show D.length+(s.K++[_]).length≤_;rw[aZg,aZx,hD,aZu];omega
    ·rw[pK hD hl hi hit h0];obtain⟨h1,h2,h3⟩:=ih _ hn2 (hdrop s y D i x hI hD hy hi hx hp h0);refine⟨h1,h2,aYb h3 ?_⟩;show D.length+s.K.length≤_;rw[hD,aZu];omega
  ·rw[pL hl];exact⟨hI,.inr (by omega),aZq _⟩
theorem eA.fill {E:Ev} {s:Pa} (h:eA E s):eA E (fillP E s.D s):=
 (mX (I:=eA E) (fun s h=>h.fi) (fun s y D i x h h1 h2 h3 h4 h5 _ _=>h.put h1 h2 h3 h4 h5) (fun s y D i x h h1 h2 h3 h4 h5 _=>h.drop h1 h2 h4 h5 _) _ s rfl h).1
theorem GW {l:List Nat} {P:Nat→Prop}:∀ {xs:List Nat} {s:Option Nat} {k:Nat},(∀k,s=some k→P k)→(∀j∈xs,P j)→xs.foldl (pkS l) s=some k→P k
 |[],s,k,hs,_,h=>hs k h
 |x::xs,s,k,hs,hx,h=>GW (xs:=xs) (s:=pkS l s x) (fun j hj=>by
   unfold pkS at hj;split at hj
   ·split at hj
    ·cases hj;exact hx x List.mem_cons_self
    ·rename_i k2;split at hj
     ·cases hj;exact hx x List.mem_cons_self
     ·cases hj;exact hs _ rfl
   ·exact hs j hj) (fun j hj=>hx j (aZp _ hj)) h
theorem AW {m:Nat} {l:List Nat} {k:Nat} (h:pkR m l=some k):m.testBit k=true:=
 GW (P:=fun k=>m.testBit k=true) (fun k hk=>by cases hk) (fun j hj=>(List.mem_filter.1 hj).2) h
theorem MD {E:Ev} {s:Pa} {ro:List aT} {ch:Int64} {j:Nat} (h:wkP E s ro ch=some j):lM s.al ro=false∧(mkP E s ro E.n).testBit j=true:=by
 unfold wkP at h;split at h
 ·cases h
 ·rename_i hc;refine⟨by simpa using hc,?_⟩;split at h
  ·split at h
   ·rename_i hb;cases h;exact hb
   ·exact AW h
  ·exact AW h
theorem qP {E:Ev} {s:Pa} {ro:List aT} {ch:Int64} {j:Nat} (h:wkP E s ro ch=some j):lM s.al ro=false∧j<E.n∧gW s.L ro j=true∧s.fl.getD j 0<E.fli:=by
 obtain⟨h1,h2⟩:=MD h;unfold mkP at h2;rw[maskOf_testBit,aZy,aZy,aY4]at h2;obtain⟨h3,h4,h5⟩:=h2;have h3:=of_decide_eq_true h3;refine⟨h1,h3,h4,?_⟩;rcases h5 with h5|h5
 ·exact absurd (of_decide_eq_true h5) (by omega)
 ·exact of_decide_eq_true h5
theorem kU (E:Ev) (j:Nat) (i:Int64) (ro:List aT) (c:UInt64) (s:Pa):(giveP E j i ro c s).S=s.S∧(giveP E j i ro c s).D=s.D∧(giveP E j i ro c s).K=s.K∧(giveP E j i ro c s).q=s.q∧(giveP E j i ro c s).al=s.al∧(giveP E j i ro c s).hi=s.hi∧(giveP E j i ro c s).dr=s.dr∧(giveP E j i ro c s).sd=s.sd∧(giveP E j i ro c s).L=addL s.L ro (wf j)∧(giveP E j i ro c s).fl=s.fl.set j (s.fl.getD j 0+1)∧(giveP E j i ro c s).co=s.co.set j (sat (s.co.getD j 0) c):=by
 unfold giveP jN;split
 ·obtain⟨h1,h2,h3,h4,h5,h6,h7,h8,h9,h10,h11⟩:=qF j (takeP j ro c s);exact⟨h1,h2,h3,h4,h6,h7,h8,h9,h5,h10,h11⟩
 ·exact⟨rfl,rfl,rfl,rfl,rfl,rfl,rfl,rfl,rfl,rfl,rfl⟩
theorem giveP_cases (E:Ev) (j:Nat) (i:Int64) (ro:List aT) (c:UInt64) (s:Pa) (h1:1≤E.bat) (hj:j<s.op.length):
  ((s.op.getD j []).length<E.bat∧(s.op.getD j []).any (fun k=>dJ (roS s.S k) ro)=false∧(giveP E j i ro c s).op=s.op.set j (s.op.getD j []++[i])∧(giveP E j i ro c s).la=s.la∧(giveP E j i ro c s).gi=s.gi)∨
  (s.op.getD j []≠[]∧(giveP E j i ro c s).op=s.op.set j [i]∧(giveP E j i ro c s).la=s.la.set j (s.la.getD j []++[s.op.getD j []])∧(giveP E j i ro c s).gi=s.gi++[(j,s.op.getD j [])]):=by
 by_cases h:E.bat≤(s.op.getD j []).length∨(s.op.getD j []).any (fun k=>dJ (roS s.S k) ro)=true
 ·right;have hne:s.op.getD j []≠[]:=fun e=>by
   rw[e]at h;rcases h with h|h
   ·simp at h;omega
   ·cases h
  have hg:giveP E j i ro c s=jN j i (pushP j (takeP j ro c s)):=by unfold giveP;rw[if_pos h]
  have hp:pushP j (takeP j ro c s)= {takeP j ro c s with la:=s.la.set j (s.la.getD j []++[s.op.getD j []]),gi:=s.gi++[(j,s.op.getD j [])],op:=s.op.set j []}:=by
   unfold pushP;rw[if_neg (by exact hne)];rfl
  rw[hg,hp];refine⟨hne,?_,rfl,rfl⟩;unfold jN;dsimp only;rw[fC,if_pos ⟨rfl,hj⟩,List.set_set];rfl
 ·left;have hg:giveP E j i ro c s=jN j i (takeP j ro c s):=by unfold giveP;rw[if_neg h]
  rw[hg];exact⟨by omega,by simpa using fun e=>h (.inr e),rfl,rfl,rfl⟩
theorem nQ (q:List (List Int64)) (b:List Int64):sumB (q++[b])=sumB q+b.length:=by
 unfold sumB;rw[List.map_append,List.sum_append];simp
theorem iX {E:Ev} {s:Pa} {i:Int64} {x:It} (hx:itS s.S i=some x):(stepP E s i).S=s.S∧(stepP E s i).D=s.D∧(stepP E s i).K=popK s.K i∧(stepP E s i).q=s.q∧(stepP E s i).dr=s.dr:=by
 unfold stepP;rw[hx];dsimp only;cases wkP E s x.r.ro (chK s.K i)with
 |none=>exact⟨rfl,rfl,rfl,rfl,rfl⟩
 |some w=>
  dsimp only;obtain⟨h1,h2,h3,h4,h5,h6,h7,h8,_⟩:=kU E w i x.r.ro x.r.cost {s with K:=popK s.K i,hi:=put (chK s.K i) w s.hi};exact⟨h1,h2,h3,h4,h7⟩
theorem jE.popped {s s':Pa} (h:jE s) {i:Int64} (h1:s'.S=s.S) (h2:s'.D=s.D) (h3:s'.K=popK s.K i) (h4:s'.q=s.q) (h5:s'.dr=s.dr):jE s' where
 pm:=by rw[h1,h2];exact h.pm
 sr:=by rw[h2];exact h.sr
 qb:=by rw[h2,h4];exact h.qb
 kd:=by rw[h2,h3];exact fun x hx=>h.kd x (List.mem_filter.1 hx).1
 db:=by rw[h2,h5];exact h.db
 ro:=by rw[h1];exact h.ro
 sl:=by rw[h1];exact h.sl
theorem LC {M:List (Int64×Nat)} {c:Int64} {w:Nat} {P:Nat→Prop} (h:∀x∈M,P x.2) (hw:P w):∀x∈put c w M,P x.2:=by
 intro x hx;rcases mem_put hx with rfl|hx
 ·exact hw
 ·exact h x hx
theorem eA.step {E:Ev} {s:Pa} (h:eA E s) {i:Int64} (hr:∃y∈s.K,y.id=i):eA E (stepP E s i):=by
 obtain⟨y,hy,rfl⟩:=hr;obtain⟨x,hx,hpl,hyl,hid⟩:=h.it y hy;obtain⟨e1,e2,e3,e4,e5⟩:=iX (E:=E) hx;have hlen:=wR hy;have hbl:=h.bl;have hbg:=h.bg;have hbs:=h.bs;have hit:∀z∈popK s.K y.id,∃x,itS s.S z.id=some x∧x.pl≠0∧z.l=x.r.ro∧z.id=idn (ix z.id):=fun z hz=>h.it z (List.mem_filter.1 hz).1;have hkn:((popK s.K y.id).map Rn.id).Nodup:=h.kn.sublist (List.filter_sublist.map _);have hfi:=h.fi.popped e1 e2 e3 e4 e5;have hro:x.r.ro.length≤800:=h.fi.ro (ix y.id) x (eX hx);obtain⟨s',hs'⟩:∃s',stepP E s y.id=s':=⟨_,rfl⟩;rw[hs']at hfi⊢;clear e1 e2 e3 e4 e5;unfold stepP at hs';rw[hx]at hs';dsimp only at hs';cases hw:wkP E s x.r.ro (chK s.K y.id)with
 |none=>
  rw[hw]at hs';dsimp only at hs';subst hs';refine⟨hfi,hkn,h.b1,h.b2,h.n2,h.lo,h.ll,h.hi,hit,h.oi,h.ol,?_,?_,?_,?_,?_,?_,?_⟩
  ·show s.L.length+800*(s.D.length+(popK s.K y.id).length)≤_;omega
  ·show s.gi.length+(s.D.length+(popK s.K y.id).length)≤_;omega
  ·intro q hq;have:=h.bq q hq;show q.length+(s.D.length+(popK s.K y.id).length)≤_;omega
  ·intro q hq;have:=h.bb q hq;show sumB q+64*(s.D.length+(popK s.K y.id).length)≤_;omega
  ·intro j;have:=h.bf j;show s.fl.getD j 0+(s.D.length+(popK s.K y.id).length)≤_;omega
  ·show(s.sd++[y.id]).length+(s.D.length+(popK s.K y.id).length)≤_;rw[aZg,aZx];omega
  ·intro k hk;rcases aZh.1 hk with hk|hk
   ·exact h.si k hk
   ·obtain rfl:=aZm.1 hk;exact⟨x,hx,hpl,hid⟩
 |some j=>
  rw[hw]at hs';dsimp only at hs';obtain⟨_,hj,hfr,hfl⟩:=qP hw;obtain⟨g1,g2,g3,g4,g5,g6,g7,g8,g9,g10,g11⟩:=kU E j y.id x.r.ro x.r.cost {s with K:=popK s.K y.id,hi:=Go.Proofs.YtblbegbjlaokjaaGreatDoor.put (chK s.K y.id) j s.hi};have hgc:=giveP_cases E j y.id x.r.ro x.r.cost {s with K:=popK s.K y.id,hi:=Go.Proofs.YtblbegbjlaokjaaGreatDoor.put (chK s.K y.id) j s.hi} h.b1 (by rw[show({s with K:=popK s.K y.id,hi:=Go.Proofs.YtblbegbjlaokjaaGreatDoor.put (chK s.K y.id) j s.hi}:Pa).op=s.op from rfl,h.lo];exact hj);rw[hs']at g1 g2 g3 g4 g5 g6 g7 g8 g9 g10 g11 hgc;dsimp only at g1 g2 g3 g4 g5 g6 g7 g8 g9 g10 g11 hgc;have hlo:s'.op.length=E.n:=by
   rcases hgc with⟨_,_,k3,_,_⟩|⟨_,k3,_,_⟩<;>rw[k3,aZn]<;>exact h.lo
  have hll:s'.la.length=E.n:=by
   rcases hgc with⟨_,_,_,k3,_⟩|⟨_,_,k3,_⟩<;>rw[k3]
   ·exact h.ll
   ·rw[aZn];exact h.ll
  have hmem:∀b∈s'.op,b∈s.op∨(∃c,(c∈s.op∨c=[])∧b=c++[y.id]∧c.length<E.bat):=fun b hb=>by
   rcases hgc with⟨k1,_,k3,_,_⟩|⟨_,k3,_,_⟩
   ·rw[k3]at hb;rcases aXi hb with hb|rfl
    ·exact .inl hb
    ·exact .inr ⟨_,(getD_mem s.op j).symm,rfl,k1⟩
   ·rw[k3]at hb;rcases aXi hb with hb|rfl
    ·exact .inl hb
    ·exact .inr ⟨[],.inr rfl,rfl,h.b1⟩
  have hgi:s'.gi.length≤s.gi.length+1:=by
   rcases hgc with⟨_,_,_,_,k⟩|⟨_,_,_,k⟩<;>rw[k]
   ·omega
   ·rw[aZg];simp
  have hla:∀q∈s'.la,q∈s.la∨∃c∈s.la,∃b,q=c++[b]∧b.length≤64:=fun q hq=>by
   rcases hgc with⟨_,_,_,k,_⟩|⟨_,_,k,_⟩
   ·rw[k]at hq;exact .inl hq
   ·rw[k]at hq;rcases aXi hq with hq|rfl
    ·exact .inl hq
    ·right;have hjl:j<s.la.length:=by rw[h.ll];exact hj
     refine⟨_,(by rw[aZk,aZb hjl];exact aXt hjl),_,rfl,?_⟩;have hb2:=h.b2;rcases getD_mem s.op j with e|e
     ·rw[e];simp
     ·exact aYb (h.ol _ e) hb2
  refine⟨hfi,by rw[g3];exact hkn,h.b1,h.b2,h.n2,hlo,hll,by rw[g6];exact LC (P:=fun x=>x<64) h.hi (aZd hj h.n2),by rw[g3,g1];exact hit,?_,?_,?_,?_,?_,?_,?_,?_,by rw[g8,g1];exact h.si⟩
  ·intro b hb k hk;rw[g1];rcases hmem b hb with hb|⟨c,hc,rfl,_⟩
   ·exact h.oi b hb k hk
   ·rcases aZh.1 hk with hk|hk
    ·rcases hc with hc|rfl
     ·exact h.oi c hc k hk
     ·cases hk
    ·obtain rfl:=aZm.1 hk;exact⟨x,hx,hpl,hid⟩
  ·intro b hb;rcases hmem b hb with hb|⟨c,hc,rfl,hlt⟩
   ·exact h.ol b hb
   ·rw[aZg,aZx];omega
  ·rw[g9,o6,g2,g3];omega
  ·rw[g2,g3];omega
  ·intro q hq;rw[g2,g3];rcases hla q hq with hq|⟨c,hc,b,rfl,_⟩
   ·have:=h.bq q hq;omega
   ·have:=h.bq c hc;rw[aZg,aZx];omega
  ·intro q hq;rw[g2,g3];rcases hla q hq with hq|⟨c,hc,b,rfl,hb⟩
   ·have:=h.bb q hq;omega
   ·have:=h.bb c hc;rw[nQ];omega
  ·intro k;rw[g10,g2,g3,fC];have:=h.bf k;split
   ·rename_i e;rw[e.1];omega
   ·omega
  ·rw[g8,g2,g3];omega
def gS (E:Ev) (s:Pa):Pa:=(readyR (fillP E s.D s).K).foldl (stepP E) (fillP E s.D s)
inductive c8 (E:Ev):Pa→Pa→Prop
 |done (s:Pa):readyR (fillP E s.D s).K=[]→c8 E s (fillP E s.D s)
 |go (s t:Pa):readyR (fillP E s.D s).K≠[]→c8 E (gS E s) t→c8 E s t
theorem pO {E:Ev} {I:Pa→Prop} (hro:∀s,I s→eA E s) (hstep:∀s i,I s→xP s.K i→I (stepP E s i)):
  ∀(l:List Int64) (s:Pa),l.Nodup→(∀i∈l,xP s.K i)→I s→I (l.foldl (stepP E) s)∧(l.foldl (stepP E) s).K.length+l.length≤s.K.length∧(l.foldl (stepP E) s).D=s.D
 |[],s,_,_,hI=>⟨hI,aZq _,rfl⟩
 |i::l,s,hn,hr,hI=>by
  rw[aYc]at hn;have hri:=hr i List.mem_cons_self;obtain⟨y,hy,hyi⟩:=hri.mem;obtain⟨x,hx,_⟩:=(hro s hI).it y hy;rw[hyi]at hx;obtain⟨_,e2,e3,_⟩:=iX (E:=E) hx;have hlen:=wR hy;rw[hyi]at hlen;obtain⟨h1,h2,h3⟩:=pO hro hstep l (stepP E s i) hn.2 (fun k hk=>by rw[e3];exact(hr k (aZp _ hk)).pop (fun e=>hn.1 (e▸hk))) (hstep s i hI hri);refine⟨h1,?_,h3.trans e2⟩;rw[e3]at h2;rw[List.foldl_cons,aZu];omega
theorem c8.ind {E:Ev} {I:Pa→Prop} (hw:1≤E.win) (hro:∀s,I s→eA E s)
  (hput:∀(s:Pa) (y:Nd) (D:List Nd) (i:Nat) (x:It),I s→s.D=y::D→y=⟨x.rk,idn i⟩→ix y.id=i→s.S[i]? =some (some x)→x.pl=0→s.K.length<E.win→cN E.H E.N x.r=0→I {s with S:=s.S.set i (some {x with pl:=1}),K:=s.K++[⟨y.id,eC s.K y.id x.r.ro,x.r.ro⟩],q:=s.q+1,D:=D})
  (hdrop:∀(s:Pa) (y:Nd) (D:List Nd) (i:Nat) (x:It),I s→s.D=y::D→y=⟨x.rk,idn i⟩→ix y.id=i→s.S[i]? =some (some x)→x.pl=0→cN E.H E.N x.r≠0→I {s with S:=s.S.set i none,dr:=s.dr++[(x.n,cN E.H E.N x.r)],D:=D})
  (hstep:∀s i,I s→xP s.K i→I (stepP E s i)) {s t:Pa} (h:c8 E s t):I s→I t∧t.K=[]∧t.D=[]:=by
 have hfill:∀s,I s→I (fillP E s.D s)∧((fillP E s.D s).D=[]∨E.win≤(fillP E s.D s).K.length):=fun s hI=>by
  obtain⟨h1,h2,_⟩:=mX (I:=I) (fun s h=>(hro s h).fi) hput hdrop _ s rfl hI;exact⟨h1,h2⟩
 induction h with
 |done s hr=>
  intro hI;obtain⟨h1,h2⟩:=hfill s hI;have hK:=DH hr;refine⟨h1,hK,?_⟩;rcases h2 with h2|h2
  ·exact h2
  ·rw[hK]at h2;simp at h2;omega
 |go s t _ _ ih=>
  intro hI;have h1:=(hfill s hI).1;exact ih (pO hro hstep _ _ (jR (hro _ h1).kn) (fun i hi=>oV hi) h1).1
def allG (s:Pa):List Int64:=(s.gi.map Prod.snd).flatten++s.op.flatten
def VH (D:List Nd) (a b:Int64):Prop:=[a,b].Sublist (D.map Nd.id)
def NR (s:Pa) (w:Nat) (b:List Int64):Prop:=(w,b)∈s.gi∨s.op[w]? =some b
def NQ (s:Pa) (a b:Int64):Prop:=∃(p w:Nat) (ba:List Int64),s.gi[p]? =some (w,ba)∧a∈ba∧((∃(q:Nat) (bb:List Int64),p<q∧s.gi[q]? =some (w,bb)∧b∈bb)∨∃bb,s.op[w]? =some bb∧b∈bb)
def pF (E:Ev) (S:List (Option It)) (y:Nd):Option (UInt64×Nat):=(itS S y.id).bind fun x=>if cN E.H E.N x.r=0 then none else some (x.n,cN E.H E.N x.r)
theorem TX {l:List Int64} (hn:l.Nodup) {a b:Int64} (h1:[a,b].Sublist l) (h2:[b,a].Sublist l):False:=by
 induction l with
 |nil=>cases h1
 |cons x l ih=>
  rw[aYc]at hn;cases h1 with
  |cons _ h1=>
   cases h2 with
   |cons _ h2=>exact ih hn.2 h1 h2
   |cons_cons _ h2=>exact hn.1 (h1.subset (by simp))
  |cons_cons _ h1=>
   cases h2 with
   |cons _ h2=>exact hn.1 (h2.subset (by simp))
   |cons_cons _ h2=>exact hn.1 (by have:=h2.subset (aZm.2 rfl);exact this)
structure mO (E:Ev) (s0 s:Pa):Prop where
 nd:(s0.D.map Nd.id).Nodup
 si:∀(k:Int64) (x:It),itS s.S k=some x→∃x0,itS s0.S k=some x0∧x.r=x0.r∧x.n=x0.n
 un:∀y∈s.D,itS s.S y.id=itS s0.S y.id
 pre:∃P,s0.D=P++s.D∧s.dr=P.filterMap (pF E s0.S)∧(s.K.map Rn.id).Sublist (P.map Nd.id)∧(∀k∈allG s++s.sd,k∈P.map Nd.id)∧P.length=s.dr.length+s.K.length+(allG s).length+s.sd.length
 dj:(s.K.map Rn.id++(allG s++s.sd)).Nodup
 lk:∀(w:Nat) (b:List Int64),NR s w b→∀k∈b,∀r∈roS s0.S k,(r.k,r.w,wf w)∈s.L
 al:∀k∈s.sd,∀r∈roS s0.S k,r∈s.al
 pr:∀a b,VH s0.D a b→dJ (roS s0.S a) (roS s0.S b)=true→b∈allG s→a∉s.K.map Rn.id∧a∉s.D.map Nd.id∧a∉s.sd∧(a∈allG s→NQ s a b)
 lo:s.op.length=E.n
 ll:s.la.length=E.n
 lf:s.fl.length=E.n
 ln:E.n≤64
 lg:∀w,w<E.n→s.la[w]? =some ((s.gi.filter fun x=>x.1==w).map Prod.snd)
 fl:∀w,s.fl.getD w 0=sumB (s.la.getD w [])+(s.op.getD w []).length∧s.fl.getD w 0≤E.fli
 gb:∀x∈s.gi,x.2≠[]∧x.2.length≤E.bat∧x.1<E.n
 ob:∀b∈s.op,b.length≤E.bat
 cn:(s.S.filter Option.isSome).length+s.dr.length=(s0.S.filter Option.isSome).length
theorem pN {L:List (List Int64)} {j:Nat} (hj:j<L.length) (v:List Int64):(L.set j v).flatten.Perm (v++(L.set j []).flatten):=by
 induction L generalizing j with
 |nil=>simp at hj
 |cons b L ih=>
  cases j with
  |zero=>simp
  |succ j=>
   simp only[zH,List.flatten_cons];have h:=ih (j:=j) (by simpa using hj);refine(h.append_left b).trans ?_;rw[←aZw,←aZw];exact List.Perm.append_right _ List.perm_append_comm
theorem vZ {L:List (List Int64)} {j:Nat} (hj:j<L.length):L.flatten.Perm (L.getD j []++(L.set j []).flatten):=by
 have h:=pN hj (L.getD j []);rw[show L.set j (L.getD j [])=L by rw[aZk,aZb hj,zE,List.set_getElem_self]]at h;exact h
theorem B5 (E:Ev) (j:Nat) (i:Int64) (ro:List aT) (c:UInt64) (s:Pa) (h1:1≤E.bat) (hj:j<s.op.length):(allG (giveP E j i ro c s)).Perm (i::allG s):=by
 have hg:=vZ hj;have key:∀X:List Int64,(X++(s.op.getD j []++([i]++(s.op.set j []).flatten))).Perm (i::(X++s.op.flatten)):=fun X=>by
  have e:(s.op.getD j []++([i]++(s.op.set j []).flatten)).Perm (i::s.op.flatten):=by
   rw[←aZw];refine(List.Perm.append_right _ List.perm_append_comm).trans ?_;rw[aZw];exact List.Perm.cons i hg.symm
  exact(e.append_left X).trans List.perm_middle
 unfold allG;rcases giveP_cases E j i ro c s h1 hj with⟨_,_,k1,_,k2⟩|⟨_,k1,_,k2⟩
 ·rw[k1,k2];refine((pN hj _).append_left _).trans ?_;rw[aZw];exact key _
 ·rw[k1,k2,List.map_append,List.flatten_append,aZw];refine(((pN hj [i]).append_left _).append_left _).trans ?_;have e:[(j,s.op.getD j [])].map Prod.snd=[s.op.getD j []]:=rfl;rw[e,List.flatten_cons,List.flatten_nil,aYx];exact key _
theorem GI {s:Pa} {k:Int64} (h:k∈allG s):∃w b,NR s w b∧k∈b:=by
 rcases aZh.1 h with h|h
 ·obtain⟨b,hb,hk⟩:=List.mem_flatten.1 h;obtain⟨x,hx,rfl⟩:=aZj.1 hb;exact⟨x.1,x.2,.inl hx,hk⟩
 ·obtain⟨b,hb,hk⟩:=List.mem_flatten.1 h;obtain⟨w,hw,rfl⟩:=List.getElem_of_mem hb;exact⟨w,_,.inr (aZb hw),hk⟩
theorem mO.ro {E:Ev} {s0 s:Pa} (h:mO E s0 s) {k:Int64} {x:It} (hx:itS s.S k=some x):roS s.S k=x.r.ro∧roS s0.S k=x.r.ro:=by
 obtain⟨x0,h0,h1,_⟩:=h.si k x hx;unfold roS;rw[hx,h0];exact⟨rfl,by rw[h1];rfl⟩
theorem mO.start {E:Ev} {s:Pa} (hok:eA E s) (hK:s.K=[]) (hL:s.L=[]) (hgi:s.gi=[]) (hop:s.op=List.replicate E.n []) (hla:s.la=List.replicate E.n []) (hfl:s.fl=List.replicate E.n 0) (hdr:s.dr=[]) (hsd:s.sd=[]):mO E s s:=by
 have hop0:∀b∈s.op,b=[]:=fun b hb=>by
  rw[hop]at hb;exact(List.mem_replicate.1 hb).2
 have hG:allG s=[]:=by
  unfold allG;rw[hgi,hop];simp
 refine⟨?_,fun k x hx=>⟨x,hx,rfl,rfl⟩,fun _ _=>rfl,⟨[],rfl,hdr,by rw[hK];exact List.Sublist.slnil,by rw[hG,hsd];simp,by rw[hG,hdr,hK,hsd];rfl⟩,by rw[hK,hG,hsd];simp,?_,by rw[hsd];simp,by rw[hG];simp,by rw[hop];simp,by rw[hla];simp,by rw[hfl];simp,hok.n2,?_,?_,by rw[hgi];simp,fun b hb=>by rw[hop0 b hb];simp,by rw[hdr];rfl⟩
 ·have:=hok.fi.sl;exact(hok.fi.pm.map Nd.id).nodup_iff.2 (uZ (by omega))
 ·rintro w b (h|h) k hk
  ·rw[hgi]at h;cases h
  ·rw[hop0 b (aZi h)]at hk;cases hk
 ·intro w hw;rw[hgi,hla,aY3,if_pos hw];rfl
 ·intro w;have e1:s.fl.getD w 0=0:=by
   rw[hfl,aZk,aY3];split<;>rfl
  have e2:s.la.getD w []=[]:=by
   rw[hla,aZk,aY3];split<;>rfl
  have e3:s.op.getD w []=[]:=by
   rw[hop,aZk,aY3];split<;>rfl
  rw[e1,e2,e3];exact⟨rfl,aYf _⟩
theorem AA {S:List (Option It)} {i:Nat} {x:It} (h:S[i]? =some (some x)) (v:Option It):((S.set i v).filter Option.isSome).length+1=(S.filter Option.isSome).length+(if v.isSome then 1 else 0):=by
 obtain⟨A,B,rfl,rfl⟩:=EM h;rw[DI,aZ6,aZ6,aZg,aZg];have h1:(List.filter Option.isSome (some x::B)).length=(List.filter Option.isSome B).length+1:=by rw[List.filter_cons_of_pos rfl];rfl
 rw[h1];cases v with
 |none=>
  rw[List.filter_cons_of_neg (by simp)];simp only[Option.isSome_none,aZr,if_false];omega
 |some y=>
  rw[List.filter_cons_of_pos rfl];simp only[Option.isSome_some,if_true,aZu]
theorem B7 {s s':Pa} (h1:s'.gi=s.gi) (h2:s'.op=s.op):allG s'=allG s:=by
 unfold allG;rw[h1,h2]
theorem NQ.same {s s':Pa} {a b:Int64} (h:NQ s a b) (h1:s'.gi=s.gi) (h2:s'.op=s.op):NQ s' a b:=by
 unfold NQ;rw[h1,h2];exact h
theorem mO.put {E:Ev} {s0 s:Pa} (h:mO E s0 s) (hok:eA E s) {y:Nd} {D:List Nd} (hD:s.D=y::D) {i:Nat} {x:It} (hy:y=⟨x.rk,idn i⟩) (hi:ix y.id=i) (hx:s.S[i]? =some (some x)) (hp:x.pl=0) (hf:cN E.H E.N x.r=0) (c:Int64):mO E s0 {s with S:=s.S.set i (some {x with pl:=1}),K:=s.K++[⟨y.id,c,x.r.ro⟩],q:=s.q+1,D:=D}:=by
 have hil:=(aZa.1 hx).1;have hix:itS s.S y.id=some x:=by unfold itS;rw[hi,hx];rfl
 obtain⟨P,p1,p2,p3,p4,p5⟩:=h.pre;have hyd:∀z∈D,z.id≠y.id:=fun z hz e=>by
  have hn:=h.nd;rw[p1,hD,List.map_append,aZ7]at hn;have:=hn.2.1;rw[aZo,aYc]at this;exact this.1 (by rw[←e];exact aZj.2 ⟨z,hz,rfl⟩)
 have hyP:y.id∉P.map Nd.id:=fun hm=>by
  have hn:=h.nd;rw[p1,hD,List.map_append,aZ7]at hn;exact hn.2.2 _ hm _ (aZj.2 ⟨y,List.mem_cons_self,rfl⟩) rfl
 have hxd:∀z∈D,ix z.id≠i:=fun z hz e=>by
  obtain⟨j,x2,e2,_,_,h4,_⟩:∃(j:Nat) (x2:It),z=⟨x2.rk,idn j⟩∧True∧True∧ix z.id=j∧True:=by
   obtain⟨j,x2,h1,h2,h3⟩:=i5 (hok.fi.pm.mem_iff.1 (by rw[hD];exact aZp _ hz));rw[aXe]at h3;have:=(aZa.1 h1).1;have hs:=hok.fi.sl;exact⟨j,x2,h3,trivial,trivial,by rw[h3];exact yQ (by omega),trivial⟩
  rw[h4]at e;exact hyd z hz (by rw[e2,hy,e])
 refine⟨h.nd,fun k z hz=> ?_,fun z hz=> ?_,⟨P++[y],by rw[p1,hD,aZw];rfl,?_,?_,fun k hk=> ?_,?_⟩,?_,h.lk,h.al,fun a b h1 h2 h3=> ?_,h.lo,h.ll,h.lf,h.ln,h.lg,h.fl,h.gb,h.ob,?_⟩
 ·dsimp only at hz;by_cases e:ix k=i
  ·have hz2:some {x with pl:=1}=some z:=by
    rw[←hz];unfold itS;rw[e,List.getElem?_set_self hil];rfl
   cases hz2;obtain⟨x0,h0,h1,h2⟩:=h.si k x (by unfold itS;rw[e,hx];rfl);exact⟨x0,h0,h1,h2⟩
  ·rw[dA e]at hz;exact h.si k z hz
 ·show itS (s.S.set i _) z.id=_;rw[dA (hxd z hz)];exact h.un z (by rw[hD];exact aZp _ hz)
 ·have hd:pF E s0.S y=none:=by
   unfold pF;rw[←h.un y (by rw[hD];exact List.mem_cons_self),hix];simp[hf]
  rw[List.filterMap_append,←p2,List.filterMap_cons,hd];simp
 ·show((s.K++[_]).map Rn.id).Sublist _;rw[List.map_append,List.map_append];exact p3.append (List.Sublist.refl _)
 ·rw[List.map_append];exact aZl _ (p4 k hk)
 ·show(P++[y]).length=s.dr.length+(s.K++[_]).length+(allG s).length+s.sd.length;rw[aZg,aZg,aZx,aZx];omega
 ·show((s.K++[_]).map Rn.id++(allG s++s.sd)).Nodup;rw[List.map_append,aZw,aZ7];have hd:=h.dj;rw[aZ7]at hd;refine⟨hd.1,?_,fun a ha b hb=> ?_⟩
  ·show(y.id::(allG s++s.sd)).Nodup;rw[aYc];exact⟨fun hm=>hyP (p4 _ hm),hd.2.1⟩
  ·rcases aZc.1 hb with hb|hb
   ·exact fun e=>hyP (by rw[show y.id=a from(e.trans hb).symm];exact p3.subset ha)
   ·exact hd.2.2 a ha b hb
 ·obtain⟨k1,k2,k3,k4⟩:=h.pr a b h1 h2 h3;refine⟨fun hm=> ?_,fun hm=>k2 (by rw[hD];exact aZp _ hm),k3,k4⟩;rw[List.map_append]at hm;rcases aZh.1 hm with hm|hm
  ·exact k1 hm
  ·rw[aZm.1 hm]at k2;exact k2 (by rw[hD];exact List.mem_cons_self)
 ·have:=AA hx (some {x with pl:=1});have hc:=h.cn;simp only[Option.isSome_some,if_true]at this;show((s.S.set i _).filter Option.isSome).length+s.dr.length=_;omega
theorem mO.drop {E:Ev} {s0 s:Pa} (h:mO E s0 s) (hok:eA E s) {y:Nd} {D:List Nd} (hD:s.D=y::D) {i:Nat} {x:It} (hy:y=⟨x.rk,idn i⟩) (hi:ix y.id=i) (hx:s.S[i]? =some (some x)) (hp:x.pl=0) (hf:cN E.H E.N x.r≠0):mO E s0 {s with S:=s.S.set i none,dr:=s.dr++[(x.n,cN E.H E.N x.r)],D:=D}:=by
 have hil:=(aZa.1 hx).1;have hix:itS s.S y.id=some x:=by unfold itS;rw[hi,hx];rfl
 obtain⟨P,p1,p2,p3,p4,p5⟩:=h.pre;have hyd:∀z∈D,z.id≠y.id:=fun z hz e=>by
  have hn:=h.nd;rw[p1,hD,List.map_append,aZ7]at hn;have:=hn.2.1;rw[aZo,aYc]at this;exact this.1 (by rw[←e];exact aZj.2 ⟨z,hz,rfl⟩)
 have hxd:∀z∈D,ix z.id≠i:=fun z hz e=>by
  obtain⟨j,x2,e2,h4⟩:∃(j:Nat) (x2:It),z=⟨x2.rk,idn j⟩∧ix z.id=j:=by
   obtain⟨j,x2,h1,h2,h3⟩:=i5 (hok.fi.pm.mem_iff.1 (by rw[hD];exact aZp _ hz));rw[aXe]at h3;have:=(aZa.1 h1).1;have hs:=hok.fi.sl;exact⟨j,x2,h3,by rw[h3];exact yQ (by omega)⟩
  rw[h4]at e;exact hyd z hz (by rw[e2,hy,e])
 refine⟨h.nd,fun k z hz=> ?_,fun z hz=> ?_,⟨P++[y],by rw[p1,hD,aZw];rfl,?_,?_,fun k hk=> ?_,?_⟩,h.dj,h.lk,h.al,fun a b h1 h2 h3=> ?_,h.lo,h.ll,h.lf,h.ln,h.lg,h.fl,h.gb,h.ob,?_⟩
 ·dsimp only at hz;by_cases e:ix k=i
  ·have hz2:none=some z:=by
    rw[←hz];unfold itS;rw[e,List.getElem?_set_self hil];rfl
   cases hz2
  ·rw[dA e]at hz;exact h.si k z hz
 ·show itS (s.S.set i _) z.id=_;rw[dA (hxd z hz)];exact h.un z (by rw[hD];exact aZp _ hz)
 ·have hd:pF E s0.S y=some (x.n,cN E.H E.N x.r):=by
   unfold pF;rw[←h.un y (by rw[hD];exact List.mem_cons_self),hix];simp[hf]
  rw[List.filterMap_append,←p2,List.filterMap_cons,hd];simp
 ·rw[List.map_append];exact p3.trans (List.sublist_append_left _ _)
 ·rw[List.map_append];exact aZl _ (p4 k hk)
 ·show(P++[y]).length=(s.dr++[_]).length+s.K.length+(allG s).length+s.sd.length;rw[aZg,aZg,aZx,aZx];omega
 ·obtain⟨k1,k2,k3,k4⟩:=h.pr a b h1 h2 h3;exact⟨k1,fun hm=>k2 (by rw[hD];exact aZp _ hm),k3,k4⟩
 ·have:=AA hx none;have hc:=h.cn;simp only[Option.isSome_none,aZr,if_false]at this;show((s.S.set i none).filter Option.isSome).length+(s.dr++[_]).length=_;rw[aZg,aZx];omega
theorem AB {a b:List aT}:dJ a b=true↔∃r∈a,∃t∈b,r.k=t.k∧(r.w||t.w)=true:=by
 unfold dJ;simp only[aYv,aZy,decide_eq_true_eq]
theorem FA {al l m:List aT} (h:dJ l m=true) (hs:∀r∈l,r∈al):lM al m=true:=by
 obtain⟨r,hr,t,ht,h1,h2⟩:=AB.1 h;unfold lM tD;exact aYv.2 ⟨r,hs r hr,aYv.2 ⟨t,ht,by rw[Dt h1,h2];rfl⟩⟩
theorem CP {L:List Lk} {l m:List aT} {j w:Nat} (hj:j<64) (hw:w<64) (hf:gW L m j=true) (h:dJ l m=true) (hs:∀r∈l,(r.k,r.w,wf w)∈L):w=j:=by
 obtain⟨r,hr,t,ht,h1,h2⟩:=AB.1 h;unfold gW at hf;have h3:=aYh.1 (aYh.1 hf t ht) _ (hs r hr);unfold sX at h3;rw[Dt h1,h2,I5 hw]at h3;simpa using h3
theorem vF {l:List aT} {i:Fin 64}:∀ {L:List Lk} {x:Lk},x∈L→x∈addL L l i:=by
 induction l with
 |nil=>intro L x h;exact h
 |cons r l ih=>intro L x h;exact ih (L:=(r.k,r.w,i)::L) (aZp _ h)
theorem EE {l:List aT} {i:Fin 64}:∀ {L:List Lk} {r:aT},r∈l→(r.k,r.w,i)∈addL L l i:=by
 induction l with
 |nil=>intro L r h;cases h
 |cons t l ih=>
  intro L r h;rcases aZc.1 h with rfl|h
  ·exact vF (L:=(r.k,r.w,i)::L) List.mem_cons_self
  ·exact ih (L:=(t.k,t.w,i)::L) h
theorem mO.step {E:Ev} {s0 s:Pa} (h:mO E s0 s) (hok:eA E s) {i:Int64} (hr:xP s.K i):mO E s0 (stepP E s i):=by
 obtain⟨X,y,Y,hK,rfl,hf⟩:=hr;have hy:y∈s.K:=by rw[hK];simp
 obtain⟨x,hx,hpl,hyl,hid⟩:=hok.it y hy;obtain⟨e1,e2,e3,e4,e5⟩:=iX (E:=E) hx;obtain⟨hro1,hro0⟩:=h.ro hx;have hkn:=hok.kn;have hpk:popK s.K y.id=X++Y:=by rw[hK]at hkn⊢;exact qE hkn
 obtain⟨P,p1,p2,p3,p4,p5⟩:=h.pre;have hiK:y.id∈s.K.map Rn.id:=aZj.2 ⟨y,hy,rfl⟩;have hiP:y.id∈P.map Nd.id:=p3.subset hiK;have hdj:=h.dj;rw[aZ7]at hdj;have hinot:∀k∈allG s++s.sd,k≠y.id:=fun k hk e=>hdj.2.2 _ hiK k hk e.symm;have hsubK:((X++Y).map Rn.id).Sublist (s.K.map Rn.id):=by
  rw[hK];exact List.Sublist.map _ ((List.Sublist.refl X).append (aYk _ _))
 have hnK:∀a∈(X++Y).map Rn.id,a∈s.K.map Rn.id∧a≠y.id:=fun a ha=>⟨hsubK.subset ha,fun e=>by
  rw[hK,List.map_append,aZo,aZ7,aYc]at hkn;rw[List.map_append]at ha;rcases aZh.1 ha with ha|ha
  ·exact hkn.2.2 a ha _ List.mem_cons_self e
  ·exact hkn.2.1.1 (e▸ha)⟩
 have hKlen:s.K.length=(X++Y).length+1:=by rw[hK];simp;omega
 have hperm:∀R:List Int64,R.Perm (y.id::(allG s++s.sd))→((X++Y).map Rn.id++R).Nodup:=fun R hR=>by
  have h0:=h.dj;rw[hK,List.map_append,aZo]at h0;have hp:((X++Y).map Rn.id++R).Perm (X.map Rn.id++y.id::Y.map Rn.id++(allG s++s.sd)):=by
   rw[List.map_append];refine(hR.append_left _).trans ?_;refine List.perm_middle.trans ?_;have e:X.map Rn.id++y.id::Y.map Rn.id++(allG s++s.sd)=X.map Rn.id++y.id::(Y.map Rn.id++(allG s++s.sd)):=by simp
   rw[e,aZw];exact List.perm_middle.symm
  exact hp.nodup_iff.2 h0
 have hbef:∀a,VH s0.D a y.id→a∉s.D.map Nd.id∧(a∈s.K.map Rn.id→a∈X.map Rn.id)∧a≠y.id:=fun a ha=>by
  refine⟨fun hm=> ?_,fun hm=> ?_,?_⟩
  ·have h2:[y.id,a].Sublist (s0.D.map Nd.id):=by
    rw[p1,List.map_append];exact(List.singleton_sublist.2 hiP).append (List.singleton_sublist.2 hm)
   exact TX h.nd ha h2
  ·rw[hK,List.map_append,aZo]at hm;rcases aZh.1 hm with hm|hm
   ·exact hm
   ·exfalso;rcases aZc.1 hm with rfl|hm
    ·have:=h.nd.sublist ha;simp at this
    ·have h2:[y.id,a].Sublist (s.K.map Rn.id):=by
      rw[hK,List.map_append,aZo];exact((List.singleton_sublist.2 hm).cons_cons y.id).trans (List.sublist_append_right _ _)
     refine TX h.nd ha (h2.trans (p3.trans ?_));rw[p1,List.map_append];exact List.sublist_append_left _ _
  ·rintro rfl;have:=h.nd.sublist ha;simp at this
 have hnX:∀a∈X.map Rn.id,dJ (roS s0.S a) x.r.ro=true→False:=fun a ha hc=>by
  obtain⟨z,hz,rfl⟩:=aZj.1 ha;obtain⟨xz,h1,_,h3,_⟩:=hok.it z (by rw[hK];exact aZl _ hz);rw[(h.ro h1).2,←h3,←hyl]at hc;exact(aWl.1 hf z hz) hc
 have hs:∃s',stepP E s y.id=s':=⟨_,rfl⟩;obtain⟨s',hs'⟩:=hs;rw[hs']at e1 e2 e3 e4 e5⊢;rw[hpk]at e3;unfold stepP at hs';rw[hx]at hs';dsimp only at hs';have hcn:(s'.S.filter Option.isSome).length+s'.dr.length=(s0.S.filter Option.isSome).length:=by rw[e1,e5];exact h.cn
 cases hw:wkP E s x.r.ro (chK s.K y.id)with
 |none=>
  rw[hw]at hs';dsimp only at hs';have c1:s'.gi=s.gi:=by rw[←hs']
  have c2:s'.op=s.op:=by rw[←hs']
  have c3:s'.sd=s.sd++[y.id]:=by rw[←hs']
  have c4:s'.al=s.al++x.r.ro:=by rw[←hs']
  have c5:s'.L=s.L:=by rw[←hs']
  have c6:s'.la=s.la:=by rw[←hs']
  have c7:s'.fl=s.fl:=by rw[←hs']
  have cG:=B7 c1 c2;refine⟨h.nd,by rw[e1];exact h.si,by rw[e1,e2];exact h.un,⟨P,by rw[e2];exact p1,by rw[e5];exact p2,by rw[e3];exact hsubK.trans p3,?_,?_⟩,?_,?_,?_,fun a b h1 h2 h3=> ?_,by rw[c2];exact h.lo,by rw[c6];exact h.ll,by rw[c7];exact h.lf,h.ln,by rw[c6,c1];exact h.lg,by rw[c7,c6,c2];exact h.fl,by rw[c1];exact h.gb,by rw[c2];exact h.ob,hcn⟩
  ·rw[cG,c3];intro k hk;rw[←aZw]at hk;rcases aZh.1 hk with hk|hk
   ·exact p4 k hk
   ·rw[aZm.1 hk];exact hiP
  ·have hsl:(s.sd++[y.id]).length=s.sd.length+1:=by simp
   rw[e5,e3,cG,c3,hsl];omega
  ·rw[e3,cG,c3,←aZw (allG s)];exact hperm _ (by
    have:=List.perm_append_comm (l₁:=allG s++s.sd) (l₂:=[y.id]);exact this)
  ·rw[c5];exact fun w b hb=>h.lk w b (by unfold NR at hb;rw[c1,c2]at hb;exact hb)
  ·rw[c3,c4];intro k hk r hr;rcases aZh.1 hk with hk|hk
   ·exact aZl _ (h.al k hk r hr)
   ·rw[aZm.1 hk,hro0]at hr;exact aYi _ hr
  ·rw[cG]at h3;obtain⟨k1,k2,k3,k4⟩:=h.pr a b h1 h2 h3;refine⟨fun hm=>k1 (by rw[e3]at hm;exact(hnK a hm).1),by rw[e2];exact k2,fun hm=> ?_,fun hm=> ?_⟩
   ·rw[c3]at hm;rcases aZh.1 hm with hm|hm
    ·exact k3 hm
    ·rw[aZm.1 hm]at k1;exact k1 hiK
   ·rw[cG]at hm;exact(k4 hm).same c1 c2
 |some j=>
  rw[hw]at hs';dsimp only at hs';obtain⟨hcf,hj,hfr,hfl⟩:=qP hw;have hj64:j<64:=aZd hj h.ln;obtain⟨g1,g2,g3,g4,g5,g6,g7,g8,g9,g10,g11⟩:=kU E j y.id x.r.ro x.r.cost {s with K:=popK s.K y.id,hi:=Go.Proofs.YtblbegbjlaokjaaGreatDoor.put (chK s.K y.id) j s.hi};have hjo:j<s.op.length:=by rw[h.lo];exact hj
  have hgc:=giveP_cases E j y.id x.r.ro x.r.cost {s with K:=popK s.K y.id,hi:=Go.Proofs.YtblbegbjlaokjaaGreatDoor.put (chK s.K y.id) j s.hi} hok.b1 hjo;have hag:=B5 E j y.id x.r.ro x.r.cost {s with K:=popK s.K y.id,hi:=Go.Proofs.YtblbegbjlaokjaaGreatDoor.put (chK s.K y.id) j s.hi} hok.b1 hjo;rw[hs']at g1 g2 g3 g4 g5 g6 g7 g8 g9 g10 g11 hgc hag;dsimp only at g1 g2 g3 g4 g5 g6 g7 g8 g9 g10 g11 hgc;replace hag:(allG s').Perm (y.id::allG s):=hag;have hopj:s.op[j]? =some (s.op.getD j []):=by rw[aZk,aZb hjo];rfl
  --who is in a batch now,was in one,or is the new one
  have hinb:∀w b,NR s' w b→(∀k∈b,(∃b0,NR s w b0∧k∈b0)∨(k=y.id∧w=j)):=fun w b hb k hk=>by
   rcases hgc with⟨_,_,k1,_,k2⟩|⟨_,k1,_,k2⟩
   ·rcases hb with hb|hb
    ·rw[k2]at hb;exact .inl ⟨b,.inl hb,hk⟩
    ·rw[k1,List.getElem?_set]at hb;split at hb
     ·rename_i e;subst e;(try rw[if_pos hjo]at hb);cases hb;rcases aZh.1 hk with hk|hk
      ·exact .inl ⟨_,.inr hopj,hk⟩
      ·exact .inr ⟨aZm.1 hk,rfl⟩
     ·exact .inl ⟨b,.inr hb,hk⟩
   ·rcases hb with hb|hb
    ·rw[k2]at hb;rcases aZh.1 hb with hb|hb
     ·exact .inl ⟨b,.inl hb,hk⟩
     ·have e:=aZm.1 hb;cases e;exact .inl ⟨_,.inr hopj,hk⟩
    ·rw[k1,List.getElem?_set]at hb;split at hb
     ·rename_i e;subst e;(try rw[if_pos hjo]at hb);cases hb;exact .inr ⟨aZm.1 hk,rfl⟩
     ·exact .inl ⟨b,.inr hb,hk⟩
  --an earlier batch stays so
  have herl:∀a b,NQ s a b→NQ s' a b:=fun a b ⟨p,w,ba,q1,q2,q3⟩=>by
   have hp:=(aZa.1 q1).1;rcases hgc with⟨_,_,k1,_,k2⟩|⟨_,k1,_,k2⟩
   ·refine⟨p,w,ba,by rw[k2];exact q1,q2,?_⟩;rcases q3 with⟨q,bb,u1,u2,u3⟩|⟨bb,u1,u2⟩
    ·exact .inl ⟨q,bb,u1,by rw[k2];exact u2,u3⟩
    ·right;rw[k1,List.getElem?_set];split
     ·rename_i e;subst e;rw[hopj]at u1;cases u1;exact⟨_,by first|rfl|rw[if_pos hjo],aZl _ u2⟩
     ·exact⟨bb,u1,u2⟩
   ·refine⟨p,w,ba,by rw[k2,aZt hp];exact q1,q2,?_⟩;rcases q3 with⟨q,bb,u1,u2,u3⟩|⟨bb,u1,u2⟩
    ·exact .inl ⟨q,bb,u1,by rw[k2,aZt (aZa.1 u2).1];exact u2,u3⟩
    ·by_cases e:j=w
     ·subst e;rw[hopj]at u1;cases u1;exact .inl ⟨s.gi.length,_,hp,by rw[k2,aZ3 (aZq _),aXn];rfl,u2⟩
     ·exact .inr ⟨bb,by rw[k1,aZ0 e];exact u1,u2⟩
  have hnew:∃bb,s'.op[j]? =some bb∧y.id∈bb:=by
   rcases hgc with⟨_,_,k1,_,_⟩|⟨_,k1,_,_⟩<;>rw[k1,List.getElem?_set_self hjo]<;>exact⟨_,rfl,by simp⟩
  refine⟨h.nd,by rw[e1];exact h.si,by rw[e1,e2];exact h.un,⟨P,by rw[e2];exact p1,by rw[e5];exact p2,by rw[e3];exact hsubK.trans p3,?_,?_⟩,?_,?_,?_,fun a b h1 h2 h3=> ?_,?_,?_,by rw[g10,aZn];exact h.lf,h.ln,?_,?_,?_,?_,hcn⟩
  ·rw[g8];intro k hk;rcases aZh.1 hk with hk|hk
   ·rcases aZc.1 (hag.mem_iff.1 hk)with rfl|hk
    ·exact hiP
    ·exact p4 k (aZl _ hk)
   ·exact p4 k (aYi _ hk)
  ·rw[e5,e3,g8,hag.length_eq,aZu];omega
  ·rw[e3,g8];exact hperm _ (hag.append_right _)
  ·intro w b hb k hk r hr;rw[g9];rcases hinb w b hb k hk with⟨b0,q1,q2⟩|⟨rfl,rfl⟩
   ·exact vF (h.lk w b0 q1 k q2 r hr)
   ·rw[hro0]at hr;exact EE hr
  ·rw[g8,g5];exact h.al
  ·rw[e2,e3,g8];rcases aZc.1 (hag.mem_iff.1 h3)with rfl|hb
   ·rw[hro0]at h2;obtain⟨q1,q2,q3⟩:=hbef a h1;refine⟨fun hm=>hnX a (q2 (hnK a hm).1) h2,q1,fun hm=> ?_,fun hm=> ?_⟩
    ·have:=FA h2 (h.al a hm);rw[hcf]at this;cases this
    ·have hm2:a∈allG s:=by
      rcases aZc.1 (hag.mem_iff.1 hm)with e|e
      ·exact absurd e q3
      ·exact e
     obtain⟨w,ba,u1,u2⟩:=GI hm2;have hw64:w<64:=by
      rcases u1 with u1|u1
      ·exact aZd (h.gb _ u1).2.2 h.ln
      ·have:=(aZa.1 u1).1;rw[h.lo]at this;exact aZd this h.ln
     obtain rfl:=CP hj64 hw64 hfr h2 (fun r hr=>h.lk w ba u1 a u2 r hr);rcases u1 with u1|u1
     ·obtain⟨p,hp,hpe⟩:=List.getElem_of_mem u1;have hpg:s.gi[p]? =some (w,ba):=by rw[aZb hp,hpe]
      refine⟨p,w,ba,?_,u2,.inr hnew⟩;rcases hgc with⟨_,_,_,_,k2⟩|⟨_,_,_,k2⟩<;>rw[k2]
      ·exact hpg
      ·rw[aZt hp];exact hpg
     ·rw[hopj]at u1;cases u1;rcases hgc with⟨_,k0,_,_,_⟩|⟨_,_,_,k2⟩
      ·exfalso;have h5:=aWl.1 k0 a u2;obtain⟨z,hz,_⟩:=hok.oi _ (aZi hopj) a u2;have h6:=h.ro hz;rw[h6.1,←h6.2]at h5;exact h5 h2
      ·exact⟨s.gi.length,w,_,by rw[k2,aZ3 (aZq _),aXn];rfl,u2,.inr hnew⟩
   ·obtain⟨k1,k2,k3,k4⟩:=h.pr a b h1 h2 hb;refine⟨fun hm=>k1 (hnK a hm).1,k2,k3,fun hm=> ?_⟩;rcases aZc.1 (hag.mem_iff.1 hm)with rfl|hm
    ·exact absurd hiK k1
    ·exact herl a b (k4 hm)
  ·rcases hgc with⟨_,_,k1,_,_⟩|⟨_,k1,_,_⟩<;>rw[k1,aZn]<;>exact h.lo
  ·rcases hgc with⟨_,_,_,k1,_⟩|⟨_,_,k1,_⟩<;>rw[k1]
   ·exact h.ll
   ·rw[aZn];exact h.ll
  ·intro w hw2;rcases hgc with⟨_,_,_,k1,k2⟩|⟨_,_,k1,k2⟩<;>rw[k1,k2]
   ·exact h.lg w hw2
   ·rw[List.getElem?_set,aZ6,List.map_append];have hlj:=h.lg j hj;split
    ·rename_i e;subst e;rw[if_pos (by rw[h.ll];exact hj),aZk,hlj];simp
    ·rename_i e;rw[h.lg w hw2];simp[e]
  ·intro w;obtain⟨f1,f2⟩:=h.fl w;rw[g10,fC];rcases hgc with⟨_,_,k0,k1,_⟩|⟨_,k0,k1,_⟩<;>rw[k0,k1,fC]
   ·by_cases e:j=w
    ·subst e;rw[if_pos ⟨rfl,by rw[h.lf];exact hj⟩,if_pos ⟨rfl,hjo⟩,aZg,aZx];exact⟨by omega,hfl⟩
    ·rw[if_neg (fun hh=>e hh.1),if_neg (fun hh=>e hh.1)];exact⟨f1,f2⟩
   ·rw[fC];by_cases e:j=w
    ·subst e;rw[if_pos ⟨rfl,by rw[h.lf];exact hj⟩,if_pos ⟨rfl,by rw[h.ll];exact hj⟩,if_pos ⟨rfl,hjo⟩,nQ,aZx];exact⟨by omega,hfl⟩
    ·rw[if_neg (fun hh=>e hh.1),if_neg (fun hh=>e hh.1),if_neg (fun hh=>e hh.1)];exact⟨f1,f2⟩
  ·intro z hz;rcases hgc with⟨_,_,_,_,k1⟩|⟨k0,_,_,k1⟩<;>rw[k1]at hz
   ·exact h.gb z hz
   ·rcases aZh.1 hz with hz|hz
    ·exact h.gb z hz
    ·rw[aZm.1 hz];exact⟨k0,h.ob _ (aZi hopj),hj⟩
  ·intro b hb;rcases hgc with⟨k0,_,k1,_,_⟩|⟨_,k1,_,_⟩<;>rw[k1]at hb
   ·rcases aXi hb with hb|rfl
    ·exact h.ob b hb
    ·rw[aZg,aZx];omega
   ·rcases aXi hb with hb|rfl
    ·exact h.ob b hb
    ·exact hok.b1
theorem DF {j:Nat} {s:Pa} (h:s.op.getD j []=[]):pushP j s=s:=by
 unfold pushP;rw[if_pos h]
theorem yX {j:Nat} {s:Pa} (h:s.op.getD j []≠[]):pushP j s= {s with la:=s.la.set j (s.la.getD j []++[s.op.getD j []]),gi:=s.gi++[(j,s.op.getD j [])],op:=s.op.set j []}:=by
 unfold pushP;rw[if_neg h]
theorem mO.push {E:Ev} {s0 s:Pa} (h:mO E s0 s) {j:Nat} (hj:j<E.n):mO E s0 (pushP j s):=by
 by_cases hn:s.op.getD j []=[]
 ·rw[DF hn];exact h
 rw[yX hn];have hjo:j<s.op.length:=by rw[h.lo];exact hj
 have hopj:s.op[j]? =some (s.op.getD j []):=by rw[aZk,aZb hjo];rfl
 obtain⟨s',hs'⟩:∃s':Pa,s'= {s with la:=s.la.set j (s.la.getD j []++[s.op.getD j []]),gi:=s.gi++[(j,s.op.getD j [])],op:=s.op.set j []}:=⟨_,rfl⟩;rw[←hs'];have c1:s'.gi=s.gi++[(j,s.op.getD j [])]:=by rw[hs']
 have c2:s'.op=s.op.set j []:=by rw[hs']
 have c3:s'.la=s.la.set j (s.la.getD j []++[s.op.getD j []]):=by rw[hs']
 have hag:(allG s').Perm (allG s):=by
  unfold allG;rw[c1,c2,List.map_append,List.flatten_append,aZw];refine List.Perm.append_left _ ?_;have e:[(j,s.op.getD j [])].map Prod.snd=[s.op.getD j []]:=rfl;rw[e,List.flatten_cons,List.flatten_nil,aYx];exact(vZ hjo).symm
 have hinb:∀w b,NR s' w b→b=[]∨NR s w b:=fun w b hb=>by
  rcases hb with hb|hb
  ·rw[c1]at hb;rcases aZh.1 hb with hb|hb
   ·exact .inr (.inl hb)
   ·have e:=aZm.1 hb;cases e;exact .inr (.inr hopj)
  ·rw[c2,List.getElem?_set]at hb;split at hb
   ·rename_i e;subst e;(try rw[if_pos hjo]at hb);cases hb;exact .inl rfl
   ·exact .inr (.inr hb)
 obtain⟨P,p1,p2,p3,p4,p5⟩:=h.pre;have hS:s'.S=s.S:=by rw[hs']
 have hD:s'.D=s.D:=by rw[hs']
 have hK:s'.K=s.K:=by rw[hs']
 have hdr:s'.dr=s.dr:=by rw[hs']
 have hsd:s'.sd=s.sd:=by rw[hs']
 have hL:s'.L=s.L:=by rw[hs']
 have hal:s'.al=s.al:=by rw[hs']
 have hfl:s'.fl=s.fl:=by rw[hs']
 refine⟨h.nd,by rw[hS];exact h.si,by rw[hS,hD];exact h.un,⟨P,by rw[hD];exact p1,by rw[hdr];exact p2,by rw[hK];exact p3,?_,?_⟩,?_,?_,by rw[hsd,hal];exact h.al,fun a b h1 h2 h3=> ?_,by rw[c2,aZn];exact h.lo,by rw[c3,aZn];exact h.ll,by rw[hfl];exact h.lf,h.ln,?_,?_,?_,?_,by rw[hS,hdr];exact h.cn⟩
 ·rw[hsd];intro k hk;rcases aZh.1 hk with hk|hk
  ·exact p4 k (aZl _ (hag.mem_iff.1 hk))
  ·exact p4 k (aYi _ hk)
 ·rw[hdr,hK,hsd,hag.length_eq];exact p5
 ·rw[hK,hsd];exact((hag.append_right _).append_left _).nodup_iff.2 h.dj
 ·intro w b hb k hk;rw[hL];rcases hinb w b hb with rfl|hb
  ·cases hk
  ·exact h.lk w b hb k hk
 ·rw[hK,hD,hsd];obtain⟨k1,k2,k3,k4⟩:=h.pr a b h1 h2 (hag.mem_iff.1 h3);refine⟨k1,k2,k3,fun hm=> ?_⟩;obtain⟨p,w,ba,q1,q2,q3⟩:=k4 (hag.mem_iff.1 hm);have hp:=(aZa.1 q1).1;refine⟨p,w,ba,by rw[c1,aZt hp];exact q1,q2,?_⟩;rcases q3 with⟨q,bb,u1,u2,u3⟩|⟨bb,u1,u2⟩
  ·exact .inl ⟨q,bb,u1,by rw[c1,aZt (aZa.1 u2).1];exact u2,u3⟩
  ·by_cases e:j=w
   ·subst e;rw[hopj]at u1;cases u1;exact .inl ⟨s.gi.length,_,hp,by rw[c1,aZ3 (aZq _),aXn];rfl,u2⟩
   ·exact .inr ⟨bb,by rw[c2,aZ0 e];exact u1,u2⟩
 ·intro w hw;rw[c3,c1,List.getElem?_set,aZ6,List.map_append];split
  ·rename_i e;subst e;rw[if_pos (by rw[h.ll];exact hj),aZk,h.lg j hj];simp
  ·rename_i e;rw[h.lg w hw];simp[e]
 ·intro w;obtain⟨f1,f2⟩:=h.fl w;rw[hfl,c3,c2,fC,fC];by_cases e:j=w
  ·subst e;rw[if_pos ⟨rfl,by rw[h.ll];exact hj⟩,if_pos ⟨rfl,hjo⟩,nQ];exact⟨by rw[aYw];omega,f2⟩
  ·rw[if_neg (fun hh=>e hh.1),if_neg (fun hh=>e hh.1)];exact⟨f1,f2⟩
 ·intro z hz;rw[c1]at hz;rcases aZh.1 hz with hz|hz
  ·exact h.gb z hz
  ·rw[aZm.1 hz];exact⟨hn,h.ob _ (aZi hopj),hj⟩
 ·intro b hb;rw[c2]at hb;rcases aXi hb with hb|rfl
  ·exact h.ob b hb
  ·simp
def endP (k:Nat) (s:Pa):Pa:=(List.range k).foldl (fun s j=>pushP j s) s
theorem j3 (k:Nat) (s:Pa):endP (k+1) s=pushP k (endP k s):=by
 unfold endP;rw[List.range_succ,aXl];rfl
theorem rT (k:Nat) (s:Pa):(endP k s).S=s.S∧(endP k s).D=s.D∧(endP k s).K=s.K∧(endP k s).dr=s.dr∧(endP k s).sd=s.sd∧(endP k s).fl=s.fl∧(endP k s).co=s.co∧(endP k s).L=s.L:=by
 induction k with
 |zero=>exact⟨rfl,rfl,rfl,rfl,rfl,rfl,rfl,rfl⟩
 |succ k ih=>
  rw[j3];obtain⟨h1,h2,h3,h4,h5,h6,h7,h8,h9,h10,h11⟩:=qF k (endP k s);obtain⟨g1,g2,g3,g4,g5,g6,g7,g8⟩:=ih;exact⟨h1.trans g1,h2.trans g2,h3.trans g3,h8.trans g4,h9.trans g5,h10.trans g6,h11.trans g7,h5.trans g8⟩
theorem mO.ends {E:Ev} {s0 s:Pa} (h:mO E s0 s):∀k,k≤E.n→mO E s0 (endP k s)∧∀j,j<k→(endP k s).op.getD j []=[]
 |0,_=>⟨h,fun j hj=>by omega⟩
 |k+1,hk=>by
  obtain⟨h1,h2⟩:=h.ends k (by omega);rw[j3];refine⟨h1.push (by omega),fun j hj=> ?_⟩;rw[wT,fC];split
  ·rfl
  ·rename_i e;by_cases ej:k=j
   ·subst ej;rw[aZk,aY1 (by have:=h1.lo;omega)];rfl
   ·exact h2 j (by omega)
structure JN (E:Ev) (s0 t:Pa):Prop where
 lw:mO E s0 t
 K:t.K=[]
 D:t.D=[]
 op:t.op.flatten=[]
theorem mO.atEnd {E:Ev} {s0 s:Pa} (h:mO E s0 s) (hK:s.K=[]) (hD:s.D=[]):JN E s0 (endP E.n s):=by
 obtain⟨h1,h2⟩:=h.ends E.n (aZq _);obtain⟨_,e2,e3,_⟩:=rT E.n s;refine⟨h1,e3.trans hK,e2.trans hD,List.flatten_eq_nil_iff.2 fun b hb=> ?_⟩;obtain⟨j,hj,rfl⟩:=List.getElem_of_mem hb;have:=h2 j (by rw[←h1.lo];exact hj);rw[aZk,aZb hj]at this;exact this
def pS (t:Pa):List Int64:=(t.gi.map Prod.snd).flatten
theorem JN.allG {E:Ev} {s0 t:Pa} (h:JN E s0 t):allG t=pS t:=by
 unfold Go.Proofs.YtblbegbjlaokjaaGreatDoor.allG;rw[h.op,aYx];rfl
theorem JN.count {E:Ev} {s0 t:Pa} (h:JN E s0 t):s0.D.length=t.dr.length+(pS t).length+t.sd.length:=by
 obtain⟨P,p1,p2,p3,p4,p5⟩:=h.lw.pre;rw[h.D,aYx]at p1;rw[h.K,h.allG]at p5;rw[p1];exact p5
theorem JN.nodup {E:Ev} {s0 t:Pa} (h:JN E s0 t):(pS t++t.sd).Nodup:=by
 have:=h.lw.dj;rw[h.K,h.allG]at this;exact this
theorem JN.order {E:Ev} {s0 t:Pa} (h:JN E s0 t) {a b:Int64} (h1:VH s0.D a b) (h2:dJ (roS s0.S a) (roS s0.S b)=true) (h3:b∈pS t):
  a∉t.sd∧(a∈pS t→∃(p q w:Nat) (ba bb:List Int64),p<q∧t.gi[p]? =some (w,ba)∧a∈ba∧t.gi[q]? =some (w,bb)∧b∈bb):=by
 obtain⟨_,_,k3,k4⟩:=h.lw.pr a b h1 h2 (by rw[h.allG];exact h3);refine⟨k3,fun hm=> ?_⟩;obtain⟨p,w,ba,q1,q2,q3⟩:=k4 (by rw[h.allG];exact hm);rcases q3 with⟨q,bb,u1,u2,u3⟩|⟨bb,u1,u2⟩
 ·exact⟨p,q,w,ba,bb,u1,q1,q2,u2,u3⟩
 ·have:b∈t.op.flatten:=List.mem_flatten.2 ⟨bb,aZi u1,u2⟩;rw[h.op]at this;cases this
def vQ (S:List (Option It)) (k:Int64):List (Option It):=match itS S k with
 |some x=>S.set (ix k) (some {x with pl:=0})
 |none=>S
def J7 (t:Pa):List (Option It):=t.sd.foldl vQ t.S
section
attribute [local go_sem↓] dH bZ dF jX iD jV
attribute [local go_sem] bF dE dW lA oU
theorem R5 (a b:UInt64) (w:World):(Instr.buildSlice 67 2 #[(0,u64v a),(1,u64v b)]).run Tryz.prog w= .ok (.slice (some ⟨w.heap.size,0,none⟩) 2 2) (w.alloc (.cells #[u64v a,u64v b] 23)):=by kernel_rfl
theorem wW (x:cS):(bT x)[46]? =some (u64v x.cost):=eY (pre:=cX x) 7
theorem DG (x:cS) (h:46<(bT x).size):(bT x)[46]=u64v x.cost:=aU (wW x) h
attribute [local go_sem] wW DG
def NN (n j:Nat) (V:List Value) (L:List (List Int64)) (b:List Int64) (v:Value):aL:=fun T w=>BatL n (V.set j v) (L.set j b) T w∧∃a c,v= .slice a b.length c
theorem wD (n j:Nat) (V:List Value) (L:List (List Int64)) (b:List Int64) (v:Value):aI (NN n j V L b v):=(BatL.good _ _ _).and (aI.pure _)
theorem JU {n j p:Nat} {V:List Value} {L:List (List Int64)} {T:Nat→Prop} {w:World} (h:BatL n V L T w) (hj:j<n) {b:List Int64} (hb:L[j]? =some b) {v:Value} (hv:V[j]? =some v) {i:Int64} {U:TypeId} {fr:Nat×Nat} (kp:w.heap[p]? =some (.cells #[.int .i64 i.toInt] U fr)) (hlen:b.length≤64) (ty:TypeId):
  ∃v' w',(Builtin.append_ #[53,53] ty #[v,.slice (some ⟨p,0,none⟩) 1 1]).run Tryz.prog w= .ok v' w'∧Mod T w w'∧NN n j V L (b++[i]) v' (Grow T w w') w':=by
 obtain⟨v',w',hap,⟨T',g1,g2,g3⟩,a',c',e'⟩:=h.app hj hb hv (q:=[i]) (c:=1) (aS.one kp i rfl rfl) (by simp only[aZx];omega) ty;exact⟨v',w',hap,g2,(BatL.good _ _ _).gr _ _ _ (fun a ha=>g3 a ha) g1,a',c',e'⟩
theorem OZ {p d j:Nat} {E:Ev} {s:Pa} {T:Nat→Prop} {w:World} (h:bS p d E s T w) (hT:∀a,T a→a<w.heap.size) (hj:j<E.n) (id:Int64) {y:cS} (hy:aV w y.ro.a y.ro.l) (hyT:∀g o,y.ro.a=some ⟨g,o,none⟩→¬T g) (hyl:y.ro.l.length≤1000)
  (hf:gW s.L y.ro.l j=true) (hL:s.L.length≤900000) {b:List Int64} (hb:s.op[j]? =some b) {q:List (List Int64)} (hq:s.la[j]? =some q) (hbl:b.length≤64) (hql:q.length≤1000) (hsum:sumB q≤100000) (hgi:s.gi.length≤10000)
  (hbx:∀k∈b,∃x,s.S[ix k]? =some (some x)∧k=idn (ix k)∧ix k<4096∧x.r.ro.length≤1000000) (hfl:s.fl.getD j 0≤100000):
  Calls Tryz.prog 74 #[ptrV p,.int .i64 id.toInt,.int .i64 (j:Int),.agg (bT y)] w fun e w'=>e= .returned (.tuple #[])∧Goes (bS p d E (giveP E j id y.ro.l y.cost s)) T w w':=by
 obtain⟨M,hp,hd,hMk,hS⟩:=h;have hG:=parts.good M E s;obtain⟨T0,⟨_,kp⟩,_⟩:=hS.get (i:=0) rfl;obtain⟨T1,⟨_,kd⟩,_⟩:=hS.get (i:=1) rfl;rw[hp]at kp;rw[hd]at kd;unfold pac at kp;unfold iR at kd;rw[hd]at kp;have HS:=Hi (Ai hS (Ai hT (Ai hp (Ai hd hMk))));have HY:=Hi (Ai hy (Ai hyT (Ai hyl (Ai hf hL))));have HB:=Hi (Ai hb (Ai hq (Ai hbl (Ai hql (Ai hsum (Ai hgi (Ai hbx hfl)))))));clear hS hG hT hp hMk hy hyT hyl hf hL hb hq hbl hql hsum hgi hbx hfl;go_enter Tryz.func74,Tryz.ntmps74;go_upto_region 0 with fail;have Lkp:=aA kp;have Lkd:=aA kd;refine ZP0 [3,3] ?_;refine Zb fun p4 hp4=> ?_;refine Zb fun p7 hp7=> ?_;obtain⟨ne_p7_p4,hp7⟩:=Bx.set_none hp7;refine TD.nil (fun w1 hr=> ?_);replace kp:=hr.q kp;replace kd:=hr.q kd;obtain⟨gp4,kp4⟩:=hr.b p4 (by first|exact Bx.set_same _ _ _|(simp only[Bx.set_ne _ (Ne.symm ne_p7_p4),Bx.set_ne _ ne_p7_p4,Bx.set_same];rfl));obtain⟨gp7,kp7⟩:=hr.b p7 (by first|exact Bx.set_same _ _ _|(simp only[Bx.set_ne _ (Ne.symm ne_p7_p4),Bx.set_ne _ ne_p7_p4,Bx.set_same];rfl));have m1:=Hi hr.mod;clear hr;have h47:p4≠p7:=by omega
 go_upto_region 1 with fail;have Lkp:=aA kp;have Lkd:=aA kd;have Lkp4:=aA kp4;have Lkp7:=aA kp7;refine ZP [1,0,0,1,0,0,1,0,1,0,5] ?_
 iterate 10 first|refine Zd ?_|refine Zv ?_
 refine Zi fun w2 hr=> ?_;replace kp:=hr.q kp;replace kd:=hr.q kd;replace kp4:=hr.q kp4;replace kp7:=hr.q kp7;have m2:=Hi (m1.out.then0 hr.mod);clear hr;obtain⟨s1,hs1⟩:∃s1:Pa,s1= {s with L:=addL s.L y.ro.l (wf j)}:=⟨_,rfl⟩;have htake:Calls Tryz.prog 115 #[ptrV M.D.t,.slice y.ro.a y.ro.l.length y.ro.c,.int .i64 (j:Int)] w2 fun e w'=>e= .returned (.int .i64 0)∧Goes (bQ (parts M E s1)) T w2 w':=by
  obtain⟨hS,hT,hp,hd2,hMk⟩:=HS.out;obtain⟨hy,hyT,hyl,hf,hL⟩:=HY.out;have hG:=parts.good M E s;have hlt:∀x,T x→x<w2.heap.size:=fun x hx=>aZd (hT x hx) m2.out.size;have hlen:s.L.length+y.ro.l.length≤1000000:=by omega
  have hy2:=hy.mod0 m2.out;rw[hs1];exact bQ.callW (R:=fun e _=>e= .returned (.int .i64 0)) hG hlt (hS.mod0 hG m2.out) (i:=7) (K:=fG M.D.t E.n s.L) (K':=fG M.D.t E.n (addL s.L y.ro.l (wf j))) rfl (fun T3 ht hB=>fG.takeJ hB y.ro.a y.ro.l y.ro.c hMk.n1 hMk.n2 hy2 hlen hj hf)
 have HP2:Hid ((w.heap.size≤p4∧p4<w2.heap.size)∧w.heap.size≤p7∧p7<w2.heap.size):=Hi ⟨⟨by omega,aA kp4⟩,by omega,aA kp7⟩;(refine cA (by simp only[zK];rfl) (by rfl) ?y14 htake (fun wn hP=> ?n14);(case y14=>(go_simp;(try(first|with_reducible rfl|(constructor<;>with_reducible rfl)))));try simp only[zL]);refine TE.nil ?_;clear htake kp kd;obtain⟨w3,hw3⟩:∃w3,wn=w3:=⟨_,rfl⟩;rw[hw3]at hP⊢;clear hw3;obtain⟨T3,hS3,hm3,hT3⟩:=hP;have kp4:=hm3.at kp4 (fun ht=>by have:=HS.out.2.1 _ ht;omega);have kp7:=hm3.at kp7 (fun ht=>by have:=HS.out.2.1 _ ht;have:=m1.out.size;omega);obtain⟨U0,⟨_,kp⟩,_⟩:=hS3.get (i:=0) rfl;obtain⟨U1,⟨_,kd⟩,_⟩:=hS3.get (i:=1) rfl;obtain⟨U10,⟨_,kf⟩,_⟩:=hS3.get (i:=10) rfl;rw[HS.out.2.2.1]at kp;rw[hd]at kd;unfold pac at kp;unfold iR at kd;rw[hd]at kp;rw[HS.out.2.2.2.2.fv,HS.out.2.2.2.2.cv]at kd;have hlt3:Hid (∀x,T3 x→x<w3.heap.size):=Hi (b9 (fun x hx=>aZd (HS.out.2.1 x hx) m2.out.size) hm3 hT3);have hnT4:Hid (¬T3 p4∧¬T3 p7):=Hi ⟨fun ht=>by
  have hh:=HP2.out;rcases hT3 _ ht with h|h
  ·have:=HS.out.2.1 _ h;omega
  ·omega,fun ht=>by
  have hh:=HP2.out;rcases hT3 _ ht with h|h
  ·have:=HS.out.2.1 _ h;omega
  ·omega⟩
 obtain⟨f,hfj⟩:∃f,s.fl[j]? =some f:=⟨_,aZb (by rw[HS.out.2.2.2.2.fl];exact hj)⟩;have hfb:f≤100000:=by
  have:=HB.out.2.2.2.2.2.2.2;rw[aZk,hfj]at this;exact this
 have hwr:IntKind.i64.wrap ((f:Int)+1)=((f+1:Nat):Int):=by rw[IntKind.wrap_i64];omega
 have e1:s1.fl=s.fl:=by rw[hs1]
 rw[e1]at kf;have hst:(s.fl.map natV).toArray.setIfInBounds j (.int .i64 ((f+1:Nat):Int))=((s.fl.set j (f+1)).map natV).toArray:=by
  rw[zF,aX4];rfl
 have f0:(s.fl.map natV).toArray[j]? =some (.int .i64 (f:Int)):=by rw[zA,aZv,hfj];rfl
 generalize(s.fl.map natV).toArray=F at *;have f1:∀h:j<F.size,F[j]= .int .i64 (f:Int):=fun h=>aU f0 h;have f2:=(aZf.1 f0).1;have H3:=Hi (Ai hS3 (Ai hm3 (Ai hT3 hs1)));have HF:=Hi (Ai hst hfj);clear hS3 hm3 hT3 hs1 hst hfj f0 e1;obtain⟨m1n,hm1n⟩:∃m1n:Int,((f+1:Nat):Int)=m1n:=⟨_,rfl⟩;rw[hm1n]at hwr;have HM1N:=Hi hm1n;clear hm1n;have q1:p≠M.fb:=aB kp kf (by simp);have q2:d≠M.fb:=aB kd kf (by simp);have q3:p4≠M.fb:=aB kp4 kf (by simp);have q4:p7≠M.fb:=aB kp7 kf (by simp);go_upto_region 2 with fail;have Lkp:=aA kp;have Lkd:=aA kd;have Lkp4:=aA kp4;have Lkp7:=aA kp7;have Lkf:=aA kf;refine ZP0 [1,0,0,1,0,0,1,0,0,1,0,0,5] ?_
 iterate 12 first|refine Zd ?_|refine Zv ?_
 refine Zi fun wE hr=> ?_;replace kp:=hr.mod.at0 kp;replace kd:=hr.mod.at0 kd;replace kp4:=hr.mod.at0 kp4;replace kp7:=hr.mod.at0 kp7;replace kf:=hr.mod.at0 kf;have mE:=hr.mod;refine ZS ?_;refine ZN kf fun w4 kf mS=> ?_;replace kp:=mS.at_ne kp (by omega);replace kd:=mS.at_ne kd (by omega);replace kp4:=mS.at_ne kp4 (by omega);replace kp7:=mS.at_ne kp7 (by omega);rw[←HM1N.out,HF.out.1]at kf;have ms:Mod (fun i=>i=M.fb) w3 w4:=(mE.mono (fun _ _ h=>h.elim)).trans mS;obtain⟨s2,hs2⟩:∃s2:Pa,s2= {s1 with fl:=s.fl.set j (f+1)}:=⟨_,rfl⟩;have h4:Hid (Goes (bQ (parts M E s2)) T3 w3 w4):=by
  obtain⟨hS3,hm3,hT3,hs1⟩:=H3.out;obtain⟨Ts,h1,h2,h3⟩:=hS3;have hp10:CeL M.fb (s1.fl.map natV).toArray 3 (Ts 10) w3:=h1 10 _ rfl;obtain⟨k1,k2⟩:=bQ.step (parts.good M E s1) hlt3.out (i:=10) (by simp[parts]) h1 h2 h3 (K':=CeL M.fb ((s.fl.set j (f+1)).map natV).toArray 3) (Goes.into ⟨hp10.1,kf⟩ (ms.mono (fun x _ hx=>by rw[hx];exact hp10.1)));rw[hs2];exact Hi ⟨_,k1,k2,fun _ h=>h⟩
 clear kf ms mS mE q1 q2 q3 q4 hr;obtain⟨T4,hS4,hm4,hT4⟩:=h4.out;obtain⟨U11,⟨_,kc⟩,_⟩:=hS4.get (i:=11) rfl;have e2:s2.co=s.co:=by rw[hs2,H3.out.2.2.2]
 rw[e2]at kc;obtain⟨co,hcj⟩:∃co,s.co[j]? =some co:=⟨_,aZb (by rw[HS.out.2.2.2.2.co];exact hj)⟩;have c0:(s.co.map u64v).toArray[j]? =some (u64v co):=by rw[zA,aZv,hcj];rfl
 have hsc:∀v:UInt64,(s.co.map u64v).toArray.setIfInBounds j (u64v v)=((s.co.set j v).map u64v).toArray:=fun v=>by
  rw[zF,aX4]
 generalize(s.co.map u64v).toArray=G at *;have c1:∀h:j<G.size,G[j]=u64v co:=fun h=>aU c0 h;have c2:=(aZf.1 c0).1;have H4:=Hi (Ai hS4 (Ai hm4 (Ai hT4 (Ai hs2 (Ai hsc hcj)))));clear hS4 hm4 hT4 hs2 hsc hcj c0 e2;go_upto_region 3 with fail;have Lkp:=aA kp;have Lkd:=aA kd;have Lkp4:=aA kp4;have Lkp7:=aA kp7;have Lkc:=aA kc;refine iJ (T0:=fun _=>False) (K:=fun _ _=>True) (κ:=fun i=>[0,0,0,0,0,0,0,0,0,0,0,0,0,0,0,0,0,0,0,0,3,6,0,6].getD i 0) (υ:=fun i=>[[],[],[],[],[],[],[],[],[],[],[],[],[],[],[],[],[],[],[],[],[],[52],[],[]].getD i []) [0,1,2,3,4,5,6,7,8,9,10,11,12,13,14,15,16,17,18,19,20,21] [22,23] (by kernel_rfl) (by kernel_rfl) (aI.true).cl (trivial) (fun _ h=>h.elim) ?_;have gK:=aI.true
 iterate 20 first|refine Zg ?_|refine Zh ?_
 (refine TG.bslice (by simp only[zK];rfl) rfl (by rfl) rfl rfl ?hx48 (R5 co y.cost) (fun p52 hp52 _=> ?n48);(case hx48=>(simp only[aYr,aZo,aYo,zM];(try rfl)));try simp only[zL]);(refine ZG (fun v=>v=u64v (sat co y.cost)) gK ?_ (s:=fun T wq kq ltq hSq ub=>by have kp52:=ub.box (p:=p52) (by first|exact Bx.set_same _ _ _|(simp only[Bx.set_same];rfl)) (by first|decide|exact aZm.2 rfl|simp);dsimp only[Value.cells]at kp52;have nUp52:=(ub p52 _ (by first|exact Bx.set_same _ _ _|(simp only[Bx.set_same];rfl)) (by first|decide|exact aZm.2 rfl|simp)).1;exact(Q7 p52 co y.cost wq kp52).mono (fun e w' h=>⟨_,h.1,rfl,h.2⟩));rintro v49 hC;subst hC;try simp only[zL]);refine TG.nil (fun w5 ⟨TR,hr⟩=> ?_);replace kp:=hr.q kp;replace kd:=hr.q kd;replace kp4:=hr.q kp4;replace kp7:=hr.q kp7;replace kc:=hr.q kc;obtain⟨gp52,nTp52,kp52⟩:=hr.b p52;clear gK;have m5:=hr.mod;have g52:p52≠M.cb:=by have:=aA kc;omega
 have q1:p≠M.cb:=aB kp kc (by simp);have q2:d≠M.cb:=aB kd kc (by simp);have q3:p4≠M.cb:=aB kp4 kc (by simp);have q4:p7≠M.cb:=aB kp7 kc (by simp);clear hr;refine Ze ?_;refine Zz ?_;refine ZS ?_;refine ZN kc fun wn kc mS=> ?_;rw[H4.out.2.2.2.2.1]at kc;have ms:Mod (fun i=>i=M.cb) w4 wn:=(m5.mono (fun _ _ h=>h.elim)).trans mS;have kp4:=mS.at_ne kp4 q3;have kp7:=mS.at_ne kp7 q4;obtain⟨w6,hw6⟩:∃w6,wn=w6:=⟨_,rfl⟩;rw[hw6]at kc ms kp4 kp7⊢;clear hw6 mS m5 kp52 q1 q2 q3 q4 g52 kp kd;have h6:Hid (Goes (bQ (parts M E (takeP j y.ro.l y.cost s))) T4 w4 w6):=by
  obtain⟨hS4,hm4,hT4,hs2,hsc,hcj⟩:=H4.out;obtain⟨Ts,h1,h2,h3⟩:=hS4;have hlt4:=b9 hlt3.out hm4 hT4;have hp11:CeL M.cb (s2.co.map u64v).toArray 23 (Ts 11) w4:=h1 11 _ rfl;obtain⟨k1,k2⟩:=bQ.step (parts.good M E s2) hlt4 (i:=11) (by simp[parts]) h1 h2 h3 (K':=CeL M.cb ((s.co.set j (sat co y.cost)).map u64v).toArray 23) (Goes.into ⟨hp11.1,kc⟩ (ms.mono (fun x _ hx=>by rw[hx];exact hp11.1)));have hf1:s.fl.getD j 0=f:=by rw[aZk,HF.out.2];rfl
  have hc1:s.co.getD j 0=co:=by rw[aZk,hcj];rfl
  have htk:takeP j y.ro.l y.cost s= {s2 with co:=s.co.set j (sat co y.cost)}:=by
   unfold takeP;rw[hf1,hc1,hs2,H3.out.2.2.2]
  rw[htk];exact Hi ⟨_,k1,k2,fun _ h=>h⟩
 clear kc ms kf;obtain⟨T6,hS6,hm6,hT6⟩:=h6.out;obtain⟨s3,hs3⟩:∃s3,takeP j y.ro.l y.cost s=s3:=⟨_,rfl⟩;rw[hs3]at hS6;obtain⟨U0,⟨_,kp⟩,_⟩:=hS6.get (i:=0) rfl;obtain⟨U1,⟨_,kd⟩,_⟩:=hS6.get (i:=1) rfl;obtain⟨U14,⟨_,kob⟩,_⟩:=hS6.get (i:=14) rfl;obtain⟨U15,hB6,_⟩:=hS6.get (i:=15) rfl;rw[HS.out.2.2.1]at kp;rw[hd]at kd;have KPD:=Hi (Ai kp kd);unfold pac at kp;unfold iR at kd;rw[hd,HS.out.2.2.2.2.ov]at kp;have hop:s3.op=s.op:=by rw[←hs3];rfl
 have hb0:(s3.op++s3.gi.map Prod.snd)[j]? =some b:=by rw[hop,aZt (by rw[HS.out.2.2.2.2.op];exact hj)];exact HB.out.1
 have hVl:=hB6.1;rw[aZg,hop,HS.out.2.2.2.2.op]at hVl;obtain⟨v,hv⟩:∃v,M.V[j]? =some v:=⟨_,aZb (by omega)⟩;obtain⟨a,c,hv1,hat,_⟩:=((hB6.2.1 j v b hv hb0).1 hj).at fZ;subst hv1;obtain⟨C,hC⟩:∃C,(M.V.take E.n).toArray=C:=⟨_,rfl⟩;have k0:C[j]? =some (.slice a b.length c):=by
  rw[←hC,zA,aXx hj];exact hv
 have k1:∀h:j<C.size,C[j]= .slice a b.length c:=fun h=>aU k0 h;have k2:=(aZf.1 k0).1;rw[hC]at kob;have H6:=Hi (Ai hS6 (Ai hm6 (Ai hT6 (Ai hs3 (Ai hv (Ai hat hC))))));clear hS6 hm6 hT6 hs3 hv hat hC hb0 hVl hop hB6;have HY6:Hid (aV w6 y.ro.a y.ro.l):=Hi (by
  rcases HY.out.1 with he|⟨g,o,C0,U0,fr0,ha,hg,_⟩
  ·exact .inl he
  ·have hgl:=aA hg;have hgT:=HY.out.2.1 g o ha;have z2:=m2.out.size;have z3:=H3.out.2.1.size;have z4:=H4.out.2.1.size;have n3:¬T3 g:=fun ht=>by
    rcases H3.out.2.2.1 g ht with h|h
    ·exact hgT h
    ·omega
   have n4:¬T4 g:=fun ht=>by
    rcases H4.out.2.2.1 g ht with h|h
    ·exact n3 h
    ·omega
   have hone:∀b2 o2,y.ro.a=some ⟨b2,o2,none⟩→b2=g:=fun b2 o2 hb=>by
    rw[ha]at hb;cases hb;rfl
   exact(((HY.out.1.mod0 m2.out).mod H3.out.2.1 (fun b2 o2 hb=>by rw[hone b2 o2 hb];exact hgT)).mod H4.out.2.1 (fun b2 o2 hb=>by rw[hone b2 o2 hb];exact n3)).mod H6.out.2.1 (fun b2 o2 hb=>by rw[hone b2 o2 hb];exact n4))
 have HPA:Hid (∀wq,Mod (fun _=>False) w6 wq→∃Tq,bS p d E s3 Tq wq∧Mod T w wq∧(∀a,Tq a→T a∨(w.heap.size≤a∧a<wq.heap.size))∧¬Tq p4∧∀x,Tq x→x<wq.heap.size):=Hi (fun wq hq=>by
  obtain⟨hS,hT,hp,hd2,hMk⟩:=HS.out;obtain⟨hS6,hm6,hT6,hs3,hv,hat,hC⟩:=H6.out;have n4:¬T4 p4:=fun ht=>by
   have z3:=H3.out.2.1.size;rcases H4.out.2.2.1 _ ht with h|h
   ·exact hnT4.out.1 h
   ·have:=HP2.out;omega
  have n6:¬T6 p4:=fun ht=>by
   have z3:=H3.out.2.1.size;have z4:=H4.out.2.1.size;rcases hT6 _ ht with h|h
   ·exact n4 h
   ·have:=HP2.out;omega
  have l3:=b9 (S:=T) (T:=T3) (w:=w3) hlt3.out ((Mod.refl T w3)) (T1:=T3) (fun x hx=> .inl hx);have l4:=b9 hlt3.out H4.out.2.1 H4.out.2.2.1;have l6:=b9 l4 hm6 hT6;refine⟨T6,⟨M,hp,hd2,?_,hS6.mod0 (parts.good M E s3) hq⟩,?_,fun a ha=> ?_,n6,fun x hx=>aZd (l6 x hx) hq.size⟩
  ·rw[←hs3];exact⟨hMk.win,hMk.bat,hMk.fli,hMk.n1,hMk.n2,hMk.fv,hMk.cv,hMk.sv,hMk.ov,by show(s.fl.set j _).length=E.n;rw[aZn];exact hMk.fl,by show(s.co.set j _).length=E.n;rw[aZn];exact hMk.co,hMk.sp,hMk.op,hMk.la,hMk.gw,hMk.gl⟩
  ·obtain⟨_,_,g,_⟩:Goes (bS p d E s3) T w wq:=by
    refine Goes.trans (K1:=bS p d E s) (m2.out.mono (fun _ _ h=>h.elim)) (fun x hx=> .inl hx) ?_;refine Goes.trans (K1:=bS p d E s) H3.out.2.1 H3.out.2.2.1 ?_;refine Goes.trans (K1:=bS p d E s) H4.out.2.1 H4.out.2.2.1 ?_;refine Goes.trans (K1:=bS p d E s) hm6 hT6 ?_;exact⟨T6,(bS.good p d E s3).cl _ _ _ (by
     refine⟨M,hp,hd2,?_,hS6⟩;rw[←hs3];exact⟨hMk.win,hMk.bat,hMk.fli,hMk.n1,hMk.n2,hMk.fv,hMk.cv,hMk.sv,hMk.ov,by show(s.fl.set j _).length=E.n;rw[aZn];exact hMk.fl,by show(s.co.set j _).length=E.n;rw[aZn];exact hMk.co,hMk.sp,hMk.op,hMk.la,hMk.gw,hMk.gl⟩) (hq.mono (fun _ _ h=>h.elim)),hq.mono (fun _ _ h=>h.elim),fun x hx=> .inl hx⟩
   exact g
  ·have z2:=m2.out.size;have z3:=H3.out.2.1.size;have z4:=H4.out.2.1.size;have z6:=hm6.size;have zq:=hq.size;rcases hT6 a ha with h|h
   ·rcases H4.out.2.2.1 a h with h|h
    ·rcases H3.out.2.2.1 a h with h|h
     ·exact .inl h
     ·exact .inr (by omega)
    ·exact .inr (by omega)
   ·exact .inr (by omega))
 have hgd:s.op.getD j []=b:=by rw[aZk,HB.out.1];rfl
 have HGD:=Hi hgd;clear hgd;go_upto_region 5 with fail;go_cut [83]from 56 to 84 (fun s83 wx=>∃z:Bool,s83= .bool z∧Hid (z=true↔(E.bat≤b.length∨b.any (fun k=>dJ (roS s.S k) y.ro.l)=true))∧Hid (Mod (fun _=>False) w6 wx))
 case first=>
  by_cases hbt:E.bat≤b.length
  ·have hbt2:M.D.bat≤b.length:=by rw[HS.out.2.2.2.2.bat];exact hbt
   have hdc:=Dt hbt2;have HZ:=Hi hbt;have Lkp:=aA kp;have Lkd:=aA kd;have Lkp4:=aA kp4;have Lkp7:=aA kp7;have Lkob:=aA kob;refine ZP [1,0,0,1,0,0,1,0,1,0,0,1,0,0,0,1,0,0,0,0,0,0,0,0,0,0,0,0] ?_
   iterate 28 first|refine Zo ?_|refine Zv ?_|refine Zd ?_
   refine TD.nil (fun w7 hr=> ?_);replace kp:=hr.q kp;replace kd:=hr.q kd;replace kp4:=hr.q kp4;replace kp7:=hr.q kp7;replace kob:=hr.q kob;have HM7:=Hi hr.mod;clear hr hdc hbt hbt2;go_wp2_with fail;go_meet;exact⟨true,rfl,Hi ⟨fun _=> .inl HZ.out,fun _=>rfl⟩,HM7⟩
  ·have hbt2:¬M.D.bat≤b.length:=by rw[HS.out.2.2.2.2.bat];exact hbt
   have hdc:=Df hbt2;have hct:Hid (∀wq,Mod (fun _=>False) w6 wq→Calls Tryz.prog 118 #[.slice a b.length c,U4 p4 p7] wq fun e w'=>e= .returned (.bool (b.any fun k=>dJ (roS s.S k) y.ro.l))∧Mod (fun _=>False) wq w'):=Hi (fun wq hq=>by
    obtain⟨hS6,hm6,hT6,hs3,hv,hat,hC⟩:=H6.out;have hSq:=hS6.mod0 (parts.good M E s3) hq;obtain⟨U2,hB2,_⟩:=hSq.get (i:=2) rfl;have hsS:s3.S=s.S:=by rw[←hs3];rfl
    refine J6 (hat.mod0 hq) (by have:=HB.out.2.2.1;omega) p4 p7 _ (fun k hk wr hr=> ?_);obtain⟨x,hx,hki,hk4,hxl⟩:=HB.out.2.2.2.2.2.2.1 k hk;have hro:roS s.S k=x.r.ro:=by
     unfold roS itS;rw[hx];rfl
    rw[hro];have hme:=K3 (p:=p) (D:=M.D) (X:=M.X) (pb:=p4) (rb:=p7) (y:=y) (hr.at0 (hq.at0 KPD.out.1)) (hr.at0 (hq.at0 (by rw[hd];exact KPD.out.2))) ((BT.good M.D.b s3.S).cl _ _ _ hB2 (hr.mono (fun _ _ h=>h.elim))) (i:=ix k) (by rw[hsS];exact hx) hxl (hr.at0 (hq.at0 kp4)) (hr.at0 (hq.at0 kp7)) (by
     have hy6:aV w6 y.ro.a y.ro.l:=HY6.out;exact(hy6.mod0 hq).mod0 hr) (by have:=HY.out.2.2.1;omega)
    rw[hki,cB (by omega)];exact hme)
   obtain⟨z,hz⟩:∃z,(b.any fun k=>dJ (roS s.S k) y.ro.l)=z:=⟨_,rfl⟩;have HZ:Hid (z=true↔(E.bat≤b.length∨b.any (fun k=>dJ (roS s.S k) y.ro.l)=true)):=Hi ⟨fun h=> .inr (hz.trans h),fun h=>by
    rcases h with h|h
    ·exact absurd h hbt
    ·exact hz.symm.trans h⟩
   rw[hz]at hct;clear hz;have Lkp:=aA kp;have Lkd:=aA kd;have Lkp4:=aA kp4;have Lkp7:=aA kp7;have Lkob:=aA kob;refine ZR (fun _ _ v=>v= .bool z) [1,0,0,1,0,0,1,0,1,0,0,1,0,0,0,1,0,0,1,0,0,1,0,0,1,0,2,0] ?_
   iterate 26 first|refine Zd ?_|refine Zv ?_
   (refine Zc ?_ (s:=by intro wq hSq;exact(hct.out wq hSq).mono (fun e w' h=>⟨_,h.1,rfl,h.2⟩));rintro _ rfl;try simp only[zL]);refine Zv ?_;refine TD.nil (fun w7 hr=> ?_);replace kp:=hr.q kp;replace kd:=hr.q kd;replace kp4:=hr.q kp4;replace kp7:=hr.q kp7;replace kob:=hr.q kob;have HM7:=Hi hr.mod;clear hr hdc hbt hbt2;go_wp2_with fail;go_meet;exact⟨z,rfl,HZ,HM7⟩
 obtain⟨z,rfl,HZ,HM7⟩:=hcut;have kp4:=HM7.out.at0 kp4;clear kp kd kob kp7 k0 k1 k2;obtain⟨Tq,hPq,hmq,hTq,hnq,hlq⟩:=HPA.out wc HM7.out;have HQ:=Hi (Ai hPq (Ai hmq (Ai hTq (Ai hnq hlq))));clear hPq hmq hTq hnq hlq HPA
 go_upto_if 83 with fail
 go_cut []from 84 to 87 (fun wx=>Hid (∃s4 Tq,bS p d E s4 Tq wx∧Mod T w wx∧(∀a,Tq a→T a∨(w.heap.size≤a∧a<wx.heap.size))∧¬Tq p4∧(∀x,Tq x→x<wx.heap.size)∧giveP E j id y.ro.l y.cost s=jN j id s4∧∀b4,s4.op[j]? =some b4→b4.length≤64)∧wx.heap[p4]? =some (.cells #[ptrV p] 114 (0,0)))
 case first=>
  cases z with
  |true=>
   have HGV:Hid (giveP E j id y.ro.l y.cost s=jN j id (pushP j s3)):=Hi (by
    unfold giveP;rw[HGD.out,if_pos (HZ.out.1 rfl),H6.out.2.2.2.1])
   have HPO:Hid (∀b4,(pushP j s3).op[j]? =some b4→b4.length≤64):=Hi (fun b4 h4=>by
    have hop:(pushP j s3).op=s.op.set j []∨(pushP j s3).op=s.op:=by
     unfold pushP;rw[←H6.out.2.2.2.1];split
     ·exact .inr rfl
     ·exact .inl rfl
    rcases hop with h|h<;>rw[h]at h4
    ·rw[List.getElem?_set]at h4;split at h4
     ·split at h4<;>cases h4;simp
     ·exact absurd rfl ‹_›
    ·rw[HB.out.1]at h4;cases h4;exact HB.out.2.2.1)
   have HPU:Hid (Calls Tryz.prog 33 #[ptrV p,.int .i64 (j:Int)] wc fun e w'=>e= .returned (.tuple #[])∧Goes (bS p d E (pushP j s3)) Tq wc w'):=Hi (by
    have hs3:=H6.out.2.2.2.1;exact AX HQ.out.1 HQ.out.2.2.2.2 hj (by rw[←hs3];exact HB.out.1) (by rw[←hs3];exact HB.out.2.1) HB.out.2.2.1 HB.out.2.2.2.1 HB.out.2.2.2.2.1 (by rw[←hs3];exact HB.out.2.2.2.2.2.1))
   go_wp2_with fail;go_at_call 33;refine HPU.out.mono ?_;rintro e w8 ⟨rfl,T8,hP8,hm8,hT8⟩;have kp4:=hm8.at kp4 HQ.out.2.2.2.1;have z7:=HQ.out.2.1.size;have z8:=hm8.size;have HEND:Hid (∃s4 Tq,bS p d E s4 Tq w8∧Mod T w w8∧(∀a,Tq a→T a∨(w.heap.size≤a∧a<w8.heap.size))∧¬Tq p4∧(∀x,Tq x→x<w8.heap.size)∧giveP E j id y.ro.l y.cost s=jN j id s4∧∀b4,s4.op[j]? =some b4→b4.length≤64):=Hi ⟨_,T8,hP8,HQ.out.2.1.then hm8 (fun i hi ht=>(HQ.out.2.2.1 i ht).resolve_right (by omega)),fun a ha=>by
    rcases hT8 a ha with h|h
    ·rcases HQ.out.2.2.1 a h with h|h
     ·exact .inl h
     ·exact .inr (by omega)
    ·exact .inr (by omega),fun ht=>by
    rcases hT8 _ ht with h|h
    ·exact HQ.out.2.2.2.1 h
    ·have:=HP2.out;have:=H3.out.2.1.size;have:=H4.out.2.1.size;have:=H6.out.2.1.size;have:=HM7.out.size;omega,b9 HQ.out.2.2.2.2 hm8 hT8,HGV.out,HPO.out⟩
   clear hP8 hm8 hT8;go_wp2_with fail;go_meet;exact⟨HEND,kp4⟩
  |false=>
   have HEND:Hid (∃s4 Tq,bS p d E s4 Tq wc∧Mod T w wc∧(∀a,Tq a→T a∨(w.heap.size≤a∧a<wc.heap.size))∧¬Tq p4∧(∀x,Tq x→x<wc.heap.size)∧giveP E j id y.ro.l y.cost s=jN j id s4∧∀b4,s4.op[j]? =some b4→b4.length≤64):=Hi ⟨s3,Tq,HQ.out.1,HQ.out.2.1,HQ.out.2.2.1,HQ.out.2.2.2.1,HQ.out.2.2.2.2,by
    unfold giveP;rw[HGD.out,if_neg (fun h=>by have:=HZ.out.2 h;cases this),H6.out.2.2.2.1],fun b4 h4=>by
    rw[←H6.out.2.2.2.1]at h4;have h5:s.op[j]? =some b4:=h4;rw[HB.out.1]at h5;cases h5;exact HB.out.2.2.1⟩
   go_wp2_with fail;go_meet;exact⟨HEND,kp4⟩
 case rest=>
  obtain⟨hcut,kp4⟩:=hcut;obtain⟨s4,T9,⟨M9,hp9,hd9,hMk9,hS9⟩,hm9,hT9,hn9,hlt9,hgv,hbl⟩:=hcut.out;obtain⟨b4,hb4⟩:∃b4,s4.op[j]? =some b4:=⟨_,aZb (by rw[hMk9.op];exact hj)⟩;obtain⟨Ts,h1,h2,h3⟩:=hS9;have hP0:CeL M9.p (pac M9.X) 121 (Ts 0) wc:=h1 0 _ rfl;have hP14:CeL M9.ob (M9.V.take E.n).toArray 53 (Ts 14) wc:=h1 14 _ rfl;have h15:BatL E.n M9.V (s4.op++s4.gi.map Prod.snd) (Ts 15) wc:=h1 15 _ rfl;have kp:=hP0.2;have kob:=hP14.2;rw[hp9]at kp;unfold pac at kp;rw[hMk9.ov]at kp;have hb0:(s4.op++s4.gi.map Prod.snd)[j]? =some b4:=by rw[aZt (by rw[hMk9.op];exact hj)];exact hb4
  have hVl:=h15.1;rw[aZg,hMk9.op]at hVl;obtain⟨v,hv⟩:∃v,M9.V[j]? =some v:=⟨_,aZb (by omega)⟩;obtain⟨a4,c4,hv1,_⟩:=((h15.2.1 j v b4 hv hb0).1 hj).at fZ;rw[hv1]at hv;obtain⟨C4,hC4⟩:∃C4,(M9.V.take E.n).toArray=C4:=⟨_,rfl⟩;have k0:C4[j]? =some (.slice a4 b4.length c4):=by
   rw[←hC4,zA,aXx hj];exact hv
  have k1:∀h:j<C4.size,C4[j]= .slice a4 b4.length c4:=fun h=>aU k0 h;have k2:=(aZf.1 k0).1;rw[hC4]at kob;have hbl4:=hbl b4 hb4;obtain⟨W,hW⟩:∃W,Ts 15=W:=⟨_,rfl⟩;rw[hW]at h15;have nW1:¬W p:=by rw[←hW,←hp9];exact h3 0 15 _ (by decide) hP0.1
  have nW2:¬W p4:=fun hw=>hn9 (h2 15 _ (by rw[hW];exact hw));have nW3:¬W M9.ob:=by rw[←hW];exact h3 14 15 _ (by decide) hP14.1
  have H15:=Hi h15;have HWL:Hid (∀i,W i→i<wc.heap.size):=Hi (fun i hi=>hlt9 i (h2 15 i (by rw[hW];exact hi)));have H9:=Hi (Ai hp9 (Ai hd9 (Ai hMk9 (Ai h1 (Ai h2 (Ai h3 (Ai hm9 (Ai hT9 (Ai hlt9 (Ai hb4 (Ai hb0 (Ai hv (Ai hC4 (Ai hgv (Ai hbl4 hW)))))))))))))));clear hcut hp9 hd9 hMk9 h1 h2 h3 hm9 hT9 hlt9 hb4 hb0 hv hC4 hgv hbl4 hW hn9 hbl hP0 hP14 h15 hVl hv1;go_upto_region 7 with fail;have Lkp:=aA kp;have Lkp4:=aA kp4;have Lkob:=aA kob;refine iJ (T0:=W) (K:=BatL E.n M9.V (s4.op++s4.gi.map Prod.snd)) (κ:=fun i=>[0,0,0,0,0,0,0,0,0,0,0,0,0,3,6,0,6].getD i 0) (υ:=fun i=>[[],[],[],[],[],[],[],[],[],[],[],[],[],[],[100],[],[]].getD i []) [0,1,2,3,4,5,6,7,8,9,10,11,12,13,14] [15,16] (by kernel_rfl) (by kernel_rfl) (BatL.good E.n M9.V (s4.op++s4.gi.map Prod.snd)).cl (H15.out) (HWL.out) ?_;have gK:=BatL.good E.n M9.V (s4.op++s4.gi.map Prod.snd);(refine Zk ?_ (hy:=by intro wq hSq;have kpq:=hSq.atn kp;have kp4q:=hSq.atn kp4;have kobq:=hSq.atn kob;go_simp;try with_reducible rfl))
  iterate 2 refine Zg ?_
  (refine Zk ?_ (hy:=by intro wq hSq;have kpq:=hSq.atn kp;have kp4q:=hSq.atn kp4;have kobq:=hSq.atn kob;go_simp;try with_reducible rfl));refine Zg ?_;(refine Zk ?_ (hy:=by intro wq hSq;have kpq:=hSq.atn kp;have kp4q:=hSq.atn kp4;have kobq:=hSq.atn kob;go_simp;try with_reducible rfl))
  iterate 2 refine Zg ?_
  (refine Zk ?_ (hy:=by intro wq hSq;have kpq:=hSq.atn kp;have kp4q:=hSq.atn kp4;have kobq:=hSq.atn kob;go_simp;try with_reducible rfl))
  iterate 2 refine Zg ?_
  (refine Zk ?_ (hy:=by intro wq hSq;have kpq:=hSq.atn kp;have kp4q:=hSq.atn kp4;have kobq:=hSq.atn kob;go_simp;try with_reducible rfl));refine Zg ?_;(refine TG.bslice (by simp only[zK];rfl) rfl (by rfl) rfl rfl ?hx121 (ET id) (fun p100 hp100 _=> ?n121);(case hx121=>(simp only[aYr,aZo,aYo,zM];(try rfl)));try simp only[zL]);(refine TG.appK (X:= ?X122) (Y:= ?Y122) (NN E.n j M9.V (s4.op++s4.gi.map Prod.snd) (b4++[id])) (wD E.n j M9.V (s4.op++s4.gi.map Prod.snd) (b4++[id])) (by simp only[zK];rfl) rfl (by rfl) rfl ?hx122 ?hz122 (fun T wq kq ltq hSq ub=> ?y122) ?n122;(case hx122=>simp only[zM];try rfl);(case hz122=>simp only[zM];try rfl);(case y122=>(have kpq:=hSq.atn kp;have kp4q:=hSq.atn kp4;have kobq:=hSq.atn kob;have kp100:=ub.box (p:=p100) (by first|exact Bx.set_same _ _ _|(simp only[Bx.set_same];rfl)) (by first|decide|exact aZm.2 rfl|simp);dsimp only[Value.cells]at kp100;have nUp100:=(ub p100 _ (by first|exact Bx.set_same _ _ _|(simp only[Bx.set_same];rfl)) (by first|decide|exact aZm.2 rfl|simp)).1;exact JU kq hj H9.out.2.2.2.2.2.2.2.2.2.2.1 H9.out.2.2.2.2.2.2.2.2.2.2.2.1 kp100 H9.out.2.2.2.2.2.2.2.2.2.2.2.2.2.2.1 _));rintro v122 ⟨wI,TI,hI⟩;replace gK:=(wD E.n j M9.V (s4.op++s4.gi.map Prod.snd) (b4++[id])) v122;skip;(try clear hI TI wI);try simp only[zL]);refine TG.nil (fun w10 ⟨TR,hr⟩=> ?_);replace kp:=hr.mod.atn kp;replace kp4:=hr.mod.atn kp4;replace kob:=hr.mod.atn kob;obtain⟨gp100,nTp100,kp100⟩:=hr.b p100;clear gK;have hbk:=hr.k;obtain⟨hb15,a6,c6,rfl⟩:=hbk;have hg15:Hid (Goes (BatL E.n (M9.V.set j (.slice a6 (b4++[id]).length c6)) ((s4.op++s4.gi.map Prod.snd).set j (b4++[id]))) W wc w10):=Hi ⟨TR,hb15,hr.mod,fun a ha=>by
   rcases aYt a wc.heap.size with h|h
   ·exact .inl (hr.old a h ha)
   ·exact .inr ⟨h,hr.lt a ha⟩⟩
  obtain⟨n6,hn6⟩:∃n6,(b4++[id]).length=n6:=⟨_,rfl⟩;rw[hn6]at hg15⊢;have HN6:=Hi hn6;clear hb15 hr hn6 kp100 kp kp4;refine Ze ?_;refine Zz ?_;refine ZS ?_;refine ZN kob fun wn kob mS=> ?_;have MS12:=Hi (Ai mS kob);clear mS kob;obtain⟨w12,hw12⟩:∃w12,wn=w12:=⟨_,rfl⟩;rw[hw12]at MS12⊢;clear hw12;refine bodyPost_end (v:= .tuple #[]) (results_none rfl _ _ _) rfl ⟨rfl,?_⟩;obtain⟨hp9,hd9,hMk9,h1,h2,h3,hm9,hT9,hlt9,hb4,hb0,hv,hC4,hgv,hbl4,hW⟩:=H9.out;rw[hgv];rw[←hW]at hg15;obtain⟨mS,kob⟩:=MS12.out;refine Goes.trans (K1:=bS p d E s4) hm9 hT9 ?_;obtain⟨g1,g2⟩:=bQ.step (parts.good M9 E s4) hlt9 (i:=15) (by simp[parts]) h1 h2 h3 hg15.out;have hlt10:=b9 hlt9 g2 (T1:=Grow T9 wc w10) (fun _ h=>h);refine Goes.trans (K1:=bS p d E s4) g2 (T1:=Grow T9 wc w10) (fun _ h=>h) ?_;obtain⟨Ts2,f1,f2,f3⟩:=g1;have hp14:CeL M9.ob (M9.V.take E.n).toArray 53 (Ts2 14) w10:=f1 14 _ rfl;have hV:C4.setIfInBounds j (Value.slice a6 n6 c6)=((M9.V.set j (Value.slice a6 n6 c6)).take E.n).toArray:=by
   rw[←hC4,zF,List.take_set]
  rw[hV]at kob;obtain⟨k1,k2⟩:=bQ.step (gY (parts.good M9 E s4) (BatL.good _ _ _) 15) hlt10 (i:=14) (by simp[parts]) f1 f2 f3 (K':=CeL M9.ob ((M9.V.set j (Value.slice a6 n6 c6)).take E.n).toArray 53) (Goes.into ⟨hp14.1,kob⟩ (mS.mono (fun x _ hx=>by rw[hx];exact hp14.1)));have hop:jN j id s4= {s4 with op:=s4.op.set j (b4++[id])}:=by
   unfold jN;rw[aZk,hb4];rfl
  rw[hop];refine⟨_,⟨{M9 with V:=M9.V.set j (Value.slice a6 n6 c6)},hp9,hd9,?_,?_⟩,k2,fun _ h=>h⟩
  ·exact⟨hMk9.win,hMk9.bat,hMk9.fli,hMk9.n1,hMk9.n2,hMk9.fv,hMk9.cv,hMk9.sv,hMk9.ov,hMk9.fl,hMk9.co,hMk9.sp,by show(s4.op.set j (b4++[id])).length=E.n;rw[aZn];exact hMk9.op,hMk9.la,by show M9.G.map _=(s4.gi.map Prod.fst).zip ((M9.V.set j (Value.slice a6 n6 c6)).drop E.n);rw[List.drop_set_of_lt hj];exact hMk9.gw,hMk9.gl⟩
  ·rw[List.set_append_left _ _ (by rw[hMk9.op];exact hj)]at k1;exact k1
end
end Go.Proofs.YtblbegbjlaokjaaGreatDoor