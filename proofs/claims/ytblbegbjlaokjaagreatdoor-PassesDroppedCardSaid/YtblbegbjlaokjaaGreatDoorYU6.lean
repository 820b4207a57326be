/- The lemmas of the proof, part YO6: how the program and its data lie in memory, and what its functions do. -/
import Derived.Test.YtblbegbjlaokjaaGreatDoorYU5
import Derived.Test.YtblbegbjlaokjaaGreatDoorProg
set_option linter.unusedSimpArgs false
set_option linter.unusedVariables false
set_option linter.unusedSectionVars false

set_option maxRecDepth 100000
set_option maxHeartbeats 3200000
namespace Go.Proofs.YtblbegbjlaokjaaGreatDoor
open Go.RowKit
open Go.ChangeMaps (setBlock)
attribute [local go_sem↓] f9 uW gG vS gJ kG
attribute [local go_sem] Value.cells aJ aC eB dR cW aL aO aP aQ aI vI vJ vK kO CI R7 R8 vO jH
abbrev fU:=aN×Fin 64
def pv (s:fU):Wg:=sv (s.1,(s.2.val:Int))
theorem RZ (a b:fU) (h:pv a=pv b):a=b:=by
 have:=SM h;simp only[Prod.mk.injEq]at this;exact Prod.ext this.1 (Fin.ext (by omega))
theorem KE (i:Fin 64):(Lit.int .i64 (i.val:Int)).wf=true:=by
 have:=i.isLt;simp[Lit.wf,IntKind.min,IntKind.max,IntKind.bits,IntKind.signed];omega
theorem KJ:Tryz.prog.cellsOf 296=33:=by kernel_rfl
theorem VH:Tryz.prog.cellsOf 3=1:=by kernel_rfl
theorem N5:Tryz.prog.keyType 296=true:=by kernel_rfl
theorem EY (s:fU) (d:Nat):∃l,Tryz.prog.keyLits (d+3) 296 (pv s).cells.toList=some l:=by
 obtain⟨l,hl⟩:=I1.lits s.1 d;have h1:((kc s.1).toList++[Value.int .i64 (s.2.val:Int)]).take 32=(kc s.1).toList:=by
  rw[List.take_append_of_le_length (by simp)];exact aY6 (by simp)
 have h2:((kc s.1).toList++[Value.int .i64 (s.2.val:Int)]).drop 32=[Value.int .i64 (s.2.val:Int)]:=by
  rw[List.drop_append_of_le_length (by simp),List.drop_of_length_le (by simp)];rfl
 have h3:Tryz.prog.keyLits (d+2) 3 [Value.int .i64 (s.2.val:Int)]=some [.int .i64 (s.2.val:Int)]:=by
  unfold Program.keyLits;rw[Tryz.underlying3];simp[KE]
 unfold Program.keyLits;rw[Tryz.underlying296];simp only[pv,sv,sc,kx,Value.cells,aWi,KJ];rw[if_pos ⟨by simp,by kernel_rfl⟩];simp only[List.mapM_cons,List.mapM_nil,I1.cK,VH,List.drop_zero,h1,hl,h2,h3,aY6,aZx,aZq];exact⟨_,rfl⟩
theorem tI:lX Tryz.prog 296 pv where
 law:=Maps.Keyed.of_law (deep_law_laid laid (m:=3) (by omega) (of_decide_eq_true (by kernel_rfl)) (by kernel_rfl) (by rw[Tryz.underlying296]))
 lit s:=by
  obtain⟨n,hn⟩:∃n,Tryz.prog.types.size=n+2:=⟨Tryz.prog.types.size-2,(Nat.sub_add_cancel (of_decide_eq_true (by kernel_rfl))).symm⟩;obtain⟨l,hl⟩:=EY s n;unfold keyOf;rw[Tryz.underlying296];simp only[N5,hn,hl];rw[if_pos (by simp[pv,sv,vO,Value.formed,Tryz.underlying296,KJ])];exact⟨_,rfl⟩
 inj:=RZ
def cv (c:Int×Int):Wg:= .agg #[.int .i64 c.1,.int .i64 c.2]
def uv (c:Nat×Nat):Wg:= .agg #[.int .u64 (c.1:Int),.int .u64 (c.2:Int)]
theorem LF (w:We):(zeroValue 298).run Tryz.prog w= .ok (cv (0,0)) w:=by kernel_rfl
theorem AT (w:We):(zeroValue 276).run Tryz.prog w= .ok (uv (0,0)) w:=by kernel_rfl
theorem lK (w:We) (b o:Nat):(Instr.loadAt 296 (.pointer (some ⟨b,o,none⟩))).run Tryz.prog w=
   match w.heap[b]? with
   |some (.cells cs _ _)=>if o+33≤cs.size then .ok (.agg (cs.extract o (o+33))) w else dU Tryz.prog w 296 b o
   |_=>dU Tryz.prog w 296 b o:=bK (d:=_) Tryz.underlying296 rfl (by kernel_rfl) w b o
theorem f8 (w:We) (b o:Nat):(Instr.loadAt 298 (.pointer (some ⟨b,o,none⟩))).run Tryz.prog w=
   match w.heap[b]? with
   |some (.cells cs _ _)=>if o+2≤cs.size then .ok (.agg (cs.extract o (o+2))) w else dU Tryz.prog w 298 b o
   |_=>dU Tryz.prog w 298 b o:=bK (d:=_) Tryz.underlying298 rfl (by kernel_rfl) w b o
theorem lJ (w:We) (b o:Nat):(Instr.loadAt 276 (.pointer (some ⟨b,o,none⟩))).run Tryz.prog w=
   match w.heap[b]? with
   |some (.cells cs _ _)=>if o+2≤cs.size then .ok (.agg (cs.extract o (o+2))) w else dU Tryz.prog w 276 b o
   |_=>dU Tryz.prog w 276 b o:=bK (d:=_) Tryz.underlying276 rfl (by kernel_rfl) w b o
theorem lS (w:We) (b o:Nat) (xs:Wa):(Instr.storeAt 296 (.pointer (some ⟨b,o,none⟩)) (.agg xs)).run Tryz.prog w=
   match w.heap[b]? with
   |some (.cells cs U (0,0))=>
    if o+33≤cs.size∧xs.size=33∧xs.all (·.oneCell')=true then .ok () (setBlock w b (.cells (if o=0∧33=cs.size then xs else wr cs o xs.toList) U (0,0)))else eM Tryz.prog w 296 b o (.agg xs)
   |_=>eM Tryz.prog w 296 b o (.agg xs):=bQ (by kernel_rfl) w b o xs
theorem gF (w:We) (b o:Nat) (xs:Wa):(Instr.storeAt 298 (.pointer (some ⟨b,o,none⟩)) (.agg xs)).run Tryz.prog w=
   match w.heap[b]? with
   |some (.cells cs U (0,0))=>
    if o+2≤cs.size∧xs.size=2∧xs.all (·.oneCell')=true then .ok () (setBlock w b (.cells (if o=0∧2=cs.size then xs else wr cs o xs.toList) U (0,0)))else eM Tryz.prog w 298 b o (.agg xs)
   |_=>eM Tryz.prog w 298 b o (.agg xs):=bQ (by kernel_rfl) w b o xs
theorem lR (w:We) (b o:Nat) (xs:Wa):(Instr.storeAt 276 (.pointer (some ⟨b,o,none⟩)) (.agg xs)).run Tryz.prog w=
   match w.heap[b]? with
   |some (.cells cs U (0,0))=>
    if o+2≤cs.size∧xs.size=2∧xs.all (·.oneCell')=true then .ok () (setBlock w b (.cells (if o=0∧2=cs.size then xs else wr cs o xs.toList) U (0,0)))else eM Tryz.prog w 276 b o (.agg xs)
   |_=>eM Tryz.prog w 276 b o (.agg xs):=bQ (by kernel_rfl) w b o xs
def rY:Wa:=(Array.replicate 32 (.int .u8 0))++ #[.int .i64 0]
theorem cO:rY.size=33:=by simp[rY]
theorem alSpot (w:We):(Instr.alloc 296 true (.tuple #[])).run Tryz.prog w= .ok (.pointer (some ⟨w.heap.size,0,none⟩)) (w.alloc (.cells rY 296)):=
 aY (z:= .agg rY) (fun w=>by kernel_rfl) w
theorem wN (w:We):(Instr.alloc 298 true (.tuple #[])).run Tryz.prog w= .ok (.pointer (some ⟨w.heap.size,0,none⟩)) (w.alloc (.cells #[.int .i64 0,.int .i64 0] 298)):=
 aY (z:= .agg #[.int .i64 0,.int .i64 0]) (fun w=>by kernel_rfl) w
theorem yR (w:We):(Instr.alloc 276 true (.tuple #[])).run Tryz.prog w= .ok (.pointer (some ⟨w.heap.size,0,none⟩)) (w.alloc (.cells #[.int .u64 0,.int .u64 0] 276)):=
 aY (z:= .agg #[.int .u64 0,.int .u64 0]) (fun w=>by kernel_rfl) w
theorem B9 (t:Wh) (k:IntKind) (a b:Int) (w:We) (hu:Tryz.prog.underlying t=some (.int k)):(part t #[.int k a,.int k b] 0).run Tryz.prog w= .ok (.int k a) w∧(part t #[.int k a,.int k b] 1).run Tryz.prog w= .ok (.int k b) w:=by
 simp[part,isAgg,run_underlying hu]
theorem fX (a b c d:Int) (w:We):(Op.equalIn 10000 298 (.agg #[.int .i64 a,.int .i64 b]) (.agg #[.int .i64 c,.int .i64 d])).run Tryz.prog w= .ok (a==c&&b==d) w:=by
 obtain⟨i,hi⟩:∃i,Tryz.prog.info? 3=some i:=⟨_,rfl⟩;have p1:=B9 3 .i64 a b w Tryz.underlying3;have p2:=B9 3 .i64 c d w Tryz.underlying3;have hc:Tryz.prog.cellsOf 3=1:=by kernel_rfl
 rw[run_equalIn_array w 9999 _ _ Tryz.underlying298 hi,hc];simp[List.range_succ,Op.eqItems,p1,p2,run_equalIn_int _ _ _ _ _ _ _ Tryz.underlying3];by_cases h:a=c<;>by_cases h2:b=d<;>simp[h,h2]
theorem lF (a b c d:Int) (w:We):(Op.equalIn 10000 276 (.agg #[.int .u64 a,.int .u64 b]) (.agg #[.int .u64 c,.int .u64 d])).run Tryz.prog w= .ok (a==c&&b==d) w:=by
 obtain⟨i,hi⟩:∃i,Tryz.prog.info? 23=some i:=⟨_,rfl⟩;have p1:=B9 23 .u64 a b w Tryz.underlying23;have p2:=B9 23 .u64 c d w Tryz.underlying23;have hc:Tryz.prog.cellsOf 23=1:=by kernel_rfl
 rw[run_equalIn_array w 9999 _ _ Tryz.underlying276 hi,hc];simp[List.range_succ,Op.eqItems,p1,p2,run_equalIn_int _ _ _ _ _ _ _ Tryz.underlying23];by_cases h:a=c<;>by_cases h2:b=d<;>simp[h,h2]
theorem sP (k:aN) (n:Int) (w:We):(Instr.build 296 #[(0,.agg (kc k)),(1,.int .i64 n)]).run Tryz.prog w= .ok (.agg (sc k n)) w:=by
 refine eZ (z:= .agg rY) (places:= #[(0,32),(32,1)]) Tryz.underlying296 (fun w=>by kernel_rfl) (fun w=>by kernel_rfl) ?_ w;show Instr.fill _ rY [(0,_),(1,_)]=_;rw[cZ (off:=0) (n:=32) rfl (by simp[Value.cells]) (by rw[cO];omega),cZ (off:=32) (n:=1) rfl rfl (by rw[jG,cO];omega)];show some _=some _;congr 1;apply aZ1.1;rw[jF _ _ _ (by rw[jG,cO];simp[Value.cells]),jF _ _ _ (by rw[cO];simp[Value.cells])];simp[Value.cells,rY,sc,kx]
def val:Wd→Nat
 |[]=>0
 |r::l=>r+256*val l
def bytes:Nat→Nat→Wd
 |0,_=>[]
 |n+1,x=>x % 256::bytes n (x/256)
theorem sR:∀(n x:Nat),x<256^n→val (bytes n x)=x
 |0,x,h=>by simp at h;simp[bytes,val,h]
 |n+1,x,h=>by
  have:x/256<256^n:=by rw[Nat.pow_succ]at h;omega
  simp only[bytes,val,sR n (x/256) this];omega
theorem wW:∀(n x:Nat),∀r∈bytes n x,r<256
 |0,_,r,h=>by cases h
 |n+1,x,r,h=>by
  rcases aZc.1 h with rfl|h
  ·omega
  ·exact wW n _ r h
theorem sQ:∀(n x:Nat),(bytes n x).length=n
 |0,_=>rfl
 |n+1,x=>by simp[bytes,sQ n]
theorem vW (f g:Nat→Nat):∀l:Wd,val (l.map f)+val (l.map g)=val (l.map fun r=>f r+g r)
 |[]=>rfl
 |r::l=>by
  have:=vW f g l;simp only[aZo,val];omega
theorem tY (q r M m:Nat) (hr:r<256) (hm:m<256):(r+256*q)&&&(m+256*M)=(r&&&m)+256*(q&&&M):=by
 have e1:r+256*q=2^8*q+r:=by omega
 have e2:m+256*M=2^8*M+m:=by omega
 have hlt:r&&&m<2^8:=Nat.and_lt_two_pow _ (by omega);have e3:(r&&&m)+256*(q&&&M)=2^8*(q&&&M)+(r&&&m):=by omega
 rw[e1,e2,e3];apply aXb;intro i;rw[aX6,aYz _ (by omega),aYz _ (by omega),aYz _ hlt];split<;>simp
theorem BB (k a y m:Nat) (hy:y<2^k) (hm:m<2^k):(y+2^k*a)&&&m=y&&&m:=by
 apply aXb;intro i;rw[Nat.add_comm,aX6,aYz _ hy,aX6];split
 ·rfl
 ·rename_i hi;rw[aXg (x:=m) (aZd hm (aXa (by omega) (by omega)))];simp
def M (m:Nat):Nat→Nat
 |0=>0
 |n+1=>m+256*M m n
theorem tZ (m:Nat) (hm:m<256):∀l:Wd,(∀r∈l,r<256)→val l&&&M m l.length=val (l.map (·&&&m))
 |[],_=>by simp[val,M]
 |r::l,h=>by
  simp only[val,aZu,M,aZo];rw[tY _ _ _ _ (h r (by simp)) hm,tZ m hm l (fun r hr=>h r (aZp _ hr))]
theorem vP (s k m:Nat) (hs:2^s*2^k=256) (hm:m<2^k):∀l:Wd,(∀r∈l,r<256)→(val l/2^s)&&&M m l.length=val (l.map (fun r=>r/2^s&&&m))
 |[],_=>by simp[val,M]
 |r::l,h=>by
  have ih:=vP s k m hs hm l (fun r hr=>h r (aZp _ hr));have hr:=h r (by simp);simp only[val,aZu,M,aZo];have Ww:0<2^s:=aX5 s;have qo:0<2^k:=aX5 k;have de:m<256:=by
   have:2^k≤2^s*2^k:=Nat.le_mul_of_pos_left _ Ww;omega
  have hq:r/2^s<2^k:=by
   rw[Nat.div_lt_iff_lt_mul Ww,aWo,hs];exact hr
  have e:(r+256*val l)/2^s=(r/2^s+2^k*(val l % 2^s))+256*(val l/2^s):=by
   rw[show r+256*val l=r+2^s*(2^k*val l)by rw[←Nat.mul_assoc,hs],Nat.add_mul_div_left _ _ Ww];have h1:=aWu (val l) (2^s);have h2:2^k*val l=2^k*(2^s*(val l/2^s))+2^k*(val l % 2^s):=by rw[←Nat.mul_add,h1]
   have h3:2^k*(2^s*(val l/2^s))=256*(val l/2^s):=by rw[←Nat.mul_assoc,aWo (2^k),hs]
   omega
  have nz:r/2^s+2^k*(val l % 2^s)<256:=by
   have h1:val l % 2^s<2^s:=aWt _ Ww;have h2:2^k*(val l % 2^s+1)≤2^k*2^s:=Nat.mul_le_mul_left _ h1;rw[aWo (2^k) (2^s),hs,Nat.mul_add]at h2;omega
  rw[e,tY _ _ _ _ nz de,BB k _ _ _ hq hm,ih]
theorem x9:∀l:Wd,(∀r∈l,r/16≤4∧r % 16≤4∧r<256)→(val l/16+val l)&&&M 15 l.length=val (l.map (fun r=>r/16+r % 16))∧val l % 16≤4
 |[],_=>by simp[val,M]
 |r::l,h=>by
  obtain⟨ih,nz⟩:=x9 l (fun r hr=>h r (aZp _ hr));obtain⟨h1,h2,h3⟩:=h r (by simp);simp only[val,aZu,M,aZo];have e:(r+256*val l)/16+(r+256*val l)=(r/16+r+16*(val l % 16))+256*(val l/16+val l):=by omega
  have e2:r/16+r+16*(val l % 16)=(r/16+r % 16)+2^4*(r/16+val l % 16):=by omega
  rw[e,tY _ _ _ _ (by omega) (by omega),e2,BB 4 _ _ _ (by omega) (by omega),ih];refine⟨?_,by omega⟩;congr 1
  have:(r/16+r % 16) % 2^4=(r/16+r % 16)&&&(2^4-1):=(Nat.and_two_pow_sub_one_eq_mod _ 4).symm;have h4:(r/16+r % 16) % 2^4=r/16+r % 16:=aW3 (by omega);rw[←h4,this];simp[Nat.and_assoc]
def dV (n x:Nat):Wd:=(List.range n).filter (fun i=>x.testBit i)
def g1 (r:Nat):Nat:=(r/2&&&85)+(r&&&85)
def g2 (r:Nat):Nat:=(r/4&&&51)+(r&&&51)
def g3 (r:Nat):Nat:=r/16+r % 16
theorem lE:∀r:Fin 256,g1 r<256∧g2 (g1 r)/16≤4∧g2 (g1 r) % 16≤4∧g2 (g1 r)<256∧g3 (g2 (g1 r))=(dV 8 r).length∧g3 (g2 (g1 r))≤8:=by decide+kernel
theorem wV (n r q:Nat) (hr:r<256):(dV (8+n) (r+256*q)).length=(dV 8 r).length+(dV n q).length:=by
 unfold dV;rw[List.range_add,aZ6,aZg];have e:r+256*q=2^8*q+r:=by omega
 congr 1
 ·congr 1;apply List.filter_congr;intro i hi;rw[e,aYz _ (by omega),if_pos (by simpa using hi)]
 ·rw[List.filter_map,aZs];congr 1;apply List.filter_congr;intro i _;simp only[Function.comp];rw[e,aYz _ (by omega),if_neg (by omega)];congr 1;omega
theorem yA:∀(n x:Nat),((bytes n x).map (fun r=>g3 (g2 (g1 r)))).sum=(dV (8*n) x).length
 |0,x=>rfl
 |n+1,x=>by
  have hx:x=x % 256+256*(x/256):=by omega
  have h1:=(lE ⟨x % 256,by omega⟩).2.2.2.2.1;rw[show 8*(n+1)=8+8*n by omega]
  conv=>rhs;rw[hx]
  rw[wV _ _ _ (by omega),←yA n];simp only[bytes,aZo,List.sum_cons];rw[←h1]
theorem JO (p0 p1 p2 p3 p4 p5 p6 p7:Nat) (h0:p0≤8) (h1:p1≤8) (h2:p2≤8) (h3:p3≤8) (h4:p4≤8) (h5:p5≤8) (h6:p6≤8) (h7:p7≤8) (s3 s4 s5 s6:Nat)
  (e3:s3=p0+256*(p1+256*(p2+256*(p3+256*(p4+256*(p5+256*(p6+256*p7))))))) (e4:s4=s3+s3/256) (e5:s5=s4+s4/65536) (e6:s6=s5+s5/4294967296):
  s3<1152921504606846976∧s4<2305843009213693952∧s5<4611686018427387904∧s6<9223372036854775808∧s6 % 128=p0+p1+p2+p3+p4+p5+p6+p7:=by
 have d3:s3/256=p1+256*(p2+256*(p3+256*(p4+256*(p5+256*(p6+256*p7))))):=by rw[e3];omega
 have f4:s4=(p0+p1)+256*((p1+p2)+256*((p2+p3)+256*((p3+p4)+256*((p4+p5)+256*((p5+p6)+256*((p6+p7)+256*p7)))))):=by omega
 have b3:s3<1152921504606846976:=by omega
 clear e3 d3 e4;have d4:s4/65536=(p2+p3)+256*((p3+p4)+256*((p4+p5)+256*((p5+p6)+256*((p6+p7)+256*p7)))):=by rw[f4];omega
 have b4:s4<2305843009213693952:=by omega
 have f5:s5=(p0+p1+p2+p3)+256*((p1+p2+p3+p4)+256*((p2+p3+p4+p5)+256*((p3+p4+p5+p6)+256*((p4+p5+p6+p7)+256*((p5+p6+p7)+256*((p6+p7)+256*p7)))))):=by omega
 clear f4 d4 e5;have d5:s5/4294967296=(p4+p5+p6+p7)+256*((p5+p6+p7)+256*((p6+p7)+256*p7)):=by rw[f5];omega
 have b5:s5<4611686018427387904:=by omega
 have f6:s6=(p0+p1+p2+p3+p4+p5+p6+p7)+256*((p1+p2+p3+p4+(p5+p6+p7))+256*((p2+p3+p4+p5+(p6+p7))+256*((p3+p4+p5+p6+p7)+256*((p4+p5+p6+p7)+256*((p5+p6+p7)+256*((p6+p7)+256*p7)))))):=by omega
 clear f5 d5 e6;exact⟨b3,b4,b5,by omega,by omega⟩
theorem E6 (a0 a1 a2 a3 a4 a5 a6 a7:Nat) (h0:a0<256) (h1:a1<256) (h2:a2<256) (h3:a3<256) (h4:a4<256) (h5:a5<256) (h6:a6<256) (h7:a7/16≤4) (s:Nat)
  (e:s=a0+256*(a1+256*(a2+256*(a3+256*(a4+256*(a5+256*(a6+256*a7))))))):s<9223372036854775808:=by
 have h8:a7<80:=by omega
 clear h7;omega
theorem UV:∀(l:Wd),l.length=8→∃r0 r1 r2 r3 r4 r5 r6 r7,l=[r0,r1,r2,r3,r4,r5,r6,r7]
 |[r0,r1,r2,r3,r4,r5,r6,r7],_=>⟨_,_,_,_,_,_,_,_,rfl⟩
theorem tM:∀(l:Wd) (B:Nat),(∀r∈l,r<256)→val l<256^l.length
 |[],_,_=>by simp[val]
 |r::l,B,h=>by
  have:=tM l B (fun r hr=>h r (aZp _ hr));have:=h r (by simp);simp only[val,aZu,Nat.pow_succ];omega
theorem JN (l:Wd) (ag:l.length=8) (hb:∀r∈l,r<256):
  (val l/2&&&M 85 8)+(val l&&&M 85 8)=val (l.map g1)∧
  (val (l.map g1)/4&&&M 51 8)+(val (l.map g1)&&&M 51 8)=val ((l.map g1).map g2)∧
  (val ((l.map g1).map g2)/16+val ((l.map g1).map g2))&&&M 15 8=val (((l.map g1).map g2).map g3):=by
 have hB:∀r∈l,g1 r<256∧g2 (g1 r)/16≤4∧g2 (g1 r) % 16≤4∧g2 (g1 r)<256∧g3 (g2 (g1 r))≤8:=fun r hr=>by
  have:=lE ⟨r,hb r hr⟩;exact⟨this.1,this.2.1,this.2.2.1,this.2.2.2.1,this.2.2.2.2.2⟩
 have dz:∀r∈l.map g1,r<256:=fun r hr=>by
  obtain⟨q,hq,rfl⟩:=aZj.1 hr;exact(hB q hq).1
 have jj:(l.map g1).length=8:=by rw[aZs,ag]
 have ec:((l.map g1).map g2).length=8:=by rw[aZs,jj]
 refine⟨?_,?_,?_⟩
 ·have h1:=vP 1 7 85 (by decide) (by decide) l hb;have h2:=tZ 85 (by decide) l hb;rw[ag]at h1 h2;rw[show val l/2=val l/2^1 by rfl,h1,h2,vW];rfl
 ·have h1:=vP 2 6 51 (by decide) (by decide) _ dz;have h2:=tZ 51 (by decide) _ dz;rw[jj]at h1 h2;rw[show val (l.map g1)/4=val (l.map g1)/2^2 by rfl,h1,h2,vW];rfl
 ·have h1:=(x9 ((l.map g1).map g2) (fun r hr=>by
   obtain⟨q,hq,rfl⟩:=aZj.1 hr;obtain⟨p,hp,rfl⟩:=aZj.1 hq;have:=hB p hp;exact⟨this.2.1,this.2.2.1,this.2.2.2.1⟩)).1
  rw[ec]at h1;exact h1
theorem ZZ:M 85 8=6148914691236517205:=by decide
theorem ZY:M 51 8=3689348814741910323:=by decide
theorem m15:M 15 8=1085102592571150095:=by decide
theorem EO (x:Nat) (hx:x<18446744073709551616):∃s1 s2 s3 s4 s5 s6:Nat,
  (x/2&&&M 85 8)+(x&&&M 85 8)=s1∧s1<18446744073709551616∧
  (s1/4&&&M 51 8)+(s1&&&M 51 8)=s2∧s2<9223372036854775808∧
  (s2/16+s2)&&&M 15 8=s3∧s3<1152921504606846976∧s4=s3+s3/256∧s4<2305843009213693952∧s5=s4+s4/65536∧s5<4611686018427387904∧s6=s5+s5/4294967296∧s6<9223372036854775808∧s6 % 128=(dV 64 x).length:=by
 have h8:val (bytes 8 x)=x:=sR 8 x (by simpa using hx);have ag:=sQ 8 x;have jg:=yA 8 x;have hb:=wW 8 x;generalize bytes 8 x=l at h8 ag jg hb;obtain⟨e1,e2,e3⟩:=JN l ag hb;rw[h8]at e1;have hB:∀r∈l,g1 r<256∧g2 (g1 r)/16≤4∧g3 (g2 (g1 r))≤8∧g2 (g1 r)<256:=fun r hr=>by
  have:=lE ⟨r,hb r hr⟩;exact⟨this.1,this.2.1,this.2.2.2.2.2,this.2.2.2.1⟩
 have b1:val (l.map g1)<18446744073709551616:=by
  have:=tM (l.map g1) 0 (fun r hr=>by
   obtain⟨q,hq,rfl⟩:=aZj.1 hr;exact(hB q hq).1)
  rw[aZs,ag]at this;simpa using this
 obtain⟨s1,fk⟩:∃s1,s1=val (l.map g1):=⟨_,rfl⟩;obtain⟨s2,fe⟩:∃s2,s2=val ((l.map g1).map g2):=⟨_,rfl⟩;obtain⟨s3,ij⟩:∃s3,s3=val (((l.map g1).map g2).map g3):=⟨_,rfl⟩;rw[←fk]at e1 e2 b1;rw[←fe]at e2 e3;rw[←ij]at e3;have key:s2<9223372036854775808∧s3<1152921504606846976∧s3+s3/256<2305843009213693952∧(s3+s3/256)+(s3+s3/256)/65536<4611686018427387904∧
   ((s3+s3/256)+(s3+s3/256)/65536)+((s3+s3/256)+(s3+s3/256)/65536)/4294967296<9223372036854775808∧
   (((s3+s3/256)+(s3+s3/256)/65536)+((s3+s3/256)+(s3+s3/256)/65536)/4294967296) % 128=(dV 64 x).length:=by
  clear e1 e2 e3 fk b1 h8;obtain⟨r0,r1,r2,r3,r4,r5,r6,r7,rfl⟩:∃r0 r1 r2 r3 r4 r5 r6 r7,l=[r0,r1,r2,r3,r4,r5,r6,r7]:=UV l ag;simp only[aZo,aYo,List.sum_cons,List.sum_nil,Nat.reduceMul]at jg;simp only[aZo,aYo,val,Nat.mul_zero,aXz]at fe ij;have t0:=hB r0 (by simp);have t1:=hB r1 (by simp);have t2:=hB r2 (by simp);have t3:=hB r3 (by simp);have t4:=hB r4 (by simp);have t5:=hB r5 (by simp);have t6:=hB r6 (by simp);have t7:=hB r7 (by simp);clear hB ag hb;have s2b:s2<9223372036854775808:=E6 _ _ _ _ _ _ _ _ t0.2.2.2 t1.2.2.2 t2.2.2.2 t3.2.2.2 t4.2.2.2 t5.2.2.2 t6.2.2.2 t7.2.1 s2 fe;obtain⟨z3,z4,z5,z6,z7⟩:=JO _ _ _ _ _ _ _ _ t0.2.2.1 t1.2.2.1 t2.2.2.1 t3.2.2.1 t4.2.2.1 t5.2.2.1 t6.2.2.1 t7.2.2.1 s3 _ _ _ ij rfl rfl rfl;refine⟨s2b,z3,z4,z5,z6,?_⟩;clear fe ij t0 t1 t2 t3 t4 t5 t6 t7 s2b z3 z4 z5 z6;rw[z7,←jg];generalize g3 (g2 (g1 r0))=a0;generalize g3 (g2 (g1 r1))=a1;generalize g3 (g2 (g1 r2))=a2;generalize g3 (g2 (g1 r3))=a3;generalize g3 (g2 (g1 r4))=a4;generalize g3 (g2 (g1 r5))=a5;generalize g3 (g2 (g1 r6))=a6;generalize g3 (g2 (g1 r7))=a7;simp only[aXz,Nat.add_assoc]
 obtain⟨k1,k2,k3,k4,k5,k6⟩:=key;exact⟨s1,s2,s3,_,_,_,e1,b1,e2,k1,e3,k2,rfl,k3,rfl,k4,rfl,k5,k6⟩
theorem tE (a:Nat) (ha:a<9223372036854775808):(BitVec.ofInt 64 (a:Int)).toNat=a:=by
 rw[BitVec.ofInt_natCast,BitVec.toNat_ofNat];exact aW3 (by omega)
theorem MS (a b:Nat) (ha:a<9223372036854775808) (hb:b<9223372036854775808):bits .and .i64 (a:Int) (b:Int)=((a&&&b:Nat):Int):=by
 have hx:a&&&b<2^63:=Nat.and_lt_two_pow _ (by omega);show IntKind.i64.wrap ((BitVec.ofInt 64 (a:Int)&&&BitVec.ofInt 64 (b:Int)).toNat:Int)=_;rw[BitVec.toNat_and,tE a ha,tE b hb,IntKind.wrap_i64];omega
theorem xQ (x:Nat) (hx:x<18446744073709551616) (w:We):
  Calls Tryz.prog 161 #[.int .u64 (x:Int)] w fun e w'=>e= .returned (.int .i64 ((dV 64 x).length:Int))∧Mod (fun _=>False) w w':=by
 obtain⟨s1,s2,s3,s4,s5,s6,e1,b1,e2,b2,e3,b3,e4,b4,e5,b5,e6,b6,e7⟩:=EO x hx;have q1:bits .and .u64 ((x:Int)/2) 6148914691236517205=((x/2&&&M 85 8:Nat):Int):=by
  have:=u64_and_nat (x/2) 6148914691236517205 (by omega) (by omega);rw[ZZ];simpa using this
 have q2:bits .and .u64 (x:Int) 6148914691236517205=((x&&&M 85 8:Nat):Int):=by
  have:=u64_and_nat x 6148914691236517205 (by omega) (by omega);rw[ZZ];simpa using this
 generalize(x/2&&&M 85 8)=A at *;generalize(x&&&M 85 8)=B at *;have q3:IntKind.u64.wrap ((A:Int)+(B:Int))=(s1:Int):=kP (by omega) b1;have q4:bits .and .u64 ((s1:Int)/4) 3689348814741910323=((s1/4&&&M 51 8:Nat):Int):=by
  have:=u64_and_nat (s1/4) 3689348814741910323 (by omega) (by omega);rw[ZY];simpa using this
 have q5:bits .and .u64 (s1:Int) 3689348814741910323=((s1&&&M 51 8:Nat):Int):=by
  have:=u64_and_nat s1 3689348814741910323 (by omega) (by omega);rw[ZY];simpa using this
 generalize(s1/4&&&M 51 8)=C at *;generalize(s1&&&M 51 8)=D at *;have q6:IntKind.u64.wrap ((C:Int)+(D:Int))=(s2:Int):=kP (by omega) (by omega);obtain⟨E,hE⟩:∃E,E=s2/16+s2:=⟨_,rfl⟩;have q7:IntKind.u64.wrap ((s2:Int)/16+(s2:Int))=(E:Int):=kP (by omega) (by omega);have q8:bits .and .u64 (E:Int) 1085102592571150095=(s3:Int):=by
  have:=u64_and_nat E 1085102592571150095 (by omega) (by omega);rw[←e3,m15,←hE];simpa using this
 have q9:IntKind.u64.wrap ((s3:Int)+(s3:Int)/256)=(s4:Int):=kP (by omega) (by omega);have q10:IntKind.u64.wrap ((s4:Int)+(s4:Int)/65536)=(s5:Int):=kP (by omega) (by omega);have q11:IntKind.u64.wrap ((s5:Int)+(s5:Int)/4294967296)=(s6:Int):=kP (by omega) (by omega);have q12:IntKind.i64.wrap (s6:Int)=(s6:Int):=IntWalk.i64_in _ (by omega);have H7:=Hi e7;have B6:=b6;clear e1 e2 e3 e4 e5 e6 e7 b1 b2 b3 b4 b5 hE hx;go_enter Tryz.func161,Tryz.ntmps161
 go_wp2
 go_ret;refine⟨NR ?_,Mod.refl _ _⟩;rw[←H7.out];have h1:=MS s6 127 (by omega) (by omega);rw[show(127:Nat)=2^7-1 by rfl,Nat.and_two_pow_sub_one_eq_mod]at h1;exact h1
def aloneN (all some:Nat):Nat:=
 if(dV 64 some).length=0 then all else if(dV 64 some).length=1 then all&&&some else 0
theorem alone_c (a s:Nat) (ha:a<18446744073709551616) (hs:s<18446744073709551616) (w:We):
  Calls Tryz.prog 146 #[.int .u64 (a:Int),.int .u64 (s:Int)] w fun e w'=>e= .returned (.int .u64 (aloneN a s:Int))∧Mod (fun _=>False) w w':=by
 have hand:=u64_and_nat a s ha hs;have hc:=xQ s hs;have HC:=Hi hc;obtain⟨c,dt⟩:∃c,c=(dV 64 s).length:=⟨_,rfl⟩;unfold aloneN;rw[←dt];generalize(a&&&s)=z at *;rcases aYt c 1 with h0|h0
 ·obtain rfl:c=0:=by omega
  have HN:=Hi dt;clear hc dt;go_enter Tryz.func146,Tryz.ntmps146;go_wp2_with (go_at_call 161;refine(HC.out _).mono ?_;rintro e w' ⟨rfl,hm⟩;rw[←HN.out]);go_ret;exact⟨rfl,hm⟩
 ·by_cases h1:c=1
  ·subst h1;have HN:=Hi dt;clear hc dt h0;go_enter Tryz.func146,Tryz.ntmps146;go_wp2_with (go_at_call 161;refine(HC.out _).mono ?_;rintro e w' ⟨rfl,hm⟩;rw[←HN.out]);go_ret;exact⟨rfl,hm⟩
  ·have HN:=Hi dt;have t0:((c:Int)==0)=false:=by simp;omega
   have t1:((c:Int)==1)=false:=by simp;omega
   have t2:¬c=0:=by omega
   clear hc dt;go_enter Tryz.func146,Tryz.ntmps146;go_wp2_with (go_at_call 161;refine(HC.out _).mono ?_;rintro e w' ⟨rfl,hm⟩;rw[←HN.out]);go_ret;exact⟨rfl,hm⟩
section
attribute [local go_sem↓] lK f8 lJ lS gF lR fX lF
attribute [local go_sem] cO
def K0 (b:Bool):Int:=if b then 1 else 0
theorem WI (k:aN) (s:Bool) (w:We):
  Calls Tryz.prog 165 #[.agg (rc k s false)] w fun e w'=>e= .returned (.int .i64 0)∧Mod (fun _=>False) w w':=by
 go_enter Tryz.func165,Tryz.ntmps165;go_upto_region 0 with fail;refine ZP0 [3,0] ?_;refine Zb fun p1 fx=> ?_;refine Zv ?_;refine TD.nil (fun w2 hr=> ?_);obtain⟨gp1,kp1⟩:=hr.b p1;have m2:=hr.mod;go_upto_region 1 with fail;have Lkp1:=aA kp1;refine ZP0 [0,1] ?_;refine Zv ?_;refine Zd ?_;refine TD.nil (fun w3 hr=> ?_);replace kp1:=hr.q kp1;have m3:=m2.then0 hr.mod
 go_wp2
 go_ret;exact⟨rfl,m3⟩
theorem WJ (k:aN) (s:Bool) (w:We):
  Calls Tryz.prog 165 #[.agg (rc k s true)] w fun e w'=>e= .returned (.int .i64 1)∧Mod (fun _=>False) w w':=by
 go_enter Tryz.func165,Tryz.ntmps165;go_upto_region 0 with fail;refine ZP0 [3,0] ?_;refine Zb fun p1 fx=> ?_;refine Zv ?_;refine TD.nil (fun w2 hr=> ?_);obtain⟨gp1,kp1⟩:=hr.b p1;have m2:=hr.mod;go_upto_region 1 with fail;have Lkp1:=aA kp1;refine ZP0 [0,1] ?_;refine Zv ?_;refine Zd ?_;refine TD.nil (fun w3 hr=> ?_);replace kp1:=hr.q kp1;have m3:=m2.then0 hr.mod
 go_wp2
 go_ret;exact⟨rfl,m3⟩
theorem way_c (k:aN) (s b:Bool) (w:We):
  Calls Tryz.prog 165 #[.agg (rc k s b)] w fun e w'=>e= .returned (.int .i64 (K0 b))∧Mod (fun _=>False) w w':=by
 cases b
 ·exact WI k s w
 ·exact WJ k s w
def pw (i:Nat):Nat:=2^i
def cbit (b:Nat) (i:Fin 64):Nat:=(bits .andNot .u64 (b:Int) ((2:Int)^i.val)).toNat
def sbit (b:Nat) (i:Fin 64):Nat:=(bits .or .u64 (b:Int) ((2:Int)^i.val)).toNat
theorem jN (x:Int):0≤IntKind.u64.wrap x:=by
 rw[IntKind.wrap_u64];omega
theorem xW (i:Fin 64):2^i.val<18446744073709551616:=by
 have:2^i.val<2^64:=Nat.pow_lt_pow_right (by omega) i.isLt;simpa using this
theorem CZ (i:Fin 64):IntKind.u64.wrap ((2:Int)^i.val)=(pw i.val:Int):=by
 have h:=xW i;rw[IntKind.wrap_u64];have e:((2:Int)^i.val)=((2^i.val:Nat):Int):=by simp
 rw[e];unfold pw;generalize 2^i.val=x at h⊢;omega
theorem JS (i:Fin 64):(pw i.val:Int)=(2:Int)^i.val:=by simp[pw]
theorem BE (b:Nat) (i:Fin 64):bits .andNot .u64 (b:Int) (pw i.val:Int)=(cbit b i:Int):=by
 unfold cbit;rw[JS];exact(Int.toNat_of_nonneg (jN _)).symm
theorem CM (b:Nat) (i:Fin 64):bits .or .u64 (b:Int) (pw i.val:Int)=(sbit b i:Int):=by
 unfold sbit;rw[JS];exact(Int.toNat_of_nonneg (jN _)).symm
def stepC (c:Int×Int) (b:Bool) (d:Int):Int×Int:=if b then(c.1,c.2+d)else(c.1+d,c.2)
def N9 (c:Int×Int) (b:Bool):Int:=if b then c.2 else c.1
def oQ (x:Nat) (i:Fin 64) (on:Bool):Nat:=if on then sbit (cbit x i) i else cbit x i
def KT (u:Nat×Nat) (b:Bool) (i:Fin 64) (on:Bool):Nat×Nat:=if b then(u.1,oQ u.2 i on)else(oQ u.1 i on,u.2)
def oG {κ α β:Type} [DecidableEq κ] (k:κ) (v:α×β) (z:Bool) (m:List (κ×(α×β))):List (κ×(α×β)):=if z then del k (put k v m)else put k v m
def iO (mh:List (fU×(Int×Int))) (k:aN) (i:Fin 64) (b:Bool) (d:Int):Int×Int:=stepC ((lkp (k,i) mh).getD (0,0)) b d
def lA (mh:List (fU×(Int×Int))) (mw:List (aN×(Nat×Nat))) (k:aN) (i:Fin 64) (b:Bool) (d:Int):Nat×Nat:=
 KT ((lkp k mw).getD (0,0)) b i (decide (0<N9 (iO mh k i b d) b))
def jM (mh:List (fU×(Int×Int))) (k:aN) (i:Fin 64) (b:Bool) (d:Int):List (fU×(Int×Int)):=
 oG (k,i) (iO mh k i b d) (decide (iO mh k i b d=(0,0))) mh
def lB (mh:List (fU×(Int×Int))) (mw:List (aN×(Nat×Nat))) (k:aN) (i:Fin 64) (b:Bool) (d:Int):List (aN×(Nat×Nat)):=
 oG k (lA mh mw k i b d) (decide (lA mh mw k i b d=(0,0))) mw
def pW (w:We) (hb wb:Nat) (mh:List (fU×(Int×Int))) (mw:List (aN×(Nat×Nat))) (w':We):Prop:=
 ∃eh ch ew cw,w'.heap[hb]? =some (.map eh ch)∧aR pv cv eh ch mh∧w'.heap[wb]? =some (.map ew cw)∧aR kv uv ew cw mw∧Mod (fun i=>i=hb∨i=wb) w w'
theorem iY (a b:Int):(a==0&&b==0)=decide ((a,b)=((0,0):Int×Int)):=by
 rw[aXw];simp
theorem iZ (a b:Nat):(((a:Int)==0)&&((b:Int)==0))=decide ((a,b)=((0,0):Nat×Nat)):=by
 rw[aXw];simp
theorem SQ (t hb wb:Nat) (n:Int) (k:aN) (s:Bool) (wk:Fin 64) (by_:Int) (w:We) (eh ew:Array MapEntry) (ch cw:Nat) (mh:List (fU×(Int×Int))) (mw:List (aN×(Nat×Nat)))
  (kt:w.heap[t]? =some (.cells #[.int .i64 n,.map (some hb),.map (some wb)] 200 (0,0)))
  (kh:w.heap[hb]? =some (.map eh ch)) (Mh:aR pv cv eh ch mh) (kw:w.heap[wb]? =some (.map ew cw)) (Mw:aR kv uv ew cw mw) (aw:hb≠wb)
  (nz:∀s c,lkp s mh=some c→0≤c.1∧c.1≤1000000∧0≤c.2∧c.2≤1000000) (hby1: -1≤by_) (hby2:by_≤1):
  Calls Tryz.prog 151 #[.pointer (some ⟨t,0,none⟩),.agg (rc k s false),.int .i64 (wk.val:Int),.int .i64 by_] w fun e w'=>e= .returned (.tuple #[])∧pW w hb wb (jM mh k wk false by_) (lB mh mw k wk false by_) w':=by
 have hth:=aB kt kh (by simp);have gq:=aB kt kw (by simp);obtain⟨c0,c1,hc⟩:∃c0 c1,(lkp (k,wk) mh).getD (0,0)=(c0,c1):=⟨_,_,rfl⟩;obtain⟨b0,b1,ql⟩:∃b0 b1,(lkp k mw).getD (0,0)=(b0,b1):=⟨_,_,rfl⟩;have xl:0≤c0∧c0≤1000000∧0≤c1∧c1≤1000000:=by
  cases hl:lkp (k,wk) mh with
  |none=>rw[hl]at hc;cases hc;omega
  |some c=>
   rw[hl]at hc;have:=nz _ _ hl;cases hc;exact this
 have hC:iO mh k wk false by_=(c0+by_,c1):=by unfold iO;rw[hc];rfl
 have hU:lA mh mw k wk false by_=(if 0<c0+by_ then(sbit (cbit b0 wk) wk,b1)else(cbit b0 wk,b1)):=by
  unfold lA;rw[ql,hC];by_cases h:0<c0+by_<;>simp[KT,N9,oQ,h]
 obtain⟨hc0,hc0',nh,hc1'⟩:=xl;have mm:Mod (fun i=>i=hb∨i=wb) w w:=Mod.refl _ _;have He:IntKind.i64.wrap (c0+by_)=c0+by_:=IntWalk.i64_in _ (by omega);have fy:=CZ wk;have dg:=BE b0 wk;have Rz:=CM (cbit b0 wk) wk;have HC:=Hi hC;have HU:=Hi hU;have HL:=Hi nz;clear hC hU nz;go_enter Tryz.func151,Tryz.ntmps151;go_upto_region 0 with fail;have Lkt:=aA kt;have Lkh:=aA kh;have Lkw:=aA kw;refine ZP0 [3] ?_;refine Zb fun R hR=> ?_;refine TD.nil (fun w1 hr=> ?_);replace kt:=hr.q kt;replace kh:=hr.q kh;replace kw:=hr.q kw;obtain⟨gR,kR⟩:=hr.b R;have mm:=mm.then0 hr.mod;go_upto_region 1 with fail;have LkR:=aA kR;have Lkt:=aA kt;have Lkh:=aA kh;have Lkw:=aA kw;refine ZR (fun _ _ v=>v= .int .i64 (K0 false)) [0,1,0,0,1,2,3,4,0] ?_
 iterate 3 first|refine Zv ?_|refine Zd ?_
 refine Zu (sP _ _) ?_;refine Zd ?_;(refine Zc ?_ (s:=by intro wq ae;exact(way_c k s false wq).mono (fun e w' h=>⟨_,h.1,rfl,h.2⟩));rintro _ rfl;try simp only[zL]);refine Za alSpot fun p8 yw=> ?_;refine Zt ?_;refine Zv ?_;refine TD.nil (fun w2 hr=> ?_);replace kR:=hr.q kR;replace kt:=hr.q kt;replace kh:=hr.q kh;replace kw:=hr.q kw;obtain⟨gp8,kp8⟩:=hr.b p8;have mm:=mm.then0 hr.mod;go_upto_region 2 with fail;have l1:∀wq,Mod (fun _=>False) w2 wq→(Instr.lookup 197 (.map (some hb)) (.agg (sc k (wk.val:Int))) false).run Tryz.prog wq= .ok (.agg #[.int .i64 c0,.int .i64 c1]) wq:=fun wq hm=>by
  have:=Mh.lookupD tI Tryz.underlying197 LF wq (hm.at kh (fun h=>h)) (k,wk);rw[hc]at this;exact this
 have l2:∀wq,Mod (fun _=>False) w2 wq→(Instr.lookup 198 (.map (some wb)) (.agg (kc k)) false).run Tryz.prog wq= .ok (.agg #[.int .u64 (b0:Int),.int .u64 (b1:Int)]) wq:=fun wq hm=>by
  have:=Mw.lookupD keyT Tryz.underlying198 AT wq (hm.at kw (fun h=>h)) k;rw[ql]at this;exact this
 have H1:=Hi hc;have H2:=Hi ql;clear hc ql;have LkR:=aA kR;have Lkt:=aA kt;have Lkh:=aA kh;have Lkw:=aA kw;have Lkp8:=aA kp8;refine ZP [0,0,0,1,1,1,0,0,0,1,0,1,1,3,3,4,4] ?_
 iterate 5 first|refine Zv ?_|refine Zd ?_
 refine ZK l1 ?_
 iterate 6 first|refine Zv ?_|refine Zd ?_
 refine ZK l2 ?_;refine Za wN fun p10 ph=> ?_;refine Za yR fun p11 ns=> ?_;obtain⟨ne_p11_p10,ns⟩:=Bx.set_none ns;refine Zt ?_;refine Zt ?_;refine TD.nil (fun w3 hr=> ?_);replace kR:=hr.q kR;replace kt:=hr.q kt;replace kh:=hr.q kh;replace kw:=hr.q kw;replace kp8:=hr.q kp8;obtain⟨gp10,kp10⟩:=hr.b p10;obtain⟨gp11,kp11⟩:=hr.b p11;have mm:=mm.then0 hr.mod;clear l1 l2;rw[show K0 false=0 from rfl];go_upto_region 3 with fail;have LkR:=aA kR;have Lkt:=aA kt;have Lkh:=aA kh;have Lkw:=aA kw;have Lkp8:=aA kp8;have Lkp11:=aA kp11;have Lkp10:=aA kp10;refine ZP0 [0,0,1,0,0,0,5] ?_
 iterate 6 first|refine Zv ?_|refine Zd ?_
 refine Zi fun wE hr=> ?_;replace kR:=hr.mod.at0 kR;replace kt:=hr.mod.at0 kt;replace kh:=hr.mod.at0 kh;replace kw:=hr.mod.at0 kw;replace kp8:=hr.mod.at0 kp8;replace kp11:=hr.mod.at0 kp11;replace kp10:=hr.mod.at0 kp10;have mE:=hr.mod;refine ZS ?_;refine ZN kp10 fun w4 kp10 mS=> ?_;(try simp only[Array.setIfInBounds,zL]at kp10);replace kR:=mS.at_ne kR (by omega);replace kt:=mS.at_ne kt (by omega);replace kh:=mS.at_ne kh (by omega);replace kw:=mS.at_ne kw (by omega);replace kp8:=mS.at_ne kp8 (by omega);replace kp11:=mS.at_ne kp11 (by omega);have mm:=(mm.then0 mE).thenB mS (.inl (by omega));go_upto_region 4 with fail;have LkR:=aA kR;have Lkt:=aA kt;have Lkh:=aA kh;have Lkw:=aA kw;have Lkp8:=aA kp8;have Lkp11:=aA kp11;have Lkp10:=aA kp10;refine ZP [0,0,1,0,0,0,0,5] ?_
 iterate 7 first|refine Zv ?_|refine Zd ?_
 refine Zi fun wE hr=> ?_;replace kR:=hr.mod.at0 kR;replace kt:=hr.mod.at0 kt;replace kh:=hr.mod.at0 kh;replace kw:=hr.mod.at0 kw;replace kp8:=hr.mod.at0 kp8;replace kp11:=hr.mod.at0 kp11;replace kp10:=hr.mod.at0 kp10;have mE:=hr.mod;refine ZS ?_;refine ZN kp11 fun w5 kp11 mS=> ?_;(try simp only[Array.setIfInBounds,zL]at kp11);replace kR:=mS.at_ne kR (by omega);replace kt:=mS.at_ne kt (by omega);replace kh:=mS.at_ne kh (by omega);replace kw:=mS.at_ne kw (by omega);replace kp8:=mS.at_ne kp8 (by omega);replace kp10:=mS.at_ne kp10 (by omega);have mm:=(mm.then0 mE).thenB mS (.inl (by omega));go_upto_region 5 with fail;have LkR:=aA kR;have Lkt:=aA kt;have Lkh:=aA kh;have Lkw:=aA kw;have Lkp8:=aA kp8;have Lkp11:=aA kp11;have Lkp10:=aA kp10;refine ZP0 [0,0,1,0] ?_
 iterate 4 first|refine Zv ?_|refine Zd ?_
 refine TD.nil (fun w6 hr=> ?_);replace kR:=hr.q kR;replace kt:=hr.q kt;replace kh:=hr.q kh;replace kw:=hr.q kw;replace kp8:=hr.q kp8;replace kp11:=hr.q kp11;replace kp10:=hr.q kp10;have mm:=mm.then0 hr.mod
 go_upto_if 47 with fail
 go_cut [11] (fun s11 wx=>s11= .pointer (some ⟨p11,0,none⟩)∧∃u:Nat,u=(if 0<c0+by_ then sbit (cbit b0 wk) wk else cbit b0 wk)∧wx.heap[t]? =some (.cells #[.int .i64 n,.map (some hb),.map (some wb)] 200 (0,0))∧wx.heap[hb]? =some (.map eh ch)∧wx.heap[wb]? =some (.map ew cw)∧wx.heap[R]? =some (.cells (rc k s false) 178)∧wx.heap[p8]? =some (.cells (sc k (wk.val:Int)) 296)∧
  wx.heap[p10]? =some (.cells #[.int .i64 (c0+by_),.int .i64 c1] 298)∧wx.heap[p11]? =some (.cells #[.int .u64 (u:Int),.int .u64 (b1:Int)] 276)∧w.heap.size≤wx.heap.size∧Mod (fun i=>i=hb∨i=wb) w wx)
 case first=>
  refine wp_cond_split rfl (fun h=> ?_) (fun h=> ?_)
  ·go_upto_region 6 with fail;have LkR:=aA kR;have Lkt:=aA kt;have Lkh:=aA kh;have Lkw:=aA kw;have Lkp8:=aA kp8;have Lkp11:=aA kp11;have Lkp10:=aA kp10;refine ZP [0,0,1,0,0,0,0,5] ?_
   iterate 7 first|refine Zv ?_|refine Zd ?_
   refine Zi fun wE hr=> ?_;replace kR:=hr.mod.at0 kR;replace kt:=hr.mod.at0 kt;replace kh:=hr.mod.at0 kh;replace kw:=hr.mod.at0 kw;replace kp8:=hr.mod.at0 kp8;replace kp11:=hr.mod.at0 kp11;replace kp10:=hr.mod.at0 kp10;have mE:=hr.mod;refine ZS ?_;refine ZN kp11 fun w7 kp11 mS=> ?_;(try simp only[Array.setIfInBounds,zL]at kp11);replace kR:=mS.at_ne kR (by omega);replace kt:=mS.at_ne kt (by omega);replace kh:=mS.at_ne kh (by omega);replace kw:=mS.at_ne kw (by omega);replace kp8:=mS.at_ne kp8 (by omega);replace kp10:=mS.at_ne kp10 (by omega);have mm:=(mm.then0 mE).thenB mS (.inl (by omega));go_wp2_with fail;go_meet;exact⟨rfl,_,by rw[if_pos (by simpa using h)],kt,kh,kw,kR,kp8,kp10,kp11,mm.size,mm⟩
  ·go_wp2_with fail;go_meet;exact⟨rfl,_,by rw[if_neg (by simpa using h)],kt,kh,kw,kR,kp8,kp10,kp11,mm.size,mm⟩
 case rest=>
 clear kt kh kw kR kp8 kp10 kp11 mm fy dg Rz He;obtain⟨rfl,u,hu,kt,kh,kw,kR,kp8,kp10,kp11,fu,mm⟩:=hcut;have HU:=HU.out;have hup:lA mh mw k wk false by_=(u,b1):=by
  rw[HU,hu];by_cases h:0<c0+by_<;>simp[h]
 clear HU hu;have HU:=Hi hup;clear hup;go_upto_region 7 with fail;have LkR:=aA kR;have Lkt:=aA kt;have Lkh:=aA kh;have Lkw:=aA kw;have Lkp8:=aA kp8;have Lkp11:=aA kp11;have Lkp10:=aA kp10;refine ZP [0,0,0,1,1,1,5] ?_
 iterate 6 first|refine Zv ?_|refine Zd ?_
 refine Zi fun wE hr=> ?_;replace kR:=hr.mod.at0 kR;replace kt:=hr.mod.at0 kt;replace kh:=hr.mod.at0 kh;replace kw:=hr.mod.at0 kw;replace kp8:=hr.mod.at0 kp8;replace kp11:=hr.mod.at0 kp11;replace kp10:=hr.mod.at0 kp10;have mE:=hr.mod;obtain⟨es69,cl69,Kg,Mkh⟩:=Mh.update tI Tryz.underlying197 wE kh (k,wk) (c0+by_,c1);refine ZV (Kg) ?_;refine ZN kh fun w8 kh mS=> ?_;(try simp only[Array.setIfInBounds,zL]at kh);replace kR:=mS.at_ne kR (by omega);replace kt:=mS.at_ne kt (by omega);replace kw:=mS.at_ne kw (by omega);replace kp8:=mS.at_ne kp8 (by omega);replace kp11:=mS.at_ne kp11 (by omega);replace kp10:=mS.at_ne kp10 (by omega);have mm:=(mm.then0 mE).thenB mS (.inr (.inl rfl));go_upto_region 8 with fail;have LkR:=aA kR;have Lkt:=aA kt;have Lkh:=aA kh;have Lkw:=aA kw;have Lkp8:=aA kp8;have Lkp11:=aA kp11;have Lkp10:=aA kp10;refine ZP0 [1,0,0] ?_
 iterate 3 first|refine Zd ?_|refine Zv ?_
 refine TD.nil (fun w9 hr=> ?_);replace kR:=hr.q kR;replace kt:=hr.q kt;replace kh:=hr.q kh;replace kw:=hr.q kw;replace kp8:=hr.q kp8;replace kp11:=hr.q kp11;replace kp10:=hr.q kp10;have mm:=mm.then0 hr.mod
 go_upto_if 63 with fail
 go_cut [11] (fun s11 wx=>s11= .pointer (some ⟨p11,0,none⟩)∧∃eh ch,aR pv cv eh ch (jM mh k wk false by_)∧wx.heap[t]? =some (.cells #[.int .i64 n,.map (some hb),.map (some wb)] 200 (0,0))∧wx.heap[hb]? =some (.map eh ch)∧wx.heap[wb]? =some (.map ew cw)∧wx.heap[R]? =some (.cells (rc k s false) 178)∧
  wx.heap[p11]? =some (.cells #[.int .u64 (u:Int),.int .u64 (b1:Int)] 276)∧Mod (fun i=>i=hb∨i=wb) w wx)
 case first=>
  refine wp_cond_split rfl (fun h=> ?_) (fun h=> ?_)
  ·go_upto_region 9 with fail;have LkR:=aA kR;have Lkt:=aA kt;have Lkw:=aA kw;have Lkp8:=aA kp8;have Lkp11:=aA kp11;have Lkp10:=aA kp10;have Lkh:=aA kh;refine ZP [0,0,0,1,1,5] ?_
   iterate 5 first|refine Zv ?_|refine Zd ?_
   refine Zi fun wE hr=> ?_;replace kR:=hr.mod.at0 kR;replace kt:=hr.mod.at0 kt;replace kw:=hr.mod.at0 kw;replace kp8:=hr.mod.at0 kp8;replace kp11:=hr.mod.at0 kp11;replace kp10:=hr.mod.at0 kp10;replace kh:=hr.mod.at0 kh;have mE:=hr.mod;obtain⟨es78,Kh,Mkh⟩:=Mkh.delete (ty:=_) tI Tryz.underlying197 wE kh (k,wk);refine ZD (Kh) ?_;refine ZN kh fun w10 kh mS=> ?_;(try simp only[Array.setIfInBounds,zL]at kh);replace kR:=mS.at_ne kR (by omega);replace kt:=mS.at_ne kt (by omega);replace kw:=mS.at_ne kw (by omega);replace kp8:=mS.at_ne kp8 (by omega);replace kp11:=mS.at_ne kp11 (by omega);replace kp10:=mS.at_ne kp10 (by omega);have mm:=(mm.then0 mE).thenB mS (.inr (.inl rfl));go_wp2_with fail;go_meet;refine⟨rfl,_,_,?_,kt,kh,kw,kR,kp11,mm⟩;rw[iY]at h;unfold jM oG;rw[HC.out,h];exact Mkh
  ·go_wp2_with fail;go_meet;refine⟨rfl,_,_,?_,kt,kh,kw,kR,kp11,mm⟩;rw[iY]at h;unfold jM oG;rw[HC.out,h];exact Mkh
 case rest=>
 clear kt kh kw kR kp8 kp10 kp11 mm Mkh;obtain⟨rfl,eh2,ch2,Mkh,kt,kh,kw,kR,kp11,mm⟩:=hcut;go_upto_region 10 with fail;have LkR:=aA kR;have Lkt:=aA kt;have Lkh:=aA kh;have Lkw:=aA kw;have Lkp11:=aA kp11;refine ZP [0,0,0,1,0,1,1,5] ?_
 iterate 7 first|refine Zv ?_|refine Zd ?_
 refine Zi fun wE hr=> ?_;replace kR:=hr.mod.at0 kR;replace kt:=hr.mod.at0 kt;replace kh:=hr.mod.at0 kh;replace kw:=hr.mod.at0 kw;replace kp11:=hr.mod.at0 kp11;have mE:=hr.mod;obtain⟨es86,cl86,Ki,Mkw⟩:=Mw.update keyT Tryz.underlying198 wE kw k (u,b1);refine ZV (Ki) ?_;refine ZN kw fun w11 kw mS=> ?_;(try simp only[Array.setIfInBounds,zL]at kw);replace kR:=mS.at_ne kR (by omega);replace kt:=mS.at_ne kt (by omega);replace kh:=mS.at_ne kh (by omega);replace kp11:=mS.at_ne kp11 (by omega);have mm:=(mm.then0 mE).thenB mS (.inr (.inr rfl));go_upto_region 11 with fail;have LkR:=aA kR;have Lkt:=aA kt;have Lkh:=aA kh;have Lkw:=aA kw;have Lkp11:=aA kp11;refine ZP0 [1,0,0] ?_
 iterate 3 first|refine Zd ?_|refine Zv ?_
 refine TD.nil (fun w12 hr=> ?_);replace kR:=hr.q kR;replace kt:=hr.q kt;replace kh:=hr.q kh;replace kw:=hr.q kw;replace kp11:=hr.q kp11;have mm:=mm.then0 hr.mod
 go_upto_if 78 with fail
 refine wp_cond_split rfl (fun h=> ?_) (fun h=> ?_)
 ·go_upto_region 12 with fail;have LkR:=aA kR;have Lkt:=aA kt;have Lkh:=aA kh;have Lkp11:=aA kp11;have Lkw:=aA kw;refine ZP [0,0,0,1,0,1,5] ?_
  iterate 6 first|refine Zv ?_|refine Zd ?_
  refine Zi fun wE hr=> ?_;replace kR:=hr.mod.at0 kR;replace kt:=hr.mod.at0 kt;replace kh:=hr.mod.at0 kh;replace kp11:=hr.mod.at0 kp11;replace kw:=hr.mod.at0 kw;have mE:=hr.mod;obtain⟨es96,Kj,Mkw⟩:=Mkw.delete (ty:=_) keyT Tryz.underlying198 wE kw k;refine ZD (Kj) ?_;refine ZN kw fun w13 kw mS=> ?_;(try simp only[Array.setIfInBounds,zL]at kw);replace kR:=mS.at_ne kR (by omega);replace kt:=mS.at_ne kt (by omega);replace kh:=mS.at_ne kh (by omega);replace kp11:=mS.at_ne kp11 (by omega);have mm:=(mm.then0 mE).thenB mS (.inr (.inr rfl));go_wp2_with fail;go_end0;refine⟨rfl,_,_,_,_,kh,Mkh,kw,?_,mm⟩;rw[iZ]at h;unfold lB oG;rw[HU.out,h];exact Mkw
 ·go_wp2_with fail;go_end0;refine⟨rfl,_,_,_,_,kh,Mkh,kw,?_,mm⟩;rw[iZ]at h;unfold lB oG;rw[HU.out,h];exact Mkw
theorem SR (t hb wb:Nat) (n:Int) (k:aN) (s:Bool) (wk:Fin 64) (by_:Int) (w:We) (eh ew:Array MapEntry) (ch cw:Nat) (mh:List (fU×(Int×Int))) (mw:List (aN×(Nat×Nat)))
  (kt:w.heap[t]? =some (.cells #[.int .i64 n,.map (some hb),.map (some wb)] 200 (0,0)))
  (kh:w.heap[hb]? =some (.map eh ch)) (Mh:aR pv cv eh ch mh) (kw:w.heap[wb]? =some (.map ew cw)) (Mw:aR kv uv ew cw mw) (aw:hb≠wb)
  (nz:∀s c,lkp s mh=some c→0≤c.1∧c.1≤1000000∧0≤c.2∧c.2≤1000000) (hby1: -1≤by_) (hby2:by_≤1):
  Calls Tryz.prog 151 #[.pointer (some ⟨t,0,none⟩),.agg (rc k s true),.int .i64 (wk.val:Int),.int .i64 by_] w fun e w'=>e= .returned (.tuple #[])∧pW w hb wb (jM mh k wk true by_) (lB mh mw k wk true by_) w':=by
 have hth:=aB kt kh (by simp);have gq:=aB kt kw (by simp);obtain⟨c0,c1,hc⟩:∃c0 c1,(lkp (k,wk) mh).getD (0,0)=(c0,c1):=⟨_,_,rfl⟩;obtain⟨b0,b1,ql⟩:∃b0 b1,(lkp k mw).getD (0,0)=(b0,b1):=⟨_,_,rfl⟩;have xl:0≤c0∧c0≤1000000∧0≤c1∧c1≤1000000:=by
  cases hl:lkp (k,wk) mh with
  |none=>rw[hl]at hc;cases hc;omega
  |some c=>
   rw[hl]at hc;have:=nz _ _ hl;cases hc;exact this
 have hC:iO mh k wk true by_=(c0,c1+by_):=by unfold iO;rw[hc];rfl
 have hU:lA mh mw k wk true by_=(if 0<c1+by_ then(b0,sbit (cbit b1 wk) wk)else(b0,cbit b1 wk)):=by
  unfold lA;rw[ql,hC];by_cases h:0<c1+by_<;>simp[KT,N9,oQ,h]
 obtain⟨hc0,hc0',nh,hc1'⟩:=xl;have mm:Mod (fun i=>i=hb∨i=wb) w w:=Mod.refl _ _;have He:IntKind.i64.wrap (c1+by_)=c1+by_:=IntWalk.i64_in _ (by omega);have fy:=CZ wk;have dg:=BE b1 wk;have Rz:=CM (cbit b1 wk) wk;have HC:=Hi hC;have HU:=Hi hU;have HL:=Hi nz;clear hC hU nz;go_enter Tryz.func151,Tryz.ntmps151;go_upto_region 0 with fail;have Lkt:=aA kt;have Lkh:=aA kh;have Lkw:=aA kw;refine ZP0 [3] ?_;refine Zb fun R hR=> ?_;refine TD.nil (fun w1 hr=> ?_);replace kt:=hr.q kt;replace kh:=hr.q kh;replace kw:=hr.q kw;obtain⟨gR,kR⟩:=hr.b R;have mm:=mm.then0 hr.mod;go_upto_region 1 with fail;have LkR:=aA kR;have Lkt:=aA kt;have Lkh:=aA kh;have Lkw:=aA kw;refine ZR (fun _ _ v=>v= .int .i64 (K0 true)) [0,1,0,0,1,2,3,4,0] ?_
 iterate 3 first|refine Zv ?_|refine Zd ?_
 refine Zu (sP _ _) ?_;refine Zd ?_;(refine Zc ?_ (s:=by intro wq ae;exact(way_c k s true wq).mono (fun e w' h=>⟨_,h.1,rfl,h.2⟩));rintro _ rfl;try simp only[zL]);refine Za alSpot fun p8 yw=> ?_;refine Zt ?_;refine Zv ?_;refine TD.nil (fun w2 hr=> ?_);replace kR:=hr.q kR;replace kt:=hr.q kt;replace kh:=hr.q kh;replace kw:=hr.q kw;obtain⟨gp8,kp8⟩:=hr.b p8;have mm:=mm.then0 hr.mod;go_upto_region 2 with fail;have l1:∀wq,Mod (fun _=>False) w2 wq→(Instr.lookup 197 (.map (some hb)) (.agg (sc k (wk.val:Int))) false).run Tryz.prog wq= .ok (.agg #[.int .i64 c0,.int .i64 c1]) wq:=fun wq hm=>by
  have:=Mh.lookupD tI Tryz.underlying197 LF wq (hm.at kh (fun h=>h)) (k,wk);rw[hc]at this;exact this
 have l2:∀wq,Mod (fun _=>False) w2 wq→(Instr.lookup 198 (.map (some wb)) (.agg (kc k)) false).run Tryz.prog wq= .ok (.agg #[.int .u64 (b0:Int),.int .u64 (b1:Int)]) wq:=fun wq hm=>by
  have:=Mw.lookupD keyT Tryz.underlying198 AT wq (hm.at kw (fun h=>h)) k;rw[ql]at this;exact this
 have H1:=Hi hc;have H2:=Hi ql;clear hc ql;have LkR:=aA kR;have Lkt:=aA kt;have Lkh:=aA kh;have Lkw:=aA kw;have Lkp8:=aA kp8;refine ZP [0,0,0,1,1,1,0,0,0,1,0,1,1,3,3,4,4] ?_
 iterate 5 first|refine Zv ?_|refine Zd ?_
 refine ZK l1 ?_
 iterate 6 first|refine Zv ?_|refine Zd ?_
 refine ZK l2 ?_;refine Za wN fun p10 ph=> ?_;refine Za yR fun p11 ns=> ?_;obtain⟨ne_p11_p10,ns⟩:=Bx.set_none ns;refine Zt ?_;refine Zt ?_;refine TD.nil (fun w3 hr=> ?_);replace kR:=hr.q kR;replace kt:=hr.q kt;replace kh:=hr.q kh;replace kw:=hr.q kw;replace kp8:=hr.q kp8;obtain⟨gp10,kp10⟩:=hr.b p10;obtain⟨gp11,kp11⟩:=hr.b p11;have mm:=mm.then0 hr.mod;clear l1 l2;rw[show K0 true=1 from rfl];go_upto_region 3 with fail;have LkR:=aA kR;have Lkt:=aA kt;have Lkh:=aA kh;have Lkw:=aA kw;have Lkp8:=aA kp8;have Lkp11:=aA kp11;have Lkp10:=aA kp10;refine ZP0 [0,0,1,0,0,0,5] ?_
 iterate 6 first|refine Zv ?_|refine Zd ?_
 refine Zi fun wE hr=> ?_;replace kR:=hr.mod.at0 kR;replace kt:=hr.mod.at0 kt;replace kh:=hr.mod.at0 kh;replace kw:=hr.mod.at0 kw;replace kp8:=hr.mod.at0 kp8;replace kp11:=hr.mod.at0 kp11;replace kp10:=hr.mod.at0 kp10;have mE:=hr.mod;refine ZS ?_;refine ZN kp10 fun w4 kp10 mS=> ?_;(try simp only[Array.setIfInBounds,zL]at kp10);replace kR:=mS.at_ne kR (by omega);replace kt:=mS.at_ne kt (by omega);replace kh:=mS.at_ne kh (by omega);replace kw:=mS.at_ne kw (by omega);replace kp8:=mS.at_ne kp8 (by omega);replace kp11:=mS.at_ne kp11 (by omega);have mm:=(mm.then0 mE).thenB mS (.inl (by omega));go_upto_region 4 with fail;have LkR:=aA kR;have Lkt:=aA kt;have Lkh:=aA kh;have Lkw:=aA kw;have Lkp8:=aA kp8;have Lkp11:=aA kp11;have Lkp10:=aA kp10;refine ZP [0,0,1,0,0,0,0,5] ?_
 iterate 7 first|refine Zv ?_|refine Zd ?_
 refine Zi fun wE hr=> ?_;replace kR:=hr.mod.at0 kR;replace kt:=hr.mod.at0 kt;replace kh:=hr.mod.at0 kh;replace kw:=hr.mod.at0 kw;replace kp8:=hr.mod.at0 kp8;replace kp11:=hr.mod.at0 kp11;replace kp10:=hr.mod.at0 kp10;have mE:=hr.mod;refine ZS ?_;refine ZN kp11 fun w5 kp11 mS=> ?_;(try simp only[Array.setIfInBounds,zL]at kp11);replace kR:=mS.at_ne kR (by omega);replace kt:=mS.at_ne kt (by omega);replace kh:=mS.at_ne kh (by omega);replace kw:=mS.at_ne kw (by omega);replace kp8:=mS.at_ne kp8 (by omega);replace kp10:=mS.at_ne kp10 (by omega);have mm:=(mm.then0 mE).thenB mS (.inl (by omega));go_upto_region 5 with fail;have LkR:=aA kR;have Lkt:=aA kt;have Lkh:=aA kh;have Lkw:=aA kw;have Lkp8:=aA kp8;have Lkp11:=aA kp11;have Lkp10:=aA kp10;refine ZP0 [0,0,1,0] ?_
 iterate 4 first|refine Zv ?_|refine Zd ?_
 refine TD.nil (fun w6 hr=> ?_);replace kR:=hr.q kR;replace kt:=hr.q kt;replace kh:=hr.q kh;replace kw:=hr.q kw;replace kp8:=hr.q kp8;replace kp11:=hr.q kp11;replace kp10:=hr.q kp10;have mm:=mm.then0 hr.mod
 go_upto_if 47 with fail
 go_cut [11] (fun s11 wx=>s11= .pointer (some ⟨p11,0,none⟩)∧∃u:Nat,u=(if 0<c1+by_ then sbit (cbit b1 wk) wk else cbit b1 wk)∧wx.heap[t]? =some (.cells #[.int .i64 n,.map (some hb),.map (some wb)] 200 (0,0))∧wx.heap[hb]? =some (.map eh ch)∧wx.heap[wb]? =some (.map ew cw)∧wx.heap[R]? =some (.cells (rc k s true) 178)∧wx.heap[p8]? =some (.cells (sc k (wk.val:Int)) 296)∧
  wx.heap[p10]? =some (.cells #[.int .i64 c0,.int .i64 (c1+by_)] 298)∧wx.heap[p11]? =some (.cells #[.int .u64 (b0:Int),.int .u64 (u:Int)] 276)∧w.heap.size≤wx.heap.size∧Mod (fun i=>i=hb∨i=wb) w wx)
 case first=>
  refine wp_cond_split rfl (fun h=> ?_) (fun h=> ?_)
  ·go_upto_region 6 with fail;have LkR:=aA kR;have Lkt:=aA kt;have Lkh:=aA kh;have Lkw:=aA kw;have Lkp8:=aA kp8;have Lkp11:=aA kp11;have Lkp10:=aA kp10;refine ZP [0,0,1,0,0,0,0,5] ?_
   iterate 7 first|refine Zv ?_|refine Zd ?_
   refine Zi fun wE hr=> ?_;replace kR:=hr.mod.at0 kR;replace kt:=hr.mod.at0 kt;replace kh:=hr.mod.at0 kh;replace kw:=hr.mod.at0 kw;replace kp8:=hr.mod.at0 kp8;replace kp11:=hr.mod.at0 kp11;replace kp10:=hr.mod.at0 kp10;have mE:=hr.mod;refine ZS ?_;refine ZN kp11 fun w7 kp11 mS=> ?_;(try simp only[Array.setIfInBounds,zL]at kp11);replace kR:=mS.at_ne kR (by omega);replace kt:=mS.at_ne kt (by omega);replace kh:=mS.at_ne kh (by omega);replace kw:=mS.at_ne kw (by omega);replace kp8:=mS.at_ne kp8 (by omega);replace kp10:=mS.at_ne kp10 (by omega);have mm:=(mm.then0 mE).thenB mS (.inl (by omega));go_wp2_with fail;go_meet;exact⟨rfl,_,by rw[if_pos (by simpa using h)],kt,kh,kw,kR,kp8,kp10,kp11,mm.size,mm⟩
  ·go_wp2_with fail;go_meet;exact⟨rfl,_,by rw[if_neg (by simpa using h)],kt,kh,kw,kR,kp8,kp10,kp11,mm.size,mm⟩
 case rest=>
 clear kt kh kw kR kp8 kp10 kp11 mm fy dg Rz He;obtain⟨rfl,u,hu,kt,kh,kw,kR,kp8,kp10,kp11,fu,mm⟩:=hcut;have HU:=HU.out;have hup:lA mh mw k wk true by_=(b0,u):=by
  rw[HU,hu];by_cases h:0<c1+by_<;>simp[h]
 clear HU hu;have HU:=Hi hup;clear hup;go_upto_region 7 with fail;have LkR:=aA kR;have Lkt:=aA kt;have Lkh:=aA kh;have Lkw:=aA kw;have Lkp8:=aA kp8;have Lkp11:=aA kp11;have Lkp10:=aA kp10;refine ZP [0,0,0,1,1,1,5] ?_
 iterate 6 first|refine Zv ?_|refine Zd ?_
 refine Zi fun wE hr=> ?_;replace kR:=hr.mod.at0 kR;replace kt:=hr.mod.at0 kt;replace kh:=hr.mod.at0 kh;replace kw:=hr.mod.at0 kw;replace kp8:=hr.mod.at0 kp8;replace kp11:=hr.mod.at0 kp11;replace kp10:=hr.mod.at0 kp10;have mE:=hr.mod;obtain⟨es157,cl157,Et,Mkh⟩:=Mh.update tI Tryz.underlying197 wE kh (k,wk) (c0,c1+by_);refine ZV (Et) ?_;refine ZN kh fun w8 kh mS=> ?_;(try simp only[Array.setIfInBounds,zL]at kh);replace kR:=mS.at_ne kR (by omega);replace kt:=mS.at_ne kt (by omega);replace kw:=mS.at_ne kw (by omega);replace kp8:=mS.at_ne kp8 (by omega);replace kp11:=mS.at_ne kp11 (by omega);replace kp10:=mS.at_ne kp10 (by omega);have mm:=(mm.then0 mE).thenB mS (.inr (.inl rfl));go_upto_region 8 with fail;have LkR:=aA kR;have Lkt:=aA kt;have Lkh:=aA kh;have Lkw:=aA kw;have Lkp8:=aA kp8;have Lkp11:=aA kp11;have Lkp10:=aA kp10;refine ZP0 [1,0,0] ?_
 iterate 3 first|refine Zd ?_|refine Zv ?_
 refine TD.nil (fun w9 hr=> ?_);replace kR:=hr.q kR;replace kt:=hr.q kt;replace kh:=hr.q kh;replace kw:=hr.q kw;replace kp8:=hr.q kp8;replace kp11:=hr.q kp11;replace kp10:=hr.q kp10;have mm:=mm.then0 hr.mod
 go_upto_if 63 with fail
 go_cut [11] (fun s11 wx=>s11= .pointer (some ⟨p11,0,none⟩)∧∃eh ch,aR pv cv eh ch (jM mh k wk true by_)∧wx.heap[t]? =some (.cells #[.int .i64 n,.map (some hb),.map (some wb)] 200 (0,0))∧wx.heap[hb]? =some (.map eh ch)∧wx.heap[wb]? =some (.map ew cw)∧wx.heap[R]? =some (.cells (rc k s true) 178)∧
  wx.heap[p11]? =some (.cells #[.int .u64 (b0:Int),.int .u64 (u:Int)] 276)∧Mod (fun i=>i=hb∨i=wb) w wx)
 case first=>
  refine wp_cond_split rfl (fun h=> ?_) (fun h=> ?_)
  ·go_upto_region 9 with fail;have LkR:=aA kR;have Lkt:=aA kt;have Lkw:=aA kw;have Lkp8:=aA kp8;have Lkp11:=aA kp11;have Lkp10:=aA kp10;have Lkh:=aA kh;refine ZP [0,0,0,1,1,5] ?_
   iterate 5 first|refine Zv ?_|refine Zd ?_
   refine Zi fun wE hr=> ?_;replace kR:=hr.mod.at0 kR;replace kt:=hr.mod.at0 kt;replace kw:=hr.mod.at0 kw;replace kp8:=hr.mod.at0 kp8;replace kp11:=hr.mod.at0 kp11;replace kp10:=hr.mod.at0 kp10;replace kh:=hr.mod.at0 kh;have mE:=hr.mod;obtain⟨es166,Eu,Mkh⟩:=Mkh.delete (ty:=_) tI Tryz.underlying197 wE kh (k,wk);refine ZD (Eu) ?_;refine ZN kh fun w10 kh mS=> ?_;(try simp only[Array.setIfInBounds,zL]at kh);replace kR:=mS.at_ne kR (by omega);replace kt:=mS.at_ne kt (by omega);replace kw:=mS.at_ne kw (by omega);replace kp8:=mS.at_ne kp8 (by omega);replace kp11:=mS.at_ne kp11 (by omega);replace kp10:=mS.at_ne kp10 (by omega);have mm:=(mm.then0 mE).thenB mS (.inr (.inl rfl));go_wp2_with fail;go_meet;refine⟨rfl,_,_,?_,kt,kh,kw,kR,kp11,mm⟩;rw[iY]at h;unfold jM oG;rw[HC.out,h];exact Mkh
  ·go_wp2_with fail;go_meet;refine⟨rfl,_,_,?_,kt,kh,kw,kR,kp11,mm⟩;rw[iY]at h;unfold jM oG;rw[HC.out,h];exact Mkh
 case rest=>
 clear kt kh kw kR kp8 kp10 kp11 mm Mkh;obtain⟨rfl,eh2,ch2,Mkh,kt,kh,kw,kR,kp11,mm⟩:=hcut;go_upto_region 10 with fail;have LkR:=aA kR;have Lkt:=aA kt;have Lkh:=aA kh;have Lkw:=aA kw;have Lkp11:=aA kp11;refine ZP [0,0,0,1,0,1,1,5] ?_
 iterate 7 first|refine Zv ?_|refine Zd ?_
 refine Zi fun wE hr=> ?_;replace kR:=hr.mod.at0 kR;replace kt:=hr.mod.at0 kt;replace kh:=hr.mod.at0 kh;replace kw:=hr.mod.at0 kw;replace kp11:=hr.mod.at0 kp11;have mE:=hr.mod;obtain⟨es174,cl174,Ew,Mkw⟩:=Mw.update keyT Tryz.underlying198 wE kw k (b0,u);refine ZV (Ew) ?_;refine ZN kw fun w11 kw mS=> ?_;(try simp only[Array.setIfInBounds,zL]at kw);replace kR:=mS.at_ne kR (by omega);replace kt:=mS.at_ne kt (by omega);replace kh:=mS.at_ne kh (by omega);replace kp11:=mS.at_ne kp11 (by omega);have mm:=(mm.then0 mE).thenB mS (.inr (.inr rfl));go_upto_region 11 with fail;have LkR:=aA kR;have Lkt:=aA kt;have Lkh:=aA kh;have Lkw:=aA kw;have Lkp11:=aA kp11;refine ZP0 [1,0,0] ?_
 iterate 3 first|refine Zd ?_|refine Zv ?_
 refine TD.nil (fun w12 hr=> ?_);replace kR:=hr.q kR;replace kt:=hr.q kt;replace kh:=hr.q kh;replace kw:=hr.q kw;replace kp11:=hr.q kp11;have mm:=mm.then0 hr.mod
 go_upto_if 78 with fail
 refine wp_cond_split rfl (fun h=> ?_) (fun h=> ?_)
 ·go_upto_region 12 with fail;have LkR:=aA kR;have Lkt:=aA kt;have Lkh:=aA kh;have Lkp11:=aA kp11;have Lkw:=aA kw;refine ZP [0,0,0,1,0,1,5] ?_
  iterate 6 first|refine Zv ?_|refine Zd ?_
  refine Zi fun wE hr=> ?_;replace kR:=hr.mod.at0 kR;replace kt:=hr.mod.at0 kt;replace kh:=hr.mod.at0 kh;replace kp11:=hr.mod.at0 kp11;replace kw:=hr.mod.at0 kw;have mE:=hr.mod;obtain⟨es184,Ex,Mkw⟩:=Mkw.delete (ty:=_) keyT Tryz.underlying198 wE kw k;refine ZD (Ex) ?_;refine ZN kw fun w13 kw mS=> ?_;(try simp only[Array.setIfInBounds,zL]at kw);replace kR:=mS.at_ne kR (by omega);replace kt:=mS.at_ne kt (by omega);replace kh:=mS.at_ne kh (by omega);replace kp11:=mS.at_ne kp11 (by omega);have mm:=(mm.then0 mE).thenB mS (.inr (.inr rfl));go_wp2_with fail;go_end0;refine⟨rfl,_,_,_,_,kh,Mkh,kw,?_,mm⟩;rw[iZ]at h;unfold lB oG;rw[HU.out,h];exact Mkw
 ·go_wp2_with fail;go_end0;refine⟨rfl,_,_,_,_,kh,Mkh,kw,?_,mm⟩;rw[iZ]at h;unfold lB oG;rw[HU.out,h];exact Mkw
end
section
theorem nN (w:We) (r:Option Nat):(binOp .eql 197 (.map r) (.map none)).run Tryz.prog w= .ok (.bool r.isNone) w:=run_eql_map_nil w _ _ _ _ Tryz.underlying197
attribute [local go_sem↓] lK f8 lJ lS gF lR fX lF
attribute [local go_sem] nN cO
theorem Q7 (t hb wb:Nat) (n i:Int) (w:We) (kt:w.heap[t]? =some (.cells #[.int .i64 n,.map (some hb),.map (some wb)] 200 (0,0))) (h0:0≤i) (h1:i<n):
  Calls Tryz.prog 150 #[.pointer (some ⟨t,0,none⟩),.int .i64 i] w fun e w'=>e= .returned (.int .i64 0)∧w=w':=by
 go_enter Tryz.func150,Tryz.ntmps150
 go_wp2
 go_ret;exact⟨rfl,rfl⟩
end
section
theorem aV.mod {w w':We} {a:Wb} {l:List aT} {S:Nat→Prop} (h:aV w a l) (hm:Mod S w w') (hS:∀b o,a=some ⟨b,o,none⟩→¬S b):aV w' a l:=by
 rcases h with h|⟨b,o,C,U,fr,ha,hb,hc⟩
 ·exact .inl h
 ·exact .inr ⟨b,o,C,U,fr,ha,hm.at hb (hS b o ha),hc⟩
theorem aV.mod0 {w w':We} {a:Wb} {l:List aT} (h:aV w a l) (hm:Mod (fun _=>False) w w'):aV w' a l:=h.mod hm (fun _ _ _ h=>h)
attribute [local go_sem↓] lK f8 lJ lS gF lR fX lF
attribute [local go_sem] nN cO
def gE (mw:List (aN×(Nat×Nat))) (r:aT):Nat:=
 let u:=(lkp r.k mw).getD (0,0)
 if r.w then u.2|||u.1 else u.2
def maskN (n:Nat):Nat:=18446744073709551615/2^(64-n)
def thrN (mw:List (aN×(Nat×Nat))) (n:Nat) (l:List aT):Nat:=l.foldl (fun all r=>aloneN all (gE mw r)) (maskN n)
theorem sN (a s:Nat):aloneN a s≤a:=by
 unfold aloneN;split
 ·omega
 ·split
  ·exact Nat.and_le_left
  ·omega
theorem xN (n:Nat):maskN n<18446744073709551616:=by
 unfold maskN;have:=Nat.div_le_self 18446744073709551615 (2^(64-n));omega
theorem xF (mw:List (aN×(Nat×Nat))):∀(l:List aT) (a:Nat),l.foldl (fun all r=>aloneN all (gE mw r)) a≤a
 |[],_=>aZq _
 |r::l,a=>aYb (xF mw l _) (sN _ _)
theorem CT (mw:List (aN×(Nat×Nat))) (n:Nat) (l:List aT):thrN mw n l<18446744073709551616:=aX3 (xF mw l _) (xN n)
theorem E7 (mw:List (aN×(Nat×Nat))) (n:Nat) (l:List aT) (r:aT):thrN mw n (l++[r])=aloneN (thrN mw n l) (gE mw r):=by
 simp[thrN,aXl]
theorem E8 (t hb wb:Nat) (n:Nat) (a:Wb) (l:List aT) (c:Nat) (w:We) (ew:Array MapEntry) (cw:Nat) (mw:List (aN×(Nat×Nat)))
  (kt:w.heap[t]? =some (.cells #[.int .i64 n,.map (some hb),.map (some wb)] 200 (0,0))) (hn:1≤n) (dy:n≤64)
  (kw:w.heap[wb]? =some (.map ew cw)) (Mw:aR kv uv ew cw mw) (hlt:∀k u,lkp k mw=some u→u.1<18446744073709551616∧u.2<18446744073709551616)
  (hl:aV w a l) (ag:l.length≤1000000):
  Calls Tryz.prog 112 #[.pointer (some ⟨t,0,none⟩),.slice a l.length c] w fun e w'=>e= .returned (.int .u64 (thrN mw n l:Int))∧Mod (fun _=>False) w w':=by
 have HL:=Hi hlt;clear hlt;go_enter Tryz.func112,Tryz.ntmps112;go_wp2_with fail;have Gj:(18446744073709551615:Int)/2^(64-n)=((maskN n:Nat):Int):=by
  unfold maskN;simp
 rw[Gj];clear Gj;go_loopw [5,27] (fun s5 s27 wr=>∃i:Nat,i≤l.length∧s27= .int .i64 i∧s5= .int .u64 (thrN mw n (l.take i):Int)∧Mod (fun _=>False) w wr) (fun _ s27 _=>l.length-(intOf s27).toNat)
 case atStart=>exact⟨0,by omega,rfl,by simp[thrN],Mod.refl _ _⟩
 case round=>
  obtain⟨i,hi,rfl,rfl,hm⟩:=hrel;have kt:=hm.at0 kt;have kw:=hm.at0 kw;have hl:=hl.mod0 hm;by_cases hlt:i<l.length
  ·obtain⟨r,hr⟩:∃r,l[i]? =some r:=⟨_,aZb hlt⟩;obtain⟨b,o,C,U,fr,rfl,kl,hc⟩:∃b o C U fr,a=some ⟨b,o,none⟩∧wr.heap[b]? =some (.cells C U fr)∧
     ∀i r,l[i]? =some r→C.extract (o+i*34) (o+i*34+34)=rc r.k r.s r.w∧o+i*34+34≤C.size:=by
    rcases hl with rfl|h
    ·simp at hr
    ·exact h
   obtain⟨hx,dh⟩:=hc i r hr;obtain⟨k,s,b⟩:=r;dsimp only at hx;have br:l.take (i+1)=l.take i++[⟨k,s,b⟩]:=by
    rw[aYa,hr];rfl
   obtain⟨u0,u1,hu⟩:∃u0 u1,(lkp k mw).getD (0,0)=(u0,u1):=⟨_,_,rfl⟩;have Sz:u0<18446744073709551616∧u1<18446744073709551616:=by
    cases hq:lkp k mw with
    |none=>rw[hq]at hu;cases hu;omega
    |some u=>rw[hq]at hu;have:=HL.out _ _ hq;cases hu;exact this
   have ez:thrN mw n (l.take (i+1))=aloneN (thrN mw n (l.take i)) (if b then u1|||u0 else u1):=by
    rw[br,E7];simp[gE,hu]
   have hor:bits .or .u64 (u1:Int) (u0:Int)=((u1|||u0:Nat):Int):=u64_or_nat u1 u0 Sz.2 Sz.1;have Jo:u1|||u0<18446744073709551616:=Nat.or_lt_two_pow (n:=64) Sz.2 Sz.1;obtain⟨hub0,hub1⟩:=Sz;have bm:=CT mw n (l.take i);have HN:=Hi ez;have HU:=Hi hu;clear ez hu hc hr br hl;generalize thrN mw n (l.take i)=al at *;generalize(u1|||u0)=u01 at *;have mm:=hm;go_upto_region 6 with fail;have Lkt:=aA kt;have Lkw:=aA kw;have Lkl:=aA kl;refine ZP0 [0,1,3,4] ?_;refine Zv ?_;refine Zd ?_;refine Za nH fun p7 Gw=> ?_;refine Zt ?_;refine TD.nil (fun w1 hr=> ?_);replace kt:=hr.q kt;replace kw:=hr.q kw;replace kl:=hr.q kl;obtain⟨gp7,kp7⟩:=hr.b p7;have mm:=mm.then0 hr.mod;go_upto_region 7 with fail;have l2:∀wq,Mod (fun _=>False) w1 wq→(Instr.lookup 198 (.map (some wb)) (.agg (kc k)) false).run Tryz.prog wq= .ok (.agg #[.int .u64 (u0:Int),.int .u64 (u1:Int)]) wq:=fun wq hm=>by
    have:=Mw.lookupD keyT Tryz.underlying198 AT wq (hm.at0 kw) k;rw[HU.out]at this;exact this
   have Lkt:=aA kt;have Lkw:=aA kw;have Lkl:=aA kl;have Lkp7:=aA kp7;refine ZP [0,0,0,1,0,1,1,3,4] ?_
   iterate 6 first|refine Zv ?_|refine Zd ?_
   refine ZK l2 ?_;refine Za yR fun p8 yw=> ?_;refine Zt ?_;refine TD.nil (fun w2 hr=> ?_);replace kt:=hr.q kt;replace kw:=hr.q kw;replace kl:=hr.q kl;replace kp7:=hr.q kp7;obtain⟨gp8,kp8⟩:=hr.b p8;have mm:=mm.then0 hr.mod;clear l2;cases b with
   |false=>
    go_wp2_with (go_at_call 146;refine(alone_c al u1 bm hub1 _).mono ?_;rintro e w' ⟨rfl,hma⟩);go_roundw
    case rel=>exact⟨i+1,by omega,by go_num,by rw[HN.out];rfl,mm.then0 hma⟩
    case measure=>simp[intOf];omega
   |true=>
    go_wp2_with (go_at_call 146;refine(alone_c al u01 bm Jo _).mono ?_;rintro e w' ⟨rfl,hma⟩);go_roundw
    case rel=>exact⟨i+1,by omega,by go_num,by rw[HN.out];rfl,mm.then0 hma⟩
    case measure=>simp[intOf];omega
  ·obtain rfl:i=l.length:=by omega
   rw[aY5]at *
   go_wp2
   go_ret;exact⟨rfl,hm⟩
end
abbrev Lk:=aN×Bool×Fin 64
theorem L9 (x:Nat) (i:Fin 64):cbit x i<2^64:=by
 have h:bits .andNot .u64 (x:Int) ((2:Int)^i.val)<18446744073709551616:=by
  show IntKind.u64.wrap _<_;rw[IntKind.wrap_u64];omega
 unfold cbit;omega
theorem l5 (x:Nat) (hx:x<2^64) (i:Fin 64) (j:Nat):(cbit x i).testBit j=(x.testBit j&&decide (j≠i.val)):=by
 have h1:=u64_andNot_nat x (2^i.val) (by simpa using hx) (xW i);have e:((2^i.val:Nat):Int)=(2:Int)^i.val:=by simp
 rw[e]at h1;unfold cbit;rw[h1,aWm,aX6];have h2:(18446744073709551615-2^i.val)=2^64-(2^i.val+1):=by
  have:=xW i;omega
 rw[h2,Nat.testBit_two_pow_sub_succ (by have:=xW i;simpa using this),aXp];by_cases hj:j<64
 ·simp only[hj,decide_true,aWs];by_cases hji:j=i.val
  ·subst hji;simp
  ·simp[hji,Ne.symm hji]
 ·have:x.testBit j=false:=aXg (aZd hx (aXa (by omega) (by omega)));simp[this]
theorem vN (x:Nat) (hx:x<2^64) (i:Fin 64) (j:Nat):(sbit x i).testBit j=(x.testBit j||decide (j=i.val)):=by
 have h1:=u64_or_nat x (2^i.val) (by simpa using hx) (xW i);have e:((2^i.val:Nat):Int)=(2:Int)^i.val:=by simp
 rw[e]at h1;unfold sbit;rw[h1,aWm,Nat.testBit_or,aXp];by_cases hji:j=i.val
 ·subst hji;simp
 ·simp[hji,Ne.symm hji]
theorem kV (x:Nat) (hx:x<2^64) (i:Fin 64) (on:Bool) (j:Nat):(oQ x i on).testBit j=if j=i.val then on else x.testBit j:=by
 unfold oQ;cases on
 ·simp only[aZr,if_false];rw[l5 x hx];by_cases h:j=i.val<;>simp[h]
 ·simp only[if_true];rw[vN _ (L9 x i),l5 x hx];by_cases h:j=i.val<;>simp[h]
theorem lL {x:Nat} (h:∀j,x.testBit j=true→j<64):x<2^64:=by
 apply Nat.lt_pow_two_of_testBit;intro i hi;cases hb:x.testBit i with
 |false=>rfl
 |true=>have:=h i hb;omega
theorem nR {κ α β:Type} [DecidableEq κ] {m:List (κ×(α×β))} (hn:(m.map Prod.fst).Nodup) (s s':κ) (v o:α×β) (z:Bool) (hz:z=true→v=o):
  (lkp s' (oG s v z m)).getD o=if s'=s then v else(lkp s' m).getD o:=by
 unfold oG;cases z with
 |false=>
  simp only[aZr,if_false,gQ];by_cases h:s'=s<;>simp[h]
 |true=>
  simp only[if_true];rw[B1 (fT hn s v),gQ];by_cases h:s'=s
  ·simp[h,hz rfl]
  ·simp[h]
structure cS (mh:List (fU×(Int×Int))) (mw:List (aN×(Nat×Nat))) (L:List Lk):Prop where
 held:∀k i,(lkp (k,i) mh).getD (0,0)=((L.count (k,false,i):Int),(L.count (k,true,i):Int))
 nonz:∀s c,lkp s mh=some c→c≠(0,0)
 who0:∀k j,((lkp k mw).getD (0,0)).1.testBit j=true↔∃h:j<64,0<L.count (k,false,(⟨j,h⟩:Fin 64))
 who1:∀k j,((lkp k mw).getD (0,0)).2.testBit j=true↔∃h:j<64,0<L.count (k,true,(⟨j,h⟩:Fin 64))
theorem cS.lt0 {mh:List (fU×(Int×Int))} {mw:List (aN×(Nat×Nat))} {L:List Lk} (h:cS mh mw L) (k:aN):
  ((lkp k mw).getD (0,0)).1<2^64∧((lkp k mw).getD (0,0)).2<2^64:=
 ⟨lL fun j hj=>((h.who0 k j).1 hj).1,lL fun j hj=>((h.who1 k j).1 hj).1⟩
theorem cS.lt {mh:List (fU×(Int×Int))} {mw:List (aN×(Nat×Nat))} {L:List Lk} (h:cS mh mw L) (k:aN) (u:Nat×Nat) (hu:lkp k mw=some u):
  u.1<18446744073709551616∧u.2<18446744073709551616:=by
 have:=h.lt0 k;rw[hu]at this;simpa using this
theorem cS.bound {mh:List (fU×(Int×Int))} {mw:List (aN×(Nat×Nat))} {L:List Lk} (h:cS mh mw L) (hL:L.length≤1000000) (s:fU) (c:Int×Int) (hc:lkp s mh=some c):
  0≤c.1∧c.1≤1000000∧0≤c.2∧c.2≤1000000:=by
 obtain⟨k,i⟩:=s;have:=h.held k i;rw[hc]at this;have h1:=aWg (a:=((k,false,i):Lk)) (l:=L);have h2:=aWg (a:=((k,true,i):Lk)) (l:=L);simp only[Option.getD_some]at this;subst this;dsimp only;omega
theorem cS.empty:cS [] [] [] where
 held k i:=rfl
 nonz s c h:=by cases h
 who0 k j:=by simp[lkp]
 who1 k j:=by simp[lkp]
theorem cS.perm {mh:List (fU×(Int×Int))} {mw:List (aN×(Nat×Nat))} {L L':List Lk} (h:cS mh mw L) (hp:∀x,L'.count x=L.count x):cS mh mw L' where
 held k i:=by rw[hp,hp];exact h.held k i
 nonz:=h.nonz
 who0 k j:=by simp only[hp];exact h.who0 k j
 who1 k j:=by simp only[hp];exact h.who1 k j
theorem cS.turn {mh:List (fU×(Int×Int))} {mw:List (aN×(Nat×Nat))} {L L':List Lk} (h:cS mh mw L) (hn:(mh.map Prod.fst).Nodup) (hw:(mw.map Prod.fst).Nodup) (k:aN) (i:Fin 64) (b:Bool) (d:Int)
  (hc:∀x:Lk,(L'.count x:Int)=(L.count x:Int)+if x=(k,b,i)then d else 0):cS (jM mh k i b d) (lB mh mw k i b d) L':=by
 have hC:iO mh k i b d=((L'.count (k,false,i):Int),(L'.count (k,true,i):Int)):=by
  unfold iO;rw[h.held,hc,hc];cases b<;>simp[stepC]
 have fj:∀(k':aN) (i':Fin 64) (b':Bool),¬(k'=k∧i'=i)→L'.count (k',b',i')=L.count (k',b',i'):=fun k' i' b' aw=>by
  have:=hc (k',b',i');rw[if_neg (by rintro⟨rfl,rfl,rfl⟩;exact aw ⟨rfl,rfl⟩)]at this;omega
 have Tl:∀b',b'≠b→L'.count (k,b',i)=L.count (k,b',i):=fun b' aw=>by
  have:=hc (k,b',i);rw[if_neg (by rintro⟨_,rfl,_⟩;exact aw rfl)]at this;omega
 have bj:decide (iO mh k i b d=(0,0))=true→iO mh k i b d=(0,0):=fun h=>by simpa using h
 have bp:decide (lA mh mw k i b d=(0,0))=true→lA mh mw k i b d=(0,0):=fun h=>by simpa using h
 have xw:N9 (iO mh k i b d) b=(L'.count (k,b,i):Int):=by
  rw[hC];cases b<;>rfl
 obtain⟨l0,l1⟩:=h.lt0 k;refine⟨fun k' i'=> ?_,fun s c hs=> ?_,fun k' j=> ?_,fun k' j=> ?_⟩
 ·unfold jM;rw[nR hn _ _ _ (0,0) _ bj];by_cases he:((k',i'):fU)=(k,i)
  ·cases he;rw[if_pos rfl,hC]
  ·rw[if_neg he,h.held,fj k' i' false (fun e=>he (by rw[e.1,e.2])),fj k' i' true (fun e=>he (by rw[e.1,e.2]))]
 ·unfold jM oG at hs;cases hzz:decide (iO mh k i b d=(0,0))with
  |true=>
   rw[hzz]at hs;simp only[if_true]at hs;rw[B1 (fT hn _ _),gQ]at hs;by_cases he:s=(k,i)
   ·simp[he]at hs
   ·simp[he]at hs;exact h.nonz s c hs
  |false=>
   rw[hzz]at hs;simp only[aZr,if_false]at hs;rw[gQ]at hs;by_cases he:s=(k,i)
   ·simp[he]at hs;rw[←hs];simpa using hzz
   ·simp[he]at hs;exact h.nonz s c hs
 ·unfold lB;rw[nR hw _ _ _ (0,0) _ bp];by_cases he:k'=k
  ·subst he;rw[if_pos rfl];cases b with
   |false=>
    show(oQ _ i _).testBit j=true↔_;rw[kV _ l0,xw];by_cases hj:j=i.val
    ·subst hj;simp
    ·rw[if_neg hj,h.who0];constructor
     ·rintro⟨hlt,hp⟩;exact⟨hlt,by rw[fj k' ⟨j,hlt⟩ false (fun e=>hj (by rw[←e.2]))];exact hp⟩
     ·rintro⟨hlt,hp⟩;exact⟨hlt,by rw[←fj k' ⟨j,hlt⟩ false (fun e=>hj (by rw[←e.2]))];exact hp⟩
   |true=>
    show((lkp k' mw).getD (0,0)).1.testBit j=true↔_;rw[h.who0]
    have:∀hlt:j<64,L'.count (k',false,(⟨j,hlt⟩:Fin 64))=L.count (k',false,(⟨j,hlt⟩:Fin 64)):=fun hlt=>by
     by_cases hj:(⟨j,hlt⟩:Fin 64)=i
     ·rw[hj];exact Tl false (by simp)
     ·exact fj _ _ _ (fun e=>hj e.2)
    simp only[this]
  ·rw[if_neg he,h.who0]
   have:∀hlt:j<64,L'.count (k',false,(⟨j,hlt⟩:Fin 64))=L.count (k',false,(⟨j,hlt⟩:Fin 64)):=fun hlt=>fj _ _ _ (fun e=>he e.1);simp only[this]
 ·unfold lB;rw[nR hw _ _ _ (0,0) _ bp];by_cases he:k'=k
  ·subst he;rw[if_pos rfl];cases b with
   |true=>
    show(oQ _ i _).testBit j=true↔_;rw[kV _ l1,xw];by_cases hj:j=i.val
    ·subst hj;simp
    ·rw[if_neg hj,h.who1];constructor
     ·rintro⟨hlt,hp⟩;exact⟨hlt,by rw[fj k' ⟨j,hlt⟩ true (fun e=>hj (by rw[←e.2]))];exact hp⟩
     ·rintro⟨hlt,hp⟩;exact⟨hlt,by rw[←fj k' ⟨j,hlt⟩ true (fun e=>hj (by rw[←e.2]))];exact hp⟩
   |false=>
    show((lkp k' mw).getD (0,0)).2.testBit j=true↔_;rw[h.who1]
    have:∀hlt:j<64,L'.count (k',true,(⟨j,hlt⟩:Fin 64))=L.count (k',true,(⟨j,hlt⟩:Fin 64)):=fun hlt=>by
     by_cases hj:(⟨j,hlt⟩:Fin 64)=i
     ·rw[hj];exact Tl true (by simp)
     ·exact fj _ _ _ (fun e=>hj e.2)
    simp only[this]
  ·rw[if_neg he,h.who1]
   have:∀hlt:j<64,L'.count (k',true,(⟨j,hlt⟩:Fin 64))=L.count (k',true,(⟨j,hlt⟩:Fin 64)):=fun hlt=>fj _ _ _ (fun e=>he e.1);simp only[this]
def i6 (L:List Lk) (r:aT) (j:Nat):Prop:=∀x∈L,x.1=r.k→x.2.2.val≠j→¬(x.2.1=true∨r.w=true)
theorem yU {n x i:Nat}:i∈dV n x↔i<n∧x.testBit i=true:=by simp[dV]
theorem uB (n x:Nat):(dV n x).Nodup:=List.nodup_range.sublist List.filter_sublist
theorem qA (a s:Nat) (ha:a<2^64) (hs:s<2^64) (j:Nat):(aloneN a s).testBit j=true↔a.testBit j=true∧∀i,s.testBit i=true→i=j:=by
 have dl:∀i,s.testBit i=true↔i∈dV 64 s:=fun i=>by
  rw[yU];constructor
  ·intro h;refine⟨?_,h⟩;rcases aYt i 64 with h'|h'
   ·exact h'
   ·rw[aXg (aZd hs (aXa (by omega) h'))]at h;cases h
  ·exact fun h=>h.2
 have ct:=uB 64 s;unfold aloneN
 match hb:dV 64 s with
 |[]=>
  simp only[aYw,if_true];refine⟨fun h=>⟨h,fun i hi=> ?_⟩,fun h=>h.1⟩;rw[dl,hb]at hi;cases hi
 |[c]=>
  simp only[aZx,Nat.one_ne_zero,if_false,if_true,aX6,aZy];have hc:∀i,s.testBit i=true↔i=c:=fun i=>by rw[dl,hb];simp
  constructor
  ·rintro⟨h1,h2⟩;exact⟨h1,fun i hi=>by rw[(hc i).1 hi,(hc j).1 h2]⟩
  ·rintro⟨h1,h2⟩;refine⟨h1,?_⟩;have:=h2 c ((hc c).2 rfl);rw[←this];exact(hc c).2 rfl
 |c::c'::r=>
  rw[if_neg (by simp),if_neg (by simp)];simp only[Nat.zero_testBit,aZr,false_iff,not_and];intro _ h2;rw[hb]at ct;have e1:=h2 c ((dl c).2 (by rw[hb];simp));have e2:=h2 c' ((dl c').2 (by rw[hb];simp));rw[←e2]at e1;rw[e1]at ct;simp at ct
theorem cS.someOf_bit {mh:List (fU×(Int×Int))} {mw:List (aN×(Nat×Nat))} {L:List Lk} (h:cS mh mw L) (r:aT) (i:Nat):
  (gE mw r).testBit i=true↔∃x∈L,x.1=r.k∧x.2.2.val=i∧(x.2.1=true∨r.w=true):=by
 have key:(gE mw r).testBit i=true↔((lkp r.k mw).getD (0,0)).2.testBit i=true∨(r.w=true∧((lkp r.k mw).getD (0,0)).1.testBit i=true):=by
  unfold gE;cases r.w<;>simp
 rw[key,h.who0,h.who1];constructor
 ·rintro(⟨hi,hp⟩|⟨hw,hi,hp⟩)
  ·exact⟨_,List.count_pos_iff.1 hp,rfl,rfl,.inl rfl⟩
  ·exact⟨_,List.count_pos_iff.1 hp,rfl,rfl,.inr hw⟩
 ·rintro⟨⟨k,b,i'⟩,hx,rfl,rfl,hb⟩;cases b with
  |true=>exact .inl ⟨i'.isLt,List.count_pos_iff.2 hx⟩
  |false=>
   rcases hb with hb|hb
   ·cases hb
   ·exact .inr ⟨hb,i'.isLt,List.count_pos_iff.2 hx⟩
theorem EX {mh:List (fU×(Int×Int))} {mw:List (aN×(Nat×Nat))} {L:List Lk} (h:cS mh mw L) (r:aT):gE mw r<2^64:=
 lL fun j hj=>by
  obtain⟨x,_,_,rfl,_⟩:=(h.someOf_bit r j).1 hj;exact x.2.2.isLt
theorem sB (n:Nat) (hn:n≤64) (j:Nat):(maskN n).testBit j=decide (j<n):=by
 have:maskN n=2^n-1:=by
  unfold maskN;rw[show 18446744073709551615=2^64-1 by rfl];have h1:(2:Nat)^64=2^n*2^(64-n):=by rw[←Nat.pow_add];congr 1;omega
  have h2:0<2^(64-n):=aX5 _;have h3:0<2^n:=aX5 _;rw[h1];have h4:2^n*2^(64-n)-1=(2^(64-n)-1)+2^(64-n)*(2^n-1):=by
   rw[Nat.mul_sub,aYp,aWo]
   have:2^(64-n)≤2^(64-n)*2^n:=Nat.le_mul_of_pos_right _ h3;omega
  rw[h4,Nat.add_mul_div_left _ _ h2,Nat.div_eq_of_lt (by omega)];omega
 rw[this,aWa]
theorem jJ {mh:List (fU×(Int×Int))} {mw:List (aN×(Nat×Nat))} {L:List Lk} (h:cS mh mw L) (j:Nat):∀(l:List aT) (a:Nat),a<2^64→
  ((l.foldl (fun all r=>aloneN all (gE mw r)) a).testBit j=true↔a.testBit j=true∧∀r∈l,i6 L r j)
 |[],a,_=>by simp
 |r::l,a,ha=>by
  have ha':aloneN a (gE mw r)<2^64:=aX3 (sN _ _) ha;rw[aWv,jJ h j l _ ha',qA _ _ ha (EX h r)];have key:(∀i,(gE mw r).testBit i=true→i=j)↔i6 L r j:=by
   constructor
   ·intro hh x hx hk aw hb;exact aw (hh _ ((h.someOf_bit r _).2 ⟨x,hx,hk,rfl,hb⟩))
   ·intro hh i hi;obtain⟨x,hx,hk,rfl,hb⟩:=(h.someOf_bit r i).1 hi;by_cases ig:x.2.2.val=j
    ·exact ig
    ·exact absurd hb (hh x hx hk ig)
  rw[key];simp[and_assoc]
theorem vU {mh:List (fU×(Int×Int))} {mw:List (aN×(Nat×Nat))} {L:List Lk} (h:cS mh mw L) (n:Nat) (hn:n≤64) (l:List aT) (j:Nat):
  (thrN mw n l).testBit j=true↔j<n∧∀r∈l,i6 L r j:=by
 unfold thrN;rw[jJ h j l _ (by have:=xN n;simpa using this),sB n hn];simp
section
def fD (w:We) (t hb wb n:Nat) (L:List Lk):Prop:=
 hb≠wb∧w.heap[t]? =some (.cells #[.int .i64 n,.map (some hb),.map (some wb)] 200 (0,0))∧
  ∃eh ch ew cw mh mw,w.heap[hb]? =some (.map eh ch)∧aR pv cv eh ch mh∧w.heap[wb]? =some (.map ew cw)∧aR kv uv ew cw mw∧cS mh mw L
theorem fD.mod0 {w w':We} {t hb wb n:Nat} {L:List Lk} (h:fD w t hb wb n L) (hm:Mod (fun _=>False) w w'):fD w' t hb wb n L:=by
 obtain⟨h1,kt,eh,ch,ew,cw,mh,mw,kh,Mh,kw,Mw,I⟩:=h;exact⟨h1,hm.at0 kt,eh,ch,ew,cw,mh,mw,hm.at0 kh,Mh,hm.at0 kw,Mw,I⟩
theorem fD.perm {w:We} {t hb wb n:Nat} {L L':List Lk} (h:fD w t hb wb n L) (hp:∀x,L'.count x=L.count x):fD w t hb wb n L':=by
 obtain⟨h1,kt,eh,ch,ew,cw,mh,mw,kh,Mh,kw,Mw,I⟩:=h;exact⟨h1,kt,eh,ch,ew,cw,mh,mw,kh,Mh,kw,Mw,I.perm hp⟩
theorem aV.modT {w w':We} {t hb wb n:Nat} {L:List Lk} {a:Wb} {l:List aT} (h:aV w a l) (ht:fD w t hb wb n L) (hm:Mod (fun i=>i=hb∨i=wb) w w'):aV w' a l:=by
 rcases h with h|⟨b,o,C,U,fr,ha,el,hc⟩
 ·exact .inl h
 ·obtain⟨_,_,eh,ch,ew,cw,mh,mw,kh,_,kw,_,_⟩:=ht;exact .inr ⟨b,o,C,U,fr,ha,hm.at el (by
   rintro(rfl|rfl)
   ·rw[kh]at el;cases el
   ·rw[kw]at el;cases el),hc⟩
theorem turn_cL (t hb wb n:Nat) (L L':List Lk) (k:aN) (s b:Bool) (i:Fin 64) (d:Int) (w:We) (h:fD w t hb wb n L) (hL:L.length≤1000000) (hd:d=1∨d= -1)
  (hc:∀x:Lk,(L'.count x:Int)=(L.count x:Int)+if x=(k,b,i)then d else 0):
  Calls Tryz.prog 151 #[.pointer (some ⟨t,0,none⟩),.agg (rc k s b),.int .i64 (i.val:Int),.int .i64 d] w fun e w'=>e= .returned (.tuple #[])∧fD w' t hb wb n L'∧Mod (fun i=>i=hb∨i=wb) w w':=by
 obtain⟨h1,kt,eh,ch,ew,cw,mh,mw,kh,Mh,kw,Mw,I⟩:=h;have hth:=aB kt kh (by simp);have gq:=aB kt kw (by simp);have hI:=I.turn Mh.nodup Mw.nodup k i b d hc;have post:∀(e:Ending) (w':We),(e= .returned (.tuple #[])∧pW w hb wb (jM mh k i b d) (lB mh mw k i b d) w')→e= .returned (.tuple #[])∧fD w' t hb wb n L'∧Mod (fun i=>i=hb∨i=wb) w w':=by
  rintro e w' ⟨rfl,eh',ch',ew',cw',kh',Mh',kw',Mw',m⟩;exact⟨rfl,⟨h1,m.at kt (by rintro(rfl|rfl)<;>simp_all),eh',ch',ew',cw',_,_,kh',Mh',kw',Mw',hI⟩,m⟩
 cases b
 ·exact(SQ t hb wb n k s i d w eh ew ch cw mh mw kt kh Mh kw Mw h1 (I.bound hL) (by omega) (by omega)).mono post
 ·exact(SR t hb wb n k s i d w eh ew ch cw mh mw kt kh Mh kw Mw h1 (I.bound hL) (by omega) (by omega)).mono post
theorem tJ (t hb wb n:Nat) (L:List Lk) (a:Wb) (l:List aT) (c:Nat) (w:We) (h:fD w t hb wb n L) (hn:1≤n) (dy:n≤64) (hl:aV w a l) (ag:l.length≤1000000):
  ∃x:Nat,x<18446744073709551616∧(∀j,x.testBit j=true↔j<n∧∀r∈l,i6 L r j)∧
   Calls Tryz.prog 112 #[.pointer (some ⟨t,0,none⟩),.slice a l.length c] w fun e w'=>e= .returned (.int .u64 (x:Int))∧Mod (fun _=>False) w w':=by
 obtain⟨h1,kt,eh,ch,ew,cw,mh,mw,kh,Mh,kw,Mw,I⟩:=h;exact⟨thrN mw n l,CT mw n l,vU I n dy l,E8 t hb wb n a l c w ew cw mw kt hn dy kw Mw I.lt hl ag⟩
attribute [local go_sem↓] lK f8 lJ lS gF lR fX lF
attribute [local go_sem] nN cO
def addL (L:List Lk) (l:List aT) (i:Fin 64):List Lk:=l.foldl (fun L r=>(r.k,r.w,i)::L) L
theorem DG (L:List Lk) (l:List aT) (r:aT) (i:Fin 64):addL L (l++[r]) i=(r.k,r.w,i)::addL L l i:=by simp[addL,aXl]
theorem pY (i:Fin 64):∀(l:List aT) (L:List Lk),(addL L l i).length=L.length+l.length
 |[],L=>rfl
 |r::l,L=>by
  unfold addL;rw[aWv];have:=pY i l ((r.k,r.w,i)::L);unfold addL at this;rw[this];simp;omega
theorem SN (t hb wb n:Nat) (L:List Lk) (a:Wb) (l:List aT) (c:Nat) (i:Fin 64) (w:We) (h:fD w t hb wb n L) (hn:1≤n) (dy:n≤64) (hl:aV w a l) (ag:L.length+l.length≤1000000) (hi:i.val<n)
  (gh:∀r∈l,i6 L r i.val):
  Calls Tryz.prog 115 #[.pointer (some ⟨t,0,none⟩),.slice a l.length c,.int .i64 (i.val:Int)] w fun e w'=>e= .returned (.int .i64 0)∧fD w' t hb wb n (addL L l i)∧Mod (fun i=>i=hb∨i=wb) w w':=by
 obtain⟨x,hx,Dx,ao⟩:=tJ t hb wb n L a l c w h hn dy hl (by omega);have dz:x.testBit i.val=true:=(Dx i.val).2 ⟨hi,gh⟩;have hq:=qB x i.val hx;rw[dz,if_pos rfl]at hq;obtain⟨_,kt,_⟩:=id h;have Qk:=Q7 t hb wb n i.val w kt (by omega) (by omega);have HT:=Hi ao;have HM:=Hi Qk;clear ao Qk Dx dz kt gh;have H:=Hi h;clear h;go_enter Tryz.func115,Tryz.ntmps115;go_wp2_with (first|(go_at_call 150;refine HM.out.mono ?_;rintro e w' ⟨rfl,rfl⟩)|(go_at_call 112;refine HT.out.mono ?_;rintro e w1 ⟨rfl,pg⟩));clear hq;have jj:=hl.mod0 pg;have de:Mod (fun i=>i=hb∨i=wb) w w1:=pg.mono (fun _ _ h=>h.elim);go_loopw [25] (fun s25 wr=>∃k:Nat,k≤l.length∧s25= .int .i64 k∧fD wr t hb wb n (addL L (l.take k) i)∧Mod (fun i=>i=hb∨i=wb) w wr) (fun s25 _=>l.length-(intOf s25).toNat)
 case atStart=>exact⟨0,by omega,rfl,H.out.mod0 pg,de⟩
 case round=>
  obtain⟨j,hj,rfl,hT,hm⟩:=hrel;have ec:=hl.modT H.out hm;by_cases hlt:j<l.length
  ·obtain⟨r,hr⟩:∃r,l[j]? =some r:=⟨_,aZb hlt⟩;obtain⟨b,o,C,U,fr,rfl,kl,hc⟩:∃b o C U fr,a=some ⟨b,o,none⟩∧wr.heap[b]? =some (.cells C U fr)∧
     ∀i r,l[i]? =some r→C.extract (o+i*34) (o+i*34+34)=rc r.k r.s r.w∧o+i*34+34≤C.size:=by
    rcases ec with rfl|h
    ·simp at hr
    ·exact h
   obtain⟨hx,dh⟩:=hc j r hr;have br:l.take (j+1)=l.take j++[r]:=by
    rw[aYa,hr];rfl
   have ib:addL L (l.take (j+1)) i=(r.k,r.w,i)::addL L (l.take j) i:=by rw[br,DG]
   have Qh:(addL L (l.take j) i).length≤1000000:=by rw[pY,aZ4];omega
   have iq:∀x:Lk,((addL L (l.take (j+1)) i).count x:Int)=((addL L (l.take j) i).count x:Int)+if x=(r.k,r.w,i)then 1 else 0:=fun x=>by
    rw[ib,List.count_cons];by_cases hx:x=(r.k,r.w,i)
    ·subst hx;simp
    ·simp[hx,Ne.symm hx]
   obtain⟨k,s,b⟩:=r;dsimp only at hx iq;have HC:=Hi iq;have HT2:=Hi hT;clear hc hr br ib iq ec hT jj hl pg de;have mm:=hm;go_upto_region 8 with fail;have Lkl:=aA kl;refine ZP0 [0,1,3,4] ?_;refine Zv ?_;refine Zd ?_;refine Za nH fun p9 qv=> ?_;refine Zt ?_;refine TD.nil (fun w2 hr=> ?_);replace kl:=hr.q kl;obtain⟨gp9,kp9⟩:=hr.b p9;have mm:=mm.then0 hr.mod;have yn:=HT2.out.mod0 hr.mod;have Dc:=Hi yn;clear yn;go_wp2_with (go_at_call 151;refine(turn_cL t hb wb n _ (addL L (l.take (j+1)) i) k s b i 1 _ Dc.out Qh (.inl rfl) HC.out).mono ?_;rintro e w' ⟨rfl,uq,Ax⟩);go_roundw
   case rel=>exact⟨j+1,by omega,by go_num,uq,mm.trans Ax⟩
   case measure=>simp[intOf];omega
  ·obtain rfl:j=l.length:=by omega
   rw[aY5]at hT
   go_wp2
   go_ret;exact⟨rfl,hT,hm⟩
end
section
attribute [local go_sem] kc_size bH
attribute [local go_sem] lM
def yD (n:Nat):Wg:= .int .i64 (n:Int)
theorem gI (w:We):(zeroValue 3).run Tryz.prog w= .ok (yD 0) w:=by kernel_rfl
def WH (m:List (aN×Nat)) (r:aT):List (aN×Nat):=put r.k (((if r.w then(lkp r.k m).getD 0|||2 else(lkp r.k m).getD 0))|||1) m
def usL (l:List aT):List (aN×Nat):=l.foldl WH []
theorem nA (l:List aT) (r:aT):usL (l++[r])=WH (usL l) r:=by simp[usL,aXl]
theorem mZ (k:aN) (l:List aT):lkp k (usL l)=(lkp k (howL l)).map fun b=>if b then 3 else 1:=by
 induction l using bB with
 |h0=>rfl
 |h1 l r ih=>
  rw[nA,iH];unfold WH D8;rw[gQ,gQ];split
  ·rename_i e;subst e;rw[ih];cases lkp r.k (howL l)with
   |none=>cases r.w<;>rfl
   |some b=>cases r.w<;>cases b<;>rfl
  ·exact ih
theorem CU (k:aN) (l:List aT):(lkp k (usL l)).getD 0=0∨(lkp k (usL l)).getD 0=1∨(lkp k (usL l)).getD 0=3:=by
 rw[mZ];cases lkp k (howL l)with
 |none=>exact .inl rfl
 |some b=>cases b<;>simp
theorem tL (l:List aT):((usL l).map Prod.fst).Nodup:=by
 induction l using bB with
 |h0=>simp[usL]
 |h1 l r ih=>rw[nA];exact fT ih _ _
theorem VT {n:Nat} (h:n=0∨n=1∨n=3):bits .or .i64 (n:Int) 2=((n|||2:Nat):Int):=by
 rcases h with rfl|rfl|rfl<;>decide
theorem OX {n:Nat} (h:n≤3):bits .or .i64 (n:Int) 1=((n|||1:Nat):Int):=by
 obtain rfl|rfl|rfl|rfl:n=0∨n=1∨n=2∨n=3:=by omega
 all_goals decide
theorem uses_c (a:Wb) (l:List aT) (c:Nat) (w:We) (hl:aV w a l) (hn:l.length≤1000000):
  Calls Tryz.prog 60 #[.slice a l.length c] w fun e w'=>∃m es ck,e= .returned (.map (some m))∧w.heap.size≤m∧w'.heap[m]? =some (.map es ck)∧aR kv yD es ck (usL l)∧Mod (fun _=>False) w w':=by
 have HL:=Hi hl;clear hl;have Gk:= @run_makeMap Tryz.prog;go_enter Tryz.func60,Tryz.ntmps60;go_upto_region 2 with fail;have km:(w.alloc (.map #[] 0)).heap[w.heap.size]? =some (.map #[] 0):=heap_alloc_new _ _;have m2:Mod (fun _=>False) w (w.alloc (.map #[] 0)):=(Mod.refl _ _).alloc _;generalize w.alloc (.map #[] 0)=w2 at *;have hq:w.heap.size≤w.heap.size:=aZq _;generalize hqq:w.heap.size=q at km;have Lf:=Hi hqq;have dd:=Hi m2;clear m2 Gk hqq hq;go_wp2_with fail;go_loopw [9] (fun s9 ws=>∃i:Nat,i≤l.length∧s9= .int .i64 (i:Int)∧(∃es c,ws.heap[q]? =some (.map es c)∧Hid (aR kv yD es c (usL (l.take i))))∧Mod (fun j=>j=q) w2 ws) (fun s9 _=>l.length-(intOf s9).toNat)
 case atStart=>exact⟨0,by omega,rfl,⟨_,_,km,Hi (aR.empty kv yD)⟩,Mod.refl _ _⟩
 case round=>
  clear km;obtain⟨i,hi,rfl,⟨es1,cl1,km,HM⟩,hm⟩:=hrel;have pj:Hid (Mod (fun _=>False) w wr):=Hi (((dd.out.mono (fun _ _ h=>h.elim)).trans hm).mono (fun j h1 h2=>by have:=Lf.out;omega));by_cases hlt:i<l.length
  ·obtain⟨r,ri⟩:∃r,l[i]? =some r:=⟨_,aZb hlt⟩;obtain⟨b,o,CC,U,fr,rfl,kl0,hx,dh⟩:=HL.out.block ri;have kl:=pj.out.at0 kl0;have Lq:=aA km;clear kl0;obtain⟨k,s,b1⟩:=r;have Ur:Hid (l.take (i+1)=l.take i++[⟨k,s,b1⟩]):=Hi (by rw[aYa,ri];rfl);unfold rcr at hx;dsimp only at hx;clear ri;go_upto_region 4 with fail;have Lkm:=aA km;have Lkl:=aA kl;refine ZP0 [0,1,3,4] ?_;refine Zv ?_;refine Zd ?_;refine Za nH fun p9 qv=> ?_;refine Zt ?_;refine TD.nil (fun w5 hr=> ?_);replace km:=hr.q km;replace kl:=hr.q kl;obtain⟨gp9,kp9⟩:=hr.b p9;have m5:=hm.then0 hr.mod;have qv:p9≠q:=by omega
   clear hr kl hx dh hm;obtain⟨n,sw⟩:∃n,(lkp k (usL (l.take i))).getD 0=n:=⟨_,rfl⟩;have jk:n=0∨n=1∨n=3:=by rw[←sw];exact CU _ _
   have ho2:=VT jk;have HOV:=Hi jk;have vw:=fun(wq:We) (hq:wq.heap[q]? =some (.map es1 cl1))=>HM.out.entry keyT Tryz.underlying161 (z:=0) gI wq hq k;simp only[sw]at vw;have Fi:=Hi vw;have cd:∀wq es cl,wq.heap[q]? =some (.map es cl)→aR kv yD es cl (usL (l.take i))∨aR kv yD es cl (put k n (usL (l.take i)))→(Instr.lookup 161 (.map (some q)) (.agg (kc k)) false).run Tryz.prog wq= .ok (.int .i64 (n:Int)) wq:=fun wq es cl hq hM=>by
    rcases hM with hM|hM
    ·have:=hM.lookupD keyT Tryz.underlying161 (z:=0) gI wq hq k;rw[sw]at this;exact this
    ·have:=hM.lookupD keyT Tryz.underlying161 (z:=0) gI wq hq k;rw[cH,zE]at this;exact this
   have ml:=Hi cd;clear cd vw jk;cases b1 with
   |false=>
    have HU:Hid (usL (l.take (i+1))=put k (n|||1) (usL (l.take i))):=Hi (by rw[Ur.out,nA];unfold WH;dsimp only;rw[sw];rfl);have qq:=OX (n:=n) (by have:=HOV.out;omega);clear sw ho2;go_upto_region 7 with fail;have Lkp9:=aA kp9;have Lkm:=aA km;refine kI (T0:=fun _=>False) (K:=fun _ _=>True) (κ:=fun i=>[0,0,0,6,0,6,0,6].getD i 0) (υ:=fun _=>[]) [0,1,2] [3,4,5,6,7] (by kernel_rfl) (by kernel_rfl) (aH.true).cl (trivial) (fun _ h=>h.elim) ?_;have gK:=aH.true
    iterate 2 refine Zg ?_
    refine Zh ?_;refine TG.nil (fun w6 ⟨TR,hr⟩=> ?_);replace kp9:=hr.q kp9;replace km:=hr.q km;clear gK;have uj:=Hi (m5.then0 hr.mod);obtain⟨st,es2,cl2,qw,M2,hF⟩:=Fi.out w6 km;have uy:=ml.out w6 _ _ km (.inl HM.out);have km7:=aF w6 (.map es2 cl2) (aA km);have mS7:=bM w6 q (.map es2 cl2);generalize setBlock w6 q (.map es2 cl2)=w7 at *;have uz:=ml.out w7 _ _ km7 (.inr M2);obtain⟨es3,cl3,jf,M3⟩:=hF w7 (n|||1) km7;have km8:=aF w7 (.map es3 cl3) (aA km7);have mS8:=bM w7 q (.map es3 cl3);generalize setBlock w7 q (.map es3 cl3)=w8 at *;have ay:Hid ((∃es cl,w8.heap[q]? =some (.map es cl)∧Hid (aR kv yD es cl (usL (l.take (i+1)))))∧Mod (fun j=>j=q) w2 w8):=Hi ⟨⟨_,_,km8,Hi (by rw[HU.out];exact M3)⟩,(uj.out.then mS7 (fun _ _ h=>h)).then mS8 (fun _ _ h=>h)⟩;simp only[yD]at qw jf;(intro iA ai ah;simp only[aZc,aZe,or_false]at ai;rcases ai with rfl|rfl|rfl|rfl|rfl)
    ·clear ah;(refine ZL (by first|exact uy|exact uz) ?_;try simp only[zL]);rw[show([3,4,5,6,7]:Wd).erase 3=[4,5,6,7]from rfl];(intro iA ai ah;simp only[aZc,aZe,or_false]at ai;rcases ai with rfl|rfl|rfl|rfl)
     ·clear ah;refine Zw ?_;rw[show([4,5,6,7]:Wd).erase 4=[5,6,7]from rfl];(intro iA ai ah;simp only[aZc,aZe,or_false]at ai;rcases ai with rfl|rfl|rfl)
      ·clear ah;(refine ZF qw ?_;try simp only[zL]);rw[show([5,6,7]:Wd).erase 5=[6,7]from rfl];(intro iA ai ah;simp only[aZc,aZe,or_false]at ai;rcases ai with rfl|rfl)
       ·clear ah;refine Zw ?_;rw[show([6,7]:Wd).erase 6=[7]from rfl];(intro iA ai ah;simp only[aZc,aZe,or_false]at ai;subst ai)
        ·clear ah;(refine ZW jf ?_;try simp only[zL]);rw[show([7]:Wd).erase 7=[]from rfl];refine bA ?_;go_wp2_with fail;go_roundw;(exact⟨i+1,by omega,by go_num,ay.out.1,ay.out.2⟩);(simp[intOf];omega)
       ·exact aD (by kernel_rfl) ah
      ·exact aD (by kernel_rfl) ah
      ·exact aD (by kernel_rfl) ah
     ·clear ah;(refine ZF qw ?_;try simp only[zL]);rw[show([4,5,6,7]:Wd).erase 5=[4,6,7]from rfl];(intro iA ai ah;simp only[aZc,aZe,or_false]at ai;rcases ai with rfl|rfl|rfl)
      ·clear ah;refine Zw ?_;rw[show([4,6,7]:Wd).erase 4=[6,7]from rfl];(intro iA ai ah;simp only[aZc,aZe,or_false]at ai;rcases ai with rfl|rfl)
       ·clear ah;refine Zw ?_;rw[show([6,7]:Wd).erase 6=[7]from rfl];(intro iA ai ah;simp only[aZc,aZe,or_false]at ai;subst ai)
        ·clear ah;(refine ZW jf ?_;try simp only[zL]);rw[show([7]:Wd).erase 7=[]from rfl];refine bA ?_;go_wp2_with fail;go_roundw;(exact⟨i+1,by omega,by go_num,ay.out.1,ay.out.2⟩);(simp[intOf];omega)
       ·exact aD (by kernel_rfl) ah
      ·clear ah;refine Zw ?_;rw[show([4,6,7]:Wd).erase 6=[4,7]from rfl];(intro iA ai ah;simp only[aZc,aZe,or_false]at ai;rcases ai with rfl|rfl)
       ·clear ah;refine Zw ?_;rw[show([4,7]:Wd).erase 4=[7]from rfl];(intro iA ai ah;simp only[aZc,aZe,or_false]at ai;subst ai)
        ·clear ah;(refine ZW jf ?_;try simp only[zL]);rw[show([7]:Wd).erase 7=[]from rfl];refine bA ?_;go_wp2_with fail;go_roundw;(exact⟨i+1,by omega,by go_num,ay.out.1,ay.out.2⟩);(simp[intOf];omega)
       ·exact aD (by kernel_rfl) ah
      ·exact aD (by kernel_rfl) ah
     ·exact aD (by kernel_rfl) ah
     ·exact aD (by kernel_rfl) ah
    ·exact aD (by kernel_rfl) ah
    ·clear ah;(refine ZF qw ?_;try simp only[zL]);rw[show([3,4,5,6,7]:Wd).erase 5=[3,4,6,7]from rfl];(intro iA ai ah;simp only[aZc,aZe,or_false]at ai;rcases ai with rfl|rfl|rfl|rfl)
     ·clear ah;(refine ZL (by first|exact uy|exact uz) ?_;try simp only[zL]);rw[show([3,4,6,7]:Wd).erase 3=[4,6,7]from rfl];(intro iA ai ah;simp only[aZc,aZe,or_false]at ai;rcases ai with rfl|rfl|rfl)
      ·clear ah;refine Zw ?_;rw[show([4,6,7]:Wd).erase 4=[6,7]from rfl];(intro iA ai ah;simp only[aZc,aZe,or_false]at ai;rcases ai with rfl|rfl)
       ·clear ah;refine Zw ?_;rw[show([6,7]:Wd).erase 6=[7]from rfl];(intro iA ai ah;simp only[aZc,aZe,or_false]at ai;subst ai)
        ·clear ah;(refine ZW jf ?_;try simp only[zL]);rw[show([7]:Wd).erase 7=[]from rfl];refine bA ?_;go_wp2_with fail;go_roundw;(exact⟨i+1,by omega,by go_num,ay.out.1,ay.out.2⟩);(simp[intOf];omega)
       ·exact aD (by kernel_rfl) ah
      ·clear ah;refine Zw ?_;rw[show([4,6,7]:Wd).erase 6=[4,7]from rfl];(intro iA ai ah;simp only[aZc,aZe,or_false]at ai;rcases ai with rfl|rfl)
       ·clear ah;refine Zw ?_;rw[show([4,7]:Wd).erase 4=[7]from rfl];(intro iA ai ah;simp only[aZc,aZe,or_false]at ai;subst ai)
        ·clear ah;(refine ZW jf ?_;try simp only[zL]);rw[show([7]:Wd).erase 7=[]from rfl];refine bA ?_;go_wp2_with fail;go_roundw;(exact⟨i+1,by omega,by go_num,ay.out.1,ay.out.2⟩);(simp[intOf];omega)
       ·exact aD (by kernel_rfl) ah
      ·exact aD (by kernel_rfl) ah
     ·exact aD (by kernel_rfl) ah
     ·clear ah;refine Zw ?_;rw[show([3,4,6,7]:Wd).erase 6=[3,4,7]from rfl];(intro iA ai ah;simp only[aZc,aZe,or_false]at ai;rcases ai with rfl|rfl|rfl)
      ·clear ah;(refine ZL (by first|exact uy|exact uz) ?_;try simp only[zL]);rw[show([3,4,7]:Wd).erase 3=[4,7]from rfl];(intro iA ai ah;simp only[aZc,aZe,or_false]at ai;rcases ai with rfl|rfl)
       ·clear ah;refine Zw ?_;rw[show([4,7]:Wd).erase 4=[7]from rfl];(intro iA ai ah;simp only[aZc,aZe,or_false]at ai;subst ai)
        ·clear ah;(refine ZW jf ?_;try simp only[zL]);rw[show([7]:Wd).erase 7=[]from rfl];refine bA ?_;go_wp2_with fail;go_roundw;(exact⟨i+1,by omega,by go_num,ay.out.1,ay.out.2⟩);(simp[intOf];omega)
       ·exact aD (by kernel_rfl) ah
      ·exact aD (by kernel_rfl) ah
      ·exact aD (by kernel_rfl) ah
     ·exact aD (by kernel_rfl) ah
    ·exact aD (by kernel_rfl) ah
    ·exact aD (by kernel_rfl) ah
   |true=>
    have HU:Hid (usL (l.take (i+1))=put k ((n|||2)|||1) (put k (n|||2) (usL (l.take i)))):=Hi (by rw[Ur.out,nA];unfold WH;dsimp only;rw[sw,tF];rfl);have Qq:n|||2≤3:=by rcases HOV.out with rfl|rfl|rfl<;>decide
    generalize de:n|||2=n2 at *;have qq:=OX (n:=n2) Qq;clear sw Qq de;go_upto_region 6 with fail;go_cut []from 15 to 21 (fun wx=>(∃es c,wx.heap[q]? =some (.map es c)∧Hid (aR kv yD es c (put k n2 (usL (l.take i)))))∧wx.heap[p9]? =some (.cells (rc k s true) 178 (0,0))∧Mod (fun x=>x=q) w2 wx)
    case first=>
     clear qq;have Lkp9:=aA kp9;have Lkm:=aA km;refine kI (T0:=fun _=>False) (K:=fun _ _=>True) (κ:=fun i=>[0,0,0,6,0,6,0,6].getD i 0) (υ:=fun _=>[]) [0,1,2] [3,4,5,6,7] (by kernel_rfl) (by kernel_rfl) (aH.true).cl (trivial) (fun _ h=>h.elim) ?_;have gK:=aH.true
     iterate 2 refine Zg ?_
     refine Zh ?_;refine TG.nil (fun w6 ⟨TR,hr⟩=> ?_);replace kp9:=hr.q kp9;replace km:=hr.q km;clear gK;have uj:=Hi (m5.then0 hr.mod);obtain⟨st,es2,cl2,qw,M2,hF⟩:=Fi.out w6 km;have uy:=ml.out w6 _ _ km (.inl HM.out);have km7:=aF w6 (.map es2 cl2) (aA km);have mS7:=bM w6 q (.map es2 cl2);generalize setBlock w6 q (.map es2 cl2)=w7 at *;have uz:=ml.out w7 _ _ km7 (.inr M2);obtain⟨es3,cl3,jf,M3⟩:=hF w7 n2 km7;have km8:=aF w7 (.map es3 cl3) (aA km7);have mS8:=bM w7 q (.map es3 cl3);generalize setBlock w7 q (.map es3 cl3)=w8 at *;have ay:Hid ((∃es c,w8.heap[q]? =some (.map es c)∧Hid (aR kv yD es c (put k n2 (usL (l.take i)))))∧w8.heap[p9]? =some (.cells (rc k s true) 178 (0,0))∧Mod (fun x=>x=q) w2 w8):=Hi ⟨⟨_,_,km8,Hi M3⟩,mS8.at_ne (mS7.at_ne kp9 qv) qv,(uj.out.then mS7 (fun _ _ h=>h)).then mS8 (fun _ _ h=>h)⟩;simp only[yD]at qw jf;(intro iA ai ah;simp only[aZc,aZe,or_false]at ai;rcases ai with rfl|rfl|rfl|rfl|rfl)
     ·clear ah;(refine ZL (by first|exact uy|exact uz) ?_;try simp only[zL]);rw[show([3,4,5,6,7]:Wd).erase 3=[4,5,6,7]from rfl];(intro iA ai ah;simp only[aZc,aZe,or_false]at ai;rcases ai with rfl|rfl|rfl|rfl)
      ·clear ah;refine Zw ?_;rw[show([4,5,6,7]:Wd).erase 4=[5,6,7]from rfl];(intro iA ai ah;simp only[aZc,aZe,or_false]at ai;rcases ai with rfl|rfl|rfl)
       ·clear ah;(refine ZF qw ?_;try simp only[zL]);rw[show([5,6,7]:Wd).erase 5=[6,7]from rfl];(intro iA ai ah;simp only[aZc,aZe,or_false]at ai;rcases ai with rfl|rfl)
        ·clear ah;refine Zw ?_;rw[show([6,7]:Wd).erase 6=[7]from rfl];(intro iA ai ah;simp only[aZc,aZe,or_false]at ai;subst ai)
         ·clear ah;(refine ZW jf ?_;try simp only[zL]);rw[show([7]:Wd).erase 7=[]from rfl];refine bA ?_;go_wp2_with fail;go_meet;exact ay.out
        ·exact aD (by kernel_rfl) ah
       ·exact aD (by kernel_rfl) ah
       ·exact aD (by kernel_rfl) ah
      ·clear ah;(refine ZF qw ?_;try simp only[zL]);rw[show([4,5,6,7]:Wd).erase 5=[4,6,7]from rfl];(intro iA ai ah;simp only[aZc,aZe,or_false]at ai;rcases ai with rfl|rfl|rfl)
       ·clear ah;refine Zw ?_;rw[show([4,6,7]:Wd).erase 4=[6,7]from rfl];(intro iA ai ah;simp only[aZc,aZe,or_false]at ai;rcases ai with rfl|rfl)
        ·clear ah;refine Zw ?_;rw[show([6,7]:Wd).erase 6=[7]from rfl];(intro iA ai ah;simp only[aZc,aZe,or_false]at ai;subst ai)
         ·clear ah;(refine ZW jf ?_;try simp only[zL]);rw[show([7]:Wd).erase 7=[]from rfl];refine bA ?_;go_wp2_with fail;go_meet;exact ay.out
        ·exact aD (by kernel_rfl) ah
       ·clear ah;refine Zw ?_;rw[show([4,6,7]:Wd).erase 6=[4,7]from rfl];(intro iA ai ah;simp only[aZc,aZe,or_false]at ai;rcases ai with rfl|rfl)
        ·clear ah;refine Zw ?_;rw[show([4,7]:Wd).erase 4=[7]from rfl];(intro iA ai ah;simp only[aZc,aZe,or_false]at ai;subst ai)
         ·clear ah;(refine ZW jf ?_;try simp only[zL]);rw[show([7]:Wd).erase 7=[]from rfl];refine bA ?_;go_wp2_with fail;go_meet;exact ay.out
        ·exact aD (by kernel_rfl) ah
       ·exact aD (by kernel_rfl) ah
      ·exact aD (by kernel_rfl) ah
      ·exact aD (by kernel_rfl) ah
     ·exact aD (by kernel_rfl) ah
     ·clear ah;(refine ZF qw ?_;try simp only[zL]);rw[show([3,4,5,6,7]:Wd).erase 5=[3,4,6,7]from rfl];(intro iA ai ah;simp only[aZc,aZe,or_false]at ai;rcases ai with rfl|rfl|rfl|rfl)
      ·clear ah;(refine ZL (by first|exact uy|exact uz) ?_;try simp only[zL]);rw[show([3,4,6,7]:Wd).erase 3=[4,6,7]from rfl];(intro iA ai ah;simp only[aZc,aZe,or_false]at ai;rcases ai with rfl|rfl|rfl)
       ·clear ah;refine Zw ?_;rw[show([4,6,7]:Wd).erase 4=[6,7]from rfl];(intro iA ai ah;simp only[aZc,aZe,or_false]at ai;rcases ai with rfl|rfl)
        ·clear ah;refine Zw ?_;rw[show([6,7]:Wd).erase 6=[7]from rfl];(intro iA ai ah;simp only[aZc,aZe,or_false]at ai;subst ai)
         ·clear ah;(refine ZW jf ?_;try simp only[zL]);rw[show([7]:Wd).erase 7=[]from rfl];refine bA ?_;go_wp2_with fail;go_meet;exact ay.out
        ·exact aD (by kernel_rfl) ah
       ·clear ah;refine Zw ?_;rw[show([4,6,7]:Wd).erase 6=[4,7]from rfl];(intro iA ai ah;simp only[aZc,aZe,or_false]at ai;rcases ai with rfl|rfl)
        ·clear ah;refine Zw ?_;rw[show([4,7]:Wd).erase 4=[7]from rfl];(intro iA ai ah;simp only[aZc,aZe,or_false]at ai;subst ai)
         ·clear ah;(refine ZW jf ?_;try simp only[zL]);rw[show([7]:Wd).erase 7=[]from rfl];refine bA ?_;go_wp2_with fail;go_meet;exact ay.out
        ·exact aD (by kernel_rfl) ah
       ·exact aD (by kernel_rfl) ah
      ·exact aD (by kernel_rfl) ah
      ·clear ah;refine Zw ?_;rw[show([3,4,6,7]:Wd).erase 6=[3,4,7]from rfl];(intro iA ai ah;simp only[aZc,aZe,or_false]at ai;rcases ai with rfl|rfl|rfl)
       ·clear ah;(refine ZL (by first|exact uy|exact uz) ?_;try simp only[zL]);rw[show([3,4,7]:Wd).erase 3=[4,7]from rfl];(intro iA ai ah;simp only[aZc,aZe,or_false]at ai;rcases ai with rfl|rfl)
        ·clear ah;refine Zw ?_;rw[show([4,7]:Wd).erase 4=[7]from rfl];(intro iA ai ah;simp only[aZc,aZe,or_false]at ai;subst ai)
         ·clear ah;(refine ZW jf ?_;try simp only[zL]);rw[show([7]:Wd).erase 7=[]from rfl];refine bA ?_;go_wp2_with fail;go_meet;exact ay.out
        ·exact aD (by kernel_rfl) ah
       ·exact aD (by kernel_rfl) ah
       ·exact aD (by kernel_rfl) ah
      ·exact aD (by kernel_rfl) ah
     ·exact aD (by kernel_rfl) ah
     ·exact aD (by kernel_rfl) ah
    case rest=>
    clear ho2 ml Fi km kp9 m5 HM;obtain⟨⟨es1,cl1,km,HM⟩,kp9,m5⟩:=hcut;have vw:=fun(wq:We) (hq:wq.heap[q]? =some (.map es1 cl1))=>HM.out.entry keyT Tryz.underlying161 (z:=0) gI wq hq k;simp only[cH,zE]at vw;have Fi:=Hi vw;have cd:∀wq es cl,wq.heap[q]? =some (.map es cl)→aR kv yD es cl (put k n2 (usL (l.take i)))∨aR kv yD es cl (put k n2 (put k n2 (usL (l.take i))))→(Instr.lookup 161 (.map (some q)) (.agg (kc k)) false).run Tryz.prog wq= .ok (.int .i64 (n2:Int)) wq:=fun wq es cl hq hM=>by
     rcases hM with hM|hM
     ·have:=hM.lookupD keyT Tryz.underlying161 (z:=0) gI wq hq k;rw[cH,zE]at this;exact this
     ·have:=hM.lookupD keyT Tryz.underlying161 (z:=0) gI wq hq k;rw[cH,zE]at this;exact this
    have ml:=Hi cd;clear cd vw;go_upto_region 7 with fail;have Lkp9:=aA kp9;have Lkm:=aA km;refine kI (T0:=fun _=>False) (K:=fun _ _=>True) (κ:=fun i=>[0,0,0,6,0,6,0,6].getD i 0) (υ:=fun _=>[]) [0,1,2] [3,4,5,6,7] (by kernel_rfl) (by kernel_rfl) (aH.true).cl (trivial) (fun _ h=>h.elim) ?_;have gK:=aH.true
    iterate 2 refine Zg ?_
    refine Zh ?_;refine TG.nil (fun w6 ⟨TR,hr⟩=> ?_);replace kp9:=hr.q kp9;replace km:=hr.q km;clear gK;have uj:=Hi (m5.then0 hr.mod);obtain⟨st,es2,cl2,qw,M2,hF⟩:=Fi.out w6 km;have uy:=ml.out w6 _ _ km (.inl HM.out);have km7:=aF w6 (.map es2 cl2) (aA km);have mS7:=bM w6 q (.map es2 cl2);generalize setBlock w6 q (.map es2 cl2)=w7 at *;have uz:=ml.out w7 _ _ km7 (.inr M2);obtain⟨es3,cl3,jf,M3⟩:=hF w7 (n2|||1) km7;have km8:=aF w7 (.map es3 cl3) (aA km7);have mS8:=bM w7 q (.map es3 cl3);generalize setBlock w7 q (.map es3 cl3)=w8 at *;have ay:Hid ((∃es cl,w8.heap[q]? =some (.map es cl)∧Hid (aR kv yD es cl (usL (l.take (i+1)))))∧Mod (fun j=>j=q) w2 w8):=Hi ⟨⟨_,_,km8,Hi (by rw[HU.out];exact M3)⟩,(uj.out.then mS7 (fun _ _ h=>h)).then mS8 (fun _ _ h=>h)⟩;simp only[yD]at qw jf;(intro iA ai ah;simp only[aZc,aZe,or_false]at ai;rcases ai with rfl|rfl|rfl|rfl|rfl)
    ·clear ah;(refine ZL (by first|exact uy|exact uz) ?_;try simp only[zL]);rw[show([3,4,5,6,7]:Wd).erase 3=[4,5,6,7]from rfl];(intro iA ai ah;simp only[aZc,aZe,or_false]at ai;rcases ai with rfl|rfl|rfl|rfl)
     ·clear ah;refine Zw ?_;rw[show([4,5,6,7]:Wd).erase 4=[5,6,7]from rfl];(intro iA ai ah;simp only[aZc,aZe,or_false]at ai;rcases ai with rfl|rfl|rfl)
      ·clear ah;(refine ZF qw ?_;try simp only[zL]);rw[show([5,6,7]:Wd).erase 5=[6,7]from rfl];(intro iA ai ah;simp only[aZc,aZe,or_false]at ai;rcases ai with rfl|rfl)
       ·clear ah;refine Zw ?_;rw[show([6,7]:Wd).erase 6=[7]from rfl];(intro iA ai ah;simp only[aZc,aZe,or_false]at ai;subst ai)
        ·clear ah;(refine ZW jf ?_;try simp only[zL]);rw[show([7]:Wd).erase 7=[]from rfl];refine bA ?_;go_wp2_with fail;go_roundw;(exact⟨i+1,by omega,by go_num,ay.out.1,ay.out.2⟩);(simp[intOf];omega)
       ·exact aD (by kernel_rfl) ah
      ·exact aD (by kernel_rfl) ah
      ·exact aD (by kernel_rfl) ah
     ·clear ah;(refine ZF qw ?_;try simp only[zL]);rw[show([4,5,6,7]:Wd).erase 5=[4,6,7]from rfl];(intro iA ai ah;simp only[aZc,aZe,or_false]at ai;rcases ai with rfl|rfl|rfl)
      ·clear ah;refine Zw ?_;rw[show([4,6,7]:Wd).erase 4=[6,7]from rfl];(intro iA ai ah;simp only[aZc,aZe,or_false]at ai;rcases ai with rfl|rfl)
       ·clear ah;refine Zw ?_;rw[show([6,7]:Wd).erase 6=[7]from rfl];(intro iA ai ah;simp only[aZc,aZe,or_false]at ai;subst ai)
        ·clear ah;(refine ZW jf ?_;try simp only[zL]);rw[show([7]:Wd).erase 7=[]from rfl];refine bA ?_;go_wp2_with fail;go_roundw;(exact⟨i+1,by omega,by go_num,ay.out.1,ay.out.2⟩);(simp[intOf];omega)
       ·exact aD (by kernel_rfl) ah
      ·clear ah;refine Zw ?_;rw[show([4,6,7]:Wd).erase 6=[4,7]from rfl];(intro iA ai ah;simp only[aZc,aZe,or_false]at ai;rcases ai with rfl|rfl)
       ·clear ah;refine Zw ?_;rw[show([4,7]:Wd).erase 4=[7]from rfl];(intro iA ai ah;simp only[aZc,aZe,or_false]at ai;subst ai)
        ·clear ah;(refine ZW jf ?_;try simp only[zL]);rw[show([7]:Wd).erase 7=[]from rfl];refine bA ?_;go_wp2_with fail;go_roundw;(exact⟨i+1,by omega,by go_num,ay.out.1,ay.out.2⟩);(simp[intOf];omega)
       ·exact aD (by kernel_rfl) ah
      ·exact aD (by kernel_rfl) ah
     ·exact aD (by kernel_rfl) ah
     ·exact aD (by kernel_rfl) ah
    ·exact aD (by kernel_rfl) ah
    ·clear ah;(refine ZF qw ?_;try simp only[zL]);rw[show([3,4,5,6,7]:Wd).erase 5=[3,4,6,7]from rfl];(intro iA ai ah;simp only[aZc,aZe,or_false]at ai;rcases ai with rfl|rfl|rfl|rfl)
     ·clear ah;(refine ZL (by first|exact uy|exact uz) ?_;try simp only[zL]);rw[show([3,4,6,7]:Wd).erase 3=[4,6,7]from rfl];(intro iA ai ah;simp only[aZc,aZe,or_false]at ai;rcases ai with rfl|rfl|rfl)
      ·clear ah;refine Zw ?_;rw[show([4,6,7]:Wd).erase 4=[6,7]from rfl];(intro iA ai ah;simp only[aZc,aZe,or_false]at ai;rcases ai with rfl|rfl)
       ·clear ah;refine Zw ?_;rw[show([6,7]:Wd).erase 6=[7]from rfl];(intro iA ai ah;simp only[aZc,aZe,or_false]at ai;subst ai)
        ·clear ah;(refine ZW jf ?_;try simp only[zL]);rw[show([7]:Wd).erase 7=[]from rfl];refine bA ?_;go_wp2_with fail;go_roundw;(exact⟨i+1,by omega,by go_num,ay.out.1,ay.out.2⟩);(simp[intOf];omega)
       ·exact aD (by kernel_rfl) ah
      ·clear ah;refine Zw ?_;rw[show([4,6,7]:Wd).erase 6=[4,7]from rfl];(intro iA ai ah;simp only[aZc,aZe,or_false]at ai;rcases ai with rfl|rfl)
       ·clear ah;refine Zw ?_;rw[show([4,7]:Wd).erase 4=[7]from rfl];(intro iA ai ah;simp only[aZc,aZe,or_false]at ai;subst ai)
        ·clear ah;(refine ZW jf ?_;try simp only[zL]);rw[show([7]:Wd).erase 7=[]from rfl];refine bA ?_;go_wp2_with fail;go_roundw;(exact⟨i+1,by omega,by go_num,ay.out.1,ay.out.2⟩);(simp[intOf];omega)
       ·exact aD (by kernel_rfl) ah
      ·exact aD (by kernel_rfl) ah
     ·exact aD (by kernel_rfl) ah
     ·clear ah;refine Zw ?_;rw[show([3,4,6,7]:Wd).erase 6=[3,4,7]from rfl];(intro iA ai ah;simp only[aZc,aZe,or_false]at ai;rcases ai with rfl|rfl|rfl)
      ·clear ah;(refine ZL (by first|exact uy|exact uz) ?_;try simp only[zL]);rw[show([3,4,7]:Wd).erase 3=[4,7]from rfl];(intro iA ai ah;simp only[aZc,aZe,or_false]at ai;rcases ai with rfl|rfl)
       ·clear ah;refine Zw ?_;rw[show([4,7]:Wd).erase 4=[7]from rfl];(intro iA ai ah;simp only[aZc,aZe,or_false]at ai;subst ai)
        ·clear ah;(refine ZW jf ?_;try simp only[zL]);rw[show([7]:Wd).erase 7=[]from rfl];refine bA ?_;go_wp2_with fail;go_roundw;(exact⟨i+1,by omega,by go_num,ay.out.1,ay.out.2⟩);(simp[intOf];omega)
       ·exact aD (by kernel_rfl) ah
      ·exact aD (by kernel_rfl) ah
      ·exact aD (by kernel_rfl) ah
     ·exact aD (by kernel_rfl) ah
    ·exact aD (by kernel_rfl) ah
    ·exact aD (by kernel_rfl) ah
  ·obtain rfl:i=l.length:=by omega
   rw[aY5]at HM;go_wp2_with fail;go_ret;exact⟨_,_,_,rfl,by have:=Lf.out;omega,km,HM.out,pj.out⟩
def zV (l:List aT) (p:aN×Nat):Prop:=0<(lkp p.1 (usL l)).getD 0∧0<((lkp p.1 (usL l)).getD 0|||p.2)&&&2
theorem BI (a b:List aT):dQ a b=true↔∃p∈usL a,zV b p:=by
 rw[qH];unfold zV;constructor
 ·rintro⟨k,x,y,h1,h2,h3⟩;refine⟨(k,if x then 3 else 1),cP (by rw[mZ,h1];rfl),?_⟩;dsimp only;rw[mZ,h2];cases x<;>cases y<;>first|(simp at h3;done)|(constructor<;>decide)
 ·rintro⟨⟨k,n⟩,h1,h2⟩;have h3:=dJ (tL a) h1;dsimp only at h2;rw[mZ]at h3 h2;cases h4:lkp k (howL a)with
  |none=>rw[h4]at h3;cases h3
  |some x=>
   rw[h4]at h3;cases h5:lkp k (howL b)with
   |none=>rw[h5]at h2;exact absurd h2.1 (by decide)
   |some y=>
    rw[h5]at h2;refine⟨k,x,y,h4,h5,?_⟩;simp only[aYj,aYm]at h3;subst h3;cases x<;>cases y<;>first|exact .inl rfl|exact .inr rfl|(exact absurd h2.2 (by decide))
theorem NN (a1 a2:Wb) (l1 l2:List aT) (c1 c2:Nat) (w:We) (h1:aV w a1 l1) (h2:aV w a2 l2) (je:l1.length≤1000000) (dy:l2.length≤1000000):
  Calls Tryz.prog 21 #[.slice a1 l1.length c1,.slice a2 l2.length c2] w fun e w'=>e= .returned (.bool (dQ l1 l2))∧Mod (fun _=>False) w w':=by
 go_enter Tryz.func21,Tryz.ntmps21;go_wp2_with fail;go_at_call 60;refine(uses_c a2 l2 c2 _ h2 dy).mono ?_;rintro e w1 ⟨m2,es2,ck2,rfl,Bk,km2,M2,pg⟩;have h1:=h1.mod0 pg;go_wp2_with fail;go_at_call 60;refine(uses_c a1 l1 c1 _ h1 je).mono ?_;rintro e w2 ⟨m1,es1,ck1,rfl,yy,km1,M1,de⟩;have km2:=de.at0 km2;have hm:=pg.trans de;have hlm:=pg.size;clear h1 h2 pg de;have Mn:=run_range_map (P:=Tryz.prog) w2 161 107 3 m1 es1 ck1 Tryz.underlying161 km1;have MM1:=Hi M1;have MM2:=Hi M2;clear M1 M2;go_wp2_with fail;obtain⟨w3,rb,Wv,kr,m3,e3⟩:∃w3 rb,w2.heap.size=rb∧w3.heap[rb]? =some (.mapIter (some m1) ck1 #[] ck1)∧Mod (fun _=>False) w2 w3∧w3=w2.alloc (.mapIter (some m1) ck1 #[] ck1):=⟨_,_,rfl,heap_alloc_new _ _,(Mod.refl _ _).alloc _,rfl⟩;rw[←e3,Wv];have hrb2:w.heap.size≤rb:=by
  have:=hm.size;omega
 have Em:m2≠rb:=aB (m3.at0 km2) kr (by simp);have dm:=dG.start MM1.out kr;have km1:=m3.at0 km1;have km2:=m3.at0 km2;have mm2:=hm.then0 m3;clear e3 Wv Mn hm m3 kr;go_loopw [] (fun ws=>∃rem,dG ws rb m1 kv yD es1 ck1 rem∧(∀p∈rem,p∈usL l1)∧(∀p∈usL l1,p∈rem∨¬zV l2 p)∧Mod (fun _=>False) w ws∧ws.heap[m1]? =some (.map es1 ck1)∧ws.heap[m2]? =some (.map es2 ck2)) (fun ws=>leftN ws rb m1)
 case atStart=>exact⟨usL l1,dm,fun p h=>h,fun p h=> .inl h,mm2,km1,km2⟩
 case round=>
  clear dm km1 km2 mm2 w3;obtain⟨rem,dm,bd,bm,hm,km1,km2⟩:=hrel;have HL:=Hi (dm.leftN km1);rcases dm.next (P:=Tryz.prog) MM1.out km1 0 with⟨rfl,bi⟩|⟨p,rem',w3,it,af,bi,kr3,m3,kn3,fh⟩
  ·have sf:dQ l1 l2=false:=by
    cases hc:dQ l1 l2 with
    |false=>rfl
    |true=>
     obtain⟨p,hp,hh⟩:=(BI l1 l2).1 hc;exact absurd hh ((bm p hp).resolve_left (by simp))
   have HNO:=Hi sf;clear dm bd bm HL km1 km2 sf;go_wp2_with fail;go_ret;exact⟨by rw[HNO.out];rfl,hm⟩
  ·obtain⟨k,n⟩:=p;have hp:(k,n)∈usL l1:=bd _ (af.mem_iff.2 (by simp));have Qe:=af.length_eq;have HP:=Hi af;have HS:=Hi bd;have HA:=Hi bm;have Db:=Hi hp;have mm:=hm.thenB m3 (.inl hrb2);have km2:=m3.at_ne km2 Em;have HE:Hid (∀wq,Mod (fun _=>False) w3 wq→(Instr.entry (.pointer (some ⟨rb,0,none⟩))).run Tryz.prog wq= .ok (.tuple #[.agg (kc k),.int .i64 (n:Int)]) wq):=Hi fun wq hm=>(fh wq (hm.at0 kr3) (hm.at0 kn3)).1;have HI:=Hi fh;have Ha:(Instr.next (.pointer (some ⟨rb,0,none⟩)) false 0).run Tryz.prog wr= .ok (.tuple #[.bool true,.agg (kc k),.int .i64 (n:Int)]) w3:=bi;have jk:n=1∨n=3:=by
    have h3:=dJ (tL l1) hp;rw[mZ]at h3;cases h4:lkp k (howL l1)with
    |none=>rw[h4]at h3;cases h3
    |some x=>
     rw[h4]at h3;cases x<;>simp at h3<;>omega
   have HN:=Hi jk;clear af bd dm fh hm m3 bi bm hp km1 jk;go_upto_region 4 with fail;have jm:=HE.out;have Lkr3:=aA kr3;have Lkn3:=aA kn3;have Lkm2:=aA km2;refine ZP0 [1,0,0,3,4,0] ?_;refine ZE jm ?_
   iterate 2 refine Zv ?_
   refine Za FX fun p6 rh=> ?_;refine Zt ?_;refine Zv ?_;refine TD.nil (fun w4 hr=> ?_);replace kr3:=hr.q kr3;replace kn3:=hr.q kn3;replace km2:=hr.q km2;obtain⟨gp6,kp6⟩:=hr.b p6;have mm:=mm.then0 hr.mod;clear hr jm HE;obtain⟨y,hy⟩:∃y,(lkp k (usL l2)).getD 0=y:=⟨_,rfl⟩;have hy3:y=0∨y=1∨y=3:=by rw[←hy];exact CU _ _
   have cd:∀wq,Mod (fun _=>False) w4 wq→(Instr.lookup 161 (.map (some m2)) (.agg (kc k)) false).run Tryz.prog wq= .ok (.int .i64 (y:Int)) wq:=fun wq hq=>by
    have:=MM2.out.lookupD keyT Tryz.underlying161 (z:=0) gI wq (hq.at0 km2) k;rw[hy]at this;exact this
   have HY:=Hi hy;have Uy:=Hi hy3;clear hy hy3;go_upto_region 5 with fail;have Lkr3:=aA kr3;have Lkn3:=aA kn3;have Lkm2:=aA km2;have Lkp6:=aA kp6;refine ZP0 [0,1,1,0] ?_;refine Zv ?_;refine Zd ?_;refine ZK cd ?_;refine Zv ?_;refine TD.nil (fun w5 hr=> ?_);replace kr3:=hr.q kr3;replace kn3:=hr.q kn3;replace km2:=hr.q km2;replace kp6:=hr.q kp6;have mm:=mm.then0 hr.mod;clear hr cd;by_cases hh:zV l2 (k,n)
   ·have yf:dQ l1 l2=true:=(BI l1 l2).2 ⟨_,Db.out,hh⟩;have Yf:=Hi yf;clear yf;unfold zV at hh;dsimp only at hh;rw[HY.out]at hh;obtain⟨hy0,hz⟩:=hh;have ho:bits .or .i64 (y:Int) (n:Int)=((y|||n:Nat):Int):=by
     rcases Uy.out with rfl|rfl|rfl<;>rcases HN.out with rfl|rfl<;>decide
    have ha:bits .and .i64 ((y|||n:Nat):Int) 2=(((y|||n)&&&2:Nat):Int):=by
     rcases Uy.out with rfl|rfl|rfl<;>rcases HN.out with rfl|rfl<;>decide
    generalize y|||n=z at *;generalize z&&&2=u at *;have d1:decide ((0:Int)<(y:Int))=true:=Dt (by omega);have d2:decide ((0:Int)<(u:Int))=true:=Dt (by omega);clear HI HL HS HA HP;go_upto_region 6 with fail;refine ZP0 [0,0,0,0,0,0,0,0,0] ?_
    iterate 9 refine Zv ?_
    refine TD.nil (fun w6 hr=> ?_);have mm:=mm.then0 hr.mod;clear hr;go_wp2_with fail;go_ret;exact⟨by rw[Yf.out];rfl,mm⟩
   ·have sf:=hh;unfold zV at sf;dsimp only at sf;rw[HY.out]at sf;have HH:=Hi hh;clear hh;have ru:∀wz,Mod (fun _=>False) w5 wz→(∃rem,dG wz rb m1 kv yD es1 ck1 rem∧(∀p∈rem,p∈usL l1)∧(∀p∈usL l1,p∈rem∨¬zV l2 p)∧Mod (fun _=>False) w wz∧wz.heap[m1]? =some (.map es1 ck1)∧wz.heap[m2]? =some (.map es2 ck2))∧leftN wz rb m1<leftN wr rb m1:=fun wz hz=>by
     have Pu:=(HI.out _ (hz.at0 kr3) (hz.at0 kn3)).2;refine⟨⟨rem',Pu,fun p hp=>HS.out p (HP.out.mem_iff.2 (by simp[hp])),fun p hp=> ?_,mm.then0 hz,hz.at0 kn3,hz.at0 km2⟩,?_⟩
     ·rcases HA.out p hp with h|h
      ·rcases aZc.1 (HP.out.mem_iff.1 h)with rfl|h
       ·exact .inr HH.out
       ·exact .inl h
      ·exact .inr h
     ·rw[Pu.leftN (hz.at0 kn3),HL.out,Qe];simp
    have ay:=Hi ru;clear ru HI HL HS HA HP;by_cases hy0:0<y
    ·have ho:bits .or .i64 (y:Int) (n:Int)=((y|||n:Nat):Int):=by
      rcases Uy.out with rfl|rfl|rfl<;>rcases HN.out with rfl|rfl<;>decide
     have ha:bits .and .i64 ((y|||n:Nat):Int) 2=(((y|||n)&&&2:Nat):Int):=by
      rcases Uy.out with rfl|rfl|rfl<;>rcases HN.out with rfl|rfl<;>decide
     generalize y|||n=z at *;generalize z&&&2=u at *;have d1:decide ((0:Int)<(y:Int))=true:=Dt (by omega);have d2:decide ((0:Int)<(u:Int))=false:=Df (fun h=>sf ⟨hy0,by omega⟩);go_upto_region 6 with fail;refine ZP0 [0,0,0,0,0,0,0,0,0] ?_
     iterate 9 refine Zv ?_
     refine TD.nil (fun w6 hr=> ?_);have HZ:=ay.out _ hr.mod;clear hr;go_wp2_with fail;go_roundw
     case rel=>exact HZ.1
     case measure=>exact HZ.2
    ·obtain rfl:y=0:=by omega
     have d1:decide ((0:Int)<((0:Nat):Int))=false:=by decide
     go_upto_region 6 with fail;refine ZP0 [0,0,0,0,0,0,0,0,0] ?_
     iterate 9 first|refine Zo ?_|refine Zv ?_
     refine TD.nil (fun w6 hr=> ?_);have HZ:=ay.out _ hr.mod;clear hr;go_wp2_with fail;go_roundw
     case rel=>exact HZ.1
     case measure=>exact HZ.2
end
section
attribute [local go_sem↓] lK f8 lJ lS gF lR fX lF
attribute [local go_sem] bH nN cO
theorem RF (n:Nat) (w:We) (hn:1≤n) (dy:n≤64):
  Calls Tryz.prog 44 #[.int .i64 (n:Int)] w fun e w'=>∃t hb wb,e= .returned (.tuple #[.pointer (some ⟨t,0,none⟩),.int .i64 0])∧w.heap.size≤t∧w.heap.size≤hb∧w.heap.size≤wb∧fD w' t hb wb n []∧Mod (fun _=>False) w w':=by
 have Gk:= @run_makeMap Tryz.prog;go_enter Tryz.func44,Tryz.ntmps44;go_wp2_with fail
 go_ret2
 obtain⟨h1,h2,h3⟩:=qS w (Obj.map #[] 0) (Obj.map #[] 0) (Obj.cells #[.int .i64 n,.map (some w.heap.size),.map (some (w.heap.size+1))] 200);exact⟨_,w.heap.size,w.heap.size+1,rfl,by omega,by omega,by omega,⟨by omega,h3,_,_,_,_,[],[],h1,aR.empty pv cv,h2,aR.empty kv uv,cS.empty⟩,(((Mod.refl _ _).alloc _).alloc _).alloc _⟩
end
def eC (p:Nat→Bool):Nat→Nat
 |0=>0
 |n+1=>eC p n+if p n then 2^n else 0
theorem nY (p:Nat→Bool):∀n,eC p n<2^n
 |0=>by simp[eC]
 |n+1=>by
  have:=nY p n;unfold eC;rw[Nat.pow_succ];split<;>omega
theorem maskOf_testBit (p:Nat→Bool) (j:Nat):∀n,(eC p n).testBit j=(decide (j<n)&&p j)
 |0=>by simp[eC]
 |n+1=>by
  have ih:=maskOf_testBit p j n;have hlt:=nY p n;unfold eC;by_cases hp:p n
  ·rw[if_pos hp,Nat.add_comm];rcases Nat.lt_trichotomy j n with h|h|h
   ·rw[Nat.testBit_two_pow_add_gt h,ih];simp[h,Nat.lt_succ_of_lt h]
   ·subst h;rw[Nat.testBit_two_pow_add_eq,ih];simp[hp]
   ·have:(2^n+eC p n)<2^j:=by
     have h1:2^(n+1)≤2^j:=aXa (by omega) h;rw[Nat.pow_succ]at h1;omega
    rw[aXg this]
    have:¬j<n+1:=by omega
    simp[this]
  ·rw[if_neg hp,aXz,ih];by_cases h:j=n
   ·subst h;simp[hp]
   ·have:(j<n)=(j<n+1):=by
     rw[eq_iff_iff];omega
    simp only[this]
theorem jA {p q:Nat→Bool}:∀n,(∀j,j<n→p j=q j)→eC p n=eC q n
 |0,_=>rfl
 |n+1,h=>by
  unfold eC;rw[jA n (fun j hj=>h j (by omega)),h n (by omega)]
def uD (x:Lk) (r:aT) (j:Nat):Bool:=decide (x.1=r.k)&& !(x.2.2.val==j)&&(x.2.1||r.w)
def iF (L:List Lk) (l:List aT) (j:Nat):Bool:=l.all fun r=>L.all fun x=> !(uD x r j)
theorem sZ {L:List Lk} {l:List aT} {j:Nat}:iF L l j=true↔∀r∈l,i6 L r j:=by
 unfold iF i6 uD;simp only[aYh,Bool.not_eq_true',Bool.and_eq_false_imp,aZy,decide_eq_true_eq,Bool.not_eq_true',beq_eq_false_iff_ne,Bool.or_eq_false_iff,not_or,Bool.not_eq_true,and_imp]
theorem E9 (t hb wb n:Nat) (L:List Lk) (a:Wb) (l:List aT) (c:Nat) (w:We) (h:fD w t hb wb n L) (hn:1≤n) (dy:n≤64) (hl:aV w a l) (ag:l.length≤1000000):
  Calls Tryz.prog 112 #[.pointer (some ⟨t,0,none⟩),.slice a l.length c] w fun e w'=>e= .returned (.int .u64 (eC (iF L l) n:Nat))∧Mod (fun _=>False) w w':=by
 obtain⟨x,hx,Dx,ao⟩:=tJ t hb wb n L a l c w h hn dy hl ag
 have:x=eC (iF L l) n:=by
  apply aXb;intro j;rw[maskOf_testBit,aXw,Dx,aZy,sZ];simp
 rw[←this];exact ao
theorem aV.sl {w:We} {a:Wb} {l:List aT}:aV w a l↔aS rcr 34 w a l:=Iff.rfl
section
def X3 (b:Bool):Wg:= .bool b
theorem LE (w:We):(zeroValue 4).run Tryz.prog w= .ok (X3 false) w:=by kernel_rfl
theorem OO (w:We) (r:Option Nat):(binOp .eql 183 (.map r) (.map none)).run Tryz.prog w= .ok (.bool r.isNone) w:=run_eql_map_nil w _ _ _ _ Tryz.underlying183
attribute [local go_sem↓] lK f8 lJ lS gF lR fX lF
attribute [local go_sem] OO bH nN cO
def tB (m:List (aN×Bool)) (r:aT):Bool:=match lkp r.k m with
 |some v=>v||r.w
 |none=>false
def mI (m:List (aN×Bool)) (l:List aT):Bool:=l.any (tB m)
def add1 (m:List (aN×Bool)) (r:aT):List (aN×Bool):=put r.k ((lkp r.k m).getD false||r.w) m
def addB (m:List (aN×Bool)) (l:List aT):List (aN×Bool):=l.foldl add1 m
theorem zW (m:List (aN×Bool)) (k:aN) (s b:Bool):tB m ⟨k,s,b⟩=((lkp k m).isSome&&((lkp k m).getD false||b)):=by
 unfold tB;cases lkp k m<;>simp
def oL (w:We) (p b:Nat) (m:List (aN×Bool)):Prop:=
 w.heap[p]? =some (.cells #[.map (some b)] 185 (0,0))∧∃es c,w.heap[b]? =some (.map es c)∧aR kv X3 es c m
theorem oL.out {w w':We} {p b:Nat} {m:List (aN×Bool)} {S:Nat→Prop} (h:oL w p b m) (hm:Mod S w w') (h1:¬S p) (h2:¬S b):oL w' p b m:=by
 obtain⟨kp,es,c,kb,M⟩:=h;exact⟨hm.at kp h1,es,c,hm.at kb h2,M⟩
theorem xO (w:We):Calls Tryz.prog 31 #[] w fun e w'=>∃p b,e= .returned (.pointer (some ⟨p,0,none⟩))∧w.heap.size≤p∧w.heap.size≤b∧oL w' p b []∧Mod (fun _=>False) w w':=by
 have Gk:= @run_makeMap Tryz.prog;go_enter Tryz.func31,Tryz.ntmps31;go_wp2_with fail;go_ret;obtain⟨h1,h2⟩:=uJ w (.map #[] 0) (.cells #[.map (some w.heap.size)] 185);exact⟨_,w.heap.size,rfl,by omega,by omega,⟨h2,_,_,h1,aR.empty kv X3⟩,((Mod.refl _ _).alloc _).alloc _⟩
theorem QQ (p:Nat) (mv:Wg) (m:List (aN×Bool)) (a:Wb) (l:List aT) (c:Nat) (w:We) (kp:w.heap[p]? =some (.cells #[mv] 185 (0,0)))
  (cd:∀k wq,Mod (fun _=>False) w wq→(Instr.lookup 183 mv (.agg (kc k)) true).run Tryz.prog wq= .ok (.tuple #[.bool ((lkp k m).getD false),.bool (lkp k m).isSome]) wq)
  (hl:aV w a l) (ag:l.length≤1000000):
  Calls Tryz.prog 111 #[.pointer (some ⟨p,0,none⟩),.slice a l.length c] w fun e w'=>e= .returned (.bool (mI m l))∧Mod (fun _=>False) w w':=by
 have ml:=Hi cd;clear cd;go_enter Tryz.func111,Tryz.ntmps111;go_wp2_with fail;go_loopw [13] (fun s13 wr=>∃i:Nat,i≤l.length∧s13= .int .i64 i∧Hid (mI m (l.take i)=false)∧Mod (fun _=>False) w wr) (fun s13 _=>l.length-(intOf s13).toNat)
 case atStart=>exact⟨0,by omega,rfl,Hi (by simp[mI]),Mod.refl _ _⟩
 case round=>
  obtain⟨i,hi,rfl,HA,hm⟩:=hrel;have kp:=hm.at0 kp;by_cases hlt:i<l.length
  ·obtain⟨r,ri⟩:∃r,l[i]? =some r:=⟨_,aZb hlt⟩;obtain⟨b,o,C,U,fr,rfl,kl,hx,dh⟩:=(aV.sl.1 (hl.mod0 hm)).block ri;obtain⟨k,s,b1⟩:=r;have HN:Hid (mI m (l.take (i+1))=((lkp k m).isSome&&((lkp k m).getD false||b1))):=Hi (by
    have h1:=F2 (tB m) l ri;have h2:=HA.out;unfold mI at *;rw[h1,h2,Bool.false_or,zW])
   unfold rcr at hx;dsimp only at hx;clear ri;go_upto_region 5 with fail;have Lkp:=aA kp;have Lkl:=aA kl;refine ZP0 [0,1,3,4] ?_;refine Zv ?_;refine Zd ?_;refine Za nH fun p6 rh=> ?_;refine Zt ?_;refine TD.nil (fun w1 hr=> ?_);replace kp:=hr.q kp;replace kl:=hr.q kl;obtain⟨gp6,kp6⟩:=hr.b p6;have mm:=hm.then0 hr.mod;go_upto_region 6 with fail;have l1:∀wq,Mod (fun _=>False) w1 wq→_:=fun wq hq=>ml.out k wq (mm.then0 hq);generalize(lkp k m).getD false=q0 at *;generalize(lkp k m).isSome=q1 at *;have Lkp:=aA kp;have Lkl:=aA kl;have Lkp6:=aA kp6;refine ZP [0,0,0,1,0,1,1,0,0,0,0,0] ?_
   iterate 6 first|refine Zv ?_|refine Zd ?_
   refine ZK l1 ?_
   iterate 5 refine Zv ?_
   refine TD.nil (fun w2 hr=> ?_);replace kp:=hr.q kp;replace kl:=hr.q kl;replace kp6:=hr.q kp6;have mm:=mm.then0 hr.mod;clear l1;cases q1<;>cases q0<;>cases b1
   all_goals
    go_wp2_with fail
    first
     |(go_ret;exact⟨by rw[show mI m l=true from wO HN.out];rfl,mm⟩)
     |(go_roundw;(case rel=>exact⟨i+1,by omega,by go_num,Hi HN.out,mm⟩);(case measure=>simp[intOf];omega))
  ·obtain rfl:i=l.length:=by omega
   go_wp2_with fail;go_ret;have:=HA.out;rw[aY5]at this;exact⟨by rw[this];rfl,hm⟩
theorem QP (p b:Nat) (m:List (aN×Bool)) (a:Wb) (l:List aT) (c:Nat) (w:We) (h:oL w p b m) (hl:aV w a l) (ag:l.length≤1000000):
  Calls Tryz.prog 111 #[.pointer (some ⟨p,0,none⟩),.slice a l.length c] w fun e w'=>e= .returned (.bool (mI m l))∧Mod (fun _=>False) w w':=by
 obtain⟨kp,es,cl,kb,M⟩:=h;refine QQ p _ m a l c w kp (fun k wq hq=> ?_) hl ag;have:=M.lookup keyT Tryz.underlying183 LE wq (hq.at0 kb) k true;rw[if_pos rfl]at this;refine this.trans ?_;cases lkp k m<;>rfl
theorem DF (m:List (aN×Bool)) (l:List aT) (r:aT):addB m (l++[r])=add1 (addB m l) r:=by simp[addB,aXl]
def AU (w:We) (p b:Nat) (m:List (aN×Bool)) (w':We):Prop:=oL w' p b m∧Mod (fun i=>i=b) w w'
theorem UE (p b:Nat) (m:List (aN×Bool)) (a:Wb) (l:List aT) (c:Nat) (w:We) (h:oL w p b m) (hl:aV w a l) (ag:l.length≤1000000):
  Calls Tryz.prog 75 #[.pointer (some ⟨p,0,none⟩),.slice a l.length c] w fun e w'=>e= .returned (.tuple #[])∧AU w p b (addB m l) w':=by
 obtain⟨kp0,_,_,kb0,_⟩:=id h;have H0:=Hi h;clear h;go_enter Tryz.func75,Tryz.ntmps75;go_wp2_with fail;have wi:∀i,i=b→∀C U fr,w.heap[i]? ≠some (.cells C U fr):=by
  rintro i rfl C U fr e;rw[kb0]at e;cases e
 have HNB:=Hi wi;clear kp0 kb0 wi;go_loopw [17] (fun s17 wr=>∃i:Nat,i≤l.length∧s17= .int .i64 i∧AU w p b (addB m (l.take i)) wr) (fun s17 _=>l.length-(intOf s17).toNat)
 case atStart=>exact⟨0,by omega,rfl,H0.out,Mod.refl _ _⟩
 case round=>
  obtain⟨i,hi,rfl,hB,hm⟩:=hrel;obtain⟨kp,es,cl,kb,M⟩:=hB;by_cases hlt:i<l.length
  ·obtain⟨r,ri⟩:∃r,l[i]? =some r:=⟨_,aZb hlt⟩;have HT:Hid (addB m (l.take (i+1))=add1 (addB m (l.take i)) r):=Hi (by rw[aYa,ri,←DF];rfl);obtain⟨g,o,C,U,fr,rfl,kl,hx,dh⟩:=((aV.sl.1 hl).modM hm HNB.out).block ri;obtain⟨k,s,b1⟩:=r;unfold rcr at hx;dsimp only at hx;have Ae:=aB kl kb (by simp);have Mm:=aB kp kb (by simp);clear ri hl;generalize addB m (l.take i)=m1 at *;have cd:∀wq,Mod (fun _=>False) wr wq→(Instr.lookup 183 (.map (some b)) (.agg (kc k)) false).run Tryz.prog wq= .ok (.bool ((lkp k m1).getD false)) wq:=fun wq hq=>M.lookupD keyT Tryz.underlying183 LE wq (hq.at0 kb) k;have ml:=Hi cd;clear cd;have HR:Hid (∀v,((lkp k m1).getD false||b1)=v→add1 m1 ⟨k,s,b1⟩=put k v m1):=Hi (fun v h=>by unfold add1;rw[←h]);generalize(lkp k m1).getD false=q0 at *;go_upto_region 3 with fail;have Lkp:=aA kp;have Lkb:=aA kb;have Lkl:=aA kl;refine ZP0 [0,1,3,4] ?_;refine Zv ?_;refine Zd ?_;refine Za nH fun p5 ip=> ?_;refine Zt ?_;refine TD.nil (fun w1 hr=> ?_);replace kp:=hr.q kp;replace kb:=hr.q kb;replace kl:=hr.q kl;obtain⟨gp5,kp5⟩:=hr.b p5;have mm:=hm.then0 hr.mod;have l1:∀wq,Mod (fun _=>False) w1 wq→_:=fun wq hq=>ml.out wq (hr.mod.then0 hq);go_upto_region 4 with fail;cases q0 with
   |true=>
    have Lkp:=aA kp;have Lkl:=aA kl;have Lkp5:=aA kp5;have Lkb:=aA kb;refine ZP [0,0,0,1,0,1,0,0,0,1,0,1,1,0,0,1,0,5] ?_
    iterate 12 first|refine Zv ?_|refine Zd ?_
    refine ZK l1 ?_;refine Zv ?_;refine Zo ?_;refine Zp ?_;refine Zv ?_;refine Zi fun wE hr=> ?_;replace kp:=hr.mod.at0 kp;replace kl:=hr.mod.at0 kl;replace kp5:=hr.mod.at0 kp5;replace kb:=hr.mod.at0 kb;have mE:=hr.mod;obtain⟨es38,cl38,Kc,Mkb⟩:=M.update keyT Tryz.underlying183 wE kb k true;refine ZV (Kc) ?_;refine ZN kb fun w2 kb mS=> ?_;(try simp only[Array.setIfInBounds,zL]at kb);replace kp:=mS.at_ne kp (by omega);replace kl:=mS.at_ne kl (by omega);replace kp5:=mS.at_ne kp5 (by omega);have mm:=(mm.then0 mE).thenB mS (.inr rfl);clear l1;go_wp2_with fail;go_roundw
    case rel=>exact⟨i+1,by omega,by go_num,by rw[HT.out,HR.out true rfl];exact⟨⟨kp,_,_,kb,Mkb⟩,mm⟩⟩
    case measure=>simp[intOf];omega
   |false=>
    have Lkp:=aA kp;have Lkl:=aA kl;have Lkp5:=aA kp5;have Lkb:=aA kb;refine ZP [0,0,0,1,0,1,0,0,0,1,0,1,1,0,0,1,0,5] ?_
    iterate 12 first|refine Zv ?_|refine Zd ?_
    refine ZK l1 ?_
    iterate 4 first|refine Zv ?_|refine Zd ?_
    refine Zi fun wE hr=> ?_;replace kp:=hr.mod.at0 kp;replace kl:=hr.mod.at0 kl;replace kp5:=hr.mod.at0 kp5;replace kb:=hr.mod.at0 kb;have mE:=hr.mod;obtain⟨es56,cl56,Ke,Mkb⟩:=M.update keyT Tryz.underlying183 wE kb k b1;refine ZV (Ke) ?_;refine ZN kb fun w2 kb mS=> ?_;(try simp only[Array.setIfInBounds,zL]at kb);replace kp:=mS.at_ne kp (by omega);replace kl:=mS.at_ne kl (by omega);replace kp5:=mS.at_ne kp5 (by omega);have mm:=(mm.then0 mE).thenB mS (.inr rfl);clear l1;go_wp2_with fail;go_roundw
    case rel=>exact⟨i+1,by omega,by go_num,by rw[HT.out,HR.out b1 rfl];exact⟨⟨kp,_,_,kb,Mkb⟩,mm⟩⟩
    case measure=>simp[intOf];omega
  ·obtain rfl:i=l.length:=by omega
   rw[aY5]at M;go_wp2_with fail;go_end0;exact⟨rfl,⟨kp,_,_,kb,M⟩,hm⟩
end
section
attribute [local go_sem↓] lK f8 lJ lS gF lR fX lF
attribute [local go_sem] OO bH nN cO
def uH (x y:aT):Bool:=decide (x.k=y.k)&&(x.w||y.w)
def l8 (a b:List aT):Bool:=a.any fun x=>b.any (uH x)
def oT (m:List (aN×Bool)) (all:List aT):Prop:=
 ∀k,lkp k m=if all.any (fun r=>decide (r.k=k))then some (all.any fun r=>decide (r.k=k)&&r.w)else none
theorem oT.nil:oT [] []:=fun k=>rfl
theorem oT.add1 {m:List (aN×Bool)} {all:List aT} (h:oT m all) (r:aT):oT (add1 m r) (all++[r]):=fun k=>by
 unfold Go.Proofs.YtblbegbjlaokjaaGreatDoor.add1;rw[gQ,h r.k,h k];by_cases hk:k=r.k
 ·subst hk;simp only[if_true,List.any_append,List.any_cons,List.any_nil,Bool.or_false,decide_true,Bool.or_true,aWs];congr 1;by_cases h1:all.any (fun x=>decide (x.k=r.k))=true
  ·rw[if_pos h1];rfl
  ·rw[if_neg h1];have h2:all.any (fun x=>decide (x.k=r.k)&&x.w)=false:=by
    rw[aWl];intro x hx
    have:¬decide (x.k=r.k)=true:=fun e=>h1 (aYv.2 ⟨x,hx,e⟩);simp[this]
   rw[h2];rfl
 ·rw[if_neg hk]
  have:decide (r.k=k)=false:=by simp;exact fun e=>hk e.symm
  simp only[List.any_append,List.any_cons,List.any_nil,this,Bool.or_false,Bool.false_and]
theorem oT.addB {m:List (aN×Bool)} {all:List aT} (h:oT m all):∀l:List aT,oT (addB m l) (all++l):=by
 intro l
 induction l generalizing m all with
 |nil=>simpa[Go.Proofs.YtblbegbjlaokjaaGreatDoor.addB] using h
 |cons r l ih=>
  have:=ih (h.add1 r);simpa[Go.Proofs.YtblbegbjlaokjaaGreatDoor.addB] using this
theorem oT.hits {m:List (aN×Bool)} {all:List aT} (h:oT m all) (l:List aT):mI m l=l8 all l:=by
 have key:∀y:aT,tB m y=all.any fun x=>uH x y:=fun y=>by
  unfold tB;rw[h y.k];unfold uH;by_cases h1:all.any (fun x=>decide (x.k=y.k))=true
  ·rw[if_pos h1,aXw];simp only[aY4,aYv,aZy]at *;constructor
   ·rintro(⟨x,hx,e,hw⟩|hw)
    ·exact⟨x,hx,e,.inl hw⟩
    ·obtain⟨x,hx,e⟩:=h1;exact⟨x,hx,e,.inr hw⟩
   ·rintro⟨x,hx,e,hw|hw⟩
    ·exact .inl ⟨x,hx,e,hw⟩
    ·exact .inr hw
  ·rw[if_neg h1];symm;rw[aWl];intro x hx
   have:¬decide (x.k=y.k)=true:=fun e=>h1 (aYv.2 ⟨x,hx,e⟩);rw[aZy];exact fun e=>this e.1
 unfold mI l8;rw[aXw];simp only[aYv,key];constructor
 ·rintro⟨y,hy,x,hx,e⟩;exact⟨x,hx,y,hy,e⟩
 ·rintro⟨x,hx,y,hy,e⟩;exact⟨y,hy,x,hx,e⟩
end
section
open Go.RowKit Go.Sort
def HH (w0:We) (h:Nat) (C:List Nd) (ws:We):Prop:=∃T,fM h C T ws∧(∀i,T i→w0.heap.size≤i∧i<ws.heap.size)∧Mod (fun _=>False) w0 ws
section
variable {w0 w1 w2 ws:We} {h:Nat} {C C':List Nd}
theorem HH.new (w:We):Calls Tryz.prog 80 #[] w fun e w'=>∃h,e= .returned (ptrV h)∧HH w h [] w':=
 (OW w).mono fun e w' H=>by
  obtain⟨h,he,T,hA,hm,hT⟩:=H;exact⟨h,he,T,hA,hT,hm⟩
end
end
end Go.Proofs.YtblbegbjlaokjaaGreatDoor