/- The lemmas of the proof, part XO1: how the program and its data lie in memory, and what its functions do. -/
import Derived.Maps.Keyed
import Derived.DeepKeys4
import Derived.Below
import Derived.WalkKit
import Derived.WalkSpells
import Derived.Deep.MidRow
import Derived.Deep.Draws
import Derived.KernelRfl
import Derived.ChangeKeysEq
import Derived.OrdersHeld
import Derived.Maps.RangeRun
import Derived.ProofKit
import Derived.OpenShut
import Derived.SizedLaws
import Derived.Maps.AppendAt
import Derived.Laws.OwnMore
import Derived.Great.BuildSlice
import Derived.ArgAppend
import Derived.WalkLawsBesides
import Derived.Lib.Hide
import Derived.Deep.DeepCutAuto
import Derived.Deep.CutRange
import Derived.Laws.BitsAllLaws
import Derived.Test.YtceodkliooeccaaGreatDoorProg
import Derived.BigQuiet
set_option linter.unusedSimpArgs false
set_option linter.unusedVariables false
set_option linter.unusedSectionVars false
namespace Go.Proofs.YtceodkliooeccaaGreatDoor
theorem Hi {p:Prop} (h:p):RowKit.Hid p:=h
theorem Ai {a b:Prop} (x:a) (y:b):a∧b:=⟨x,y⟩
theorem Df {p:Prop} [Decidable p] (h:¬p):decide p=false:=decide_eq_false h
theorem Dt {p:Prop} [Decidable p] (h:p):decide p=true:=decide_eq_true h
end Go.Proofs.YtceodkliooeccaaGreatDoor
namespace Go.Proofs.YtceodkliooeccaaGreatDoor
open Go.ChangeMaps (setBlock)
open Go.RowKit
structure Mod (S:Nat→Prop) (w w':World):Prop where
 os:w'.os=w.os
 tape:w'.tape=w.tape
 output:w'.output=w.output
 size:w.heap.size≤w'.heap.size
 block:∀i,i<w.heap.size→¬S i→w'.heap[i]? =w.heap[i]?
theorem Mod.refl (S:Nat→Prop) (w:World):Mod S w w:=⟨rfl,rfl,rfl,Nat.le_refl _,fun _ _ _=>rfl⟩
theorem Mod.trans {S:Nat→Prop} {a b c:World} (h:Mod S a b) (k:Mod S b c):Mod S a c:=
 ⟨k.os.trans h.os,k.tape.trans h.tape,k.output.trans h.output,Nat.le_trans h.size k.size,
  fun i hi hs=>(k.block i (Nat.lt_of_lt_of_le hi h.size) hs).trans (h.block i hi hs)⟩
theorem Mod.then {S T:Nat→Prop} {a b c:World} (h:Mod S a b) (k:Mod T b c) (hT:∀i,i<a.heap.size→T i→S i):Mod S a c:=
 ⟨k.os.trans h.os,k.tape.trans h.tape,k.output.trans h.output,Nat.le_trans h.size k.size,
  fun i hi hs=>(k.block i (Nat.lt_of_lt_of_le hi h.size) (fun ht=>hs (hT i hi ht))).trans (h.block i hi hs)⟩
theorem Mod.mono {S T:Nat→Prop} {a b:World} (h:Mod S a b) (hT:∀i,i<a.heap.size→S i→T i):Mod T a b:=
 ⟨h.os,h.tape,h.output,h.size,fun i hi hs=>h.block i hi (fun hh=>hs (hT i hi hh))⟩
theorem Mod.below {S:Nat→Prop} {a b:World} {B:Nat} (h:Mod S a b) (hB:B≤a.heap.size) (hS:∀i,i<B→¬S i):Below B a b:=
 ⟨h.os,h.tape,h.output,h.size,fun i hi=>h.block i (Nat.lt_of_lt_of_le hi hB) (hS i hi)⟩
theorem Mod.at {S:Nat→Prop} {a b:World} (h:Mod S a b) {i:Nat} {o:Obj} (ho:a.heap[i]? =some o) (hs:¬S i):b.heap[i]? =some o:=by
 rw[h.block i (Array.getElem?_eq_some_iff.1 ho).1 hs,ho]
theorem Mod.alloc {S:Nat→Prop} {a b:World} (h:Mod S a b) (o:Obj):Mod S a (b.alloc o):=
 ⟨h.os,h.tape,h.output,Nat.le_trans h.size (by rw[show(b.alloc o).heap=b.heap.push o from rfl,Array.size_push];omega),fun i hi hs=>by
  rw[show(b.alloc o).heap=b.heap.push o from rfl,Array.getElem?_push,if_neg (Nat.ne_of_lt (Nat.lt_of_lt_of_le hi h.size)),h.block i hi hs]⟩
theorem Mod.drew {S:Nat→Prop} {a b:World} (h:Mod S a b):Mod S a b.drew:=⟨h.os,h.tape,h.output,h.size,h.block⟩
theorem Mod.setBlock {S:Nat→Prop} {a b:World} (h:Mod S a b) {r:Nat} (o:Obj) (hr:r<a.heap.size→S r):Mod S a (setBlock b r o):=
 ⟨h.os,h.tape,h.output,by simpa[ChangeMaps.setBlock] using h.size,fun i hi hs=>by
  rw[show(ChangeMaps.setBlock b r o).heap=b.heap.setIfInBounds r o from rfl,
   Array.getElem?_setIfInBounds_ne (by rintro rfl;exact hs (hr hi)),h.block i hi hs]⟩
theorem Mod.setCell {S:Nat→Prop} {a b:World} (h:Mod S a b) {p:Addr} (v:Value) (hr:p.block<a.heap.size→S p.block):Mod S a (b.setCell p v):=
 ⟨h.os,h.tape,h.output,by simpa[World.setCell] using h.size,fun i hi hs=>by
  rw[heap_setCell_other b p i v (by rintro rfl;exact hs (hr hi)),h.block i hi hs]⟩
theorem Mod.setCells {S:Nat→Prop} {a b:World} (h:Mod S a b) {r:Nat} (o:Nat) (vs:List Value) (hr:r<a.heap.size→S r):Mod S a (b.setCells r o vs):=by
 induction vs generalizing o b with
 |nil=>exact h
 |cons v r ih=>exact ih (h.setCell v hr) (o+1)
theorem Mod.at_ne {p:Nat} {a b:World} (h:Mod (fun i=>i=p) a b) {i:Nat} {o:Obj} (ho:a.heap[i]? =some o) (hs:i≠p):b.heap[i]? =some o:=h.at ho hs
theorem Mod.at0 {a b:World} (h:Mod (fun _=>False) a b) {i:Nat} {o:Obj} (ho:a.heap[i]? =some o):b.heap[i]? =some o:=h.at ho (fun h=>h)
theorem Mod.then0 {S:Nat→Prop} {a b c:World} (h:Mod S a b) (k:Mod (fun _=>False) b c):Mod S a c:=h.then k (fun _ _ h=>h.elim)
theorem Mod.thenB {S:Nat→Prop} {a b c:World} {p:Nat} (h:Mod S a b) (k:Mod (fun i=>i=p) b c) (hp:a.heap.size≤p∨S p):Mod S a c:=
 h.then k (fun i hi e=>by
  cases e;rcases hp with hp|hp
  ·omega
  ·exact hp)
theorem ne_of_obj {w:World} {a b:Nat} {o o':Obj} (ha:w.heap[a]? =some o) (hb:w.heap[b]? =some o') (h:o≠o'):a≠b:=by
 rintro rfl;rw[ha]at hb;exact h (Option.some.inj hb)
theorem Ls {w:World} {b:Nat} {o:Obj} (h:w.heap[b]? =some o):b<w.heap.size:=(Array.getElem?_eq_some_iff.1 h).1
theorem heap_setBlock (w:World) {b:Nat} (o:Obj) (h:b<w.heap.size):(setBlock w b o).heap[b]? =some o:=by
 simp[setBlock,h]
theorem mod_set (w:World) (b:Nat) (o:Obj):Mod (fun i=>i=b) w (setBlock w b o):=(Mod.refl _ w).setBlock o (fun _=>rfl)
theorem heap_setBlock_ne (w:World) {b i:Nat} (o:Obj) (h:i≠b):(setBlock w b o).heap[i]? =w.heap[i]? :=by
 simp[setBlock,Ne.symm h]
structure Key where
 l:List UInt8
 h:l.length=32
theorem Key.ext {a b:Key} (h:a.l=b.l):a=b:=by cases a;cases b;cases h;rfl
instance:DecidableEq Key:=fun a b=>if h:a.l=b.l then .isTrue (Key.ext h)else .isFalse (fun e=>h (e▸rfl))
def bc (b:UInt8):Value:= .int .u8 b.toNat
theorem bc_inj {a b:UInt8} (h:bc a=bc b):a=b:=by
 simp only[bc,Value.int.injEq,true_and]at h;exact UInt8.toNat_inj.1 (by omega)
def kc (k:Key):Array Value:=(k.l.map bc).toArray
@[simp] theorem kc_size (k:Key):(kc k).size=32:=by simp[kc,k.h]
theorem kc_inj {a b:Key} (h:kc a=kc b):a=b:=by
 have h1:a.l.map bc=b.l.map bc:=by simpa[kc] using h
 exact Key.ext (List.map_inj_right (fun _ _=>bc_inj)|>.1 h1)
def kv (k:Key):Value:= .agg (kc k)
theorem kv_inj {a b:Key} (h:kv a=kv b):a=b:=kc_inj (by simpa[kv] using h)
structure KeyT {κ:Type} (P:Program) (K:TypeId) (f:κ→Value):Prop where
 law:Maps.Keyed P K
 lit:∀k,∃l,keyOf P K (f k)=some l
 inj:∀a b,f a=f b→a=b
theorem set_same {α:Type} {l:List α} {i:Nat} {a:α} (h:l[i]? =some a):l.set i a=l:=by
 apply List.ext_getElem?;intro j;simp[List.getElem?_set];grind
theorem modify_at {α:Type} {l:List α} {j:Nat} (f:α→α) {e:α} (h:l[j]? =some e):l.modify j f=l.set j (f e):=by
 apply List.ext_getElem?;intro i;simp[List.getElem?_modify,List.getElem?_set];grind
section
variable {κ ν:Type} [DecidableEq κ]
def lkp (k:κ):List (κ×ν)→Option ν
 |[]=>none
 |p::r=>if p.1=k then some p.2 else lkp k r
def put (k:κ) (v:ν):List (κ×ν)→List (κ×ν)
 |[]=>[(k,v)]
 |p::r=>if p.1=k then(k,v)::r else p::put k v r
def del (k:κ):List (κ×ν)→List (κ×ν)
 |[]=>[]
 |p::r=>if p.1=k then r else p::del k r
theorem lkp_put_same (k:κ) (v:ν) (m:List (κ×ν)):lkp k (put k v m)=some v:=by
 induction m with
 |nil=>simp[put,lkp]
 |cons p r ih=>unfold put;split<;>simp_all[lkp]
theorem lkp_put_ne {k j:κ} (h:j≠k) (v:ν) (m:List (κ×ν)):lkp j (put k v m)=lkp j m:=by
 induction m with
 |nil=>simp[put,lkp,Ne.symm h]
 |cons p r ih=>
  unfold put;split
  ·rename_i hp;subst hp;simp[lkp,Ne.symm h]
  ·simp[lkp,ih]
theorem lkp_put (k j:κ) (v:ν) (m:List (κ×ν)):lkp j (put k v m)=if j=k then some v else lkp j m:=by
 by_cases h:j=k
 ·subst h;simp[lkp_put_same]
 ·simp[h,lkp_put_ne h]
theorem mem_keys_put (k:κ) (v:ν) (m:List (κ×ν)) (x:κ):x∈(put k v m).map Prod.fst↔x=k∨x∈m.map Prod.fst:=by
 induction m with
 |nil=>simp[put]
 |cons p r ih=>
  unfold put;split
  ·rename_i hp;subst hp;simp
  ·simp only[List.map_cons,List.mem_cons,ih];constructor
   ·rintro(h|h|h)<;>simp[h]
   ·rintro(h|h|h)<;>simp[h]
theorem nodup_put {m:List (κ×ν)} (h:(m.map Prod.fst).Nodup) (k:κ) (v:ν):((put k v m).map Prod.fst).Nodup:=by
 induction m with
 |nil=>simp[put]
 |cons p r ih=>
  simp only[List.map_cons,List.nodup_cons]at h;unfold put;split
  ·rename_i hp;subst hp;simpa using h
  ·rename_i hp;simp only[List.map_cons,List.nodup_cons,mem_keys_put];exact⟨fun h'=>h'.elim (fun e=>hp e) h.1,ih h.2⟩
theorem lkp_none_iff (k:κ) (m:List (κ×ν)):lkp k m=none↔k∉m.map Prod.fst:=by
 induction m with
 |nil=>simp[lkp]
 |cons p r ih=>
  unfold lkp;split
  ·rename_i h;simp[h]
  ·rename_i h;simp[ih,Ne.symm h]
theorem del_sub (k:κ) (m:List (κ×ν)):(del k m).Sublist m:=by
 induction m with
 |nil=>simp[del]
 |cons p r ih=>unfold del;split;exact List.sublist_cons_self _ _;exact ih.cons_cons p
theorem nodup_del {m:List (κ×ν)} (h:(m.map Prod.fst).Nodup) (k:κ):((del k m).map Prod.fst).Nodup:=
 h.sublist ((del_sub k m).map _)
theorem lkp_mem {m:List (κ×ν)} {k:κ} {v:ν} (h:lkp k m=some v):(k,v)∈m:=by
 induction m with
 |nil=>simp[lkp]at h
 |cons p r ih=>
  unfold lkp at h;split at h
  ·rename_i hp;subst hp;cases h;simp
  ·exact List.mem_cons_of_mem _ (ih h)
theorem lkp_of_mem {m:List (κ×ν)} (hn:(m.map Prod.fst).Nodup) {k:κ} {v:ν} (h:(k,v)∈m):lkp k m=some v:=by
 induction m with
 |nil=>cases h
 |cons p r ih=>
  simp only[List.map_cons,List.nodup_cons]at hn;rcases List.mem_cons.1 h with rfl|h
  ·simp[lkp]
  ·unfold lkp;rw[if_neg,ih hn.2 h];intro e;exact hn.1 (e▸List.mem_map.2 ⟨_,h,rfl⟩)
structure MapIs (f:κ→Value) (g:ν→Value) (es:Array MapEntry) (clock:Nat) (m:List (κ×ν)):Prop where
 ents:es.toList.map (fun e=>(e.key,e.val))=m.map (fun p=>(f p.1,g p.2))
 nodup:(m.map Prod.fst).Nodup
 lt:∀e∈es.toList,e.born<clock
 apart:(es.toList.map (·.born)).Nodup
variable {P:Program} {T K E:TypeId} {f:κ→Value} {g:ν→Value}
theorem MapIs.size {es:Array MapEntry} {clock:Nat} {m:List (κ×ν)} (h:MapIs f g es clock m):es.size=m.length:=by
 have:=congrArg List.length h.ents;simpa using this
theorem MapIs.get {es:Array MapEntry} {clock:Nat} {m:List (κ×ν)} (h:MapIs f g es clock m) {j:Nat} {e:MapEntry} (he:es.toList[j]? =some e):
  ∃p,m[j]? =some p∧e.key=f p.1∧e.val=g p.2:=by
 have:=congrArg (fun l=>l[j]?) h.ents;simp only[List.getElem?_map,he,Option.map_some]at this;cases hm:m[j]? with
 |none=>simp[hm]at this
 |some p=>simp only[hm,Option.map_some,Option.some.injEq,Prod.mk.injEq]at this;exact⟨p,rfl,this.1,this.2⟩
theorem MapIs.keys {es:Array MapEntry} {clock:Nat} {m:List (κ×ν)} (h:MapIs f g es clock m) (hk:KeyT P K f):∀e∈es.toList,∃l,keyOf P K e.key=some l:=by
 intro e he;obtain⟨j,hj⟩:=List.mem_iff_getElem?.1 he;obtain⟨p,_,hp,_⟩:=h.get hj;rw[hp];exact hk.lit p.1
theorem lkp_getElem {m:List (κ×ν)} (hn:(m.map Prod.fst).Nodup) {j:Nat} {p:κ×ν} (h:m[j]? =some p):lkp p.1 m=some p.2:=
 lkp_of_mem hn (List.mem_of_getElem? h)
theorem MapIs.find {es:Array MapEntry} {clock:Nat} {m:List (κ×ν)} (h:MapIs f g es clock m) (hk:KeyT P K f) (w:World) (k:κ):
  (lkp k m=none∧(Instr.findKey K (f k) es.toList).run P w= .ok none w)∨
  ∃j v e,m[j]? =some (k,v)∧es.toList[j]? =some e∧e.key=f k∧e.val=g v∧lkp k m=some v∧
   (Instr.findKey K (f k) es.toList).run P w= .ok (some (j,g v)) w:=by
 obtain⟨l,hl⟩:=hk.lit k;rcases hk.law.find w hl es.toList (h.keys hk)with⟨h1,h2⟩|⟨j,e,h1,h2,h3⟩
 ·refine .inl ⟨?_,h1⟩;rw[lkp_none_iff];intro hmem;obtain⟨p,hp,rfl⟩:=List.mem_map.1 hmem;obtain⟨j,hj⟩:=List.mem_iff_getElem?.1 hp;have:=congrArg (fun l=>l[j]?) h.ents;simp only[List.getElem?_map,hj,Option.map_some]at this;cases he:es.toList[j]? with
  |none=>simp[he]at this
  |some e=>
   simp only[he,Option.map_some,Option.some.injEq,Prod.mk.injEq]at this;exact h2 e (List.mem_of_getElem? he) this.1
 ·obtain⟨p,hp,hpk,hpv⟩:=h.get h2;have:p.1=k:=hk.inj _ _ (by rw[←hpk,h3]);subst this;exact .inr ⟨j,p.2,e,hp,h2,h3,hpv,lkp_getElem h.nodup hp,by rw[h1,hpv]⟩
theorem MapIs.lookup {es:Array MapEntry} {clock:Nat} {m:List (κ×ν)} (h:MapIs f g es clock m) (hk:KeyT P K f) (hT:P.underlying T=some (.map K E))
  {z:Value} (hz:∀w,(zeroValue E).run P w= .ok z w) (w:World) {b:Nat} (hb:w.heap[b]? =some (.map es clock)) (k:κ) (c:Bool):
  (Instr.lookup T (.map (some b)) (f k) c).run P w=
   .ok (if c then .tuple #[((lkp k m).map g).getD z,.bool (lkp k m).isSome]else((lkp k m).map g).getD z) w:=by
 obtain⟨l,hl⟩:=hk.lit k;rcases h.find hk w k with⟨h1,h2⟩|⟨j,v,e,_,_,_,_,h1,h2⟩
 ·simp[Instr.lookup,run_underlying hT,MapKept.run_getObj_map hb,hk.law.check w _ hl,h2,h1,hz,Result.andThen]
 ·simp[Instr.lookup,run_underlying hT,MapKept.run_getObj_map hb,hk.law.check w _ hl,h2,h1,Result.andThen]
theorem put_none {k:κ} {v:ν} {m:List (κ×ν)} (h:lkp k m=none):put k v m=m++[(k,v)]:=by
 induction m with
 |nil=>rfl
 |cons p r ih=>
  unfold lkp at h;split at h
  ·cases h
  ·rename_i hp;simp[put,hp,ih h]
theorem put_at {k:κ} {v u:ν} {m:List (κ×ν)} (hn:(m.map Prod.fst).Nodup) {j:Nat} (h:m[j]? =some (k,u)):put k v m=m.set j (k,v):=by
 induction m generalizing j with
 |nil=>simp at h
 |cons p r ih=>
  simp only[List.map_cons,List.nodup_cons]at hn;cases j with
  |zero=>simp at h;subst h;simp[put]
  |succ j=>
   simp only[List.getElem?_cons_succ]at h;have:p.1≠k:=fun e=>hn.1 (e▸List.mem_map.2 ⟨_,List.mem_of_getElem? h,rfl⟩);simp[put,this,ih hn.2 h]
theorem del_at {k:κ} {u:ν} {m:List (κ×ν)} (hn:(m.map Prod.fst).Nodup) {j:Nat} (h:m[j]? =some (k,u)):del k m=m.eraseIdx j:=by
 induction m generalizing j with
 |nil=>simp at h
 |cons p r ih=>
  simp only[List.map_cons,List.nodup_cons]at hn;cases j with
  |zero=>simp at h;subst h;simp[del]
  |succ j=>
   simp only[List.getElem?_cons_succ]at h;have:p.1≠k:=fun e=>hn.1 (e▸List.mem_map.2 ⟨_,List.mem_of_getElem? h,rfl⟩);simp[del,this,ih hn.2 h]
theorem del_none {k:κ} {m:List (κ×ν)} (h:lkp k m=none):del k m=m:=by
 induction m with
 |nil=>rfl
 |cons p r ih=>
  unfold lkp at h;split at h
  ·cases h
  ·rename_i hp;simp[del,hp,ih h]
theorem MapIs.update {es:Array MapEntry} {clock:Nat} {m:List (κ×ν)} (h:MapIs f g es clock m) (hk:KeyT P K f) (hT:P.underlying T=some (.map K E))
  (w:World) {b:Nat} (hb:w.heap[b]? =some (.map es clock)) (k:κ) (v:ν):
  ∃es' clock',(Instr.mapUpdate T (.map (some b)) (f k) (g v)).run P w= .ok () (setBlock w b (.map es' clock'))∧MapIs f g es' clock' (put k v m):=by
 obtain⟨l,hl⟩:=hk.lit k;rcases h.find hk w k with⟨h1,h2⟩|⟨j,u,e,hm,he,hek,_,h1,h2⟩
 ·refine⟨es.push {key:=f k,val:=g v,born:=clock},clock+1,?_,?_,nodup_put h.nodup k v,?_,?_⟩
  ·simp[Instr.mapUpdate,run_underlying hT,MapKept.run_getObj_map hb,hk.law.check w _ hl,h2,MapKept.run_setObj_map _ hb,Result.andThen,ChangeMaps.setBlock]
  ·simp[put_none h1,h.ents]
  ·intro e he;simp only[Array.toList_push,List.mem_append,List.mem_singleton]at he;rcases he with he|rfl
   ·exact Nat.lt_succ_of_lt (h.lt e he)
   ·exact Nat.lt_succ_self _
  ·simp only[Array.toList_push,List.map_append,List.map_cons,List.map_nil];rw[List.nodup_append];refine⟨h.apart,by simp,?_⟩;intro a ha b' hb' e;simp only[List.mem_singleton]at hb';obtain⟨x,hx,rfl⟩:=List.mem_map.1 ha;have:=h.lt x hx;omega
 ·have hes:es[j]? =some e:=by simpa using he
  have hset:(es.modify j fun e=> {e with key:=f k,val:=g v}).toList=es.toList.set j {e with key:=f k,val:=g v}:=by
   rw[Array.toList_modify,modify_at _ he]
  refine⟨es.modify j fun e=> {e with key:=f k,val:=g v},clock,?_,?_,nodup_put h.nodup k v,?_,?_⟩
  ·simp[Instr.mapUpdate,run_underlying hT,MapKept.run_getObj_map hb,hk.law.check w _ hl,h2,hes,hek,hk.law.stays w hl,MapKept.run_setObj_map _ hb,Result.andThen,ChangeMaps.setBlock]
  ·rw[hset,put_at h.nodup hm,List.map_set,List.map_set,h.ents]
  ·rw[hset];intro x hx;rcases List.mem_or_eq_of_mem_set hx with hx|rfl
   ·exact h.lt x hx
   ·exact h.lt e (List.mem_of_getElem? he)
  ·rw[hset,List.map_set];have:(es.toList.map (·.born)).set j e.born=es.toList.map (·.born):=by
    exact set_same (by simp[he])
   rw[show({e with key:=f k,val:=g v}:MapEntry).born=e.born from rfl,this];exact h.apart
theorem MapIs.delete {es:Array MapEntry} {clock:Nat} {m:List (κ×ν)} (h:MapIs f g es clock m) (hk:KeyT P K f) (hT:P.underlying T=some (.map K E)) {ty:TypeId}
  (w:World) {b:Nat} (hb:w.heap[b]? =some (.map es clock)) (k:κ):
  ∃es',(Builtin.delete_ #[T,K] ty #[.map (some b),f k]).run P w= .ok (.tuple #[]) (setBlock w b (.map es' clock))∧MapIs f g es' clock (del k m):=by
 obtain⟨l,hl⟩:=hk.lit k;rcases h.find hk w k with⟨h1,h2⟩|⟨j,u,e,hm,he,hek,_,h1,h2⟩
 ·refine⟨es,?_,?_⟩
  ·simp[Builtin.delete_,run_underlying hT,MapKept.run_getObj_map hb,hk.law.check w _ hl,h2,MapKept.run_setObj_map _ hb,Result.andThen,ChangeMaps.setBlock]
  ·rw[del_none h1];exact h
 ·have hjs:j<es.size:=by
   have:=(List.getElem?_eq_some_iff.1 he).1;simpa using this
  have hsub:(es.eraseIdxIfInBounds j).toList=es.toList.eraseIdx j:=by
   unfold Array.eraseIdxIfInBounds;rw[dif_pos hjs];simp
  refine⟨es.eraseIdxIfInBounds j,?_,?_,nodup_del h.nodup k,?_,?_⟩
  ·simp[Builtin.delete_,run_underlying hT,MapKept.run_getObj_map hb,hk.law.check w _ hl,h2,MapKept.run_setObj_map _ hb,Result.andThen,ChangeMaps.setBlock]
  ·rw[hsub,del_at h.nodup hm,ChangeMaps.map_eraseIdx,ChangeMaps.map_eraseIdx,h.ents]
  ·rw[hsub];intro x hx;exact h.lt x ((List.eraseIdx_sublist _ _).subset hx)
  ·rw[hsub];exact h.apart.sublist ((List.eraseIdx_sublist _ _).map _)
theorem MapIs.lookupD {es:Array MapEntry} {clock:Nat} {m:List (κ×ν)} (h:MapIs f g es clock m) (hk:KeyT P K f) (hT:P.underlying T=some (.map K E))
  {z:ν} (hz:∀w,(zeroValue E).run P w= .ok (g z) w) (w:World) {b:Nat} (hb:w.heap[b]? =some (.map es clock)) (k:κ):
  (Instr.lookup T (.map (some b)) (f k) false).run P w= .ok (g ((lkp k m).getD z)) w:=by
 rw[h.lookup hk hT hz w hb k false];cases lkp k m<;>rfl
theorem MapIs.empty (f:κ→Value) (g:ν→Value):MapIs f g #[] 0 ([]:List (κ×ν)):=⟨rfl,by simp,by simp,by simp⟩
theorem MapIs.len {es:Array MapEntry} {clock:Nat} {m:List (κ×ν)} (h:MapIs f g es clock m) (hT:P.underlying T=some (.map K E)) {ty:TypeId}
  (w:World) {b:Nat} (hb:w.heap[b]? =some (.map es clock)):
  (Builtin.len_ #[T] ty #[.map (some b)]).run P w= .ok (.int .i64 m.length) w:=by
 simp[Builtin.len_,run_underlying hT,MapKept.run_getObj_map hb,Result.andThen,goInt,h.size]
end
end Go.Proofs.YtceodkliooeccaaGreatDoor
namespace Go.Proofs.YtceodkliooeccaaGreatDoor
open Go.RowKit
theorem mapM_some {α β:Type} (f:α→Option β) (g:α→β):∀l:List α,(∀x∈l,f x=some (g x))→l.mapM f=some (l.map g)
 |[],_=>rfl
 |x::r,h=>by
  rw[List.mapM_cons,h x (by simp),mapM_some f g r (fun y hy=>h y (List.mem_cons_of_mem _ hy))];rfl
theorem bc_wf (b:UInt8):(Lit.int .u8 (b.toNat:Int)).wf=true:=by
 have:=b.toNat_lt;simp[Lit.wf,IntKind.min,IntKind.max,IntKind.bits,IntKind.signed];omega
section
variable {P:Program} {K E:TypeId}
structure IsKeyT (P:Program) (K E:TypeId):Prop where
 laid:laidOutB P=true
 row:K<P.types.size
 at2:P.keyTypeAt 2 K=true
 u:P.underlying K=some (.array 32 E)
 e:P.underlying E=some (.int .u8)
 cK:P.cellsOf K=32
 cE:P.cellsOf E=1
 kt:P.keyType K=true
theorem IsKeyT.lits (h:IsKeyT P K E) (k:Key) (d:Nat):∃l,P.keyLits (d+2) K (kc k).toList=some l:=by
 have hs:(kc k).toList.length=32:=by simp
 have:∀i∈List.range 32,P.keyLits (d+1) E (((kc k).toList.drop (i*P.cellsOf E)).take (P.cellsOf E))=some [Lit.int .u8 ((k.l.getD i 0).toNat:Int)]:=by
  intro i hi;have hi':i<32:=by simpa using hi
  have hl:i<k.l.length:=by rw[k.h];exact hi'
  have h1:((kc k).toList.drop (i*P.cellsOf E)).take (P.cellsOf E)=[bc (k.l.getD i 0)]:=by
   rw[h.cE,Nat.mul_one];simp only[kc];show((k.l.map bc).drop i).take 1=_;rw[←List.map_drop,←List.map_take,List.drop_eq_getElem_cons hl];simp only[List.take_succ_cons,List.take_zero,List.map_cons,List.map_nil];rw[List.getD_eq_getElem?_getD,List.getElem?_eq_getElem hl];rfl
  rw[h1];unfold Program.keyLits;rw[h.e];simp[bc,bc_wf]
 unfold Program.keyLits;rw[h.u];simp only[hs,h.cK,if_true];rw[mapM_some _ _ _ this];exact⟨_,rfl⟩
theorem IsKeyT.keyT (h:IsKeyT P K E):KeyT P K kv where
 law:=Maps.Keyed.of_law (deep_law_laid h.laid (m:=2) (by omega) h.row h.at2 (by rw[h.u]))
 lit k:=by
  obtain⟨n,hn⟩:∃n,P.types.size=n+1:=⟨P.types.size-1,(Nat.sub_add_cancel (Nat.lt_of_le_of_lt (Nat.zero_le _) h.row)).symm⟩;obtain⟨l,hl⟩:=h.lits k n;unfold keyOf;rw[h.u];simp only[h.kt,kv,Value.formed,h.u,kc_size,h.cK,Bool.true_and,beq_self_eq_true,if_true,Value.cells,hn,hl];exact⟨_,rfl⟩
 inj _ _:=kv_inj
theorem IsKeyT.tiled (h:IsKeyT P K E):P.tiled 2 K=true:=by
 refine tiled_of_laidOut h.laid 2 K ?_ h.at2;simp only[isVar,Bool.and_eq_true,decide_eq_true_eq];refine⟨h.row,?_⟩;rw[h.u];simp[kindOk]
theorem IsKeyT.eqIn (h:IsKeyT P K E) (d:Nat) (a b:Key) (w:World):(Op.equalIn (d+2) K (.agg (kc a)) (.agg (kc b))).run P w= .ok (decide (a=b)) w:=by
 obtain⟨la,ha⟩:=h.lits a 0;obtain⟨lb,hb⟩:=h.lits b 0;have hf:∀k:Key,(Value.agg (kc k)).formed P K=true:=fun k=>by simp[Value.formed,h.u,h.cK]
 obtain⟨r,hr,hiff⟩:=run_equalIn_deep (P:=P) d 2 K h.at2 w 2 2 (.agg (kc a)) (.agg (kc b)) la lb (hf a) (hf b) ha hb;rw[hr];congr 1;have key:la=lb↔a=b:=by
  constructor
  ·intro e;have h1:=cells_of_lits 2 K h.tiled 2 _ _ ha;have h2:=cells_of_lits 2 K h.tiled 2 _ _ hb;rw[e,←h2]at h1;exact kc_inj (Array.toList_inj.1 h1)
  ·rintro rfl;rw[ha]at hb;exact Option.some.inj hb
 rw[Bool.eq_iff_iff,hiff,key,decide_eq_true_eq]
theorem kc_ext (k:Key):(kc k).extract 0 32=kc k:=by
 rw[show(32:Nat)=(kc k).size by simp];exact Array.extract_size
theorem kc_one (k:Key):(kc k).all (·.oneCell')=true:=by
 rw[Array.all_eq_true_iff_forall_mem];intro v hv;simp only[kc,List.mem_toArray,List.mem_map]at hv;obtain⟨b,_,rfl⟩:=hv;rfl
theorem all_of {xs:Array Value} {n:Nat} (hs:xs.size=n) (h:xs.all (·.oneCell')=true):xs.all (·.oneCell') 0 n=true:=by
 subst hs;exact h
theorem kc_one0 (k:Key):(kc k).all (·.oneCell') 0 32=true:=all_of (kc_size k) (kc_one k)
def kx (k:Key) (xs:List Value):Array Value:=kc k++xs.toArray
theorem kx_size (k:Key) (xs:List Value):(kx k xs).size=32+xs.length:=by simp[kx]
theorem kx_key (k:Key) (xs:List Value):(kx k xs).extract 0 32=kc k:=by
 unfold kx;rw[show(32:Nat)=(kc k).size by simp,Array.extract_append_left];exact Array.extract_size
theorem kx_all (k:Key) (xs:List Value) {n:Nat} (h:n=32+xs.length):(kx k xs).extract 0 n=kx k xs:=by
 rw[h,←kx_size];exact Array.extract_size
theorem kx_get (k:Key) (xs:List Value) (j:Nat):(kx k xs)[32+j]? =xs[j]? :=by
 unfold kx;rw[Array.getElem?_append_right (by simp)];simp
theorem kx_one (k:Key) (xs:List Value) (h:xs.all (·.oneCell')=true):(kx k xs).all (·.oneCell')=true:=by
 unfold kx;rw[Array.all_append,kc_one];simpa using h
theorem kx_at (k:Key) (xs:List Value) (j:Nat) (v:Value) (hj:xs[j]? =some v) (h:32+j<(kx k xs).size):(kx k xs)[32+j]=v:=by
 have:=kx_get k xs j;rw[Array.getElem?_eq_getElem h,hj]at this;exact Option.some.inj this
def rc (k:Key) (s b:Bool):Array Value:=kx k [.bool s,.bool b]
theorem rc_size (k:Key) (s b:Bool):(rc k s b).size=34:=kx_size k _
theorem rc_key (k:Key) (s b:Bool):(rc k s b).extract 0 32=kc k:=kx_key k _
theorem rc_w' (k:Key) (s b:Bool) (h:33<(rc k s b).size):(rc k s b)[33]= .bool b:=kx_at k _ 1 _ rfl h
theorem rc_one (k:Key) (s b:Bool):(rc k s b).all (·.oneCell') 0 34=true:=all_of (rc_size k s b) (kx_one k _ rfl)
def sc (k:Key) (n:Int):Array Value:=kx k [.int .i64 n]
end
end Go.Proofs.YtceodkliooeccaaGreatDoor
namespace Go.Proofs.YtceodkliooeccaaGreatDoor
open Go.ChangeMaps (setBlock)
structure LB where
 cells:Array Value
 ty:TypeId
 tag:Tmp
abbrev Bx:=Nat→Option LB
def Bx.nil:Bx:=fun _=>none
def Bx.set (B:Bx) (p:Nat) (b:LB):Bx:=fun q=>if q=p then some b else B q
def Bx.Fin (B:Bx):Prop:=∃n,∀p,n≤p→B p=none
theorem Bx.nil_fin:Bx.nil.Fin:=⟨0,fun _ _=>rfl⟩
theorem Bx.Fin.set {B:Bx} (h:B.Fin) (p:Nat) (b:LB):(B.set p b).Fin:=by
 obtain⟨n,hn⟩:=h;exact⟨max n (p+1),fun q hq=>by
  unfold Bx.set;rw[if_neg (by omega),hn q (by omega)]⟩
theorem Bx.Fin.fresh {B:Bx} (h:B.Fin) (q:Nat):∃p,B p=none∧p≠q:=by
 obtain⟨n,hn⟩:=h;exact⟨max n (q+1),hn _ (by omega),by omega⟩
theorem Bx.set_comm (B:Bx) {p q:Nat} (h:p≠q) (b c:LB):(B.set p b).set q c=(B.set q c).set p b:=by
 funext r;unfold Bx.set;by_cases h1:r=q
 ·subst h1;simp[Ne.symm h]
 ·simp[h1]
theorem Bx.set_same (B:Bx) (p:Nat) (b:LB):(B.set p b) p=some b:=by simp[Bx.set]
theorem Bx.set_ne (B:Bx) {p q:Nat} (h:q≠p) (b:LB):(B.set p b) q=B q:=by simp[Bx.set,h]
theorem Bx.set_none {B:Bx} {p q:Nat} {b:LB} (h:(B.set p b) q=none):q≠p∧B q=none:=by
 unfold Bx.set at h;split at h
 ·cases h
 ·rename_i hne;exact⟨hne,h⟩
structure Rel (w0:World) (B:Bx) (w:World):Prop where
 mod:Mod (fun _=>False) w0 w
 box:∀p b,B p=some b→w0.heap.size≤p∧w.heap[p]? =some (.cells b.cells b.ty (0,0))
theorem Rel.start (w:World):Rel w Bx.nil w:=⟨Mod.refl _ _,fun _ _ h=>by cases h⟩
theorem Rel.none {w0 w:World} {B:Bx} (h:Rel w0 B w):B w.heap.size=Option.none:=by
 cases hb:B w.heap.size with
 |none=>rfl
 |some b=>have:=Ls (h.box _ _ hb).2;omega
theorem Rel.mods {w0 w w':World} {B:Bx} (h:Rel w0 B w) (hm:Mod (fun _=>False) w w'):Rel w0 B w':=
 ⟨h.mod.trans hm,fun p b hb=>⟨(h.box p b hb).1,hm.at (h.box p b hb).2 (fun x=>x)⟩⟩
theorem Rel.alloc {w0 w:World} {B:Bx} (h:Rel w0 B w) (z:Array Value) (T:TypeId) (d:Tmp):
  Rel w0 (B.set w.heap.size ⟨z,T,d⟩) (w.alloc (.cells z T)):=by
 refine⟨h.mod.alloc _,fun p b hb=> ?_⟩;unfold Bx.set at hb;split at hb
 ·rename_i hp;subst hp;cases hb;exact⟨h.mod.size,by rw[heap_alloc_new]⟩
 ·have:=h.box p b hb;exact⟨this.1,by rw[heap_alloc_old w _ (Ls this.2)];exact this.2⟩
theorem Rel.store {w0 w:World} {B:Bx} (h:Rel w0 B w) {p:Nat} {b:LB} (hb:B p=some b) (cs:Array Value):
  Rel w0 (B.set p {b with cells:=cs}) (setBlock w p (.cells cs b.ty (0,0))):=by
 have hp:=h.box p b hb;refine⟨h.mod.setBlock _ (fun hlt=>absurd hlt (Nat.not_lt.2 hp.1)),fun q c hc=> ?_⟩;unfold Bx.set at hc;split at hc
 ·rename_i hq;subst hq;cases hc;exact⟨hp.1,heap_setBlock w _ (Ls hp.2)⟩
 ·rename_i hq;have:=h.box q c hc;exact⟨this.1,by rw[heap_setBlock_ne w _ hq];exact this.2⟩
theorem Rel.free {w0 w:World} {B:Bx} (h:Rel w0 B w) {p:Nat} (hp:w.heap.size≤p):B p=Option.none:=by
 cases hb:B p with
 |none=>rfl
 |some b=>have:=Ls (h.box _ _ hb).2;omega
theorem Rel.cbox {w0 w w':World} {B:Bx} (h:Rel w0 B w) (hm:Mod (fun _=>False) w w') {p:Nat} {z:Array Value} {T:TypeId} (d:Tmp) (hp:w.heap.size≤p) (hk:w'.heap[p]? =some (.cells z T (0,0))):Rel w0 (B.set p ⟨z,T,d⟩) w':=by
 refine⟨h.mod.trans hm,fun q b hb=> ?_⟩;unfold Bx.set at hb;split at hb
 ·rename_i hq;subst hq;cases hb;exact⟨Nat.le_trans h.mod.size hp,hk⟩
 ·have:=h.box q b hb;exact⟨this.1,hm.at this.2 (fun x=>x)⟩
theorem grown (w:World):∀n:Nat,∃w',Mod (fun _=>False) w w'∧w.heap.size+n≤w'.heap.size
 |0=>⟨w,Mod.refl _ _,Nat.le_refl _⟩
 |n+1=>by
  obtain⟨w',hm,hs⟩:=grown w n;exact⟨_,hm.alloc (.cells #[] 0),by have:=Ls (heap_alloc_new w' (.cells #[] 0));omega⟩
section
variable (P:Program) (ops:Array Oper) (Q:Exit→Act→World→Prop) (S:World→Prop) (C:FuncId→Array Value→Value→Prop) (w0:World) (κ:Nat→Nat)
def Spec (f:FuncId) (args:Array Value):Prop:=
 ∀w,S w→Calls P f args w fun e w'=>∃v,e= .returned v∧C f args v∧Mod (fun _=>False) w w'
def CSpec (f:FuncId) (args:Array Value):Prop:=
 ∀w,S w→Calls P f args w fun e w'=>∃(v:Value) (p:Nat) (z:Array Value) (T:TypeId),e= .returned v∧C f #[.tuple args,.agg z,.int .i64 (p:Int)] v∧w.heap.size≤p∧w'.heap[p]? =some (.cells z T (0,0))∧Mod (fun _=>False) w w'
def NPre (k:Nat) (o:Oper) (a:Act):Prop:=
 (k=0∧∃v,YieldsIf P ops (fun _=>True) o v a)∨(k=1∧∃v,YieldsIf P ops S o v a)∨
 (k=2∧∃f args,Region.wanted o (yielded ops a.tmps)=true∧(∀w,(execOp a.eval o).run P w= .ok (.enter f args) w)∧Spec P S C f args)
def NStep (k:Nat) (o:Oper) (a:Act) (v:Value):Prop:=
 (k=0∧YieldsIf P ops (fun _=>True) o v a)∨(k=1∧YieldsIf P ops S o v a)∨
 (k=2∧∃f args,Region.wanted o (yielded ops a.tmps)=true∧(∀w,(execOp a.eval o).run P w= .ok (.enter f args) w)∧Spec P S C f args∧C f args v)
inductive TE:List Nat→Act→World→Prop
 |nil {a:Act} {w:World}:Q .normal a w→TE [] a w
 |val {i:Nat} {r:List Nat} {o:Oper} {a:Act} {w:World} {v:Value}:ops[i]? =some o→YieldsIf P ops (fun _=>True) o v a→TE r (a.put o.dst v) w→TE (i::r) a w
 |eff {i:Nat} {r:List Nat} {o:Oper} {a:Act} {w:World} (R:Act→World→Prop):ops[i]? =some o→κ i=6→wpOp P ops Q i R a w→(∀a' w',R a' w'→TE r a' w')→TE (i::r) a w
inductive TD:List Nat→Act→Bx→Prop
 |nil {a:Act} {B:Bx}:(∀w',Rel w0 B w'→Q .normal a w')→TD [] a B
 |neu {i:Nat} {r:List Nat} {o:Oper} {a:Act} {B:Bx}:ops[i]? =some o→κ i≤2→NPre P ops S C (κ i) o a→
   (∀v,NStep P ops S C (κ i) o a v→TD r (a.put o.dst v) B)→TD (i::r) a B
 |alloc {i:Nat} {r:List Nat} {o:Oper} {a:Act} {B:Bx} {d:Tmp} {T:TypeId} {z:Array Value} (V:Nat→Value):ops[i]? =some o→κ i=3→
   Region.wanted o (yielded ops a.tmps)=true→o.dst=some d→
   (∀w,(execOp a.eval o).run P w= .ok (.value (V w.heap.size)) (w.alloc (.cells z T)))→
   (∀p,B p=none→TD r (a.put o.dst (V p)) (B.set p ⟨z,T,d⟩))→TD (i::r) a B
 |store {i:Nat} {r:List Nat} {o:Oper} {a:Act} {B:Bx} {d:Tmp} {T:TypeId} {y:Operand} {p:Nat} {b:LB}:ops[i]? =some o→κ i=4→
   Region.wanted o (yielded ops a.tmps)=true→o.dst=none→o.op= .store T (.tmp d) y→a.eval (.tmp d)= .pointer (some ⟨p,0,none⟩)→B p=some b→b.tag=d→
   (∀w,w.heap[p]? =some (.cells b.cells b.ty (0,0))→(execOp a.eval o).run P w= .ok .skip (setBlock w p (.cells (a.eval y).cells b.ty (0,0))))→
   TD r a (B.set p {b with cells:=(a.eval y).cells})→TD (i::r) a B
 |cbox {i:Nat} {r:List Nat} {o:Oper} {a:Act} {B:Bx} {d:Tmp} {f:FuncId} {args:Array Value}:ops[i]? =some o→κ i=7→Region.wanted o (yielded ops a.tmps)=true→o.dst=some d→
   (∀w,(execOp a.eval o).run P w= .ok (.enter f args) w)→CSpec P S C f args→
   (∀(v:Value) (p:Nat) (z:Array Value) (T:TypeId),C f #[.tuple args,.agg z,.int .i64 (p:Int)] v→B p=none→TD r (a.put o.dst v) (B.set p ⟨z,T,d⟩))→TD (i::r) a B
 |eff {i:Nat} {r:List Nat} {o:Oper} {a:Act} {B:Bx}:ops[i]? =some o→κ i=5→
   (∀w',Rel w0 B w'→wpOp P ops Q i (fun a' w''=>TE P ops Q κ r a' w'') a w')→TD (i::r) a B
end
section
variable {P:Program} {ops:Array Oper} {Q:Exit→Act→World→Prop} {S:World→Prop} {C:FuncId→Array Value→Value→Prop} {w0:World} {κ:Nat→Nat}
theorem NPre.step {k:Nat} {o:Oper} {a:Act} (hS:S w0) (h:NPre P ops S C k o a):∃v,NStep P ops S C k o a v:=by
 rcases h with⟨hk,v,h⟩|⟨hk,v,h⟩|⟨hk,f,args,h1,h2,h3⟩
 ·exact⟨v,.inl ⟨hk,h⟩⟩
 ·exact⟨v,.inr (.inl ⟨hk,h⟩)⟩
 ·obtain⟨e,w',fr,⟨v,_,hv,_⟩,_⟩:=h3 w0 hS [];exact⟨v,.inr (.inr ⟨hk,f,args,h1,h2,h3,hv⟩)⟩
theorem NPre.same {k:Nat} {o:Oper} {a a':Act} (he:execOp a'.eval o=execOp a.eval o)
  (hw:Region.wanted o (yielded ops a'.tmps)=Region.wanted o (yielded ops a.tmps)) (h:NPre P ops S C k o a):NPre P ops S C k o a':=by
 rcases h with⟨hk,v,h⟩|⟨hk,v,h⟩|⟨hk,f,args,h1,h2,h3⟩
 ·exact .inl ⟨hk,v,h.of_same he hw⟩
 ·exact .inr (.inl ⟨hk,v,h.of_same he hw⟩)
 ·exact .inr (.inr ⟨hk,f,args,by rw[hw];exact h1,by rw[he];exact h2,h3⟩)
theorem NStep.same {k:Nat} {o:Oper} {a a':Act} {v:Value} (he:execOp a'.eval o=execOp a.eval o)
  (hw:Region.wanted o (yielded ops a'.tmps)=Region.wanted o (yielded ops a.tmps)) (h:NStep P ops S C k o a v):NStep P ops S C k o a' v:=by
 rcases h with⟨hk,h⟩|⟨hk,h⟩|⟨hk,f,args,h1,h2,h3⟩
 ·exact .inl ⟨hk,h.of_same he hw⟩
 ·exact .inr (.inl ⟨hk,h.of_same he hw⟩)
 ·exact .inr (.inr ⟨hk,f,args,by rw[hw];exact h1,by rw[he];exact h2,h3⟩)
theorem TD.inv_neu {i:Nat} {r:List Nat} {a:Act} {B:Bx} (h:TD P ops Q S C w0 κ (i::r) a B) (hk:κ i≤2) {o:Oper} (ho:ops[i]? =some o):
  NPre P ops S C (κ i) o a∧∀v,NStep P ops S C (κ i) o a v→TD P ops Q S C w0 κ r (a.put o.dst v) B:=by
 cases h with
 |neu ho' _ h1 h2=>rw[ho]at ho';cases ho';exact⟨h1,h2⟩
 |alloc _ _ hk'=>omega
 |store _ hk'=>omega
 |eff _ hk'=>omega
 |cbox _ hk'=>omega
theorem TD.inv_alloc {i:Nat} {r:List Nat} {a:Act} {B:Bx} (h:TD P ops Q S C w0 κ (i::r) a B) (hk:κ i=3) {o:Oper} (ho:ops[i]? =some o):
  Region.wanted o (yielded ops a.tmps)=true∧∃(d:Tmp) (T:TypeId) (z:Array Value) (V:Nat→Value),o.dst=some d∧
   (∀w,(execOp a.eval o).run P w= .ok (.value (V w.heap.size)) (w.alloc (.cells z T)))∧
   ∀p,B p=none→TD P ops Q S C w0 κ r (a.put o.dst (V p)) (B.set p ⟨z,T,d⟩):=by
 cases h with
 |neu _ hk'=>omega
 |alloc V ho' _ h1 h2 h3 h4=>rw[ho]at ho';cases ho';exact⟨h1,_,_,_,V,h2,h3,h4⟩
 |store _ hk'=>omega
 |eff _ hk'=>omega
 |cbox _ hk'=>omega
theorem TD.inv_store {i:Nat} {r:List Nat} {a:Act} {B:Bx} (h:TD P ops Q S C w0 κ (i::r) a B) (hk:κ i=4) {o:Oper} (ho:ops[i]? =some o):
  Region.wanted o (yielded ops a.tmps)=true∧o.dst=none∧∃d T y p b,o.op= .store T (.tmp d) y∧a.eval (.tmp d)= .pointer (some ⟨p,0,none⟩)∧B p=some b∧b.tag=d∧
   (∀w,w.heap[p]? =some (.cells b.cells b.ty (0,0))→(execOp a.eval o).run P w= .ok .skip (setBlock w p (.cells (a.eval y).cells b.ty (0,0))))∧
   TD P ops Q S C w0 κ r a (B.set p {b with cells:=(a.eval y).cells}):=by
 cases h with
 |neu _ hk'=>omega
 |alloc _ _ hk'=>omega
 |store ho' _ h1 h2 h3 h4 h5 h6 h7 h8=>rw[ho]at ho';cases ho';exact⟨h1,h2,_,_,_,_,_,h3,h4,h5,h6,h7,h8⟩
 |eff _ hk'=>omega
 |cbox _ hk'=>omega
theorem TD.inv_eff {i:Nat} {r:List Nat} {a:Act} {B:Bx} (h:TD P ops Q S C w0 κ (i::r) a B) (hk:κ i=5):
  ∀w',Rel w0 B w'→wpOp P ops Q i (fun a' w''=>TE P ops Q κ r a' w'') a w':=by
 cases h with
 |neu _ hk'=>omega
 |alloc _ _ hk'=>omega
 |store _ hk'=>omega
 |eff _ _ h=>exact h
 |cbox _ hk'=>omega
theorem TD.inv_cbox {i:Nat} {r:List Nat} {a:Act} {B:Bx} (h:TD P ops Q S C w0 κ (i::r) a B) (hk:κ i=7) {o:Oper} (ho:ops[i]? =some o):
  Region.wanted o (yielded ops a.tmps)=true∧∃(d:Tmp) (f:FuncId) (args:Array Value),o.dst=some d∧(∀w,(execOp a.eval o).run P w= .ok (.enter f args) w)∧CSpec P S C f args∧
   ∀(v:Value) (p:Nat) (z:Array Value) (T:TypeId),C f #[.tuple args,.agg z,.int .i64 (p:Int)] v→B p=none→TD P ops Q S C w0 κ r (a.put o.dst v) (B.set p ⟨z,T,d⟩):=by
 cases h with
 |neu _ hk'=>omega
 |alloc _ _ hk'=>omega
 |store _ hk'=>omega
 |eff _ hk'=>omega
 |cbox ho' _ h1 h2 h3 h4 h5=>rw[ho]at ho';cases ho';exact⟨h1,_,_,_,h2,h3,h4,h5⟩
theorem CSpec.some (hSt:∀w',Mod (fun _=>False) w0 w'→S w') {f:FuncId} {args:Array Value} (h:CSpec P S C f args) {B:Bx} (hB:B.Fin) (q:Nat):
  ∃(v:Value) (p:Nat) (z:Array Value),C f #[.tuple args,.agg z,.int .i64 (p:Int)] v∧B p=none∧p≠q:=by
 obtain⟨n,hn⟩:=hB;obtain⟨w,hm,hs⟩:=grown w0 (n+q+1);obtain⟨e,w',fr,⟨v,p,z,T,_,hC,hp,_⟩,_⟩:=h w (hSt w hm) [];exact⟨v,p,z,hC,hn p (by omega),by omega⟩
theorem enter_inj {s:Sem Next} {f f':FuncId} {args args':Array Value} (w0:World) (h:∀w,s.run P w= .ok (.enter f args) w) (h':∀w,s.run P w= .ok (.enter f' args') w):f=f'∧args=args':=by
 have:=(h w0).symm.trans (h' w0);simp only[Result.ok.injEq,Next.enter.injEq,and_true]at this;exact this
theorem TD.kinds {i:Nat} {r:List Nat} {a:Act} {B:Bx} (h:TD P ops Q S C w0 κ (i::r) a B):κ i≤2∨κ i=3∨κ i=4∨κ i=5∨κ i=7:=by
 cases h<;>omega
theorem val_inj {P:Program} {s:Sem Next} {z:Array Value} {T:TypeId} {z':Array Value} {T':TypeId} {V V':Nat→Value} (h:∀w:World,s.run P w= .ok (.value (V w.heap.size)) (w.alloc (.cells z T))) (h':∀w:World,s.run P w= .ok (.value (V' w.heap.size)) (w.alloc (.cells z' T'))):V=V':=by
 funext p;have h1:=h {(default:World)with heap:=Array.replicate p default};have h2:=h' {(default:World)with heap:=Array.replicate p default};rw[h1]at h2;simp only[Array.size_replicate,Result.ok.injEq,Next.value.injEq]at h2;exact h2.1
theorem alloc_inj {w:World} {z z':Array Value} {T T':TypeId} (h:w.alloc (.cells z T)=w.alloc (.cells z' T')):z=z'∧T=T':=by
 have h1:w.heap.push (.cells z T)=w.heap.push (.cells z' T'):=congrArg World.heap h;have h2:=congrArg (fun h:Array Obj=>h[w.heap.size]?) h1;simpa using h2
def kindsOk (kx ko:Nat) (ox oo:Oper):Bool:=
 match kx,ko with
 |0,5=>true
 |2,2=>false
 |2,7=>false
 |7,2=>false
 |7,7=>false
 |7,5=>false
 |4,4=>match ox.op,oo.op with
  | .store _ (.tmp d) _,.store _ (.tmp e) _=>d !=e
  |_,_=>false
 |x,o=>(decide (x≤4)||x==7)&&(decide (o≤4)||o==7)
section swap
variable {x o:Nat} {r:List Nat} {a:Act} {B:Bx} {ox oo:Oper}
theorem TD.swap (hsel:∀(j:Nat) (p:Oper) cs b,ops[j]? =some p→p.op≠ .select cs b) (hQ:∀c a d v w,Q (.panic c) (Act.put a d v) w→Q (.panic c) a w)
  (hS:S w0) (hSt:∀w',Mod (fun _=>False) w0 w'→S w') (hB:B.Fin) (hx:ops[x]? =some ox) (ho:ops[o]? =some oo) (hap:ox.apart ops oo=true) (hk:kindsOk (κ x) (κ o) ox oo=true)
  (h:TD P ops Q S C w0 κ (x::o::r) a B):TD P ops Q S C w0 κ (o::x::r) a B:=by
 obtain⟨h1,h2,h3⟩:=Oper.apart_spec hap;have eo:∀(a:Act) v,execOp (a.put ox.dst v).eval oo=execOp a.eval oo:=fun a v=>execOp_put oo (fun cs b=>hsel o oo cs b ho) a ox.dst v h1;have wo:∀(a:Act) v,Region.wanted oo (yielded ops (a.put ox.dst v).tmps)=Region.wanted oo (yielded ops a.tmps):=fun a v=>wanted_put oo a ox.dst v h1;have ex:∀(a:Act) v,execOp (a.put oo.dst v).eval ox=execOp a.eval ox:=fun a v=>execOp_put ox (fun cs b=>hsel x ox cs b hx) a oo.dst v h3;have wx:∀(a:Act) v,Region.wanted ox (yielded ops (a.put oo.dst v).tmps)=Region.wanted ox (yielded ops a.tmps):=fun a v=>wanted_put ox a oo.dst v h3;have pc:∀(a:Act) u v,(a.put ox.dst u).put oo.dst v=(a.put oo.dst v).put ox.dst u:=fun a u v=>Act.put_comm a u v h2;have evx:∀(a:Act) v (y:Tmp),y∈ox.looksAt ops→(a.put oo.dst v).eval (.tmp y)=a.eval (.tmp y):=fun a v y hy=>Act.eval_put (fun d hd e=>h3 d hd (by cases e;exact hy));have evo:∀(a:Act) v (y:Tmp),y∈oo.looksAt ops→(a.put ox.dst v).eval (.tmp y)=a.eval (.tmp y):=fun a v y hy=>Act.eval_put (fun d hd e=>h1 d hd (by cases e;exact hy));have evx':∀(a:Act) v (y:Operand),y∈ox.op.operands→(a.put oo.dst v).eval y=a.eval y:=fun a v y hy=>Act.eval_put (fun d hd e=>h3 d hd (by
  subst e;exact List.mem_append_left _ (List.mem_filterMap.2 ⟨.tmp d,by simpa using hy,rfl⟩)))
 have evo':∀(a:Act) v (y:Operand),y∈oo.op.operands→(a.put ox.dst v).eval y=a.eval y:=fun a v y hy=>Act.eval_put (fun d hd e=>h1 d hd (by
  subst e;exact List.mem_append_left _ (List.mem_filterMap.2 ⟨.tmp d,by simpa using hy,rfl⟩)))
 rcases h.kinds with kx|kx|kx|kx|kx
 ·--x is neutral
  obtain⟨px,hx1⟩:=h.inv_neu kx hx;obtain⟨v0,hv0⟩:=px.step hS;rcases(hx1 v0 hv0).kinds with ko|ko|ko|ko|ko
  ·obtain⟨po,_⟩:=(hx1 v0 hv0).inv_neu ko ho;refine .neu ho ko (po.same (eo a v0).symm (wo a v0).symm) fun v hv=> ?_;refine .neu hx kx (px.same (ex a v) (wx a v)) fun u hu=> ?_;have hu':NStep P ops S C (κ x) ox a u:=hu.same (ex a v).symm (wx a v).symm;rw[←pc];exact((hx1 u hu').inv_neu ko ho).2 v (hv.same (eo a u) (wo a u))
  ·obtain⟨w1,d,T,z,V,hd,hr,_⟩:=(hx1 v0 hv0).inv_alloc ko ho;rw[wo]at w1;rw[eo]at hr;refine .alloc V ho ko w1 hd hr fun p hp=> ?_;refine .neu hx kx (px.same (ex a _) (wx a _)) fun u hu=> ?_;have hu':NStep P ops S C (κ x) ox a u:=hu.same (ex a _).symm (wx a _).symm;obtain⟨_,d',T',z',V',hd',hr',ht⟩:=(hx1 u hu').inv_alloc ko ho;rw[eo]at hr';obtain rfl:=val_inj hr hr';have:=(hr w0).symm.trans (hr' w0);simp only[Result.ok.injEq,true_and]at this;obtain⟨rfl,rfl⟩:=alloc_inj this;rw[hd]at hd';cases hd';rw[←pc];exact ht p hp
  ·obtain⟨w1,hd,d,T,y,p,b,hop,hev,hb,htag,hr,_⟩:=(hx1 v0 hv0).inv_store ko ho;rw[wo]at w1;rw[eo]at hr;rw[evo' a v0 _ (by simp[hop,Op.operands])]at hev;rw[evo' a v0 _ (by simp[hop,Op.operands])]at hr;refine .store ho ko w1 hd hop hev hb htag hr ?_;refine .neu hx kx px fun u hu=> ?_;obtain⟨_,_,d',T',y',p',b',hop',hev',hb',htag',hr',ht⟩:=(hx1 u hu).inv_store ko ho;rw[hop]at hop';cases hop';rw[evo' a u _ (by simp[hop,Op.operands]),hev]at hev';simp only[Value.pointer.injEq,Option.some.injEq,Addr.mk.injEq,and_true]at hev';subst hev';rw[hb]at hb';cases hb';rw[evo' a u _ (by simp[hop,Op.operands])]at ht;exact ht
  ·have kx0:κ x=0:=by
    rw[ko]at hk;unfold kindsOk at hk;split at hk<;>simp_all
   have:∀w',Rel w0 B w'→wpOp P ops Q o (fun a' w''=>TE P ops Q κ (x::r) a' w'') a w':=fun w' hw'=>by
    obtain⟨v1,hv1⟩:∃v,YieldsIf P ops (fun _=>True) ox v a:=by
     rcases px with⟨_,hv⟩|⟨hk',_⟩|⟨hk',_⟩
     ·exact hv
     ·omega
     ·omega
    have hE:=(hx1 v1 (.inl ⟨kx0,hv1⟩)).inv_eff ko w' hw';exact wpOp_mono (fun a' w'' hh=> .val hx hh.1 hh.2) (wpOp_putIf ho hap (fun cs b=>hsel x ox cs b hx) (fun cs b=>hsel o oo cs b ho) (fun c a w=>hQ c a _ _ w) hv1 hE)
   exact .eff ho ko this
  ·obtain⟨w1,d,f,args,hd,hrun,hsp,_⟩:=(hx1 v0 hv0).inv_cbox ko ho;rw[wo]at w1;rw[eo]at hrun;refine .cbox ho ko w1 hd hrun hsp fun v p z T hC hp=> ?_;refine .neu hx kx (px.same (ex a _) (wx a _)) fun u hu=> ?_;have hu':NStep P ops S C (κ x) ox a u:=hu.same (ex a _).symm (wx a _).symm;obtain⟨_,d',f',args',hd',hrun',_,ht⟩:=(hx1 u hu').inv_cbox ko ho;rw[eo]at hrun';obtain⟨rfl,rfl⟩:=enter_inj w0 hrun hrun';rw[hd]at hd';cases hd';rw[←pc];exact ht v p z T hC hp
 ·--x is a new box
  obtain⟨w1,d,T,z,V,hd,hr,ht⟩:=h.inv_alloc kx hx;obtain⟨p0,hp0,_⟩:=hB.fresh 0;rcases(ht p0 hp0).kinds with ko|ko|ko|ko|ko
  ·obtain⟨po,_⟩:=(ht p0 hp0).inv_neu ko ho;refine .neu ho ko (po.same (eo a _).symm (wo a _).symm) fun v hv=> ?_;refine .alloc V hx kx (by rw[wx];exact w1) hd (by rw[ex];exact hr) fun p hp=> ?_;rw[←pc];exact((ht p hp).inv_neu ko ho).2 v (hv.same (eo a _) (wo a _))
  ·obtain⟨w2,d2,T2,z2,V2,hd2,hr2,_⟩:=(ht p0 hp0).inv_alloc ko ho;rw[wo]at w2;rw[eo]at hr2;refine .alloc V2 ho ko w2 hd2 hr2 fun p2 hp2=> ?_;refine .alloc V hx kx (by rw[wx];exact w1) hd (by rw[ex];exact hr) fun p1 hp1=> ?_;obtain⟨hne,hp1'⟩:=Bx.set_none hp1;obtain⟨_,d',T',z',V',hd',hr',ht'⟩:=(ht p1 hp1').inv_alloc ko ho;rw[eo]at hr';obtain rfl:=val_inj hr2 hr';have:=(hr2 w0).symm.trans (hr' w0);simp only[Result.ok.injEq,true_and]at this;obtain⟨rfl,rfl⟩:=alloc_inj this;rw[hd2]at hd';cases hd';rw[←pc,Bx.set_comm _ (Ne.symm hne)];exact ht' p2 (by rw[Bx.set_ne _ (Ne.symm hne)];exact hp2)
  ·obtain⟨_,_,d0,_,_,q0,_,hop0,hev0,_⟩:=(ht p0 hp0).inv_store ko ho;obtain⟨p1,hp1,hne1⟩:=hB.fresh q0;obtain⟨w2,hd2,d2,T2,y,p,b,hop,hev,hb,htag,hr2,_⟩:=(ht p1 hp1).inv_store ko ho;rw[hop0]at hop;cases hop;rw[evo' a _ _ (by simp[hop0,Op.operands])]at hev hev0;rw[hev0]at hev;simp only[Value.pointer.injEq,Option.some.injEq,Addr.mk.injEq,and_true]at hev;subst hev;rw[Bx.set_ne _ (Ne.symm hne1)]at hb;rw[wo]at w2;rw[eo,evo' a _ _ (by simp[hop0,Op.operands])]at hr2;refine .store ho ko w2 hd2 hop0 hev0 hb htag hr2 ?_;refine .alloc V hx kx w1 hd hr fun p2 hp2=> ?_;obtain⟨hne,hp2'⟩:=Bx.set_none hp2;obtain⟨_,_,d',T',y',p',b',hop',hev',hb',htag',hr',ht'⟩:=(ht p2 hp2').inv_store ko ho;rw[hop0]at hop';cases hop';rw[evo' a _ _ (by simp[hop0,Op.operands]),hev0]at hev';simp only[Value.pointer.injEq,Option.some.injEq,Addr.mk.injEq,and_true]at hev';subst hev';rw[Bx.set_ne _ (Ne.symm hne),hb]at hb';cases hb';rw[evo' a _ _ (by simp[hop0,Op.operands])]at ht';rw[Bx.set_comm _ (Ne.symm hne)];exact ht'
  ·rw[kx,ko]at hk;simp[kindsOk]at hk
  ·obtain⟨w2,d2,f,args,hd2,hrun,hsp,_⟩:=(ht p0 hp0).inv_cbox ko ho;rw[wo]at w2;rw[eo]at hrun;refine .cbox ho ko w2 hd2 hrun hsp fun v p2 z2 T2 hC hp2=> ?_;refine .alloc V hx kx (by rw[wx];exact w1) hd (by rw[ex];exact hr) fun p1 hp1=> ?_;obtain⟨hne,hp1'⟩:=Bx.set_none hp1;obtain⟨_,d',f',args',hd',hrun',_,ht'⟩:=(ht p1 hp1').inv_cbox ko ho;rw[eo]at hrun';obtain⟨rfl,rfl⟩:=enter_inj w0 hrun hrun';rw[hd2]at hd';cases hd';rw[←pc,Bx.set_comm _ (Ne.symm hne)];exact ht' v p2 z2 T2 hC (by rw[Bx.set_ne _ (Ne.symm hne)];exact hp2)
 ·--x is a store into a new box
  obtain⟨w1,hd,d,T,y,p,b,hop,hev,hb,htag,hr,ht⟩:=h.inv_store kx hx;rcases ht.kinds with ko|ko|ko|ko|ko
  ·obtain⟨po,ht'⟩:=ht.inv_neu ko ho;refine .neu ho ko po fun v hv=> ?_;refine .store (b:=b) hx kx (by rw[wx];exact w1) hd hop (by rw[evx' a _ _ (by simp[hop,Op.operands])];exact hev) hb htag
    (by rw[ex,evx' a _ _ (by simp[hop,Op.operands])];exact hr) ?_
   rw[evx' a _ _ (by simp[hop,Op.operands])];exact ht' v hv
  ·obtain⟨w2,d2,T2,z2,V2,hd2,hr2,ht'⟩:=ht.inv_alloc ko ho;refine .alloc V2 ho ko w2 hd2 hr2 fun p2 hp2=> ?_;have hne:p2≠p:=fun e=>by rw[e,hb]at hp2;cases hp2
   refine .store (b:=b) hx kx (by rw[wx];exact w1) hd hop (by rw[evx' a _ _ (by simp[hop,Op.operands])];exact hev) (by rw[Bx.set_ne _ (Ne.symm hne)];exact hb) htag
    (by rw[ex,evx' a _ _ (by simp[hop,Op.operands])];exact hr) ?_
   rw[evx' a _ _ (by simp[hop,Op.operands]),Bx.set_comm _ hne];exact ht' p2 (by rw[Bx.set_ne _ hne];exact hp2)
  ·obtain⟨w2,hd2,d2,T2,y2,p2,b2,hop2,hev2,hb2,htag2,hr2,ht'⟩:=ht.inv_store ko ho;have hne:d≠d2:=by
    rw[kx,ko]at hk;simpa[kindsOk,hop,hop2] using hk
   have hpp:p2≠p:=fun e=>by
    subst e;rw[Bx.set_same]at hb2;cases hb2;exact hne (htag.symm.trans htag2)
   rw[Bx.set_ne _ hpp]at hb2;refine .store (b:=b2) ho ko w2 hd2 hop2 hev2 hb2 htag2 hr2 ?_;refine .store (b:=b) hx kx w1 hd hop hev (by rw[Bx.set_ne _ (Ne.symm hpp)];exact hb) htag hr ?_;rw[Bx.set_comm _ hpp];exact ht'
  ·rw[kx,ko]at hk;simp[kindsOk]at hk
  ·obtain⟨w2,d2,f,args,hd2,hrun,hsp,ht'⟩:=ht.inv_cbox ko ho;refine .cbox ho ko w2 hd2 hrun hsp fun v p2 z2 T2 hC hp2=> ?_;have hne:p2≠p:=fun e=>by rw[e,hb]at hp2;cases hp2
   refine .store (b:=b) hx kx (by rw[wx];exact w1) hd hop (by rw[evx' a _ _ (by simp[hop,Op.operands])];exact hev) (by rw[Bx.set_ne _ (Ne.symm hne)];exact hb) htag
    (by rw[ex,evx' a _ _ (by simp[hop,Op.operands])];exact hr) ?_
   rw[evx' a _ _ (by simp[hop,Op.operands]),Bx.set_comm _ hne];exact ht' v p2 z2 T2 hC (by rw[Bx.set_ne _ hne];exact hp2)
 ·--x is the effect
  rw[kx]at hk;unfold kindsOk at hk;split at hk<;>simp_all
 ·--x is a call with a box
  obtain⟨w1,d,f,args,hd,hrun,hsp,ht⟩:=h.inv_cbox kx hx;obtain⟨v0,p0,z0,hC0,hp0,_⟩:=hsp.some hSt hB 0;rcases(ht v0 p0 z0 0 hC0 hp0).kinds with ko|ko|ko|ko|ko
  ·obtain⟨po,_⟩:=(ht v0 p0 z0 0 hC0 hp0).inv_neu ko ho;refine .neu ho ko (po.same (eo a _).symm (wo a _).symm) fun v hv=> ?_;refine .cbox hx kx (by rw[wx];exact w1) hd (by rw[ex];exact hrun) hsp fun u p z T hC hp=> ?_;rw[←pc];exact((ht u p z T hC hp).inv_neu ko ho).2 v (hv.same (eo a _) (wo a _))
  ·obtain⟨w2,d2,T2,z2,V2,hd2,hr2,_⟩:=(ht v0 p0 z0 0 hC0 hp0).inv_alloc ko ho;rw[wo]at w2;rw[eo]at hr2;refine .alloc V2 ho ko w2 hd2 hr2 fun p2 hp2=> ?_;refine .cbox hx kx (by rw[wx];exact w1) hd (by rw[ex];exact hrun) hsp fun u p1 z T hC hp1=> ?_;obtain⟨hne,hp1'⟩:=Bx.set_none hp1;obtain⟨_,d',T',z',V',hd',hr',ht'⟩:=(ht u p1 z T hC hp1').inv_alloc ko ho;rw[eo]at hr';obtain rfl:=val_inj hr2 hr';have:=(hr2 w0).symm.trans (hr' w0);simp only[Result.ok.injEq,true_and]at this;obtain⟨rfl,rfl⟩:=alloc_inj this;rw[hd2]at hd';cases hd';rw[←pc,Bx.set_comm _ (Ne.symm hne)];exact ht' p2 (by rw[Bx.set_ne _ (Ne.symm hne)];exact hp2)
  ·obtain⟨_,_,d0,_,_,q0,_,hop0,hev0,_⟩:=(ht v0 p0 z0 0 hC0 hp0).inv_store ko ho;obtain⟨v1,p1,z1,hC1,hp1,hne1⟩:=hsp.some hSt hB q0;obtain⟨w2,hd2,d2,T2,y,p,b,hop,hev,hb,htag,hr2,_⟩:=(ht v1 p1 z1 0 hC1 hp1).inv_store ko ho;rw[hop0]at hop;cases hop;rw[evo' a _ _ (by simp[hop0,Op.operands])]at hev hev0;rw[hev0]at hev;simp only[Value.pointer.injEq,Option.some.injEq,Addr.mk.injEq,and_true]at hev;subst hev;rw[Bx.set_ne _ (Ne.symm hne1)]at hb;rw[wo]at w2;rw[eo,evo' a _ _ (by simp[hop0,Op.operands])]at hr2;refine .store ho ko w2 hd2 hop0 hev0 hb htag hr2 ?_;refine .cbox hx kx w1 hd hrun hsp fun u p2 z T hC hp2=> ?_;obtain⟨hne,hp2'⟩:=Bx.set_none hp2;obtain⟨_,_,d',T',y',p',b',hop',hev',hb',htag',hr',ht'⟩:=(ht u p2 z T hC hp2').inv_store ko ho;rw[hop0]at hop';cases hop';rw[evo' a _ _ (by simp[hop0,Op.operands]),hev0]at hev';simp only[Value.pointer.injEq,Option.some.injEq,Addr.mk.injEq,and_true]at hev';subst hev';rw[Bx.set_ne _ (Ne.symm hne),hb]at hb';cases hb';rw[evo' a _ _ (by simp[hop0,Op.operands])]at ht';rw[Bx.set_comm _ (Ne.symm hne)];exact ht'
  ·rw[kx,ko]at hk;simp[kindsOk]at hk
  ·rw[kx,ko]at hk;simp[kindsOk]at hk
end swap
theorem TD.front (hsel:∀(j:Nat) (p:Oper) cs b,ops[j]? =some p→p.op≠ .select cs b) (hQ:∀c a d v w,Q (.panic c) (Act.put a d v) w→Q (.panic c) a w)
  (hS:S w0) (hSt:∀w',Mod (fun _=>False) w0 w'→S w') {o:Nat} {oo:Oper} (ho:ops[o]? =some oo) {post:List Nat}:∀(pre:List Nat) (a:Act) (B:Bx),B.Fin→
   (∀x∈pre,∃ox,ops[x]? =some ox∧ox.apart ops oo=true∧kindsOk (κ x) (κ o) ox oo=true)→
   TD P ops Q S C w0 κ (pre++o::post) a B→TD P ops Q S C w0 κ (o::(pre++post)) a B
 |[],_,_,_,_,h=>h
 |x::pre,a,B,hB,hp,h=>by
  obtain⟨ox,hx,hap,hk⟩:=hp x (by simp);have hp':∀y∈pre,∃oy,ops[y]? =some oy∧oy.apart ops oo=true∧kindsOk (κ y) (κ o) oy oo=true:=fun y hy=>hp y (List.mem_cons_of_mem _ hy);refine TD.swap hsel hQ hS hSt hB hx ho hap hk ?_;rcases h.kinds with kx|kx|kx|kx|kx
  ·obtain⟨h1,h2⟩:=h.inv_neu kx hx;exact .neu hx kx h1 fun v hv=>TD.front hsel hQ hS hSt ho pre _ _ hB hp' (h2 v hv)
  ·obtain⟨w1,d,T,z,V,hd,hr,ht⟩:=h.inv_alloc kx hx;exact .alloc V hx kx w1 hd hr fun p hpn=>TD.front hsel hQ hS hSt ho pre _ _ (hB.set _ _) hp' (ht p hpn)
  ·obtain⟨w1,hd,d,T,y,p,b,hop,hev,hb,htag,hr,ht⟩:=h.inv_store kx hx;exact .store hx kx w1 hd hop hev hb htag hr (TD.front hsel hQ hS hSt ho pre _ _ (hB.set _ _) hp' ht)
  ·rw[kx]at hk;unfold kindsOk at hk;split at hk<;>simp_all
  ·obtain⟨w1,d,f,args,hd,hrun,hsp,ht⟩:=h.inv_cbox kx hx;exact .cbox hx kx w1 hd hrun hsp fun v p z T hC hpn=>TD.front hsel hQ hS hSt ho pre _ _ (hB.set _ _) hp' (ht v p z T hC hpn)
theorem TE.front (hsel:∀(j:Nat) (p:Oper) cs b,ops[j]? =some p→p.op≠ .select cs b)
  {o:Nat} {oo:Oper} (ho:ops[o]? =some oo) {post:List Nat} {w:World}:∀(pre:List Nat) (a:Act),
   (∀x∈pre,∃ox,ops[x]? =some ox∧ox.apart ops oo=true∧κ x≠6∧κ o≠6)→
   TE P ops Q κ (pre++o::post) a w→TE P ops Q κ (o::(pre++post)) a w
 |[],_,_,h=>h
 |x::pre,a,hp,h=>by
  obtain⟨ox,hx,hap,k1,k2⟩:=hp x (by simp);obtain⟨h1,h2,h3⟩:=Oper.apart_spec hap;have hp':∀y∈pre,∃oy,ops[y]? =some oy∧oy.apart ops oo=true∧κ y≠6∧κ o≠6:=fun y hy=>hp y (List.mem_cons_of_mem _ hy);cases h with
  |eff R _ hk=>exact absurd hk k1
  |val hx' hy ht=>
   rw[hx]at hx';cases hx';rename_i v;have hf:=TE.front hsel ho pre _ hp' ht;cases hf with
   |eff R _ hk=>exact absurd hk k2
   |val ho' hy2 ht2=>
    rw[ho]at ho';cases ho';rename_i u;have eo:=execOp_put (ops:=ops) oo (fun cs b=>hsel o oo cs b ho) a ox.dst v h1;have wo:=wanted_put (ops:=ops) oo a ox.dst v h1;have ex:=execOp_put (ops:=ops) ox (fun cs b=>hsel x ox cs b hx) a oo.dst u h3;have wx:=wanted_put (ops:=ops) ox a oo.dst u h3;refine .val ho (hy2.of_same eo.symm wo.symm) (.val hx (hy.of_same ex wx) ?_);rw[←Act.put_comm a v u h2];exact ht2
def pathB (ops:Array Oper):Nat→Nat→Nat→Bool
 |0,_,_=>false
 |n+1,j,i=>match ops[i]? with
  |none=>false
  |some o=>o.after.any fun e=>Region.binds .any e&&(e.on==j||pathB ops n j e.on)
def sweep (x:Nat):List Oper→Nat→Nat→Nat
 |[],_,S=>S
 |o::r,i,S=>match(if o.after.toList.any fun e=>Region.binds .any e&&S.testBit e.on then S|||2^i else S)with
  |0=>sweep x r (i+1) 0
  |n+1=>sweep x r (i+1) (n+1)
theorem sweep_path {ops:Array Oper} (x:Nat):∀(r:List Oper) (i S:Nat),(∀k o,r[k]? =some o→ops[i+k]? =some o)→(∀j,S.testBit j=true→j=x∨∃n,pathB ops n x j=true)→
  ∀j,(sweep x r i S).testBit j=true→j=x∨∃n,pathB ops n x j=true
 |[],_,_,_,hS,j,h=>hS j h
 |o::r,i,S,hr,hS,j,h=>by
  have ho:ops[i]? =some o:=hr 0 o rfl;have hr':∀k o',r[k]? =some o'→ops[i+1+k]? =some o':=fun k o' hk=>by
   rw[show i+1+k=i+(k+1)by omega];exact hr (k+1) o' hk
  have key:∀T,T=(if o.after.toList.any fun e=>Region.binds .any e&&S.testBit e.on then S|||2^i else S)→∀j,T.testBit j=true→j=x∨∃n,pathB ops n x j=true:=by
   rintro T rfl j hj;split at hj
   ·rename_i hany;rw[Nat.testBit_or,Nat.testBit_two_pow,Bool.or_eq_true]at hj;rcases hj with hj|hj
    ·exact hS j hj
    ·have hij:i=j:=by simpa using hj
     subst hij;rw[List.any_eq_true]at hany;obtain⟨e,he,hb⟩:=hany;rw[Bool.and_eq_true]at hb;right;have hpa:∀n,(e.on=x∨pathB ops n x e.on=true)→pathB ops (n+1) x i=true:=fun n hh=>by
      unfold pathB;rw[ho];refine Array.any_eq_true'.2 ⟨e,by simpa using he,?_⟩;simp only[Bool.and_eq_true,Bool.or_eq_true,beq_iff_eq];exact⟨hb.1,hh⟩
     rcases hS _ hb.2 with h1|⟨n,h1⟩
     ·exact⟨1,hpa 0 (.inl h1)⟩
     ·exact⟨n+1,hpa n (.inr h1)⟩
   ·exact hS j hj
  unfold sweep at h;split at h
  ·rename_i h0;exact sweep_path x r (i+1) 0 hr' (key 0 h0.symm) j h
  ·rename_i n h0;exact sweep_path x r (i+1) (n+1) hr' (key (n+1) h0.symm) j h
def behindB (ops:Array Oper) (x:Nat):Nat:=sweep x ops.toList 0 (2^x)
theorem behindB_path {ops:Array Oper} {x o:Nat} (h:(behindB ops x).testBit o=true):o=x∨∃n,pathB ops n x o=true:=
 sweep_path x ops.toList 0 (2^x) (fun k o hk=>by simpa using hk) (fun j hj=>by
  rw[Nat.testBit_two_pow]at hj;exact .inl (by simpa using Eq.symm (by simpa using hj))) o h
def pairOk (ops:Array Oper) (κ:Nat→Nat) (x o:Nat):Bool:=
 (!(x==o)&&(behindB ops x).testBit o)||match ops[x]?,ops[o]? with
  |some ox,some oo=>ox.apart ops oo&&kindsOk (κ x) (κ o) ox oo
  |_,_=>false
def pairsOk (ops:Array Oper) (κ:Nat→Nat):List Nat→Bool
 |[]=>true
 |x::r=>r.all (fun o=>pairOk ops κ x o)&&pairsOk ops κ r
def regOk (ops:Array Oper) (κ:Nat→Nat) (l:List Nat):Bool:=
 Region.noSelect ops&&((List.range ops.size).all fun i=>match ops[i]? with|none=>false|some o=>o.after.all fun e=> !Region.binds .any e||decide (e.on<i))&&
 (decide (l.length=ops.size)&&(l.all (fun i=>decide (i<ops.size))&&((List.range ops.size).all fun i=>l.contains i)))&&(decide l.Nodup&&pairsOk ops κ l)
structure Listing (ops:Array Oper) (listed:Array Bool) (l:List Nat):Prop where
 size:listed.size=ops.size
 mem:∀i,i∈l↔listed.getD i true=false
 closed:∀i o,listed.getD i false=true→ops[i]? =some o→∀e∈o.after,Region.binds .any e=true→listed.getD e.on false=true
theorem path_listed {listed:Array Bool} (hc:∀i o,listed.getD i false=true→ops[i]? =some o→∀e∈o.after,Region.binds .any e=true→listed.getD e.on false=true):
  ∀(n j i:Nat) (o:Oper),ops[i]? =some o→(∀e∈o.after,Region.binds .any e=true→listed.getD e.on false=true)→pathB ops n j i=true→listed.getD j false=true
 |0,_,_,_,_,_,h=>by cases h
 |n+1,j,i,o,ho,hr,h=>by
  unfold pathB at h;rw[ho]at h;obtain⟨e,he,hb⟩:=Array.any_eq_true'.1 h;simp only[Bool.and_eq_true,Bool.or_eq_true,beq_iff_eq]at hb;have hl:=hr e he hb.1;rcases hb.2 with h1|h1
  ·rw[←h1];exact hl
  ·cases h2:ops[e.on]? with
   |none=>
    unfold pathB at h1;cases n<;>simp[h2]at h1
   |some o2=>exact path_listed hc n j e.on o2 h2 (hc e.on o2 hl h2) h1
theorem getD_false_of_true {listed:Array Bool} {i:Nat} (h:listed.getD i true=false):listed.getD i false=false:=by
 rcases Nat.lt_or_ge i listed.size with h'|h'
 ·simp[h']at h⊢;exact h
 ·simp[Array.getElem?_eq_none h']at h
theorem Listing.next {listed:Array Bool} {pre post:List Nat} {i:Nat} (h:Listing ops listed (pre++i::post)) (hn:(pre++i::post).Nodup) {o:Oper} (ho:ops[i]? =some o)
  (hr:∀e∈o.after,Region.binds .any e=true→listed.getD e.on false=true):Listing ops (listed.setIfInBounds i true) (pre++post) where
 size:=by simp[h.size]
 mem j:=by
  have hi:listed.getD i true=false:=(h.mem i).1 (by simp);have hlt:i<listed.size:=by
   rcases Nat.lt_or_ge i listed.size with h'|h'
   ·exact h'
   ·simp[Array.getElem?_eq_none h']at hi
  by_cases hj:i=j
  ·subst hj;constructor
   ·intro hm;exfalso;rw[List.nodup_append]at hn;obtain⟨h1,h2,h3⟩:=hn;rcases List.mem_append.1 hm with hm|hm
    ·exact h3 i hm i (by simp) rfl
    ·exact(List.nodup_cons.1 h2).1 hm
   ·intro hm;simp[hlt]at hm
  ·rw[getD_set_ne true hj,←h.mem j];simp only[List.mem_append,List.mem_cons];constructor
   ·rintro(h|h)
    ·exact .inl h
    ·exact .inr (.inr h)
   ·rintro(h|rfl|h)
    ·exact .inl h
    ·exact absurd rfl hj
    ·exact .inr h
 closed j p hj hp e he hb:=by
  by_cases hij:i=j
  ·subst hij;rw[ho]at hp;cases hp;exact getD_set_true (hr e he hb)
  ·rw[getD_set_ne false hij]at hj;exact getD_set_true (h.closed j p hj hp e he hb)
theorem pairsOk_split {κ:Nat→Nat} {i:Nat} {post:List Nat}:∀ {pre:List Nat},pairsOk ops κ (pre++i::post)=true→(∀x∈pre,pairOk ops κ x i=true)∧pairsOk ops κ (pre++post)=true
 |[],h=>by
  simp only[List.nil_append,pairsOk,Bool.and_eq_true]at h;exact⟨fun _ hx=>(List.not_mem_nil hx).elim,h.2⟩
 |x::pre,h=>by
  simp only[List.cons_append,pairsOk,Bool.and_eq_true,List.all_eq_true]at h;obtain⟨h1,h2⟩:=pairsOk_split h.2;refine⟨fun y hy=> ?_,?_⟩
  ·rcases List.mem_cons.1 hy with rfl|hy
   ·exact h.1 i (by simp)
   ·exact h1 y hy
  ·simp only[List.cons_append,pairsOk,Bool.and_eq_true,List.all_eq_true];refine⟨fun y hy=>h.1 y ?_,h2⟩;rcases List.mem_append.1 hy with hy|hy
   ·exact List.mem_append_left _ hy
   ·exact List.mem_append_right _ (List.mem_cons_of_mem _ hy)
theorem exists_ready (hback:∀i o,ops[i]? =some o→∀e∈o.after,Region.binds .any e=true→e.on<i) {listed:Array Bool} {l:List Nat} (h:Listing ops listed l)
  (hlt:∀i∈l,i<ops.size):∀n,∀i∈l,i≤n→Region.ready .any ops listed≠[]
 |n,i,hi,hin=>by
  have hio:ops[i]? =some (ops[i]'(hlt i hi)):=Array.getElem?_eq_getElem (hlt i hi);by_cases hall:∀e∈(ops[i]'(hlt i hi)).after,Region.binds .any e=true→listed.getD e.on false=true
  ·intro hnil;have:i∈Region.ready .any ops listed:=mem_ready.2 ⟨(h.mem i).1 hi,_,hio,hall⟩;rw[hnil]at this;cases this
  ·have:∃e∈(ops[i]'(hlt i hi)).after,Region.binds .any e=true∧listed.getD e.on false=false:=by
    rcases Classical.em (∃e∈(ops[i]'(hlt i hi)).after,Region.binds .any e=true∧listed.getD e.on false=false)with hh|hh
    ·exact hh
    ·exfalso;apply hall;intro e he hb;cases hc:listed.getD e.on false with
     |true=>rfl
     |false=>exact absurd ⟨e,he,hb,hc⟩ hh
   obtain⟨e,he,hb,hf⟩:=this;have hlt':=hback i _ hio e he hb;have hin':e.on∈l:=by
    rw[h.mem];have hsz:e.on<listed.size:=by rw[h.size];have:=hlt i hi;omega
    simp[hsz]at hf⊢;exact hf
   match n with
   |0=>omega
   |n+1=>exact exists_ready hback h hlt n e.on hin' (by omega)
theorem TE.sound (hsel:∀(j:Nat) (p:Oper) cs b,ops[j]? =some p→p.op≠ .select cs b)
  (hback:∀i o,ops[i]? =some o→∀e∈o.after,Region.binds .any e=true→e.on<i):
  ∀(fuel:Nat) (l:List Nat) (listed:Array Bool) (a:Act) (w:World),l.length=fuel→l.Nodup→(∀i∈l,i<ops.size)→pairsOk ops κ l=true→Listing ops listed l→TE P ops Q κ l a w→wpAny P .any ops Q fuel listed a w:=by
 intro fuel
 induction fuel with
 |zero=>
  intro l listed a w hl hn hlt hp hL h;obtain rfl:l=[]:=List.length_eq_zero_iff.1 hl;refine⟨?_,?_⟩
  ·rw[List.eq_nil_iff_forall_not_mem];intro i hi;have:=(hL.mem i).2 (mem_ready.1 hi).1;cases this
  ·cases h with|nil h=>exact h
 |succ fuel ih=>
  intro l listed a w hl hn hlt hp hL h;refine⟨fun hnil=> ?_,fun i hi=> ?_⟩
  ·exfalso
   match l,hl with
   |i::l',_=>exact exists_ready hback hL hlt i i (by simp) (Nat.le_refl _) hnil
  ·obtain⟨hun,o,ho,hall⟩:=mem_ready.1 hi;obtain⟨pre,post,rfl⟩:=List.append_of_mem ((hL.mem i).2 hun);obtain⟨h1,h2⟩:=pairsOk_split hp;have hf:=TE.front hsel ho pre a (fun x hx=>by
    have:=h1 x hx;unfold pairOk at this;have hxo:ops[x]? =some (ops[x]'(hlt x (by simp[hx]))):=Array.getElem?_eq_getElem _;rw[hxo,ho]at this;simp only[Bool.or_eq_true,Bool.and_eq_true]at this;rcases this with hpth|hok
    ·obtain⟨_,hpth⟩:=(behindB_path hpth.2).resolve_left (fun e=>by have:=hpth.1;simp[e]at this);have hl1:=path_listed hL.closed _ x i o ho hall hpth;have hl2:=getD_false_of_true ((hL.mem x).1 (by simp[hx]));rw[hl1]at hl2;cases hl2
    ·refine⟨_,hxo,hok.1,fun e=> ?_,fun e=> ?_⟩
     ·have:=hok.2;rw[e]at this;unfold kindsOk at this;split at this<;>simp_all
     ·have:=hok.2;rw[e]at this;unfold kindsOk at this;split at this<;>simp_all) h
   have hl':(pre++post).length=fuel:=by simp at hl⊢;omega
   have hn':(pre++post).Nodup:=hn.sublist (List.Sublist.append_left (List.sublist_cons_self _ _) _);have hlt':∀j∈pre++post,j<ops.size:=fun j hj=>hlt j (by
    rcases List.mem_append.1 hj with hj|hj
    ·exact List.mem_append_left _ hj
    ·exact List.mem_append_right _ (List.mem_cons_of_mem _ hj))
   cases hf with
   |val ho' hy ht=>
    rw[ho]at ho';cases ho';exact YieldsIf.wpOp ho hy trivial (ih (pre++post) _ _ _ hl' hn' hlt' h2 (hL.next hn ho hall) ht)
   |eff R ho' hk hR hT=>exact wpOp_mono (fun a' w' hh=>ih (pre++post) _ _ _ hl' hn' hlt' h2 (hL.next hn ho hall) (hT a' w' hh)) hR
theorem TD.sound (hsel:∀(j:Nat) (p:Oper) cs b,ops[j]? =some p→p.op≠ .select cs b) (hQ:∀c a d v w,Q (.panic c) (Act.put a d v) w→Q (.panic c) a w)
  (hback:∀i o,ops[i]? =some o→∀e∈o.after,Region.binds .any e=true→e.on<i) (hS:S w0) (hSt:∀w,Mod (fun _=>False) w0 w→S w):
  ∀(fuel:Nat) (l:List Nat) (listed:Array Bool) (a:Act) (B:Bx) (w:World),l.length=fuel→l.Nodup→(∀i∈l,i<ops.size)→pairsOk ops κ l=true→Listing ops listed l→B.Fin→
   Rel w0 B w→TD P ops Q S C w0 κ l a B→wpAny P .any ops Q fuel listed a w:=by
 intro fuel
 induction fuel with
 |zero=>
  intro l listed a B w hl hn hlt hp hL hB hR h;obtain rfl:l=[]:=List.length_eq_zero_iff.1 hl;refine⟨?_,?_⟩
  ·rw[List.eq_nil_iff_forall_not_mem];intro i hi;have:=(hL.mem i).2 (mem_ready.1 hi).1;cases this
  ·cases h with|nil h=>exact h w hR
 |succ fuel ih=>
  intro l listed a B w hl hn hlt hp hL hB hR h;refine⟨fun hnil=> ?_,fun i hi=> ?_⟩
  ·exfalso
   match l,hl with
   |i::l',_=>exact exists_ready hback hL hlt i i (by simp) (Nat.le_refl _) hnil
  ·obtain⟨hun,o,ho,hall⟩:=mem_ready.1 hi;obtain⟨pre,post,rfl⟩:=List.append_of_mem ((hL.mem i).2 hun);obtain⟨h1,h2⟩:=pairsOk_split hp;have hf:=TD.front hsel hQ hS hSt ho pre a B hB (fun x hx=>by
    have:=h1 x hx;unfold pairOk at this;have hxo:ops[x]? =some (ops[x]'(hlt x (by simp[hx]))):=Array.getElem?_eq_getElem _;rw[hxo,ho]at this;simp only[Bool.or_eq_true,Bool.and_eq_true]at this;rcases this with hpth|hok
    ·obtain⟨_,hpth⟩:=(behindB_path hpth.2).resolve_left (fun e=>by have:=hpth.1;simp[e]at this);have hl1:=path_listed hL.closed _ x i o ho hall hpth;have hl2:=getD_false_of_true ((hL.mem x).1 (by simp[hx]));rw[hl1]at hl2;cases hl2
    ·exact⟨_,hxo,hok.1,hok.2⟩) h
   have hl':(pre++post).length=fuel:=by simp at hl⊢;omega
   have hn':(pre++post).Nodup:=hn.sublist (List.Sublist.append_left (List.sublist_cons_self _ _) _);have hlt':∀j∈pre++post,j<ops.size:=fun j hj=>hlt j (by
    rcases List.mem_append.1 hj with hj|hj
    ·exact List.mem_append_left _ hj
    ·exact List.mem_append_right _ (List.mem_cons_of_mem _ hj))
   have hL':=hL.next hn ho hall;rcases hf.kinds with ko|ko|ko|ko|ko
   ·obtain⟨hpre,ht⟩:=hf.inv_neu ko ho;rcases hpre with⟨hk,v,hy⟩|⟨hk,v,hy⟩|⟨hk,f,args,hw,hrun,hsp⟩
    ·exact YieldsIf.wpOp ho hy trivial (ih _ _ _ _ _ hl' hn' hlt' h2 hL' hB hR (ht v (.inl ⟨hk,hy⟩)))
    ·exact YieldsIf.wpOp ho hy (hSt w hR.mod) (ih _ _ _ _ _ hl' hn' hlt' h2 hL' hB hR (ht v (.inr (.inl ⟨hk,hy⟩))))
    ·unfold wpOp;simp only[ho,hw,if_true];refine .inl ?_;unfold Oper.wp;rw[hrun w];refine(hsp w (hSt w hR.mod)).mono ?_;rintro e w' ⟨v,rfl,hv,hm⟩;exact ih _ _ _ _ _ hl' hn' hlt' h2 hL' hB (hR.mods hm) (ht v (.inr (.inr ⟨hk,f,args,hw,hrun,hsp,hv⟩)))
   ·obtain⟨hw,d,T,z,V,hd,hr,ht⟩:=hf.inv_alloc ko ho;unfold wpOp;simp only[ho,hw,if_true];refine .inl ?_;unfold Oper.wp;rw[hr w];exact ih _ _ _ _ _ hl' hn' hlt' h2 hL' (hB.set _ _) (hR.alloc z T d) (ht _ hR.none)
   ·obtain⟨hw,hd,d,T,y,p,b,hop,hev,hb,htag,hr,ht⟩:=hf.inv_store ko ho;unfold wpOp;simp only[ho,hw,if_true];refine .inl ?_;unfold Oper.wp;rw[hr w (hR.box p b hb).2];simp only[Oper.upon,hd];exact ih _ _ _ _ _ hl' hn' hlt' h2 hL' (hB.set _ _) (hR.store hb _) ht
   ·have hE:=hf.inv_eff ko w hR;refine wpOp_mono (fun a' w' hh=> ?_) hE;exact TE.sound hsel hback fuel _ _ _ _ hl' hn' hlt' h2 hL' hh
   ·obtain⟨hw,d,f,args,hd,hrun,hsp,ht⟩:=hf.inv_cbox ko ho;unfold wpOp;simp only[ho,hw,if_true];refine .inl ?_;unfold Oper.wp;rw[hrun w];refine(hsp w (hSt w hR.mod)).mono ?_;rintro e w' ⟨v,p,z,T,rfl,hC,hp,hkp,hm⟩;exact ih _ _ _ _ _ hl' hn' hlt' h2 hL' (hB.set _ _) (hR.cbox hm d hp hkp) (ht v p z T hC (hR.free hp))
theorem any_of_pass {a:Act} {w w1:World} (l:List Nat) (hok:regOk ops κ l=true)
  (hQ:∀c a d v w,Q (.panic c) (Act.put a d v) w→Q (.panic c) a w) (hSt:∀w',Mod (fun _=>False) w w'→S w') (hR:Rel w Bx.nil w1)
  (h:TD P ops Q S C w κ l a Bx.nil):wpAny P .any ops Q ops.size (Array.replicate ops.size false) a w1:=by
 simp only[regOk,Bool.and_eq_true,List.all_eq_true,decide_eq_true_eq]at hok;obtain⟨⟨⟨h1,h2⟩,h3,h4,h5⟩,hnd,h6⟩:=hok;have hback:∀i o,ops[i]? =some o→∀e∈o.after,Region.binds .any e=true→e.on<i:=fun i o ho e he hb=>by
  have:=h2 i (List.mem_range.2 (Array.getElem?_eq_some_iff.1 ho).1);rw[ho]at this;have:=Array.all_eq_true_iff_forall_mem.1 this e he;simpa[hb] using this
 refine TD.sound (Region.noSelect_spec h1) hQ hback (hSt w (Mod.refl _ _)) hSt _ l _ a _ _ h3 hnd h4 h6 ?_ Bx.nil_fin hR h;refine⟨by simp,fun i=> ?_,fun i o hi=> ?_⟩
 ·constructor
  ·intro hi;have:=h4 i hi;simp[this]
  ·intro hi;have:i<ops.size:=by
    rcases Nat.lt_or_ge i ops.size with h'|h'
    ·exact h'
    ·simp[Nat.not_lt.2 h']at hi
   simpa using h5 i (List.mem_range.2 this)
 ·exfalso;have:(Array.replicate ops.size false).getD i false=false:=by
   by_cases h':i<ops.size
   ·simp[h']
   ·simp[h']
  rw[this]at hi;cases hi
theorem wp_region_pass {id:Nat} {a:Act} {w:World} (l:List Nat) (hm:P.follows .mixedOrders=true) (hok:regOk ops κ l=true)
  (hQ:∀c a d v w,Q (.panic c) (Act.put a d v) w→Q (.panic c) a w) (hSt:∀w',Mod (fun _=>False) w w'→S w')
  (h:TD P ops Q S C w κ l a Bx.nil):(Code.region id ops true).wp P Q a w:=
 wp_region_any hm (any_of_pass l hok hQ hSt ⟨(Mod.refl _ w).drew,fun _ _ hh=>by cases hh⟩ h)
theorem wp_region_pass0 {id:Nat} {a:Act} {w:World} (l:List Nat) (hlin:Region.linearise .any ops 0=List.range ops.size) (hok:regOk ops κ l=true)
  (hQ:∀c a d v w,Q (.panic c) (Act.put a d v) w→Q (.panic c) a w) (hSt:∀w',Mod (fun _=>False) w w'→S w')
  (h:TD P ops Q S C w κ l a Bx.nil):(Code.region id ops false).wp P Q a w:=by
 refine wp_region ?_;rw[←hlin];exact wpAny_sound ops.size 0 _ a w (any_of_pass l hok hQ hSt (Rel.start w) h)
theorem wp_pass {C:FuncId→Array Value→Value→Prop} {κ:Nat→Nat} {id:Nat} {a:Act} {w:World} (l:List Nat) (hm:P.follows .mixedOrders=true) (hok:regOk ops κ l=true)
  (hQ:∀c a d v w,Q (.panic c) (Act.put a d v) w→Q (.panic c) a w)
  (h:TD P ops Q (Mod (fun _=>False) w) C w κ l a Bx.nil):(Code.region id ops true).wp P Q a w:=wp_region_pass l hm hok hQ (fun _ h=>h) h
theorem wp_pass0 {C:FuncId→Array Value→Value→Prop} {κ:Nat→Nat} {id:Nat} {a:Act} {w:World} (l:List Nat) (hlin:Region.linearise .any ops 0=List.range ops.size) (hok:regOk ops κ l=true)
  (hQ:∀c a d v w,Q (.panic c) (Act.put a d v) w→Q (.panic c) a w)
  (h:TD P ops Q (Mod (fun _=>False) w) C w κ l a Bx.nil):(Code.region id ops false).wp P Q a w:=wp_region_pass0 l hlin hok hQ (fun _ h=>h) h
theorem TD.val0 {i:Nat} {r:List Nat} {a:Act} {B:Bx} {o:Oper} {v:Value} (ho:ops[i]? =some o) (hk:κ i=0) (hw:Region.wanted o (yielded ops a.tmps)=true)
  (hy:∀w,(execOp a.eval o).run P w= .ok (.value v) w) (h:TD P ops Q S C w0 κ r (a.put o.dst v) B):TD P ops Q S C w0 κ (i::r) a B:=by
 refine .neu ho (by omega) (.inl ⟨hk,v,.inl ⟨hw,fun w _=>hy w⟩⟩) fun u hu=> ?_;rcases hu with⟨_,hu⟩|⟨hk',_⟩|⟨hk',_⟩
 ·rcases hu with⟨_,hu⟩|⟨hw',_⟩
  ·have:=(hy w0).symm.trans (hu w0 trivial);simp only[Result.ok.injEq,Next.value.injEq,and_true]at this;subst this;exact h
  ·rw[hw]at hw';cases hw'
 ·omega
 ·omega
theorem TD.val1 {i:Nat} {r:List Nat} {a:Act} {B:Bx} {o:Oper} {v:Value} (hS:S w0) (ho:ops[i]? =some o) (hk:κ i=1) (hw:Region.wanted o (yielded ops a.tmps)=true)
  (hy:∀w,S w→(execOp a.eval o).run P w= .ok (.value v) w) (h:TD P ops Q S C w0 κ r (a.put o.dst v) B):TD P ops Q S C w0 κ (i::r) a B:=by
 refine .neu ho (by omega) (.inr (.inl ⟨hk,v,.inl ⟨hw,fun w hs=>hy w hs⟩⟩)) fun u hu=> ?_;rcases hu with⟨hk',_⟩|⟨_,hu⟩|⟨hk',_⟩
 ·omega
 ·rcases hu with⟨_,hu⟩|⟨hw',_⟩
  ·have:=(hy w0 hS).symm.trans (hu w0 hS);simp only[Result.ok.injEq,Next.value.injEq,and_true]at this;subst this;exact h
  ·rw[hw]at hw';cases hw'
 ·omega
theorem TD.pass {i:Nat} {r:List Nat} {a:Act} {B:Bx} {o:Oper} (ho:ops[i]? =some o) (hk:κ i=0) (hw:Region.wanted o (yielded ops a.tmps)=false)
  (h:TD P ops Q S C w0 κ r (a.put o.dst undef) B):TD P ops Q S C w0 κ (i::r) a B:=by
 refine .neu ho (by omega) (.inl ⟨hk,undef,.inr ⟨hw,rfl⟩⟩) fun u hu=> ?_;rcases hu with⟨_,hu⟩|⟨hk',_⟩|⟨hk',_⟩
 ·rcases hu with⟨hw',_⟩|⟨_,rfl⟩
  ·rw[hw]at hw';cases hw'
  ·exact h
 ·omega
 ·omega
theorem TD.pass1 {i:Nat} {r:List Nat} {a:Act} {B:Bx} {o:Oper} (ho:ops[i]? =some o) (hk:κ i=1) (hw:Region.wanted o (yielded ops a.tmps)=false)
  (h:TD P ops Q S C w0 κ r (a.put o.dst undef) B):TD P ops Q S C w0 κ (i::r) a B:=by
 refine .neu ho (by omega) (.inr (.inl ⟨hk,undef,.inr ⟨hw,rfl⟩⟩)) fun u hu=> ?_;rcases hu with⟨hk',_⟩|⟨_,hu⟩|⟨hk',_⟩
 ·omega
 ·rcases hu with⟨hw',_⟩|⟨_,rfl⟩
  ·rw[hw]at hw';cases hw'
  ·exact h
 ·omega
theorem TD.call {i:Nat} {r:List Nat} {a:Act} {B:Bx} {o:Oper} {f:FuncId} {args:Array Value} (hS:S w0) (ho:ops[i]? =some o) (hk:κ i=2) (hw:Region.wanted o (yielded ops a.tmps)=true)
  (hy:∀w,(execOp a.eval o).run P w= .ok (.enter f args) w) (hsp:Spec P S C f args) (h:∀v,C f args v→TD P ops Q S C w0 κ r (a.put o.dst v) B):TD P ops Q S C w0 κ (i::r) a B:=by
 refine .neu ho (by omega) (.inr (.inr ⟨hk,f,args,hw,hy,hsp⟩)) fun u hu=> ?_;rcases hu with⟨hk',_⟩|⟨hk',_⟩|⟨_,f',args',_,hy',_,hu⟩
 ·omega
 ·omega
 ·have:=(hy w0).symm.trans (hy' w0);simp only[Result.ok.injEq,Next.enter.injEq,and_true]at this;obtain⟨rfl,rfl⟩:=this;exact h u hu
theorem exec_load {ρ:Operand→Value} {o:Oper} {T:TypeId} {x:Operand} {p v:Value} {w:World} (ho:o.op= .load T x) (hx:ρ x=p)
  (hr:(Instr.loadAt T p).run P w= .ok v w):(execOp ρ o).run P w= .ok (.value v) w:=by
 subst hx;simp[execOp,ho,hr]
theorem TD.load {i:Nat} {r:List Nat} {a:Act} {B:Bx} {o:Oper} {T:TypeId} {x:Operand} {p v:Value} (hS:S w0) (ho:ops[i]? =some o) (hk:κ i=1) (hw:Region.wanted o (yielded ops a.tmps)=true)
  (hop:o.op= .load T x) (hx:a.eval x=p) (hy:∀w,S w→(Instr.loadAt T p).run P w= .ok v w) (h:TD P ops Q S C w0 κ r (a.put o.dst v) B):TD P ops Q S C w0 κ (i::r) a B:=
 TD.val1 hS ho hk hw (fun w hs=>exec_load hop hx (hy w hs)) h
theorem TD.lookup {i:Nat} {r:List Nat} {a:Act} {B:Bx} {o:Oper} {T:TypeId} {x y:Operand} {ok:Bool} {p q v:Value} (hS:S w0) (ho:ops[i]? =some o) (hk:κ i=1) (hw:Region.wanted o (yielded ops a.tmps)=true)
  (hop:o.op= .lookup T x y ok) (hx:a.eval x=p) (hy:a.eval y=q) (hr:∀w,S w→(Instr.lookup T p q ok).run P w= .ok v w) (h:TD P ops Q S C w0 κ r (a.put o.dst v) B):TD P ops Q S C w0 κ (i::r) a B:=
 TD.val1 hS ho hk hw (fun w hs=>by subst hx;subst hy;simp[execOp,hop,hr w hs]) h
theorem TD.entry {i:Nat} {r:List Nat} {a:Act} {B:Bx} {o:Oper} {x:Operand} {p v:Value} (hS:S w0) (ho:ops[i]? =some o) (hk:κ i=1) (hw:Region.wanted o (yielded ops a.tmps)=true)
  (hop:o.op= .entry x) (hx:a.eval x=p) (hr:∀w,S w→(Instr.entry p).run P w= .ok v w) (h:TD P ops Q S C w0 κ r (a.put o.dst v) B):TD P ops Q S C w0 κ (i::r) a B:=
 TD.val1 hS ho hk hw (fun w hs=>by subst hx;simp[execOp,hop,hr w hs]) h
theorem TD.build {i:Nat} {r:List Nat} {a:Act} {B:Bx} {o:Oper} {T:TypeId} {parts:Array (Nat×Operand)} {ps:Array (Nat×Value)} {v:Value} (ho:ops[i]? =some o) (hk:κ i=0) (hw:Region.wanted o (yielded ops a.tmps)=true)
  (hop:o.op= .build T parts) (hx:parts.map (fun(p:Nat×Operand)=>(p.1,a.eval p.2))=ps) (hr:∀w,(Instr.build T ps).run P w= .ok v w) (h:TD P ops Q S C w0 κ r (a.put o.dst v) B):TD P ops Q S C w0 κ (i::r) a B:=
 TD.val0 ho hk hw (fun w=>by subst hx;simp[execOp,hop,hr w]) h
theorem TD.allocB {i:Nat} {r:List Nat} {a:Act} {B:Bx} {o:Oper} {d:Tmp} {T:TypeId} {z:Array Value} (ho:ops[i]? =some o) (hk:κ i=3)
  (hw:Region.wanted o (yielded ops a.tmps)=true) (hd:o.dst=some d) (hop:o.op= .alloc T)
  (hr:∀w,(Instr.alloc T true (.tuple #[])).run P w= .ok (.pointer (some ⟨w.heap.size,0,none⟩)) (w.alloc (.cells z T)))
  (h:∀p,B p=none→TD P ops Q S C w0 κ r (a.put o.dst (.pointer (some ⟨p,0,none⟩))) (B.set p ⟨z,T,d⟩)):TD P ops Q S C w0 κ (i::r) a B:=
 .alloc (fun p=> .pointer (some ⟨p,0,none⟩)) ho hk hw hd (fun w=>by simp[execOp,hop,hr w]) h
theorem TD.slice {i:Nat} {r:List Nat} {a:Act} {B:Bx} {o:Oper} {T:TypeId} {s:Operand} {lo hi mx:Option Operand} {v w':Value} {l' h' m':Option Value} (ho:ops[i]? =some o) (hk:κ i=0) (hw:Region.wanted o (yielded ops a.tmps)=true)
  (hop:o.op= .slice T s lo hi mx) (hs:a.eval s=v) (hl:lo.map a.eval=l') (hh:hi.map a.eval=h') (hm:mx.map a.eval=m') (hr:∀w,(Instr.sliceAt T v l' h' m').run P w= .ok w' w) (h:TD P ops Q S C w0 κ r (a.put o.dst w') B):TD P ops Q S C w0 κ (i::r) a B:=
 TD.val0 ho hk hw (fun w=>by subst hs;subst hl;subst hh;subst hm;simp[execOp,hop,hr w]) h
theorem TD.bslice {i:Nat} {r:List Nat} {a:Act} {B:Bx} {o:Oper} {d:Tmp} {T E:TypeId} {n:Nat} {parts:Array (Nat×Operand)} {ps:Array (Nat×Value)} {z:Array Value} (ho:ops[i]? =some o) (hk:κ i=3)
  (hw:Region.wanted o (yielded ops a.tmps)=true) (hd:o.dst=some d) (hop:o.op= .buildSlice T n parts) (hx:parts.map (fun(p:Nat×Operand)=>(p.1,a.eval p.2))=ps)
  (hr:∀w,(Instr.buildSlice T n ps).run P w= .ok (.slice (some ⟨w.heap.size,0,none⟩) n n) (w.alloc (.cells z E)))
  (h:∀p,B p=none→TD P ops Q S C w0 κ r (a.put o.dst (.slice (some ⟨p,0,none⟩) n n)) (B.set p ⟨z,E,d⟩)):TD P ops Q S C w0 κ (i::r) a B:=
 .alloc (fun p=> .slice (some ⟨p,0,none⟩) n n) ho hk hw hd (fun w=>by subst hx;simp[execOp,hop,hr w]) h
theorem TD.box {i:Nat} {r:List Nat} {a:Act} {B:Bx} {o:Oper} {d:Tmp} {T:TypeId} {x:Operand} {v:Value} (ho:ops[i]? =some o) (hk:κ i=3)
  (hw:Region.wanted o (yielded ops a.tmps)=true) (hd:o.dst=some d) (hop:o.op= .box T x) (hx:a.eval x=v)
  (h:∀p,B p=none→TD P ops Q S C w0 κ r (a.put o.dst (.pointer (some ⟨p,0,none⟩))) (B.set p ⟨v.cells,T,d⟩)):TD P ops Q S C w0 κ (i::r) a B:=
 .alloc (fun p=> .pointer (some ⟨p,0,none⟩)) ho hk hw hd (fun w=>by subst hx;simp[execOp,hop,Instr.box,newVar,newRow,newObj];rfl) h
theorem TD.storeB {i:Nat} {r:List Nat} {a:Act} {B:Bx} {o:Oper} {d:Tmp} {T:TypeId} {y:Operand} {p:Nat} {b:LB} {v:Value} (ho:ops[i]? =some o) (hk:κ i=4)
  (hw:Region.wanted o (yielded ops a.tmps)=true) (hd:o.dst=none) (hop:o.op= .store T (.tmp d) y) (hev:a.eval (.tmp d)= .pointer (some ⟨p,0,none⟩)) (hyv:a.eval y=v) (hb:B p=some b) (htag:b.tag=d)
  (hr:∀w,w.heap[p]? =some (.cells b.cells b.ty (0,0))→(Instr.storeAt T (.pointer (some ⟨p,0,none⟩)) v).run P w= .ok () (setBlock w p (.cells v.cells b.ty (0,0))))
  (h:TD P ops Q S C w0 κ r a (B.set p {b with cells:=v.cells})):TD P ops Q S C w0 κ (i::r) a B:=by
 subst hyv;exact .store ho hk hw hd hop hev hb htag (fun w hw=>by simp[execOp,hop,hev,hr w hw]) h
theorem eff_skip {i:Nat} {a:Act} {o:Oper} {K:Act→World→Prop} {w w':World} (ho:ops[i]? =some o) (hw:Region.wanted o (yielded ops a.tmps)=true)
  (hr:(execOp a.eval o).run P w= .ok .skip w') (h:K (a.put o.dst undef) w'):wpOp P ops Q i K a w:=by
 unfold wpOp;simp only[ho,hw,if_true];refine .inl ?_;unfold Oper.wp;rw[hr];exact h
theorem eff_value {i:Nat} {a:Act} {o:Oper} {K:Act→World→Prop} {w w':World} {v:Value} (ho:ops[i]? =some o) (hw:Region.wanted o (yielded ops a.tmps)=true)
  (hr:(execOp a.eval o).run P w= .ok (.value v) w') (h:K (a.put o.dst v) w'):wpOp P ops Q i K a w:=by
 unfold wpOp;simp only[ho,hw,if_true];refine .inl ?_;unfold Oper.wp;rw[hr];exact h
theorem eff_update {i:Nat} {a:Act} {o:Oper} {K:Act→World→Prop} {w w':World} {T:TypeId} {x y z:Operand} {X Y Z:Value} (ho:ops[i]? =some o) (hw:Region.wanted o (yielded ops a.tmps)=true)
  (hop:o.op= .mapUpdate T x y z) (hx:a.eval x=X) (hy:a.eval y=Y) (hz:a.eval z=Z) (hr:(Instr.mapUpdate T X Y Z).run P w= .ok () w') (h:K (a.put o.dst undef) w'):wpOp P ops Q i K a w:=
 eff_skip ho hw (by subst hx;subst hy;subst hz;simp[execOp,hop,hr]) h
theorem eff_delete {i:Nat} {a:Act} {o:Oper} {K:Act→World→Prop} {w w':World} {T U:TypeId} {x y:Operand} {X Y v:Value} (ho:ops[i]? =some o) (hw:Region.wanted o (yielded ops a.tmps)=true)
  (hop:o.op= .call {callee:= .builtin .delete,args:= #[x,y],argTypes:= #[T,U]}) (hx:a.eval x=X) (hy:a.eval y=Y) (hr:(Builtin.delete_ #[T,U] o.type #[X,Y]).run P w= .ok v w') (h:K (a.put o.dst v) w'):wpOp P ops Q i K a w:=
 eff_value ho hw (by subst hx;subst hy;simp[execOp,hop,resolve,invoke,builtin,hr]) h
theorem eff_store {i:Nat} {a:Act} {o:Oper} {K:Act→World→Prop} {w w':World} {T:TypeId} {x y:Operand} {X Y:Value} (ho:ops[i]? =some o) (hw:Region.wanted o (yielded ops a.tmps)=true)
  (hop:o.op= .store T x y) (hx:a.eval x=X) (hy:a.eval y=Y) (hr:(Instr.storeAt T X Y).run P w= .ok () w') (h:K (a.put o.dst undef) w'):wpOp P ops Q i K a w:=
 eff_skip ho hw (by subst hx;subst hy;simp[execOp,hop,hr]) h
theorem eff_append {i:Nat} {a:Act} {o:Oper} {K:Act→World→Prop} {w w':World} {t:TypeId} {s x:Operand} {v u v':Value} (ho:ops[i]? =some o) (hw:Region.wanted o (yielded ops a.tmps)=true)
  (hop:o.op= .call {callee:= .builtin .append,args:= #[s,x],argTypes:= #[t,t]}) (hs:a.eval s=v) (hx:a.eval x=u) (hr:(Builtin.append_ #[t,t] o.type #[v,u]).run P w= .ok v' w')
  (h:K (a.put o.dst v') w'):wpOp P ops Q i K a w:=
 eff_value ho hw (by subst hs;subst hx;simp[execOp,hop,resolve,invoke,builtin,hr]) h
theorem TE.step {i:Nat} {r:List Nat} {a:Act} {w:World} {o:Oper} (ho:ops[i]? =some o) (hk:κ i=6) (h:wpOp P ops Q i (fun a' w'=>TE P ops Q κ r a' w') a w):TE P ops Q κ (i::r) a w:=
 .eff _ ho hk h (fun _ _ h=>h)
theorem TE.nil_set {a:Act} {w:World} {p:Nat} {o o':Obj} (hb:w.heap[p]? =some o) (h:∀w',w'.heap[p]? =some o'→Mod (fun i=>i=p) w w'→Q .normal a w'):TE P ops Q κ [] a (setBlock w p o'):=
 .nil (h _ (heap_setBlock w _ (Ls hb)) (mod_set w p o'))
theorem TE.val0 {i:Nat} {r:List Nat} {a:Act} {w:World} {o:Oper} {v:Value} (ho:ops[i]? =some o) (hw:Region.wanted o (yielded ops a.tmps)=true)
  (hy:∀w,(execOp a.eval o).run P w= .ok (.value v) w) (h:TE P ops Q κ r (a.put o.dst v) w):TE P ops Q κ (i::r) a w:=
 .val ho (.inl ⟨hw,fun w _=>hy w⟩) h
theorem run_load_row {w:World} {b o:Nat} {cs:Array Value} {U:TypeId} {fr:Nat×Nat} {T:TypeId} {d:TypeDesc} {n:Nat} (hb:w.heap[b]? =some (.cells cs U fr))
  (hu:P.underlying T=some d) (hd:d.isRow=true) (hi:(P.info? T).map (·.size)=some n) (hn:o+n≤cs.size):
  (Instr.loadAt T (.pointer (some ⟨b,o,none⟩))).run P w= .ok (.agg (cs.extract o (o+n))) w:=by
 have:=run_loadAt_mid (P:=P) w b o T (cs.extract o (o+n)).toList d (World.rangeAt_of_block hb o n) hu hd (by rw[hi];simp;omega);rw[Array.toArray_toList]at this;exact this
theorem cell_blk (w:World) (b o:Nat):w.cell? ⟨b,o,none⟩=match w.heap[b]? with|some (.cells c _ _)=>c[o]? |_=>none:=by
 simp only[World.cell?];cases w.heap[b]? with
 |none=>rfl
 |some x=>cases x<;>rfl
theorem frozen_blk (w:World) (b o:Nat):w.frozen? ⟨b,o,none⟩=match w.heap[b]? with|some (.cells _ _ (lo,hi))=>decide (lo≤o)&&decide (o<hi)|_=>false:=by
 simp only[World.frozen?];cases w.heap[b]? with
 |none=>rfl
 |some x=>cases x<;>rfl
theorem setCell_blk {w:World} {b o:Nat} {cs:Array Value} {U:TypeId} {fr:Nat×Nat} (hb:w.heap[b]? =some (.cells cs U fr)) (v:Value):
  w.setCell ⟨b,o,none⟩ v=setBlock w b (.cells (cs.setIfInBounds o v) U fr):=by
 have hlt:=Ls hb;simp only[World.setCell,setBlock];congr 1;apply Array.ext_getElem?;intro i;rw[Array.getElem?_modify,Array.getElem?_setIfInBounds];by_cases hi:b=i
 ·subst hi;rw[hb];simp[hlt]
 ·simp[hi]
theorem TE.nil_setCell {a:Act} {w:World} {p i:Nat} {cs:Array Value} {U:TypeId} {fr:Nat×Nat} {v:Value} (hb:w.heap[p]? =some (.cells cs U fr))
  (h:∀w',w'.heap[p]? =some (.cells (cs.setIfInBounds i v) U fr)→Mod (fun i=>i=p) w w'→Q .normal a w'):TE P ops Q κ [] a (w.setCell ⟨p,i,none⟩ v):=by
 rw[setCell_blk hb];exact TE.nil_set hb h
theorem setBlock_same {w:World} {b:Nat} {o:Obj} (hb:w.heap[b]? =some o):setBlock w b o=w:=by
 have hlt:=Ls hb;have:w.heap.setIfInBounds b o=w.heap:=by
  apply Array.ext_getElem?;intro i;rw[Array.getElem?_setIfInBounds];by_cases hi:b=i
  ·subst hi;rw[hb];simp[hlt]
  ·simp[hi]
 unfold setBlock;rw[this]
theorem setBlock_setBlock (w:World) (b:Nat) (o o':Obj):setBlock (setBlock w b o) b o'=setBlock w b o':=by
 unfold setBlock;simp
def wr (cs:Array Value) (o:Nat):List Value→Array Value
 |[]=>cs
 |v::r=>wr (cs.setIfInBounds o v) (o+1) r
theorem wr_list:∀(vs:List Value) (cs:Array Value) (o:Nat),o+vs.length≤cs.size→(wr cs o vs).toList=cs.toList.take o++vs++cs.toList.drop (o+vs.length)
 |[],cs,o,_=>by simp[wr]
 |v::r,cs,o,h=>by
  simp only[List.length_cons]at h;unfold wr;rw[wr_list r _ (o+1) (by simp;omega)];simp only[Array.toList_setIfInBounds,List.length_cons];have h1:(cs.toList.set o v).take (o+1)=cs.toList.take o++[v]:=by
   rw[List.take_set,List.take_succ_eq_append_getElem (by simp;omega)];apply List.ext_getElem?;intro i;simp only[List.getElem?_set,List.getElem?_append,List.length_append,List.length_take,Array.length_toList,List.length_singleton]
   grind
  have h2:(cs.toList.set o v).drop (o+1+r.length)=cs.toList.drop (o+(r.length+1)):=by
   rw[List.drop_set_of_lt (by omega)];congr 1;omega
  rw[h1,h2];simp
theorem wr_whole (vs:Array Value) (cs:Array Value) (h:vs.size=cs.size):wr cs 0 vs.toList=vs:=by
 apply Array.toList_inj.1;rw[wr_list _ _ _ (by simp;omega)];simp[h]
theorem setCells_blk:∀(vs:List Value) (w:World) (b o:Nat) (cs:Array Value) (U:TypeId) (fr:Nat×Nat),w.heap[b]? =some (.cells cs U fr)→w.setCells b o vs=setBlock w b (.cells (wr cs o vs) U fr)
 |[],w,b,o,cs,U,fr,hb=>(setBlock_same hb).symm
 |v::r,w,b,o,cs,U,fr,hb=>by
  unfold World.setCells wr;rw[setCell_blk hb,setCells_blk r _ b (o+1) (cs.setIfInBounds o v) U fr (heap_setBlock w _ (Ls hb)),setBlock_setBlock]
theorem run_store_row {w:World} {T:TypeId} {p o:Nat} {cs xs:Array Value} {U:TypeId} (hw:w.heap[p]? =some (.cells cs U (0,0)))
  (hi:(P.info? T).map (·.size)=some xs.size) (hs:o+xs.size≤cs.size) (h1:xs.all (·.oneCell')=true):
  (Instr.storeAt T (.pointer (some ⟨p,o,none⟩)) (.agg xs)).run P w= .ok () (setBlock w p (.cells (wr cs o xs.toList) U (0,0))):=by
 rw[run_storeAt_mid (P:=P) w p o T xs (fun j hj=> ?_) hi h1,setCells_blk _ w p o cs U _ hw];constructor
 ·rw[cell_blk,hw];simp;omega
 ·rw[frozen_blk,hw];simp
theorem run_store_one {w:World} {T:TypeId} {p o:Nat} {cs:Array Value} {v:Value} {U:TypeId} (hw:w.heap[p]? =some (.cells cs U (0,0)))
  (hi:(P.info? T).map (·.size)=some 1) (hs:o<cs.size) (h1:v.oneCell'=true):
  (Instr.storeAt T (.pointer (some ⟨p,o,none⟩)) v).run P w= .ok () (setBlock w p (.cells (cs.setIfInBounds o v) U (0,0))):=by
 have hc:v.cells= #[v]:=by cases v<;>first|rfl|simp[Value.oneCell']at h1
 have hcell:w.cell? ⟨p,o,none⟩=some cs[o]:=by rw[cell_blk,hw];simp[hs]
 have hfr:w.frozen? ⟨p,o,none⟩=false:=by rw[frozen_blk,hw];simp
 cases hq:P.info? T with
 |none=>simp[hq]at hi
 |some i=>
  have hz:i.size=1:=by simpa[hq] using hi
  have hadd:(⟨p,o,none⟩:Addr).add 0=⟨p,o,none⟩:=by rw[Addr.add_mid];simp
  simp[Instr.storeAt,Instr.sureAddr,storeVar,sizeOf,typeInfo,hq,hc,hz,storeCells,hadd,run_store P w _ v _ h1,hcell,hfr,setCell_blk hw]
theorem run_store_box {w:World} {T:TypeId} {p:Nat} {cs xs:Array Value} {U:TypeId} (hw:w.heap[p]? =some (.cells cs U (0,0)))
  (hi:(P.info? T).map (·.size)=some xs.size) (hs:xs.size=cs.size) (h1:xs.all (·.oneCell')=true):
  (Instr.storeAt T (.pointer (some ⟨p,0,none⟩)) (.agg xs)).run P w= .ok () (setBlock w p (.cells xs U (0,0))):=by
 rw[run_store_row hw hi (by omega) h1,wr_whole xs cs hs]
def farL (P:Program) (w:World) (T:TypeId) (b o:Nat):Result Value:=(Instr.loadAt T (.pointer (some ⟨b,o,none⟩))).run P w
theorem load_rule {T:TypeId} {d:TypeDesc} {n:Nat} (hu:P.underlying T=some d) (hd:d.isRow=true) (hi:(P.info? T).map (·.size)=some n) (w:World) (b o:Nat):
  (Instr.loadAt T (.pointer (some ⟨b,o,none⟩))).run P w=
   match w.heap[b]? with
   |some (.cells cs _ _)=>if o+n≤cs.size then .ok (.agg (cs.extract o (o+n))) w else farL P w T b o
   |_=>farL P w T b o:=by
 split
 ·rename_i cs U fr hb;split
  ·rename_i hle;exact run_load_row hb hu hd hi hle
  ·rfl
 ·rfl
theorem fold_wr_list (off:Nat):∀(xs:List Value) (n:Nat) (cells:Array Value),(xs.zipIdx n).foldl (fun(cs:Array Value) (p:Value×Nat)=>cs.setIfInBounds (off+p.2) p.1) cells=wr cells (off+n) xs
 |[],_,_=>rfl
 |v::r,n,cells=>by
  simp only[List.zipIdx_cons,List.foldl_cons,wr];rw[fold_wr_list off r (n+1)];rfl
theorem fold_wr (off:Nat) (xs cells:Array Value):xs.zipIdx.foldl (fun(cs:Array Value) (p:Value×Nat)=>cs.setIfInBounds (off+p.2) p.1) cells=wr cells off xs.toList:=by
 rw[←Array.foldl_toList,Array.toList_zipIdx];exact fold_wr_list off xs.toList 0 cells
theorem wr_size:∀(vs:List Value) (cs:Array Value) (o:Nat),(wr cs o vs).size=cs.size
 |[],_,_=>rfl
 |v::r,cs,o=>by
  unfold wr;rw[wr_size r];simp
theorem fill_cons {place:Nat→Option (Nat×Nat)} {cells:Array Value} {i off n:Nat} {v:Value} {rest:List (Nat×Value)} (hp:place i=some (off,n)) (hv:v.cells.size=n) (hc:off+n≤cells.size):
  Instr.fill place cells ((i,v)::rest)=Instr.fill place (wr cells off v.cells.toList) rest:=by
 simp only[Instr.fill,hp];rw[if_neg (by simp[hv];omega)];rw[←fold_wr off v.cells cells]
theorem run_build_struct {T:TypeId} {fs:Array Field} {z:Value} {places:Array (Nat×Nat)} {parts:Array (Nat×Value)} {cells:Array Value} (hu:P.underlying T=some (.struct fs)) (hz:∀w,(zeroValue T).run P w= .ok z w)
  (hp:∀w,(fs.mapM (fun(f:Field)=>do pure (f.offset,←sizeOf f.type):Field→Sem (Nat×Nat))).run P w= .ok places w) (hf:Instr.fill (places[·]?) z.cells parts.toList=some cells) (w:World):
  (Instr.build T parts).run P w= .ok (.agg cells) w:=by
 unfold Instr.build;simp only[Sem.run_bind,hz,Result.andThen_ok,run_underlying hu,hp,hf];rfl
theorem one_int (k:IntKind) (n:Int):(Value.int k n).oneCell'=true:=rfl
theorem one_bool (b:Bool):(Value.bool b).oneCell'=true:=rfl
theorem one_ptr (a:Option Addr):(Value.pointer a).oneCell'=true:=rfl
theorem one_slice (a:Option Addr) (n c:Nat):(Value.slice a n c).oneCell'=true:=rfl
theorem one_map (a:Option Nat):(Value.map a).oneCell'=true:=rfl
def farS (P:Program) (w:World) (T:TypeId) (b o:Nat) (v:Value):Result Unit:=(Instr.storeAt T (.pointer (some ⟨b,o,none⟩)) v).run P w
theorem store_rule {T:TypeId} {n:Nat} (hi:(P.info? T).map (·.size)=some n) (w:World) (b o:Nat) (xs:Array Value):
  (Instr.storeAt T (.pointer (some ⟨b,o,none⟩)) (.agg xs)).run P w=
   match w.heap[b]? with
   |some (.cells cs U (0,0))=>
    if o+n≤cs.size∧xs.size=n∧xs.all (·.oneCell')=true then .ok () (setBlock w b (.cells (if o=0∧n=cs.size then xs else wr cs o xs.toList) U (0,0)))else farS P w T b o (.agg xs)
   |_=>farS P w T b o (.agg xs):=by
 split
 ·rename_i cs U hb;split
  ·rename_i h;obtain⟨h1,h2,h3⟩:=h;split
   ·rename_i h4;obtain⟨rfl,h5⟩:=h4;exact run_store_box hb (by rw[hi,h2]) (by omega) h3
   ·exact run_store_row hb (by rw[hi,h2]) (by omega) h3
  ·rfl
 ·rfl
def farW (P:Program) (o:Oper) (a:Act) (w:World) (K:Act→World→Prop) (Q:Exit→Act→World→Prop):Prop:=o.wp P a w K Q
theorem wp_load_rule {T:TypeId} {d:TypeDesc} {n:Nat} (hu:P.underlying T=some d) (hd:d.isRow=true) (hi:(P.info? T).map (·.size)=some n) (dst:Option Tmp) (x:Operand) (ty:TypeId) (pos:String) (after:Array Edge) (g:Option (Nat×Bool))
  (a:Act) (w:World) (K:Act→World→Prop) (Q:Exit→Act→World→Prop):
  Oper.wp P {dst:=dst,op:= .load T x,type:=ty,pos:=pos,after:=after,guard:=g} a w K Q=
   match a.eval x with
   | .pointer (some ⟨b,o,none⟩)=>
    (match w.heap[b]? with
    |some (.cells cs _ _)=>if o+n≤cs.size then K (a.put dst (.agg (cs.extract o (o+n)))) w else farW P {dst:=dst,op:= .load T x,type:=ty,pos:=pos,after:=after,guard:=g} a w K Q
    |_=>farW P {dst:=dst,op:= .load T x,type:=ty,pos:=pos,after:=after,guard:=g} a w K Q)
   |_=>farW P {dst:=dst,op:= .load T x,type:=ty,pos:=pos,after:=after,guard:=g} a w K Q:=by
 split
 ·rename_i b o hx;split
  ·rename_i cs U fr hb;split
   ·rename_i hle;have:=exec_load (P:=P) (ρ:=a.eval) (o:= {dst:=dst,op:= .load T x,type:=ty,pos:=pos,after:=after,guard:=g}) rfl hx (run_load_row hb hu hd hi hle);unfold Oper.wp;rw[this];rfl
   ·rfl
  ·rfl
 ·rfl
theorem run_alloc_row {T:TypeId} {z:Value} (hz:∀w,(zeroValue T).run P w= .ok z w) (w:World):
  (Instr.alloc T true (.tuple #[])).run P w= .ok (.pointer (some ⟨w.heap.size,0,none⟩)) (w.alloc (.cells z.cells T)):=by
 simp[Instr.alloc,hz,newVar,newRow,newObj];rfl
end
theorem zA:type_of% @List.getElem?_toArray:= @List.getElem?_toArray
theorem zB:type_of% @List.getElem?_cons_succ:= @List.getElem?_cons_succ
theorem zC:type_of% @List.getElem?_cons_zero:= @List.getElem?_cons_zero
theorem zD:type_of% @Array.getD_eq_getD_getElem? := @Array.getD_eq_getD_getElem?
theorem zE:type_of% @Option.getD_some:= @Option.getD_some
theorem zF:type_of% @List.setIfInBounds_toArray:= @List.setIfInBounds_toArray
theorem zG:type_of% @List.set_cons_zero:= @List.set_cons_zero
theorem zH:type_of% @List.set_cons_succ:= @List.set_cons_succ
theorem zK:type_of% @zA.{0}∧type_of% @zB.{0}∧type_of% @zC.{0}:=⟨@zA,@zB,@zC⟩
theorem zL:(∀(a:Act) (d:Tmp) (v:Value),a.put (some d) v= {a with tmps:=a.tmps.setIfInBounds d v})∧(∀(a:Act) (v:Value),a.put none v=a)∧type_of% @zF.{0}∧type_of% @zG.{0}∧type_of% @zH.{0}:=⟨fun _ _ _=>rfl,fun _ _=>rfl,@zF,@zG,@zH⟩
theorem zM:(∀(a:Act) (t:Tmp),a.eval (.tmp t)=a.tmps.getD t undef)∧(∀(a:Act) (v:Value),a.eval (.const v)=v)∧(∀(a:Act) (g:Nat),a.eval (.global g)= .pointer (some ⟨g,0,none⟩))∧(∀(a:Act) (f:FuncId),a.eval (.func f)= .func (.func f) #[] #[])∧type_of% @zD.{0}∧type_of% @zA.{0}∧type_of% @zB.{0}∧type_of% @zC.{0}∧type_of% @zE.{0}:=⟨fun _ _=>rfl,fun _ _=>rfl,fun _ _=>rfl,fun _ _=>rfl,@zD,@zA,@zB,@zC,@zE⟩
end Go.Proofs.YtceodkliooeccaaGreatDoor
namespace Go.Proofs.YtceodkliooeccaaGreatDoor
open Go.ChangeMaps (setBlock)
section
variable {κ ν:Type} {P:Program} {f:κ→Value} {g:ν→Value}
def IterAt (w:World) (r b:Nat) (f:κ→Value) (g:ν→Value) (es:Array MapEntry) (clock:Nat) (rem:List (κ×ν)):Prop:=
 ∃since seen c0,w.heap[r]? =some (.mapIter (some b) since seen c0)∧since≤c0∧(∀x∈es.toList,x.born<since)∧since≤clock∧
  (leftOf es seen).toList.map (fun e=>(e.key,e.val))=rem.map (fun p=>(f p.1,g p.2))
theorem IterAt.start {w:World} {r b:Nat} {es:Array MapEntry} {clock:Nat} {m:List (κ×ν)} (M:MapIs f g es clock m) (hr:w.heap[r]? =some (.mapIter (some b) clock #[] clock)):IterAt w r b f g es clock m:=by
 refine⟨clock,#[],clock,hr,Nat.le_refl _,M.lt,Nat.le_refl _,?_⟩;rw[←M.ents];congr 1;unfold leftOf;simp
theorem filter_ne_eraseIdx {l:List MapEntry} (hn:(l.map (·.born)).Nodup) {j:Nat} {e:MapEntry} (he:l[j]? =some e):l.filter (fun x=> !(x.born==e.born))=l.eraseIdx j:=by
 induction l generalizing j with
 |nil=>simp at he
 |cons x r ih=>
  simp only[List.map_cons,List.nodup_cons]at hn;cases j with
  |zero=>
   simp at he;subst he;simp only[List.filter_cons,beq_self_eq_true,Bool.not_true,Bool.false_eq_true,if_false,List.eraseIdx_cons_zero];rw[List.filter_eq_self];intro y hy;have:y.born≠x.born:=fun hh=>hn.1 (hh▸List.mem_map.2 ⟨y,hy,rfl⟩);simp[this]
  |succ j=>
   simp only[List.getElem?_cons_succ]at he;have:x.born≠e.born:=fun hh=>hn.1 (hh▸List.mem_map.2 ⟨e,List.mem_of_getElem? he,rfl⟩);simp[List.filter_cons,this,ih hn.2 he]
theorem left_push {es:Array MapEntry} {seen:Array Nat} {e:MapEntry} (hn:(es.toList.map (·.born)).Nodup) {j:Nat} (he:(leftOf es seen).toList[j]? =some e):(leftOf es (seen.push e.born)).toList=(leftOf es seen).toList.eraseIdx j:=by
 have hn':((leftOf es seen).toList.map (·.born)).Nodup:=by
  unfold leftOf;rw[Array.toList_filter];exact hn.sublist (List.filter_sublist.map _)
 rw[←filter_ne_eraseIdx hn' he];unfold leftOf;rw[Array.toList_filter,Array.toList_filter,List.filter_filter];apply List.filter_congr;intro x _;simp[Array.contains_push];by_cases h:x.born=e.born<;>simp[h]
theorem erase_perm {α:Type}:∀(l:List α) (j:Nat) (h:j<l.length),l.Perm (l[j]::l.eraseIdx j)
 |x::r,0,_=>List.Perm.refl _
 |x::r,j+1,h=>by
  have hj:j<r.length:=by simpa using h
  have:=erase_perm r j hj;simp only[List.getElem_cons_succ,List.eraseIdx_cons_succ];exact(this.cons x).trans (List.Perm.swap _ _ _)
theorem IterAt.next {w:World} {r b:Nat} {es:Array MapEntry} {clock:Nat} {m rem:List (κ×ν)} (h:IterAt w r b f g es clock rem) (M:MapIs f g es clock m) (hb:w.heap[b]? =some (.map es clock)) (ty:TypeId):
  (rem=[]∧(Instr.next (.pointer (some ⟨r,0,none⟩)) false ty).run P w= .ok (.tuple #[.bool false]) w)∨
  ∃p rem' w1 it,rem.Perm (p::rem')∧(Instr.next (.pointer (some ⟨r,0,none⟩)) false ty).run P w= .ok (.tuple #[.bool true,f p.1,g p.2]) w1∧w1.heap[r]? =some it∧Mod (fun i=>i=r) w w1∧w1.heap[b]? =some (.map es clock)∧
   ∀w2:World,w2.heap[r]? =some it→w2.heap[b]? =some (.map es clock)→(Instr.entry (.pointer (some ⟨r,0,none⟩))).run P w2= .ok (.tuple #[f p.1,g p.2]) w2∧IterAt w2 r b f g es clock rem':=by
 obtain⟨since,seen,c0,h1,h2,h3,h4,h5⟩:=h;have hrb:r≠b:=ne_of_obj h1 hb (by simp);rcases run_next_at (P:=P) w ty r b since c0 seen es clock h1 hb h3 h2 with⟨hz,hrun⟩|⟨e,he,w1,hw1,hrun⟩
 ·left;refine⟨?_,hrun⟩;have:=congrArg List.length h5;simp only[List.length_map,Array.length_toList,hz]at this;exact List.length_eq_zero_iff.1 this.symm
 ·right;obtain⟨j,hj⟩:=List.mem_iff_getElem?.1 he;have h6:=congrArg (fun l=>l[j]?) h5;simp only[List.getElem?_map,hj,Option.map_some]at h6;cases hp:rem[j]? with
  |none=>simp[hp]at h6
  |some p=>
   simp only[hp,Option.map_some,Option.some.injEq,Prod.mk.injEq]at h6;obtain⟨hk,hv⟩:=h6;have hperm:rem.Perm (p::rem.eraseIdx j):=by
    obtain⟨hlt,rfl⟩:=List.getElem?_eq_some_iff.1 hp;exact erase_perm rem j hlt
   have hm1:Mod (fun _=>False) w w1:=by
    rcases hw1 with rfl|rfl
    ·exact Mod.refl _ _
    ·exact(Mod.refl _ _).drew
   have h1':=hm1.at0 h1;have hb':=hm1.at0 hb;have hes:e∈es.toList:=by
    unfold leftOf at he;simp at he;simpa using he.1
   refine⟨p,rem.eraseIdx j,_,_,hperm,by rw[hrun,hk,hv],heap_setBlock w1 _ (Ls h1'),?_,by rw[heap_setBlock_ne _ _ (Ne.symm hrb)];exact hb',fun w2 hr2 hb2=>⟨?_,?_⟩⟩
   ·exact(hm1.mono (fun _ _ h=>h.elim)).trans (mod_set w1 r _)
   ·rw[run_entry_at w2 r b since seen es clock e hr2 hb2 hes M.apart,hk,hv]
   ·refine⟨since,seen.push e.born,clock,hr2,h4,h3,h4,?_⟩;rw[left_push M.apart hj,ChangeMaps.map_eraseIdx,ChangeMaps.map_eraseIdx,h5]
def leftN (w:World) (r b:Nat):Nat:=match w.heap[r]?,w.heap[b]? with
 |some (.mapIter _ _ seen _),some (.map es _)=>(leftOf es seen).size
 |_,_=>0
theorem IterAt.leftN {w:World} {r b:Nat} {es:Array MapEntry} {clock:Nat} {rem:List (κ×ν)} (h:IterAt w r b f g es clock rem) (hb:w.heap[b]? =some (.map es clock)):leftN w r b=rem.length:=by
 obtain⟨since,seen,c0,h1,h2,h3,h4,h5⟩:=h;unfold Go.Proofs.YtceodkliooeccaaGreatDoor.leftN;rw[h1,hb];have:=congrArg List.length h5;simpa using this
end
end Go.Proofs.YtceodkliooeccaaGreatDoor
namespace Go.Proofs.YtceodkliooeccaaGreatDoor
open Go.ChangeShapes Go.WideShapes Go.ChangeAt Go.RowKit
open Go.ChangeMaps (setBlock)
theorem cells_row {w:World} {base:Nat} {a:Addr} {n:Nat} {cs:List Value} (h:w.cells? base a n=some cs) (hn:0<n):
  cs.length=n∧∃C U fr,a=⟨a.block,a.off,none⟩∧w.heap[a.block]? =some (.cells C U fr)∧C.extract a.off (a.off+n)=cs.toArray∧a.off+n≤C.size:=by
 obtain⟨_,hl,hc⟩:=World.cells?_some h;refine⟨hl,?_⟩;have h0:=hc 0 hn;rw[show a.add 0=a from rfl]at h0;have hs:w.cell? a=some cs[0]:=by rw[h0,List.getElem?_eq_getElem (by omega)]
 have hsp:=World.cell?_spot hs;obtain⟨b,o,sp⟩:=a;cases hsp;cases hb:w.heap[b]? with
 |none=>simp[World.cell?,hb]at hs
 |some ob=>
  cases ob with
  |cells C U fr=>
   have hcell:∀i,i<n→C[o+i]? =cs[i]? :=fun i hi=>by
    have:=hc i hi;rw[←this];unfold Addr.add;by_cases hi0:i=0
    ·subst hi0;simp[World.cell?,hb]
    ·rw[if_neg hi0];simp[World.cell?,hb]
   have hsz:o+n≤C.size:=by
    have h1:=hcell (n-1) (by omega);rw[List.getElem?_eq_getElem (by omega)]at h1;have:=(Array.getElem?_eq_some_iff.1 h1).1;omega
   refine⟨C,U,fr,rfl,rfl,?_,hsz⟩;apply Array.ext_getElem?;intro i;simp only[Array.getElem?_extract,List.getElem?_toArray];by_cases hi:i<n
   ·rw[if_pos (by omega),hcell i hi]
   ·rw[if_neg (by omega),List.getElem?_eq_none (by omega)]
  |_=>simp[World.cell?,hb]at hs
theorem take1 {l:List Value} {n:Nat} {v:Value} (h:(l.drop n).take 1=[v]):l[n]? =some v:=by
 have:=congrArg (fun l=>l[0]?) h;simpa using this
section
variable {P:Program} {ops:Array Oper} {Q:Exit→Act→World→Prop}
theorem region_seq {id:Nat} {a:Act} {w:World} (n:Nat) (hn:ops.size=n) (h:wpOps P ops Q (List.range n) a w):(Code.region id ops false).wp P Q a w:=by
 refine wp_region ?_;rw[hn];exact h
theorem sq_nil {a:Act} {w:World} (h:Q .normal a w):wpOps P ops Q [] a w:=h
theorem sq_eff {i:Nat} {r:List Nat} {a:Act} {o:Oper} {w w':World} {v:Value} (ho:ops[i]? =some o) (hw:Region.wanted o (yielded ops a.tmps)=true)
  (hr:(execOp a.eval o).run P w= .ok (.value v) w') (h:wpOps P ops Q r (a.put o.dst v) w'):wpOps P ops Q (i::r) a w:=by
 unfold wpOps;simp only[ho,hw,if_true];refine .inl ?_;unfold Oper.wp;rw[hr];exact h
theorem sq_val {i:Nat} {r:List Nat} {a:Act} {o:Oper} {w:World} {v:Value} (ho:ops[i]? =some o) (hw:Region.wanted o (yielded ops a.tmps)=true)
  (hr:(execOp a.eval o).run P w= .ok (.value v) w) (h:wpOps P ops Q r (a.put o.dst v) w):wpOps P ops Q (i::r) a w:=sq_eff ho hw hr h
theorem sq_load {i:Nat} {r:List Nat} {a:Act} {o:Oper} {w:World} {T:TypeId} {x:Operand} {p v:Value} (ho:ops[i]? =some o) (hw:Region.wanted o (yielded ops a.tmps)=true)
  (hop:o.op= .load T x) (hx:a.eval x=p) (hr:(Instr.loadAt T p).run P w= .ok v w) (h:wpOps P ops Q r (a.put o.dst v) w):wpOps P ops Q (i::r) a w:=
 sq_eff ho hw (by subst hx;simp[execOp,hop,hr]) h
theorem sq_build {i:Nat} {r:List Nat} {a:Act} {o:Oper} {w w':World} {v:Value} {T:TypeId} {n:Nat} {ps:Array (Nat×Operand)} {qs:Array (Nat×Value)} (ho:ops[i]? =some o) (hw:Region.wanted o (yielded ops a.tmps)=true)
  (hop:o.op= .buildSlice T n ps) (hps:ps.map (fun(i,x)=>(i,a.eval x))=qs) (hr:(Instr.buildSlice T n qs).run P w= .ok v w') (h:wpOps P ops Q r (a.put o.dst v) w'):wpOps P ops Q (i::r) a w:=
 sq_eff ho hw (by subst hps;simp[execOp,hop,hr]) h
theorem sq_append {i:Nat} {r:List Nat} {a:Act} {o:Oper} {w w':World} {v u v':Value} {t:TypeId} {s x:Operand} (ho:ops[i]? =some o) (hw:Region.wanted o (yielded ops a.tmps)=true)
  (hop:o.op= .call {callee:= .builtin .append,args:= #[s,x],argTypes:= #[t,t]}) (hs:a.eval s=v) (hx:a.eval x=u) (hr:(Builtin.append_ #[t,t] o.type #[v,u]).run P w= .ok v' w')
  (h:wpOps P ops Q r (a.put o.dst v') w'):wpOps P ops Q (i::r) a w:=
 sq_eff ho hw (by
  unfold execOp;simp only[hop,resolve,invoke,builtin,Sem.run_bind,Sem.run_pure,Result.andThen_ok,List.map_toArray,List.map_cons,List.map_nil,hs,hx,hr]) h
end
structure Sl (α:Type) where
 a:Option Addr
 l:List α
 c:Nat
def Sl.v {α:Type} (s:Sl α):Value:= .slice s.a s.l.length s.c
section
variable {α:Type} {f:α→Array Value} {n:Nat}
def SlAt (f:α→Array Value) (n:Nat) (w:World) (a:Option Addr) (l:List α):Prop:=
 l=[]∨∃b o C U fr,a=some ⟨b,o,none⟩∧w.heap[b]? =some (.cells C U fr)∧
  ∀i x,l[i]? =some x→C.extract (o+i*n) (o+i*n+n)=f x∧o+i*n+n≤C.size
theorem SlAt.mod {w w':World} {a:Option Addr} {l:List α} {S:Nat→Prop} (h:SlAt f n w a l) (hm:Mod S w w') (hS:∀b o,a=some ⟨b,o,none⟩→¬S b):SlAt f n w' a l:=by
 rcases h with h|⟨b,o,C,U,fr,ha,hb,hc⟩
 ·exact .inl h
 ·exact .inr ⟨b,o,C,U,fr,ha,hm.at hb (hS b o ha),hc⟩
theorem SlAt.mod0 {w w':World} {a:Option Addr} {l:List α} (h:SlAt f n w a l) (hm:Mod (fun _=>False) w w'):SlAt f n w' a l:=h.mod hm (fun _ _ _ h=>h)
theorem SlAt.block {w:World} {a:Option Addr} {l:List α} (h:SlAt f n w a l) {i:Nat} {x:α} (hx:l[i]? =some x):∃b o C U fr,a=some ⟨b,o,none⟩∧w.heap[b]? =some (.cells C U fr)∧
  C.extract (o+i*n) (o+i*n+n)=f x∧o+i*n+n≤C.size:=by
 rcases h with rfl|⟨b,o,C,U,fr,ha,hb,hc⟩
 ·simp at hx
 ·exact⟨b,o,C,U,fr,ha,hb,hc i x hx⟩
theorem cell_in {w:World} {b o n:Nat} {C:Array Value} {U:TypeId} {fr:Nat×Nat} {cs:Array Value} (hb:w.heap[b]? =some (.cells C U fr)) (he:C.extract o (o+n)=cs) {j:Nat} {v:Value} (hj:cs[j]? =some v):
  w.cell? ⟨b,o+j,none⟩=some v:=by
 subst he;rw[Array.getElem?_extract]at hj;split at hj
 ·unfold World.cell?;rw[hb];simpa using hj
 ·cases hj
theorem cellC {o n:Nat} {C cs:Array Value} (he:C.extract o (o+n)=cs) {j:Nat} {v:Value} (hj:cs[j]? =some v):C[o+j]? =some v:=by
 subst he;rw[Array.getElem?_extract]at hj;split at hj
 ·exact hj
 ·cases hj
end
section
variable {H:Type} {enc:TypeId×Value→H} {α β:Type} {P:Program}
abbrev fits (P:Program) (t:TypeId) (d:DataW H):Prop:=∀n∈d.weights P t,n≤reachBytes
def Reads (enc:TypeId×Value→H) (P:Program) (t:TypeId) (f:α→Array Value) (Ok:World→α→Prop):Prop:=
 ∀(w:World) (base:Nat) (sp:Nat→Bool) (held:Bool) (fuel:Nat) (cs:List Value) (x:DataW H×List MemPlace),DataW.trod enc P w base sp held fuel t cs=some x→fits P t x.1→∃a:α,cs.toArray=f a∧Ok w a
def slv (s:Sl α):Array Value:= #[s.v]
def SlOk (f:α→Array Value) (n B:Nat) (Ok:World→α→Prop) (w:World) (s:Sl α):Prop:=
 SlAt f n w s.a s.l∧(∀x∈s.l,Ok w x)∧s.l.length*B≤reachBytes∧(∀y,s.a=some y→y.block<w.heap.size∨s.l=[])∧s.l.length≤maxLen
theorem weights_all {t:TypeId}:∀ {ds:List (DataW H)} {d:DataW H},d∈ds→∀n∈d.weights P t,n∈DataW.weightsAll P t ds
 |d0::ds,d,hd,n,hn=>by
  simp only[DataW.weightsAll,List.mem_append];rcases List.mem_cons.1 hd with rfl|hd
  ·exact .inl hn
  ·exact .inr (weights_all hd n hn)
theorem slice_reads {t e:TypeId} {f:α→Array Value} {n B:Nat} {Ok:World→α→Prop} (ht:P.underlying t=some (.slice e)) (hn:P.cellsOf e=n) (hB:P.bytesOf e=B) (hn0:0<n) (h:Reads enc P e f Ok) (d0:α):
  Reads enc P t (slv (α:=α)) (SlOk f n B Ok):=by
 intro w base sp held fuel cs x hx hfit;rcases DataW.trod_slice ht hx with⟨rfl,rfl⟩|⟨a,len,cap,elems,rest,m,rfl,rfl,rfl,_,hlc,hcm,hel,hi,_⟩
 ·exact⟨⟨none,[],0⟩,rfl,.inl rfl,fun x hx=>(by simp at hx),by simp,fun y hy=>(by cases hy),by simp⟩
 ·have hrow:∀i,i<len→∃r:α,Ok w r∧∃(C:Array Value) (U:TypeId) (fr:Nat×Nat),a=⟨a.block,a.off,none⟩∧w.heap[a.block]? =some (.cells C U fr)∧C.extract (a.off+i*n) (a.off+i*n+n)=f r∧a.off+i*n+n≤C.size:=fun i hlt=>by
   have hq:=hi i hlt;rw[List.getElem?_eq_getElem (by omega),hn,Option.bind_eq_some_iff]at hq;obtain⟨c1,hc1,ht1⟩:=hq;have hf1:fits P e (elems[i].1):=fun k hk=>hfit k (by
    simp only[DataW.weights,ht,List.mem_cons,List.mem_append];exact .inr (.inl (weights_all (List.mem_map.2 ⟨_,List.getElem_mem _,rfl⟩) k hk)))
   obtain⟨r,hr,hok⟩:=h _ _ _ _ _ _ _ ht1 hf1;obtain⟨_,C,U,fr,ha,hb,he,hsz⟩:=cells_row hc1 hn0;rw[hr]at he;unfold Addr.add at ha hb he hsz;by_cases h0:i*n=0
   ·rw[if_pos h0]at ha hb he hsz;exact⟨r,hok,C,U,fr,ha,hb,by rw[h0];exact he,by omega⟩
   ·rw[if_neg h0]at ha hb he hsz;have hi0:0<i:=by
     rcases Nat.eq_zero_or_pos i with rfl|h
     ·simp at h0
     ·exact h
    have hq0:=hi 0 (by omega);rw[List.getElem?_eq_getElem (by omega),hn,Option.bind_eq_some_iff]at hq0;obtain⟨c2,hc2,_⟩:=hq0;obtain⟨_,_,_,_,ha2,_⟩:=cells_row hc2 hn0;have ha3:a=⟨a.block,a.off,none⟩:=by
     unfold Addr.add at ha2;rw[if_pos (by simp)]at ha2;exact ha2
    exact⟨r,hok,C,U,fr,ha3,hb,he,hsz⟩
  let g:Nat→α:=fun i=>if hlt:i<len then(hrow i hlt).choose else d0
  have hg:∀i (hlt:i<len),g i=(hrow i hlt).choose:=fun i hlt=>by
   show(if hlt:i<len then(hrow i hlt).choose else _)=_;rw[dif_pos hlt]
  refine⟨⟨some a,(List.range len).map g,cap⟩,by simp[slv,Sl.v],?_,fun x hx=> ?_,?_,fun x hx=> ?_,by simp;omega⟩
  ·by_cases hz:len=0
   ·subst hz;exact .inl rfl
   ·obtain⟨r0,_,C,U,fr,ha,hb,_,_⟩:=hrow 0 (by omega);refine .inr ⟨a.block,a.off,C,U,fr,congrArg some ha,hb,fun i r hr=> ?_⟩;rw[List.getElem?_map]at hr;by_cases hlt:i<len
    ·rw[List.getElem?_range hlt]at hr;simp only[Option.map_some,Option.some.injEq]at hr;subst hr;obtain⟨_,C',U',fr',_,hb',he,hsz⟩:=(hrow i hlt).choose_spec;rw[hb]at hb';cases hb';rw[hg i hlt];exact⟨he,hsz⟩
    ·rw[List.getElem?_eq_none (by simp;omega)]at hr;simp at hr
  ·obtain⟨i,hi2,rfl⟩:=List.mem_map.1 hx;have hlt:=List.mem_range.1 hi2;rw[hg i hlt];exact(hrow i hlt).choose_spec.1
  ·have:=hfit ((elems.length+rest.length)*B) (by
    simp only[DataW.weights,ht,List.mem_cons,List.length_map,hB];exact .inl trivial)
   have h2:len*B≤(elems.length+rest.length)*B:=Nat.mul_le_mul_right _ (by omega);simp only[List.length_map,List.length_range];omega
  ·cases hx;by_cases hz:len=0
   ·subst hz;exact .inr rfl
   ·obtain⟨r0,_,C,U,fr,ha,hb,_,_⟩:=hrow 0 (by omega);exact .inl (Ls hb)
theorem fits_field {t:TypeId} {fs:Array Field} {parts:List (DataW H)} (ht:P.underlying t=some (.struct fs)) (hfit:fits P t (.agg parts)) {i:Nat} {fl:Field} {d:DataW H} (hf:fs[i]? =some fl) (hd:parts[i]? =some d):fits P fl.type d:=fun k hk=>hfit k (by
 simp only[DataW.weights,ht];exact DataW.weights_mem_each (j:=i) (by simp[hf]) hd k hk)
theorem fits_arg {ts:List TypeId} {ds:List (DataW H)} (h:(DataW.weightsEach P ts ds).all (·≤reachBytes)=true) {j:Nat} {t:TypeId} {d:DataW H} (ht:ts[j]? =some t) (hd:ds[j]? =some d):fits P t d:=fun k hk=>by
 have:=List.all_eq_true.1 h _ (DataW.weights_mem_each ht hd k hk);simpa using this
theorem reach_small {n B:Nat} (h:n*B≤reachBytes) (hB:0<B):n≤140737488355328:=by
 have:=reachBytes_lt;have h2:n*1≤n*B:=Nat.mul_le_mul_left _ hB;have:n<2^47:=by omega
 exact Nat.le_of_lt this
end
section
variable {α:Type} {f:α→Array Value} {n B:Nat} {P:Program} {T E:TypeId}
structure ElT (P:Program) (T E:TypeId) (f:α→Array Value) (n B:Nat):Prop where
 u:P.underlying T=some (.slice E)
 info:∃i z,P.info? E=some i∧i.zero=some z∧i.size=n∧i.bytes=B∧z.cells.size=n
 pos:0<n
 size:∀x,(f x).size=n
 one:∀x,∀u∈(f x).toList,u.oneCell'=true
def cellsOf (f:α→Array Value) (l:List α):List Value:=l.flatMap fun x=>(f x).toList
theorem cellsOf_append (l m:List α):cellsOf f (l++m)=cellsOf f l++cellsOf f m:=by simp[cellsOf]
theorem cellsOf_len (h:∀x,(f x).size=n):∀l:List α,(cellsOf f l).length=l.length*n
 |[]=>by simp[cellsOf]
 |x::l=>by
  have:=cellsOf_len h l;unfold cellsOf at this⊢;rw[List.flatMap_cons,List.length_append,this,Array.length_toList,h x,List.length_cons,Nat.add_mul];omega
theorem cellsOf_get (h:∀x,(f x).size=n):∀(l:List α) (i:Nat) (x:α),l[i]? =some x→((cellsOf f l).drop (i*n)).take n=(f x).toList
 |[],i,x,h=>by simp at h
 |y::l,0,x,hx=>by
  simp at hx;subst hx;show(((f y).toList++cellsOf f l).drop (0*n)).take n=_;rw[Nat.zero_mul,List.drop_zero];have:n=(f y).toList.length:=by rw[Array.length_toList,h]
  rw[this,List.take_left]
 |y::l,i+1,x,hx=>by
  have:=cellsOf_get h l i x (by simpa using hx);show(((f y).toList++cellsOf f l).drop ((i+1)*n)).take n=_;have h2:(f y).toList.length=n:=by rw[Array.length_toList,h]
  rw[List.drop_append,h2,List.drop_eq_nil_of_le (by rw[h2,Nat.add_mul];omega),List.nil_append,Nat.add_mul,Nat.one_mul,Nat.add_sub_cancel];exact this
def SlOwn (f:α→Array Value) (n:Nat) (E:TypeId) (w:World) (base:Nat) (v:Value) (l:List α):Prop:=w.ownsRow base E n v l.length (cellsOf f l)
theorem SlOwn.nil (w:World) (base:Nat):SlOwn f n E w base (.slice none 0 0) []:=World.ownsRow_nil w base _ _
theorem SlOwn.mod {w w':World} {base:Nat} {v:Value} {l:List α} {S:Nat→Prop} (h:SlOwn f n E w base v l) (hm:Mod S w w') (hS:∀b,v.ownBlock=some b→¬S b):SlOwn f n E w' base v l:=by
 refine⟨h.1,?_⟩;rcases h.2 with hn|⟨g,cap,cur,rfl,hb,hg,rest⟩
 ·exact .inl hn
 ·exact .inr ⟨g,cap,cur,rfl,hb,hm.at hg (hS g rfl),rest⟩
theorem SlOwn.mod0 {w w':World} {base:Nat} {v:Value} {l:List α} (h:SlOwn f n E w base v l) (hm:Mod (fun _=>False) w w'):SlOwn f n E w' base v l:=h.mod hm (fun _ _ h=>h)
theorem SlOwn.lt {w:World} {base:Nat} {v:Value} {l:List α} (h:SlOwn f n E w base v l):∀k,v.ownBlock=some k→base≤k∧k<w.heap.size:=World.ownsRow.lt h
theorem SlOwn.at (hT:ElT P T E f n B) {w:World} {base:Nat} {v:Value} {l:List α} (h:SlOwn f n E w base v l):
  ∃a c,v= .slice a l.length c∧SlAt f n w a l∧(∀x,a=some x→base≤x.block∧x.block<w.heap.size∧v.ownBlock=some x.block)∧l.length≤maxLen:=by
 rcases h.2 with⟨rfl,hn⟩|⟨g,cap,cur,rfl,hb,hg,hnc,hcm,hcs,htake⟩
 ·obtain rfl:l=[]:=List.eq_nil_of_length_eq_zero hn;exact⟨none,0,rfl,.inl rfl,fun x hx=>(by cases hx),(by simp)⟩
 ·refine⟨_,cap,rfl,.inr ⟨g,0,cur,_,_,rfl,hg,fun i r hr=> ?_⟩,fun x hx=> ?_,Nat.le_trans hnc hcm⟩
  ·have hi:i<l.length:=(List.getElem?_eq_some_iff.1 hr).1;have hle:(i+1)*n≤cap*n:=Nat.mul_le_mul_right _ (by omega);have hle2:(i+1)*n≤l.length*n:=Nat.mul_le_mul_right _ hi;rw[Nat.add_mul,Nat.one_mul]at hle hle2;refine⟨?_,by omega⟩;have h1:=cellsOf_get hT.size l i r hr;rw[←htake]at h1;have h2:((cur.toList.take (l.length*n)).drop (i*n)).take n=(cur.toList.drop (i*n)).take n:=by
    rw[List.drop_take,List.take_take,Nat.min_eq_left];omega
   rw[h2]at h1;apply Array.ext';rw[←h1,Array.toList_extract];simp[List.extract]
  ·cases hx;exact⟨hb,Ls hg,rfl⟩
theorem append_none {w:World} {t:TypeId} {v:Value} {base:Nat} {l:List α} (hT:ElT P T E f n B) (h:SlOwn f n E w base v l) (ty:TypeId) (c:Nat):(Builtin.append_ #[T,T] ty #[v,.slice none 0 c]).run P w= .ok v w:=by
 obtain⟨i,z,hi,hz,h1,h2,h3⟩:=hT.info;rcases h.2 with⟨rfl,hn⟩|⟨g,cap,cur,rfl,hb,hg,hnc,hcm,hcs,htake⟩
 ·simp[Builtin.append_,run_underlying hT.u,sizeOf,typeInfo,hi,Builtin.lenOf,Builtin.firstCells]
 ·simp[Builtin.append_,run_underlying hT.u,sizeOf,typeInfo,hi,Builtin.lenOf,Builtin.firstCells,hnc,storeCells]
theorem SlOwn.appendB (hT:ElT P T E f n B) {w:World} {base:Nat} {v:Value} {l q:List α} {a:Option Addr} {c:Nat} (h:SlOwn f n E w base v l) (hq:SlAt f n w a q) (hlen:l.length+q.length≤1000000000000) (hbytes:(l.length+q.length)*B≤140737488355328) (hbase:base≤w.heap.size) (ty:TypeId):
  ∃v' w',(Builtin.append_ #[T,T] ty #[v,.slice a q.length c]).run P w= .ok v' w'∧SlOwn f n E w' base v' (l++q)∧Mod (fun i=>v.ownBlock=some i) w w'∧(v'.ownBlock=v.ownBlock∨v'.ownBlock=some w.heap.size):=by
 obtain⟨i0,z,hi,hz,hz1,hz2,hz3⟩:=hT.info;cases a with
 |none=>
  obtain rfl:q=[]:=by
   rcases hq with h|⟨_,_,_,_,_,h,_⟩
   ·exact h
   ·cases h
  refine⟨v,w,append_none (t:=T) hT h ty c,by rwa[List.append_nil],Mod.refl _ _,.inl rfl⟩
 |some ad=>
  obtain⟨v',w',hrun,hown,hg,_,hat⟩:=run_append_own_at (P:=P) w base T ty E i0 z n B hT.u hi hz hz1 hz2 hz3 hT.pos v l.length (cellsOf f l) h ad q.length c (cellsOf f q) (cellsOf_len hT.size q) (fun j u hu=>by
   have hj:j<(cellsOf f q).length:=(List.getElem?_eq_some_iff.1 hu).1;rw[cellsOf_len hT.size]at hj;have hn:=hT.pos;have hd:j/n<q.length:=Nat.div_lt_of_lt_mul (by rw[Nat.mul_comm];exact hj);obtain⟨x,hx⟩:∃x,q[j/n]? =some x:=⟨_,List.getElem?_eq_getElem hd⟩;obtain⟨b,o,C,U,fr,ha,hb,he,hsz⟩:=hq.block hx;cases ha;have hjm:j/n*n+j % n=j:=by rw[Nat.mul_comm];exact Nat.div_add_mod j n
   have hlt:=Nat.mod_lt j hn;have hget:=cellsOf_get hT.size q (j/n) x hx;have hv:(f x)[j % n]? =some u:=by
    have h1:=congrArg (fun L=>L[j % n]?) hget;simp only[List.getElem?_take,List.getElem?_drop,hlt,if_true,hjm]at h1;rw[hu]at h1;simpa using h1.symm
   have hcell:=cell_in hb he hv;have hadd:(⟨b,o,none⟩:Addr).add j=⟨b,o+j/n*n+j % n,none⟩:=by
    rw[Nat.add_assoc,hjm];unfold Addr.add;split<;>simp_all
   rw[hadd];exact hcell) (fun u hu=>by
   obtain⟨x,_,hx⟩:=List.mem_flatMap.1 hu;exact hT.one x u hx) (by simp[maxLen];omega) (by
   exact hbytes) hbase
  refine⟨v',w',hrun,?_,⟨hg.os,hg.tape,hg.output,hg.size,fun i hi hs=>hg.block i hi (fun e=>hs e.symm)⟩,hat⟩;unfold SlOwn;rw[cellsOf_append,List.length_append];exact hown
theorem SlOwn.append (hT:ElT P T E f n B) {w:World} {base:Nat} {v:Value} {l q:List α} {a:Option Addr} {c:Nat} (h:SlOwn f n E w base v l) (hq:SlAt f n w a q) (hlen:l.length+q.length≤1000000) (hB:B≤100000000) (hbase:base≤w.heap.size) (ty:TypeId):
  ∃v' w',(Builtin.append_ #[T,T] ty #[v,.slice a q.length c]).run P w= .ok v' w'∧SlOwn f n E w' base v' (l++q)∧Mod (fun i=>v.ownBlock=some i) w w'∧(v'.ownBlock=v.ownBlock∨v'.ownBlock=some w.heap.size):=by
 exact SlOwn.appendB hT h hq (by omega) (by
  have:(l.length+q.length)*B≤1000000*100000000:=Nat.mul_le_mul hlen hB;omega) hbase ty
end
section
variable {α:Type} {f:α→Array Value} {n B:Nat} {P:Program} {T E:TypeId}
def SlOff (f:α→Array Value) (n:Nat) (E:TypeId) (w:World) (base:Nat) (v:Value) (l:List α):Prop:=
 (v= .slice none 0 0∧l=[])∨
 ∃g o cap cur,v= .slice (some ⟨g,o,none⟩) l.length cap∧base≤g∧w.heap[g]? =some (.cells cur E (0,0))∧l.length≤cap∧cap≤maxLen∧(0<cap→o+cap*n≤cur.size)∧(cur.toList.drop o).take (l.length*n)=cellsOf f l
theorem SlOwn.off {w:World} {base:Nat} {v:Value} {l:List α} (h:SlOwn f n E w base v l):SlOff f n E w base v l:=by
 rcases h.2 with⟨rfl,hn⟩|⟨g,cap,cur,rfl,hb,hg,hnc,hcm,hcs,htake⟩
 ·exact .inl ⟨rfl,List.eq_nil_of_length_eq_zero hn⟩
 ·exact .inr ⟨g,0,cap,cur,rfl,hb,hg,hnc,hcm,fun _=>by omega,by rw[List.drop_zero];exact htake⟩
theorem SlOff.mod {w w':World} {base:Nat} {v:Value} {l:List α} {S:Nat→Prop} (h:SlOff f n E w base v l) (hm:Mod S w w') (hS:∀b,v.ownBlock=some b→¬S b):SlOff f n E w' base v l:=by
 rcases h with hn|⟨g,o,cap,cur,rfl,hb,hg,rest⟩
 ·exact .inl hn
 ·exact .inr ⟨g,o,cap,cur,rfl,hb,hm.at hg (hS g rfl),rest⟩
theorem SlOff.mod0 {w w':World} {base:Nat} {v:Value} {l:List α} (h:SlOff f n E w base v l) (hm:Mod (fun _=>False) w w'):SlOff f n E w' base v l:=h.mod hm (fun _ _ h=>h)
theorem SlOff.lt {w:World} {base:Nat} {v:Value} {l:List α} (h:SlOff f n E w base v l):∀k,v.ownBlock=some k→base≤k∧k<w.heap.size:=by
 intro k hk;rcases h with⟨rfl,_⟩|⟨g,o,cap,cur,rfl,hb,hg,_⟩
 ·cases hk
 ·cases hk;exact⟨hb,Ls hg⟩
theorem SlOff.at (hT:ElT P T E f n B) {w:World} {base:Nat} {v:Value} {l:List α} (h:SlOff f n E w base v l):
  ∃a c,v= .slice a l.length c∧SlAt f n w a l∧(∀x,a=some x→base≤x.block∧x.block<w.heap.size∧v.ownBlock=some x.block)∧l.length≤maxLen:=by
 rcases h with⟨rfl,rfl⟩|⟨g,o,cap,cur,rfl,hb,hg,hnc,hcm,hcs,htake⟩
 ·exact⟨none,0,rfl,.inl rfl,fun x hx=>(by cases hx),(by simp)⟩
 ·refine⟨_,cap,rfl,.inr ⟨g,o,cur,_,_,rfl,hg,fun i r hr=> ?_⟩,fun x hx=> ?_,Nat.le_trans hnc hcm⟩
  ·have hi:i<l.length:=(List.getElem?_eq_some_iff.1 hr).1;have hle:(i+1)*n≤cap*n:=Nat.mul_le_mul_right _ (by omega);have hle2:(i+1)*n≤l.length*n:=Nat.mul_le_mul_right _ hi;have hcs:=hcs (by omega);rw[Nat.add_mul,Nat.one_mul]at hle hle2;refine⟨?_,by omega⟩;have h1:=cellsOf_get hT.size l i r hr;rw[←htake]at h1;have h2:(((cur.toList.drop o).take (l.length*n)).drop (i*n)).take n=(cur.toList.drop (o+i*n)).take n:=by
    rw[List.drop_take,List.take_take,Nat.min_eq_left (by omega),List.drop_drop]
   rw[h2]at h1;apply Array.ext';rw[←h1,Array.toList_extract];simp[List.extract]
  ·cases hx;exact⟨hb,Ls hg,rfl⟩
theorem SlAt.news (hT:ElT P T E f n B) {w:World} {ad:Addr} {q:List α} (hq:SlAt f n w (some ad) q):∀j u,(cellsOf f q)[j]? =some u→w.cell? (ad.add j)=some u:=fun j u hu=>by
 have hj:j<(cellsOf f q).length:=(List.getElem?_eq_some_iff.1 hu).1;rw[cellsOf_len hT.size]at hj;have hn:=hT.pos;have hd:j/n<q.length:=Nat.div_lt_of_lt_mul (by rw[Nat.mul_comm];exact hj);obtain⟨x,hx⟩:∃x,q[j/n]? =some x:=⟨_,List.getElem?_eq_getElem hd⟩;obtain⟨b,o,C,U,fr,ha,hb,he,hsz⟩:=hq.block hx;cases ha;have hjm:j/n*n+j % n=j:=by rw[Nat.mul_comm];exact Nat.div_add_mod j n
 have hlt:=Nat.mod_lt j hn;have hget:=cellsOf_get hT.size q (j/n) x hx;have hv:(f x)[j % n]? =some u:=by
  have h1:=congrArg (fun L=>L[j % n]?) hget;simp only[List.getElem?_take,List.getElem?_drop,hlt,if_true,hjm]at h1;rw[hu]at h1;simpa using h1.symm
 have hcell:=cell_in hb he hv;have hadd:(⟨b,o,none⟩:Addr).add j=⟨b,o+j/n*n+j % n,none⟩:=by
  rw[Nat.add_assoc,hjm];unfold Addr.add;split<;>simp_all
 rw[hadd];exact hcell
theorem cellsOf_one (hT:ElT P T E f n B) (q:List α):∀u∈cellsOf f q,u.oneCell'=true:=fun u hu=>by
 obtain⟨x,_,hx⟩:=List.mem_flatMap.1 hu;exact hT.one x u hx
theorem SlOff.append (hT:ElT P T E f n B) {w:World} {base:Nat} {v:Value} {l q:List α} {a:Option Addr} {c:Nat} (h:SlOff f n E w base v l) (hq:SlAt f n w a q) (hlen:l.length+q.length≤1000000) (hB:B≤100000000) (hbase:base≤w.heap.size) (ty:TypeId):
  ∃v' w',(Builtin.append_ #[T,T] ty #[v,.slice a q.length c]).run P w= .ok v' w'∧SlOff f n E w' base v' (l++q)∧Mod (fun i=>v.ownBlock=some i) w w'∧(∀k,v'.ownBlock=some k→v.ownBlock=some k∨w.heap.size≤k):=by
 obtain⟨i0,z,hi,hz,hz1,hz2,hz3⟩:=hT.info;have hbytes:(l.length+q.length)*B≤140737488355328:=by
  have:(l.length+q.length)*B≤1000000*100000000:=Nat.mul_le_mul hlen hB;omega
 rcases id h with⟨rfl,rfl⟩|⟨g,o,cap,cur,rfl,hb,hg,hnc,hcm,hcs,htake⟩
 ·obtain⟨v',w',h1,h2,h3,h4⟩:=SlOwn.append hT (c:=c) (SlOwn.nil w base) hq hlen hB hbase ty;exact⟨v',w',h1,h2.off,h3,fun k hk=>by rcases h4 with h4|h4<;>rw[h4]at hk<;>cases hk;exact .inr (Nat.le_refl _)⟩
 ·cases a with
  |none=>
   obtain rfl:q=[]:=by
    rcases hq with h|⟨_,_,_,_,_,h,_⟩
    ·exact h
    ·cases h
   refine⟨.slice (some ⟨g,o,none⟩) l.length cap,w,?_,by rw[List.append_nil];exact h,Mod.refl _ _,fun _=> .inl⟩;simp[Builtin.append_,run_underlying hT.u,sizeOf,typeInfo,hi,Builtin.lenOf,Builtin.firstCells,hnc,storeCells]
  |some ad=>
   have hl:=cellsOf_len hT.size q;have hnews:=SlAt.news hT hq;have h1:=cellsOf_one hT q;by_cases hroom:l.length+q.length≤cap
   ·by_cases hc0:cap=0
    ·subst hc0;obtain rfl:l=[]:=List.eq_nil_of_length_eq_zero (by omega);obtain rfl:q=[]:=List.eq_nil_of_length_eq_zero (by omega);refine⟨.slice (some ⟨g,o,none⟩) 0 0,w,?_,by rw[List.append_nil];exact h,Mod.refl _ _,fun _=> .inl⟩;have:=run_append_room_cells (P:=P) w T ty E i0 hT.u hi g o 0 0 ad 0 c [] (by simp) (by simp) (by simp) (by omega) (by simp) (by simp);exact this
    ·have hcs:=hcs (by omega);have hmul:(l.length+q.length)*n≤cap*n:=Nat.mul_le_mul_right _ hroom;rw[Nat.add_mul]at hmul;have hrun:=run_append_room_cells (P:=P) w T ty E i0 hT.u hi g o l.length cap ad q.length c (cellsOf f q) (by rw[hl,hz1]) hnews h1 hroom (fun j hj=>by
      rw[hl]at hj;rw[hz1];unfold World.cell?;rw[hg];simp;omega) (fun j hj=>by
      unfold World.frozen?;rw[hg];simp)
     rw[hz1,setCells_blk _ w g _ cur E (0,0) hg]at hrun;refine⟨_,_,hrun,.inr ⟨g,o,cap,wr cur (o+l.length*n) (cellsOf f q),by rw[List.length_append],hb,heap_setBlock w _ (Ls hg),by rw[List.length_append];omega,hcm,fun _=>by rw[wr_size];exact hcs,?_⟩,(mod_set w g _).mono (fun i _ e=>by subst e;rfl),fun _=> .inl⟩;rw[wr_list _ _ _ (by rw[hl];omega),cellsOf_append,List.length_append,Nat.add_mul];have hcl:cur.toList.length=cur.size:=Array.length_toList;have e1:(cur.toList.take (o+l.length*n)++cellsOf f q++cur.toList.drop (o+l.length*n+(cellsOf f q).length)).drop o=((cur.toList.drop o).take (l.length*n))++cellsOf f q++cur.toList.drop (o+l.length*n+(cellsOf f q).length):=by
      rw[List.append_assoc,List.drop_append_of_le_length (by rw[List.length_take,hcl];omega),List.drop_take,Nat.add_sub_cancel_left,List.append_assoc]
     rw[e1,htake];have hll:=cellsOf_len hT.size l;have:l.length*n+q.length*n=(cellsOf f l++cellsOf f q).length:=by rw[List.length_append,hll,hl]
     rw[this,List.take_left]
   ·obtain⟨v',w',hrun,hown,hgr⟩:=run_append_arg_grows (P:=P) w T ty E i0 z n B hT.u hi hz hz1 hz2 hz3 hT.pos ⟨g,o,none⟩ l.length cap (cellsOf f l) (cellsOf_len hT.size l) (by
     obtain⟨a',c',hv,hat,_,_⟩:=h.at hT;cases hv;exact SlAt.news hT hat) ad q.length c (cellsOf f q) hl hnews (by omega) (by simp[maxLen];omega) hbytes
    have hown2:SlOwn f n E w' w.heap.size v' (l++q):=by
     unfold SlOwn;rw[cellsOf_append,List.length_append];exact hown
    have hm:Mod (fun _=>False) w w':=⟨hgr.os,hgr.tape,hgr.output,hgr.size,fun i hi hs=>hgr.block i hi (by simp)⟩;refine⟨v',w',hrun,?_,hm.mono (fun _ _ h=>h.elim),?_⟩
    ·rcases hown2.off with hn|⟨g',o',cap',cur',h1,h2,rest⟩
     ·exact .inl hn
     ·exact .inr ⟨g',o',cap',cur',h1,by omega,rest⟩
    ·exact fun k hk=> .inr (hown2.lt k hk).1
end
section
variable {α:Type} {f:α→Array Value} {n B:Nat} {P:Program} {T E:TypeId}
theorem sl_take (hT:ElT P T E f n B) {g o cap len k:Nat} (hk:k≤cap) (w:World):
  (Instr.sliceAt T (.slice (some ⟨g,o,none⟩) len cap) none (some (.int .i64 (k:Int))) none).run P w= .ok (.slice (some ⟨g,o,none⟩) k cap) w:=by
 obtain⟨i0,z,hi,hz,hz1,hz2,hz3⟩:=hT.info;have hadd:(⟨g,o,none⟩:Addr).add (0*n)=⟨g,o,none⟩:=by
  unfold Addr.add;rw[Nat.zero_mul,if_pos rfl]
 have hp:(0:Int)≤(k:Int)∧(k:Int)≤(cap:Int):=⟨by omega,by omega⟩;simp only[Instr.sliceAt,Instr.slice,Instr.sliceBounds,Instr.sliceBound,asIntOf,sizeOf,typeInfo,run_underlying hT.u,hi,Sem.run_bind,Sem.run_pure,Result.andThen_ok];rw[if_pos hp];simp only[Sem.run_pure,Result.andThen_ok,Go.program,Sem.run,hi,hz1,Option.map_some,Int.toNat_natCast,hadd,Nat.sub_zero,ite_self]
end
theorem SlAt.one {α:Type} {f:α→Array Value} {n:Nat} {w:World} {b:Nat} {C:Array Value} {U:TypeId} {fr} (hb:w.heap[b]? =some (.cells C U fr)) (x:α) (hC:C=f x) (hn:(f x).size=n):SlAt f n w (some ⟨b,0,none⟩) [x]:=by
 subst hC;refine .inr ⟨b,0,_,U,fr,rfl,hb,fun i y hy=> ?_⟩;cases i with
 |zero=>
  simp at hy;subst hy;refine⟨?_,by omega⟩;rw[Nat.zero_mul,Nat.zero_add,←hn];simp
 |succ i=>simp at hy
theorem drop_cons {α:Type} {l:List α} {j:Nat} {x:α} (h:l[j]? =some x):l.drop j=x::l.drop (j+1):=by
 obtain⟨hj,rfl⟩:=List.getElem?_eq_some_iff.1 h;exact List.drop_eq_getElem_cons hj
theorem fresh3 (w:World) (a b c:Obj):(((w.alloc a).alloc b).alloc c).heap[w.heap.size]? =some a∧(((w.alloc a).alloc b).alloc c).heap[w.heap.size+1]? =some b∧(((w.alloc a).alloc b).alloc c).heap[w.heap.size+1+1]? =some c:=by
 have e:(((w.alloc a).alloc b).alloc c).heap=((w.heap.push a).push b).push c:=rfl;rw[e];have n1:w.heap.size+1≠w.heap.size:=by omega
 have n2:w.heap.size≠w.heap.size+1+1:=by omega
 have n3:w.heap.size+1≠w.heap.size+1+1:=by omega
 have s2:(w.heap.push a).size=w.heap.size+1:=by simp
 have s3:((w.heap.push a).push b).size=w.heap.size+1+1:=by simp
 refine⟨?_,?_,?_⟩
 ·rw[Array.getElem?_push,s3,if_neg n2,Array.getElem?_push,s2,if_neg (Ne.symm n1),Array.getElem?_push,if_pos rfl]
 ·rw[Array.getElem?_push,s3,if_neg n3,Array.getElem?_push,s2,if_pos rfl]
 ·rw[Array.getElem?_push,s3,if_pos rfl]
theorem fresh2 (w:World) (a b:Obj):((w.alloc a).alloc b).heap[w.heap.size]? =some a∧((w.alloc a).alloc b).heap[w.heap.size+1]? =some b:=by
 have e:((w.alloc a).alloc b).heap=(w.heap.push a).push b:=rfl;rw[e];have n2:w.heap.size≠w.heap.size+1:=by omega
 have s2:(w.heap.push a).size=w.heap.size+1:=by simp
 refine⟨?_,?_⟩
 ·rw[Array.getElem?_push,s2,if_neg n2,Array.getElem?_push,if_pos rfl]
 ·rw[Array.getElem?_push,s2,if_pos rfl]
theorem any_take {α:Type} (f:α→Bool) (l:List α) {i:Nat} {x:α} (h:l[i]? =some x):(l.take (i+1)).any f=((l.take i).any f||f x):=by
 rw[List.take_add_one,h];simp
theorem results_cell1 {P:Program} {fn:Func} {t:Tmp} {T:TypeId} {tmps:Array Value} {p:Addr} {v:Value} {w:World} (h:fn.results= #[.cell t T]) (ht:tmps.getD t undef= .pointer (some p))
  (hl:(Instr.loadAt T (.pointer (some p))).run P w= .ok v w):(results fn tmps).run P w= .ok v w:=by
 have hl2:(loadVar T p).run P w= .ok v w:=by simpa[Instr.loadAt,Instr.sureAddr] using hl
 unfold results;rw[h];have hmap:∀ {α β:Type} (f:α→β) (x:Sem α) (w:World),(f<$>x).run P w=(x.run P w).andThen fun a w=> .ok (f a) w:=fun f x w=>by
  show(x>>=fun a=>pure (f a)).run P w=_;rw[Sem.run_bind];rfl
 simp only[List.mapM_toArray,List.mapM_cons,List.mapM_nil,ht,asAddr,Sem.run_bind,hmap,Sem.run_pure,Result.andThen_ok,hl2];rfl
end Go.Proofs.YtceodkliooeccaaGreatDoor
namespace Go.Proofs.YtceodkliooeccaaGreatDoor
section
variable {P:Program} {ops:Array Oper} {Q:Exit→Act→World→Prop} {S:World→Prop} {C:FuncId→Array Value→Value→Prop} {w0:World} {κ:Nat→Nat}
theorem TD.conv {i:Nat} {r:List Nat} {a:Act} {B:Bx} {o:Oper} {s d:TypeId} {x:Operand} {p v:Value} (hS:S w0) (ho:ops[i]? =some o) (hk:κ i=1) (hw:Region.wanted o (yielded ops a.tmps)=true)
  (hop:o.op= .convert s d x) (hx:a.eval x=p) (hr:∀w,S w→(convert s d p).run P w= .ok v w) (h:TD P ops Q S C w0 κ r (a.put o.dst v) B):TD P ops Q S C w0 κ (i::r) a B:=
 TD.val1 hS ho hk hw (fun w hs=>by subst hx;simp[execOp,hop,hr w hs]) h
end
end Go.Proofs.YtceodkliooeccaaGreatDoor
namespace Go.Proofs.YtceodkliooeccaaGreatDoor
open Go.ChangeMaps (setBlock)
abbrev Land:=(Nat→Prop)→World→Prop
def Closed (K:Land):Prop:=∀T w w',K T w→Mod (fun i=>¬T i) w w'→K T w'
structure RT (T0:Nat→Prop) (w0:World) (B:Bx) (K:Land) (T:Nat→Prop) (w:World):Prop where
 k:K T w
 lt:∀i,T i→i<w.heap.size
 old:∀i,i<w0.heap.size→T i→T0 i
 mod:Mod T0 w0 w
 box:∀p b,B p=some b→w0.heap.size≤p∧¬T p∧w.heap[p]? =some (.cells b.cells b.ty (0,0))
def RG (T0:Nat→Prop) (w0:World) (B:Bx) (K:Land) (w:World):Prop:=∃T,RT T0 w0 B K T w
def Inh (T0:Nat→Prop) (w0:World) (B:Bx) (K:Land):Prop:=∃w,RG T0 w0 B K w
section
variable {T0:Nat→Prop} {w0:World}
theorem RT.none {B:Bx} {K:Land} {T:Nat→Prop} {w:World} (h:RT T0 w0 B K T w):B w.heap.size=Option.none:=by
 cases hb:B w.heap.size with
 |none=>rfl
 |some b=>have:=Ls (h.box _ _ hb).2.2;omega
theorem RT.alloc {B:Bx} {K:Land} {T:Nat→Prop} {w:World} (hK:Closed K) (h:RT T0 w0 B K T w) (z:Array Value) (ty:TypeId) (d:Tmp):RT T0 w0 (B.set w.heap.size ⟨z,ty,d⟩) K T (w.alloc (.cells z ty)) where
 k:=hK T w _ h.k ((Mod.refl _ w).alloc _)
 lt i hi:=Nat.lt_of_lt_of_le (h.lt i hi) ((Mod.refl (fun _=>False) w).alloc (.cells z ty)).size
 old:=h.old
 mod:=h.mod.alloc _
 box p b hb:=by
  unfold Bx.set at hb;split at hb
  ·rename_i hp;subst hp;cases hb;exact⟨h.mod.size,fun hT=>by have:=h.lt _ hT;omega,by rw[heap_alloc_new]⟩
  ·have:=h.box p b hb;exact⟨this.1,this.2.1,by rw[heap_alloc_old w _ (Ls this.2.2)];exact this.2.2⟩
theorem RT.store {B:Bx} {K:Land} {T:Nat→Prop} {w:World} (hK:Closed K) (h:RT T0 w0 B K T w) {p:Nat} {b:LB} (hb:B p=some b) (cs:Array Value):RT T0 w0 (B.set p {b with cells:=cs}) K T (setBlock w p (.cells cs b.ty (0,0))) where
 k:=hK T w _ h.k ((Mod.refl _ w).setBlock _ (fun _=>(h.box p b hb).2.1))
 lt i hi:=Nat.lt_of_lt_of_le (h.lt i hi) (mod_set w p _).size
 old:=h.old
 mod:=h.mod.setBlock _ (fun hlt=>absurd hlt (Nat.not_lt.2 (h.box p b hb).1))
 box q c hc:=by
  have hp:=h.box p b hb;unfold Bx.set at hc;split at hc
  ·rename_i hq;subst hq;cases hc;exact⟨hp.1,hp.2.1,heap_setBlock w _ (Ls hp.2.2)⟩
  ·rename_i hq;have:=h.box q c hc;exact⟨this.1,this.2.1,by rw[heap_setBlock_ne w _ hq];exact this.2.2⟩
theorem RT.weaken {B B':Bx} {K:Land} {T:Nat→Prop} {w:World} (h:RT T0 w0 B' K T w) (hB:∀p b,B p=some b→B' p=some b):RT T0 w0 B K T w:=
 ⟨h.k,h.lt,h.old,h.mod,fun p b hb=>h.box p b (hB p b hb)⟩
theorem Inh.weaken {B:Bx} {K:Land} {p:Nat} {b:LB} (h:Inh T0 w0 (B.set p b) K) (hp:B p=Option.none):Inh T0 w0 B K:=by
 obtain⟨w,T,h⟩:=h;refine⟨w,T,h.weaken fun q c hc=> ?_⟩;rw[Bx.set_ne _ (fun e=>by rw[e,hp]at hc;cases hc)];exact hc
theorem Bx.set_set (B:Bx) (p:Nat) (b c:LB):(B.set p b).set p c=B.set p c:=by
 funext q;unfold Bx.set;split<;>rfl
theorem Bx.set_id {B:Bx} {p:Nat} {b:LB} (h:B p=some b):B.set p b=B:=by
 funext q;unfold Bx.set;split
 ·rename_i e;rw[e,h]
 ·rfl
theorem Inh.store {B:Bx} {K:Land} (hK:Closed K) {p:Nat} {b:LB} (hb:B p=some b) (cs:Array Value) (h:Inh T0 w0 B K):Inh T0 w0 (B.set p {b with cells:=cs}) K:=by
 obtain⟨w,T,h⟩:=h;exact⟨_,T,h.store hK hb cs⟩
theorem Inh.unstore {B:Bx} {K:Land} (hK:Closed K) {p:Nat} {b:LB} (hb:B p=some b) (cs:Array Value) (h:Inh T0 w0 (B.set p {b with cells:=cs}) K):Inh T0 w0 B K:=by
 obtain⟨w,T,h⟩:=h;have h2:=h.store hK (p:=p) (b:= {b with cells:=cs}) (Bx.set_same _ _ _) b.cells;rw[Bx.set_set]at h2;have e:B.set p b=B:=Bx.set_id hb;have h3:RT T0 w0 (B.set p b) K T (setBlock w p (.cells b.cells b.ty (0,0))):=h2;rw[e]at h3;exact⟨_,T,h3⟩
theorem Inh.alloc {B:Bx} {K:Land} (hK:Closed K) (h:Inh T0 w0 B K) (z:Array Value) (ty:TypeId) (d:Tmp):∃p,B p=Option.none∧Inh T0 w0 (B.set p ⟨z,ty,d⟩) K:=by
 obtain⟨w,T,h⟩:=h;exact⟨w.heap.size,h.none,_,T,h.alloc hK z ty d⟩
end
section
variable (P:Program) (ops:Array Oper) (Q:Exit→Act→World→Prop) (T0:Nat→Prop) (w0:World) (κ:Nat→Nat) (υ:Nat→List Tmp)
def Does (o:Oper) (a:Act) (w:World) (R:Value→World→Prop):Prop:=
 (∃v w',(execOp a.eval o).run P w= .ok (.value v) w'∧R v w')∨(∃w',(execOp a.eval o).run P w= .ok .skip w'∧R undef w')∨
 (∃f args,(execOp a.eval o).run P w= .ok (.enter f args) w∧Calls P f args w fun e w'=>∃v,e= .returned v∧R v w')
structure ESpec (o:Oper) (a:Act) (us:List Tmp) (B:Bx) (K:Land) (K':Value→Land):Prop where
 cl:∀v,Closed (K' v)
 run:∀T w,K T w→(∀i,T i→i<w.heap.size)→(∀i,i<w0.heap.size→T i→T0 i)→Mod T0 w0 w→
  (∀p b,B p=some b→b.tag∈us→w0.heap.size≤p∧¬T p∧w.heap[p]? =some (.cells b.cells b.ty (0,0)))→
  Does P o a w fun v w'=>∃T',K' v T' w'∧Mod T w w'∧(∀i,T' i→T i∨w.heap.size≤i)∧(∀i,T' i→i<w'.heap.size)
inductive TG:List Nat→Act→Bx→Land→Prop
 |nil {a:Act} {B:Bx} {K:Land}:(∀w,RG T0 w0 B K w→Q .normal a w)→TG [] a B K
 |val {i:Nat} {r:List Nat} {o:Oper} {a:Act} {B:Bx} {K:Land} {v:Value}:ops[i]? =some o→κ i=0→YieldsIf P ops (Mod T0 w0) o v a→TG r (a.put o.dst v) B K→TG (i::r) a B K
 |alloc {i:Nat} {r:List Nat} {o:Oper} {a:Act} {B:Bx} {K:Land} {d:Tmp} {ty:TypeId} {z:Array Value} (V:Nat→Value):ops[i]? =some o→κ i=3→
   Region.wanted o (yielded ops a.tmps)=true→o.dst=some d→
   (∀w,(execOp a.eval o).run P w= .ok (.value (V w.heap.size)) (w.alloc (.cells z ty)))→
   (∀p,B p=none→Inh T0 w0 (B.set p ⟨z,ty,d⟩) K→TG r (a.put o.dst (V p)) (B.set p ⟨z,ty,d⟩) K)→TG (i::r) a B K
 |store {i:Nat} {r:List Nat} {o:Oper} {a:Act} {B:Bx} {K:Land} {d:Tmp} {ty:TypeId} {y:Operand} {p:Nat} {b:LB}:ops[i]? =some o→κ i=4→
   Region.wanted o (yielded ops a.tmps)=true→o.dst=none→o.op= .store ty (.tmp d) y→a.eval (.tmp d)= .pointer (some ⟨p,0,none⟩)→B p=some b→b.tag=d→
   (∀w,w.heap[p]? =some (.cells b.cells b.ty (0,0))→(execOp a.eval o).run P w= .ok .skip (setBlock w p (.cells (a.eval y).cells b.ty (0,0))))→
   TG r a (B.set p {b with cells:=(a.eval y).cells}) K→TG (i::r) a B K
 |eff {i:Nat} {r:List Nat} {o:Oper} {a:Act} {B:Bx} {K:Land} (K':Value→Land):ops[i]? =some o→κ i=6→Region.wanted o (yielded ops a.tmps)=true→
   ESpec P T0 w0 o a (υ i) B K K'→(∀v,Inh T0 w0 B (K' v)→TG r (a.put o.dst v) B (K' v))→TG (i::r) a B K
end
section
variable {P:Program} {ops:Array Oper} {Q:Exit→Act→World→Prop} {T0:Nat→Prop} {w0:World} {κ:Nat→Nat} {υ:Nat→List Tmp}
theorem Does.same {o:Oper} {a a':Act} {w:World} {R:Value→World→Prop} (he:execOp a'.eval o=execOp a.eval o) (h:Does P o a w R):Does P o a' w R:=by
 unfold Does at *;rw[he];exact h
theorem Does.ex {o:Oper} {a:Act} {w:World} {R:Value→World→Prop} (h:Does P o a w R):∃v w',R v w':=by
 rcases h with⟨v,w',_,h⟩|⟨w',_,h⟩|⟨f,args,_,h⟩
 ·exact⟨v,w',h⟩
 ·exact⟨_,w',h⟩
 ·obtain⟨e,w',fr,⟨v,_,hv⟩,_⟩:=h [];exact⟨v,w',hv⟩
theorem ESpec.same {o:Oper} {a a':Act} {us:List Tmp} {B:Bx} {K:Land} {K':Value→Land} (he:execOp a'.eval o=execOp a.eval o) (h:ESpec P T0 w0 o a us B K K'):ESpec P T0 w0 o a' us B K K':=
 ⟨h.cl,fun T w h1 h2 h3 h4 h5=>(h.run T w h1 h2 h3 h4 h5).same he⟩
theorem ESpec.boxes {o:Oper} {a:Act} {us:List Tmp} {B B':Bx} {K:Land} {K':Value→Land} (hB:∀p b,b.tag∈us→B p=Option.some b→B' p=Option.some b) (h:ESpec P T0 w0 o a us B K K'):ESpec P T0 w0 o a us B' K K':=
 ⟨h.cl,fun T w h1 h2 h3 h4 h5=>h.run T w h1 h2 h3 h4 fun p b hb ht=>h5 p b (hB p b ht hb) ht⟩
theorem ESpec.step {o:Oper} {a:Act} {us:List Tmp} {B:Bx} {K:Land} {K':Value→Land} (h:ESpec P T0 w0 o a us B K K') {T:Nat→Prop} {w:World} (hR:RT T0 w0 B K T w):
  Does P o a w fun v w'=>RG T0 w0 B (K' v) w':=by
 have key:∀v w',(∃T',K' v T' w'∧Mod T w w'∧(∀i,T' i→T i∨w.heap.size≤i)∧(∀i,T' i→i<w'.heap.size))→RG T0 w0 B (K' v) w':=by
  rintro v w' ⟨T',h1,h2,h3,h4⟩;refine⟨T',h1,h4,fun i hi hT=> ?_,hR.mod.then h2 hR.old,fun p b hb=> ?_⟩
  ·rcases h3 i hT with hh|hh
   ·exact hR.old i hi hh
   ·have:=hR.mod.size;omega
  ·obtain⟨b1,b2,b3⟩:=hR.box p b hb;refine⟨b1,fun hT=> ?_,h2.at b3 b2⟩;rcases h3 p hT with hh|hh
   ·exact b2 hh
   ·have:=Ls b3;omega
 rcases h.run T w hR.k hR.lt hR.old hR.mod (fun p b hb _=>hR.box p b hb)with⟨v,w',h1,h2⟩|⟨w',h1,h2⟩|⟨f,args,h1,h2⟩
 ·exact .inl ⟨v,w',h1,key _ _ h2⟩
 ·exact .inr (.inl ⟨w',h1,key _ _ h2⟩)
 ·refine .inr (.inr ⟨f,args,h1,h2.mono ?_⟩);rintro e w' ⟨v,he,hv⟩;exact⟨v,he,key _ _ hv⟩
theorem ESpec.inh {o:Oper} {a:Act} {us:List Tmp} {B:Bx} {K:Land} {K':Value→Land} (h:ESpec P T0 w0 o a us B K K') (hI:Inh T0 w0 B K):∃v,Inh T0 w0 B (K' v):=by
 obtain⟨w,T,hR⟩:=hI;obtain⟨v,w',hv⟩:=(h.step hR).ex;exact⟨v,w',hv⟩
theorem yUnique {o:Oper} {a:Act} {u v:Value} (h:YieldsIf P ops (Mod T0 w0) o u a) (k:YieldsIf P ops (Mod T0 w0) o v a):u=v:=by
 rcases h with⟨h1,h2⟩|⟨h1,rfl⟩<;>rcases k with⟨k1,k2⟩|⟨k1,rfl⟩
 ·have:=(h2 w0 (Mod.refl _ _)).symm.trans (k2 w0 (Mod.refl _ _));simpa using this
 ·rw[h1]at k1;cases k1
 ·rw[h1]at k1;cases k1
 ·rfl
theorem TG.kinds {i:Nat} {r:List Nat} {a:Act} {B:Bx} {K:Land} (h:TG P ops Q T0 w0 κ υ (i::r) a B K):κ i=0∨κ i=3∨κ i=4∨κ i=6:=by
 cases h<;>omega
theorem TG.inv_val {i:Nat} {r:List Nat} {a:Act} {B:Bx} {K:Land} (h:TG P ops Q T0 w0 κ υ (i::r) a B K) (hk:κ i=0) {o:Oper} (ho:ops[i]? =some o):
  ∃v,YieldsIf P ops (Mod T0 w0) o v a∧TG P ops Q T0 w0 κ υ r (a.put o.dst v) B K:=by
 cases h with
 |val ho' _ h1 h2=>rw[ho]at ho';cases ho';exact⟨_,h1,h2⟩
 |alloc _ _ hk'=>omega
 |store _ hk'=>omega
 |eff _ _ hk'=>omega
theorem TG.inv_alloc {i:Nat} {r:List Nat} {a:Act} {B:Bx} {K:Land} (h:TG P ops Q T0 w0 κ υ (i::r) a B K) (hk:κ i=3) {o:Oper} (ho:ops[i]? =some o):
  Region.wanted o (yielded ops a.tmps)=true∧∃(d:Tmp) (ty:TypeId) (z:Array Value) (V:Nat→Value),o.dst=some d∧
   (∀w,(execOp a.eval o).run P w= .ok (.value (V w.heap.size)) (w.alloc (.cells z ty)))∧
   ∀p,B p=none→Inh T0 w0 (B.set p ⟨z,ty,d⟩) K→TG P ops Q T0 w0 κ υ r (a.put o.dst (V p)) (B.set p ⟨z,ty,d⟩) K:=by
 cases h with
 |val _ hk'=>omega
 |alloc V ho' _ h1 h2 h3 h4=>rw[ho]at ho';cases ho';exact⟨h1,_,_,_,V,h2,h3,h4⟩
 |store _ hk'=>omega
 |eff _ _ hk'=>omega
theorem TG.inv_store {i:Nat} {r:List Nat} {a:Act} {B:Bx} {K:Land} (h:TG P ops Q T0 w0 κ υ (i::r) a B K) (hk:κ i=4) {o:Oper} (ho:ops[i]? =some o):
  Region.wanted o (yielded ops a.tmps)=true∧o.dst=none∧∃d ty y p b,o.op= .store ty (.tmp d) y∧a.eval (.tmp d)= .pointer (some ⟨p,0,none⟩)∧B p=some b∧b.tag=d∧
   (∀w,w.heap[p]? =some (.cells b.cells b.ty (0,0))→(execOp a.eval o).run P w= .ok .skip (setBlock w p (.cells (a.eval y).cells b.ty (0,0))))∧
   TG P ops Q T0 w0 κ υ r a (B.set p {b with cells:=(a.eval y).cells}) K:=by
 cases h with
 |val _ hk'=>omega
 |alloc _ _ hk'=>omega
 |store ho' _ h1 h2 h3 h4 h5 h6 h7 h8=>rw[ho]at ho';cases ho';exact⟨h1,h2,_,_,_,_,_,h3,h4,h5,h6,h7,h8⟩
 |eff _ _ hk'=>omega
theorem TG.inv_eff {i:Nat} {r:List Nat} {a:Act} {B:Bx} {K:Land} (h:TG P ops Q T0 w0 κ υ (i::r) a B K) (hk:κ i=6) {o:Oper} (ho:ops[i]? =some o):
  Region.wanted o (yielded ops a.tmps)=true∧∃K',ESpec P T0 w0 o a (υ i) B K K'∧∀v,Inh T0 w0 B (K' v)→TG P ops Q T0 w0 κ υ r (a.put o.dst v) B (K' v):=by
 cases h with
 |val _ hk'=>omega
 |alloc _ _ hk'=>omega
 |store _ hk'=>omega
 |eff K' ho' _ h1 h2 h3=>rw[ho]at ho';cases ho';exact⟨h1,K',h2,h3⟩
def stag (o:Oper):Option Tmp:=match o.op with
 | .store _ (.tmp d) _=>some d
 |_=>none
def gkOk (kx ko:Nat) (ux uo:List Tmp) (ox oo:Oper):Bool:=
 match kx,ko with
 |0,0=>true
 |0,3=>true
 |0,4=>true
 |0,6=>true
 |3,0=>true
 |3,3=>true
 |3,4=>true
 |4,0=>true
 |4,3=>true
 |4,4=>decide (stag ox≠stag oo)
 |4,6=>uo.all fun d=>decide (stag ox≠some d)
 |6,0=>true
 |6,3=>ux.all fun d=>decide (oo.dst≠some d)
 |6,4=>ux.all fun d=>decide (stag oo≠some d)
 |_,_=>false
section swap
variable {x o:Nat} {r:List Nat} {a:Act} {B:Bx} {K:Land} {ox oo:Oper}
theorem TG.swap (hsel:∀(j:Nat) (p:Oper) cs b,ops[j]? =some p→p.op≠ .select cs b) (hK:Closed K) (hI:Inh T0 w0 B K) (hx:ops[x]? =some ox) (ho:ops[o]? =some oo) (hap:ox.apart ops oo=true) (hk:gkOk (κ x) (κ o) (υ x) (υ o) ox oo=true)
  (h:TG P ops Q T0 w0 κ υ (x::o::r) a B K):TG P ops Q T0 w0 κ υ (o::x::r) a B K:=by
 obtain⟨h1,h2,h3⟩:=Oper.apart_spec hap;have eo:∀(a:Act) v,execOp (a.put ox.dst v).eval oo=execOp a.eval oo:=fun a v=>execOp_put oo (fun cs b=>hsel o oo cs b ho) a ox.dst v h1;have wo:∀(a:Act) v,Region.wanted oo (yielded ops (a.put ox.dst v).tmps)=Region.wanted oo (yielded ops a.tmps):=fun a v=>wanted_put oo a ox.dst v h1;have ex:∀(a:Act) v,execOp (a.put oo.dst v).eval ox=execOp a.eval ox:=fun a v=>execOp_put ox (fun cs b=>hsel x ox cs b hx) a oo.dst v h3;have wx:∀(a:Act) v,Region.wanted ox (yielded ops (a.put oo.dst v).tmps)=Region.wanted ox (yielded ops a.tmps):=fun a v=>wanted_put ox a oo.dst v h3;have pc:∀(a:Act) u v,(a.put ox.dst u).put oo.dst v=(a.put oo.dst v).put ox.dst u:=fun a u v=>Act.put_comm a u v h2;have evx':∀(a:Act) v (y:Operand),y∈ox.op.operands→(a.put oo.dst v).eval y=a.eval y:=fun a v y hy=>Act.eval_put (fun d hd e=>h3 d hd (by
  subst e;exact List.mem_append_left _ (List.mem_filterMap.2 ⟨.tmp d,by simpa using hy,rfl⟩)))
 have evo':∀(a:Act) v (y:Operand),y∈oo.op.operands→(a.put ox.dst v).eval y=a.eval y:=fun a v y hy=>Act.eval_put (fun d hd e=>h1 d hd (by
  subst e;exact List.mem_append_left _ (List.mem_filterMap.2 ⟨.tmp d,by simpa using hy,rfl⟩)))
 have yo:∀(a:Act) v u,YieldsIf P ops (Mod T0 w0) oo u (a.put ox.dst v)→YieldsIf P ops (Mod T0 w0) oo u a:=fun a v u hy=>hy.of_same (eo a v).symm (wo a v).symm;have yx:∀(a:Act) v u,YieldsIf P ops (Mod T0 w0) ox u a→YieldsIf P ops (Mod T0 w0) ox u (a.put oo.dst v):=fun a v u hy=>hy.of_same (ex a v) (wx a v);rcases h.kinds with kx|kx|kx|kx
 ·--x is a value
  obtain⟨v,hv,ht⟩:=h.inv_val kx hx;rcases ht.kinds with ko|ko|ko|ko
  ·obtain⟨u,hu,ht2⟩:=ht.inv_val ko ho;refine .val ho ko (yo _ _ _ hu) (.val hx kx (yx _ _ _ hv) ?_);rw[←pc];exact ht2
  ·obtain⟨w1,d,ty,z,V,hd,hr,ht2⟩:=ht.inv_alloc ko ho;rw[wo]at w1;rw[eo]at hr;refine .alloc V ho ko w1 hd hr fun p hp hi=> .val hx kx (yx _ _ _ hv) ?_;rw[←pc];exact ht2 p hp hi
  ·obtain⟨w1,hd,d,ty,y,p,b,hop,hev,hb,htag,hr,ht2⟩:=ht.inv_store ko ho;rw[wo]at w1;rw[eo,evo' a _ _ (by simp[hop,Op.operands])]at hr;rw[evo' a _ _ (by simp[hop,Op.operands])]at hev;rw[evo' a _ _ (by simp[hop,Op.operands])]at ht2;exact .store ho ko w1 hd hop hev hb htag hr (.val hx kx hv ht2)
  ·obtain⟨w1,K',hE,ht2⟩:=ht.inv_eff ko ho;rw[wo]at w1;refine .eff K' ho ko w1 (hE.same (eo a v).symm) fun u hu=> .val hx kx (yx _ _ _ hv) ?_;rw[←pc];exact ht2 u hu
 ·--x is a new box
  obtain⟨w1,d,ty,z,V,hd,hr,ht⟩:=h.inv_alloc kx hx;obtain⟨p0,hp0,hi0⟩:=hI.alloc hK z ty d;rcases(ht p0 hp0 hi0).kinds with ko|ko|ko|ko
  ·obtain⟨u,hu,_⟩:=(ht p0 hp0 hi0).inv_val ko ho;refine .val ho ko (yo _ _ _ hu) (.alloc V hx kx (by rw[wx];exact w1) hd (by rw[ex];exact hr) fun p hp hi=> ?_);obtain⟨u',hu',ht2⟩:=(ht p hp hi).inv_val ko ho;obtain rfl:=yUnique (yo _ _ _ hu) (yo _ _ _ hu');rw[←pc];exact ht2
  ·obtain⟨w2,d2,ty2,z2,V2,hd2,hr2,_⟩:=(ht p0 hp0 hi0).inv_alloc ko ho;rw[wo]at w2;rw[eo]at hr2;refine .alloc V2 ho ko w2 hd2 hr2 fun p2 hp2 hi2=> ?_;refine .alloc V hx kx (by rw[wx];exact w1) hd (by rw[ex];exact hr) fun p1 hp1 hi1=> ?_;obtain⟨hne,hp1'⟩:=Bx.set_none hp1;rw[Bx.set_comm _ (Ne.symm hne)]at hi1⊢;have hp2':(B.set p1 ⟨z,ty,d⟩) p2=none:=by rw[Bx.set_ne _ (Ne.symm hne)];exact hp2
   obtain⟨_,d',ty',z',V',hd',hr',ht'⟩:=(ht p1 hp1' (hi1.weaken hp2')).inv_alloc ko ho;rw[eo]at hr';obtain rfl:=val_inj hr2 hr';have:=(hr2 w0).symm.trans (hr' w0);simp only[Result.ok.injEq,true_and]at this;obtain⟨rfl,rfl⟩:=alloc_inj this;rw[hd2]at hd';cases hd';rw[←pc];exact ht' p2 hp2' hi1
  ·obtain⟨_,_,d0,_,_,q0,b0,hop0,hev0,hb0,htag0,_⟩:=(ht p0 hp0 hi0).inv_store ko ho;have hd0:d0≠d:=fun e=>h1 d hd (by
    subst e;exact List.mem_append_left _ (List.mem_filterMap.2 ⟨.tmp d0,by simp[hop0,Op.operands],rfl⟩))
   have hq0:q0≠p0:=fun e=>by
    rw[e,Bx.set_same]at hb0;cases hb0;exact hd0 htag0.symm
   obtain⟨w2,hd2,d2,ty2,y,p,b,hop,hev,hb,htag,hr2,_⟩:=(ht p0 hp0 hi0).inv_store ko ho;rw[hop0]at hop;cases hop;rw[evo' a _ _ (by simp[hop0,Op.operands])]at hev hev0;rw[hev0]at hev;simp only[Value.pointer.injEq,Option.some.injEq,Addr.mk.injEq,and_true]at hev;subst hev;rw[Bx.set_ne _ hq0]at hb;rw[wo]at w2;rw[eo,evo' a _ _ (by simp[hop0,Op.operands])]at hr2;refine .store ho ko w2 hd2 hop0 hev0 hb htag hr2 ?_;refine .alloc V hx kx w1 hd hr fun p2 hp2 hi2=> ?_;obtain⟨hne,hp2'⟩:=Bx.set_none hp2;have hb2:(B.set p2 ⟨z,ty,d⟩) q0=some b:=by rw[Bx.set_ne _ (Ne.symm hne)];exact hb
   rw[←Bx.set_comm _ hne]at hi2;obtain⟨_,_,d',ty',y',p',b',hop',hev',hb',htag',hr',ht'⟩:=(ht p2 hp2' (hi2.unstore hK hb2 _)).inv_store ko ho;rw[hop0]at hop';cases hop';rw[evo' a _ _ (by simp[hop0,Op.operands]),hev0]at hev';simp only[Value.pointer.injEq,Option.some.injEq,Addr.mk.injEq,and_true]at hev';subst hev';rw[Bx.set_ne _ (Ne.symm hne),hb]at hb';cases hb';rw[evo' a _ _ (by simp[hop0,Op.operands])]at ht';rw[Bx.set_comm _ (Ne.symm hne)];exact ht'
  ·rw[kx,ko]at hk;cases hk
 ·--x is a store into a new box
  obtain⟨w1,hd,d,ty,y,p,b,hop,hev,hb,htag,hr,ht⟩:=h.inv_store kx hx;have hst:stag ox=some d:=by unfold stag;rw[hop]
  rcases ht.kinds with ko|ko|ko|ko
  ·obtain⟨u,hu,ht'⟩:=ht.inv_val ko ho;refine .val ho ko hu ?_;refine .store (b:=b) hx kx (by rw[wx];exact w1) hd hop (by rw[evx' a _ _ (by simp[hop,Op.operands])];exact hev) hb htag
    (by rw[ex,evx' a _ _ (by simp[hop,Op.operands])];exact hr) ?_
   rw[evx' a _ _ (by simp[hop,Op.operands])];exact ht'
  ·obtain⟨w2,d2,ty2,z2,V2,hd2,hr2,ht'⟩:=ht.inv_alloc ko ho;refine .alloc V2 ho ko w2 hd2 hr2 fun p2 hp2 hi2=> ?_;have hne:p2≠p:=fun e=>by rw[e,hb]at hp2;cases hp2
   have hb2:(B.set p2 ⟨z2,ty2,d2⟩) p=some b:=by rw[Bx.set_ne _ (Ne.symm hne)];exact hb
   refine .store (b:=b) hx kx (by rw[wx];exact w1) hd hop (by rw[evx' a _ _ (by simp[hop,Op.operands])];exact hev) hb2 htag
    (by rw[ex,evx' a _ _ (by simp[hop,Op.operands])];exact hr) ?_
   rw[evx' a _ _ (by simp[hop,Op.operands]),Bx.set_comm _ hne];have hi3:=hi2.store hK hb2 (a.eval y).cells;rw[Bx.set_comm _ hne]at hi3;exact ht' p2 (by rw[Bx.set_ne _ hne];exact hp2) hi3
  ·obtain⟨w2,hd2,d2,ty2,y2,p2,b2,hop2,hev2,hb2,htag2,hr2,ht'⟩:=ht.inv_store ko ho;have hso:stag oo=some d2:=by unfold stag;rw[hop2]
   have hne:d≠d2:=by
    rw[kx,ko]at hk;have:stag ox≠stag oo:=by simpa[gkOk] using hk
    rw[hst,hso]at this;exact fun e=>this (by rw[e])
   have hpp:p2≠p:=fun e=>by
    subst e;rw[Bx.set_same]at hb2;cases hb2;exact hne (htag.symm.trans htag2)
   rw[Bx.set_ne _ hpp]at hb2;refine .store (b:=b2) ho ko w2 hd2 hop2 hev2 hb2 htag2 hr2 ?_;refine .store (b:=b) hx kx w1 hd hop hev (by rw[Bx.set_ne _ (Ne.symm hpp)];exact hb) htag hr ?_;rw[Bx.set_comm _ hpp];exact ht'
  ·obtain⟨w2,K',hE,ht'⟩:=ht.inv_eff ko ho;have hdu:d∉υ o:=by
    rw[kx,ko]at hk;have hk:∀e∈υ o,stag ox≠some e:=by simpa[gkOk] using hk
    exact fun hm=>hk d hm hst
   have hod:oo.dst=none∨True:= .inr trivial;refine .eff K' ho ko w2 (hE.boxes fun q c hc hq=> ?_) fun u hu=> ?_
   ·by_cases hqp:q=p
    ·subst hqp;rw[Bx.set_same]at hq;cases hq;exact absurd (htag▸hc) hdu
    ·rw[Bx.set_ne _ hqp]at hq;exact hq
   ·refine .store (b:=b) hx kx (by rw[wx];exact w1) hd hop (by rw[evx' a _ _ (by simp[hop,Op.operands])];exact hev) hb htag
     (by rw[ex,evx' a _ _ (by simp[hop,Op.operands])];exact hr) ?_
    rw[evx' a _ _ (by simp[hop,Op.operands])];exact ht' u (hu.store (hE.cl u) hb _)
 ·--x is an effect
  obtain⟨w1,K',hE,ht⟩:=h.inv_eff kx hx;obtain⟨v0,hv0⟩:=hE.inh hI;rcases(ht v0 hv0).kinds with ko|ko|ko|ko
  ·obtain⟨u,hu,_⟩:=(ht v0 hv0).inv_val ko ho;refine .val ho ko (yo _ _ _ hu) (.eff K' hx kx (by rw[wx];exact w1) (hE.same (ex a u)) fun v hv=> ?_);obtain⟨u',hu',ht2⟩:=(ht v hv).inv_val ko ho;obtain rfl:=yUnique (yo _ _ _ hu) (yo _ _ _ hu');rw[←pc];exact ht2
  ·obtain⟨w2,d2,ty2,z2,V2,hd2,hr2,_⟩:=(ht v0 hv0).inv_alloc ko ho;rw[wo]at w2;rw[eo]at hr2;have hdu:d2∉υ x:=by
    rw[kx,ko]at hk;have hk:∀e∈υ x,oo.dst≠some e:=by simpa[gkOk] using hk
    exact fun hm=>hk d2 hm hd2
   refine .alloc V2 ho ko w2 hd2 hr2 fun p2 hp2 hi2=> ?_;refine .eff K' hx kx (by rw[wx];exact w1) ((hE.same (ex a _)).boxes fun q c hc hq=> ?_) fun v hv=> ?_
   ·rw[Bx.set_ne _ (fun e=>by rw[e,hp2]at hq;cases hq)];exact hq
   ·obtain⟨_,d',ty',z',V',hd',hr',ht'⟩:=(ht v (hv.weaken hp2)).inv_alloc ko ho;rw[eo]at hr';obtain rfl:=val_inj hr2 hr';have:=(hr2 w0).symm.trans (hr' w0);simp only[Result.ok.injEq,true_and]at this;obtain⟨rfl,rfl⟩:=alloc_inj this;rw[hd2]at hd';cases hd';rw[←pc];exact ht' p2 hp2 hv
  ·obtain⟨w2,hd2,d2,ty2,y2,p2,b2,hop2,hev2,hb2,htag2,hr2,_⟩:=(ht v0 hv0).inv_store ko ho;have hso:stag oo=some d2:=by unfold stag;rw[hop2]
   have hdu:d2∉υ x:=by
    rw[kx,ko]at hk;have hk:∀e∈υ x,stag oo≠some e:=by simpa[gkOk] using hk
    exact fun hm=>hk d2 hm hso
   rw[wo]at w2;rw[evo' a _ _ (by simp[hop2,Op.operands])]at hev2;rw[eo,evo' a _ _ (by simp[hop2,Op.operands])]at hr2;refine .store (b:=b2) ho ko w2 hd2 hop2 hev2 hb2 htag2 hr2 ?_;refine .eff K' hx kx w1 (hE.boxes fun q c hc hq=> ?_) fun v hv=> ?_
   ·by_cases hqp:q=p2
    ·subst hqp;rw[hb2]at hq;cases hq;exact absurd (htag2▸hc) hdu
    ·rw[Bx.set_ne _ hqp];exact hq
   ·obtain⟨_,_,d',ty',y',p',b',hop',hev',hb',htag',hr',ht'⟩:=(ht v (hv.unstore (hE.cl v) hb2 _)).inv_store ko ho;rw[hop2]at hop';cases hop';rw[evo' a _ _ (by simp[hop2,Op.operands]),hev2]at hev';simp only[Value.pointer.injEq,Option.some.injEq,Addr.mk.injEq,and_true]at hev';subst hev';rw[hb2]at hb';cases hb';rw[evo' a _ _ (by simp[hop2,Op.operands])]at ht';exact ht'
  ·rw[kx,ko]at hk;cases hk
end swap
theorem TG.front (hsel:∀(j:Nat) (p:Oper) cs b,ops[j]? =some p→p.op≠ .select cs b) {o:Nat} {oo:Oper} (ho:ops[o]? =some oo) {post:List Nat}:∀(pre:List Nat) (a:Act) (B:Bx) (K:Land),Closed K→Inh T0 w0 B K→
   (∀x∈pre,∃ox,ops[x]? =some ox∧ox.apart ops oo=true∧gkOk (κ x) (κ o) (υ x) (υ o) ox oo=true)→
   TG P ops Q T0 w0 κ υ (pre++o::post) a B K→TG P ops Q T0 w0 κ υ (o::(pre++post)) a B K
 |[],_,_,_,_,_,_,h=>h
 |x::pre,a,B,K,hK,hI,hp,h=>by
  obtain⟨ox,hx,hap,hk⟩:=hp x (by simp);have hp':∀y∈pre,∃oy,ops[y]? =some oy∧oy.apart ops oo=true∧gkOk (κ y) (κ o) (υ y) (υ o) oy oo=true:=fun y hy=>hp y (List.mem_cons_of_mem _ hy);refine TG.swap hsel hK hI hx ho hap hk ?_;rcases h.kinds with kx|kx|kx|kx
  ·obtain⟨v,h1,h2⟩:=h.inv_val kx hx;exact .val hx kx h1 (TG.front hsel ho pre _ _ _ hK hI hp' h2)
  ·obtain⟨w1,d,T,z,V,hd,hr,ht⟩:=h.inv_alloc kx hx;exact .alloc V hx kx w1 hd hr fun p hpn hi=>TG.front hsel ho pre _ _ _ hK hi hp' (ht p hpn hi)
  ·obtain⟨w1,hd,d,T,y,p,b,hop,hev,hb,htag,hr,ht⟩:=h.inv_store kx hx;exact .store hx kx w1 hd hop hev hb htag hr (TG.front hsel ho pre _ _ _ hK (hI.store hK hb _) hp' ht)
  ·obtain⟨w1,K',hE,ht⟩:=h.inv_eff kx hx;exact .eff K' hx kx w1 hE fun v hv=>TG.front hsel ho pre _ _ _ (hE.cl v) hv hp' (ht v hv)
def gPairOk (ops:Array Oper) (κ:Nat→Nat) (υ:Nat→List Tmp) (x o:Nat):Bool:=
 (!(x==o)&&(behindB ops x).testBit o)||match ops[x]?,ops[o]? with
  |some ox,some oo=>ox.apart ops oo&&gkOk (κ x) (κ o) (υ x) (υ o) ox oo
  |_,_=>false
def gPairsOk (ops:Array Oper) (κ:Nat→Nat) (υ:Nat→List Tmp):List Nat→Bool
 |[]=>true
 |x::r=>r.all (fun o=>gPairOk ops κ υ x o)&&gPairsOk ops κ υ r
def gRegOk (ops:Array Oper) (κ:Nat→Nat) (υ:Nat→List Tmp) (l:List Nat):Bool:=
 Region.noSelect ops&&((List.range ops.size).all fun i=>match ops[i]? with|none=>false|some o=>o.after.all fun e=> !Region.binds .any e||decide (e.on<i))&&
 (decide (l.length=ops.size)&&(l.all (fun i=>decide (i<ops.size))&&((List.range ops.size).all fun i=>l.contains i)))&&(decide l.Nodup&&gPairsOk ops κ υ l)
theorem gPairsOk_split {i:Nat} {post:List Nat}:∀ {pre:List Nat},gPairsOk ops κ υ (pre++i::post)=true→(∀x∈pre,gPairOk ops κ υ x i=true)∧gPairsOk ops κ υ (pre++post)=true
 |[],h=>by
  simp only[List.nil_append,gPairsOk,Bool.and_eq_true]at h;exact⟨fun _ hx=>(List.not_mem_nil hx).elim,h.2⟩
 |x::pre,h=>by
  simp only[List.cons_append,gPairsOk,Bool.and_eq_true,List.all_eq_true]at h;obtain⟨h1,h2⟩:=gPairsOk_split h.2;refine⟨fun y hy=> ?_,?_⟩
  ·rcases List.mem_cons.1 hy with rfl|hy
   ·exact h.1 i (by simp)
   ·exact h1 y hy
  ·simp only[List.cons_append,gPairsOk,Bool.and_eq_true,List.all_eq_true];refine⟨fun y hy=>h.1 y ?_,h2⟩;rcases List.mem_append.1 hy with hy|hy
   ·exact List.mem_append_left _ hy
   ·exact List.mem_append_right _ (List.mem_cons_of_mem _ hy)
theorem Does.wp {o:Oper} {a:Act} {w:World} {R:Value→World→Prop} {i:Nat} {K:Act→World→Prop} (ho:ops[i]? =some o) (hw:Region.wanted o (yielded ops a.tmps)=true) (h:Does P o a w R) (hn:∀v w',R v w'→K (a.put o.dst v) w'):wpOp P ops Q i K a w:=by
 rcases h with⟨v,w',h1,h2⟩|⟨w',h1,h2⟩|⟨f,args,h1,h2⟩
 ·exact eff_value ho hw h1 (hn v w' h2)
 ·exact eff_skip ho hw h1 (hn undef w' h2)
 ·unfold wpOp;simp only[ho,hw,if_true];refine .inl ?_;unfold Oper.wp;rw[h1];refine h2.mono ?_;rintro e w' ⟨v,rfl,hv⟩;exact hn v w' hv
theorem TG.sound (hsel:∀(j:Nat) (p:Oper) cs b,ops[j]? =some p→p.op≠ .select cs b)
  (hback:∀i o,ops[i]? =some o→∀e∈o.after,Region.binds .any e=true→e.on<i):
  ∀(fuel:Nat) (l:List Nat) (listed:Array Bool) (a:Act) (B:Bx) (K:Land) (w:World),l.length=fuel→l.Nodup→(∀i∈l,i<ops.size)→gPairsOk ops κ υ l=true→Listing ops listed l→Closed K→
   RG T0 w0 B K w→TG P ops Q T0 w0 κ υ l a B K→wpAny P .any ops Q fuel listed a w:=by
 intro fuel
 induction fuel with
 |zero=>
  intro l listed a B K w hl hn hlt hp hL hK hR h;obtain rfl:l=[]:=List.length_eq_zero_iff.1 hl;refine⟨?_,?_⟩
  ·rw[List.eq_nil_iff_forall_not_mem];intro i hi;have:=(hL.mem i).2 (mem_ready.1 hi).1;cases this
  ·cases h with|nil h=>exact h w hR
 |succ fuel ih=>
  intro l listed a B K w hl hn hlt hp hL hK hR h;refine⟨fun hnil=> ?_,fun i hi=> ?_⟩
  ·exfalso
   match l,hl with
   |i::l',_=>exact exists_ready hback hL hlt i i (by simp) (Nat.le_refl _) hnil
  ·obtain⟨hun,o,ho,hall⟩:=mem_ready.1 hi;obtain⟨pre,post,rfl⟩:=List.append_of_mem ((hL.mem i).2 hun);obtain⟨h1,h2⟩:=gPairsOk_split hp;have hf:=TG.front hsel ho pre a B K hK ⟨w,hR⟩ (fun x hx=>by
    have:=h1 x hx;unfold gPairOk at this;have hxo:ops[x]? =some (ops[x]'(hlt x (by simp[hx]))):=Array.getElem?_eq_getElem _;rw[hxo,ho]at this;simp only[Bool.or_eq_true,Bool.and_eq_true]at this;rcases this with hpth|hok
    ·obtain⟨_,hpth⟩:=(behindB_path hpth.2).resolve_left (fun e=>by have:=hpth.1;simp[e]at this);have hl1:=path_listed hL.closed _ x i o ho hall hpth;have hl2:=getD_false_of_true ((hL.mem x).1 (by simp[hx]));rw[hl1]at hl2;cases hl2
    ·exact⟨_,hxo,hok.1,hok.2⟩) h
   have hl':(pre++post).length=fuel:=by simp at hl⊢;omega
   have hn':(pre++post).Nodup:=hn.sublist (List.Sublist.append_left (List.sublist_cons_self _ _) _);have hlt':∀j∈pre++post,j<ops.size:=fun j hj=>hlt j (by
    rcases List.mem_append.1 hj with hj|hj
    ·exact List.mem_append_left _ hj
    ·exact List.mem_append_right _ (List.mem_cons_of_mem _ hj))
   have hL':=hL.next hn ho hall;rcases hf.kinds with ko|ko|ko|ko
   ·obtain⟨v,hy,ht⟩:=hf.inv_val ko ho;obtain⟨T,hRT⟩:=hR;exact YieldsIf.wpOp ho hy hRT.mod (ih _ _ _ _ _ _ hl' hn' hlt' h2 hL' hK ⟨T,hRT⟩ ht)
   ·obtain⟨hw,d,T,z,V,hd,hr,ht⟩:=hf.inv_alloc ko ho;obtain⟨U,hRT⟩:=hR;have hR':RG T0 w0 (B.set w.heap.size ⟨z,T,d⟩) K (w.alloc (.cells z T)):=⟨U,hRT.alloc hK z T d⟩;unfold wpOp;simp only[ho,hw,if_true];refine .inl ?_;unfold Oper.wp;rw[hr w];exact ih _ _ _ _ _ _ hl' hn' hlt' h2 hL' hK hR' (ht _ hRT.none ⟨_,hR'⟩)
   ·obtain⟨hw,hd,d,T,y,p,b,hop,hev,hb,htag,hr,ht⟩:=hf.inv_store ko ho;obtain⟨U,hRT⟩:=hR;unfold wpOp;simp only[ho,hw,if_true];refine .inl ?_;unfold Oper.wp;rw[hr w (hRT.box p b hb).2.2];simp only[Oper.upon,hd];exact ih _ _ _ _ _ _ hl' hn' hlt' h2 hL' hK ⟨U,hRT.store hK hb _⟩ ht
   ·obtain⟨hw,K',hE,ht⟩:=hf.inv_eff ko ho;obtain⟨U,hRT⟩:=hR;exact(hE.step hRT).wp ho hw fun v w' hv=>ih _ _ _ _ _ _ hl' hn' hlt' h2 hL' (hE.cl v) hv (ht v ⟨w',hv⟩)
theorem g_any {a:Act} {w1:World} {K:Land} (l:List Nat) (hok:gRegOk ops κ υ l=true) (hK:Closed K) (hR:RG T0 w0 Bx.nil K w1)
  (h:TG P ops Q T0 w0 κ υ l a Bx.nil K):wpAny P .any ops Q ops.size (Array.replicate ops.size false) a w1:=by
 simp only[gRegOk,Bool.and_eq_true,List.all_eq_true,decide_eq_true_eq]at hok;obtain⟨⟨⟨h1,h2⟩,h3,h4,h5⟩,hnd,h6⟩:=hok;have hback:∀i o,ops[i]? =some o→∀e∈o.after,Region.binds .any e=true→e.on<i:=fun i o ho e he hb=>by
  have:=h2 i (List.mem_range.2 (Array.getElem?_eq_some_iff.1 ho).1);rw[ho]at this;have:=Array.all_eq_true_iff_forall_mem.1 this e he;simpa[hb] using this
 refine TG.sound (Region.noSelect_spec h1) hback _ l _ a _ _ _ h3 hnd h4 h6 ?_ hK hR h;refine⟨by simp,fun i=> ?_,fun i o hi=> ?_⟩
 ·constructor
  ·intro hi;have:=h4 i hi;simp[this]
  ·intro hi;have:i<ops.size:=by
    rcases Nat.lt_or_ge i ops.size with h'|h'
    ·exact h'
    ·simp[Nat.not_lt.2 h']at hi
   simpa using h5 i (List.mem_range.2 this)
 ·exfalso;have:(Array.replicate ops.size false).getD i false=false:=by
   by_cases h':i<ops.size
   ·simp[h']
   ·simp[h']
  rw[this]at hi;cases hi
theorem wp_gpass {id:Nat} {a:Act} {w:World} {K:Land} (l:List Nat) (hm:P.follows .mixedOrders=true) (hok:gRegOk ops κ υ l=true) (hK:Closed K) (hk:K T0 w) (hlt:∀i,T0 i→i<w.heap.size)
  (h:TG P ops Q T0 w κ υ l a Bx.nil K):(Code.region id ops true).wp P Q a w:=
 wp_region_any hm (g_any l hok hK ⟨T0,hK T0 w w.drew hk (Mod.refl _ w).drew,hlt,fun _ _ h=>h,(Mod.refl _ w).drew,fun _ _ hh=>by cases hh⟩ h)
theorem wp_gpass0 {id:Nat} {a:Act} {w:World} {K:Land} (l:List Nat) (hlin:Region.linearise .any ops 0=List.range ops.size) (hok:gRegOk ops κ υ l=true) (hK:Closed K) (hk:K T0 w) (hlt:∀i,T0 i→i<w.heap.size)
  (h:TG P ops Q T0 w κ υ l a Bx.nil K):(Code.region id ops false).wp P Q a w:=by
 refine wp_region ?_;rw[←hlin];exact wpAny_sound ops.size 0 _ a w (g_any l hok hK ⟨T0,hk,hlt,fun _ _ h=>h,Mod.refl _ _,fun _ _ hh=>by cases hh⟩ h)
end
section
variable {P:Program} {ops:Array Oper} {Q:Exit→Act→World→Prop} {T0:Nat→Prop} {w0:World} {κ:Nat→Nat} {υ:Nat→List Tmp}
theorem TG.mono {l:List Nat} {a:Act} {B:Bx} {K2:Land} (h:TG P ops Q T0 w0 κ υ l a B K2):∀ {K1:Land},(∀T w,K1 T w→K2 T w)→TG P ops Q T0 w0 κ υ l a B K1:=by
 have rg:∀ {B:Bx} {K1 K2:Land} {w:World},(∀T w,K1 T w→K2 T w)→RG T0 w0 B K1 w→RG T0 w0 B K2 w:=fun hK ⟨T,h⟩=>⟨T,hK _ _ h.k,h.lt,h.old,h.mod,h.box⟩
 induction h with
 |nil h=>intro K1 hK;exact .nil fun w hw=>h w (rg hK hw)
 |val h1 h2 h3 _ ih=>intro K1 hK;exact .val h1 h2 h3 (ih hK)
 |alloc V h1 h2 h3 h4 h5 _ ih=>intro K1 hK;exact .alloc V h1 h2 h3 h4 h5 fun p hp hi=>ih p hp (by obtain⟨w,hw⟩:=hi;exact⟨w,rg hK hw⟩) hK
 |store h1 h2 h3 h4 h5 h6 h7 h8 h9 _ ih=>intro K1 hK;exact .store h1 h2 h3 h4 h5 h6 h7 h8 h9 (ih hK)
 |eff K' h1 h2 h3 h4 h5 ih=>intro K1 hK;exact .eff K' h1 h2 h3 ⟨h4.cl,fun T w k1 k2 k3 k4 k5=>h4.run T w (hK _ _ k1) k2 k3 k4 k5⟩ h5
theorem TG.v {i:Nat} {r:List Nat} {a:Act} {B:Bx} {K:Land} {o:Oper} {v:Value} (ho:ops[i]? =some o) (hk:κ i=0) (hw:Region.wanted o (yielded ops a.tmps)=true)
  (hy:∀w,Mod T0 w0 w→(execOp a.eval o).run P w= .ok (.value v) w) (h:TG P ops Q T0 w0 κ υ r (a.put o.dst v) B K):TG P ops Q T0 w0 κ υ (i::r) a B K:=
 .val ho hk (.inl ⟨hw,hy⟩) h
theorem TG.v0 {i:Nat} {r:List Nat} {a:Act} {B:Bx} {K:Land} {o:Oper} {v:Value} (ho:ops[i]? =some o) (hk:κ i=0) (hw:Region.wanted o (yielded ops a.tmps)=true)
  (hy:∀w,(execOp a.eval o).run P w= .ok (.value v) w) (h:TG P ops Q T0 w0 κ υ r (a.put o.dst v) B K):TG P ops Q T0 w0 κ υ (i::r) a B K:=
 .val ho hk (.inl ⟨hw,fun w _=>hy w⟩) h
theorem TG.load {i:Nat} {r:List Nat} {a:Act} {B:Bx} {K:Land} {o:Oper} {T:TypeId} {x:Operand} {p v:Value} (ho:ops[i]? =some o) (hk:κ i=0) (hw:Region.wanted o (yielded ops a.tmps)=true)
  (hop:o.op= .load T x) (hx:a.eval x=p) (hy:∀w,Mod T0 w0 w→(Instr.loadAt T p).run P w= .ok v w) (h:TG P ops Q T0 w0 κ υ r (a.put o.dst v) B K):TG P ops Q T0 w0 κ υ (i::r) a B K:=
 TG.v ho hk hw (fun w hs=>exec_load hop hx (hy w hs)) h
theorem TG.lookup {i:Nat} {r:List Nat} {a:Act} {B:Bx} {K:Land} {o:Oper} {T:TypeId} {x y:Operand} {ok:Bool} {p q v:Value} (ho:ops[i]? =some o) (hk:κ i=0) (hw:Region.wanted o (yielded ops a.tmps)=true)
  (hop:o.op= .lookup T x y ok) (hx:a.eval x=p) (hy:a.eval y=q) (hr:∀w,Mod T0 w0 w→(Instr.lookup T p q ok).run P w= .ok v w) (h:TG P ops Q T0 w0 κ υ r (a.put o.dst v) B K):TG P ops Q T0 w0 κ υ (i::r) a B K:=
 TG.v ho hk hw (fun w hs=>by subst hx;subst hy;simp[execOp,hop,hr w hs]) h
theorem TG.build {i:Nat} {r:List Nat} {a:Act} {B:Bx} {K:Land} {o:Oper} {T:TypeId} {parts:Array (Nat×Operand)} {ps:Array (Nat×Value)} {v:Value} (ho:ops[i]? =some o) (hk:κ i=0) (hw:Region.wanted o (yielded ops a.tmps)=true)
  (hop:o.op= .build T parts) (hx:parts.map (fun(p:Nat×Operand)=>(p.1,a.eval p.2))=ps) (hr:∀w,(Instr.build T ps).run P w= .ok v w) (h:TG P ops Q T0 w0 κ υ r (a.put o.dst v) B K):TG P ops Q T0 w0 κ υ (i::r) a B K:=
 TG.v ho hk hw (fun w _=>by subst hx;simp[execOp,hop,hr w]) h
theorem TG.allocB {i:Nat} {r:List Nat} {a:Act} {B:Bx} {K:Land} {o:Oper} {d:Tmp} {T:TypeId} {z:Array Value} (ho:ops[i]? =some o) (hk:κ i=3)
  (hw:Region.wanted o (yielded ops a.tmps)=true) (hd:o.dst=some d) (hop:o.op= .alloc T)
  (hr:∀w,(Instr.alloc T true (.tuple #[])).run P w= .ok (.pointer (some ⟨w.heap.size,0,none⟩)) (w.alloc (.cells z T)))
  (h:∀p,B p=none→Inh T0 w0 (B.set p ⟨z,T,d⟩) K→TG P ops Q T0 w0 κ υ r (a.put o.dst (.pointer (some ⟨p,0,none⟩))) (B.set p ⟨z,T,d⟩) K):TG P ops Q T0 w0 κ υ (i::r) a B K:=
 .alloc (fun p=> .pointer (some ⟨p,0,none⟩)) ho hk hw hd (fun w=>by simp[execOp,hop,hr]) h
def Grow (T:Nat→Prop) (w w':World):Nat→Prop:=fun i=>T i∨(w.heap.size≤i∧i<w'.heap.size)
theorem Grow.new {T:Nat→Prop} {w w':World} {i:Nat} (h:w.heap.size≤i) (h2:i<w'.heap.size):Grow T w w' i:= .inr ⟨h,h2⟩
def UB (T:Nat→Prop) (us:List Tmp) (B:Bx) (w:World):Prop:=∀p b,B p=some b→b.tag∈us→¬T p∧w.heap[p]? =some (.cells b.cells b.ty (0,0))
theorem TG.eff' {i:Nat} {r:List Nat} {a:Act} {B:Bx} {K:Land} {o:Oper} (K':Value→Land) (ho:ops[i]? =some o) (hk:κ i=6) (hw:Region.wanted o (yielded ops a.tmps)=true) (hcl:∀v,Closed (K' v))
  (hd:∀T w,K T w→(∀i,T i→i<w.heap.size)→Mod T0 w0 w→UB T (υ i) B w→Does P o a w fun v w'=>Mod T w w'∧K' v (Grow T w w') w')
  (h:∀v,Inh T0 w0 B (K' v)→TG P ops Q T0 w0 κ υ r (a.put o.dst v) B (K' v)):TG P ops Q T0 w0 κ υ (i::r) a B K:=by
 refine .eff K' ho hk hw ⟨hcl,fun T w k1 k2 k3 k4 k5=> ?_⟩ h;have key:∀v w',Mod T w w'∧K' v (Grow T w w') w'→∃T',K' v T' w'∧Mod T w w'∧(∀i,T' i→T i∨w.heap.size≤i)∧(∀i,T' i→i<w'.heap.size):=fun v w' h=>by
  refine⟨_,h.2,h.1,fun i hi=> ?_,fun i hi=> ?_⟩
  ·rcases hi with hi|hi
   ·exact .inl hi
   ·exact .inr hi.1
  ·rcases hi with hi|hi
   ·exact Nat.lt_of_lt_of_le (k2 i hi) h.1.size
   ·exact hi.2
 rcases hd T w k1 k2 k4 (fun p b hb ht=>(k5 p b hb ht).2)with⟨v,w',h1,h2⟩|⟨w',h1,h2⟩|⟨f,args,h1,h2⟩
 ·exact .inl ⟨v,w',h1,key _ _ h2⟩
 ·exact .inr (.inl ⟨w',h1,key _ _ h2⟩)
 ·refine .inr (.inr ⟨f,args,h1,h2.mono ?_⟩);rintro e w' ⟨v,he,hv⟩;exact⟨v,he,key _ _ hv⟩
structure Good (K:Land):Prop where
 cl:Closed K
 gr:∀T T' w,(∀i,T i→T' i)→K T w→K T' w
theorem Good.true:Good (fun _ _=>True):=⟨fun _ _ _ _ _=>trivial,fun _ _ _ _ _=>trivial⟩
theorem Good.pure (p:Prop):Good (fun _ _=>p):=⟨fun _ _ _ h _=>h,fun _ _ _ _ h=>h⟩
theorem Good.and {K L:Land} (hK:Good K) (hL:Good L):Good (fun T w=>K T w∧L T w):=
 ⟨fun T w w' h hm=>⟨hK.cl T w w' h.1 hm,hL.cl T w w' h.2 hm⟩,fun T T' w hT h=>⟨hK.gr T T' w hT h.1,hL.gr T T' w hT h.2⟩⟩
theorem Good.ex {α:Type} {K:α→Land} (h:∀x,Good (K x)):Good (fun T w=>∃x,K x T w):=
 ⟨fun T w w' ⟨x,hx⟩ hm=>⟨x,(h x).cl T w w' hx hm⟩,fun T T' w hT ⟨x,hx⟩=>⟨x,(h x).gr T T' w hT hx⟩⟩
theorem Good.own (b:Nat):Good (fun T _=>T b):=⟨fun _ _ _ h _=>h,fun _ _ _ hT h=>hT _ h⟩
theorem Good.at (b:Nat) (o:Obj):Good (fun T w=>T b∧w.heap[b]? =some o):=
 ⟨fun T w w' h hm=>⟨h.1,hm.at h.2 (fun hn=>hn h.1)⟩,fun T T' w hT h=>⟨hT _ h.1,h.2⟩⟩
theorem TG.callK {i:Nat} {r:List Nat} {a:Act} {B:Bx} {K:Land} {o:Oper} {f:FuncId} {args:Array Value} (K':Value→Land) (hcl:∀v,Good (K' v)) (ho:ops[i]? =some o) (hk:κ i=6) (hw:Region.wanted o (yielded ops a.tmps)=true)
  (hy:∀w,(execOp a.eval o).run P w= .ok (.enter f args) w)
  (hd:∀T w,K T w→(∀i,T i→i<w.heap.size)→Mod T0 w0 w→UB T (υ i) B w→Calls P f args w fun e w'=>∃v,e= .returned v∧Mod T w w'∧K' v (Grow T w w') w')
  (h:∀v,Inh T0 w0 B (K' v)→TG P ops Q T0 w0 κ υ r (a.put o.dst v) B (K' v)):TG P ops Q T0 w0 κ υ (i::r) a B K:=
 TG.eff' K' ho hk hw (fun v=>(hcl v).cl) (fun T w k1 k2 k3 k4=> .inr (.inr ⟨f,args,hy w,hd T w k1 k2 k3 k4⟩)) h
theorem TG.callN {i:Nat} {r:List Nat} {a:Act} {B:Bx} {K:Land} {o:Oper} {f:FuncId} {args:Array Value} (C:Value→Prop) (hK:Good K) (ho:ops[i]? =some o) (hk:κ i=6) (hw:Region.wanted o (yielded ops a.tmps)=true)
  (hy:∀w,(execOp a.eval o).run P w= .ok (.enter f args) w)
  (hd:∀T w,K T w→(∀i,T i→i<w.heap.size)→Mod T0 w0 w→UB T (υ i) B w→Calls P f args w fun e w'=>∃v,e= .returned v∧C v∧Mod (fun _=>False) w w')
  (h:∀v,C v→TG P ops Q T0 w0 κ υ r (a.put o.dst v) B K):TG P ops Q T0 w0 κ υ (i::r) a B K:=by
 refine TG.callK (fun v T w=>C v∧K T w) (fun v=>(Good.pure (C v)).and hK) ho hk hw hy (fun T w k1 k2 k3 k4=>(hd T w k1 k2 k3 k4).mono ?_) (fun v hv=> ?_)
 ·rintro e w' ⟨v,he,hv,hm⟩;exact⟨v,he,hm.mono (fun _ _ h=>h.elim),hv,hK.gr _ _ _ (fun _ h=> .inl h) (hK.cl T w w' k1 (hm.mono (fun _ _ h=>h.elim)))⟩
 ·obtain⟨w,T,hR⟩:=hv;exact(h v hR.k.1).mono fun T w hk=>hk.2
theorem TG.callM {i:Nat} {r:List Nat} {a:Act} {B:Bx} {K:Land} {o:Oper} {f:FuncId} {args:Array Value} (L:Value→Land) (hL:∀v,Good (L v)) (hK:Good K) (ho:ops[i]? =some o) (hk:κ i=6) (hw:Region.wanted o (yielded ops a.tmps)=true)
  (hy:∀w,(execOp a.eval o).run P w= .ok (.enter f args) w)
  (hd:∀T w,K T w→(∀i,T i→i<w.heap.size)→Mod T0 w0 w→UB T (υ i) B w→Calls P f args w fun e w'=>∃v,e= .returned v∧Mod (fun _=>False) w w'∧L v (Grow T w w') w')
  (h:∀v,Inh T0 w0 B (fun T w=>K T w∧L v T w)→TG P ops Q T0 w0 κ υ r (a.put o.dst v) B (fun T w=>K T w∧L v T w)):TG P ops Q T0 w0 κ υ (i::r) a B K:=by
 refine TG.callK (fun v T w=>K T w∧L v T w) (fun v=>hK.and (hL v)) ho hk hw hy (fun T w k1 k2 k3 k4=>(hd T w k1 k2 k3 k4).mono ?_) h;rintro e w' ⟨v,he,hm,hl⟩;exact⟨v,he,hm.mono (fun _ _ h=>h.elim),hK.gr _ _ _ (fun _ h=> .inl h) (hK.cl T w w' k1 (hm.mono (fun _ _ h=>h.elim))),hl⟩
theorem TG.slice {i:Nat} {r:List Nat} {a:Act} {B:Bx} {K:Land} {o:Oper} {T:TypeId} {s:Operand} {lo hi mx:Option Operand} {v w':Value} {l' h' m':Option Value} (ho:ops[i]? =some o) (hk:κ i=0) (hw:Region.wanted o (yielded ops a.tmps)=true)
  (hop:o.op= .slice T s lo hi mx) (hs:a.eval s=v) (hl:lo.map a.eval=l') (hh:hi.map a.eval=h') (hm:mx.map a.eval=m') (hr:∀w,(Instr.sliceAt T v l' h' m').run P w= .ok w' w) (h:TG P ops Q T0 w0 κ υ r (a.put o.dst w') B K):TG P ops Q T0 w0 κ υ (i::r) a B K:=
 TG.v0 ho hk hw (fun w=>by subst hs;subst hl;subst hh;subst hm;simp[execOp,hop,hr w]) h
theorem TG.bslice {i:Nat} {r:List Nat} {a:Act} {B:Bx} {K:Land} {o:Oper} {d:Tmp} {T E:TypeId} {n:Nat} {parts:Array (Nat×Operand)} {ps:Array (Nat×Value)} {z:Array Value} (ho:ops[i]? =some o) (hk:κ i=3)
  (hw:Region.wanted o (yielded ops a.tmps)=true) (hd:o.dst=some d) (hop:o.op= .buildSlice T n parts) (hx:parts.map (fun(p:Nat×Operand)=>(p.1,a.eval p.2))=ps)
  (hr:∀w,(Instr.buildSlice T n ps).run P w= .ok (.slice (some ⟨w.heap.size,0,none⟩) n n) (w.alloc (.cells z E)))
  (h:∀p,B p=none→Inh T0 w0 (B.set p ⟨z,E,d⟩) K→TG P ops Q T0 w0 κ υ r (a.put o.dst (.slice (some ⟨p,0,none⟩) n n)) (B.set p ⟨z,E,d⟩) K):TG P ops Q T0 w0 κ υ (i::r) a B K:=
 .alloc (fun p=> .slice (some ⟨p,0,none⟩) n n) ho hk hw hd (fun w=>by subst hx;simp[execOp,hop,hr w]) h
theorem TG.storeB {i:Nat} {r:List Nat} {a:Act} {B:Bx} {K:Land} {o:Oper} {d:Tmp} {T:TypeId} {y:Operand} {p:Nat} {b:LB} {v:Value} (ho:ops[i]? =some o) (hk:κ i=4)
  (hw:Region.wanted o (yielded ops a.tmps)=true) (hd:o.dst=none) (hop:o.op= .store T (.tmp d) y) (hev:a.eval (.tmp d)= .pointer (some ⟨p,0,none⟩)) (hyv:a.eval y=v) (hb:B p=some b) (htag:b.tag=d)
  (hr:∀w,w.heap[p]? =some (.cells b.cells b.ty (0,0))→(Instr.storeAt T (.pointer (some ⟨p,0,none⟩)) v).run P w= .ok () (setBlock w p (.cells v.cells b.ty (0,0))))
  (h:TG P ops Q T0 w0 κ υ r a (B.set p {b with cells:=v.cells}) K):TG P ops Q T0 w0 κ υ (i::r) a B K:=by
 subst hyv;exact .store ho hk hw hd hop hev hb htag (fun w hw=>by simp[execOp,hop,hev,hr w hw]) h
theorem UB.box {T:Nat→Prop} {us:List Tmp} {B:Bx} {w:World} (h:UB T us B w) {p:Nat} {b:LB} (hb:B p=some b) (ht:b.tag∈us):w.heap[p]? =some (.cells b.cells b.ty (0,0)):=(h p b hb ht).2
end
end Go.Proofs.YtceodkliooeccaaGreatDoor
namespace Go.Proofs.YtceodkliooeccaaGreatDoor
open Go.ChangeMaps (setBlock)
theorem Mod.fact {w0 wq:World} (h:Mod (fun _=>False) w0 wq) {p:Nat} {o:Obj} (hk:w0.heap[p]? =some o):wq.heap[p]? =some o:=h.at hk (fun h=>h)
theorem Rel.q {w0 w:World} {B:Bx} {p:Nat} {o:Obj} (h:Rel w0 B w) (hk:w0.heap[p]? =some o):w.heap[p]? =some o:=h.mod.at hk (fun h=>h)
theorem RT.q {w0 w:World} {B:Bx} {K:Land} {T:Nat→Prop} {p:Nat} {o:Obj} (h:RT (fun _=>False) w0 B K T w) (hk:w0.heap[p]? =some o):w.heap[p]? =some o:=h.mod.at hk (fun h=>h)
theorem Rel.b {w0 w:World} {B:Bx} (h:Rel w0 B w) (p:Nat) {b:LB} {c:Array Value} {T:TypeId} (hb:B p=some b:=by first|exact Bx.set_same _ _ _|(simp only[Bx.set_same];rfl)) (hc:b.cells=c:=by(try dsimp only[Value.cells]);(try rfl)) (ht:b.ty=T:=by(try dsimp only);(try rfl)):w0.heap.size≤p∧w.heap[p]? =some (.cells c T (0,0)):=by
 subst hc ht;exact h.box p b hb
theorem RT.b {w0 w:World} {B:Bx} {K:Land} {T0 T1:Nat→Prop} (h:RT T0 w0 B K T1 w) (p:Nat) {b:LB} {c:Array Value} {T:TypeId} (hb:B p=some b:=by first|exact Bx.set_same _ _ _|(simp only[Bx.set_same];rfl)) (hc:b.cells=c:=by(try dsimp only[Value.cells]);(try rfl)) (ht:b.ty=T:=by(try dsimp only);(try rfl)):w0.heap.size≤p∧¬T1 p∧w.heap[p]? =some (.cells c T (0,0)):=by
 subst hc ht;exact h.box p b hb
theorem Zv {P:Program} {ops:Array Oper} {Q:Exit→Act→World→Prop} {S:World→Prop} {C:FuncId→Array Value→Value→Prop} {w0:World} {κ:Nat→Nat} {i:Nat} {r:List Nat} {a a':Act} {B:Bx} {o:Oper} {v:Value} (h:TD P ops Q S C w0 κ r a' B) (ho:ops[i]? =some o:=by simp only[zK];rfl) (hk:κ i=0:=by rfl) (hw:Region.wanted o (yielded ops a.tmps)=true:=by rfl) (hy:∀w,(execOp a.eval o).run P w= .ok (.value v) w:=by intro w1;go_simp;try with_reducible rfl) (ha:a.put o.dst v=a':=by(try simp only[zL]);rfl):TD P ops Q S C w0 κ (i::r) a B:=TD.val0 ho hk hw hy (ha▸h)
theorem Zd {P:Program} {ops:Array Oper} {Q:Exit→Act→World→Prop} {C:FuncId→Array Value→Value→Prop} {w0:World} {κ:Nat→Nat} {i:Nat} {r:List Nat} {a a':Act} {B:Bx} {o:Oper} {T:TypeId} {x:Operand} {p v:Value} (h:TD P ops Q (Mod (fun _=>False) w0) C w0 κ r a' B) (ho:ops[i]? =some o:=by simp only[zK];rfl) (hk:κ i=1:=by rfl) (hw:Region.wanted o (yielded ops a.tmps)=true:=by rfl) (hop:o.op= .load T x:=by rfl) (hx:a.eval x=p:=by(try simp only[zM]);(try rfl)) (hy:∀w,Mod (fun _=>False) w0 w→(Instr.loadAt T p).run P w= .ok v w:=by intro wq hSq;go_simp;(repeat(simp(disch:=assumption) only[hSq.fact];try go_simp));try with_reducible rfl) (ha:a.put o.dst v=a':=by(try simp only[zL]);rfl):TD P ops Q (Mod (fun _=>False) w0) C w0 κ (i::r) a B:=TD.load (Mod.refl _ _) ho hk hw hop hx hy (ha▸h)
theorem Zl {P:Program} {ops:Array Oper} {Q:Exit→Act→World→Prop} {C:FuncId→Array Value→Value→Prop} {w0:World} {κ:Nat→Nat} {i:Nat} {r:List Nat} {a a':Act} {B:Bx} {o:Oper} {T:TypeId} {x:Operand} {p v:Value} (hy:∀w,Mod (fun _=>False) w0 w→(Instr.loadAt T p).run P w= .ok v w) (h:TD P ops Q (Mod (fun _=>False) w0) C w0 κ r a' B) (ho:ops[i]? =some o:=by simp only[zK];rfl) (hk:κ i=1:=by rfl) (hw:Region.wanted o (yielded ops a.tmps)=true:=by rfl) (hop:o.op= .load T x:=by rfl) (hx:a.eval x=p:=by(try simp only[zM]);(try rfl)) (ha:a.put o.dst v=a':=by(try simp only[zL]);rfl):TD P ops Q (Mod (fun _=>False) w0) C w0 κ (i::r) a B:=TD.load (Mod.refl _ _) ho hk hw hop hx hy (ha▸h)
theorem Zb {P:Program} {ops:Array Oper} {Q:Exit→Act→World→Prop} {S:World→Prop} {C:FuncId→Array Value→Value→Prop} {w0:World} {κ:Nat→Nat} {i:Nat} {r:List Nat} {a:Act} {B:Bx} {o:Oper} {F:Nat→Act} {d:Tmp} {T:TypeId} {x:Operand} {v:Value} (h:∀p,B p=none→TD P ops Q S C w0 κ r (F p) (B.set p ⟨v.cells,T,d⟩)) (ho:ops[i]? =some o:=by simp only[zK];rfl) (hk:κ i=3:=by rfl) (hw:Region.wanted o (yielded ops a.tmps)=true:=by rfl) (hd:o.dst=some d:=by rfl) (hop:o.op= .box T x:=by rfl) (hx:a.eval x=v:=by(try simp only[zM]);(try rfl)) (ha:∀p,a.put o.dst (.pointer (some ⟨p,0,none⟩))=F p:=by intro p;(try simp only[zL]);rfl):TD P ops Q S C w0 κ (i::r) a B:=TD.box ho hk hw hd hop hx (fun p hp=>ha p▸h p hp)
theorem Za {P:Program} {ops:Array Oper} {Q:Exit→Act→World→Prop} {S:World→Prop} {C:FuncId→Array Value→Value→Prop} {w0:World} {κ:Nat→Nat} {i:Nat} {r:List Nat} {a:Act} {B:Bx} {o:Oper} {F:Nat→Act} {d:Tmp} {T:TypeId} {z:Array Value} (hr:∀w,(Instr.alloc T true (.tuple #[])).run P w= .ok (.pointer (some ⟨w.heap.size,0,none⟩)) (w.alloc (.cells z T))) (h:∀p,B p=none→TD P ops Q S C w0 κ r (F p) (B.set p ⟨z,T,d⟩)) (ho:ops[i]? =some o:=by simp only[zK];rfl) (hk:κ i=3:=by rfl) (hw:Region.wanted o (yielded ops a.tmps)=true:=by rfl) (hd:o.dst=some d:=by rfl) (hop:o.op= .alloc T:=by rfl) (ha:∀p,a.put o.dst (.pointer (some ⟨p,0,none⟩))=F p:=by intro p;(try simp only[zL]);rfl):TD P ops Q S C w0 κ (i::r) a B:=TD.allocB ho hk hw hd hop hr (fun p hp=>ha p▸h p hp)
theorem Zt {P:Program} {ops:Array Oper} {Q:Exit→Act→World→Prop} {S:World→Prop} {C:FuncId→Array Value→Value→Prop} {w0:World} {κ:Nat→Nat} {i:Nat} {r:List Nat} {a:Act} {B:Bx} {o:Oper} {d:Tmp} {T:TypeId} {y:Operand} {p:Nat} {b:LB} {v:Value} (h:TD P ops Q S C w0 κ r a (B.set p {b with cells:=v.cells})) (ho:ops[i]? =some o:=by simp only[zK];rfl) (hk:κ i=4:=by rfl) (hw:Region.wanted o (yielded ops a.tmps)=true:=by rfl) (hd:o.dst=none:=by rfl) (hop:o.op= .store T (.tmp d) y:=by rfl) (hev:a.eval (.tmp d)= .pointer (some ⟨p,0,none⟩):=by(try simp only[zM]);(try rfl)) (hyv:a.eval y=v:=by(try simp only[zM]);(try rfl)) (hb:B p=some b:=by first|exact Bx.set_same _ _ _|(simp only[Bx.set_same];rfl)) (htag:b.tag=d:=by rfl)
 (hr:∀w,w.heap[p]? =some (.cells b.cells b.ty (0,0))→(Instr.storeAt T (.pointer (some ⟨p,0,none⟩)) v).run P w= .ok () (setBlock w p (.cells v.cells b.ty (0,0))):=by intro w1 hb1;go_simp;(try first|with_reducible rfl|(rw[setCell_blk hb1];rfl))):TD P ops Q S C w0 κ (i::r) a B:=TD.storeB ho hk hw hd hop hev hyv hb htag hr h
theorem Zu {P:Program} {ops:Array Oper} {Q:Exit→Act→World→Prop} {S:World→Prop} {C:FuncId→Array Value→Value→Prop} {w0:World} {κ:Nat→Nat} {i:Nat} {r:List Nat} {a a':Act} {B:Bx} {o:Oper} {T:TypeId} {parts:Array (Nat×Operand)} {ps:Array (Nat×Value)} {v:Value} (hr:∀w,(Instr.build T ps).run P w= .ok v w) (h:TD P ops Q S C w0 κ r a' B) (ho:ops[i]? =some o:=by simp only[zK];rfl) (hk:κ i=0:=by rfl) (hw:Region.wanted o (yielded ops a.tmps)=true:=by rfl) (hop:o.op= .build T parts:=by rfl) (hx:parts.map (fun(p:Nat×Operand)=>(p.1,a.eval p.2))=ps:=by simp only[List.map_toArray,List.map_cons,List.map_nil,zM];(try rfl)) (ha:a.put o.dst v=a':=by(try simp only[zL]);rfl):TD P ops Q S C w0 κ (i::r) a B:=TD.build ho hk hw hop hx hr (ha▸h)
theorem Zy {P:Program} {ops:Array Oper} {Q:Exit→Act→World→Prop} {S:World→Prop} {C:FuncId→Array Value→Value→Prop} {w0:World} {κ:Nat→Nat} {i:Nat} {r:List Nat} {a:Act} {B:Bx} {o:Oper} {F:Nat→Act} {d:Tmp} {T E:TypeId} {n:Nat} {parts:Array (Nat×Operand)} {ps:Array (Nat×Value)} {z:Array Value} (hr:∀w,(Instr.buildSlice T n ps).run P w= .ok (.slice (some ⟨w.heap.size,0,none⟩) n n) (w.alloc (.cells z E))) (h:∀p,B p=none→TD P ops Q S C w0 κ r (F p) (B.set p ⟨z,E,d⟩)) (ho:ops[i]? =some o:=by simp only[zK];rfl) (hk:κ i=3:=by rfl) (hw:Region.wanted o (yielded ops a.tmps)=true:=by rfl) (hd:o.dst=some d:=by rfl) (hop:o.op= .buildSlice T n parts:=by rfl) (hx:parts.map (fun(p:Nat×Operand)=>(p.1,a.eval p.2))=ps:=by simp only[List.map_toArray,List.map_cons,List.map_nil,zM];(try rfl)) (ha:∀p,a.put o.dst (.slice (some ⟨p,0,none⟩) n n)=F p:=by intro p;(try simp only[zL]);rfl):TD P ops Q S C w0 κ (i::r) a B:=TD.bslice ho hk hw hd hop hx hr (fun p hp=>ha p▸h p hp)
theorem Zx {P:Program} {ops:Array Oper} {Q:Exit→Act→World→Prop} {S:World→Prop} {C:FuncId→Array Value→Value→Prop} {w0:World} {κ:Nat→Nat} {i:Nat} {r:List Nat} {a a':Act} {B:Bx} {o:Oper} {T:TypeId} {s:Operand} {lo hi mx:Option Operand} {v v':Value} {l' h' m':Option Value} (hr:∀w,(Instr.sliceAt T v l' h' m').run P w= .ok v' w) (h:TD P ops Q S C w0 κ r a' B) (ho:ops[i]? =some o:=by simp only[zK];rfl) (hk:κ i=0:=by rfl) (hw:Region.wanted o (yielded ops a.tmps)=true:=by rfl) (hop:o.op= .slice T s lo hi mx:=by rfl) (hs:a.eval s=v:=by(try simp only[zM]);(try rfl)) (hl:lo.map a.eval=l':=by first|rfl|(simp only[Option.map_some,zM];(try rfl))) (hh:hi.map a.eval=h':=by first|rfl|(simp only[Option.map_some,zM];(try rfl))) (hm:mx.map a.eval=m':=by rfl) (ha:a.put o.dst v'=a':=by(try simp only[zL]);rfl):TD P ops Q S C w0 κ (i::r) a B:=TD.slice ho hk hw hop hs hl hh hm hr (ha▸h)
theorem ZU {P:Program} {ops:Array Oper} {Q:Exit→Act→World→Prop} {S:World→Prop} {C:FuncId→Array Value→Value→Prop} {w0:World} {κ:Nat→Nat} {i:Nat} {r:List Nat} {a a':Act} {B:Bx} {o:Oper} {T:TypeId} {parts:Array (Nat×Operand)} {ps:Array (Nat×Value)} {v:Value} (h:TD P ops Q S C w0 κ r a' B) (ho:ops[i]? =some o:=by simp only[zK];rfl) (hk:κ i=0:=by rfl) (hw:Region.wanted o (yielded ops a.tmps)=true:=by rfl) (hop:o.op= .build T parts:=by rfl) (hx:parts.map (fun(p:Nat×Operand)=>(p.1,a.eval p.2))=ps:=by simp only[List.map_toArray,List.map_cons,List.map_nil,zM];(try rfl)) (e:∀w,(Instr.build T ps).run P w= .ok v w) (ha:a.put o.dst v=a':=by(try simp only[zL]);rfl):TD P ops Q S C w0 κ (i::r) a B:=TD.build ho hk hw hop hx e (ha▸h)
theorem Zo {P:Program} {ops:Array Oper} {Q:Exit→Act→World→Prop} {S:World→Prop} {C:FuncId→Array Value→Value→Prop} {w0:World} {κ:Nat→Nat} {i:Nat} {r:List Nat} {a a':Act} {B:Bx} {o:Oper} (h:TD P ops Q S C w0 κ r a' B) (ho:ops[i]? =some o:=by simp only[zK];rfl) (hk:κ i=0:=by rfl) (hw:Region.wanted o (yielded ops a.tmps)=false:=by rfl) (ha:a.put o.dst undef=a':=by(try simp only[zL]);rfl):TD P ops Q S C w0 κ (i::r) a B:=TD.pass ho hk hw (ha▸h)
theorem Zp {P:Program} {ops:Array Oper} {Q:Exit→Act→World→Prop} {S:World→Prop} {C:FuncId→Array Value→Value→Prop} {w0:World} {κ:Nat→Nat} {i:Nat} {r:List Nat} {a a':Act} {B:Bx} {o:Oper} (h:TD P ops Q S C w0 κ r a' B) (ho:ops[i]? =some o:=by simp only[zK];rfl) (hk:κ i=1:=by rfl) (hw:Region.wanted o (yielded ops a.tmps)=false:=by rfl) (ha:a.put o.dst undef=a':=by(try simp only[zL]);rfl):TD P ops Q S C w0 κ (i::r) a B:=TD.pass1 ho hk hw (ha▸h)
theorem Zc {P:Program} {ops:Array Oper} {Q:Exit→Act→World→Prop} {C:FuncId→Array Value→Value→Prop} {w0:World} {κ:Nat→Nat} {i:Nat} {r:List Nat} {a:Act} {B:Bx} {o:Oper} {f:FuncId} {args:Array Value} (h:∀v,C f args v→TD P ops Q (Mod (fun _=>False) w0) C w0 κ r (a.put o.dst v) B) (ho:ops[i]? =some o:=by simp only[zK];rfl) (hk:κ i=2:=by rfl) (hw:Region.wanted o (yielded ops a.tmps)=true:=by rfl) (hy:∀w,(execOp a.eval o).run P w= .ok (.enter f args) w:=by intro w1;(go_simp;(first|with_reducible rfl|(constructor<;>with_reducible rfl)))) (s:Spec P (Mod (fun _=>False) w0) C f args):TD P ops Q (Mod (fun _=>False) w0) C w0 κ (i::r) a B:=TD.call (Mod.refl _ _) ho hk hw hy s h
theorem Ze {P:Program} {ops:Array Oper} {Q:Exit→Act→World→Prop} {κ:Nat→Nat} {i:Nat} {r:List Nat} {a a':Act} {w:World} {o:Oper} {v:Value} (h:TE P ops Q κ r a' w) (ho:ops[i]? =some o:=by simp only[zK];rfl) (hw:Region.wanted o (yielded ops a.tmps)=true:=by rfl) (hy:∀w,(execOp a.eval o).run P w= .ok (.value v) w:=by intro w1;go_simp;try with_reducible rfl) (ha:a.put o.dst v=a':=by(try simp only[zL]);rfl):TE P ops Q κ (i::r) a w:=TE.val0 ho hw hy (ha▸h)
theorem Zz {P:Program} {ops:Array Oper} {Q:Exit→Act→World→Prop} {κ:Nat→Nat} {i:Nat} {r:List Nat} {a:Act} {w:World} {o:Oper} (h:wpOp P ops Q i (fun a' w'=>TE P ops Q κ r a' w') a w) (ho:ops[i]? =some o:=by simp only[zK];rfl) (hk:κ i=6:=by rfl):TE P ops Q κ (i::r) a w:=TE.step ho hk h
theorem ZS {P:Program} {ops:Array Oper} {Q:Exit→Act→World→Prop} {i:Nat} {a:Act} {o:Oper} {K:Act→World→Prop} {w w':World} {T:TypeId} {x y:Operand} {X Y:Value} (h:K (a.put o.dst undef) w') (ho:ops[i]? =some o:=by simp only[zK];rfl) (hw:Region.wanted o (yielded ops a.tmps)=true:=by rfl) (hop:o.op= .store T x y:=by rfl) (hx:a.eval x=X:=by(try simp only[zM]);(try rfl)) (hy:a.eval y=Y:=by(try simp only[zM]);(try rfl)) (hr:(Instr.storeAt T X Y).run P w= .ok () w':=by go_simp;try with_reducible rfl):wpOp P ops Q i K a w:=eff_store ho hw hop hx hy hr h
theorem ZA {P:Program} {ops:Array Oper} {Q:Exit→Act→World→Prop} {i:Nat} {a a':Act} {o:Oper} {K:Act→World→Prop} {w w':World} {t:TypeId} {s x:Operand} {v u v':Value} (hr:(Builtin.append_ #[t,t] o.type #[v,u]).run P w= .ok v' w') (h:K a' w') (ho:ops[i]? =some o:=by simp only[zK];rfl) (hw:Region.wanted o (yielded ops a.tmps)=true:=by rfl) (hop:o.op= .call {callee:= .builtin .append,args:= #[s,x],argTypes:= #[t,t]}:=by rfl) (hs:a.eval s=v:=by(try simp only[zM]);(try rfl)) (hx:a.eval x=u:=by(try simp only[zM]);(try rfl)) (ha:a.put o.dst v'=a':=by(try simp only[zL]);rfl):wpOp P ops Q i K a w:=eff_append ho hw hop hs hx hr (ha▸h)
theorem Zw {P:Program} {ops:Array Oper} {Q:Exit→Act→World→Prop} {i:Nat} {a a':Act} {o:Oper} {K:Act→World→Prop} {w w':World} {v:Value} (h:K a' w') (ho:ops[i]? =some o:=by simp only[zK];rfl) (hw:Region.wanted o (yielded ops a.tmps)=true:=by rfl) (hr:(execOp a.eval o).run P w= .ok (.value v) w':=by go_simp;(try(first|with_reducible rfl|(constructor<;>with_reducible rfl)))) (ha:a.put o.dst v=a':=by(try simp only[zL]);rfl):wpOp P ops Q i K a w:=eff_value ho hw hr (ha▸h)
theorem Zq {P:Program} {ops:Array Oper} {Q:Exit→Act→World→Prop} {i:Nat} {r:List Nat} {a a':Act} {w:World} {o:Oper} {v:Value} (h:wpOps P ops Q r a' w) (ho:ops[i]? =some o:=by simp only[zK];rfl) (hw:Region.wanted o (yielded ops a.tmps)=true:=by rfl) (hr:(execOp a.eval o).run P w= .ok (.value v) w:=by go_simp;try with_reducible rfl) (ha:a.put o.dst v=a':=by(try simp only[zL]);rfl):wpOps P ops Q (i::r) a w:=sq_val ho hw hr (ha▸h)
theorem Zr {P:Program} {ops:Array Oper} {Q:Exit→Act→World→Prop} {i:Nat} {r:List Nat} {a a':Act} {w:World} {o:Oper} {T:TypeId} {x:Operand} {p v:Value} (h:wpOps P ops Q r a' w) (ho:ops[i]? =some o:=by simp only[zK];rfl) (hw:Region.wanted o (yielded ops a.tmps)=true:=by rfl) (hop:o.op= .load T x:=by rfl) (hx:a.eval x=p:=by(try simp only[zM]);(try rfl)) (hr:(Instr.loadAt T p).run P w= .ok v w:=by go_simp;try with_reducible rfl) (ha:a.put o.dst v=a':=by(try simp only[zL]);rfl):wpOps P ops Q (i::r) a w:=sq_load ho hw hop hx hr (ha▸h)
theorem ZM {P:Program} {ops:Array Oper} {Q:Exit→Act→World→Prop} {κ:Nat→Nat} {r:List Nat} {a:Act} {w W:World} {p:Nat} {o o':Obj} (hb:w.heap[p]? =some o) (h:∀w',w'.heap[p]? =some o'→Mod (fun i=>i=p) w w'→TE P ops Q κ r a w') (e:W=setBlock w p o':=by first|rfl|exact setCell_blk (by assumption) _):TE P ops Q κ r a W:=by
 subst e;exact h _ (heap_setBlock w _ (Ls hb)) (mod_set w p o')
theorem ZQ {P:Program} {ops:Array Oper} {Q:Exit→Act→World→Prop} {r:List Nat} {a:Act} {w W:World} {p:Nat} {o o':Obj} (hb:w.heap[p]? =some o) (h:∀w',w'.heap[p]? =some o'→Mod (fun i=>i=p) w w'→wpOps P ops Q r a w') (e:W=setBlock w p o':=by first|rfl|exact setCell_blk (by assumption) _):wpOps P ops Q r a W:=by
 subst e;exact h _ (heap_setBlock w _ (Ls hb)) (mod_set w p o')
theorem ZG {P:Program} {ops:Array Oper} {Q:Exit→Act→World→Prop} {T0:Nat→Prop} {w0:World} {κ:Nat→Nat} {υ:Nat→List Tmp} {i:Nat} {r:List Nat} {a:Act} {B:Bx} {K:Land} {o:Oper} {f:FuncId} {args:Array Value} (C:Value→Prop) (hK:Good K) (h:∀v,C v→TG P ops Q T0 w0 κ υ r (a.put o.dst v) B K) (ho:ops[i]? =some o:=by simp only[zK];rfl) (hk:κ i=6:=by rfl) (hw:Region.wanted o (yielded ops a.tmps)=true:=by rfl) (hy:∀w,(execOp a.eval o).run P w= .ok (.enter f args) w:=by intro w1;(go_simp;(first|with_reducible rfl|(constructor<;>with_reducible rfl)))) (s:∀T w,K T w→(∀i,T i→i<w.heap.size)→Mod T0 w0 w→UB T (υ i) B w→Calls P f args w fun e w'=>∃v,e= .returned v∧C v∧Mod (fun _=>False) w w'):TG P ops Q T0 w0 κ υ (i::r) a B K:=TG.callN C hK ho hk hw hy s h
theorem Zg {P:Program} {ops:Array Oper} {Q:Exit→Act→World→Prop} {T0:Nat→Prop} {w0:World} {κ:Nat→Nat} {υ:Nat→List Tmp} {i:Nat} {r:List Nat} {a a':Act} {B:Bx} {K:Land} {o:Oper} {v:Value} (h:TG P ops Q T0 w0 κ υ r a' B K) (ho:ops[i]? =some o:=by simp only[zK];rfl) (hk:κ i=0:=by rfl) (hw:Region.wanted o (yielded ops a.tmps)=true:=by rfl) (hy:∀w,(execOp a.eval o).run P w= .ok (.value v) w:=by intro w1;go_simp;try with_reducible rfl) (ha:a.put o.dst v=a':=by(try simp only[zL]);rfl):TG P ops Q T0 w0 κ υ (i::r) a B K:=TG.v0 ho hk hw hy (ha▸h)
theorem Zh {P:Program} {ops:Array Oper} {Q:Exit→Act→World→Prop} {w0:World} {κ:Nat→Nat} {υ:Nat→List Tmp} {i:Nat} {r:List Nat} {a a':Act} {B:Bx} {K:Land} {o:Oper} {T:TypeId} {x:Operand} {p v:Value} (h:TG P ops Q (fun _=>False) w0 κ υ r a' B K) (ho:ops[i]? =some o:=by simp only[zK];rfl) (hk:κ i=0:=by rfl) (hw:Region.wanted o (yielded ops a.tmps)=true:=by rfl) (hop:o.op= .load T x:=by rfl) (hx:a.eval x=p:=by(try simp only[zM]);(try rfl)) (hy:∀w,Mod (fun _=>False) w0 w→(Instr.loadAt T p).run P w= .ok v w:=by intro wq hSq;go_simp;(repeat(simp(disch:=assumption) only[hSq.fact];try go_simp));try with_reducible rfl) (ha:a.put o.dst v=a':=by(try simp only[zL]);rfl):TG P ops Q (fun _=>False) w0 κ υ (i::r) a B K:=TG.load ho hk hw hop hx hy (ha▸h)
theorem ZP0 {P:Program} {ops:Array Oper} {Q:Exit→Act→World→Prop} {id:Nat} {a:Act} {w:World} (k:List Nat) {l:List Nat} (h:TD P ops Q (Mod (fun _=>False) w) (fun _ _ _=>False) w (fun i=>k.getD i 0) l a Bx.nil) (hl:List.range k.length=l:=by simp only[List.length_cons,List.length_nil,Nat.reduceAdd,List.range,List.range.loop];rfl) (hlin:Region.linearise .any ops 0=List.range ops.size:=by kernel_rfl) (hok:regOk ops (fun i=>k.getD i 0) l=true:=by kernel_rfl) (hQ:∀c a d v w,Q (.panic c) (Act.put a d v) w→Q (.panic c) a w:=by exact fun _ _ d _ _ h=>by cases d<;>first|exact h|exact absurd h (hP _ _ _)):(Code.region id ops false).wp P Q a w:=wp_pass0 l hlin hok hQ h
theorem ZP {P:Program} {ops:Array Oper} {Q:Exit→Act→World→Prop} {id:Nat} {a:Act} {w:World} (k:List Nat) {l:List Nat} (h:TD P ops Q (Mod (fun _=>False) w) (fun _ _ _=>False) w (fun i=>k.getD i 0) l a Bx.nil) (hl:List.range k.length=l:=by simp only[List.length_cons,List.length_nil,Nat.reduceAdd,List.range,List.range.loop];rfl) (hm:P.follows .mixedOrders=true:=by kernel_rfl) (hok:regOk ops (fun i=>k.getD i 0) l=true:=by kernel_rfl) (hQ:∀c a d v w,Q (.panic c) (Act.put a d v) w→Q (.panic c) a w:=by exact fun _ _ d _ _ h=>by cases d<;>first|exact h|exact absurd h (hP _ _ _)):(Code.region id ops true).wp P Q a w:=wp_pass l hm hok hQ h
theorem ZR0 {P:Program} {ops:Array Oper} {Q:Exit→Act→World→Prop} {id:Nat} {a:Act} {w:World} (C:FuncId→Array Value→Value→Prop) (k:List Nat) {l:List Nat} (h:TD P ops Q (Mod (fun _=>False) w) C w (fun i=>k.getD i 0) l a Bx.nil) (hl:List.range k.length=l:=by simp only[List.length_cons,List.length_nil,Nat.reduceAdd,List.range,List.range.loop];rfl) (hlin:Region.linearise .any ops 0=List.range ops.size:=by kernel_rfl) (hok:regOk ops (fun i=>k.getD i 0) l=true:=by kernel_rfl) (hQ:∀c a d v w,Q (.panic c) (Act.put a d v) w→Q (.panic c) a w:=by exact fun _ _ d _ _ h=>by cases d<;>first|exact h|exact absurd h (hP _ _ _)):(Code.region id ops false).wp P Q a w:=wp_pass0 l hlin hok hQ h
theorem ZR {P:Program} {ops:Array Oper} {Q:Exit→Act→World→Prop} {id:Nat} {a:Act} {w:World} (C:FuncId→Array Value→Value→Prop) (k:List Nat) {l:List Nat} (h:TD P ops Q (Mod (fun _=>False) w) C w (fun i=>k.getD i 0) l a Bx.nil) (hl:List.range k.length=l:=by simp only[List.length_cons,List.length_nil,Nat.reduceAdd,List.range,List.range.loop];rfl) (hm:P.follows .mixedOrders=true:=by kernel_rfl) (hok:regOk ops (fun i=>k.getD i 0) l=true:=by kernel_rfl) (hQ:∀c a d v w,Q (.panic c) (Act.put a d v) w→Q (.panic c) a w:=by exact fun _ _ d _ _ h=>by cases d<;>first|exact h|exact absurd h (hP _ _ _)):(Code.region id ops true).wp P Q a w:=wp_pass l hm hok hQ h
theorem Zi {P:Program} {ops:Array Oper} {Q:Exit→Act→World→Prop} {S:World→Prop} {C:FuncId→Array Value→Value→Prop} {w0:World} {κ:Nat→Nat} {i:Nat} {r:List Nat} {a:Act} {B:Bx} {o:Oper} (h:∀w,Rel w0 B w→wpOp P ops Q i (fun a' w''=>TE P ops Q κ r a' w'') a w) (ho:ops[i]? =some o:=by simp only[zK];rfl) (hk:κ i=5:=by rfl):TD P ops Q S C w0 κ (i::r) a B:=TD.eff ho hk h
theorem ZN {P:Program} {ops:Array Oper} {Q:Exit→Act→World→Prop} {κ:Nat→Nat} {a:Act} {w W:World} {p:Nat} {o o':Obj} (hb:w.heap[p]? =some o) (h:∀w',w'.heap[p]? =some o'→Mod (fun i=>i=p) w w'→Q .normal a w') (e:W=setBlock w p o':=by first|rfl|exact setCell_blk (by assumption) _):TE P ops Q κ [] a W:=by
 subst e;exact TE.nil_set hb h
end Go.Proofs.YtceodkliooeccaaGreatDoor
namespace Go.Proofs.YtceodkliooeccaaGreatDoor
open Go.RowKit
open Go.ChangeMaps (setBlock)
theorem laid:laidOutB Tryz.prog=true:=by kernel_rfl
theorem keyIs:IsKeyT Tryz.prog 110 5 where
 laid:=laid
 row:=of_decide_eq_true (by kernel_rfl)
 at2:=by kernel_rfl
 u:=Tryz.underlying110
 e:=Tryz.underlying5
 cK:=by kernel_rfl
 cE:=by kernel_rfl
 kt:=by kernel_rfl
theorem keyT:KeyT Tryz.prog 110 kv:=keyIs.keyT
theorem eqKey1 (a b:Key) (w:World):(Op.equalIn 10000 110 (.agg (kc a)) (.agg (kc b))).run Tryz.prog w= .ok (decide (a=b)) w:=keyIs.eqIn 9998 a b w
def zKey:Array Value:=Array.replicate 32 (.int .u8 0)
theorem zKey_size:zKey.size=32:=by simp[zKey]
def zRole:Array Value:=(Array.replicate 32 (.int .u8 0))++ #[.bool false,.bool false]
theorem zRole_size:zRole.size=34:=by simp[zRole]
theorem ldKey (w:World) (b o:Nat):(Instr.loadAt 110 (.pointer (some ⟨b,o,none⟩))).run Tryz.prog w=
   match w.heap[b]? with
   |some (.cells cs _ _)=>if o+32≤cs.size then .ok (.agg (cs.extract o (o+32))) w else farL Tryz.prog w 110 b o
   |_=>farL Tryz.prog w 110 b o:=load_rule (d:=_) Tryz.underlying110 rfl (by kernel_rfl) w b o
theorem stKey (w:World) (b o:Nat) (xs:Array Value):(Instr.storeAt 110 (.pointer (some ⟨b,o,none⟩)) (.agg xs)).run Tryz.prog w=
   match w.heap[b]? with
   |some (.cells cs U (0,0))=>
    if o+32≤cs.size∧xs.size=32∧xs.all (·.oneCell')=true then .ok () (setBlock w b (.cells (if o=0∧32=cs.size then xs else wr cs o xs.toList) U (0,0)))else farS Tryz.prog w 110 b o (.agg xs)
   |_=>farS Tryz.prog w 110 b o (.agg xs):=store_rule (by kernel_rfl) w b o xs
theorem wlKey (dst:Option Tmp) (x:Operand) (ty:TypeId) (pos:String) (after:Array Edge) (g:Option (Nat×Bool)) (a:Act) (w:World) (K:Act→World→Prop) (Q:Exit→Act→World→Prop):
  Oper.wp Tryz.prog {dst:=dst,op:= .load 110 x,type:=ty,pos:=pos,after:=after,guard:=g} a w K Q=
   (match a.eval x with
   | .pointer (some ⟨b,o,none⟩)=>
    (match w.heap[b]? with
    |some (.cells cs _ _)=>if o+32≤cs.size then K (a.put dst (.agg (cs.extract o (o+32)))) w else farW Tryz.prog {dst:=dst,op:= .load 110 x,type:=ty,pos:=pos,after:=after,guard:=g} a w K Q
    |_=>farW Tryz.prog {dst:=dst,op:= .load 110 x,type:=ty,pos:=pos,after:=after,guard:=g} a w K Q)
   |_=>farW Tryz.prog {dst:=dst,op:= .load 110 x,type:=ty,pos:=pos,after:=after,guard:=g} a w K Q):=wp_load_rule (d:=_) Tryz.underlying110 rfl (by kernel_rfl) dst x ty pos after g a w K Q
theorem alKey (w:World):(Instr.alloc 110 true (.tuple #[])).run Tryz.prog w= .ok (.pointer (some ⟨w.heap.size,0,none⟩)) (w.alloc (.cells zKey 110)):=
 run_alloc_row (z:= .agg zKey) (fun w=>by kernel_rfl) w
theorem ldRole (w:World) (b o:Nat):(Instr.loadAt 192 (.pointer (some ⟨b,o,none⟩))).run Tryz.prog w=
   match w.heap[b]? with
   |some (.cells cs _ _)=>if o+34≤cs.size then .ok (.agg (cs.extract o (o+34))) w else farL Tryz.prog w 192 b o
   |_=>farL Tryz.prog w 192 b o:=load_rule (d:=_) Tryz.underlying192 rfl (by kernel_rfl) w b o
theorem stRole (w:World) (b o:Nat) (xs:Array Value):(Instr.storeAt 192 (.pointer (some ⟨b,o,none⟩)) (.agg xs)).run Tryz.prog w=
   match w.heap[b]? with
   |some (.cells cs U (0,0))=>
    if o+34≤cs.size∧xs.size=34∧xs.all (·.oneCell')=true then .ok () (setBlock w b (.cells (if o=0∧34=cs.size then xs else wr cs o xs.toList) U (0,0)))else farS Tryz.prog w 192 b o (.agg xs)
   |_=>farS Tryz.prog w 192 b o (.agg xs):=store_rule (by kernel_rfl) w b o xs
theorem alRole (w:World):(Instr.alloc 192 true (.tuple #[])).run Tryz.prog w= .ok (.pointer (some ⟨w.heap.size,0,none⟩)) (w.alloc (.cells zRole 192)):=
 run_alloc_row (z:= .agg zRole) (fun w=>by kernel_rfl) w
structure Role where
 k:Key
 s:Bool
 w:Bool
def rcr (r:Role):Array Value:=rc r.k r.s r.w
end Go.Proofs.YtceodkliooeccaaGreatDoor
namespace Go.Proofs.YtceodkliooeccaaGreatDoor
open Go.RowKit
structure Sg where
 l:List UInt8
 h:l.length=64
theorem Sg.ext {a b:Sg} (h:a.l=b.l):a=b:=by cases a;cases b;cases h;rfl
instance:DecidableEq Sg:=fun a b=>if h:a.l=b.l then .isTrue (Sg.ext h)else .isFalse (fun e=>h (e▸rfl))
def sgc (s:Sg):Array Value:=(s.l.map bc).toArray
theorem sgc_size (s:Sg):(sgc s).size=64:=by simp[sgc,s.h]
theorem sgc_inj {a b:Sg} (h:sgc a=sgc b):a=b:=by
 have h1:a.l.map bc=b.l.map bc:=by simpa[sgc] using h
 exact Sg.ext (List.map_inj_right (fun _ _=>bc_inj)|>.1 h1)
theorem sgc_one (s:Sg):∀u∈(sgc s).toList,u.oneCell'=true:=by
 intro v hv;simp only[sgc,List.mem_map]at hv;obtain⟨b,_,rfl⟩:=hv;rfl
theorem sgc_one' (s:Sg):(sgc s).all (·.oneCell')=true:=by
 rw[Array.all_eq_true_iff_forall_mem];intro u hu;exact sgc_one s u (by simpa using hu)
theorem sgc_one0 (s:Sg):(sgc s).all (·.oneCell') 0 64=true:=all_of (sgc_size s) (sgc_one' s)
theorem sgc_ext (s:Sg):(sgc s).extract 0 64=sgc s:=by
 rw[show(64:Nat)=(sgc s).size by rw[sgc_size]];exact Array.extract_size
def sgv (s:Sg):Value:= .agg (sgc s)
theorem sgv_inj {a b:Sg} (h:sgv a=sgv b):a=b:=sgc_inj (by simpa[sgv] using h)
section
variable {P:Program} {K E:TypeId}
structure IsSigT (P:Program) (K E:TypeId):Prop where
 laid:laidOutB P=true
 row:K<P.types.size
 at2:P.keyTypeAt 2 K=true
 u:P.underlying K=some (.array 64 E)
 e:P.underlying E=some (.int .u8)
 cK:P.cellsOf K=64
 cE:P.cellsOf E=1
 kt:P.keyType K=true
theorem IsSigT.lits (h:IsSigT P K E) (k:Sg) (d:Nat):∃l,P.keyLits (d+2) K (sgc k).toList=some l:=by
 have hs:(sgc k).toList.length=64:=by rw[Array.length_toList,sgc_size]
 have:∀i∈List.range 64,P.keyLits (d+1) E (((sgc k).toList.drop (i*P.cellsOf E)).take (P.cellsOf E))=some [Lit.int .u8 ((k.l.getD i 0).toNat:Int)]:=by
  intro i hi;have hi':i<64:=by simpa using hi
  have hl:i<k.l.length:=by rw[k.h];exact hi'
  have h1:((sgc k).toList.drop (i*P.cellsOf E)).take (P.cellsOf E)=[bc (k.l.getD i 0)]:=by
   rw[h.cE,Nat.mul_one];simp only[sgc];show((k.l.map bc).drop i).take 1=_;rw[←List.map_drop,←List.map_take,List.drop_eq_getElem_cons hl];simp only[List.take_succ_cons,List.take_zero,List.map_cons,List.map_nil];rw[List.getD_eq_getElem?_getD,List.getElem?_eq_getElem hl];rfl
  rw[h1];unfold Program.keyLits;rw[h.e];simp[bc,bc_wf]
 unfold Program.keyLits;rw[h.u];simp only[hs,h.cK,if_true];rw[mapM_some _ _ _ this];exact⟨_,rfl⟩
theorem IsSigT.keyT (h:IsSigT P K E):KeyT P K sgv where
 law:=Maps.Keyed.of_law (deep_law_laid h.laid (m:=2) (by omega) h.row h.at2 (by rw[h.u]))
 lit k:=by
  obtain⟨n,hn⟩:∃n,P.types.size=n+1:=⟨P.types.size-1,(Nat.sub_add_cancel (Nat.lt_of_le_of_lt (Nat.zero_le _) h.row)).symm⟩;obtain⟨l,hl⟩:=h.lits k n;unfold keyOf;rw[h.u];simp only[h.kt,sgv,Value.formed,h.u,sgc_size,h.cK,Bool.true_and,beq_self_eq_true,if_true,Value.cells,hn,hl];exact⟨_,rfl⟩
 inj _ _:=sgv_inj
theorem IsSigT.tiled (h:IsSigT P K E):P.tiled 2 K=true:=by
 refine tiled_of_laidOut h.laid 2 K ?_ h.at2;simp only[isVar,Bool.and_eq_true,decide_eq_true_eq];refine⟨h.row,?_⟩;rw[h.u];simp[kindOk]
theorem IsSigT.eqIn (h:IsSigT P K E) (d:Nat) (a b:Sg) (w:World):(Op.equalIn (d+2) K (.agg (sgc a)) (.agg (sgc b))).run P w= .ok (decide (a=b)) w:=by
 obtain⟨la,ha⟩:=h.lits a 0;obtain⟨lb,hb⟩:=h.lits b 0;have hf:∀k:Sg,(Value.agg (sgc k)).formed P K=true:=fun k=>by simp[Value.formed,h.u,h.cK,sgc_size]
 obtain⟨r,hr,hiff⟩:=run_equalIn_deep (P:=P) d 2 K h.at2 w 2 2 (.agg (sgc a)) (.agg (sgc b)) la lb (hf a) (hf b) ha hb;rw[hr];congr 1;have key:la=lb↔a=b:=by
  constructor
  ·intro e;have h1:=cells_of_lits 2 K h.tiled 2 _ _ ha;have h2:=cells_of_lits 2 K h.tiled 2 _ _ hb;rw[e,←h2]at h1;exact sgc_inj (Array.toList_inj.1 h1)
  ·rintro rfl;rw[ha]at hb;exact Option.some.inj hb
 rw[Bool.eq_iff_iff,hiff,key,decide_eq_true_eq]
end
end Go.Proofs.YtceodkliooeccaaGreatDoor
namespace Go.Proofs.YtceodkliooeccaaGreatDoor
open Go.RowKit
open Go.ChangeMaps (setBlock)
def mx (pre:List Value) (k:Key) (post:List Value):Array Value:=(pre++(k.l.map bc++post)).toArray
section
variable {pre post:List Value} {k:Key}
theorem mx_size (pre:List Value) (k:Key) (post:List Value):(mx pre k post).size=pre.length+(32+post.length):=by simp[mx,k.h]
theorem mx_pre {i:Nat} (h:i<pre.length):(mx pre k post)[i]? =pre[i]? :=by
 simp only[mx,zA];rw[List.getElem?_append_left h]
theorem mx_post (j:Nat):(mx pre k post)[pre.length+(32+j)]? =post[j]? :=by
 simp only[mx,zA];rw[List.getElem?_append_right (by omega),Nat.add_sub_cancel_left,List.getElem?_append_right (by simp[k.h]),List.length_map,k.h,Nat.add_sub_cancel_left]
theorem mx_setpre {i:Nat} (h:i<pre.length) (v:Value):(mx pre k post).setIfInBounds i v=mx (pre.set i v) k post:=by
 simp only[mx,zF];rw[List.set_append_left _ _ h]
theorem mx_setpost (j:Nat) (v:Value):(mx pre k post).setIfInBounds (pre.length+(32+j)) v=mx pre k (post.set j v):=by
 simp only[mx,zF];rw[List.set_append_right _ _ (by omega),Nat.add_sub_cancel_left,List.set_append_right _ _ (by simp[k.h]),List.length_map,k.h,Nat.add_sub_cancel_left]
theorem mx_one (h1:pre.all (·.oneCell')=true) (h2:post.all (·.oneCell')=true):(mx pre k post).all (·.oneCell')=true:=by
 rw[Array.all_eq_true_iff_forall_mem];intro v hv;simp only[mx,List.mem_toArray,List.mem_append,List.mem_map]at hv;rcases hv with hv|⟨b,_,rfl⟩|hv
 ·exact List.all_eq_true.1 h1 v hv
 ·rfl
 ·exact List.all_eq_true.1 h2 v hv
theorem mx_full {n:Nat} (h:n=pre.length+(32+post.length)):(mx pre k post).extract 0 n=mx pre k post:=by
 rw[h,←mx_size];exact Array.extract_size
end
structure InR where
 p:UInt8
 a:Sl UInt8
 d:Sl UInt8
def inr (x:InR):Array Value:= #[.int .u8 (x.p.toNat:Int),.slice x.a.a x.a.l.length x.a.c,.slice x.d.a x.d.l.length x.d.c]
structure LoR where
 t:Key
 w:Sl UInt8
 r:Sl UInt8
def lor (x:LoR):Array Value:=kx x.t [.slice x.w.a x.w.l.length x.w.c,.slice x.r.a x.r.l.length x.r.c]
structure RdR where
 b:Sl UInt8
 sg:Sl Sg
 v0:Bool
 h0:UInt8
 h1:UInt8
 h2:UInt8
 ks:Sl Key
 rc:Key
 ins:Sl InR
 lks:Sl LoR
 ro:Sl Role
 un:UInt64
 pr:UInt64
 bad:Int64
 fee:UInt64
 cost:UInt64
 prio:UInt64
abbrev u64v (x:UInt64):Value:= .int .u64 (x.toNat:Int)
abbrev u8v (x:UInt8):Value:= .int .u8 (x.toNat:Int)
def rpre (x:RdR):List Value:=[.slice x.b.a x.b.l.length x.b.c,.slice x.sg.a x.sg.l.length x.sg.c,.bool x.v0,u8v x.h0,u8v x.h1,u8v x.h2,.slice x.ks.a x.ks.l.length x.ks.c]
def rpost (x:RdR):List Value:=[.slice x.ins.a x.ins.l.length x.ins.c,.slice x.lks.a x.lks.l.length x.lks.c,.slice x.ro.a x.ro.l.length x.ro.c,u64v x.un,u64v x.pr,.int .i64 x.bad.toInt,u64v x.fee,u64v x.cost,u64v x.prio]
def rdr (x:RdR):Array Value:=mx (rpre x) x.rc (rpost x)
theorem rdr_size (x:RdR):(rdr x).size=48:=mx_size _ _ _
theorem rdr_all (x:RdR):(rdr x).extract 0 48=rdr x:=mx_full rfl
theorem rdr_one (x:RdR):(rdr x).all (·.oneCell') 0 48=true:=all_of (rdr_size x) (mx_one rfl rfl)
theorem at_get {xs:Array Value} {i:Nat} {v:Value} (h:xs[i]? =some v) (hi:i<xs.size):xs[i]=v:=(Array.getElem?_eq_some_iff.1 h).2
theorem rdr1 (x:RdR):(rdr x)[1]? =some (.slice x.sg.a x.sg.l.length x.sg.c):=mx_pre (i:=1) (by simp[rpre])
theorem rdr1' (x:RdR) (h:1<(rdr x).size):(rdr x)[1]= .slice x.sg.a x.sg.l.length x.sg.c:=at_get (rdr1 x) h
section
variable {x:RdR} {a:Option Addr} {c n:Nat}
end
def key0:Key:=⟨List.replicate 32 0,rfl⟩
def rd0:RdR:=⟨⟨none,[],0⟩,⟨none,[],0⟩,false,0,0,0,⟨none,[],0⟩,key0,⟨none,[],0⟩,⟨none,[],0⟩,⟨none,[],0⟩,0,0,0,0,0,0⟩
def zRdy:Array Value:=rdr rd0
theorem zRdy_size:zRdy.size=48:=rdr_size _
def zIn:Array Value:=inr ⟨0,⟨none,[],0⟩,⟨none,[],0⟩⟩
def zLo:Array Value:=lor ⟨key0,⟨none,[],0⟩,⟨none,[],0⟩⟩
def zSg:Array Value:=Array.replicate 64 (.int .u8 0)
theorem ldRdy (w:World) (b o:Nat):(Instr.loadAt 58 (.pointer (some ⟨b,o,none⟩))).run Tryz.prog w=
   match w.heap[b]? with
   |some (.cells cs _ _)=>if o+48≤cs.size then .ok (.agg (cs.extract o (o+48))) w else farL Tryz.prog w 58 b o
   |_=>farL Tryz.prog w 58 b o:=load_rule (d:=_) Tryz.underlying58 rfl (by kernel_rfl) w b o
theorem stRdy (w:World) (b o:Nat) (xs:Array Value):(Instr.storeAt 58 (.pointer (some ⟨b,o,none⟩)) (.agg xs)).run Tryz.prog w=
   match w.heap[b]? with
   |some (.cells cs U (0,0))=>
    if o+48≤cs.size∧xs.size=48∧xs.all (·.oneCell')=true then .ok () (setBlock w b (.cells (if o=0∧48=cs.size then xs else wr cs o xs.toList) U (0,0)))else farS Tryz.prog w 58 b o (.agg xs)
   |_=>farS Tryz.prog w 58 b o (.agg xs):=store_rule (by kernel_rfl) w b o xs
theorem wlRdy (dst:Option Tmp) (x:Operand) (ty:TypeId) (pos:String) (after:Array Edge) (g:Option (Nat×Bool)) (a:Act) (w:World) (K:Act→World→Prop) (Q:Exit→Act→World→Prop):
  Oper.wp Tryz.prog {dst:=dst,op:= .load 58 x,type:=ty,pos:=pos,after:=after,guard:=g} a w K Q=
   (match a.eval x with
   | .pointer (some ⟨b,o,none⟩)=>
    (match w.heap[b]? with
    |some (.cells cs _ _)=>if o+48≤cs.size then K (a.put dst (.agg (cs.extract o (o+48)))) w else farW Tryz.prog {dst:=dst,op:= .load 58 x,type:=ty,pos:=pos,after:=after,guard:=g} a w K Q
    |_=>farW Tryz.prog {dst:=dst,op:= .load 58 x,type:=ty,pos:=pos,after:=after,guard:=g} a w K Q)
   |_=>farW Tryz.prog {dst:=dst,op:= .load 58 x,type:=ty,pos:=pos,after:=after,guard:=g} a w K Q):=wp_load_rule (d:=_) Tryz.underlying58 rfl (by kernel_rfl) dst x ty pos after g a w K Q
theorem alRdy (w:World):(Instr.alloc 58 true (.tuple #[])).run Tryz.prog w= .ok (.pointer (some ⟨w.heap.size,0,none⟩)) (w.alloc (.cells zRdy 58)):=
 run_alloc_row (z:= .agg zRdy) (fun w=>by kernel_rfl) w
theorem ldIn (w:World) (b o:Nat):(Instr.loadAt 146 (.pointer (some ⟨b,o,none⟩))).run Tryz.prog w=
   match w.heap[b]? with
   |some (.cells cs _ _)=>if o+3≤cs.size then .ok (.agg (cs.extract o (o+3))) w else farL Tryz.prog w 146 b o
   |_=>farL Tryz.prog w 146 b o:=load_rule (d:=_) Tryz.underlying146 rfl (by kernel_rfl) w b o
theorem stIn (w:World) (b o:Nat) (xs:Array Value):(Instr.storeAt 146 (.pointer (some ⟨b,o,none⟩)) (.agg xs)).run Tryz.prog w=
   match w.heap[b]? with
   |some (.cells cs U (0,0))=>
    if o+3≤cs.size∧xs.size=3∧xs.all (·.oneCell')=true then .ok () (setBlock w b (.cells (if o=0∧3=cs.size then xs else wr cs o xs.toList) U (0,0)))else farS Tryz.prog w 146 b o (.agg xs)
   |_=>farS Tryz.prog w 146 b o (.agg xs):=store_rule (by kernel_rfl) w b o xs
theorem wlIn (dst:Option Tmp) (x:Operand) (ty:TypeId) (pos:String) (after:Array Edge) (g:Option (Nat×Bool)) (a:Act) (w:World) (K:Act→World→Prop) (Q:Exit→Act→World→Prop):
  Oper.wp Tryz.prog {dst:=dst,op:= .load 146 x,type:=ty,pos:=pos,after:=after,guard:=g} a w K Q=
   (match a.eval x with
   | .pointer (some ⟨b,o,none⟩)=>
    (match w.heap[b]? with
    |some (.cells cs _ _)=>if o+3≤cs.size then K (a.put dst (.agg (cs.extract o (o+3)))) w else farW Tryz.prog {dst:=dst,op:= .load 146 x,type:=ty,pos:=pos,after:=after,guard:=g} a w K Q
    |_=>farW Tryz.prog {dst:=dst,op:= .load 146 x,type:=ty,pos:=pos,after:=after,guard:=g} a w K Q)
   |_=>farW Tryz.prog {dst:=dst,op:= .load 146 x,type:=ty,pos:=pos,after:=after,guard:=g} a w K Q):=wp_load_rule (d:=_) Tryz.underlying146 rfl (by kernel_rfl) dst x ty pos after g a w K Q
theorem alIn (w:World):(Instr.alloc 146 true (.tuple #[])).run Tryz.prog w= .ok (.pointer (some ⟨w.heap.size,0,none⟩)) (w.alloc (.cells zIn 146)):=
 run_alloc_row (z:= .agg zIn) (fun w=>by kernel_rfl) w
theorem ldLo (w:World) (b o:Nat):(Instr.loadAt 148 (.pointer (some ⟨b,o,none⟩))).run Tryz.prog w=
   match w.heap[b]? with
   |some (.cells cs _ _)=>if o+34≤cs.size then .ok (.agg (cs.extract o (o+34))) w else farL Tryz.prog w 148 b o
   |_=>farL Tryz.prog w 148 b o:=load_rule (d:=_) Tryz.underlying148 rfl (by kernel_rfl) w b o
theorem stLo (w:World) (b o:Nat) (xs:Array Value):(Instr.storeAt 148 (.pointer (some ⟨b,o,none⟩)) (.agg xs)).run Tryz.prog w=
   match w.heap[b]? with
   |some (.cells cs U (0,0))=>
    if o+34≤cs.size∧xs.size=34∧xs.all (·.oneCell')=true then .ok () (setBlock w b (.cells (if o=0∧34=cs.size then xs else wr cs o xs.toList) U (0,0)))else farS Tryz.prog w 148 b o (.agg xs)
   |_=>farS Tryz.prog w 148 b o (.agg xs):=store_rule (by kernel_rfl) w b o xs
theorem wlLo (dst:Option Tmp) (x:Operand) (ty:TypeId) (pos:String) (after:Array Edge) (g:Option (Nat×Bool)) (a:Act) (w:World) (K:Act→World→Prop) (Q:Exit→Act→World→Prop):
  Oper.wp Tryz.prog {dst:=dst,op:= .load 148 x,type:=ty,pos:=pos,after:=after,guard:=g} a w K Q=
   (match a.eval x with
   | .pointer (some ⟨b,o,none⟩)=>
    (match w.heap[b]? with
    |some (.cells cs _ _)=>if o+34≤cs.size then K (a.put dst (.agg (cs.extract o (o+34)))) w else farW Tryz.prog {dst:=dst,op:= .load 148 x,type:=ty,pos:=pos,after:=after,guard:=g} a w K Q
    |_=>farW Tryz.prog {dst:=dst,op:= .load 148 x,type:=ty,pos:=pos,after:=after,guard:=g} a w K Q)
   |_=>farW Tryz.prog {dst:=dst,op:= .load 148 x,type:=ty,pos:=pos,after:=after,guard:=g} a w K Q):=wp_load_rule (d:=_) Tryz.underlying148 rfl (by kernel_rfl) dst x ty pos after g a w K Q
theorem alLo (w:World):(Instr.alloc 148 true (.tuple #[])).run Tryz.prog w= .ok (.pointer (some ⟨w.heap.size,0,none⟩)) (w.alloc (.cells zLo 148)):=
 run_alloc_row (z:= .agg zLo) (fun w=>by kernel_rfl) w
theorem sgT:ElT Tryz.prog 24 103 sgc 64 64 where
 u:=Tryz.underlying24
 info:=by
  obtain⟨i0,hi,hz0,hz1,hz2⟩:=info_parts (show(Tryz.prog.info? 103).map (fun i=>(i.zero,i.size,i.bytes))=some (some (.agg zSg),64,64)by kernel_rfl);exact⟨i0,_,hi,hz0,hz1,hz2,by simp[Value.cells,zSg]⟩
 pos:=by omega
 size:=sgc_size
 one:=sgc_one
theorem keysT:ElT Tryz.prog 45 110 kc 32 32 where
 u:=Tryz.underlying45
 info:=by
  obtain⟨i0,hi,hz0,hz1,hz2⟩:=info_parts (show(Tryz.prog.info? 110).map (fun i=>(i.zero,i.size,i.bytes))=some (some (.agg zKey),32,32)by kernel_rfl);exact⟨i0,_,hi,hz0,hz1,hz2,by simp[Value.cells,zKey]⟩
 pos:=by omega
 size:=kc_size
 one k:=by
  have:=kc_one k;rw[Array.all_eq_true_iff_forall_mem]at this;intro u hu;exact this u (by simpa using hu)
theorem rolesT:ElT Tryz.prog 54 192 rcr 34 34 where
 u:=Tryz.underlying54
 info:=by
  obtain⟨i0,hi,hz0,hz1,hz2⟩:=info_parts (show(Tryz.prog.info? 192).map (fun i=>(i.zero,i.size,i.bytes))=some (some (.agg zRole),34,34)by kernel_rfl);exact⟨i0,_,hi,hz0,hz1,hz2,by simp[Value.cells,zRole]⟩
 pos:=by omega
 size r:=rc_size _ _ _
 one r:=by
  have:=kx_one r.k [.bool r.s,.bool r.w] rfl;rw[Array.all_eq_true_iff_forall_mem]at this;intro u hu;exact this u (by simpa[rcr,rc] using hu)
def uc (b:UInt8):Array Value:= #[u8v b]
theorem bytesT:ElT Tryz.prog 42 5 uc 1 1 where
 u:=Tryz.underlying42
 info:=by
  obtain⟨i0,hi,hz0,hz1,hz2⟩:=info_parts (show(Tryz.prog.info? 5).map (fun i=>(i.zero,i.size,i.bytes))=some (some (.int .u8 0),1,1)by kernel_rfl);exact⟨i0,_,hi,hz0,hz1,hz2,rfl⟩
 pos:=by omega
 size x:=rfl
 one x u hu:=by
  simp[uc]at hu;subst hu;rfl
theorem instrT:ElT Tryz.prog 48 146 inr 3 56 where
 u:=Tryz.underlying48
 info:=by
  obtain⟨i0,hi,hz0,hz1,hz2⟩:=info_parts (show(Tryz.prog.info? 146).map (fun i=>(i.zero,i.size,i.bytes))=some (some (.agg zIn),3,56)by kernel_rfl);exact⟨i0,_,hi,hz0,hz1,hz2,rfl⟩
 pos:=by omega
 size x:=rfl
 one x u hu:=by
  simp[inr]at hu;rcases hu with rfl|rfl|rfl<;>rfl
theorem lookupT:ElT Tryz.prog 49 148 lor 34 80 where
 u:=Tryz.underlying49
 info:=by
  obtain⟨i0,hi,hz0,hz1,hz2⟩:=info_parts (show(Tryz.prog.info? 148).map (fun i=>(i.zero,i.size,i.bytes))=some (some (.agg zLo),34,80)by kernel_rfl);exact⟨i0,_,hi,hz0,hz1,hz2,by simp[Value.cells,zLo,lor,kx_size]⟩
 pos:=by omega
 size x:=kx_size _ _
 one x:=by
  have:=kx_one x.t [.slice x.w.a x.w.l.length x.w.c,.slice x.r.a x.r.l.length x.r.c] rfl;rw[Array.all_eq_true_iff_forall_mem]at this;intro u hu;exact this u (by simpa[lor] using hu)
end Go.Proofs.YtceodkliooeccaaGreatDoor
namespace Go.Proofs.YtceodkliooeccaaGreatDoor
open Go.RowKit
open Go.ChangeMaps (setBlock)
structure Acct where
 c:UInt64
 o:Key
 s:UInt64
theorem Acct.ext {a b:Acct} (h1:a.c=b.c) (h2:a.o=b.o) (h3:a.s=b.s):a=b:=by cases a;cases b;cases h1;cases h2;cases h3;rfl
instance:DecidableEq Acct:=fun a b=>if h:a.c=b.c∧a.o=b.o∧a.s=b.s then .isTrue (Acct.ext h.1 h.2.1 h.2.2)else .isFalse (fun e=>h (e▸⟨rfl,rfl,rfl⟩))
def acct0:Acct:=⟨0,key0,0⟩
def cu (x:UInt64):Value:= .int .u64 (x.toNat:Int)
def av (a:Acct):Array Value:= #[cu a.c]++(kc a.o++ #[cu a.s])
theorem av_size (a:Acct):(av a).size=34:=by simp[av]
theorem av_toList (a:Acct):(av a).toList=cu a.c::((kc a.o).toList++[cu a.s]):=by simp[av]
theorem extract_app {a b c:Array Value} {n m:Nat} (hn:a.size=n) (hm:b.size=m):(a++(b++c)).extract n (n+m)=b:=by
 subst hn;subst hm;apply Array.ext';simp[List.extract,List.drop_append]
theorem av_all (a:Acct):(av a).extract 0 34=av a:=by
 rw[show(34:Nat)=(av a).size by rw[av_size]];exact Array.extract_size
theorem av_inj {a b:Acct} (h:av a=av b):a=b:=by
 have h1:=congrArg Array.toList h;rw[av_toList,av_toList]at h1;simp only[List.cons.injEq]at h1;obtain⟨h2,h3⟩:=h1;obtain⟨h4,h5⟩:=List.append_inj h3 (by simp);refine Acct.ext ?_ (kc_inj (by simpa using congrArg List.toArray h4)) ?_
 ·simp only[cu,Value.int.injEq,true_and]at h2;exact UInt64.toNat_inj.1 (by omega)
 ·simp only[List.cons.injEq,cu,Value.int.injEq,true_and,and_true]at h5;exact UInt64.toNat_inj.1 (by omega)
def avv (a:Acct):Value:= .agg (av a)
structure Hold where
 k:Key
 a:Acct
theorem Hold.ext {a b:Hold} (h1:a.k=b.k) (h2:a.a=b.a):a=b:=by cases a;cases b;cases h1;cases h2;rfl
instance:DecidableEq Hold:=fun a b=>if h:a.k=b.k∧a.a=b.a then .isTrue (Hold.ext h.1 h.2)else .isFalse (fun e=>h (e▸⟨rfl,rfl⟩))
def hd (h:Hold):Array Value:=kc h.k++(av h.a++ #[])
theorem hd_size (h:Hold):(hd h).size=66:=by simp[hd,av_size]
theorem hd_key (h:Hold):(hd h).extract 0 32=kc h.k:=by simp[hd]
theorem hd_acct (h:Hold):(hd h).extract 32 66=av h.a:=extract_app (n:=32) (m:=34) (by simp) (av_size _)
theorem hd_one (h:Hold):(hd h).all (·.oneCell') 0 66=true:=all_of (hd_size h) (by
 unfold hd;rw[Array.all_append,Array.all_append,kc_one];have:(av h.a).all (·.oneCell')=true:=by
  unfold av;rw[Array.all_append,Array.all_append,kc_one];simp[cu,Value.oneCell']
 rw[this];simp)
def zAcct:Array Value:= #[.int .u64 0]++(Array.replicate 32 (.int .u8 0)++ #[.int .u64 0])
def zHold:Array Value:=Array.replicate 32 (.int .u8 0)++zAcct
theorem zHold_size:zHold.size=66:=by simp[zHold,zAcct]
theorem zAcct_eq:zAcct=av acct0:=by rfl
theorem ldAcct (w:World) (b o:Nat):(Instr.loadAt 164 (.pointer (some ⟨b,o,none⟩))).run Tryz.prog w=
   match w.heap[b]? with
   |some (.cells cs _ _)=>if o+34≤cs.size then .ok (.agg (cs.extract o (o+34))) w else farL Tryz.prog w 164 b o
   |_=>farL Tryz.prog w 164 b o:=load_rule (d:=_) Tryz.underlying164 rfl (by kernel_rfl) w b o
theorem ldHold (w:World) (b o:Nat):(Instr.loadAt 166 (.pointer (some ⟨b,o,none⟩))).run Tryz.prog w=
   match w.heap[b]? with
   |some (.cells cs _ _)=>if o+66≤cs.size then .ok (.agg (cs.extract o (o+66))) w else farL Tryz.prog w 166 b o
   |_=>farL Tryz.prog w 166 b o:=load_rule (d:=_) Tryz.underlying166 rfl (by kernel_rfl) w b o
theorem build0 (w:World):(Instr.build 164 #[]).run Tryz.prog w= .ok (.agg (av acct0)) w:=by
 refine run_build_struct (z:= .agg zAcct) (places:= #[(0,1),(1,32),(33,1)]) Tryz.underlying164 (fun w=>by kernel_rfl) (fun w=>by kernel_rfl) ?_ w;show Instr.fill _ zAcct []=_;rw[zAcct_eq];rfl
theorem buildHold (k:Key) (a:Acct) (w:World):(Instr.build 166 #[(0,.agg (kc k)),(1,.agg (av a))]).run Tryz.prog w= .ok (.agg (hd ⟨k,a⟩)) w:=by
 refine run_build_struct (z:= .agg zHold) (places:= #[(0,32),(32,34)]) Tryz.underlying166 (fun w=>by kernel_rfl) (fun w=>by kernel_rfl) ?_ w;show Instr.fill _ zHold [(0,_),(1,_)]=_;rw[fill_cons (off:=0) (n:=32) rfl (by simp[Value.cells]) (by rw[zHold_size];omega),fill_cons (off:=32) (n:=34) rfl (by simp[Value.cells,av_size]) (by rw[wr_size,zHold_size];omega)];show some _=some _;congr 1;apply Array.toList_inj.1;have hl:(av a).toList.length=34:=by rw[Array.length_toList,av_size]
 have hz:zHold.toList.length=66:=by rw[Array.length_toList,zHold_size]
 rw[wr_list _ _ _ (by rw[wr_size,zHold_size];simp[Value.cells,av_size]),wr_list _ _ _ (by rw[zHold_size];simp[Value.cells])];have hk:(kc k).toList.length=32:=by simp
 simp only[Value.cells,hd,Array.toList_append,List.append_nil,List.take_zero,List.nil_append,hk,hl];rw[List.take_append_of_le_length (by omega),List.take_of_length_le (by omega),List.drop_of_length_le (by simp[hk,hz]),List.append_nil]
theorem u64_cells:Tryz.prog.cellsOf 25=1:=by kernel_rfl
theorem acct_cells:Tryz.prog.cellsOf 164=34:=by kernel_rfl
theorem u64_wf (x:UInt64):(Lit.int .u64 (x.toNat:Int)).wf=true:=by
 have:=x.toNat_lt;simp[Lit.wf,IntKind.min,IntKind.max,IntKind.bits,IntKind.signed];omega
theorem lits_u64 (x:UInt64) (d:Nat):Tryz.prog.keyLits (d+1) 25 [cu x]=some [.int .u64 (x.toNat:Int)]:=by
 unfold Program.keyLits;rw[Tryz.underlying25];simp[cu,u64_wf]
theorem acct_lits (a:Acct) (d:Nat):∃l,Tryz.prog.keyLits (d+3) 164 (av a).toList=some l:=by
 obtain⟨l,hl⟩:=keyIs.lits a.o d;unfold Program.keyLits;rw[Tryz.underlying164];simp only[acct_cells];rw[if_pos ⟨by rw[Array.length_toList,av_size],by kernel_rfl⟩];have hk:(kc a.o).toList.length=32:=by simp
 have h1:(av a).toList.take 1=[cu a.c]:=by rw[av_toList];rfl
 have h2:((av a).toList.drop 1).take 32=(kc a.o).toList:=by
  rw[av_toList,List.drop_succ_cons,List.drop_zero,List.take_append_of_le_length (by omega),List.take_of_length_le (by omega)]
 have h3:((av a).toList.drop 33).take 1=[cu a.s]:=by
  rw[av_toList,List.drop_succ_cons,List.drop_append_of_le_length (by omega),List.drop_of_length_le (by omega)];rfl
 simp only[List.mapM_cons,List.mapM_nil,keyIs.cK,u64_cells,List.drop_zero,h1,hl,h2,h3,lits_u64 a.c (d+1),lits_u64 a.s (d+1)];exact⟨_,rfl⟩
theorem eq_struct {T:TypeId} (m d D:Nat) (hD:d+m=D) (hk:Tryz.prog.keyTypeAt m T=true) (ht:Tryz.prog.tiled m T=true) {x y:Array Value} {lx ly:List Lit} (fx:(Value.agg x).formed Tryz.prog T=true) (fy:(Value.agg y).formed Tryz.prog T=true)
  (hx:Tryz.prog.keyLits m T x.toList=some lx) (hy:Tryz.prog.keyLits m T y.toList=some ly) (w:World):∃r:Bool,(Op.equalIn D T (.agg x) (.agg y)).run Tryz.prog w= .ok r w∧(r=true↔x=y):=by
 subst hD;obtain⟨r,hr,hiff⟩:=run_equalIn_deep (P:=Tryz.prog) d m T hk w m m (.agg x) (.agg y) lx ly fx fy hx hy;refine⟨r,hr,hiff.trans ⟨fun e=> ?_,fun e=> ?_⟩⟩
 ·have h1:=cells_of_lits m T ht m _ _ hx;have h2:=cells_of_lits m T ht m _ _ hy;rw[e,←h2]at h1;exact Array.toList_inj.1 h1
 ·subst e;rw[hx]at hy;exact Option.some.inj hy
theorem eqAcct (a b:Acct) (w:World):(Op.equalIn 10000 164 (.agg (av a)) (.agg (av b))).run Tryz.prog w= .ok (decide (a=b)) w:=by
 obtain⟨lx,hx⟩:=acct_lits a 0;obtain⟨ly,hy⟩:=acct_lits b 0;have hat:Tryz.prog.keyTypeAt 3 164=true:=by kernel_rfl
 have hti:Tryz.prog.tiled 3 164=true:=by kernel_rfl
 have hf:∀a:Acct,(Value.agg (av a)).formed Tryz.prog 164=true:=fun a=>by
  simp[Value.formed,Tryz.underlying164,acct_cells,av_size]
 obtain⟨r,hr,hiff⟩:=eq_struct 3 9997 10000 rfl hat hti (hf a) (hf b) hx hy w;have e:r=decide (a=b):=by
  rw[Bool.eq_iff_iff,hiff,decide_eq_true_eq];exact⟨av_inj,fun e=>by rw[e]⟩
 rw[←e];exact hr
theorem hd_onecell (h:Hold):∀u∈(hd h).toList,u.oneCell'=true:=by
 have h1:=hd_one h;rw[show(66:Nat)=(hd h).size by rw[hd_size],Array.all_eq_true_iff_forall_mem]at h1;exact fun u hu=>h1 u (by simpa using hu)
theorem holdT:ElT Tryz.prog 22 166 hd 66 80 where
 u:=Tryz.underlying22
 info:=by
  obtain⟨i0,hi,hz0,hz1,hz2⟩:=info_parts (show(Tryz.prog.info? 166).map (fun i=>(i.zero,i.size,i.bytes))=some (some (.agg zHold),66,80)by kernel_rfl);exact⟨i0,_,hi,hz0,hz1,hz2,zHold_size⟩
 pos:=by omega
 size x:=hd_size _
 one:=hd_onecell
theorem neMap (w:World) (r:Option Nat):(binOp .neq 150 (.map r) (.map none)).run Tryz.prog w= .ok (.bool !r.isNone) w:=run_neq_map_nil w _ _ _ _ Tryz.underlying150
end Go.Proofs.YtceodkliooeccaaGreatDoor
namespace Go.Proofs.YtceodkliooeccaaGreatDoor
open Go.RowKit
open Go.ChangeMaps (setBlock)
theorem part_of {pre mid post:List Value} {a b:Nat} (ha:pre.length=a) (hb:a+mid.length=b):((pre++(mid++post)).toArray).extract a b=mid.toArray:=by
 subst ha;subst hb;apply Array.toList_inj.1;simp
structure OcR where
 fail:Int64
 at':Int64
 un:UInt64
 fee:UInt64
 sp:UInt64
 ch:Sl Hold
def ocl (o:OcR):List Value:=[.int .i64 o.fail.toInt,.int .i64 o.at'.toInt,u64v o.un,u64v o.fee,u64v o.sp,.slice o.ch.a o.ch.l.length o.ch.c]
def ocr (o:OcR):Array Value:=(ocl o).toArray
theorem ocr_size (o:OcR):(ocr o).size=6:=rfl
theorem ocr_all (o:OcR):(ocr o).extract 0 6=ocr o:=rfl
theorem ocr_one' (o:OcR):(ocr o).all (·.oneCell')=true:=by simp[ocr,ocl,Value.oneCell']
theorem ocr_one (o:OcR):(ocr o).all (·.oneCell') 0 6=true:=all_of (ocr_size o) (ocr_one' o)
theorem ocr2 (o:OcR):(ocr o)[2]? =some (u64v o.un):=rfl
theorem ocr3 (o:OcR):(ocr o)[3]? =some (u64v o.fee):=rfl
theorem ocr4 (o:OcR):(ocr o)[4]? =some (u64v o.sp):=rfl
theorem ocr5 (o:OcR):(ocr o)[5]? =some (.slice o.ch.a o.ch.l.length o.ch.c):=rfl
theorem ocr2' (o:OcR) (h:2<(ocr o).size):(ocr o)[2]=u64v o.un:=rfl
theorem ocr3' (o:OcR) (h:3<(ocr o).size):(ocr o)[3]=u64v o.fee:=rfl
theorem ocr4' (o:OcR) (h:4<(ocr o).size):(ocr o)[4]=u64v o.sp:=rfl
theorem ocr5' (o:OcR) (h:5<(ocr o).size):(ocr o)[5]= .slice o.ch.a o.ch.l.length o.ch.c:=rfl
theorem ocr_set5 (o:OcR) (a:Option Addr) (l:List Hold) (n c:Nat) (hn:l.length=n):(ocr o).setIfInBounds 5 (.slice a n c)=ocr {o with ch:=⟨a,l,c⟩}:=by
 subst hn;rfl
structure TdR where
 r:RdR
 o:OcR
def tdr (x:TdR):Array Value:=mx (rpre x.r) x.r.rc (rpost x.r++ocl x.o)
theorem tdr_size (x:TdR):(tdr x).size=54:=mx_size _ _ _
theorem tdr_all (x:TdR):(tdr x).extract 0 54=tdr x:=mx_full rfl
theorem tdr_one (x:TdR):(tdr x).all (·.oneCell') 0 54=true:=all_of (tdr_size x) (mx_one rfl rfl)
theorem tdr_one' (x:TdR):(tdr x).all (·.oneCell')=true:=mx_one rfl rfl
theorem tdr_r (x:TdR):(tdr x).extract 0 48=rdr x.r:=by
 have:=part_of (pre:=[]) (mid:=rpre x.r++(x.r.rc.l.map bc++rpost x.r)) (post:=ocl x.o) (a:=0) (b:=48) rfl (by simp[rpre,rpost,x.r.rc.h]);simpa[tdr,rdr,mx] using this
theorem tdr_o (x:TdR):(tdr x).extract 48 54=ocr x.o:=by
 have:=part_of (pre:=rpre x.r++(x.r.rc.l.map bc++rpost x.r)) (mid:=ocl x.o) (post:=[]) (a:=48) (b:=54) (by simp[rpre,rpost,x.r.rc.h]) rfl;simpa[tdr,rdr,mx,ocr] using this
theorem tdr0 (x:TdR):(tdr x)[0]? =some (.slice x.r.b.a x.r.b.l.length x.r.b.c):=mx_pre (i:=0) (by simp[rpre])
theorem tdr41 (x:TdR):(tdr x)[41]? =some (.slice x.r.ro.a x.r.ro.l.length x.r.ro.c):=mx_post 2
theorem tdr50 (x:TdR):(tdr x)[50]? =some (u64v x.o.un):=mx_post 11
theorem tdr51 (x:TdR):(tdr x)[51]? =some (u64v x.o.fee):=mx_post 12
theorem tdr52 (x:TdR):(tdr x)[52]? =some (u64v x.o.sp):=mx_post 13
theorem tdr0' (x:TdR) (h:0<(tdr x).size):(tdr x)[0]= .slice x.r.b.a x.r.b.l.length x.r.b.c:=at_get (tdr0 x) h
theorem tdr41' (x:TdR) (h:41<(tdr x).size):(tdr x)[41]= .slice x.r.ro.a x.r.ro.l.length x.r.ro.c:=at_get (tdr41 x) h
theorem tdr50' (x:TdR) (h:50<(tdr x).size):(tdr x)[50]=u64v x.o.un:=at_get (tdr50 x) h
theorem tdr51' (x:TdR) (h:51<(tdr x).size):(tdr x)[51]=u64v x.o.fee:=at_get (tdr51 x) h
theorem tdr52' (x:TdR) (h:52<(tdr x).size):(tdr x)[52]=u64v x.o.sp:=at_get (tdr52 x) h
def txr (x:RdR):Array Value:=mx ((rpre x).drop 1) x.rc ((rpost x).take 2)
theorem txr_size (x:RdR):(txr x).size=40:=mx_size _ _ _
theorem txr_all (x:RdR):(txr x).extract 0 40=txr x:=mx_full rfl
theorem txr_one (x:RdR):(txr x).all (·.oneCell') 0 40=true:=all_of (txr_size x) (mx_one rfl rfl)
theorem txr_one' (x:RdR):(txr x).all (·.oneCell')=true:=mx_one rfl rfl
theorem tdr_tx (x:TdR):(tdr x).extract 1 41=txr x.r:=by
 have:=part_of (pre:=(rpre x.r).take 1) (mid:=(rpre x.r).drop 1++(x.r.rc.l.map bc++(rpost x.r).take 2)) (post:=(rpost x.r).drop 2++ocl x.o) (a:=1) (b:=41) rfl (by simp[rpre,rpost,x.r.rc.h]);simpa[tdr,txr,mx,rpre,rpost] using this
theorem rdr_rec (x:RdR):(rdr x).extract 7 39=kc x.rc:=by
 have:=part_of (pre:=rpre x) (mid:=x.rc.l.map bc) (post:=rpost x) (a:=7) (b:=39) rfl (by simp[x.rc.h]);simpa[rdr,kc,mx] using this
theorem tdr_rec (x:TdR):(tdr x).extract 7 39=kc x.r.rc:=by
 have:=part_of (pre:=rpre x.r) (mid:=x.r.rc.l.map bc) (post:=rpost x.r++ocl x.o) (a:=7) (b:=39) rfl (by simp[x.r.rc.h]);simpa[tdr,kc,mx] using this
theorem txr0 (x:RdR):(txr x)[0]? =some (.slice x.sg.a x.sg.l.length x.sg.c):=mx_pre (i:=0) (by simp[rpre])
theorem txr38 (x:RdR):(txr x)[38]? =some (.slice x.ins.a x.ins.l.length x.ins.c):=mx_post 0
theorem txr39 (x:RdR):(txr x)[39]? =some (.slice x.lks.a x.lks.l.length x.lks.c):=mx_post 1
theorem txr0' (x:RdR) (h:0<(txr x).size):(txr x)[0]= .slice x.sg.a x.sg.l.length x.sg.c:=at_get (txr0 x) h
theorem txr38' (x:RdR) (h:38<(txr x).size):(txr x)[38]= .slice x.ins.a x.ins.l.length x.ins.c:=at_get (txr38 x) h
theorem txr39' (x:RdR) (h:39<(txr x).size):(txr x)[39]= .slice x.lks.a x.lks.l.length x.lks.c:=at_get (txr39 x) h
def oc0:OcR:=⟨0,0,0,0,0,⟨none,[],0⟩⟩
def zOut:Array Value:=ocr oc0
theorem zOut_size:zOut.size=6:=rfl
def td0:TdR:=⟨rd0,oc0⟩
def zTried:Array Value:=tdr td0
theorem zTried_size:zTried.size=54:=tdr_size _
def zTx:Array Value:=txr rd0
theorem zTx_size:zTx.size=40:=txr_size _
theorem ldOut (w:World) (b o:Nat):(Instr.loadAt 63 (.pointer (some ⟨b,o,none⟩))).run Tryz.prog w=
   match w.heap[b]? with
   |some (.cells cs _ _)=>if o+6≤cs.size then .ok (.agg (cs.extract o (o+6))) w else farL Tryz.prog w 63 b o
   |_=>farL Tryz.prog w 63 b o:=load_rule (d:=_) Tryz.underlying63 rfl (by kernel_rfl) w b o
theorem stOut (w:World) (b o:Nat) (xs:Array Value):(Instr.storeAt 63 (.pointer (some ⟨b,o,none⟩)) (.agg xs)).run Tryz.prog w=
   match w.heap[b]? with
   |some (.cells cs U (0,0))=>
    if o+6≤cs.size∧xs.size=6∧xs.all (·.oneCell')=true then .ok () (setBlock w b (.cells (if o=0∧6=cs.size then xs else wr cs o xs.toList) U (0,0)))else farS Tryz.prog w 63 b o (.agg xs)
   |_=>farS Tryz.prog w 63 b o (.agg xs):=store_rule (by kernel_rfl) w b o xs
theorem wlOut (dst:Option Tmp) (x:Operand) (ty:TypeId) (pos:String) (after:Array Edge) (g:Option (Nat×Bool)) (a:Act) (w:World) (K:Act→World→Prop) (Q:Exit→Act→World→Prop):
  Oper.wp Tryz.prog {dst:=dst,op:= .load 63 x,type:=ty,pos:=pos,after:=after,guard:=g} a w K Q=
   (match a.eval x with
   | .pointer (some ⟨b,o,none⟩)=>
    (match w.heap[b]? with
    |some (.cells cs _ _)=>if o+6≤cs.size then K (a.put dst (.agg (cs.extract o (o+6)))) w else farW Tryz.prog {dst:=dst,op:= .load 63 x,type:=ty,pos:=pos,after:=after,guard:=g} a w K Q
    |_=>farW Tryz.prog {dst:=dst,op:= .load 63 x,type:=ty,pos:=pos,after:=after,guard:=g} a w K Q)
   |_=>farW Tryz.prog {dst:=dst,op:= .load 63 x,type:=ty,pos:=pos,after:=after,guard:=g} a w K Q):=wp_load_rule (d:=_) Tryz.underlying63 rfl (by kernel_rfl) dst x ty pos after g a w K Q
theorem alOut (w:World):(Instr.alloc 63 true (.tuple #[])).run Tryz.prog w= .ok (.pointer (some ⟨w.heap.size,0,none⟩)) (w.alloc (.cells zOut 63)):=
 run_alloc_row (z:= .agg zOut) (fun w=>by kernel_rfl) w
theorem ldTd (w:World) (b o:Nat):(Instr.loadAt 65 (.pointer (some ⟨b,o,none⟩))).run Tryz.prog w=
   match w.heap[b]? with
   |some (.cells cs _ _)=>if o+54≤cs.size then .ok (.agg (cs.extract o (o+54))) w else farL Tryz.prog w 65 b o
   |_=>farL Tryz.prog w 65 b o:=load_rule (d:=_) Tryz.underlying65 rfl (by kernel_rfl) w b o
theorem stTd (w:World) (b o:Nat) (xs:Array Value):(Instr.storeAt 65 (.pointer (some ⟨b,o,none⟩)) (.agg xs)).run Tryz.prog w=
   match w.heap[b]? with
   |some (.cells cs U (0,0))=>
    if o+54≤cs.size∧xs.size=54∧xs.all (·.oneCell')=true then .ok () (setBlock w b (.cells (if o=0∧54=cs.size then xs else wr cs o xs.toList) U (0,0)))else farS Tryz.prog w 65 b o (.agg xs)
   |_=>farS Tryz.prog w 65 b o (.agg xs):=store_rule (by kernel_rfl) w b o xs
theorem wlTd (dst:Option Tmp) (x:Operand) (ty:TypeId) (pos:String) (after:Array Edge) (g:Option (Nat×Bool)) (a:Act) (w:World) (K:Act→World→Prop) (Q:Exit→Act→World→Prop):
  Oper.wp Tryz.prog {dst:=dst,op:= .load 65 x,type:=ty,pos:=pos,after:=after,guard:=g} a w K Q=
   (match a.eval x with
   | .pointer (some ⟨b,o,none⟩)=>
    (match w.heap[b]? with
    |some (.cells cs _ _)=>if o+54≤cs.size then K (a.put dst (.agg (cs.extract o (o+54)))) w else farW Tryz.prog {dst:=dst,op:= .load 65 x,type:=ty,pos:=pos,after:=after,guard:=g} a w K Q
    |_=>farW Tryz.prog {dst:=dst,op:= .load 65 x,type:=ty,pos:=pos,after:=after,guard:=g} a w K Q)
   |_=>farW Tryz.prog {dst:=dst,op:= .load 65 x,type:=ty,pos:=pos,after:=after,guard:=g} a w K Q):=wp_load_rule (d:=_) Tryz.underlying65 rfl (by kernel_rfl) dst x ty pos after g a w K Q
theorem alTd (w:World):(Instr.alloc 65 true (.tuple #[])).run Tryz.prog w= .ok (.pointer (some ⟨w.heap.size,0,none⟩)) (w.alloc (.cells zTried 65)):=
 run_alloc_row (z:= .agg zTried) (fun w=>by kernel_rfl) w
theorem ldTx (w:World) (b o:Nat):(Instr.loadAt 53 (.pointer (some ⟨b,o,none⟩))).run Tryz.prog w=
   match w.heap[b]? with
   |some (.cells cs _ _)=>if o+40≤cs.size then .ok (.agg (cs.extract o (o+40))) w else farL Tryz.prog w 53 b o
   |_=>farL Tryz.prog w 53 b o:=load_rule (d:=_) Tryz.underlying53 rfl (by kernel_rfl) w b o
theorem stTx (w:World) (b o:Nat) (xs:Array Value):(Instr.storeAt 53 (.pointer (some ⟨b,o,none⟩)) (.agg xs)).run Tryz.prog w=
   match w.heap[b]? with
   |some (.cells cs U (0,0))=>
    if o+40≤cs.size∧xs.size=40∧xs.all (·.oneCell')=true then .ok () (setBlock w b (.cells (if o=0∧40=cs.size then xs else wr cs o xs.toList) U (0,0)))else farS Tryz.prog w 53 b o (.agg xs)
   |_=>farS Tryz.prog w 53 b o (.agg xs):=store_rule (by kernel_rfl) w b o xs
theorem wlTx (dst:Option Tmp) (x:Operand) (ty:TypeId) (pos:String) (after:Array Edge) (g:Option (Nat×Bool)) (a:Act) (w:World) (K:Act→World→Prop) (Q:Exit→Act→World→Prop):
  Oper.wp Tryz.prog {dst:=dst,op:= .load 53 x,type:=ty,pos:=pos,after:=after,guard:=g} a w K Q=
   (match a.eval x with
   | .pointer (some ⟨b,o,none⟩)=>
    (match w.heap[b]? with
    |some (.cells cs _ _)=>if o+40≤cs.size then K (a.put dst (.agg (cs.extract o (o+40)))) w else farW Tryz.prog {dst:=dst,op:= .load 53 x,type:=ty,pos:=pos,after:=after,guard:=g} a w K Q
    |_=>farW Tryz.prog {dst:=dst,op:= .load 53 x,type:=ty,pos:=pos,after:=after,guard:=g} a w K Q)
   |_=>farW Tryz.prog {dst:=dst,op:= .load 53 x,type:=ty,pos:=pos,after:=after,guard:=g} a w K Q):=wp_load_rule (d:=_) Tryz.underlying53 rfl (by kernel_rfl) dst x ty pos after g a w K Q
theorem alTx (w:World):(Instr.alloc 53 true (.tuple #[])).run Tryz.prog w= .ok (.pointer (some ⟨w.heap.size,0,none⟩)) (w.alloc (.cells zTx 53)):=
 run_alloc_row (z:= .agg zTx) (fun w=>by kernel_rfl) w
end Go.Proofs.YtceodkliooeccaaGreatDoor
namespace Go.Proofs.YtceodkliooeccaaGreatDoor
open Go.ChangeShapes Go.WideShapes Go.ChangeAt Go.RowKit
theorem u8_of {n:Int} (h:0≤n∧n≤255):∃x:UInt8,n=(x.toNat:Int):=⟨UInt8.ofNat n.toNat,by
 rw[UInt8.toNat_ofNat'];omega⟩
theorem u64_of {n:Int} (h:0≤n∧n≤18446744073709551615):∃x:UInt64,n=(x.toNat:Int):=⟨UInt64.ofNat n.toNat,by
 rw[UInt64.toNat_ofNat'];omega⟩
section
variable {H:Type} {enc:TypeId×Value→H}
theorem bytes_of {w:World} {base:Nat} {sp:Nat→Bool} {held:Bool} {fuel:Nat} {cs:List Value} {x:DataW H×List MemPlace} {t:TypeId} {n:Nat} (hT:Tryz.prog.underlying t=some (.array n 5)) (hc:Tryz.prog.cellsOf t=n) (h:DataW.trod enc Tryz.prog w base sp held fuel t cs=some x):
  ∃l:List UInt8,l.length=n∧cs=l.map bc:=by
 obtain⟨xs,m,rfl,rfl,hl,hx,hi⟩:=DataW.trod_array hT h;have hl:cs.length=n:=hl.trans hc;have hx:xs.length=n:=hx;have hget:∀i,i<n→∃u:UInt8,cs[i]? =some (bc u):=fun i h32=>by
  have hq:=hi i h32;rw[show Tryz.prog.cellsOf 5=1 by kernel_rfl,Nat.mul_one,List.getElem?_eq_getElem (by omega)]at hq;obtain⟨n,hn,_,hw⟩:=DataW.trod_int Tryz.underlying5 hq;have hb:=bounds_u8 hw;refine⟨UInt8.ofNat n.toNat,?_⟩;rw[take1 hn];unfold bc;have:((UInt8.ofNat n.toNat).toNat:Int)=n:=by
   rw[UInt8.toNat_ofNat'];omega
  rw[this]
 let f:Value→UInt8:=fun v=>match v with
  | .int _ n=>UInt8.ofNat n.toNat
  |_=>0
 refine⟨cs.map f,by simp[hl],?_⟩;apply List.ext_getElem?;intro i;simp only[List.map_map,List.getElem?_map];by_cases h32:i<n
 ·obtain⟨n,hn⟩:=hget i h32;rw[hn];have:bc (f (bc n))=bc n:=by
   show bc (UInt8.ofNat ((n.toNat:Int).toNat))=bc n;rw[Int.toNat_natCast,UInt8.ofNat_toNat]
  simp[this]
 ·rw[List.getElem?_eq_none (by omega)];rfl
theorem key_reads:Reads enc Tryz.prog 110 kc (fun _ _=>True):=fun w base sp held fuel cs x h _=>by
 obtain⟨l,hl,rfl⟩:=bytes_of Tryz.underlying110 (by kernel_rfl) h;exact⟨⟨l,hl⟩,rfl,trivial⟩
theorem hash_reads:Reads enc Tryz.prog 47 kc (fun _ _=>True):=fun w base sp held fuel cs x h _=>by
 obtain⟨l,hl,rfl⟩:=bytes_of Tryz.underlying47 (by kernel_rfl) h;exact⟨⟨l,hl⟩,rfl,trivial⟩
theorem sig_reads:Reads enc Tryz.prog 103 sgc (fun _ _=>True):=fun w base sp held fuel cs x h _=>by
 obtain⟨l,hl,rfl⟩:=bytes_of Tryz.underlying103 (by kernel_rfl) h;exact⟨⟨l,hl⟩,rfl,trivial⟩
theorem u8_reads:Reads enc Tryz.prog 5 uc (fun _ _=>True):=fun w base sp held fuel cs x h hfit=>by
 obtain⟨n,rfl,_,hw⟩:=DataW.trod_int Tryz.underlying5 h;obtain⟨y,rfl⟩:=u8_of (bounds_u8 hw);exact⟨y,rfl,trivial⟩
def uv (x:UInt64):Array Value:= #[u64v x]
theorem u64_reads:Reads enc Tryz.prog 25 uv (fun _ _=>True):=fun w base sp held fuel cs x h hfit=>by
 obtain⟨n,rfl,_,hw⟩:=DataW.trod_int Tryz.underlying25 h;obtain⟨y,rfl⟩:=u64_of (bounds_u64 hw);exact⟨y,rfl,trivial⟩
theorem field_read {α:Type} {T t:TypeId} {fs:Array Field} {f:α→Array Value} {Ok:World→α→Prop} (j off n:Nat) (hT:Tryz.prog.underlying T=some (.struct fs)) (hfl:(fs[j]?).map (fun f=>(f.type,f.offset))=some (t,off)) (hn:Tryz.prog.cellsOf t=n) (hR:Reads enc Tryz.prog t f Ok)
  {w:World} {base:Nat} {sp:Nat→Bool} {held:Bool} {fuel:Nat} {cs:List Value} {x:DataW H×List MemPlace} (h:DataW.trod enc Tryz.prog w base sp held fuel T cs=some x) (hfit:fits Tryz.prog T x.1):∃a:α,(cs.drop off).take n=(f a).toList∧Ok w a:=by
 obtain⟨xs,m,rfl,rfl,hl,hx,hi⟩:=DataW.trod_struct hT h;cases hf:fs[j]? with
 |none=>rw[hf]at hfl;cases hfl
 |some fl=>
  rw[hf]at hfl;simp only[Option.map_some,Option.some.injEq,Prod.mk.injEq]at hfl;obtain⟨rfl,rfl⟩:=hfl;have hj:j<xs.length:=by rw[hx];exact(Array.getElem?_eq_some_iff.1 hf).1
  have h1:=hi j fl hf;rw[List.getElem?_eq_getElem hj,hn]at h1;have h2:fits Tryz.prog fl.type (xs[j].1):=fits_field (i:=j) (d:=xs[j].1) (fl:=fl) hT hfit hf (by rw[List.getElem?_map,List.getElem?_eq_getElem hj];rfl);obtain⟨a,ha,hok⟩:=hR _ _ _ _ _ _ _ h1 h2;exact⟨a,by rw[←ha],hok⟩
theorem cut_at (cs:List Value) (off n:Nat):cs.drop off=(cs.drop off).take n++cs.drop (off+n):=by rw[←List.drop_drop,List.take_append_drop]
theorem end_at {cs:List Value} {n:Nat} (h:cs.length=n):cs.drop n=[]:=List.drop_of_length_le (by omega)
theorem len_of {T:TypeId} {fs:Array Field} {n:Nat} (hT:Tryz.prog.underlying T=some (.struct fs)) (hn:Tryz.prog.cellsOf T=n) {w:World} {base:Nat} {sp:Nat→Bool} {held:Bool} {fuel:Nat} {cs:List Value} {x:DataW H×List MemPlace} (h:DataW.trod enc Tryz.prog w base sp held fuel T cs=some x):cs.length=n:=by
 obtain⟨xs,m,rfl,rfl,hl,_⟩:=DataW.trod_struct hT h;exact hl.trans hn
theorem keys_reads:Reads enc Tryz.prog 45 (slv (α:=Key)) (SlOk kc 32 32 (fun _ _=>True)):=
 slice_reads Tryz.underlying45 (by kernel_rfl) (by kernel_rfl) (by omega) key_reads key0
theorem hashes_reads:Reads enc Tryz.prog 23 (slv (α:=Key)) (SlOk kc 32 32 (fun _ _=>True)):=
 slice_reads Tryz.underlying23 (by kernel_rfl) (by kernel_rfl) (by omega) hash_reads key0
def sig0:Sg:=⟨List.replicate 64 0,rfl⟩
theorem sigs_reads:Reads enc Tryz.prog 24 (slv (α:=Sg)) (SlOk sgc 64 64 (fun _ _=>True)):=
 slice_reads Tryz.underlying24 (by kernel_rfl) (by kernel_rfl) (by omega) sig_reads sig0
def msr (x:RdR):Array Value:=mx ((rpre x).drop 2) x.rc ((rpost x).take 2)
theorem acct_reads:Reads enc Tryz.prog 164 av (fun _ _=>True):=fun w base sp held fuel cs x h hfit=>by
 obtain⟨a0,h0,ka0⟩:=field_read 0 0 1 Tryz.underlying164 rfl (by kernel_rfl) u64_reads h hfit;obtain⟨a1,h1,ka1⟩:=field_read 1 1 32 Tryz.underlying164 rfl (by kernel_rfl) key_reads h hfit;obtain⟨a2,h2,ka2⟩:=field_read 2 33 1 Tryz.underlying164 rfl (by kernel_rfl) u64_reads h hfit;have hl:=len_of (n:=34) Tryz.underlying164 (by kernel_rfl) h;refine⟨⟨a0,a1,a2⟩,?_,trivial⟩;apply Array.toList_inj.1;show cs=_;have e:=cut_at cs 0 1;rw[cut_at cs (0+1) 32,cut_at cs (0+1+32) 1,h0,h1,h2,end_at (n:=0+1+32+1) hl]at e;refine e.trans ?_;simp[av,uv,cu,u64v]
theorem hold_reads:Reads enc Tryz.prog 166 hd (fun _ _=>True):=fun w base sp held fuel cs x h hfit=>by
 obtain⟨a0,h0,ka0⟩:=field_read 0 0 32 Tryz.underlying166 rfl (by kernel_rfl) key_reads h hfit;obtain⟨a1,h1,ka1⟩:=field_read 1 32 34 Tryz.underlying166 rfl (by kernel_rfl) acct_reads h hfit;have hl:=len_of (n:=66) Tryz.underlying166 (by kernel_rfl) h;refine⟨⟨a0,a1⟩,?_,trivial⟩;apply Array.toList_inj.1;show cs=_;have e:=cut_at cs 0 32;rw[cut_at cs (0+32) 34,h0,h1,end_at (n:=0+32+34) hl]at e;refine e.trans ?_;simp[hd]
theorem holds_reads:Reads enc Tryz.prog 22 (slv (α:=Hold)) (SlOk hd 66 80 (fun _ _=>True)):=
 slice_reads Tryz.underlying22 (by kernel_rfl) (by kernel_rfl) (by omega) hold_reads ⟨key0,acct0⟩
end
end Go.Proofs.YtceodkliooeccaaGreatDoor
