/- The lemmas of the proof, part YO1: how the program and its data lie in memory, and what its functions do. -/
import Derived.Maps.Keyed
import Derived.DeepKeys4
import Derived.Below
import Derived.WalkKit
import Derived.WalkSpells
import Derived.Deep.MidRow
import Derived.Deep.Draws
import Derived.KernelRfl
import Derived.ChangeKeysEq
import Derived.OrdersHeld
import Derived.Maps.RangeRun
import Derived.ProofKit
import Derived.OpenShut
import Derived.SizedLaws
import Derived.Maps.AppendAt
import Derived.Laws.OwnMore
import Derived.Great.BuildSlice
import Derived.ArgAppend
import Derived.WalkLawsBesides
import Derived.Lib.Hide
import Derived.Deep.DeepCutAuto
import Derived.Deep.CutRange
import Derived.Laws.BitsAllLaws
import Derived.Test.YtblbegbjlaokjaaGreatDoorProg
import Derived.BigQuiet
import Derived.Test.YtblbegbjlaokjaaGreatDoorRows
import Derived.LaidMore
import Derived.Stop.Joined
import Derived.Lib.LaidTab
import Derived.Shelf.SlSortCmp.QuietGrown
set_option linter.unusedSimpArgs false
set_option linter.unusedVariables false
set_option linter.unusedSectionVars false
namespace Go.Proofs
abbrev Wa:=Array Value
abbrev Wb:=Option Addr
abbrev Wc:=List Int64
abbrev Wd:=List Nat
abbrev We:=World
abbrev Wg:=Value
abbrev Wh:=TypeId
abbrev Wi:=Int64
abbrev Wj:=UInt64
abbrev Wk:=UInt8
abbrev Wl:=Program
abbrev Wm:=Operand
abbrev Wn:=FuncId
end Go.Proofs
namespace Go.Proofs.YtblbegbjlaokjaaGreatDoor
theorem aZa:type_of% @List.getElem?_eq_some_iff.{0}:=@List.getElem?_eq_some_iff.{0}
theorem aZb:type_of% @List.getElem?_eq_getElem.{0}:=@List.getElem?_eq_getElem.{0}
theorem aZc:type_of% @List.mem_cons.{0}:=@List.mem_cons.{0}
theorem aZd:type_of% @Nat.lt_of_lt_of_le:=@Nat.lt_of_lt_of_le
theorem aZe:type_of% @List.not_mem_nil.{0}:=@List.not_mem_nil.{0}
theorem aZf:type_of% @Array.getElem?_eq_some_iff.{0}:=@Array.getElem?_eq_some_iff.{0}
theorem aZg:type_of% @List.length_append.{0}:=@List.length_append.{0}
theorem aZh:type_of% @List.mem_append.{0}:=@List.mem_append.{0}
theorem aZi:type_of% @List.mem_of_getElem?.{0}:=@List.mem_of_getElem?.{0}
theorem aZj:type_of% @List.mem_map.{0,0}:=@List.mem_map.{0,0}
theorem aZk:type_of% @List.getD_eq_getElem?_getD.{0}:=@List.getD_eq_getElem?_getD.{0}
theorem aZl:type_of% @List.mem_append_left.{0}:=@List.mem_append_left.{0}
theorem aZm:type_of% @List.mem_singleton.{0}:=@List.mem_singleton.{0}
theorem aZn:type_of% @List.length_set.{0}:=@List.length_set.{0}
theorem aZo:type_of% @List.map_cons.{0,0}:=@List.map_cons.{0,0}
theorem aZp:type_of% @List.mem_cons_of_mem.{0}:=@List.mem_cons_of_mem.{0}
theorem aZq:type_of% @Nat.le_refl:=@Nat.le_refl
theorem aZr:type_of% @Bool.false_eq_true:=@Bool.false_eq_true
theorem aZs:type_of% @List.length_map.{0,0}:=@List.length_map.{0,0}
theorem aZt:type_of% @List.getElem?_append_left.{0}:=@List.getElem?_append_left.{0}
theorem aZu:type_of% @List.length_cons.{0}:=@List.length_cons.{0}
theorem aZv:type_of% @List.getElem?_map.{0,0}:=@List.getElem?_map.{0,0}
theorem aZw:type_of% @List.append_assoc.{0}:=@List.append_assoc.{0}
theorem aZx:type_of% @List.length_singleton.{0}:=@List.length_singleton.{0}
theorem aZy:type_of% @Bool.and_eq_true:=@Bool.and_eq_true
theorem aZz:type_of% @Option.some.inj.{0}:=@Option.some.inj.{0}
theorem aZ0:type_of% @List.getElem?_set_ne.{0}:=@List.getElem?_set_ne.{0}
theorem aZ1:type_of% @Array.toList_inj.{0}:=@Array.toList_inj.{0}
theorem aZ2:type_of% @Array.getElem?_setIfInBounds.{0}:=@Array.getElem?_setIfInBounds.{0}
theorem aZ3:type_of% @List.getElem?_append_right.{0}:=@List.getElem?_append_right.{0}
theorem aZ4:type_of% @List.length_take.{0}:=@List.length_take.{0}
theorem aZ5:type_of% @Array.all_eq_true_iff_forall_mem.{0}:=@Array.all_eq_true_iff_forall_mem.{0}
theorem aZ6:type_of% @List.filter_append.{0}:=@List.filter_append.{0}
theorem aZ7:type_of% @List.nodup_append.{0}:=@List.nodup_append.{0}
theorem aZ8:type_of% @List.mem_iff_getElem?.{0}:=@List.mem_iff_getElem?.{0}
theorem aZ9:type_of% @List.length_replicate.{0}:=@List.length_replicate.{0}
theorem aYa:type_of% @List.take_add_one.{0}:=@List.take_add_one.{0}
theorem aYb:type_of% @Nat.le_trans:=@Nat.le_trans
theorem aYc:type_of% @List.nodup_cons.{0}:=@List.nodup_cons.{0}
theorem aYd:type_of% @Array.length_toList.{0}:=@Array.length_toList.{0}
theorem aYe:type_of% @Array.getElem?_eq_getElem.{0}:=@Array.getElem?_eq_getElem.{0}
theorem aYf:type_of% @Nat.zero_le:=@Nat.zero_le
theorem aYg:type_of% @List.cons_append.{0}:=@List.cons_append.{0}
theorem aYh:type_of% @List.all_eq_true.{0}:=@List.all_eq_true.{0}
theorem aYi:type_of% @List.mem_append_right.{0}:=@List.mem_append_right.{0}
theorem aYj:type_of% @Option.map_some.{0,0}:=@Option.map_some.{0,0}
theorem aYk:type_of% @List.sublist_cons_self.{0}:=@List.sublist_cons_self.{0}
theorem aYl:type_of% @Array.getElem?_extract.{0}:=@Array.getElem?_extract.{0}
theorem aYm:type_of% @Option.some.injEq.{0}:=@Option.some.injEq.{0}
theorem aYn:type_of% @List.eq_nil_of_length_eq_zero.{0}:=@List.eq_nil_of_length_eq_zero.{0}
theorem aYo:type_of% @List.map_nil.{0,0}:=@List.map_nil.{0,0}
theorem aYp:type_of% @Nat.mul_one:=@Nat.mul_one
theorem aYq:type_of% @List.nil_append.{0}:=@List.nil_append.{0}
theorem aYr:type_of% @List.map_toArray.{0,0}:=@List.map_toArray.{0,0}
theorem aYs:type_of% @List.size_toArray.{0}:=@List.size_toArray.{0}
theorem aYt:type_of% @Nat.lt_or_ge:=@Nat.lt_or_ge
theorem aYu:type_of% @List.mem_range:=@List.mem_range
theorem aYv:type_of% @List.any_eq_true.{0}:=@List.any_eq_true.{0}
theorem aYw:type_of% @List.length_nil.{0}:=@List.length_nil.{0}
theorem aYx:type_of% @List.append_nil.{0}:=@List.append_nil.{0}
theorem aYy:type_of% @List.Sublist.append_left.{0}:=@List.Sublist.append_left.{0}
theorem aYz:type_of% @Nat.testBit_two_pow_mul_add:=@Nat.testBit_two_pow_mul_add
theorem aY0:type_of% @Nat.le_of_ble_eq_true:=@Nat.le_of_ble_eq_true
theorem aY1:type_of% @List.getElem?_eq_none.{0}:=@List.getElem?_eq_none.{0}
theorem aY2:type_of% @List.length_eq_zero_iff.{0}:=@List.length_eq_zero_iff.{0}
theorem aY3:type_of% @List.getElem?_replicate.{0}:=@List.getElem?_replicate.{0}
theorem aY4:type_of% @Bool.or_eq_true:=@Bool.or_eq_true
theorem aY5:type_of% @List.take_length.{0}:=@List.take_length.{0}
theorem aY6:type_of% @List.take_of_length_le.{0}:=@List.take_of_length_le.{0}
theorem aY7:type_of% @List.getElem?_take.{0}:=@List.getElem?_take.{0}
theorem aY8:type_of% @Array.ext_getElem?.{0}:=@Array.ext_getElem?.{0}
theorem aY9:type_of% @List.take_append_drop.{0}:=@List.take_append_drop.{0}
theorem aXa:type_of% @Nat.pow_le_pow_right:=@Nat.pow_le_pow_right
theorem aXb:type_of% @Nat.eq_of_testBit_eq:=@Nat.eq_of_testBit_eq
theorem aXc:type_of% @Array.replicate_zero.{0}:=@Array.replicate_zero.{0}
theorem aXd:type_of% @Array.replicate_succ.{0}:=@Array.replicate_succ.{0}
theorem aXe:type_of% @Nat.zero_add:=@Nat.zero_add
theorem aXf:type_of% @List.append_of_mem.{0}:=@List.append_of_mem.{0}
theorem aXg:type_of% @Nat.testBit_lt_two_pow:=@Nat.testBit_lt_two_pow
theorem aXh:type_of% @Array.getElem?_eq_none.{0}:=@Array.getElem?_eq_none.{0}
theorem aXi:type_of% @List.mem_or_eq_of_mem_set.{0}:=@List.mem_or_eq_of_mem_set.{0}
theorem aXj:type_of% @List.append_toArray.{0}:=@List.append_toArray.{0}
theorem aXk:type_of% @Array.getElem?_push.{0}:=@Array.getElem?_push.{0}
theorem aXl:type_of% @List.foldl_append.{0,0}:=@List.foldl_append.{0,0}
theorem aXm:type_of% @List.ext_getElem?.{0}:=@List.ext_getElem?.{0}
theorem aXn:type_of% @Nat.sub_self:=@Nat.sub_self
theorem aXo:type_of% @List.push_toArray.{0}:=@List.push_toArray.{0}
theorem aXp:type_of% @Nat.testBit_two_pow:=@Nat.testBit_two_pow
theorem aXq:type_of% @Array.getElem?_setIfInBounds_ne.{0}:=@Array.getElem?_setIfInBounds_ne.{0}
theorem aXr:type_of% @List.drop_eq_getElem_cons.{0}:=@List.drop_eq_getElem_cons.{0}
theorem aXs:type_of% @Nat.add_sub_cancel_left:=@Nat.add_sub_cancel_left
theorem aXt:type_of% @List.getElem_mem.{0}:=@List.getElem_mem.{0}
theorem aXu:type_of% @Nat.mul_le_mul_right:=@Nat.mul_le_mul_right
theorem aXv:type_of% @Array.toList_extract.{0}:=@Array.toList_extract.{0}
theorem aXw:type_of% @Bool.eq_iff_iff:=@Bool.eq_iff_iff
theorem aXx:type_of% @List.getElem?_take_of_lt.{0}:=@List.getElem?_take_of_lt.{0}
theorem aXy:type_of% @List.eq_of_mem_replicate.{0}:=@List.eq_of_mem_replicate.{0}
theorem aXz:type_of% @Nat.add_zero:=@Nat.add_zero
theorem aX0:type_of% @List.map_map.{0,0,0}:=@List.map_map.{0,0,0}
theorem aX1:type_of% @List.filter_eq_self.{0}:=@List.filter_eq_self.{0}
theorem aX2:type_of% @List.getElem_replicate.{0}:=@List.getElem_replicate.{0}
theorem aX3:type_of% @Nat.lt_of_le_of_lt:=@Nat.lt_of_le_of_lt
theorem aX4:type_of% @List.map_set.{0,0}:=@List.map_set.{0,0}
theorem aX5:type_of% @Nat.two_pow_pos:=@Nat.two_pow_pos
theorem aX6:type_of% @Nat.testBit_and:=@Nat.testBit_and
theorem aX7:type_of% @Nat.min_eq_left:=@Nat.min_eq_left
theorem aX8:type_of% @List.set_append_right.{0}:=@List.set_append_right.{0}
theorem aX9:type_of% @Array.getElem?_modify.{0}:=@Array.getElem?_modify.{0}
theorem aWa:type_of% @Nat.testBit_two_pow_sub_one:=@Nat.testBit_two_pow_sub_one
theorem aWb:type_of% @List.idxOf_lt_length_of_mem.{0}:=@List.idxOf_lt_length_of_mem.{0}
theorem aWc:type_of% @Array.getElem?_setIfInBounds_self_of_lt.{0}:=@Array.getElem?_setIfInBounds_self_of_lt.{0}
theorem aWd:type_of% @List.getElem?_inj.{0}:=@List.getElem?_inj.{0}
theorem aWe:type_of% @List.flatMap_cons.{0,0}:=@List.flatMap_cons.{0,0}
theorem aWf:type_of% @Int.tmod_eq_emod_of_nonneg:=@Int.tmod_eq_emod_of_nonneg
theorem aWg:type_of% @List.count_le_length.{0}:=@List.count_le_length.{0}
theorem aWh:type_of% @Nat.add_mul:=@Nat.add_mul
theorem aWi:type_of% @Array.toList_append.{0}:=@Array.toList_append.{0}
theorem aWj:type_of% @Array.size_setIfInBounds.{0}:=@Array.size_setIfInBounds.{0}
theorem aWk:type_of% @Nat.eq_zero_or_pos:=@Nat.eq_zero_or_pos
theorem aWl:type_of% @List.any_eq_false.{0}:=@List.any_eq_false.{0}
theorem aWm:type_of% @Int.toNat_natCast:=@Int.toNat_natCast
theorem aWn:type_of% @List.nodup_nil.{0}:=@List.nodup_nil.{0}
theorem aWo:type_of% @Nat.mul_comm:=@Nat.mul_comm
theorem aWp:type_of% @Array.getElem?_toList.{0}:=@Array.getElem?_toList.{0}
theorem aWq:type_of% @List.eq_nil_iff_forall_not_mem.{0}:=@List.eq_nil_iff_forall_not_mem.{0}
theorem aWr:type_of% @List.filter_cons.{0}:=@List.filter_cons.{0}
theorem aWs:type_of% @Bool.true_and:=@Bool.true_and
theorem aWt:type_of% @Nat.mod_lt:=@Nat.mod_lt
theorem aWu:type_of% @Nat.div_add_mod:=@Nat.div_add_mod
theorem aWv:type_of% @List.foldl_cons.{0,0}:=@List.foldl_cons.{0,0}
theorem aWw:type_of% @Array.toList_modify.{0}:=@Array.toList_modify.{0}
theorem aWx:type_of% @List.nodup_iff_pairwise_ne.{0}:=@List.nodup_iff_pairwise_ne.{0}
theorem aWy:type_of% @Nat.zero_mul:=@Nat.zero_mul
theorem aWz:type_of% @Option.isSome_some.{0}:=@Option.isSome_some.{0}
theorem aW0:type_of% @Option.isSome_none.{0}:=@Option.isSome_none.{0}
theorem aW1:type_of% @List.pairwise_map.{0,0}:=@List.pairwise_map.{0,0}
theorem aW2:type_of% @List.getElem?_cons_succ.{0}:=@List.getElem?_cons_succ.{0}
theorem aW3:type_of% @Nat.mod_eq_of_lt:=@Nat.mod_eq_of_lt
end Go.Proofs.YtblbegbjlaokjaaGreatDoor
namespace Go.Proofs.YtblbegbjlaokjaaGreatDoor
theorem Hi {p:Prop} (h:p):RowKit.Hid p:=h
theorem Ai {a b:Prop} (x:a) (y:b):a∧b:=⟨x,y⟩
theorem Df {p:Prop} [Decidable p] (h:¬p):decide p=false:=decide_eq_false h
theorem Dt {p:Prop} [Decidable p] (h:p):decide p=true:=decide_eq_true h
end Go.Proofs.YtblbegbjlaokjaaGreatDoor
namespace Go.Proofs.YtblbegbjlaokjaaGreatDoor
theorem KH {x k:Nat} (h1:x.testBit k=true) (h0:∀i,i<k→x.testBit i=false):∃m,x=2^k*(2*m+1):=by
 have hz:x % 2^k=0:=by
  apply aXb;intro i;rw[Nat.testBit_mod_two_pow,Nat.zero_testBit];by_cases hi:i<k
  ·rw[h0 i hi,Bool.and_false]
  ·rw[Df hi,Bool.false_and]
 have h2:(x/2^k).testBit 0=true:=by
  rw[Nat.testBit_div_two_pow,aXe];exact h1
 rw[Nat.testBit_zero]at h2;have h3:x/2^k % 2=1:=by simpa using h2
 refine⟨x/2^k/2,?_⟩;have h4:2*(x/2^k/2)+1=x/2^k:=by omega
 rw[h4];have:=aWu x (2^k);omega
theorem JP {x k:Nat} (h1:x.testBit k=true) (h0:∀i,i<k→x.testBit i=false) (i:Nat):(x-1).testBit i=if i<k then true else if i=k then false else x.testBit i:=by
 obtain⟨m,rfl⟩:=KH h1 h0;have hp:0<2^k:=aX5 k;have e:2^k*(2*m+1)-1=2^k*(2*m)+(2^k-1):=by
  rw[Nat.mul_add,aYp];omega
 rw[e,aYz _ (by omega)];by_cases hi:i<k
 ·rw[if_pos hi,if_pos hi,aWa,Dt hi]
 ·rw[if_neg hi,if_neg hi];by_cases hk:i=k
  ·subst hk;rw[if_pos rfl,aXn];simp[Nat.testBit_zero]
  ·rw[if_neg hk];have e2:2^k*(2*m+1)=2^k*(2*m+1)+0:=rfl;rw[e2,aYz _ hp,if_neg hi];obtain⟨j,hj⟩:∃j,i-k=j+1:=⟨i-k-1,by omega⟩;rw[hj,Nat.testBit_succ,Nat.testBit_succ];congr 1;omega
theorem NI {x k:Nat} (hx:x<2^64) (h1:x.testBit k=true) (h0:∀i,i<k→x.testBit i=false):x&&&(2^64-x)=2^k:=by
 have Ru:0<x:=by
  rcases aWk x with rfl|h
  ·simp at h1
  ·exact h
 have hk:k<64:=by
  rcases aYt k 64 with h|h
  ·exact h
  ·have:=aXg (aZd hx (aXa (by omega) h));rw[h1]at this;cases this
 apply aXb;intro i;have e:2^64-x=2^64-((x-1)+1):=by omega
 rw[aX6,e,Nat.testBit_two_pow_sub_succ (by omega),JP h1 h0,aXp];by_cases hi:i<k
 ·rw[h0 i hi,Bool.false_and,Df (by omega)]
 ·rw[if_neg hi];by_cases he:i=k
  ·subst he;rw[h1,if_pos rfl,Dt hk,Dt rfl];rfl
  ·rw[if_neg he,show decide (k=i)=false from Df (fun h=>he h.symm)];cases x.testBit i<;>simp
theorem EA:∀ {x:Nat},0<x→∃k,x.testBit k=true∧∀i,i<k→x.testBit i=false:=by
 intro x
 induction x using Nat.strongRecOn with
 |ind x ih=>
  intro hx;by_cases h:x % 2=1
  ·exact⟨0,by simp[Nat.testBit_zero,h],fun i hi=>by omega⟩
  ·obtain⟨k,h1,h2⟩:=ih (x/2) (by omega) (by omega);refine⟨k+1,by rw[Nat.testBit_succ];exact h1,fun i hi=> ?_⟩;cases i with
   |zero=>simp[Nat.testBit_zero,h]
   |succ i=>rw[Nat.testBit_succ];exact h2 i (by omega)
theorem qC {x k:Nat} (hx:x<2^64) (h1:x.testBit k=true):k<64:=by
 rcases aYt k 64 with h|h
 ·exact h
 ·have:=aXg (aZd hx (aXa (by omega) h));rw[h1]at this;cases this
theorem nJ {x:Nat} (hx:x<2^64) (i:Nat):(2^64-1-x).testBit i=(decide (i<64)&& !x.testBit i):=by
 have e:2^64-1-x=2^64-(x+1):=by omega
 rw[e,Nat.testBit_two_pow_sub_succ hx]
end Go.Proofs.YtblbegbjlaokjaaGreatDoor
namespace Go.Proofs.YtblbegbjlaokjaaGreatDoor
open Go.ChangeMaps (setBlock)
open Go.RowKit
structure Mod (S:Nat→Prop) (w w':We):Prop where
 os:w'.os=w.os
 tape:w'.tape=w.tape
 output:w'.output=w.output
 size:w.heap.size≤w'.heap.size
 block:∀i,i<w.heap.size→¬S i→w'.heap[i]? =w.heap[i]?
theorem Mod.refl (S:Nat→Prop) (w:We):Mod S w w:=⟨rfl,rfl,rfl,aZq _,fun _ _ _=>rfl⟩
theorem Mod.trans {S:Nat→Prop} {a b c:We} (h:Mod S a b) (k:Mod S b c):Mod S a c:=
 ⟨k.os.trans h.os,k.tape.trans h.tape,k.output.trans h.output,aYb h.size k.size,
  fun i hi hs=>(k.block i (aZd hi h.size) hs).trans (h.block i hi hs)⟩
theorem Mod.then {S T:Nat→Prop} {a b c:We} (h:Mod S a b) (k:Mod T b c) (hT:∀i,i<a.heap.size→T i→S i):Mod S a c:=
 ⟨k.os.trans h.os,k.tape.trans h.tape,k.output.trans h.output,aYb h.size k.size,
  fun i hi hs=>(k.block i (aZd hi h.size) (fun ht=>hs (hT i hi ht))).trans (h.block i hi hs)⟩
theorem Mod.mono {S T:Nat→Prop} {a b:We} (h:Mod S a b) (hT:∀i,i<a.heap.size→S i→T i):Mod T a b:=
 ⟨h.os,h.tape,h.output,h.size,fun i hi hs=>h.block i hi (fun hh=>hs (hT i hi hh))⟩
theorem Mod.below {S:Nat→Prop} {a b:We} {B:Nat} (h:Mod S a b) (hB:B≤a.heap.size) (hS:∀i,i<B→¬S i):Below B a b:=
 ⟨h.os,h.tape,h.output,h.size,fun i hi=>h.block i (aZd hi hB) (hS i hi)⟩
theorem Mod.of_below {a b:We} (h:Below a.heap.size a b) (S:Nat→Prop):Mod S a b:=
 ⟨h.os,h.tape,h.output,h.size,fun i hi _=>h.block i hi⟩
theorem Mod.at {S:Nat→Prop} {a b:We} (h:Mod S a b) {i:Nat} {o:Obj} (ho:a.heap[i]? =some o) (hs:¬S i):b.heap[i]? =some o:=by
 rw[h.block i (aZf.1 ho).1 hs,ho]
theorem Mod.alloc {S:Nat→Prop} {a b:We} (h:Mod S a b) (o:Obj):Mod S a (b.alloc o):=
 ⟨h.os,h.tape,h.output,aYb h.size (by rw[show(b.alloc o).heap=b.heap.push o from rfl,Array.size_push];omega),fun i hi hs=>by
  rw[show(b.alloc o).heap=b.heap.push o from rfl,aXk,if_neg (Nat.ne_of_lt (aZd hi h.size)),h.block i hi hs]⟩
theorem Mod.drew {S:Nat→Prop} {a b:We} (h:Mod S a b):Mod S a b.drew:=⟨h.os,h.tape,h.output,h.size,h.block⟩
theorem Mod.drewN {S:Nat→Prop} {a b:We} (h:Mod S a b) (n:Nat):Mod S a (b.drewN n):=⟨h.os,h.tape,h.output,h.size,h.block⟩
theorem Mod.setBlock {S:Nat→Prop} {a b:We} (h:Mod S a b) {r:Nat} (o:Obj) (hr:r<a.heap.size→S r):Mod S a (setBlock b r o):=
 ⟨h.os,h.tape,h.output,by simpa[ChangeMaps.setBlock] using h.size,fun i hi hs=>by
  rw[show(ChangeMaps.setBlock b r o).heap=b.heap.setIfInBounds r o from rfl,
   aXq (by rintro rfl;exact hs (hr hi)),h.block i hi hs]⟩
theorem Mod.setCell {S:Nat→Prop} {a b:We} (h:Mod S a b) {p:Addr} (v:Wg) (hr:p.block<a.heap.size→S p.block):Mod S a (b.setCell p v):=
 ⟨h.os,h.tape,h.output,by simpa[World.setCell] using h.size,fun i hi hs=>by
  rw[heap_setCell_other b p i v (by rintro rfl;exact hs (hr hi)),h.block i hi hs]⟩
theorem Mod.setCells {S:Nat→Prop} {a b:We} (h:Mod S a b) {r:Nat} (o:Nat) (vs:List Wg) (hr:r<a.heap.size→S r):Mod S a (b.setCells r o vs):=by
 induction vs generalizing o b with
 |nil=>exact h
 |cons v r ih=>exact ih (h.setCell v hr) (o+1)
theorem Mod.at_ne {p:Nat} {a b:We} (h:Mod (fun i=>i=p) a b) {i:Nat} {o:Obj} (ho:a.heap[i]? =some o) (hs:i≠p):b.heap[i]? =some o:=h.at ho hs
theorem Mod.at0 {a b:We} (h:Mod (fun _=>False) a b) {i:Nat} {o:Obj} (ho:a.heap[i]? =some o):b.heap[i]? =some o:=h.at ho (fun h=>h)
theorem Mod.then0 {S:Nat→Prop} {a b c:We} (h:Mod S a b) (k:Mod (fun _=>False) b c):Mod S a c:=h.then k (fun _ _ h=>h.elim)
theorem Mod.thenB {S:Nat→Prop} {a b c:We} {p:Nat} (h:Mod S a b) (k:Mod (fun i=>i=p) b c) (hp:a.heap.size≤p∨S p):Mod S a c:=
 h.then k (fun i hi e=>by
  cases e;rcases hp with hp|hp
  ·omega
  ·exact hp)
theorem aB {w:We} {a b:Nat} {o o':Obj} (ha:w.heap[a]? =some o) (hb:w.heap[b]? =some o') (h:o≠o'):a≠b:=by
 rintro rfl;rw[ha]at hb;exact h (aZz hb)
theorem aA {w:We} {b:Nat} {o:Obj} (h:w.heap[b]? =some o):b<w.heap.size:=(aZf.1 h).1
theorem aF (w:We) {b:Nat} (o:Obj) (h:b<w.heap.size):(setBlock w b o).heap[b]? =some o:=by
 simp[setBlock,h]
theorem bM (w:We) (b:Nat) (o:Obj):Mod (fun i=>i=b) w (setBlock w b o):=(Mod.refl _ w).setBlock o (fun _=>rfl)
theorem dA (w:We) {b i:Nat} (o:Obj) (h:i≠b):(setBlock w b o).heap[i]? =w.heap[i]? :=by
 simp[setBlock,Ne.symm h]
structure aN where
 l:List Wk
 h:l.length=32
theorem aN.ext {a b:aN} (h:a.l=b.l):a=b:=by cases a;cases b;cases h;rfl
instance:DecidableEq aN:=fun a b=>if h:a.l=b.l then .isTrue (aN.ext h)else .isFalse (fun e=>h (e▸rfl))
def bc (b:Wk):Wg:= .int .u8 b.toNat
theorem F4 {a b:Wk} (h:bc a=bc b):a=b:=by
 simp only[bc,Value.int.injEq,true_and]at h;exact UInt8.toNat_inj.1 (by omega)
def kc (k:aN):Wa:=(k.l.map bc).toArray
@[simp] theorem kc_size (k:aN):(kc k).size=32:=by simp[kc,k.h]
theorem zZ {a b:aN} (h:kc a=kc b):a=b:=by
 have h1:a.l.map bc=b.l.map bc:=by simpa[kc] using h
 exact aN.ext (List.map_inj_right (fun _ _=>F4)|>.1 h1)
def kv (k:aN):Wg:= .agg (kc k)
theorem QW {a b:aN} (h:kv a=kv b):a=b:=zZ (by simpa[kv] using h)
structure lX {κ:Type} (P:Wl) (K:Wh) (f:κ→Wg):Prop where
 law:Maps.Keyed P K
 lit:∀k,∃l,keyOf P K (f k)=some l
 inj:∀a b,f a=f b→a=b
theorem set_same {α:Type} {l:List α} {i:Nat} {a:α} (h:l[i]? =some a):l.set i a=l:=by
 apply aXm;intro j;simp[List.getElem?_set];grind
theorem iL {α:Type} {l:List α} {j:Nat} (f:α→α) {e:α} (h:l[j]? =some e):l.modify j f=l.set j (f e):=by
 apply aXm;intro i;simp[List.getElem?_modify,List.getElem?_set];grind
section
variable {κ ν:Type} [DecidableEq κ]
def lkp (k:κ):List (κ×ν)→Option ν
 |[]=>none
 |p::r=>if p.1=k then some p.2 else lkp k r
def put (k:κ) (v:ν):List (κ×ν)→List (κ×ν)
 |[]=>[(k,v)]
 |p::r=>if p.1=k then(k,v)::r else p::put k v r
def del (k:κ):List (κ×ν)→List (κ×ν)
 |[]=>[]
 |p::r=>if p.1=k then r else p::del k r
theorem cH (k:κ) (v:ν) (m:List (κ×ν)):lkp k (put k v m)=some v:=by
 induction m with
 |nil=>simp[put,lkp]
 |cons p r ih=>unfold put;split<;>simp_all[lkp]
theorem i9 {k j:κ} (h:j≠k) (v:ν) (m:List (κ×ν)):lkp j (put k v m)=lkp j m:=by
 induction m with
 |nil=>simp[put,lkp,Ne.symm h]
 |cons p r ih=>
  unfold put;split
  ·rename_i hp;subst hp;simp[lkp,Ne.symm h]
  ·simp[lkp,ih]
theorem gQ (k j:κ) (v:ν) (m:List (κ×ν)):lkp j (put k v m)=if j=k then some v else lkp j m:=by
 by_cases h:j=k
 ·subst h;simp[cH]
 ·simp[h,i9 h]
theorem uZ (k:κ) (v:ν) (m:List (κ×ν)) (x:κ):x∈(put k v m).map Prod.fst↔x=k∨x∈m.map Prod.fst:=by
 induction m with
 |nil=>simp[put]
 |cons p r ih=>
  unfold put;split
  ·rename_i hp;subst hp;simp
  ·simp only[aZo,aZc,ih];constructor
   ·rintro(h|h|h)<;>simp[h]
   ·rintro(h|h|h)<;>simp[h]
theorem fT {m:List (κ×ν)} (h:(m.map Prod.fst).Nodup) (k:κ) (v:ν):((put k v m).map Prod.fst).Nodup:=by
 induction m with
 |nil=>simp[put]
 |cons p r ih=>
  simp only[aZo,aYc]at h;unfold put;split
  ·rename_i hp;subst hp;simpa using h
  ·rename_i hp;simp only[aZo,aYc,uZ];exact⟨fun h'=>h'.elim (fun e=>hp e) h.1,ih h.2⟩
theorem eQ (k:κ) (m:List (κ×ν)):lkp k m=none↔k∉m.map Prod.fst:=by
 induction m with
 |nil=>simp[lkp]
 |cons p r ih=>
  unfold lkp;split
  ·rename_i h;simp[h]
  ·rename_i h;simp[ih,Ne.symm h]
theorem BK (k:κ) (m:List (κ×ν)):(del k m).Sublist m:=by
 induction m with
 |nil=>simp[del]
 |cons p r ih=>unfold del;split;exact aYk _ _;exact ih.cons_cons p
theorem EK {m:List (κ×ν)} (h:(m.map Prod.fst).Nodup) (k:κ):((del k m).map Prod.fst).Nodup:=
 h.sublist ((BK k m).map _)
theorem B1 {m:List (κ×ν)} (h:(m.map Prod.fst).Nodup) (k j:κ):lkp j (del k m)=if j=k then none else lkp j m:=by
 induction m with
 |nil=>simp[del,lkp]
 |cons p r ih=>
  simp only[aZo,aYc]at h;unfold del;split
  ·rename_i hp;subst hp;by_cases hj:j=p.1
   ·subst hj;simp[(eQ _ _).2 h.1]
   ·simp[hj,lkp,Ne.symm hj]
  ·rename_i hp;simp only[lkp,ih h.2];by_cases hj:j=k
   ·subst hj;simp[hp]
   ·simp[hj]
theorem cP {m:List (κ×ν)} {k:κ} {v:ν} (h:lkp k m=some v):(k,v)∈m:=by
 induction m with
 |nil=>simp[lkp]at h
 |cons p r ih=>
  unfold lkp at h;split at h
  ·rename_i hp;subst hp;cases h;simp
  ·exact aZp _ (ih h)
theorem dJ {m:List (κ×ν)} (hn:(m.map Prod.fst).Nodup) {k:κ} {v:ν} (h:(k,v)∈m):lkp k m=some v:=by
 induction m with
 |nil=>cases h
 |cons p r ih=>
  simp only[aZo,aYc]at hn;rcases aZc.1 h with rfl|h
  ·simp[lkp]
  ·unfold lkp;rw[if_neg,ih hn.2 h];intro e;exact hn.1 (e▸aZj.2 ⟨_,h,rfl⟩)
structure aR (f:κ→Wg) (g:ν→Wg) (es:Array MapEntry) (clock:Nat) (m:List (κ×ν)):Prop where
 ents:es.toList.map (fun e=>(e.key,e.val))=m.map (fun p=>(f p.1,g p.2))
 nodup:(m.map Prod.fst).Nodup
 lt:∀e∈es.toList,e.born<clock
 apart:(es.toList.map (·.born)).Nodup
variable {P:Wl} {T K E:Wh} {f:κ→Wg} {g:ν→Wg}
theorem aR.size {es:Array MapEntry} {clock:Nat} {m:List (κ×ν)} (h:aR f g es clock m):es.size=m.length:=by
 have:=congrArg List.length h.ents;simpa using this
theorem aR.get {es:Array MapEntry} {clock:Nat} {m:List (κ×ν)} (h:aR f g es clock m) {j:Nat} {e:MapEntry} (he:es.toList[j]? =some e):
  ∃p,m[j]? =some p∧e.key=f p.1∧e.val=g p.2:=by
 have:=congrArg (fun l=>l[j]?) h.ents;simp only[aZv,he,aYj]at this;cases hm:m[j]? with
 |none=>simp[hm]at this
 |some p=>simp only[hm,aYj,aYm,Prod.mk.injEq]at this;exact⟨p,rfl,this.1,this.2⟩
theorem aR.keys {es:Array MapEntry} {clock:Nat} {m:List (κ×ν)} (h:aR f g es clock m) (hk:lX P K f):∀e∈es.toList,∃l,keyOf P K e.key=some l:=by
 intro e he;obtain⟨j,hj⟩:=aZ8.1 he;obtain⟨p,_,hp,_⟩:=h.get hj;rw[hp];exact hk.lit p.1
theorem xM {m:List (κ×ν)} (hn:(m.map Prod.fst).Nodup) {j:Nat} {p:κ×ν} (h:m[j]? =some p):lkp p.1 m=some p.2:=
 dJ hn (aZi h)
theorem aR.find {es:Array MapEntry} {clock:Nat} {m:List (κ×ν)} (h:aR f g es clock m) (hk:lX P K f) (w:We) (k:κ):
  (lkp k m=none∧(Instr.findKey K (f k) es.toList).run P w= .ok none w)∨
  ∃j v e,m[j]? =some (k,v)∧es.toList[j]? =some e∧e.key=f k∧e.val=g v∧lkp k m=some v∧
   (Instr.findKey K (f k) es.toList).run P w= .ok (some (j,g v)) w:=by
 obtain⟨l,hl⟩:=hk.lit k;rcases hk.law.find w hl es.toList (h.keys hk)with⟨h1,h2⟩|⟨j,e,h1,h2,h3⟩
 ·refine .inl ⟨?_,h1⟩;rw[eQ];intro dl;obtain⟨p,hp,rfl⟩:=aZj.1 dl;obtain⟨j,hj⟩:=aZ8.1 hp;have:=congrArg (fun l=>l[j]?) h.ents;simp only[aZv,hj,aYj]at this;cases he:es.toList[j]? with
  |none=>simp[he]at this
  |some e=>
   simp only[he,aYj,aYm,Prod.mk.injEq]at this;exact h2 e (aZi he) this.1
 ·obtain⟨p,hp,nu,hpv⟩:=h.get h2
  have:p.1=k:=hk.inj _ _ (by rw[←nu,h3]);subst this;exact .inr ⟨j,p.2,e,hp,h2,h3,hpv,xM h.nodup hp,by rw[h1,hpv]⟩
theorem aR.lookup {es:Array MapEntry} {clock:Nat} {m:List (κ×ν)} (h:aR f g es clock m) (hk:lX P K f) (hT:P.underlying T=some (.map K E))
  {z:Wg} (hz:∀w,(zeroValue E).run P w= .ok z w) (w:We) {b:Nat} (hb:w.heap[b]? =some (.map es clock)) (k:κ) (c:Bool):
  (Instr.lookup T (.map (some b)) (f k) c).run P w=
   .ok (if c then .tuple #[((lkp k m).map g).getD z,.bool (lkp k m).isSome]else((lkp k m).map g).getD z) w:=by
 obtain⟨l,hl⟩:=hk.lit k;rcases h.find hk w k with⟨h1,h2⟩|⟨j,v,e,_,_,_,_,h1,h2⟩
 ·simp[Instr.lookup,run_underlying hT,MapKept.run_getObj_map hb,hk.law.check w _ hl,h2,h1,hz,Result.andThen]
 ·simp[Instr.lookup,run_underlying hT,MapKept.run_getObj_map hb,hk.law.check w _ hl,h2,h1,Result.andThen]
theorem j6 {k:κ} {v:ν} {m:List (κ×ν)} (h:lkp k m=none):put k v m=m++[(k,v)]:=by
 induction m with
 |nil=>rfl
 |cons p r ih=>
  unfold lkp at h;split at h
  ·cases h
  ·rename_i hp;simp[put,hp,ih h]
theorem JQ {k:κ} {v u:ν} {m:List (κ×ν)} (hn:(m.map Prod.fst).Nodup) {j:Nat} (h:m[j]? =some (k,u)):put k v m=m.set j (k,v):=by
 induction m generalizing j with
 |nil=>simp at h
 |cons p r ih=>
  simp only[aZo,aYc]at hn;cases j with
  |zero=>simp at h;subst h;simp[put]
  |succ j=>
   simp only[aW2]at h
   have:p.1≠k:=fun e=>hn.1 (e▸aZj.2 ⟨_,aZi h,rfl⟩);simp[put,this,ih hn.2 h]
theorem P6 {k:κ} {u:ν} {m:List (κ×ν)} (hn:(m.map Prod.fst).Nodup) {j:Nat} (h:m[j]? =some (k,u)):del k m=m.eraseIdx j:=by
 induction m generalizing j with
 |nil=>simp at h
 |cons p r ih=>
  simp only[aZo,aYc]at hn;cases j with
  |zero=>simp at h;subst h;simp[del]
  |succ j=>
   simp only[aW2]at h
   have:p.1≠k:=fun e=>hn.1 (e▸aZj.2 ⟨_,aZi h,rfl⟩);simp[del,this,ih hn.2 h]
theorem GU {k:κ} {m:List (κ×ν)} (h:lkp k m=none):del k m=m:=by
 induction m with
 |nil=>rfl
 |cons p r ih=>
  unfold lkp at h;split at h
  ·cases h
  ·rename_i hp;simp[del,hp,ih h]
theorem aR.update {es:Array MapEntry} {clock:Nat} {m:List (κ×ν)} (h:aR f g es clock m) (hk:lX P K f) (hT:P.underlying T=some (.map K E))
  (w:We) {b:Nat} (hb:w.heap[b]? =some (.map es clock)) (k:κ) (v:ν):
  ∃es' clock',(Instr.mapUpdate T (.map (some b)) (f k) (g v)).run P w= .ok () (setBlock w b (.map es' clock'))∧aR f g es' clock' (put k v m):=by
 obtain⟨l,hl⟩:=hk.lit k;rcases h.find hk w k with⟨h1,h2⟩|⟨j,u,e,hm,he,Is,_,h1,h2⟩
 ·refine⟨es.push {key:=f k,val:=g v,born:=clock},clock+1,?_,?_,fT h.nodup k v,?_,?_⟩
  ·simp[Instr.mapUpdate,run_underlying hT,MapKept.run_getObj_map hb,hk.law.check w _ hl,h2,MapKept.run_setObj_map _ hb,Result.andThen,ChangeMaps.setBlock]
  ·simp[j6 h1,h.ents]
  ·intro e he;simp only[Array.toList_push,aZh,aZm]at he;rcases he with he|rfl
   ·exact Nat.lt_succ_of_lt (h.lt e he)
   ·exact Nat.lt_succ_self _
  ·simp only[Array.toList_push,List.map_append,aZo,aYo];rw[aZ7];refine⟨h.apart,by simp,?_⟩;intro a ha b' el e;simp only[aZm]at el;obtain⟨x,hx,rfl⟩:=aZj.1 ha;have:=h.lt x hx;omega
 ·have hes:es[j]? =some e:=by simpa using he
  have Bm:(es.modify j fun e=> {e with key:=f k,val:=g v}).toList=es.toList.set j {e with key:=f k,val:=g v}:=by
   rw[aWw,iL _ he]
  refine⟨es.modify j fun e=> {e with key:=f k,val:=g v},clock,?_,?_,fT h.nodup k v,?_,?_⟩
  ·simp[Instr.mapUpdate,run_underlying hT,MapKept.run_getObj_map hb,hk.law.check w _ hl,h2,hes,Is,hk.law.stays w hl,MapKept.run_setObj_map _ hb,Result.andThen,ChangeMaps.setBlock]
  ·rw[Bm,JQ h.nodup hm,aX4,aX4,h.ents]
  ·rw[Bm];intro x hx;rcases aXi hx with hx|rfl
   ·exact h.lt x hx
   ·exact h.lt e (aZi he)
  ·rw[Bm,aX4]
   have:(es.toList.map (·.born)).set j e.born=es.toList.map (·.born):=by
    exact set_same (by simp[he])
   rw[show({e with key:=f k,val:=g v}:MapEntry).born=e.born from rfl,this];exact h.apart
theorem aR.delete {es:Array MapEntry} {clock:Nat} {m:List (κ×ν)} (h:aR f g es clock m) (hk:lX P K f) (hT:P.underlying T=some (.map K E)) {ty:Wh}
  (w:We) {b:Nat} (hb:w.heap[b]? =some (.map es clock)) (k:κ):
  ∃es',(Builtin.delete_ #[T,K] ty #[.map (some b),f k]).run P w= .ok (.tuple #[]) (setBlock w b (.map es' clock))∧aR f g es' clock (del k m):=by
 obtain⟨l,hl⟩:=hk.lit k;rcases h.find hk w k with⟨h1,h2⟩|⟨j,u,e,hm,he,Is,_,h1,h2⟩
 ·refine⟨es,?_,?_⟩
  ·simp[Builtin.delete_,run_underlying hT,MapKept.run_getObj_map hb,hk.law.check w _ hl,h2,MapKept.run_setObj_map _ hb,Result.andThen,ChangeMaps.setBlock]
  ·rw[GU h1];exact h
 ·have hjs:j<es.size:=by
   have:=(aZa.1 he).1;simpa using this
  have bd:(es.eraseIdxIfInBounds j).toList=es.toList.eraseIdx j:=by
   unfold Array.eraseIdxIfInBounds;rw[dif_pos hjs];simp
  refine⟨es.eraseIdxIfInBounds j,?_,?_,EK h.nodup k,?_,?_⟩
  ·simp[Builtin.delete_,run_underlying hT,MapKept.run_getObj_map hb,hk.law.check w _ hl,h2,MapKept.run_setObj_map _ hb,Result.andThen,ChangeMaps.setBlock]
  ·rw[bd,P6 h.nodup hm,ChangeMaps.map_eraseIdx,ChangeMaps.map_eraseIdx,h.ents]
  ·rw[bd];intro x hx;exact h.lt x ((List.eraseIdx_sublist _ _).subset hx)
  ·rw[bd];exact h.apart.sublist ((List.eraseIdx_sublist _ _).map _)
theorem aR.lookupD {es:Array MapEntry} {clock:Nat} {m:List (κ×ν)} (h:aR f g es clock m) (hk:lX P K f) (hT:P.underlying T=some (.map K E))
  {z:ν} (hz:∀w,(zeroValue E).run P w= .ok (g z) w) (w:We) {b:Nat} (hb:w.heap[b]? =some (.map es clock)) (k:κ):
  (Instr.lookup T (.map (some b)) (f k) false).run P w= .ok (g ((lkp k m).getD z)) w:=by
 rw[h.lookup hk hT hz w hb k false];cases lkp k m<;>rfl
theorem aR.empty (f:κ→Wg) (g:ν→Wg):aR f g #[] 0 ([]:List (κ×ν)):=⟨rfl,by simp,by simp,by simp⟩
theorem aR.len {es:Array MapEntry} {clock:Nat} {m:List (κ×ν)} (h:aR f g es clock m) (hT:P.underlying T=some (.map K E)) {ty:Wh}
  (w:We) {b:Nat} (hb:w.heap[b]? =some (.map es clock)):
  (Builtin.len_ #[T] ty #[.map (some b)]).run P w= .ok (.int .i64 m.length) w:=by
 simp[Builtin.len_,run_underlying hT,MapKept.run_getObj_map hb,Result.andThen,goInt,h.size]
end
end Go.Proofs.YtblbegbjlaokjaaGreatDoor
namespace Go.Proofs.YtblbegbjlaokjaaGreatDoor
open Go.RowKit
theorem nX {α β:Type} (f:α→Option β) (g:α→β):∀l:List α,(∀x∈l,f x=some (g x))→l.mapM f=some (l.map g)
 |[],_=>rfl
 |x::r,h=>by
  rw[List.mapM_cons,h x (by simp),nX f g r (fun y hy=>h y (aZp _ hy))];rfl
theorem OL (b:Wk):(Lit.int .u8 (b.toNat:Int)).wf=true:=by
 have:=b.toNat_lt;simp[Lit.wf,IntKind.min,IntKind.max,IntKind.bits,IntKind.signed];omega
section
variable {P:Wl} {K E:Wh}
structure gV (P:Wl) (K E:Wh):Prop where
 laid:laidOutB P=true
 row:K<P.types.size
 at2:P.keyTypeAt 2 K=true
 u:P.underlying K=some (.array 32 E)
 e:P.underlying E=some (.int .u8)
 cK:P.cellsOf K=32
 cE:P.cellsOf E=1
 kt:P.keyType K=true
theorem gV.lits (h:gV P K E) (k:aN) (d:Nat):∃l,P.keyLits (d+2) K (kc k).toList=some l:=by
 have hs:(kc k).toList.length=32:=by simp
 have:∀i∈List.range 32,P.keyLits (d+1) E (((kc k).toList.drop (i*P.cellsOf E)).take (P.cellsOf E))=some [Lit.int .u8 ((k.l.getD i 0).toNat:Int)]:=by
  intro i hi;have hi':i<32:=by simpa using hi
  have hl:i<k.l.length:=by rw[k.h];exact hi'
  have h1:((kc k).toList.drop (i*P.cellsOf E)).take (P.cellsOf E)=[bc (k.l.getD i 0)]:=by
   rw[h.cE,aYp];simp only[kc];show((k.l.map bc).drop i).take 1=_;rw[←List.map_drop,←List.map_take,aXr hl];simp only[List.take_succ_cons,List.take_zero,aZo,aYo];rw[aZk,aZb hl];rfl
  rw[h1];unfold Program.keyLits;rw[h.e];simp[bc,OL]
 unfold Program.keyLits;rw[h.u];simp only[hs,h.cK,if_true];rw[nX _ _ _ this];exact⟨_,rfl⟩
theorem gV.keyT (h:gV P K E):lX P K kv where
 law:=Maps.Keyed.of_law (deep_law_laid h.laid (m:=2) (by omega) h.row h.at2 (by rw[h.u]))
 lit k:=by
  obtain⟨n,hn⟩:∃n,P.types.size=n+1:=⟨P.types.size-1,(Nat.sub_add_cancel (aX3 (aYf _) h.row)).symm⟩;obtain⟨l,hl⟩:=h.lits k n;unfold keyOf;rw[h.u];simp only[h.kt,kv,Value.formed,h.u,kc_size,h.cK,aWs,beq_self_eq_true,if_true,Value.cells,hn,hl];exact⟨_,rfl⟩
 inj _ _:=QW
theorem gV.tiled (h:gV P K E):P.tiled 2 K=true:=by
 refine tiled_of_laidOut h.laid 2 K ?_ h.at2;simp only[isVar,aZy,decide_eq_true_eq];refine⟨h.row,?_⟩;rw[h.u];simp[kindOk]
theorem gV.eqIn (h:gV P K E) (d:Nat) (a b:aN) (w:We):(Op.equalIn (d+2) K (.agg (kc a)) (.agg (kc b))).run P w= .ok (decide (a=b)) w:=by
 obtain⟨la,ha⟩:=h.lits a 0;obtain⟨lb,hb⟩:=h.lits b 0;have hf:∀k:aN,(Value.agg (kc k)).formed P K=true:=fun k=>by simp[Value.formed,h.u,h.cK]
 obtain⟨r,hr,Ix⟩:=run_equalIn_deep (P:=P) d 2 K h.at2 w 2 2 (.agg (kc a)) (.agg (kc b)) la lb (hf a) (hf b) ha hb;rw[hr];congr 1;have key:la=lb↔a=b:=by
  constructor
  ·intro e;have h1:=cells_of_lits 2 K h.tiled 2 _ _ ha;have h2:=cells_of_lits 2 K h.tiled 2 _ _ hb;rw[e,←h2]at h1;exact zZ (aZ1.1 h1)
  ·rintro rfl;rw[ha]at hb;exact aZz hb
 rw[aXw,Ix,key,decide_eq_true_eq]
theorem eB (k:aN):(kc k).extract 0 32=kc k:=by
 rw[show(32:Nat)=(kc k).size by simp];exact Array.extract_size
theorem dR (k:aN):(kc k).all (·.oneCell')=true:=by
 rw[aZ5];intro v hv;simp only[kc,List.mem_toArray,aZj]at hv;obtain⟨b,_,rfl⟩:=hv;rfl
theorem jU {xs:Wa} {n:Nat} (hs:xs.size=n) (h:xs.all (·.oneCell')=true):xs.all (·.oneCell') 0 n=true:=by
 subst hs;exact h
theorem cW (k:aN):(kc k).all (·.oneCell') 0 32=true:=jU (kc_size k) (dR k)
def kx (k:aN) (xs:List Wg):Wa:=kc k++xs.toArray
theorem kM (k:aN) (xs:List Wg):(kx k xs).size=32+xs.length:=by simp[kx]
theorem QX (k:aN) (xs:List Wg):(kx k xs).extract 0 32=kc k:=by
 unfold kx;rw[show(32:Nat)=(kc k).size by simp,Array.extract_append_left];exact Array.extract_size
theorem I2 (k:aN) (xs:List Wg) {n:Nat} (h:n=32+xs.length):(kx k xs).extract 0 n=kx k xs:=by
 rw[h,←kM];exact Array.extract_size
theorem qZ (k:aN) (xs:List Wg) (j:Nat):(kx k xs)[32+j]? =xs[j]? :=by
 unfold kx;rw[Array.getElem?_append_right (by simp)];simp
theorem rA (k:aN) (xs:List Wg) (h:xs.all (·.oneCell')=true):(kx k xs).all (·.oneCell')=true:=by
 unfold kx;rw[Array.all_append,dR];simpa using h
theorem VJ (k:aN) (xs:List Wg) (j:Nat) (v:Wg) (hj:xs[j]? =some v) (h:32+j<(kx k xs).size):(kx k xs)[32+j]=v:=by
 have:=qZ k xs j;rw[aYe h,hj]at this;exact aZz this
def rc (k:aN) (s b:Bool):Wa:=kx k [.bool s,.bool b]
theorem kO (k:aN) (s b:Bool):(rc k s b).size=34:=kM k _
theorem vJ (k:aN) (s b:Bool):(rc k s b).extract 0 32=kc k:=QX k _
theorem vI (k:aN) (s b:Bool):(rc k s b).extract 0 34=rc k s b:=I2 k _ rfl
theorem CI (k:aN) (s b:Bool) (h:33<(rc k s b).size):(rc k s b)[33]= .bool b:=VJ k _ 1 _ rfl h
theorem vK (k:aN) (s b:Bool):(rc k s b).all (·.oneCell') 0 34=true:=jU (kO k s b) (rA k _ rfl)
def sc (k:aN) (n:Int):Wa:=kx k [.int .i64 n]
theorem vO (k:aN) (n:Int):(sc k n).size=33:=kM k _
theorem R7 (k:aN) (n:Int):(sc k n).extract 0 33=sc k n:=I2 k _ rfl
theorem R8 (k:aN) (n:Int):(sc k n).all (·.oneCell') 0 33=true:=jU (vO k n) (rA k _ rfl)
def sv (s:aN×Int):Wg:= .agg (sc s.1 s.2)
theorem SM {a b:aN×Int} (h:sv a=sv b):a=b:=by
 simp only[sv,Value.agg.injEq,sc,kx]at h;have h1:=congrArg Array.toList h;simp only[aWi]at h1;obtain⟨h2,h3⟩:=List.append_inj h1 (by simp);obtain⟨a1,a2⟩:=a;obtain⟨b1,b2⟩:=b;have e1:a1=b1:=zZ (by simpa using congrArg List.toArray h2);have e2:a2=b2:=by simpa using h3
 rw[e1,e2]
end
end Go.Proofs.YtblbegbjlaokjaaGreatDoor
namespace Go.Proofs.YtblbegbjlaokjaaGreatDoor
open Go.ChangeMaps (setBlock)
structure LB where
 cells:Wa
 ty:Wh
 tag:Tmp
abbrev Bx:=Nat→Option LB
def Bx.nil:Bx:=fun _=>none
def Bx.set (B:Bx) (p:Nat) (b:LB):Bx:=fun q=>if q=p then some b else B q
def Bx.Fin (B:Bx):Prop:=∃n,∀p,n≤p→B p=none
theorem Bx.nil_fin:Bx.nil.Fin:=⟨0,fun _ _=>rfl⟩
theorem Bx.Fin.set {B:Bx} (h:B.Fin) (p:Nat) (b:LB):(B.set p b).Fin:=by
 obtain⟨n,hn⟩:=h;exact⟨max n (p+1),fun q hq=>by
  unfold Bx.set;rw[if_neg (by omega),hn q (by omega)]⟩
theorem Bx.Fin.fresh {B:Bx} (h:B.Fin) (q:Nat):∃p,B p=none∧p≠q:=by
 obtain⟨n,hn⟩:=h;exact⟨max n (q+1),hn _ (by omega),by omega⟩
theorem Bx.set_comm (B:Bx) {p q:Nat} (h:p≠q) (b c:LB):(B.set p b).set q c=(B.set q c).set p b:=by
 funext r;unfold Bx.set;by_cases h1:r=q
 ·subst h1;simp[Ne.symm h]
 ·simp[h1]
theorem Bx.set_same (B:Bx) (p:Nat) (b:LB):(B.set p b) p=some b:=by simp[Bx.set]
theorem Bx.set_ne (B:Bx) {p q:Nat} (h:q≠p) (b:LB):(B.set p b) q=B q:=by simp[Bx.set,h]
theorem Bx.set_none {B:Bx} {p q:Nat} {b:LB} (h:(B.set p b) q=none):q≠p∧B q=none:=by
 unfold Bx.set at h;split at h
 ·cases h
 ·rename_i aw;exact⟨aw,h⟩
structure lU (w0:We) (B:Bx) (w:We):Prop where
 mod:Mod (fun _=>False) w0 w
 box:∀p b,B p=some b→w0.heap.size≤p∧w.heap[p]? =some (.cells b.cells b.ty (0,0))
theorem lU.start (w:We):lU w Bx.nil w:=⟨Mod.refl _ _,fun _ _ h=>by cases h⟩
theorem lU.none {w0 w:We} {B:Bx} (h:lU w0 B w):B w.heap.size=Option.none:=by
 cases hb:B w.heap.size with
 |none=>rfl
 |some b=>have:=aA (h.box _ _ hb).2;omega
theorem lU.mods {w0 w w':We} {B:Bx} (h:lU w0 B w) (hm:Mod (fun _=>False) w w'):lU w0 B w':=
 ⟨h.mod.trans hm,fun p b hb=>⟨(h.box p b hb).1,hm.at (h.box p b hb).2 (fun x=>x)⟩⟩
theorem lU.alloc {w0 w:We} {B:Bx} (h:lU w0 B w) (z:Wa) (T:Wh) (d:Tmp):
  lU w0 (B.set w.heap.size ⟨z,T,d⟩) (w.alloc (.cells z T)):=by
 refine⟨h.mod.alloc _,fun p b hb=> ?_⟩;unfold Bx.set at hb;split at hb
 ·rename_i hp;subst hp;cases hb;exact⟨h.mod.size,by rw[heap_alloc_new]⟩
 ·have:=h.box p b hb;exact⟨this.1,by rw[heap_alloc_old w _ (aA this.2)];exact this.2⟩
theorem lU.store {w0 w:We} {B:Bx} (h:lU w0 B w) {p:Nat} {b:LB} (hb:B p=some b) (cs:Wa):
  lU w0 (B.set p {b with cells:=cs}) (setBlock w p (.cells cs b.ty (0,0))):=by
 have hp:=h.box p b hb;refine⟨h.mod.setBlock _ (fun hlt=>absurd hlt (Nat.not_lt.2 hp.1)),fun q c hc=> ?_⟩;unfold Bx.set at hc;split at hc
 ·rename_i hq;subst hq;cases hc;exact⟨hp.1,aF w _ (aA hp.2)⟩
 ·rename_i hq;have:=h.box q c hc;exact⟨this.1,by rw[dA w _ hq];exact this.2⟩
theorem lU.free {w0 w:We} {B:Bx} (h:lU w0 B w) {p:Nat} (hp:w.heap.size≤p):B p=Option.none:=by
 cases hb:B p with
 |none=>rfl
 |some b=>have:=aA (h.box _ _ hb).2;omega
theorem lU.cbox {w0 w w':We} {B:Bx} (h:lU w0 B w) (hm:Mod (fun _=>False) w w') {p:Nat} {z:Wa} {T:Wh} (d:Tmp) (hp:w.heap.size≤p) (hk:w'.heap[p]? =some (.cells z T (0,0))):lU w0 (B.set p ⟨z,T,d⟩) w':=by
 refine⟨h.mod.trans hm,fun q b hb=> ?_⟩;unfold Bx.set at hb;split at hb
 ·rename_i hq;subst hq;cases hb;exact⟨aYb h.mod.size hp,hk⟩
 ·have:=h.box q b hb;exact⟨this.1,hm.at this.2 (fun x=>x)⟩
theorem OQ (w:We):∀n:Nat,∃w',Mod (fun _=>False) w w'∧w.heap.size+n≤w'.heap.size
 |0=>⟨w,Mod.refl _ _,aZq _⟩
 |n+1=>by
  obtain⟨w',hm,hs⟩:=OQ w n;exact⟨_,hm.alloc (.cells #[] 0),by have:=aA (heap_alloc_new w' (.cells #[] 0));omega⟩
section
variable (P:Wl) (ops:Array Oper) (Q:Exit→Act→We→Prop) (S:We→Prop) (C:Wn→Wa→Wg→Prop) (w0:We) (κ:Nat→Nat)
def LR (f:Wn) (args:Wa):Prop:=
 ∀w,S w→Calls P f args w fun e w'=>∃v,e= .returned v∧C f args v∧Mod (fun _=>False) w w'
def AW (f:Wn) (args:Wa):Prop:=
 ∀w,S w→Calls P f args w fun e w'=>∃(v:Wg) (p:Nat) (z:Wa) (T:Wh),e= .returned v∧C f #[.tuple args,.agg z,.int .i64 (p:Int)] v∧w.heap.size≤p∧w'.heap[p]? =some (.cells z T (0,0))∧Mod (fun _=>False) w w'
def wD (k:Nat) (o:Oper) (a:Act):Prop:=
 (k=0∧∃v,YieldsIf P ops (fun _=>True) o v a)∨(k=1∧∃v,YieldsIf P ops S o v a)∨
 (k=2∧∃f args,Region.wanted o (yielded ops a.tmps)=true∧(∀w,(execOp a.eval o).run P w= .ok (.enter f args) w)∧LR P S C f args)
def jQ (k:Nat) (o:Oper) (a:Act) (v:Wg):Prop:=
 (k=0∧YieldsIf P ops (fun _=>True) o v a)∨(k=1∧YieldsIf P ops S o v a)∨
 (k=2∧∃f args,Region.wanted o (yielded ops a.tmps)=true∧(∀w,(execOp a.eval o).run P w= .ok (.enter f args) w)∧LR P S C f args∧C f args v)
inductive TE:Wd→Act→We→Prop
 |nil {a:Act} {w:We}:Q .normal a w→TE [] a w
 |val {i:Nat} {r:Wd} {o:Oper} {a:Act} {w:We} {v:Wg}:ops[i]? =some o→YieldsIf P ops (fun _=>True) o v a→TE r (a.put o.dst v) w→TE (i::r) a w
 |eff {i:Nat} {r:Wd} {o:Oper} {a:Act} {w:We} (R:Act→We→Prop):ops[i]? =some o→κ i=6→wpOp P ops Q i R a w→(∀a' w',R a' w'→TE r a' w')→TE (i::r) a w
inductive TD:Wd→Act→Bx→Prop
 |nil {a:Act} {B:Bx}:(∀w',lU w0 B w'→Q .normal a w')→TD [] a B
 |neu {i:Nat} {r:Wd} {o:Oper} {a:Act} {B:Bx}:ops[i]? =some o→κ i≤2→wD P ops S C (κ i) o a→
   (∀v,jQ P ops S C (κ i) o a v→TD r (a.put o.dst v) B)→TD (i::r) a B
 |alloc {i:Nat} {r:Wd} {o:Oper} {a:Act} {B:Bx} {d:Tmp} {T:Wh} {z:Wa} (V:Nat→Wg):ops[i]? =some o→κ i=3→
   Region.wanted o (yielded ops a.tmps)=true→o.dst=some d→
   (∀w,(execOp a.eval o).run P w= .ok (.value (V w.heap.size)) (w.alloc (.cells z T)))→
   (∀p,B p=none→TD r (a.put o.dst (V p)) (B.set p ⟨z,T,d⟩))→TD (i::r) a B
 |store {i:Nat} {r:Wd} {o:Oper} {a:Act} {B:Bx} {d:Tmp} {T:Wh} {y:Wm} {p:Nat} {b:LB}:ops[i]? =some o→κ i=4→
   Region.wanted o (yielded ops a.tmps)=true→o.dst=none→o.op= .store T (.tmp d) y→a.eval (.tmp d)= .pointer (some ⟨p,0,none⟩)→B p=some b→b.tag=d→
   (∀w,w.heap[p]? =some (.cells b.cells b.ty (0,0))→(execOp a.eval o).run P w= .ok .skip (setBlock w p (.cells (a.eval y).cells b.ty (0,0))))→
   TD r a (B.set p {b with cells:=(a.eval y).cells})→TD (i::r) a B
 |cbox {i:Nat} {r:Wd} {o:Oper} {a:Act} {B:Bx} {d:Tmp} {f:Wn} {args:Wa}:ops[i]? =some o→κ i=7→Region.wanted o (yielded ops a.tmps)=true→o.dst=some d→
   (∀w,(execOp a.eval o).run P w= .ok (.enter f args) w)→AW P S C f args→
   (∀(v:Wg) (p:Nat) (z:Wa) (T:Wh),C f #[.tuple args,.agg z,.int .i64 (p:Int)] v→B p=none→TD r (a.put o.dst v) (B.set p ⟨z,T,d⟩))→TD (i::r) a B
 |eff {i:Nat} {r:Wd} {o:Oper} {a:Act} {B:Bx}:ops[i]? =some o→κ i=5→
   (∀w',lU w0 B w'→wpOp P ops Q i (fun a' w''=>TE P ops Q κ r a' w'') a w')→TD (i::r) a B
end
section
variable {P:Wl} {ops:Array Oper} {Q:Exit→Act→We→Prop} {S:We→Prop} {C:Wn→Wa→Wg→Prop} {w0:We} {κ:Nat→Nat}
theorem jQ.pre {k:Nat} {o:Oper} {a:Act} {v:Wg} (h:jQ P ops S C k o a v):wD P ops S C k o a:=by
 rcases h with⟨hk,h⟩|⟨hk,h⟩|⟨hk,f,args,h1,h2,h3,_⟩
 ·exact .inl ⟨hk,v,h⟩
 ·exact .inr (.inl ⟨hk,v,h⟩)
 ·exact .inr (.inr ⟨hk,f,args,h1,h2,h3⟩)
theorem wD.step {k:Nat} {o:Oper} {a:Act} (hS:S w0) (h:wD P ops S C k o a):∃v,jQ P ops S C k o a v:=by
 rcases h with⟨hk,v,h⟩|⟨hk,v,h⟩|⟨hk,f,args,h1,h2,h3⟩
 ·exact⟨v,.inl ⟨hk,h⟩⟩
 ·exact⟨v,.inr (.inl ⟨hk,h⟩)⟩
 ·obtain⟨e,w',fr,⟨v,_,hv,_⟩,_⟩:=h3 w0 hS [];exact⟨v,.inr (.inr ⟨hk,f,args,h1,h2,h3,hv⟩)⟩
theorem wD.same {k:Nat} {o:Oper} {a a':Act} (he:execOp a'.eval o=execOp a.eval o)
  (hw:Region.wanted o (yielded ops a'.tmps)=Region.wanted o (yielded ops a.tmps)) (h:wD P ops S C k o a):wD P ops S C k o a':=by
 rcases h with⟨hk,v,h⟩|⟨hk,v,h⟩|⟨hk,f,args,h1,h2,h3⟩
 ·exact .inl ⟨hk,v,h.of_same he hw⟩
 ·exact .inr (.inl ⟨hk,v,h.of_same he hw⟩)
 ·exact .inr (.inr ⟨hk,f,args,by rw[hw];exact h1,by rw[he];exact h2,h3⟩)
theorem jQ.same {k:Nat} {o:Oper} {a a':Act} {v:Wg} (he:execOp a'.eval o=execOp a.eval o)
  (hw:Region.wanted o (yielded ops a'.tmps)=Region.wanted o (yielded ops a.tmps)) (h:jQ P ops S C k o a v):jQ P ops S C k o a' v:=by
 rcases h with⟨hk,h⟩|⟨hk,h⟩|⟨hk,f,args,h1,h2,h3⟩
 ·exact .inl ⟨hk,h.of_same he hw⟩
 ·exact .inr (.inl ⟨hk,h.of_same he hw⟩)
 ·exact .inr (.inr ⟨hk,f,args,by rw[hw];exact h1,by rw[he];exact h2,h3⟩)
theorem TD.inv_neu {i:Nat} {r:Wd} {a:Act} {B:Bx} (h:TD P ops Q S C w0 κ (i::r) a B) (hk:κ i≤2) {o:Oper} (ho:ops[i]? =some o):
  wD P ops S C (κ i) o a∧∀v,jQ P ops S C (κ i) o a v→TD P ops Q S C w0 κ r (a.put o.dst v) B:=by
 cases h with
 |neu ho' _ h1 h2=>rw[ho]at ho';cases ho';exact⟨h1,h2⟩
 |alloc _ _ cu=>omega
 |store _ cu=>omega
 |eff _ cu=>omega
 |cbox _ cu=>omega
theorem TD.inv_alloc {i:Nat} {r:Wd} {a:Act} {B:Bx} (h:TD P ops Q S C w0 κ (i::r) a B) (hk:κ i=3) {o:Oper} (ho:ops[i]? =some o):
  Region.wanted o (yielded ops a.tmps)=true∧∃(d:Tmp) (T:Wh) (z:Wa) (V:Nat→Wg),o.dst=some d∧
   (∀w,(execOp a.eval o).run P w= .ok (.value (V w.heap.size)) (w.alloc (.cells z T)))∧
   ∀p,B p=none→TD P ops Q S C w0 κ r (a.put o.dst (V p)) (B.set p ⟨z,T,d⟩):=by
 cases h with
 |neu _ cu=>omega
 |alloc V ho' _ h1 h2 h3 h4=>rw[ho]at ho';cases ho';exact⟨h1,_,_,_,V,h2,h3,h4⟩
 |store _ cu=>omega
 |eff _ cu=>omega
 |cbox _ cu=>omega
theorem TD.inv_store {i:Nat} {r:Wd} {a:Act} {B:Bx} (h:TD P ops Q S C w0 κ (i::r) a B) (hk:κ i=4) {o:Oper} (ho:ops[i]? =some o):
  Region.wanted o (yielded ops a.tmps)=true∧o.dst=none∧∃d T y p b,o.op= .store T (.tmp d) y∧a.eval (.tmp d)= .pointer (some ⟨p,0,none⟩)∧B p=some b∧b.tag=d∧
   (∀w,w.heap[p]? =some (.cells b.cells b.ty (0,0))→(execOp a.eval o).run P w= .ok .skip (setBlock w p (.cells (a.eval y).cells b.ty (0,0))))∧
   TD P ops Q S C w0 κ r a (B.set p {b with cells:=(a.eval y).cells}):=by
 cases h with
 |neu _ cu=>omega
 |alloc _ _ cu=>omega
 |store ho' _ h1 h2 h3 h4 h5 h6 h7 h8=>rw[ho]at ho';cases ho';exact⟨h1,h2,_,_,_,_,_,h3,h4,h5,h6,h7,h8⟩
 |eff _ cu=>omega
 |cbox _ cu=>omega
theorem TD.inv_eff {i:Nat} {r:Wd} {a:Act} {B:Bx} (h:TD P ops Q S C w0 κ (i::r) a B) (hk:κ i=5):
  ∀w',lU w0 B w'→wpOp P ops Q i (fun a' w''=>TE P ops Q κ r a' w'') a w':=by
 cases h with
 |neu _ cu=>omega
 |alloc _ _ cu=>omega
 |store _ cu=>omega
 |eff _ _ h=>exact h
 |cbox _ cu=>omega
theorem TD.inv_cbox {i:Nat} {r:Wd} {a:Act} {B:Bx} (h:TD P ops Q S C w0 κ (i::r) a B) (hk:κ i=7) {o:Oper} (ho:ops[i]? =some o):
  Region.wanted o (yielded ops a.tmps)=true∧∃(d:Tmp) (f:Wn) (args:Wa),o.dst=some d∧(∀w,(execOp a.eval o).run P w= .ok (.enter f args) w)∧AW P S C f args∧
   ∀(v:Wg) (p:Nat) (z:Wa) (T:Wh),C f #[.tuple args,.agg z,.int .i64 (p:Int)] v→B p=none→TD P ops Q S C w0 κ r (a.put o.dst v) (B.set p ⟨z,T,d⟩):=by
 cases h with
 |neu _ cu=>omega
 |alloc _ _ cu=>omega
 |store _ cu=>omega
 |eff _ cu=>omega
 |cbox ho' _ h1 h2 h3 h4 h5=>rw[ho]at ho';cases ho';exact⟨h1,_,_,_,h2,h3,h4,h5⟩
theorem AW.some (kj:∀w',Mod (fun _=>False) w0 w'→S w') {f:Wn} {args:Wa} (h:AW P S C f args) {B:Bx} (hB:B.Fin) (q:Nat):
  ∃(v:Wg) (p:Nat) (z:Wa),C f #[.tuple args,.agg z,.int .i64 (p:Int)] v∧B p=none∧p≠q:=by
 obtain⟨n,hn⟩:=hB;obtain⟨w,hm,hs⟩:=OQ w0 (n+q+1);obtain⟨e,w',fr,⟨v,p,z,T,_,hC,hp,_⟩,_⟩:=h w (kj w hm) [];exact⟨v,p,z,hC,hn p (by omega),by omega⟩
theorem sW {s:Sem Next} {f f':Wn} {args args':Wa} (w0:We) (h:∀w,s.run P w= .ok (.enter f args) w) (h':∀w,s.run P w= .ok (.enter f' args') w):f=f'∧args=args':=by
 have:=(h w0).symm.trans (h' w0);simp only[Result.ok.injEq,Next.enter.injEq,and_true]at this;exact this
theorem TD.kinds {i:Nat} {r:Wd} {a:Act} {B:Bx} (h:TD P ops Q S C w0 κ (i::r) a B):κ i≤2∨κ i=3∨κ i=4∨κ i=5∨κ i=7:=by
 cases h<;>omega
theorem vX {P:Wl} {s:Sem Next} {z:Wa} {T:Wh} {z':Wa} {T':Wh} {V V':Nat→Wg} (h:∀w:We,s.run P w= .ok (.value (V w.heap.size)) (w.alloc (.cells z T))) (h':∀w:We,s.run P w= .ok (.value (V' w.heap.size)) (w.alloc (.cells z' T'))):V=V':=by
 funext p;have h1:=h {(default:We)with heap:=Array.replicate p default};have h2:=h' {(default:We)with heap:=Array.replicate p default};rw[h1]at h2;simp only[Array.size_replicate,Result.ok.injEq,Next.value.injEq]at h2;exact h2.1
theorem nI {w:We} {z z':Wa} {T T':Wh} (h:w.alloc (.cells z T)=w.alloc (.cells z' T')):z=z'∧T=T':=by
 have h1:w.heap.push (.cells z T)=w.heap.push (.cells z' T'):=congrArg World.heap h;have h2:=congrArg (fun h:Array Obj=>h[w.heap.size]?) h1;simpa using h2
def dT (kx ko:Nat) (ox oo:Oper):Bool:=
 match kx,ko with
 |0,5=>true
 |2,2=>false
 |2,7=>false
 |7,2=>false
 |7,7=>false
 |7,5=>false
 |4,4=>match ox.op,oo.op with
  | .store _ (.tmp d) _,.store _ (.tmp e) _=>d !=e
  |_,_=>false
 |x,o=>(decide (x≤4)||x==7)&&(decide (o≤4)||o==7)
section swap
variable {x o:Nat} {r:Wd} {a:Act} {B:Bx} {ox oo:Oper}
theorem TD.swap (hsel:∀(j:Nat) (p:Oper) cs b,ops[j]? =some p→p.op≠ .select cs b) (hQ:∀c a d v w,Q (.panic c) (Act.put a d v) w→Q (.panic c) a w)
  (hS:S w0) (kj:∀w',Mod (fun _=>False) w0 w'→S w') (hB:B.Fin) (hx:ops[x]? =some ox) (ho:ops[o]? =some oo) (az:ox.apart ops oo=true) (hk:dT (κ x) (κ o) ox oo=true)
  (h:TD P ops Q S C w0 κ (x::o::r) a B):TD P ops Q S C w0 κ (o::x::r) a B:=by
 obtain⟨h1,h2,h3⟩:=Oper.apart_spec az;have eo:∀(a:Act) v,execOp (a.put ox.dst v).eval oo=execOp a.eval oo:=fun a v=>execOp_put oo (fun cs b=>hsel o oo cs b ho) a ox.dst v h1;have wo:∀(a:Act) v,Region.wanted oo (yielded ops (a.put ox.dst v).tmps)=Region.wanted oo (yielded ops a.tmps):=fun a v=>wanted_put oo a ox.dst v h1;have ex:∀(a:Act) v,execOp (a.put oo.dst v).eval ox=execOp a.eval ox:=fun a v=>execOp_put ox (fun cs b=>hsel x ox cs b hx) a oo.dst v h3;have wx:∀(a:Act) v,Region.wanted ox (yielded ops (a.put oo.dst v).tmps)=Region.wanted ox (yielded ops a.tmps):=fun a v=>wanted_put ox a oo.dst v h3;have pc:∀(a:Act) u v,(a.put ox.dst u).put oo.dst v=(a.put oo.dst v).put ox.dst u:=fun a u v=>Act.put_comm a u v h2;have evx:∀(a:Act) v (y:Tmp),y∈ox.looksAt ops→(a.put oo.dst v).eval (.tmp y)=a.eval (.tmp y):=fun a v y hy=>Act.eval_put (fun d hd e=>h3 d hd (by cases e;exact hy));have evo:∀(a:Act) v (y:Tmp),y∈oo.looksAt ops→(a.put ox.dst v).eval (.tmp y)=a.eval (.tmp y):=fun a v y hy=>Act.eval_put (fun d hd e=>h1 d hd (by cases e;exact hy));have evx':∀(a:Act) v (y:Wm),y∈ox.op.operands→(a.put oo.dst v).eval y=a.eval y:=fun a v y hy=>Act.eval_put (fun d hd e=>h3 d hd (by
  subst e;exact aZl _ (List.mem_filterMap.2 ⟨.tmp d,by simpa using hy,rfl⟩)))
 have evo':∀(a:Act) v (y:Wm),y∈oo.op.operands→(a.put ox.dst v).eval y=a.eval y:=fun a v y hy=>Act.eval_put (fun d hd e=>h1 d hd (by
  subst e;exact aZl _ (List.mem_filterMap.2 ⟨.tmp d,by simpa using hy,rfl⟩)))
 rcases h.kinds with kx|kx|kx|kx|kx
 ·--x is neutral
  obtain⟨px,gy⟩:=h.inv_neu kx hx;obtain⟨v0,ik⟩:=px.step hS;rcases(gy v0 ik).kinds with ko|ko|ko|ko|ko
  ·obtain⟨po,_⟩:=(gy v0 ik).inv_neu ko ho;refine .neu ho ko (po.same (eo a v0).symm (wo a v0).symm) fun v hv=> ?_;refine .neu hx kx (px.same (ex a v) (wx a v)) fun u hu=> ?_;have og:jQ P ops S C (κ x) ox a u:=hu.same (ex a v).symm (wx a v).symm;rw[←pc];exact((gy u og).inv_neu ko ho).2 v (hv.same (eo a u) (wo a u))
  ·obtain⟨w1,d,T,z,V,hd,hr,_⟩:=(gy v0 ik).inv_alloc ko ho;rw[wo]at w1;rw[eo]at hr;refine .alloc V ho ko w1 hd hr fun p hp=> ?_;refine .neu hx kx (px.same (ex a _) (wx a _)) fun u hu=> ?_;have og:jQ P ops S C (κ x) ox a u:=hu.same (ex a _).symm (wx a _).symm;obtain⟨_,d',T',z',V',py,lj,ht⟩:=(gy u og).inv_alloc ko ho;rw[eo]at lj;obtain rfl:=vX hr lj;have:=(hr w0).symm.trans (lj w0);simp only[Result.ok.injEq,true_and]at this;obtain⟨rfl,rfl⟩:=nI this;rw[hd]at py;cases py;rw[←pc];exact ht p hp
  ·obtain⟨w1,hd,d,T,y,p,b,aj,du,hb,bu,hr,_⟩:=(gy v0 ik).inv_store ko ho;rw[wo]at w1;rw[eo]at hr;rw[evo' a v0 _ (by simp[aj,Op.operands])]at du;rw[evo' a v0 _ (by simp[aj,Op.operands])]at hr;refine .store ho ko w1 hd aj du hb bu hr ?_;refine .neu hx kx px fun u hu=> ?_;obtain⟨_,_,d',T',y',p',b',jq,gd,el,wu,lj,ht⟩:=(gy u hu).inv_store ko ho;rw[aj]at jq;cases jq;rw[evo' a u _ (by simp[aj,Op.operands]),du]at gd;simp only[Value.pointer.injEq,aYm,Addr.mk.injEq,and_true]at gd;subst gd;rw[hb]at el;cases el;rw[evo' a u _ (by simp[aj,Op.operands])]at ht;exact ht
  ·have kx0:κ x=0:=by
    rw[ko]at hk;unfold dT at hk;split at hk<;>simp_all
   have:∀w',lU w0 B w'→wpOp P ops Q o (fun a' w''=>TE P ops Q κ (x::r) a' w'') a w':=fun w' vk=>by
    obtain⟨v1,jv⟩:∃v,YieldsIf P ops (fun _=>True) ox v a:=by
     rcases px with⟨_,hv⟩|⟨cu,_⟩|⟨cu,_⟩
     ·exact hv
     ·omega
     ·omega
    have hE:=(gy v1 (.inl ⟨kx0,jv⟩)).inv_eff ko w' vk;exact wpOp_mono (fun a' w'' hh=> .val hx hh.1 hh.2) (wpOp_putIf ho az (fun cs b=>hsel x ox cs b hx) (fun cs b=>hsel o oo cs b ho) (fun c a w=>hQ c a _ _ w) jv hE)
   exact .eff ho ko this
  ·obtain⟨w1,d,f,args,hd,bi,ff,_⟩:=(gy v0 ik).inv_cbox ko ho;rw[wo]at w1;rw[eo]at bi;refine .cbox ho ko w1 hd bi ff fun v p z T hC hp=> ?_;refine .neu hx kx (px.same (ex a _) (wx a _)) fun u hu=> ?_;have og:jQ P ops S C (κ x) ox a u:=hu.same (ex a _).symm (wx a _).symm;obtain⟨_,d',f',args',py,sz,_,ht⟩:=(gy u og).inv_cbox ko ho;rw[eo]at sz;obtain⟨rfl,rfl⟩:=sW w0 bi sz;rw[hd]at py;cases py;rw[←pc];exact ht v p z T hC hp
 ·--x is a new box
  obtain⟨w1,d,T,z,V,hd,hr,ht⟩:=h.inv_alloc kx hx;obtain⟨p0,jl,_⟩:=hB.fresh 0;rcases(ht p0 jl).kinds with ko|ko|ko|ko|ko
  ·obtain⟨po,_⟩:=(ht p0 jl).inv_neu ko ho;refine .neu ho ko (po.same (eo a _).symm (wo a _).symm) fun v hv=> ?_;refine .alloc V hx kx (by rw[wx];exact w1) hd (by rw[ex];exact hr) fun p hp=> ?_;rw[←pc];exact((ht p hp).inv_neu ko ho).2 v (hv.same (eo a _) (wo a _))
  ·obtain⟨w2,d2,T2,z2,V2,cm,di,_⟩:=(ht p0 jl).inv_alloc ko ho;rw[wo]at w2;rw[eo]at di;refine .alloc V2 ho ko w2 cm di fun p2 ce=> ?_;refine .alloc V hx kx (by rw[wx];exact w1) hd (by rw[ex];exact hr) fun p1 fx=> ?_;obtain⟨aw,vd⟩:=Bx.set_none fx;obtain⟨_,d',T',z',V',py,lj,gp⟩:=(ht p1 vd).inv_alloc ko ho;rw[eo]at lj;obtain rfl:=vX di lj;have:=(di w0).symm.trans (lj w0);simp only[Result.ok.injEq,true_and]at this;obtain⟨rfl,rfl⟩:=nI this;rw[cm]at py;cases py;rw[←pc,Bx.set_comm _ (Ne.symm aw)];exact gp p2 (by rw[Bx.set_ne _ (Ne.symm aw)];exact ce)
  ·obtain⟨_,_,d0,_,_,q0,_,df,jn,_⟩:=(ht p0 jl).inv_store ko ho;obtain⟨p1,fx,Ji⟩:=hB.fresh q0;obtain⟨w2,cm,d2,T2,y,p,b,aj,du,hb,bu,di,_⟩:=(ht p1 fx).inv_store ko ho;rw[df]at aj;cases aj;rw[evo' a _ _ (by simp[df,Op.operands])]at du jn;rw[jn]at du;simp only[Value.pointer.injEq,aYm,Addr.mk.injEq,and_true]at du;subst du;rw[Bx.set_ne _ (Ne.symm Ji)]at hb;rw[wo]at w2;rw[eo,evo' a _ _ (by simp[df,Op.operands])]at di;refine .store ho ko w2 cm df jn hb bu di ?_;refine .alloc V hx kx w1 hd hr fun p2 ce=> ?_;obtain⟨aw,su⟩:=Bx.set_none ce;obtain⟨_,_,d',T',y',p',b',jq,gd,el,wu,lj,gp⟩:=(ht p2 su).inv_store ko ho;rw[df]at jq;cases jq;rw[evo' a _ _ (by simp[df,Op.operands]),jn]at gd;simp only[Value.pointer.injEq,aYm,Addr.mk.injEq,and_true]at gd;subst gd;rw[Bx.set_ne _ (Ne.symm aw),hb]at el;cases el;rw[evo' a _ _ (by simp[df,Op.operands])]at gp;rw[Bx.set_comm _ (Ne.symm aw)];exact gp
  ·rw[kx,ko]at hk;simp[dT]at hk
  ·obtain⟨w2,d2,f,args,cm,bi,ff,_⟩:=(ht p0 jl).inv_cbox ko ho;rw[wo]at w2;rw[eo]at bi;refine .cbox ho ko w2 cm bi ff fun v p2 z2 T2 hC ce=> ?_;refine .alloc V hx kx (by rw[wx];exact w1) hd (by rw[ex];exact hr) fun p1 fx=> ?_;obtain⟨aw,vd⟩:=Bx.set_none fx;obtain⟨_,d',f',args',py,sz,_,gp⟩:=(ht p1 vd).inv_cbox ko ho;rw[eo]at sz;obtain⟨rfl,rfl⟩:=sW w0 bi sz;rw[cm]at py;cases py;rw[←pc,Bx.set_comm _ (Ne.symm aw)];exact gp v p2 z2 T2 hC (by rw[Bx.set_ne _ (Ne.symm aw)];exact ce)
 ·--x is a store into a new box
  obtain⟨w1,hd,d,T,y,p,b,aj,du,hb,bu,hr,ht⟩:=h.inv_store kx hx;rcases ht.kinds with ko|ko|ko|ko|ko
  ·obtain⟨po,gp⟩:=ht.inv_neu ko ho;refine .neu ho ko po fun v hv=> ?_;refine .store (b:=b) hx kx (by rw[wx];exact w1) hd aj (by rw[evx' a _ _ (by simp[aj,Op.operands])];exact du) hb bu
    (by rw[ex,evx' a _ _ (by simp[aj,Op.operands])];exact hr) ?_
   rw[evx' a _ _ (by simp[aj,Op.operands])];exact gp v hv
  ·obtain⟨w2,d2,T2,z2,V2,cm,di,gp⟩:=ht.inv_alloc ko ho;refine .alloc V2 ho ko w2 cm di fun p2 ce=> ?_;have aw:p2≠p:=fun e=>by rw[e,hb]at ce;cases ce
   refine .store (b:=b) hx kx (by rw[wx];exact w1) hd aj (by rw[evx' a _ _ (by simp[aj,Op.operands])];exact du) (by rw[Bx.set_ne _ (Ne.symm aw)];exact hb) bu
    (by rw[ex,evx' a _ _ (by simp[aj,Op.operands])];exact hr) ?_
   rw[evx' a _ _ (by simp[aj,Op.operands]),Bx.set_comm _ aw];exact gp p2 (by rw[Bx.set_ne _ aw];exact ce)
  ·obtain⟨w2,cm,d2,T2,y2,p2,b2,ki,uw,cq,ld,di,gp⟩:=ht.inv_store ko ho;have aw:d≠d2:=by
    rw[kx,ko]at hk;simpa[dT,aj,ki] using hk
   have Cm:p2≠p:=fun e=>by
    subst e;rw[Bx.set_same]at cq;cases cq;exact aw (bu.symm.trans ld)
   rw[Bx.set_ne _ Cm]at cq;refine .store (b:=b2) ho ko w2 cm ki uw cq ld di ?_;refine .store (b:=b) hx kx w1 hd aj du (by rw[Bx.set_ne _ (Ne.symm Cm)];exact hb) bu hr ?_;rw[Bx.set_comm _ Cm];exact gp
  ·rw[kx,ko]at hk;simp[dT]at hk
  ·obtain⟨w2,d2,f,args,cm,bi,ff,gp⟩:=ht.inv_cbox ko ho;refine .cbox ho ko w2 cm bi ff fun v p2 z2 T2 hC ce=> ?_;have aw:p2≠p:=fun e=>by rw[e,hb]at ce;cases ce
   refine .store (b:=b) hx kx (by rw[wx];exact w1) hd aj (by rw[evx' a _ _ (by simp[aj,Op.operands])];exact du) (by rw[Bx.set_ne _ (Ne.symm aw)];exact hb) bu
    (by rw[ex,evx' a _ _ (by simp[aj,Op.operands])];exact hr) ?_
   rw[evx' a _ _ (by simp[aj,Op.operands]),Bx.set_comm _ aw];exact gp v p2 z2 T2 hC (by rw[Bx.set_ne _ aw];exact ce)
 ·--x is the effect
  rw[kx]at hk;unfold dT at hk;split at hk<;>simp_all
 ·--x is a call with a box
  obtain⟨w1,d,f,args,hd,bi,ff,ht⟩:=h.inv_cbox kx hx;obtain⟨v0,p0,z0,Va,jl,_⟩:=ff.some kj hB 0;rcases(ht v0 p0 z0 0 Va jl).kinds with ko|ko|ko|ko|ko
  ·obtain⟨po,_⟩:=(ht v0 p0 z0 0 Va jl).inv_neu ko ho;refine .neu ho ko (po.same (eo a _).symm (wo a _).symm) fun v hv=> ?_;refine .cbox hx kx (by rw[wx];exact w1) hd (by rw[ex];exact bi) ff fun u p z T hC hp=> ?_;rw[←pc];exact((ht u p z T hC hp).inv_neu ko ho).2 v (hv.same (eo a _) (wo a _))
  ·obtain⟨w2,d2,T2,z2,V2,cm,di,_⟩:=(ht v0 p0 z0 0 Va jl).inv_alloc ko ho;rw[wo]at w2;rw[eo]at di;refine .alloc V2 ho ko w2 cm di fun p2 ce=> ?_;refine .cbox hx kx (by rw[wx];exact w1) hd (by rw[ex];exact bi) ff fun u p1 z T hC fx=> ?_;obtain⟨aw,vd⟩:=Bx.set_none fx;obtain⟨_,d',T',z',V',py,lj,gp⟩:=(ht u p1 z T hC vd).inv_alloc ko ho;rw[eo]at lj;obtain rfl:=vX di lj;have:=(di w0).symm.trans (lj w0);simp only[Result.ok.injEq,true_and]at this;obtain⟨rfl,rfl⟩:=nI this;rw[cm]at py;cases py;rw[←pc,Bx.set_comm _ (Ne.symm aw)];exact gp p2 (by rw[Bx.set_ne _ (Ne.symm aw)];exact ce)
  ·obtain⟨_,_,d0,_,_,q0,_,df,jn,_⟩:=(ht v0 p0 z0 0 Va jl).inv_store ko ho;obtain⟨v1,p1,z1,Vb,fx,Ji⟩:=ff.some kj hB q0;obtain⟨w2,cm,d2,T2,y,p,b,aj,du,hb,bu,di,_⟩:=(ht v1 p1 z1 0 Vb fx).inv_store ko ho;rw[df]at aj;cases aj;rw[evo' a _ _ (by simp[df,Op.operands])]at du jn;rw[jn]at du;simp only[Value.pointer.injEq,aYm,Addr.mk.injEq,and_true]at du;subst du;rw[Bx.set_ne _ (Ne.symm Ji)]at hb;rw[wo]at w2;rw[eo,evo' a _ _ (by simp[df,Op.operands])]at di;refine .store ho ko w2 cm df jn hb bu di ?_;refine .cbox hx kx w1 hd bi ff fun u p2 z T hC ce=> ?_;obtain⟨aw,su⟩:=Bx.set_none ce;obtain⟨_,_,d',T',y',p',b',jq,gd,el,wu,lj,gp⟩:=(ht u p2 z T hC su).inv_store ko ho;rw[df]at jq;cases jq;rw[evo' a _ _ (by simp[df,Op.operands]),jn]at gd;simp only[Value.pointer.injEq,aYm,Addr.mk.injEq,and_true]at gd;subst gd;rw[Bx.set_ne _ (Ne.symm aw),hb]at el;cases el;rw[evo' a _ _ (by simp[df,Op.operands])]at gp;rw[Bx.set_comm _ (Ne.symm aw)];exact gp
  ·rw[kx,ko]at hk;simp[dT]at hk
  ·rw[kx,ko]at hk;simp[dT]at hk
end swap
theorem TD.front (hsel:∀(j:Nat) (p:Oper) cs b,ops[j]? =some p→p.op≠ .select cs b) (hQ:∀c a d v w,Q (.panic c) (Act.put a d v) w→Q (.panic c) a w)
  (hS:S w0) (kj:∀w',Mod (fun _=>False) w0 w'→S w') {o:Nat} {oo:Oper} (ho:ops[o]? =some oo) {post:Wd}:∀(pre:Wd) (a:Act) (B:Bx),B.Fin→
   (∀x∈pre,∃ox,ops[x]? =some ox∧ox.apart ops oo=true∧dT (κ x) (κ o) ox oo=true)→
   TD P ops Q S C w0 κ (pre++o::post) a B→TD P ops Q S C w0 κ (o::(pre++post)) a B
 |[],_,_,_,_,h=>h
 |x::pre,a,B,hB,hp,h=>by
  obtain⟨ox,hx,az,hk⟩:=hp x (by simp);have qt:∀y∈pre,∃oy,ops[y]? =some oy∧oy.apart ops oo=true∧dT (κ y) (κ o) oy oo=true:=fun y hy=>hp y (aZp _ hy);refine TD.swap hsel hQ hS kj hB hx ho az hk ?_;rcases h.kinds with kx|kx|kx|kx|kx
  ·obtain⟨h1,h2⟩:=h.inv_neu kx hx;exact .neu hx kx h1 fun v hv=>TD.front hsel hQ hS kj ho pre _ _ hB qt (h2 v hv)
  ·obtain⟨w1,d,T,z,V,hd,hr,ht⟩:=h.inv_alloc kx hx;exact .alloc V hx kx w1 hd hr fun p Bi=>TD.front hsel hQ hS kj ho pre _ _ (hB.set _ _) qt (ht p Bi)
  ·obtain⟨w1,hd,d,T,y,p,b,aj,du,hb,bu,hr,ht⟩:=h.inv_store kx hx;exact .store hx kx w1 hd aj du hb bu hr (TD.front hsel hQ hS kj ho pre _ _ (hB.set _ _) qt ht)
  ·rw[kx]at hk;unfold dT at hk;split at hk<;>simp_all
  ·obtain⟨w1,d,f,args,hd,bi,ff,ht⟩:=h.inv_cbox kx hx;exact .cbox hx kx w1 hd bi ff fun v p z T hC Bi=>TD.front hsel hQ hS kj ho pre _ _ (hB.set _ _) qt (ht v p z T hC Bi)
theorem TE.front (hsel:∀(j:Nat) (p:Oper) cs b,ops[j]? =some p→p.op≠ .select cs b)
  {o:Nat} {oo:Oper} (ho:ops[o]? =some oo) {post:Wd} {w:We}:∀(pre:Wd) (a:Act),
   (∀x∈pre,∃ox,ops[x]? =some ox∧ox.apart ops oo=true∧κ x≠6∧κ o≠6)→
   TE P ops Q κ (pre++o::post) a w→TE P ops Q κ (o::(pre++post)) a w
 |[],_,_,h=>h
 |x::pre,a,hp,h=>by
  obtain⟨ox,hx,az,k1,k2⟩:=hp x (by simp);obtain⟨h1,h2,h3⟩:=Oper.apart_spec az;have qt:∀y∈pre,∃oy,ops[y]? =some oy∧oy.apart ops oo=true∧κ y≠6∧κ o≠6:=fun y hy=>hp y (aZp _ hy);cases h with
  |eff R _ hk=>exact absurd hk k1
  |val rj hy ht=>
   rw[hx]at rj;cases rj;rename_i v;have hf:=TE.front hsel ho pre _ qt ht;cases hf with
   |eff R _ hk=>exact absurd hk k2
   |val ho' ti uf=>
    rw[ho]at ho';cases ho';rename_i u;have eo:=execOp_put (ops:=ops) oo (fun cs b=>hsel o oo cs b ho) a ox.dst v h1;have wo:=wanted_put (ops:=ops) oo a ox.dst v h1;have ex:=execOp_put (ops:=ops) ox (fun cs b=>hsel x ox cs b hx) a oo.dst u h3;have wx:=wanted_put (ops:=ops) ox a oo.dst u h3;refine .val ho (ti.of_same eo.symm wo.symm) (.val hx (hy.of_same ex wx) ?_);rw[←Act.put_comm a v u h2];exact uf
def j5 (ops:Array Oper):Nat→Nat→Nat→Bool
 |0,_,_=>false
 |n+1,j,i=>match ops[i]? with
  |none=>false
  |some o=>o.after.any fun e=>Region.binds .any e&&(e.on==j||j5 ops n j e.on)
def yC (x:Nat):List Oper→Nat→Nat→Nat
 |[],_,S=>S
 |o::r,i,S=>match(if o.after.toList.any fun e=>Region.binds .any e&&S.testBit e.on then S|||2^i else S)with
  |0=>yC x r (i+1) 0
  |n+1=>yC x r (i+1) (n+1)
theorem sweep_path {ops:Array Oper} (x:Nat):∀(r:List Oper) (i S:Nat),(∀k o,r[k]? =some o→ops[i+k]? =some o)→(∀j,S.testBit j=true→j=x∨∃n,j5 ops n x j=true)→
  ∀j,(yC x r i S).testBit j=true→j=x∨∃n,j5 ops n x j=true
 |[],_,_,_,hS,j,h=>hS j h
 |o::r,i,S,hr,hS,j,h=>by
  have ho:ops[i]? =some o:=hr 0 o rfl;have lj:∀k o',r[k]? =some o'→ops[i+1+k]? =some o':=fun k o' hk=>by
   rw[show i+1+k=i+(k+1)by omega];exact hr (k+1) o' hk
  have key:∀T,T=(if o.after.toList.any fun e=>Region.binds .any e&&S.testBit e.on then S|||2^i else S)→∀j,T.testBit j=true→j=x∨∃n,j5 ops n x j=true:=by
   rintro T rfl j hj;split at hj
   ·rename_i Oi;rw[Nat.testBit_or,aXp,aY4]at hj;rcases hj with hj|hj
    ·exact hS j hj
    ·have ig:i=j:=by simpa using hj
     subst ig;rw[aYv]at Oi;obtain⟨e,he,hb⟩:=Oi;rw[aZy]at hb;right;have Rr:∀n,(e.on=x∨j5 ops n x e.on=true)→j5 ops (n+1) x i=true:=fun n hh=>by
      unfold j5;rw[ho];refine Array.any_eq_true'.2 ⟨e,by simpa using he,?_⟩;simp only[aZy,aY4,beq_iff_eq];exact⟨hb.1,hh⟩
     rcases hS _ hb.2 with h1|⟨n,h1⟩
     ·exact⟨1,Rr 0 (.inl h1)⟩
     ·exact⟨n+1,Rr n (.inr h1)⟩
   ·exact hS j hj
  unfold yC at h;split at h
  ·rename_i h0;exact sweep_path x r (i+1) 0 lj (key 0 h0.symm) j h
  ·rename_i n h0;exact sweep_path x r (i+1) (n+1) lj (key (n+1) h0.symm) j h
def cU (ops:Array Oper) (x:Nat):Nat:=yC x ops.toList 0 (2^x)
theorem bN {ops:Array Oper} {x o:Nat} (h:(cU ops x).testBit o=true):o=x∨∃n,j5 ops n x o=true:=
 sweep_path x ops.toList 0 (2^x) (fun k o hk=>by simpa using hk) (fun j hj=>by
  rw[aXp]at hj;exact .inl (by simpa using Eq.symm (by simpa using hj))) o h
def vD (ops:Array Oper) (κ:Nat→Nat) (x o:Nat):Bool:=
 (!(x==o)&&(cU ops x).testBit o)||match ops[x]?,ops[o]? with
  |some ox,some oo=>ox.apart ops oo&&dT (κ x) (κ o) ox oo
  |_,_=>false
def eS (ops:Array Oper) (κ:Nat→Nat):Wd→Bool
 |[]=>true
 |x::r=>r.all (fun o=>vD ops κ x o)&&eS ops κ r
def kY (ops:Array Oper) (κ:Nat→Nat) (l:Wd):Bool:=
 Region.noSelect ops&&((List.range ops.size).all fun i=>match ops[i]? with|none=>false|some o=>o.after.all fun e=> !Region.binds .any e||decide (e.on<i))&&
 (decide (l.length=ops.size)&&(l.all (fun i=>decide (i<ops.size))&&((List.range ops.size).all fun i=>l.contains i)))&&(decide l.Nodup&&eS ops κ l)
structure cA (ops:Array Oper) (listed:Array Bool) (l:Wd):Prop where
 size:listed.size=ops.size
 mem:∀i,i∈l↔listed.getD i true=false
 closed:∀i o,listed.getD i false=true→ops[i]? =some o→∀e∈o.after,Region.binds .any e=true→listed.getD e.on false=true
theorem bS {listed:Array Bool} (hc:∀i o,listed.getD i false=true→ops[i]? =some o→∀e∈o.after,Region.binds .any e=true→listed.getD e.on false=true):
  ∀(n j i:Nat) (o:Oper),ops[i]? =some o→(∀e∈o.after,Region.binds .any e=true→listed.getD e.on false=true)→j5 ops n j i=true→listed.getD j false=true
 |0,_,_,_,_,_,h=>by cases h
 |n+1,j,i,o,ho,hr,h=>by
  unfold j5 at h;rw[ho]at h;obtain⟨e,he,hb⟩:=Array.any_eq_true'.1 h;simp only[aZy,aY4,beq_iff_eq]at hb;have hl:=hr e he hb.1;rcases hb.2 with h1|h1
  ·rw[←h1];exact hl
  ·cases h2:ops[e.on]? with
   |none=>
    unfold j5 at h1;cases n<;>simp[h2]at h1
   |some o2=>exact bS hc n j e.on o2 h2 (hc e.on o2 hl h2) h1
theorem aX {listed:Array Bool} {i:Nat} (h:listed.getD i true=false):listed.getD i false=false:=by
 rcases aYt i listed.size with h'|h'
 ·simp[h']at h⊢;exact h
 ·simp[aXh h']at h
theorem cA.next {listed:Array Bool} {pre post:Wd} {i:Nat} (h:cA ops listed (pre++i::post)) (hn:(pre++i::post).Nodup) {o:Oper} (ho:ops[i]? =some o)
  (hr:∀e∈o.after,Region.binds .any e=true→listed.getD e.on false=true):cA ops (listed.setIfInBounds i true) (pre++post) where
 size:=by simp[h.size]
 mem j:=by
  have hi:listed.getD i true=false:=(h.mem i).1 (by simp);have hlt:i<listed.size:=by
   rcases aYt i listed.size with h'|h'
   ·exact h'
   ·simp[aXh h']at hi
  by_cases hj:i=j
  ·subst hj;constructor
   ·intro hm;exfalso;rw[aZ7]at hn;obtain⟨h1,h2,h3⟩:=hn;rcases aZh.1 hm with hm|hm
    ·exact h3 i hm i (by simp) rfl
    ·exact(aYc.1 h2).1 hm
   ·intro hm;simp[hlt]at hm
  ·rw[getD_set_ne true hj,←h.mem j];simp only[aZh,aZc];constructor
   ·rintro(h|h)
    ·exact .inl h
    ·exact .inr (.inr h)
   ·rintro(h|rfl|h)
    ·exact .inl h
    ·exact absurd rfl hj
    ·exact .inr h
 closed j p hj hp e he hb:=by
  by_cases ig:i=j
  ·subst ig;rw[ho]at hp;cases hp;exact getD_set_true (hr e he hb)
  ·rw[getD_set_ne false ig]at hj;exact getD_set_true (h.closed j p hj hp e he hb)
theorem gZ {κ:Nat→Nat} {i:Nat} {post:Wd}:∀ {pre:Wd},eS ops κ (pre++i::post)=true→(∀x∈pre,vD ops κ x i=true)∧eS ops κ (pre++post)=true
 |[],h=>by
  simp only[aYq,eS,aZy]at h;exact⟨fun _ hx=>(aZe hx).elim,h.2⟩
 |x::pre,h=>by
  simp only[aYg,eS,aZy,aYh]at h;obtain⟨h1,h2⟩:=gZ h.2;refine⟨fun y hy=> ?_,?_⟩
  ·rcases aZc.1 hy with rfl|hy
   ·exact h.1 i (by simp)
   ·exact h1 y hy
  ·simp only[aYg,eS,aZy,aYh];refine⟨fun y hy=>h.1 y ?_,h2⟩;rcases aZh.1 hy with hy|hy
   ·exact aZl _ hy
   ·exact aYi _ (aZp _ hy)
theorem cF (au:∀i o,ops[i]? =some o→∀e∈o.after,Region.binds .any e=true→e.on<i) {listed:Array Bool} {l:Wd} (h:cA ops listed l)
  (hlt:∀i∈l,i<ops.size):∀n,∀i∈l,i≤n→Region.ready .any ops listed≠[]
 |n,i,hi,io=>by
  have hio:ops[i]? =some (ops[i]'(hlt i hi)):=aYe (hlt i hi);by_cases bm:∀e∈(ops[i]'(hlt i hi)).after,Region.binds .any e=true→listed.getD e.on false=true
  ·intro et
   have:i∈Region.ready .any ops listed:=mem_ready.2 ⟨(h.mem i).1 hi,_,hio,bm⟩;rw[et]at this;cases this
  ·have:∃e∈(ops[i]'(hlt i hi)).after,Region.binds .any e=true∧listed.getD e.on false=false:=by
    rcases Classical.em (∃e∈(ops[i]'(hlt i hi)).after,Region.binds .any e=true∧listed.getD e.on false=false)with hh|hh
    ·exact hh
    ·exfalso;apply bm;intro e he hb;cases hc:listed.getD e.on false with
     |true=>rfl
     |false=>exact absurd ⟨e,he,hb,hc⟩ hh
   obtain⟨e,he,hb,hf⟩:=this;have cg:=au i _ hio e he hb;have hin':e.on∈l:=by
    rw[h.mem];have fu:e.on<listed.size:=by rw[h.size];have:=hlt i hi;omega
    simp[fu]at hf⊢;exact hf
   match n with
   |0=>omega
   |n+1=>exact cF au h hlt n e.on hin' (by omega)
theorem TE.sound (hsel:∀(j:Nat) (p:Oper) cs b,ops[j]? =some p→p.op≠ .select cs b)
  (au:∀i o,ops[i]? =some o→∀e∈o.after,Region.binds .any e=true→e.on<i):
  ∀(fuel:Nat) (l:Wd) (listed:Array Bool) (a:Act) (w:We),l.length=fuel→l.Nodup→(∀i∈l,i<ops.size)→eS ops κ l=true→cA ops listed l→TE P ops Q κ l a w→wpAny P .any ops Q fuel listed a w:=by
 intro fuel
 induction fuel with
 |zero=>
  intro l listed a w hl hn hlt hp hL h;obtain rfl:l=[]:=aY2.1 hl;refine⟨?_,?_⟩
  ·rw[aWq];intro i hi;have:=(hL.mem i).2 (mem_ready.1 hi).1;cases this
  ·cases h with|nil h=>exact h
 |succ fuel ih=>
  intro l listed a w hl hn hlt hp hL h;refine⟨fun et=> ?_,fun i hi=> ?_⟩
  ·exfalso
   match l,hl with
   |i::l',_=>exact cF au hL hlt i i (by simp) (aZq _) et
  ·obtain⟨vj,o,ho,bm⟩:=mem_ready.1 hi;obtain⟨pre,post,rfl⟩:=aXf ((hL.mem i).2 vj);obtain⟨h1,h2⟩:=gZ hp;have hf:=TE.front hsel ho pre a (fun x hx=>by
    have:=h1 x hx;unfold vD at this;have qf:ops[x]? =some (ops[x]'(hlt x (by simp[hx]))):=aYe _;rw[qf,ho]at this;simp only[aY4,aZy]at this;rcases this with bo|ak
    ·obtain⟨_,bo⟩:=(bN bo.2).resolve_left (fun e=>by have:=bo.1;simp[e]at this);have jj:=bS hL.closed _ x i o ho bm bo;have ec:=aX ((hL.mem x).1 (by simp[hx]));rw[jj]at ec;cases ec
    ·refine⟨_,qf,ak.1,fun e=> ?_,fun e=> ?_⟩
     ·have:=ak.2;rw[e]at this;unfold dT at this;split at this<;>simp_all
     ·have:=ak.2;rw[e]at this;unfold dT at this;split at this<;>simp_all) h
   have gk:(pre++post).length=fuel:=by simp at hl⊢;omega
   have ii:(pre++post).Nodup:=hn.sublist (aYy (aYk _ _) _);have cg:∀j∈pre++post,j<ops.size:=fun j hj=>hlt j (by
    rcases aZh.1 hj with hj|hj
    ·exact aZl _ hj
    ·exact aYi _ (aZp _ hj))
   cases hf with
   |val ho' hy ht=>
    rw[ho]at ho';cases ho';exact YieldsIf.wpOp ho hy trivial (ih (pre++post) _ _ _ gk ii cg h2 (hL.next hn ho bm) ht)
   |eff R ho' hk hR hT=>exact wpOp_mono (fun a' w' hh=>ih (pre++post) _ _ _ gk ii cg h2 (hL.next hn ho bm) (hT a' w' hh)) hR
theorem TD.sound (hsel:∀(j:Nat) (p:Oper) cs b,ops[j]? =some p→p.op≠ .select cs b) (hQ:∀c a d v w,Q (.panic c) (Act.put a d v) w→Q (.panic c) a w)
  (au:∀i o,ops[i]? =some o→∀e∈o.after,Region.binds .any e=true→e.on<i) (hS:S w0) (kj:∀w,Mod (fun _=>False) w0 w→S w):
  ∀(fuel:Nat) (l:Wd) (listed:Array Bool) (a:Act) (B:Bx) (w:We),l.length=fuel→l.Nodup→(∀i∈l,i<ops.size)→eS ops κ l=true→cA ops listed l→B.Fin→
   lU w0 B w→TD P ops Q S C w0 κ l a B→wpAny P .any ops Q fuel listed a w:=by
 intro fuel
 induction fuel with
 |zero=>
  intro l listed a B w hl hn hlt hp hL hB hR h;obtain rfl:l=[]:=aY2.1 hl;refine⟨?_,?_⟩
  ·rw[aWq];intro i hi;have:=(hL.mem i).2 (mem_ready.1 hi).1;cases this
  ·cases h with|nil h=>exact h w hR
 |succ fuel ih=>
  intro l listed a B w hl hn hlt hp hL hB hR h;refine⟨fun et=> ?_,fun i hi=> ?_⟩
  ·exfalso
   match l,hl with
   |i::l',_=>exact cF au hL hlt i i (by simp) (aZq _) et
  ·obtain⟨vj,o,ho,bm⟩:=mem_ready.1 hi;obtain⟨pre,post,rfl⟩:=aXf ((hL.mem i).2 vj);obtain⟨h1,h2⟩:=gZ hp;have hf:=TD.front hsel hQ hS kj ho pre a B hB (fun x hx=>by
    have:=h1 x hx;unfold vD at this;have qf:ops[x]? =some (ops[x]'(hlt x (by simp[hx]))):=aYe _;rw[qf,ho]at this;simp only[aY4,aZy]at this;rcases this with bo|ak
    ·obtain⟨_,bo⟩:=(bN bo.2).resolve_left (fun e=>by have:=bo.1;simp[e]at this);have jj:=bS hL.closed _ x i o ho bm bo;have ec:=aX ((hL.mem x).1 (by simp[hx]));rw[jj]at ec;cases ec
    ·exact⟨_,qf,ak.1,ak.2⟩) h
   have gk:(pre++post).length=fuel:=by simp at hl⊢;omega
   have ii:(pre++post).Nodup:=hn.sublist (aYy (aYk _ _) _);have cg:∀j∈pre++post,j<ops.size:=fun j hj=>hlt j (by
    rcases aZh.1 hj with hj|hj
    ·exact aZl _ hj
    ·exact aYi _ (aZp _ hj))
   have gz:=hL.next hn ho bm;rcases hf.kinds with ko|ko|ko|ko|ko
   ·obtain⟨hpre,ht⟩:=hf.inv_neu ko ho;rcases hpre with⟨hk,v,hy⟩|⟨hk,v,hy⟩|⟨hk,f,args,hw,bi,ff⟩
    ·exact YieldsIf.wpOp ho hy trivial (ih _ _ _ _ _ gk ii cg h2 gz hB hR (ht v (.inl ⟨hk,hy⟩)))
    ·exact YieldsIf.wpOp ho hy (kj w hR.mod) (ih _ _ _ _ _ gk ii cg h2 gz hB hR (ht v (.inr (.inl ⟨hk,hy⟩))))
    ·unfold wpOp;simp only[ho,hw,if_true];refine .inl ?_;unfold Oper.wp;rw[bi w];refine(ff w (kj w hR.mod)).mono ?_;rintro e w' ⟨v,rfl,hv,hm⟩;exact ih _ _ _ _ _ gk ii cg h2 gz hB (hR.mods hm) (ht v (.inr (.inr ⟨hk,f,args,hw,bi,ff,hv⟩)))
   ·obtain⟨hw,d,T,z,V,hd,hr,ht⟩:=hf.inv_alloc ko ho;unfold wpOp;simp only[ho,hw,if_true];refine .inl ?_;unfold Oper.wp;rw[hr w];exact ih _ _ _ _ _ gk ii cg h2 gz (hB.set _ _) (hR.alloc z T d) (ht _ hR.none)
   ·obtain⟨hw,hd,d,T,y,p,b,aj,du,hb,bu,hr,ht⟩:=hf.inv_store ko ho;unfold wpOp;simp only[ho,hw,if_true];refine .inl ?_;unfold Oper.wp;rw[hr w (hR.box p b hb).2];simp only[Oper.upon,hd];exact ih _ _ _ _ _ gk ii cg h2 gz (hB.set _ _) (hR.store hb _) ht
   ·have hE:=hf.inv_eff ko w hR;refine wpOp_mono (fun a' w' hh=> ?_) hE;exact TE.sound hsel au fuel _ _ _ _ gk ii cg h2 gz hh
   ·obtain⟨hw,d,f,args,hd,bi,ff,ht⟩:=hf.inv_cbox ko ho;unfold wpOp;simp only[ho,hw,if_true];refine .inl ?_;unfold Oper.wp;rw[bi w];refine(ff w (kj w hR.mod)).mono ?_;rintro e w' ⟨v,p,z,T,rfl,hC,hp,Eg,hm⟩;exact ih _ _ _ _ _ gk ii cg h2 gz (hB.set _ _) (hR.cbox hm d hp Eg) (ht v p z T hC (hR.free hp))
theorem oN {a:Act} {w w1:We} (l:Wd) (ak:kY ops κ l=true)
  (hQ:∀c a d v w,Q (.panic c) (Act.put a d v) w→Q (.panic c) a w) (kj:∀w',Mod (fun _=>False) w w'→S w') (hR:lU w Bx.nil w1)
  (h:TD P ops Q S C w κ l a Bx.nil):wpAny P .any ops Q ops.size (Array.replicate ops.size false) a w1:=by
 simp only[kY,aZy,aYh,decide_eq_true_eq]at ak;obtain⟨⟨⟨h1,h2⟩,h3,h4,h5⟩,ct,h6⟩:=ak;have au:∀i o,ops[i]? =some o→∀e∈o.after,Region.binds .any e=true→e.on<i:=fun i o ho e he hb=>by
  have:=h2 i (aYu.2 (aZf.1 ho).1);rw[ho]at this;have:=aZ5.1 this e he;simpa[hb] using this
 refine TD.sound (Region.noSelect_spec h1) hQ au (kj w (Mod.refl _ _)) kj _ l _ a _ _ h3 ct h4 h6 ?_ Bx.nil_fin hR h;refine⟨by simp,fun i=> ?_,fun i o hi=> ?_⟩
 ·constructor
  ·intro hi;have:=h4 i hi;simp[this]
  ·intro hi
   have:i<ops.size:=by
    rcases aYt i ops.size with h'|h'
    ·exact h'
    ·simp[Nat.not_lt.2 h']at hi
   simpa using h5 i (aYu.2 this)
 ·exfalso
  have:(Array.replicate ops.size false).getD i false=false:=by
   by_cases h':i<ops.size
   ·simp[h']
   ·simp[h']
  rw[this]at hi;cases hi
theorem rU {id:Nat} {a:Act} {w:We} (l:Wd) (hm:P.follows .mixedOrders=true) (ak:kY ops κ l=true)
  (hQ:∀c a d v w,Q (.panic c) (Act.put a d v) w→Q (.panic c) a w) (kj:∀w',Mod (fun _=>False) w w'→S w')
  (h:TD P ops Q S C w κ l a Bx.nil):(Code.region id ops true).wp P Q a w:=
 wp_region_any hm (oN l ak hQ kj ⟨(Mod.refl _ w).drew,fun _ _ hh=>by cases hh⟩ h)
theorem o6 {id:Nat} {a:Act} {w:We} (l:Wd) (hlin:Region.linearise .any ops 0=List.range ops.size) (ak:kY ops κ l=true)
  (hQ:∀c a d v w,Q (.panic c) (Act.put a d v) w→Q (.panic c) a w) (kj:∀w',Mod (fun _=>False) w w'→S w')
  (h:TD P ops Q S C w κ l a Bx.nil):(Code.region id ops false).wp P Q a w:=by
 refine wp_region ?_;rw[←hlin];exact wpAny_sound ops.size 0 _ a w (oN l ak hQ kj (lU.start w) h)
theorem pN {C:Wn→Wa→Wg→Prop} {κ:Nat→Nat} {id:Nat} {a:Act} {w:We} (l:Wd) (hm:P.follows .mixedOrders=true) (ak:kY ops κ l=true)
  (hQ:∀c a d v w,Q (.panic c) (Act.put a d v) w→Q (.panic c) a w)
  (h:TD P ops Q (Mod (fun _=>False) w) C w κ l a Bx.nil):(Code.region id ops true).wp P Q a w:=rU l hm ak hQ (fun _ h=>h) h
theorem kH {C:Wn→Wa→Wg→Prop} {κ:Nat→Nat} {id:Nat} {a:Act} {w:We} (l:Wd) (hlin:Region.linearise .any ops 0=List.range ops.size) (ak:kY ops κ l=true)
  (hQ:∀c a d v w,Q (.panic c) (Act.put a d v) w→Q (.panic c) a w)
  (h:TD P ops Q (Mod (fun _=>False) w) C w κ l a Bx.nil):(Code.region id ops false).wp P Q a w:=o6 l hlin ak hQ (fun _ h=>h) h
theorem TD.val0 {i:Nat} {r:Wd} {a:Act} {B:Bx} {o:Oper} {v:Wg} (ho:ops[i]? =some o) (hk:κ i=0) (hw:Region.wanted o (yielded ops a.tmps)=true)
  (hy:∀w,(execOp a.eval o).run P w= .ok (.value v) w) (h:TD P ops Q S C w0 κ r (a.put o.dst v) B):TD P ops Q S C w0 κ (i::r) a B:=by
 refine .neu ho (by omega) (.inl ⟨hk,v,.inl ⟨hw,fun w _=>hy w⟩⟩) fun u hu=> ?_;rcases hu with⟨_,hu⟩|⟨cu,_⟩|⟨cu,_⟩
 ·rcases hu with⟨_,hu⟩|⟨vk,_⟩
  ·have:=(hy w0).symm.trans (hu w0 trivial);simp only[Result.ok.injEq,Next.value.injEq,and_true]at this;subst this;exact h
  ·rw[hw]at vk;cases vk
 ·omega
 ·omega
theorem TD.val1 {i:Nat} {r:Wd} {a:Act} {B:Bx} {o:Oper} {v:Wg} (hS:S w0) (ho:ops[i]? =some o) (hk:κ i=1) (hw:Region.wanted o (yielded ops a.tmps)=true)
  (hy:∀w,S w→(execOp a.eval o).run P w= .ok (.value v) w) (h:TD P ops Q S C w0 κ r (a.put o.dst v) B):TD P ops Q S C w0 κ (i::r) a B:=by
 refine .neu ho (by omega) (.inr (.inl ⟨hk,v,.inl ⟨hw,fun w hs=>hy w hs⟩⟩)) fun u hu=> ?_;rcases hu with⟨cu,_⟩|⟨_,hu⟩|⟨cu,_⟩
 ·omega
 ·rcases hu with⟨_,hu⟩|⟨vk,_⟩
  ·have:=(hy w0 hS).symm.trans (hu w0 hS);simp only[Result.ok.injEq,Next.value.injEq,and_true]at this;subst this;exact h
  ·rw[hw]at vk;cases vk
 ·omega
theorem TD.pass {i:Nat} {r:Wd} {a:Act} {B:Bx} {o:Oper} (ho:ops[i]? =some o) (hk:κ i=0) (hw:Region.wanted o (yielded ops a.tmps)=false)
  (h:TD P ops Q S C w0 κ r (a.put o.dst undef) B):TD P ops Q S C w0 κ (i::r) a B:=by
 refine .neu ho (by omega) (.inl ⟨hk,undef,.inr ⟨hw,rfl⟩⟩) fun u hu=> ?_;rcases hu with⟨_,hu⟩|⟨cu,_⟩|⟨cu,_⟩
 ·rcases hu with⟨vk,_⟩|⟨_,rfl⟩
  ·rw[hw]at vk;cases vk
  ·exact h
 ·omega
 ·omega
theorem TD.pass1 {i:Nat} {r:Wd} {a:Act} {B:Bx} {o:Oper} (ho:ops[i]? =some o) (hk:κ i=1) (hw:Region.wanted o (yielded ops a.tmps)=false)
  (h:TD P ops Q S C w0 κ r (a.put o.dst undef) B):TD P ops Q S C w0 κ (i::r) a B:=by
 refine .neu ho (by omega) (.inr (.inl ⟨hk,undef,.inr ⟨hw,rfl⟩⟩)) fun u hu=> ?_;rcases hu with⟨cu,_⟩|⟨_,hu⟩|⟨cu,_⟩
 ·omega
 ·rcases hu with⟨vk,_⟩|⟨_,rfl⟩
  ·rw[hw]at vk;cases vk
  ·exact h
 ·omega
theorem TD.call {i:Nat} {r:Wd} {a:Act} {B:Bx} {o:Oper} {f:Wn} {args:Wa} (hS:S w0) (ho:ops[i]? =some o) (hk:κ i=2) (hw:Region.wanted o (yielded ops a.tmps)=true)
  (hy:∀w,(execOp a.eval o).run P w= .ok (.enter f args) w) (ff:LR P S C f args) (h:∀v,C f args v→TD P ops Q S C w0 κ r (a.put o.dst v) B):TD P ops Q S C w0 κ (i::r) a B:=by
 refine .neu ho (by omega) (.inr (.inr ⟨hk,f,args,hw,hy,ff⟩)) fun u hu=> ?_;rcases hu with⟨cu,_⟩|⟨cu,_⟩|⟨_,f',args',_,ja,_,hu⟩
 ·omega
 ·omega
 ·have:=(hy w0).symm.trans (ja w0);simp only[Result.ok.injEq,Next.enter.injEq,and_true]at this;obtain⟨rfl,rfl⟩:=this;exact h u hu
theorem nO {ρ:Wm→Wg} {o:Oper} {T:Wh} {x:Wm} {p v:Wg} {w:We} (ho:o.op= .load T x) (hx:ρ x=p)
  (hr:(Instr.loadAt T p).run P w= .ok v w):(execOp ρ o).run P w= .ok (.value v) w:=by
 subst hx;simp[execOp,ho,hr]
theorem TD.load {i:Nat} {r:Wd} {a:Act} {B:Bx} {o:Oper} {T:Wh} {x:Wm} {p v:Wg} (hS:S w0) (ho:ops[i]? =some o) (hk:κ i=1) (hw:Region.wanted o (yielded ops a.tmps)=true)
  (aj:o.op= .load T x) (hx:a.eval x=p) (hy:∀w,S w→(Instr.loadAt T p).run P w= .ok v w) (h:TD P ops Q S C w0 κ r (a.put o.dst v) B):TD P ops Q S C w0 κ (i::r) a B:=
 TD.val1 hS ho hk hw (fun w hs=>nO aj hx (hy w hs)) h
theorem TD.lookup {i:Nat} {r:Wd} {a:Act} {B:Bx} {o:Oper} {T:Wh} {x y:Wm} {ok:Bool} {p q v:Wg} (hS:S w0) (ho:ops[i]? =some o) (hk:κ i=1) (hw:Region.wanted o (yielded ops a.tmps)=true)
  (aj:o.op= .lookup T x y ok) (hx:a.eval x=p) (hy:a.eval y=q) (hr:∀w,S w→(Instr.lookup T p q ok).run P w= .ok v w) (h:TD P ops Q S C w0 κ r (a.put o.dst v) B):TD P ops Q S C w0 κ (i::r) a B:=
 TD.val1 hS ho hk hw (fun w hs=>by subst hx;subst hy;simp[execOp,aj,hr w hs]) h
theorem TD.entry {i:Nat} {r:Wd} {a:Act} {B:Bx} {o:Oper} {x:Wm} {p v:Wg} (hS:S w0) (ho:ops[i]? =some o) (hk:κ i=1) (hw:Region.wanted o (yielded ops a.tmps)=true)
  (aj:o.op= .entry x) (hx:a.eval x=p) (hr:∀w,S w→(Instr.entry p).run P w= .ok v w) (h:TD P ops Q S C w0 κ r (a.put o.dst v) B):TD P ops Q S C w0 κ (i::r) a B:=
 TD.val1 hS ho hk hw (fun w hs=>by subst hx;simp[execOp,aj,hr w hs]) h
theorem TD.build {i:Nat} {r:Wd} {a:Act} {B:Bx} {o:Oper} {T:Wh} {parts:Array (Nat×Wm)} {ps:Array (Nat×Wg)} {v:Wg} (ho:ops[i]? =some o) (hk:κ i=0) (hw:Region.wanted o (yielded ops a.tmps)=true)
  (aj:o.op= .build T parts) (hx:parts.map (fun(p:Nat×Wm)=>(p.1,a.eval p.2))=ps) (hr:∀w,(Instr.build T ps).run P w= .ok v w) (h:TD P ops Q S C w0 κ r (a.put o.dst v) B):TD P ops Q S C w0 κ (i::r) a B:=
 TD.val0 ho hk hw (fun w=>by subst hx;simp[execOp,aj,hr w]) h
theorem TD.allocB {i:Nat} {r:Wd} {a:Act} {B:Bx} {o:Oper} {d:Tmp} {T:Wh} {z:Wa} (ho:ops[i]? =some o) (hk:κ i=3)
  (hw:Region.wanted o (yielded ops a.tmps)=true) (hd:o.dst=some d) (aj:o.op= .alloc T)
  (hr:∀w,(Instr.alloc T true (.tuple #[])).run P w= .ok (.pointer (some ⟨w.heap.size,0,none⟩)) (w.alloc (.cells z T)))
  (h:∀p,B p=none→TD P ops Q S C w0 κ r (a.put o.dst (.pointer (some ⟨p,0,none⟩))) (B.set p ⟨z,T,d⟩)):TD P ops Q S C w0 κ (i::r) a B:=
 .alloc (fun p=> .pointer (some ⟨p,0,none⟩)) ho hk hw hd (fun w=>by simp[execOp,aj,hr w]) h
theorem TD.slice {i:Nat} {r:Wd} {a:Act} {B:Bx} {o:Oper} {T:Wh} {s:Wm} {lo hi mx:Option Wm} {v w':Wg} {l' h' m':Option Wg} (ho:ops[i]? =some o) (hk:κ i=0) (hw:Region.wanted o (yielded ops a.tmps)=true)
  (aj:o.op= .slice T s lo hi mx) (hs:a.eval s=v) (hl:lo.map a.eval=l') (hh:hi.map a.eval=h') (hm:mx.map a.eval=m') (hr:∀w,(Instr.sliceAt T v l' h' m').run P w= .ok w' w) (h:TD P ops Q S C w0 κ r (a.put o.dst w') B):TD P ops Q S C w0 κ (i::r) a B:=
 TD.val0 ho hk hw (fun w=>by subst hs;subst hl;subst hh;subst hm;simp[execOp,aj,hr w]) h
theorem TD.bslice {i:Nat} {r:Wd} {a:Act} {B:Bx} {o:Oper} {d:Tmp} {T E:Wh} {n:Nat} {parts:Array (Nat×Wm)} {ps:Array (Nat×Wg)} {z:Wa} (ho:ops[i]? =some o) (hk:κ i=3)
  (hw:Region.wanted o (yielded ops a.tmps)=true) (hd:o.dst=some d) (aj:o.op= .buildSlice T n parts) (hx:parts.map (fun(p:Nat×Wm)=>(p.1,a.eval p.2))=ps)
  (hr:∀w,(Instr.buildSlice T n ps).run P w= .ok (.slice (some ⟨w.heap.size,0,none⟩) n n) (w.alloc (.cells z E)))
  (h:∀p,B p=none→TD P ops Q S C w0 κ r (a.put o.dst (.slice (some ⟨p,0,none⟩) n n)) (B.set p ⟨z,E,d⟩)):TD P ops Q S C w0 κ (i::r) a B:=
 .alloc (fun p=> .slice (some ⟨p,0,none⟩) n n) ho hk hw hd (fun w=>by subst hx;simp[execOp,aj,hr w]) h
theorem TD.box {i:Nat} {r:Wd} {a:Act} {B:Bx} {o:Oper} {d:Tmp} {T:Wh} {x:Wm} {v:Wg} (ho:ops[i]? =some o) (hk:κ i=3)
  (hw:Region.wanted o (yielded ops a.tmps)=true) (hd:o.dst=some d) (aj:o.op= .box T x) (hx:a.eval x=v)
  (h:∀p,B p=none→TD P ops Q S C w0 κ r (a.put o.dst (.pointer (some ⟨p,0,none⟩))) (B.set p ⟨v.cells,T,d⟩)):TD P ops Q S C w0 κ (i::r) a B:=
 .alloc (fun p=> .pointer (some ⟨p,0,none⟩)) ho hk hw hd (fun w=>by subst hx;simp[execOp,aj,Instr.box,newVar,newRow,newObj];rfl) h
theorem TD.storeB {i:Nat} {r:Wd} {a:Act} {B:Bx} {o:Oper} {d:Tmp} {T:Wh} {y:Wm} {p:Nat} {b:LB} {v:Wg} (ho:ops[i]? =some o) (hk:κ i=4)
  (hw:Region.wanted o (yielded ops a.tmps)=true) (hd:o.dst=none) (aj:o.op= .store T (.tmp d) y) (du:a.eval (.tmp d)= .pointer (some ⟨p,0,none⟩)) (hyv:a.eval y=v) (hb:B p=some b) (bu:b.tag=d)
  (hr:∀w,w.heap[p]? =some (.cells b.cells b.ty (0,0))→(Instr.storeAt T (.pointer (some ⟨p,0,none⟩)) v).run P w= .ok () (setBlock w p (.cells v.cells b.ty (0,0))))
  (h:TD P ops Q S C w0 κ r a (B.set p {b with cells:=v.cells})):TD P ops Q S C w0 κ (i::r) a B:=by
 subst hyv;exact .store ho hk hw hd aj du hb bu (fun w hw=>by simp[execOp,aj,du,hr w hw]) h
theorem l9 {i:Nat} {a:Act} {o:Oper} {K:Act→We→Prop} {w w':We} (ho:ops[i]? =some o) (hw:Region.wanted o (yielded ops a.tmps)=true)
  (hr:(execOp a.eval o).run P w= .ok .skip w') (h:K (a.put o.dst undef) w'):wpOp P ops Q i K a w:=by
 unfold wpOp;simp only[ho,hw,if_true];refine .inl ?_;unfold Oper.wp;rw[hr];exact h
theorem eX {i:Nat} {a:Act} {o:Oper} {K:Act→We→Prop} {w w':We} {v:Wg} (ho:ops[i]? =some o) (hw:Region.wanted o (yielded ops a.tmps)=true)
  (hr:(execOp a.eval o).run P w= .ok (.value v) w') (h:K (a.put o.dst v) w'):wpOp P ops Q i K a w:=by
 unfold wpOp;simp only[ho,hw,if_true];refine .inl ?_;unfold Oper.wp;rw[hr];exact h
theorem zO {i:Nat} {a:Act} {o:Oper} {K:Act→We→Prop} {w w':We} {T:Wh} {x y z:Wm} {X Y Z:Wg} (ho:ops[i]? =some o) (hw:Region.wanted o (yielded ops a.tmps)=true)
  (aj:o.op= .mapUpdate T x y z) (hx:a.eval x=X) (hy:a.eval y=Y) (hz:a.eval z=Z) (hr:(Instr.mapUpdate T X Y Z).run P w= .ok () w') (h:K (a.put o.dst undef) w'):wpOp P ops Q i K a w:=
 l9 ho hw (by subst hx;subst hy;subst hz;simp[execOp,aj,hr]) h
theorem zJ {i:Nat} {a:Act} {o:Oper} {K:Act→We→Prop} {w w':We} {T U:Wh} {x y:Wm} {X Y v:Wg} (ho:ops[i]? =some o) (hw:Region.wanted o (yielded ops a.tmps)=true)
  (aj:o.op= .call {callee:= .builtin .delete,args:= #[x,y],argTypes:= #[T,U]}) (hx:a.eval x=X) (hy:a.eval y=Y) (hr:(Builtin.delete_ #[T,U] o.type #[X,Y]).run P w= .ok v w') (h:K (a.put o.dst v) w'):wpOp P ops Q i K a w:=
 eX ho hw (by subst hx;subst hy;simp[execOp,aj,resolve,invoke,builtin,hr]) h
theorem D0 {i:Nat} {a:Act} {o:Oper} {K:Act→We→Prop} {w w':We} {T:Wh} {x y:Wm} {X Y:Wg} (ho:ops[i]? =some o) (hw:Region.wanted o (yielded ops a.tmps)=true)
  (aj:o.op= .store T x y) (hx:a.eval x=X) (hy:a.eval y=Y) (hr:(Instr.storeAt T X Y).run P w= .ok () w') (h:K (a.put o.dst undef) w'):wpOp P ops Q i K a w:=
 l9 ho hw (by subst hx;subst hy;simp[execOp,aj,hr]) h
theorem zI {i:Nat} {a:Act} {o:Oper} {K:Act→We→Prop} {w w':We} {t:Wh} {s x:Wm} {v u v':Wg} (ho:ops[i]? =some o) (hw:Region.wanted o (yielded ops a.tmps)=true)
  (aj:o.op= .call {callee:= .builtin .append,args:= #[s,x],argTypes:= #[t,t]}) (hs:a.eval s=v) (hx:a.eval x=u) (hr:(Builtin.append_ #[t,t] o.type #[v,u]).run P w= .ok v' w')
  (h:K (a.put o.dst v') w'):wpOp P ops Q i K a w:=
 eX ho hw (by subst hs;subst hx;simp[execOp,aj,resolve,invoke,builtin,hr]) h
theorem TE.step {i:Nat} {r:Wd} {a:Act} {w:We} {o:Oper} (ho:ops[i]? =some o) (hk:κ i=6) (h:wpOp P ops Q i (fun a' w'=>TE P ops Q κ r a' w') a w):TE P ops Q κ (i::r) a w:=
 .eff _ ho hk h (fun _ _ h=>h)
theorem TE.nil_set {a:Act} {w:We} {p:Nat} {o o':Obj} (hb:w.heap[p]? =some o) (h:∀w',w'.heap[p]? =some o'→Mod (fun i=>i=p) w w'→Q .normal a w'):TE P ops Q κ [] a (setBlock w p o'):=
 .nil (h _ (aF w _ (aA hb)) (bM w p o'))
theorem TE.val0 {i:Nat} {r:Wd} {a:Act} {w:We} {o:Oper} {v:Wg} (ho:ops[i]? =some o) (hw:Region.wanted o (yielded ops a.tmps)=true)
  (hy:∀w,(execOp a.eval o).run P w= .ok (.value v) w) (h:TE P ops Q κ r (a.put o.dst v) w):TE P ops Q κ (i::r) a w:=
 .val ho (.inl ⟨hw,fun w _=>hy w⟩) h
theorem run_load_row {w:We} {b o:Nat} {cs:Wa} {U:Wh} {fr:Nat×Nat} {T:Wh} {d:TypeDesc} {n:Nat} (hb:w.heap[b]? =some (.cells cs U fr))
  (hu:P.underlying T=some d) (hd:d.isRow=true) (hi:(P.info? T).map (·.size)=some n) (hn:o+n≤cs.size):
  (Instr.loadAt T (.pointer (some ⟨b,o,none⟩))).run P w= .ok (.agg (cs.extract o (o+n))) w:=by
 have:=run_loadAt_mid (P:=P) w b o T (cs.extract o (o+n)).toList d (World.rangeAt_of_block hb o n) hu hd (by rw[hi];simp;omega);rw[Array.toArray_toList]at this;exact this
theorem aJ (w:We) (b o:Nat):w.cell? ⟨b,o,none⟩=match w.heap[b]? with|some (.cells c _ _)=>c[o]? |_=>none:=by
 simp only[World.cell?];cases w.heap[b]? with
 |none=>rfl
 |some x=>cases x<;>rfl
theorem aC (w:We) (b o:Nat):w.frozen? ⟨b,o,none⟩=match w.heap[b]? with|some (.cells _ _ (lo,hi))=>decide (lo≤o)&&decide (o<hi)|_=>false:=by
 simp only[World.frozen?];cases w.heap[b]? with
 |none=>rfl
 |some x=>cases x<;>rfl
theorem setCell_blk {w:We} {b o:Nat} {cs:Wa} {U:Wh} {fr:Nat×Nat} (hb:w.heap[b]? =some (.cells cs U fr)) (v:Wg):
  w.setCell ⟨b,o,none⟩ v=setBlock w b (.cells (cs.setIfInBounds o v) U fr):=by
 have hlt:=aA hb;simp only[World.setCell,setBlock];congr 1;apply aY8;intro i;rw[aX9,aZ2];by_cases hi:b=i
 ·subst hi;rw[hb];simp[hlt]
 ·simp[hi]
theorem TE.nil_setCell {a:Act} {w:We} {p i:Nat} {cs:Wa} {U:Wh} {fr:Nat×Nat} {v:Wg} (hb:w.heap[p]? =some (.cells cs U fr))
  (h:∀w',w'.heap[p]? =some (.cells (cs.setIfInBounds i v) U fr)→Mod (fun i=>i=p) w w'→Q .normal a w'):TE P ops Q κ [] a (w.setCell ⟨p,i,none⟩ v):=by
 rw[setCell_blk hb];exact TE.nil_set hb h
theorem iC {w:We} {b:Nat} {o:Obj} (hb:w.heap[b]? =some o):setBlock w b o=w:=by
 have hlt:=aA hb
 have:w.heap.setIfInBounds b o=w.heap:=by
  apply aY8;intro i;rw[aZ2];by_cases hi:b=i
  ·subst hi;rw[hb];simp[hlt]
  ·simp[hi]
 unfold setBlock;rw[this]
theorem mP (w:We) (b:Nat) (o o':Obj):setBlock (setBlock w b o) b o'=setBlock w b o':=by
 unfold setBlock;simp
def wr (cs:Wa) (o:Nat):List Wg→Wa
 |[]=>cs
 |v::r=>wr (cs.setIfInBounds o v) (o+1) r
theorem jF:∀(vs:List Wg) (cs:Wa) (o:Nat),o+vs.length≤cs.size→(wr cs o vs).toList=cs.toList.take o++vs++cs.toList.drop (o+vs.length)
 |[],cs,o,_=>by simp[wr]
 |v::r,cs,o,h=>by
  simp only[aZu]at h;unfold wr;rw[jF r _ (o+1) (by simp;omega)];simp only[Array.toList_setIfInBounds,aZu];have h1:(cs.toList.set o v).take (o+1)=cs.toList.take o++[v]:=by
   rw[List.take_set,List.take_succ_eq_append_getElem (by simp;omega)];apply aXm;intro i;simp only[List.getElem?_set,List.getElem?_append,aZg,aZ4,aYd,aZx]
   grind
  have h2:(cs.toList.set o v).drop (o+1+r.length)=cs.toList.drop (o+(r.length+1)):=by
   rw[List.drop_set_of_lt (by omega)];congr 1;omega
  rw[h1,h2];simp
theorem fI (vs:Wa) (cs:Wa) (h:vs.size=cs.size):wr cs 0 vs.toList=vs:=by
 apply aZ1.1;rw[jF _ _ _ (by simp;omega)];simp[h]
theorem mQ:∀(vs:List Wg) (w:We) (b o:Nat) (cs:Wa) (U:Wh) (fr:Nat×Nat),w.heap[b]? =some (.cells cs U fr)→w.setCells b o vs=setBlock w b (.cells (wr cs o vs) U fr)
 |[],w,b,o,cs,U,fr,hb=>(iC hb).symm
 |v::r,w,b,o,cs,U,fr,hb=>by
  unfold World.setCells wr;rw[setCell_blk hb,mQ r _ b (o+1) (cs.setIfInBounds o v) U fr (aF w _ (aA hb)),mP]
theorem k9 {w:We} {T:Wh} {p o:Nat} {cs xs:Wa} {U:Wh} (hw:w.heap[p]? =some (.cells cs U (0,0)))
  (hi:(P.info? T).map (·.size)=some xs.size) (hs:o+xs.size≤cs.size) (h1:xs.all (·.oneCell')=true):
  (Instr.storeAt T (.pointer (some ⟨p,o,none⟩)) (.agg xs)).run P w= .ok () (setBlock w p (.cells (wr cs o xs.toList) U (0,0))):=by
 rw[run_storeAt_mid (P:=P) w p o T xs (fun j hj=> ?_) hi h1,mQ _ w p o cs U _ hw];constructor
 ·rw[aJ,hw];simp;omega
 ·rw[aC,hw];simp
theorem k8 {w:We} {T:Wh} {p o:Nat} {cs:Wa} {v:Wg} {U:Wh} (hw:w.heap[p]? =some (.cells cs U (0,0)))
  (hi:(P.info? T).map (·.size)=some 1) (hs:o<cs.size) (h1:v.oneCell'=true):
  (Instr.storeAt T (.pointer (some ⟨p,o,none⟩)) v).run P w= .ok () (setBlock w p (.cells (cs.setIfInBounds o v) U (0,0))):=by
 have hc:v.cells= #[v]:=by cases v<;>first|rfl|simp[Value.oneCell']at h1
 have ed:w.cell? ⟨p,o,none⟩=some cs[o]:=by rw[aJ,hw];simp[hs]
 have xm:w.frozen? ⟨p,o,none⟩=false:=by rw[aC,hw];simp
 cases hq:P.info? T with
 |none=>simp[hq]at hi
 |some i=>
  have hz:i.size=1:=by simpa[hq] using hi
  have ib:(⟨p,o,none⟩:Addr).add 0=⟨p,o,none⟩:=by rw[Addr.add_mid];simp
  simp[Instr.storeAt,Instr.sureAddr,storeVar,sizeOf,typeInfo,hq,hc,hz,storeCells,ib,run_store P w _ v _ h1,ed,xm,setCell_blk hw]
theorem iB {w:We} {T:Wh} {p:Nat} {cs xs:Wa} {U:Wh} (hw:w.heap[p]? =some (.cells cs U (0,0)))
  (hi:(P.info? T).map (·.size)=some xs.size) (hs:xs.size=cs.size) (h1:xs.all (·.oneCell')=true):
  (Instr.storeAt T (.pointer (some ⟨p,0,none⟩)) (.agg xs)).run P w= .ok () (setBlock w p (.cells xs U (0,0))):=by
 rw[k9 hw hi (by omega) h1,fI xs cs hs]
def dU (P:Wl) (w:We) (T:Wh) (b o:Nat):Result Wg:=(Instr.loadAt T (.pointer (some ⟨b,o,none⟩))).run P w
theorem bK {T:Wh} {d:TypeDesc} {n:Nat} (hu:P.underlying T=some d) (hd:d.isRow=true) (hi:(P.info? T).map (·.size)=some n) (w:We) (b o:Nat):
  (Instr.loadAt T (.pointer (some ⟨b,o,none⟩))).run P w=
   match w.heap[b]? with
   |some (.cells cs _ _)=>if o+n≤cs.size then .ok (.agg (cs.extract o (o+n))) w else dU P w T b o
   |_=>dU P w T b o:=by
 split
 ·rename_i cs U fr hb;split
  ·rename_i dh;exact run_load_row hb hu hd hi dh
  ·rfl
 ·rfl
theorem mD (off:Nat):∀(xs:List Wg) (n:Nat) (cells:Wa),(xs.zipIdx n).foldl (fun(cs:Wa) (p:Wg×Nat)=>cs.setIfInBounds (off+p.2) p.1) cells=wr cells (off+n) xs
 |[],_,_=>rfl
 |v::r,n,cells=>by
  simp only[List.zipIdx_cons,aWv,wr];rw[mD off r (n+1)];rfl
theorem ML (off:Nat) (xs cells:Wa):xs.zipIdx.foldl (fun(cs:Wa) (p:Wg×Nat)=>cs.setIfInBounds (off+p.2) p.1) cells=wr cells off xs.toList:=by
 rw[←Array.foldl_toList,Array.toList_zipIdx];exact mD off xs.toList 0 cells
theorem jG:∀(vs:List Wg) (cs:Wa) (o:Nat),(wr cs o vs).size=cs.size
 |[],_,_=>rfl
 |v::r,cs,o=>by
  unfold wr;rw[jG r];simp
theorem cZ {place:Nat→Option (Nat×Nat)} {cells:Wa} {i off n:Nat} {v:Wg} {rest:List (Nat×Wg)} (hp:place i=some (off,n)) (hv:v.cells.size=n) (hc:off+n≤cells.size):
  Instr.fill place cells ((i,v)::rest)=Instr.fill place (wr cells off v.cells.toList) rest:=by
 simp only[Instr.fill,hp];rw[if_neg (by simp[hv];omega)];rw[←ML off v.cells cells]
theorem eZ {T:Wh} {fs:Array Field} {z:Wg} {places:Array (Nat×Nat)} {parts:Array (Nat×Wg)} {cells:Wa} (hu:P.underlying T=some (.struct fs)) (hz:∀w,(zeroValue T).run P w= .ok z w)
  (hp:∀w,(fs.mapM (fun(f:Field)=>do pure (f.offset,←sizeOf f.type):Field→Sem (Nat×Nat))).run P w= .ok places w) (hf:Instr.fill (places[·]?) z.cells parts.toList=some cells) (w:We):
  (Instr.build T parts).run P w= .ok (.agg cells) w:=by
 unfold Instr.build;simp only[Sem.run_bind,hz,Result.andThen_ok,run_underlying hu,hp,hf];rfl
theorem aO (k:IntKind) (n:Int):(Value.int k n).oneCell'=true:=rfl
theorem aL (b:Bool):(Value.bool b).oneCell'=true:=rfl
theorem aQ (a:Wb):(Value.pointer a).oneCell'=true:=rfl
theorem aI (a:Wb) (n c:Nat):(Value.slice a n c).oneCell'=true:=rfl
theorem aP (a:Option Nat):(Value.map a).oneCell'=true:=rfl
def eM (P:Wl) (w:We) (T:Wh) (b o:Nat) (v:Wg):Result Unit:=(Instr.storeAt T (.pointer (some ⟨b,o,none⟩)) v).run P w
theorem bQ {T:Wh} {n:Nat} (hi:(P.info? T).map (·.size)=some n) (w:We) (b o:Nat) (xs:Wa):
  (Instr.storeAt T (.pointer (some ⟨b,o,none⟩)) (.agg xs)).run P w=
   match w.heap[b]? with
   |some (.cells cs U (0,0))=>
    if o+n≤cs.size∧xs.size=n∧xs.all (·.oneCell')=true then .ok () (setBlock w b (.cells (if o=0∧n=cs.size then xs else wr cs o xs.toList) U (0,0)))else eM P w T b o (.agg xs)
   |_=>eM P w T b o (.agg xs):=by
 split
 ·rename_i cs U hb;split
  ·rename_i h;obtain⟨h1,h2,h3⟩:=h;split
   ·rename_i h4;obtain⟨rfl,h5⟩:=h4;exact iB hb (by rw[hi,h2]) (by omega) h3
   ·exact k9 hb (by rw[hi,h2]) (by omega) h3
  ·rfl
 ·rfl
def fP (P:Wl) (o:Oper) (a:Act) (w:We) (K:Act→We→Prop) (Q:Exit→Act→We→Prop):Prop:=o.wp P a w K Q
theorem dL {T:Wh} {d:TypeDesc} {n:Nat} (hu:P.underlying T=some d) (hd:d.isRow=true) (hi:(P.info? T).map (·.size)=some n) (dst:Option Tmp) (x:Wm) (ty:Wh) (pos:String) (after:Array Edge) (g:Option (Nat×Bool))
  (a:Act) (w:We) (K:Act→We→Prop) (Q:Exit→Act→We→Prop):
  Oper.wp P {dst:=dst,op:= .load T x,type:=ty,pos:=pos,after:=after,guard:=g} a w K Q=
   match a.eval x with
   | .pointer (some ⟨b,o,none⟩)=>
    (match w.heap[b]? with
    |some (.cells cs _ _)=>if o+n≤cs.size then K (a.put dst (.agg (cs.extract o (o+n)))) w else fP P {dst:=dst,op:= .load T x,type:=ty,pos:=pos,after:=after,guard:=g} a w K Q
    |_=>fP P {dst:=dst,op:= .load T x,type:=ty,pos:=pos,after:=after,guard:=g} a w K Q)
   |_=>fP P {dst:=dst,op:= .load T x,type:=ty,pos:=pos,after:=after,guard:=g} a w K Q:=by
 split
 ·rename_i b o hx;split
  ·rename_i cs U fr hb;split
   ·rename_i dh;have:=nO (P:=P) (ρ:=a.eval) (o:= {dst:=dst,op:= .load T x,type:=ty,pos:=pos,after:=after,guard:=g}) rfl hx (run_load_row hb hu hd hi dh);unfold Oper.wp;rw[this];rfl
   ·rfl
  ·rfl
 ·rfl
theorem aY {T:Wh} {z:Wg} (hz:∀w,(zeroValue T).run P w= .ok z w) (w:We):
  (Instr.alloc T true (.tuple #[])).run P w= .ok (.pointer (some ⟨w.heap.size,0,none⟩)) (w.alloc (.cells z.cells T)):=by
 simp[Instr.alloc,hz,newVar,newRow,newObj];rfl
end
theorem zA:type_of% @List.getElem?_toArray:= @List.getElem?_toArray
theorem zB:type_of% @List.getElem?_cons_succ:= @List.getElem?_cons_succ
theorem zC:type_of% @List.getElem?_cons_zero:= @List.getElem?_cons_zero
theorem zD:type_of% @Array.getD_eq_getD_getElem? := @Array.getD_eq_getD_getElem?
theorem zE:type_of% @Option.getD_some:= @Option.getD_some
theorem zF:type_of% @List.setIfInBounds_toArray:= @List.setIfInBounds_toArray
theorem zG:type_of% @List.set_cons_zero:= @List.set_cons_zero
theorem zH:type_of% @List.set_cons_succ:= @List.set_cons_succ
theorem zK:type_of% @zA.{0}∧type_of% @zB.{0}∧type_of% @zC.{0}:=⟨@zA,@zB,@zC⟩
theorem zL:(∀(a:Act) (d:Tmp) (v:Wg),a.put (some d) v= {a with tmps:=a.tmps.setIfInBounds d v})∧(∀(a:Act) (v:Wg),a.put none v=a)∧type_of% @zF.{0}∧type_of% @zG.{0}∧type_of% @zH.{0}:=⟨fun _ _ _=>rfl,fun _ _=>rfl,@zF,@zG,@zH⟩
theorem zM:(∀(a:Act) (t:Tmp),a.eval (.tmp t)=a.tmps.getD t undef)∧(∀(a:Act) (v:Wg),a.eval (.const v)=v)∧(∀(a:Act) (g:Nat),a.eval (.global g)= .pointer (some ⟨g,0,none⟩))∧(∀(a:Act) (f:Wn),a.eval (.func f)= .func (.func f) #[] #[])∧type_of% @zD.{0}∧type_of% @zA.{0}∧type_of% @zB.{0}∧type_of% @zC.{0}∧type_of% @zE.{0}:=⟨fun _ _=>rfl,fun _ _=>rfl,fun _ _=>rfl,fun _ _=>rfl,@zD,@zA,@zB,@zC,@zE⟩
end Go.Proofs.YtblbegbjlaokjaaGreatDoor
namespace Go.Proofs.YtblbegbjlaokjaaGreatDoor
open Go.ChangeMaps (setBlock)
section
variable {κ ν:Type} {P:Wl} {f:κ→Wg} {g:ν→Wg}
def dG (w:We) (r b:Nat) (f:κ→Wg) (g:ν→Wg) (es:Array MapEntry) (clock:Nat) (rem:List (κ×ν)):Prop:=
 ∃since seen c0,w.heap[r]? =some (.mapIter (some b) since seen c0)∧since≤c0∧(∀x∈es.toList,x.born<since)∧since≤clock∧
  (leftOf es seen).toList.map (fun e=>(e.key,e.val))=rem.map (fun p=>(f p.1,g p.2))
theorem dG.start {w:We} {r b:Nat} {es:Array MapEntry} {clock:Nat} {m:List (κ×ν)} (M:aR f g es clock m) (hr:w.heap[r]? =some (.mapIter (some b) clock #[] clock)):dG w r b f g es clock m:=by
 refine⟨clock,#[],clock,hr,aZq _,M.lt,aZq _,?_⟩;rw[←M.ents];congr 1;unfold leftOf;simp
theorem lG {l:List MapEntry} (hn:(l.map (·.born)).Nodup) {j:Nat} {e:MapEntry} (he:l[j]? =some e):l.filter (fun x=> !(x.born==e.born))=l.eraseIdx j:=by
 induction l generalizing j with
 |nil=>simp at he
 |cons x r ih=>
  simp only[aZo,aYc]at hn;cases j with
  |zero=>
   simp at he;subst he;simp only[aWr,beq_self_eq_true,Bool.not_true,aZr,if_false,List.eraseIdx_cons_zero];rw[aX1];intro y hy
   have:y.born≠x.born:=fun hh=>hn.1 (hh▸aZj.2 ⟨y,hy,rfl⟩);simp[this]
  |succ j=>
   simp only[aW2]at he
   have:x.born≠e.born:=fun hh=>hn.1 (hh▸aZj.2 ⟨e,aZi he,rfl⟩);simp[aWr,this,ih hn.2 he]
theorem EB {es:Array MapEntry} {seen:Array Nat} {e:MapEntry} (hn:(es.toList.map (·.born)).Nodup) {j:Nat} (he:(leftOf es seen).toList[j]? =some e):(leftOf es (seen.push e.born)).toList=(leftOf es seen).toList.eraseIdx j:=by
 have ii:((leftOf es seen).toList.map (·.born)).Nodup:=by
  unfold leftOf;rw[Array.toList_filter];exact hn.sublist (List.filter_sublist.map _)
 rw[←lG ii he];unfold leftOf;rw[Array.toList_filter,Array.toList_filter,List.filter_filter];apply List.filter_congr;intro x _;simp[Array.contains_push];by_cases h:x.born=e.born<;>simp[h]
theorem qM {α:Type}:∀(l:List α) (j:Nat) (h:j<l.length),l.Perm (l[j]::l.eraseIdx j)
 |x::r,0,_=>List.Perm.refl _
 |x::r,j+1,h=>by
  have hj:j<r.length:=by simpa using h
  have:=qM r j hj;simp only[List.getElem_cons_succ,List.eraseIdx_cons_succ];exact(this.cons x).trans (List.Perm.swap _ _ _)
theorem dG.next {w:We} {r b:Nat} {es:Array MapEntry} {clock:Nat} {m rem:List (κ×ν)} (h:dG w r b f g es clock rem) (M:aR f g es clock m) (hb:w.heap[b]? =some (.map es clock)) (ty:Wh):
  (rem=[]∧(Instr.next (.pointer (some ⟨r,0,none⟩)) false ty).run P w= .ok (.tuple #[.bool false]) w)∨
  ∃p rem' w1 it,rem.Perm (p::rem')∧(Instr.next (.pointer (some ⟨r,0,none⟩)) false ty).run P w= .ok (.tuple #[.bool true,f p.1,g p.2]) w1∧w1.heap[r]? =some it∧Mod (fun i=>i=r) w w1∧w1.heap[b]? =some (.map es clock)∧
   ∀w2:We,w2.heap[r]? =some it→w2.heap[b]? =some (.map es clock)→(Instr.entry (.pointer (some ⟨r,0,none⟩))).run P w2= .ok (.tuple #[f p.1,g p.2]) w2∧dG w2 r b f g es clock rem':=by
 obtain⟨since,seen,c0,h1,h2,h3,h4,h5⟩:=h;have Wv:r≠b:=aB h1 hb (by simp);rcases run_next_at (P:=P) w ty r b since c0 seen es clock h1 hb h3 h2 with⟨hz,bi⟩|⟨e,he,w1,Hc,bi⟩
 ·left;refine⟨?_,bi⟩;have:=congrArg List.length h5;simp only[aZs,aYd,hz]at this;exact aY2.1 this.symm
 ·right;obtain⟨j,hj⟩:=aZ8.1 he;have h6:=congrArg (fun l=>l[j]?) h5;simp only[aZv,hj,aYj]at h6;cases hp:rem[j]? with
  |none=>simp[hp]at h6
  |some p=>
   simp only[hp,aYj,aYm,Prod.mk.injEq]at h6;obtain⟨hk,hv⟩:=h6;have af:rem.Perm (p::rem.eraseIdx j):=by
    obtain⟨hlt,rfl⟩:=aZa.1 hp;exact qM rem j hlt
   have pg:Mod (fun _=>False) w w1:=by
    rcases Hc with rfl|rfl
    ·exact Mod.refl _ _
    ·exact(Mod.refl _ _).drew
   have h1':=pg.at0 h1;have el:=pg.at0 hb;have hes:e∈es.toList:=by
    unfold leftOf at he;simp at he;simpa using he.1
   refine⟨p,rem.eraseIdx j,_,_,af,by rw[bi,hk,hv],aF w1 _ (aA h1'),?_,by rw[dA _ _ (Ne.symm Wv)];exact el,fun w2 di cq=>⟨?_,?_⟩⟩
   ·exact(pg.mono (fun _ _ h=>h.elim)).trans (bM w1 r _)
   ·rw[run_entry_at w2 r b since seen es clock e di cq hes M.apart,hk,hv]
   ·refine⟨since,seen.push e.born,clock,di,h4,h3,h4,?_⟩;rw[EB M.apart hj,ChangeMaps.map_eraseIdx,ChangeMaps.map_eraseIdx,h5]
def leftN (w:We) (r b:Nat):Nat:=match w.heap[r]?,w.heap[b]? with
 |some (.mapIter _ _ seen _),some (.map es _)=>(leftOf es seen).size
 |_,_=>0
theorem dG.leftN {w:We} {r b:Nat} {es:Array MapEntry} {clock:Nat} {rem:List (κ×ν)} (h:dG w r b f g es clock rem) (hb:w.heap[b]? =some (.map es clock)):leftN w r b=rem.length:=by
 obtain⟨since,seen,c0,h1,h2,h3,h4,h5⟩:=h;unfold Go.Proofs.YtblbegbjlaokjaaGreatDoor.leftN;rw[h1,hb];have:=congrArg List.length h5;simpa using this
end
end Go.Proofs.YtblbegbjlaokjaaGreatDoor
namespace Go.Proofs.YtblbegbjlaokjaaGreatDoor
open Go.ChangeShapes Go.WideShapes Go.ChangeAt Go.RowKit
open Go.ChangeMaps (setBlock)
theorem sS {w:We} {base:Nat} {a:Addr} {n:Nat} {cs:List Wg} (h:w.cells? base a n=some cs) (hn:0<n):
  cs.length=n∧∃C U fr,a=⟨a.block,a.off,none⟩∧w.heap[a.block]? =some (.cells C U fr)∧C.extract a.off (a.off+n)=cs.toArray∧a.off+n≤C.size:=by
 obtain⟨_,hl,hc⟩:=World.cells?_some h;refine⟨hl,?_⟩;have h0:=hc 0 hn;rw[show a.add 0=a from rfl]at h0;have hs:w.cell? a=some cs[0]:=by rw[h0,aZb (by omega)]
 have ff:=World.cell?_spot hs;obtain⟨b,o,sp⟩:=a;cases ff;cases hb:w.heap[b]? with
 |none=>simp[World.cell?,hb]at hs
 |some ob=>
  cases ob with
  |cells C U fr=>
   have ed:∀i,i<n→C[o+i]? =cs[i]? :=fun i hi=>by
    have:=hc i hi;rw[←this];unfold Addr.add;by_cases ir:i=0
    ·subst ir;simp[World.cell?,hb]
    ·rw[if_neg ir];simp[World.cell?,hb]
   have fu:o+n≤C.size:=by
    have h1:=ed (n-1) (by omega);rw[aZb (by omega)]at h1;have:=(aZf.1 h1).1;omega
   refine⟨C,U,fr,rfl,rfl,?_,fu⟩;apply aY8;intro i;simp only[aYl,List.getElem?_toArray];by_cases hi:i<n
   ·rw[if_pos (by omega),ed i hi]
   ·rw[if_neg (by omega),aY1 (by omega)]
  |_=>simp[World.cell?,hb]at hs
theorem WC {l:List Wg} {n:Nat} {v:Wg} (h:(l.drop n).take 1=[v]):l[n]? =some v:=by
 have:=congrArg (fun l=>l[0]?) h;simpa using this
section
variable {P:Wl} {ops:Array Oper} {Q:Exit→Act→We→Prop}
theorem region_seq {id:Nat} {a:Act} {w:We} (n:Nat) (hn:ops.size=n) (h:wpOps P ops Q (List.range n) a w):(Code.region id ops false).wp P Q a w:=by
 refine wp_region ?_;rw[hn];exact h
theorem oI {a:Act} {w:We} (h:Q .normal a w):wpOps P ops Q [] a w:=h
theorem rM {i:Nat} {r:Wd} {a:Act} {o:Oper} {w w':We} {v:Wg} (ho:ops[i]? =some o) (hw:Region.wanted o (yielded ops a.tmps)=true)
  (hr:(execOp a.eval o).run P w= .ok (.value v) w') (h:wpOps P ops Q r (a.put o.dst v) w'):wpOps P ops Q (i::r) a w:=by
 unfold wpOps;simp only[ho,hw,if_true];refine .inl ?_;unfold Oper.wp;rw[hr];exact h
theorem SJ {i:Nat} {r:Wd} {a:Act} {o:Oper} {w:We} {v:Wg} (ho:ops[i]? =some o) (hw:Region.wanted o (yielded ops a.tmps)=true)
  (hr:(execOp a.eval o).run P w= .ok (.value v) w) (h:wpOps P ops Q r (a.put o.dst v) w):wpOps P ops Q (i::r) a w:=rM ho hw hr h
theorem N6 {i:Nat} {r:Wd} {a:Act} {o:Oper} {w:We} {T:Wh} {x:Wm} {p v:Wg} (ho:ops[i]? =some o) (hw:Region.wanted o (yielded ops a.tmps)=true)
  (aj:o.op= .load T x) (hx:a.eval x=p) (hr:(Instr.loadAt T p).run P w= .ok v w) (h:wpOps P ops Q r (a.put o.dst v) w):wpOps P ops Q (i::r) a w:=
 rM ho hw (by subst hx;simp[execOp,aj,hr]) h
theorem KN {i:Nat} {r:Wd} {a:Act} {o:Oper} {w w':We} {v:Wg} {T:Wh} {n:Nat} {ps:Array (Nat×Wm)} {qs:Array (Nat×Wg)} (ho:ops[i]? =some o) (hw:Region.wanted o (yielded ops a.tmps)=true)
  (aj:o.op= .buildSlice T n ps) (Wr:ps.map (fun(i,x)=>(i,a.eval x))=qs) (hr:(Instr.buildSlice T n qs).run P w= .ok v w') (h:wpOps P ops Q r (a.put o.dst v) w'):wpOps P ops Q (i::r) a w:=
 rM ho hw (by subst Wr;simp[execOp,aj,hr]) h
theorem EZ {i:Nat} {r:Wd} {a:Act} {o:Oper} {w w':We} {v u v':Wg} {t:Wh} {s x:Wm} (ho:ops[i]? =some o) (hw:Region.wanted o (yielded ops a.tmps)=true)
  (aj:o.op= .call {callee:= .builtin .append,args:= #[s,x],argTypes:= #[t,t]}) (hs:a.eval s=v) (hx:a.eval x=u) (hr:(Builtin.append_ #[t,t] o.type #[v,u]).run P w= .ok v' w')
  (h:wpOps P ops Q r (a.put o.dst v') w'):wpOps P ops Q (i::r) a w:=
 rM ho hw (by
  unfold execOp;simp only[aj,resolve,invoke,builtin,Sem.run_bind,Sem.run_pure,Result.andThen_ok,aYr,aZo,aYo,hs,hx,hr]) h
end
structure Sl (α:Type) where
 a:Wb
 l:List α
 c:Nat
def Sl.v {α:Type} (s:Sl α):Wg:= .slice s.a s.l.length s.c
section
variable {α:Type} {f:α→Wa} {n:Nat}
def aS (f:α→Wa) (n:Nat) (w:We) (a:Wb) (l:List α):Prop:=
 l=[]∨∃b o C U fr,a=some ⟨b,o,none⟩∧w.heap[b]? =some (.cells C U fr)∧
  ∀i x,l[i]? =some x→C.extract (o+i*n) (o+i*n+n)=f x∧o+i*n+n≤C.size
theorem aS.mod {w w':We} {a:Wb} {l:List α} {S:Nat→Prop} (h:aS f n w a l) (hm:Mod S w w') (hS:∀b o,a=some ⟨b,o,none⟩→¬S b):aS f n w' a l:=by
 rcases h with h|⟨b,o,C,U,fr,ha,hb,hc⟩
 ·exact .inl h
 ·exact .inr ⟨b,o,C,U,fr,ha,hm.at hb (hS b o ha),hc⟩
theorem aS.mod0 {w w':We} {a:Wb} {l:List α} (h:aS f n w a l) (hm:Mod (fun _=>False) w w'):aS f n w' a l:=h.mod hm (fun _ _ _ h=>h)
theorem aS.modM {w w':We} {a:Wb} {l:List α} {S:Nat→Prop} (h:aS f n w a l) (hm:Mod S w w') (hS:∀b,S b→∀C U fr,w.heap[b]? ≠some (.cells C U fr)):aS f n w' a l:=by
 rcases h with h|⟨b,o,C,U,fr,ha,hb,hc⟩
 ·exact .inl h
 ·exact .inr ⟨b,o,C,U,fr,ha,hm.at hb (fun hs=>hS b hs _ _ _ hb),hc⟩
theorem aS.block {w:We} {a:Wb} {l:List α} (h:aS f n w a l) {i:Nat} {x:α} (hx:l[i]? =some x):∃b o C U fr,a=some ⟨b,o,none⟩∧w.heap[b]? =some (.cells C U fr)∧
  C.extract (o+i*n) (o+i*n+n)=f x∧o+i*n+n≤C.size:=by
 rcases h with rfl|⟨b,o,C,U,fr,ha,hb,hc⟩
 ·simp at hx
 ·exact⟨b,o,C,U,fr,ha,hb,hc i x hx⟩
theorem MA {w:We} {b o n:Nat} {C:Wa} {U:Wh} {fr:Nat×Nat} {cs:Wa} (hb:w.heap[b]? =some (.cells C U fr)) (he:C.extract o (o+n)=cs) {j:Nat} {v:Wg} (hj:cs[j]? =some v):
  w.cell? ⟨b,o+j,none⟩=some v:=by
 subst he;rw[aYl]at hj;split at hj
 ·unfold World.cell?;rw[hb];simpa using hj
 ·cases hj
theorem jV {o n:Nat} {C cs:Wa} (he:C.extract o (o+n)=cs) {j:Nat} {v:Wg} (hj:cs[j]? =some v):C[o+j]? =some v:=by
 subst he;rw[aYl]at hj;split at hj
 ·exact hj
 ·cases hj
end
section
variable {H:Type} {enc:Wh×Wg→H} {α β:Type} {P:Wl}
abbrev zQ (P:Program) (t:TypeId) (d:DataW H):Prop:=∀n∈d.weights P t,n≤reachBytes
def cI (enc:Wh×Wg→H) (P:Wl) (t:Wh) (f:α→Wa) (Ok:We→α→Prop):Prop:=
 ∀(w:We) (base:Nat) (sp:Nat→Bool) (held:Bool) (fuel:Nat) (cs:List Wg) (x:DataW H×List MemPlace),DataW.trod enc P w base sp held fuel t cs=some x→zQ P t x.1→∃a:α,cs.toArray=f a∧Ok w a
def AL (s:Sl α):Wa:= #[s.v]
def iX (f:α→Wa) (n B:Nat) (Ok:We→α→Prop) (w:We) (s:Sl α):Prop:=
 aS f n w s.a s.l∧(∀x∈s.l,Ok w x)∧s.l.length*B≤reachBytes∧(∀y,s.a=some y→y.block<w.heap.size∨s.l=[])∧s.l.length≤maxLen
theorem oS {t:Wh}:∀ {ds:List (DataW H)} {d:DataW H},d∈ds→∀n∈d.weights P t,n∈DataW.weightsAll P t ds
 |d0::ds,d,hd,n,hn=>by
  simp only[DataW.weightsAll,aZh];rcases aZc.1 hd with rfl|hd
  ·exact .inl hn
  ·exact .inr (oS hd n hn)
theorem cR {t e:Wh} {f:α→Wa} {n B:Nat} {Ok:We→α→Prop} (ht:P.underlying t=some (.slice e)) (hn:P.cellsOf e=n) (hB:P.bytesOf e=B) (hn0:0<n) (h:cI enc P e f Ok) (d0:α):
  cI enc P t (AL (α:=α)) (iX f n B Ok):=by
 intro w base sp held fuel cs x hx ar;rcases DataW.trod_slice ht hx with⟨rfl,rfl⟩|⟨a,len,cap,elems,rest,m,rfl,rfl,rfl,_,hlc,tv,hel,hi,_⟩
 ·exact⟨⟨none,[],0⟩,rfl,.inl rfl,fun x hx=>(by simp at hx),by simp,fun y hy=>(by cases hy),by simp⟩
 ·have bk:∀i,i<len→∃r:α,Ok w r∧∃(C:Wa) (U:Wh) (fr:Nat×Nat),a=⟨a.block,a.off,none⟩∧w.heap[a.block]? =some (.cells C U fr)∧C.extract (a.off+i*n) (a.off+i*n+n)=f r∧a.off+i*n+n≤C.size:=fun i hlt=>by
   have hq:=hi i hlt;rw[aZb (by omega),hn,Option.bind_eq_some_iff]at hq;obtain⟨c1,nh,ht1⟩:=hq;have Eb:zQ P e (elems[i].1):=fun k hk=>ar k (by
    simp only[DataW.weights,ht,aZc,aZh];exact .inr (.inl (oS (aZj.2 ⟨_,aXt _,rfl⟩) k hk)))
   obtain⟨r,hr,ak⟩:=h _ _ _ _ _ _ _ ht1 Eb;obtain⟨_,C,U,fr,ha,hb,he,fu⟩:=sS nh hn0;rw[hr]at he;unfold Addr.add at ha hb he fu;by_cases h0:i*n=0
   ·rw[if_pos h0]at ha hb he fu;exact⟨r,ak,C,U,fr,ha,hb,by rw[h0];exact he,by omega⟩
   ·rw[if_neg h0]at ha hb he fu;have ir:0<i:=by
     rcases aWk i with rfl|h
     ·simp at h0
     ·exact h
    have Js:=hi 0 (by omega);rw[aZb (by omega),hn,Option.bind_eq_some_iff]at Js;obtain⟨c2,pp,_⟩:=Js;obtain⟨_,_,_,_,Lv,_⟩:=sS pp hn0;have ha3:a=⟨a.block,a.off,none⟩:=by
     unfold Addr.add at Lv;rw[if_pos (by simp)]at Lv;exact Lv
    exact⟨r,ak,C,U,fr,ha3,hb,he,fu⟩
  let g:Nat→α:=fun i=>if hlt:i<len then(bk i hlt).choose else d0
  have hg:∀i (hlt:i<len),g i=(bk i hlt).choose:=fun i hlt=>by
   show(if hlt:i<len then(bk i hlt).choose else _)=_;rw[dif_pos hlt]
  refine⟨⟨some a,(List.range len).map g,cap⟩,by simp[AL,Sl.v],?_,fun x hx=> ?_,?_,fun x hx=> ?_,by simp;omega⟩
  ·by_cases hz:len=0
   ·subst hz;exact .inl rfl
   ·obtain⟨r0,_,C,U,fr,ha,hb,_,_⟩:=bk 0 (by omega);refine .inr ⟨a.block,a.off,C,U,fr,congrArg some ha,hb,fun i r hr=> ?_⟩;rw[aZv]at hr;by_cases hlt:i<len
    ·rw[List.getElem?_range hlt]at hr;simp only[aYj,aYm]at hr;subst hr;obtain⟨_,C',U',fr',_,el,he,fu⟩:=(bk i hlt).choose_spec;rw[hb]at el;cases el;rw[hg i hlt];exact⟨he,fu⟩
    ·rw[aY1 (by simp;omega)]at hr;simp at hr
  ·obtain⟨i,rf,rfl⟩:=aZj.1 hx;have hlt:=aYu.1 rf;rw[hg i hlt];exact(bk i hlt).choose_spec.1
  ·have:=ar ((elems.length+rest.length)*B) (by
    simp only[DataW.weights,ht,aZc,aZs,hB];exact .inl trivial)
   have h2:len*B≤(elems.length+rest.length)*B:=aXu _ (by omega);simp only[aZs,List.length_range];omega
  ·cases hx;by_cases hz:len=0
   ·subst hz;exact .inr rfl
   ·obtain⟨r0,_,C,U,fr,ha,hb,_,_⟩:=bk 0 (by omega);exact .inl (aA hb)
theorem zR {t:Wh} {fs:Array Field} {parts:List (DataW H)} (ht:P.underlying t=some (.struct fs)) (ar:zQ P t (.agg parts)) {i:Nat} {fl:Field} {d:DataW H} (hf:fs[i]? =some fl) (hd:parts[i]? =some d):zQ P fl.type d:=fun k hk=>ar k (by
 simp only[DataW.weights,ht];exact DataW.weights_mem_each (j:=i) (by simp[hf]) hd k hk)
theorem xC {ts:List Wh} {ds:List (DataW H)} (h:(DataW.weightsEach P ts ds).all (·≤reachBytes)=true) {j:Nat} {t:Wh} {d:DataW H} (ht:ts[j]? =some t) (hd:ds[j]? =some d):zQ P t d:=fun k hk=>by
 have:=aYh.1 h _ (DataW.weights_mem_each ht hd k hk);simpa using this
end
section
variable {α:Type} {f:α→Wa} {n B:Nat} {P:Wl} {T E:Wh}
structure oM (P:Wl) (T E:Wh) (f:α→Wa) (n B:Nat):Prop where
 u:P.underlying T=some (.slice E)
 info:∃i z,P.info? E=some i∧i.zero=some z∧i.size=n∧i.bytes=B∧z.cells.size=n
 pos:0<n
 size:∀x,(f x).size=n
 one:∀x,∀u∈(f x).toList,u.oneCell'=true
def cellsOf (f:α→Wa) (l:List α):List Wg:=l.flatMap fun x=>(f x).toList
theorem cL (l m:List α):cellsOf f (l++m)=cellsOf f l++cellsOf f m:=by simp[cellsOf]
theorem fF (h:∀x,(f x).size=n):∀l:List α,(cellsOf f l).length=l.length*n
 |[]=>by simp[cellsOf]
 |x::l=>by
  have:=fF h l;unfold cellsOf at this⊢;rw[aWe,aZg,this,aYd,h x,aZu,aWh];omega
theorem fE (h:∀x,(f x).size=n):∀(l:List α) (i:Nat) (x:α),l[i]? =some x→((cellsOf f l).drop (i*n)).take n=(f x).toList
 |[],i,x,h=>by simp at h
 |y::l,0,x,hx=>by
  simp at hx;subst hx;show(((f y).toList++cellsOf f l).drop (0*n)).take n=_;rw[aWy,List.drop_zero]
  have:n=(f y).toList.length:=by rw[aYd,h]
  rw[this,List.take_left]
 |y::l,i+1,x,hx=>by
  have:=fE h l i x (by simpa using hx);show(((f y).toList++cellsOf f l).drop ((i+1)*n)).take n=_;have h2:(f y).toList.length=n:=by rw[aYd,h]
  rw[List.drop_append,h2,List.drop_eq_nil_of_le (by rw[h2,aWh];omega),aYq,aWh,Nat.one_mul,Nat.add_sub_cancel];exact this
def aE (f:α→Wa) (n:Nat) (E:Wh) (w:We) (base:Nat) (v:Wg) (l:List α):Prop:=w.ownsRow base E n v l.length (cellsOf f l)
theorem aE.nil (w:We) (base:Nat):aE f n E w base (.slice none 0 0) []:=World.ownsRow_nil w base _ _
theorem aE.mod {w w':We} {base:Nat} {v:Wg} {l:List α} {S:Nat→Prop} (h:aE f n E w base v l) (hm:Mod S w w') (hS:∀b,v.ownBlock=some b→¬S b):aE f n E w' base v l:=by
 refine⟨h.1,?_⟩;rcases h.2 with hn|⟨g,cap,cur,rfl,hb,hg,rest⟩
 ·exact .inl hn
 ·exact .inr ⟨g,cap,cur,rfl,hb,hm.at hg (hS g rfl),rest⟩
theorem aE.mod0 {w w':We} {base:Nat} {v:Wg} {l:List α} (h:aE f n E w base v l) (hm:Mod (fun _=>False) w w'):aE f n E w' base v l:=h.mod hm (fun _ _ h=>h)
theorem aE.lt {w:We} {base:Nat} {v:Wg} {l:List α} (h:aE f n E w base v l):∀k,v.ownBlock=some k→base≤k∧k<w.heap.size:=World.ownsRow.lt h
theorem aE.at (hT:oM P T E f n B) {w:We} {base:Nat} {v:Wg} {l:List α} (h:aE f n E w base v l):
  ∃a c,v= .slice a l.length c∧aS f n w a l∧(∀x,a=some x→base≤x.block∧x.block<w.heap.size∧v.ownBlock=some x.block)∧l.length≤maxLen:=by
 rcases h.2 with⟨rfl,hn⟩|⟨g,cap,cur,rfl,hb,hg,se,tv,fz,br⟩
 ·obtain rfl:l=[]:=aYn hn;exact⟨none,0,rfl,.inl rfl,fun x hx=>(by cases hx),(by simp)⟩
 ·refine⟨_,cap,rfl,.inr ⟨g,0,cur,_,_,rfl,hg,fun i r hr=> ?_⟩,fun x hx=> ?_,aYb se tv⟩
  ·have hi:i<l.length:=(aZa.1 hr).1;have dh:(i+1)*n≤cap*n:=aXu _ (by omega);have Ar:(i+1)*n≤l.length*n:=aXu _ hi;rw[aWh,Nat.one_mul]at dh Ar;refine⟨?_,by omega⟩;have h1:=fE hT.size l i r hr;rw[←br]at h1;have h2:((cur.toList.take (l.length*n)).drop (i*n)).take n=(cur.toList.drop (i*n)).take n:=by
    rw[List.drop_take,List.take_take,aX7];omega
   rw[h2]at h1;apply Array.ext';rw[←h1,aXv];simp[List.extract]
  ·cases hx;exact⟨hb,aA hg,rfl⟩
theorem wS {w:We} {t:Wh} {v:Wg} {base:Nat} {l:List α} (hT:oM P T E f n B) (h:aE f n E w base v l) (ty:Wh) (c:Nat):(Builtin.append_ #[T,T] ty #[v,.slice none 0 c]).run P w= .ok v w:=by
 obtain⟨i,z,hi,hz,h1,h2,h3⟩:=hT.info;rcases h.2 with⟨rfl,hn⟩|⟨g,cap,cur,rfl,hb,hg,se,tv,fz,br⟩
 ·simp[Builtin.append_,run_underlying hT.u,sizeOf,typeInfo,hi,Builtin.lenOf,Builtin.firstCells]
 ·simp[Builtin.append_,run_underlying hT.u,sizeOf,typeInfo,hi,Builtin.lenOf,Builtin.firstCells,se,storeCells]
theorem aE.appendB (hT:oM P T E f n B) {w:We} {base:Nat} {v:Wg} {l q:List α} {a:Wb} {c:Nat} (h:aE f n E w base v l) (hq:aS f n w a q) (ag:l.length+q.length≤1000000000000) (hbytes:(l.length+q.length)*B≤140737488355328) (hbase:base≤w.heap.size) (ty:Wh):
  ∃v' w',(Builtin.append_ #[T,T] ty #[v,.slice a q.length c]).run P w= .ok v' w'∧aE f n E w' base v' (l++q)∧Mod (fun i=>v.ownBlock=some i) w w'∧(v'.ownBlock=v.ownBlock∨v'.ownBlock=some w.heap.size):=by
 obtain⟨i0,z,hi,hz,bj,bp,yj⟩:=hT.info;cases a with
 |none=>
  obtain rfl:q=[]:=by
   rcases hq with h|⟨_,_,_,_,_,h,_⟩
   ·exact h
   ·cases h
  refine⟨v,w,wS (t:=T) hT h ty c,by rwa[aYx],Mod.refl _ _,.inl rfl⟩
 |some ad=>
  obtain⟨v',w',bi,bn,hg,_,hat⟩:=run_append_own_at (P:=P) w base T ty E i0 z n B hT.u hi hz bj bp yj hT.pos v l.length (cellsOf f l) h ad q.length c (cellsOf f q) (fF hT.size q) (fun j u hu=>by
   have hj:j<(cellsOf f q).length:=(aZa.1 hu).1;rw[fF hT.size]at hj;have hn:=hT.pos;have hd:j/n<q.length:=Nat.div_lt_of_lt_mul (by rw[aWo];exact hj);obtain⟨x,hx⟩:∃x,q[j/n]? =some x:=⟨_,aZb hd⟩;obtain⟨b,o,C,U,fr,ha,hb,he,fu⟩:=hq.block hx;cases ha;have hjm:j/n*n+j % n=j:=by rw[aWo];exact aWu j n
   have hlt:=aWt j hn;have dw:=fE hT.size q (j/n) x hx;have hv:(f x)[j % n]? =some u:=by
    have h1:=congrArg (fun L=>L[j % n]?) dw;simp only[aY7,List.getElem?_drop,hlt,if_true,hjm]at h1;rw[hu]at h1;simpa using h1.symm
   have ed:=MA hb he hv;have ib:(⟨b,o,none⟩:Addr).add j=⟨b,o+j/n*n+j % n,none⟩:=by
    rw[Nat.add_assoc,hjm];unfold Addr.add;split<;>simp_all
   rw[ib];exact ed) (fun u hu=>by
   obtain⟨x,_,hx⟩:=List.mem_flatMap.1 hu;exact hT.one x u hx) (by simp[maxLen];omega) (by
   exact hbytes) hbase
  refine⟨v',w',bi,?_,⟨hg.os,hg.tape,hg.output,hg.size,fun i hi hs=>hg.block i hi (fun e=>hs e.symm)⟩,hat⟩;unfold aE;rw[cL,aZg];exact bn
theorem aE.append (hT:oM P T E f n B) {w:We} {base:Nat} {v:Wg} {l q:List α} {a:Wb} {c:Nat} (h:aE f n E w base v l) (hq:aS f n w a q) (ag:l.length+q.length≤1000000) (hB:B≤100000000) (hbase:base≤w.heap.size) (ty:Wh):
  ∃v' w',(Builtin.append_ #[T,T] ty #[v,.slice a q.length c]).run P w= .ok v' w'∧aE f n E w' base v' (l++q)∧Mod (fun i=>v.ownBlock=some i) w w'∧(v'.ownBlock=v.ownBlock∨v'.ownBlock=some w.heap.size):=by
 exact aE.appendB hT h hq (by omega) (by
  have:(l.length+q.length)*B≤1000000*100000000:=Nat.mul_le_mul ag hB;omega) hbase ty
end
section
variable {α:Type} {f:α→Wa} {n B:Nat} {P:Wl} {T E:Wh}
def TW (f:α→Wa) (n:Nat) (E:Wh) (w:We) (base:Nat) (v:Wg) (l:List α):Prop:=
 (v= .slice none 0 0∧l=[])∨
 ∃g o cap cur,v= .slice (some ⟨g,o,none⟩) l.length cap∧base≤g∧w.heap[g]? =some (.cells cur E (0,0))∧l.length≤cap∧cap≤maxLen∧(0<cap→o+cap*n≤cur.size)∧(cur.toList.drop o).take (l.length*n)=cellsOf f l
theorem aE.off {w:We} {base:Nat} {v:Wg} {l:List α} (h:aE f n E w base v l):TW f n E w base v l:=by
 rcases h.2 with⟨rfl,hn⟩|⟨g,cap,cur,rfl,hb,hg,se,tv,fz,br⟩
 ·exact .inl ⟨rfl,aYn hn⟩
 ·exact .inr ⟨g,0,cap,cur,rfl,hb,hg,se,tv,fun _=>by omega,by rw[List.drop_zero];exact br⟩
end
section
variable {α:Type} {f:α→Wa} {n B:Nat} {P:Wl} {T E:Wh}
theorem N3 (hT:oM P T E f n B) {g o cap len k:Nat} (hk:k≤len) (hc:len≤cap) (w:We):
  (Instr.sliceAt T (.slice (some ⟨g,o,none⟩) len cap) (some (.int .i64 (k:Int))) none none).run P w= .ok (.slice (some (if cap=k then⟨g,o,none⟩else⟨g,o+k*n,none⟩)) (len-k) (cap-k)) w:=by
 obtain⟨i0,z,hi,hz,bj,bp,yj⟩:=hT.info;have ib:(⟨g,o,none⟩:Addr).add (k*n)=⟨g,o+k*n,none⟩:=by
  unfold Addr.add;split<;>simp_all
 have hp:(0:Int)≤(k:Int)∧(k:Int)≤(len:Int):=⟨by omega,by omega⟩;simp only[Instr.sliceAt,Instr.slice,Instr.sliceBounds,Instr.sliceBound,asIntOf,sizeOf,typeInfo,run_underlying hT.u,hi,Sem.run_bind,Sem.run_pure,Result.andThen_ok];rw[if_pos hp];simp only[Sem.run_pure,Result.andThen_ok,Go.program,Sem.run,hi,bj,aYj,aWm,ib];by_cases nh:cap=k<;>simp[nh]
theorem CP (hT:oM P T E f n B) {g o cap len k:Nat} (hk:k≤cap) (w:We):
  (Instr.sliceAt T (.slice (some ⟨g,o,none⟩) len cap) none (some (.int .i64 (k:Int))) none).run P w= .ok (.slice (some ⟨g,o,none⟩) k cap) w:=by
 obtain⟨i0,z,hi,hz,bj,bp,yj⟩:=hT.info;have ib:(⟨g,o,none⟩:Addr).add (0*n)=⟨g,o,none⟩:=by
  unfold Addr.add;rw[aWy,if_pos rfl]
 have hp:(0:Int)≤(k:Int)∧(k:Int)≤(cap:Int):=⟨by omega,by omega⟩;simp only[Instr.sliceAt,Instr.slice,Instr.sliceBounds,Instr.sliceBound,asIntOf,sizeOf,typeInfo,run_underlying hT.u,hi,Sem.run_bind,Sem.run_pure,Result.andThen_ok];rw[if_pos hp];simp only[Sem.run_pure,Result.andThen_ok,Go.program,Sem.run,hi,bj,aYj,aWm,ib,Nat.sub_zero,ite_self]
end
theorem aS.one {α:Type} {f:α→Wa} {n:Nat} {w:We} {b:Nat} {C:Wa} {U:Wh} {fr} (hb:w.heap[b]? =some (.cells C U fr)) (x:α) (hC:C=f x) (hn:(f x).size=n):aS f n w (some ⟨b,0,none⟩) [x]:=by
 subst hC;refine .inr ⟨b,0,_,U,fr,rfl,hb,fun i y hy=> ?_⟩;cases i with
 |zero=>
  simp at hy;subst hy;refine⟨?_,by omega⟩;rw[aWy,aXe,←hn];simp
 |succ i=>simp at hy
theorem DY {α:Type} {l:List α} {j:Nat} {x:α} (h:l[j]? =some x):l.drop j=x::l.drop (j+1):=by
 obtain⟨hj,rfl⟩:=aZa.1 h;exact aXr hj
theorem qS (w:We) (a b c:Obj):(((w.alloc a).alloc b).alloc c).heap[w.heap.size]? =some a∧(((w.alloc a).alloc b).alloc c).heap[w.heap.size+1]? =some b∧(((w.alloc a).alloc b).alloc c).heap[w.heap.size+1+1]? =some c:=by
 have e:(((w.alloc a).alloc b).alloc c).heap=((w.heap.push a).push b).push c:=rfl;rw[e];have n1:w.heap.size+1≠w.heap.size:=by omega
 have n2:w.heap.size≠w.heap.size+1+1:=by omega
 have n3:w.heap.size+1≠w.heap.size+1+1:=by omega
 have s2:(w.heap.push a).size=w.heap.size+1:=by simp
 have s3:((w.heap.push a).push b).size=w.heap.size+1+1:=by simp
 refine⟨?_,?_,?_⟩
 ·rw[aXk,s3,if_neg n2,aXk,s2,if_neg (Ne.symm n1),aXk,if_pos rfl]
 ·rw[aXk,s3,if_neg n3,aXk,s2,if_pos rfl]
 ·rw[aXk,s3,if_pos rfl]
theorem uJ (w:We) (a b:Obj):((w.alloc a).alloc b).heap[w.heap.size]? =some a∧((w.alloc a).alloc b).heap[w.heap.size+1]? =some b:=by
 have e:((w.alloc a).alloc b).heap=(w.heap.push a).push b:=rfl;rw[e];have n2:w.heap.size≠w.heap.size+1:=by omega
 have s2:(w.heap.push a).size=w.heap.size+1:=by simp
 refine⟨?_,?_⟩
 ·rw[aXk,s2,if_neg n2,aXk,if_pos rfl]
 ·rw[aXk,s2,if_pos rfl]
theorem F2 {α:Type} (f:α→Bool) (l:List α) {i:Nat} {x:α} (h:l[i]? =some x):(l.take (i+1)).any f=((l.take i).any f||f x):=by
 rw[aYa,h];simp
theorem wO {α:Type} {f:α→Bool} {l:List α} {i:Nat} (h:(l.take i).any f=true):l.any f=true:=by
 rw[aYv]at *;obtain⟨x,hx,hf⟩:=h;exact⟨x,List.mem_of_mem_take hx,hf⟩
theorem results_cell1 {P:Wl} {fn:Func} {t:Tmp} {T:Wh} {tmps:Wa} {p:Addr} {v:Wg} {w:We} (h:fn.results= #[.cell t T]) (ht:tmps.getD t undef= .pointer (some p))
  (hl:(Instr.loadAt T (.pointer (some p))).run P w= .ok v w):(results fn tmps).run P w= .ok v w:=by
 have ec:(loadVar T p).run P w= .ok v w:=by simpa[Instr.loadAt,Instr.sureAddr] using hl
 unfold results;rw[h];have Ay:∀ {α β:Type} (f:α→β) (x:Sem α) (w:We),(f<$>x).run P w=(x.run P w).andThen fun a w=> .ok (f a) w:=fun f x w=>by
  show(x>>=fun a=>pure (f a)).run P w=_;rw[Sem.run_bind];rfl
 simp only[List.mapM_toArray,List.mapM_cons,List.mapM_nil,ht,asAddr,Sem.run_bind,Ay,Sem.run_pure,Result.andThen_ok,ec];rfl
end Go.Proofs.YtblbegbjlaokjaaGreatDoor
namespace Go.Proofs.YtblbegbjlaokjaaGreatDoor
section
variable {P:Wl} {ops:Array Oper} {Q:Exit→Act→We→Prop} {S:We→Prop} {C:Wn→Wa→Wg→Prop} {w0:We} {κ:Nat→Nat}
theorem TD.conv {i:Nat} {r:Wd} {a:Act} {B:Bx} {o:Oper} {s d:Wh} {x:Wm} {p v:Wg} (hS:S w0) (ho:ops[i]? =some o) (hk:κ i=1) (hw:Region.wanted o (yielded ops a.tmps)=true)
  (aj:o.op= .convert s d x) (hx:a.eval x=p) (hr:∀w,S w→(convert s d p).run P w= .ok v w) (h:TD P ops Q S C w0 κ r (a.put o.dst v) B):TD P ops Q S C w0 κ (i::r) a B:=
 TD.val1 hS ho hk hw (fun w hs=>by subst hx;simp[execOp,aj,hr w hs]) h
end
end Go.Proofs.YtblbegbjlaokjaaGreatDoor
namespace Go.Proofs.YtblbegbjlaokjaaGreatDoor
open Go.ChangeMaps (setBlock)
abbrev aK:=(Nat→Prop)→World→Prop
def bX (K:aK):Prop:=∀T w w',K T w→Mod (fun i=>¬T i) w w'→K T w'
def LB.o (b:LB):Obj:=if b.ty=4294967311 then .map #[] 0 else .cells b.cells b.ty (0,0)
theorem LB.o_cells {b:LB} (h:(b.ty==4294967311)=false):b.o= .cells b.cells b.ty (0,0):=by
 unfold LB.o;rw[if_neg (by simpa using h)]
def C9 (P:Wl) (s:Sem Next) (V:Nat→Wg) (z:Wa) (ty:Wh):Prop:=(ty=4294967311→z= #[])∧∀w,s.run P w= .ok (.value (V w.heap.size)) (w.alloc (LB.o ⟨z,ty,0⟩))
theorem C9.inj {P:Wl} {s:Sem Next} {V V':Nat→Wg} {z z':Wa} {ty ty':Wh} (h:C9 P s V z ty) (h':C9 P s V' z' ty'):V=V'∧z=z'∧ty=ty':=by
 have hV:V=V':=by
  funext p;have h1:=h.2 {(default:We)with heap:=Array.replicate p default};have h2:=h'.2 {(default:We)with heap:=Array.replicate p default};rw[h1]at h2;simp only[Array.size_replicate,Result.ok.injEq,Next.value.injEq]at h2;exact h2.1
 refine⟨hV,?_⟩;have h1:=(h.2 default).symm.trans (h'.2 default);simp only[Result.ok.injEq]at h1;have h2:=congrArg (fun w:We=>w.heap[(default:We).heap.size]?) h1.2;have h3:(LB.o ⟨z,ty,0⟩)=LB.o ⟨z',ty',0⟩:=by
  have e1:=heap_alloc_new (default:We) (LB.o ⟨z,ty,0⟩);have e2:=heap_alloc_new (default:We) (LB.o ⟨z',ty',0⟩);exact aZz (e1.symm.trans (h2.trans e2))
 have c1:=h.1;have c2:=h'.1;unfold LB.o at h3;dsimp only at h3;by_cases a:ty=4294967311
 ·by_cases b:ty'=4294967311
  ·exact⟨(c1 a).trans (c2 b).symm,a.trans b.symm⟩
  ·rw[if_pos a,if_neg b]at h3;cases h3
 ·by_cases b:ty'=4294967311
  ·rw[if_neg a,if_pos b]at h3;cases h3
  ·rw[if_neg a,if_neg b]at h3;injection h3 with h4 h5
   exact⟨h4,h5⟩
theorem C9.of {P:Wl} {s:Sem Next} {V:Nat→Wg} {z:Wa} {ty:Wh} (hm:(ty==4294967311)=false) (h:∀w,s.run P w= .ok (.value (V w.heap.size)) (w.alloc (.cells z ty))):C9 P s V z ty:=by
 refine⟨fun e=> ?_,fun w=> ?_⟩
 ·rw[e]at hm;cases hm
 ·rw[LB.o_cells (b:=⟨z,ty,0⟩) hm];exact h w
structure RT (T0:Nat→Prop) (w0:We) (B:Bx) (K:aK) (T:Nat→Prop) (w:We):Prop where
 k:K T w
 lt:∀i,T i→i<w.heap.size
 old:∀i,i<w0.heap.size→T i→T0 i
 mod:Mod T0 w0 w
 box:∀p b,B p=some b→w0.heap.size≤p∧¬T p∧w.heap[p]? =some b.o
def RG (T0:Nat→Prop) (w0:We) (B:Bx) (K:aK) (w:We):Prop:=∃T,RT T0 w0 B K T w
def kT (T0:Nat→Prop) (w0:We) (B:Bx) (K:aK):Prop:=∃w,RG T0 w0 B K w
section
variable {T0:Nat→Prop} {w0:We}
theorem RT.none {B:Bx} {K:aK} {T:Nat→Prop} {w:We} (h:RT T0 w0 B K T w):B w.heap.size=Option.none:=by
 cases hb:B w.heap.size with
 |none=>rfl
 |some b=>have:=aA (h.box _ _ hb).2.2;omega
theorem RT.alloc {B:Bx} {K:aK} {T:Nat→Prop} {w:We} (hK:bX K) (h:RT T0 w0 B K T w) (z:Wa) (ty:Wh) (d:Tmp):RT T0 w0 (B.set w.heap.size ⟨z,ty,d⟩) K T (w.alloc (LB.o ⟨z,ty,d⟩)) where
 k:=hK T w _ h.k ((Mod.refl _ w).alloc _)
 lt i hi:=aZd (h.lt i hi) ((Mod.refl (fun _=>False) w).alloc (LB.o ⟨z,ty,d⟩)).size
 old:=h.old
 mod:=h.mod.alloc _
 box p b hb:=by
  unfold Bx.set at hb;split at hb
  ·rename_i hp;subst hp;cases hb;exact⟨h.mod.size,fun hT=>by have:=h.lt _ hT;omega,by rw[heap_alloc_new]⟩
  ·have:=h.box p b hb;exact⟨this.1,this.2.1,by rw[heap_alloc_old w _ (aA this.2.2)];exact this.2.2⟩
theorem RT.store {B:Bx} {K:aK} {T:Nat→Prop} {w:We} (hK:bX K) (h:RT T0 w0 B K T w) {p:Nat} {b:LB} (hb:B p=some b) (cs:Wa):RT T0 w0 (B.set p {b with cells:=cs}) K T (setBlock w p (LB.o {b with cells:=cs})) where
 k:=hK T w _ h.k ((Mod.refl _ w).setBlock _ (fun _=>(h.box p b hb).2.1))
 lt i hi:=aZd (h.lt i hi) (bM w p _).size
 old:=h.old
 mod:=h.mod.setBlock _ (fun hlt=>absurd hlt (Nat.not_lt.2 (h.box p b hb).1))
 box q c hc:=by
  have hp:=h.box p b hb;unfold Bx.set at hc;split at hc
  ·rename_i hq;subst hq;cases hc;exact⟨hp.1,hp.2.1,aF w _ (aA hp.2.2)⟩
  ·rename_i hq;have:=h.box q c hc;exact⟨this.1,this.2.1,by rw[dA w _ hq];exact this.2.2⟩
theorem RT.weaken {B B':Bx} {K:aK} {T:Nat→Prop} {w:We} (h:RT T0 w0 B' K T w) (hB:∀p b,B p=some b→B' p=some b):RT T0 w0 B K T w:=
 ⟨h.k,h.lt,h.old,h.mod,fun p b hb=>h.box p b (hB p b hb)⟩
theorem kT.weaken {B:Bx} {K:aK} {p:Nat} {b:LB} (h:kT T0 w0 (B.set p b) K) (hp:B p=Option.none):kT T0 w0 B K:=by
 obtain⟨w,T,h⟩:=h;refine⟨w,T,h.weaken fun q c hc=> ?_⟩;rw[Bx.set_ne _ (fun e=>by rw[e,hp]at hc;cases hc)];exact hc
theorem Bx.set_set (B:Bx) (p:Nat) (b c:LB):(B.set p b).set p c=B.set p c:=by
 funext q;unfold Bx.set;split<;>rfl
theorem Bx.set_id {B:Bx} {p:Nat} {b:LB} (h:B p=some b):B.set p b=B:=by
 funext q;unfold Bx.set;split
 ·rename_i e;rw[e,h]
 ·rfl
theorem kT.store {B:Bx} {K:aK} (hK:bX K) {p:Nat} {b:LB} (hb:B p=some b) (cs:Wa) (h:kT T0 w0 B K):kT T0 w0 (B.set p {b with cells:=cs}) K:=by
 obtain⟨w,T,h⟩:=h;exact⟨_,T,h.store hK hb cs⟩
theorem kT.unstore {B:Bx} {K:aK} (hK:bX K) {p:Nat} {b:LB} (hb:B p=some b) (cs:Wa) (h:kT T0 w0 (B.set p {b with cells:=cs}) K):kT T0 w0 B K:=by
 obtain⟨w,T,h⟩:=h;have h2:=h.store hK (p:=p) (b:= {b with cells:=cs}) (Bx.set_same _ _ _) b.cells;rw[Bx.set_set]at h2;have e:B.set p b=B:=Bx.set_id hb;have h3:RT T0 w0 (B.set p b) K T (setBlock w p b.o):=h2;rw[e]at h3;exact⟨_,T,h3⟩
theorem kT.alloc {B:Bx} {K:aK} (hK:bX K) (h:kT T0 w0 B K) (z:Wa) (ty:Wh) (d:Tmp):∃p,B p=Option.none∧kT T0 w0 (B.set p ⟨z,ty,d⟩) K:=by
 obtain⟨w,T,h⟩:=h;exact⟨w.heap.size,h.none,_,T,h.alloc hK z ty d⟩
end
section
variable (P:Wl) (ops:Array Oper) (Q:Exit→Act→We→Prop) (T0:Nat→Prop) (w0:We) (κ:Nat→Nat) (υ:Nat→List Tmp)
def pR (o:Oper) (a:Act) (w:We) (R:Wg→We→Prop):Prop:=
 (∃v w',(execOp a.eval o).run P w= .ok (.value v) w'∧R v w')∨(∃w',(execOp a.eval o).run P w= .ok .skip w'∧R undef w')∨
 (∃f args,(execOp a.eval o).run P w= .ok (.enter f args) w∧Calls P f args w fun e w'=>∃v,e= .returned v∧R v w')
structure jI (o:Oper) (a:Act) (us:List Tmp) (B:Bx) (K:aK) (K':Wg→aK):Prop where
 cl:∀v,bX (K' v)
 run:∀T w,K T w→(∀i,T i→i<w.heap.size)→(∀i,i<w0.heap.size→T i→T0 i)→Mod T0 w0 w→
  (∀p b,B p=some b→b.tag∈us→w0.heap.size≤p∧¬T p∧w.heap[p]? =some b.o)→
  pR P o a w fun v w'=>∃T',K' v T' w'∧Mod T w w'∧(∀i,T' i→T i∨w.heap.size≤i)∧(∀i,T' i→i<w'.heap.size)
inductive TG:Wd→Act→Bx→aK→Prop
 |nil {a:Act} {B:Bx} {K:aK}:(∀w,RG T0 w0 B K w→Q .normal a w)→TG [] a B K
 |val {i:Nat} {r:Wd} {o:Oper} {a:Act} {B:Bx} {K:aK} {v:Wg}:ops[i]? =some o→κ i=0→YieldsIf P ops (Mod T0 w0) o v a→TG r (a.put o.dst v) B K→TG (i::r) a B K
 |alloc {i:Nat} {r:Wd} {o:Oper} {a:Act} {B:Bx} {K:aK} {d:Tmp} {ty:Wh} {z:Wa} (V:Nat→Wg):ops[i]? =some o→κ i=3→
   Region.wanted o (yielded ops a.tmps)=true→o.dst=some d→
   C9 P (execOp a.eval o) V z ty→
   (∀p,B p=none→kT T0 w0 (B.set p ⟨z,ty,d⟩) K→TG r (a.put o.dst (V p)) (B.set p ⟨z,ty,d⟩) K)→TG (i::r) a B K
 |store {i:Nat} {r:Wd} {o:Oper} {a:Act} {B:Bx} {K:aK} {d:Tmp} {ty:Wh} {y:Wm} {p:Nat} {b:LB}:ops[i]? =some o→κ i=4→
   Region.wanted o (yielded ops a.tmps)=true→o.dst=none→o.op= .store ty (.tmp d) y→a.eval (.tmp d)= .pointer (some ⟨p,0,none⟩)→B p=some b→b.tag=d→
   (∀w,w.heap[p]? =some b.o→(execOp a.eval o).run P w= .ok .skip (setBlock w p (LB.o {b with cells:=(a.eval y).cells})))→
   TG r a (B.set p {b with cells:=(a.eval y).cells}) K→TG (i::r) a B K
 |eff {i:Nat} {r:Wd} {o:Oper} {a:Act} {B:Bx} {K:aK} (K':Wg→aK):ops[i]? =some o→κ i=6→Region.wanted o (yielded ops a.tmps)=true→
   jI P T0 w0 o a (υ i) B K K'→(∀v,kT T0 w0 B (K' v)→TG r (a.put o.dst v) B (K' v))→TG (i::r) a B K
end
section
variable {P:Wl} {ops:Array Oper} {Q:Exit→Act→We→Prop} {T0:Nat→Prop} {w0:We} {κ:Nat→Nat} {υ:Nat→List Tmp}
theorem pR.same {o:Oper} {a a':Act} {w:We} {R:Wg→We→Prop} (he:execOp a'.eval o=execOp a.eval o) (h:pR P o a w R):pR P o a' w R:=by
 unfold pR at *;rw[he];exact h
theorem pR.ex {o:Oper} {a:Act} {w:We} {R:Wg→We→Prop} (h:pR P o a w R):∃v w',R v w':=by
 rcases h with⟨v,w',_,h⟩|⟨w',_,h⟩|⟨f,args,_,h⟩
 ·exact⟨v,w',h⟩
 ·exact⟨_,w',h⟩
 ·obtain⟨e,w',fr,⟨v,_,hv⟩,_⟩:=h [];exact⟨v,w',hv⟩
theorem jI.same {o:Oper} {a a':Act} {us:List Tmp} {B:Bx} {K:aK} {K':Wg→aK} (he:execOp a'.eval o=execOp a.eval o) (h:jI P T0 w0 o a us B K K'):jI P T0 w0 o a' us B K K':=
 ⟨h.cl,fun T w h1 h2 h3 h4 h5=>(h.run T w h1 h2 h3 h4 h5).same he⟩
theorem jI.boxes {o:Oper} {a:Act} {us:List Tmp} {B B':Bx} {K:aK} {K':Wg→aK} (hB:∀p b,b.tag∈us→B p=Option.some b→B' p=Option.some b) (h:jI P T0 w0 o a us B K K'):jI P T0 w0 o a us B' K K':=
 ⟨h.cl,fun T w h1 h2 h3 h4 h5=>h.run T w h1 h2 h3 h4 fun p b hb ht=>h5 p b (hB p b ht hb) ht⟩
theorem jI.step {o:Oper} {a:Act} {us:List Tmp} {B:Bx} {K:aK} {K':Wg→aK} (h:jI P T0 w0 o a us B K K') {T:Nat→Prop} {w:We} (hR:RT T0 w0 B K T w):
  pR P o a w fun v w'=>RG T0 w0 B (K' v) w':=by
 have key:∀v w',(∃T',K' v T' w'∧Mod T w w'∧(∀i,T' i→T i∨w.heap.size≤i)∧(∀i,T' i→i<w'.heap.size))→RG T0 w0 B (K' v) w':=by
  rintro v w' ⟨T',h1,h2,h3,h4⟩;refine⟨T',h1,h4,fun i hi hT=> ?_,hR.mod.then h2 hR.old,fun p b hb=> ?_⟩
  ·rcases h3 i hT with hh|hh
   ·exact hR.old i hi hh
   ·have:=hR.mod.size;omega
  ·obtain⟨b1,b2,b3⟩:=hR.box p b hb;refine⟨b1,fun hT=> ?_,h2.at b3 b2⟩;rcases h3 p hT with hh|hh
   ·exact b2 hh
   ·have:=aA b3;omega
 rcases h.run T w hR.k hR.lt hR.old hR.mod (fun p b hb _=>hR.box p b hb)with⟨v,w',h1,h2⟩|⟨w',h1,h2⟩|⟨f,args,h1,h2⟩
 ·exact .inl ⟨v,w',h1,key _ _ h2⟩
 ·exact .inr (.inl ⟨w',h1,key _ _ h2⟩)
 ·refine .inr (.inr ⟨f,args,h1,h2.mono ?_⟩);rintro e w' ⟨v,he,hv⟩;exact⟨v,he,key _ _ hv⟩
theorem jI.inh {o:Oper} {a:Act} {us:List Tmp} {B:Bx} {K:aK} {K':Wg→aK} (h:jI P T0 w0 o a us B K K') (hI:kT T0 w0 B K):∃v,kT T0 w0 B (K' v):=by
 obtain⟨w,T,hR⟩:=hI;obtain⟨v,w',hv⟩:=(h.step hR).ex;exact⟨v,w',hv⟩
theorem C8 {o:Oper} {a:Act} {u v:Wg} (h:YieldsIf P ops (Mod T0 w0) o u a) (k:YieldsIf P ops (Mod T0 w0) o v a):u=v:=by
 rcases h with⟨h1,h2⟩|⟨h1,rfl⟩<;>rcases k with⟨k1,k2⟩|⟨k1,rfl⟩
 ·have:=(h2 w0 (Mod.refl _ _)).symm.trans (k2 w0 (Mod.refl _ _));simpa using this
 ·rw[h1]at k1;cases k1
 ·rw[h1]at k1;cases k1
 ·rfl
theorem TG.kinds {i:Nat} {r:Wd} {a:Act} {B:Bx} {K:aK} (h:TG P ops Q T0 w0 κ υ (i::r) a B K):κ i=0∨κ i=3∨κ i=4∨κ i=6:=by
 cases h<;>omega
theorem TG.inv_val {i:Nat} {r:Wd} {a:Act} {B:Bx} {K:aK} (h:TG P ops Q T0 w0 κ υ (i::r) a B K) (hk:κ i=0) {o:Oper} (ho:ops[i]? =some o):
  ∃v,YieldsIf P ops (Mod T0 w0) o v a∧TG P ops Q T0 w0 κ υ r (a.put o.dst v) B K:=by
 cases h with
 |val ho' _ h1 h2=>rw[ho]at ho';cases ho';exact⟨_,h1,h2⟩
 |alloc _ _ cu=>omega
 |store _ cu=>omega
 |eff _ _ cu=>omega
theorem TG.inv_alloc {i:Nat} {r:Wd} {a:Act} {B:Bx} {K:aK} (h:TG P ops Q T0 w0 κ υ (i::r) a B K) (hk:κ i=3) {o:Oper} (ho:ops[i]? =some o):
  Region.wanted o (yielded ops a.tmps)=true∧∃(d:Tmp) (ty:Wh) (z:Wa) (V:Nat→Wg),o.dst=some d∧
   C9 P (execOp a.eval o) V z ty∧
   ∀p,B p=none→kT T0 w0 (B.set p ⟨z,ty,d⟩) K→TG P ops Q T0 w0 κ υ r (a.put o.dst (V p)) (B.set p ⟨z,ty,d⟩) K:=by
 cases h with
 |val _ cu=>omega
 |alloc V ho' _ h1 h2 h3 h4=>rw[ho]at ho';cases ho';exact⟨h1,_,_,_,V,h2,h3,h4⟩
 |store _ cu=>omega
 |eff _ _ cu=>omega
theorem TG.inv_store {i:Nat} {r:Wd} {a:Act} {B:Bx} {K:aK} (h:TG P ops Q T0 w0 κ υ (i::r) a B K) (hk:κ i=4) {o:Oper} (ho:ops[i]? =some o):
  Region.wanted o (yielded ops a.tmps)=true∧o.dst=none∧∃d ty y p b,o.op= .store ty (.tmp d) y∧a.eval (.tmp d)= .pointer (some ⟨p,0,none⟩)∧B p=some b∧b.tag=d∧
   (∀w,w.heap[p]? =some b.o→(execOp a.eval o).run P w= .ok .skip (setBlock w p (LB.o {b with cells:=(a.eval y).cells})))∧
   TG P ops Q T0 w0 κ υ r a (B.set p {b with cells:=(a.eval y).cells}) K:=by
 cases h with
 |val _ cu=>omega
 |alloc _ _ cu=>omega
 |store ho' _ h1 h2 h3 h4 h5 h6 h7 h8=>rw[ho]at ho';cases ho';exact⟨h1,h2,_,_,_,_,_,h3,h4,h5,h6,h7,h8⟩
 |eff _ _ cu=>omega
theorem TG.inv_eff {i:Nat} {r:Wd} {a:Act} {B:Bx} {K:aK} (h:TG P ops Q T0 w0 κ υ (i::r) a B K) (hk:κ i=6) {o:Oper} (ho:ops[i]? =some o):
  Region.wanted o (yielded ops a.tmps)=true∧∃K',jI P T0 w0 o a (υ i) B K K'∧∀v,kT T0 w0 B (K' v)→TG P ops Q T0 w0 κ υ r (a.put o.dst v) B (K' v):=by
 cases h with
 |val _ cu=>omega
 |alloc _ _ cu=>omega
 |store _ cu=>omega
 |eff K' ho' _ h1 h2 h3=>rw[ho]at ho';cases ho';exact⟨h1,K',h2,h3⟩
def mY (o:Oper):Option Tmp:=match o.op with
 | .store _ (.tmp d) _=>some d
 |_=>none
def xG (kx ko:Nat) (ux uo:List Tmp) (ox oo:Oper):Bool:=
 match kx,ko with
 |0,0=>true
 |0,3=>true
 |0,4=>true
 |0,6=>true
 |3,0=>true
 |3,3=>true
 |3,4=>true
 |4,0=>true
 |4,3=>true
 |4,4=>decide (mY ox≠mY oo)
 |4,6=>uo.all fun d=>decide (mY ox≠some d)
 |6,0=>true
 |6,3=>ux.all fun d=>decide (oo.dst≠some d)
 |6,4=>ux.all fun d=>decide (mY oo≠some d)
 |_,_=>false
section swap
variable {x o:Nat} {r:Wd} {a:Act} {B:Bx} {K:aK} {ox oo:Oper}
theorem TG.swap (hsel:∀(j:Nat) (p:Oper) cs b,ops[j]? =some p→p.op≠ .select cs b) (hK:bX K) (hI:kT T0 w0 B K) (hx:ops[x]? =some ox) (ho:ops[o]? =some oo) (az:ox.apart ops oo=true) (hk:xG (κ x) (κ o) (υ x) (υ o) ox oo=true)
  (h:TG P ops Q T0 w0 κ υ (x::o::r) a B K):TG P ops Q T0 w0 κ υ (o::x::r) a B K:=by
 obtain⟨h1,h2,h3⟩:=Oper.apart_spec az;have eo:∀(a:Act) v,execOp (a.put ox.dst v).eval oo=execOp a.eval oo:=fun a v=>execOp_put oo (fun cs b=>hsel o oo cs b ho) a ox.dst v h1;have wo:∀(a:Act) v,Region.wanted oo (yielded ops (a.put ox.dst v).tmps)=Region.wanted oo (yielded ops a.tmps):=fun a v=>wanted_put oo a ox.dst v h1;have ex:∀(a:Act) v,execOp (a.put oo.dst v).eval ox=execOp a.eval ox:=fun a v=>execOp_put ox (fun cs b=>hsel x ox cs b hx) a oo.dst v h3;have wx:∀(a:Act) v,Region.wanted ox (yielded ops (a.put oo.dst v).tmps)=Region.wanted ox (yielded ops a.tmps):=fun a v=>wanted_put ox a oo.dst v h3;have pc:∀(a:Act) u v,(a.put ox.dst u).put oo.dst v=(a.put oo.dst v).put ox.dst u:=fun a u v=>Act.put_comm a u v h2;have evx':∀(a:Act) v (y:Wm),y∈ox.op.operands→(a.put oo.dst v).eval y=a.eval y:=fun a v y hy=>Act.eval_put (fun d hd e=>h3 d hd (by
  subst e;exact aZl _ (List.mem_filterMap.2 ⟨.tmp d,by simpa using hy,rfl⟩)))
 have evo':∀(a:Act) v (y:Wm),y∈oo.op.operands→(a.put ox.dst v).eval y=a.eval y:=fun a v y hy=>Act.eval_put (fun d hd e=>h1 d hd (by
  subst e;exact aZl _ (List.mem_filterMap.2 ⟨.tmp d,by simpa using hy,rfl⟩)))
 have yo:∀(a:Act) v u,YieldsIf P ops (Mod T0 w0) oo u (a.put ox.dst v)→YieldsIf P ops (Mod T0 w0) oo u a:=fun a v u hy=>hy.of_same (eo a v).symm (wo a v).symm;have yx:∀(a:Act) v u,YieldsIf P ops (Mod T0 w0) ox u a→YieldsIf P ops (Mod T0 w0) ox u (a.put oo.dst v):=fun a v u hy=>hy.of_same (ex a v) (wx a v);rcases h.kinds with kx|kx|kx|kx
 ·--x is a value
  obtain⟨v,hv,ht⟩:=h.inv_val kx hx;rcases ht.kinds with ko|ko|ko|ko
  ·obtain⟨u,hu,uf⟩:=ht.inv_val ko ho;refine .val ho ko (yo _ _ _ hu) (.val hx kx (yx _ _ _ hv) ?_);rw[←pc];exact uf
  ·obtain⟨w1,d,ty,z,V,hd,hr,uf⟩:=ht.inv_alloc ko ho;rw[wo]at w1;rw[eo]at hr;refine .alloc V ho ko w1 hd hr fun p hp hi=> .val hx kx (yx _ _ _ hv) ?_;rw[←pc];exact uf p hp hi
  ·obtain⟨w1,hd,d,ty,y,p,b,aj,du,hb,bu,hr,uf⟩:=ht.inv_store ko ho;rw[wo]at w1;rw[eo,evo' a _ _ (by simp[aj,Op.operands])]at hr;rw[evo' a _ _ (by simp[aj,Op.operands])]at du;rw[evo' a _ _ (by simp[aj,Op.operands])]at uf;exact .store ho ko w1 hd aj du hb bu hr (.val hx kx hv uf)
  ·obtain⟨w1,K',hE,uf⟩:=ht.inv_eff ko ho;rw[wo]at w1;refine .eff K' ho ko w1 (hE.same (eo a v).symm) fun u hu=> .val hx kx (yx _ _ _ hv) ?_;rw[←pc];exact uf u hu
 ·--x is a new box
  obtain⟨w1,d,ty,z,V,hd,hr,ht⟩:=h.inv_alloc kx hx;obtain⟨p0,jl,ir⟩:=hI.alloc hK z ty d;rcases(ht p0 jl ir).kinds with ko|ko|ko|ko
  ·obtain⟨u,hu,_⟩:=(ht p0 jl ir).inv_val ko ho;refine .val ho ko (yo _ _ _ hu) (.alloc V hx kx (by rw[wx];exact w1) hd (by rw[ex];exact hr) fun p hp hi=> ?_);obtain⟨u',og,uf⟩:=(ht p hp hi).inv_val ko ho;obtain rfl:=C8 (yo _ _ _ hu) (yo _ _ _ og);rw[←pc];exact uf
  ·obtain⟨w2,d2,ty2,z2,V2,cm,di,_⟩:=(ht p0 jl ir).inv_alloc ko ho;rw[wo]at w2;rw[eo]at di;refine .alloc V2 ho ko w2 cm di fun p2 ce rf=> ?_;refine .alloc V hx kx (by rw[wx];exact w1) hd (by rw[ex];exact hr) fun p1 fx Ck=> ?_;obtain⟨aw,vd⟩:=Bx.set_none fx;rw[Bx.set_comm _ (Ne.symm aw)]at Ck⊢;have su:(B.set p1 ⟨z,ty,d⟩) p2=none:=by rw[Bx.set_ne _ (Ne.symm aw)];exact ce
   obtain⟨_,d',ty',z',V',py,lj,gp⟩:=(ht p1 vd (Ck.weaken su)).inv_alloc ko ho;rw[eo]at lj;obtain⟨rfl,rfl,rfl⟩:=C9.inj di lj;rw[cm]at py;cases py;rw[←pc];exact gp p2 su Ck
  ·obtain⟨_,_,d0,_,_,q0,b0,df,jn,ft,Sv,_⟩:=(ht p0 jl ir).inv_store ko ho;have jd:d0≠d:=fun e=>h1 d hd (by
    subst e;exact aZl _ (List.mem_filterMap.2 ⟨.tmp d0,by simp[df,Op.operands],rfl⟩))
   have Js:q0≠p0:=fun e=>by
    rw[e,Bx.set_same]at ft;cases ft;exact jd Sv.symm
   obtain⟨w2,cm,d2,ty2,y,p,b,aj,du,hb,bu,di,_⟩:=(ht p0 jl ir).inv_store ko ho;rw[df]at aj;cases aj;rw[evo' a _ _ (by simp[df,Op.operands])]at du jn;rw[jn]at du;simp only[Value.pointer.injEq,aYm,Addr.mk.injEq,and_true]at du;subst du;rw[Bx.set_ne _ Js]at hb;rw[wo]at w2;rw[eo,evo' a _ _ (by simp[df,Op.operands])]at di;refine .store ho ko w2 cm df jn hb bu di ?_;refine .alloc V hx kx w1 hd hr fun p2 ce rf=> ?_;obtain⟨aw,su⟩:=Bx.set_none ce;have cq:(B.set p2 ⟨z,ty,d⟩) q0=some b:=by rw[Bx.set_ne _ (Ne.symm aw)];exact hb
   rw[←Bx.set_comm _ aw]at rf;obtain⟨_,_,d',ty',y',p',b',jq,gd,el,wu,lj,gp⟩:=(ht p2 su (rf.unstore hK cq _)).inv_store ko ho;rw[df]at jq;cases jq;rw[evo' a _ _ (by simp[df,Op.operands]),jn]at gd;simp only[Value.pointer.injEq,aYm,Addr.mk.injEq,and_true]at gd;subst gd;rw[Bx.set_ne _ (Ne.symm aw),hb]at el;cases el;rw[evo' a _ _ (by simp[df,Op.operands])]at gp;rw[Bx.set_comm _ (Ne.symm aw)];exact gp
  ·rw[kx,ko]at hk;cases hk
 ·--x is a store into a new box
  obtain⟨w1,hd,d,ty,y,p,b,aj,du,hb,bu,hr,ht⟩:=h.inv_store kx hx;have iu:mY ox=some d:=by unfold mY;rw[aj]
  rcases ht.kinds with ko|ko|ko|ko
  ·obtain⟨u,hu,gp⟩:=ht.inv_val ko ho;refine .val ho ko hu ?_;refine .store (b:=b) hx kx (by rw[wx];exact w1) hd aj (by rw[evx' a _ _ (by simp[aj,Op.operands])];exact du) hb bu
    (by rw[ex,evx' a _ _ (by simp[aj,Op.operands])];exact hr) ?_
   rw[evx' a _ _ (by simp[aj,Op.operands])];exact gp
  ·obtain⟨w2,d2,ty2,z2,V2,cm,di,gp⟩:=ht.inv_alloc ko ho;refine .alloc V2 ho ko w2 cm di fun p2 ce rf=> ?_;have aw:p2≠p:=fun e=>by rw[e,hb]at ce;cases ce
   have cq:(B.set p2 ⟨z2,ty2,d2⟩) p=some b:=by rw[Bx.set_ne _ (Ne.symm aw)];exact hb
   refine .store (b:=b) hx kx (by rw[wx];exact w1) hd aj (by rw[evx' a _ _ (by simp[aj,Op.operands])];exact du) cq bu
    (by rw[ex,evx' a _ _ (by simp[aj,Op.operands])];exact hr) ?_
   rw[evx' a _ _ (by simp[aj,Op.operands]),Bx.set_comm _ aw];have Ef:=rf.store hK cq (a.eval y).cells;rw[Bx.set_comm _ aw]at Ef;exact gp p2 (by rw[Bx.set_ne _ aw];exact ce) Ef
  ·obtain⟨w2,cm,d2,ty2,y2,p2,b2,ki,uw,cq,ld,di,gp⟩:=ht.inv_store ko ho;have hso:mY oo=some d2:=by unfold mY;rw[ki]
   have aw:d≠d2:=by
    rw[kx,ko]at hk
    have:mY ox≠mY oo:=by simpa[xG] using hk
    rw[iu,hso]at this;exact fun e=>this (by rw[e])
   have Cm:p2≠p:=fun e=>by
    subst e;rw[Bx.set_same]at cq;cases cq;exact aw (bu.symm.trans ld)
   rw[Bx.set_ne _ Cm]at cq;refine .store (b:=b2) ho ko w2 cm ki uw cq ld di ?_;refine .store (b:=b) hx kx w1 hd aj du (by rw[Bx.set_ne _ (Ne.symm Cm)];exact hb) bu hr ?_;rw[Bx.set_comm _ Cm];exact gp
  ·obtain⟨w2,K',hE,gp⟩:=ht.inv_eff ko ho;have Vq:d∉υ o:=by
    rw[kx,ko]at hk;have hk:∀e∈υ o,mY ox≠some e:=by simpa[xG] using hk
    exact fun hm=>hk d hm iu
   have hod:oo.dst=none∨True:= .inr trivial;refine .eff K' ho ko w2 (hE.boxes fun q c hc hq=> ?_) fun u hu=> ?_
   ·by_cases hqp:q=p
    ·subst hqp;rw[Bx.set_same]at hq;cases hq;exact absurd (bu▸hc) Vq
    ·rw[Bx.set_ne _ hqp]at hq;exact hq
   ·refine .store (b:=b) hx kx (by rw[wx];exact w1) hd aj (by rw[evx' a _ _ (by simp[aj,Op.operands])];exact du) hb bu
     (by rw[ex,evx' a _ _ (by simp[aj,Op.operands])];exact hr) ?_
    rw[evx' a _ _ (by simp[aj,Op.operands])];exact gp u (hu.store (hE.cl u) hb _)
 ·--x is an effect
  obtain⟨w1,K',hE,ht⟩:=h.inv_eff kx hx;obtain⟨v0,ik⟩:=hE.inh hI;rcases(ht v0 ik).kinds with ko|ko|ko|ko
  ·obtain⟨u,hu,_⟩:=(ht v0 ik).inv_val ko ho;refine .val ho ko (yo _ _ _ hu) (.eff K' hx kx (by rw[wx];exact w1) (hE.same (ex a u)) fun v hv=> ?_);obtain⟨u',og,uf⟩:=(ht v hv).inv_val ko ho;obtain rfl:=C8 (yo _ _ _ hu) (yo _ _ _ og);rw[←pc];exact uf
  ·obtain⟨w2,d2,ty2,z2,V2,cm,di,_⟩:=(ht v0 ik).inv_alloc ko ho;rw[wo]at w2;rw[eo]at di;have Vq:d2∉υ x:=by
    rw[kx,ko]at hk;have hk:∀e∈υ x,oo.dst≠some e:=by simpa[xG] using hk
    exact fun hm=>hk d2 hm cm
   refine .alloc V2 ho ko w2 cm di fun p2 ce rf=> ?_;refine .eff K' hx kx (by rw[wx];exact w1) ((hE.same (ex a _)).boxes fun q c hc hq=> ?_) fun v hv=> ?_
   ·rw[Bx.set_ne _ (fun e=>by rw[e,ce]at hq;cases hq)];exact hq
   ·obtain⟨_,d',ty',z',V',py,lj,gp⟩:=(ht v (hv.weaken ce)).inv_alloc ko ho;rw[eo]at lj;obtain⟨rfl,rfl,rfl⟩:=C9.inj di lj;rw[cm]at py;cases py;rw[←pc];exact gp p2 ce hv
  ·obtain⟨w2,cm,d2,ty2,y2,p2,b2,ki,uw,cq,ld,di,_⟩:=(ht v0 ik).inv_store ko ho;have hso:mY oo=some d2:=by unfold mY;rw[ki]
   have Vq:d2∉υ x:=by
    rw[kx,ko]at hk;have hk:∀e∈υ x,mY oo≠some e:=by simpa[xG] using hk
    exact fun hm=>hk d2 hm hso
   rw[wo]at w2;rw[evo' a _ _ (by simp[ki,Op.operands])]at uw;rw[eo,evo' a _ _ (by simp[ki,Op.operands])]at di;refine .store (b:=b2) ho ko w2 cm ki uw cq ld di ?_;refine .eff K' hx kx w1 (hE.boxes fun q c hc hq=> ?_) fun v hv=> ?_
   ·by_cases hqp:q=p2
    ·subst hqp;rw[cq]at hq;cases hq;exact absurd (ld▸hc) Vq
    ·rw[Bx.set_ne _ hqp];exact hq
   ·obtain⟨_,_,d',ty',y',p',b',jq,gd,el,wu,lj,gp⟩:=(ht v (hv.unstore (hE.cl v) cq _)).inv_store ko ho;rw[ki]at jq;cases jq;rw[evo' a _ _ (by simp[ki,Op.operands]),uw]at gd;simp only[Value.pointer.injEq,aYm,Addr.mk.injEq,and_true]at gd;subst gd;rw[cq]at el;cases el;rw[evo' a _ _ (by simp[ki,Op.operands])]at gp;exact gp
  ·rw[kx,ko]at hk;cases hk
end swap
theorem TG.front (hsel:∀(j:Nat) (p:Oper) cs b,ops[j]? =some p→p.op≠ .select cs b) {o:Nat} {oo:Oper} (ho:ops[o]? =some oo) {post:Wd}:∀(pre:Wd) (a:Act) (B:Bx) (K:aK),bX K→kT T0 w0 B K→
   (∀x∈pre,∃ox,ops[x]? =some ox∧ox.apart ops oo=true∧xG (κ x) (κ o) (υ x) (υ o) ox oo=true)→
   TG P ops Q T0 w0 κ υ (pre++o::post) a B K→TG P ops Q T0 w0 κ υ (o::(pre++post)) a B K
 |[],_,_,_,_,_,_,h=>h
 |x::pre,a,B,K,hK,hI,hp,h=>by
  obtain⟨ox,hx,az,hk⟩:=hp x (by simp);have qt:∀y∈pre,∃oy,ops[y]? =some oy∧oy.apart ops oo=true∧xG (κ y) (κ o) (υ y) (υ o) oy oo=true:=fun y hy=>hp y (aZp _ hy);refine TG.swap hsel hK hI hx ho az hk ?_;rcases h.kinds with kx|kx|kx|kx
  ·obtain⟨v,h1,h2⟩:=h.inv_val kx hx;exact .val hx kx h1 (TG.front hsel ho pre _ _ _ hK hI qt h2)
  ·obtain⟨w1,d,T,z,V,hd,hr,ht⟩:=h.inv_alloc kx hx;exact .alloc V hx kx w1 hd hr fun p Bi hi=>TG.front hsel ho pre _ _ _ hK hi qt (ht p Bi hi)
  ·obtain⟨w1,hd,d,T,y,p,b,aj,du,hb,bu,hr,ht⟩:=h.inv_store kx hx;exact .store hx kx w1 hd aj du hb bu hr (TG.front hsel ho pre _ _ _ hK (hI.store hK hb _) qt ht)
  ·obtain⟨w1,K',hE,ht⟩:=h.inv_eff kx hx;exact .eff K' hx kx w1 hE fun v hv=>TG.front hsel ho pre _ _ _ (hE.cl v) hv qt (ht v hv)
def kK (ops:Array Oper) (κ:Nat→Nat) (υ:Nat→List Tmp) (x o:Nat):Bool:=
 (!(x==o)&&(cU ops x).testBit o)||match ops[x]?,ops[o]? with
  |some ox,some oo=>ox.apart ops oo&&xG (κ x) (κ o) (υ x) (υ o) ox oo
  |_,_=>false
def cN (ops:Array Oper) (κ:Nat→Nat) (υ:Nat→List Tmp):Wd→Bool
 |[]=>true
 |x::r=>r.all (fun o=>kK ops κ υ x o)&&cN ops κ υ r
def qU (ops:Array Oper) (κ:Nat→Nat) (υ:Nat→List Tmp) (l:Wd):Bool:=
 Region.noSelect ops&&((List.range ops.size).all fun i=>match ops[i]? with|none=>false|some o=>o.after.all fun e=> !Region.binds .any e||decide (e.on<i))&&
 (decide (l.length=ops.size)&&(l.all (fun i=>decide (i<ops.size))&&((List.range ops.size).all fun i=>l.contains i)))&&(decide l.Nodup&&cN ops κ υ l)
theorem dW {i:Nat} {post:Wd}:∀ {pre:Wd},cN ops κ υ (pre++i::post)=true→(∀x∈pre,kK ops κ υ x i=true)∧cN ops κ υ (pre++post)=true
 |[],h=>by
  simp only[aYq,cN,aZy]at h;exact⟨fun _ hx=>(aZe hx).elim,h.2⟩
 |x::pre,h=>by
  simp only[aYg,cN,aZy,aYh]at h;obtain⟨h1,h2⟩:=dW h.2;refine⟨fun y hy=> ?_,?_⟩
  ·rcases aZc.1 hy with rfl|hy
   ·exact h.1 i (by simp)
   ·exact h1 y hy
  ·simp only[aYg,cN,aZy,aYh];refine⟨fun y hy=>h.1 y ?_,h2⟩;rcases aZh.1 hy with hy|hy
   ·exact aZl _ hy
   ·exact aYi _ (aZp _ hy)
theorem pR.wp {o:Oper} {a:Act} {w:We} {R:Wg→We→Prop} {i:Nat} {K:Act→We→Prop} (ho:ops[i]? =some o) (hw:Region.wanted o (yielded ops a.tmps)=true) (h:pR P o a w R) (hn:∀v w',R v w'→K (a.put o.dst v) w'):wpOp P ops Q i K a w:=by
 rcases h with⟨v,w',h1,h2⟩|⟨w',h1,h2⟩|⟨f,args,h1,h2⟩
 ·exact eX ho hw h1 (hn v w' h2)
 ·exact l9 ho hw h1 (hn undef w' h2)
 ·unfold wpOp;simp only[ho,hw,if_true];refine .inl ?_;unfold Oper.wp;rw[h1];refine h2.mono ?_;rintro e w' ⟨v,rfl,hv⟩;exact hn v w' hv
theorem TG.sound (hsel:∀(j:Nat) (p:Oper) cs b,ops[j]? =some p→p.op≠ .select cs b)
  (au:∀i o,ops[i]? =some o→∀e∈o.after,Region.binds .any e=true→e.on<i):
  ∀(fuel:Nat) (l:Wd) (listed:Array Bool) (a:Act) (B:Bx) (K:aK) (w:We),l.length=fuel→l.Nodup→(∀i∈l,i<ops.size)→cN ops κ υ l=true→cA ops listed l→bX K→
   RG T0 w0 B K w→TG P ops Q T0 w0 κ υ l a B K→wpAny P .any ops Q fuel listed a w:=by
 intro fuel
 induction fuel with
 |zero=>
  intro l listed a B K w hl hn hlt hp hL hK hR h;obtain rfl:l=[]:=aY2.1 hl;refine⟨?_,?_⟩
  ·rw[aWq];intro i hi;have:=(hL.mem i).2 (mem_ready.1 hi).1;cases this
  ·cases h with|nil h=>exact h w hR
 |succ fuel ih=>
  intro l listed a B K w hl hn hlt hp hL hK hR h;refine⟨fun et=> ?_,fun i hi=> ?_⟩
  ·exfalso
   match l,hl with
   |i::l',_=>exact cF au hL hlt i i (by simp) (aZq _) et
  ·obtain⟨vj,o,ho,bm⟩:=mem_ready.1 hi;obtain⟨pre,post,rfl⟩:=aXf ((hL.mem i).2 vj);obtain⟨h1,h2⟩:=dW hp;have hf:=TG.front hsel ho pre a B K hK ⟨w,hR⟩ (fun x hx=>by
    have:=h1 x hx;unfold kK at this;have qf:ops[x]? =some (ops[x]'(hlt x (by simp[hx]))):=aYe _;rw[qf,ho]at this;simp only[aY4,aZy]at this;rcases this with bo|ak
    ·obtain⟨_,bo⟩:=(bN bo.2).resolve_left (fun e=>by have:=bo.1;simp[e]at this);have jj:=bS hL.closed _ x i o ho bm bo;have ec:=aX ((hL.mem x).1 (by simp[hx]));rw[jj]at ec;cases ec
    ·exact⟨_,qf,ak.1,ak.2⟩) h
   have gk:(pre++post).length=fuel:=by simp at hl⊢;omega
   have ii:(pre++post).Nodup:=hn.sublist (aYy (aYk _ _) _);have cg:∀j∈pre++post,j<ops.size:=fun j hj=>hlt j (by
    rcases aZh.1 hj with hj|hj
    ·exact aZl _ hj
    ·exact aYi _ (aZp _ hj))
   have gz:=hL.next hn ho bm;rcases hf.kinds with ko|ko|ko|ko
   ·obtain⟨v,hy,ht⟩:=hf.inv_val ko ho;obtain⟨T,fg⟩:=hR;exact YieldsIf.wpOp ho hy fg.mod (ih _ _ _ _ _ _ gk ii cg h2 gz hK ⟨T,fg⟩ ht)
   ·obtain⟨hw,d,T,z,V,hd,hr,ht⟩:=hf.inv_alloc ko ho;obtain⟨U,fg⟩:=hR;have zl:RG T0 w0 (B.set w.heap.size ⟨z,T,d⟩) K (w.alloc (LB.o ⟨z,T,d⟩)):=⟨U,fg.alloc hK z T d⟩;unfold wpOp;simp only[ho,hw,if_true];refine .inl ?_;unfold Oper.wp;rw[hr.2 w];exact ih _ _ _ _ _ _ gk ii cg h2 gz hK zl (ht _ fg.none ⟨_,zl⟩)
   ·obtain⟨hw,hd,d,T,y,p,b,aj,du,hb,bu,hr,ht⟩:=hf.inv_store ko ho;obtain⟨U,fg⟩:=hR;unfold wpOp;simp only[ho,hw,if_true];refine .inl ?_;unfold Oper.wp;rw[hr w (fg.box p b hb).2.2];simp only[Oper.upon,hd];exact ih _ _ _ _ _ _ gk ii cg h2 gz hK ⟨U,fg.store hK hb _⟩ ht
   ·obtain⟨hw,K',hE,ht⟩:=hf.inv_eff ko ho;obtain⟨U,fg⟩:=hR;exact(hE.step fg).wp ho hw fun v w' hv=>ih _ _ _ _ _ _ gk ii cg h2 gz (hE.cl v) hv (ht v ⟨w',hv⟩)
theorem IE {a:Act} {w1:We} {K:aK} (l:Wd) (ak:qU ops κ υ l=true) (hK:bX K) (hR:RG T0 w0 Bx.nil K w1)
  (h:TG P ops Q T0 w0 κ υ l a Bx.nil K):wpAny P .any ops Q ops.size (Array.replicate ops.size false) a w1:=by
 simp only[qU,aZy,aYh,decide_eq_true_eq]at ak;obtain⟨⟨⟨h1,h2⟩,h3,h4,h5⟩,ct,h6⟩:=ak;have au:∀i o,ops[i]? =some o→∀e∈o.after,Region.binds .any e=true→e.on<i:=fun i o ho e he hb=>by
  have:=h2 i (aYu.2 (aZf.1 ho).1);rw[ho]at this;have:=aZ5.1 this e he;simpa[hb] using this
 refine TG.sound (Region.noSelect_spec h1) au _ l _ a _ _ _ h3 ct h4 h6 ?_ hK hR h;refine⟨by simp,fun i=> ?_,fun i o hi=> ?_⟩
 ·constructor
  ·intro hi;have:=h4 i hi;simp[this]
  ·intro hi
   have:i<ops.size:=by
    rcases aYt i ops.size with h'|h'
    ·exact h'
    ·simp[Nat.not_lt.2 h']at hi
   simpa using h5 i (aYu.2 this)
 ·exfalso
  have:(Array.replicate ops.size false).getD i false=false:=by
   by_cases h':i<ops.size
   ·simp[h']
   ·simp[h']
  rw[this]at hi;cases hi
theorem bL {id:Nat} {a:Act} {w:We} {K:aK} (l:Wd) (hm:P.follows .mixedOrders=true) (ak:qU ops κ υ l=true) (hK:bX K) (hk:K T0 w) (hlt:∀i,T0 i→i<w.heap.size)
  (h:TG P ops Q T0 w κ υ l a Bx.nil K):(Code.region id ops true).wp P Q a w:=
 wp_region_any hm (IE l ak hK ⟨T0,hK T0 w w.drew hk (Mod.refl _ w).drew,hlt,fun _ _ h=>h,(Mod.refl _ w).drew,fun _ _ hh=>by cases hh⟩ h)
theorem wp_gpass0 {id:Nat} {a:Act} {w:We} {K:aK} (l:Wd) (hlin:Region.linearise .any ops 0=List.range ops.size) (ak:qU ops κ υ l=true) (hK:bX K) (hk:K T0 w) (hlt:∀i,T0 i→i<w.heap.size)
  (h:TG P ops Q T0 w κ υ l a Bx.nil K):(Code.region id ops false).wp P Q a w:=by
 refine wp_region ?_;rw[←hlin];exact wpAny_sound ops.size 0 _ a w (IE l ak hK ⟨T0,hk,hlt,fun _ _ h=>h,Mod.refl _ _,fun _ _ hh=>by cases hh⟩ h)
end
section
variable {P:Wl} {ops:Array Oper} {Q:Exit→Act→We→Prop} {T0:Nat→Prop} {w0:We} {κ:Nat→Nat} {υ:Nat→List Tmp}
theorem TG.mono {l:Wd} {a:Act} {B:Bx} {K2:aK} (h:TG P ops Q T0 w0 κ υ l a B K2):∀ {K1:aK},(∀T w,K1 T w→K2 T w)→TG P ops Q T0 w0 κ υ l a B K1:=by
 have rg:∀ {B:Bx} {K1 K2:aK} {w:We},(∀T w,K1 T w→K2 T w)→RG T0 w0 B K1 w→RG T0 w0 B K2 w:=fun hK ⟨T,h⟩=>⟨T,hK _ _ h.k,h.lt,h.old,h.mod,h.box⟩
 induction h with
 |nil h=>intro K1 hK;exact .nil fun w hw=>h w (rg hK hw)
 |val h1 h2 h3 _ ih=>intro K1 hK;exact .val h1 h2 h3 (ih hK)
 |alloc V h1 h2 h3 h4 h5 _ ih=>intro K1 hK;exact .alloc V h1 h2 h3 h4 h5 fun p hp hi=>ih p hp (by obtain⟨w,hw⟩:=hi;exact⟨w,rg hK hw⟩) hK
 |store h1 h2 h3 h4 h5 h6 h7 h8 h9 _ ih=>intro K1 hK;exact .store h1 h2 h3 h4 h5 h6 h7 h8 h9 (ih hK)
 |eff K' h1 h2 h3 h4 h5 ih=>intro K1 hK;exact .eff K' h1 h2 h3 ⟨h4.cl,fun T w k1 k2 k3 k4 k5=>h4.run T w (hK _ _ k1) k2 k3 k4 k5⟩ h5
theorem TG.v {i:Nat} {r:Wd} {a:Act} {B:Bx} {K:aK} {o:Oper} {v:Wg} (ho:ops[i]? =some o) (hk:κ i=0) (hw:Region.wanted o (yielded ops a.tmps)=true)
  (hy:∀w,Mod T0 w0 w→(execOp a.eval o).run P w= .ok (.value v) w) (h:TG P ops Q T0 w0 κ υ r (a.put o.dst v) B K):TG P ops Q T0 w0 κ υ (i::r) a B K:=
 .val ho hk (.inl ⟨hw,hy⟩) h
theorem TG.v0 {i:Nat} {r:Wd} {a:Act} {B:Bx} {K:aK} {o:Oper} {v:Wg} (ho:ops[i]? =some o) (hk:κ i=0) (hw:Region.wanted o (yielded ops a.tmps)=true)
  (hy:∀w,(execOp a.eval o).run P w= .ok (.value v) w) (h:TG P ops Q T0 w0 κ υ r (a.put o.dst v) B K):TG P ops Q T0 w0 κ υ (i::r) a B K:=
 .val ho hk (.inl ⟨hw,fun w _=>hy w⟩) h
theorem TG.pass {i:Nat} {r:Wd} {a:Act} {B:Bx} {K:aK} {o:Oper} (ho:ops[i]? =some o) (hk:κ i=0) (hw:Region.wanted o (yielded ops a.tmps)=false)
  (h:TG P ops Q T0 w0 κ υ r (a.put o.dst undef) B K):TG P ops Q T0 w0 κ υ (i::r) a B K:=
 .val ho hk (.inr ⟨hw,rfl⟩) h
theorem TG.load {i:Nat} {r:Wd} {a:Act} {B:Bx} {K:aK} {o:Oper} {T:Wh} {x:Wm} {p v:Wg} (ho:ops[i]? =some o) (hk:κ i=0) (hw:Region.wanted o (yielded ops a.tmps)=true)
  (aj:o.op= .load T x) (hx:a.eval x=p) (hy:∀w,Mod T0 w0 w→(Instr.loadAt T p).run P w= .ok v w) (h:TG P ops Q T0 w0 κ υ r (a.put o.dst v) B K):TG P ops Q T0 w0 κ υ (i::r) a B K:=
 TG.v ho hk hw (fun w hs=>nO aj hx (hy w hs)) h
theorem TG.conv {i:Nat} {r:Wd} {a:Act} {B:Bx} {K:aK} {o:Oper} {s d:Wh} {x:Wm} {p v:Wg} (ho:ops[i]? =some o) (hk:κ i=0) (hw:Region.wanted o (yielded ops a.tmps)=true)
  (aj:o.op= .convert s d x) (hx:a.eval x=p) (hr:∀w,Mod T0 w0 w→(convert s d p).run P w= .ok v w) (h:TG P ops Q T0 w0 κ υ r (a.put o.dst v) B K):TG P ops Q T0 w0 κ υ (i::r) a B K:=
 TG.v ho hk hw (fun w hs=>by subst hx;simp[execOp,aj,hr w hs]) h
theorem TG.build {i:Nat} {r:Wd} {a:Act} {B:Bx} {K:aK} {o:Oper} {T:Wh} {parts:Array (Nat×Wm)} {ps:Array (Nat×Wg)} {v:Wg} (ho:ops[i]? =some o) (hk:κ i=0) (hw:Region.wanted o (yielded ops a.tmps)=true)
  (aj:o.op= .build T parts) (hx:parts.map (fun(p:Nat×Wm)=>(p.1,a.eval p.2))=ps) (hr:∀w,(Instr.build T ps).run P w= .ok v w) (h:TG P ops Q T0 w0 κ υ r (a.put o.dst v) B K):TG P ops Q T0 w0 κ υ (i::r) a B K:=
 TG.v ho hk hw (fun w _=>by subst hx;simp[execOp,aj,hr w]) h
theorem TG.allocB {i:Nat} {r:Wd} {a:Act} {B:Bx} {K:aK} {o:Oper} {d:Tmp} {T:Wh} {z:Wa} (ho:ops[i]? =some o) (hk:κ i=3)
  (hw:Region.wanted o (yielded ops a.tmps)=true) (hd:o.dst=some d) (aj:o.op= .alloc T)
  (hr:∀w,(Instr.alloc T true (.tuple #[])).run P w= .ok (.pointer (some ⟨w.heap.size,0,none⟩)) (w.alloc (.cells z T)))
  (h:∀p,B p=none→kT T0 w0 (B.set p ⟨z,T,d⟩) K→TG P ops Q T0 w0 κ υ r (a.put o.dst (.pointer (some ⟨p,0,none⟩))) (B.set p ⟨z,T,d⟩) K) (hm:(T==4294967311)=false:=by rfl):TG P ops Q T0 w0 κ υ (i::r) a B K:=
 .alloc (fun p=> .pointer (some ⟨p,0,none⟩)) ho hk hw hd (C9.of hm (fun w=>by simp[execOp,aj,hr])) h
def Grow (T:Nat→Prop) (w w':We):Nat→Prop:=fun i=>T i∨(w.heap.size≤i∧i<w'.heap.size)
theorem Grow.new {T:Nat→Prop} {w w':We} {i:Nat} (h:w.heap.size≤i) (h2:i<w'.heap.size):Grow T w w' i:= .inr ⟨h,h2⟩
def UB (T:Nat→Prop) (us:List Tmp) (B:Bx) (w:We):Prop:=∀p b,B p=some b→b.tag∈us→¬T p∧w.heap[p]? =some b.o
theorem TG.eff' {i:Nat} {r:Wd} {a:Act} {B:Bx} {K:aK} {o:Oper} (K':Wg→aK) (ho:ops[i]? =some o) (hk:κ i=6) (hw:Region.wanted o (yielded ops a.tmps)=true) (dg:∀v,bX (K' v))
  (hd:∀T w,K T w→(∀i,T i→i<w.heap.size)→Mod T0 w0 w→UB T (υ i) B w→pR P o a w fun v w'=>Mod T w w'∧K' v (Grow T w w') w')
  (h:∀v,kT T0 w0 B (K' v)→TG P ops Q T0 w0 κ υ r (a.put o.dst v) B (K' v)):TG P ops Q T0 w0 κ υ (i::r) a B K:=by
 refine .eff K' ho hk hw ⟨dg,fun T w k1 k2 k3 k4 k5=> ?_⟩ h;have key:∀v w',Mod T w w'∧K' v (Grow T w w') w'→∃T',K' v T' w'∧Mod T w w'∧(∀i,T' i→T i∨w.heap.size≤i)∧(∀i,T' i→i<w'.heap.size):=fun v w' h=>by
  refine⟨_,h.2,h.1,fun i hi=> ?_,fun i hi=> ?_⟩
  ·rcases hi with hi|hi
   ·exact .inl hi
   ·exact .inr hi.1
  ·rcases hi with hi|hi
   ·exact aZd (k2 i hi) h.1.size
   ·exact hi.2
 rcases hd T w k1 k2 k4 (fun p b hb ht=>(k5 p b hb ht).2)with⟨v,w',h1,h2⟩|⟨w',h1,h2⟩|⟨f,args,h1,h2⟩
 ·exact .inl ⟨v,w',h1,key _ _ h2⟩
 ·exact .inr (.inl ⟨w',h1,key _ _ h2⟩)
 ·refine .inr (.inr ⟨f,args,h1,h2.mono ?_⟩);rintro e w' ⟨v,he,hv⟩;exact⟨v,he,key _ _ hv⟩
structure aH (K:aK):Prop where
 cl:bX K
 gr:∀T T' w,(∀i,T i→T' i)→K T w→K T' w
theorem aH.true:aH (fun _ _=>True):=⟨fun _ _ _ _ _=>trivial,fun _ _ _ _ _=>trivial⟩
theorem aH.pure (p:Prop):aH (fun _ _=>p):=⟨fun _ _ _ h _=>h,fun _ _ _ _ h=>h⟩
theorem aH.and {K L:aK} (hK:aH K) (hL:aH L):aH (fun T w=>K T w∧L T w):=
 ⟨fun T w w' h hm=>⟨hK.cl T w w' h.1 hm,hL.cl T w w' h.2 hm⟩,fun T T' w hT h=>⟨hK.gr T T' w hT h.1,hL.gr T T' w hT h.2⟩⟩
theorem aH.ex {α:Type} {K:α→aK} (h:∀x,aH (K x)):aH (fun T w=>∃x,K x T w):=
 ⟨fun T w w' ⟨x,hx⟩ hm=>⟨x,(h x).cl T w w' hx hm⟩,fun T T' w hT ⟨x,hx⟩=>⟨x,(h x).gr T T' w hT hx⟩⟩
theorem aH.at (b:Nat) (o:Obj):aH (fun T w=>T b∧w.heap[b]? =some o):=
 ⟨fun T w w' h hm=>⟨h.1,hm.at h.2 (fun hn=>hn h.1)⟩,fun T T' w hT h=>⟨hT _ h.1,h.2⟩⟩
theorem TG.callK {i:Nat} {r:Wd} {a:Act} {B:Bx} {K:aK} {o:Oper} {f:Wn} {args:Wa} (K':Wg→aK) (dg:∀v,aH (K' v)) (ho:ops[i]? =some o) (hk:κ i=6) (hw:Region.wanted o (yielded ops a.tmps)=true)
  (hy:∀w,(execOp a.eval o).run P w= .ok (.enter f args) w)
  (hd:∀T w,K T w→(∀i,T i→i<w.heap.size)→Mod T0 w0 w→UB T (υ i) B w→Calls P f args w fun e w'=>∃v,e= .returned v∧Mod T w w'∧K' v (Grow T w w') w')
  (h:∀v,kT T0 w0 B (K' v)→TG P ops Q T0 w0 κ υ r (a.put o.dst v) B (K' v)):TG P ops Q T0 w0 κ υ (i::r) a B K:=
 TG.eff' K' ho hk hw (fun v=>(dg v).cl) (fun T w k1 k2 k3 k4=> .inr (.inr ⟨f,args,hy w,hd T w k1 k2 k3 k4⟩)) h
theorem TG.callN {i:Nat} {r:Wd} {a:Act} {B:Bx} {K:aK} {o:Oper} {f:Wn} {args:Wa} (C:Wg→Prop) (hK:aH K) (ho:ops[i]? =some o) (hk:κ i=6) (hw:Region.wanted o (yielded ops a.tmps)=true)
  (hy:∀w,(execOp a.eval o).run P w= .ok (.enter f args) w)
  (hd:∀T w,K T w→(∀i,T i→i<w.heap.size)→Mod T0 w0 w→UB T (υ i) B w→Calls P f args w fun e w'=>∃v,e= .returned v∧C v∧Mod (fun _=>False) w w')
  (h:∀v,C v→TG P ops Q T0 w0 κ υ r (a.put o.dst v) B K):TG P ops Q T0 w0 κ υ (i::r) a B K:=by
 refine TG.callK (fun v T w=>C v∧K T w) (fun v=>(aH.pure (C v)).and hK) ho hk hw hy (fun T w k1 k2 k3 k4=>(hd T w k1 k2 k3 k4).mono ?_) (fun v hv=> ?_)
 ·rintro e w' ⟨v,he,hv,hm⟩;exact⟨v,he,hm.mono (fun _ _ h=>h.elim),hv,hK.gr _ _ _ (fun _ h=> .inl h) (hK.cl T w w' k1 (hm.mono (fun _ _ h=>h.elim)))⟩
 ·obtain⟨w,T,hR⟩:=hv;exact(h v hR.k.1).mono fun T w hk=>hk.2
theorem TG.callM {i:Nat} {r:Wd} {a:Act} {B:Bx} {K:aK} {o:Oper} {f:Wn} {args:Wa} (L:Wg→aK) (hL:∀v,aH (L v)) (hK:aH K) (ho:ops[i]? =some o) (hk:κ i=6) (hw:Region.wanted o (yielded ops a.tmps)=true)
  (hy:∀w,(execOp a.eval o).run P w= .ok (.enter f args) w)
  (hd:∀T w,K T w→(∀i,T i→i<w.heap.size)→Mod T0 w0 w→UB T (υ i) B w→Calls P f args w fun e w'=>∃v,e= .returned v∧Mod (fun _=>False) w w'∧L v (Grow T w w') w')
  (h:∀v,kT T0 w0 B (fun T w=>K T w∧L v T w)→TG P ops Q T0 w0 κ υ r (a.put o.dst v) B (fun T w=>K T w∧L v T w)):TG P ops Q T0 w0 κ υ (i::r) a B K:=by
 refine TG.callK (fun v T w=>K T w∧L v T w) (fun v=>hK.and (hL v)) ho hk hw hy (fun T w k1 k2 k3 k4=>(hd T w k1 k2 k3 k4).mono ?_) h;rintro e w' ⟨v,he,hm,hl⟩;exact⟨v,he,hm.mono (fun _ _ h=>h.elim),hK.gr _ _ _ (fun _ h=> .inl h) (hK.cl T w w' k1 (hm.mono (fun _ _ h=>h.elim))),hl⟩
theorem TG.bslice {i:Nat} {r:Wd} {a:Act} {B:Bx} {K:aK} {o:Oper} {d:Tmp} {T E:Wh} {n:Nat} {parts:Array (Nat×Wm)} {ps:Array (Nat×Wg)} {z:Wa} (ho:ops[i]? =some o) (hk:κ i=3)
  (hw:Region.wanted o (yielded ops a.tmps)=true) (hd:o.dst=some d) (aj:o.op= .buildSlice T n parts) (hx:parts.map (fun(p:Nat×Wm)=>(p.1,a.eval p.2))=ps)
  (hr:∀w,(Instr.buildSlice T n ps).run P w= .ok (.slice (some ⟨w.heap.size,0,none⟩) n n) (w.alloc (.cells z E)))
  (h:∀p,B p=none→kT T0 w0 (B.set p ⟨z,E,d⟩) K→TG P ops Q T0 w0 κ υ r (a.put o.dst (.slice (some ⟨p,0,none⟩) n n)) (B.set p ⟨z,E,d⟩) K) (hm:(E==4294967311)=false:=by rfl):TG P ops Q T0 w0 κ υ (i::r) a B K:=
 .alloc (fun p=> .slice (some ⟨p,0,none⟩) n n) ho hk hw hd (C9.of hm (fun w=>by subst hx;simp[execOp,aj,hr w])) h
theorem TG.mks {i:Nat} {r:Wd} {a:Act} {B:Bx} {K:aK} {o:Oper} {d:Tmp} {T E:Wh} {n m:Nat} {x y:Wm} {X Y:Wg} {z:Wa} (ho:ops[i]? =some o) (hk:κ i=3)
  (hw:Region.wanted o (yielded ops a.tmps)=true) (hd:o.dst=some d) (aj:o.op= .makeSlice T x y) (hx:a.eval x=X) (hy:a.eval y=Y)
  (hr:∀w,(Instr.makeSlice T X Y).run P w= .ok (.slice (some ⟨w.heap.size,0,none⟩) n m) (w.alloc (.cells z E)))
  (h:∀p,B p=none→kT T0 w0 (B.set p ⟨z,E,d⟩) K→TG P ops Q T0 w0 κ υ r (a.put o.dst (.slice (some ⟨p,0,none⟩) n m)) (B.set p ⟨z,E,d⟩) K) (hm:(E==4294967311)=false:=by rfl):TG P ops Q T0 w0 κ υ (i::r) a B K:=
 .alloc (fun p=> .slice (some ⟨p,0,none⟩) n m) ho hk hw hd (C9.of hm (fun w=>by subst hx;subst hy;simp[execOp,aj,hr w])) h
theorem TG.mkm {i:Nat} {r:Wd} {a:Act} {B:Bx} {K:aK} {o:Oper} {d:Tmp} {T:Wh} (ho:ops[i]? =some o) (hk:κ i=3)
  (hw:Region.wanted o (yielded ops a.tmps)=true) (hd:o.dst=some d) (aj:o.op= .makeMap T none)
  (h:∀p,B p=none→kT T0 w0 (B.set p ⟨#[],4294967311,d⟩) K→TG P ops Q T0 w0 κ υ r (a.put o.dst (.map (some p))) (B.set p ⟨#[],4294967311,d⟩) K):TG P ops Q T0 w0 κ υ (i::r) a B K:=
 .alloc (fun p=> .map (some p)) ho hk hw hd ⟨fun _=>rfl,fun w=>by simp only[execOp,aj];rfl⟩ h
theorem RT.boxM {B:Bx} {K:aK} {T:Nat→Prop} {w:We} (h:RT T0 w0 B K T w) (p:Nat) (d:Tmp) (hb:B p=some ⟨#[],4294967311,d⟩):w0.heap.size≤p∧¬T p∧w.heap[p]? =some (.map #[] 0):=h.box p _ hb
theorem TG.box {i:Nat} {r:Wd} {a:Act} {B:Bx} {K:aK} {o:Oper} {d:Tmp} {T:Wh} {x:Wm} {v:Wg} (ho:ops[i]? =some o) (hk:κ i=3)
  (hw:Region.wanted o (yielded ops a.tmps)=true) (hd:o.dst=some d) (aj:o.op= .box T x) (hx:a.eval x=v)
  (h:∀p,B p=none→kT T0 w0 (B.set p ⟨v.cells,T,d⟩) K→TG P ops Q T0 w0 κ υ r (a.put o.dst (.pointer (some ⟨p,0,none⟩))) (B.set p ⟨v.cells,T,d⟩) K) (hm:(T==4294967311)=false:=by rfl):TG P ops Q T0 w0 κ υ (i::r) a B K:=
 .alloc (fun p=> .pointer (some ⟨p,0,none⟩)) ho hk hw hd (C9.of hm (fun w=>by subst hx;simp[execOp,aj,Instr.box,newVar,newRow,newObj];rfl)) h
theorem TG.storeB {i:Nat} {r:Wd} {a:Act} {B:Bx} {K:aK} {o:Oper} {d:Tmp} {T:Wh} {y:Wm} {p:Nat} {b:LB} {v:Wg} (ho:ops[i]? =some o) (hk:κ i=4)
  (hw:Region.wanted o (yielded ops a.tmps)=true) (hd:o.dst=none) (aj:o.op= .store T (.tmp d) y) (du:a.eval (.tmp d)= .pointer (some ⟨p,0,none⟩)) (hyv:a.eval y=v) (hb:B p=some b) (bu:b.tag=d∧(b.ty==4294967311)=false)
  (hr:∀w,w.heap[p]? =some (.cells b.cells b.ty (0,0))→(Instr.storeAt T (.pointer (some ⟨p,0,none⟩)) v).run P w= .ok () (setBlock w p (.cells v.cells b.ty (0,0))))
  (h:TG P ops Q T0 w0 κ υ r a (B.set p {b with cells:=v.cells}) K):TG P ops Q T0 w0 κ υ (i::r) a B K:=by
 subst hyv;exact .store ho hk hw hd aj du hb bu.1 (fun w hw=>by rw[LB.o_cells bu.2]at hw;rw[LB.o_cells (b:= {b with cells:=(a.eval y).cells}) bu.2];simp[execOp,aj,du,hr w hw]) h
theorem UB.box {T:Nat→Prop} {us:List Tmp} {B:Bx} {w:We} (h:UB T us B w) {p:Nat} {b:LB} (hb:B p=some b) (ht:b.tag∈us) (hm:(b.ty==4294967311)=false:=by rfl):w.heap[p]? =some (.cells b.cells b.ty (0,0)):=by
 rw[←LB.o_cells hm];exact(h p b hb ht).2
theorem RT.boxC {B:Bx} {K:aK} {T:Nat→Prop} {w:We} (h:RT T0 w0 B K T w) (p:Nat) (b:LB) (hb:B p=some b) (hm:(b.ty==4294967311)=false:=by rfl):w0.heap.size≤p∧¬T p∧w.heap[p]? =some (.cells b.cells b.ty (0,0)):=by
 rw[←LB.o_cells hm];exact h.box p b hb
end
end Go.Proofs.YtblbegbjlaokjaaGreatDoor
namespace Go.Proofs.YtblbegbjlaokjaaGreatDoor
open Go.ChangeMaps (setBlock)
theorem Bx.set_nf {B:Bx} {p q:Nat} (h:q≠p) (b:LB):(B.set p b) q=B q:=Bx.set_ne B h b
theorem Mod.fac2 {S:Nat→Prop} {w0 wq:We} (h:Mod S w0 wq) {p:Nat} {o:Obj} (hk:w0.heap[p]? =some o) (hn:¬S p):wq.heap[p]? =some o:=h.at hk hn
theorem Mod.atn {S:Nat→Prop} {w0 wq:We} (h:Mod S w0 wq) {p:Nat} {o:Obj} (hk:w0.heap[p]? =some o) (hn:¬S p:=by intro hT;first|exact hT|exact absurd hT (by assumption)|omega|(simp only at hT;omega)):wq.heap[p]? =some o:=h.at hk hn
theorem Mod.fact {w0 wq:We} (h:Mod (fun _=>False) w0 wq) {p:Nat} {o:Obj} (hk:w0.heap[p]? =some o):wq.heap[p]? =some o:=h.at hk (fun h=>h)
theorem lU.q {w0 w:We} {B:Bx} {p:Nat} {o:Obj} (h:lU w0 B w) (hk:w0.heap[p]? =some o):w.heap[p]? =some o:=h.mod.at hk (fun h=>h)
theorem RT.q {w0 w:We} {B:Bx} {K:aK} {T:Nat→Prop} {p:Nat} {o:Obj} (h:RT (fun _=>False) w0 B K T w) (hk:w0.heap[p]? =some o):w.heap[p]? =some o:=h.mod.at hk (fun h=>h)
theorem lU.b {w0 w:We} {B:Bx} (h:lU w0 B w) (p:Nat) {b:LB} {c:Wa} {T:Wh} (hb:B p=some b:=by first|exact Bx.set_same _ _ _|(simp only[Bx.set_same];rfl)|(simp(disch:=first|assumption|exact Ne.symm (by assumption)) only[Bx.set_nf,Bx.set_same];rfl)) (hc:b.cells=c:=by(try dsimp only[Value.cells]);(try rfl)) (ht:b.ty=T:=by(try dsimp only);(try rfl)):w0.heap.size≤p∧w.heap[p]? =some (.cells c T (0,0)):=by
 subst hc ht;exact h.box p b hb
theorem RT.b {w0 w:We} {B:Bx} {K:aK} {T0 T1:Nat→Prop} (h:RT T0 w0 B K T1 w) (p:Nat) {b:LB} {c:Wa} {T:Wh} (hb:B p=some b:=by first|exact Bx.set_same _ _ _|(simp only[Bx.set_same];rfl)|(simp(disch:=first|assumption|exact Ne.symm (by assumption)) only[Bx.set_nf,Bx.set_same];rfl)) (hc:b.cells=c:=by(try dsimp only[Value.cells]);(try rfl)) (ht:b.ty=T:=by(try dsimp only);(try rfl)) (hm:(b.ty==4294967311)=false:=by rfl):w0.heap.size≤p∧¬T1 p∧w.heap[p]? =some (.cells c T (0,0)):=by
 subst hc ht;exact h.boxC p b hb hm
theorem Zv {P:Wl} {ops:Array Oper} {Q:Exit→Act→We→Prop} {S:We→Prop} {C:Wn→Wa→Wg→Prop} {w0:We} {κ:Nat→Nat} {i:Nat} {r:Wd} {a a':Act} {B:Bx} {o:Oper} {v:Wg} (h:TD P ops Q S C w0 κ r a' B) (ho:ops[i]? =some o:=by simp only[zK];rfl) (hk:κ i=0:=by rfl) (hw:Region.wanted o (yielded ops a.tmps)=true:=by rfl) (hy:∀w,(execOp a.eval o).run P w= .ok (.value v) w:=by intro w1;go_simp;try with_reducible rfl) (ha:a.put o.dst v=a':=by(try simp only[zL]);rfl):TD P ops Q S C w0 κ (i::r) a B:=TD.val0 ho hk hw hy (ha▸h)
theorem Zd {P:Wl} {ops:Array Oper} {Q:Exit→Act→We→Prop} {C:Wn→Wa→Wg→Prop} {w0:We} {κ:Nat→Nat} {i:Nat} {r:Wd} {a a':Act} {B:Bx} {o:Oper} {T:Wh} {x:Wm} {p v:Wg} (h:TD P ops Q (Mod (fun _=>False) w0) C w0 κ r a' B) (ho:ops[i]? =some o:=by simp only[zK];rfl) (hk:κ i=1:=by rfl) (hw:Region.wanted o (yielded ops a.tmps)=true:=by rfl) (aj:o.op= .load T x:=by rfl) (hx:a.eval x=p:=by(try simp only[zM]);(try rfl)) (hy:∀w,Mod (fun _=>False) w0 w→(Instr.loadAt T p).run P w= .ok v w:=by intro wq ae;go_simp;(repeat(simp(disch:=assumption) only[ae.fact];try go_simp));try with_reducible rfl) (ha:a.put o.dst v=a':=by(try simp only[zL]);rfl):TD P ops Q (Mod (fun _=>False) w0) C w0 κ (i::r) a B:=TD.load (Mod.refl _ _) ho hk hw aj hx hy (ha▸h)
theorem Zl {P:Wl} {ops:Array Oper} {Q:Exit→Act→We→Prop} {C:Wn→Wa→Wg→Prop} {w0:We} {κ:Nat→Nat} {i:Nat} {r:Wd} {a a':Act} {B:Bx} {o:Oper} {T:Wh} {x:Wm} {p v:Wg} (hy:∀w,Mod (fun _=>False) w0 w→(Instr.loadAt T p).run P w= .ok v w) (h:TD P ops Q (Mod (fun _=>False) w0) C w0 κ r a' B) (ho:ops[i]? =some o:=by simp only[zK];rfl) (hk:κ i=1:=by rfl) (hw:Region.wanted o (yielded ops a.tmps)=true:=by rfl) (aj:o.op= .load T x:=by rfl) (hx:a.eval x=p:=by(try simp only[zM]);(try rfl)) (ha:a.put o.dst v=a':=by(try simp only[zL]);rfl):TD P ops Q (Mod (fun _=>False) w0) C w0 κ (i::r) a B:=TD.load (Mod.refl _ _) ho hk hw aj hx hy (ha▸h)
theorem Zb {P:Wl} {ops:Array Oper} {Q:Exit→Act→We→Prop} {S:We→Prop} {C:Wn→Wa→Wg→Prop} {w0:We} {κ:Nat→Nat} {i:Nat} {r:Wd} {a:Act} {B:Bx} {o:Oper} {F:Nat→Act} {d:Tmp} {T:Wh} {x:Wm} {v:Wg} (h:∀p,B p=none→TD P ops Q S C w0 κ r (F p) (B.set p ⟨v.cells,T,d⟩)) (ho:ops[i]? =some o:=by simp only[zK];rfl) (hk:κ i=3:=by rfl) (hw:Region.wanted o (yielded ops a.tmps)=true:=by rfl) (hd:o.dst=some d:=by rfl) (aj:o.op= .box T x:=by rfl) (hx:a.eval x=v:=by(try simp only[zM]);(try rfl)) (ha:∀p,a.put o.dst (.pointer (some ⟨p,0,none⟩))=F p:=by intro p;(try simp only[zL]);rfl):TD P ops Q S C w0 κ (i::r) a B:=TD.box ho hk hw hd aj hx (fun p hp=>ha p▸h p hp)
theorem Za {P:Wl} {ops:Array Oper} {Q:Exit→Act→We→Prop} {S:We→Prop} {C:Wn→Wa→Wg→Prop} {w0:We} {κ:Nat→Nat} {i:Nat} {r:Wd} {a:Act} {B:Bx} {o:Oper} {F:Nat→Act} {d:Tmp} {T:Wh} {z:Wa} (hr:∀w,(Instr.alloc T true (.tuple #[])).run P w= .ok (.pointer (some ⟨w.heap.size,0,none⟩)) (w.alloc (.cells z T))) (h:∀p,B p=none→TD P ops Q S C w0 κ r (F p) (B.set p ⟨z,T,d⟩)) (ho:ops[i]? =some o:=by simp only[zK];rfl) (hk:κ i=3:=by rfl) (hw:Region.wanted o (yielded ops a.tmps)=true:=by rfl) (hd:o.dst=some d:=by rfl) (aj:o.op= .alloc T:=by rfl) (ha:∀p,a.put o.dst (.pointer (some ⟨p,0,none⟩))=F p:=by intro p;(try simp only[zL]);rfl):TD P ops Q S C w0 κ (i::r) a B:=TD.allocB ho hk hw hd aj hr (fun p hp=>ha p▸h p hp)
theorem Zt {P:Wl} {ops:Array Oper} {Q:Exit→Act→We→Prop} {S:We→Prop} {C:Wn→Wa→Wg→Prop} {w0:We} {κ:Nat→Nat} {i:Nat} {r:Wd} {a:Act} {B:Bx} {o:Oper} {d:Tmp} {T:Wh} {y:Wm} {p:Nat} {b:LB} {v:Wg} (h:TD P ops Q S C w0 κ r a (B.set p {b with cells:=v.cells})) (ho:ops[i]? =some o:=by simp only[zK];rfl) (hk:κ i=4:=by rfl) (hw:Region.wanted o (yielded ops a.tmps)=true:=by rfl) (hd:o.dst=none:=by rfl) (aj:o.op= .store T (.tmp d) y:=by rfl) (du:a.eval (.tmp d)= .pointer (some ⟨p,0,none⟩):=by(try simp only[zM]);(try rfl)) (hyv:a.eval y=v:=by(try simp only[zM]);(try rfl)) (hb:B p=some b:=by first|exact Bx.set_same _ _ _|(simp only[Bx.set_same];rfl)|(simp(disch:=first|assumption|exact Ne.symm (by assumption)) only[Bx.set_nf,Bx.set_same];rfl)) (bu:b.tag=d:=by rfl)
 (hr:∀w,w.heap[p]? =some (.cells b.cells b.ty (0,0))→(Instr.storeAt T (.pointer (some ⟨p,0,none⟩)) v).run P w= .ok () (setBlock w p (.cells v.cells b.ty (0,0))):=by intro w1 dz;go_simp;(try first|with_reducible rfl|(rw[setCell_blk dz];rfl))):TD P ops Q S C w0 κ (i::r) a B:=TD.storeB ho hk hw hd aj du hyv hb bu hr h
theorem Zu {P:Wl} {ops:Array Oper} {Q:Exit→Act→We→Prop} {S:We→Prop} {C:Wn→Wa→Wg→Prop} {w0:We} {κ:Nat→Nat} {i:Nat} {r:Wd} {a a':Act} {B:Bx} {o:Oper} {T:Wh} {parts:Array (Nat×Wm)} {ps:Array (Nat×Wg)} {v:Wg} (hr:∀w,(Instr.build T ps).run P w= .ok v w) (h:TD P ops Q S C w0 κ r a' B) (ho:ops[i]? =some o:=by simp only[zK];rfl) (hk:κ i=0:=by rfl) (hw:Region.wanted o (yielded ops a.tmps)=true:=by rfl) (aj:o.op= .build T parts:=by rfl) (hx:parts.map (fun(p:Nat×Wm)=>(p.1,a.eval p.2))=ps:=by simp only[aYr,aZo,aYo,zM];(try rfl)) (ha:a.put o.dst v=a':=by(try simp only[zL]);rfl):TD P ops Q S C w0 κ (i::r) a B:=TD.build ho hk hw aj hx hr (ha▸h)
theorem Zy {P:Wl} {ops:Array Oper} {Q:Exit→Act→We→Prop} {S:We→Prop} {C:Wn→Wa→Wg→Prop} {w0:We} {κ:Nat→Nat} {i:Nat} {r:Wd} {a:Act} {B:Bx} {o:Oper} {F:Nat→Act} {d:Tmp} {T E:Wh} {n:Nat} {parts:Array (Nat×Wm)} {ps:Array (Nat×Wg)} {z:Wa} (hr:∀w,(Instr.buildSlice T n ps).run P w= .ok (.slice (some ⟨w.heap.size,0,none⟩) n n) (w.alloc (.cells z E))) (h:∀p,B p=none→TD P ops Q S C w0 κ r (F p) (B.set p ⟨z,E,d⟩)) (ho:ops[i]? =some o:=by simp only[zK];rfl) (hk:κ i=3:=by rfl) (hw:Region.wanted o (yielded ops a.tmps)=true:=by rfl) (hd:o.dst=some d:=by rfl) (aj:o.op= .buildSlice T n parts:=by rfl) (hx:parts.map (fun(p:Nat×Wm)=>(p.1,a.eval p.2))=ps:=by simp only[aYr,aZo,aYo,zM];(try rfl)) (ha:∀p,a.put o.dst (.slice (some ⟨p,0,none⟩) n n)=F p:=by intro p;(try simp only[zL]);rfl):TD P ops Q S C w0 κ (i::r) a B:=TD.bslice ho hk hw hd aj hx hr (fun p hp=>ha p▸h p hp)
theorem Zx {P:Wl} {ops:Array Oper} {Q:Exit→Act→We→Prop} {S:We→Prop} {C:Wn→Wa→Wg→Prop} {w0:We} {κ:Nat→Nat} {i:Nat} {r:Wd} {a a':Act} {B:Bx} {o:Oper} {T:Wh} {s:Wm} {lo hi mx:Option Wm} {v v':Wg} {l' h' m':Option Wg} (hr:∀w,(Instr.sliceAt T v l' h' m').run P w= .ok v' w) (h:TD P ops Q S C w0 κ r a' B) (ho:ops[i]? =some o:=by simp only[zK];rfl) (hk:κ i=0:=by rfl) (hw:Region.wanted o (yielded ops a.tmps)=true:=by rfl) (aj:o.op= .slice T s lo hi mx:=by rfl) (hs:a.eval s=v:=by(try simp only[zM]);(try rfl)) (hl:lo.map a.eval=l':=by first|rfl|(simp only[aYj,zM];(try rfl))) (hh:hi.map a.eval=h':=by first|rfl|(simp only[aYj,zM];(try rfl))) (hm:mx.map a.eval=m':=by rfl) (ha:a.put o.dst v'=a':=by(try simp only[zL]);rfl):TD P ops Q S C w0 κ (i::r) a B:=TD.slice ho hk hw aj hs hl hh hm hr (ha▸h)
theorem ZU {P:Wl} {ops:Array Oper} {Q:Exit→Act→We→Prop} {S:We→Prop} {C:Wn→Wa→Wg→Prop} {w0:We} {κ:Nat→Nat} {i:Nat} {r:Wd} {a a':Act} {B:Bx} {o:Oper} {T:Wh} {parts:Array (Nat×Wm)} {ps:Array (Nat×Wg)} {v:Wg} (h:TD P ops Q S C w0 κ r a' B) (ho:ops[i]? =some o:=by simp only[zK];rfl) (hk:κ i=0:=by rfl) (hw:Region.wanted o (yielded ops a.tmps)=true:=by rfl) (aj:o.op= .build T parts:=by rfl) (hx:parts.map (fun(p:Nat×Wm)=>(p.1,a.eval p.2))=ps:=by simp only[aYr,aZo,aYo,zM];(try rfl)) (e:∀w,(Instr.build T ps).run P w= .ok v w) (ha:a.put o.dst v=a':=by(try simp only[zL]);rfl):TD P ops Q S C w0 κ (i::r) a B:=TD.build ho hk hw aj hx e (ha▸h)
theorem Zo {P:Wl} {ops:Array Oper} {Q:Exit→Act→We→Prop} {S:We→Prop} {C:Wn→Wa→Wg→Prop} {w0:We} {κ:Nat→Nat} {i:Nat} {r:Wd} {a a':Act} {B:Bx} {o:Oper} (h:TD P ops Q S C w0 κ r a' B) (ho:ops[i]? =some o:=by simp only[zK];rfl) (hk:κ i=0:=by rfl) (hw:Region.wanted o (yielded ops a.tmps)=false:=by rfl) (ha:a.put o.dst undef=a':=by(try simp only[zL]);rfl):TD P ops Q S C w0 κ (i::r) a B:=TD.pass ho hk hw (ha▸h)
theorem Zp {P:Wl} {ops:Array Oper} {Q:Exit→Act→We→Prop} {S:We→Prop} {C:Wn→Wa→Wg→Prop} {w0:We} {κ:Nat→Nat} {i:Nat} {r:Wd} {a a':Act} {B:Bx} {o:Oper} (h:TD P ops Q S C w0 κ r a' B) (ho:ops[i]? =some o:=by simp only[zK];rfl) (hk:κ i=1:=by rfl) (hw:Region.wanted o (yielded ops a.tmps)=false:=by rfl) (ha:a.put o.dst undef=a':=by(try simp only[zL]);rfl):TD P ops Q S C w0 κ (i::r) a B:=TD.pass1 ho hk hw (ha▸h)
theorem Zc {P:Wl} {ops:Array Oper} {Q:Exit→Act→We→Prop} {C:Wn→Wa→Wg→Prop} {w0:We} {κ:Nat→Nat} {i:Nat} {r:Wd} {a:Act} {B:Bx} {o:Oper} {f:Wn} {args:Wa} (h:∀v,C f args v→TD P ops Q (Mod (fun _=>False) w0) C w0 κ r (a.put o.dst v) B) (ho:ops[i]? =some o:=by simp only[zK];rfl) (hk:κ i=2:=by rfl) (hw:Region.wanted o (yielded ops a.tmps)=true:=by rfl) (hy:∀w,(execOp a.eval o).run P w= .ok (.enter f args) w:=by intro w1;(go_simp;(first|with_reducible rfl|(constructor<;>with_reducible rfl)))) (s:LR P (Mod (fun _=>False) w0) C f args):TD P ops Q (Mod (fun _=>False) w0) C w0 κ (i::r) a B:=TD.call (Mod.refl _ _) ho hk hw hy s h
theorem Ze {P:Wl} {ops:Array Oper} {Q:Exit→Act→We→Prop} {κ:Nat→Nat} {i:Nat} {r:Wd} {a a':Act} {w:We} {o:Oper} {v:Wg} (h:TE P ops Q κ r a' w) (ho:ops[i]? =some o:=by simp only[zK];rfl) (hw:Region.wanted o (yielded ops a.tmps)=true:=by rfl) (hy:∀w,(execOp a.eval o).run P w= .ok (.value v) w:=by intro w1;go_simp;try with_reducible rfl) (ha:a.put o.dst v=a':=by(try simp only[zL]);rfl):TE P ops Q κ (i::r) a w:=TE.val0 ho hw hy (ha▸h)
theorem Zz {P:Wl} {ops:Array Oper} {Q:Exit→Act→We→Prop} {κ:Nat→Nat} {i:Nat} {r:Wd} {a:Act} {w:We} {o:Oper} (h:wpOp P ops Q i (fun a' w'=>TE P ops Q κ r a' w') a w) (ho:ops[i]? =some o:=by simp only[zK];rfl) (hk:κ i=6:=by rfl):TE P ops Q κ (i::r) a w:=TE.step ho hk h
theorem ZS {P:Wl} {ops:Array Oper} {Q:Exit→Act→We→Prop} {i:Nat} {a:Act} {o:Oper} {K:Act→We→Prop} {w w':We} {T:Wh} {x y:Wm} {X Y:Wg} (h:K (a.put o.dst undef) w') (ho:ops[i]? =some o:=by simp only[zK];rfl) (hw:Region.wanted o (yielded ops a.tmps)=true:=by rfl) (aj:o.op= .store T x y:=by rfl) (hx:a.eval x=X:=by(try simp only[zM]);(try rfl)) (hy:a.eval y=Y:=by(try simp only[zM]);(try rfl)) (hr:(Instr.storeAt T X Y).run P w= .ok () w':=by go_simp;try with_reducible rfl):wpOp P ops Q i K a w:=D0 ho hw aj hx hy hr h
theorem ZA {P:Wl} {ops:Array Oper} {Q:Exit→Act→We→Prop} {i:Nat} {a a':Act} {o:Oper} {K:Act→We→Prop} {w w':We} {t:Wh} {s x:Wm} {v u v':Wg} (hr:(Builtin.append_ #[t,t] o.type #[v,u]).run P w= .ok v' w') (h:K a' w') (ho:ops[i]? =some o:=by simp only[zK];rfl) (hw:Region.wanted o (yielded ops a.tmps)=true:=by rfl) (aj:o.op= .call {callee:= .builtin .append,args:= #[s,x],argTypes:= #[t,t]}:=by rfl) (hs:a.eval s=v:=by(try simp only[zM]);(try rfl)) (hx:a.eval x=u:=by(try simp only[zM]);(try rfl)) (ha:a.put o.dst v'=a':=by(try simp only[zL]);rfl):wpOp P ops Q i K a w:=zI ho hw aj hs hx hr (ha▸h)
theorem Zw {P:Wl} {ops:Array Oper} {Q:Exit→Act→We→Prop} {i:Nat} {a a':Act} {o:Oper} {K:Act→We→Prop} {w w':We} {v:Wg} (h:K a' w') (ho:ops[i]? =some o:=by simp only[zK];rfl) (hw:Region.wanted o (yielded ops a.tmps)=true:=by rfl) (hr:(execOp a.eval o).run P w= .ok (.value v) w':=by go_simp;(try(first|with_reducible rfl|(constructor<;>with_reducible rfl)))) (ha:a.put o.dst v=a':=by(try simp only[zL]);rfl):wpOp P ops Q i K a w:=eX ho hw hr (ha▸h)
theorem Zq {P:Wl} {ops:Array Oper} {Q:Exit→Act→We→Prop} {i:Nat} {r:Wd} {a a':Act} {w:We} {o:Oper} {v:Wg} (h:wpOps P ops Q r a' w) (ho:ops[i]? =some o:=by simp only[zK];rfl) (hw:Region.wanted o (yielded ops a.tmps)=true:=by rfl) (hr:(execOp a.eval o).run P w= .ok (.value v) w:=by go_simp;try with_reducible rfl) (ha:a.put o.dst v=a':=by(try simp only[zL]);rfl):wpOps P ops Q (i::r) a w:=SJ ho hw hr (ha▸h)
theorem Zr {P:Wl} {ops:Array Oper} {Q:Exit→Act→We→Prop} {i:Nat} {r:Wd} {a a':Act} {w:We} {o:Oper} {T:Wh} {x:Wm} {p v:Wg} (h:wpOps P ops Q r a' w) (ho:ops[i]? =some o:=by simp only[zK];rfl) (hw:Region.wanted o (yielded ops a.tmps)=true:=by rfl) (aj:o.op= .load T x:=by rfl) (hx:a.eval x=p:=by(try simp only[zM]);(try rfl)) (hr:(Instr.loadAt T p).run P w= .ok v w:=by go_simp;try with_reducible rfl) (ha:a.put o.dst v=a':=by(try simp only[zL]);rfl):wpOps P ops Q (i::r) a w:=N6 ho hw aj hx hr (ha▸h)
theorem ZM {P:Wl} {ops:Array Oper} {Q:Exit→Act→We→Prop} {κ:Nat→Nat} {r:Wd} {a:Act} {w W:We} {p:Nat} {o o':Obj} (hb:w.heap[p]? =some o) (h:∀w',w'.heap[p]? =some o'→Mod (fun i=>i=p) w w'→TE P ops Q κ r a w') (e:W=setBlock w p o':=by first|rfl|exact setCell_blk (by assumption) _):TE P ops Q κ r a W:=by
 subst e;exact h _ (aF w _ (aA hb)) (bM w p o')
theorem ZQ {P:Wl} {ops:Array Oper} {Q:Exit→Act→We→Prop} {r:Wd} {a:Act} {w W:We} {p:Nat} {o o':Obj} (hb:w.heap[p]? =some o) (h:∀w',w'.heap[p]? =some o'→Mod (fun i=>i=p) w w'→wpOps P ops Q r a w') (e:W=setBlock w p o':=by first|rfl|exact setCell_blk (by assumption) _):wpOps P ops Q r a W:=by
 subst e;exact h _ (aF w _ (aA hb)) (bM w p o')
theorem ZG {P:Wl} {ops:Array Oper} {Q:Exit→Act→We→Prop} {T0:Nat→Prop} {w0:We} {κ:Nat→Nat} {υ:Nat→List Tmp} {i:Nat} {r:Wd} {a:Act} {B:Bx} {K:aK} {o:Oper} {f:Wn} {args:Wa} (C:Wg→Prop) (hK:aH K) (h:∀v,C v→TG P ops Q T0 w0 κ υ r (a.put o.dst v) B K) (ho:ops[i]? =some o:=by simp only[zK];rfl) (hk:κ i=6:=by rfl) (hw:Region.wanted o (yielded ops a.tmps)=true:=by rfl) (hy:∀w,(execOp a.eval o).run P w= .ok (.enter f args) w:=by intro w1;(go_simp;(first|with_reducible rfl|(constructor<;>with_reducible rfl)))) (s:∀T w,K T w→(∀i,T i→i<w.heap.size)→Mod T0 w0 w→UB T (υ i) B w→Calls P f args w fun e w'=>∃v,e= .returned v∧C v∧Mod (fun _=>False) w w'):TG P ops Q T0 w0 κ υ (i::r) a B K:=TG.callN C hK ho hk hw hy s h
theorem Zg {P:Wl} {ops:Array Oper} {Q:Exit→Act→We→Prop} {T0:Nat→Prop} {w0:We} {κ:Nat→Nat} {υ:Nat→List Tmp} {i:Nat} {r:Wd} {a a':Act} {B:Bx} {K:aK} {o:Oper} {v:Wg} (h:TG P ops Q T0 w0 κ υ r a' B K) (ho:ops[i]? =some o:=by simp only[zK];rfl) (hk:κ i=0:=by rfl) (hw:Region.wanted o (yielded ops a.tmps)=true:=by rfl) (hy:∀w,(execOp a.eval o).run P w= .ok (.value v) w:=by intro w1;go_simp;try with_reducible rfl) (ha:a.put o.dst v=a':=by(try simp only[zL]);rfl):TG P ops Q T0 w0 κ υ (i::r) a B K:=TG.v0 ho hk hw hy (ha▸h)
theorem Zh {P:Wl} {ops:Array Oper} {Q:Exit→Act→We→Prop} {w0:We} {κ:Nat→Nat} {υ:Nat→List Tmp} {i:Nat} {r:Wd} {a a':Act} {B:Bx} {K:aK} {o:Oper} {T:Wh} {x:Wm} {p v:Wg} (h:TG P ops Q (fun _=>False) w0 κ υ r a' B K) (ho:ops[i]? =some o:=by simp only[zK];rfl) (hk:κ i=0:=by rfl) (hw:Region.wanted o (yielded ops a.tmps)=true:=by rfl) (aj:o.op= .load T x:=by rfl) (hx:a.eval x=p:=by(try simp only[zM]);(try rfl)) (hy:∀w,Mod (fun _=>False) w0 w→(Instr.loadAt T p).run P w= .ok v w:=by intro wq ae;go_simp;(repeat(simp(disch:=assumption) only[ae.fact];try go_simp));try with_reducible rfl) (ha:a.put o.dst v=a':=by(try simp only[zL]);rfl):TG P ops Q (fun _=>False) w0 κ υ (i::r) a B K:=TG.load ho hk hw aj hx hy (ha▸h)
theorem ZP0 {P:Wl} {ops:Array Oper} {Q:Exit→Act→We→Prop} {id:Nat} {a:Act} {w:We} (k:Wd) {l:Wd} (h:TD P ops Q (Mod (fun _=>False) w) (fun _ _ _=>False) w (fun i=>k.getD i 0) l a Bx.nil) (hl:List.range k.length=l:=by simp only[aZu,aYw,Nat.reduceAdd,List.range,List.range.loop];rfl) (hlin:Region.linearise .any ops 0=List.range ops.size:=by kernel_rfl) (ak:kY ops (fun i=>k.getD i 0) l=true:=by kernel_rfl) (hQ:∀c a d v w,Q (.panic c) (Act.put a d v) w→Q (.panic c) a w:=by exact fun _ _ d _ _ h=>by cases d<;>first|exact h|exact absurd h (hP _ _ _)):(Code.region id ops false).wp P Q a w:=kH l hlin ak hQ h
theorem ZP {P:Wl} {ops:Array Oper} {Q:Exit→Act→We→Prop} {id:Nat} {a:Act} {w:We} (k:Wd) {l:Wd} (h:TD P ops Q (Mod (fun _=>False) w) (fun _ _ _=>False) w (fun i=>k.getD i 0) l a Bx.nil) (hl:List.range k.length=l:=by simp only[aZu,aYw,Nat.reduceAdd,List.range,List.range.loop];rfl) (hm:P.follows .mixedOrders=true:=by kernel_rfl) (ak:kY ops (fun i=>k.getD i 0) l=true:=by kernel_rfl) (hQ:∀c a d v w,Q (.panic c) (Act.put a d v) w→Q (.panic c) a w:=by exact fun _ _ d _ _ h=>by cases d<;>first|exact h|exact absurd h (hP _ _ _)):(Code.region id ops true).wp P Q a w:=pN l hm ak hQ h
theorem ZR0 {P:Wl} {ops:Array Oper} {Q:Exit→Act→We→Prop} {id:Nat} {a:Act} {w:We} (C:Wn→Wa→Wg→Prop) (k:Wd) {l:Wd} (h:TD P ops Q (Mod (fun _=>False) w) C w (fun i=>k.getD i 0) l a Bx.nil) (hl:List.range k.length=l:=by simp only[aZu,aYw,Nat.reduceAdd,List.range,List.range.loop];rfl) (hlin:Region.linearise .any ops 0=List.range ops.size:=by kernel_rfl) (ak:kY ops (fun i=>k.getD i 0) l=true:=by kernel_rfl) (hQ:∀c a d v w,Q (.panic c) (Act.put a d v) w→Q (.panic c) a w:=by exact fun _ _ d _ _ h=>by cases d<;>first|exact h|exact absurd h (hP _ _ _)):(Code.region id ops false).wp P Q a w:=kH l hlin ak hQ h
theorem ZR {P:Wl} {ops:Array Oper} {Q:Exit→Act→We→Prop} {id:Nat} {a:Act} {w:We} (C:Wn→Wa→Wg→Prop) (k:Wd) {l:Wd} (h:TD P ops Q (Mod (fun _=>False) w) C w (fun i=>k.getD i 0) l a Bx.nil) (hl:List.range k.length=l:=by simp only[aZu,aYw,Nat.reduceAdd,List.range,List.range.loop];rfl) (hm:P.follows .mixedOrders=true:=by kernel_rfl) (ak:kY ops (fun i=>k.getD i 0) l=true:=by kernel_rfl) (hQ:∀c a d v w,Q (.panic c) (Act.put a d v) w→Q (.panic c) a w:=by exact fun _ _ d _ _ h=>by cases d<;>first|exact h|exact absurd h (hP _ _ _)):(Code.region id ops true).wp P Q a w:=pN l hm ak hQ h
theorem Zi {P:Wl} {ops:Array Oper} {Q:Exit→Act→We→Prop} {S:We→Prop} {C:Wn→Wa→Wg→Prop} {w0:We} {κ:Nat→Nat} {i:Nat} {r:Wd} {a:Act} {B:Bx} {o:Oper} (h:∀w,lU w0 B w→wpOp P ops Q i (fun a' w''=>TE P ops Q κ r a' w'') a w) (ho:ops[i]? =some o:=by simp only[zK];rfl) (hk:κ i=5:=by rfl):TD P ops Q S C w0 κ (i::r) a B:=TD.eff ho hk h
theorem ZK {P:Wl} {ops:Array Oper} {Q:Exit→Act→We→Prop} {C:Wn→Wa→Wg→Prop} {w0:We} {κ:Nat→Nat} {i:Nat} {r:Wd} {a a':Act} {B:Bx} {o:Oper} {T:Wh} {x y:Wm} {ok:Bool} {p q v:Wg} (hr:∀w,Mod (fun _=>False) w0 w→(Instr.lookup T p q ok).run P w= .ok v w) (h:TD P ops Q (Mod (fun _=>False) w0) C w0 κ r a' B) (ho:ops[i]? =some o:=by simp only[zK];rfl) (hk:κ i=1:=by rfl) (hw:Region.wanted o (yielded ops a.tmps)=true:=by rfl) (aj:o.op= .lookup T x y ok:=by rfl) (hx:a.eval x=p:=by(try simp only[zM]);(try rfl)) (hy:a.eval y=q:=by(try simp only[zM]);(try rfl)) (ha:a.put o.dst v=a':=by(try simp only[zL]);rfl):TD P ops Q (Mod (fun _=>False) w0) C w0 κ (i::r) a B:=TD.lookup (Mod.refl _ _) ho hk hw aj hx hy hr (ha▸h)
theorem ZE {P:Wl} {ops:Array Oper} {Q:Exit→Act→We→Prop} {C:Wn→Wa→Wg→Prop} {w0:We} {κ:Nat→Nat} {i:Nat} {r:Wd} {a a':Act} {B:Bx} {o:Oper} {x:Wm} {p v:Wg} (hr:∀w,Mod (fun _=>False) w0 w→(Instr.entry p).run P w= .ok v w) (h:TD P ops Q (Mod (fun _=>False) w0) C w0 κ r a' B) (ho:ops[i]? =some o:=by simp only[zK];rfl) (hk:κ i=1:=by rfl) (hw:Region.wanted o (yielded ops a.tmps)=true:=by rfl) (aj:o.op= .entry x:=by rfl) (hx:a.eval x=p:=by(try simp only[zM]);(try rfl)) (ha:a.put o.dst v=a':=by(try simp only[zL]);rfl):TD P ops Q (Mod (fun _=>False) w0) C w0 κ (i::r) a B:=TD.entry (Mod.refl _ _) ho hk hw aj hx hr (ha▸h)
theorem ZV {P:Wl} {ops:Array Oper} {Q:Exit→Act→We→Prop} {i:Nat} {a:Act} {o:Oper} {K:Act→We→Prop} {w w':We} {T:Wh} {x y z:Wm} {X Y Z:Wg} (hr:(Instr.mapUpdate T X Y Z).run P w= .ok () w') (h:K (a.put o.dst undef) w') (ho:ops[i]? =some o:=by simp only[zK];rfl) (hw:Region.wanted o (yielded ops a.tmps)=true:=by rfl) (aj:o.op= .mapUpdate T x y z:=by rfl) (hx:a.eval x=X:=by(try simp only[zM]);(try rfl)) (hy:a.eval y=Y:=by(try simp only[zM]);(try rfl)) (hz:a.eval z=Z:=by(try simp only[zM]);(try rfl)):wpOp P ops Q i K a w:=zO ho hw aj hx hy hz hr h
theorem ZD {P:Wl} {ops:Array Oper} {Q:Exit→Act→We→Prop} {i:Nat} {a:Act} {o:Oper} {K:Act→We→Prop} {w w':We} {T U:Wh} {x y:Wm} {X Y v:Wg} (hr:(Builtin.delete_ #[T,U] o.type #[X,Y]).run P w= .ok v w') (h:K (a.put o.dst v) w') (ho:ops[i]? =some o:=by simp only[zK];rfl) (hw:Region.wanted o (yielded ops a.tmps)=true:=by rfl) (aj:o.op= .call {callee:= .builtin .delete,args:= #[x,y],argTypes:= #[T,U]}:=by rfl) (hx:a.eval x=X:=by(try simp only[zM]);(try rfl)) (hy:a.eval y=Y:=by(try simp only[zM]);(try rfl)):wpOp P ops Q i K a w:=zJ ho hw aj hx hy hr h
theorem Zk {P:Wl} {ops:Array Oper} {Q:Exit→Act→We→Prop} {T0:Nat→Prop} {w0:We} {κ:Nat→Nat} {υ:Nat→List Tmp} {i:Nat} {r:Wd} {a a':Act} {B:Bx} {K:aK} {o:Oper} {T:Wh} {x:Wm} {p v:Wg} (h:TG P ops Q T0 w0 κ υ r a' B K) (ho:ops[i]? =some o:=by simp only[zK];rfl) (hk:κ i=0:=by rfl) (hw:Region.wanted o (yielded ops a.tmps)=true:=by rfl) (aj:o.op= .load T x:=by rfl) (hx:a.eval x=p:=by(try simp only[zM]);(try rfl)) (hy:∀w,Mod T0 w0 w→(Instr.loadAt T p).run P w= .ok v w:=by intro wq ae;go_simp;(repeat(simp(disch:=first|assumption|(intro hT;first|exact absurd hT (by assumption)|omega|(simp only at hT;omega))) only[ae.fac2];try go_simp));try with_reducible rfl) (ha:a.put o.dst v=a':=by(try simp only[zL]);rfl):TG P ops Q T0 w0 κ υ (i::r) a B K:=TG.load ho hk hw aj hx hy (ha▸h)
theorem ZJ {P:Wl} {ops:Array Oper} {Q:Exit→Act→We→Prop} {T0:Nat→Prop} {w0:We} {κ:Nat→Nat} {υ:Nat→List Tmp} {i:Nat} {r:Wd} {a:Act} {B:Bx} {K:aK} {o:Oper} {f:Wn} {args:Wa} (L:Wg→aK) (hL:∀v,aH (L v)) (hK:aH K) (h:∀v,kT T0 w0 B (fun T w=>K T w∧L v T w)→TG P ops Q T0 w0 κ υ r (a.put o.dst v) B (fun T w=>K T w∧L v T w)) (ho:ops[i]? =some o:=by simp only[zK];rfl) (hk:κ i=6:=by rfl) (hw:Region.wanted o (yielded ops a.tmps)=true:=by rfl) (hy:∀w,(execOp a.eval o).run P w= .ok (.enter f args) w:=by intro w1;(go_simp;(first|with_reducible rfl|(constructor<;>with_reducible rfl)))) (s:∀T w,K T w→(∀i,T i→i<w.heap.size)→Mod T0 w0 w→UB T (υ i) B w→Calls P f args w fun e w'=>∃v,e= .returned v∧Mod (fun _=>False) w w'∧L v (Grow T w w') w'):TG P ops Q T0 w0 κ υ (i::r) a B K:=TG.callM L hL hK ho hk hw hy s h
theorem ZN {P:Wl} {ops:Array Oper} {Q:Exit→Act→We→Prop} {κ:Nat→Nat} {a:Act} {w W:We} {p:Nat} {o o':Obj} (hb:w.heap[p]? =some o) (h:∀w',w'.heap[p]? =some o'→Mod (fun i=>i=p) w w'→Q .normal a w') (e:W=setBlock w p o':=by first|rfl|exact setCell_blk (by assumption) _):TE P ops Q κ [] a W:=by
 subst e;exact TE.nil_set hb h
end Go.Proofs.YtblbegbjlaokjaaGreatDoor
namespace Go.Proofs.YtblbegbjlaokjaaGreatDoor
open Go.RowKit
open Go.ChangeMaps (setBlock)
attribute [local go_sem] aJ aC aO aL aQ aI aP Value.cells
def KV:Wd:=[0,1,56,2,57,49,28,3,61,58,42,50,38,29,17,4,62,47,59,36,45,43,51,22,53,39,33,30,24,18,12,5,63,55,48,27,60,41,37,16,46,35,44,21,52,32,23,11,54,26,40,15,34,20,31,10,25,14,19,9,13,8,7,6]
def dP (w:We):Prop:=∃C U fr,w.heap[0]? =some (.cells C U fr)∧∀i,i<64→C[i]? =some (.int .u8 (KV.getD i 0:Nat))
theorem dP.mod {w w':We} {S:Nat→Prop} (h:dP w) (hm:Mod S w w') (hS:¬S 0):dP w':=by
 obtain⟨C,U,fr,h1,h2⟩:=h;exact⟨C,U,fr,hm.at h1 hS,h2⟩
theorem dP.mod0 {w w':We} (h:dP w) (hm:Mod (fun _=>False) w w'):dP w':=h.mod hm (fun h=>h)
theorem SS:∀k,k<64→2^k*285870213051353865 % 18446744073709551616/288230376151711744<64∧KV.getD (2^k*285870213051353865 % 18446744073709551616/288230376151711744) 0=k:=by decide+kernel
theorem NR {k:IntKind} {a b:Int} (h:a=b):Ending.returned (.int k a)= .returned (.int k b):=by rw[h]
theorem kP {n:Nat} {z:Int} (h:z=(n:Int)) (hn:n<18446744073709551616):IntKind.u64.wrap z=(n:Int):=by
 subst h;rw[IntKind.wrap_u64];omega
set_option maxRecDepth 20000 in
set_option maxHeartbeats 1600000 in
theorem WE (w:We):Calls Tryz.prog 87 #[.int .u64 0] w fun e w'=>e= .returned (.int .i64 64)∧w'=w:=by
 go_enter Tryz.func87,Tryz.ntmps87;go_wp2_with fail;go_ret;exact⟨rfl,rfl⟩
theorem KW {x k:Nat} (hx:x<2^64) (h1:x.testBit k=true) (h0:∀i,i<k→x.testBit i=false):∃y p m ix:Nat,IntKind.u64.wrap (-(x:Int))=(y:Int)∧bits .and .u64 (x:Int) (y:Int)=(p:Int)∧IntKind.u64.wrap ((p:Int)*285870213051353865)=(m:Int)∧(m:Int)/288230376151711744=(ix:Int)∧ix<64∧KV.getD ix 0=k:=by
 have hk:=qC hx h1;have Ru:0<x:=by
  rcases aWk x with rfl|h
  ·simp at h1
  ·exact h
 obtain⟨hi,ht⟩:=SS k hk;refine⟨2^64-x,2^k,2^k*285870213051353865 % 18446744073709551616,_,?_,?_,?_,?_,hi,ht⟩
 ·rw[IntKind.wrap_u64];omega
 ·rw[u64_and_nat x (2^64-x) (by omega) (by omega),NI hx h1 h0]
 ·rw[IntKind.wrap_u64];omega
 ·omega
set_option maxRecDepth 20000 in
set_option maxHeartbeats 1600000 in
theorem WF {x k:Nat} (hx:x<2^64) (h1:x.testBit k=true) (h0:∀i,i<k→x.testBit i=false) {w:We} (hw:dP w):Calls Tryz.prog 87 #[.int .u64 (x:Int)] w fun e w'=>e= .returned (.int .i64 (k:Int))∧w'=w:=by
 obtain⟨y,p,m,ix,q1,q2,q3,q4,hi,ht⟩:=KW hx h1 h0;have hk:=qC hx h1;have aw:((x:Int)==0)=false:=by
  rw[beq_eq_false_iff_ne];intro e
  have:x=0:=by omega
  subst this;simp at h1
 obtain⟨C,U,fr,hb,hc⟩:=hw;have Ly:=hc ix hi;rw[ht]at Ly;have hcv:IntKind.i64.wrap (k:Int)=(k:Int):=IntWalk.i64_in _ (by omega);clear h1 h0 hc ht hx;go_enter Tryz.func87,Tryz.ntmps87;go_wp2_with fail;go_ret;exact⟨rfl,rfl⟩
end Go.Proofs.YtblbegbjlaokjaaGreatDoor
namespace Go.Proofs.YtblbegbjlaokjaaGreatDoor
open Go.ChangeShapes Go.WideShapes Go.ChangeAt Go.WideMaps Go.WideElems Go.RowKit
theorem ST {n:Int} (h:0≤n∧n≤18446744073709551615):∃x:Wj,n=(x.toNat:Int):=⟨UInt64.ofNat n.toNat,by
 rw[UInt64.toNat_ofNat'];omega⟩
theorem WG {n:Int} (h:0≤n∧n≤255):∃x:Wk,n=(x.toNat:Int):=⟨UInt8.ofNat n.toNat,by
 rw[UInt8.toNat_ofNat'];omega⟩
theorem QR {n:Int} (h: -9223372036854775808≤n∧n≤9223372036854775807):∃x:Wi,n=x.toInt:=⟨Int64.ofInt n,by
 rw[Int64.toInt_ofInt_of_le (by simpa using h.1) (by omega)]⟩
def LD:List (String×DataW Unit):=[("math/bits.deBruijn64tab",Rows.laid_math_bits_deBruijn64tab)]
theorem GX (os:Os) (args:Wa):laidMetH Tryz.prog LD ((World.doorLaid Tryz.prog 400 os).forCall (fun _ _=>0) ⟨#[],args,[]⟩).memory:=
 laidMetH_of_parts3 (fuel:=8) (laidMet_of_run' 8 (by kernel_rfl) (by kernel_rfl)) (by kernel_rfl) (by kernel_rfl)
def WP:List Int:=KV.map Int.ofNat
theorem TQ:LD=[("math/bits.deBruijn64tab",Lib.tabData .u8 WP)]:=by rfl
theorem qE {w:We} {b i:Nat} {v:Wg} (h:w.cell? ⟨b,i,none⟩=some v):∃C U fr,w.heap[b]? =some (.cells C U fr)∧C[i]? =some v:=by
 unfold World.cell? at h;split at h
 ·rename_i C U fr hb;exact⟨C,U,fr,hb,h⟩
 ·cases h
theorem WQ:∀i,i<64→WP.getD i 0=(KV.getD i 0:Nat):=by decide+kernel
theorem vT {W:We} (h:laidMetH Tryz.prog LD W):dP W:=by
 rw[MakeChecks.laidMetH_plain _ _ _ (by kernel_rfl),TQ]at h;have hg:Tryz.prog.globalNamed "math/bits.deBruijn64tab" =some 0:=by kernel_rfl
 have ht:=Lib.tabIs_of_head (g:=0) (n:=64) hg (by kernel_rfl) Tryz.underlying91 Tryz.underlying5 (by kernel_rfl) (by kernel_rfl) h;obtain⟨C,U,fr,hb,_⟩:=qE (ht.cell hg 0 (by decide));refine⟨C,U,fr,hb,fun i hi=> ?_⟩;obtain⟨C2,U2,fr2,cq,hc⟩:=qE (ht.cell hg i (by show i<64;exact hi));rw[hb]at cq;cases cq;rw[hc,WQ i hi]
end Go.Proofs.YtblbegbjlaokjaaGreatDoor
namespace Go.Proofs.YtblbegbjlaokjaaGreatDoor
open Go.RowKit
open Go.ChangeMaps (setBlock)
theorem laid:laidOutB Tryz.prog=true:=by kernel_rfl
theorem I1:gV Tryz.prog 107 5 where
 laid:=laid
 row:=of_decide_eq_true (by kernel_rfl)
 at2:=by kernel_rfl
 u:=Tryz.underlying107
 e:=Tryz.underlying5
 cK:=by kernel_rfl
 cE:=by kernel_rfl
 kt:=by kernel_rfl
theorem keyT:lX Tryz.prog 107 kv:=I1.keyT
def FE:Wa:=Array.replicate 32 (.int .u8 0)
theorem bH:FE.size=32:=by simp[FE]
def tP:Wa:=(Array.replicate 32 (.int .u8 0))++ #[.bool false,.bool false]
theorem jH:tP.size=34:=by simp[tP]
theorem f9 (w:We) (b o:Nat):(Instr.loadAt 107 (.pointer (some ⟨b,o,none⟩))).run Tryz.prog w=
   match w.heap[b]? with
   |some (.cells cs _ _)=>if o+32≤cs.size then .ok (.agg (cs.extract o (o+32))) w else dU Tryz.prog w 107 b o
   |_=>dU Tryz.prog w 107 b o:=bK (d:=_) Tryz.underlying107 rfl (by kernel_rfl) w b o
theorem gG (w:We) (b o:Nat) (xs:Wa):(Instr.storeAt 107 (.pointer (some ⟨b,o,none⟩)) (.agg xs)).run Tryz.prog w=
   match w.heap[b]? with
   |some (.cells cs U (0,0))=>
    if o+32≤cs.size∧xs.size=32∧xs.all (·.oneCell')=true then .ok () (setBlock w b (.cells (if o=0∧32=cs.size then xs else wr cs o xs.toList) U (0,0)))else eM Tryz.prog w 107 b o (.agg xs)
   |_=>eM Tryz.prog w 107 b o (.agg xs):=bQ (by kernel_rfl) w b o xs
theorem gJ (dst:Option Tmp) (x:Wm) (ty:Wh) (pos:String) (after:Array Edge) (g:Option (Nat×Bool)) (a:Act) (w:We) (K:Act→We→Prop) (Q:Exit→Act→We→Prop):
  Oper.wp Tryz.prog {dst:=dst,op:= .load 107 x,type:=ty,pos:=pos,after:=after,guard:=g} a w K Q=
   (match a.eval x with
   | .pointer (some ⟨b,o,none⟩)=>
    (match w.heap[b]? with
    |some (.cells cs _ _)=>if o+32≤cs.size then K (a.put dst (.agg (cs.extract o (o+32)))) w else fP Tryz.prog {dst:=dst,op:= .load 107 x,type:=ty,pos:=pos,after:=after,guard:=g} a w K Q
    |_=>fP Tryz.prog {dst:=dst,op:= .load 107 x,type:=ty,pos:=pos,after:=after,guard:=g} a w K Q)
   |_=>fP Tryz.prog {dst:=dst,op:= .load 107 x,type:=ty,pos:=pos,after:=after,guard:=g} a w K Q):=dL (d:=_) Tryz.underlying107 rfl (by kernel_rfl) dst x ty pos after g a w K Q
theorem FX (w:We):(Instr.alloc 107 true (.tuple #[])).run Tryz.prog w= .ok (.pointer (some ⟨w.heap.size,0,none⟩)) (w.alloc (.cells FE 107)):=
 aY (z:= .agg FE) (fun w=>by kernel_rfl) w
theorem uW (w:We) (b o:Nat):(Instr.loadAt 178 (.pointer (some ⟨b,o,none⟩))).run Tryz.prog w=
   match w.heap[b]? with
   |some (.cells cs _ _)=>if o+34≤cs.size then .ok (.agg (cs.extract o (o+34))) w else dU Tryz.prog w 178 b o
   |_=>dU Tryz.prog w 178 b o:=bK (d:=_) Tryz.underlying178 rfl (by kernel_rfl) w b o
theorem vS (w:We) (b o:Nat) (xs:Wa):(Instr.storeAt 178 (.pointer (some ⟨b,o,none⟩)) (.agg xs)).run Tryz.prog w=
   match w.heap[b]? with
   |some (.cells cs U (0,0))=>
    if o+34≤cs.size∧xs.size=34∧xs.all (·.oneCell')=true then .ok () (setBlock w b (.cells (if o=0∧34=cs.size then xs else wr cs o xs.toList) U (0,0)))else eM Tryz.prog w 178 b o (.agg xs)
   |_=>eM Tryz.prog w 178 b o (.agg xs):=bQ (by kernel_rfl) w b o xs
theorem kG (dst:Option Tmp) (x:Wm) (ty:Wh) (pos:String) (after:Array Edge) (g:Option (Nat×Bool)) (a:Act) (w:We) (K:Act→We→Prop) (Q:Exit→Act→We→Prop):
  Oper.wp Tryz.prog {dst:=dst,op:= .load 178 x,type:=ty,pos:=pos,after:=after,guard:=g} a w K Q=
   (match a.eval x with
   | .pointer (some ⟨b,o,none⟩)=>
    (match w.heap[b]? with
    |some (.cells cs _ _)=>if o+34≤cs.size then K (a.put dst (.agg (cs.extract o (o+34)))) w else fP Tryz.prog {dst:=dst,op:= .load 178 x,type:=ty,pos:=pos,after:=after,guard:=g} a w K Q
    |_=>fP Tryz.prog {dst:=dst,op:= .load 178 x,type:=ty,pos:=pos,after:=after,guard:=g} a w K Q)
   |_=>fP Tryz.prog {dst:=dst,op:= .load 178 x,type:=ty,pos:=pos,after:=after,guard:=g} a w K Q):=dL (d:=_) Tryz.underlying178 rfl (by kernel_rfl) dst x ty pos after g a w K Q
theorem nH (w:We):(Instr.alloc 178 true (.tuple #[])).run Tryz.prog w= .ok (.pointer (some ⟨w.heap.size,0,none⟩)) (w.alloc (.cells tP 178)):=
 aY (z:= .agg tP) (fun w=>by kernel_rfl) w
structure aT where
 k:aN
 s:Bool
 w:Bool
def rcr (r:aT):Wa:=rc r.k r.s r.w
def aV (w:We) (a:Wb) (l:List aT):Prop:=aS rcr 34 w a l
end Go.Proofs.YtblbegbjlaokjaaGreatDoor
namespace Go.Proofs.YtblbegbjlaokjaaGreatDoor
open Go.RowKit
open Go.ChangeMaps (setBlock)
attribute [local go_sem↓] gJ f9 gG
attribute [local go_sem] aJ aC eB aO aL aQ aI aP dR cW kc_size bH Value.cells
def bW (Ks:List aK):aK:=fun T w=>∃Ts:Nat→Nat→Prop,(∀(i:Nat) (K:aK),Ks[i]? =some K→K (Ts i) w)∧(∀i a,Ts i a→T a)∧∀i j a,i≠j→Ts i a→¬Ts j a
theorem bW.good {Ks:List aK} (h:∀K∈Ks,aH K):aH (bW Ks) where
 cl:=fun T w w' ⟨Ts,h1,h2,h3⟩ hm=>⟨Ts,fun i K hK=>(h K (aZi hK)).cl _ _ _ (h1 i K hK) (hm.mono (fun a _ hn ht=>hn (h2 i a ht))),h2,h3⟩
 gr:=fun T T' w hT ⟨Ts,h1,h2,h3⟩=>⟨Ts,h1,fun i a ha=>hT a (h2 i a ha),h3⟩
theorem bW.mod0 {Ks:List aK} {T:Nat→Prop} {w w':We} (h:∀K∈Ks,aH K) (hS:bW Ks T w) (hm:Mod (fun _=>False) w w'):bW Ks T w':=(bW.good h).cl _ _ _ hS (hm.mono (fun _ _ h=>h.elim))
theorem bW.get {Ks:List aK} {T:Nat→Prop} {w:We} (hS:bW Ks T w) {i:Nat} {K:aK} (hi:Ks[i]? =some K):∃T',K T' w∧∀a,T' a→T a:=by
 obtain⟨Ts,h1,h2,_⟩:=hS;exact⟨Ts i,h1 i K hi,h2 i⟩
def Goes (K':aK) (T:Nat→Prop) (w w':We):Prop:=∃T',K' T' w'∧Mod T w w'∧∀a,T' a→T a∨(w.heap.size≤a∧a<w'.heap.size)
theorem bW.step {Ks:List aK} {T:Nat→Prop} {w w':We} (hG:∀K∈Ks,aH K) (hT:∀a,T a→a<w.heap.size) {i:Nat} (hi:i<Ks.length) {K':aK} {Ts:Nat→Nat→Prop} (h1:∀(i:Nat) (K:aK),Ks[i]? =some K→K (Ts i) w) (h2:∀i a,Ts i a→T a)
  (h3:∀i j a,i≠j→Ts i a→¬Ts j a) (hs:Goes K' (Ts i) w w'):bW (Ks.set i K') (Grow T w w') w'∧Mod T w w':=by
 obtain⟨T',k1,k2,k3⟩:=hs;refine⟨⟨fun j=>if j=i then T' else Ts j,fun j K hK=> ?_,fun j a ha=> ?_,fun j k a vz hj hk=> ?_⟩,k2.mono (fun a _ h=>h2 i a h)⟩
 ·dsimp only;rw[List.getElem?_set]at hK;by_cases e:j=i
  ·rw[if_pos e];rw[if_pos e.symm]at hK;rw[if_pos hi]at hK;cases hK;exact k1
  ·rw[if_neg e];rw[if_neg (fun h=>e h.symm)]at hK;exact(hG K (aZi hK)).cl _ _ _ (h1 j K hK) (k2.mono (fun a _ ha hb=>h3 i j a (fun h=>e h.symm) ha hb))
 ·dsimp only at ha;split at ha
  ·rcases k3 a ha with h|h
   ·exact .inl (h2 i a h)
   ·exact .inr h
  ·exact .inl (h2 j a ha)
 ·dsimp only at hj hk;by_cases e:j=i
  ·rw[if_pos e]at hj;rw[if_neg (fun h=>vz (e.trans h.symm))]at hk;rcases k3 a hj with h|h
   ·exact h3 i k a (fun h=>vz (e.trans h)) h hk
   ·have:=hT a (h2 k a hk);omega
  ·rw[if_neg e]at hj;by_cases e2:k=i
   ·rw[if_pos e2]at hk;rcases k3 a hk with h|h
    ·exact h3 i j a (fun h=>e h.symm) h hj
    ·have:=hT a (h2 j a hj);omega
   ·rw[if_neg e2]at hk;exact h3 j k a vz hj hk
end Go.Proofs.YtblbegbjlaokjaaGreatDoor
namespace Go.Proofs.YtblbegbjlaokjaaGreatDoor
open Go.RowKit
open Go.ChangeMaps (setBlock)
structure Rk where
 p:Wj
 n:Wj
deriving DecidableEq
structure Nd where
 r:Rk
 id:Wi
deriving DecidableEq
def rkc (r:Rk):Wa:= #[.int .u64 (r.p.toNat:Int),.int .u64 (r.n.toNat:Int)]
@[simp] theorem rkc_size (r:Rk):(rkc r).size=2:=rfl
theorem NT {a b:Rk} (h:rkc a=rkc b):a=b:=by
 cases a;cases b;simp only[rkc,Array.mk.injEq,List.cons.injEq,Value.int.injEq,true_and,and_true]at h;simp only[Rk.mk.injEq,←UInt64.toNat_inj];omega
def yJ:Rk:=⟨0,0⟩
def gN (a b:Rk):Bool:=if a.p=b.p then decide (a.n.toNat<b.n.toNat)else decide (b.p.toNat<a.p.toNat)
def nlt (a b:Nd):Bool:=if a.r=b.r then decide (a.id.toInt<b.id.toInt)else gN a.r b.r
def xE:Bool→Nd→Nd→Bool
 |false=>nlt
 |true=>fun a b=>nlt b a
theorem nlt_irrefl (a:Nd):nlt a a=false:=by simp[nlt]
theorem nlt_asymm {a b:Nd} (h:nlt a b=true):nlt b a=false:=by
 obtain⟨⟨p,n⟩,i⟩:=a;obtain⟨⟨q,m⟩,j⟩:=b;simp only[nlt,gN,Rk.mk.injEq,←UInt64.toNat_inj]at *
 grind
theorem eR {a b c:Nd} (h1:nlt a b=false) (h2:nlt b c=false):nlt a c=false:=by
 obtain⟨⟨p,n⟩,i⟩:=a;obtain⟨⟨q,m⟩,j⟩:=b;obtain⟨⟨s,o⟩,k⟩:=c;simp only[nlt,gN,Rk.mk.injEq,←UInt64.toNat_inj]at *
 grind
theorem iM {a b:Nd} (h1:nlt a b=false) (h2:nlt b a=false):a=b:=by
 obtain⟨⟨p,n⟩,i⟩:=a;obtain⟨⟨q,m⟩,j⟩:=b;simp only[nlt,gN,Rk.mk.injEq,Nd.mk.injEq,←UInt64.toNat_inj,←Int64.toInt_inj]at *
 grind
theorem flt_asymm {k:Bool} {a b:Nd} (h:xE k a b=true):xE k b a=false:=by cases k<;>exact nlt_asymm h
theorem uI {k:Bool} {a b c:Nd} (h1:xE k a b=false) (h2:xE k b c=false):xE k a c=false:=by
 cases k
 ·exact eR h1 h2
 ·exact eR h2 h1
def ndc (k:Bool) (x:Nd) (i o:Int):Wa:= #[.int .u64 (x.r.p.toNat:Int),.int .u64 (x.r.n.toNat:Int),.int .i64 x.id.toInt,.int .i64 (if k then o else i),.int .i64 (if k then i else o)]
@[simp] theorem ndc_size (k:Bool) (x:Nd) (i o:Int):(ndc k x i o).size=5:=rfl
def pc (b:Nat):Wa:= #[.pointer (some ⟨b,0,none⟩)]
theorem o3:oM Tryz.prog 224 212 pc 1 8 where
 u:=Tryz.underlying224
 info:=by
  obtain⟨i0,hi,cy,bj,bp⟩:=info_parts (show(Tryz.prog.info? 212).map (fun i=>(i.zero,i.size,i.bytes))=some (some (.pointer none),1,8)by kernel_rfl);exact⟨i0,_,hi,cy,bj,bp,rfl⟩
 pos:=by omega
 size x:=rfl
 one x u hu:=by
  simp[pc]at hu;subst hu;rfl
theorem bU (l:Wd):cellsOf pc l=l.map fun b=> .pointer (some ⟨b,0,none⟩):=by
 unfold cellsOf pc
 induction l with
 |nil=>rfl
 |cons b l ih=>simpa using ih
abbrev ptrV (b:Nat):Value:= .pointer (some ⟨b,0,none⟩)
theorem gS {w:We} {base:Nat} {v:Wg} {L:Wd} (h:aE pc 1 212 w base v L) (hL:L≠[]):
  ∃g cap cur,v= .slice (some ⟨g,0,none⟩) L.length cap∧base≤g∧w.heap[g]? =some (.cells cur 212 (0,0))∧L.length≤cap∧cap=cur.size∧(∀(i b:Nat),L[i]? =some b→cur[i]? =some (ptrV b))∧
   ∀(w':We) (cur':Wa) (L':Wd),w'.heap[g]? =some (.cells cur' 212 (0,0))→cur'.size=cur.size→L'.length=L.length→(∀(i b:Nat),L'[i]? =some b→cur'[i]? =some (ptrV b))→aE pc 1 212 w' base v L':=by
 obtain⟨h0,h⟩:=h;rcases h with⟨_,hn⟩|⟨g,cap,cur,rfl,hb,hg,se,tv,fz,br⟩
 ·exact absurd (aYn hn) hL
 ·rw[aYp]at fz br;refine⟨g,cap,cur,rfl,hb,hg,se,fz.symm,fun i b hi=> ?_,fun w' cur' L' gj fu hl hc=>⟨?_,.inr ⟨g,cap,cur',by rw[hl],hb,gj,by omega,tv,by omega,?_⟩⟩⟩
  ·rw[bU]at br;have h1:=congrArg (fun l=>l[i]?) br;have hlt:=(aZa.1 hi).1;simp only[aY7,aZv,hi,aYj,if_pos hlt]at h1;simpa using h1
  ·rw[bU];simp
  ·rw[bU,aYp];apply aXm;intro i;rw[aY7,aZv];by_cases hi:i<L'.length
   ·rw[if_pos hi,aZb hi];have:=hc i _ (aZb hi);simpa using this
   ·rw[if_neg hi,aY1 (by omega)];rfl
end Go.Proofs.YtblbegbjlaokjaaGreatDoor
namespace Go.Proofs.YtblbegbjlaokjaaGreatDoor
def swapL {α:Type} (L:List α) (i j:Nat):List α:=match L[i]?,L[j]? with
 |some a,some b=>(L.set i b).set j a
 |_,_=>L
section
variable {α:Type} {L:List α}
theorem yB {i j:Nat} {a b:α} (hi:L[i]? =some a) (hj:L[j]? =some b):swapL L i j=(L.set i b).set j a:=by simp[swapL,hi,hj]
@[simp] theorem swapL_length (i j:Nat):(swapL L i j).length=L.length:=by
 unfold swapL;split<;>simp
theorem d8 {i j:Nat} (hi:i<L.length) (hj:j<L.length) (c:Nat):(swapL L i j)[c]? =if c=j then L[i]? else if c=i then L[j]? else L[c]? :=by
 rw[yB (aZb hi) (aZb hj)];simp only[List.getElem?_set,aZn]
 grind
theorem lT {i j:Nat} (hi:i<L.length) (hj:j<L.length):(swapL L i j).Perm L:=by
 rw[yB (aZb hi) (aZb hj)];exact List.set_set_perm hi hj
end
section
variable {lt:Nat→Nat→Bool} {L:Wd}
def DC (lt:Nat→Nat→Bool) (L:Wd) (c:Nat):Prop:=∀a b,L[c]? =some a→L[(c-1)/2]? =some b→lt a b=false
def FM (lt:Nat→Nat→Bool) (L:Wd) (i c:Nat):Prop:=∀a b,L[c]? =some a→L[(i-1)/2]? =some b→lt a b=false
def bF (lt:Nat→Nat→Bool) (n:Nat) (L:Wd):Prop:=∀c,0<c→c<n→DC lt L c
def pX (lt:Nat→Nat→Bool) (n:Nat) (L:Wd) (j:Nat):Prop:=∀c,0<c→c<n→(c≠j→DC lt L c)∧((c-1)/2=j→0<j→FM lt L j c)
def iW (lt:Nat→Nat→Bool) (n:Nat) (L:Wd) (i:Nat):Prop:=∀c,0<c→c<n→(c≠i→(c-1)/2≠i→DC lt L c)∧((c-1)/2=i→0<i→FM lt L i c)
def nD (lt:Nat→Nat→Bool) (n:Nat) (L:Wd) (i:Nat):Prop:=∀c,0<c→c<n→((c-1)/2≠i→DC lt L c)∧((c-1)/2=i→0<i→FM lt L i c)
structure yN (lt:Nat→Nat→Bool):Prop where
 asymm:∀a b,lt a b=true→lt b a=false
 neg:∀a b c,lt a b=false→lt b c=false→lt a c=false
theorem bF.up {n:Nat} {L:Wd} (h:bF lt n L) (x:Nat) (hn:n=L.length) (hw:yN lt):pX lt (n+1) (L++[x]) n:=by
 intro c hc dt;refine⟨fun aw a b ha hb=> ?_,fun e=>by omega⟩;rw[aZt (by omega)]at ha hb;exact h c hc (by omega) a b ha hb
theorem pX.stop {n j:Nat} (h:pX lt n L j) (hj:j=0∨DC lt L j):bF lt n L:=by
 intro c hc dt;by_cases e:c=j
 ·subst e;rcases hj with hj|hj
  ·omega
  ·exact hj
 ·exact(h c hc dt).1 e
theorem pX.step {n j:Nat} (hw:yN lt) (h:pX lt n L j) (hn:n≤L.length) (hj:0<j) (Me:j<n) {a b:Nat} (ha:L[j]? =some a) (hb:L[(j-1)/2]? =some b) (hlt:lt a b=true):
  pX lt n (swapL L ((j-1)/2) j) ((j-1)/2):=by
 have hi:(j-1)/2<j:=by omega
 generalize yu:(j-1)/2=i at *;have dw:=d8 (L:=L) (i:=i) (j:=j) (by omega) (by omega);intro c hc dt;have hpc:(c-1)/2<c:=by omega
 refine⟨fun aw x y hx hy=> ?_,fun e ir x y hx hy=> ?_⟩
 ·rw[dw]at hx hy;by_cases h1:c=j
  ·subst h1;rw[if_pos rfl,hb]at hx;rw[yu,if_neg (by omega),if_pos rfl,ha]at hy;cases hx;cases hy;exact hw.asymm _ _ hlt
  ·rw[if_neg h1,if_neg aw]at hx;by_cases h2:(c-1)/2=j
   ·rw[if_pos h2,hb]at hy;cases hy;have:=(h c hc dt).2 h2 hj x b hx (by rw[yu];exact hb);exact this
   ·rw[if_neg h2]at hy;by_cases h3:(c-1)/2=i
    ·rw[if_pos h3,ha]at hy;cases hy;have h4:=(h c hc dt).1 h1 x b hx (by rw[h3];exact hb);exact hw.neg _ _ _ h4 (hw.asymm _ _ hlt)
    ·rw[if_neg h3]at hy;exact(h c hc dt).1 h1 x y hx hy
 ·rw[dw]at hx hy;have h5:(i-1)/2<i:=by omega
  rw[if_neg (by omega),if_neg (by omega)]at hy;by_cases h1:c=j
  ·subst h1;rw[if_pos rfl,hb]at hx;cases hx;exact(h i ir (by omega)).1 (by omega) b y hb hy
  ·rw[if_neg h1,if_neg (by omega)]at hx;have h4:=(h c hc dt).1 h1 x b hx (by rw[e];exact hb);exact hw.neg _ _ _ h4 ((h i ir (by omega)).1 (by omega) b y hb hy)
def sJ (lt:Nat→Nat→Bool) (n:Nat) (L:Wd) (i j:Nat):Prop:=(j=2*i+1∨j=2*i+2)∧j<n∧∀c x a,c<n→(c=2*i+1∨c=2*i+2)→L[c]? =some x→L[j]? =some a→lt x a=false
theorem iW.step {n i j:Nat} (hw:yN lt) (h:iW lt n L i) (hn:n≤L.length) (hf:sJ lt n L i j) {a b:Nat} (ha:L[j]? =some a) (hb:L[i]? =some b) (hlt:lt a b=true):nD lt n (swapL L i j) j:=by
 obtain⟨hj,Me,Iu⟩:=hf;have ig:i<j:=by omega
 have hpj:(j-1)/2=i:=by omega
 have dw:=d8 (L:=L) (i:=i) (j:=j) (by omega) (by omega);intro c hc dt;have hpc:(c-1)/2<c:=by omega
 refine⟨fun aw x y hx hy=> ?_,fun e hj0 x y hx hy=> ?_⟩
 ·rw[dw]at hx hy;rw[if_neg aw]at hy;by_cases h1:c=j
  ·subst h1;rw[if_pos rfl,hb]at hx;rw[if_pos hpj,ha]at hy;cases hx;cases hy;exact hw.asymm _ _ hlt
  ·rw[if_neg h1]at hx;by_cases h2:c=i
   ·subst h2;rw[if_pos rfl,ha]at hx;rw[if_neg (by omega)]at hy;cases hx;exact(h j (by omega) Me).2 hpj hc a y ha hy
   ·rw[if_neg h2]at hx;by_cases h3:(c-1)/2=i
    ·rw[if_pos h3,ha]at hy;cases hy;exact Iu c x a dt (by omega) hx ha
    ·rw[if_neg h3]at hy;exact(h c hc dt).1 h2 h3 x y hx hy
 ·rw[dw]at hx hy;rw[if_neg (by omega),if_neg (by omega)]at hx;rw[hpj,if_neg (by omega),if_pos rfl,ha]at hy;cases hy;exact(h c hc dt).1 (by omega) (by omega) x a hx (by rw[e];exact ha)
theorem nD.sift {n i:Nat} (h:nD lt n L i):iW lt n L i:=fun c hc dt=>⟨fun _ h2=>(h c hc dt).1 h2,(h c hc dt).2⟩
def jT (lt:Nat→Nat→Bool) (n:Nat) (L:Wd) (i:Nat):Prop:=∀c,0<c→c<n→(c-1)/2=i→DC lt L c
theorem nD.stop {n i:Nat} (h:nD lt n L i) (hs:jT lt n L i):bF lt n L:=by
 intro c hc dt;by_cases e:(c-1)/2=i
 ·exact hs c hc dt e
 ·exact(h c hc dt).1 e
theorem iW.stop {n i:Nat} (h:iW lt n L i) (hs:jT lt n L i):pX lt n L i:=by
 intro c hc dt;refine⟨fun aw=> ?_,(h c hc dt).2⟩;by_cases e:(c-1)/2=i
 ·exact hs c hc dt e
 ·exact(h c hc dt).1 aw e
theorem jT.of_first {n i j:Nat} (hw:yN lt) (hf:sJ lt n L i j) {a b:Nat} (ha:L[j]? =some a) (hb:L[i]? =some b) (hlt:lt a b=false):jT lt n L i:=by
 intro c hc dt hp x y hx hy;rw[hp,hb]at hy;cases hy;exact hw.neg _ _ _ (hf.2.2 c x a dt (by omega) hx ha) hlt
theorem jT.none {n i:Nat} (h:n≤2*i+1):jT lt n L i:=by
 intro c hc dt hp;omega
theorem bF.sift {n i:Nat} {L:Wd} (hw:yN lt) (h:bF lt (n+1) L) (hL:L.length=n+1) (hi:i<n):iW lt n (swapL L i n) i:=by
 have dw:=d8 (L:=L) (i:=i) (j:=n) (by omega) (by omega);intro c hc dt;refine⟨fun h1 h2 x y hx hy=> ?_,fun e ir x y hx hy=> ?_⟩
 ·rw[dw]at hx hy;rw[if_neg (by omega),if_neg h1]at hx;rw[if_neg (by omega),if_neg h2]at hy;exact h c hc (by omega) x y hx hy
 ·rw[dw]at hx hy;rw[if_neg (by omega),if_neg (by omega)]at hx;rw[if_neg (by omega),if_neg (by omega)]at hy;have h1:=h c hc (by omega) x (L[i]'(by omega)) hx (by rw[e,aZb (by omega)]);have h2:=h i ir (by omega) (L[i]'(by omega)) y (by rw[aZb (by omega)]) hy;exact hw.neg _ _ _ h1 h2
theorem bF.root {n:Nat} {L:Wd} (hw:yN lt) (h:bF lt n L) (hn:n≤L.length) (hi:∀a,lt a a=false) {r:Nat} (hr:L[0]? =some r):∀c a,c<n→L[c]? =some a→lt a r=false:=by
 intro c
 induction c using Nat.strongRecOn with
 |ind c ih=>
  intro a hc ha;by_cases h0:c=0
  ·subst h0;rw[hr]at ha;cases ha;exact hi _
  ·have hp:(c-1)/2<c:=by omega
   have Bi:(c-1)/2<L.length:=by omega
   exact hw.neg _ _ _ (h c (by omega) hc a _ ha (aZb Bi)) (ih _ hp _ (by omega) (aZb Bi))
theorem bF.mono {n m:Nat} (h:bF lt n L) (hm:m≤n):bF lt m L:=fun c hc tv=>h c hc (by omega)
theorem bF.take {n:Nat} (h:bF lt n L):bF lt n (L.take n):=by
 intro c hc dt a b ha hb;rw[aY7,if_pos dt]at ha;rw[aY7,if_pos (by omega)]at hb;exact h c hc dt a b ha hb
end
end Go.Proofs.YtblbegbjlaokjaaGreatDoor
namespace Go.Proofs.YtblbegbjlaokjaaGreatDoor
open Go.RowKit Go.Sort
open Go.ChangeMaps (setBlock)
def Y3:Wa:= #[.int .u64 0,.int .u64 0]
theorem eG (w:We) (b o:Nat):(Instr.loadAt 152 (.pointer (some ⟨b,o,none⟩))).run Tryz.prog w=
   match w.heap[b]? with
   |some (.cells cs _ _)=>if o+2≤cs.size then .ok (.agg (cs.extract o (o+2))) w else dU Tryz.prog w 152 b o
   |_=>dU Tryz.prog w 152 b o:=bK (d:=_) Tryz.underlying152 rfl (by kernel_rfl) w b o
theorem gM (w:We) (b o:Nat) (xs:Wa):(Instr.storeAt 152 (.pointer (some ⟨b,o,none⟩)) (.agg xs)).run Tryz.prog w=
   match w.heap[b]? with
   |some (.cells cs U (0,0))=>
    if o+2≤cs.size∧xs.size=2∧xs.all (·.oneCell')=true then .ok () (setBlock w b (.cells (if o=0∧2=cs.size then xs else wr cs o xs.toList) U (0,0)))else eM Tryz.prog w 152 b o (.agg xs)
   |_=>eM Tryz.prog w 152 b o (.agg xs):=bQ (by kernel_rfl) w b o xs
theorem pZ (w:We):(Instr.alloc 152 true (.tuple #[])).run Tryz.prog w= .ok (.pointer (some ⟨w.heap.size,0,none⟩)) (w.alloc (.cells Y3 152)):=
 aY (z:= .agg Y3) (fun w=>by kernel_rfl) w
attribute [local go_sem↓] eG gM
attribute [local go_sem] rkc_size ndc_size aJ aC aO aL aQ aI aP Value.cells
theorem mG (w:We) (q:Nat) (os:Array Obj):Mod (fun _=>False) w (grow (w.drewN q) os):=by
 refine⟨rfl,rfl,rfl,?_,fun i hi _=> ?_⟩
 ·show w.heap.size≤(w.heap++os).size;simp
 ·show(w.heap++os)[i]? =w.heap[i]?;exact Array.getElem?_append_left hi
theorem gO {w:We} {b:Nat} {o:Obj} (h:w.heap[b]? =some o) (q:Nat) (os:Array Obj):(grow (w.drewN q) os).heap[b]? =some o:=(mG w q os).at0 h
theorem AV (a b:Rk) (w:We):Calls Tryz.prog 51 #[.agg (rkc a),.agg (rkc b)] w fun e w'=>e= .returned (.bool (gN a b))∧∃q os,w'=grow (w.drewN q) os:=by
 go_enter Tryz.func51,Tryz.ntmps51;go_upto_region 1 with fail;have k1:=(uJ w (.cells (rkc a) 152) (.cells (rkc b) 152)).1;have k2:=(uJ w (.cells (rkc a) 152) (.cells (rkc b) 152)).2;have hw:∃os,(w.alloc (.cells (rkc a) 152)).alloc (.cells (rkc b) 152)=grow w os:=⟨_,by rw[alloc_eq_grow,alloc_eq_grow,grow_grow]⟩;have HW:=Hi hw;clear hw;generalize(w.alloc (.cells (rkc a) 152)).alloc (.cells (rkc b) 152)=w2 at *;generalize w.heap.size=n at *;obtain⟨p,m⟩:=a;obtain⟨p',m'⟩:=b;simp only[rkc]at k1 k2;by_cases hp:p=p'
 ·subst hp;go_wp2_with fail;go_ret;obtain⟨os,rfl⟩:=HW.out;exact⟨by simp[gN],0,os,rfl⟩
 ·have aw:((p.toNat:Int) !=(p'.toNat:Int))=true:=by
   rw[bne_iff_ne];intro e;exact hp (UInt64.toNat_inj.1 (by omega))
  have HP:=Hi hp;clear hp;go_wp2_with fail;go_ret;obtain⟨os,rfl⟩:=HW.out;exact⟨by simp[gN,HP.out],0,os,rfl⟩
theorem SU (x:Wj):(Lit.int .u64 (x.toNat:Int)).wf=true:=by
 have:=x.toNat_lt;simp[Lit.wf,IntKind.min,IntKind.max,IntKind.bits,IntKind.signed];omega
theorem xL (x:Wj) (d:Nat):Tryz.prog.keyLits (d+1) 23 [.int .u64 (x.toNat:Int)]=some [.int .u64 (x.toNat:Int)]:=by
 unfold Program.keyLits;rw[Tryz.underlying23];simp[SU]
theorem FA:Tryz.prog.cellsOf 23=1:=by kernel_rfl
theorem xZ:Tryz.prog.cellsOf 152=2:=by kernel_rfl
theorem CL (a:Rk) (d:Nat):∃l,Tryz.prog.keyLits (d+3) 152 (rkc a).toList=some l:=by
 unfold Program.keyLits;rw[Tryz.underlying152];simp only[xZ];rw[if_pos ⟨by rw[aYd,rkc_size],by kernel_rfl⟩];have h1:(rkc a).toList.take 1=[.int .u64 (a.p.toNat:Int)]:=rfl;have h2:((rkc a).toList.drop 1).take 1=[.int .u64 (a.n.toNat:Int)]:=rfl;simp only[List.mapM_cons,List.mapM_nil,FA,List.drop_zero,h1,h2,xL a.p (d+1),xL a.n (d+1)];exact⟨_,rfl⟩
theorem fY (a b:Rk) (w:We):(Op.equalIn 10000 152 (.agg (rkc a)) (.agg (rkc b))).run Tryz.prog w= .ok (decide (a=b)) w:=by
 obtain⟨lx,hx⟩:=CL a 0;obtain⟨ly,hy⟩:=CL b 0;have hat:Tryz.prog.keyTypeAt 3 152=true:=by kernel_rfl
 have hti:Tryz.prog.tiled 3 152=true:=by kernel_rfl
 have hf:∀a:Rk,(Value.agg (rkc a)).formed Tryz.prog 152=true:=fun a=>by
  simp[Value.formed,Tryz.underlying152,xZ,rkc_size]
 obtain⟨r,hr,Ix⟩:=run_equalIn_deep (P:=Tryz.prog) 9997 3 152 hat w 3 3 (.agg (rkc a)) (.agg (rkc b)) lx ly (hf a) (hf b) hx hy;have e:r=decide (a=b):=by
  rw[aXw,Ix,decide_eq_true_eq];refine⟨fun e=> ?_,fun e=> ?_⟩
  ·have h1:=cells_of_lits 3 152 hti 3 _ _ hx;have h2:=cells_of_lits 3 152 hti 3 _ _ hy;rw[e,←h2]at h1;exact NT (aZ1.1 h1)
  ·subst e;rw[hx]at hy;exact aZz hy
 rw[←e];exact hr
theorem d9 (a b:Rk) (w:We):(Op.equalIn 10000 152 (.agg #[.int .u64 (a.p.toNat:Int),.int .u64 (a.n.toNat:Int)]) (.agg #[.int .u64 (b.p.toNat:Int),.int .u64 (b.n.toNat:Int)])).run Tryz.prog w= .ok (decide (a=b)) w:=fY a b w
attribute [local go_sem↓] fY d9
theorem rC (k:Bool) (x:Nd) (i o:Int):(ndc k x i o).extract 0 2=rkc x.r:=rfl
theorem AC (k:Bool) (x:Nd) (i o:Int):(ndc k x i o)[2]? =some (.int .i64 x.id.toInt):=rfl
attribute [local go_sem] rC AC
set_option maxHeartbeats 1600000 in
theorem tW (a b:Nat) (k:Bool) (x y:Nd) (i o i' o':Int) (w:We) (ka:w.heap[a]? =some (.cells (ndc k x i o) 222 (0,0))) (kb:w.heap[b]? =some (.cells (ndc k y i' o') 222 (0,0))):
  Calls Tryz.prog 96 #[ptrV a,ptrV b] w fun e w'=>e= .returned (.bool (nlt x y))∧∃q os,w'=grow (w.drewN q) os:=by
 unfold ndc at ka kb;by_cases he:x.r=y.r
 ·have hn:nlt x y=decide (x.id.toInt<y.id.toInt):=by simp[nlt,he]
  have hd:=Dt he;clear he;generalize nlt x y=z at *;subst hn;go_enter Tryz.func96,Tryz.ntmps96;go_upto_region 1 with fail;have hmix:Tryz.prog.follows .mixedOrders=true:=by kernel_rfl
  have hg:=fun n os=>gO ka n os;have gj:=fun n os=>gO kb n os
  go_quiet_grown (fail)
  have ka:=hg nq osq;have kb:=gj nq osq;clear hg gj;generalize Ee:grow (w.drewN nq) osq=w2 at *;have HW:Hid (∃q os,w2=grow (w.drewN q) os):=Hi ⟨nq,osq,Ee.symm⟩;clear Ee;go_upto_region 2 with fail;have hg:=fun n os=>gO ka n os;have gj:=fun n os=>gO kb n os
  go_quiet_grown (fail)
  go_wp2_with fail;go_ret;obtain⟨q,os,rfl⟩:=HW.out;exact⟨by first|rfl|simp,q+nq,os++osq,by show grow (grow ((w.drewN q).drewN nq) os) osq=_;rw[grow_grow,World.drewN_drewN]⟩
 ·have hn:nlt x y=gN x.r y.r:=by simp[nlt,he]
  have hd:=Df he;clear he;generalize nlt x y=z at *;subst hn;have hmix:Tryz.prog.follows .mixedOrders=true:=by kernel_rfl
  go_enter Tryz.func96,Tryz.ntmps96;go_upto_region 1 with fail;have hg:=fun n os=>gO ka n os;have gj:=fun n os=>gO kb n os
  go_quiet_grown (fail)
  have ka:=hg nq osq;have kb:=gj nq osq;clear hg gj;generalize Ee:grow (w.drewN nq) osq=w2 at *;have HW:Hid (∃q os,w2=grow (w.drewN q) os):=Hi ⟨nq,osq,Ee.symm⟩;clear Ee;go_upto_region 3 with fail;have hg:=fun n os=>gO ka n os;have gj:=fun n os=>gO kb n os;have hA:∀n os,Calls Tryz.prog 51 #[.agg #[.int .u64 (x.r.p.toNat:Int),.int .u64 (x.r.n.toNat:Int)],.agg #[.int .u64 (y.r.p.toNat:Int),.int .u64 (y.r.n.toNat:Int)]] _ _:=fun n os=>AV x.r y.r (grow (w2.drewN n) os)
  go_quiet_grown (first|(go_at_call 51;refine Calls.grown_of (hA _ _)))
  go_wp2_with fail;go_ret;obtain⟨q,os,rfl⟩:=HW.out;exact⟨by first|rfl|simp,q+nq,os++osq,by show grow (grow ((w.drewN q).drewN nq) os) osq=_;rw[grow_grow,World.drewN_drewN]⟩
theorem PQ (a b:Nat) (k:Bool) (x y:Nd) (i o i' o':Int) (w:We) (ka:w.heap[a]? =some (.cells (ndc k x i o) 222 (0,0))) (kb:w.heap[b]? =some (.cells (ndc k y i' o') 222 (0,0))):
  Calls Tryz.prog 121 #[ptrV a,ptrV b] w fun e w'=>e= .returned (.bool (nlt y x))∧∃q os,w'=grow (w.drewN q) os:=by
 have hA:=tW b a k y x i' o' i o w kb ka;clear ka kb;go_enter Tryz.func121,Tryz.ntmps121;go_wp2_with fail;go_at_call 96;refine hA.mono ?_;rintro e w1 ⟨rfl,q,os,rfl⟩;go_wp2_with fail;go_ret;exact⟨rfl,q,os,rfl⟩
def sC (x y:Nd):Int:=if nlt x y then-1 else 1
theorem P3 (a b:Nat) (k:Bool) (x y:Nd) (i o i' o':Int) (w:We) (ka:w.heap[a]? =some (.cells (ndc k x i o) 222 (0,0))) (kb:w.heap[b]? =some (.cells (ndc k y i' o') 222 (0,0))):
  Calls Tryz.prog 95 #[ptrV a,ptrV b] w fun e w'=>e= .returned (.int .i64 (sC x y))∧∃q os,w'=grow (w.drewN q) os:=by
 have hA:=tW a b k x y i o i' o' w ka kb;clear ka kb;have HN:Hid (sC x y=if nlt x y then-1 else 1):=Hi rfl;go_enter Tryz.func95,Tryz.ntmps95;go_wp2_with fail;go_at_call 96;refine hA.mono ?_;rintro e w1 ⟨rfl,q,os,rfl⟩;cases hz:nlt x y
 ·go_wp2_with fail;go_ret;exact⟨by rw[HN.out,hz];rfl,q,os,rfl⟩
 ·go_wp2_with fail;go_ret;exact⟨by rw[HN.out,hz];rfl,q,os,rfl⟩
def fn:Bool→Wn
 |false=>96
 |true=>121
theorem MG (q:Bool) (a b:Nat) (k:Bool) (x y:Nd) (i o i' o':Int) (w:We) (ka:w.heap[a]? =some (.cells (ndc k x i o) 222 (0,0))) (kb:w.heap[b]? =some (.cells (ndc k y i' o') 222 (0,0))):
  Calls Tryz.prog (fn q) #[ptrV a,ptrV b] w fun e w'=>e= .returned (.bool (xE q x y))∧Mod (fun _=>False) w w':=by
 cases q
 ·refine(tW a b k x y i o i' o' w ka kb).mono ?_;rintro e w' ⟨rfl,q,os,rfl⟩;exact⟨rfl,mG _ _ _⟩
 ·refine(PQ a b k x y i o i' o' w ka kb).mono ?_;rintro e w' ⟨rfl,q,os,rfl⟩;exact⟨rfl,mG _ _ _⟩
theorem cY (q:Bool) (args:Wa) (w:We):(callFunc (fn q) args).run Tryz.prog w= .ok (.enter (fn q) args) w:=by
 cases q
 ·exact enters_of Tryz.func96 (by kernel_rfl) rfl args w
 ·exact enters_of Tryz.func121 (by kernel_rfl) rfl args w
end Go.Proofs.YtblbegbjlaokjaaGreatDoor
