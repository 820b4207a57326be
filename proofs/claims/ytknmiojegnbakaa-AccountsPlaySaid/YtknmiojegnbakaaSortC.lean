/- The sort of holdings by their keys: the library's contract at this program. -/
import Derived.Test.YtknmiojegnbakaaCmp
import Derived.Test.YtknmiojegnbakaaSortK
import Derived.Test.YtknmiojegnbakaaSortLay
namespace Go.Proofs.Ytknmiojegnbakaa
open Go.RowKit Go.Sort
set_option linter.unusedSimpArgs false
set_option linter.unusedVariables false
instance : Inhabited Hold := ⟨⟨key0, acct0⟩⟩
/-- By rising keys. -/
def Rising (l : List Hold) : Prop := ∀ (i j : Nat) (x y : Hold), i < j → l[i]? = some x → l[j]? = some y → klt y.k x.k = false
theorem hcf (x y : Hold) : ltOf (fun x y : Hold => kcmp x.k y.k) x y = klt x.k y.k := kcmp_lt x.k y.k
theorem swoH : SWO (ltOf fun x y : Hold => kcmp x.k y.k) where
  irrefl x := by rw [hcf]; exact klt_irrefl _
  trans x y z h1 h2 := by rw [hcf] at *; exact klt_trans h1 h2
  ntrans x y z h1 h2 := by
    rw [hcf] at *
    rw [Bool.eq_false_iff] at *
    intro h
    rcases klt_total x.k y.k with h3 | h3 | h3
    · exact h1 h3
    · rw [h3] at h; exact h2 h
    · exact h2 (klt_trans h3 h)
theorem sortOkS (m : List (Key × Acct)) (hm : m.length ≤ 900000) : SortOk Rising m := fun a c l w hp hs hf => by
  have hlm : l.length ≤ 900000 := by rw [hp.length_eq, List.length_map]; exact hm
  by_cases hl : l.length ≤ 1
  · refine (sort_1 cmpV cmpV a l.length c hl w).mono ?_
    rintro e w' ⟨rfl, rfl⟩
    refine ⟨rfl, l, .refl _, fun i j x y hij hx hy => ?_, hs, hf, Mod.refl _ _⟩
    have := (List.getElem?_eq_some_iff.1 hy).1
    omega
  · rcases hs with rfl | ⟨b, o, C, U, fr, rfl, hb, hc⟩
    · simp at hl
    · obtain ⟨C', U', hb'⟩ := hf b o rfl
      rw [hb] at hb'
      simp only [Option.some.injEq, Obj.cells.injEq] at hb'
      obtain ⟨rfl, rfl, rfl⟩ := hb'
      have hH := holdsK_of_row hd_size (by omega) hb hc
      have eg : ∀ args w, (callFunc 27 args).run Try.prog w = .ok (.enter 27 args) w := enters_of Try.func27 (by kernel_rfl) rfl
      have hcall := AnyQ.slices_SortFunc Try.sortH 66 Try.isAgg38 Try.sizeOf38 (rowOf hd) (fun x => by rw [Array.length_toList, hd_size]) (fun x => hd_onecell x) (fun x y => kcmp x.k y.k) swoH 27 #[] b o c l.toArray w eg (fun m os dk hs x y => cmp_c x y _) hH (lt_size hb) (by rw [List.size_toArray]; omega)
      rw [List.size_toArray] at hcall
      refine Calls.mono hcall ?_
      rintro e w' ⟨rfl, d', n, os, hperm, hsort, rfl⟩
      have hsz : d'.size = l.length := hperm.1.trans List.size_toArray
      obtain ⟨C', h1, h2, h3⟩ := sortWorld_after hd_size (by omega) hb hH (by rw [hsz, List.size_toArray]) n os
      have hpl : d'.toList.Perm l := by
        have := hperm.2.2
        have e : (d'.toList.take l.length) = d'.toList := List.take_of_length_le (by rw [Array.length_toList, hsz]; exact Nat.le_refl _)
        simp only [List.size_toArray, Array.toList_extract, List.extract, Nat.sub_zero, List.drop_zero, e, List.take_length] at this
        exact this
      refine ⟨rfl, d'.toList, hpl, fun i j x y hij hx hy => ?_, .inr ⟨b, o, _, _, _, rfl, h1, h2⟩, fun p q e => by cases e; exact ⟨_, _, h1⟩, h3.mono (fun i _ e => ⟨o, by rw [e]⟩)⟩
      have hj := (List.getElem?_eq_some_iff.1 hy)
      have hi := (List.getElem?_eq_some_iff.1 hx)
      obtain ⟨hj1, hj2⟩ := hj
      obtain ⟨hi1, hi2⟩ := hi
      have := hsort i j (Nat.zero_le _) hij (by rw [← hsz]; simpa using hj1)
      rw [hcf, getElem!_pos d' i (by simpa using hi1), getElem!_pos d' j (by simpa using hj1)] at this
      rw [← hj2, ← hi2]
      simpa using this
end Go.Proofs.Ytknmiojegnbakaa
