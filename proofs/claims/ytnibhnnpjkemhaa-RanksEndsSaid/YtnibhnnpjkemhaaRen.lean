/- filled; what RanksEnds, RanksOrder lean on. -/
import Derived.Test.YtnibhnnpjkemhaaRb
import Derived.Test.YtnibhnnpjkemhaaRread
namespace Go.Proofs.Ytnibhnnpjkemhaa
open Go.RowKit Go.Sort
open Go.ChangeMaps (setBlock)
set_option linter.unusedSimpArgs false
set_option linter.unusedVariables false
attribute [local go_sem ↓] wlRk ldRk stRk wlNdR ldNdR stNdR eqRk eqRk2
attribute [local go_sem] rkc_size ndc_size rn_size cell_blk frozen_blk one_int one_bool one_ptr one_slice one_map Value.cells rkc_all1 rn_r rn_i rn_all rkc_ext zRk_size zNdR_size
def idn (n : Nat) : Int64 := Int64.ofInt (n : Int)
theorem idn_int {n : Nat} (h : n < 9223372036854775808) : (idn n).toInt = (n : Int) := Int64.toInt_ofInt_of_le (by omega) (by omega)
/-- The nodes of a list of ranks: ids are their places. -/
def nds (l : List Rk) : List Nd := l.mapIdx (fun i r => ⟨r, idn i⟩)
theorem nds_get (l : List Rk) (j : Nat) : (nds l)[j]? = (l[j]?).map (fun r => ⟨r, idn j⟩) := by simp [nds]
theorem nds_len (l : List Rk) : (nds l).length = l.length := by simp [nds]
theorem nds_mem {l : List Rk} {x : Nd} (h : x ∈ nds l) : ∃ j, j < l.length ∧ l[j]? = some x.r ∧ x.id = idn j := by
  obtain ⟨j, hj⟩ := List.mem_iff_getElem?.1 h
  rw [nds_get] at hj
  cases hl : l[j]? with
  | none => rw [hl] at hj; cases hj
  | some r =>
    rw [hl] at hj
    cases hj
    exact ⟨j, (List.getElem?_eq_some_iff.1 hl).1, hl, rfl⟩
theorem nds_take {l : List Rk} {i : Nat} {r : Rk} (h : l[i]? = some r) : nds (l.take (i + 1)) = nds (l.take i) ++ [⟨r, idn i⟩] := by
  have hi := (List.getElem?_eq_some_iff.1 h).1
  unfold nds
  rw [List.take_add_one, h]
  show List.mapIdx _ (l.take i ++ [r]) = _
  rw [List.mapIdx_concat, List.length_take, Nat.min_eq_left (by omega)]
theorem idn_inj {a b : Nat} (ha : a < 9223372036854775808) (hb : b < 9223372036854775808) (h : idn a = idn b) : a = b := by
  have h1 := idn_int ha
  have h2 := idn_int hb
  rw [h] at h1
  omega
theorem srt_exists : ∀ {C : List Nd}, (C.map Nd.id).Nodup → ∃ D : List Nd, D.Perm C ∧ Srt D
  | [], _ => ⟨[], .refl _, List.Pairwise.nil⟩
  | x :: C, h => by
    simp only [List.map_cons, List.nodup_cons] at h
    obtain ⟨D, hp, hs⟩ := srt_exists h.2
    refine ⟨insAt x D, (insAt_perm x D).trans ((List.perm_append_singleton x D).trans (hp.cons x)), insAt_srt hs (fun y hy e => h.1 ?_)⟩
    rw [← e]
    exact List.mem_map.2 ⟨y, hp.mem_iff.1 hy, rfl⟩
theorem rk_row {C : Array Value} {o i : Nat} {r : Rk} (h : C.extract (o + i * 2) (o + i * 2 + 2) = rkc r) : C.extract (o + i * 2) (o + i * 2 + 2) = rkc r := h
set_option maxRecDepth 20000 in
set_option maxHeartbeats 3200000 in
theorem filled_c (a : Option Addr) (l : List Rk) (c : Nat) (w : World) (hl : SlAt rkc 2 w a l) (hlen : l.length ≤ 1000) : Calls Try.prog 25 #[.slice a l.length c] w fun e w' => ∃ h, e = .returned (.tuple #[ptrV h, .bool true]) ∧ HH w h (nds l) w' := by
  have HL := Lib.hid hl
  clear hl
  go_enter Try.func25, Try.ntmps25
  go_wp2_with fail
  go_at_call 10
  refine (HH.new w).mono ?_
  rintro e w1 ⟨h, rfl, hx⟩
  have HX : Hid (HH w h (nds (l.take 0)) w1) := Lib.hid hx
  clear hx
  go_wp2_with fail
  go_loopw [5] (fun s5 ws => ∃ i : Nat, i ≤ l.length ∧ s5 = .int .i64 (i : Int) ∧ Hid (HH w h (nds (l.take i)) ws)) (fun s5 _ => l.length - (intOf s5).toNat)
  case atStart => exact ⟨0, by omega, rfl, HX⟩
  case round =>
    obtain ⟨i, hi, rfl, HP⟩ := hrel
    clear HX
    by_cases hlt : i < l.length
    · obtain ⟨r, hr⟩ : ∃ r, l[i]? = some r := ⟨_, List.getElem?_eq_getElem hlt⟩
      obtain ⟨g, o, C, U, fr, rfl, kl0, he, hle⟩ := HL.out.block hr
      have kl := HP.out.m.at0 kl0
      have HR := Lib.hid hr
      clear hr kl0
      go_wp2_with fail
      go_at_call 14
      refine (HP.out.push r (idn i) (n := (i : Int)) (idn_int (by omega)).symm (by rw [nds_len, List.length_take]; omega) (fun x hx e => by
        obtain ⟨j, hj, _, hxj⟩ := nds_mem hx
        rw [List.length_take] at hj
        have := idn_inj (a := j) (b := i) (by omega) (by omega) (by rw [← hxj, e])
        omega)).mono ?_
      rintro e w2 ⟨rfl, hx⟩
      rw [← nds_take HR.out] at hx
      have HX := Lib.hid hx
      clear hx kl he hle
      go_wp2_with fail
      go_roundw
      case rel => exact ⟨i + 1, by omega, by go_num, HX⟩
      case measure => simp [intOf]; omega
    · have hie : i = l.length := by omega
      subst hie
      have HQ : Hid (HH w h (nds l) wr) := Lib.hid (by have := HP.out; rwa [List.take_length] at this)
      have hnl := nds_len l
      clear HP
      go_wp2_with fail
      go_at_call 24
      refine HQ.out.len.mono ?_
      rintro e w2 ⟨rfl, rfl⟩
      rw [hnl]
      go_wp2_with fail
      go_ret2
      exact ⟨h, by first | rfl | simp, HQ.out⟩
end Go.Proofs.Ytnibhnnpjkemhaa
