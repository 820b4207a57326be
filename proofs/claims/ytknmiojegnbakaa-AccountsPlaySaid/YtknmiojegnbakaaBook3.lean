/- The book of two lists of holdings: Apart. -/
import Derived.Test.YtknmiojegnbakaaBook2
namespace Go.Proofs.Ytknmiojegnbakaa
open Go.RowKit
open Go.ChangeMaps (setBlock)
set_option linter.unusedSimpArgs false
set_option linter.unusedVariables false
attribute [local go_sem] cell_blk frozen_blk one_int one_bool one_ptr one_slice Value.cells
abbrev signF : FuncId := 74
abbrev ownF : FuncId := 73
theorem m_sign (v : Value) (w : World) : (method 222 sheetT v "ferryhouse/ferryhouselaw01.sign").run Try.prog w = .ok (signF, v) w := by kernel_rfl
theorem m_own (v : Value) (w : World) : (method 222 sheetT v "ferryhouse/ferryhouselaw01.own").run Try.prog w = .ok (ownF, v) w := by kernel_rfl
theorem e_sign (args : Array Value) (w : World) : (callFunc signF args).run Try.prog w = .ok (.enter signF args) w := enters_of Try.func74 (by kernel_rfl) rfl args w
theorem e_own (args : Array Value) (w : World) : (callFunc ownF args).run Try.prog w = .ok (.enter ownF args) w := enters_of Try.func73 (by kernel_rfl) rfl args w
set_option maxRecDepth 20000 in
set_option maxHeartbeats 3200000 in
theorem apart_c (r base : Nat) (p q : Pg) (l l2 : List Hold) (w : World) (h : BAt w r base (fun i => InA p.a i ∨ InA q.a i) [p, q]) (hl : l.length = p.n) (hl2 : l2.length = q.n) (hb : p.n ≤ 900000) (hb2 : q.n ≤ 900000) (hp : WAt w p.a l) (hq : WAt w q.a l2) (hpq : ∀ i, InA p.a i → ¬ InA q.a i)
    (hs1 : ∀ w2, (Instr.sliceAt 35 (.slice p.a p.n p.n) none (some (.int .i64 (p.n : Int))) none).run Try.prog w2 = .ok (.slice p.a p.n p.n) w2) (hs2 : ∀ w2, (Instr.sliceAt 35 (.slice q.a q.n q.n) none (some (.int .i64 (q.n : Int))) none).run Try.prog w2 = .ok (.slice q.a q.n q.n) w2)
    (hne : ∀ i, (InA p.a i ∨ InA q.a i) → i ≠ r) : Calls Try.prog 24 #[.pointer (some ⟨r, 0, none⟩)] w fun e w' => e = .returned (.bool true) ∧ Mod (fun i => InA p.a i ∨ InA q.a i) w w' := by
  obtain ⟨v, kr, hO, hX⟩ := h
  obtain ⟨va, vc, rfl, hsl, hlt, _⟩ := hO.at pageT
  obtain ⟨g, o, C, U, fr, rfl, kl, he0, hle0⟩ := hsl.block (i := 0) (x := p) rfl
  obtain ⟨g', o', C', U', fr', hga, kl', he1, hle1⟩ := hsl.block (i := 1) (x := q) rfl
  cases hga
  rw [kl] at kl'
  cases kl'
  have c0 : C[o]? = some (.iface sheetT (.agg (sh p))) := by
    have := cellC (j := 0) he0 (v := .iface sheetT (.agg (sh p))) rfl
    simpa using this
  have c1 : C[o + 1]? = some (.iface sheetT (.agg (sh q))) := by
    have := cellC (j := 0) he1 (v := .iface sheetT (.agg (sh q))) rfl
    simpa using this
  have hgn : ∀ i, (InA p.a i ∨ InA q.a i) → i ≠ g ∧ i ≠ r := fun i hi => ⟨fun e => by
    subst e
    exact hX _ rfl hi, hne i hi⟩
  clear hO hsl hlt he0 he1
  have HG := Lib.hid hgn
  have HPQ := Lib.hid hpq
  have HS1 := Lib.hid hs1
  have HS2 := Lib.hid hs2
  have HP := Lib.hid hp
  have HQ := Lib.hid hq
  clear hgn hpq hs1 hs2 hne hp hq hle0 hX
  go_enter Try.func24, Try.ntmps24
  go_wp2_with fail
  go_loopw [3] (fun s3 ws => ∃ i : Nat, i ≤ 2 ∧ s3 = .int .i64 (i : Int) ∧ Mod (fun j => InA p.a j ∨ InA q.a j) w ws ∧ WAt ws p.a (if i = 0 then l else List.replicate p.n p.h) ∧ WAt ws q.a (if i ≤ 1 then l2 else List.replicate q.n q.h)) (fun s3 _ => 2 - (intOf s3).toNat)
  case atStart => exact ⟨0, by omega, rfl, Mod.refl _ _, HP.out, HQ.out⟩
  case round =>
    obtain ⟨i, hi, rfl, hm, hWp, hWq⟩ := hrel
    have kr := hm.at kr (fun h => (HG.out _ h).2 rfl)
    have kl := hm.at kl (fun h => (HG.out _ h).1 rfl)
    rcases (by omega : i = 0 ∨ i = 1 ∨ i = 2) with rfl | rfl | rfl
    ·
      have HWp := Lib.hid hWp
      have HWq := Lib.hid hWq
      clear hWp hWq
      go_wp2_with fail
      rw [m_sign]
      simp only [Result.andThen, e_sign, e_own, Oper.upon]
      refine (sign0_c p l hl hb _ HWp.out).mono ?_
      rintro e w3 ⟨rfl, hW3, m3⟩
      have mF := hm.trans (m3.mono (fun _ _ h => .inl h))
      go_wp2_with fail
      go_roundw
      case rel => exact ⟨1, by omega, by go_num, mF, hW3, HWq.out.mod m3 (fun b o e h => HPQ.out b h ⟨o, e⟩)⟩
      case measure => simp [intOf]
    ·
      have HWp := Lib.hid hWp
      have HWq := Lib.hid hWq
      clear hWp hWq
      go_wp2_with fail
      rw [m_sign]
      simp only [Result.andThen, e_sign, e_own, Oper.upon]
      refine (sign0_c q l2 hl2 hb2 _ HWq.out).mono ?_
      rintro e w3 ⟨rfl, hW3, m3⟩
      have mF := hm.trans (m3.mono (fun _ _ h => .inr h))
      go_wp2_with fail
      go_roundw
      case rel => exact ⟨2, by omega, by go_num, mF, HWp.out.mod m3 (fun b o e h => HPQ.out b ⟨o, e⟩ h), hW3⟩
      case measure => simp [intOf]
    · rw [show ((2 : Nat) : Int) = 2 from rfl]
      have HWp : Hid (WAt wr p.a (List.replicate p.n p.h)) := Lib.hid hWp
      have HWq : Hid (WAt wr q.a (List.replicate q.n q.h)) := Lib.hid hWq
      have HM := Lib.hid hm
      clear hWp hWq hm
      obtain ⟨wa, rfl⟩ : ∃ wa : World, wa = wr := ⟨_, rfl⟩
      have kr1 := kr
      have kl1 := kl
      clear kr kl
      go_wp2_with fail
      go_loopw [4] (fun s4 ws => ∃ i : Nat, i ≤ 2 ∧ s4 = .int .i64 (i : Int) ∧ Mod (fun _ => False) wa ws) (fun s4 _ => 2 - (intOf s4).toNat)
      case atStart => exact ⟨0, by omega, rfl, Mod.refl _ _⟩
      case round =>
        obtain ⟨i, hi, rfl, hm⟩ := hrel
        have kr := hm.at0 kr1
        have kl := hm.at0 kl1
        rcases (by omega : i = 0 ∨ i = 1 ∨ i = 2) with rfl | rfl | rfl
        ·
          go_wp2_with fail
          rw [m_sign]
          simp only [Result.andThen, e_sign, e_own, Oper.upon]
          refine (sign1_c p hb HS1.out _).mono ?_
          rintro e w3 ⟨rfl, m3⟩
          have mF := hm.then0 m3
          go_wp2_with fail
          go_roundw
          case rel => exact ⟨1, by omega, by go_num, mF⟩
          case measure => simp [intOf]
        ·
          go_wp2_with fail
          rw [m_sign]
          simp only [Result.andThen, e_sign, e_own, Oper.upon]
          refine (sign1_c q hb2 HS2.out _).mono ?_
          rintro e w3 ⟨rfl, m3⟩
          have mF := hm.then0 m3
          go_wp2_with fail
          go_roundw
          case rel => exact ⟨2, by omega, by go_num, mF⟩
          case measure => simp [intOf]
        · rw [show ((2 : Nat) : Int) = 2 from rfl]
          have HM2 := Lib.hid (HM.out.then0 hm)
          have HWp2 := Lib.hid (HWp.out.mod hm (fun _ _ _ h => h))
          have HWq2 := Lib.hid (HWq.out.mod hm (fun _ _ _ h => h))
          clear hm kr1 kl1 HM HWp HWq
          obtain ⟨wb, rfl⟩ : ∃ wb : World, wb = wr := ⟨_, rfl⟩
          have kr1 := kr
          have kl1 := kl
          clear kr kl
          go_wp2_with fail
          go_loopw [5] (fun s5 ws => ∃ i : Nat, i ≤ 2 ∧ s5 = .int .i64 (i : Int) ∧ Mod (fun _ => False) wb ws) (fun s5 _ => 2 - (intOf s5).toNat)
          case atStart => exact ⟨0, by omega, rfl, Mod.refl _ _⟩
          case round =>
            obtain ⟨i, hi, rfl, hm⟩ := hrel
            have kr := hm.at0 kr1
            have kl := hm.at0 kl1
            rcases (by omega : i = 0 ∨ i = 1 ∨ i = 2) with rfl | rfl | rfl
            ·
              go_wp2_with fail
              rw [m_own]
              simp only [Result.andThen, e_sign, e_own, Oper.upon]
              refine (own_c p hb HS1.out _ (HWp2.out.mod hm (fun _ _ _ h => h))).mono ?_
              rintro e w3 ⟨rfl, m3⟩
              have mF := hm.then0 m3
              go_wp2_with fail
              go_roundw
              case rel => exact ⟨1, by omega, by go_num, mF⟩
              case measure => simp [intOf]
            ·
              go_wp2_with fail
              rw [m_own]
              simp only [Result.andThen, e_sign, e_own, Oper.upon]
              refine (own_c q hb2 HS2.out _ (HWq2.out.mod hm (fun _ _ _ h => h))).mono ?_
              rintro e w3 ⟨rfl, m3⟩
              have mF := hm.then0 m3
              go_wp2_with fail
              go_roundw
              case rel => exact ⟨2, by omega, by go_num, mF⟩
              case measure => simp [intOf]
            · clear kl kl1
              go_wp2_with fail
              go_ret
              exact ⟨rfl, HM2.out.then0 hm⟩
end Go.Proofs.Ytknmiojegnbakaa
