/- Buffers: the walk of BuffersRound. -/
import Derived.Test.YtdeghpmlhcaedaaDoorBp
import Derived.IntWalk
namespace Go.Proofs.YtdeghpmlhcaedaaDoor
open Go.RowKit
open Go.ChangeMaps (setBlock)
set_option linter.unusedSimpArgs false
set_option linter.unusedVariables false
attribute [local go_sem ↓] wlItem ldItem stItem wlRk ldRk stRk
attribute [local go_sem] cell_blk frozen_blk one_int one_bool one_ptr one_slice one_map Value.cells rkc_size rkc_all1 itr_size itr_all itr_one itr_one' itr_n itr_prio itr_pl itr_sent itr_n' itr_prio' itr_pl' itr_sent' itr_r zItem_size zItem_all zItem_one zRk_sz
def boc (b : Bool) : Array Value := #[.bool b]
def fz : Nat → Nat := fun _ => 0
theorem LS.modX {w0 w w' : World} {b : Nat} {S : List (Option It)} {T X : Nat → Prop} (H : LS w0 b S T w) (hm : Mod X w w') (hX : ∀ i, T i → ¬ X i) (hup : ∀ i, X i → w0.heap.size ≤ i) (h0 : ¬ X 0) : LS w0 b S T w' :=
  ⟨H.bo.modT hm hX, H.up, H.m.then hm (fun i hi e => by have := hup i e; omega), H.tab.mod hm h0⟩
theorem u64_k {k : Nat} (h : k < 4096) : IntKind.u64.wrap (k : Int) = ((UInt64.ofNat k).toNat : Int) := by
  rw [IntKind.wrap_u64, UInt64.toNat_ofNat']
  omega
theorem K_facts {l : List UInt64} {K : List Nat} (hK : K.Perm (List.range l.length)) : K.Nodup ∧ K.length = l.length ∧ ∀ j, j ∈ K ↔ j < l.length :=
  ⟨hK.nodup_iff.2 List.nodup_range, by rw [hK.length_eq, List.length_range], fun j => by rw [hK.mem_iff, List.mem_range]⟩
theorem drop_mem {K : List Nat} (h : K.Nodup) (i j : Nat) : j ∈ K.drop i ↔ j ∈ K ∧ j ∉ K.take i := by
  have h2 := List.take_append_drop i K
  rw [← h2] at h
  have hd := (List.nodup_append.1 h).2.2
  constructor
  · intro hj
    exact ⟨List.mem_of_mem_drop hj, fun hc => hd _ hc _ hj rfl⟩
  · rintro ⟨h1, h3⟩
    rw [← h2] at h1
    exact (List.mem_append.1 h1).resolve_left h3
/-- Places while they fly: who waits is who was not taken yet. -/
def PL (K : List Nat) (l : List UInt64) (f : Nat → Nat) (i : Nat) : Prop := ∀ j, j < l.length → (f j = 0 ↔ j ∉ K.take i)
/-- Places while they go back. -/
def PB (K : List Nat) (l : List UInt64) (f : Nat → Nat) (a i : Nat) : Prop := ∀ j k, K[j]? = some k → (f k = 0 ↔ (l.length - 1 - j + a) % l.length < i)
theorem pkd_zero {N : Nat} {l : List UInt64} {f : Nat → Nat} (h : ∀ j, j < l.length → f j = 0) : (pkd (rS N l f)).map idn = [] := by
  unfold pkd
  rw [rS_len]
  have : (List.range N).filter (fun i => isPk (rS N l f)[i]?) = [] := by
    rw [List.filter_eq_nil_iff]
    intro j hj
    have hjN := List.mem_range.1 hj
    by_cases hl : j < l.length
    · rw [rS_some hjN hl]
      unfold isPk
      simp [h j hl]
    · rw [rS_none hjN (by omega)]
      simp [isPk]
  rw [this]
  rfl
theorem PL.step {K : List Nat} {l : List UInt64} {f : Nat → Nat} {i k v : Nat} (hK : K.Nodup) (h : PL K l f i) (hk : K[i]? = some k) (hv : v ≠ 0) : PL K l (fun j => if j = k then v else f j) (i + 1) := by
  intro j hj
  rw [List.take_add_one, hk]
  by_cases e : j = k
  · subst e
    simp [hv]
  · simp only [if_neg e]
    rw [h j hj]
    simp [e]
theorem PL.at {K : List Nat} {l : List UInt64} {f : Nat → Nat} {i k : Nat} (hK : K.Nodup) (h : PL K l f i) (hk : K[i]? = some k) (hl : k < l.length) : f k = 0 := by
  rw [h k hl]
  intro hm
  obtain ⟨a, ha⟩ := List.mem_iff_getElem?.1 hm
  rw [List.getElem?_take] at ha
  split at ha
  · rename_i hai
    have := (List.getElem?_inj (List.getElem?_eq_some_iff.1 ha).1 hK).1 (ha.trans hk.symm)
    omega
  · cases ha
theorem PL.wait {K : List Nat} {l : List UInt64} {f : Nat → Nat} {i N : Nat} (hN : l.length ≤ N) (hK : K.Nodup) (hm : ∀ j, j ∈ K ↔ j < l.length) (h : PL K l f i) : ((K.drop i).map (nodeL l)).Perm (wtg 0 (rS N l f)) :=
  wtg_K (List.Nodup.sublist (List.drop_sublist i K) hK) (fun j => by
    rw [drop_mem hK, hm j]
    exact ⟨fun hh => ⟨by omega, hh.1, (h j hh.1).2 hh.2⟩, fun hh => ⟨hh.2.1, (h j hh.2.1).1 hh.2.2⟩⟩)
theorem Srt.drop {l : List UInt64} {K : List Nat} (h : Srt (K.map (nodeL l))) (i : Nat) : Srt ((K.drop i).map (nodeL l)) := by
  rw [List.map_drop]
  exact List.Pairwise.sublist (List.drop_sublist i _) h
theorem PB.start {K : List Nat} {l : List UInt64} {f : Nat → Nat} {a : Nat} (hm : ∀ j, j ∈ K ↔ j < l.length) (hl : K.length = l.length) (h : PL K l f l.length) : PB K l f a 0 := by
  intro j k hk
  have hkm := List.mem_of_getElem? hk
  rw [h k ((hm k).1 hkm), List.take_of_length_le (by omega)]
  exact ⟨fun hc => absurd hkm hc, fun hc => absurd hc (Nat.not_lt_zero _)⟩
theorem PB.step {K : List Nat} {l : List UInt64} {f : Nat → Nat} {a i k : Nat} (hK : K.Nodup) (hl : K.length = l.length) (h : PB K l f a i) (hi : i < l.length) (hk : K[(l.length - 1 - i + a) % l.length]? = some k) : f k ≠ 0 ∧ PB K l (fun j => if j = k then 0 else f j) a (i + 1) := by
  have hx : (l.length - 1 - i + a) % l.length < l.length := Nat.mod_lt _ (by omega)
  have hinv := (back_inv (a := a) hx hi).1 rfl
  refine ⟨fun e => ?_, fun j k' hk' => ?_⟩
  · have := (h _ k hk).1 e
    omega
  · have hj : j < l.length := by have := (List.getElem?_eq_some_iff.1 hk').1; omega
    by_cases e : j = (l.length - 1 - i + a) % l.length
    · subst e
      rw [hk] at hk'
      cases hk'
      show (if k = k then 0 else f k) = 0 ↔ _
      rw [if_pos rfl, ← hinv]
      exact ⟨fun _ => by omega, fun _ => rfl⟩
    · have hne : k' ≠ k := fun e2 => by
        subst e2
        exact e ((List.getElem?_inj (List.getElem?_eq_some_iff.1 hk').1 hK).1 (hk'.trans hk.symm))
      show (if k' = k then 0 else f k') = 0 ↔ _
      rw [if_neg hne, h j k' hk']
      have h2 : (l.length - 1 - j + a) % l.length ≠ i := fun e2 => e ((back_inv (a := a) hi hj).1 e2)
      omega
theorem PB.end {K : List Nat} {l : List UInt64} {f : Nat → Nat} {a : Nat} (hm : ∀ j, j ∈ K ↔ j < l.length) (h : PB K l f a l.length) : ∀ j, j < l.length → f j = 0 := by
  intro j hj
  obtain ⟨p, hp⟩ := List.mem_iff_getElem?.1 ((hm j).2 hj)
  exact (h p j hp).2 (Nat.mod_lt _ (by omega))
theorem ahead_of {l : List UInt64} {p q : Nat} (hp : p < 4096) (hq : q < 4096) (hne : p ≠ q) (h : nlt (nodeL l p) (nodeL l q) = true) : Ahead (nodeL l p).r (nodeL l q).r = true := by
  unfold nlt at h
  rw [if_neg (fun e => ?_)] at h
  · exact h
  · have e2 : UInt64.ofNat p = UInt64.ofNat q := congrArg Rk.n e
    have e3 := congrArg UInt64.toNat e2
    rw [UInt64.toNat_ofNat', UInt64.toNat_ofNat'] at e3
    omega
theorem srt_adj {l : List UInt64} {K : List Nat} (h : Srt (K.map (nodeL l))) {i p q : Nat} (h0 : 0 < i) (hp : K[i - 1]? = some p) (hq : K[i]? = some q) : nlt (nodeL l p) (nodeL l q) = true := by
  unfold Srt at h
  rw [List.pairwise_iff_getElem] at h
  obtain ⟨h1, e1⟩ := List.getElem?_eq_some_iff.1 hp
  obtain ⟨h2, e2⟩ := List.getElem?_eq_some_iff.1 hq
  have := h (i - 1) i (by rw [List.length_map]; exact h1) (by rw [List.length_map]; exact h2) (by omega)
  rw [List.getElem_map, List.getElem_map, e1, e2] at this
  exact this
set_option maxRecDepth 20000 in
set_option maxHeartbeats 25600000 in
theorem roundLaw_c {a0 a1 : Option Addr} {l : List UInt64} {pk : List Bool} {c0 c1 : Nat} (at_ : UInt8) (w : World) (hl : SlAt nc 1 w a0 l) (hp : SlAt boc 1 w a1 pk) (ht : TabW w) : Calls Tryd.prog 4 #[.slice a0 l.length c0, .slice a1 pk.length c1, u8v at_] w fun e w' => e = .returned (.bool true) ∧ Mod (fun _ => False) w w' := by
  have HT := Lib.hid ht
  have HA := Lib.hid (And.intro hl hp)
  have m0 := Mod.refl (fun _ => False) w
  clear ht hl hp
  go_enter Tryd.func4, Tryd.ntmps4
  by_cases h1 : 60 < l.length
  · have hd := decide_eq_true (show (60 : Int) < (l.length : Int) by omega)
    clear h1
    go_wp2_with fail
    go_at_call 7
    refine (lives_c _ (HT.out.mod0 m0)).mono ?_
    rintro e w4 ⟨rfl, m4⟩
    go_wp2_with fail
    go_ret
    exact ⟨rfl, m0.then0 m4⟩
  have hd1 := decide_eq_false (show ¬ (60 : Int) < (l.length : Int) by omega)
  by_cases h2 : l.length = 0
  · have hz : ((l.length : Int) == 0) = true := by rw [h2]; rfl
    clear h1 h2
    go_wp2_with fail
    go_at_call 7
    refine (lives_c _ (HT.out.mod0 m0)).mono ?_
    rintro e w4 ⟨rfl, m4⟩
    go_wp2_with fail
    go_ret
    exact ⟨rfl, m0.then0 m4⟩
  have hz : ((l.length : Int) == 0) = false := by rw [beq_eq_false_iff_ne]; omega
  by_cases h3 : 60 < pk.length
  · have hd := decide_eq_true (show (60 : Int) < (pk.length : Int) by omega)
    clear h1 h2 h3
    go_wp2_with fail
    go_at_call 7
    refine (lives_c _ (HT.out.mod0 m0)).mono ?_
    rintro e w4 ⟨rfl, m4⟩
    go_wp2_with fail
    go_ret
    exact ⟨rfl, m0.then0 m4⟩
  have hd3 := decide_eq_false (show ¬ (60 : Int) < (pk.length : Int) by omega)
  have hn : l.length ≤ 60 := by omega
  have hn0 : 0 < l.length := by omega
  clear h1 h2
  go_wp2_with fail
  go_at_call 8
  refine (bnewY_c w (n := 60) (by omega) (by omega)).mono ?_
  rintro e w1 ⟨b, rfl, H1⟩
  obtain ⟨T1, L1⟩ := LS.start H1 HT.out
  have HL1 := Lib.hid L1
  clear H1 L1 hd1 hz hd3 m0
  go_wp2_with fail
  go_loopw [9, 10, 11, 12] (fun s9 _ _ _ ws => ∃ (k : Nat) (T : Nat → Prop), k ≤ l.length ∧ s9 = .int .i64 (k : Int) ∧ Hid (LS w b (rS 60 (l.take k) fz) T ws)) (fun s9 _ _ _ _ => l.length - (intOf s9).toNat)
  case atStart => exact ⟨0, T1, by omega, rfl, Lib.hid (by rw [List.take_zero, rS_nil]; exact HL1.out)⟩
  case round =>
    obtain ⟨k, T, hk, rfl, HL⟩ := hrel
    by_cases hlt : k < l.length
    · obtain ⟨x, hx⟩ : ∃ x, l[k]? = some x := ⟨_, List.getElem?_eq_getElem hlt⟩
      obtain ⟨g1, o1, C1, U1, fr1, rfl, k1, he1, _⟩ := (HA.out.1.mod0 HL.out.m).block hx
      have q1 : C1[o1 + k]? = some (u64v x) := by have h0 := cellC he1 (j := 0) (v := u64v x) rfl; simpa using h0
      have hw := u64_k (k := k) (by omega)
      have HX := Lib.hid (show l.getD k 0 = x by rw [List.getD_eq_getElem?_getD, hx]; rfl)
      clear he1 hx
      go_wp2_with fail
      go_at_call 10
      refine (ready_c x 0 _).mono ?_
      rintro e w2 ⟨r, rfl, hrc, hok, hsm, m2⟩
      have HR := Lib.hid (And.intro hrc (And.intro hok hsm))
      have HL2 := Lib.hid (HL.out.mod0 m2)
      clear hrc hok hsm m2
      go_wp2_with fail
      go_at_call 9
      refine (addR_c HL2.out.bh HL2.out.bo.h0 HL2.out.tab (rS_free (by omega) (by omega)) HR.out.2.1 HR.out.2.2 (UInt64.ofNat k)).mono ?_
      rintro e w3 ⟨rfl, H3⟩
      rw [HR.out.1, ← HX.out, rS_add (by omega) hlt rfl] at H3
      obtain ⟨T3, L3, _⟩ := HL2.out.then H3
      have HL3 := Lib.hid L3
      clear H3 L3 hw
      go_wp2_with fail
      go_roundw
      case rel => exact ⟨k + 1, T3, by omega, by go_num, HL3⟩
      case measure => simp [intOf]; omega
    · obtain rfl : k = l.length := by omega
      rw [List.take_length] at HL
      obtain ⟨K, hKp, hKS⟩ := exists_K 60 (by omega) l hn
      obtain ⟨hKn, hKl, hKm⟩ := K_facts hKp
      have hD : (K.map (nodeL l)).Perm (wtg 0 (rS 60 l fz)) := wtg_K hKn (fun j => by rw [hKm j]; exact ⟨fun h => ⟨by omega, h, rfl⟩, fun h => h.2.1⟩)
      have hWl : ((K.map (nodeL l)).map Nd.id).length = l.length := by rw [List.length_map, List.length_map, hKl]
      have HK := Lib.hid (And.intro hKn (And.intro hKl (And.intro hKm (And.intro hKS hD))))
      clear hKp hKS hKn hKl hKm hlt hk
      go_wp2_with fail
      go_at_call 12
      refine (bwait_c HL.out.bh hD HK.out.2.2.2.1).mono ?_
      rintro e w13 ⟨v, rfl, hv, m13⟩
      obtain ⟨W, hW⟩ : ∃ W, W = (K.map (nodeL l)).map Nd.id := ⟨_, rfl⟩
      rw [← hW] at hv hWl
      obtain ⟨a13, c13, rfl, hva, hvb, _⟩ := hv.at intT
      rw [hWl]
      have HW0 := Lib.hid (And.intro hW (And.intro hva (And.intro hvb hWl)))
      have HL13 := Lib.hid (HL.out.mod0 m13)
      have HTv : Hid (∀ x, a13 = some x → ¬ T x.block) := Lib.hid (fun x hx e => by have := HL.out.bo.lt _ e; have := (hvb x hx).1; omega)
      clear hW hva hvb hv m13 hD hWl
      go_upto_region 15 with fail
      refine wp_pass0 (C := fun _ _ _ => False) (κ := fun i => [3].getD i 0) [0] (by kernel_rfl) (by kernel_rfl) (fun _ _ d _ _ h => by cases d <;> first | exact h | exact absurd h (hP _ _ _)) ?_
      (refine TD.allocB (by simp only [zA, zB, zC]; rfl) rfl ?hw1 rfl rfl alRk (fun p14 hp14 => ?hn1); (case hw1 => rfl); (try simp only [Act.put, zF, zG, zH]))
      refine TD.nil (fun w14 hr => ?_)
      have kp14 := hr.box p14 _ (by first | exact Bx.set_same _ _ _ | (simp only [Bx.set_same]; rfl)); dsimp only [Value.cells] at kp14; obtain ⟨gp14, kp14⟩ := kp14
      have m14 := hr.mod
      clear hr
      replace kp14 : w14.heap[p14]? = some (.cells (rkc rk0) 60 (0, 0)) := kp14
      have HP14 : Hid (w.heap.size ≤ p14 ∧ 0 < p14 ∧ w13.heap.size ≤ p14) := Lib.hid ⟨Nat.le_trans HL13.out.m.size gp14, by have := HL13.out.bo.2.2; omega, gp14⟩
      have HBK : Hid (∀ x, a13 = some x → x.block < p14) := Lib.hid (fun x hx => by have := (HW0.out.2.2.1 x hx).2.1; omega)
      have HL14 := Lib.hid (HL13.out.mod0 m14)
      have HS14 : Hid (¬ T p14) := Lib.hid (fun e => by have := HL13.out.bo.lt _ e; omega)
      have HW14 := Lib.hid (HW0.out.2.1.mod0 m14)
      clear m14 gp14
      go_wp2_with fail
      go_loopw [15, 16, 17, 18, 19] (fun s15 _ _ _ _ ws => ∃ (i : Nat) (f : Nat → Nat) (T : Nat → Prop) (r : Rk), i ≤ l.length ∧ s15 = .int .i64 (i : Int) ∧ Hid (LS w b (rS 60 l f) T ws ∧ PL K l f i ∧ ¬ T p14 ∧ (∀ x, a13 = some x → ¬ T x.block) ∧ SlAt ic 1 ws a13 W ∧ (∀ q, 0 < i → K[i - 1]? = some q → r = (nodeL l q).r)) ∧ w14.heap.size ≤ ws.heap.size ∧ ws.heap[p14]? = some (.cells (rkc r) 60 (0, 0))) (fun s15 _ _ _ _ _ => l.length - (intOf s15).toNat)
      case atStart => exact ⟨0, fz, T, rk0, by omega, rfl, Lib.hid ⟨HL14.out, fun j _ => by simp [fz], HS14.out, HTv.out, HW14.out, fun q h => absurd h (Nat.lt_irrefl 0)⟩, Nat.le_refl _, kp14⟩
      case round =>
        clear kp14
        obtain ⟨i, f, Ti, r, hi, rfl, HI, hszi, kp14⟩ := hrel
        by_cases hlt : i < l.length
        · obtain ⟨q, hq⟩ : ∃ q, K[i]? = some q := ⟨_, List.getElem?_eq_getElem (by have := HK.out.2.1; omega)⟩
          have hql : q < l.length := (HK.out.2.2.1 q).1 (List.mem_of_getElem? hq)
          have hf0 := HI.out.2.1.at HK.out.1 hq hql
          have hx : (rS 60 l f)[q]? = some (some ⟨UInt64.ofNat q, rdy (l.getD q 0) 0, 0, false⟩) := by rw [rS_some (by omega) hql, hf0]
          have hhd : ((K.drop i).map (nodeL l)).head? = some ⟨(⟨UInt64.ofNat q, rdy (l.getD q 0) 0, 0, false⟩ : It).rk, idn q⟩ := by rw [List.head?_map, List.head?_drop, hq]; rfl
          have HQ := Lib.hid (And.intro hq hql)
          have HPL : Hid (∀ v, v ≠ 0 → PL K l (fun j => if j = q then v else f j) (i + 1)) := Lib.hid (fun v hv => HI.out.2.1.step HK.out.1 hq hv)
          have hpop := bpopY_c HI.out.1.bh (HI.out.2.1.wait hn HK.out.1 HK.out.2.2.1) (HK.out.2.2.2.1.drop i) hx hhd
          have HPO := Lib.hid hpop
          clear hq hql hf0 hx hhd hpop
          go_wp2_with fail
          go_at_call 15
          refine HPO.out.mono ?_
          rintro e w2 ⟨rfl, H2⟩
          have H2 : BH wr Ti b ((rS 60 l f).set q (some ⟨UInt64.ofNat q, rdy (l.getD q 0) 0, 1, false⟩)) w2 := H2
          rw [rS_set (by have := HQ.out.2; omega) HQ.out.2] at H2
          obtain ⟨T2, L2, m2, g2⟩ := HI.out.1.then H2
          have HT14 : Hid (¬ T2 p14 ∧ ∀ x, a13 = some x → ¬ T2 x.block) := Lib.hid ⟨fun e => by rcases g2 _ e with h | h; exact HI.out.2.2.1 h; have := lt_size kp14; omega, fun x hx e => by rcases g2 _ e with h | h; exact HI.out.2.2.2.1 x hx h; have := HBK.out x hx; have := lt_size kp14; omega⟩
          have HL2 := Lib.hid L2
          have HW2 : Hid (SlAt ic 1 w2 a13 W) := Lib.hid (HI.out.2.2.2.2.1.mod m2 (fun g o e => HI.out.2.2.2.1 _ e))
          have kp14 := m2.at kp14 HI.out.2.2.1
          have hsz2 : w14.heap.size ≤ w2.heap.size := Nat.le_trans hszi m2.size
          have HX2 : Hid ((rS 60 l (fun j => if j = q then 1 else f j))[q]? = some (some ⟨UInt64.ofNat q, rdy (l.getD q 0) 0, 1, false⟩)) := Lib.hid (by rw [rS_some (by have := HQ.out.2; omega) HQ.out.2, if_pos rfl])
          clear H2 L2 m2 g2
          go_upto_region 20 with fail
          have Lkp14 := lt_size kp14
          refine wp_gpass0 (T0 := fun _ => False) (K := fun _ _ => True) (κ := fun i => [0, 0, 6, 0, 0, 0, 3, 4, 0].getD i 0) (υ := fun i => [[], [], [], [], [], [], [], [], []].getD i []) [0, 1, 2, 3, 4, 5, 6, 7, 8] (by kernel_rfl) (by kernel_rfl) (Good.true).cl (trivial) (fun _ h => h.elim) ?_
          have gK := Good.true
          (refine TG.v0 (v := ?v2) (by simp only [zA, zB, zC]; rfl) rfl ?hw2 (fun w1 => ?hy2) ?hn2; (case hw2 => rfl); (case hy2 => (go_simp; (try with_reducible rfl))); (try simp only [Act.put, zF, zG, zH]))
          (refine TG.v0 (v := ?v3) (by simp only [zA, zB, zC]; rfl) rfl ?hw3 (fun w1 => ?hy3) ?hn3; (case hw3 => rfl); (case hy3 => (go_simp; (try with_reducible rfl))); (try simp only [Act.put, zF, zG, zH]))
          (refine TG.callN (f := ?f4) (args := ?r4) (fun v => ∃ z : ItR, v = .tuple #[.agg (itr z), .int .i64 0] ∧ z.con = ⟨UInt64.ofNat q, rdy (l.getD q 0) 0, 1, false⟩) gK (by simp only [zA, zB, zC]; rfl) rfl ?hw4 (fun w1 => ?hy4) (fun T wq kq ltq hSq ub => ?hsp4) ?hn4; (case hw4 => rfl); (case hy4 => (go_simp; (first | with_reducible rfl | (constructor <;> with_reducible rfl)))); (case hsp4 => (have kp14q := hSq.at kp14 (by intro hT; first | exact hT | exact absurd hT (by assumption) | omega | (simp only at hT; omega)); exact (bfindY_c (HL2.out.bh.mod0 hSq) HX2.out).mono (fun e w' h => by obtain ⟨z, hz, _, h1, h2⟩ := h; exact ⟨_, h1, ⟨z, rfl, hz⟩, h2⟩))); rintro v4 hC; (obtain ⟨z, rfl, hz⟩ := hC); (try simp only [Act.put, zF, zG, zH]))
          (refine TG.v0 (v := ?v5) (by simp only [zA, zB, zC]; rfl) rfl ?hw5 (fun w1 => ?hy5) ?hn5; (case hw5 => rfl); (case hy5 => (go_simp; (try with_reducible rfl))); (try simp only [Act.put, zF, zG, zH]))
          (refine TG.v0 (v := ?v6) (by simp only [zA, zB, zC]; rfl) rfl ?hw6 (fun w1 => ?hy6) ?hn6; (case hw6 => rfl); (case hy6 => (go_simp; (try with_reducible rfl))); (try simp only [Act.put, zF, zG, zH]))
          (refine TG.v0 (v := ?v7) (by simp only [zA, zB, zC]; rfl) rfl ?hw7 (fun w1 => ?hy7) ?hn7; (case hw7 => rfl); (case hy7 => (go_simp; (try with_reducible rfl))); (try simp only [Act.put, zF, zG, zH]))
          (refine TG.allocB (by simp only [zA, zB, zC]; rfl) rfl ?hw8 rfl rfl alItem (fun p18 hp18 _ => ?hn8); (case hw8 => rfl); (try simp only [Act.put, zF, zG, zH]))
          (refine TG.storeB (d := ?d9) (T := ?T9) (y := ?y9) (p := ?p9) (b := ?b9) (v := ?v9) (by simp only [zA, zB, zC]; rfl) rfl ?hw9 ?hd9 ?hop9 ?hev9 ?hx9 ?hb9 ?htag9 (fun w1 hb1 => ?hy9) ?hn9; (case hw9 => rfl); (case hd9 => rfl); (case hop9 => rfl); (case hev9 => (simp only [Act.eval, zD, zA, zB, zC, zE]; (try rfl))); (case hx9 => (simp only [Act.eval, zD, zA, zB, zC, zE]; (try rfl))); (case hb9 => first | exact Bx.set_same _ _ _ | (simp only [Bx.set_same]; rfl)); (case htag9 => rfl); (case hy9 => (go_simp; (try first | with_reducible rfl | (rw [setCell_blk hb1]; rfl)))); (try simp only [Act.put, zF, zG, zH]))
          (refine TG.v0 (v := ?v10) (by simp only [zA, zB, zC]; rfl) rfl ?hw10 (fun w1 => ?hy10) ?hn10; (case hw10 => rfl); (case hy10 => (go_simp; (try with_reducible rfl))); (try simp only [Act.put, zF, zG, zH]))
          refine TG.nil (fun w3 ⟨TR, hr⟩ => ?_)
          have kp14 := hr.mod.at kp14 (by intro hT; first | exact hT | exact absurd hT (by assumption) | omega | (simp only at hT; omega))
          have kp18 := hr.box p18 _ (by first | exact Bx.set_same _ _ _ | (simp only [Bx.set_same]; rfl)); dsimp only [Value.cells] at kp18; obtain ⟨gp18, nTp18, kp18⟩ := kp18
          clear gK
          have hpl : ((z.pl.toNat : Int) == 1) = true := by have : z.pl.toNat = 1 := congrArg It.pl hz; rw [this]; rfl
          have hpl2 : ((z.pl.toNat : Int) != 1) = false := by rw [bne, hpl]; rfl
          have HZ := Lib.hid (And.intro hz (show z.rk = (nodeL l q).r from congrArg It.rk hz))
          have HM3 := Lib.hid hr.mod
          obtain ⟨g5, o5, C5, U5, fr5, rfl, k5, he5, _⟩ := (HW2.out.mod0 hr.mod).block (show W[i]? = some (idn q) by rw [HW0.out.1, List.getElem?_map, List.getElem?_map, HQ.out.1]; rfl)
          have q5 : C5[o5 + i]? = some (.int .i64 (q : Int)) := by
            have h0 := cellC he5 (j := 0) (v := .int .i64 (idn q).toInt) rfl
            rw [idn_toInt (by have := HQ.out.2; omega)] at h0
            simpa using h0
          clear hr he5 hz
          by_cases hi0 : i = 0
          · have hdi := decide_eq_false (show ¬ (0 : Int) < (i : Int) by omega)
            have hdiN := decide_eq_false (show ¬ 0 < i by omega)
            clear hi0
            go_upto_region 21 with fail
            have Lkp14 := lt_size kp14
            have Lkp18 := lt_size kp18
            have Lk5 := lt_size k5
            refine wp_pass (C := fun _ _ _ => False) (κ := fun i => [0, 0, 0, 0, 0, 0, 0, 0, 0, 0, 0, 1, 0, 0, 0, 0, 1, 0, 0, 0, 0, 0, 0, 0, 0, 0, 0, 0, 0, 0].getD i 0) [0, 1, 2, 3, 4, 5, 6, 7, 8, 9, 10, 11, 12, 13, 14, 15, 16, 17, 18, 19, 20, 21, 22, 23, 24, 25, 26, 27, 28, 29] (by kernel_rfl) (by kernel_rfl) (fun _ _ d _ _ h => by cases d <;> first | exact h | exact absurd h (hP _ _ _)) ?_
            (refine TD.val0 (v := ?v11) (by simp only [zA, zB, zC]; rfl) rfl ?hw11 (fun w1 => ?hy11) ?hn11; (case hw11 => rfl); (case hy11 => (go_simp; (try with_reducible rfl))); (try simp only [Act.put, zF, zG, zH]))
            (refine TD.val0 (v := ?v12) (by simp only [zA, zB, zC]; rfl) rfl ?hw12 (fun w1 => ?hy12) ?hn12; (case hw12 => rfl); (case hy12 => (go_simp; (try with_reducible rfl))); (try simp only [Act.put, zF, zG, zH]))
            (refine TD.val0 (v := ?v13) (by simp only [zA, zB, zC]; rfl) rfl ?hw13 (fun w1 => ?hy13) ?hn13; (case hw13 => rfl); (case hy13 => (go_simp; (try with_reducible rfl))); (try simp only [Act.put, zF, zG, zH]))
            (refine TD.val0 (v := ?v14) (by simp only [zA, zB, zC]; rfl) rfl ?hw14 (fun w1 => ?hy14) ?hn14; (case hw14 => rfl); (case hy14 => (go_simp; (try with_reducible rfl))); (try simp only [Act.put, zF, zG, zH]))
            (refine TD.val0 (v := ?v15) (by simp only [zA, zB, zC]; rfl) rfl ?hw15 (fun w1 => ?hy15) ?hn15; (case hw15 => rfl); (case hy15 => (go_simp; (try with_reducible rfl))); (try simp only [Act.put, zF, zG, zH]))
            (refine TD.val0 (v := ?v16) (by simp only [zA, zB, zC]; rfl) rfl ?hw16 (fun w1 => ?hy16) ?hn16; (case hw16 => rfl); (case hy16 => (go_simp; (try with_reducible rfl))); (try simp only [Act.put, zF, zG, zH]))
            (refine TD.val0 (v := ?v17) (by simp only [zA, zB, zC]; rfl) rfl ?hw17 (fun w1 => ?hy17) ?hn17; (case hw17 => rfl); (case hy17 => (go_simp; (try with_reducible rfl))); (try simp only [Act.put, zF, zG, zH]))
            (refine TD.val0 (v := ?v18) (by simp only [zA, zB, zC]; rfl) rfl ?hw18 (fun w1 => ?hy18) ?hn18; (case hw18 => rfl); (case hy18 => (go_simp; (try with_reducible rfl))); (try simp only [Act.put, zF, zG, zH]))
            (refine TD.val0 (v := ?v19) (by simp only [zA, zB, zC]; rfl) rfl ?hw19 (fun w1 => ?hy19) ?hn19; (case hw19 => rfl); (case hy19 => (go_simp; (try with_reducible rfl))); (try simp only [Act.put, zF, zG, zH]))
            (refine TD.val0 (v := ?v20) (by simp only [zA, zB, zC]; rfl) rfl ?hw20 (fun w1 => ?hy20) ?hn20; (case hw20 => rfl); (case hy20 => (go_simp; (try with_reducible rfl))); (try simp only [Act.put, zF, zG, zH]))
            (refine TD.val0 (v := ?v21) (by simp only [zA, zB, zC]; rfl) rfl ?hw21 (fun w1 => ?hy21) ?hn21; (case hw21 => rfl); (case hy21 => (go_simp; (try with_reducible rfl))); (try simp only [Act.put, zF, zG, zH]))
            (refine TD.load (v := ?v22) (p := ?p22) (Mod.refl _ _) (by simp only [zA, zB, zC]; rfl) rfl ?hw22 rfl ?hx22 (fun wq hSq => ?hy22) ?hn22; (case hw22 => rfl); (case hx22 => (simp only [Act.eval, zD, zA, zB, zC, zE]; (try rfl))); (case hy22 => (have kp14q := hSq.at kp14 (fun h => h); have kp18q := hSq.at kp18 (fun h => h); have k5q := hSq.at k5 (fun h => h); go_simp; (try with_reducible rfl))); (try simp only [Act.put, zF, zG, zH]))
            (refine TD.val0 (v := ?v23) (by simp only [zA, zB, zC]; rfl) rfl ?hw23 (fun w1 => ?hy23) ?hn23; (case hw23 => rfl); (case hy23 => (go_simp; (try with_reducible rfl))); (try simp only [Act.put, zF, zG, zH]))
            (refine TD.val0 (v := ?v24) (by simp only [zA, zB, zC]; rfl) rfl ?hw24 (fun w1 => ?hy24) ?hn24; (case hw24 => rfl); (case hy24 => (go_simp; (try with_reducible rfl))); (try simp only [Act.put, zF, zG, zH]))
            (refine TD.val0 (v := ?v25) (by simp only [zA, zB, zC]; rfl) rfl ?hw25 (fun w1 => ?hy25) ?hn25; (case hw25 => rfl); (case hy25 => (go_simp; (try with_reducible rfl))); (try simp only [Act.put, zF, zG, zH]))
            (refine TD.val0 (v := ?v26) (by simp only [zA, zB, zC]; rfl) rfl ?hw26 (fun w1 => ?hy26) ?hn26; (case hw26 => rfl); (case hy26 => (go_simp; (try with_reducible rfl))); (try simp only [Act.put, zF, zG, zH]))
            (refine TD.load (v := ?v27) (p := ?p27) (Mod.refl _ _) (by simp only [zA, zB, zC]; rfl) rfl ?hw27 rfl ?hx27 (fun wq hSq => ?hy27) ?hn27; (case hw27 => rfl); (case hx27 => (simp only [Act.eval, zD, zA, zB, zC, zE]; (try rfl))); (case hy27 => (have kp14q := hSq.at kp14 (fun h => h); have kp18q := hSq.at kp18 (fun h => h); have k5q := hSq.at k5 (fun h => h); go_simp; (try with_reducible rfl))); (try simp only [Act.put, zF, zG, zH]))
            (refine TD.val0 (v := ?v28) (by simp only [zA, zB, zC]; rfl) rfl ?hw28 (fun w1 => ?hy28) ?hn28; (case hw28 => rfl); (case hy28 => (go_simp; (try with_reducible rfl))); (try simp only [Act.put, zF, zG, zH]))
            (refine TD.val0 (v := ?v29) (by simp only [zA, zB, zC]; rfl) rfl ?hw29 (fun w1 => ?hy29) ?hn29; (case hw29 => rfl); (case hy29 => (go_simp; (try with_reducible rfl))); (try simp only [Act.put, zF, zG, zH]))
            (refine TD.val0 (v := ?v30) (by simp only [zA, zB, zC]; rfl) rfl ?hw30 (fun w1 => ?hy30) ?hn30; (case hw30 => rfl); (case hy30 => (go_simp; (try with_reducible rfl))); (try simp only [Act.put, zF, zG, zH]))
            (refine TD.val0 (v := ?v31) (by simp only [zA, zB, zC]; rfl) rfl ?hw31 (fun w1 => ?hy31) ?hn31; (case hw31 => rfl); (case hy31 => (go_simp; (try with_reducible rfl))); (try simp only [Act.put, zF, zG, zH]))
            (refine TD.val0 (v := ?v32) (by simp only [zA, zB, zC]; rfl) rfl ?hw32 (fun w1 => ?hy32) ?hn32; (case hw32 => rfl); (case hy32 => (go_simp; (try with_reducible rfl))); (try simp only [Act.put, zF, zG, zH]))
            (refine TD.val0 (v := ?v33) (by simp only [zA, zB, zC]; rfl) rfl ?hw33 (fun w1 => ?hy33) ?hn33; (case hw33 => rfl); (case hy33 => (go_simp; (try with_reducible rfl))); (try simp only [Act.put, zF, zG, zH]))
            (refine TD.pass (by simp only [zA, zB, zC]; rfl) rfl ?hw34 ?hn34; (case hw34 => rfl); (try simp only [Act.put, zF, zG, zH]))
            (refine TD.pass (by simp only [zA, zB, zC]; rfl) rfl ?hw35 ?hn35; (case hw35 => rfl); (try simp only [Act.put, zF, zG, zH]))
            (refine TD.pass (by simp only [zA, zB, zC]; rfl) rfl ?hw36 ?hn36; (case hw36 => rfl); (try simp only [Act.put, zF, zG, zH]))
            (refine TD.pass (by simp only [zA, zB, zC]; rfl) rfl ?hw37 ?hn37; (case hw37 => rfl); (try simp only [Act.put, zF, zG, zH]))
            (refine TD.pass (by simp only [zA, zB, zC]; rfl) rfl ?hw38 ?hn38; (case hw38 => rfl); (try simp only [Act.put, zF, zG, zH]))
            (refine TD.val0 (v := ?v39) (by simp only [zA, zB, zC]; rfl) rfl ?hw39 (fun w1 => ?hy39) ?hn39; (case hw39 => rfl); (case hy39 => (go_simp; (try with_reducible rfl))); (try simp only [Act.put, zF, zG, zH]))
            (refine TD.val0 (v := ?v40) (by simp only [zA, zB, zC]; rfl) rfl ?hw40 (fun w1 => ?hy40) ?hn40; (case hw40 => rfl); (case hy40 => (go_simp; (try with_reducible rfl))); (try simp only [Act.put, zF, zG, zH]))
            refine TD.nil (fun w4 hr => ?_)
            have kp14 := hr.mod.at kp14 (fun h => h)
            have kp18 := hr.mod.at kp18 (fun h => h)
            have k5 := hr.mod.at k5 (fun h => h)
            have m4 := HM3.out.then0 hr.mod
            clear hr
            go_upto_region 23 with fail
            have Lkp14 := lt_size kp14
            have Lkp18 := lt_size kp18
            refine wp_pass0 (C := fun _ _ v => v = .agg (rkc z.rk)) (κ := fun i => [1, 2, 5].getD i 0) [0, 1, 2] (by kernel_rfl) (by kernel_rfl) (fun _ _ d _ _ h => by cases d <;> first | exact h | exact absurd h (hP _ _ _)) ?_
            (refine TD.load (v := ?v41) (p := ?p41) (Mod.refl _ _) (by simp only [zA, zB, zC]; rfl) rfl ?hw41 rfl ?hx41 (fun wq hSq => ?hy41) ?hn41; (case hw41 => rfl); (case hx41 => (simp only [Act.eval, zD, zA, zB, zC, zE]; (try rfl))); (case hy41 => (have kp14q := hSq.at kp14 (fun h => h); have kp18q := hSq.at kp18 (fun h => h); go_simp; (try with_reducible rfl))); (try simp only [Act.put, zF, zG, zH]))
            (refine TD.call (f := ?f42) (args := ?r42) (Mod.refl _ _) (by simp only [zA, zB, zC]; rfl) rfl ?hw42 (fun w1 => ?hy42) ?hsp42 ?hn42; (case hw42 => rfl); (case hy42 => (go_simp; (first | with_reducible rfl | (constructor <;> with_reducible rfl)))); (case hsp42 => (intro wq hSq; have kp14q := hSq.at kp14 (fun h => h); have kp18q := hSq.at kp18 (fun h => h); exact (lrank_c z wq).mono (fun e w' h => ⟨_, h.1, rfl, h.2⟩))); rintro _ rfl; (try simp only [Act.put, zF, zG, zH]))
            refine TD.eff (by simp only [zA, zB, zC]; rfl) rfl (fun w5 hr => ?_)
            have kp14 := hr.mod.at kp14 (fun h => h)
            have kp18 := hr.mod.at kp18 (fun h => h)
            have m5 := m4.then0 hr.mod
            clear hr
            (refine eff_store (X := ?X44) (Y := ?Y44) (w' := ?w44) (by simp only [zA, zB, zC]; rfl) ?hw44 rfl ?hx44 ?hz44 ?hy44 ?hn44; (case hw44 => rfl); (case hx44 => (simp only [Act.eval, zD, zA, zB, zC, zE]; (try rfl))); (case hz44 => (simp only [Act.eval, zD, zA, zB, zC, zE]; (try rfl))); (case hy44 => (go_simp; (try with_reducible rfl))))
            (first | refine TE.nil_set kp14 (fun wn kp14 mS => ?_) | refine TE.nil_setCell kp14 (fun wn kp14 mS => ?_))
            (try simp only [Array.setIfInBounds, zF, zG, zH] at kp14)
            have HL6 : Hid (LS w b (rS 60 l (fun j => if j = q then 1 else f j)) T2 wn) := Lib.hid ((HL2.out.mod0 m5).modX mS (fun i hi e => HT14.out.1 (e ▸ hi)) (fun i e => by rw [e]; exact HP14.out.1) (fun e => by have := HP14.out.2.1; omega))
            have HW6 : Hid (SlAt ic 1 wn (some ⟨g5, o5, none⟩) W) := Lib.hid ((HW2.out.mod0 m5).mod mS (fun g o e hg => by have h8 : g < p14 := HBK.out _ e; have h9 : g = p14 := hg; omega))
            have hsz6 : w14.heap.size ≤ wn.heap.size := Nat.le_trans hsz2 (Nat.le_trans m5.size mS.size)
            clear mS m5 m4 kp18
            by_cases hpi : i < pk.length
            · obtain ⟨pb, hpb⟩ : ∃ pb, pk[i]? = some pb := ⟨_, List.getElem?_eq_getElem hpi⟩
              obtain ⟨g6, o6, C6, U6, fr6, rfl, k6, he6, _⟩ := (HA.out.2.mod0 HL6.out.m).block hpb
              have q6 : C6[o6 + i]? = some (.bool pb) := by have h0 := cellC he6 (j := 0) (v := .bool pb) rfl; simpa using h0
              clear he6 hpb
              cases pb with
              | false =>
                go_wp2_with fail
                go_roundw
                case rel => exact ⟨i + 1, (fun j => if j = q then 1 else f j), T2, z.rk, by omega, by go_num, Lib.hid ⟨HL6.out, HPL.out 1 (by decide), HT14.out.1, HT14.out.2, HW6.out, fun q' _ hq' => by
                  rw [Nat.add_sub_cancel] at hq'
                  rw [HQ.out.1] at hq'
                  cases hq'
                  exact HZ.out.2⟩, by omega, kp14⟩
                case measure => simp [intOf]; omega
              | true =>
                go_wp2_with fail
                go_at_call 17
                refine (ParkY_c HL6.out.bh (i := q) (x := ⟨UInt64.ofNat q, rdy (l.getD q 0) 0, 1, false⟩) (by rw [rS_some (by have := HQ.out.2; omega) HQ.out.2, if_pos rfl]) rfl).mono ?_
                rintro e w7 ⟨rfl, H7⟩
                have H7 : BH wn T2 b ((rS 60 l (fun j => if j = q then 1 else f j)).set q (some ⟨UInt64.ofNat q, rdy (l.getD q 0) 0, 2, false⟩)) w7 := H7
                rw [rS_set (by have := HQ.out.2; omega) HQ.out.2] at H7
                rw [show (fun j => if j = q then 2 else (fun j => if j = q then 1 else f j) j) = (fun j => if j = q then 2 else f j) from by funext j; by_cases e : j = q <;> simp [e]] at H7
                obtain ⟨T7, L7, m7, g7⟩ := HL6.out.then H7
                have HT7 : Hid (¬ T7 p14 ∧ ∀ x, (some ⟨g5, o5, none⟩ : Option Addr) = some x → ¬ T7 x.block) := Lib.hid ⟨fun e => by rcases g7 _ e with h | h; exact HT14.out.1 h; have := lt_size kp14; omega, fun x hx e => by rcases g7 _ e with h | h; exact HT14.out.2 x hx h; have := HBK.out x hx; have := lt_size kp14; omega⟩
                have HL7 := Lib.hid L7
                have HW7 : Hid (SlAt ic 1 w7 (some ⟨g5, o5, none⟩) W) := Lib.hid (HW6.out.mod m7 (fun g o e => HT14.out.2 _ e))
                have kp14 := m7.at kp14 HT14.out.1
                have hsz7 : w14.heap.size ≤ w7.heap.size := Nat.le_trans hsz6 m7.size
                clear H7 L7 m7 g7 HT14
                have HT14 := HT7
                go_wp2_with fail
                go_roundw
                case rel => exact ⟨i + 1, (fun j => if j = q then 2 else f j), T7, z.rk, by omega, by go_num, Lib.hid ⟨HL7.out, HPL.out 2 (by decide), HT14.out.1, HT14.out.2, HW7.out, fun q' _ hq' => by
                  rw [Nat.add_sub_cancel] at hq'
                  rw [HQ.out.1] at hq'
                  cases hq'
                  exact HZ.out.2⟩, by omega, kp14⟩
                case measure => simp [intOf]; omega
            · have hdp := decide_eq_false (show ¬ (i : Int) < (pk.length : Int) by omega)
              go_wp2_with fail
              go_roundw
              case rel => exact ⟨i + 1, (fun j => if j = q then 1 else f j), T2, z.rk, by omega, by go_num, Lib.hid ⟨HL6.out, HPL.out 1 (by decide), HT14.out.1, HT14.out.2, HW6.out, fun q' _ hq' => by
                rw [Nat.add_sub_cancel] at hq'
                rw [HQ.out.1] at hq'
                cases hq'
                exact HZ.out.2⟩, by omega, kp14⟩
              case measure => simp [intOf]; omega
          · have hdi := decide_eq_true (show (0 : Int) < (i : Int) by omega)
            have hdiN := decide_eq_true (show 0 < i by omega)
            have HAh : Hid (Ahead r z.rk = true) := Lib.hid (by
              obtain ⟨q', hq'⟩ : ∃ q', K[i - 1]? = some q' := ⟨_, List.getElem?_eq_getElem (by have := HK.out.2.1; omega)⟩
              have hq'l : q' < l.length := (HK.out.2.2.1 q').1 (List.mem_of_getElem? hq')
              rw [HI.out.2.2.2.2.2 q' (by omega) hq', HZ.out.2]
              refine ahead_of (by omega) (by have := HQ.out.2; omega) (fun e => ?_) (srt_adj HK.out.2.2.2.1 (by omega) hq' HQ.out.1)
              subst e
              have := (List.getElem?_inj (List.getElem?_eq_some_iff.1 hq').1 HK.out.1).1 (hq'.trans HQ.out.1.symm)
              omega)
            clear hi0
            go_upto_region 21 with fail
            have Lkp14 := lt_size kp14
            have Lkp18 := lt_size kp18
            have Lk5 := lt_size k5
            refine wp_gpass (T0 := fun _ => False) (K := fun _ _ => True) (κ := fun i => [0, 0, 0, 0, 0, 0, 0, 0, 0, 0, 0, 0, 0, 0, 0, 0, 0, 0, 0, 0, 0, 0, 0, 0, 0, 6, 6, 0, 0, 0].getD i 0) (υ := fun i => [[], [], [], [], [], [], [], [], [], [], [], [], [], [], [], [], [], [], [], [], [], [], [], [], [], [], [], [], [], []].getD i []) [0, 1, 2, 3, 4, 5, 6, 7, 8, 9, 10, 11, 12, 13, 14, 15, 16, 17, 18, 19, 20, 21, 22, 23, 24, 25, 26, 27, 28, 29] (by kernel_rfl) (by kernel_rfl) (Good.true).cl (trivial) (fun _ h => h.elim) ?_
            have gK := Good.true
            (refine TG.v0 (v := ?v45) (by simp only [zA, zB, zC]; rfl) rfl ?hw45 (fun w1 => ?hy45) ?hn45; (case hw45 => rfl); (case hy45 => (go_simp; (try with_reducible rfl))); (try simp only [Act.put, zF, zG, zH]))
            (refine TG.v0 (v := ?v46) (by simp only [zA, zB, zC]; rfl) rfl ?hw46 (fun w1 => ?hy46) ?hn46; (case hw46 => rfl); (case hy46 => (go_simp; (try with_reducible rfl))); (try simp only [Act.put, zF, zG, zH]))
            (refine TG.v0 (v := ?v47) (by simp only [zA, zB, zC]; rfl) rfl ?hw47 (fun w1 => ?hy47) ?hn47; (case hw47 => rfl); (case hy47 => (go_simp; (try with_reducible rfl))); (try simp only [Act.put, zF, zG, zH]))
            (refine TG.v0 (v := ?v48) (by simp only [zA, zB, zC]; rfl) rfl ?hw48 (fun w1 => ?hy48) ?hn48; (case hw48 => rfl); (case hy48 => (go_simp; (try with_reducible rfl))); (try simp only [Act.put, zF, zG, zH]))
            (refine TG.v0 (v := ?v49) (by simp only [zA, zB, zC]; rfl) rfl ?hw49 (fun w1 => ?hy49) ?hn49; (case hw49 => rfl); (case hy49 => (go_simp; (try with_reducible rfl))); (try simp only [Act.put, zF, zG, zH]))
            (refine TG.v0 (v := ?v50) (by simp only [zA, zB, zC]; rfl) rfl ?hw50 (fun w1 => ?hy50) ?hn50; (case hw50 => rfl); (case hy50 => (go_simp; (try with_reducible rfl))); (try simp only [Act.put, zF, zG, zH]))
            (refine TG.v0 (v := ?v51) (by simp only [zA, zB, zC]; rfl) rfl ?hw51 (fun w1 => ?hy51) ?hn51; (case hw51 => rfl); (case hy51 => (go_simp; (try with_reducible rfl))); (try simp only [Act.put, zF, zG, zH]))
            (refine TG.v0 (v := ?v52) (by simp only [zA, zB, zC]; rfl) rfl ?hw52 (fun w1 => ?hy52) ?hn52; (case hw52 => rfl); (case hy52 => (go_simp; (try with_reducible rfl))); (try simp only [Act.put, zF, zG, zH]))
            (refine TG.v0 (v := ?v53) (by simp only [zA, zB, zC]; rfl) rfl ?hw53 (fun w1 => ?hy53) ?hn53; (case hw53 => rfl); (case hy53 => (go_simp; (try with_reducible rfl))); (try simp only [Act.put, zF, zG, zH]))
            (refine TG.v0 (v := ?v54) (by simp only [zA, zB, zC]; rfl) rfl ?hw54 (fun w1 => ?hy54) ?hn54; (case hw54 => rfl); (case hy54 => (go_simp; (try with_reducible rfl))); (try simp only [Act.put, zF, zG, zH]))
            (refine TG.v0 (v := ?v55) (by simp only [zA, zB, zC]; rfl) rfl ?hw55 (fun w1 => ?hy55) ?hn55; (case hw55 => rfl); (case hy55 => (go_simp; (try with_reducible rfl))); (try simp only [Act.put, zF, zG, zH]))
            (refine TG.load (v := ?v56) (p := ?p56) (by simp only [zA, zB, zC]; rfl) rfl ?hw56 rfl ?hx56 (fun wq hSq => ?hy56) ?hn56; (case hw56 => rfl); (case hx56 => (simp only [Act.eval, zD, zA, zB, zC, zE]; (try rfl))); (case hy56 => (have kp14q := hSq.at kp14 (by intro hT; first | exact hT | exact absurd hT (by assumption) | omega | (simp only at hT; omega)); have kp18q := hSq.at kp18 (by intro hT; first | exact hT | exact absurd hT (by assumption) | omega | (simp only at hT; omega)); have k5q := hSq.at k5 (by intro hT; first | exact hT | exact absurd hT (by assumption) | omega | (simp only at hT; omega)); go_simp; (try with_reducible rfl))); (try simp only [Act.put, zF, zG, zH]))
            (refine TG.v0 (v := ?v57) (by simp only [zA, zB, zC]; rfl) rfl ?hw57 (fun w1 => ?hy57) ?hn57; (case hw57 => rfl); (case hy57 => (go_simp; (try with_reducible rfl))); (try simp only [Act.put, zF, zG, zH]))
            (refine TG.v0 (v := ?v58) (by simp only [zA, zB, zC]; rfl) rfl ?hw58 (fun w1 => ?hy58) ?hn58; (case hw58 => rfl); (case hy58 => (go_simp; (try with_reducible rfl))); (try simp only [Act.put, zF, zG, zH]))
            (refine TG.v0 (v := ?v59) (by simp only [zA, zB, zC]; rfl) rfl ?hw59 (fun w1 => ?hy59) ?hn59; (case hw59 => rfl); (case hy59 => (go_simp; (try with_reducible rfl))); (try simp only [Act.put, zF, zG, zH]))
            (refine TG.v0 (v := ?v60) (by simp only [zA, zB, zC]; rfl) rfl ?hw60 (fun w1 => ?hy60) ?hn60; (case hw60 => rfl); (case hy60 => (go_simp; (try with_reducible rfl))); (try simp only [Act.put, zF, zG, zH]))
            (refine TG.load (v := ?v61) (p := ?p61) (by simp only [zA, zB, zC]; rfl) rfl ?hw61 rfl ?hx61 (fun wq hSq => ?hy61) ?hn61; (case hw61 => rfl); (case hx61 => (simp only [Act.eval, zD, zA, zB, zC, zE]; (try rfl))); (case hy61 => (have kp14q := hSq.at kp14 (by intro hT; first | exact hT | exact absurd hT (by assumption) | omega | (simp only at hT; omega)); have kp18q := hSq.at kp18 (by intro hT; first | exact hT | exact absurd hT (by assumption) | omega | (simp only at hT; omega)); have k5q := hSq.at k5 (by intro hT; first | exact hT | exact absurd hT (by assumption) | omega | (simp only at hT; omega)); go_simp; (try with_reducible rfl))); (try simp only [Act.put, zF, zG, zH]))
            (refine TG.v0 (v := ?v62) (by simp only [zA, zB, zC]; rfl) rfl ?hw62 (fun w1 => ?hy62) ?hn62; (case hw62 => rfl); (case hy62 => (go_simp; (try with_reducible rfl))); (try simp only [Act.put, zF, zG, zH]))
            (refine TG.v0 (v := ?v63) (by simp only [zA, zB, zC]; rfl) rfl ?hw63 (fun w1 => ?hy63) ?hn63; (case hw63 => rfl); (case hy63 => (go_simp; (try with_reducible rfl))); (try simp only [Act.put, zF, zG, zH]))
            (refine TG.v0 (v := ?v64) (by simp only [zA, zB, zC]; rfl) rfl ?hw64 (fun w1 => ?hy64) ?hn64; (case hw64 => rfl); (case hy64 => (go_simp; (try with_reducible rfl))); (try simp only [Act.put, zF, zG, zH]))
            (refine TG.v0 (v := ?v65) (by simp only [zA, zB, zC]; rfl) rfl ?hw65 (fun w1 => ?hy65) ?hn65; (case hw65 => rfl); (case hy65 => (go_simp; (try with_reducible rfl))); (try simp only [Act.put, zF, zG, zH]))
            (refine TG.v0 (v := ?v66) (by simp only [zA, zB, zC]; rfl) rfl ?hw66 (fun w1 => ?hy66) ?hn66; (case hw66 => rfl); (case hy66 => (go_simp; (try with_reducible rfl))); (try simp only [Act.put, zF, zG, zH]))
            (refine TG.v0 (v := ?v67) (by simp only [zA, zB, zC]; rfl) rfl ?hw67 (fun w1 => ?hy67) ?hn67; (case hw67 => rfl); (case hy67 => (go_simp; (try with_reducible rfl))); (try simp only [Act.put, zF, zG, zH]))
            (refine TG.load (v := ?v68) (p := ?p68) (by simp only [zA, zB, zC]; rfl) rfl ?hw68 rfl ?hx68 (fun wq hSq => ?hy68) ?hn68; (case hw68 => rfl); (case hx68 => (simp only [Act.eval, zD, zA, zB, zC, zE]; (try rfl))); (case hy68 => (have kp14q := hSq.at kp14 (by intro hT; first | exact hT | exact absurd hT (by assumption) | omega | (simp only at hT; omega)); have kp18q := hSq.at kp18 (by intro hT; first | exact hT | exact absurd hT (by assumption) | omega | (simp only at hT; omega)); have k5q := hSq.at k5 (by intro hT; first | exact hT | exact absurd hT (by assumption) | omega | (simp only at hT; omega)); go_simp; (try with_reducible rfl))); (try simp only [Act.put, zF, zG, zH]))
            (refine TG.load (v := ?v69) (p := ?p69) (by simp only [zA, zB, zC]; rfl) rfl ?hw69 rfl ?hx69 (fun wq hSq => ?hy69) ?hn69; (case hw69 => rfl); (case hx69 => (simp only [Act.eval, zD, zA, zB, zC, zE]; (try rfl))); (case hy69 => (have kp14q := hSq.at kp14 (by intro hT; first | exact hT | exact absurd hT (by assumption) | omega | (simp only at hT; omega)); have kp18q := hSq.at kp18 (by intro hT; first | exact hT | exact absurd hT (by assumption) | omega | (simp only at hT; omega)); have k5q := hSq.at k5 (by intro hT; first | exact hT | exact absurd hT (by assumption) | omega | (simp only at hT; omega)); go_simp; (try with_reducible rfl))); (try simp only [Act.put, zF, zG, zH]))
            (refine TG.callN (f := ?f70) (args := ?r70) (fun v => v = .agg (rkc z.rk)) gK (by simp only [zA, zB, zC]; rfl) rfl ?hw70 (fun w1 => ?hy70) (fun T wq kq ltq hSq ub => ?hsp70) ?hn70; (case hw70 => rfl); (case hy70 => (go_simp; (first | with_reducible rfl | (constructor <;> with_reducible rfl)))); (case hsp70 => (have kp14q := hSq.at kp14 (by intro hT; first | exact hT | exact absurd hT (by assumption) | omega | (simp only at hT; omega)); have kp18q := hSq.at kp18 (by intro hT; first | exact hT | exact absurd hT (by assumption) | omega | (simp only at hT; omega)); have k5q := hSq.at k5 (by intro hT; first | exact hT | exact absurd hT (by assumption) | omega | (simp only at hT; omega)); exact (lrank_c z wq).mono (fun e w' h => ⟨_, h.1, rfl, h.2⟩))); rintro v70 hC; subst hC; (try simp only [Act.put, zF, zG, zH]))
            (refine TG.callN (f := ?f71) (args := ?r71) (fun v => v = .bool true) gK (by simp only [zA, zB, zC]; rfl) rfl ?hw71 (fun w1 => ?hy71) (fun T wq kq ltq hSq ub => ?hsp71) ?hn71; (case hw71 => rfl); (case hy71 => (go_simp; (first | with_reducible rfl | (constructor <;> with_reducible rfl)))); (case hsp71 => (have kp14q := hSq.at kp14 (by intro hT; first | exact hT | exact absurd hT (by assumption) | omega | (simp only at hT; omega)); have kp18q := hSq.at kp18 (by intro hT; first | exact hT | exact absurd hT (by assumption) | omega | (simp only at hT; omega)); have k5q := hSq.at k5 (by intro hT; first | exact hT | exact absurd hT (by assumption) | omega | (simp only at hT; omega)); exact (aheadC r z.rk wq).mono (fun e w' h => by obtain ⟨v, h1, h2, h3⟩ := h; rw [HAh.out] at h2; exact ⟨v, h1, h2, h3⟩))); rintro v71 hC; subst hC; (try simp only [Act.put, zF, zG, zH]))
            (refine TG.v0 (v := ?v72) (by simp only [zA, zB, zC]; rfl) rfl ?hw72 (fun w1 => ?hy72) ?hn72; (case hw72 => rfl); (case hy72 => (go_simp; (try with_reducible rfl))); (try simp only [Act.put, zF, zG, zH]))
            (refine TG.v0 (v := ?v73) (by simp only [zA, zB, zC]; rfl) rfl ?hw73 (fun w1 => ?hy73) ?hn73; (case hw73 => rfl); (case hy73 => (go_simp; (try with_reducible rfl))); (try simp only [Act.put, zF, zG, zH]))
            (refine TG.v0 (v := ?v74) (by simp only [zA, zB, zC]; rfl) rfl ?hw74 (fun w1 => ?hy74) ?hn74; (case hw74 => rfl); (case hy74 => (go_simp; (try with_reducible rfl))); (try simp only [Act.put, zF, zG, zH]))
            refine TG.nil (fun w4 ⟨TR, hr⟩ => ?_)
            have kp14 := hr.mod.at kp14 (by intro hT; first | exact hT | exact absurd hT (by assumption) | omega | (simp only at hT; omega))
            have kp18 := hr.mod.at kp18 (by intro hT; first | exact hT | exact absurd hT (by assumption) | omega | (simp only at hT; omega))
            have k5 := hr.mod.at k5 (by intro hT; first | exact hT | exact absurd hT (by assumption) | omega | (simp only at hT; omega))
            clear gK
            have m4 := HM3.out.then0 hr.mod
            clear hr
            go_upto_region 23 with fail
            have Lkp14 := lt_size kp14
            have Lkp18 := lt_size kp18
            refine wp_pass0 (C := fun _ _ v => v = .agg (rkc z.rk)) (κ := fun i => [1, 2, 5].getD i 0) [0, 1, 2] (by kernel_rfl) (by kernel_rfl) (fun _ _ d _ _ h => by cases d <;> first | exact h | exact absurd h (hP _ _ _)) ?_
            (refine TD.load (v := ?v75) (p := ?p75) (Mod.refl _ _) (by simp only [zA, zB, zC]; rfl) rfl ?hw75 rfl ?hx75 (fun wq hSq => ?hy75) ?hn75; (case hw75 => rfl); (case hx75 => (simp only [Act.eval, zD, zA, zB, zC, zE]; (try rfl))); (case hy75 => (have kp14q := hSq.at kp14 (fun h => h); have kp18q := hSq.at kp18 (fun h => h); go_simp; (try with_reducible rfl))); (try simp only [Act.put, zF, zG, zH]))
            (refine TD.call (f := ?f76) (args := ?r76) (Mod.refl _ _) (by simp only [zA, zB, zC]; rfl) rfl ?hw76 (fun w1 => ?hy76) ?hsp76 ?hn76; (case hw76 => rfl); (case hy76 => (go_simp; (first | with_reducible rfl | (constructor <;> with_reducible rfl)))); (case hsp76 => (intro wq hSq; have kp14q := hSq.at kp14 (fun h => h); have kp18q := hSq.at kp18 (fun h => h); exact (lrank_c z wq).mono (fun e w' h => ⟨_, h.1, rfl, h.2⟩))); rintro _ rfl; (try simp only [Act.put, zF, zG, zH]))
            refine TD.eff (by simp only [zA, zB, zC]; rfl) rfl (fun w5 hr => ?_)
            have kp14 := hr.mod.at kp14 (fun h => h)
            have kp18 := hr.mod.at kp18 (fun h => h)
            have m5 := m4.then0 hr.mod
            clear hr
            (refine eff_store (X := ?X78) (Y := ?Y78) (w' := ?w78) (by simp only [zA, zB, zC]; rfl) ?hw78 rfl ?hx78 ?hz78 ?hy78 ?hn78; (case hw78 => rfl); (case hx78 => (simp only [Act.eval, zD, zA, zB, zC, zE]; (try rfl))); (case hz78 => (simp only [Act.eval, zD, zA, zB, zC, zE]; (try rfl))); (case hy78 => (go_simp; (try with_reducible rfl))))
            (first | refine TE.nil_set kp14 (fun wn kp14 mS => ?_) | refine TE.nil_setCell kp14 (fun wn kp14 mS => ?_))
            (try simp only [Array.setIfInBounds, zF, zG, zH] at kp14)
            have HL6 : Hid (LS w b (rS 60 l (fun j => if j = q then 1 else f j)) T2 wn) := Lib.hid ((HL2.out.mod0 m5).modX mS (fun i hi e => HT14.out.1 (e ▸ hi)) (fun i e => by rw [e]; exact HP14.out.1) (fun e => by have := HP14.out.2.1; omega))
            have HW6 : Hid (SlAt ic 1 wn (some ⟨g5, o5, none⟩) W) := Lib.hid ((HW2.out.mod0 m5).mod mS (fun g o e hg => by have h8 : g < p14 := HBK.out _ e; have h9 : g = p14 := hg; omega))
            have hsz6 : w14.heap.size ≤ wn.heap.size := Nat.le_trans hsz2 (Nat.le_trans m5.size mS.size)
            clear mS m5 m4 kp18
            by_cases hpi : i < pk.length
            · obtain ⟨pb, hpb⟩ : ∃ pb, pk[i]? = some pb := ⟨_, List.getElem?_eq_getElem hpi⟩
              obtain ⟨g6, o6, C6, U6, fr6, rfl, k6, he6, _⟩ := (HA.out.2.mod0 HL6.out.m).block hpb
              have q6 : C6[o6 + i]? = some (.bool pb) := by have h0 := cellC he6 (j := 0) (v := .bool pb) rfl; simpa using h0
              clear he6 hpb
              cases pb with
              | false =>
                go_wp2_with fail
                go_roundw
                case rel => exact ⟨i + 1, (fun j => if j = q then 1 else f j), T2, z.rk, by omega, by go_num, Lib.hid ⟨HL6.out, HPL.out 1 (by decide), HT14.out.1, HT14.out.2, HW6.out, fun q' _ hq' => by
                  rw [Nat.add_sub_cancel] at hq'
                  rw [HQ.out.1] at hq'
                  cases hq'
                  exact HZ.out.2⟩, by omega, kp14⟩
                case measure => simp [intOf]; omega
              | true =>
                go_wp2_with fail
                go_at_call 17
                refine (ParkY_c HL6.out.bh (i := q) (x := ⟨UInt64.ofNat q, rdy (l.getD q 0) 0, 1, false⟩) (by rw [rS_some (by have := HQ.out.2; omega) HQ.out.2, if_pos rfl]) rfl).mono ?_
                rintro e w7 ⟨rfl, H7⟩
                have H7 : BH wn T2 b ((rS 60 l (fun j => if j = q then 1 else f j)).set q (some ⟨UInt64.ofNat q, rdy (l.getD q 0) 0, 2, false⟩)) w7 := H7
                rw [rS_set (by have := HQ.out.2; omega) HQ.out.2] at H7
                rw [show (fun j => if j = q then 2 else (fun j => if j = q then 1 else f j) j) = (fun j => if j = q then 2 else f j) from by funext j; by_cases e : j = q <;> simp [e]] at H7
                obtain ⟨T7, L7, m7, g7⟩ := HL6.out.then H7
                have HT7 : Hid (¬ T7 p14 ∧ ∀ x, (some ⟨g5, o5, none⟩ : Option Addr) = some x → ¬ T7 x.block) := Lib.hid ⟨fun e => by rcases g7 _ e with h | h; exact HT14.out.1 h; have := lt_size kp14; omega, fun x hx e => by rcases g7 _ e with h | h; exact HT14.out.2 x hx h; have := HBK.out x hx; have := lt_size kp14; omega⟩
                have HL7 := Lib.hid L7
                have HW7 : Hid (SlAt ic 1 w7 (some ⟨g5, o5, none⟩) W) := Lib.hid (HW6.out.mod m7 (fun g o e => HT14.out.2 _ e))
                have kp14 := m7.at kp14 HT14.out.1
                have hsz7 : w14.heap.size ≤ w7.heap.size := Nat.le_trans hsz6 m7.size
                clear H7 L7 m7 g7 HT14
                have HT14 := HT7
                go_wp2_with fail
                go_roundw
                case rel => exact ⟨i + 1, (fun j => if j = q then 2 else f j), T7, z.rk, by omega, by go_num, Lib.hid ⟨HL7.out, HPL.out 2 (by decide), HT14.out.1, HT14.out.2, HW7.out, fun q' _ hq' => by
                  rw [Nat.add_sub_cancel] at hq'
                  rw [HQ.out.1] at hq'
                  cases hq'
                  exact HZ.out.2⟩, by omega, kp14⟩
                case measure => simp [intOf]; omega
            · have hdp := decide_eq_false (show ¬ (i : Int) < (pk.length : Int) by omega)
              go_wp2_with fail
              go_roundw
              case rel => exact ⟨i + 1, (fun j => if j = q then 1 else f j), T2, z.rk, by omega, by go_num, Lib.hid ⟨HL6.out, HPL.out 1 (by decide), HT14.out.1, HT14.out.2, HW6.out, fun q' _ hq' => by
                rw [Nat.add_sub_cancel] at hq'
                rw [HQ.out.1] at hq'
                cases hq'
                exact HZ.out.2⟩, by omega, kp14⟩
              case measure => simp [intOf]; omega
        · obtain rfl : i = l.length := by omega
          have hwt : wtg 0 (rS 60 l f) = [] := by
            have h9 := HI.out.2.1.wait hn HK.out.1 HK.out.2.2.1
            rw [List.drop_of_length_le (by rw [HK.out.2.1]; omega)] at h9
            exact h9.nil_eq.symm
          have HWN := Lib.hid hwt
          clear hwt hlt
          go_wp2_with fail
          go_at_call 15
          refine (bpopN_c HI.out.1.bh HWN.out).mono ?_
          rintro e w21 ⟨rfl, m21⟩
          have HZ14 := Lib.hid (lt_size kp14)
          have hz21 := m21.size
          have HL21 := Lib.hid (HI.out.1.mod0 m21)
          have HW21 := Lib.hid (HI.out.2.2.2.2.1.mod0 m21)
          clear m21
          go_wp2_with fail
          go_at_call 12
          refine (bwait_c HL21.out.bh (D := []) (by rw [HWN.out]) .nil).mono ?_
          rintro e w22 ⟨v, rfl, hv, m22⟩
          obtain ⟨a22, c22, rfl, _⟩ := hv.at intT
          have hz22 := m22.size
          have HL22 := Lib.hid (HL21.out.mod0 m22)
          have HW22 := Lib.hid (HW21.out.mod0 m22)
          clear m22 hv
          go_wp2_with fail
          go_at_call 11
          refine (blen_c HL22.out.bh).mono ?_
          rintro e w23 ⟨rfl, m23⟩
          rw [rS_count hn]
          have HL23 := Lib.hid (HL22.out.mod0 m23)
          have HW23 := Lib.hid (HW22.out.mod0 m23)
          have HT23 := Lib.hid HI.out.2.2.2.1
          have HPB : Hid (PB K l f at_.toNat 0) := Lib.hid (PB.start HK.out.2.2.1 HK.out.2.1 HI.out.2.1)
          have HA23 : Hid (∀ x, a13 = some x → x.block < w23.heap.size) := Lib.hid (fun x hx => by
            have h1 := HBK.out x hx
            have h2 := HZ14.out
            have h3 := m23.size
            omega)
          have hn1x : ∃ n1, l.length = n1 + 1 := ⟨l.length - 1, by omega⟩
          obtain ⟨n1, hn1⟩ := hn1x
          have hat := at_.toNat_lt
          have hwx : IntKind.i64.wrap (at_.toNat : Int) = (at_.toNat : Int) := by
            rw [IntKind.wrap_i64]
            omega
          have hw1 : IntKind.i64.wrap ((l.length : Int) - 1) = (n1 : Int) := by
            rw [IntKind.wrap_i64]
            omega
          have hl0 : ¬ ((l.length : Int) = 0) := by omega
          have HN := Lib.hid hn1
          clear hn1 m23 kp14 hszi hi hz21 hz22
          obtain ⟨wa, hwa⟩ : ∃ wa : World, wa = wr := ⟨_, rfl⟩
          subst hwa
          go_wp2_with fail
          go_loopw [22] (fun s22 ws => ∃ (i : Nat) (f : Nat → Nat) (T : Nat → Prop), i ≤ l.length ∧ s22 = .int .i64 (i : Int) ∧ Hid (LS w b (rS 60 l f) T ws ∧ PB K l f at_.toNat i ∧ (∀ x, a13 = some x → ¬ T x.block) ∧ SlAt ic 1 ws a13 W ∧ (∀ x, a13 = some x → x.block < ws.heap.size))) (fun s22 _ => l.length - (intOf s22).toNat)
          case atStart => exact ⟨0, f, Ti, Nat.zero_le _, rfl, Lib.hid ⟨HL23.out, HPB.out, HT23.out, HW23.out, HA23.out⟩⟩
          case round =>
            obtain ⟨i, f, T, hi, rfl, HJ⟩ := hrel
            by_cases hlt : i < l.length
            · obtain ⟨ix, hix⟩ : ∃ ix, ix = (l.length - 1 - i + at_.toNat) % l.length := ⟨_, rfl⟩
              have hixl : ix < l.length := by rw [hix]; exact Nat.mod_lt _ (by omega)
              obtain ⟨q, hq⟩ : ∃ q, K[ix]? = some q := ⟨_, List.getElem?_eq_getElem (by have := HK.out.2.1; omega)⟩
              have hql : q < l.length := (HK.out.2.2.1 q).1 (List.mem_of_getElem? hq)
              have HST := Lib.hid (PB.step HK.out.1 HK.out.2.1 HJ.out.2.1 hlt (by rw [← hix]; exact hq))
              obtain ⟨g5, o5, C5, U5, fr5, rfl, k5, he5, _⟩ := HJ.out.2.2.2.1.block (show W[ix]? = some (idn q) by rw [HW0.out.1, List.getElem?_map, List.getElem?_map, hq]; rfl)
              have q5 : C5[o5 + ix]? = some (.int .i64 (q : Int)) := by
                have h0 := cellC he5 (j := 0) (v := .int .i64 (idn q).toInt) rfl
                rw [idn_toInt (by omega)] at h0
                simpa using h0
              obtain ⟨d, hd⟩ : ∃ d, d = n1 - i := ⟨_, rfl⟩
              obtain ⟨sm, hsm⟩ : ∃ sm, sm = d + at_.toNat := ⟨_, rfl⟩
              have hw2 : IntKind.i64.wrap ((n1 : Int) - (i : Int)) = (d : Int) := by
                rw [IntKind.wrap_i64]
                have := HN.out
                omega
              have hw3 : IntKind.i64.wrap ((d : Int) + (at_.toNat : Int)) = (sm : Int) := by
                rw [IntKind.wrap_i64]
                have := HN.out
                omega
              have hw4 : (sm : Int).tmod (l.length : Int) = (ix : Int) := by
                rw [Int.tmod_eq_emod_of_nonneg (by omega), hix, hsm, hd]
                have := HN.out
                rw [show l.length - 1 = n1 by omega]
                omega
              have HQ := Lib.hid (And.intro hql (And.intro hix (And.intro hd hsm)))
              have hixi : (ix : Int) < (l.length : Int) := by omega
              clear he5 hq hql hix hd hsm
              go_wp2_with fail
              go_at_call 18
              refine (BackY_c HJ.out.1.bh (i := q) (x := ⟨UInt64.ofNat q, rdy (l.getD q 0) 0, f q, false⟩) (rS_some (by have := HQ.out.1; omega) HQ.out.1) HST.out.1).mono ?_
              rintro e w2 ⟨rfl, H2⟩
              have H2 : BH wr T b ((rS 60 l f).set q (some ⟨UInt64.ofNat q, rdy (l.getD q 0) 0, 0, false⟩)) w2 := H2
              rw [rS_set (by have := HQ.out.1; omega) HQ.out.1] at H2
              obtain ⟨T2, L2, m2, g2⟩ := HJ.out.1.then H2
              have HR2 : Hid (LS w b (rS 60 l (fun j => if j = q then 0 else f j)) T2 w2 ∧ PB K l (fun j => if j = q then 0 else f j) at_.toNat (i + 1) ∧ (∀ x, (some ⟨g5, o5, none⟩ : Option Addr) = some x → ¬ T2 x.block) ∧ SlAt ic 1 w2 (some ⟨g5, o5, none⟩) W ∧ (∀ x, (some ⟨g5, o5, none⟩ : Option Addr) = some x → x.block < w2.heap.size)) := Lib.hid ⟨L2, HST.out.2, fun x hx e => by rcases g2 _ e with h | h; exact HJ.out.2.2.1 x hx h; have := HJ.out.2.2.2.2 x hx; omega, HJ.out.2.2.2.1.mod m2 (fun g o e => HJ.out.2.2.1 _ e), fun x hx => Nat.lt_of_lt_of_le (HJ.out.2.2.2.2 x hx) m2.size⟩
              clear H2 L2 m2 g2 k5 q5 hw2 hw3 hw4 hixi
              go_wp2_with fail
              go_roundw
              case rel => exact ⟨i + 1, fun j => if j = q then 0 else f j, T2, by omega, by go_num, HR2⟩
              case measure => simp [intOf]; omega
            · obtain rfl : i = l.length := by omega
              have hf := PB.end HK.out.2.2.1 HJ.out.2.1
              have hD2 : (K.map (nodeL l)).Perm (wtg 0 (rS 60 l f)) := wtg_K HK.out.1 (fun j => by rw [HK.out.2.2.1 j]; exact ⟨fun h => ⟨by omega, h, hf j h⟩, fun h => h.2.1⟩)
              have HF := Lib.hid (And.intro hD2 (pkd_zero (N := 60) hf))
              clear hf hD2 hlt
              go_wp2_with fail
              go_at_call 12
              refine (bwait_c HJ.out.1.bh HF.out.1 HK.out.2.2.2.1).mono ?_
              rintro e w31 ⟨v, rfl, hv, m31⟩
              rw [← HW0.out.1] at hv
              obtain ⟨a31, c31, rfl, hv31, _⟩ := hv.at intT
              have HL31 := Lib.hid (HJ.out.1.mod0 m31)
              have hsame := sameA_c (c1 := c31) (c2 := c13) hv31 (HJ.out.2.2.2.1.mod0 m31) (by have := HW0.out.2.2.2; omega) (by have := HW0.out.2.2.2; omega)
              rw [HW0.out.2.2.2] at hsame ⊢
              have HSM := Lib.hid hsame
              clear m31 hv hv31 hsame
              go_wp2_with fail
              go_at_call 19
              refine HSM.out.mono ?_
              rintro e w32 ⟨rfl, m32⟩
              have HL32 := Lib.hid (HL31.out.mod0 m32)
              clear m32
              go_wp2_with fail
              go_at_call 20
              refine (bparked_c HL32.out.bh HL32.out.tab).mono ?_
              rintro e w33 ⟨v, rfl, hv, m33⟩
              rw [HF.out.2] at hv
              obtain ⟨a33, rfl, _⟩ := hv.at
              have HL33 := Lib.hid (HL32.out.mod0 m33)
              clear m33 hv
              go_wp2_with fail
              go_at_call 7
              refine (lives_c _ HL33.out.tab).mono ?_
              rintro e w34 ⟨rfl, m34⟩
              have HL34 := Lib.hid (HL33.out.mod0 m34)
              clear m34
              go_wp2_with fail
              go_ret
              exact ⟨rfl, HL34.out.m⟩
end Go.Proofs.YtdeghpmlhcaedaaDoor
