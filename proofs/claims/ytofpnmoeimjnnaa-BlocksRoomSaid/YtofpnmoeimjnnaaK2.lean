/- The lemmas of the proof, part 2: how the program and its data lie in memory, and what its functions do. -/
import Derived.Test.YtofpnmoeimjnnaaK1
import Derived.ProofKit
import Derived.OpenShut
import Derived.Lib.Hide
import Derived.Deep.CutBlock
import Derived.Scope
import Derived.WalkMore
import Derived.WideKeyEntry
namespace Go.Proofs.Ytofpnmoeimjnnaa
set_option linter.unusedVariables false
set_option linter.unusedSimpArgs false
open Go.ChangeShapes Go.WideShapes Go.ChangeAt Go.RowKit
theorem u8_of {n : Int} (h : 0 ≤ n ∧ n ≤ 255) : ∃ x : UInt8, n = (x.toNat : Int) := ⟨UInt8.ofNat n.toNat, by
  rw [UInt8.toNat_ofNat']
  omega⟩
theorem i64_of {n : Int} (h : -9223372036854775808 ≤ n ∧ n ≤ 9223372036854775807) : ∃ x : Int64, n = x.toInt := ⟨Int64.ofInt n, by
  rw [Int64.toInt_ofInt_of_le (by simpa using h.1) (by omega)]⟩
theorem u64_of {n : Int} (h : 0 ≤ n ∧ n ≤ 18446744073709551615) : ∃ x : UInt64, n = (x.toNat : Int) := ⟨UInt64.ofNat n.toNat, by
  rw [UInt64.toNat_ofNat']
  omega⟩
section
variable {H : Type} {enc : TypeId × Value → H}
theorem bytes_of {w : World} {base : Nat} {sp : Nat → Bool} {held : Bool} {fuel : Nat} {cs : List Value} {x : DataW H × List MemPlace} {t : TypeId} {n : Nat} (hT : Try.prog.underlying t = some (.array n 5)) (hc : Try.prog.cellsOf t = n) (h : DataW.trod enc Try.prog w base sp held fuel t cs = some x) :
    ∃ l : List UInt8, l.length = n ∧ cs = l.map bc := by
  obtain ⟨xs, m, rfl, rfl, hl, hx, hi⟩ := DataW.trod_array hT h
  have hl : cs.length = n := hl.trans hc
  have hx : xs.length = n := hx
  have hget : ∀ i, i < n → ∃ u : UInt8, cs[i]? = some (bc u) := fun i h32 => by
    have hq := hi i h32
    rw [show Try.prog.cellsOf 5 = 1 by kernel_rfl, Nat.mul_one, List.getElem?_eq_getElem (by omega)] at hq
    obtain ⟨n, hn, _, hw⟩ := DataW.trod_int Try.underlying5 hq
    have hb := bounds_u8 hw
    refine ⟨UInt8.ofNat n.toNat, ?_⟩
    rw [take1 hn]
    unfold bc
    have : ((UInt8.ofNat n.toNat).toNat : Int) = n := by
      rw [UInt8.toNat_ofNat']
      omega
    rw [this]
  let f : Value → UInt8 := fun v => match v with
    | .int _ n => UInt8.ofNat n.toNat
    | _ => 0
  refine ⟨cs.map f, by simp [hl], ?_⟩
  apply List.ext_getElem?
  intro i
  simp only [List.map_map, List.getElem?_map]
  by_cases h32 : i < n
  · obtain ⟨n, hn⟩ := hget i h32
    rw [hn]
    have : bc (f (bc n)) = bc n := by
      show bc (UInt8.ofNat ((n.toNat : Int).toNat)) = bc n
      rw [Int.toNat_natCast, UInt8.ofNat_toNat]
    simp [this]
  · rw [List.getElem?_eq_none (by omega)]
    rfl
theorem key_reads : Reads enc Try.prog 68 kc (fun _ _ => True) := fun w base sp held fuel cs x h _ => by
  obtain ⟨l, hl, rfl⟩ := bytes_of Try.underlying68 (by kernel_rfl) h
  exact ⟨⟨l, hl⟩, rfl, trivial⟩
theorem hash_reads : Reads enc Try.prog 50 kc (fun _ _ => True) := fun w base sp held fuel cs x h _ => by
  obtain ⟨l, hl, rfl⟩ := bytes_of Try.underlying50 (by kernel_rfl) h
  exact ⟨⟨l, hl⟩, rfl, trivial⟩
theorem sig_reads : Reads enc Try.prog 111 sgc (fun _ _ => True) := fun w base sp held fuel cs x h _ => by
  obtain ⟨l, hl, rfl⟩ := bytes_of Try.underlying111 (by kernel_rfl) h
  exact ⟨⟨l, hl⟩, rfl, trivial⟩
theorem u8_reads : Reads enc Try.prog 5 uc (fun _ _ => True) := fun w base sp held fuel cs x h hfit => by
  obtain ⟨n, rfl, _, hw⟩ := DataW.trod_int Try.underlying5 h
  obtain ⟨y, rfl⟩ := u8_of (bounds_u8 hw)
  exact ⟨y, rfl, trivial⟩
def uv (x : UInt64) : Array Value := #[u64v x]
theorem u64_reads : Reads enc Try.prog 25 uv (fun _ _ => True) := fun w base sp held fuel cs x h hfit => by
  obtain ⟨n, rfl, _, hw⟩ := DataW.trod_int Try.underlying25 h
  obtain ⟨y, rfl⟩ := u64_of (bounds_u64 hw)
  exact ⟨y, rfl, trivial⟩
def iv (x : Int64) : Array Value := #[.int .i64 x.toInt]
theorem int_reads : Reads enc Try.prog 3 iv (fun _ _ => True) := fun w base sp held fuel cs x h hfit => by
  obtain ⟨n, rfl, _, hw⟩ := DataW.trod_int Try.underlying3 h
  obtain ⟨y, rfl⟩ := i64_of (bounds_i64 hw)
  exact ⟨y, rfl, trivial⟩
theorem errno_reads : Reads enc Try.prog 62 iv (fun _ _ => True) := fun w base sp held fuel cs x h hfit => by
  obtain ⟨n, rfl, _, hw⟩ := DataW.trod_int Try.underlying62 h
  obtain ⟨y, rfl⟩ := i64_of (bounds_i64 hw)
  exact ⟨y, rfl, trivial⟩
def bv (x : Bool) : Array Value := #[.bool x]
theorem bool_reads : Reads enc Try.prog 4 bv (fun _ _ => True) := fun w base sp held fuel cs x h hfit => by
  obtain ⟨b, rfl, _⟩ := DataW.trod_bool Try.underlying4 h
  exact ⟨b, rfl, trivial⟩
theorem field_read {α : Type} {T t : TypeId} {fs : Array Field} {f : α → Array Value} {Ok : World → α → Prop} (j off n : Nat) (hT : Try.prog.underlying T = some (.struct fs)) (hfl : (fs[j]?).map (fun f => (f.type, f.offset)) = some (t, off)) (hn : Try.prog.cellsOf t = n) (hR : Reads enc Try.prog t f Ok)
    {w : World} {base : Nat} {sp : Nat → Bool} {held : Bool} {fuel : Nat} {cs : List Value} {x : DataW H × List MemPlace} (h : DataW.trod enc Try.prog w base sp held fuel T cs = some x) (hfit : fits Try.prog T x.1) : ∃ a : α, (cs.drop off).take n = (f a).toList ∧ Ok w a := by
  obtain ⟨xs, m, rfl, rfl, hl, hx, hi⟩ := DataW.trod_struct hT h
  cases hf : fs[j]? with
  | none => rw [hf] at hfl; cases hfl
  | some fl =>
    rw [hf] at hfl
    simp only [Option.map_some, Option.some.injEq, Prod.mk.injEq] at hfl
    obtain ⟨rfl, rfl⟩ := hfl
    have hj : j < xs.length := by rw [hx]; exact (Array.getElem?_eq_some_iff.1 hf).1
    have h1 := hi j fl hf
    rw [List.getElem?_eq_getElem hj, hn] at h1
    have h2 : fits Try.prog fl.type (xs[j].1) := fits_field (i := j) (d := xs[j].1) (fl := fl) hT hfit hf (by rw [List.getElem?_map, List.getElem?_eq_getElem hj]; rfl)
    obtain ⟨a, ha, hok⟩ := hR _ _ _ _ _ _ _ h1 h2
    exact ⟨a, by rw [← ha], hok⟩
theorem cut_at (cs : List Value) (off n : Nat) : cs.drop off = (cs.drop off).take n ++ cs.drop (off + n) := by rw [← List.drop_drop, List.take_append_drop]
theorem end_at {cs : List Value} {n : Nat} (h : cs.length = n) : cs.drop n = [] := List.drop_of_length_le (by omega)
theorem len_of {T : TypeId} {fs : Array Field} {n : Nat} (hT : Try.prog.underlying T = some (.struct fs)) (hn : Try.prog.cellsOf T = n) {w : World} {base : Nat} {sp : Nat → Bool} {held : Bool} {fuel : Nat} {cs : List Value} {x : DataW H × List MemPlace} (h : DataW.trod enc Try.prog w base sp held fuel T cs = some x) : cs.length = n := by
  obtain ⟨xs, m, rfl, rfl, hl, _⟩ := DataW.trod_struct hT h
  exact hl.trans hn
abbrev BysOk : World → Sl UInt8 → Prop := SlOk uc 1 1 (fun _ _ => True)
theorem u8s_reads : Reads enc Try.prog 45 (slv (α := UInt8)) BysOk :=
  slice_reads Try.underlying45 (by kernel_rfl) (by kernel_rfl) (by omega) u8_reads 0
theorem keys_reads : Reads enc Try.prog 48 (slv (α := Key)) (SlOk kc 32 32 (fun _ _ => True)) :=
  slice_reads Try.underlying48 (by kernel_rfl) (by kernel_rfl) (by omega) key_reads key0
theorem hashes_reads : Reads enc Try.prog 23 (slv (α := Key)) (SlOk kc 32 32 (fun _ _ => True)) :=
  slice_reads Try.underlying23 (by kernel_rfl) (by kernel_rfl) (by omega) hash_reads key0
def sig0 : Sg := ⟨List.replicate 64 0, rfl⟩
theorem sigs_reads : Reads enc Try.prog 24 (slv (α := Sg)) (SlOk sgc 64 64 (fun _ _ => True)) :=
  slice_reads Try.underlying24 (by kernel_rfl) (by kernel_rfl) (by omega) sig_reads sig0
def InOk (w : World) (x : InR) : Prop := BysOk w x.a ∧ BysOk w x.d
def LoOk (w : World) (x : LoR) : Prop := BysOk w x.w ∧ BysOk w x.r
theorem in_reads : Reads enc Try.prog 124 inr InOk := fun w base sp held fuel cs x h hfit => by
  obtain ⟨a0, h0, ka0⟩ := field_read 0 0 1 Try.underlying124 rfl (by kernel_rfl) u8_reads h hfit
  obtain ⟨a1, h1, ka1⟩ := field_read 1 1 1 Try.underlying124 rfl (by kernel_rfl) u8s_reads h hfit
  obtain ⟨a2, h2, ka2⟩ := field_read 2 2 1 Try.underlying124 rfl (by kernel_rfl) u8s_reads h hfit
  have hl := len_of (n := 3) Try.underlying124 (by kernel_rfl) h
  refine ⟨⟨a0, a1, a2⟩, ?_, ka1, ka2⟩
  apply Array.toList_inj.1
  show cs = _
  have e := cut_at cs 0 1
  rw [cut_at cs (0 + 1) 1, cut_at cs (0 + 1 + 1) 1, h0, h1, h2, end_at (n := 0 + 1 + 1 + 1) hl] at e
  exact e
theorem ins_reads : Reads enc Try.prog 51 (slv (α := InR)) (SlOk inr 3 56 InOk) :=
  slice_reads Try.underlying51 (by kernel_rfl) (by kernel_rfl) (by omega) in_reads ⟨0, ⟨none, [], 0⟩, ⟨none, [], 0⟩⟩
theorem lo_reads : Reads enc Try.prog 126 lor LoOk := fun w base sp held fuel cs x h hfit => by
  obtain ⟨a0, h0, ka0⟩ := field_read 0 0 32 Try.underlying126 rfl (by kernel_rfl) key_reads h hfit
  obtain ⟨a1, h1, ka1⟩ := field_read 1 32 1 Try.underlying126 rfl (by kernel_rfl) u8s_reads h hfit
  obtain ⟨a2, h2, ka2⟩ := field_read 2 33 1 Try.underlying126 rfl (by kernel_rfl) u8s_reads h hfit
  have hl := len_of (n := 34) Try.underlying126 (by kernel_rfl) h
  refine ⟨⟨a0, a1, a2⟩, ?_, ka1, ka2⟩
  apply Array.toList_inj.1
  show cs = _
  have e := cut_at cs 0 32
  rw [cut_at cs (0 + 32) 1, cut_at cs (0 + 32 + 1) 1, h0, h1, h2, end_at (n := 0 + 32 + 1 + 1) hl] at e
  refine e.trans ?_
  simp [lor, kx, slv, Sl.v]
theorem los_reads : Reads enc Try.prog 52 (slv (α := LoR)) (SlOk lor 34 80 LoOk) :=
  slice_reads Try.underlying52 (by kernel_rfl) (by kernel_rfl) (by omega) lo_reads ⟨key0, ⟨none, [], 0⟩, ⟨none, [], 0⟩⟩
theorem role_reads : Reads enc Try.prog 121 rcr (fun _ _ => True) := fun w base sp held fuel cs x h hfit => by
  obtain ⟨a0, h0, ka0⟩ := field_read 0 0 32 Try.underlying121 rfl (by kernel_rfl) key_reads h hfit
  obtain ⟨a1, h1, ka1⟩ := field_read 1 32 1 Try.underlying121 rfl (by kernel_rfl) bool_reads h hfit
  obtain ⟨a2, h2, ka2⟩ := field_read 2 33 1 Try.underlying121 rfl (by kernel_rfl) bool_reads h hfit
  have hl := len_of (n := 34) Try.underlying121 (by kernel_rfl) h
  refine ⟨⟨a0, a1, a2⟩, ?_, trivial⟩
  apply Array.toList_inj.1
  show cs = _
  have e := cut_at cs 0 32
  rw [cut_at cs (0 + 32) 1, cut_at cs (0 + 32 + 1) 1, h0, h1, h2, end_at (n := 0 + 32 + 1 + 1) hl] at e
  refine e.trans ?_
  simp [rcr, rc, kx, bv]
theorem roles_reads : Reads enc Try.prog 57 (slv (α := Role)) (SlOk rcr 34 34 (fun _ _ => True)) :=
  slice_reads Try.underlying57 (by kernel_rfl) (by kernel_rfl) (by omega) role_reads ⟨key0, false, false⟩
def hdr3 (x : UInt8 × UInt8 × UInt8) : Array Value := #[u8v x.1, u8v x.2.1, u8v x.2.2]
theorem head_reads : Reads enc Try.prog 47 hdr3 (fun _ _ => True) := fun w base sp held fuel cs x h hfit => by
  obtain ⟨a0, h0, ka0⟩ := field_read 0 0 1 Try.underlying47 rfl (by kernel_rfl) u8_reads h hfit
  obtain ⟨a1, h1, ka1⟩ := field_read 1 1 1 Try.underlying47 rfl (by kernel_rfl) u8_reads h hfit
  obtain ⟨a2, h2, ka2⟩ := field_read 2 2 1 Try.underlying47 rfl (by kernel_rfl) u8_reads h hfit
  have hl := len_of (n := 3) Try.underlying47 (by kernel_rfl) h
  refine ⟨⟨a0, a1, a2⟩, ?_, trivial⟩
  apply Array.toList_inj.1
  show cs = _
  have e := cut_at cs 0 1
  rw [cut_at cs (0 + 1) 1, cut_at cs (0 + 1 + 1) 1, h0, h1, h2, end_at (n := 0 + 1 + 1 + 1) hl] at e
  exact e
def MsgOk (w : World) (x : RdR) : Prop := SlOk kc 32 32 (fun _ _ => True) w x.ks ∧ SlOk inr 3 56 InOk w x.ins ∧ SlOk lor 34 80 LoOk w x.lks
def msr (x : RdR) : Array Value := mx ((rpre x).drop 2) x.rc ((rpost x).take 2)
theorem msg_reads : Reads enc Try.prog 54 msr MsgOk := fun w base sp held fuel cs x h hfit => by
  obtain ⟨a0, h0, ka0⟩ := field_read 0 0 1 Try.underlying54 rfl (by kernel_rfl) bool_reads h hfit
  obtain ⟨a1, h1, ka1⟩ := field_read 1 1 3 Try.underlying54 rfl (by kernel_rfl) head_reads h hfit
  obtain ⟨a2, h2, ka2⟩ := field_read 2 4 1 Try.underlying54 rfl (by kernel_rfl) keys_reads h hfit
  obtain ⟨a3, h3, ka3⟩ := field_read 3 5 32 Try.underlying54 rfl (by kernel_rfl) hash_reads h hfit
  obtain ⟨a4, h4, ka4⟩ := field_read 4 37 1 Try.underlying54 rfl (by kernel_rfl) ins_reads h hfit
  obtain ⟨a5, h5, ka5⟩ := field_read 5 38 1 Try.underlying54 rfl (by kernel_rfl) los_reads h hfit
  have hl := len_of (n := 39) Try.underlying54 (by kernel_rfl) h
  refine ⟨{ rd0 with v0 := a0, h0 := a1.1, h1 := a1.2.1, h2 := a1.2.2, ks := a2, rc := a3, ins := a4, lks := a5 }, ?_, ka2, ka4, ka5⟩
  apply Array.toList_inj.1
  show cs = _
  have e := cut_at cs 0 1
  rw [cut_at cs (0 + 1) 3, cut_at cs (0 + 1 + 3) 1, cut_at cs (0 + 1 + 3 + 1) 32, cut_at cs (0 + 1 + 3 + 1 + 32) 1, cut_at cs (0 + 1 + 3 + 1 + 32 + 1) 1, h0, h1, h2, h3, h4, h5, end_at (n := 0 + 1 + 3 + 1 + 32 + 1 + 1) hl] at e
  refine e.trans ?_
  simp [msr, mx, rpre, rpost, bv, hdr3, slv, Sl.v, kc]
def TxOk (w : World) (x : RdR) : Prop := SlOk sgc 64 64 (fun _ _ => True) w x.sg ∧ MsgOk w x
theorem tx_reads : Reads enc Try.prog 56 txr TxOk := fun w base sp held fuel cs x h hfit => by
  obtain ⟨a0, h0, ka0⟩ := field_read 0 0 1 Try.underlying56 rfl (by kernel_rfl) sigs_reads h hfit
  obtain ⟨a1, h1, ka1⟩ := field_read 1 1 39 Try.underlying56 rfl (by kernel_rfl) msg_reads h hfit
  have hl := len_of (n := 40) Try.underlying56 (by kernel_rfl) h
  refine ⟨{ a1 with sg := a0 }, ?_, ka0, ka1⟩
  apply Array.toList_inj.1
  show cs = _
  have e := cut_at cs 0 1
  rw [cut_at cs (0 + 1) 39, h0, h1, end_at (n := 0 + 1 + 39) hl] at e
  refine e.trans ?_
  simp [txr, msr, mx, rpre, rpost, slv, Sl.v]
def bud (x : UInt64 × UInt64 × Int64) : Array Value := #[u64v x.1, u64v x.2.1, .int .i64 x.2.2.toInt]
theorem bud_reads : Reads enc Try.prog 59 bud (fun _ _ => True) := fun w base sp held fuel cs x h hfit => by
  obtain ⟨a0, h0, ka0⟩ := field_read 0 0 1 Try.underlying59 rfl (by kernel_rfl) u64_reads h hfit
  obtain ⟨a1, h1, ka1⟩ := field_read 1 1 1 Try.underlying59 rfl (by kernel_rfl) u64_reads h hfit
  obtain ⟨a2, h2, ka2⟩ := field_read 2 2 1 Try.underlying59 rfl (by kernel_rfl) int_reads h hfit
  have hl := len_of (n := 3) Try.underlying59 (by kernel_rfl) h
  refine ⟨⟨a0, a1, a2⟩, ?_, trivial⟩
  apply Array.toList_inj.1
  show cs = _
  have e := cut_at cs 0 1
  rw [cut_at cs (0 + 1) 1, cut_at cs (0 + 1 + 1) 1, h0, h1, h2, end_at (n := 0 + 1 + 1 + 1) hl] at e
  exact e
def RdOk (w : World) (x : RdR) : Prop := BysOk w x.b ∧ TxOk w x ∧ SlOk rcr 34 34 (fun _ _ => True) w x.ro
theorem rd_reads : Reads enc Try.prog 61 rdr RdOk := fun w base sp held fuel cs x h hfit => by
  obtain ⟨a0, h0, ka0⟩ := field_read 0 0 1 Try.underlying61 rfl (by kernel_rfl) u8s_reads h hfit
  obtain ⟨a1, h1, ka1⟩ := field_read 1 1 40 Try.underlying61 rfl (by kernel_rfl) tx_reads h hfit
  obtain ⟨a2, h2, ka2⟩ := field_read 2 41 1 Try.underlying61 rfl (by kernel_rfl) roles_reads h hfit
  obtain ⟨a3, h3, ka3⟩ := field_read 3 42 3 Try.underlying61 rfl (by kernel_rfl) bud_reads h hfit
  obtain ⟨a4, h4, ka4⟩ := field_read 4 45 1 Try.underlying61 rfl (by kernel_rfl) u64_reads h hfit
  obtain ⟨a5, h5, ka5⟩ := field_read 5 46 1 Try.underlying61 rfl (by kernel_rfl) u64_reads h hfit
  obtain ⟨a6, h6, ka6⟩ := field_read 6 47 1 Try.underlying61 rfl (by kernel_rfl) u64_reads h hfit
  have hl := len_of (n := 48) Try.underlying61 (by kernel_rfl) h
  refine ⟨{ a1 with b := a0, ro := a2, un := a3.1, pr := a3.2.1, bad := a3.2.2, fee := a4, cost := a5, prio := a6 }, ?_, ka0, ka1, ka2⟩
  apply Array.toList_inj.1
  show cs = _
  have e := cut_at cs 0 1
  rw [cut_at cs (0 + 1) 40, cut_at cs (0 + 1 + 40) 1, cut_at cs (0 + 1 + 40 + 1) 3, cut_at cs (0 + 1 + 40 + 1 + 3) 1, cut_at cs (0 + 1 + 40 + 1 + 3 + 1) 1, cut_at cs (0 + 1 + 40 + 1 + 3 + 1 + 1) 1, h0, h1, h2, h3, h4, h5, h6, end_at (n := 0 + 1 + 40 + 1 + 3 + 1 + 1 + 1) hl] at e
  refine e.trans ?_
  simp [rdr, txr, mx, rpre, rpost, slv, Sl.v, bud, uv]
theorem acct_reads : Reads enc Try.prog 153 av (fun _ _ => True) := fun w base sp held fuel cs x h hfit => by
  obtain ⟨a0, h0, ka0⟩ := field_read 0 0 1 Try.underlying153 rfl (by kernel_rfl) u64_reads h hfit
  obtain ⟨a1, h1, ka1⟩ := field_read 1 1 32 Try.underlying153 rfl (by kernel_rfl) key_reads h hfit
  obtain ⟨a2, h2, ka2⟩ := field_read 2 33 1 Try.underlying153 rfl (by kernel_rfl) u64_reads h hfit
  have hl := len_of (n := 34) Try.underlying153 (by kernel_rfl) h
  refine ⟨⟨a0, a1, a2⟩, ?_, trivial⟩
  apply Array.toList_inj.1
  show cs = _
  have e := cut_at cs 0 1
  rw [cut_at cs (0 + 1) 32, cut_at cs (0 + 1 + 32) 1, h0, h1, h2, end_at (n := 0 + 1 + 32 + 1) hl] at e
  refine e.trans ?_
  simp [av, uv, cu, u64v]
theorem hold_reads : Reads enc Try.prog 155 hd (fun _ _ => True) := fun w base sp held fuel cs x h hfit => by
  obtain ⟨a0, h0, ka0⟩ := field_read 0 0 32 Try.underlying155 rfl (by kernel_rfl) key_reads h hfit
  obtain ⟨a1, h1, ka1⟩ := field_read 1 32 34 Try.underlying155 rfl (by kernel_rfl) acct_reads h hfit
  have hl := len_of (n := 66) Try.underlying155 (by kernel_rfl) h
  refine ⟨⟨a0, a1⟩, ?_, trivial⟩
  apply Array.toList_inj.1
  show cs = _
  have e := cut_at cs 0 32
  rw [cut_at cs (0 + 32) 34, h0, h1, end_at (n := 0 + 32 + 34) hl] at e
  refine e.trans ?_
  simp [hd]
theorem holds_reads : Reads enc Try.prog 22 (slv (α := Hold)) (SlOk hd 66 80 (fun _ _ => True)) :=
  slice_reads Try.underlying22 (by kernel_rfl) (by kernel_rfl) (by omega) hold_reads ⟨key0, acct0⟩
def OcOk (w : World) (x : OcR) : Prop := SlOk hd 66 80 (fun _ _ => True) w x.ch
theorem out_reads : Reads enc Try.prog 64 ocr OcOk := fun w base sp held fuel cs x h hfit => by
  obtain ⟨a0, h0, ka0⟩ := field_read 0 0 1 Try.underlying64 rfl (by kernel_rfl) errno_reads h hfit
  obtain ⟨a1, h1, ka1⟩ := field_read 1 1 1 Try.underlying64 rfl (by kernel_rfl) int_reads h hfit
  obtain ⟨a2, h2, ka2⟩ := field_read 2 2 1 Try.underlying64 rfl (by kernel_rfl) u64_reads h hfit
  obtain ⟨a3, h3, ka3⟩ := field_read 3 3 1 Try.underlying64 rfl (by kernel_rfl) u64_reads h hfit
  obtain ⟨a4, h4, ka4⟩ := field_read 4 4 1 Try.underlying64 rfl (by kernel_rfl) u64_reads h hfit
  obtain ⟨a5, h5, ka5⟩ := field_read 5 5 1 Try.underlying64 rfl (by kernel_rfl) holds_reads h hfit
  have hl := len_of (n := 6) Try.underlying64 (by kernel_rfl) h
  refine ⟨⟨a0, a1, a2, a3, a4, a5⟩, ?_, ka5⟩
  apply Array.toList_inj.1
  show cs = _
  have e := cut_at cs 0 1
  rw [cut_at cs (0 + 1) 1, cut_at cs (0 + 1 + 1) 1, cut_at cs (0 + 1 + 1 + 1) 1, cut_at cs (0 + 1 + 1 + 1 + 1) 1, cut_at cs (0 + 1 + 1 + 1 + 1 + 1) 1, h0, h1, h2, h3, h4, h5, end_at (n := 0 + 1 + 1 + 1 + 1 + 1 + 1) hl] at e
  exact e
def TdOk (w : World) (x : TdR) : Prop := RdOk w x.r ∧ OcOk w x.o
theorem tried_reads : Reads enc Try.prog 66 tdr TdOk := fun w base sp held fuel cs x h hfit => by
  obtain ⟨a0, h0, ka0⟩ := field_read 0 0 48 Try.underlying66 rfl (by kernel_rfl) rd_reads h hfit
  obtain ⟨a1, h1, ka1⟩ := field_read 1 48 6 Try.underlying66 rfl (by kernel_rfl) out_reads h hfit
  have hl := len_of (n := 54) Try.underlying66 (by kernel_rfl) h
  refine ⟨⟨a0, a1⟩, ?_, ka0, ka1⟩
  apply Array.toList_inj.1
  show cs = _
  have e := cut_at cs 0 48
  rw [cut_at cs (0 + 48) 6, h0, h1, end_at (n := 0 + 48 + 6) hl] at e
  refine e.trans ?_
  simp [tdr, rdr, mx, ocr]
end
end Go.Proofs.Ytofpnmoeimjnnaa
namespace Go.Proofs.Ytofpnmoeimjnnaa
set_option linter.unusedVariables false
structure QIs (R : List Key) (next : Nat) (L : List Key) : Prop where
  size : R.length = 150
  nlt : next < 150
  len : L.length ≤ 150
  at' : ∀ i, i < L.length → R[(next + 299 - i) % 150]? = L[i]?
theorem QIs.zero (R : List Key) (h : R.length = 150) : QIs R 0 [] := ⟨h, by omega, by simp, fun i hi => by simp at hi⟩
theorem QIs.push {R : List Key} {next : Nat} {L : List Key} (h : QIs R next L) (k : Key) : QIs (R.set next k) ((next + 1) % 150) ((k :: L).take 150) where
  size := by rw [List.length_set, h.size]
  nlt := Nat.mod_lt _ (by omega)
  len := by rw [List.length_take]; omega
  at' i hi := by
    have hn := h.nlt
    have hs := h.size
    rw [List.length_take, List.length_cons] at hi
    rw [List.getElem?_take_of_lt (by omega)]
    cases i with
    | zero =>
      have e : ((next + 1) % 150 + 299 - 0) % 150 = next := by omega
      rw [e, List.getElem?_set_self (by omega)]
      rfl
    | succ i =>
      have e : ((next + 1) % 150 + 299 - (i + 1)) % 150 = (next + 299 - i) % 150 := by omega
      rw [e, List.getElem?_set_ne (by omega), h.at' i (by omega), List.getElem?_cons_succ]
theorem QIs.many {R : List Key} {next : Nat} {L : List Key} (h : QIs R next L) (k : Key) : ((k :: L).take 150).length = if L.length = 150 then 150 else L.length + 1 := by
  have := h.len
  rw [List.length_take, List.length_cons]
  split <;> omega
end Go.Proofs.Ytofpnmoeimjnnaa
namespace Go.Proofs.Ytofpnmoeimjnnaa
set_option linter.unusedVariables false
def sat (a b : UInt64) : UInt64 := if a.toNat + b.toNat < 18446744073709551616 then a + b else 18446744073709551615
theorem sat_toNat (a b : UInt64) : (sat a b).toNat = min (a.toNat + b.toNat) 18446744073709551615 := by
  unfold sat
  have ha := a.toNat_lt
  have hb := b.toNat_lt
  split
  · rename_i h
    rw [UInt64.toNat_add, Nat.mod_eq_of_lt h]
    omega
  · show (18446744073709551615 : Nat) = _
    omega
def ofK (m : List (Key × UInt64)) (k : Key) : UInt64 := (lkp k m).getD 0
theorem ofK_put (m : List (Key × UInt64)) (k j : Key) (v : UInt64) : ofK (put k v m) j = if j = k then v else ofK m j := by
  unfold ofK
  rw [lkp_put]
  split <;> rfl
def putAll (f : Key → UInt64) (ws : List Key) (m : List (Key × UInt64)) : List (Key × UInt64) := ws.foldl (fun m k => put k (f k) m) m
theorem putAll_snoc (f : Key → UInt64) (ws : List Key) (k : Key) (m : List (Key × UInt64)) : putAll f (ws ++ [k]) m = put k (f k) (putAll f ws m) := by simp [putAll]
theorem ofK_putAll (f : Key → UInt64) (j : Key) : ∀ (ws : List Key) (m : List (Key × UInt64)), ofK (putAll f ws m) j = if j ∈ ws then f j else ofK m j
  | [], m => by simp [putAll]
  | k :: r, m => by
    show ofK (putAll f r (put k (f k) m)) j = _
    rw [ofK_putAll f j r, ofK_put]
    by_cases h1 : j ∈ r
    · simp [h1]
    · by_cases h2 : j = k
      · subst h2; simp
      · simp [h1, h2]
theorem putAll_nodup (f : Key → UInt64) : ∀ (ws : List Key) {m : List (Key × UInt64)}, (m.map Prod.fst).Nodup → ((putAll f ws m).map Prod.fst).Nodup
  | [], m, h => h
  | k :: r, m, h => putAll_nodup f r (nodup_put h k _)
theorem lkp_putAll (f : Key → UInt64) (j : Key) : ∀ (ws : List Key) (m : List (Key × UInt64)), lkp j (putAll f ws m) = if j ∈ ws then some (f j) else lkp j m
  | [], m => by simp [putAll]
  | k :: r, m => by
    show lkp j (putAll f r (put k (f k) m)) = _
    rw [lkp_putAll f j r, lkp_put]
    by_cases h1 : j ∈ r
    · simp [h1]
    · by_cases h2 : j = k
      · subst h2; simp
      · simp [h1, h2]
def putL (l : List (Key × UInt64)) (m : List (Key × UInt64)) : List (Key × UInt64) := l.foldl (fun m p => put p.1 p.2 m) m
theorem lkp_putL (j : Key) : ∀ (l : List (Key × UInt64)) (m : List (Key × UInt64)), (l.map Prod.fst).Nodup → lkp j (putL l m) = match lkp j l with
    | some v => some v
    | none => lkp j m
  | [], m, _ => rfl
  | p :: r, m, h => by
    simp only [List.map_cons, List.nodup_cons] at h
    show lkp j (putL r (put p.1 p.2 m)) = _
    rw [lkp_putL j r _ h.2, lkp_put]
    by_cases h1 : p.1 = j
    · subst h1
      rw [(lkp_none_iff _ _).2 h.1, if_pos rfl, lkp, if_pos rfl]
    · rw [if_neg (Ne.symm h1), lkp, if_neg h1]
theorem lkp_perm {l m : List (Key × UInt64)} (hp : l.Perm m) (hn : (m.map Prod.fst).Nodup) (j : Key) : lkp j l = lkp j m := by
  have hl : (l.map Prod.fst).Nodup := (hp.map Prod.fst).nodup_iff.2 hn
  cases h : lkp j m with
  | some v => exact lkp_of_mem hl (hp.mem_iff.2 (lkp_mem h))
  | none =>
    rw [lkp_none_iff] at h ⊢
    exact fun hm => h ((hp.map Prod.fst).mem_iff.1 hm)
theorem ofK_added {now l : List (Key × UInt64)} {f : Key → UInt64} {ws : List Key} (hnow : now = putAll f ws []) (hp : l.Perm now) (m : List (Key × UInt64)) (j : Key) : ofK (putL l m) j = if j ∈ ws then f j else ofK m j := by
  subst hnow
  have hn : ((putAll f ws []).map Prod.fst).Nodup := putAll_nodup f ws (by simp)
  unfold ofK
  rw [lkp_putL j l m ((hp.map Prod.fst).nodup_iff.2 hn), lkp_perm hp hn, lkp_putAll]
  by_cases h : j ∈ ws
  · simp [h]
  · simp [h, lkp]
structure Lim where
  b : UInt64
  a : UInt64
  s : UInt64
def would (L : Lim) (b s : UInt64) (f : Key → UInt64) (c : UInt64) (ws : List Key) (sp : UInt64) : Nat :=
  if L.b < sat b c then 24 else if ws.any (fun k => decide (L.a < sat (f k) c)) then 25 else if L.s < sat s sp then 26 else 0
theorem would_cases (L : Lim) (b s : UInt64) (f : Key → UInt64) (c : UInt64) (ws : List Key) (sp : UInt64) :
    (would L b s f c ws sp = 24 ∧ L.b < sat b c) ∨ (would L b s f c ws sp = 25 ∧ ∃ k ∈ ws, L.a < sat (f k) c) ∨ (would L b s f c ws sp = 26 ∧ L.s < sat s sp) ∨
    (would L b s f c ws sp = 0 ∧ ¬ L.b < sat b c ∧ (∀ k ∈ ws, ¬ L.a < sat (f k) c) ∧ ¬ L.s < sat s sp) := by
  unfold would
  by_cases h1 : L.b < sat b c
  · exact .inl ⟨if_pos h1, h1⟩
  · rw [if_neg h1]
    by_cases h2 : ws.any (fun k => decide (L.a < sat (f k) c)) = true
    · rw [if_pos h2]
      refine .inr (.inl ⟨rfl, ?_⟩)
      obtain ⟨k, hk, h3⟩ := List.any_eq_true.1 h2
      exact ⟨k, hk, of_decide_eq_true h3⟩
    · rw [if_neg h2]
      have h3 : ∀ k ∈ ws, ¬ L.a < sat (f k) c := fun k hk hlt => h2 (List.any_eq_true.2 ⟨k, hk, decide_eq_true hlt⟩)
      by_cases h4 : L.s < sat s sp
      · exact .inr (.inr (.inl ⟨if_pos h4, h4⟩))
      · exact .inr (.inr (.inr ⟨if_neg h4, h1, h3, h4⟩))
def over (x c m : UInt64) : Bool := decide (x + c < c) || decide (m < x + c)
theorem over_of {x c m : UInt64} (h : m < sat x c) : over x c m = true := by
  unfold over
  rw [Bool.or_eq_true, decide_eq_true_iff, decide_eq_true_iff]
  rw [UInt64.lt_iff_toNat_lt] at h ⊢
  rw [UInt64.lt_iff_toNat_lt, UInt64.toNat_add]
  rw [sat_toNat] at h
  have hx := x.toNat_lt
  have hc := c.toNat_lt
  omega
theorem over_not {x c m : UInt64} (h : ¬ m < sat x c) (hr : ¬ x + c < c) : over x c m = false := by
  unfold over
  rw [Bool.or_eq_false_iff, decide_eq_false_iff_not, decide_eq_false_iff_not]
  refine ⟨hr, ?_⟩
  rw [UInt64.lt_iff_toNat_lt] at h hr ⊢
  rw [UInt64.toNat_add] at hr ⊢
  rw [sat_toNat] at h
  have hx := x.toNat_lt
  have hc := c.toNat_lt
  omega
theorem sat_eq {x c : UInt64} (hr : ¬ x + c < c) : sat x c = x + c := by
  rw [UInt64.lt_iff_toNat_lt, UInt64.toNat_add] at hr
  apply UInt64.toNat_inj.1
  rw [sat_toNat, UInt64.toNat_add]
  have hx := x.toNat_lt
  have hc := c.toNat_lt
  omega
theorem round_sym {x c : UInt64} : (x + c < x) ↔ (x + c < c) := by
  rw [UInt64.lt_iff_toNat_lt, UInt64.lt_iff_toNat_lt, UInt64.toNat_add]
  have hx := x.toNat_lt
  have hc := c.toNat_lt
  omega
end Go.Proofs.Ytofpnmoeimjnnaa
namespace Go.Proofs.Ytofpnmoeimjnnaa
set_option linter.unusedVariables false
section
variable {P : Program} {ops : Array Oper} {Q : Exit → Act → World → Prop} {T0 : Nat → Prop} {w0 : World} {κ : Nat → Nat} {υ : Nat → List Tmp}
end
end Go.Proofs.Ytofpnmoeimjnnaa
namespace Go.Proofs.Ytofpnmoeimjnnaa
set_option linter.unusedVariables false
section
variable {P : Program} {ops : Array Oper} {Q : Exit → Act → World → Prop} {T0 : Nat → Prop} {w0 : World} {κ : Nat → Nat} {υ : Nat → List Tmp}
theorem TG.soundE (hsel : ∀ (j : Nat) (p : Oper) cs b, ops[j]? = some p → p.op ≠ .select cs b)
    (hback : ∀ i o, ops[i]? = some o → ∀ e ∈ o.after, Region.binds .any e = true → e.on < i) {rest : List Nat} (hrest : pairsOk ops κ rest = true) :
    ∀ (fuel : Nat) (l : List Nat) (listed : Array Bool) (a : Act) (B : Bx) (K : Land) (w : World), l.length = fuel → (l ++ rest).Nodup → (∀ i ∈ l ++ rest, i < ops.size) → gPairsOk ops κ υ l = true →
      (∀ x ∈ l, ∀ y ∈ rest, x ≠ y ∧ (behindB ops x).testBit y = true) → Listing ops listed (l ++ rest) → Closed K →
      RG T0 w0 B K w → TG P ops (fun _ a w => TE P ops Q κ rest a w) T0 w0 κ υ l a B K → wpAny P .any ops Q (rest.length + fuel) listed a w := by
  intro fuel
  induction fuel with
  | zero =>
    intro l listed a B K w hl hn hlt hp hb hL hK hR h
    obtain rfl : l = [] := List.length_eq_zero_iff.1 hl
    have hte : TE P ops Q κ rest a w := by
      cases h with | nil h => exact h w hR
    exact TE.sound hsel hback _ rest listed a w rfl (by simpa using hn) (by simpa using hlt) hrest (by simpa using hL) hte
  | succ fuel ih =>
    intro l listed a B K w hl hn hlt hp hb hL hK hR h
    refine ⟨fun hnil => ?_, fun i hi => ?_⟩
    · exfalso
      match l, hl with
      | i :: l', _ => exact exists_ready hback hL hlt i i (by simp) (Nat.le_refl _) hnil
    · obtain ⟨hun, o, ho, hall⟩ := mem_ready.1 hi
      have hil : i ∈ l := by
        rcases List.mem_append.1 ((hL.mem i).2 hun) with hin | hin
        · exact hin
        · exfalso
          clear h
          match l, hl with
          | x :: l', _ =>
            have hxy := hb x (by simp) i hin
            obtain ⟨_, hpth⟩ := (behindB_path hxy.2).resolve_left (fun e => hxy.1 e.symm)
            have hl1 := path_listed hL.closed _ x i o ho hall hpth
            have hl2 := getD_false_of_true ((hL.mem x).1 (by simp))
            rw [hl1] at hl2
            cases hl2
      obtain ⟨pre, post, rfl⟩ := List.append_of_mem hil
      obtain ⟨h1, h2⟩ := gPairsOk_split hp
      have hf := TG.front hsel ho pre a B K hK ⟨w, hR⟩ (fun x hx => by
        have := h1 x hx
        unfold gPairOk at this
        have hxo : ops[x]? = some (ops[x]'(hlt x (by simp [hx]))) := Array.getElem?_eq_getElem _
        rw [hxo, ho] at this
        simp only [Bool.or_eq_true, Bool.and_eq_true] at this
        rcases this with hpth | hok
        · obtain ⟨_, hpth⟩ := (behindB_path hpth.2).resolve_left (fun e => by have := hpth.1; simp [e] at this)
          have hl1 := path_listed hL.closed _ x i o ho hall hpth
          have hl2 := getD_false_of_true ((hL.mem x).1 (by simp [hx]))
          rw [hl1] at hl2
          cases hl2
        · exact ⟨_, hxo, hok.1, hok.2⟩) h
      have hl' : (pre ++ post).length = fuel := by simp at hl ⊢; omega
      have hsub : ((pre ++ post) ++ rest).Sublist ((pre ++ i :: post) ++ rest) := List.Sublist.append_right (List.Sublist.append_left (List.sublist_cons_self _ _) _) _
      have hn' : ((pre ++ post) ++ rest).Nodup := hn.sublist hsub
      have hlt' : ∀ j ∈ (pre ++ post) ++ rest, j < ops.size := fun j hj => hlt j (hsub.subset hj)
      have hb' : ∀ x ∈ pre ++ post, ∀ y ∈ rest, x ≠ y ∧ (behindB ops x).testBit y = true := fun x hx => hb x ((List.Sublist.append_left (List.sublist_cons_self i post) pre).subset hx)
      have hL' : Listing ops (listed.setIfInBounds i true) ((pre ++ post) ++ rest) := by
        have := Listing.next (pre := pre) (post := post ++ rest) (i := i) (by simpa using hL) (by simpa using hn) ho hall
        simpa using this
      rcases hf.kinds with ko | ko | ko | ko
      · obtain ⟨v, hy, ht⟩ := hf.inv_val ko ho
        obtain ⟨T, hRT⟩ := hR
        exact YieldsIf.wpOp ho hy hRT.mod (ih _ _ _ _ _ _ hl' hn' hlt' h2 hb' hL' hK ⟨T, hRT⟩ ht)
      · obtain ⟨hw, d, T, z, V, hd, hr, ht⟩ := hf.inv_alloc ko ho
        obtain ⟨U, hRT⟩ := hR
        have hR' : RG T0 w0 (B.set w.heap.size ⟨z, T, d⟩) K (w.alloc (.cells z T)) := ⟨U, hRT.alloc hK z T d⟩
        unfold wpOp
        simp only [ho, hw, if_true]
        refine .inl ?_
        unfold Oper.wp
        rw [hr w]
        exact ih _ _ _ _ _ _ hl' hn' hlt' h2 hb' hL' hK hR' (ht _ hRT.none ⟨_, hR'⟩)
      · obtain ⟨hw, hd, d, T, y, p, b, hop, hev, hbb, htag, hr, ht⟩ := hf.inv_store ko ho
        obtain ⟨U, hRT⟩ := hR
        unfold wpOp
        simp only [ho, hw, if_true]
        refine .inl ?_
        unfold Oper.wp
        rw [hr w (hRT.box p b hbb).2.2]
        simp only [Oper.upon, hd]
        exact ih _ _ _ _ _ _ hl' hn' hlt' h2 hb' hL' hK ⟨U, hRT.store hK hbb _⟩ ht
      · obtain ⟨hw, K', hE, ht⟩ := hf.inv_eff ko ho
        obtain ⟨U, hRT⟩ := hR
        exact (hE.step hRT).wp ho hw fun v w' hv => ih _ _ _ _ _ _ hl' hn' hlt' h2 hb' hL' (hE.cl v) hv (ht v ⟨w', hv⟩)
def eRegOk (ops : Array Oper) (κ : Nat → Nat) (υ : Nat → List Tmp) (l rest : List Nat) : Bool :=
  Region.noSelect ops && ((List.range ops.size).all fun i => match ops[i]? with | none => false | some o => o.after.all fun e => !Region.binds .any e || decide (e.on < i)) &&
  (decide (rest.length + l.length = ops.size) && ((l ++ rest).all (fun i => decide (i < ops.size)) && ((List.range ops.size).all fun i => (l ++ rest).contains i))) &&
  (decide (l ++ rest).Nodup && gPairsOk ops κ υ l && pairsOk ops κ rest && l.all (fun x => rest.all fun y => !(x == y) && (behindB ops x).testBit y))
theorem e_any {a : Act} {w1 : World} {K : Land} (l rest : List Nat) (hok : eRegOk ops κ υ l rest = true) (hK : Closed K) (hR : RG T0 w0 Bx.nil K w1)
    (h : TG P ops (fun _ a w => TE P ops Q κ rest a w) T0 w0 κ υ l a Bx.nil K) : wpAny P .any ops Q ops.size (Array.replicate ops.size false) a w1 := by
  simp only [eRegOk, Bool.and_eq_true, List.all_eq_true, decide_eq_true_eq] at hok
  obtain ⟨⟨⟨h1, h2⟩, h3, h4, h5⟩, ⟨⟨hnd, h6⟩, h7⟩, h8⟩ := hok
  have hback : ∀ i o, ops[i]? = some o → ∀ e ∈ o.after, Region.binds .any e = true → e.on < i := fun i o ho e he hb => by
    have := h2 i (List.mem_range.2 (Array.getElem?_eq_some_iff.1 ho).1)
    rw [ho] at this
    have := Array.all_eq_true_iff_forall_mem.1 this e he
    simpa [hb] using this
  rw [← h3]
  refine TG.soundE (Region.noSelect_spec h1) hback h7 _ l _ a _ _ _ rfl hnd h4 h6 (fun x hx y hy => ?_) ?_ hK hR h
  · have := h8 x hx y hy
    exact ⟨by simpa using this.1, this.2⟩
  · rw [h3]
    refine ⟨by simp, fun i => ?_, fun i o hi => ?_⟩
    · constructor
      · intro hi
        have := h4 i hi
        simp [this]
      · intro hi
        have : i < ops.size := by
          rcases Nat.lt_or_ge i ops.size with h' | h'
          · exact h'
          · simp [Nat.not_lt.2 h'] at hi
        simpa using h5 i (List.mem_range.2 this)
    · exfalso
      have : (Array.replicate ops.size false).getD i false = false := by
        by_cases h' : i < ops.size
        · simp [h']
        · simp [h']
      rw [this] at hi
      cases hi
theorem wp_epass {id : Nat} {a : Act} {w : World} {K : Land} (l rest : List Nat) (hm : P.follows .mixedOrders = true) (hok : eRegOk ops κ υ l rest = true) (hK : Closed K) (hk : K T0 w) (hlt : ∀ i, T0 i → i < w.heap.size)
    (h : TG P ops (fun _ a w => TE P ops Q κ rest a w) T0 w κ υ l a Bx.nil K) : (Code.region id ops true).wp P Q a w :=
  wp_region_any hm (e_any l rest hok hK ⟨T0, hK T0 w w.drew hk (Mod.refl _ w).drew, hlt, fun _ _ h => h, (Mod.refl _ w).drew, fun _ _ hh => by cases hh⟩ h)
theorem TG.appK {i : Nat} {r : List Nat} {a : Act} {B : Bx} {K : Land} {o : Oper} {x y : Operand} {X Y : Value} {ts : Array TypeId} (K' : Value → Land) (hcl : ∀ v, Good (K' v)) (ho : ops[i]? = some o) (hk : κ i = 6) (hw : Region.wanted o (yielded ops a.tmps) = true)
    (hop : o.op = .call { callee := .builtin .append, args := #[x, y], argTypes := ts }) (hx : a.eval x = X) (hy : a.eval y = Y)
    (hr : ∀ T w, K T w → (∀ i, T i → i < w.heap.size) → Mod T0 w0 w → UB T (υ i) B w → ∃ v w', (Builtin.append_ ts o.type #[X, Y]).run P w = .ok v w' ∧ Mod T w w' ∧ K' v (Grow T w w') w')
    (h : ∀ v, Inh T0 w0 B (K' v) → TG P ops Q T0 w0 κ υ r (a.put o.dst v) B (K' v)) : TG P ops Q T0 w0 κ υ (i :: r) a B K := by
  refine TG.eff' K' ho hk hw (fun v => (hcl v).cl) (fun T w k1 k2 k3 k4 => .inl ?_) h
  obtain ⟨v, w', h1, h2⟩ := hr T w k1 k2 k3 k4
  refine ⟨v, w', ?_, h2⟩
  subst hx
  subst hy
  simp [execOp, hop, resolve, invoke, builtin, h1]
end
end Go.Proofs.Ytofpnmoeimjnnaa
namespace Go.Proofs.Ytofpnmoeimjnnaa
open Go.RowKit
open Go.ChangeMaps (setBlock)
set_option linter.unusedSimpArgs false
set_option linter.unusedVariables false
def zHash : Array Value := Array.replicate 32 (.int .u8 0)
theorem zHash_size : zHash.size = 32 := by simp [zHash]
theorem zSg_size : zSg.size = 64 := by simp [zSg]
def zLim : Array Value := #[.int .u64 0, .int .u64 0, .int .u64 0]
theorem zLim_size : zLim.size = 3 := rfl
theorem ldHash (w : World) (b o : Nat) : (Instr.loadAt 50 (.pointer (some ⟨b, o, none⟩))).run Try.prog w =
      match w.heap[b]? with
      | some (.cells cs _ _) => if o + 32 ≤ cs.size then .ok (.agg (cs.extract o (o + 32))) w else farL Try.prog w 50 b o
      | _ => farL Try.prog w 50 b o := load_rule (d := _) Try.underlying50 rfl (by kernel_rfl) w b o
theorem stHash (w : World) (b o : Nat) (xs : Array Value) : (Instr.storeAt 50 (.pointer (some ⟨b, o, none⟩)) (.agg xs)).run Try.prog w =
      match w.heap[b]? with
      | some (.cells cs U (0, 0)) =>
        if o + 32 ≤ cs.size ∧ xs.size = 32 ∧ xs.all (·.oneCell') = true then .ok () (setBlock w b (.cells (if o = 0 ∧ 32 = cs.size then xs else wr cs o xs.toList) U (0, 0))) else farS Try.prog w 50 b o (.agg xs)
      | _ => farS Try.prog w 50 b o (.agg xs) := store_rule (by kernel_rfl) w b o xs
theorem wlHash (dst : Option Tmp) (x : Operand) (ty : TypeId) (pos : String) (after : Array Edge) (g : Option (Nat × Bool)) (a : Act) (w : World) (K : Act → World → Prop) (Q : Exit → Act → World → Prop) :
    Oper.wp Try.prog { dst := dst, op := .load 50 x, type := ty, pos := pos, after := after, guard := g } a w K Q =
      (match a.eval x with
      | .pointer (some ⟨b, o, none⟩) =>
        (match w.heap[b]? with
        | some (.cells cs _ _) => if o + 32 ≤ cs.size then K (a.put dst (.agg (cs.extract o (o + 32)))) w else farW Try.prog { dst := dst, op := .load 50 x, type := ty, pos := pos, after := after, guard := g } a w K Q
        | _ => farW Try.prog { dst := dst, op := .load 50 x, type := ty, pos := pos, after := after, guard := g } a w K Q)
      | _ => farW Try.prog { dst := dst, op := .load 50 x, type := ty, pos := pos, after := after, guard := g } a w K Q) := wp_load_rule (d := _) Try.underlying50 rfl (by kernel_rfl) dst x ty pos after g a w K Q
theorem alHash (w : World) : (Instr.alloc 50 true (.tuple #[])).run Try.prog w = .ok (.pointer (some ⟨w.heap.size, 0, none⟩)) (w.alloc (.cells zHash 50)) :=
  run_alloc_row (z := .agg zHash) (fun w => by kernel_rfl) w
theorem ldSig (w : World) (b o : Nat) : (Instr.loadAt 111 (.pointer (some ⟨b, o, none⟩))).run Try.prog w =
      match w.heap[b]? with
      | some (.cells cs _ _) => if o + 64 ≤ cs.size then .ok (.agg (cs.extract o (o + 64))) w else farL Try.prog w 111 b o
      | _ => farL Try.prog w 111 b o := load_rule (d := _) Try.underlying111 rfl (by kernel_rfl) w b o
theorem stSig (w : World) (b o : Nat) (xs : Array Value) : (Instr.storeAt 111 (.pointer (some ⟨b, o, none⟩)) (.agg xs)).run Try.prog w =
      match w.heap[b]? with
      | some (.cells cs U (0, 0)) =>
        if o + 64 ≤ cs.size ∧ xs.size = 64 ∧ xs.all (·.oneCell') = true then .ok () (setBlock w b (.cells (if o = 0 ∧ 64 = cs.size then xs else wr cs o xs.toList) U (0, 0))) else farS Try.prog w 111 b o (.agg xs)
      | _ => farS Try.prog w 111 b o (.agg xs) := store_rule (by kernel_rfl) w b o xs
theorem wlSig (dst : Option Tmp) (x : Operand) (ty : TypeId) (pos : String) (after : Array Edge) (g : Option (Nat × Bool)) (a : Act) (w : World) (K : Act → World → Prop) (Q : Exit → Act → World → Prop) :
    Oper.wp Try.prog { dst := dst, op := .load 111 x, type := ty, pos := pos, after := after, guard := g } a w K Q =
      (match a.eval x with
      | .pointer (some ⟨b, o, none⟩) =>
        (match w.heap[b]? with
        | some (.cells cs _ _) => if o + 64 ≤ cs.size then K (a.put dst (.agg (cs.extract o (o + 64)))) w else farW Try.prog { dst := dst, op := .load 111 x, type := ty, pos := pos, after := after, guard := g } a w K Q
        | _ => farW Try.prog { dst := dst, op := .load 111 x, type := ty, pos := pos, after := after, guard := g } a w K Q)
      | _ => farW Try.prog { dst := dst, op := .load 111 x, type := ty, pos := pos, after := after, guard := g } a w K Q) := wp_load_rule (d := _) Try.underlying111 rfl (by kernel_rfl) dst x ty pos after g a w K Q
theorem alSig (w : World) : (Instr.alloc 111 true (.tuple #[])).run Try.prog w = .ok (.pointer (some ⟨w.heap.size, 0, none⟩)) (w.alloc (.cells zSg 111)) :=
  run_alloc_row (z := .agg zSg) (fun w => by kernel_rfl) w
theorem ldLim (w : World) (b o : Nat) : (Instr.loadAt 27 (.pointer (some ⟨b, o, none⟩))).run Try.prog w =
      match w.heap[b]? with
      | some (.cells cs _ _) => if o + 3 ≤ cs.size then .ok (.agg (cs.extract o (o + 3))) w else farL Try.prog w 27 b o
      | _ => farL Try.prog w 27 b o := load_rule (d := _) Try.underlying27 rfl (by kernel_rfl) w b o
theorem stLim (w : World) (b o : Nat) (xs : Array Value) : (Instr.storeAt 27 (.pointer (some ⟨b, o, none⟩)) (.agg xs)).run Try.prog w =
      match w.heap[b]? with
      | some (.cells cs U (0, 0)) =>
        if o + 3 ≤ cs.size ∧ xs.size = 3 ∧ xs.all (·.oneCell') = true then .ok () (setBlock w b (.cells (if o = 0 ∧ 3 = cs.size then xs else wr cs o xs.toList) U (0, 0))) else farS Try.prog w 27 b o (.agg xs)
      | _ => farS Try.prog w 27 b o (.agg xs) := store_rule (by kernel_rfl) w b o xs
theorem wlLim (dst : Option Tmp) (x : Operand) (ty : TypeId) (pos : String) (after : Array Edge) (g : Option (Nat × Bool)) (a : Act) (w : World) (K : Act → World → Prop) (Q : Exit → Act → World → Prop) :
    Oper.wp Try.prog { dst := dst, op := .load 27 x, type := ty, pos := pos, after := after, guard := g } a w K Q =
      (match a.eval x with
      | .pointer (some ⟨b, o, none⟩) =>
        (match w.heap[b]? with
        | some (.cells cs _ _) => if o + 3 ≤ cs.size then K (a.put dst (.agg (cs.extract o (o + 3)))) w else farW Try.prog { dst := dst, op := .load 27 x, type := ty, pos := pos, after := after, guard := g } a w K Q
        | _ => farW Try.prog { dst := dst, op := .load 27 x, type := ty, pos := pos, after := after, guard := g } a w K Q)
      | _ => farW Try.prog { dst := dst, op := .load 27 x, type := ty, pos := pos, after := after, guard := g } a w K Q) := wp_load_rule (d := _) Try.underlying27 rfl (by kernel_rfl) dst x ty pos after g a w K Q
def qr (R : List Key) (nx mn md : Int) : Array Value := (cellsOf kc R).toArray ++ #[.int .i64 nx, .int .i64 mn, .int .i64 md]
def ring0 : List Key := List.replicate 150 key0
theorem cells_len (R : List Key) : (cellsOf kc R).length = R.length * 32 := cellsOf_len (n := 32) kc_size R
theorem qr_size {R : List Key} (h : R.length = 150) (nx mn md : Int) : (qr R nx mn md).size = 4803 := by
  simp [qr, cells_len, h]
def zQueue : Array Value := qr ring0 0 0 0
theorem zQ_zero (w : World) : (zeroValue 136).run Try.prog w = .ok (.agg zQueue) w := by kernel_rfl
theorem qr_set {R : List Key} (h : R.length = 150) (nx mn md : Int) (j : Nat) (v : Value) : (qr R nx mn md).setIfInBounds (4800 + j) v = (cellsOf kc R).toArray ++ (#[.int .i64 nx, .int .i64 mn, .int .i64 md] : Array Value).setIfInBounds j v := by
  unfold qr
  rw [Array.setIfInBounds_append_right (by simp [cells_len, h])]
  congr 2
  simp [cells_len, h]
theorem qr_get {R : List Key} (h : R.length = 150) (nx mn md : Int) (j : Nat) : (qr R nx mn md)[4800 + j]? = (#[.int .i64 nx, .int .i64 mn, .int .i64 md] : Array Value)[j]? := by
  unfold qr
  rw [Array.getElem?_append_right (by simp [cells_len, h])]
  congr 1
  simp [cells_len, h]
theorem qr_ring {R : List Key} (h : R.length = 150) (nx mn md : Int) {i : Nat} {k : Key} (hk : R[i]? = some k) : (qr R nx mn md).extract (i * 32) (i * 32 + 32) = kc k := by
  obtain ⟨hi, rfl⟩ := List.getElem?_eq_some_iff.1 hk
  apply Array.toList_inj.1
  rw [Array.toList_extract]
  have e : cellsOf kc R = cellsOf kc (R.take i) ++ (cellsOf kc [R[i]] ++ cellsOf kc (R.drop (i + 1))) := by
    rw [← cellsOf_append, ← cellsOf_append, List.singleton_append, ← List.drop_eq_getElem_cons hi, List.take_append_drop]
  have l1 : (cellsOf kc (R.take i)).length = i * 32 := by rw [cells_len, List.length_take, Nat.min_eq_left (by omega)]
  have l2 : (cellsOf kc [R[i]]).length = 32 := by rw [cells_len]; simp
  show ((qr R nx mn md).toList.extract (i * 32) (i * 32 + 32)) = _
  unfold qr
  rw [Array.toList_append, e]
  simp only [List.extract, List.append_assoc]
  rw [← l1, List.drop_left, Nat.add_sub_cancel_left, ← l2, List.take_left]
  simp [cellsOf]
theorem qr_put {R : List Key} (h : R.length = 150) (nx mn md : Int) {i : Nat} (hi : i < 150) (k : Key) : wr (qr R nx mn md) (i * 32) (kc k).toList = qr (R.set i k) nx mn md := by
  apply Array.toList_inj.1
  have hkl : (kc k).toList.length = 32 := by simp
  rw [wr_list _ _ _ (by rw [hkl, qr_size h]; omega), hkl]
  have e : cellsOf kc R = cellsOf kc (R.take i) ++ (cellsOf kc [R[i]] ++ cellsOf kc (R.drop (i + 1))) := by
    rw [← cellsOf_append, ← cellsOf_append, List.singleton_append, ← List.drop_eq_getElem_cons, List.take_append_drop]
  have e2 : cellsOf kc (R.set i k) = cellsOf kc (R.take i) ++ (cellsOf kc [k] ++ cellsOf kc (R.drop (i + 1))) := by
    rw [← cellsOf_append, ← cellsOf_append, List.singleton_append, List.set_eq_take_append_cons_drop, if_pos (by omega)]
  have l1 : (cellsOf kc (R.take i)).length = i * 32 := by rw [cells_len, List.length_take, Nat.min_eq_left (by omega)]
  have l2 : (cellsOf kc [R[i]]).length = 32 := by rw [cells_len]; simp
  unfold qr
  simp only [Array.toList_append]
  rw [e2, e]
  simp only [List.append_assoc]
  conv => lhs; arg 1; rw [← l1, List.take_left]
  conv => lhs; arg 2; arg 2; rw [show i * 32 + 32 = (cellsOf kc (R.take i) ++ cellsOf kc [R[i]]).length by rw [List.length_append, l1, l2], ← List.append_assoc, List.drop_left]
  simp [cellsOf]
theorem bldQueue (w : World) : (Instr.build 136 #[(3, .int .i64 1)]).run Try.prog w = .ok (.agg (qr ring0 0 0 1)) w := by
  refine run_build_struct (z := .agg zQueue) (places := #[(0, 4800), (4800, 1), (4801, 1), (4802, 1)]) Try.underlying136 zQ_zero (fun w => by kernel_rfl) ?_ w
  show Instr.fill _ zQueue [(3, _)] = _
  rw [fill_cons (off := 4802) (n := 1) rfl rfl (by rw [show zQueue.size = 4803 from qr_size (by simp [ring0]) 0 0 0]; omega)]
  refine congrArg some ?_
  show zQueue.setIfInBounds (4800 + 2) (.int .i64 1) = _
  exact qr_set (by simp [ring0]) 0 0 0 2 _
abbrev ptrV (p : Nat) : Value := .pointer (some ⟨p, 0, none⟩)
theorem bldGround (a b c : Nat) (w : World) : (Instr.build 75 #[(0, ptrV a), (1, ptrV b), (2, ptrV c)]).run Try.prog w = .ok (.agg #[ptrV a, ptrV b, ptrV c]) w := by kernel_rfl
theorem bldBlock (x y z t : Nat) (w : World) : (Instr.build 80 #[(0, .agg #[ptrV x, ptrV y, ptrV z]), (1, ptrV t)]).run Try.prog w = .ok (.agg #[ptrV x, ptrV y, ptrV z, ptrV t, .bool false, .slice none 0 0, .slice none 0 0, .int .u64 0]) w := by kernel_rfl
theorem bldTr (x y z : UInt64) (m : Nat) (w : World) : (Instr.build 181 #[(0, .agg #[u64v x, u64v y, u64v z]), (3, .map (some m))]).run Try.prog w = .ok (.agg #[u64v x, u64v y, u64v z, .int .u64 0, .int .u64 0, .map (some m)]) w := by kernel_rfl
end Go.Proofs.Ytofpnmoeimjnnaa
namespace Go.Proofs.Ytofpnmoeimjnnaa
open Go.RowKit
open Go.ChangeMaps (setBlock)
set_option linter.unusedSimpArgs false
set_option linter.unusedVariables false
attribute [local go_sem ↓] wlKey ldKey stKey wlAcct ldAcct stAcct wlHold ldHold stHold eqKey1 eqAcct eqHold
attribute [local go_sem] eqMap neMap av_size av_c av_s av_c' av_s' av_o av_all av_one hd_size hd_key hd_acct hd_all hd_one zKey_size zAcct_size zHold_size cell_blk frozen_blk kc_ext one_int one_bool one_ptr one_slice one_map kc_one kc_one0 kc_size Value.cells
def StAt (w : World) (p b : Nat) (m : List (Key × Acct)) : Prop :=
  w.heap[p]? = some (.cells #[.map (some b)] 143 (0, 0)) ∧ ∃ es c, w.heap[b]? = some (.map es c) ∧ MapIs kv avv es c m
theorem StAt.mod {w w' : World} {p b : Nat} {m : List (Key × Acct)} {S : Nat → Prop} (h : StAt w p b m) (hm : Mod S w w') (h1 : ¬ S p) (h2 : ¬ S b) : StAt w' p b m := by
  obtain ⟨kp, es, c, kb, M⟩ := h
  exact ⟨hm.at kp h1, es, c, hm.at kb h2, M⟩
theorem StAt.mod0 {w w' : World} {p b : Nat} {m : List (Key × Acct)} (h : StAt w p b m) (hm : Mod (fun _ => False) w w') : StAt w' p b m := h.mod hm (fun h => h) (fun h => h)
theorem StAt.lt {w : World} {p b : Nat} {m : List (Key × Acct)} (h : StAt w p b m) : p < w.heap.size ∧ b < w.heap.size ∧ p ≠ b := by
  obtain ⟨kp, es, c, kb, M⟩ := h
  exact ⟨lt_size kp, lt_size kb, ne_of_obj kp kb (by simp)⟩
theorem StAt.nodup {w : World} {p b : Nat} {m : List (Key × Acct)} (h : StAt w p b m) : (m.map Prod.fst).Nodup := by
  obtain ⟨kp, es, c, kb, M⟩ := h
  exact M.nodup
def putA (m : List (Key × Acct)) (k : Key) (a : Acct) : List (Key × Acct) := if a = acct0 then del k m else put k a m
theorem there_c (p b : Nat) (m : List (Key × Acct)) (w : World) (h : StAt w p b m) : Calls Try.prog 83 #[.pointer (some ⟨p, 0, none⟩)] w fun e w' => e = .returned (.bool true) ∧ w = w' := by
  obtain ⟨kp, _⟩ := h
  go_enter Try.func83, Try.ntmps83
  go_wp2
  go_ret
  exact ⟨rfl, rfl⟩
theorem newS_c (w : World) : Calls Try.prog 24 #[] w fun e w' => ∃ p b, e = .returned (.pointer (some ⟨p, 0, none⟩)) ∧ w.heap.size ≤ p ∧ w.heap.size ≤ b ∧ StAt w' p b [] ∧ Mod (fun _ => False) w w' := by
  have hmm := @run_makeMap Try.prog
  go_enter Try.func24, Try.ntmps24
  go_wp2_with fail
  go_ret
  obtain ⟨h1, h2⟩ := fresh2 w (.map #[] 0) (.cells #[.map (some w.heap.size)] 143)
  exact ⟨_, w.heap.size, rfl, by omega, by omega, ⟨h2, _, _, h1, MapIs.empty kv avv⟩, ((Mod.refl _ _).alloc _).alloc _⟩
end Go.Proofs.Ytofpnmoeimjnnaa
namespace Go.Proofs.Ytofpnmoeimjnnaa
open Go.RowKit
open Go.ChangeMaps (setBlock)
set_option linter.unusedSimpArgs false
set_option linter.unusedVariables false
attribute [local go_sem ↓] wlKey ldKey stKey wlAcct ldAcct stAcct wlHold ldHold stHold wlHash ldHash stHash wlSig ldSig stSig wlLim ldLim stLim wlRdy ldRdy stRdy wlOut ldOut stOut wlTd ldTd stTd wlTx ldTx stTx eqKey1
attribute [local go_sem] eqMap neMap av_size av_all av_one hd_size hd_key hd_acct hd_all hd_one zKey_size zAcct_size zHold_size zHash_size zSg_size zLim_size zRdy_size zOut_size zTried_size zTx_size cell_blk frozen_blk kc_ext one_int one_bool one_ptr one_slice one_map kc_one kc_one0 kc_size sgc_size sgc_ext sgc_one0 sgc_one' rdr_size rdr_all rdr_one rdr_tx rdr_rec rdr0 rdr1 rdr41 rdr0' rdr1' rdr41' ocr_size ocr_all ocr_one ocr2 ocr3 ocr4 ocr5 ocr2' ocr3' ocr4' ocr5' tdr_size tdr_all tdr_one tdr_r tdr_o tdr_tx tdr_rec tdr0 tdr1 tdr41 tdr50 tdr51 tdr52 tdr53 tdr0' tdr1' tdr41' tdr50' tdr51' tdr52' tdr53' txr_size txr_all txr_one txr0 txr38 txr39 txr0' txr38' txr39' Value.cells
def TrAt (w : World) (t m : Nat) (L : Lim) (b s : UInt64) (l : List (Key × UInt64)) : Prop :=
  w.heap[t]? = some (.cells #[u64v L.b, u64v L.a, u64v L.s, u64v b, u64v s, .map (some m)] 181 (0, 0)) ∧ ∃ es c, w.heap[m]? = some (.map es c) ∧ MapIs kv u64v es c l
def QuAt (w : World) (q : Nat) (L : List Key) : Prop := ∃ (R : List Key) (nx : Nat), w.heap[q]? = some (.cells (qr R (nx : Int) (L.length : Int) 1) 136 (0, 0)) ∧ QIs R nx L
def SgL (T : Nat → Prop) (B : Nat) (w : World) (v : Value) : Prop := ∃ l : List Sg, SlOwn sgc 64 111 w 0 v l ∧ (∀ g, v.ownBlock = some g → T g) ∧ l.length ≤ B
structure SeAt (T : Nat → Prop) (w : World) (n : Nat) (l : List (Sg × Key)) : Prop where
  ex : ∃ a b es c es2 c2, ∃ m2 : List (Key × Value), w.heap[n]? = some (.cells #[.map (some a), .map (some b)] 140 (0, 0)) ∧ w.heap[a]? = some (.map es c) ∧ MapIs sgv kv es c l ∧ w.heap[b]? = some (.map es2 c2) ∧ MapIs kv id es2 c2 m2 ∧
    a ≠ b ∧ T n ∧ T a ∧ T b ∧ (∀ p ∈ m2, SgL T l.length w p.2) ∧ ∀ p ∈ m2, ∀ q ∈ m2, p.1 ≠ q.1 → ∀ i, p.2.ownBlock = some i → q.2.ownBlock ≠ some i
theorem newQ_c (w : World) : Calls Try.prog 22 #[] w fun e w' => ∃ q, e = .returned (ptrV q) ∧ w.heap.size ≤ q ∧ QuAt w' q [] ∧ Mod (fun _ => False) w w' := by
  have hb := bldQueue
  go_enter Try.func22, Try.ntmps22
  go_upto_region 1 with fail
  refine wp_pass0 (C := fun _ _ _ => False) (κ := fun i => [0, 3, 0].getD i 0) [0, 1, 2] (by kernel_rfl) (by kernel_rfl) (fun _ _ d _ _ h => by cases d <;> first | exact h | exact absurd h (hP _ _ _)) ?_
  (refine TD.build (v := ?v1) (ps := ?p1) (by simp only [zA, zB, zC]; rfl) rfl ?hw1 rfl ?hx1 (fun w1 => ?hy1) ?hn1; (case hw1 => rfl); (case hx1 => (simp only [List.map_toArray, List.map_cons, List.map_nil, Act.eval, zD, zA, zB, zC, zE]; (try rfl))); (case hy1 => (rw [hb]; (try with_reducible rfl))); (try simp only [Act.put, zF, zG, zH]))
  (refine TD.box (v := ?v2) (by simp only [zA, zB, zC]; rfl) rfl ?hw2 rfl rfl ?hx2 (fun p2 hp2 => ?hn2); (case hw2 => rfl); (case hx2 => (simp only [Act.eval, zD, zA, zB, zC, zE]; (try rfl))); (try simp only [Act.put, zF, zG, zH]))
  (refine TD.val0 (v := ?v3) (by simp only [zA, zB, zC]; rfl) rfl ?hw3 (fun w1 => ?hy3) ?hn3; (case hw3 => rfl); (case hy3 => (go_simp; (try with_reducible rfl))); (try simp only [Act.put, zF, zG, zH]))
  refine TD.nil (fun w1 hr => ?_)
  have kp2 := hr.box p2 _ (by first | exact Bx.set_same _ _ _ | (simp only [Bx.set_same]; rfl)); dsimp only [Value.cells] at kp2; obtain ⟨gp2, kp2⟩ := kp2
  go_wp2_with fail
  go_ret
  exact ⟨_, rfl, gp2, ⟨ring0, 0, kp2, QIs.zero _ (by simp [ring0])⟩, hr.mod⟩
theorem newN_c (w : World) : Calls Try.prog 23 #[] w fun e w' => ∃ n, e = .returned (ptrV n) ∧ w.heap.size ≤ n ∧ n < w'.heap.size ∧ SeAt (fun i => w.heap.size ≤ i) w' n [] ∧ Mod (fun _ => False) w w' := by
  have hmm := @run_makeMap Try.prog
  go_enter Try.func23, Try.ntmps23
  go_wp2_with fail
  go_ret
  obtain ⟨h1, h2, h3⟩ := fresh3 w (.map #[] 0) (.map #[] 0) (.cells #[.map (some w.heap.size), .map (some (w.heap.size + 1))] 140)
  exact ⟨_, rfl, by omega, lt_size h3, ⟨w.heap.size, w.heap.size + 1, _, _, _, _, [], h3, h1, MapIs.empty sgv kv, h2, MapIs.empty kv id, by omega, by omega, by omega, by omega, (fun p hp => by cases hp), fun p hp => by cases hp⟩, (((Mod.refl _ _).alloc _).alloc _).alloc _⟩
theorem newT_c (L : Lim) (w : World) : Calls Try.prog 50 #[.agg #[u64v L.b, u64v L.a, u64v L.s]] w fun e w' => ∃ t m, e = .returned (ptrV t) ∧ w.heap.size ≤ t ∧ w.heap.size ≤ m ∧ TrAt w' t m L 0 0 [] ∧ Mod (fun _ => False) w w' := by
  have hmm := @run_makeMap Try.prog
  have hb := bldTr
  go_enter Try.func50, Try.ntmps50
  go_upto_region 0 with fail
  refine wp_pass0 (C := fun _ _ _ => False) (κ := fun i => [3, 0].getD i 0) [0, 1] (by kernel_rfl) (by kernel_rfl) (fun _ _ d _ _ h => by cases d <;> first | exact h | exact absurd h (hP _ _ _)) ?_
  (refine TD.box (v := ?v4) (by simp only [zA, zB, zC]; rfl) rfl ?hw4 rfl rfl ?hx4 (fun p1 hp1 => ?hn4); (case hw4 => rfl); (case hx4 => (simp only [Act.eval, zD, zA, zB, zC, zE]; (try rfl))); (try simp only [Act.put, zF, zG, zH]))
  (refine TD.val0 (v := ?v5) (by simp only [zA, zB, zC]; rfl) rfl ?hw5 (fun w1 => ?hy5) ?hn5; (case hw5 => rfl); (case hy5 => (go_simp; (try with_reducible rfl))); (try simp only [Act.put, zF, zG, zH]))
  refine TD.nil (fun w1 hr => ?_)
  have kp1 := hr.box p1 _ (by first | exact Bx.set_same _ _ _ | (simp only [Bx.set_same]; rfl)); dsimp only [Value.cells] at kp1; obtain ⟨gp1, kp1⟩ := kp1
  have m1 := hr.mod
  have ht1 := hr.mod.size
  go_wp2_with fail
  go_ret
  obtain ⟨h1, h2⟩ := fresh2 w1 (.map #[] 0) (.cells #[u64v L.b, u64v L.a, u64v L.s, .int .u64 0, .int .u64 0, .map (some w1.heap.size)] 181)
  exact ⟨_, w1.heap.size, rfl, by omega, by omega, ⟨h2, _, _, h1, MapIs.empty kv u64v⟩, (m1.alloc _).alloc _⟩
end Go.Proofs.Ytofpnmoeimjnnaa
namespace Go.Proofs.Ytofpnmoeimjnnaa
set_option linter.unusedVariables false
section
variable {P : Program} {ops : Array Oper} {Q : Exit → Act → World → Prop} {S : World → Prop} {C : FuncId → Array Value → Value → Prop} {w0 : World} {κ : Nat → Nat}
theorem TD.mks {i : Nat} {r : List Nat} {a : Act} {B : Bx} {o : Oper} {d : Tmp} {T E : TypeId} {n m : Nat} {x y : Operand} {X Y : Value} {z : Array Value} (ho : ops[i]? = some o) (hk : κ i = 3)
    (hw : Region.wanted o (yielded ops a.tmps) = true) (hd : o.dst = some d) (hop : o.op = .makeSlice T x y) (hx : a.eval x = X) (hy : a.eval y = Y)
    (hr : ∀ w, (Instr.makeSlice T X Y).run P w = .ok (.slice (some ⟨w.heap.size, 0, none⟩) n m) (w.alloc (.cells z E)))
    (h : ∀ p, B p = none → TD P ops Q S C w0 κ r (a.put o.dst (.slice (some ⟨p, 0, none⟩) n m)) (B.set p ⟨z, E, d⟩)) : TD P ops Q S C w0 κ (i :: r) a B :=
  .alloc (fun p => .slice (some ⟨p, 0, none⟩) n m) ho hk hw hd (fun w => by subst hx; subst hy; simp [execOp, hop, hr w]) h
end
end Go.Proofs.Ytofpnmoeimjnnaa
namespace Go.Proofs.Ytofpnmoeimjnnaa
open Go.RowKit
open Go.ChangeMaps (setBlock)
set_option linter.unusedSimpArgs false
set_option linter.unusedVariables false
attribute [local go_sem ↓] wlKey ldKey stKey wlAcct ldAcct stAcct wlHold ldHold stHold wlHash ldHash stHash wlSig ldSig stSig wlLim ldLim stLim wlRdy ldRdy stRdy wlOut ldOut stOut wlTd ldTd stTd wlTx ldTx stTx eqKey1
attribute [local go_sem] eqMap neMap av_size av_all av_one hd_size hd_key hd_acct hd_all hd_one zKey_size zAcct_size zHold_size zHash_size zSg_size zLim_size zRdy_size zOut_size zTried_size zTx_size cell_blk frozen_blk kc_ext one_int one_bool one_ptr one_slice one_map kc_one kc_one0 kc_size sgc_size sgc_ext sgc_one0 sgc_one' rdr_size rdr_all rdr_one rdr_tx rdr_rec rdr0 rdr1 rdr41 rdr0' rdr1' rdr41' ocr_size ocr_all ocr_one ocr2 ocr3 ocr4 ocr5 ocr2' ocr3' ocr4' ocr5' tdr_size tdr_all tdr_one tdr_r tdr_o tdr_tx tdr_rec tdr0 tdr1 tdr41 tdr50 tdr51 tdr52 tdr53 tdr0' tdr1' tdr41' tdr50' tdr51' tdr52' tdr53' txr_size txr_all txr_one txr0 txr38 txr39 txr0' txr38' txr39' Value.cells
def blkC (s q n t : Nat) (e : Bool) (ea : Option Addr) (en ec : Nat) (oa : Option Addr) (on oc : Nat) (f : UInt64) : Array Value := #[ptrV s, ptrV q, ptrV n, ptrV t, .bool e, .slice ea en ec, .slice oa on oc, u64v f]
theorem bthere_c {p s q n t : Nat} {e : Bool} {ea : Option Addr} {en ec : Nat} {oa : Option Addr} {on oc : Nat} {f : UInt64} (w : World) (kp : w.heap[p]? = some (.cells (blkC s q n t e ea en ec oa on oc f) 80 (0, 0))) : Calls Try.prog 33 #[ptrV p] w fun e w' => e = .returned (.bool true) ∧ w = w' := by
  unfold blkC at kp
  go_enter Try.func33, Try.ntmps33
  go_wp2
  go_ret
  exact ⟨rfl, rfl⟩
def ern (v : Nat) : Array Value := #[.int .i64 (v : Int)]
def errC (l : List Nat) : Array Value := (l.map fun v : Nat => Value.int .i64 (v : Int)).toArray
theorem errC_size (l : List Nat) : (errC l).size = l.length := by simp [errC]
theorem errC_at {w : World} {g : Nat} {l : List Nat} {U : TypeId} (h : w.heap[g]? = some (.cells (errC l) U (0, 0))) : SlAt ern 1 w (some ⟨g, 0, none⟩) l := by
  refine .inr ⟨g, 0, _, U, (0, 0), rfl, h, fun i x hx => ?_⟩
  obtain ⟨hi, rfl⟩ := List.getElem?_eq_some_iff.1 hx
  refine ⟨?_, by rw [errC_size]; omega⟩
  apply Array.ext_getElem?
  intro j
  simp only [Nat.zero_add, Nat.mul_one, Array.getElem?_extract, errC, zA, List.getElem?_map, List.size_toArray, List.length_map, ern]
  cases j with
  | zero => simp [hi]; omega
  | succ j =>
    rw [if_neg (by omega)]
    rfl
theorem errC_set (l : List Nat) (i v : Nat) : (errC l).setIfInBounds i (.int .i64 (v : Int)) = errC (l.set i v) := by
  simp [errC, List.map_set]
theorem mkErr (n : Nat) (hn : n ≤ 100000) (w : World) : (Instr.makeSlice 41 (.int .i64 (n : Int)) (.int .i64 (n : Int))).run Try.prog w = .ok (.slice (some ⟨w.heap.size, 0, none⟩) n n) (w.alloc (.cells (errC (List.replicate n 0)) 62)) := by
  obtain ⟨i0, hi, hz0, hz1, hz2⟩ := info_parts (show (Try.prog.info? 62).map (fun i => (i.zero, i.size, i.bytes)) = some (some (.int .i64 0), 1, 8) by kernel_rfl)
  have := run_make (P := Try.prog) w 41 62 i0 _ Try.underlying41 hi hz0 .i64 .i64 (n : Int) (n : Int) (by omega) (by omega) (by rw [hz2]; omega) (by omega)
  rw [hz1, Nat.mul_one] at this
  have hc : madeCells #[Value.int .i64 0] n = errC (List.replicate n 0) := by
    apply Array.toList_inj.1
    rw [toList_madeCells_one]
    simp [errC]
  simpa [Value.cells, hc] using this
end Go.Proofs.Ytofpnmoeimjnnaa
namespace Go.Proofs.Ytofpnmoeimjnnaa
open Go.RowKit
open Go.ChangeMaps (setBlock)
set_option linter.unusedSimpArgs false
set_option linter.unusedVariables false
attribute [local go_sem ↓] wlKey ldKey stKey wlAcct ldAcct stAcct wlHold ldHold stHold wlHash ldHash stHash wlSig ldSig stSig wlLim ldLim stLim wlRdy ldRdy stRdy wlOut ldOut stOut wlTd ldTd stTd wlTx ldTx stTx eqKey1
attribute [local go_sem] eqMap neMap av_size av_all av_one hd_size hd_key hd_acct hd_all hd_one zKey_size zAcct_size zHold_size zHash_size zSg_size zLim_size zRdy_size zOut_size zTried_size zTx_size cell_blk frozen_blk kc_ext one_int one_bool one_ptr one_slice one_map kc_one kc_one0 kc_size sgc_size sgc_ext sgc_one0 sgc_one' rdr_size rdr_all rdr_one rdr_tx rdr_rec rdr0 rdr1 rdr41 rdr0' rdr1' rdr41' ocr_size ocr_all ocr_one ocr2 ocr3 ocr4 ocr5 ocr2' ocr3' ocr4' ocr5' tdr_size tdr_all tdr_one tdr_r tdr_o tdr_tx tdr_rec tdr0 tdr1 tdr41 tdr50 tdr51 tdr52 tdr53 tdr0' tdr1' tdr41' tdr50' tdr51' tdr52' tdr53' txr_size txr_all txr_one txr0 txr38 txr39 txr0' txr38' txr39' Value.cells
theorem ern_at {w : World} {a : Option Addr} {l : List Nat} (h : SlAt ern 1 w a l) {i : Nat} {x : Nat} (hx : l[i]? = some x) : ∃ b o C U fr, a = some ⟨b, o, none⟩ ∧ w.heap[b]? = some (.cells C U fr) ∧ C[o + i]? = some (.int .i64 (x : Int)) := by
  obtain ⟨b, o, C, U, fr, rfl, hk, he, _⟩ := h.block hx
  refine ⟨b, o, C, U, fr, rfl, hk, ?_⟩
  have := cellC he (j := 0) (v := .int .i64 (x : Int)) rfl
  simpa using this
theorem take_eq_ern {l1 l2 : List Nat} {i : Nat} {x : Nat} (h : l1.take i = l2.take i) (h1 : l1[i]? = some x) (h2 : l2[i]? = some x) : l1.take (i + 1) = l2.take (i + 1) := by
  rw [List.take_add_one, List.take_add_one, h, h1, h2]
set_option maxRecDepth 20000 in
set_option maxHeartbeats 1600000 in
theorem errors_c (a b : Option Addr) (l1 l2 : List Nat) (c1 c2 : Nat) (w : World) (h1 : SlAt ern 1 w a l1) (h2 : SlAt ern 1 w b l2) (n1 : l1.length ≤ 100000) (n2 : l2.length ≤ 100000) :
    Calls Try.prog 14 #[.slice a l1.length c1, .slice b l2.length c2] w fun e w' => e = .returned (.bool (decide (l1 = l2))) ∧ Mod (fun _ => False) w w' := by
  have H1 := Lib.hid h1
  have H2 := Lib.hid h2
  clear h1 h2
  go_enter Try.func14, Try.ntmps14
  go_wp2_with fail
  go_loopw [5] (fun s5 ws => ∃ i : Nat, i ≤ l1.length ∧ i ≤ l2.length ∧ s5 = .int .i64 i ∧ Hid (l1.take i = l2.take i) ∧ Mod (fun _ => False) w ws) (fun s5 _ => l1.length - (intOf s5).toNat)
  case atStart => exact ⟨0, Nat.zero_le _, Nat.zero_le _, rfl, Lib.hid (by simp), Mod.refl _ _⟩
  case round =>
    obtain ⟨i, hi1, hi2, rfl, HT, hm⟩ := hrel
    by_cases hl1 : i < l1.length
    · have hd1 := decide_eq_true hl1
      by_cases hl2 : i < l2.length
      · have hd2 := decide_eq_true hl2
        obtain ⟨x, hx⟩ : ∃ x, l1[i]? = some x := ⟨_, List.getElem?_eq_getElem hl1⟩
        obtain ⟨y, hy⟩ : ∃ y, l2[i]? = some y := ⟨_, List.getElem?_eq_getElem hl2⟩
        obtain ⟨b1, o1, C1, U1, f1, rfl, k1, v1⟩ := ern_at (H1.out.mod0 hm) hx
        obtain ⟨b2, o2, C2, U2, f2, rfl, k2, v2⟩ := ern_at (H2.out.mod0 hm) hy
        have HX := Lib.hid (And.intro hx hy)
        clear hx hy
        go_upto_region 4 with fail
        have Lk1 := lt_size k1
        have Lk2 := lt_size k2
        refine wp_pass (C := fun _ _ _ => False) (κ := fun i => [0, 0, 0, 1, 0, 0, 0, 1, 0].getD i 0) [0, 1, 2, 3, 4, 5, 6, 7, 8] (by kernel_rfl) (by kernel_rfl) (fun _ _ d _ _ h => by cases d <;> first | exact h | exact absurd h (hP _ _ _)) ?_
        (refine TD.val0 (v := ?v1) (by simp only [zA, zB, zC]; rfl) rfl ?hw1 (fun w1 => ?hy1) ?hn1; (case hw1 => rfl); (case hy1 => (go_simp; (try with_reducible rfl))); (try simp only [Act.put, zF, zG, zH]))
        (refine TD.val0 (v := ?v2) (by simp only [zA, zB, zC]; rfl) rfl ?hw2 (fun w1 => ?hy2) ?hn2; (case hw2 => rfl); (case hy2 => (go_simp; (try with_reducible rfl))); (try simp only [Act.put, zF, zG, zH]))
        (refine TD.val0 (v := ?v3) (by simp only [zA, zB, zC]; rfl) rfl ?hw3 (fun w1 => ?hy3) ?hn3; (case hw3 => rfl); (case hy3 => (go_simp; (try with_reducible rfl))); (try simp only [Act.put, zF, zG, zH]))
        (refine TD.load (v := ?v4) (p := ?p4) (Mod.refl _ _) (by simp only [zA, zB, zC]; rfl) rfl ?hw4 rfl ?hx4 (fun wq hSq => ?hy4) ?hn4; (case hw4 => rfl); (case hx4 => (simp only [Act.eval, zD, zA, zB, zC, zE]; (try rfl))); (case hy4 => (have k1q := hSq.at k1 (fun h => h); have k2q := hSq.at k2 (fun h => h); go_simp; (try with_reducible rfl))); (try simp only [Act.put, zF, zG, zH]))
        (refine TD.val0 (v := ?v5) (by simp only [zA, zB, zC]; rfl) rfl ?hw5 (fun w1 => ?hy5) ?hn5; (case hw5 => rfl); (case hy5 => (go_simp; (try with_reducible rfl))); (try simp only [Act.put, zF, zG, zH]))
        (refine TD.val0 (v := ?v6) (by simp only [zA, zB, zC]; rfl) rfl ?hw6 (fun w1 => ?hy6) ?hn6; (case hw6 => rfl); (case hy6 => (go_simp; (try with_reducible rfl))); (try simp only [Act.put, zF, zG, zH]))
        (refine TD.val0 (v := ?v7) (by simp only [zA, zB, zC]; rfl) rfl ?hw7 (fun w1 => ?hy7) ?hn7; (case hw7 => rfl); (case hy7 => (go_simp; (try with_reducible rfl))); (try simp only [Act.put, zF, zG, zH]))
        (refine TD.load (v := ?v8) (p := ?p8) (Mod.refl _ _) (by simp only [zA, zB, zC]; rfl) rfl ?hw8 rfl ?hx8 (fun wq hSq => ?hy8) ?hn8; (case hw8 => rfl); (case hx8 => (simp only [Act.eval, zD, zA, zB, zC, zE]; (try rfl))); (case hy8 => (have k1q := hSq.at k1 (fun h => h); have k2q := hSq.at k2 (fun h => h); go_simp; (try with_reducible rfl))); (try simp only [Act.put, zF, zG, zH]))
        (refine TD.val0 (v := ?v9) (by simp only [zA, zB, zC]; rfl) rfl ?hw9 (fun w1 => ?hy9) ?hn9; (case hw9 => rfl); (case hy9 => (go_simp; (try with_reducible rfl))); (try simp only [Act.put, zF, zG, zH]))
        refine TD.nil (fun w3 hr => ?_)
        replace k1 := hr.mod.at k1 (fun h => h)
        replace k2 := hr.mod.at k2 (fun h => h)
        have m3 := hm.then0 hr.mod
        clear hr
        by_cases hxy : x = y
        · have HE := Lib.hid hxy
          have hne : ((x : Int) != (y : Int)) = false := by rw [hxy]; simp
          have HTT := Lib.hid (take_eq_ern HT.out HX.out.1 (by rw [HX.out.2, hxy]))
          clear hxy
          go_wp2_with fail
          go_roundw
          case rel => exact ⟨i + 1, by omega, by omega, by go_num, HTT, m3⟩
          case measure => simp [intOf]; omega
        · have hne : ((x : Int) != (y : Int)) = true := by
            rw [bne_iff_ne]
            intro e
            exact hxy (by omega)
          have HE : Hid (l1 ≠ l2) := Lib.hid (fun e => by
            have h1 := HX.out.1
            rw [e, HX.out.2] at h1
            exact hxy (Option.some.inj h1).symm)
          clear hxy
          go_wp2_with fail
          go_ret
          exact ⟨by rw [decide_eq_false HE.out]; rfl, m3⟩
      · have hd2 := decide_eq_false hl2
        have HE : Hid (l1 ≠ l2) := Lib.hid (fun e => by rw [e] at hl1; exact hl2 hl1)
        have hne : ((l1.length : Int) == (l2.length : Int)) = false := by
          rw [beq_eq_false_iff_ne]
          omega
        go_wp2_with fail
        go_ret
        exact ⟨by rw [decide_eq_false HE.out]; rfl, hm⟩
    · have hd1 := decide_eq_false hl1
      have HI : Hid (i = l1.length) := Lib.hid (by omega)
      by_cases hle : l1.length = l2.length
      · have hne : ((l1.length : Int) == (l2.length : Int)) = true := by
          rw [beq_iff_eq]
          omega
        have HE : Hid (l1 = l2) := Lib.hid (by
          have h1 := HT.out
          rw [HI.out, List.take_length, hle, List.take_length] at h1
          exact h1)
        clear hle
        go_wp2_with fail
        go_ret
        exact ⟨by rw [decide_eq_true HE.out]; rfl, hm⟩
      · have hne : ((l1.length : Int) == (l2.length : Int)) = false := by
          rw [beq_eq_false_iff_ne]
          omega
        have HE : Hid (l1 ≠ l2) := Lib.hid (fun e => hle (by rw [e]))
        clear hle
        go_wp2_with fail
        go_ret
        exact ⟨by rw [decide_eq_false HE.out]; rfl, hm⟩
theorem TrAt.mod {w w' : World} {t m : Nat} {L : Lim} {b s : UInt64} {l : List (Key × UInt64)} {S : Nat → Prop} (h : TrAt w t m L b s l) (hm : Mod S w w') (h1 : ¬ S t) (h2 : ¬ S m) : TrAt w' t m L b s l := by
  obtain ⟨kp, es, c, kb, M⟩ := h
  exact ⟨hm.at kp h1, es, c, hm.at kb h2, M⟩
theorem TrAt.mod0 {w w' : World} {t m : Nat} {L : Lim} {b s : UInt64} {l : List (Key × UInt64)} (h : TrAt w t m L b s l) (hm : Mod (fun _ => False) w w') : TrAt w' t m L b s l := h.mod hm (fun h => h) (fun h => h)
theorem QuAt.mod {w w' : World} {q : Nat} {L : List Key} {S : Nat → Prop} (h : QuAt w q L) (hm : Mod S w w') (h1 : ¬ S q) : QuAt w' q L := by
  obtain ⟨R, nx, k, hq⟩ := h
  exact ⟨R, nx, hm.at k h1, hq⟩
theorem QuAt.mod0 {w w' : World} {q : Nat} {L : List Key} (h : QuAt w q L) (hm : Mod (fun _ => False) w w') : QuAt w' q L := h.mod hm (fun h => h)
theorem SgL.mod {T S : Nat → Prop} {B : Nat} {w w' : World} {v : Value} (h : SgL T B w v) (hm : Mod S w w') (hS : ∀ i, T i → ¬ S i) : SgL T B w' v := by
  obtain ⟨l, h1, h2, h3⟩ := h
  exact ⟨l, h1.mod hm (fun b hb => hS b (h2 b hb)), h2, h3⟩
theorem SgL.mono {T T' : Nat → Prop} {B B' : Nat} {w : World} {v : Value} (h : SgL T B w v) (hT : ∀ i, T i → T' i) (hB : B ≤ B') : SgL T' B' w v := by
  obtain ⟨l, h1, h2, h3⟩ := h
  exact ⟨l, h1, fun g hg => hT g (h2 g hg), Nat.le_trans h3 hB⟩
theorem SeAt.mod {T S : Nat → Prop} {w w' : World} {n : Nat} {l : List (Sg × Key)} (h : SeAt T w n l) (hm : Mod S w w') (hS : ∀ i, T i → ¬ S i) : SeAt T w' n l := by
  obtain ⟨a, b, es, c, es2, c2, m2, h1, h2, h3, h4, h5, h6, t1, t2, t3, h7, h8⟩ := h.ex
  exact ⟨a, b, es, c, es2, c2, m2, hm.at h1 (hS _ t1), hm.at h2 (hS _ t2), h3, hm.at h4 (hS _ t3), h5, h6, t1, t2, t3, fun p hp => (h7 p hp).mod hm hS, h8⟩
theorem SeAt.mod0 {T : Nat → Prop} {w w' : World} {n : Nat} {l : List (Sg × Key)} (h : SeAt T w n l) (hm : Mod (fun _ => False) w w') : SeAt T w' n l := h.mod hm (fun _ _ h => h)
theorem SeAt.mono {T T' : Nat → Prop} {w : World} {n : Nat} {l : List (Sg × Key)} (h : SeAt T w n l) (hT : ∀ i, T i → T' i) : SeAt T' w n l := by
  obtain ⟨a, b, es, c, es2, c2, m2, h1, h2, h3, h4, h5, h6, t1, t2, t3, h7, h8⟩ := h.ex
  exact ⟨a, b, es, c, es2, c2, m2, h1, h2, h3, h4, h5, h6, hT _ t1, hT _ t2, hT _ t3, fun p hp => (h7 p hp).mono hT (Nat.le_refl _), h8⟩
set_option maxHeartbeats 1600000 in
theorem open_c (s q n : Nat) (L : Lim) (w : World) : Calls Try.prog 21 #[ptrV s, ptrV q, ptrV n, .agg #[u64v L.b, u64v L.a, u64v L.s]] w fun e w' => ∃ b t m, e = .returned (.tuple #[ptrV b, .int .i64 0]) ∧ w.heap.size ≤ b ∧ w.heap.size ≤ t ∧ w.heap.size ≤ m ∧ w'.heap[b]? = some (.cells (blkC s q n t false none 0 0 none 0 0 0) 80 (0, 0)) ∧ TrAt w' t m L 0 0 [] ∧ Mod (fun _ => False) w w' := by
  have hg := bldGround s q n
  go_enter Try.func21, Try.ntmps21
  go_upto_region 0 with fail
  refine wp_pass0 (C := fun _ _ _ => False) (κ := fun i => [3, 0, 0].getD i 0) [0, 1, 2] (by kernel_rfl) (by kernel_rfl) (fun _ _ d _ _ h => by cases d <;> first | exact h | exact absurd h (hP _ _ _)) ?_
  (refine TD.box (v := ?v19) (by simp only [zA, zB, zC]; rfl) rfl ?hw19 rfl rfl ?hx19 (fun p7 hp7 => ?hn19); (case hw19 => rfl); (case hx19 => (simp only [Act.eval, zD, zA, zB, zC, zE]; (try rfl))); (try simp only [Act.put, zF, zG, zH]))
  (refine TD.val0 (v := ?v20) (by simp only [zA, zB, zC]; rfl) rfl ?hw20 (fun w1 => ?hy20) ?hn20; (case hw20 => rfl); (case hy20 => (go_simp; (try with_reducible rfl))); (try simp only [Act.put, zF, zG, zH]))
  (refine TD.val0 (v := ?v21) (by simp only [zA, zB, zC]; rfl) rfl ?hw21 (fun w1 => ?hy21) ?hn21; (case hw21 => rfl); (case hy21 => (go_simp; (try with_reducible rfl))); (try simp only [Act.put, zF, zG, zH]))
  refine TD.nil (fun w1 hr => ?_)
  have kp7 := hr.box p7 _ (by first | exact Bx.set_same _ _ _ | (simp only [Bx.set_same]; rfl)); dsimp only [Value.cells] at kp7; obtain ⟨gp7, kp7⟩ := kp7
  have m1 := hr.mod
  have hs1 := m1.size
  go_upto_region 3 with fail
  go_wp2_with fail
  go_at_call 50
  refine (newT_c L _).mono ?_
  rintro e w2 ⟨t, m, rfl, ht, hm, hT, m2⟩
  have hb := bldBlock s q n t
  go_wp2_with fail
  go_ret2
  have hs2 := m2.size
  exact ⟨w2.heap.size, t, m, rfl, by omega, by omega, by omega, heap_alloc_new _ _, hT.mod0 ((Mod.refl _ _).alloc _), (m1.then0 m2).alloc _⟩
set_option maxHeartbeats 1600000 in
theorem end_c {p s q n t : Nat} {ea : Option Addr} {en ec : Nat} {oa : Option Addr} {on oc : Nat} {f : UInt64} (w : World) (kp : w.heap[p]? = some (.cells (blkC s q n t false ea en ec oa on oc f) 80 (0, 0))) : Calls Try.prog 16 #[ptrV p] w fun e w' => e = .returned (.int .i64 0) ∧ w'.heap[p]? = some (.cells (blkC s q n t true ea en ec oa on oc f) 80 (0, 0)) ∧ Mod (fun i => i = p) w w' := by
  have KP := Lib.hid kp
  unfold blkC at kp
  go_enter Try.func16, Try.ntmps16
  go_wp2_with fail
  go_at_call 33
  refine (bthere_c _ KP.out).mono ?_
  rintro e w2 ⟨rfl, rfl⟩
  go_wp2_with fail
  go_ret
  rw [setCell_blk kp]
  exact ⟨rfl, heap_setBlock _ _ (lt_size kp), mod_set _ _ _⟩
theorem end2_c {p s q n t : Nat} {ea : Option Addr} {en ec : Nat} {oa : Option Addr} {on oc : Nat} {f : UInt64} (w : World) (kp : w.heap[p]? = some (.cells (blkC s q n t true ea en ec oa on oc f) 80 (0, 0))) : Calls Try.prog 16 #[ptrV p] w fun e w' => e = .returned (.int .i64 23) ∧ Mod (fun _ => False) w w' := by
  have KP := Lib.hid kp
  unfold blkC at kp
  go_enter Try.func16, Try.ntmps16
  go_wp2_with fail
  go_at_call 33
  refine (bthere_c _ KP.out).mono ?_
  rintro e w2 ⟨rfl, rfl⟩
  go_wp2_with fail
  go_ret
  exact ⟨rfl, Mod.refl _ _⟩
theorem ended_c {p s q n t : Nat} {b : Bool} {ea : Option Addr} {en ec : Nat} {oa : Option Addr} {on oc : Nat} {f : UInt64} (w : World) (kp : w.heap[p]? = some (.cells (blkC s q n t b ea en ec oa on oc f) 80 (0, 0))) : Calls Try.prog 17 #[ptrV p] w fun e w' => e = .returned (.bool b) ∧ Mod (fun _ => False) w w' := by
  have KP := Lib.hid kp
  unfold blkC at kp
  go_enter Try.func17, Try.ntmps17
  go_wp2_with fail
  go_at_call 33
  refine (bthere_c _ KP.out).mono ?_
  rintro e w2 ⟨rfl, rfl⟩
  go_wp2_with fail
  go_ret
  exact ⟨rfl, Mod.refl _ _⟩
end Go.Proofs.Ytofpnmoeimjnnaa
namespace Go.Proofs.Ytofpnmoeimjnnaa
open Go.RowKit
open Go.ChangeMaps (setBlock)
set_option linter.unusedSimpArgs false
set_option linter.unusedVariables false
attribute [local go_sem ↓] wlKey ldKey stKey wlAcct ldAcct stAcct wlHold ldHold stHold wlHash ldHash stHash wlSig ldSig stSig wlLim ldLim stLim wlRdy ldRdy stRdy wlOut ldOut stOut wlTd ldTd stTd wlTx ldTx stTx eqKey1
attribute [local go_sem] eqMap neMap av_size av_all av_one hd_size hd_key hd_acct hd_all hd_one zKey_size zAcct_size zHold_size zHash_size zSg_size zLim_size zRdy_size zOut_size zTried_size zTx_size cell_blk frozen_blk kc_ext one_int one_bool one_ptr one_slice one_map kc_one kc_one0 kc_size sgc_size sgc_ext sgc_one0 sgc_one' rdr_size rdr_all rdr_one rdr_tx rdr_rec rdr0 rdr1 rdr6 rdr39 rdr40 rdr41 rdr0' rdr1' rdr6' rdr39' rdr40' rdr41' ocr_size ocr_all ocr_one ocr2 ocr3 ocr4 ocr5 ocr2' ocr3' ocr4' ocr5' tdr_size tdr_all tdr_one tdr_r tdr_o tdr_tx tdr_rec tdr0 tdr1 tdr41 tdr50 tdr51 tdr52 tdr53 tdr0' tdr1' tdr41' tdr50' tdr51' tdr52' tdr53' txr_size txr_all txr_one txr0 txr38 txr39 txr0' txr38' txr39' Value.cells
theorem hashIs : IsKeyT Try.prog 50 5 where
  laid := laid
  row := of_decide_eq_true (by kernel_rfl)
  at2 := by kernel_rfl
  u := Try.underlying50
  e := Try.underlying5
  cK := by kernel_rfl
  cE := by kernel_rfl
  kt := by kernel_rfl
theorem hashT : KeyT Try.prog 50 kv := hashIs.keyT
theorem eqHash (a b : Key) (w : World) : (Op.equalIn 10000 50 (.agg (kc a)) (.agg (kc b))).run Try.prog w = .ok (decide (a = b)) w := hashIs.eqIn 9998 a b w
attribute [local go_sem ↓] eqHash
theorem results_cell3 {P : Program} {fn : Func} {t u v : Tmp} {T : TypeId} {tmps : Array Value} {p : Addr} {x : Value} {w : World} (h : fn.results = #[.cell t T, .tmp u, .tmp v]) (ht : tmps.getD t undef = .pointer (some p))
    (hl : (Instr.loadAt T (.pointer (some p))).run P w = .ok x w) : (results fn tmps).run P w = .ok (.tuple #[x, tmps.getD u undef, tmps.getD v undef]) w := by
  have hl2 : (loadVar T p).run P w = .ok x w := by simpa [Instr.loadAt, Instr.sureAddr] using hl
  rw [zD] at ht
  unfold results
  rw [h]
  have hmap : ∀ {α β : Type} (f : α → β) (x : Sem α) (w : World), (f <$> x).run P w = (x.run P w).andThen fun a w => .ok (f a) w := fun f x w => by
    show (x >>= fun a => pure (f a)).run P w = _
    rw [Sem.run_bind]
    rfl
  simp [ht, hl2, hmap, Sem.run_bind, Sem.run_pure, Result.andThen_ok, asAddr]
structure QC (C : Array Value) (nx mn : Nat) : Prop where
  size : C.size = 4803
  c0 : C[4800]? = some (.int .i64 (nx : Int))
  c1 : C[4801]? = some (.int .i64 (mn : Int))
  c2 : C[4802]? = some (.int .i64 1)
  g0 : ∀ h : 4800 < C.size, C[4800] = .int .i64 (nx : Int)
  g1 : ∀ h : 4801 < C.size, C[4801] = .int .i64 (mn : Int)
  g2 : ∀ h : 4802 < C.size, C[4802] = .int .i64 1
theorem qc_of {R : List Key} (h : R.length = 150) (nx mn : Nat) : QC (qr R nx mn 1) nx mn := ⟨qr_size h _ _ _, qr_get h _ _ _ 0, qr_get h _ _ _ 1, qr_get h _ _ _ 2, fun hh => at_get (qr_get h _ _ _ 0) hh, fun hh => at_get (qr_get h _ _ _ 1) hh, fun hh => at_get (qr_get h _ _ _ 2) hh⟩
theorem qthere_c (q : Nat) (C : Array Value) (nx mn : Nat) (w : World) (kq : w.heap[q]? = some (.cells C 136 (0, 0))) (h : QC C nx mn) : Calls Try.prog 56 #[ptrV q] w fun e w' => e = .returned (.bool true) ∧ w = w' := by
  obtain ⟨hs, h0, h1, h2, g0, g1, g2⟩ := h
  go_enter Try.func56, Try.ntmps56
  go_wp2
  go_ret
  exact ⟨rfl, rfl⟩
theorem qat_c (q : Nat) (C : Array Value) (nx mn i : Nat) (w : World) (kq : w.heap[q]? = some (.cells C 136 (0, 0))) (h : QC C nx mn) (hn : nx < 150) (hi : i < 150) : Calls Try.prog 84 #[ptrV q, .int .i64 (i : Int)] w fun e w' => e = .returned (.int .i64 (((nx + 299 - i) % 150 : Nat) : Int)) ∧ w = w' := by
  obtain ⟨hs, h0, h1, h2, g0, g1, g2⟩ := h
  obtain ⟨d, hd⟩ : ∃ d, d + i = nx + 299 := ⟨nx + 299 - i, by omega⟩
  have e0 : nx + 299 - i = d := by omega
  rw [e0]
  have e1 : IntKind.i64.wrap ((nx : Int) - 1) = (nx : Int) - 1 := IntWalk.i64_in _ (by omega)
  have e2 : IntKind.i64.wrap ((nx : Int) - 1 - (i : Int)) = (nx : Int) - 1 - (i : Int) := IntWalk.i64_in _ (by omega)
  have e3 : IntKind.i64.wrap ((nx : Int) - 1 - (i : Int) + 300) = (d : Int) := (IntWalk.i64_in _ (by omega)).trans (by omega)
  clear e0
  go_enter Try.func84, Try.ntmps84
  go_wp2
  go_ret
  exact ⟨by go_num, rfl⟩
theorem notin_take {L : List Key} {k x : Key} {i : Nat} (h : k ∉ L.take i) (hx : L[i]? = some x) (hne : x ≠ k) : k ∉ L.take (i + 1) := by
  rw [List.take_add_one, hx]
  simp only [Option.toList_some, List.mem_append, List.mem_singleton]
  rintro (h2 | h2)
  · exact h h2
  · exact hne h2.symm
set_option maxRecDepth 20000 in
set_option maxHeartbeats 1600000 in
theorem age_c (q : Nat) (L : List Key) (k : Key) (w : World) (h : QuAt w q L) : Calls Try.prog 57 #[ptrV q, .agg (kc k)] w fun e w' => ∃ i : Nat, e = .returned (.tuple #[.int .i64 (i : Int), .bool (decide (k ∈ L))]) ∧ Mod (fun _ => False) w w' := by
  obtain ⟨R, nx, kQ, hq⟩ := h
  have hnx := hq.nlt
  have hll := hq.len
  obtain ⟨C, hC⟩ : ∃ C, C = qr R nx L.length 1 := ⟨_, rfl⟩
  have HC : Hid (QC C nx L.length) := Lib.hid (by rw [hC]; exact qc_of hq.size _ _)
  have HR : Hid (∀ i, i < L.length → ∀ x, L[i]? = some x → C.extract ((nx + 299 - i) % 150 * 32) ((nx + 299 - i) % 150 * 32 + 32) = kc x) := Lib.hid (fun i hi x hx => by
    rw [hC]
    exact qr_ring hq.size _ _ _ ((hq.at' i hi).trans hx))
  rw [← hC] at kQ
  clear hC hq
  have HS := Lib.hid HC.out.size
  obtain ⟨hs, h0, h1, h2, g0, g1, g2⟩ := HC.out
  go_enter Try.func57, Try.ntmps57
  go_upto_region 0 with fail
  have LkQ := lt_size kQ
  refine wp_pass0 (C := fun _ _ _ => False) (κ := fun i => [3, 0, 0].getD i 0) [0, 1, 2] (by kernel_rfl) (by kernel_rfl) (fun _ _ d _ _ h => by cases d <;> first | exact h | exact absurd h (hP _ _ _)) ?_
  (refine TD.box (v := ?v1) (by simp only [zA, zB, zC]; rfl) rfl ?hw1 rfl rfl ?hx1 (fun p3 hp3 => ?hn1); (case hw1 => rfl); (case hx1 => (simp only [Act.eval, zD, zA, zB, zC, zE]; (try rfl))); (try simp only [Act.put, zF, zG, zH]))
  (refine TD.val0 (v := ?v2) (by simp only [zA, zB, zC]; rfl) rfl ?hw2 (fun w1 => ?hy2) ?hn2; (case hw2 => rfl); (case hy2 => (go_simp; (try with_reducible rfl))); (try simp only [Act.put, zF, zG, zH]))
  (refine TD.val0 (v := ?v3) (by simp only [zA, zB, zC]; rfl) rfl ?hw3 (fun w1 => ?hy3) ?hn3; (case hw3 => rfl); (case hy3 => (go_simp; (try with_reducible rfl))); (try simp only [Act.put, zF, zG, zH]))
  refine TD.nil (fun w1 hr => ?_)
  replace kQ := hr.mod.at kQ (fun h => h)
  have kp3 := hr.box p3 _ (by first | exact Bx.set_same _ _ _ | (simp only [Bx.set_same]; rfl)); dsimp only [Value.cells] at kp3; obtain ⟨gp3, kp3⟩ := kp3
  have m1 := hr.mod
  clear hr
  go_wp2_with fail
  refine wp_scope_straight ?_
  go_wp2_with fail
  go_at_call 56
  refine (qthere_c q C nx L.length _ kQ HC.out).mono ?_
  rintro e w2 ⟨rfl, rfl⟩
  go_wp2_with fail
  apply wp_label
  go_wp2_with fail
  go_loopw [4, 5, 14] (fun s4 s5 s14 ws => ∃ i : Nat, i ≤ L.length ∧ s14 = .int .i64 (i : Int) ∧ s4 = .int .i64 0 ∧ s5 = .bool false ∧ Hid (k ∉ L.take i) ∧ Mod (fun _ => False) w1 ws) (fun _ _ s14 _ => L.length - (intOf s14).toNat)
  case atStart => exact ⟨0, Nat.zero_le _, rfl, rfl, rfl, Lib.hid (by simp), Mod.refl _ _⟩
  case round =>
    obtain ⟨i, hi, rfl, rfl, rfl, HT, hm⟩ := hrel
    replace kQ := hm.at0 kQ
    replace kp3 := hm.at0 kp3
    by_cases hlt : i < L.length
    · have hd := decide_eq_true hlt
      obtain ⟨x, hx⟩ : ∃ x, L[i]? = some x := ⟨_, List.getElem?_eq_getElem hlt⟩
      have he := HR.out i hlt x hx
      have HX := Lib.hid hx
      obtain ⟨j, hj⟩ : ∃ j, (nx + 299 - i) % 150 = j := ⟨_, rfl⟩
      have hj1 : ((j : Nat) : Int) < 150 := by omega
      have hj2 : j * 32 ≤ 4771 := by omega
      rw [hj] at he
      have HJ := Lib.hid hj
      clear hx hj
      by_cases hxk : x = k
      · have HE : Hid (k ∈ L) := Lib.hid (by rw [← hxk]; exact List.mem_of_getElem? HX.out)
        have hne := decide_eq_true hxk
        clear hxk
        go_upto_region 6 with fail
        have LkQ := lt_size kQ
        have Lkp3 := lt_size kp3
        refine wp_gpass (T0 := fun _ => False) (K := fun _ _ => True) (κ := fun i => [0, 0, 0, 6, 0, 0, 0, 0, 0, 0].getD i 0) (υ := fun i => [[], [], [], [], [], [], [], [], [], []].getD i []) [0, 1, 2, 3, 4, 5, 6, 7, 8, 9] (by kernel_rfl) (by kernel_rfl) (Good.true).cl (trivial) (fun _ h => h.elim) ?_
        have gK := Good.true
        (refine TG.v0 (v := ?v4) (by simp only [zA, zB, zC]; rfl) rfl ?hw4 (fun w1 => ?hy4) ?hn4; (case hw4 => rfl); (case hy4 => (go_simp; (try with_reducible rfl))); (try simp only [Act.put, zF, zG, zH]))
        (refine TG.v0 (v := ?v5) (by simp only [zA, zB, zC]; rfl) rfl ?hw5 (fun w1 => ?hy5) ?hn5; (case hw5 => rfl); (case hy5 => (go_simp; (try with_reducible rfl))); (try simp only [Act.put, zF, zG, zH]))
        (refine TG.v0 (v := ?v6) (by simp only [zA, zB, zC]; rfl) rfl ?hw6 (fun w1 => ?hy6) ?hn6; (case hw6 => rfl); (case hy6 => (go_simp; (try with_reducible rfl))); (try simp only [Act.put, zF, zG, zH]))
        (refine TG.callN (f := ?f7) (args := ?r7) (fun v => v = .int .i64 (j : Int)) gK (by simp only [zA, zB, zC]; rfl) rfl ?hw7 (fun w1 => ?hy7) (fun T wq kq ltq hSq ub => ?hsp7) ?hn7; (case hw7 => rfl); (case hy7 => (go_simp; (first | with_reducible rfl | (constructor <;> with_reducible rfl)))); (case hsp7 => (have kQq := hSq.at kQ (by intro hT; first | exact hT | exact absurd hT (by assumption) | omega | (simp only at hT; omega)); have kp3q := hSq.at kp3 (by intro hT; first | exact hT | exact absurd hT (by assumption) | omega | (simp only at hT; omega)); exact (qat_c q C nx L.length i wq kQq HC.out hnx (by omega)).mono (fun e w' h => ⟨_, h.1, by rw [HJ.out], by rw [h.2]; exact Mod.refl _ _⟩))); rintro v7 hC; subst hC; (try simp only [Act.put, zF, zG, zH]))
        (refine TG.v0 (v := ?v8) (by simp only [zA, zB, zC]; rfl) rfl ?hw8 (fun w1 => ?hy8) ?hn8; (case hw8 => rfl); (case hy8 => (go_simp; (try with_reducible rfl))); (try simp only [Act.put, zF, zG, zH]))
        (refine TG.v0 (v := ?v9) (by simp only [zA, zB, zC]; rfl) rfl ?hw9 (fun w1 => ?hy9) ?hn9; (case hw9 => rfl); (case hy9 => (go_simp; (try with_reducible rfl))); (try simp only [Act.put, zF, zG, zH]))
        (refine TG.v0 (v := ?v10) (by simp only [zA, zB, zC]; rfl) rfl ?hw10 (fun w1 => ?hy10) ?hn10; (case hw10 => rfl); (case hy10 => (go_simp; (try with_reducible rfl))); (try simp only [Act.put, zF, zG, zH]))
        (refine TG.load (v := ?v11) (p := ?p11) (by simp only [zA, zB, zC]; rfl) rfl ?hw11 rfl ?hx11 (fun wq hSq => ?hy11) ?hn11; (case hw11 => rfl); (case hx11 => (simp only [Act.eval, zD, zA, zB, zC, zE]; (try rfl))); (case hy11 => (have kQq := hSq.at kQ (by intro hT; first | exact hT | exact absurd hT (by assumption) | omega | (simp only at hT; omega)); have kp3q := hSq.at kp3 (by intro hT; first | exact hT | exact absurd hT (by assumption) | omega | (simp only at hT; omega)); go_simp; (try with_reducible rfl))); (try simp only [Act.put, zF, zG, zH]))
        (refine TG.load (v := ?v12) (p := ?p12) (by simp only [zA, zB, zC]; rfl) rfl ?hw12 rfl ?hx12 (fun wq hSq => ?hy12) ?hn12; (case hw12 => rfl); (case hx12 => (simp only [Act.eval, zD, zA, zB, zC, zE]; (try rfl))); (case hy12 => (have kQq := hSq.at kQ (by intro hT; first | exact hT | exact absurd hT (by assumption) | omega | (simp only at hT; omega)); have kp3q := hSq.at kp3 (by intro hT; first | exact hT | exact absurd hT (by assumption) | omega | (simp only at hT; omega)); go_simp; (try with_reducible rfl))); (try simp only [Act.put, zF, zG, zH]))
        (refine TG.v0 (v := ?v13) (by simp only [zA, zB, zC]; rfl) rfl ?hw13 (fun w1 => ?hy13) ?hn13; (case hw13 => rfl); (case hy13 => (go_simp; (try with_reducible rfl))); (try simp only [Act.put, zF, zG, zH]))
        refine TG.nil (fun w3 ⟨TR, hr⟩ => ?_)
        replace kQ := hr.mod.at kQ (by intro hT; first | exact hT | exact absurd hT (by assumption) | omega | (simp only at hT; omega))
        replace kp3 := hr.mod.at kp3 (by intro hT; first | exact hT | exact absurd hT (by assumption) | omega | (simp only at hT; omega))
        clear gK
        have hm3 := hm.then0 hr.mod
        clear hr
        go_wp2_with fail
        (try simp only [Exit.noGoto])
        go_ret2
        exact ⟨i, by rw [decide_eq_true HE.out]; rfl, m1.then0 hm3⟩
      · have HN := Lib.hid (notin_take HT.out HX.out hxk)
        have hne := decide_eq_false hxk
        clear hxk
        go_upto_region 6 with fail
        have LkQ := lt_size kQ
        have Lkp3 := lt_size kp3
        refine wp_gpass (T0 := fun _ => False) (K := fun _ _ => True) (κ := fun i => [0, 0, 0, 6, 0, 0, 0, 0, 0, 0].getD i 0) (υ := fun i => [[], [], [], [], [], [], [], [], [], []].getD i []) [0, 1, 2, 3, 4, 5, 6, 7, 8, 9] (by kernel_rfl) (by kernel_rfl) (Good.true).cl (trivial) (fun _ h => h.elim) ?_
        have gK := Good.true
        (refine TG.v0 (v := ?v14) (by simp only [zA, zB, zC]; rfl) rfl ?hw14 (fun w1 => ?hy14) ?hn14; (case hw14 => rfl); (case hy14 => (go_simp; (try with_reducible rfl))); (try simp only [Act.put, zF, zG, zH]))
        (refine TG.v0 (v := ?v15) (by simp only [zA, zB, zC]; rfl) rfl ?hw15 (fun w1 => ?hy15) ?hn15; (case hw15 => rfl); (case hy15 => (go_simp; (try with_reducible rfl))); (try simp only [Act.put, zF, zG, zH]))
        (refine TG.v0 (v := ?v16) (by simp only [zA, zB, zC]; rfl) rfl ?hw16 (fun w1 => ?hy16) ?hn16; (case hw16 => rfl); (case hy16 => (go_simp; (try with_reducible rfl))); (try simp only [Act.put, zF, zG, zH]))
        (refine TG.callN (f := ?f17) (args := ?r17) (fun v => v = .int .i64 (j : Int)) gK (by simp only [zA, zB, zC]; rfl) rfl ?hw17 (fun w1 => ?hy17) (fun T wq kq ltq hSq ub => ?hsp17) ?hn17; (case hw17 => rfl); (case hy17 => (go_simp; (first | with_reducible rfl | (constructor <;> with_reducible rfl)))); (case hsp17 => (have kQq := hSq.at kQ (by intro hT; first | exact hT | exact absurd hT (by assumption) | omega | (simp only at hT; omega)); have kp3q := hSq.at kp3 (by intro hT; first | exact hT | exact absurd hT (by assumption) | omega | (simp only at hT; omega)); exact (qat_c q C nx L.length i wq kQq HC.out hnx (by omega)).mono (fun e w' h => ⟨_, h.1, by rw [HJ.out], by rw [h.2]; exact Mod.refl _ _⟩))); rintro v17 hC; subst hC; (try simp only [Act.put, zF, zG, zH]))
        (refine TG.v0 (v := ?v18) (by simp only [zA, zB, zC]; rfl) rfl ?hw18 (fun w1 => ?hy18) ?hn18; (case hw18 => rfl); (case hy18 => (go_simp; (try with_reducible rfl))); (try simp only [Act.put, zF, zG, zH]))
        (refine TG.v0 (v := ?v19) (by simp only [zA, zB, zC]; rfl) rfl ?hw19 (fun w1 => ?hy19) ?hn19; (case hw19 => rfl); (case hy19 => (go_simp; (try with_reducible rfl))); (try simp only [Act.put, zF, zG, zH]))
        (refine TG.v0 (v := ?v20) (by simp only [zA, zB, zC]; rfl) rfl ?hw20 (fun w1 => ?hy20) ?hn20; (case hw20 => rfl); (case hy20 => (go_simp; (try with_reducible rfl))); (try simp only [Act.put, zF, zG, zH]))
        (refine TG.load (v := ?v21) (p := ?p21) (by simp only [zA, zB, zC]; rfl) rfl ?hw21 rfl ?hx21 (fun wq hSq => ?hy21) ?hn21; (case hw21 => rfl); (case hx21 => (simp only [Act.eval, zD, zA, zB, zC, zE]; (try rfl))); (case hy21 => (have kQq := hSq.at kQ (by intro hT; first | exact hT | exact absurd hT (by assumption) | omega | (simp only at hT; omega)); have kp3q := hSq.at kp3 (by intro hT; first | exact hT | exact absurd hT (by assumption) | omega | (simp only at hT; omega)); go_simp; (try with_reducible rfl))); (try simp only [Act.put, zF, zG, zH]))
        (refine TG.load (v := ?v22) (p := ?p22) (by simp only [zA, zB, zC]; rfl) rfl ?hw22 rfl ?hx22 (fun wq hSq => ?hy22) ?hn22; (case hw22 => rfl); (case hx22 => (simp only [Act.eval, zD, zA, zB, zC, zE]; (try rfl))); (case hy22 => (have kQq := hSq.at kQ (by intro hT; first | exact hT | exact absurd hT (by assumption) | omega | (simp only at hT; omega)); have kp3q := hSq.at kp3 (by intro hT; first | exact hT | exact absurd hT (by assumption) | omega | (simp only at hT; omega)); go_simp; (try with_reducible rfl))); (try simp only [Act.put, zF, zG, zH]))
        (refine TG.v0 (v := ?v23) (by simp only [zA, zB, zC]; rfl) rfl ?hw23 (fun w1 => ?hy23) ?hn23; (case hw23 => rfl); (case hy23 => (go_simp; (try with_reducible rfl))); (try simp only [Act.put, zF, zG, zH]))
        refine TG.nil (fun w3 ⟨TR, hr⟩ => ?_)
        replace kQ := hr.mod.at kQ (by intro hT; first | exact hT | exact absurd hT (by assumption) | omega | (simp only at hT; omega))
        replace kp3 := hr.mod.at kp3 (by intro hT; first | exact hT | exact absurd hT (by assumption) | omega | (simp only at hT; omega))
        clear gK
        have hm3 := hm.then0 hr.mod
        clear hr
        go_wp2_with fail
        go_roundw
        case rel => exact ⟨i + 1, by omega, by go_num, rfl, rfl, HN, hm3⟩
        case measure => simp [intOf]; omega
    · have hd := decide_eq_false hlt
      have HE : Hid (k ∉ L) := Lib.hid (by
        have h1 := HT.out
        rw [List.take_of_length_le (by omega)] at h1
        exact h1)
      go_wp2_with fail
      (try simp only [Exit.noGoto])
      go_ret2
      exact ⟨0, by rw [decide_eq_false HE.out]; rfl, m1.then0 hm⟩
def pushQ (L : List Key) (k : Key) : List Key := if k ∈ L then L else (k :: L).take 150
theorem zHash_ext : zHash.extract 0 32 = zHash := kc_ext key0
theorem zHash_one0 : zHash.all (·.oneCell') 0 32 = true := kc_one0 key0
attribute [local go_sem] zHash_ext zHash_one0
theorem ldHashAt {w : World} {p : Nat} {k : Key} {U : TypeId} (h : w.heap[p]? = some (.cells (kc k) U (0, 0))) : (Instr.loadAt 50 (.pointer (some ⟨p, 0, none⟩))).run Try.prog w = .ok (.agg (kc k)) w := by
  rw [ldHash, h]
  simp
set_option maxRecDepth 20000 in
set_option maxHeartbeats 3200000 in
theorem push_c (q : Nat) (L : List Key) (k : Key) (w : World) (h : QuAt w q L) : Calls Try.prog 27 #[ptrV q, .agg (kc k)] w fun e w' => (∃ v, e = .returned v) ∧ QuAt w' q (pushQ L k) ∧ Mod (fun i => i = q) w w' := by
  have H := Lib.hid h
  obtain ⟨R, nx, kQ, hq⟩ := h
  have HQ := Lib.hid hq
  have hnx := hq.nlt
  have hll := hq.len
  obtain ⟨C, hC⟩ : ∃ C, C = qr R nx L.length 1 := ⟨_, rfl⟩
  have HC : Hid (QC C nx L.length) := Lib.hid (by rw [hC]; exact qc_of hq.size _ _)
  rw [← hC] at kQ
  clear hq
  have HCC := Lib.hid hC
  clear hC
  go_enter Try.func27, Try.ntmps27
  go_upto_region 0 with fail
  have LkQ := lt_size kQ
  refine wp_pass0 (C := fun _ _ _ => False) (κ := fun i => [3, 3, 0, 0].getD i 0) [0, 1, 2, 3] (by kernel_rfl) (by kernel_rfl) (fun _ _ d _ _ h => by cases d <;> first | exact h | exact absurd h (hP _ _ _)) ?_
  (refine TD.box (v := ?v24) (by simp only [zA, zB, zC]; rfl) rfl ?hw24 rfl rfl ?hx24 (fun p3 hp3 => ?hn24); (case hw24 => rfl); (case hx24 => (simp only [Act.eval, zD, zA, zB, zC, zE]; (try rfl))); (try simp only [Act.put, zF, zG, zH]))
  (refine TD.allocB (by simp only [zA, zB, zC]; rfl) rfl ?hw25 rfl rfl alHash (fun p4 hp4 => ?hn25); (case hw25 => rfl); (try simp only [Act.put, zF, zG, zH]))
  obtain ⟨ne_p4_p3, hp4⟩ := Bx.set_none hp4
  (refine TD.val0 (v := ?v26) (by simp only [zA, zB, zC]; rfl) rfl ?hw26 (fun w1 => ?hy26) ?hn26; (case hw26 => rfl); (case hy26 => (go_simp; (try with_reducible rfl))); (try simp only [Act.put, zF, zG, zH]))
  (refine TD.val0 (v := ?v27) (by simp only [zA, zB, zC]; rfl) rfl ?hw27 (fun w1 => ?hy27) ?hn27; (case hw27 => rfl); (case hy27 => (go_simp; (try with_reducible rfl))); (try simp only [Act.put, zF, zG, zH]))
  refine TD.nil (fun w1 hr => ?_)
  replace kQ := hr.mod.at kQ (fun h => h)
  have kp3 := hr.box p3 _ (by first | exact Bx.set_same _ _ _ | (simp only [Bx.set_ne _ (Ne.symm ne_p4_p3), Bx.set_ne _ ne_p4_p3, Bx.set_same]; rfl)); dsimp only [Value.cells] at kp3; obtain ⟨gp3, kp3⟩ := kp3
  have kp4 := hr.box p4 _ (by first | exact Bx.set_same _ _ _ | (simp only [Bx.set_ne _ (Ne.symm ne_p4_p3), Bx.set_ne _ ne_p4_p3, Bx.set_same]; rfl)); dsimp only [Value.cells] at kp4; obtain ⟨gp4, kp4⟩ := kp4
  have m1 := hr.mod
  clear hr
  go_wp2_with fail
  go_at_call 56
  refine (qthere_c q C nx L.length _ kQ HC.out).mono ?_
  rintro e w2 ⟨rfl, rfl⟩
  go_upto_region 3 with fail
  go_wp2_with fail
  go_at_call 57
  refine (age_c q L k _ (H.out.mod0 m1)).mono ?_
  rintro e w2 ⟨a, rfl, m2⟩
  replace kQ := m2.at0 kQ
  replace kp3 := m2.at0 kp3
  replace kp4 := m2.at0 kp4
  replace m2 := m1.then0 m2
  have hq4 : q ≠ p4 := by
    have := lt_size kQ
    intro e
    subst e
    have h1 := H.out
    obtain ⟨_, _, h2, _⟩ := h1
    have := lt_size h2
    omega
  have hq4' : p4 ≠ q := hq4.symm
  have HM2 : Hid (Mod (fun i => i = q) w w2) := Lib.hid (m2.mono (fun _ _ h => h.elim))
  have hp4 : w.heap.size ≤ p4 := by omega
  clear m1 m2
  by_cases hk : k ∈ L
  · have HK := Lib.hid hk
    rw [decide_eq_true hk]
    clear hk
    go_upto_region 5 with fail
    have LkQ := lt_size kQ
    have Lkp4 := lt_size kp4
    refine wp_pass0 (C := fun _ _ _ => False) (κ := fun i => [1, 5, 0, 0].getD i 0) [0, 2, 3, 1] (by kernel_rfl) (by kernel_rfl) (fun _ _ d _ _ h => by cases d <;> first | exact h | exact absurd h (hP _ _ _)) ?_
    (refine TD.load (v := ?v28) (p := ?p28) (Mod.refl _ _) (by simp only [zA, zB, zC]; rfl) rfl ?hw28 rfl ?hx28 (fun wq hSq => ?hy28) ?hn28; (case hw28 => rfl); (case hx28 => (simp only [Act.eval, zD, zA, zB, zC, zE]; (try rfl))); (case hy28 => (have kQq := hSq.at kQ (fun h => h); have kp4q := hSq.at kp4 (fun h => h); go_simp; (try with_reducible rfl))); (try simp only [Act.put, zF, zG, zH]))
    (refine TD.val0 (v := ?v29) (by simp only [zA, zB, zC]; rfl) rfl ?hw29 (fun w1 => ?hy29) ?hn29; (case hw29 => rfl); (case hy29 => (go_simp; (try with_reducible rfl))); (try simp only [Act.put, zF, zG, zH]))
    (refine TD.val0 (v := ?v30) (by simp only [zA, zB, zC]; rfl) rfl ?hw30 (fun w1 => ?hy30) ?hn30; (case hw30 => rfl); (case hy30 => (go_simp; (try with_reducible rfl))); (try simp only [Act.put, zF, zG, zH]))
    refine TD.eff (by simp only [zA, zB, zC]; rfl) rfl (fun wE hr => ?_)
    replace kQ := hr.mod.at0 kQ
    replace kp4 := hr.mod.at0 kp4
    have mE := hr.mod
    (refine eff_store (X := ?X31) (Y := ?Y31) (w' := ?w31) (by simp only [zA, zB, zC]; rfl) ?hw31 rfl ?hx31 ?hz31 ?hy31 ?hn31; (case hw31 => rfl); (case hx31 => (simp only [Act.eval, zD, zA, zB, zC, zE]; (try rfl))); (case hz31 => (simp only [Act.eval, zD, zA, zB, zC, zE]; (try rfl))); (case hy31 => (go_simp; (try with_reducible rfl))))
    (first | refine TE.nil_set kp4 (fun w5 kp4 mS => ?_) | refine TE.nil_setCell kp4 (fun w5 kp4 mS => ?_))
    (try simp only [Array.setIfInBounds, zF, zG, zH] at kp4)
    replace kQ := mS.at_ne kQ (by omega)
    replace HM2 := Lib.hid (HM2.out.then ((mE.mono (T := fun i => i = p4) (fun _ _ h => h.elim)).trans mS) (fun i hi e => by omega))
    go_wp2_with fail
    (try simp only [Exit.noGoto])
    refine bodyPost_ret (results_cell3 (x := .agg zHash) rfl rfl (by rw [ldHash]; simp [kp4, zHash_size, zHash_ext])) rfl ⟨⟨_, rfl⟩, ?_, HM2.out⟩
    rw [show pushQ L k = L from if_pos HK.out]
    exact ⟨R, nx, by rw [← HCC.out]; exact kQ, HQ.out⟩
  · have HK := Lib.hid hk
    rw [decide_eq_false hk]
    clear hk
    obtain ⟨hs, h0, h1, h2, g0, g1, g2⟩ := HC.out
    by_cases hful : L.length = 150
    · have hd : decide (L.length = 150) = true := decide_eq_true hful
      have hdi : ((L.length : Int) == 150) = true := by rw [beq_iff_eq]; omega
      have HC2 : Hid (QC C nx 150) := by rw [← hful]; exact HC
      have HC2E : Hid (C = qr R nx ((150 : Nat) : Int) 1) := Lib.hid (by rw [HCC.out, hful])
      obtain ⟨x, hx⟩ : ∃ x, R[nx]? = some x := ⟨_, List.getElem?_eq_getElem (by rw [HQ.out.size]; exact hnx)⟩
      have he : C.extract (nx * 32) (nx * 32 + 32) = kc x := by
        rw [HCC.out]
        exact qr_ring HQ.out.size _ _ _ hx
      have hb : nx * 32 ≤ 4771 := by omega
      have hb2 : ((nx : Nat) : Int) < 150 := by omega
      clear hx
      go_upto_region 8 with fail
      have LkQ := lt_size kQ
      have Lkp4 := lt_size kp4
      have Lkp3 := lt_size kp3
      refine wp_pass (C := fun _ _ _ => False) (κ := fun i => [0, 0, 0, 0, 1, 0, 0, 0, 1, 5].getD i 0) [0, 1, 2, 3, 4, 5, 6, 7, 8, 9] (by kernel_rfl) (by kernel_rfl) (fun _ _ d _ _ h => by cases d <;> first | exact h | exact absurd h (hP _ _ _)) ?_
      (refine TD.val0 (v := ?v32) (by simp only [zA, zB, zC]; rfl) rfl ?hw32 (fun w1 => ?hy32) ?hn32; (case hw32 => rfl); (case hy32 => (go_simp; (try with_reducible rfl))); (try simp only [Act.put, zF, zG, zH]))
      (refine TD.val0 (v := ?v33) (by simp only [zA, zB, zC]; rfl) rfl ?hw33 (fun w1 => ?hy33) ?hn33; (case hw33 => rfl); (case hy33 => (go_simp; (try with_reducible rfl))); (try simp only [Act.put, zF, zG, zH]))
      (refine TD.val0 (v := ?v34) (by simp only [zA, zB, zC]; rfl) rfl ?hw34 (fun w1 => ?hy34) ?hn34; (case hw34 => rfl); (case hy34 => (go_simp; (try with_reducible rfl))); (try simp only [Act.put, zF, zG, zH]))
      (refine TD.val0 (v := ?v35) (by simp only [zA, zB, zC]; rfl) rfl ?hw35 (fun w1 => ?hy35) ?hn35; (case hw35 => rfl); (case hy35 => (go_simp; (try with_reducible rfl))); (try simp only [Act.put, zF, zG, zH]))
      (refine TD.load (v := ?v36) (p := ?p36) (Mod.refl _ _) (by simp only [zA, zB, zC]; rfl) rfl ?hw36 rfl ?hx36 (fun wq hSq => ?hy36) ?hn36; (case hw36 => rfl); (case hx36 => (simp only [Act.eval, zD, zA, zB, zC, zE]; (try rfl))); (case hy36 => (have kQq := hSq.at kQ (fun h => h); have kp4q := hSq.at kp4 (fun h => h); have kp3q := hSq.at kp3 (fun h => h); go_simp; (try with_reducible rfl))); (try simp only [Act.put, zF, zG, zH]))
      (refine TD.val0 (v := ?v37) (by simp only [zA, zB, zC]; rfl) rfl ?hw37 (fun w1 => ?hy37) ?hn37; (case hw37 => rfl); (case hy37 => (go_simp; (try with_reducible rfl))); (try simp only [Act.put, zF, zG, zH]))
      (refine TD.val0 (v := ?v38) (by simp only [zA, zB, zC]; rfl) rfl ?hw38 (fun w1 => ?hy38) ?hn38; (case hw38 => rfl); (case hy38 => (go_simp; (try with_reducible rfl))); (try simp only [Act.put, zF, zG, zH]))
      (refine TD.val0 (v := ?v39) (by simp only [zA, zB, zC]; rfl) rfl ?hw39 (fun w1 => ?hy39) ?hn39; (case hw39 => rfl); (case hy39 => (go_simp; (try with_reducible rfl))); (try simp only [Act.put, zF, zG, zH]))
      (refine TD.load (v := ?v40) (p := ?p40) (Mod.refl _ _) (by simp only [zA, zB, zC]; rfl) rfl ?hw40 rfl ?hx40 (fun wq hSq => ?hy40) ?hn40; (case hw40 => rfl); (case hx40 => (simp only [Act.eval, zD, zA, zB, zC, zE]; (try rfl))); (case hy40 => (have kQq := hSq.at kQ (fun h => h); have kp4q := hSq.at kp4 (fun h => h); have kp3q := hSq.at kp3 (fun h => h); go_simp; (try with_reducible rfl))); (try simp only [Act.put, zF, zG, zH]))
      refine TD.eff (by simp only [zA, zB, zC]; rfl) rfl (fun wE hr => ?_)
      replace kQ := hr.mod.at0 kQ
      replace kp4 := hr.mod.at0 kp4
      replace kp3 := hr.mod.at0 kp3
      have mE := hr.mod
      (refine eff_store (X := ?X41) (Y := ?Y41) (w' := ?w41) (by simp only [zA, zB, zC]; rfl) ?hw41 rfl ?hx41 ?hz41 ?hy41 ?hn41; (case hw41 => rfl); (case hx41 => (simp only [Act.eval, zD, zA, zB, zC, zE]; (try rfl))); (case hz41 => (simp only [Act.eval, zD, zA, zB, zC, zE]; (try rfl))); (case hy41 => (go_simp; (try with_reducible rfl))))
      (first | refine TE.nil_set kp4 (fun w3 kp4 mS => ?_) | refine TE.nil_setCell kp4 (fun w3 kp4 mS => ?_))
      (try simp only [Array.setIfInBounds, zF, zG, zH] at kp4)
      replace kQ := mS.at_ne kQ (by omega)
      replace kp3 := mS.at_ne kp3 (by omega)
      replace HM2 := Lib.hid (HM2.out.then ((mE.mono (T := fun i => i = p4) (fun _ _ h => h.elim)).trans mS) (fun i hi e => by omega))
      clear hr mE mS hs h0 h1 h2 g0 g1 g2 hb hb2
      obtain ⟨C2, rfl⟩ : ∃ C2 : Array Value, C2 = C := ⟨_, rfl⟩
      obtain ⟨mn, hmn⟩ : ∃ mn : Nat, mn = 150 := ⟨_, rfl⟩
      rw [← hmn] at HC2 HC2E
      have HLn : Hid ((pushQ L k).length = mn) := Lib.hid (by
        rw [show pushQ L k = (k :: L).take 150 from if_neg HK.out, HQ.out.many, if_pos hful, hmn])
      clear hmn hful hd hdi
      obtain ⟨y4, rfl⟩ : ∃ y4, y4 = x := ⟨_, rfl⟩
      have hC2s : C2.size = 4803 := HC2.out.size
      obtain ⟨n1, hn1⟩ : ∃ n1, nx + 1 = n1 := ⟨_, rfl⟩
      have HN1 := Lib.hid hn1
      obtain ⟨nx', hnx'⟩ : ∃ nx', n1 % 150 = nx' := ⟨_, rfl⟩
      obtain ⟨C3, hC3⟩ : ∃ C3, C3 = qr (R.set nx k) nx (mn : Int) 1 := ⟨_, rfl⟩
      obtain ⟨C4, hC4⟩ : ∃ C4, C4 = qr (R.set nx k) nx' (mn : Int) 1 := ⟨_, rfl⟩
      have e3 : wr C2 (nx * 32) (kc k).toList = C3 := by rw [HC2E.out, hC3]; exact qr_put HQ.out.size _ _ _ HQ.out.nlt k
      have e4 : C3.setIfInBounds 4800 (.int .i64 (nx' : Int)) = C4 := by
        rw [hC3, hC4]
        exact qr_set (by rw [List.length_set]; exact HQ.out.size) _ _ _ 0 _
      have HC3 : Hid (QC C3 nx mn) := Lib.hid (by rw [hC3]; exact qc_of (by rw [List.length_set]; exact HQ.out.size) _ _)
      have HC4E := Lib.hid hC4
      have HN' := Lib.hid hnx'
      have E3 := Lib.hid e3
      have E4 := Lib.hid e4
      clear hC3 hC4 e3 e4 hnx' hC2s hn1
      obtain ⟨hs, h0, h1, h2, g0, g1, g2⟩ := HC2.out
      have hb : nx * 32 ≤ 4771 := by omega
      have hb2 : ((nx : Nat) : Int) < 150 := by omega
      go_upto_region 10 with fail
      have Lkp3 := lt_size kp3
      have LkQ := lt_size kQ
      have Lkp4 := lt_size kp4
      refine wp_pass (C := fun _ _ _ => False) (κ := fun i => [0, 0, 0, 0, 1, 1, 0, 0, 0, 5].getD i 0) [0, 1, 2, 3, 4, 5, 6, 7, 8, 9] (by kernel_rfl) (by kernel_rfl) (fun _ _ d _ _ h => by cases d <;> first | exact h | exact absurd h (hP _ _ _)) ?_
      (refine TD.val0 (v := ?v42) (by simp only [zA, zB, zC]; rfl) rfl ?hw42 (fun w1 => ?hy42) ?hn42; (case hw42 => rfl); (case hy42 => (go_simp; (try with_reducible rfl))); (try simp only [Act.put, zF, zG, zH]))
      (refine TD.val0 (v := ?v43) (by simp only [zA, zB, zC]; rfl) rfl ?hw43 (fun w1 => ?hy43) ?hn43; (case hw43 => rfl); (case hy43 => (go_simp; (try with_reducible rfl))); (try simp only [Act.put, zF, zG, zH]))
      (refine TD.val0 (v := ?v44) (by simp only [zA, zB, zC]; rfl) rfl ?hw44 (fun w1 => ?hy44) ?hn44; (case hw44 => rfl); (case hy44 => (go_simp; (try with_reducible rfl))); (try simp only [Act.put, zF, zG, zH]))
      (refine TD.val0 (v := ?v45) (by simp only [zA, zB, zC]; rfl) rfl ?hw45 (fun w1 => ?hy45) ?hn45; (case hw45 => rfl); (case hy45 => (go_simp; (try with_reducible rfl))); (try simp only [Act.put, zF, zG, zH]))
      (refine TD.load (v := ?v46) (p := ?p46) (Mod.refl _ _) (by simp only [zA, zB, zC]; rfl) rfl ?hw46 rfl ?hx46 (fun wq hSq => ?hy46) ?hn46; (case hw46 => rfl); (case hx46 => (simp only [Act.eval, zD, zA, zB, zC, zE]; (try rfl))); (case hy46 => (have kp3q := hSq.at kp3 (fun h => h); have kQq := hSq.at kQ (fun h => h); have kp4q := hSq.at kp4 (fun h => h); go_simp; (try with_reducible rfl))); (try simp only [Act.put, zF, zG, zH]))
      (refine TD.load (v := ?v47) (p := ?p47) (Mod.refl _ _) (by simp only [zA, zB, zC]; rfl) rfl ?hw47 rfl ?hx47 (fun wq hSq => ?hy47) ?hn47; (case hw47 => rfl); (case hx47 => (simp only [Act.eval, zD, zA, zB, zC, zE]; (try rfl))); (case hy47 => (have kp3q := hSq.at kp3 (fun h => h); have kQq := hSq.at kQ (fun h => h); have kp4q := hSq.at kp4 (fun h => h); go_simp; (try with_reducible rfl))); (try simp only [Act.put, zF, zG, zH]))
      (refine TD.val0 (v := ?v48) (by simp only [zA, zB, zC]; rfl) rfl ?hw48 (fun w1 => ?hy48) ?hn48; (case hw48 => rfl); (case hy48 => (go_simp; (try with_reducible rfl))); (try simp only [Act.put, zF, zG, zH]))
      (refine TD.val0 (v := ?v49) (by simp only [zA, zB, zC]; rfl) rfl ?hw49 (fun w1 => ?hy49) ?hn49; (case hw49 => rfl); (case hy49 => (go_simp; (try with_reducible rfl))); (try simp only [Act.put, zF, zG, zH]))
      (refine TD.val0 (v := ?v50) (by simp only [zA, zB, zC]; rfl) rfl ?hw50 (fun w1 => ?hy50) ?hn50; (case hw50 => rfl); (case hy50 => (go_simp; (try with_reducible rfl))); (try simp only [Act.put, zF, zG, zH]))
      refine TD.eff (by simp only [zA, zB, zC]; rfl) rfl (fun wE hr => ?_)
      replace kp3 := hr.mod.at0 kp3
      replace kQ := hr.mod.at0 kQ
      replace kp4 := hr.mod.at0 kp4
      have mE := hr.mod
      (refine eff_store (X := ?X51) (Y := ?Y51) (w' := ?w51) (by simp only [zA, zB, zC]; rfl) ?hw51 rfl ?hx51 ?hz51 ?hy51 ?hn51; (case hw51 => rfl); (case hx51 => (simp only [Act.eval, zD, zA, zB, zC, zE]; (try rfl))); (case hz51 => (simp only [Act.eval, zD, zA, zB, zC, zE]; (try rfl))); (case hy51 => (go_simp; (try with_reducible rfl))))
      (first | refine TE.nil_set kQ (fun w5 kQ mS => ?_) | refine TE.nil_setCell kQ (fun w5 kQ mS => ?_))
      (try simp only [Array.setIfInBounds, zF, zG, zH] at kQ)
      replace kp3 := mS.at_ne kp3 (by omega)
      replace kp4 := mS.at_ne kp4 (by omega)
      replace HM2 := Lib.hid (HM2.out.trans ((mE.mono (T := fun i => i = q) (fun _ _ h => h.elim)).trans mS))
      clear hr mE mS hs h0 h1 h2 g0 g1 g2
      rw [E3.out] at kQ
      obtain ⟨hs, h0, h1, h2, g0, g1, g2⟩ := HC3.out
      have ew : IntKind.i64.wrap ((nx : Int) + 1) = (n1 : Int) := (IntWalk.i64_in _ (by omega)).trans (by have := HN1.out; omega)
      go_upto_region 11 with fail
      have LkQ := lt_size kQ
      have Lkp4 := lt_size kp4
      refine wp_pass0 (C := fun _ _ _ => False) (κ := fun i => [0, 0, 0, 0, 1, 0, 0, 0, 0, 5].getD i 0) [0, 1, 2, 3, 4, 5, 6, 7, 8, 9] (by kernel_rfl) (by kernel_rfl) (fun _ _ d _ _ h => by cases d <;> first | exact h | exact absurd h (hP _ _ _)) ?_
      (refine TD.val0 (v := ?v52) (by simp only [zA, zB, zC]; rfl) rfl ?hw52 (fun w1 => ?hy52) ?hn52; (case hw52 => rfl); (case hy52 => (go_simp; (try with_reducible rfl))); (try simp only [Act.put, zF, zG, zH]))
      (refine TD.val0 (v := ?v53) (by simp only [zA, zB, zC]; rfl) rfl ?hw53 (fun w1 => ?hy53) ?hn53; (case hw53 => rfl); (case hy53 => (go_simp; (try with_reducible rfl))); (try simp only [Act.put, zF, zG, zH]))
      (refine TD.val0 (v := ?v54) (by simp only [zA, zB, zC]; rfl) rfl ?hw54 (fun w1 => ?hy54) ?hn54; (case hw54 => rfl); (case hy54 => (go_simp; (try with_reducible rfl))); (try simp only [Act.put, zF, zG, zH]))
      (refine TD.val0 (v := ?v55) (by simp only [zA, zB, zC]; rfl) rfl ?hw55 (fun w1 => ?hy55) ?hn55; (case hw55 => rfl); (case hy55 => (go_simp; (try with_reducible rfl))); (try simp only [Act.put, zF, zG, zH]))
      (refine TD.load (v := ?v56) (p := ?p56) (Mod.refl _ _) (by simp only [zA, zB, zC]; rfl) rfl ?hw56 rfl ?hx56 (fun wq hSq => ?hy56) ?hn56; (case hw56 => rfl); (case hx56 => (simp only [Act.eval, zD, zA, zB, zC, zE]; (try rfl))); (case hy56 => (have kQq := hSq.at kQ (fun h => h); have kp4q := hSq.at kp4 (fun h => h); go_simp; (try with_reducible rfl))); (try simp only [Act.put, zF, zG, zH]))
      (refine TD.val0 (v := ?v57) (by simp only [zA, zB, zC]; rfl) rfl ?hw57 (fun w1 => ?hy57) ?hn57; (case hw57 => rfl); (case hy57 => (go_simp; (try with_reducible rfl))); (try simp only [Act.put, zF, zG, zH]))
      (refine TD.val0 (v := ?v58) (by simp only [zA, zB, zC]; rfl) rfl ?hw58 (fun w1 => ?hy58) ?hn58; (case hw58 => rfl); (case hy58 => (go_simp; (try with_reducible rfl))); (try simp only [Act.put, zF, zG, zH]))
      (refine TD.val0 (v := ?v59) (by simp only [zA, zB, zC]; rfl) rfl ?hw59 (fun w1 => ?hy59) ?hn59; (case hw59 => rfl); (case hy59 => (go_simp; (try with_reducible rfl))); (try simp only [Act.put, zF, zG, zH]))
      (refine TD.val0 (v := ?v60) (by simp only [zA, zB, zC]; rfl) rfl ?hw60 (fun w1 => ?hy60) ?hn60; (case hw60 => rfl); (case hy60 => (go_simp; (try with_reducible rfl))); (try simp only [Act.put, zF, zG, zH]))
      refine TD.eff (by simp only [zA, zB, zC]; rfl) rfl (fun wE hr => ?_)
      replace kQ := hr.mod.at0 kQ
      replace kp4 := hr.mod.at0 kp4
      have mE := hr.mod
      (refine eff_store (X := ?X61) (Y := ?Y61) (w' := ?w61) (by simp only [zA, zB, zC]; rfl) ?hw61 rfl ?hx61 ?hz61 ?hy61 ?hn61; (case hw61 => rfl); (case hx61 => (simp only [Act.eval, zD, zA, zB, zC, zE]; (try rfl))); (case hz61 => (simp only [Act.eval, zD, zA, zB, zC, zE]; (try rfl))); (case hy61 => (go_simp; (try with_reducible rfl))))
      (first | refine TE.nil_set kQ (fun w6 kQ mS => ?_) | refine TE.nil_setCell kQ (fun w6 kQ mS => ?_))
      replace kp4 := mS.at_ne kp4 (by omega)
      replace HM2 := Lib.hid (HM2.out.trans ((mE.mono (T := fun i => i = q) (fun _ _ h => h.elim)).trans mS))
      clear hr mE mS hs h0 h1 h2 g0 g1 g2
      rw [show (n1 : Int).tmod 150 = (nx' : Int) by rw [Int.tmod_eq_emod_of_nonneg (by omega)]; have := HN'.out; omega, E4.out] at kQ
      go_upto_region 12 with fail
      have HKQ := Lib.hid kQ
      clear kQ LkQ Lkp4 ew
      have Lkp4 := lt_size kp4
      refine wp_pass0 (C := fun _ _ _ => False) (κ := fun i => [1, 0, 5, 0, 0].getD i 0) [0, 1, 3, 4, 2] (by kernel_rfl) (by kernel_rfl) (fun _ _ d _ _ h => by cases d <;> first | exact h | exact absurd h (hP _ _ _)) ?_
      (refine TD.load (v := ?v62) (p := ?p62) (Mod.refl _ _) (by simp only [zA, zB, zC]; rfl) rfl ?hw62 rfl ?hx62 (fun wq hSq => ?hy62) ?hn62; (case hw62 => rfl); (case hx62 => (simp only [Act.eval, zD, zA, zB, zC, zE]; (try rfl))); (case hy62 => (have kp4q := hSq.at kp4 (fun h => h); exact (ldHashAt kp4q))); (try simp only [Act.put, zF, zG, zH]))
      (refine TD.val0 (v := ?v63) (by simp only [zA, zB, zC]; rfl) rfl ?hw63 (fun w1 => ?hy63) ?hn63; (case hw63 => rfl); (case hy63 => (go_simp; (try with_reducible rfl))); (try simp only [Act.put, zF, zG, zH]))
      (refine TD.val0 (v := ?v64) (by simp only [zA, zB, zC]; rfl) rfl ?hw64 (fun w1 => ?hy64) ?hn64; (case hw64 => rfl); (case hy64 => (go_simp; (try with_reducible rfl))); (try simp only [Act.put, zF, zG, zH]))
      (refine TD.val0 (v := ?v65) (by simp only [zA, zB, zC]; rfl) rfl ?hw65 (fun w1 => ?hy65) ?hn65; (case hw65 => rfl); (case hy65 => (go_simp; (try with_reducible rfl))); (try simp only [Act.put, zF, zG, zH]))
      refine TD.eff (by simp only [zA, zB, zC]; rfl) rfl (fun wE hr => ?_)
      replace kp4 := hr.mod.at0 kp4
      have mE := hr.mod
      (refine eff_store (X := ?X66) (Y := ?Y66) (w' := ?w66) (by simp only [zA, zB, zC]; rfl) ?hw66 rfl ?hx66 ?hz66 ?hy66 ?hn66; (case hw66 => rfl); (case hx66 => (simp only [Act.eval, zD, zA, zB, zC, zE]; (try rfl))); (case hz66 => (simp only [Act.eval, zD, zA, zB, zC, zE]; (try rfl))); (case hy66 => (go_simp; (try with_reducible rfl))))
      (first | refine TE.nil_set kp4 (fun w7 kp4 mS => ?_) | refine TE.nil_setCell kp4 (fun w7 kp4 mS => ?_))
      (try simp only [Array.setIfInBounds, zF, zG, zH] at kp4)
      replace HKQ := Lib.hid (mS.at_ne (mE.at0 HKQ.out) hq4)
      replace HM2 := Lib.hid (HM2.out.then ((mE.mono (T := fun i => i = p4) (fun _ _ h => h.elim)).trans mS) (fun i hi e => by omega))
      clear hr mE mS
      go_wp2_with fail
      (try simp only [Exit.noGoto])
      refine bodyPost_ret (results_cell3 (x := .agg (kc y4)) rfl rfl (by rw [ldHash]; simp [kp4])) rfl ⟨⟨_, rfl⟩, ⟨R.set nx k, nx', ?_, ?_⟩, HM2.out⟩
      · rw [HLn.out, ← HC4E.out]
        exact HKQ.out
      · rw [show pushQ L k = (k :: L).take 150 from if_neg HK.out, ← HN'.out, ← HN1.out]
        exact HQ.out.push k
    · have hd : decide (L.length = 150) = false := decide_eq_false hful
      have hdi : ((L.length : Int) == 150) = false := by rw [beq_eq_false_iff_ne]; omega
      obtain ⟨mn, hmn⟩ : ∃ mn : Nat, mn = L.length + 1 := ⟨_, rfl⟩
      have hw : IntKind.i64.wrap ((L.length : Int) + 1) = (mn : Int) := (IntWalk.i64_in _ (by omega)).trans (by omega)
      have HLn : Hid ((pushQ L k).length = mn) := Lib.hid (by
        rw [show pushQ L k = (k :: L).take 150 from if_neg HK.out, HQ.out.many, if_neg hful, hmn])
      clear hmn hful
      go_upto_region 9 with fail
      have LkQ := lt_size kQ
      have Lkp4 := lt_size kp4
      have Lkp3 := lt_size kp3
      refine wp_pass0 (C := fun _ _ _ => False) (κ := fun i => [0, 0, 0, 1, 0, 0, 0, 5].getD i 0) [0, 1, 2, 3, 4, 5, 6, 7] (by kernel_rfl) (by kernel_rfl) (fun _ _ d _ _ h => by cases d <;> first | exact h | exact absurd h (hP _ _ _)) ?_
      (refine TD.val0 (v := ?v67) (by simp only [zA, zB, zC]; rfl) rfl ?hw67 (fun w1 => ?hy67) ?hn67; (case hw67 => rfl); (case hy67 => (go_simp; (try with_reducible rfl))); (try simp only [Act.put, zF, zG, zH]))
      (refine TD.val0 (v := ?v68) (by simp only [zA, zB, zC]; rfl) rfl ?hw68 (fun w1 => ?hy68) ?hn68; (case hw68 => rfl); (case hy68 => (go_simp; (try with_reducible rfl))); (try simp only [Act.put, zF, zG, zH]))
      (refine TD.val0 (v := ?v69) (by simp only [zA, zB, zC]; rfl) rfl ?hw69 (fun w1 => ?hy69) ?hn69; (case hw69 => rfl); (case hy69 => (go_simp; (try with_reducible rfl))); (try simp only [Act.put, zF, zG, zH]))
      (refine TD.load (v := ?v70) (p := ?p70) (Mod.refl _ _) (by simp only [zA, zB, zC]; rfl) rfl ?hw70 rfl ?hx70 (fun wq hSq => ?hy70) ?hn70; (case hw70 => rfl); (case hx70 => (simp only [Act.eval, zD, zA, zB, zC, zE]; (try rfl))); (case hy70 => (have kQq := hSq.at kQ (fun h => h); have kp4q := hSq.at kp4 (fun h => h); have kp3q := hSq.at kp3 (fun h => h); go_simp; (try with_reducible rfl))); (try simp only [Act.put, zF, zG, zH]))
      (refine TD.val0 (v := ?v71) (by simp only [zA, zB, zC]; rfl) rfl ?hw71 (fun w1 => ?hy71) ?hn71; (case hw71 => rfl); (case hy71 => (go_simp; (try with_reducible rfl))); (try simp only [Act.put, zF, zG, zH]))
      (refine TD.val0 (v := ?v72) (by simp only [zA, zB, zC]; rfl) rfl ?hw72 (fun w1 => ?hy72) ?hn72; (case hw72 => rfl); (case hy72 => (go_simp; (try with_reducible rfl))); (try simp only [Act.put, zF, zG, zH]))
      (refine TD.val0 (v := ?v73) (by simp only [zA, zB, zC]; rfl) rfl ?hw73 (fun w1 => ?hy73) ?hn73; (case hw73 => rfl); (case hy73 => (go_simp; (try with_reducible rfl))); (try simp only [Act.put, zF, zG, zH]))
      refine TD.eff (by simp only [zA, zB, zC]; rfl) rfl (fun wE hr => ?_)
      replace kQ := hr.mod.at0 kQ
      replace kp4 := hr.mod.at0 kp4
      replace kp3 := hr.mod.at0 kp3
      have mE := hr.mod
      (refine eff_store (X := ?X74) (Y := ?Y74) (w' := ?w74) (by simp only [zA, zB, zC]; rfl) ?hw74 rfl ?hx74 ?hz74 ?hy74 ?hn74; (case hw74 => rfl); (case hx74 => (simp only [Act.eval, zD, zA, zB, zC, zE]; (try rfl))); (case hz74 => (simp only [Act.eval, zD, zA, zB, zC, zE]; (try rfl))); (case hy74 => (go_simp; (try with_reducible rfl))))
      (first | refine TE.nil_set kQ (fun w3 kQ mS => ?_) | refine TE.nil_setCell kQ (fun w3 kQ mS => ?_))
      replace kp4 := mS.at_ne kp4 (by omega)
      replace kp3 := mS.at_ne kp3 (by omega)
      replace HM2 := Lib.hid (HM2.out.trans ((mE.mono (T := fun i => i = q) (fun _ _ h => h.elim)).trans mS))
      clear hr mE mS hs h0 h1 h2 g0 g1 g2 hw hd hdi
      obtain ⟨C2, hC2⟩ : ∃ C2, C.setIfInBounds 4801 (.int .i64 (mn : Int)) = C2 := ⟨_, rfl⟩
      rw [hC2] at kQ
      have HC2E : Hid (C2 = qr R nx (mn : Int) 1) := Lib.hid (by
        rw [← hC2, HCC.out]
        exact qr_set HQ.out.size _ _ _ 1 _)
      have HC2 : Hid (QC C2 nx mn) := by rw [HC2E.out]; exact Lib.hid (qc_of HQ.out.size _ _)
      clear hC2
      obtain ⟨y4, hy4⟩ : ∃ y4, zHash = kc y4 := ⟨key0, rfl⟩
      rw [hy4] at kp4
      clear hy4
      have hC2s : C2.size = 4803 := HC2.out.size
      obtain ⟨n1, hn1⟩ : ∃ n1, nx + 1 = n1 := ⟨_, rfl⟩
      have HN1 := Lib.hid hn1
      obtain ⟨nx', hnx'⟩ : ∃ nx', n1 % 150 = nx' := ⟨_, rfl⟩
      obtain ⟨C3, hC3⟩ : ∃ C3, C3 = qr (R.set nx k) nx (mn : Int) 1 := ⟨_, rfl⟩
      obtain ⟨C4, hC4⟩ : ∃ C4, C4 = qr (R.set nx k) nx' (mn : Int) 1 := ⟨_, rfl⟩
      have e3 : wr C2 (nx * 32) (kc k).toList = C3 := by rw [HC2E.out, hC3]; exact qr_put HQ.out.size _ _ _ HQ.out.nlt k
      have e4 : C3.setIfInBounds 4800 (.int .i64 (nx' : Int)) = C4 := by
        rw [hC3, hC4]
        exact qr_set (by rw [List.length_set]; exact HQ.out.size) _ _ _ 0 _
      have HC3 : Hid (QC C3 nx mn) := Lib.hid (by rw [hC3]; exact qc_of (by rw [List.length_set]; exact HQ.out.size) _ _)
      have HC4E := Lib.hid hC4
      have HN' := Lib.hid hnx'
      have E3 := Lib.hid e3
      have E4 := Lib.hid e4
      clear hC3 hC4 e3 e4 hnx' hC2s hn1
      obtain ⟨hs, h0, h1, h2, g0, g1, g2⟩ := HC2.out
      have hb : nx * 32 ≤ 4771 := by omega
      have hb2 : ((nx : Nat) : Int) < 150 := by omega
      go_upto_region 10 with fail
      have Lkp3 := lt_size kp3
      have LkQ := lt_size kQ
      have Lkp4 := lt_size kp4
      refine wp_pass (C := fun _ _ _ => False) (κ := fun i => [0, 0, 0, 0, 1, 1, 0, 0, 0, 5].getD i 0) [0, 1, 2, 3, 4, 5, 6, 7, 8, 9] (by kernel_rfl) (by kernel_rfl) (fun _ _ d _ _ h => by cases d <;> first | exact h | exact absurd h (hP _ _ _)) ?_
      (refine TD.val0 (v := ?v75) (by simp only [zA, zB, zC]; rfl) rfl ?hw75 (fun w1 => ?hy75) ?hn75; (case hw75 => rfl); (case hy75 => (go_simp; (try with_reducible rfl))); (try simp only [Act.put, zF, zG, zH]))
      (refine TD.val0 (v := ?v76) (by simp only [zA, zB, zC]; rfl) rfl ?hw76 (fun w1 => ?hy76) ?hn76; (case hw76 => rfl); (case hy76 => (go_simp; (try with_reducible rfl))); (try simp only [Act.put, zF, zG, zH]))
      (refine TD.val0 (v := ?v77) (by simp only [zA, zB, zC]; rfl) rfl ?hw77 (fun w1 => ?hy77) ?hn77; (case hw77 => rfl); (case hy77 => (go_simp; (try with_reducible rfl))); (try simp only [Act.put, zF, zG, zH]))
      (refine TD.val0 (v := ?v78) (by simp only [zA, zB, zC]; rfl) rfl ?hw78 (fun w1 => ?hy78) ?hn78; (case hw78 => rfl); (case hy78 => (go_simp; (try with_reducible rfl))); (try simp only [Act.put, zF, zG, zH]))
      (refine TD.load (v := ?v79) (p := ?p79) (Mod.refl _ _) (by simp only [zA, zB, zC]; rfl) rfl ?hw79 rfl ?hx79 (fun wq hSq => ?hy79) ?hn79; (case hw79 => rfl); (case hx79 => (simp only [Act.eval, zD, zA, zB, zC, zE]; (try rfl))); (case hy79 => (have kp3q := hSq.at kp3 (fun h => h); have kQq := hSq.at kQ (fun h => h); have kp4q := hSq.at kp4 (fun h => h); go_simp; (try with_reducible rfl))); (try simp only [Act.put, zF, zG, zH]))
      (refine TD.load (v := ?v80) (p := ?p80) (Mod.refl _ _) (by simp only [zA, zB, zC]; rfl) rfl ?hw80 rfl ?hx80 (fun wq hSq => ?hy80) ?hn80; (case hw80 => rfl); (case hx80 => (simp only [Act.eval, zD, zA, zB, zC, zE]; (try rfl))); (case hy80 => (have kp3q := hSq.at kp3 (fun h => h); have kQq := hSq.at kQ (fun h => h); have kp4q := hSq.at kp4 (fun h => h); go_simp; (try with_reducible rfl))); (try simp only [Act.put, zF, zG, zH]))
      (refine TD.val0 (v := ?v81) (by simp only [zA, zB, zC]; rfl) rfl ?hw81 (fun w1 => ?hy81) ?hn81; (case hw81 => rfl); (case hy81 => (go_simp; (try with_reducible rfl))); (try simp only [Act.put, zF, zG, zH]))
      (refine TD.val0 (v := ?v82) (by simp only [zA, zB, zC]; rfl) rfl ?hw82 (fun w1 => ?hy82) ?hn82; (case hw82 => rfl); (case hy82 => (go_simp; (try with_reducible rfl))); (try simp only [Act.put, zF, zG, zH]))
      (refine TD.val0 (v := ?v83) (by simp only [zA, zB, zC]; rfl) rfl ?hw83 (fun w1 => ?hy83) ?hn83; (case hw83 => rfl); (case hy83 => (go_simp; (try with_reducible rfl))); (try simp only [Act.put, zF, zG, zH]))
      refine TD.eff (by simp only [zA, zB, zC]; rfl) rfl (fun wE hr => ?_)
      replace kp3 := hr.mod.at0 kp3
      replace kQ := hr.mod.at0 kQ
      replace kp4 := hr.mod.at0 kp4
      have mE := hr.mod
      (refine eff_store (X := ?X84) (Y := ?Y84) (w' := ?w84) (by simp only [zA, zB, zC]; rfl) ?hw84 rfl ?hx84 ?hz84 ?hy84 ?hn84; (case hw84 => rfl); (case hx84 => (simp only [Act.eval, zD, zA, zB, zC, zE]; (try rfl))); (case hz84 => (simp only [Act.eval, zD, zA, zB, zC, zE]; (try rfl))); (case hy84 => (go_simp; (try with_reducible rfl))))
      (first | refine TE.nil_set kQ (fun w5 kQ mS => ?_) | refine TE.nil_setCell kQ (fun w5 kQ mS => ?_))
      (try simp only [Array.setIfInBounds, zF, zG, zH] at kQ)
      replace kp3 := mS.at_ne kp3 (by omega)
      replace kp4 := mS.at_ne kp4 (by omega)
      replace HM2 := Lib.hid (HM2.out.trans ((mE.mono (T := fun i => i = q) (fun _ _ h => h.elim)).trans mS))
      clear hr mE mS hs h0 h1 h2 g0 g1 g2
      rw [E3.out] at kQ
      obtain ⟨hs, h0, h1, h2, g0, g1, g2⟩ := HC3.out
      have ew : IntKind.i64.wrap ((nx : Int) + 1) = (n1 : Int) := (IntWalk.i64_in _ (by omega)).trans (by have := HN1.out; omega)
      go_upto_region 11 with fail
      have LkQ := lt_size kQ
      have Lkp4 := lt_size kp4
      refine wp_pass0 (C := fun _ _ _ => False) (κ := fun i => [0, 0, 0, 0, 1, 0, 0, 0, 0, 5].getD i 0) [0, 1, 2, 3, 4, 5, 6, 7, 8, 9] (by kernel_rfl) (by kernel_rfl) (fun _ _ d _ _ h => by cases d <;> first | exact h | exact absurd h (hP _ _ _)) ?_
      (refine TD.val0 (v := ?v85) (by simp only [zA, zB, zC]; rfl) rfl ?hw85 (fun w1 => ?hy85) ?hn85; (case hw85 => rfl); (case hy85 => (go_simp; (try with_reducible rfl))); (try simp only [Act.put, zF, zG, zH]))
      (refine TD.val0 (v := ?v86) (by simp only [zA, zB, zC]; rfl) rfl ?hw86 (fun w1 => ?hy86) ?hn86; (case hw86 => rfl); (case hy86 => (go_simp; (try with_reducible rfl))); (try simp only [Act.put, zF, zG, zH]))
      (refine TD.val0 (v := ?v87) (by simp only [zA, zB, zC]; rfl) rfl ?hw87 (fun w1 => ?hy87) ?hn87; (case hw87 => rfl); (case hy87 => (go_simp; (try with_reducible rfl))); (try simp only [Act.put, zF, zG, zH]))
      (refine TD.val0 (v := ?v88) (by simp only [zA, zB, zC]; rfl) rfl ?hw88 (fun w1 => ?hy88) ?hn88; (case hw88 => rfl); (case hy88 => (go_simp; (try with_reducible rfl))); (try simp only [Act.put, zF, zG, zH]))
      (refine TD.load (v := ?v89) (p := ?p89) (Mod.refl _ _) (by simp only [zA, zB, zC]; rfl) rfl ?hw89 rfl ?hx89 (fun wq hSq => ?hy89) ?hn89; (case hw89 => rfl); (case hx89 => (simp only [Act.eval, zD, zA, zB, zC, zE]; (try rfl))); (case hy89 => (have kQq := hSq.at kQ (fun h => h); have kp4q := hSq.at kp4 (fun h => h); go_simp; (try with_reducible rfl))); (try simp only [Act.put, zF, zG, zH]))
      (refine TD.val0 (v := ?v90) (by simp only [zA, zB, zC]; rfl) rfl ?hw90 (fun w1 => ?hy90) ?hn90; (case hw90 => rfl); (case hy90 => (go_simp; (try with_reducible rfl))); (try simp only [Act.put, zF, zG, zH]))
      (refine TD.val0 (v := ?v91) (by simp only [zA, zB, zC]; rfl) rfl ?hw91 (fun w1 => ?hy91) ?hn91; (case hw91 => rfl); (case hy91 => (go_simp; (try with_reducible rfl))); (try simp only [Act.put, zF, zG, zH]))
      (refine TD.val0 (v := ?v92) (by simp only [zA, zB, zC]; rfl) rfl ?hw92 (fun w1 => ?hy92) ?hn92; (case hw92 => rfl); (case hy92 => (go_simp; (try with_reducible rfl))); (try simp only [Act.put, zF, zG, zH]))
      (refine TD.val0 (v := ?v93) (by simp only [zA, zB, zC]; rfl) rfl ?hw93 (fun w1 => ?hy93) ?hn93; (case hw93 => rfl); (case hy93 => (go_simp; (try with_reducible rfl))); (try simp only [Act.put, zF, zG, zH]))
      refine TD.eff (by simp only [zA, zB, zC]; rfl) rfl (fun wE hr => ?_)
      replace kQ := hr.mod.at0 kQ
      replace kp4 := hr.mod.at0 kp4
      have mE := hr.mod
      (refine eff_store (X := ?X94) (Y := ?Y94) (w' := ?w94) (by simp only [zA, zB, zC]; rfl) ?hw94 rfl ?hx94 ?hz94 ?hy94 ?hn94; (case hw94 => rfl); (case hx94 => (simp only [Act.eval, zD, zA, zB, zC, zE]; (try rfl))); (case hz94 => (simp only [Act.eval, zD, zA, zB, zC, zE]; (try rfl))); (case hy94 => (go_simp; (try with_reducible rfl))))
      (first | refine TE.nil_set kQ (fun w6 kQ mS => ?_) | refine TE.nil_setCell kQ (fun w6 kQ mS => ?_))
      replace kp4 := mS.at_ne kp4 (by omega)
      replace HM2 := Lib.hid (HM2.out.trans ((mE.mono (T := fun i => i = q) (fun _ _ h => h.elim)).trans mS))
      clear hr mE mS hs h0 h1 h2 g0 g1 g2
      rw [show (n1 : Int).tmod 150 = (nx' : Int) by rw [Int.tmod_eq_emod_of_nonneg (by omega)]; have := HN'.out; omega, E4.out] at kQ
      go_upto_region 12 with fail
      have HKQ := Lib.hid kQ
      clear kQ LkQ Lkp4 ew
      have Lkp4 := lt_size kp4
      refine wp_pass0 (C := fun _ _ _ => False) (κ := fun i => [1, 0, 5, 0, 0].getD i 0) [0, 1, 3, 4, 2] (by kernel_rfl) (by kernel_rfl) (fun _ _ d _ _ h => by cases d <;> first | exact h | exact absurd h (hP _ _ _)) ?_
      (refine TD.load (v := ?v95) (p := ?p95) (Mod.refl _ _) (by simp only [zA, zB, zC]; rfl) rfl ?hw95 rfl ?hx95 (fun wq hSq => ?hy95) ?hn95; (case hw95 => rfl); (case hx95 => (simp only [Act.eval, zD, zA, zB, zC, zE]; (try rfl))); (case hy95 => (have kp4q := hSq.at kp4 (fun h => h); exact (ldHashAt kp4q))); (try simp only [Act.put, zF, zG, zH]))
      (refine TD.val0 (v := ?v96) (by simp only [zA, zB, zC]; rfl) rfl ?hw96 (fun w1 => ?hy96) ?hn96; (case hw96 => rfl); (case hy96 => (go_simp; (try with_reducible rfl))); (try simp only [Act.put, zF, zG, zH]))
      (refine TD.val0 (v := ?v97) (by simp only [zA, zB, zC]; rfl) rfl ?hw97 (fun w1 => ?hy97) ?hn97; (case hw97 => rfl); (case hy97 => (go_simp; (try with_reducible rfl))); (try simp only [Act.put, zF, zG, zH]))
      (refine TD.val0 (v := ?v98) (by simp only [zA, zB, zC]; rfl) rfl ?hw98 (fun w1 => ?hy98) ?hn98; (case hw98 => rfl); (case hy98 => (go_simp; (try with_reducible rfl))); (try simp only [Act.put, zF, zG, zH]))
      refine TD.eff (by simp only [zA, zB, zC]; rfl) rfl (fun wE hr => ?_)
      replace kp4 := hr.mod.at0 kp4
      have mE := hr.mod
      (refine eff_store (X := ?X99) (Y := ?Y99) (w' := ?w99) (by simp only [zA, zB, zC]; rfl) ?hw99 rfl ?hx99 ?hz99 ?hy99 ?hn99; (case hw99 => rfl); (case hx99 => (simp only [Act.eval, zD, zA, zB, zC, zE]; (try rfl))); (case hz99 => (simp only [Act.eval, zD, zA, zB, zC, zE]; (try rfl))); (case hy99 => (go_simp; (try with_reducible rfl))))
      (first | refine TE.nil_set kp4 (fun w7 kp4 mS => ?_) | refine TE.nil_setCell kp4 (fun w7 kp4 mS => ?_))
      (try simp only [Array.setIfInBounds, zF, zG, zH] at kp4)
      replace HKQ := Lib.hid (mS.at_ne (mE.at0 HKQ.out) hq4)
      replace HM2 := Lib.hid (HM2.out.then ((mE.mono (T := fun i => i = p4) (fun _ _ h => h.elim)).trans mS) (fun i hi e => by omega))
      clear hr mE mS
      go_wp2_with fail
      (try simp only [Exit.noGoto])
      refine bodyPost_ret (results_cell3 (x := .agg (kc y4)) rfl rfl (by rw [ldHash]; simp [kp4])) rfl ⟨⟨_, rfl⟩, ⟨R.set nx k, nx', ?_, ?_⟩, HM2.out⟩
      · rw [HLn.out, ← HC4E.out]
        exact HKQ.out
      · rw [show pushQ L k = (k :: L).take 150 from if_neg HK.out, ← HN'.out, ← HN1.out]
        exact HQ.out.push k
end Go.Proofs.Ytofpnmoeimjnnaa
namespace Go.Proofs.Ytofpnmoeimjnnaa
open Go.RowKit
open Go.ChangeMaps (setBlock)
set_option linter.unusedSimpArgs false
set_option linter.unusedVariables false
attribute [local go_sem] cell_blk frozen_blk one_int one_bool one_ptr one_slice one_map Value.cells
section
variable {α : Type} {P : Program} {T E : TypeId} {f : α → Array Value} {n B : Nat}
theorem sl_clip (hT : ElT P T E f n B) {g o cap len : Nat} (hk : len ≤ cap) (w : World) :
    (Instr.sliceAt T (.slice (some ⟨g, o, none⟩) len cap) none (some (.int .i64 (len : Int))) (some (.int .i64 (len : Int)))).run P w = .ok (.slice (some ⟨g, o, none⟩) len len) w := by
  obtain ⟨i0, z, hi, hz, hz1, hz2, hz3⟩ := hT.info
  have hadd : (⟨g, o, none⟩ : Addr).add (0 * n) = ⟨g, o, none⟩ := by
    unfold Addr.add
    rw [Nat.zero_mul, if_pos rfl]
  have hp : (0 : Int) ≤ (len : Int) ∧ (len : Int) ≤ (cap : Int) := ⟨by omega, by omega⟩
  have hp2 : (0 : Int) ≤ (len : Int) ∧ (len : Int) ≤ (len : Int) := ⟨by omega, by omega⟩
  simp only [Instr.sliceAt, Instr.slice, Instr.sliceBounds, Instr.sliceBound, asIntOf, sizeOf, typeInfo, run_underlying hT.u, hi, Sem.run_bind, Sem.run_pure, Result.andThen_ok]
  rw [if_pos hp]
  simp only [Sem.run_pure, Result.andThen_ok, Go.program, Sem.run, hi, hz1, Option.map_some, Int.toNat_natCast, hadd, Nat.sub_zero, ite_self, hp2, and_self, if_true]
theorem sl_clip0 (hT : ElT P T E f n B) (w : World) :
    (Instr.sliceAt T (.slice none 0 0) none (some (.int .i64 0)) (some (.int .i64 0))).run P w = .ok (.slice none 0 0) w := by
  obtain ⟨i0, z, hi, hz, hz1, hz2, hz3⟩ := hT.info
  simp only [Instr.sliceAt, Instr.slice, Instr.sliceBounds, Instr.sliceBound, asIntOf, sizeOf, typeInfo, run_underlying hT.u, hi, Sem.run_bind, Sem.run_pure, Result.andThen_ok]
  rw [if_pos ⟨by omega, by omega⟩]
  simp [Sem.run_pure, Result.andThen_ok, Go.program, Sem.run, hi, hz1]
end
section
variable {α : Type} {P : Program} {T E : TypeId} {f : α → Array Value} {n B : Nat}
def NewS (f : α → Array Value) (n : Nat) (E : TypeId) (base : Nat) (w : World) (v : Value) (l : List α) : Prop :=
  (v = .slice none 0 0 ∧ l = []) ∨ ∃ g cur, v = .slice (some ⟨g, 0, none⟩) l.length l.length ∧ base ≤ g ∧ w.heap[g]? = some (.cells cur E (0, 0)) ∧ ∀ (i : Nat) x, l[i]? = some x → cur.extract (i * n) (i * n + n) = f x ∧ i * n + n ≤ cur.size
theorem NewS.at {base : Nat} {w : World} {v : Value} {l : List α} (h : NewS f n E base w v l) : ∃ a, v = .slice a l.length l.length ∧ SlAt f n w a l ∧ ∀ g o, a = some ⟨g, o, none⟩ → base ≤ g ∧ g < w.heap.size := by
  rcases h with ⟨rfl, rfl⟩ | ⟨g, cur, rfl, hb, hg, hc⟩
  · exact ⟨none, rfl, .inl rfl, fun g o e => by cases e⟩
  · exact ⟨_, rfl, .inr ⟨g, 0, cur, _, _, rfl, hg, fun i x hx => by simpa using hc i x hx⟩, fun g' o e => by cases e; exact ⟨hb, lt_size hg⟩⟩
theorem NewS.mod {base : Nat} {w w' : World} {v : Value} {l : List α} {S : Nat → Prop} (h : NewS f n E base w v l) (hm : Mod S w w') (hS : ∀ g, v.ownBlock = some g → ¬ S g) : NewS f n E base w' v l := by
  rcases h with h | ⟨g, cur, rfl, hb, hg, hc⟩
  · exact .inl h
  · exact .inr ⟨g, cur, rfl, hb, hm.at hg (hS g rfl), hc⟩
theorem NewS.base {b b' : Nat} {w : World} {v : Value} {l : List α} (h : NewS f n E b w v l) (hb : b' ≤ b) : NewS f n E b' w v l := by
  rcases h with h | ⟨g, cur, e, h1, h2⟩
  · exact .inl h
  · exact .inr ⟨g, cur, e, Nat.le_trans hb h1, h2⟩
theorem NewS.lt {base : Nat} {w : World} {v : Value} {l : List α} (h : NewS f n E base w v l) : ∀ g, v.ownBlock = some g → base ≤ g ∧ g < w.heap.size := by
  intro g hg
  rcases h with ⟨rfl, _⟩ | ⟨g', cur, rfl, h1, h2, _⟩
  · cases hg
  · cases hg
    exact ⟨h1, lt_size h2⟩
theorem own_e {w : World} {base q : Nat} (hb : base ≤ q) (hg : w.heap[q]? = some (.cells #[] E (0, 0))) : SlOwn f n E w base (.slice (some ⟨q, 0, none⟩) 0 0) ([] : List α) :=
  ⟨by simp [cellsOf], .inr ⟨q, 0, #[], rfl, hb, hg, Nat.le_refl _, by simp [maxLen], by simp, by simp [cellsOf]⟩⟩
theorem SlOwn.clip (hT : ElT P T E f n B) {w : World} {base : Nat} {v : Value} {l : List α} (h : SlOwn f n E w base v l) :
    ∃ a c v2, v = .slice a l.length c ∧ (∀ w2, (Instr.sliceAt T v none (some (.int .i64 (l.length : Int))) (some (.int .i64 (l.length : Int)))).run P w2 = .ok v2 w2) ∧ NewS f n E base w v2 l := by
  rcases h.2 with ⟨rfl, hn⟩ | ⟨g, cap, cur, rfl, hb, hg, hnc, hcm, hcs, htake⟩
  · obtain rfl : l = [] := List.eq_nil_of_length_eq_zero hn
    exact ⟨none, 0, _, rfl, fun w2 => sl_clip0 hT w2, .inl ⟨rfl, rfl⟩⟩
  · refine ⟨_, cap, _, rfl, fun w2 => sl_clip hT hnc w2, .inr ⟨g, cur, rfl, hb, hg, fun i x hx => ?_⟩⟩
    obtain ⟨a, c, e, hat, _⟩ := h.at hT
    injection e with e1 _ _
    subst e1
    obtain ⟨b, o, C, U, fr, e2, hb2, he, hle⟩ := hat.block hx
    cases e2
    rw [hg] at hb2
    cases hb2
    simpa using And.intro he hle
end
theorem outT : ElT Try.prog 78 64 ocr 6 64 where
  u := Try.underlying78
  info := by
    obtain ⟨i0, hi, hz0, hz1, hz2⟩ := info_parts (show (Try.prog.info? 64).map (fun i => (i.zero, i.size, i.bytes)) = some (some (.agg zOut), 6, 64) by kernel_rfl)
    exact ⟨i0, _, hi, hz0, hz1, hz2, by simp [Value.cells, zOut, ocr_size]⟩
  pos := by omega
  size := ocr_size
  one o := by
    have h2 := ocr_one' o
    rw [Array.all_eq_true_iff_forall_mem] at h2
    intro u hu
    exact h2 u (by simpa using hu)
end Go.Proofs.Ytofpnmoeimjnnaa
namespace Go.Proofs.Ytofpnmoeimjnnaa
open Go.RowKit
open Go.ChangeMaps (setBlock)
set_option linter.unusedSimpArgs false
set_option linter.unusedVariables false
attribute [local go_sem ↓] wlKey ldKey stKey wlAcct ldAcct stAcct wlHold ldHold stHold wlHash ldHash stHash wlSig ldSig stSig wlLim ldLim stLim wlRdy ldRdy stRdy wlOut ldOut stOut wlTd ldTd stTd wlTx ldTx stTx eqKey1
attribute [local go_sem] eqMap neMap av_size av_all av_one hd_size hd_key hd_acct hd_all hd_one zKey_size zAcct_size zHold_size zHash_size zSg_size zLim_size zRdy_size zOut_size zTried_size zTx_size cell_blk frozen_blk kc_ext one_int one_bool one_ptr one_slice one_map kc_one kc_one0 kc_size sgc_size sgc_ext sgc_one0 sgc_one' rdr_size rdr_all rdr_one rdr_tx rdr_rec rdr0 rdr1 rdr41 rdr0' rdr1' rdr41' ocr_size ocr_all ocr_one ocr2 ocr3 ocr4 ocr5 ocr2' ocr3' ocr4' ocr5' tdr_size tdr_all tdr_one tdr_r tdr_o tdr_tx tdr_rec tdr0 tdr1 tdr41 tdr50 tdr51 tdr52 tdr53 tdr0' tdr1' tdr41' tdr50' tdr51' tdr52' tdr53' txr_size txr_all txr_one txr0 txr38 txr39 txr0' txr38' txr39' Value.cells
theorem bsEH (w : World) : (Instr.buildSlice 22 0 #[]).run Try.prog w = .ok (.slice (some ⟨w.heap.size, 0, none⟩) 0 0) (w.alloc (.cells #[] 155)) := by kernel_rfl
theorem eqNilH (w : World) (a : Option Addr) (n c : Nat) : (binOp .eql 22 (.slice a n c) (.slice none 0 0)).run Try.prog w = .ok (.bool a.isNone) w := by
  cases a <;> kernel_rfl
set_option maxRecDepth 20000 in
set_option maxHeartbeats 1600000 in
theorem cloneH_c {w : World} {a : Option Addr} {l : List Hold} {c : Nat} (hl : SlAt hd 66 w a l) (hlen : l.length ≤ 1000000) : Calls Try.prog 68 #[.slice a l.length c] w fun e w' => ∃ v, e = .returned v ∧ SlOwn hd 66 155 w' w.heap.size v l ∧ Mod (fun _ => False) w w' := by
  have he := eqNilH
  cases a with
  | none =>
    obtain rfl : l = [] := by
      rcases hl with h | ⟨_, _, _, _, _, h, _⟩
      · exact h
      · cases h
    go_enter Try.func68, Try.ntmps68
    go_wp2_with fail
    go_ret
    exact ⟨_, rfl, SlOwn.nil _ _, Mod.refl _ _⟩
  | some p =>
    have HL := Lib.hid hl
    have hbs := bsEH
    generalize hll : l.length = ll at *
    have HLL := Lib.hid hll
    clear hl hll
    go_enter Try.func68, Try.ntmps68
    go_upto_region 3 with fail
    refine wp_pass0 (C := fun _ _ _ => False) (κ := fun i => [3, 0, 5, 0].getD i 0) [0, 1, 2, 3] (by kernel_rfl) (by kernel_rfl) (fun _ _ d _ _ h => by cases d <;> first | exact h | exact absurd h (hP _ _ _)) ?_
    (refine TD.bslice (by simp only [zA, zB, zC]; rfl) rfl ?hw1 rfl rfl ?hx1 hbs (fun p5 hp5 => ?hn1); (case hw1 => rfl); (case hx1 => (simp only [List.map_toArray, List.map_cons, List.map_nil, Act.eval, zD, zA, zB, zC, zE]; (try rfl))); (try simp only [Act.put, zF, zG, zH]))
    (refine TD.val0 (v := ?v2) (by simp only [zA, zB, zC]; rfl) rfl ?hw2 (fun w1 => ?hy2) ?hn2; (case hw2 => rfl); (case hy2 => (go_simp; (try with_reducible rfl))); (try simp only [Act.put, zF, zG, zH]))
    refine TD.eff (by simp only [zA, zB, zC]; rfl) rfl (fun w1 hr => ?_)
    have kp5 := hr.box p5 _ (by first | exact Bx.set_same _ _ _ | (simp only [Bx.set_same]; rfl)); dsimp only [Value.cells] at kp5; obtain ⟨gp5, kp5⟩ := kp5
    have m1 := hr.mod
    clear hr
    obtain ⟨v3, w6, hap, hO6, m6, hn6⟩ := SlOwn.append holdT (c := c) (own_e (f := hd) (n := 66) gp5 kp5) (HL.out.mod0 m1) (by simp; have := HLL.out; omega) (by decide) m1.size 22
    have mF : Mod (fun _ => False) w w6 := m1.then m6 (fun i hi e => by
      have e2 : p5 = i := Option.some.inj e
      omega)
    rw [HLL.out] at hap
    have HO := Lib.hid hO6
    clear hn6 m6 hO6
    (refine eff_append (by simp only [zA, zB, zC]; rfl) ?hw4 rfl ?hx4 ?hz4 hap ?hn4; (case hw4 => rfl); (case hx4 => (simp only [Act.eval, zD, zA, zB, zC, zE]; (try rfl))); (case hz4 => (simp only [Act.eval, zD, zA, zB, zC, zE]; (try rfl))); (try simp only [Act.put, zF, zG, zH]))
    (refine TE.val0 (v := ?v5) (by simp only [zA, zB, zC]; rfl) ?hw5 (fun w1 => ?hy5) ?hn5; (case hw5 => rfl); (case hy5 => (go_simp; (try with_reducible rfl))); (try simp only [Act.put, zF, zG, zH]))
    refine TE.nil ?_
    go_wp2_with fail
    go_ret
    exact ⟨_, rfl, HO.out, mF⟩
set_option maxRecDepth 20000 in
theorem clipH_c (v2 : Value) (w : World) (n : Nat) {a : Option Addr} {c : Nat} (h : ∀ w2, (Instr.sliceAt 22 (.slice a n c) none (some (.int .i64 (n : Int))) (some (.int .i64 (n : Int)))).run Try.prog w2 = .ok v2 w2) :
    Calls Try.prog 67 #[.slice a n c] w fun e w' => e = .returned v2 ∧ w' = w := by
  go_enter Try.func67, Try.ntmps67
  go_wp2_with fail
  go_ret
  exact ⟨rfl, rfl⟩
set_option maxRecDepth 20000 in
theorem clipE_c (v2 : Value) (w : World) (n : Nat) {a : Option Addr} {c : Nat} (h : ∀ w2, (Instr.sliceAt 77 (.slice a n c) none (some (.int .i64 (n : Int))) (some (.int .i64 (n : Int)))).run Try.prog w2 = .ok v2 w2) :
    Calls Try.prog 48 #[.slice a n c] w fun e w' => e = .returned v2 ∧ w' = w := by
  go_enter Try.func48, Try.ntmps48
  go_wp2_with fail
  go_ret
  exact ⟨rfl, rfl⟩
set_option maxRecDepth 20000 in
theorem clipK_c (v2 : Value) (w : World) (n : Nat) {a : Option Addr} {c : Nat} (h : ∀ w2, (Instr.sliceAt 48 (.slice a n c) none (some (.int .i64 (n : Int))) (some (.int .i64 (n : Int)))).run Try.prog w2 = .ok v2 w2) :
    Calls Try.prog 41 #[.slice a n c] w fun e w' => e = .returned v2 ∧ w' = w := by
  go_enter Try.func41, Try.ntmps41
  go_wp2_with fail
  go_ret
  exact ⟨rfl, rfl⟩
set_option maxRecDepth 20000 in
theorem entries0_c {p s q n t : Nat} {b : Bool} {oa : Option Addr} {on oc : Nat} {f : UInt64} (w : World) (kp : w.heap[p]? = some (.cells (blkC s q n t b none 0 0 oa on oc f) 80 (0, 0))) : Calls Try.prog 18 #[ptrV p] w fun e w' => (∃ a c, e = .returned (.slice a 0 c)) ∧ Mod (fun _ => False) w w' := by
  have KP := Lib.hid kp
  unfold blkC at kp
  go_enter Try.func18, Try.ntmps18
  go_wp2_with fail
  go_at_call 33
  refine (bthere_c _ KP.out).mono ?_
  rintro e w2 ⟨rfl, rfl⟩
  have hcl : ∀ w2, (Instr.sliceAt 77 (.slice none 0 0) none (some (.int .i64 ((0 : Nat) : Int))) (some (.int .i64 ((0 : Nat) : Int)))).run Try.prog w2 = .ok (.slice none 0 0) w2 := fun w2 => by kernel_rfl
  go_upto_region 4 with fail
  go_loopw [2, 13] (fun s2 s13 ws => s2 = .slice none 0 0 ∧ s13 = .int .i64 0 ∧ ws = w) (fun _ _ _ => 0)
  case atStart => exact ⟨rfl, rfl, rfl⟩
  case round =>
    obtain ⟨rfl, rfl, rfl⟩ := hrel
    go_wp2_with fail
    go_at_call 48
    refine (clipE_c (a := none) (c := 0) (.slice none 0 0) _ 0 hcl).mono ?_
    rintro e w2 ⟨rfl, rfl⟩
    go_wp2_with fail
    go_ret
    exact ⟨⟨_, _, rfl⟩, Mod.refl _ _⟩
end Go.Proofs.Ytofpnmoeimjnnaa
namespace Go.Proofs.Ytofpnmoeimjnnaa
open Go.RowKit
open Go.ChangeMaps (setBlock)
set_option linter.unusedSimpArgs false
set_option linter.unusedVariables false
attribute [local go_sem ↓] wlKey ldKey stKey wlAcct ldAcct stAcct wlHold ldHold stHold wlHash ldHash stHash wlSig ldSig stSig wlLim ldLim stLim wlRdy ldRdy stRdy wlOut ldOut stOut wlTd ldTd stTd wlTx ldTx stTx eqKey1
attribute [local go_sem] eqMap neMap av_size av_all av_one hd_size hd_key hd_acct hd_all hd_one zKey_size zAcct_size zHold_size zHash_size zSg_size zLim_size zRdy_size zOut_size zTried_size zTx_size cell_blk frozen_blk kc_ext one_int one_bool one_ptr one_slice one_map kc_one kc_one0 kc_size sgc_size sgc_ext sgc_one0 sgc_one' rdr_size rdr_all rdr_one rdr_tx rdr_rec rdr0 rdr1 rdr6 rdr39 rdr40 rdr41 rdr0' rdr1' rdr6' rdr39' rdr40' rdr41' ocr_size ocr_all ocr_one ocr2 ocr3 ocr4 ocr5 ocr2' ocr3' ocr4' ocr5' tdr_size tdr_all tdr_one tdr_r tdr_o tdr_tx tdr_rec tdr0 tdr1 tdr41 tdr50 tdr51 tdr52 tdr53 tdr0' tdr1' tdr41' tdr50' tdr51' tdr52' tdr53' txr_size txr_all txr_one txr0 txr38 txr39 txr0' txr38' txr39' Value.cells
attribute [local go_sem ↓] eqHash
attribute [local go_sem] zHash_ext zHash_one0
theorem hashesT : ElT Try.prog 23 50 kc 32 32 where
  u := Try.underlying23
  info := by
    obtain ⟨i0, hi, hz0, hz1, hz2⟩ := info_parts (show (Try.prog.info? 50).map (fun i => (i.zero, i.size, i.bytes)) = some (some (.agg zHash), 32, 32) by kernel_rfl)
    exact ⟨i0, _, hi, hz0, hz1, hz2, by simp [Value.cells, zHash]⟩
  pos := by omega
  size := kc_size
  one k := by
    have := kc_one k
    rw [Array.all_eq_true_iff_forall_mem] at this
    intro u hu
    exact this u (by simpa using hu)
theorem SlAt.take {α : Type} {f : α → Array Value} {n : Nat} {w : World} {a : Option Addr} {l : List α} (h : SlAt f n w a l) (k : Nat) : SlAt f n w a (l.take k) := by
  rcases h with h | ⟨b, o, C, U, fr, h1, h2, h3⟩
  · left
    rw [h, List.take_nil]
  · exact .inr ⟨b, o, C, U, fr, h1, h2, fun i x hx => h3 i x (by
      rw [List.getElem?_take] at hx
      split at hx
      · exact hx
      · cases hx)⟩
def DQ (w : World) (h : Nat) (L : List Key) : Prop := ∃ a c, w.heap[h]? = some (.cells #[.slice a L.length c] 104 (0, 0)) ∧ SlAt kc 32 w a L ∧ L.length ≤ 150 ∧ (∀ x, a = some x → x.block < w.heap.size ∧ h < x.block)
theorem hash_at {w : World} {a : Option Addr} {l : List Key} (h : SlAt kc 32 w a l) {i : Nat} {x : Key} (hx : l[i]? = some x) : ∃ g o C U fr, a = some ⟨g, o, none⟩ ∧ w.heap[g]? = some (.cells C U fr) ∧ C.extract (o + i * 32) (o + i * 32 + 32) = kc x ∧ o + i * 32 + 32 ≤ C.size := h.block hx
set_option maxRecDepth 20000 in
set_option maxHeartbeats 1600000 in
theorem rage_c (h : Nat) (L : List Key) (k : Key) (w : World) (hD : DQ w h L) : Calls Try.prog 58 #[ptrV h, .agg (kc k)] w fun e w' => ∃ i : Nat, e = .returned (.tuple #[.int .i64 (i : Int), .bool (decide (k ∈ L))]) ∧ Mod (fun _ => False) w w' := by
  obtain ⟨a, c, kh, hL, hn, hb⟩ := hD
  have HL := Lib.hid hL
  clear hL hb
  go_enter Try.func58, Try.ntmps58
  go_upto_region 0 with fail
  have Lkh := lt_size kh
  refine wp_pass0 (C := fun _ _ _ => False) (κ := fun i => [3, 0, 0].getD i 0) [0, 1, 2] (by kernel_rfl) (by kernel_rfl) (fun _ _ d _ _ h => by cases d <;> first | exact h | exact absurd h (hP _ _ _)) ?_
  (refine TD.box (v := ?v1) (by simp only [zA, zB, zC]; rfl) rfl ?hw1 rfl rfl ?hx1 (fun p3 hp3 => ?hn1); (case hw1 => rfl); (case hx1 => (simp only [Act.eval, zD, zA, zB, zC, zE]; (try rfl))); (try simp only [Act.put, zF, zG, zH]))
  (refine TD.val0 (v := ?v2) (by simp only [zA, zB, zC]; rfl) rfl ?hw2 (fun w1 => ?hy2) ?hn2; (case hw2 => rfl); (case hy2 => (go_simp; (try with_reducible rfl))); (try simp only [Act.put, zF, zG, zH]))
  (refine TD.val0 (v := ?v3) (by simp only [zA, zB, zC]; rfl) rfl ?hw3 (fun w1 => ?hy3) ?hn3; (case hw3 => rfl); (case hy3 => (go_simp; (try with_reducible rfl))); (try simp only [Act.put, zF, zG, zH]))
  refine TD.nil (fun w1 hr => ?_)
  replace kh := hr.mod.at kh (fun h => h)
  have kp3 := hr.box p3 _ (by first | exact Bx.set_same _ _ _ | (simp only [Bx.set_same]; rfl)); dsimp only [Value.cells] at kp3; obtain ⟨gp3, kp3⟩ := kp3
  have m1 := hr.mod
  clear hr
  go_wp2_with fail
  go_loopw [6] (fun s6 ws => ∃ i : Nat, i ≤ L.length ∧ s6 = .int .i64 (i : Int) ∧ Hid (k ∉ L.take i) ∧ Mod (fun _ => False) w1 ws) (fun s6 _ => L.length - (intOf s6).toNat)
  case atStart => exact ⟨0, Nat.zero_le _, rfl, Lib.hid (by simp), Mod.refl _ _⟩
  case round =>
    obtain ⟨i, hi, rfl, HT, hm⟩ := hrel
    replace kh := hm.at0 kh
    replace kp3 := hm.at0 kp3
    by_cases hlt : i < L.length
    · have hd := decide_eq_true hlt
      obtain ⟨x, hx⟩ : ∃ x, L[i]? = some x := ⟨_, List.getElem?_eq_getElem hlt⟩
      obtain ⟨g, o, C, U, fr, rfl, kg, he, hle⟩ := hash_at (HL.out.mod0 (m1.then0 hm)) hx
      have HX := Lib.hid hx
      clear hx
      by_cases hxk : x = k
      · have HE : Hid (k ∈ L) := Lib.hid (by rw [← hxk]; exact List.mem_of_getElem? HX.out)
        have hne := decide_eq_true hxk
        clear hxk
        go_upto_region 4 with fail
        have Lkh := lt_size kh
        have Lkg := lt_size kg
        have Lkp3 := lt_size kp3
        refine wp_pass (C := fun _ _ _ => False) (κ := fun i => [0, 0, 0, 1, 0, 0, 1, 1, 0].getD i 0) [0, 1, 2, 3, 4, 5, 6, 7, 8] (by kernel_rfl) (by kernel_rfl) (fun _ _ d _ _ h => by cases d <;> first | exact h | exact absurd h (hP _ _ _)) ?_
        (refine TD.val0 (v := ?v4) (by simp only [zA, zB, zC]; rfl) rfl ?hw4 (fun w1 => ?hy4) ?hn4; (case hw4 => rfl); (case hy4 => (go_simp; (try with_reducible rfl))); (try simp only [Act.put, zF, zG, zH]))
        (refine TD.val0 (v := ?v5) (by simp only [zA, zB, zC]; rfl) rfl ?hw5 (fun w1 => ?hy5) ?hn5; (case hw5 => rfl); (case hy5 => (go_simp; (try with_reducible rfl))); (try simp only [Act.put, zF, zG, zH]))
        (refine TD.val0 (v := ?v6) (by simp only [zA, zB, zC]; rfl) rfl ?hw6 (fun w1 => ?hy6) ?hn6; (case hw6 => rfl); (case hy6 => (go_simp; (try with_reducible rfl))); (try simp only [Act.put, zF, zG, zH]))
        (refine TD.load (v := ?v7) (p := ?p7) (Mod.refl _ _) (by simp only [zA, zB, zC]; rfl) rfl ?hw7 rfl ?hx7 (fun wq hSq => ?hy7) ?hn7; (case hw7 => rfl); (case hx7 => (simp only [Act.eval, zD, zA, zB, zC, zE]; (try rfl))); (case hy7 => (have khq := hSq.at kh (fun h => h); have kgq := hSq.at kg (fun h => h); have kp3q := hSq.at kp3 (fun h => h); go_simp; (try with_reducible rfl))); (try simp only [Act.put, zF, zG, zH]))
        (refine TD.val0 (v := ?v8) (by simp only [zA, zB, zC]; rfl) rfl ?hw8 (fun w1 => ?hy8) ?hn8; (case hw8 => rfl); (case hy8 => (go_simp; (try with_reducible rfl))); (try simp only [Act.put, zF, zG, zH]))
        (refine TD.val0 (v := ?v9) (by simp only [zA, zB, zC]; rfl) rfl ?hw9 (fun w1 => ?hy9) ?hn9; (case hw9 => rfl); (case hy9 => (go_simp; (try with_reducible rfl))); (try simp only [Act.put, zF, zG, zH]))
        (refine TD.load (v := ?v10) (p := ?p10) (Mod.refl _ _) (by simp only [zA, zB, zC]; rfl) rfl ?hw10 rfl ?hx10 (fun wq hSq => ?hy10) ?hn10; (case hw10 => rfl); (case hx10 => (simp only [Act.eval, zD, zA, zB, zC, zE]; (try rfl))); (case hy10 => (have khq := hSq.at kh (fun h => h); have kgq := hSq.at kg (fun h => h); have kp3q := hSq.at kp3 (fun h => h); go_simp; (try with_reducible rfl))); (try simp only [Act.put, zF, zG, zH]))
        (refine TD.load (v := ?v11) (p := ?p11) (Mod.refl _ _) (by simp only [zA, zB, zC]; rfl) rfl ?hw11 rfl ?hx11 (fun wq hSq => ?hy11) ?hn11; (case hw11 => rfl); (case hx11 => (simp only [Act.eval, zD, zA, zB, zC, zE]; (try rfl))); (case hy11 => (have khq := hSq.at kh (fun h => h); have kgq := hSq.at kg (fun h => h); have kp3q := hSq.at kp3 (fun h => h); go_simp; (try with_reducible rfl))); (try simp only [Act.put, zF, zG, zH]))
        (refine TD.val0 (v := ?v12) (by simp only [zA, zB, zC]; rfl) rfl ?hw12 (fun w1 => ?hy12) ?hn12; (case hw12 => rfl); (case hy12 => (go_simp; (try with_reducible rfl))); (try simp only [Act.put, zF, zG, zH]))
        refine TD.nil (fun w3 hr => ?_)
        replace kh := hr.mod.at kh (fun h => h)
        replace kg := hr.mod.at kg (fun h => h)
        replace kp3 := hr.mod.at kp3 (fun h => h)
        have hm3 := hm.then0 hr.mod
        clear hr
        go_wp2_with fail
        go_ret2
        exact ⟨i, by rw [decide_eq_true HE.out]; rfl, m1.then0 hm3⟩
      · have HN := Lib.hid (notin_take HT.out HX.out hxk)
        have hne := decide_eq_false hxk
        clear hxk
        go_upto_region 4 with fail
        have Lkh := lt_size kh
        have Lkg := lt_size kg
        have Lkp3 := lt_size kp3
        refine wp_pass (C := fun _ _ _ => False) (κ := fun i => [0, 0, 0, 1, 0, 0, 1, 1, 0].getD i 0) [0, 1, 2, 3, 4, 5, 6, 7, 8] (by kernel_rfl) (by kernel_rfl) (fun _ _ d _ _ h => by cases d <;> first | exact h | exact absurd h (hP _ _ _)) ?_
        (refine TD.val0 (v := ?v13) (by simp only [zA, zB, zC]; rfl) rfl ?hw13 (fun w1 => ?hy13) ?hn13; (case hw13 => rfl); (case hy13 => (go_simp; (try with_reducible rfl))); (try simp only [Act.put, zF, zG, zH]))
        (refine TD.val0 (v := ?v14) (by simp only [zA, zB, zC]; rfl) rfl ?hw14 (fun w1 => ?hy14) ?hn14; (case hw14 => rfl); (case hy14 => (go_simp; (try with_reducible rfl))); (try simp only [Act.put, zF, zG, zH]))
        (refine TD.val0 (v := ?v15) (by simp only [zA, zB, zC]; rfl) rfl ?hw15 (fun w1 => ?hy15) ?hn15; (case hw15 => rfl); (case hy15 => (go_simp; (try with_reducible rfl))); (try simp only [Act.put, zF, zG, zH]))
        (refine TD.load (v := ?v16) (p := ?p16) (Mod.refl _ _) (by simp only [zA, zB, zC]; rfl) rfl ?hw16 rfl ?hx16 (fun wq hSq => ?hy16) ?hn16; (case hw16 => rfl); (case hx16 => (simp only [Act.eval, zD, zA, zB, zC, zE]; (try rfl))); (case hy16 => (have khq := hSq.at kh (fun h => h); have kgq := hSq.at kg (fun h => h); have kp3q := hSq.at kp3 (fun h => h); go_simp; (try with_reducible rfl))); (try simp only [Act.put, zF, zG, zH]))
        (refine TD.val0 (v := ?v17) (by simp only [zA, zB, zC]; rfl) rfl ?hw17 (fun w1 => ?hy17) ?hn17; (case hw17 => rfl); (case hy17 => (go_simp; (try with_reducible rfl))); (try simp only [Act.put, zF, zG, zH]))
        (refine TD.val0 (v := ?v18) (by simp only [zA, zB, zC]; rfl) rfl ?hw18 (fun w1 => ?hy18) ?hn18; (case hw18 => rfl); (case hy18 => (go_simp; (try with_reducible rfl))); (try simp only [Act.put, zF, zG, zH]))
        (refine TD.load (v := ?v19) (p := ?p19) (Mod.refl _ _) (by simp only [zA, zB, zC]; rfl) rfl ?hw19 rfl ?hx19 (fun wq hSq => ?hy19) ?hn19; (case hw19 => rfl); (case hx19 => (simp only [Act.eval, zD, zA, zB, zC, zE]; (try rfl))); (case hy19 => (have khq := hSq.at kh (fun h => h); have kgq := hSq.at kg (fun h => h); have kp3q := hSq.at kp3 (fun h => h); go_simp; (try with_reducible rfl))); (try simp only [Act.put, zF, zG, zH]))
        (refine TD.load (v := ?v20) (p := ?p20) (Mod.refl _ _) (by simp only [zA, zB, zC]; rfl) rfl ?hw20 rfl ?hx20 (fun wq hSq => ?hy20) ?hn20; (case hw20 => rfl); (case hx20 => (simp only [Act.eval, zD, zA, zB, zC, zE]; (try rfl))); (case hy20 => (have khq := hSq.at kh (fun h => h); have kgq := hSq.at kg (fun h => h); have kp3q := hSq.at kp3 (fun h => h); go_simp; (try with_reducible rfl))); (try simp only [Act.put, zF, zG, zH]))
        (refine TD.val0 (v := ?v21) (by simp only [zA, zB, zC]; rfl) rfl ?hw21 (fun w1 => ?hy21) ?hn21; (case hw21 => rfl); (case hy21 => (go_simp; (try with_reducible rfl))); (try simp only [Act.put, zF, zG, zH]))
        refine TD.nil (fun w3 hr => ?_)
        replace kh := hr.mod.at kh (fun h => h)
        replace kg := hr.mod.at kg (fun h => h)
        replace kp3 := hr.mod.at kp3 (fun h => h)
        have hm3 := hm.then0 hr.mod
        clear hr
        go_wp2_with fail
        go_roundw
        case rel => exact ⟨i + 1, by omega, by go_num, HN, hm3⟩
        case measure => simp [intOf]; omega
    · have hd := decide_eq_false hlt
      have HE : Hid (k ∉ L) := Lib.hid (by
        have h1 := HT.out
        rw [List.take_of_length_le (by omega)] at h1
        exact h1)
      go_wp2_with fail
      go_ret2
      exact ⟨0, by rw [decide_eq_false HE.out]; rfl, m1.then0 hm⟩
theorem bsHash (k : Key) (w : World) : (Instr.buildSlice 23 1 #[(0, .agg (kc k))]).run Try.prog w = .ok (.slice (some ⟨w.heap.size, 0, none⟩) 1 1) (w.alloc (.cells (kc k) 50)) := by
  obtain ⟨i0, hi, hz0, hz1, hz2⟩ := info_parts (show (Try.prog.info? 50).map (fun i => (i.zero, i.size, i.bytes)) = some (some (.agg zHash), 32, 32) by kernel_rfl)
  refine run_buildSlice w _ _ 1 _ _ i0 _ Try.underlying23 hi hz0 (by rw [hz1]; omega) (by rw [hz1]; omega) ?_
  rw [hz1]
  show Instr.fill _ _ [(0, _)] = _
  rw [fill_cons (off := 0) (n := 32) rfl (by simp [Value.cells]) (by simp [Value.cells, zHash_size, size_madeCells])]
  show some (wr _ 0 (kc k).toList) = _
  rw [wr_whole (kc k) _ (by simp [Value.cells, zHash_size, size_madeCells])]
theorem bldHash0 (w : World) : (Instr.build 50 #[]).run Try.prog w = .ok (.agg zHash) w := by kernel_rfl
theorem SlOwn.cap {α : Type} {f : α → Array Value} {n : Nat} {E : TypeId} {w : World} {base m c : Nat} {a : Option Addr} {l : List α} (h : SlOwn f n E w base (.slice a m c) l) : l.length ≤ c := by
  rcases h.2 with ⟨e, hn⟩ | ⟨g, cap, cur, e, _, _, hnc, _⟩
  · omega
  · cases e
    exact hnc
theorem own_one {α : Type} {P : Program} {T E : TypeId} {f : α → Array Value} {n B : Nat} (hT : ElT P T E f n B) {w : World} {base q : Nat} {x : α} (hb : base ≤ q) (hg : w.heap[q]? = some (.cells (f x) E (0, 0))) (_ : True = True) : SlOwn f n E w base (.slice (some ⟨q, 0, none⟩) 1 1) [x] :=
  ⟨by simp [cellsOf, hT.size], .inr ⟨q, 1, f x, rfl, hb, hg, Nat.le_refl _, by simp [maxLen], by simp [hT.size], by simp [cellsOf, hT.size, List.take_of_length_le]⟩⟩
theorem DQ.mod {w w' : World} {h : Nat} {L : List Key} {S : Nat → Prop} (hD : DQ w h L) (hm : Mod S w w') (h1 : ¬ S h) (h2 : ∀ a c, w.heap[h]? = some (.cells #[.slice a L.length c] 104 (0, 0)) → ∀ b o, a = some ⟨b, o, none⟩ → ¬ S b) : DQ w' h L := by
  obtain ⟨a, c, k1, k2, k3, k4⟩ := hD
  exact ⟨a, c, hm.at k1 h1, k2.mod hm (h2 a c k1), k3, fun x hx => ⟨Nat.lt_of_lt_of_le (k4 x hx).1 hm.size, (k4 x hx).2⟩⟩
theorem DQ.mod0 {w w' : World} {h : Nat} {L : List Key} (hD : DQ w h L) (hm : Mod (fun _ => False) w w') : DQ w' h L := hD.mod hm (fun h => h) (fun _ _ _ _ _ _ h => h)
set_option maxRecDepth 20000 in
set_option maxHeartbeats 3200000 in
theorem rpush_c (h : Nat) (L : List Key) (k : Key) (w : World) (hD : DQ w h L) : Calls Try.prog 28 #[ptrV h, .agg (kc k)] w fun e w' => (∃ v, e = .returned v) ∧ DQ w' h (pushQ L k) ∧ Mod (fun i => i = h) w w' := by
  have H := Lib.hid hD
  have hh0 := bldHash0
  obtain ⟨a, c, kh, hL, hn, hb⟩ := hD
  have HL := Lib.hid hL
  have HB := Lib.hid hb
  clear hL hb
  go_enter Try.func28, Try.ntmps28
  go_upto_region 0 with fail
  have Lkh := lt_size kh
  refine wp_pass0 (C := fun _ _ _ => False) (κ := fun i => [3, 3, 0, 0].getD i 0) [0, 1, 2, 3] (by kernel_rfl) (by kernel_rfl) (fun _ _ d _ _ h => by cases d <;> first | exact h | exact absurd h (hP _ _ _)) ?_
  (refine TD.box (v := ?v22) (by simp only [zA, zB, zC]; rfl) rfl ?hw22 rfl rfl ?hx22 (fun p3 hp3 => ?hn22); (case hw22 => rfl); (case hx22 => (simp only [Act.eval, zD, zA, zB, zC, zE]; (try rfl))); (try simp only [Act.put, zF, zG, zH]))
  (refine TD.allocB (by simp only [zA, zB, zC]; rfl) rfl ?hw23 rfl rfl alHash (fun p4 hp4 => ?hn23); (case hw23 => rfl); (try simp only [Act.put, zF, zG, zH]))
  obtain ⟨ne_p4_p3, hp4⟩ := Bx.set_none hp4
  (refine TD.val0 (v := ?v24) (by simp only [zA, zB, zC]; rfl) rfl ?hw24 (fun w1 => ?hy24) ?hn24; (case hw24 => rfl); (case hy24 => (go_simp; (try with_reducible rfl))); (try simp only [Act.put, zF, zG, zH]))
  (refine TD.val0 (v := ?v25) (by simp only [zA, zB, zC]; rfl) rfl ?hw25 (fun w1 => ?hy25) ?hn25; (case hw25 => rfl); (case hy25 => (go_simp; (try with_reducible rfl))); (try simp only [Act.put, zF, zG, zH]))
  refine TD.nil (fun w1 hr => ?_)
  replace kh := hr.mod.at kh (fun h => h)
  have kp3 := hr.box p3 _ (by first | exact Bx.set_same _ _ _ | (simp only [Bx.set_ne _ (Ne.symm ne_p4_p3), Bx.set_ne _ ne_p4_p3, Bx.set_same]; rfl)); dsimp only [Value.cells] at kp3; obtain ⟨gp3, kp3⟩ := kp3
  have kp4 := hr.box p4 _ (by first | exact Bx.set_same _ _ _ | (simp only [Bx.set_ne _ (Ne.symm ne_p4_p3), Bx.set_ne _ ne_p4_p3, Bx.set_same]; rfl)); dsimp only [Value.cells] at kp4; obtain ⟨gp4, kp4⟩ := kp4
  have m1 := hr.mod
  clear hr
  go_upto_region 1 with fail
  go_wp2_with fail
  go_at_call 58
  refine (rage_c h L k _ (H.out.mod0 m1)).mono ?_
  rintro e w2 ⟨ag, rfl, m2⟩
  replace kh := m2.at0 kh
  replace kp3 := m2.at0 kp3
  replace kp4 := m2.at0 kp4
  replace m2 := m1.then0 m2
  have hh4 : h ≠ p4 := ne_of_obj kh kp4 (by simp [zHash])
  have hp4 : w.heap.size ≤ p4 := gp4
  have HLa := Lib.hid (HL.out.mod0 m2)
  have HM2 : Hid (Mod (fun i => i = h) w w2) := Lib.hid (m2.mono (fun _ _ h => h.elim))
  clear m1 m2
  by_cases hk : k ∈ L
  · have HK := Lib.hid hk
    rw [decide_eq_true hk]
    clear hk
    go_upto_region 3 with fail
    have Lkh := lt_size kh
    have Lkp4 := lt_size kp4
    refine wp_pass0 (C := fun _ _ _ => False) (κ := fun i => [0, 5, 0, 0].getD i 0) [0, 2, 3, 1] (by kernel_rfl) (by kernel_rfl) (fun _ _ d _ _ h => by cases d <;> first | exact h | exact absurd h (hP _ _ _)) ?_
    (refine TD.build (v := ?v26) (ps := ?p26) (by simp only [zA, zB, zC]; rfl) rfl ?hw26 rfl ?hx26 (fun w1 => ?hy26) ?hn26; (case hw26 => rfl); (case hx26 => (simp only [List.map_toArray, List.map_cons, List.map_nil, Act.eval, zD, zA, zB, zC, zE]; (try rfl))); (case hy26 => (rw [hh0]; (try with_reducible rfl))); (try simp only [Act.put, zF, zG, zH]))
    (refine TD.val0 (v := ?v27) (by simp only [zA, zB, zC]; rfl) rfl ?hw27 (fun w1 => ?hy27) ?hn27; (case hw27 => rfl); (case hy27 => (go_simp; (try with_reducible rfl))); (try simp only [Act.put, zF, zG, zH]))
    (refine TD.val0 (v := ?v28) (by simp only [zA, zB, zC]; rfl) rfl ?hw28 (fun w1 => ?hy28) ?hn28; (case hw28 => rfl); (case hy28 => (go_simp; (try with_reducible rfl))); (try simp only [Act.put, zF, zG, zH]))
    refine TD.eff (by simp only [zA, zB, zC]; rfl) rfl (fun wE hr => ?_)
    replace kh := hr.mod.at0 kh
    replace kp4 := hr.mod.at0 kp4
    have mE := hr.mod
    (refine eff_store (X := ?X29) (Y := ?Y29) (w' := ?w29) (by simp only [zA, zB, zC]; rfl) ?hw29 rfl ?hx29 ?hz29 ?hy29 ?hn29; (case hw29 => rfl); (case hx29 => (simp only [Act.eval, zD, zA, zB, zC, zE]; (try rfl))); (case hz29 => (simp only [Act.eval, zD, zA, zB, zC, zE]; (try rfl))); (case hy29 => (go_simp; (try with_reducible rfl))))
    (first | refine TE.nil_set kp4 (fun w5 kp4 mS => ?_) | refine TE.nil_setCell kp4 (fun w5 kp4 mS => ?_))
    (try simp only [Array.setIfInBounds, zF, zG, zH] at kp4)
    replace kh := mS.at_ne kh (by omega)
    replace HM2 := Lib.hid (HM2.out.then ((mE.mono (T := fun i => i = p4) (fun _ _ h => h.elim)).trans mS) (fun i hi e => by omega))
    go_wp2_with fail
    refine bodyPost_ret (results_cell3 (x := .agg zHash) rfl rfl (by rw [ldHash]; simp [kp4, zHash_size, zHash_ext])) rfl ⟨⟨_, rfl⟩, ?_, HM2.out⟩
    rw [show pushQ L k = L from if_pos HK.out]
    have mm := (mE.mono (T := fun i => i = p4) (fun _ _ h => h.elim)).trans mS
    exact ⟨a, c, kh, HLa.out.mod mm (fun b o e hb => by
      have := (HB.out _ e).1
      simp only at this
      omega), hn, fun x hx => ⟨Nat.lt_of_lt_of_le (HB.out x hx).1 HM2.out.size, (HB.out x hx).2⟩⟩
  · have HK := Lib.hid hk
    rw [decide_eq_false hk]
    clear hk
    have hbs := bsHash k
    generalize hll : L.length = ll at *
    have HLL := Lib.hid hll
    clear hll
    go_upto_region 4 with fail
    have Lkh := lt_size kh
    have Lkp3 := lt_size kp3
    have Lkp4 := lt_size kp4
    refine wp_pass (C := fun _ _ _ => False) (κ := fun i => [0, 1, 3, 0, 0, 0, 1, 5, 0, 0, 6].getD i 0) [0, 1, 2, 3, 4, 5, 6, 7, 8, 9, 10] (by kernel_rfl) (by kernel_rfl) (fun _ _ d _ _ h => by cases d <;> first | exact h | exact absurd h (hP _ _ _)) ?_
    (refine TD.val0 (v := ?v30) (by simp only [zA, zB, zC]; rfl) rfl ?hw30 (fun w1 => ?hy30) ?hn30; (case hw30 => rfl); (case hy30 => (go_simp; (try with_reducible rfl))); (try simp only [Act.put, zF, zG, zH]))
    (refine TD.load (v := ?v31) (p := ?p31) (Mod.refl _ _) (by simp only [zA, zB, zC]; rfl) rfl ?hw31 rfl ?hx31 (fun wq hSq => ?hy31) ?hn31; (case hw31 => rfl); (case hx31 => (simp only [Act.eval, zD, zA, zB, zC, zE]; (try rfl))); (case hy31 => (have khq := hSq.at kh (fun h => h); have kp3q := hSq.at kp3 (fun h => h); have kp4q := hSq.at kp4 (fun h => h); go_simp; (try with_reducible rfl))); (try simp only [Act.put, zF, zG, zH]))
    (refine TD.bslice (by simp only [zA, zB, zC]; rfl) rfl ?hw32 rfl rfl ?hx32 hbs (fun p20 hp20 => ?hn32); (case hw32 => rfl); (case hx32 => (simp only [List.map_toArray, List.map_cons, List.map_nil, Act.eval, zD, zA, zB, zC, zE]; (try rfl))); (try simp only [Act.put, zF, zG, zH]))
    (refine TD.val0 (v := ?v33) (by simp only [zA, zB, zC]; rfl) rfl ?hw33 (fun w1 => ?hy33) ?hn33; (case hw33 => rfl); (case hy33 => (go_simp; (try with_reducible rfl))); (try simp only [Act.put, zF, zG, zH]))
    (refine TD.val0 (v := ?v34) (by simp only [zA, zB, zC]; rfl) rfl ?hw34 (fun w1 => ?hy34) ?hn34; (case hw34 => rfl); (case hy34 => (go_simp; (try with_reducible rfl))); (try simp only [Act.put, zF, zG, zH]))
    (refine TD.val0 (v := ?v35) (by simp only [zA, zB, zC]; rfl) rfl ?hw35 (fun w1 => ?hy35) ?hn35; (case hw35 => rfl); (case hy35 => (go_simp; (try with_reducible rfl))); (try simp only [Act.put, zF, zG, zH]))
    (refine TD.load (v := ?v36) (p := ?p36) (Mod.refl _ _) (by simp only [zA, zB, zC]; rfl) rfl ?hw36 rfl ?hx36 (fun wq hSq => ?hy36) ?hn36; (case hw36 => rfl); (case hx36 => (simp only [Act.eval, zD, zA, zB, zC, zE]; (try rfl))); (case hy36 => (have khq := hSq.at kh (fun h => h); have kp3q := hSq.at kp3 (fun h => h); have kp4q := hSq.at kp4 (fun h => h); go_simp; (try with_reducible rfl))); (try simp only [Act.put, zF, zG, zH]))
    refine TD.eff (by simp only [zA, zB, zC]; rfl) rfl (fun w3 hr => ?_)
    replace kh := hr.mod.at kh (fun h => h)
    replace kp3 := hr.mod.at kp3 (fun h => h)
    replace kp4 := hr.mod.at kp4 (fun h => h)
    have kp20 := hr.box p20 _ (by first | exact Bx.set_same _ _ _ | (simp only [Bx.set_same]; rfl)); dsimp only [Value.cells] at kp20; obtain ⟨gp20, kp20⟩ := kp20
    have m3 := hr.mod
    clear hr hbs
    obtain ⟨v3, w6, hap, hO6, m6, hn6⟩ := SlOwn.append hashesT (c := c) (l := [k]) (base := w2.heap.size) (v := .slice (some ⟨p20, 0, none⟩) 1 1) (own_one hashesT gp20 kp20 rfl) (HLa.out.mod0 m3) (by simp; have := HLL.out; omega) (by decide) m3.size 23
    rw [HLL.out] at hap
    have hne20 : ∀ i, i < w2.heap.size → ¬ ((Value.slice (some ⟨p20, 0, none⟩) 1 1).ownBlock = some i) := fun i hi e => by
      have e2 : p20 = i := Option.some.inj e
      omega
    have kh2 := lt_size H.out.choose_spec.choose_spec.1
    replace kh := m6.at kh (hne20 h (Nat.lt_of_lt_of_le kh2 HM2.out.size))
    replace kp3 := m6.at kp3 (hne20 p3 Lkp3)
    replace kp4 := m6.at kp4 (hne20 p4 Lkp4)
    have mF : Mod (fun _ => False) w2 w6 := m3.then m6 (fun i hi e => hne20 i hi e)
    obtain ⟨a6, c6, rfl, hA6, hB6, _⟩ := hO6.at hashesT
    obtain ⟨n1, hn1⟩ : ∃ n1, ([k] ++ L).length = n1 := ⟨_, rfl⟩
    have hn2 : Hid (n1 = ll + 1) := Lib.hid (by rw [← hn1, ← HLL.out]; simp)
    rw [hn1] at hap
    have HN1 := Lib.hid hn1
    have HC6 : Hid (([k] ++ L).length ≤ c6) := Lib.hid hO6.cap
    have HO6 : Hid (SlAt kc 32 w6 a6 (k :: L) ∧ ∀ x, a6 = some x → w2.heap.size ≤ x.block ∧ x.block < w6.heap.size) := Lib.hid ⟨hA6, fun x hx => ⟨(hB6 x hx).1, (hB6 x hx).2.1⟩⟩
    clear hO6 hA6 hB6 hn6 m6 m3 hne20 kh2 hn1
    (refine eff_append (by simp only [zA, zB, zC]; rfl) ?hw38 rfl ?hx38 ?hz38 hap ?hn38; (case hw38 => rfl); (case hx38 => (simp only [Act.eval, zD, zA, zB, zC, zE]; (try rfl))); (case hz38 => (simp only [Act.eval, zD, zA, zB, zC, zE]; (try rfl))); (try simp only [Act.put, zF, zG, zH]))
    (refine TE.val0 (v := ?v39) (by simp only [zA, zB, zC]; rfl) ?hw39 (fun w1 => ?hy39) ?hn39; (case hw39 => rfl); (case hy39 => (go_simp; (try with_reducible rfl))); (try simp only [Act.put, zF, zG, zH]))
    (refine TE.val0 (v := ?v40) (by simp only [zA, zB, zC]; rfl) ?hw40 (fun w1 => ?hy40) ?hn40; (case hw40 => rfl); (case hy40 => (go_simp; (try with_reducible rfl))); (try simp only [Act.put, zF, zG, zH]))
    refine TE.step (by simp only [zA, zB, zC]; rfl) rfl ?_
    (refine eff_store (X := ?X41) (Y := ?Y41) (w' := ?w41) (by simp only [zA, zB, zC]; rfl) ?hw41 rfl ?hx41 ?hz41 ?hy41 ?hn41; (case hw41 => rfl); (case hx41 => (simp only [Act.eval, zD, zA, zB, zC, zE]; (try rfl))); (case hz41 => (simp only [Act.eval, zD, zA, zB, zC, zE]; (try rfl))); (case hy41 => (go_simp; (try with_reducible rfl))))
    (first | refine TE.nil_set kh (fun wn kh mS => ?_) | refine TE.nil_setCell kh (fun wn kh mS => ?_))
    (try simp only [Array.setIfInBounds, zF, zG, zH] at kh)
    replace kh : wn.heap[h]? = some (.cells #[.slice a6 n1 c6] 104 (0, 0)) := kh
    have hhn : h < w2.heap.size := Lkh
    have hp4n : p4 < w2.heap.size := Lkp4
    replace kp3 := mS.at kp3 (by omega)
    replace kp4 := mS.at_ne kp4 hh4.symm
    have HS6 : Hid (SlAt kc 32 wn a6 (k :: L) ∧ ∀ x, a6 = some x → w2.heap.size ≤ x.block ∧ x.block < wn.heap.size) := Lib.hid ⟨HO6.out.1.mod mS (fun b o e hb => by
      have := (HO6.out.2 _ e).1
      simp only at this
      omega), fun x hx => ⟨(HO6.out.2 x hx).1, Nat.lt_of_lt_of_le (HO6.out.2 x hx).2 mS.size⟩⟩
    replace HM2 := Lib.hid (HM2.out.trans ((mF.mono (T := fun i => i = h) (fun _ _ h => h.elim)).trans mS))
    have hh2w : w2.heap.size ≤ wn.heap.size := Nat.le_trans mF.size mS.size
    clear hap HO6 mS mF Lkh Lkp3 Lkp4 kp20
    by_cases hle : n1 ≤ 150
    · have hd := decide_eq_true hle
      go_upto_region 6 with fail
      have Lkh := lt_size kh
      have Lkp4 := lt_size kp4
      refine wp_pass0 (C := fun _ _ _ => False) (κ := fun i => [0, 5, 0, 0].getD i 0) [0, 2, 3, 1] (by kernel_rfl) (by kernel_rfl) (fun _ _ d _ _ h => by cases d <;> first | exact h | exact absurd h (hP _ _ _)) ?_
      (refine TD.build (v := ?v42) (ps := ?p42) (by simp only [zA, zB, zC]; rfl) rfl ?hw42 rfl ?hx42 (fun w1 => ?hy42) ?hn42; (case hw42 => rfl); (case hx42 => (simp only [List.map_toArray, List.map_cons, List.map_nil, Act.eval, zD, zA, zB, zC, zE]; (try rfl))); (case hy42 => (rw [hh0]; (try with_reducible rfl))); (try simp only [Act.put, zF, zG, zH]))
      (refine TD.val0 (v := ?v43) (by simp only [zA, zB, zC]; rfl) rfl ?hw43 (fun w1 => ?hy43) ?hn43; (case hw43 => rfl); (case hy43 => (go_simp; (try with_reducible rfl))); (try simp only [Act.put, zF, zG, zH]))
      (refine TD.val0 (v := ?v44) (by simp only [zA, zB, zC]; rfl) rfl ?hw44 (fun w1 => ?hy44) ?hn44; (case hw44 => rfl); (case hy44 => (go_simp; (try with_reducible rfl))); (try simp only [Act.put, zF, zG, zH]))
      refine TD.eff (by simp only [zA, zB, zC]; rfl) rfl (fun wE hr => ?_)
      replace kh := hr.mod.at0 kh
      replace kp4 := hr.mod.at0 kp4
      have mE := hr.mod
      (refine eff_store (X := ?X45) (Y := ?Y45) (w' := ?w45) (by simp only [zA, zB, zC]; rfl) ?hw45 rfl ?hx45 ?hz45 ?hy45 ?hn45; (case hw45 => rfl); (case hx45 => (simp only [Act.eval, zD, zA, zB, zC, zE]; (try rfl))); (case hz45 => (simp only [Act.eval, zD, zA, zB, zC, zE]; (try rfl))); (case hy45 => (go_simp; (try with_reducible rfl))))
      (first | refine TE.nil_set kp4 (fun w9 kp4 mS => ?_) | refine TE.nil_setCell kp4 (fun w9 kp4 mS => ?_))
      (try simp only [Array.setIfInBounds, zF, zG, zH] at kp4)
      replace kh := mS.at_ne kh (by omega)
      have mm := (mE.mono (T := fun i => i = p4) (fun _ _ h => h.elim)).trans mS
      go_wp2_with fail
      refine bodyPost_ret (results_cell3 (x := .agg zHash) rfl rfl (by rw [ldHash]; simp [kp4, zHash_size, zHash_ext])) rfl ⟨⟨_, rfl⟩, ?_, HM2.out.then mm (fun i hi e => by omega)⟩
      have hp : pushQ L k = k :: L := by
        rw [show pushQ L k = (k :: L).take 150 from if_neg HK.out, List.take_of_length_le (by have h1 := HN1.out; have h2 : (k :: L).length = n1 := h1; omega)]
      rw [hp]
      have h2 : (k :: L).length = n1 := HN1.out
      exact ⟨a6, c6, by rw [h2]; exact kh, HS6.out.1.mod mm (fun b o e hb => by
        have := (HS6.out.2 _ e).1
        simp only at this
        omega), by omega, fun x hx => ⟨Nat.lt_of_lt_of_le (HS6.out.2 x hx).2 mm.size, by have := (HS6.out.2 x hx).1; omega⟩⟩
    · have hd := decide_eq_false hle
      obtain ⟨n0, hn0⟩ : ∃ n0 : Nat, n0 = 150 := ⟨_, rfl⟩
      have hn151 : n1 = 151 := by have := hn2.out; omega
      obtain ⟨x, hx⟩ : ∃ x, (k :: L)[150]? = some x := ⟨_, List.getElem?_eq_getElem (by have h1 := HN1.out; have h2 : (k :: L).length = n1 := h1; omega)⟩
      obtain ⟨g, o, C, U, fr, rfl, kg, he, hlC⟩ := hash_at HS6.out.1 hx
      have hgw := HS6.out.2 _ rfl
      simp only at hgw
      have hgh : g ≠ h := by omega
      have hg4 : g ≠ p4 := by omega
      have hhm : h ≠ p4 := hh4
      clear hx
      go_upto_region 7 with fail
      have Lkh := lt_size kh
      have Lkp4 := lt_size kp4
      have Lkg := lt_size kg
      refine wp_pass0 (C := fun _ _ _ => False) (κ := fun i => [0, 0, 0, 1, 0, 1, 3, 4].getD i 0) [0, 1, 2, 3, 4, 5, 6, 7] (by kernel_rfl) (by kernel_rfl) (fun _ _ d _ _ h => by cases d <;> first | exact h | exact absurd h (hP _ _ _)) ?_
      (refine TD.val0 (v := ?v46) (by simp only [zA, zB, zC]; rfl) rfl ?hw46 (fun w1 => ?hy46) ?hn46; (case hw46 => rfl); (case hy46 => (go_simp; (try with_reducible rfl))); (try simp only [Act.put, zF, zG, zH]))
      (refine TD.val0 (v := ?v47) (by simp only [zA, zB, zC]; rfl) rfl ?hw47 (fun w1 => ?hy47) ?hn47; (case hw47 => rfl); (case hy47 => (go_simp; (try with_reducible rfl))); (try simp only [Act.put, zF, zG, zH]))
      (refine TD.val0 (v := ?v48) (by simp only [zA, zB, zC]; rfl) rfl ?hw48 (fun w1 => ?hy48) ?hn48; (case hw48 => rfl); (case hy48 => (go_simp; (try with_reducible rfl))); (try simp only [Act.put, zF, zG, zH]))
      (refine TD.load (v := ?v49) (p := ?p49) (Mod.refl _ _) (by simp only [zA, zB, zC]; rfl) rfl ?hw49 rfl ?hx49 (fun wq hSq => ?hy49) ?hn49; (case hw49 => rfl); (case hx49 => (simp only [Act.eval, zD, zA, zB, zC, zE]; (try rfl))); (case hy49 => (have khq := hSq.at kh (fun h => h); have kp4q := hSq.at kp4 (fun h => h); have kgq := hSq.at kg (fun h => h); go_simp; (try with_reducible rfl))); (try simp only [Act.put, zF, zG, zH]))
      (refine TD.val0 (v := ?v50) (by simp only [zA, zB, zC]; rfl) rfl ?hw50 (fun w1 => ?hy50) ?hn50; (case hw50 => rfl); (case hy50 => (go_simp; (try with_reducible rfl))); (try simp only [Act.put, zF, zG, zH]))
      (refine TD.load (v := ?v51) (p := ?p51) (Mod.refl _ _) (by simp only [zA, zB, zC]; rfl) rfl ?hw51 rfl ?hx51 (fun wq hSq => ?hy51) ?hn51; (case hw51 => rfl); (case hx51 => (simp only [Act.eval, zD, zA, zB, zC, zE]; (try rfl))); (case hy51 => (have khq := hSq.at kh (fun h => h); have kp4q := hSq.at kp4 (fun h => h); have kgq := hSq.at kg (fun h => h); go_simp; (try with_reducible rfl))); (try simp only [Act.put, zF, zG, zH]))
      (refine TD.allocB (by simp only [zA, zB, zC]; rfl) rfl ?hw52 rfl rfl alHash (fun p9 hp9 => ?hn52); (case hw52 => rfl); (try simp only [Act.put, zF, zG, zH]))
      (refine TD.storeB (d := ?d53) (T := ?T53) (y := ?y53) (p := ?p53) (b := ?b53) (v := ?v53) (by simp only [zA, zB, zC]; rfl) rfl ?hw53 ?hd53 ?hop53 ?hev53 ?hx53 ?hb53 ?htag53 (fun w1 hb1 => ?hy53) ?hn53; (case hw53 => rfl); (case hd53 => rfl); (case hop53 => rfl); (case hev53 => (simp only [Act.eval, zD, zA, zB, zC, zE]; (try rfl))); (case hx53 => (simp only [Act.eval, zD, zA, zB, zC, zE]; (try rfl))); (case hb53 => first | exact Bx.set_same _ _ _ | (simp only [Bx.set_same]; rfl)); (case hy53 => (go_simp; (try first | with_reducible rfl | (rw [setCell_blk hb1]; rfl)))); (try simp only [Act.put, zF, zG, zH]))
      refine TD.nil (fun w9 hr => ?_)
      replace kh := hr.mod.at kh (fun h => h)
      replace kp4 := hr.mod.at kp4 (fun h => h)
      replace kg := hr.mod.at kg (fun h => h)
      have kp9 := hr.box p9 _ (by first | exact Bx.set_same _ _ _ | (simp only [Bx.set_same]; rfl)); dsimp only [Value.cells] at kp9; obtain ⟨gp9, kp9⟩ := kp9
      have m9 := hr.mod
      clear hr
      have hc6 : n1 ≤ c6 := by have := HC6.out; have h1 := HN1.out; omega
      have hq1 : ∀ w, (Instr.sliceAt 23 (.slice (some ⟨g, o, none⟩) n1 c6) none (some (.int .i64 150)) none).run Try.prog w = .ok (.slice (some ⟨g, o, none⟩) 150 c6) w := fun w => sl_take (k := 150) hashesT (by omega) w
      have HC66 := Lib.hid hn151
      clear hc6 hn151 hle hd
      go_upto_region 8 with fail
      have Lkh := lt_size kh
      have Lkp4 := lt_size kp4
      have Lkp9 := lt_size kp9
      refine wp_pass0 (C := fun _ _ _ => False) (κ := fun i => [0, 0, 0, 0, 1, 0, 0, 0, 5].getD i 0) [0, 1, 2, 3, 4, 5, 6, 7, 8] (by kernel_rfl) (by kernel_rfl) (fun _ _ d _ _ h => by cases d <;> first | exact h | exact absurd h (hP _ _ _)) ?_
      (refine TD.val0 (v := ?v54) (by simp only [zA, zB, zC]; rfl) rfl ?hw54 (fun w1 => ?hy54) ?hn54; (case hw54 => rfl); (case hy54 => (go_simp; (try with_reducible rfl))); (try simp only [Act.put, zF, zG, zH]))
      (refine TD.val0 (v := ?v55) (by simp only [zA, zB, zC]; rfl) rfl ?hw55 (fun w1 => ?hy55) ?hn55; (case hw55 => rfl); (case hy55 => (go_simp; (try with_reducible rfl))); (try simp only [Act.put, zF, zG, zH]))
      (refine TD.val0 (v := ?v56) (by simp only [zA, zB, zC]; rfl) rfl ?hw56 (fun w1 => ?hy56) ?hn56; (case hw56 => rfl); (case hy56 => (go_simp; (try with_reducible rfl))); (try simp only [Act.put, zF, zG, zH]))
      (refine TD.val0 (v := ?v57) (by simp only [zA, zB, zC]; rfl) rfl ?hw57 (fun w1 => ?hy57) ?hn57; (case hw57 => rfl); (case hy57 => (go_simp; (try with_reducible rfl))); (try simp only [Act.put, zF, zG, zH]))
      (refine TD.load (v := ?v58) (p := ?p58) (Mod.refl _ _) (by simp only [zA, zB, zC]; rfl) rfl ?hw58 rfl ?hx58 (fun wq hSq => ?hy58) ?hn58; (case hw58 => rfl); (case hx58 => (simp only [Act.eval, zD, zA, zB, zC, zE]; (try rfl))); (case hy58 => (have khq := hSq.at kh (fun h => h); have kp4q := hSq.at kp4 (fun h => h); have kp9q := hSq.at kp9 (fun h => h); go_simp; (try with_reducible rfl))); (try simp only [Act.put, zF, zG, zH]))
      (refine TD.slice (by simp only [zA, zB, zC]; rfl) rfl ?hw59 rfl ?hs59 ?hl59 ?hh59 ?hm59 hq1 ?hn59; (case hw59 => rfl); (case hs59 => (simp only [Act.eval, zD, zA, zB, zC, zE]; (try rfl))); (case hl59 => first | rfl | (simp only [Option.map_some, Act.eval, zD, zA, zB, zC, zE]; (try rfl))); (case hh59 => first | rfl | (simp only [Option.map_some, Act.eval, zD, zA, zB, zC, zE]; (try rfl))); (case hm59 => rfl); (try simp only [Act.put, zF, zG, zH]))
      (refine TD.val0 (v := ?v60) (by simp only [zA, zB, zC]; rfl) rfl ?hw60 (fun w1 => ?hy60) ?hn60; (case hw60 => rfl); (case hy60 => (go_simp; (try with_reducible rfl))); (try simp only [Act.put, zF, zG, zH]))
      (refine TD.val0 (v := ?v61) (by simp only [zA, zB, zC]; rfl) rfl ?hw61 (fun w1 => ?hy61) ?hn61; (case hw61 => rfl); (case hy61 => (go_simp; (try with_reducible rfl))); (try simp only [Act.put, zF, zG, zH]))
      refine TD.eff (by simp only [zA, zB, zC]; rfl) rfl (fun wE hr => ?_)
      replace kh := hr.mod.at0 kh
      replace kp4 := hr.mod.at0 kp4
      replace kp9 := hr.mod.at0 kp9
      have mE := hr.mod
      (refine eff_store (X := ?X62) (Y := ?Y62) (w' := ?w62) (by simp only [zA, zB, zC]; rfl) ?hw62 rfl ?hx62 ?hz62 ?hy62 ?hn62; (case hw62 => rfl); (case hx62 => (simp only [Act.eval, zD, zA, zB, zC, zE]; (try rfl))); (case hz62 => (simp only [Act.eval, zD, zA, zB, zC, zE]; (try rfl))); (case hy62 => (go_simp; (try with_reducible rfl))))
      (first | refine TE.nil_set kh (fun w10 kh mS => ?_) | refine TE.nil_setCell kh (fun w10 kh mS => ?_))
      (try simp only [Array.setIfInBounds, zF, zG, zH] at kh)
      replace kp4 := mS.at_ne kp4 (by omega)
      replace kp9 := mS.at_ne kp9 (by omega)
      replace kh : w10.heap[h]? = some (.cells #[.slice (some ⟨g, o, none⟩) 150 c6] 104 (0, 0)) := kh
      have m10 := (((HM2.out.then0 m9).then0 mE)).trans mS
      have hS10 := (HS6.out.1.mod0 (m9.then0 mE)).mod mS (fun b o e hb => by cases e; omega)
      have hsz := Nat.le_trans m9.size (Nat.le_trans mE.size mS.size)
      have HSS := Lib.hid (And.intro m10 hS10)
      clear m9 mE mS hr hq1 m10 hS10 kg he hlC HS6 HM2
      have kp9 : w10.heap[p9]? = some (.cells (kc x) 50 (0, 0)) := kp9
      go_upto_region 9 with fail
      have Lkh := lt_size kh
      have Lkp4 := lt_size kp4
      have Lkp9 := lt_size kp9
      refine wp_pass0 (C := fun _ _ _ => False) (κ := fun i => [1, 5, 0, 0].getD i 0) [0, 2, 3, 1] (by kernel_rfl) (by kernel_rfl) (fun _ _ d _ _ h => by cases d <;> first | exact h | exact absurd h (hP _ _ _)) ?_
      (refine TD.load (v := ?v63) (p := ?p63) (Mod.refl _ _) (by simp only [zA, zB, zC]; rfl) rfl ?hw63 rfl ?hx63 (fun wq hSq => ?hy63) ?hn63; (case hw63 => rfl); (case hx63 => (simp only [Act.eval, zD, zA, zB, zC, zE]; (try rfl))); (case hy63 => (have khq := hSq.at kh (fun h => h); have kp4q := hSq.at kp4 (fun h => h); have kp9q := hSq.at kp9 (fun h => h); exact (ldHashAt kp9q))); (try simp only [Act.put, zF, zG, zH]))
      (refine TD.val0 (v := ?v64) (by simp only [zA, zB, zC]; rfl) rfl ?hw64 (fun w1 => ?hy64) ?hn64; (case hw64 => rfl); (case hy64 => (go_simp; (try with_reducible rfl))); (try simp only [Act.put, zF, zG, zH]))
      (refine TD.val0 (v := ?v65) (by simp only [zA, zB, zC]; rfl) rfl ?hw65 (fun w1 => ?hy65) ?hn65; (case hw65 => rfl); (case hy65 => (go_simp; (try with_reducible rfl))); (try simp only [Act.put, zF, zG, zH]))
      refine TD.eff (by simp only [zA, zB, zC]; rfl) rfl (fun wE hr => ?_)
      replace kh := hr.mod.at0 kh
      replace kp4 := hr.mod.at0 kp4
      replace kp9 := hr.mod.at0 kp9
      have mE := hr.mod
      (refine eff_store (X := ?X66) (Y := ?Y66) (w' := ?w66) (by simp only [zA, zB, zC]; rfl) ?hw66 rfl ?hx66 ?hz66 ?hy66 ?hn66; (case hw66 => rfl); (case hx66 => (simp only [Act.eval, zD, zA, zB, zC, zE]; (try rfl))); (case hz66 => (simp only [Act.eval, zD, zA, zB, zC, zE]; (try rfl))); (case hy66 => (go_simp; (try with_reducible rfl))))
      (first | refine TE.nil_set kp4 (fun w11 kp4 mS => ?_) | refine TE.nil_setCell kp4 (fun w11 kp4 mS => ?_))
      (try simp only [Array.setIfInBounds, zF, zG, zH] at kp4)
      replace kh := mS.at_ne kh (by omega)
      replace kp9 := mS.at_ne kp9 (by omega)
      have mm := (mE.mono (T := fun i => i = p4) (fun _ _ h => h.elim)).trans mS
      go_wp2_with fail
      refine bodyPost_ret (results_cell3 (x := .agg (kc x)) rfl rfl (by rw [ldHash]; simp [kp4])) rfl ⟨⟨_, rfl⟩, ?_, HSS.out.1.then mm (fun i hi e => by omega)⟩
      have h2 : (k :: L).length = n1 := HN1.out
      have hp : pushQ L k = (k :: L).take 150 := if_neg HK.out
      have hl150 : ((k :: L).take 150).length = 150 := by rw [List.length_take]; have := hn2.out; have := HC66.out; omega
      rw [hp]
      exact ⟨_, c6, by rw [hl150]; exact kh, (HSS.out.2.mod mm (fun b o e hb => by cases e; omega)).take 150, by omega, fun y hy => by cases hy; exact ⟨by have := mm.size; simp only; omega, by simp only; omega⟩⟩
end Go.Proofs.Ytofpnmoeimjnnaa
namespace Go.Proofs.Ytofpnmoeimjnnaa
open Go.ChangeMaps (setBlock)
set_option linter.unusedSimpArgs false
set_option linter.unusedVariables false
set_option linter.unusedSectionVars false
theorem find_born {es : Array MapEntry} {j : Nat} {e0 : MapEntry} (hn : (es.toList.map (·.born)).Nodup) (h : es.toList[j]? = some e0) : es.findIdx? (fun e => ((e.born : Nat) : Int) == ((e0.born : Nat) : Int)) = some j := by
  rw [Array.findIdx?_eq_some_iff_getElem]
  have hj : j < es.size := by simpa using (List.getElem?_eq_some_iff.1 h).1
  have he : es[j] = e0 := by
    have := (List.getElem?_eq_some_iff.1 h).2
    simpa using this
  refine ⟨hj, by simp [he], fun i hi => ?_⟩
  intro e
  have hi2 : i < es.size := by omega
  have e2 : es[i].born = e0.born := by
    have := beq_iff_eq.1 e
    exact_mod_cast this
  rw [List.nodup_iff_pairwise_ne, List.pairwise_iff_getElem] at hn
  have := hn i j (by simpa using hi2) (by simpa using hj) hi
  simp at this
  exact this (by rw [e2, ← he])
section
variable {κ ν : Type} [DecidableEq κ] {P : Program} {T K E : TypeId} {f : κ → Value} {g : ν → Value}
theorem MapIs.entry {es : Array MapEntry} {clock : Nat} {m : List (κ × ν)} (h : MapIs f g es clock m) (hk : KeyT P K f) (hT : P.underlying T = some (.map K E)) {z : ν} (hz : ∀ w, (zeroValue E).run P w = .ok (g z) w)
    (w : World) {b : Nat} (hb : w.heap[b]? = some (.map es clock)) (k : κ) :
    ∃ st es1 c1, (Instr.mapEntry T (.map (some b)) (f k)).run P w = .ok (.tuple #[g ((lkp k m).getD z), goInt st]) (setBlock w b (.map es1 c1)) ∧ MapIs f g es1 c1 (put k ((lkp k m).getD z) m) ∧
      ∀ (w2 : World) (x : ν), w2.heap[b]? = some (.map es1 c1) → ∃ es' c', (Instr.entryStore T (.map (some b)) (goInt st) (g x)).run P w2 = .ok () (setBlock w2 b (.map es' c')) ∧ MapIs f g es' c' (put k x m) := by
  obtain ⟨l, hl⟩ := hk.lit k
  rcases h.find hk w k with ⟨h1, h2⟩ | ⟨j, u, e, hm, he, hek, hev, h1, h2⟩
  · refine ⟨clock, es.push ⟨f k, g z, clock⟩, clock + 1, ?_, ?_, fun w2 x hw2 => ⟨es.push ⟨f k, g x, clock⟩, clock + 1, ?_, ?_⟩⟩
    · simp [Instr.mapEntry, run_underlying hT, MapKept.run_getObj_map hb, hk.law.check w _ hl, h2, h1, hz, MapKept.run_setObj_map _ hb, Result.andThen, setBlock]
    · obtain ⟨es', c', hr, M⟩ := h.update hk hT w hb k z
      have e1 : (Instr.mapUpdate T (.map (some b)) (f k) (g z)).run P w = .ok () (setBlock w b (.map (es.push ⟨f k, g z, clock⟩) (clock + 1))) := by
        simp [Instr.mapUpdate, run_underlying hT, MapKept.run_getObj_map hb, hk.law.check w _ hl, h2, MapKept.run_setObj_map _ hb, Result.andThen, setBlock]
      rw [e1] at hr
      have e2 := congrArg (fun r => match r with | .ok _ w => w.heap[b]? | _ => none) hr
      simp only [heap_setBlock w _ (lt_size hb)] at e2
      cases e2
      rw [h1]
      exact M
    · have hidx : (es.push ⟨f k, g z, clock⟩).findIdx? (fun e => ((e.born : Nat) : Int) == ((clock : Nat) : Int)) = some es.size := by
        have := find_born (es := es.push ⟨f k, g z, clock⟩) (j := es.size) (e0 := ⟨f k, g z, clock⟩) (by
          simp only [Array.toList_push, List.map_append, List.map_cons, List.map_nil]
          refine List.nodup_append.2 ⟨h.apart, by simp, fun a ha c hc e1 => ?_⟩
          simp only [List.mem_singleton] at hc
          obtain ⟨x, hx, rfl⟩ := List.mem_map.1 ha
          have := h.lt x hx
          omega) (by simp)
        exact this
      have hmod : (es.push ⟨f k, g z, clock⟩).modify es.size (fun e => { e with val := g x }) = es.push ⟨f k, g x, clock⟩ := by
        apply Array.ext'
        rw [Array.toList_modify, Array.toList_push, Array.toList_push, ← Array.length_toList, modify_at _ (e := ⟨f k, g z, clock⟩) (by simp)]
        simp
      simp [Instr.entryStore, MapKept.run_getObj_map hw2, asInt, asIntOf, goInt, hidx, hmod, MapKept.run_setObj_map _ hw2, Result.andThen, setBlock]
    · obtain ⟨es', c', hr, M⟩ := h.update hk hT w hb k x
      have e1 : (Instr.mapUpdate T (.map (some b)) (f k) (g x)).run P w = .ok () (setBlock w b (.map (es.push ⟨f k, g x, clock⟩) (clock + 1))) := by
        simp [Instr.mapUpdate, run_underlying hT, MapKept.run_getObj_map hb, hk.law.check w _ hl, h2, MapKept.run_setObj_map _ hb, Result.andThen, setBlock]
      rw [e1] at hr
      have e2 := congrArg (fun r => match r with | .ok _ w => w.heap[b]? | _ => none) hr
      simp only [heap_setBlock w _ (lt_size hb)] at e2
      cases e2
      exact M
  · have hj : es[j]? = some e := by simpa using he
    have hsame : es.modify j (fun e => { e with key := f k }) = es := by
      apply Array.ext'
      rw [Array.toList_modify, modify_at _ he]
      have : ({ e with key := f k } : MapEntry) = e := by rw [← hek]
      rw [this]
      exact set_same he
    refine ⟨e.born, es, clock, ?_, ?_, fun w2 x hw2 => ⟨es.modify j (fun e' => { e' with key := f k, val := g x }), clock, ?_, ?_⟩⟩
    · simp [Instr.mapEntry, run_underlying hT, MapKept.run_getObj_map hb, hk.law.check w _ hl, h2, hj, hek, hk.law.stays w hl, hsame, MapKept.run_setObj_map _ hb, Result.andThen, setBlock, h1]
    · rw [h1, zE, put_at h.nodup hm, set_same hm]
      exact h
    · have hidx : es.findIdx? (fun e' => ((e'.born : Nat) : Int) == ((e.born : Nat) : Int)) = some j := find_born h.apart he
      have hmod : es.modify j (fun e => { e with val := g x }) = es.modify j (fun e' => { e' with key := f k, val := g x }) := by
        apply Array.ext'
        rw [Array.toList_modify, Array.toList_modify, modify_at _ he, modify_at _ he, ← hek]
      simp [Instr.entryStore, MapKept.run_getObj_map hw2, asInt, asIntOf, goInt, hidx, hmod, MapKept.run_setObj_map _ hw2, Result.andThen, setBlock]
    · obtain ⟨es', c', hr, M⟩ := h.update hk hT w hb k x
      have e1 : (Instr.mapUpdate T (.map (some b)) (f k) (g x)).run P w = .ok () (setBlock w b (.map (es.modify j (fun e' => { e' with key := f k, val := g x })) clock)) := by
        simp [Instr.mapUpdate, run_underlying hT, MapKept.run_getObj_map hb, hk.law.check w _ hl, h2, hj, hek, hk.law.stays w hl, MapKept.run_setObj_map _ hb, Result.andThen, setBlock]
      rw [e1] at hr
      have e2 := congrArg (fun r => match r with | .ok _ w => w.heap[b]? | _ => none) hr
      simp only [heap_setBlock w _ (lt_size hb)] at e2
      cases e2
      exact M
end
section
variable {P : Program} {ops : Array Oper}
theorem eff_entry {i : Nat} {a : Act} {o : Oper} {K : Act → World → Prop} {w w' : World} {T : TypeId} {x y : Operand} {X Y v : Value} {Q : Exit → Act → World → Prop} (ho : ops[i]? = some o) (hw : Region.wanted o (yielded ops a.tmps) = true)
    (hop : o.op = .mapEntry T x y) (hx : a.eval x = X) (hy : a.eval y = Y) (hr : (Instr.mapEntry T X Y).run P w = .ok v w') (h : K (a.put o.dst v) w') : wpOp P ops Q i K a w :=
  eff_value ho hw (by subst hx; subst hy; simp [execOp, hop, hr, Result.andThen]) h
theorem eff_estore {i : Nat} {a : Act} {o : Oper} {K : Act → World → Prop} {w w' : World} {T : TypeId} {x y z : Operand} {X Y Z : Value} {Q : Exit → Act → World → Prop} (ho : ops[i]? = some o) (hw : Region.wanted o (yielded ops a.tmps) = true)
    (hop : o.op = .entryStore T x y z) (hx : a.eval x = X) (hy : a.eval y = Y) (hz : a.eval z = Z) (hr : (Instr.entryStore T X Y Z).run P w = .ok () w') (h : K (a.put o.dst undef) w') : wpOp P ops Q i K a w :=
  eff_skip ho hw (by subst hx; subst hy; subst hz; simp [execOp, hop, hr, Result.andThen]) h
theorem TE.mid_set {κ : Nat → Nat} {Q : Exit → Act → World → Prop} {r : List Nat} {a : Act} {w : World} {p : Nat} {o o' : Obj} (hb : w.heap[p]? = some o) (h : ∀ w', w'.heap[p]? = some o' → Mod (fun i => i = p) w w' → TE P ops Q κ r a w') : TE P ops Q κ r a (setBlock w p o') :=
  h _ (heap_setBlock w _ (lt_size hb)) (mod_set w p o')
theorem TE.mid_setCell {κ : Nat → Nat} {Q : Exit → Act → World → Prop} {r : List Nat} {a : Act} {w : World} {p i : Nat} {cs : Array Value} {U : TypeId} {fr : Nat × Nat} {v : Value} (hb : w.heap[p]? = some (.cells cs U fr))
    (h : ∀ w', w'.heap[p]? = some (.cells (cs.setIfInBounds i v) U fr) → Mod (fun i => i = p) w w' → TE P ops Q κ r a w') : TE P ops Q κ r a (w.setCell ⟨p, i, none⟩ v) := by
  rw [setCell_blk hb]
  exact TE.mid_set hb h
end
end Go.Proofs.Ytofpnmoeimjnnaa
namespace Go.Proofs.Ytofpnmoeimjnnaa
set_option linter.unusedVariables false
section
variable {P : Program} {ops : Array Oper} {Q : Exit → Act → World → Prop} {T0 : Nat → Prop} {w0 : World} {κ : Nat → Nat} {υ : Nat → List Tmp}
theorem TG.soundX (hsel : ∀ (j : Nat) (p : Oper) cs b, ops[j]? = some p → p.op ≠ .select cs b)
    (hback : ∀ i o, ops[i]? = some o → ∀ e ∈ o.after, Region.binds .any e = true → e.on < i) {rest : List Nat} {E : Act → World → Prop} (hE : ∀ listed a w, Listing ops listed rest → E a w → wpAny P .any ops Q rest.length listed a w) :
    ∀ (fuel : Nat) (l : List Nat) (listed : Array Bool) (a : Act) (B : Bx) (K : Land) (w : World), l.length = fuel → (l ++ rest).Nodup → (∀ i ∈ l ++ rest, i < ops.size) → gPairsOk ops κ υ l = true →
      (∀ x ∈ l, ∀ y ∈ rest, x ≠ y ∧ (behindB ops x).testBit y = true) → Listing ops listed (l ++ rest) → Closed K →
      RG T0 w0 B K w → TG P ops (fun _ a w => E a w) T0 w0 κ υ l a B K → wpAny P .any ops Q (rest.length + fuel) listed a w := by
  intro fuel
  induction fuel with
  | zero =>
    intro l listed a B K w hl hn hlt hp hb hL hK hR h
    obtain rfl : l = [] := List.length_eq_zero_iff.1 hl
    have hte : E a w := by
      cases h with | nil h => exact h w hR
    exact hE listed a w (by simpa using hL) hte
  | succ fuel ih =>
    intro l listed a B K w hl hn hlt hp hb hL hK hR h
    refine ⟨fun hnil => ?_, fun i hi => ?_⟩
    · exfalso
      match l, hl with
      | i :: l', _ => exact exists_ready hback hL hlt i i (by simp) (Nat.le_refl _) hnil
    · obtain ⟨hun, o, ho, hall⟩ := mem_ready.1 hi
      have hil : i ∈ l := by
        rcases List.mem_append.1 ((hL.mem i).2 hun) with hin | hin
        · exact hin
        · exfalso
          clear h
          match l, hl with
          | x :: l', _ =>
            have hxy := hb x (by simp) i hin
            obtain ⟨_, hpth⟩ := (behindB_path hxy.2).resolve_left (fun e => hxy.1 e.symm)
            have hl1 := path_listed hL.closed _ x i o ho hall hpth
            have hl2 := getD_false_of_true ((hL.mem x).1 (by simp))
            rw [hl1] at hl2
            cases hl2
      obtain ⟨pre, post, rfl⟩ := List.append_of_mem hil
      obtain ⟨h1, h2⟩ := gPairsOk_split hp
      have hf := TG.front hsel ho pre a B K hK ⟨w, hR⟩ (fun x hx => by
        have := h1 x hx
        unfold gPairOk at this
        have hxo : ops[x]? = some (ops[x]'(hlt x (by simp [hx]))) := Array.getElem?_eq_getElem _
        rw [hxo, ho] at this
        simp only [Bool.or_eq_true, Bool.and_eq_true] at this
        rcases this with hpth | hok
        · obtain ⟨_, hpth⟩ := (behindB_path hpth.2).resolve_left (fun e => by have := hpth.1; simp [e] at this)
          have hl1 := path_listed hL.closed _ x i o ho hall hpth
          have hl2 := getD_false_of_true ((hL.mem x).1 (by simp [hx]))
          rw [hl1] at hl2
          cases hl2
        · exact ⟨_, hxo, hok.1, hok.2⟩) h
      have hl' : (pre ++ post).length = fuel := by simp at hl ⊢; omega
      have hsub : ((pre ++ post) ++ rest).Sublist ((pre ++ i :: post) ++ rest) := List.Sublist.append_right (List.Sublist.append_left (List.sublist_cons_self _ _) _) _
      have hn' : ((pre ++ post) ++ rest).Nodup := hn.sublist hsub
      have hlt' : ∀ j ∈ (pre ++ post) ++ rest, j < ops.size := fun j hj => hlt j (hsub.subset hj)
      have hb' : ∀ x ∈ pre ++ post, ∀ y ∈ rest, x ≠ y ∧ (behindB ops x).testBit y = true := fun x hx => hb x ((List.Sublist.append_left (List.sublist_cons_self i post) pre).subset hx)
      have hL' : Listing ops (listed.setIfInBounds i true) ((pre ++ post) ++ rest) := by
        have := Listing.next (pre := pre) (post := post ++ rest) (i := i) (by simpa using hL) (by simpa using hn) ho hall
        simpa using this
      rcases hf.kinds with ko | ko | ko | ko
      · obtain ⟨v, hy, ht⟩ := hf.inv_val ko ho
        obtain ⟨T, hRT⟩ := hR
        exact YieldsIf.wpOp ho hy hRT.mod (ih _ _ _ _ _ _ hl' hn' hlt' h2 hb' hL' hK ⟨T, hRT⟩ ht)
      · obtain ⟨hw, d, T, z, V, hd, hr, ht⟩ := hf.inv_alloc ko ho
        obtain ⟨U, hRT⟩ := hR
        have hR' : RG T0 w0 (B.set w.heap.size ⟨z, T, d⟩) K (w.alloc (.cells z T)) := ⟨U, hRT.alloc hK z T d⟩
        unfold wpOp
        simp only [ho, hw, if_true]
        refine .inl ?_
        unfold Oper.wp
        rw [hr w]
        exact ih _ _ _ _ _ _ hl' hn' hlt' h2 hb' hL' hK hR' (ht _ hRT.none ⟨_, hR'⟩)
      · obtain ⟨hw, hd, d, T, y, p, b, hop, hev, hbb, htag, hr, ht⟩ := hf.inv_store ko ho
        obtain ⟨U, hRT⟩ := hR
        unfold wpOp
        simp only [ho, hw, if_true]
        refine .inl ?_
        unfold Oper.wp
        rw [hr w (hRT.box p b hbb).2.2]
        simp only [Oper.upon, hd]
        exact ih _ _ _ _ _ _ hl' hn' hlt' h2 hb' hL' hK ⟨U, hRT.store hK hbb _⟩ ht
      · obtain ⟨hw, K', hE, ht⟩ := hf.inv_eff ko ho
        obtain ⟨U, hRT⟩ := hR
        exact (hE.step hRT).wp ho hw fun v w' hv => ih _ _ _ _ _ _ hl' hn' hlt' h2 hb' hL' (hE.cl v) hv (ht v ⟨w', hv⟩)
def headB (ops : Array Oper) (rest : List Nat) (i : Nat) : Bool := rest.all fun j => j == i || !(behindB ops j).testBit i
def AllE (P : Program) (ops : Array Oper) (Q : Exit → Act → World → Prop) : Nat → List Nat → Act → World → Prop
  | 0, _, a, w => Q .normal a w
  | n + 1, rest, a, w => ∀ i ∈ rest, headB ops rest i = true → wpOp P ops Q i (AllE P ops Q n (rest.erase i)) a w
theorem allE_nil {rest : List Nat} {a : Act} {w : World} (h : Q .normal a w) : AllE P ops Q 0 rest a w := h
theorem no_head {b : Bool} {p : Prop} (hf : b = false) (hb : b = true) : p := by
  rw [hf] at hb
  cases hb
theorem allE_any (hsel : ∀ (j : Nat) (p : Oper) cs b, ops[j]? = some p → p.op ≠ .select cs b)
    (hback : ∀ i o, ops[i]? = some o → ∀ e ∈ o.after, Region.binds .any e = true → e.on < i) : ∀ (n : Nat) (rest : List Nat), rest.length = n → rest.Nodup → (∀ i ∈ rest, i < ops.size) →
    ∀ (listed : Array Bool) (a : Act) (w : World), Listing ops listed rest → AllE P ops Q n rest a w → wpAny P .any ops Q n listed a w := by
  intro n
  induction n with
  | zero =>
    intro rest hl hn hlt listed a w hL h
    obtain rfl := List.length_eq_zero_iff.1 hl
    exact TE.sound (κ := fun _ => 0) hsel hback 0 [] listed a w rfl List.nodup_nil (by simp) rfl hL (.nil h)
  | succ n ih =>
    intro rest hl hn hlt listed a w hL h
    have hne : rest ≠ [] := by intro e; rw [e] at hl; cases hl
    refine ⟨fun hnil => ?_, fun i hi => ?_⟩
    · exfalso
      obtain ⟨x, hx⟩ := List.exists_mem_of_ne_nil _ hne
      exact exists_ready hback hL hlt x x hx (Nat.le_refl _) hnil
    · obtain ⟨hun, o, ho, hall⟩ := mem_ready.1 hi
      have hin := (hL.mem i).2 hun
      have hhead : headB ops rest i = true := by
        unfold headB
        rw [List.all_eq_true]
        intro j hj
        by_cases e : j = i
        · simp [e]
        · cases hb : (behindB ops j).testBit i with
          | false => simp
          | true =>
            exfalso
            obtain ⟨_, hpth⟩ := (behindB_path hb).resolve_left (fun e' => e e'.symm)
            have hl1 := path_listed hL.closed _ j i o ho hall hpth
            have hl2 := getD_false_of_true ((hL.mem j).1 hj)
            rw [hl1] at hl2
            cases hl2
      obtain ⟨pre, post, hr⟩ := List.append_of_mem hin
      have hN := Listing.next (pre := pre) (post := post) (i := i) (by rw [← hr]; exact hL) (by rw [← hr]; exact hn) ho hall
      have hq : (rest.erase i).Perm (pre ++ post) := List.Perm.cons_inv ((List.perm_cons_erase hin).symm.trans (by rw [hr]; exact List.perm_middle))
      refine wpOp_mono (fun a' w' hk => ?_) (h i hin hhead)
      refine ih (rest.erase i) (by rw [List.length_erase_of_mem hin]; omega) (hn.erase i) (fun x hx => hlt x (List.mem_of_mem_erase hx)) _ a' w' ⟨hN.size, fun x => (hq.mem_iff).trans (hN.mem x), hN.closed⟩ hk
def xRegOk (ops : Array Oper) (κ : Nat → Nat) (υ : Nat → List Tmp) (l rest : List Nat) : Bool :=
  Region.noSelect ops && ((List.range ops.size).all fun i => match ops[i]? with | none => false | some o => o.after.all fun e => !Region.binds .any e || decide (e.on < i)) &&
  (decide (rest.length + l.length = ops.size) && ((l ++ rest).all (fun i => decide (i < ops.size)) && ((List.range ops.size).all fun i => (l ++ rest).contains i))) &&
  (decide (l ++ rest).Nodup && gPairsOk ops κ υ l &&
    l.all (fun x => rest.all fun y => !(x == y) && (behindB ops x).testBit y))
theorem x_any {a : Act} {w1 : World} {K : Land} (l rest : List Nat) (hok : xRegOk ops κ υ l rest = true) (hK : Closed K) (hR : RG T0 w0 Bx.nil K w1)
    (h : TG P ops (fun _ a w => AllE P ops Q rest.length rest a w) T0 w0 κ υ l a Bx.nil K) : wpAny P .any ops Q ops.size (Array.replicate ops.size false) a w1 := by
  simp only [xRegOk, Bool.and_eq_true, List.all_eq_true, decide_eq_true_eq] at hok
  obtain ⟨⟨⟨h1, h2⟩, h3, h4, h5⟩, ⟨hnd, h6⟩, h8⟩ := hok
  have hback : ∀ i o, ops[i]? = some o → ∀ e ∈ o.after, Region.binds .any e = true → e.on < i := fun i o ho e he hb => by
    have := h2 i (List.mem_range.2 (Array.getElem?_eq_some_iff.1 ho).1)
    rw [ho] at this
    have := Array.all_eq_true_iff_forall_mem.1 this e he
    simpa [hb] using this
  rw [← h3]
  have hnr : rest.Nodup := (List.nodup_append.1 hnd).2.1
  refine TG.soundX (Region.noSelect_spec h1) hback (fun listed a w hL hE => allE_any (Region.noSelect_spec h1) hback rest.length rest rfl hnr (fun i hi => h4 i (List.mem_append_right _ hi)) listed a w hL hE) _ l _ a _ _ _ rfl hnd h4 h6 (fun x hx y hy => ?_) ?_ hK hR h
  · have := h8 x hx y hy
    exact ⟨by simpa using this.1, this.2⟩
  · rw [h3]
    refine ⟨by simp, fun i => ?_, fun i o hi => ?_⟩
    · constructor
      · intro hi
        have := h4 i hi
        simp [this]
      · intro hi
        have : i < ops.size := by
          rcases Nat.lt_or_ge i ops.size with h' | h'
          · exact h'
          · simp [Nat.not_lt.2 h'] at hi
        simpa using h5 i (List.mem_range.2 this)
    · exfalso
      have : (Array.replicate ops.size false).getD i false = false := by
        by_cases h' : i < ops.size
        · simp [h']
        · simp [h']
      rw [this] at hi
      cases hi
theorem wp_xpass {id : Nat} {a : Act} {w : World} {K : Land} (l rest : List Nat) (hm : P.follows .mixedOrders = true) (hok : xRegOk ops κ υ l rest = true) (hK : Closed K) (hk : K T0 w) (hlt : ∀ i, T0 i → i < w.heap.size)
    (h : TG P ops (fun _ a w => AllE P ops Q rest.length rest a w) T0 w κ υ l a Bx.nil K) : (Code.region id ops true).wp P Q a w :=
  wp_region_any hm (x_any l rest hok hK ⟨T0, hK T0 w w.drew hk (Mod.refl _ w).drew, hlt, fun _ _ h => h, (Mod.refl _ w).drew, fun _ _ hh => by cases hh⟩ h)
end
end Go.Proofs.Ytofpnmoeimjnnaa
namespace Go.Proofs.Ytofpnmoeimjnnaa
open Go.RowKit
open Go.ChangeMaps (setBlock)
set_option linter.unusedSimpArgs false
set_option linter.unusedVariables false
attribute [local go_sem ↓] wlKey ldKey stKey wlAcct ldAcct stAcct wlHold ldHold stHold wlHash ldHash stHash wlSig ldSig stSig wlLim ldLim stLim wlRdy ldRdy stRdy wlOut ldOut stOut wlTd ldTd stTd wlTx ldTx stTx eqKey1
attribute [local go_sem] eqMap neMap av_size av_all av_one hd_size hd_key hd_acct hd_all hd_one zKey_size zAcct_size zHold_size zHash_size zSg_size zLim_size zRdy_size zOut_size zTried_size zTx_size cell_blk frozen_blk kc_ext one_int one_bool one_ptr one_slice one_map kc_one kc_one0 kc_size sgc_size sgc_ext sgc_one0 sgc_one' rdr_size rdr_all rdr_one rdr_tx rdr_rec rdr0 rdr1 rdr6 rdr39 rdr40 rdr41 rdr0' rdr1' rdr6' rdr39' rdr40' rdr41' ocr_size ocr_all ocr_one ocr2 ocr3 ocr4 ocr5 ocr2' ocr3' ocr4' ocr5' tdr_size tdr_all tdr_one tdr_r tdr_o tdr_tx tdr_rec tdr0 tdr1 tdr41 tdr50 tdr51 tdr52 tdr53 tdr0' tdr1' tdr41' tdr50' tdr51' tdr52' tdr53' txr_size txr_all txr_one txr0 txr38 txr39 txr0' txr38' txr39' Value.cells
attribute [local go_sem ↓] eqHash
attribute [local go_sem] zHash_ext zHash_one0
theorem sigIs : IsSigT Try.prog 111 5 where
  laid := laid
  row := of_decide_eq_true (by kernel_rfl)
  at2 := by kernel_rfl
  u := Try.underlying111
  e := Try.underlying5
  cK := by kernel_rfl
  cE := by kernel_rfl
  kt := by kernel_rfl
theorem sigKT : KeyT Try.prog 111 sgv := sigIs.keyT
theorem eqSig (a b : Sg) (w : World) : (Op.equalIn 10000 111 (.agg (sgc a)) (.agg (sgc b))).run Try.prog w = .ok (decide (a = b)) w := sigIs.eqIn 9998 a b w
theorem eqMapS (w : World) (r : Option Nat) : (binOp .eql 137 (.map r) (.map none)).run Try.prog w = .ok (.bool r.isNone) w := run_eql_map_nil w _ _ _ _ Try.underlying137
theorem neMapS (w : World) (r : Option Nat) : (binOp .neq 137 (.map r) (.map none)).run Try.prog w = .ok (.bool !r.isNone) w := run_neq_map_nil w _ _ _ _ Try.underlying137
attribute [local go_sem ↓] eqSig
attribute [local go_sem] eqMapS neMapS
theorem sthere_c {n a b : Nat} (w : World) (kn : w.heap[n]? = some (.cells #[.map (some a), .map (some b)] 140 (0, 0))) : Calls Try.prog 59 #[ptrV n] w fun e w' => e = .returned (.bool true) ∧ w = w' := by
  go_enter Try.func59, Try.ntmps59
  go_wp2
  go_ret
  exact ⟨rfl, rfl⟩
theorem zero_hash (w : World) : (zeroValue 50).run Try.prog w = .ok (.agg (kc key0)) w := by kernel_rfl
theorem zero_sigs (w : World) : (zeroValue 24).run Try.prog w = .ok (.slice none 0 0) w := by kernel_rfl
set_option maxRecDepth 20000 in
set_option maxHeartbeats 1600000 in
theorem shas_c {T : Nat → Prop} (n : Nat) (N : List (Sg × Key)) (g : Sg) (w : World) (h : SeAt T w n N) : Calls Try.prog 60 #[ptrV n, .agg (sgc g)] w fun e w' => e = .returned (.bool (lkp g N).isSome) ∧ Mod (fun _ => False) w w' := by
  obtain ⟨a, b, es, c, es2, c2, m2, kn, ka, M, -⟩ := h.ex
  go_enter Try.func60, Try.ntmps60
  go_upto_region 0 with fail
  have Lkn := lt_size kn
  have Lka := lt_size ka
  refine wp_pass0 (C := fun _ _ _ => False) (κ := fun i => [3, 0].getD i 0) [0, 1] (by kernel_rfl) (by kernel_rfl) (fun _ _ d _ _ h => by cases d <;> first | exact h | exact absurd h (hP _ _ _)) ?_
  (refine TD.box (v := ?v1) (by simp only [zA, zB, zC]; rfl) rfl ?hw1 rfl rfl ?hx1 (fun p3 hp3 => ?hn1); (case hw1 => rfl); (case hx1 => (simp only [Act.eval, zD, zA, zB, zC, zE]; (try rfl))); (try simp only [Act.put, zF, zG, zH]))
  (refine TD.val0 (v := ?v2) (by simp only [zA, zB, zC]; rfl) rfl ?hw2 (fun w1 => ?hy2) ?hn2; (case hw2 => rfl); (case hy2 => (go_simp; (try with_reducible rfl))); (try simp only [Act.put, zF, zG, zH]))
  refine TD.nil (fun w1 hr => ?_)
  replace kn := hr.mod.at kn (fun h => h)
  replace ka := hr.mod.at ka (fun h => h)
  have kp3 := hr.box p3 _ (by first | exact Bx.set_same _ _ _ | (simp only [Bx.set_same]; rfl)); dsimp only [Value.cells] at kp3; obtain ⟨gp3, kp3⟩ := kp3
  have m1 := hr.mod
  clear hr
  go_wp2_with fail
  go_at_call 59
  refine (sthere_c _ kn).mono ?_
  rintro e w2 ⟨rfl, rfl⟩
  have hlk : ∀ wq, Mod (fun _ => False) w1 wq → (Instr.lookup 137 (.map (some a)) (.agg (sgc g)) true).run Try.prog wq = .ok (.tuple #[.agg (kc ((lkp g N).getD key0)), .bool (lkp g N).isSome]) wq := fun wq hq => by
    have := M.lookup sigKT Try.underlying137 zero_hash wq (hq.at0 ka) g true
    rw [if_pos rfl] at this
    refine this.trans ?_
    cases lkp g N <;> rfl
  generalize hx : (lkp g N).getD key0 = x at *
  generalize hb : (lkp g N).isSome = is at *
  have HB := Lib.hid hb
  clear hx hb M
  go_upto_region 3 with fail
  have Lkn := lt_size kn
  have Lka := lt_size ka
  have Lkp3 := lt_size kp3
  refine wp_pass (C := fun _ _ _ => False) (κ := fun i => [0, 0, 0, 1, 1, 1, 0, 0, 0, 3, 4, 0].getD i 0) [0, 1, 2, 3, 4, 5, 6, 7, 8, 9, 10, 11] (by kernel_rfl) (by kernel_rfl) (fun _ _ d _ _ h => by cases d <;> first | exact h | exact absurd h (hP _ _ _)) ?_
  (refine TD.val0 (v := ?v3) (by simp only [zA, zB, zC]; rfl) rfl ?hw3 (fun w1 => ?hy3) ?hn3; (case hw3 => rfl); (case hy3 => (go_simp; (try with_reducible rfl))); (try simp only [Act.put, zF, zG, zH]))
  (refine TD.val0 (v := ?v4) (by simp only [zA, zB, zC]; rfl) rfl ?hw4 (fun w1 => ?hy4) ?hn4; (case hw4 => rfl); (case hy4 => (go_simp; (try with_reducible rfl))); (try simp only [Act.put, zF, zG, zH]))
  (refine TD.val0 (v := ?v5) (by simp only [zA, zB, zC]; rfl) rfl ?hw5 (fun w1 => ?hy5) ?hn5; (case hw5 => rfl); (case hy5 => (go_simp; (try with_reducible rfl))); (try simp only [Act.put, zF, zG, zH]))
  (refine TD.load (v := ?v6) (p := ?p6) (Mod.refl _ _) (by simp only [zA, zB, zC]; rfl) rfl ?hw6 rfl ?hx6 (fun wq hSq => ?hy6) ?hn6; (case hw6 => rfl); (case hx6 => (simp only [Act.eval, zD, zA, zB, zC, zE]; (try rfl))); (case hy6 => (have knq := hSq.at kn (fun h => h); have kaq := hSq.at ka (fun h => h); have kp3q := hSq.at kp3 (fun h => h); go_simp; (try with_reducible rfl))); (try simp only [Act.put, zF, zG, zH]))
  (refine TD.load (v := ?v7) (p := ?p7) (Mod.refl _ _) (by simp only [zA, zB, zC]; rfl) rfl ?hw7 rfl ?hx7 (fun wq hSq => ?hy7) ?hn7; (case hw7 => rfl); (case hx7 => (simp only [Act.eval, zD, zA, zB, zC, zE]; (try rfl))); (case hy7 => (have knq := hSq.at kn (fun h => h); have kaq := hSq.at ka (fun h => h); have kp3q := hSq.at kp3 (fun h => h); go_simp; (try with_reducible rfl))); (try simp only [Act.put, zF, zG, zH]))
  (refine TD.lookup (v := ?v8) (p := ?p8) (q := ?q8) (Mod.refl _ _) (by simp only [zA, zB, zC]; rfl) rfl ?hw8 rfl ?hx8 ?hz8 (fun wq hSq => ?hy8) ?hn8; (case hw8 => rfl); (case hx8 => (simp only [Act.eval, zD, zA, zB, zC, zE]; (try rfl))); (case hz8 => (simp only [Act.eval, zD, zA, zB, zC, zE]; (try rfl))); (case hy8 => (rw [hlk wq hSq]; (try with_reducible rfl))); (try simp only [Act.put, zF, zG, zH]))
  (refine TD.val0 (v := ?v9) (by simp only [zA, zB, zC]; rfl) rfl ?hw9 (fun w1 => ?hy9) ?hn9; (case hw9 => rfl); (case hy9 => (go_simp; (try with_reducible rfl))); (try simp only [Act.put, zF, zG, zH]))
  (refine TD.val0 (v := ?v10) (by simp only [zA, zB, zC]; rfl) rfl ?hw10 (fun w1 => ?hy10) ?hn10; (case hw10 => rfl); (case hy10 => (go_simp; (try with_reducible rfl))); (try simp only [Act.put, zF, zG, zH]))
  (refine TD.val0 (v := ?v11) (by simp only [zA, zB, zC]; rfl) rfl ?hw11 (fun w1 => ?hy11) ?hn11; (case hw11 => rfl); (case hy11 => (go_simp; (try with_reducible rfl))); (try simp only [Act.put, zF, zG, zH]))
  (refine TD.allocB (by simp only [zA, zB, zC]; rfl) rfl ?hw12 rfl rfl alHash (fun p5 hp5 => ?hn12); (case hw12 => rfl); (try simp only [Act.put, zF, zG, zH]))
  (refine TD.storeB (d := ?d13) (T := ?T13) (y := ?y13) (p := ?p13) (b := ?b13) (v := ?v13) (by simp only [zA, zB, zC]; rfl) rfl ?hw13 ?hd13 ?hop13 ?hev13 ?hx13 ?hb13 ?htag13 (fun w1 hb1 => ?hy13) ?hn13; (case hw13 => rfl); (case hd13 => rfl); (case hop13 => rfl); (case hev13 => (simp only [Act.eval, zD, zA, zB, zC, zE]; (try rfl))); (case hx13 => (simp only [Act.eval, zD, zA, zB, zC, zE]; (try rfl))); (case hb13 => first | exact Bx.set_same _ _ _ | (simp only [Bx.set_same]; rfl)); (case hy13 => (go_simp; (try first | with_reducible rfl | (rw [setCell_blk hb1]; rfl)))); (try simp only [Act.put, zF, zG, zH]))
  (refine TD.val0 (v := ?v14) (by simp only [zA, zB, zC]; rfl) rfl ?hw14 (fun w1 => ?hy14) ?hn14; (case hw14 => rfl); (case hy14 => (go_simp; (try with_reducible rfl))); (try simp only [Act.put, zF, zG, zH]))
  refine TD.nil (fun w3 hr => ?_)
  replace kn := hr.mod.at kn (fun h => h)
  replace ka := hr.mod.at ka (fun h => h)
  replace kp3 := hr.mod.at kp3 (fun h => h)
  have kp5 := hr.box p5 _ (by first | exact Bx.set_same _ _ _ | (simp only [Bx.set_same]; rfl)); dsimp only [Value.cells] at kp5; obtain ⟨gp5, kp5⟩ := kp5
  have m3 := m1.then0 hr.mod
  clear hlk
  go_wp2_with fail
  go_ret
  exact ⟨by rw [HB.out]; rfl, m3⟩
theorem bsSig (g : Sg) (w : World) : (Instr.buildSlice 24 1 #[(0, .agg (sgc g))]).run Try.prog w = .ok (.slice (some ⟨w.heap.size, 0, none⟩) 1 1) (w.alloc (.cells (sgc g) 111)) := by
  obtain ⟨i0, hi, hz0, hz1, hz2⟩ := info_parts (show (Try.prog.info? 111).map (fun i => (i.zero, i.size, i.bytes)) = some (some (.agg zSg), 64, 64) by kernel_rfl)
  refine run_buildSlice w _ _ 1 _ _ i0 _ Try.underlying24 hi hz0 (by rw [hz1]; omega) (by rw [hz1]; omega) ?_
  rw [hz1]
  show Instr.fill _ _ [(0, _)] = _
  rw [fill_cons (off := 0) (n := 64) rfl (by simp [Value.cells, sgc_size]) (by simp [Value.cells, zSg_size, size_madeCells])]
  show some (wr _ 0 (sgc g).toList) = _
  rw [wr_whole (sgc g) _ (by simp [Value.cells, zSg_size, sgc_size, size_madeCells])]
def markS (N : List (Sg × Key)) (g : Sg) (k : Key) : List (Sg × Key) := if (lkp g N).isSome then N else put g k N
theorem SgL.zero (T : Nat → Prop) (B : Nat) (w : World) : SgL T B w (.slice none 0 0) := ⟨[], SlOwn.nil _ _, (fun g h => by cases h), Nat.zero_le _⟩
theorem own_blk {α : Type} {f : α → Array Value} {n : Nat} {E : TypeId} {w : World} {base : Nat} {v : Value} {l : List α} (h : SlOwn f n E w base v l) {g : Nat} (hg : v.ownBlock = some g) : ∃ cur, w.heap[g]? = some (.cells cur E (0, 0)) := by
  rcases h.2 with ⟨rfl, hn⟩ | ⟨g', cap, cur, rfl, hb, hk, _⟩
  · cases hg
  · cases hg
    exact ⟨cur, hk⟩
theorem own_ne {α : Type} {f : α → Array Value} {n : Nat} {E : TypeId} {w : World} {base : Nat} {v : Value} {l : List α} (h : SlOwn f n E w base v l) {a c : Nat} {es : Array MapEntry} (ka : w.heap[a]? = some (.map es c)) : ∀ g, v.ownBlock = some g → ¬ g = a := fun g hg => by
  obtain ⟨cur, hk⟩ := own_blk h hg
  exact ne_of_obj hk ka (by simp)
theorem len_put {κ ν : Type} [DecidableEq κ] (k : κ) (v : ν) (m : List (κ × ν)) : m.length ≤ (put k v m).length ∧ (lkp k m = none → (put k v m).length = m.length + 1) := by
  induction m with
  | nil => simp [put]
  | cons q r ih =>
    simp only [put, lkp]
    split
    · rename_i hq
      exact ⟨by simp, fun h => by simp [hq] at h⟩
    · rename_i hq
      refine ⟨by have := ih.1; simp only [List.length_cons]; omega, fun h => ?_⟩
      have h2 : lkp k r = none := by simpa [hq] using h
      have := ih.2 h2
      simp only [List.length_cons]
      omega
set_option maxRecDepth 20000 in
set_option maxHeartbeats 3200000 in
theorem mark_c {T : Nat → Prop} (n : Nat) (N : List (Sg × Key)) (g : Sg) (k : Key) (w : World) (h : SeAt T w n N) (hT : ∀ i, T i → i < w.heap.size) (hN : N.length < 1000000) : Calls Try.prog 30 #[ptrV n, .agg (sgc g), .agg (kc k)] w fun e w' => (∃ v, e = .returned v) ∧ SeAt (fun i => T i ∨ (w.heap.size ≤ i ∧ i < w'.heap.size)) w' n (markS N g k) ∧ Mod T w w' := by
  have H := Lib.hid h
  have HT := Lib.hid hT
  have hh0 := @bldHash0
  obtain ⟨a, b, es, c, es2, c2, m2, kn, ka, M, kb, M2, hab, tn, ta, tb, hm2, hds⟩ := h.ex
  have HM := Lib.hid M
  have HM2 := Lib.hid (And.intro M2 hm2)
  have HDS := Lib.hid hds
  have HTT := Lib.hid (And.intro tn (And.intro ta tb))
  clear h hT hh0 M M2 hm2 tn ta tb hds
  have hna : n ≠ a := ne_of_obj kn ka (by simp)
  have hnb : n ≠ b := ne_of_obj kn kb (by simp)
  go_enter Try.func30, Try.ntmps30
  go_upto_region 0 with fail
  have Lkn := lt_size kn
  have Lka := lt_size ka
  have Lkb := lt_size kb
  refine wp_pass0 (C := fun _ _ _ => False) (κ := fun i => [3, 3, 0].getD i 0) [0, 1, 2] (by kernel_rfl) (by kernel_rfl) (fun _ _ d _ _ h => by cases d <;> first | exact h | exact absurd h (hP _ _ _)) ?_
  (refine TD.box (v := ?v15) (by simp only [zA, zB, zC]; rfl) rfl ?hw15 rfl rfl ?hx15 (fun p4 hp4 => ?hn15); (case hw15 => rfl); (case hx15 => (simp only [Act.eval, zD, zA, zB, zC, zE]; (try rfl))); (try simp only [Act.put, zF, zG, zH]))
  (refine TD.box (v := ?v16) (by simp only [zA, zB, zC]; rfl) rfl ?hw16 rfl rfl ?hx16 (fun p5 hp5 => ?hn16); (case hw16 => rfl); (case hx16 => (simp only [Act.eval, zD, zA, zB, zC, zE]; (try rfl))); (try simp only [Act.put, zF, zG, zH]))
  obtain ⟨ne_p5_p4, hp5⟩ := Bx.set_none hp5
  (refine TD.val0 (v := ?v17) (by simp only [zA, zB, zC]; rfl) rfl ?hw17 (fun w1 => ?hy17) ?hn17; (case hw17 => rfl); (case hy17 => (go_simp; (try with_reducible rfl))); (try simp only [Act.put, zF, zG, zH]))
  refine TD.nil (fun w1 hr => ?_)
  replace kn := hr.mod.at kn (fun h => h)
  replace ka := hr.mod.at ka (fun h => h)
  replace kb := hr.mod.at kb (fun h => h)
  have kp4 := hr.box p4 _ (by first | exact Bx.set_same _ _ _ | (simp only [Bx.set_ne _ (Ne.symm ne_p5_p4), Bx.set_ne _ ne_p5_p4, Bx.set_same]; rfl)); dsimp only [Value.cells] at kp4; obtain ⟨gp4, kp4⟩ := kp4
  have kp5 := hr.box p5 _ (by first | exact Bx.set_same _ _ _ | (simp only [Bx.set_ne _ (Ne.symm ne_p5_p4), Bx.set_ne _ ne_p5_p4, Bx.set_same]; rfl)); dsimp only [Value.cells] at kp5; obtain ⟨gp5, kp5⟩ := kp5
  have m1 := hr.mod
  clear hr
  go_wp2_with fail
  go_at_call 59
  refine (sthere_c _ kn).mono ?_
  rintro e w2 ⟨rfl, rfl⟩
  go_upto_region 3 with fail
  go_wp2_with fail
  go_at_call 60
  refine (shas_c n N g _ (H.out.mod0 m1)).mono ?_
  rintro e w2 ⟨rfl, mh⟩
  replace kn := mh.at0 kn
  replace ka := mh.at0 ka
  replace kb := mh.at0 kb
  replace kp4 := mh.at0 kp4
  replace kp5 := mh.at0 kp5
  have m2w := m1.then0 mh
  have HM2w := Lib.hid m2w
  clear m1 mh
  cases hl : lkp g N with
  | some x =>
    have HL := Lib.hid hl
    clear hl
    rw [Option.isSome_some]
    go_wp2_with fail
    go_ret
    refine ⟨⟨_, rfl⟩, ?_, HM2w.out.mono (fun _ _ h => h.elim)⟩
    rw [show markS N g k = N from if_pos (by rw [HL.out]; rfl)]
    exact (H.out.mod0 HM2w.out).mono (fun i hi => .inl hi)
  | none =>
    have HL := Lib.hid hl
    clear hl
    rw [Option.isSome_none]
    have hla : a < w.heap.size := HT.out a HTT.out.2.1
    have hlb : b < w.heap.size := HT.out b HTT.out.2.2
    have hp4a : p4 ≠ a := by omega
    have hp5a : p5 ≠ a := by omega
    have hp4b : p4 ≠ b := by omega
    have hp5b : p5 ≠ b := by omega
    go_upto_region 5 with fail
    obtain ⟨v0, hv0⟩ : ∃ v0, (lkp k m2).getD (.slice none 0 0) = v0 := ⟨_, rfl⟩
    have HKA := Lib.hid ka
    have hsg : SgL T N.length w v0 := by
      rw [← hv0]
      cases hlk : lkp k m2 with
      | some x => exact HM2.out.2 (k, x) (lkp_mem hlk)
      | none => exact SgL.zero _ _ _
    obtain ⟨ls, hO, hown, hlen⟩ := hsg
    have hO2 := hO.mod0 m2w
    have hnea := own_ne hO2 ka
    have hneb := own_ne hO2 kb
    have HV0 := Lib.hid hv0
    have HOW := Lib.hid hown
    have HLE := Lib.hid hlen
    clear hv0 hO hown hlen
    have Lkn := lt_size kn
    have Lkp4 := lt_size kp4
    have Lkp5 := lt_size kp5
    have Lkb := lt_size kb
    have Lka := lt_size ka
    refine wp_pass (C := fun _ _ _ => False) (κ := fun i => [0, 0, 0, 1, 1, 1, 5].getD i 0) [0, 1, 2, 3, 4, 5, 6] (by kernel_rfl) (by kernel_rfl) (fun _ _ d _ _ h => by cases d <;> first | exact h | exact absurd h (hP _ _ _)) ?_
    (refine TD.val0 (v := ?v18) (by simp only [zA, zB, zC]; rfl) rfl ?hw18 (fun w1 => ?hy18) ?hn18; (case hw18 => rfl); (case hy18 => (go_simp; (try with_reducible rfl))); (try simp only [Act.put, zF, zG, zH]))
    (refine TD.val0 (v := ?v19) (by simp only [zA, zB, zC]; rfl) rfl ?hw19 (fun w1 => ?hy19) ?hn19; (case hw19 => rfl); (case hy19 => (go_simp; (try with_reducible rfl))); (try simp only [Act.put, zF, zG, zH]))
    (refine TD.val0 (v := ?v20) (by simp only [zA, zB, zC]; rfl) rfl ?hw20 (fun w1 => ?hy20) ?hn20; (case hw20 => rfl); (case hy20 => (go_simp; (try with_reducible rfl))); (try simp only [Act.put, zF, zG, zH]))
    (refine TD.load (v := ?v21) (p := ?p21) (Mod.refl _ _) (by simp only [zA, zB, zC]; rfl) rfl ?hw21 rfl ?hx21 (fun wq hSq => ?hy21) ?hn21; (case hw21 => rfl); (case hx21 => (simp only [Act.eval, zD, zA, zB, zC, zE]; (try rfl))); (case hy21 => (have knq := hSq.at kn (fun h => h); have kp4q := hSq.at kp4 (fun h => h); have kp5q := hSq.at kp5 (fun h => h); have kbq := hSq.at kb (fun h => h); have kaq := hSq.at ka (fun h => h); go_simp; (try with_reducible rfl))); (try simp only [Act.put, zF, zG, zH]))
    (refine TD.load (v := ?v22) (p := ?p22) (Mod.refl _ _) (by simp only [zA, zB, zC]; rfl) rfl ?hw22 rfl ?hx22 (fun wq hSq => ?hy22) ?hn22; (case hw22 => rfl); (case hx22 => (simp only [Act.eval, zD, zA, zB, zC, zE]; (try rfl))); (case hy22 => (have knq := hSq.at kn (fun h => h); have kp4q := hSq.at kp4 (fun h => h); have kp5q := hSq.at kp5 (fun h => h); have kbq := hSq.at kb (fun h => h); have kaq := hSq.at ka (fun h => h); go_simp; (try with_reducible rfl))); (try simp only [Act.put, zF, zG, zH]))
    (refine TD.load (v := ?v23) (p := ?p23) (Mod.refl _ _) (by simp only [zA, zB, zC]; rfl) rfl ?hw23 rfl ?hx23 (fun wq hSq => ?hy23) ?hn23; (case hw23 => rfl); (case hx23 => (simp only [Act.eval, zD, zA, zB, zC, zE]; (try rfl))); (case hy23 => (have knq := hSq.at kn (fun h => h); have kp4q := hSq.at kp4 (fun h => h); have kp5q := hSq.at kp5 (fun h => h); have kbq := hSq.at kb (fun h => h); have kaq := hSq.at ka (fun h => h); go_simp; (try with_reducible rfl))); (try simp only [Act.put, zF, zG, zH]))
    refine TD.eff (by simp only [zA, zB, zC]; rfl) rfl (fun wE hr => ?_)
    replace kn := hr.mod.at0 kn
    replace kp4 := hr.mod.at0 kp4
    replace kp5 := hr.mod.at0 kp5
    replace kb := hr.mod.at0 kb
    replace ka := hr.mod.at0 ka
    have mE := hr.mod
    obtain ⟨es24, cl24, hrun24, Mka⟩ := HM.out.update sigKT Try.underlying137 wE ka g k
    (refine eff_update (X := ?X24) (Y := ?Y24) (Z := ?Z24) (w' := ?w24) (by simp only [zA, zB, zC]; rfl) ?hw24 rfl ?hx24 ?hz24 ?hv24 ?hy24 ?hn24; (case hw24 => rfl); (case hx24 => (simp only [Act.eval, zD, zA, zB, zC, zE]; (try rfl))); (case hz24 => (simp only [Act.eval, zD, zA, zB, zC, zE]; (try rfl))); (case hv24 => (simp only [Act.eval, zD, zA, zB, zC, zE]; (try rfl))); (case hy24 => exact hrun24))
    (first | refine TE.nil_set ka (fun w5 ka mS => ?_) | refine TE.nil_setCell ka (fun w5 ka mS => ?_))
    (try simp only [Array.setIfInBounds, zF, zG, zH] at ka)
    replace kn := mS.at_ne kn (by omega)
    replace kp4 := mS.at_ne kp4 (by omega)
    replace kp5 := mS.at_ne kp5 (by omega)
    replace kb := mS.at_ne kb (by omega)
    have m5 := (m2w.mono (T := T) (fun _ _ h => h.elim)).then ((mE.mono (T := fun i => i = a) (fun _ _ h => h.elim)).trans mS) (fun i _ e => by rw [e]; exact HTT.out.2.1)
    have HM5 := Lib.hid (And.intro m5 Mka)
    have hO5 := (hO2.mod0 mE).mod mS hnea
    have HMA : Hid (Mod (fun i => i = a) w2 w5 ∧ w2.heap[a]? = some (.map es c) ∧ True) := Lib.hid ⟨(mE.mono (T := fun i => i = a) (fun _ _ h => h.elim)).trans mS, HKA.out, trivial⟩
    have HO5 := Lib.hid (And.intro hO5 (And.intro hnea hneb))
    clear m2w mE mS hr m5 Mka hO2 hnea hneb hO5
    have hbs := bsSig g
    go_upto_region 6 with fail
    have hlen5 : w.heap.size ≤ w5.heap.size := HM5.out.1.size
    have Lkn := lt_size kn
    have Lkp4 := lt_size kp4
    have Lkp5 := lt_size kp5
    have Lka := lt_size ka
    have Lkb := lt_size kb
    refine wp_xpass (T0 := fun _ => False) (K := fun _ _ => True) (κ := fun i => [0, 0, 0, 0, 0, 0, 3, 6, 0, 6, 0, 6].getD i 0) (υ := fun i => [[], [], [], [], [], [], [], [], [], [], [], []].getD i []) [0, 1, 2, 3, 4, 5, 6] [7, 8, 9, 10, 11] (by kernel_rfl) (by kernel_rfl) (Good.true).cl (trivial) (fun _ h => h.elim) ?_
    have gK := Good.true
    (refine TG.v0 (v := ?v25) (by simp only [zA, zB, zC]; rfl) rfl ?hw25 (fun w1 => ?hy25) ?hn25; (case hw25 => rfl); (case hy25 => (go_simp; (try with_reducible rfl))); (try simp only [Act.put, zF, zG, zH]))
    (refine TG.v0 (v := ?v26) (by simp only [zA, zB, zC]; rfl) rfl ?hw26 (fun w1 => ?hy26) ?hn26; (case hw26 => rfl); (case hy26 => (go_simp; (try with_reducible rfl))); (try simp only [Act.put, zF, zG, zH]))
    (refine TG.v0 (v := ?v27) (by simp only [zA, zB, zC]; rfl) rfl ?hw27 (fun w1 => ?hy27) ?hn27; (case hw27 => rfl); (case hy27 => (go_simp; (try with_reducible rfl))); (try simp only [Act.put, zF, zG, zH]))
    (refine TG.load (v := ?v28) (p := ?p28) (by simp only [zA, zB, zC]; rfl) rfl ?hw28 rfl ?hx28 (fun wq hSq => ?hy28) ?hn28; (case hw28 => rfl); (case hx28 => (simp only [Act.eval, zD, zA, zB, zC, zE]; (try rfl))); (case hy28 => (have knq := hSq.at kn (by intro hT; first | exact hT | exact absurd hT (by assumption) | omega | (simp only at hT; omega)); have kp4q := hSq.at kp4 (by intro hT; first | exact hT | exact absurd hT (by assumption) | omega | (simp only at hT; omega)); have kp5q := hSq.at kp5 (by intro hT; first | exact hT | exact absurd hT (by assumption) | omega | (simp only at hT; omega)); have kaq := hSq.at ka (by intro hT; first | exact hT | exact absurd hT (by assumption) | omega | (simp only at hT; omega)); have kbq := hSq.at kb (by intro hT; first | exact hT | exact absurd hT (by assumption) | omega | (simp only at hT; omega)); go_simp; (try with_reducible rfl))); (try simp only [Act.put, zF, zG, zH]))
    (refine TG.load (v := ?v29) (p := ?p29) (by simp only [zA, zB, zC]; rfl) rfl ?hw29 rfl ?hx29 (fun wq hSq => ?hy29) ?hn29; (case hw29 => rfl); (case hx29 => (simp only [Act.eval, zD, zA, zB, zC, zE]; (try rfl))); (case hy29 => (have knq := hSq.at kn (by intro hT; first | exact hT | exact absurd hT (by assumption) | omega | (simp only at hT; omega)); have kp4q := hSq.at kp4 (by intro hT; first | exact hT | exact absurd hT (by assumption) | omega | (simp only at hT; omega)); have kp5q := hSq.at kp5 (by intro hT; first | exact hT | exact absurd hT (by assumption) | omega | (simp only at hT; omega)); have kaq := hSq.at ka (by intro hT; first | exact hT | exact absurd hT (by assumption) | omega | (simp only at hT; omega)); have kbq := hSq.at kb (by intro hT; first | exact hT | exact absurd hT (by assumption) | omega | (simp only at hT; omega)); go_simp; (try with_reducible rfl))); (try simp only [Act.put, zF, zG, zH]))
    (refine TG.load (v := ?v30) (p := ?p30) (by simp only [zA, zB, zC]; rfl) rfl ?hw30 rfl ?hx30 (fun wq hSq => ?hy30) ?hn30; (case hw30 => rfl); (case hx30 => (simp only [Act.eval, zD, zA, zB, zC, zE]; (try rfl))); (case hy30 => (have knq := hSq.at kn (by intro hT; first | exact hT | exact absurd hT (by assumption) | omega | (simp only at hT; omega)); have kp4q := hSq.at kp4 (by intro hT; first | exact hT | exact absurd hT (by assumption) | omega | (simp only at hT; omega)); have kp5q := hSq.at kp5 (by intro hT; first | exact hT | exact absurd hT (by assumption) | omega | (simp only at hT; omega)); have kaq := hSq.at ka (by intro hT; first | exact hT | exact absurd hT (by assumption) | omega | (simp only at hT; omega)); have kbq := hSq.at kb (by intro hT; first | exact hT | exact absurd hT (by assumption) | omega | (simp only at hT; omega)); go_simp; (try with_reducible rfl))); (try simp only [Act.put, zF, zG, zH]))
    (refine TG.bslice (by simp only [zA, zB, zC]; rfl) rfl ?hw31 rfl rfl ?hx31 hbs (fun p28 hp28 _ => ?hn31); (case hw31 => rfl); (case hx31 => (simp only [List.map_toArray, List.map_cons, List.map_nil, Act.eval, zD, zA, zB, zC, zE]; (try rfl))); (try simp only [Act.put, zF, zG, zH]))
    refine TG.nil (fun w6 ⟨TR, hr⟩ => ?_)
    replace kn := hr.mod.at kn (by intro hT; first | exact hT | exact absurd hT (by assumption) | omega | (simp only at hT; omega))
    replace kp4 := hr.mod.at kp4 (by intro hT; first | exact hT | exact absurd hT (by assumption) | omega | (simp only at hT; omega))
    replace kp5 := hr.mod.at kp5 (by intro hT; first | exact hT | exact absurd hT (by assumption) | omega | (simp only at hT; omega))
    replace ka := hr.mod.at ka (by intro hT; first | exact hT | exact absurd hT (by assumption) | omega | (simp only at hT; omega))
    replace kb := hr.mod.at kb (by intro hT; first | exact hT | exact absurd hT (by assumption) | omega | (simp only at hT; omega))
    have kp28 := hr.box p28 _ (by first | exact Bx.set_same _ _ _ | (simp only [Bx.set_same]; rfl)); dsimp only [Value.cells] at kp28; obtain ⟨gp28, nTp28, kp28⟩ := kp28
    clear gK
    have m6 := hr.mod
    clear hr hbs
    obtain ⟨st, es3, c3, hE, ME, hst⟩ := HM2.out.1.entry hashT Try.underlying138 (z := Value.slice none 0 0) zero_sigs w6 kb k
    rw [HV0.out] at hE ME
    have hO6 := HO5.out.1.mod0 m6
    have m7 := mod_set w6 b (.map es3 c3)
    have kb7 := heap_setBlock w6 (.map es3 c3) (lt_size kb)
    have kn7 := m7.at_ne kn hnb
    have ka7 := m7.at_ne ka hab
    have hp28b : p28 ≠ b := by omega
    have kp287 := m7.at_ne kp28 hp28b
    have hO7 := hO6.mod m7 HO5.out.2.2
    obtain ⟨w7, hw7⟩ : ∃ w7, setBlock w6 b (.map es3 c3) = w7 := ⟨_, rfl⟩
    rw [hw7] at hE m7 kb7 kn7 ka7 kp287 hO7
    obtain ⟨v8, w8, hap, hO8, m8, hn8⟩ := SlOwn.append sgT (c := 1) (q := [g]) hO7 (SlAt.one kp287 g rfl (sgc_size g)) (by have := HLE.out; simp only [List.length_singleton]; omega) (by decide) (Nat.zero_le _) 24
    have hown7 := own_ne hO7 kb7
    have hown7a := own_ne hO7 ka7
    have hown7n : ∀ i, v0.ownBlock = some i → ¬ i = n := fun i hi e => by
      obtain ⟨cur, hk⟩ := own_blk hO7 hi
      rw [e, kn7] at hk
      cases hk
    have kb8 := m8.at kb7 (fun e => hown7 b e rfl)
    have ka8 := m8.at ka7 (fun e => hown7a a e rfl)
    have kn8 := m8.at kn7 (fun e => hown7n n e rfl)
    obtain ⟨es9, c9, hF, M9⟩ := hst w8 v8 kb8
    have m9 := mod_set w8 b (.map es9 c9)
    have kb9 := heap_setBlock w8 (.map es9 c9) (lt_size kb8)
    have kn9 := m9.at_ne kn8 hnb
    have ka9 := m9.at_ne ka8 hab
    have hO9 := hO8.mod m9 (own_ne hO8 kb8)
    obtain ⟨w9, hw9⟩ : ∃ w9, setBlock w8 b (.map es9 c9) = w9 := ⟨_, rfl⟩
    rw [hw9] at hF m9 kb9 kn9 ka9 hO9
    have hsz7 : w.heap.size ≤ w7.heap.size := Nat.le_trans hlen5 (Nat.le_trans m6.size m7.size)
    have hsz9 : w7.heap.size ≤ w9.heap.size := Nat.le_trans m8.size m9.size
    have mF : Mod T w w9 := (((HM5.out.1.then0 m6).then m7 (fun i _ e => by rw [e]; exact HTT.out.2.2)).then m8 (fun i _ e => HOW.out i e)).then m9 (fun i _ e => by rw [e]; exact HTT.out.2.2)
    have hT9 : ∀ i, T i → i < w9.heap.size := fun i hi => Nat.lt_of_lt_of_le (HT.out i hi) mF.size
    have hown8 : ∀ i, v8.ownBlock = some i → T i ∨ (w.heap.size ≤ i ∧ i < w9.heap.size) := fun i hi => by
      rcases hn8 with e | e
      · rw [e] at hi
        exact .inl (HOW.out i hi)
      · have hlt := (hO9.lt i hi).2
        rw [e] at hi
        cases hi
        exact .inr ⟨hsz7, hlt⟩
    have hput : (put g k N).length = N.length + 1 := (len_put g k N).2 HL.out
    have hE9 : SeAt (fun i => T i ∨ (w.heap.size ≤ i ∧ i < w9.heap.size)) w9 n (markS N g k) := by
      rw [show markS N g k = put g k N from if_neg (by rw [HL.out]; simp)]
      have hmem : ∀ p ∈ put k v8 m2, p = (k, v8) ∨ (p ∈ m2 ∧ p.1 ≠ k) := fun p hp => by
        have h1 := lkp_of_mem M9.nodup hp
        by_cases hk : p.1 = k
        · left
          rw [hk, lkp_put_same] at h1
          exact Prod.ext hk (Option.some.inj h1).symm
        · right
          rw [lkp_put_ne hk] at h1
          exact ⟨lkp_mem h1, hk⟩
      have hv0 : ∀ p ∈ m2, p.1 ≠ k → ∀ i, p.2.ownBlock = some i → v0.ownBlock ≠ some i := fun p hp hk i hi e => by
        cases hlk : lkp k m2 with
        | some x =>
          have hx : x = v0 := by have := HV0.out; rw [hlk] at this; exact this
          subst hx
          exact HDS.out p hp (k, x) (lkp_mem hlk) hk i hi e
        | none =>
          have hx : Value.slice none 0 0 = v0 := by have := HV0.out; rw [hlk] at this; exact this
          rw [← hx] at e
          cases e
      refine ⟨a, b, _, _, es9, c9, put k v8 m2, kn9, ka9, HM5.out.2, kb9, M9, hab, .inl HTT.out.1, .inl HTT.out.2.1, .inl HTT.out.2.2, fun p hp => ?_, fun p hp q hq hpq i hi hj => ?_⟩
      · rcases hmem p hp with rfl | ⟨h1, h2⟩
        · exact ⟨ls ++ [g], hO9, hown8, by rw [hput, List.length_append, List.length_singleton]; have := HLE.out; omega⟩
        · obtain ⟨l2, q1, q2, q3⟩ := HM2.out.2 p h1
          have hne := hv0 p h1 h2
          have q1a := q1.mod0 HM2w.out
          have q15 : SlOwn sgc 64 111 w5 0 p.2 l2 := q1a.mod HMA.out.1 (own_ne q1a HMA.out.2.1)
          have q16 := q15.mod0 m6
          have q17 := q16.mod m7 (own_ne q16 kb)
          have q18 := q17.mod m8 (fun i hi e => hne i hi e)
          have q19 := q18.mod m9 (own_ne q18 kb8)
          exact ⟨l2, q19, fun i hi => .inl (q2 i hi), by rw [hput]; omega⟩
      · rcases hmem p hp with rfl | ⟨h1, h2⟩
        · rcases hmem q hq with rfl | ⟨h3, h4⟩
          · exact hpq rfl
          · rcases hn8 with e | e
            · rw [e] at hi
              exact hv0 q h3 h4 i hj hi
            · rw [e] at hi
              cases hi
              obtain ⟨_, _, q2, _⟩ := HM2.out.2 q h3
              have := HT.out _ (q2 _ hj)
              omega
        · rcases hmem q hq with rfl | ⟨h3, h4⟩
          · rcases hn8 with e | e
            · rw [e] at hj
              exact hv0 p h1 h2 i hi hj
            · rw [e] at hj
              cases hj
              obtain ⟨_, _, q2, _⟩ := HM2.out.2 p h1
              have := HT.out _ (q2 _ hi)
              omega
          · exact HDS.out p h1 q h3 hpq i hi hj
    have HEND := Lib.hid (And.intro hE9 mF)
    have HRR := Lib.hid (And.intro hE (And.intro hap hF))
    clear hE9 mF hT9 hown8 hput hsz9 hsz7 hO9 hO8 hO7 hO6 hown7 hown7a hown7n kn9 ka9 kb9 kn8 ka8 kb8 kn7 ka7 kb7 m9 m8 m7 m6 M9 ME hst hn8 hw9 hw7 kp287
    have hE := HRR.out.1
    have hap := HRR.out.2.1
    have hF := HRR.out.2.2
    simp only [id] at hE hF
    (intro iA hiA hbA; simp only [List.mem_cons, List.not_mem_nil, or_false] at hiA; rcases hiA with rfl | rfl | rfl | rfl | rfl)
    · clear hbA
      (refine eff_entry (by simp only [zA, zB, zC]; rfl) ?hw32 rfl ?hx32 ?hz32 hE ?hn32; (case hw32 => rfl); (case hx32 => (simp only [Act.eval, zD, zA, zB, zC, zE]; (try rfl))); (case hz32 => (simp only [Act.eval, zD, zA, zB, zC, zE]; (try rfl))); (try simp only [Act.put, zF, zG, zH]))
      rw [show ([7, 8, 9, 10, 11] : List Nat).erase 7 = [8, 9, 10, 11] from rfl]
      (intro iA hiA hbA; simp only [List.mem_cons, List.not_mem_nil, or_false] at hiA; rcases hiA with rfl | rfl | rfl | rfl)
      · clear hbA
        (refine eff_value (v := ?v33) (w' := ?w33) (by simp only [zA, zB, zC]; rfl) ?hw33 ?hy33 ?hn33; (case hw33 => rfl); (case hy33 => (go_simp; (try (first | with_reducible rfl | (constructor <;> with_reducible rfl))))); (try simp only [Act.put, zF, zG, zH]))
        rw [show ([8, 9, 10, 11] : List Nat).erase 8 = [9, 10, 11] from rfl]
        (intro iA hiA hbA; simp only [List.mem_cons, List.not_mem_nil, or_false] at hiA; rcases hiA with rfl | rfl | rfl)
        · clear hbA
          (refine eff_append (by simp only [zA, zB, zC]; rfl) ?hw34 rfl ?hx34 ?hz34 hap ?hn34; (case hw34 => rfl); (case hx34 => (simp only [Act.eval, zD, zA, zB, zC, zE]; (try rfl))); (case hz34 => (simp only [Act.eval, zD, zA, zB, zC, zE]; (try rfl))); (try simp only [Act.put, zF, zG, zH]))
          rw [show ([9, 10, 11] : List Nat).erase 9 = [10, 11] from rfl]
          (intro iA hiA hbA; simp only [List.mem_cons, List.not_mem_nil, or_false] at hiA; rcases hiA with rfl | rfl)
          · clear hbA
            (refine eff_value (v := ?v35) (w' := ?w35) (by simp only [zA, zB, zC]; rfl) ?hw35 ?hy35 ?hn35; (case hw35 => rfl); (case hy35 => (go_simp; (try (first | with_reducible rfl | (constructor <;> with_reducible rfl))))); (try simp only [Act.put, zF, zG, zH]))
            rw [show ([10, 11] : List Nat).erase 10 = [11] from rfl]
            (intro iA hiA hbA; simp only [List.mem_cons, List.not_mem_nil, or_false] at hiA; subst hiA)
            · clear hbA
              (refine eff_estore (by simp only [zA, zB, zC]; rfl) ?hw36 rfl ?hx36 ?hz36 ?hv36 hF ?hn36; (case hw36 => rfl); (case hx36 => (simp only [Act.eval, zD, zA, zB, zC, zE]; (try rfl))); (case hz36 => (simp only [Act.eval, zD, zA, zB, zC, zE]; (try rfl))); (case hv36 => (simp only [Act.eval, zD, zA, zB, zC, zE]; (try rfl))); (try simp only [Act.put, zF, zG, zH]))
              rw [show ([11] : List Nat).erase 11 = [] from rfl]
              refine allE_nil ?_
              go_wp2_with fail; go_ret; exact ⟨⟨_, rfl⟩, HEND.out⟩
          · exact no_head (by kernel_rfl) hbA
        · clear hbA
          (refine eff_value (v := ?v37) (w' := ?w37) (by simp only [zA, zB, zC]; rfl) ?hw37 ?hy37 ?hn37; (case hw37 => rfl); (case hy37 => (go_simp; (try (first | with_reducible rfl | (constructor <;> with_reducible rfl))))); (try simp only [Act.put, zF, zG, zH]))
          rw [show ([9, 10, 11] : List Nat).erase 10 = [9, 11] from rfl]
          (intro iA hiA hbA; simp only [List.mem_cons, List.not_mem_nil, or_false] at hiA; rcases hiA with rfl | rfl)
          · clear hbA
            (refine eff_append (by simp only [zA, zB, zC]; rfl) ?hw38 rfl ?hx38 ?hz38 hap ?hn38; (case hw38 => rfl); (case hx38 => (simp only [Act.eval, zD, zA, zB, zC, zE]; (try rfl))); (case hz38 => (simp only [Act.eval, zD, zA, zB, zC, zE]; (try rfl))); (try simp only [Act.put, zF, zG, zH]))
            rw [show ([9, 11] : List Nat).erase 9 = [11] from rfl]
            (intro iA hiA hbA; simp only [List.mem_cons, List.not_mem_nil, or_false] at hiA; subst hiA)
            · clear hbA
              (refine eff_estore (by simp only [zA, zB, zC]; rfl) ?hw39 rfl ?hx39 ?hz39 ?hv39 hF ?hn39; (case hw39 => rfl); (case hx39 => (simp only [Act.eval, zD, zA, zB, zC, zE]; (try rfl))); (case hz39 => (simp only [Act.eval, zD, zA, zB, zC, zE]; (try rfl))); (case hv39 => (simp only [Act.eval, zD, zA, zB, zC, zE]; (try rfl))); (try simp only [Act.put, zF, zG, zH]))
              rw [show ([11] : List Nat).erase 11 = [] from rfl]
              refine allE_nil ?_
              go_wp2_with fail; go_ret; exact ⟨⟨_, rfl⟩, HEND.out⟩
          · exact no_head (by kernel_rfl) hbA
        · exact no_head (by kernel_rfl) hbA
      · exact no_head (by kernel_rfl) hbA
      · clear hbA
        (refine eff_value (v := ?v40) (w' := ?w40) (by simp only [zA, zB, zC]; rfl) ?hw40 ?hy40 ?hn40; (case hw40 => rfl); (case hy40 => (go_simp; (try (first | with_reducible rfl | (constructor <;> with_reducible rfl))))); (try simp only [Act.put, zF, zG, zH]))
        rw [show ([8, 9, 10, 11] : List Nat).erase 10 = [8, 9, 11] from rfl]
        (intro iA hiA hbA; simp only [List.mem_cons, List.not_mem_nil, or_false] at hiA; rcases hiA with rfl | rfl | rfl)
        · clear hbA
          (refine eff_value (v := ?v41) (w' := ?w41) (by simp only [zA, zB, zC]; rfl) ?hw41 ?hy41 ?hn41; (case hw41 => rfl); (case hy41 => (go_simp; (try (first | with_reducible rfl | (constructor <;> with_reducible rfl))))); (try simp only [Act.put, zF, zG, zH]))
          rw [show ([8, 9, 11] : List Nat).erase 8 = [9, 11] from rfl]
          (intro iA hiA hbA; simp only [List.mem_cons, List.not_mem_nil, or_false] at hiA; rcases hiA with rfl | rfl)
          · clear hbA
            (refine eff_append (by simp only [zA, zB, zC]; rfl) ?hw42 rfl ?hx42 ?hz42 hap ?hn42; (case hw42 => rfl); (case hx42 => (simp only [Act.eval, zD, zA, zB, zC, zE]; (try rfl))); (case hz42 => (simp only [Act.eval, zD, zA, zB, zC, zE]; (try rfl))); (try simp only [Act.put, zF, zG, zH]))
            rw [show ([9, 11] : List Nat).erase 9 = [11] from rfl]
            (intro iA hiA hbA; simp only [List.mem_cons, List.not_mem_nil, or_false] at hiA; subst hiA)
            · clear hbA
              (refine eff_estore (by simp only [zA, zB, zC]; rfl) ?hw43 rfl ?hx43 ?hz43 ?hv43 hF ?hn43; (case hw43 => rfl); (case hx43 => (simp only [Act.eval, zD, zA, zB, zC, zE]; (try rfl))); (case hz43 => (simp only [Act.eval, zD, zA, zB, zC, zE]; (try rfl))); (case hv43 => (simp only [Act.eval, zD, zA, zB, zC, zE]; (try rfl))); (try simp only [Act.put, zF, zG, zH]))
              rw [show ([11] : List Nat).erase 11 = [] from rfl]
              refine allE_nil ?_
              go_wp2_with fail; go_ret; exact ⟨⟨_, rfl⟩, HEND.out⟩
          · exact no_head (by kernel_rfl) hbA
        · exact no_head (by kernel_rfl) hbA
        · exact no_head (by kernel_rfl) hbA
      · exact no_head (by kernel_rfl) hbA
    · exact no_head (by kernel_rfl) hbA
    · exact no_head (by kernel_rfl) hbA
    · exact no_head (by kernel_rfl) hbA
    · exact no_head (by kernel_rfl) hbA
end Go.Proofs.Ytofpnmoeimjnnaa
