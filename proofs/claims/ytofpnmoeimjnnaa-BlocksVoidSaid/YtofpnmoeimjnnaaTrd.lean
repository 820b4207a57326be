/- What is handed in: transactions that ran, ground, and all within. -/
import Derived.Test.YtofpnmoeimjnnaaTr
import Derived.ProofKit
import Derived.OpenShut
namespace Go.Proofs.Ytofpnmoeimjnnaa
set_option linter.unusedVariables false
set_option linter.unusedSimpArgs false
open Go.ChangeShapes Go.WideShapes Go.ChangeAt Go.RowKit
theorem u8_of {n : Int} (h : 0 ≤ n ∧ n ≤ 255) : ∃ x : UInt8, n = (x.toNat : Int) := ⟨UInt8.ofNat n.toNat, by
  rw [UInt8.toNat_ofNat']
  omega⟩
theorem i64_of {n : Int} (h : -9223372036854775808 ≤ n ∧ n ≤ 9223372036854775807) : ∃ x : Int64, n = x.toInt := ⟨Int64.ofInt n, by
  rw [Int64.toInt_ofInt_of_le (by simpa using h.1) (by omega)]⟩
theorem u64_of {n : Int} (h : 0 ≤ n ∧ n ≤ 18446744073709551615) : ∃ x : UInt64, n = (x.toNat : Int) := ⟨UInt64.ofNat n.toNat, by
  rw [UInt64.toNat_ofNat']
  omega⟩
section
variable {H : Type} {enc : TypeId × Value → H}
/-- An array of bytes. -/
theorem bytes_of {w : World} {base : Nat} {sp : Nat → Bool} {held : Bool} {fuel : Nat} {cs : List Value} {x : DataW H × List MemPlace} {t : TypeId} {n : Nat} (hT : Try.prog.underlying t = some (.array n 5)) (hc : Try.prog.cellsOf t = n) (h : DataW.trod enc Try.prog w base sp held fuel t cs = some x) :
    ∃ l : List UInt8, l.length = n ∧ cs = l.map bc := by
  obtain ⟨xs, m, rfl, rfl, hl, hx, hi⟩ := DataW.trod_array hT h
  have hl : cs.length = n := hl.trans hc
  have hx : xs.length = n := hx
  have hget : ∀ i, i < n → ∃ u : UInt8, cs[i]? = some (bc u) := fun i h32 => by
    have hq := hi i h32
    rw [show Try.prog.cellsOf 5 = 1 by kernel_rfl, Nat.mul_one, List.getElem?_eq_getElem (by omega)] at hq
    obtain ⟨n, hn, _, hw⟩ := DataW.trod_int Try.underlying5 hq
    have hb := bounds_u8 hw
    refine ⟨UInt8.ofNat n.toNat, ?_⟩
    rw [take1 hn]
    unfold bc
    have : ((UInt8.ofNat n.toNat).toNat : Int) = n := by
      rw [UInt8.toNat_ofNat']
      omega
    rw [this]
  let f : Value → UInt8 := fun v => match v with
    | .int _ n => UInt8.ofNat n.toNat
    | _ => 0
  refine ⟨cs.map f, by simp [hl], ?_⟩
  apply List.ext_getElem?
  intro i
  simp only [List.map_map, List.getElem?_map]
  by_cases h32 : i < n
  · obtain ⟨n, hn⟩ := hget i h32
    rw [hn]
    have : bc (f (bc n)) = bc n := by
      show bc (UInt8.ofNat ((n.toNat : Int).toNat)) = bc n
      rw [Int.toNat_natCast, UInt8.ofNat_toNat]
    simp [this]
  · rw [List.getElem?_eq_none (by omega)]
    rfl
theorem key_reads : Reads enc Try.prog 68 kc (fun _ _ => True) := fun w base sp held fuel cs x h _ => by
  obtain ⟨l, hl, rfl⟩ := bytes_of Try.underlying68 (by kernel_rfl) h
  exact ⟨⟨l, hl⟩, rfl, trivial⟩
theorem hash_reads : Reads enc Try.prog 50 kc (fun _ _ => True) := fun w base sp held fuel cs x h _ => by
  obtain ⟨l, hl, rfl⟩ := bytes_of Try.underlying50 (by kernel_rfl) h
  exact ⟨⟨l, hl⟩, rfl, trivial⟩
theorem sig_reads : Reads enc Try.prog 111 sgc (fun _ _ => True) := fun w base sp held fuel cs x h _ => by
  obtain ⟨l, hl, rfl⟩ := bytes_of Try.underlying111 (by kernel_rfl) h
  exact ⟨⟨l, hl⟩, rfl, trivial⟩
theorem u8_reads : Reads enc Try.prog 5 uc (fun _ _ => True) := fun w base sp held fuel cs x h hfit => by
  obtain ⟨n, rfl, _, hw⟩ := DataW.trod_int Try.underlying5 h
  obtain ⟨y, rfl⟩ := u8_of (bounds_u8 hw)
  exact ⟨y, rfl, trivial⟩
def uv (x : UInt64) : Array Value := #[u64v x]
theorem u64_reads : Reads enc Try.prog 25 uv (fun _ _ => True) := fun w base sp held fuel cs x h hfit => by
  obtain ⟨n, rfl, _, hw⟩ := DataW.trod_int Try.underlying25 h
  obtain ⟨y, rfl⟩ := u64_of (bounds_u64 hw)
  exact ⟨y, rfl, trivial⟩
def iv (x : Int64) : Array Value := #[.int .i64 x.toInt]
theorem int_reads : Reads enc Try.prog 3 iv (fun _ _ => True) := fun w base sp held fuel cs x h hfit => by
  obtain ⟨n, rfl, _, hw⟩ := DataW.trod_int Try.underlying3 h
  obtain ⟨y, rfl⟩ := i64_of (bounds_i64 hw)
  exact ⟨y, rfl, trivial⟩
theorem errno_reads : Reads enc Try.prog 62 iv (fun _ _ => True) := fun w base sp held fuel cs x h hfit => by
  obtain ⟨n, rfl, _, hw⟩ := DataW.trod_int Try.underlying62 h
  obtain ⟨y, rfl⟩ := i64_of (bounds_i64 hw)
  exact ⟨y, rfl, trivial⟩
def bv (x : Bool) : Array Value := #[.bool x]
theorem bool_reads : Reads enc Try.prog 4 bv (fun _ _ => True) := fun w base sp held fuel cs x h hfit => by
  obtain ⟨b, rfl, _⟩ := DataW.trod_bool Try.underlying4 h
  exact ⟨b, rfl, trivial⟩
/-- A field of a struct that was read. -/
theorem field_read {α : Type} {T t : TypeId} {fs : Array Field} {f : α → Array Value} {Ok : World → α → Prop} (j off n : Nat) (hT : Try.prog.underlying T = some (.struct fs)) (hfl : (fs[j]?).map (fun f => (f.type, f.offset)) = some (t, off)) (hn : Try.prog.cellsOf t = n) (hR : Reads enc Try.prog t f Ok)
    {w : World} {base : Nat} {sp : Nat → Bool} {held : Bool} {fuel : Nat} {cs : List Value} {x : DataW H × List MemPlace} (h : DataW.trod enc Try.prog w base sp held fuel T cs = some x) (hfit : fits Try.prog T x.1) : ∃ a : α, (cs.drop off).take n = (f a).toList ∧ Ok w a := by
  obtain ⟨xs, m, rfl, rfl, hl, hx, hi⟩ := DataW.trod_struct hT h
  cases hf : fs[j]? with
  | none => rw [hf] at hfl; cases hfl
  | some fl =>
    rw [hf] at hfl
    simp only [Option.map_some, Option.some.injEq, Prod.mk.injEq] at hfl
    obtain ⟨rfl, rfl⟩ := hfl
    have hj : j < xs.length := by rw [hx]; exact (Array.getElem?_eq_some_iff.1 hf).1
    have h1 := hi j fl hf
    rw [List.getElem?_eq_getElem hj, hn] at h1
    have h2 : fits Try.prog fl.type (xs[j].1) := fits_field (i := j) (d := xs[j].1) (fl := fl) hT hfit hf (by rw [List.getElem?_map, List.getElem?_eq_getElem hj]; rfl)
    obtain ⟨a, ha, hok⟩ := hR _ _ _ _ _ _ _ h1 h2
    exact ⟨a, by rw [← ha], hok⟩
theorem cut_at (cs : List Value) (off n : Nat) : cs.drop off = (cs.drop off).take n ++ cs.drop (off + n) := by rw [← List.drop_drop, List.take_append_drop]
theorem end_at {cs : List Value} {n : Nat} (h : cs.length = n) : cs.drop n = [] := List.drop_of_length_le (by omega)
theorem len_of {T : TypeId} {fs : Array Field} {n : Nat} (hT : Try.prog.underlying T = some (.struct fs)) (hn : Try.prog.cellsOf T = n) {w : World} {base : Nat} {sp : Nat → Bool} {held : Bool} {fuel : Nat} {cs : List Value} {x : DataW H × List MemPlace} (h : DataW.trod enc Try.prog w base sp held fuel T cs = some x) : cs.length = n := by
  obtain ⟨xs, m, rfl, rfl, hl, _⟩ := DataW.trod_struct hT h
  exact hl.trans hn
abbrev BysOk : World → Sl UInt8 → Prop := SlOk uc 1 1 (fun _ _ => True)
theorem u8s_reads : Reads enc Try.prog 45 (slv (α := UInt8)) BysOk :=
  slice_reads Try.underlying45 (by kernel_rfl) (by kernel_rfl) (by omega) u8_reads 0
theorem keys_reads : Reads enc Try.prog 48 (slv (α := Key)) (SlOk kc 32 32 (fun _ _ => True)) :=
  slice_reads Try.underlying48 (by kernel_rfl) (by kernel_rfl) (by omega) key_reads key0
theorem hashes_reads : Reads enc Try.prog 23 (slv (α := Key)) (SlOk kc 32 32 (fun _ _ => True)) :=
  slice_reads Try.underlying23 (by kernel_rfl) (by kernel_rfl) (by omega) hash_reads key0
def sig0 : Sg := ⟨List.replicate 64 0, rfl⟩
theorem sigs_reads : Reads enc Try.prog 24 (slv (α := Sg)) (SlOk sgc 64 64 (fun _ _ => True)) :=
  slice_reads Try.underlying24 (by kernel_rfl) (by kernel_rfl) (by omega) sig_reads sig0
def InOk (w : World) (x : InR) : Prop := BysOk w x.a ∧ BysOk w x.d
def LoOk (w : World) (x : LoR) : Prop := BysOk w x.w ∧ BysOk w x.r
theorem in_reads : Reads enc Try.prog 124 inr InOk := fun w base sp held fuel cs x h hfit => by
  obtain ⟨a0, h0, ka0⟩ := field_read 0 0 1 Try.underlying124 rfl (by kernel_rfl) u8_reads h hfit
  obtain ⟨a1, h1, ka1⟩ := field_read 1 1 1 Try.underlying124 rfl (by kernel_rfl) u8s_reads h hfit
  obtain ⟨a2, h2, ka2⟩ := field_read 2 2 1 Try.underlying124 rfl (by kernel_rfl) u8s_reads h hfit
  have hl := len_of (n := 3) Try.underlying124 (by kernel_rfl) h
  refine ⟨⟨a0, a1, a2⟩, ?_, ka1, ka2⟩
  apply Array.toList_inj.1
  show cs = _
  have e := cut_at cs 0 1
  rw [cut_at cs (0 + 1) 1, cut_at cs (0 + 1 + 1) 1, h0, h1, h2, end_at (n := 0 + 1 + 1 + 1) hl] at e
  exact e
theorem ins_reads : Reads enc Try.prog 51 (slv (α := InR)) (SlOk inr 3 56 InOk) :=
  slice_reads Try.underlying51 (by kernel_rfl) (by kernel_rfl) (by omega) in_reads ⟨0, ⟨none, [], 0⟩, ⟨none, [], 0⟩⟩
theorem kc_toList (k : Key) : (kc k).toList = k.l.map bc := rfl
theorem lo_reads : Reads enc Try.prog 126 lor LoOk := fun w base sp held fuel cs x h hfit => by
  obtain ⟨a0, h0, ka0⟩ := field_read 0 0 32 Try.underlying126 rfl (by kernel_rfl) key_reads h hfit
  obtain ⟨a1, h1, ka1⟩ := field_read 1 32 1 Try.underlying126 rfl (by kernel_rfl) u8s_reads h hfit
  obtain ⟨a2, h2, ka2⟩ := field_read 2 33 1 Try.underlying126 rfl (by kernel_rfl) u8s_reads h hfit
  have hl := len_of (n := 34) Try.underlying126 (by kernel_rfl) h
  refine ⟨⟨a0, a1, a2⟩, ?_, ka1, ka2⟩
  apply Array.toList_inj.1
  show cs = _
  have e := cut_at cs 0 32
  rw [cut_at cs (0 + 32) 1, cut_at cs (0 + 32 + 1) 1, h0, h1, h2, end_at (n := 0 + 32 + 1 + 1) hl] at e
  refine e.trans ?_
  simp [lor, kx, slv, Sl.v]
theorem los_reads : Reads enc Try.prog 52 (slv (α := LoR)) (SlOk lor 34 80 LoOk) :=
  slice_reads Try.underlying52 (by kernel_rfl) (by kernel_rfl) (by omega) lo_reads ⟨key0, ⟨none, [], 0⟩, ⟨none, [], 0⟩⟩
theorem role_reads : Reads enc Try.prog 121 rcr (fun _ _ => True) := fun w base sp held fuel cs x h hfit => by
  obtain ⟨a0, h0, ka0⟩ := field_read 0 0 32 Try.underlying121 rfl (by kernel_rfl) key_reads h hfit
  obtain ⟨a1, h1, ka1⟩ := field_read 1 32 1 Try.underlying121 rfl (by kernel_rfl) bool_reads h hfit
  obtain ⟨a2, h2, ka2⟩ := field_read 2 33 1 Try.underlying121 rfl (by kernel_rfl) bool_reads h hfit
  have hl := len_of (n := 34) Try.underlying121 (by kernel_rfl) h
  refine ⟨⟨a0, a1, a2⟩, ?_, trivial⟩
  apply Array.toList_inj.1
  show cs = _
  have e := cut_at cs 0 32
  rw [cut_at cs (0 + 32) 1, cut_at cs (0 + 32 + 1) 1, h0, h1, h2, end_at (n := 0 + 32 + 1 + 1) hl] at e
  refine e.trans ?_
  simp [rcr, rc, kx, bv]
theorem roles_reads : Reads enc Try.prog 57 (slv (α := Role)) (SlOk rcr 34 34 (fun _ _ => True)) :=
  slice_reads Try.underlying57 (by kernel_rfl) (by kernel_rfl) (by omega) role_reads ⟨key0, false, false⟩
/-- A header. -/
def hdr3 (x : UInt8 × UInt8 × UInt8) : Array Value := #[u8v x.1, u8v x.2.1, u8v x.2.2]
theorem head_reads : Reads enc Try.prog 47 hdr3 (fun _ _ => True) := fun w base sp held fuel cs x h hfit => by
  obtain ⟨a0, h0, ka0⟩ := field_read 0 0 1 Try.underlying47 rfl (by kernel_rfl) u8_reads h hfit
  obtain ⟨a1, h1, ka1⟩ := field_read 1 1 1 Try.underlying47 rfl (by kernel_rfl) u8_reads h hfit
  obtain ⟨a2, h2, ka2⟩ := field_read 2 2 1 Try.underlying47 rfl (by kernel_rfl) u8_reads h hfit
  have hl := len_of (n := 3) Try.underlying47 (by kernel_rfl) h
  refine ⟨⟨a0, a1, a2⟩, ?_, trivial⟩
  apply Array.toList_inj.1
  show cs = _
  have e := cut_at cs 0 1
  rw [cut_at cs (0 + 1) 1, cut_at cs (0 + 1 + 1) 1, h0, h1, h2, end_at (n := 0 + 1 + 1 + 1) hl] at e
  exact e
/-- All lists within a message lie. -/
def MsgOk (w : World) (x : RdR) : Prop := SlOk kc 32 32 (fun _ _ => True) w x.ks ∧ SlOk inr 3 56 InOk w x.ins ∧ SlOk lor 34 80 LoOk w x.lks
def msr (x : RdR) : Array Value := mx ((rpre x).drop 2) x.rc ((rpost x).take 2)
theorem msg_reads : Reads enc Try.prog 54 msr MsgOk := fun w base sp held fuel cs x h hfit => by
  obtain ⟨a0, h0, ka0⟩ := field_read 0 0 1 Try.underlying54 rfl (by kernel_rfl) bool_reads h hfit
  obtain ⟨a1, h1, ka1⟩ := field_read 1 1 3 Try.underlying54 rfl (by kernel_rfl) head_reads h hfit
  obtain ⟨a2, h2, ka2⟩ := field_read 2 4 1 Try.underlying54 rfl (by kernel_rfl) keys_reads h hfit
  obtain ⟨a3, h3, ka3⟩ := field_read 3 5 32 Try.underlying54 rfl (by kernel_rfl) hash_reads h hfit
  obtain ⟨a4, h4, ka4⟩ := field_read 4 37 1 Try.underlying54 rfl (by kernel_rfl) ins_reads h hfit
  obtain ⟨a5, h5, ka5⟩ := field_read 5 38 1 Try.underlying54 rfl (by kernel_rfl) los_reads h hfit
  have hl := len_of (n := 39) Try.underlying54 (by kernel_rfl) h
  refine ⟨{ rd0 with v0 := a0, h0 := a1.1, h1 := a1.2.1, h2 := a1.2.2, ks := a2, rc := a3, ins := a4, lks := a5 }, ?_, ka2, ka4, ka5⟩
  apply Array.toList_inj.1
  show cs = _
  have e := cut_at cs 0 1
  rw [cut_at cs (0 + 1) 3, cut_at cs (0 + 1 + 3) 1, cut_at cs (0 + 1 + 3 + 1) 32, cut_at cs (0 + 1 + 3 + 1 + 32) 1, cut_at cs (0 + 1 + 3 + 1 + 32 + 1) 1, h0, h1, h2, h3, h4, h5, end_at (n := 0 + 1 + 3 + 1 + 32 + 1 + 1) hl] at e
  refine e.trans ?_
  simp [msr, mx, rpre, rpost, bv, hdr3, slv, Sl.v, kc]
def TxOk (w : World) (x : RdR) : Prop := SlOk sgc 64 64 (fun _ _ => True) w x.sg ∧ MsgOk w x
theorem tx_reads : Reads enc Try.prog 56 txr TxOk := fun w base sp held fuel cs x h hfit => by
  obtain ⟨a0, h0, ka0⟩ := field_read 0 0 1 Try.underlying56 rfl (by kernel_rfl) sigs_reads h hfit
  obtain ⟨a1, h1, ka1⟩ := field_read 1 1 39 Try.underlying56 rfl (by kernel_rfl) msg_reads h hfit
  have hl := len_of (n := 40) Try.underlying56 (by kernel_rfl) h
  refine ⟨{ a1 with sg := a0 }, ?_, ka0, ka1⟩
  apply Array.toList_inj.1
  show cs = _
  have e := cut_at cs 0 1
  rw [cut_at cs (0 + 1) 39, h0, h1, end_at (n := 0 + 1 + 39) hl] at e
  refine e.trans ?_
  simp [txr, msr, mx, rpre, rpost, slv, Sl.v]
/-- A budget. -/
def bud (x : UInt64 × UInt64 × Int64) : Array Value := #[u64v x.1, u64v x.2.1, .int .i64 x.2.2.toInt]
theorem bud_reads : Reads enc Try.prog 59 bud (fun _ _ => True) := fun w base sp held fuel cs x h hfit => by
  obtain ⟨a0, h0, ka0⟩ := field_read 0 0 1 Try.underlying59 rfl (by kernel_rfl) u64_reads h hfit
  obtain ⟨a1, h1, ka1⟩ := field_read 1 1 1 Try.underlying59 rfl (by kernel_rfl) u64_reads h hfit
  obtain ⟨a2, h2, ka2⟩ := field_read 2 2 1 Try.underlying59 rfl (by kernel_rfl) int_reads h hfit
  have hl := len_of (n := 3) Try.underlying59 (by kernel_rfl) h
  refine ⟨⟨a0, a1, a2⟩, ?_, trivial⟩
  apply Array.toList_inj.1
  show cs = _
  have e := cut_at cs 0 1
  rw [cut_at cs (0 + 1) 1, cut_at cs (0 + 1 + 1) 1, h0, h1, h2, end_at (n := 0 + 1 + 1 + 1) hl] at e
  exact e
def RdOk (w : World) (x : RdR) : Prop := BysOk w x.b ∧ TxOk w x ∧ SlOk rcr 34 34 (fun _ _ => True) w x.ro
theorem rd_reads : Reads enc Try.prog 61 rdr RdOk := fun w base sp held fuel cs x h hfit => by
  obtain ⟨a0, h0, ka0⟩ := field_read 0 0 1 Try.underlying61 rfl (by kernel_rfl) u8s_reads h hfit
  obtain ⟨a1, h1, ka1⟩ := field_read 1 1 40 Try.underlying61 rfl (by kernel_rfl) tx_reads h hfit
  obtain ⟨a2, h2, ka2⟩ := field_read 2 41 1 Try.underlying61 rfl (by kernel_rfl) roles_reads h hfit
  obtain ⟨a3, h3, ka3⟩ := field_read 3 42 3 Try.underlying61 rfl (by kernel_rfl) bud_reads h hfit
  obtain ⟨a4, h4, ka4⟩ := field_read 4 45 1 Try.underlying61 rfl (by kernel_rfl) u64_reads h hfit
  obtain ⟨a5, h5, ka5⟩ := field_read 5 46 1 Try.underlying61 rfl (by kernel_rfl) u64_reads h hfit
  obtain ⟨a6, h6, ka6⟩ := field_read 6 47 1 Try.underlying61 rfl (by kernel_rfl) u64_reads h hfit
  have hl := len_of (n := 48) Try.underlying61 (by kernel_rfl) h
  refine ⟨{ a1 with b := a0, ro := a2, un := a3.1, pr := a3.2.1, bad := a3.2.2, fee := a4, cost := a5, prio := a6 }, ?_, ka0, ka1, ka2⟩
  apply Array.toList_inj.1
  show cs = _
  have e := cut_at cs 0 1
  rw [cut_at cs (0 + 1) 40, cut_at cs (0 + 1 + 40) 1, cut_at cs (0 + 1 + 40 + 1) 3, cut_at cs (0 + 1 + 40 + 1 + 3) 1, cut_at cs (0 + 1 + 40 + 1 + 3 + 1) 1, cut_at cs (0 + 1 + 40 + 1 + 3 + 1 + 1) 1, h0, h1, h2, h3, h4, h5, h6, end_at (n := 0 + 1 + 40 + 1 + 3 + 1 + 1 + 1) hl] at e
  refine e.trans ?_
  simp [rdr, txr, mx, rpre, rpost, slv, Sl.v, bud, uv]
theorem acct_reads : Reads enc Try.prog 153 av (fun _ _ => True) := fun w base sp held fuel cs x h hfit => by
  obtain ⟨a0, h0, ka0⟩ := field_read 0 0 1 Try.underlying153 rfl (by kernel_rfl) u64_reads h hfit
  obtain ⟨a1, h1, ka1⟩ := field_read 1 1 32 Try.underlying153 rfl (by kernel_rfl) key_reads h hfit
  obtain ⟨a2, h2, ka2⟩ := field_read 2 33 1 Try.underlying153 rfl (by kernel_rfl) u64_reads h hfit
  have hl := len_of (n := 34) Try.underlying153 (by kernel_rfl) h
  refine ⟨⟨a0, a1, a2⟩, ?_, trivial⟩
  apply Array.toList_inj.1
  show cs = _
  have e := cut_at cs 0 1
  rw [cut_at cs (0 + 1) 32, cut_at cs (0 + 1 + 32) 1, h0, h1, h2, end_at (n := 0 + 1 + 32 + 1) hl] at e
  refine e.trans ?_
  simp [av, uv, cu, u64v]
theorem hold_reads : Reads enc Try.prog 155 hd (fun _ _ => True) := fun w base sp held fuel cs x h hfit => by
  obtain ⟨a0, h0, ka0⟩ := field_read 0 0 32 Try.underlying155 rfl (by kernel_rfl) key_reads h hfit
  obtain ⟨a1, h1, ka1⟩ := field_read 1 32 34 Try.underlying155 rfl (by kernel_rfl) acct_reads h hfit
  have hl := len_of (n := 66) Try.underlying155 (by kernel_rfl) h
  refine ⟨⟨a0, a1⟩, ?_, trivial⟩
  apply Array.toList_inj.1
  show cs = _
  have e := cut_at cs 0 32
  rw [cut_at cs (0 + 32) 34, h0, h1, end_at (n := 0 + 32 + 34) hl] at e
  refine e.trans ?_
  simp [hd]
theorem holds_reads : Reads enc Try.prog 22 (slv (α := Hold)) (SlOk hd 66 80 (fun _ _ => True)) :=
  slice_reads Try.underlying22 (by kernel_rfl) (by kernel_rfl) (by omega) hold_reads ⟨key0, acct0⟩
def OcOk (w : World) (x : OcR) : Prop := SlOk hd 66 80 (fun _ _ => True) w x.ch
theorem out_reads : Reads enc Try.prog 64 ocr OcOk := fun w base sp held fuel cs x h hfit => by
  obtain ⟨a0, h0, ka0⟩ := field_read 0 0 1 Try.underlying64 rfl (by kernel_rfl) errno_reads h hfit
  obtain ⟨a1, h1, ka1⟩ := field_read 1 1 1 Try.underlying64 rfl (by kernel_rfl) int_reads h hfit
  obtain ⟨a2, h2, ka2⟩ := field_read 2 2 1 Try.underlying64 rfl (by kernel_rfl) u64_reads h hfit
  obtain ⟨a3, h3, ka3⟩ := field_read 3 3 1 Try.underlying64 rfl (by kernel_rfl) u64_reads h hfit
  obtain ⟨a4, h4, ka4⟩ := field_read 4 4 1 Try.underlying64 rfl (by kernel_rfl) u64_reads h hfit
  obtain ⟨a5, h5, ka5⟩ := field_read 5 5 1 Try.underlying64 rfl (by kernel_rfl) holds_reads h hfit
  have hl := len_of (n := 6) Try.underlying64 (by kernel_rfl) h
  refine ⟨⟨a0, a1, a2, a3, a4, a5⟩, ?_, ka5⟩
  apply Array.toList_inj.1
  show cs = _
  have e := cut_at cs 0 1
  rw [cut_at cs (0 + 1) 1, cut_at cs (0 + 1 + 1) 1, cut_at cs (0 + 1 + 1 + 1) 1, cut_at cs (0 + 1 + 1 + 1 + 1) 1, cut_at cs (0 + 1 + 1 + 1 + 1 + 1) 1, h0, h1, h2, h3, h4, h5, end_at (n := 0 + 1 + 1 + 1 + 1 + 1 + 1) hl] at e
  exact e
def TdOk (w : World) (x : TdR) : Prop := RdOk w x.r ∧ OcOk w x.o
theorem tried_reads : Reads enc Try.prog 66 tdr TdOk := fun w base sp held fuel cs x h hfit => by
  obtain ⟨a0, h0, ka0⟩ := field_read 0 0 48 Try.underlying66 rfl (by kernel_rfl) rd_reads h hfit
  obtain ⟨a1, h1, ka1⟩ := field_read 1 48 6 Try.underlying66 rfl (by kernel_rfl) out_reads h hfit
  have hl := len_of (n := 54) Try.underlying66 (by kernel_rfl) h
  refine ⟨⟨a0, a1⟩, ?_, ka0, ka1⟩
  apply Array.toList_inj.1
  show cs = _
  have e := cut_at cs 0 48
  rw [cut_at cs (0 + 48) 6, h0, h1, end_at (n := 0 + 48 + 6) hl] at e
  refine e.trans ?_
  simp [tdr, rdr, mx, ocr]
end
end Go.Proofs.Ytofpnmoeimjnnaa
