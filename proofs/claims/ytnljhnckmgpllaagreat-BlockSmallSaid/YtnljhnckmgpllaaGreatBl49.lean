/- take.Caught at block.peek$1. take: the first byte. strings.Builder: Len, String: the shelf's contracts at this dump (written by the kit's lay-shelf.mjs and lay-plain.mjs; cut to two). strings.Builder: copyCheck, WriteString. record: what its functions compute: plain lists, no program. record: Check, Size; varint.Size. Slices of records (structs of three cells). record.Row. record.Put. record.Join. -/
import Derived.Test.YtnljhnckmgpllaaGreatBl43
import Derived.Test.YtnljhnckmgpllaaGreatBl41
import Derived.Shelf.Strings.Builder1
import Derived.Test.YtnljhnckmgpllaaGreatRows
import Derived.Test.YtnljhnckmgpllaaGreatBl15
import Derived.Test.YtnljhnckmgpllaaGreatBl24
import Derived.Test.YtnljhnckmgpllaaGreatBl40
import Derived.Deep.LoopGhost
namespace Go.Proofs.YtnljhnckmgpllaaGreat
namespace Tk
open Go.RowKit
open Bt (Frm)

set_option maxHeartbeats 6400000 in
set_option maxRecDepth 100000 in
theorem caughtB_ok (w : World) (caps : Array Value) (G : World → Prop) (hG : ∀ w', G w' → Var w' w.heap.size 23 (.int .i64 0) ∧ Var w' (w.heap.size + 1) 3 (.int .i64 0))
    (hf : Calls Tryz.prog 97 caps (wC w) fun e w' => e = .returned (.tuple #[]) ∧ G w') :
    Calls Tryz.prog 48 #[.func (.func 97) #[] caps] w fun e w' => e = .returned (.tuple #[.int .i64 0, .int .i64 0]) ∧ ∃ w2, G w2 ∧ Keep w2 w' [w.heap.size, w.heap.size + 1] := by
  have mixed : Tryz.prog.follows .mixedOrders = true := by kernel_rfl
  have hmf : ∀ (fn : Fn) (first cap : Array Value) (w : World), (Instr.makeFunc fn first cap).run Tryz.prog w = .ok (.func fn first cap) w := fun _ _ _ _ => rfl
  have HF := Lib.hid hf
  have HG := Lib.hid hG
  clear hf hG
  go_enter_defers Tryz.func48, Tryz.ntmps48
  go_wp2_with fail
  refine HF.out.mono ?_
  rintro e1 w1 ⟨rfl, h1⟩
  obtain ⟨v1, v2⟩ := HG.out w1 h1
  have c1 := v1.cell
  have f1 := v1.frozen
  have c2 := v2.cell
  have f2 := v2.frozen
  have HX := Lib.hid (And.intro h1 (And.intro v1 v2))
  clear h1 v1 v2 HF HG
  go_wp2_with fail
  refine leaves_cons (f := 87) (args := #[.pointer (some ⟨w.heap.size, 0, none⟩), .pointer (some ⟨w.heap.size + 1, 0, none⟩)]) (by simp) (by simp [go_sem]) ?_
  refine (catch_idle ⟨w.heap.size, 0, none⟩ ⟨w.heap.size + 1, 0, none⟩ _).mono ?_
  rintro e u' w'' ⟨rfl, rfl, rfl⟩
  have n1 : w.heap.size ≠ w.heap.size + 1 := by omega
  have u1 := (HX.out.2.1.set_ (.int .i64 0)).far (p := ⟨w.heap.size + 1, 0, none⟩) n1 (.int .i64 0)
  have u2 := (HX.out.2.2.far (p := ⟨w.heap.size, 0, none⟩) (Ne.symm n1) (.int .i64 0)).set_ (.int .i64 0)
  have hk : Keep w1 ((w1.setCell ⟨w.heap.size, 0, none⟩ (.int .i64 0)).setCell ⟨w.heap.size + 1, 0, none⟩ (.int .i64 0)) [w.heap.size, w.heap.size + 1] :=
    ((Keep.refl w1 _).set ⟨w.heap.size, 0, none⟩ (.inl (by simp)) _).set ⟨w.heap.size + 1, 0, none⟩ (.inl (by simp)) _
  have d1 := u1.cell
  have d2 := u2.cell
  simp [Leaves, settle, results, Tryz.results48, go_sem, d1, d2]
  exact ⟨w1, HX.out.1, hk⟩

set_option maxHeartbeats 6400000 in
set_option maxRecDepth 100000 in
theorem caughtB_no (w : World) (caps : Array Value) (x : Int) (G : World → Prop) (hG : ∀ w', G w' → Var w' w.heap.size 23 (.int .i64 0) ∧ Var w' (w.heap.size + 1) 3 (.int .i64 0))
    (hf : Calls Tryz.prog 97 caps (wC w) fun e w' => (∃ p, e = .panicked [fault x p]) ∧ G w') :
    Calls Tryz.prog 48 #[.func (.func 97) #[] caps] w fun e w' => (∃ p : Int, e = .returned (.tuple #[.int .i64 x, .int .i64 p])) ∧ ∃ w2, G w2 ∧ Keep w2 w' [w.heap.size, w.heap.size + 1] := by
  have mixed : Tryz.prog.follows .mixedOrders = true := by kernel_rfl
  have hmf : ∀ (fn : Fn) (first cap : Array Value) (w : World), (Instr.makeFunc fn first cap).run Tryz.prog w = .ok (.func fn first cap) w := fun _ _ _ _ => rfl
  have HF := Lib.hid hf
  have HG := Lib.hid hG
  clear hf hG
  go_enter_defers Tryz.func48, Tryz.ntmps48
  go_wp2_with fail
  refine HF.out.mono ?_
  rintro e1 w1 ⟨⟨p, rfl⟩, h1⟩
  obtain ⟨v1, v2⟩ := HG.out w1 h1
  have n1 : w.heap.size ≠ w.heap.size + 1 := by omega
  refine leaves_cons (f := 87) (args := #[.pointer (some ⟨w.heap.size, 0, none⟩), .pointer (some ⟨w.heap.size + 1, 0, none⟩)]) (by simp) (by simp [go_sem]) ?_
  refine (catch_fault w.heap.size (w.heap.size + 1) x p w1 _ _ v1 v2 n1).mono ?_
  rintro e u' w'' ⟨rfl, rfl, u1, u2, hk⟩
  have d1 := u1.cell
  have d2 := u2.cell
  simp [Leaves, settle, results, Tryz.results48, go_sem, d1, d2]
  exact ⟨w1, h1, hk⟩
end Tk
end Go.Proofs.YtnljhnckmgpllaaGreat
namespace Go.Proofs.YtnljhnckmgpllaaGreat
namespace Tk
open Go.RowKit
open Bt (Frm)

set_option maxHeartbeats 3200000 in
theorem ttext1_ok (w : World) (b : Nat) (s : ByteArray) (h : Ta w b s 0) (hs : s.size ≤ 1000000) (hd : 1 ≤ s.size) :
    Calls Tryz.prog 85 #[.pointer (some ⟨b, 0, none⟩), .int .i64 1] w fun e w' => e = .returned (.string (s.extract 0 1)) ∧ Ta w' b s 1 ∧ Keep w w' [b] := by
  have mixed : Tryz.prog.follows .mixedOrders = true := by kernel_rfl
  have hL := left_any w b 0 s h hs (by omega)
  rw [Nat.sub_zero] at hL
  have HL := Lib.hid hL
  have H : Aside (Ta w b s 0) := h
  have hdp : ¬ (s.size : Int) < 1 := by omega
  have hlp : 0 < s.size := hd
  clear hL h
  go_enter Tryz.func85, Tryz.ntmps85
  go_wp2_with fail
  refine HL.out.mono ?_
  rintro e1 w1 ⟨rfl, m, rfl⟩
  have hta : Ta (w.drewN m) b s 0 := H.out
  have hc1 := hta.c1
  have hf1 := hta.fz 1
  have hta2 : Ta ((w.drewN m).setCell ⟨b, 1, none⟩ (.int .i64 1)) b s 1 := hta.set1 1
  have hkp : Keep w ((w.drewN m).setCell ⟨b, 1, none⟩ (.int .i64 1)) [b] := ((Keep.refl w _).drewN m).set ⟨b, 1, none⟩ (.inl (by simp)) _
  have HF := Lib.hid (And.intro hta2 hkp)
  have d0 := hta2.c0
  have d1 : ((w.drewN m).setCell ⟨b, 1, none⟩ (.int .i64 1)).cell? ⟨b, 1, none⟩ = some (.int .i64 1) := hta2.c1
  clear hta hkp hta2
  have hc1' : (w.drewN m).cell? ⟨b, 1, none⟩ = some (.int .i64 0) := hc1
  clear hc1
  go_wp2_with fail
  generalize (w.drewN m).setCell ⟨b, 1, none⟩ (.int .i64 1) = w2 at *
  have i1 : (1 : Int) ≤ (s.size : Int) := by omega
  clear hc1' hf1
  go_quiet (fail)
  go_wp2_with fail
  go_ret
  exact ⟨rfl, HF.out.1, HF.out.2.drewN _⟩
set_option maxHeartbeats 3200000 in
theorem ttext1_no (w : World) (b : Nat) (s : ByteArray) (h : Ta w b s 0) (hs : s.size ≤ 1000000) (hd : s.size = 0) :
    Calls Tryz.prog 85 #[.pointer (some ⟨b, 0, none⟩), .int .i64 1] w fun e w' => e = .panicked [fault 4 0] ∧ Keep w w' [b] := by
  have mixed : Tryz.prog.follows .mixedOrders = true := by kernel_rfl
  have hL := left_any w b 0 s h hs (by omega)
  rw [hd] at hL
  have HL := Lib.hid hL
  have HC := Lib.hid (fun m => check_no (w.drewN m) b 0 s 4 h (by decide))
  clear hL h hd
  go_enter Tryz.func85, Tryz.ntmps85
  go_wp2_with fail
  refine HL.out.mono ?_
  rintro e1 w1 ⟨rfl, m, rfl⟩
  go_wp2_with fail
  refine (HC.out m).mono ?_
  rintro e1 w1 ⟨rfl, rfl⟩
  exact ⟨rfl, rfl, (Keep.refl w _).drewN m⟩
set_option maxHeartbeats 3200000 in
theorem byte_ok (w : World) (b : Nat) (s : ByteArray) (h : Ta w b s 0) (hs : s.size ≤ 1000000) (c : UInt8) (r : List UInt8) (hc : s.data.toList = c :: r) :
    Calls Tryz.prog 98 #[.pointer (some ⟨b, 0, none⟩)] w fun e w' => e = .returned (.int .i64 (c.toNat : Int)) ∧ Ta w' b s 1 ∧ Keep w w' [b] := by
  have mixed : Tryz.prog.follows .mixedOrders = true := by kernel_rfl
  have hd : 1 ≤ s.size := by
    have : s.data.toList.length = s.size := rfl
    rw [hc, List.length_cons] at this; omega
  have HT := Lib.hid (ttext1_ok w b s h hs hd)
  have hx : s.extract 0 1 = ⟨#[c]⟩ := by
    apply ByteArray.ext
    apply Array.ext'
    rw [ByteArray.data_extract, Array.toList_extract, hc]
    simp [List.extract_eq_take_drop]
  rw [hx] at HT
  have hcb := c.toNat_lt
  clear hx h hc hd
  go_enter Tryz.func98, Tryz.ntmps98
  go_wp2_with fail
  refine HT.out.mono ?_
  rintro e1 w1 ⟨rfl, hta, hk⟩
  have HX := Lib.hid (And.intro hta hk)
  clear hta hk
  go_wp2_with fail
  go_ret
  refine ⟨ret_int (k := .i64) ?_, HX.out⟩
  exact Vi.wrap64_nat c.toNat (by omega)
set_option maxHeartbeats 3200000 in
theorem byte_no (w : World) (b : Nat) (s : ByteArray) (h : Ta w b s 0) (hs : s.size ≤ 1000000) (hd : s.size = 0) :
    Calls Tryz.prog 98 #[.pointer (some ⟨b, 0, none⟩)] w fun e w' => e = .panicked [fault 4 0] ∧ Keep w w' [b] := by
  have mixed : Tryz.prog.follows .mixedOrders = true := by kernel_rfl
  have HT := Lib.hid (ttext1_no w b s h hs hd)
  clear h hd
  go_enter Tryz.func98, Tryz.ntmps98
  go_wp2_with fail
  refine HT.out.mono ?_
  rintro e1 w1 ⟨rfl, hk⟩
  exact ⟨rfl, rfl, hk⟩
end Tk
end Go.Proofs.YtnljhnckmgpllaaGreat
namespace Go.Proofs
open Go.Shelf
def Tryz.lays170_ren : Go.Shelf.Ren := ⟨fun | 170 => 58 | n => n, fun | 70 => 87 | 3 => 3 | 0 => 0 | 72 => 89 | 37 => 36 | 5 => 5 | n => n, fun | n => n⟩
theorem Tryz.lays170 : Go.Proofs.Lays.n170 Tryz.prog Tryz.lays170_ren := {
  mixed := by kernel_rfl
  f170 := Tryz.func58.trans (congrArg some (by kernel_rfl))
  t0 := Tryz.underlying0
  a0 := Tryz.isAgg0
  z0 := Tryz.sizeOf0
  v0 := Tryz.zeroValue0
  t3 := Tryz.underlying3
  a3 := Tryz.isAgg3
  z3 := Tryz.sizeOf3
  v3 := Tryz.zeroValue3
  t37 := Tryz.underlying36
  a37 := Tryz.isAgg36
  z37 := Tryz.sizeOf36
  v37 := Tryz.zeroValue36
  t70 := Tryz.underlying87
  a70 := Tryz.isAgg87
  z70 := Tryz.sizeOf87
  v70 := Tryz.zeroValue87
  t72 := Tryz.underlying89
  a72 := Tryz.isAgg89
  z72 := Tryz.sizeOf89
  v72 := Tryz.zeroValue89 }
open Go.RowKit in
theorem Tryz.Builder_Len (B b : Nat) (bs : List Value) (w : World) (h : Lib.IsBuilder 89 5 B b bs w) :
    Calls Tryz.prog 58 #[.pointer (some ⟨b, 0, none⟩)] w fun e w' => e = .returned (.int .i64 bs.length) ∧ w' = w := Any.Builder_Len Tryz.lays170 B b bs w h
def Tryz.lays169_ren : Go.Shelf.Ren := ⟨fun | 169 => 60 | n => n, fun | 70 => 87 | 9 => 9 | 0 => 0 | 72 => 89 | 37 => 36 | 127 => 139 | 3 => 3 | 5 => 5 | n => n, fun | n => n⟩
theorem Tryz.lays169 : Go.Proofs.Lays.n169 Tryz.prog Tryz.lays169_ren := {
  mixed := by kernel_rfl
  f169 := Tryz.func60.trans (congrArg some (by kernel_rfl))
  t0 := Tryz.underlying0
  a0 := Tryz.isAgg0
  z0 := Tryz.sizeOf0
  v0 := Tryz.zeroValue0
  t3 := Tryz.underlying3
  a3 := Tryz.isAgg3
  z3 := Tryz.sizeOf3
  v3 := Tryz.zeroValue3
  t9 := Tryz.underlying9
  a9 := Tryz.isAgg9
  z9 := Tryz.sizeOf9
  v9 := Tryz.zeroValue9
  t37 := Tryz.underlying36
  a37 := Tryz.isAgg36
  z37 := Tryz.sizeOf36
  v37 := Tryz.zeroValue36
  t70 := Tryz.underlying87
  a70 := Tryz.isAgg87
  z70 := Tryz.sizeOf87
  v70 := Tryz.zeroValue87
  t72 := Tryz.underlying89
  a72 := Tryz.isAgg89
  z72 := Tryz.sizeOf89
  v72 := Tryz.zeroValue89
  t127 := Tryz.underlying139
  a127 := Tryz.isAgg139
  z127 := Tryz.sizeOf139
  v127 := Tryz.zeroValue139 }
theorem Tryz.Builder_Extra_169 : Builder.Extra Tryz.prog Tryz.lays169_ren := {
  sizeBuilder := by kernel_rfl
  liesBuilder := by kernel_rfl
  t5 := Tryz.underlying5
  a5 := Tryz.isAgg5
  z5 := Tryz.sizeOf5
  v5 := Tryz.zeroValue5
  infoByte := by kernel_rfl
  cellsByte := by kernel_rfl
  sizeByte := by kernel_rfl
  neB5 := by decide }
open Go.RowKit in
theorem Tryz.Builder_String_any (B b : Nat) (l : List UInt8) (w : World) (h : Lib.IsBuilder 89 5 B b (Lib.byteCells l) w) (hBw : B ≤ w.heap.size) :
    Calls Tryz.prog 60 #[.pointer (some ⟨b, 0, none⟩)] w fun e w' => e = .returned (.string ⟨l.toArray⟩) ∧ Below B w w' := Any.Builder_String_any Tryz.lays169 Tryz.Builder_Extra_169 B b l w h hBw
end Go.Proofs
namespace Go.Proofs.YtnljhnckmgpllaaGreat
namespace Bd
open Go.RowKit

/-- A builder at block b that holds bytes. -/
def Bb (w : World) (B b : Nat) (l : List UInt8) : Prop := Lib.IsBuilder 89 5 B b (bv l) w
theorem bb_size : (Tryz.prog.info? 89).map (·.size) = some 2 := by kernel_rfl
theorem bb_lies : liesAt Tryz.prog Tryz.prog.depth 89 (2 / Tryz.prog.cellsOf 89) 0 89 1 = true := by kernel_rfl
theorem bb_ne : 89 ≠ 5 := by decide
theorem bb_u : Tryz.prog.underlying 87 = some (.pointer 89) := by kernel_rfl
theorem bb_p : Tryz.prog.underlying 182 = some .unsafePointer := by kernel_rfl

set_option maxHeartbeats 1600000 in
set_option maxRecDepth 100000 in
theorem copyCheck_used (b : Nat) (w : World) (h0 : w.cell? ⟨b, 0, none⟩ = some (.pointer (some ⟨b, 0, none⟩))) :
    Calls Tryz.prog 101 #[.pointer (some ⟨b, 0, none⟩)] w fun e w' => e = .returned (.tuple #[]) ∧ w' = w := by
  obtain ⟨j, hj, _⟩ := Option.map_eq_some_iff.1 bb_size
  go_enter Tryz.func101, Tryz.ntmps101
  go_wp2
  rw [Lib.run_neq_ptr_same w _ bb_u hj]
  go_wp2
  go_end0
  exact ⟨rfl, rfl⟩

set_option maxHeartbeats 1600000 in
set_option maxRecDepth 100000 in
theorem copyCheck_fresh (b : Nat) (w : World) (h0 : w.cell? ⟨b, 0, none⟩ = some (.pointer none)) (hsh : w.shape? b = some (89, 2)) (hfz : w.frozen? ⟨b, 0, none⟩ = false) :
    Calls Tryz.prog 101 #[.pointer (some ⟨b, 0, none⟩)] w fun e w' => e = .returned (.tuple #[]) ∧ w' = w.setCell ⟨b, 0, none⟩ (.pointer (some ⟨b, 0, none⟩)) := by
  obtain ⟨j, hj, hjs⟩ := Option.map_eq_some_iff.1 bb_size
  go_enter Tryz.func101, Tryz.ntmps101
  go_wp2
  rw [Lib.run_to_unsafe w ⟨b, 0, none⟩ bb_u bb_p hj (by rw [hjs]; decide) hsh (Nat.zero_lt_succ 1)]
  simp only [Result.andThen]
  rw [Oper.upon_value]
  go_wp2
  rw [run_callFunc_extern Tryz.func135 (by kernel_rfl) (by kernel_rfl) (by kernel_rfl) (e := Extern.AbiNoEscape.same) (by kernel_rfl)]
  rw [Lib.run_noEscape]
  simp only [Result.andThen]
  rw [Oper.upon_value]
  go_wp2
  rw [Lib.run_from_unsafe w ⟨b, 0, none⟩ bb_p bb_u hj hsh bb_lies]
  simp only [Result.andThen]
  rw [Oper.upon_value]
  go_wp2
  go_end0
  exact ⟨rfl, rfl⟩

theorem copyCheck_any (B b : Nat) (l : List UInt8) (w : World) (h : Bb w B b l) :
    Calls Tryz.prog 101 #[.pointer (some ⟨b, 0, none⟩)] w fun e w' => e = .returned (.tuple #[]) ∧ (Lib.BuilderAt 89 5 B b (.pointer (some ⟨b, 0, none⟩)) (bv l) w' ∧ Below B w w') := by
  rcases h with h | h
  · refine (copyCheck_fresh b w h.cell0 h.shape h.frozen0).mono ?_
    rintro e w' ⟨rfl, rfl⟩
    exact ⟨rfl, h.used _, (Below.refl B w).setCell (p := ⟨b, 0, none⟩) h.1 _⟩
  · refine (copyCheck_used b w h.cell0).mono ?_
    rintro e w' ⟨rfl, rfl⟩
    exact ⟨rfl, h, Below.refl B _⟩
theorem strCells_eq (s : ByteArray) : Lib.strCells s = bv s.data.toList := rfl

set_option maxHeartbeats 3200000 in
set_option maxRecDepth 100000 in
theorem write_any (B b : Nat) (l : List UInt8) (s : ByteArray) (w : World) (h : Bb w B b l) (hl : l.length + s.size ≤ 1099511627776) (hBw : B ≤ w.heap.size) :
    Calls Tryz.prog 59 #[.pointer (some ⟨b, 0, none⟩), .string s] w fun e w' => e = .returned (.tuple #[.int .i64 s.size, .nilIface]) ∧ Bb w' B b (l ++ s.data.toList) ∧ Below B w w' := by
  obtain ⟨i0, hi, hz0, hz1, hz2⟩ := info_parts byte_info
  have hbl : (bv l).length = l.length := bv_length l
  have HC := Lib.hid (copyCheck_any B b l w h)
  clear h
  go_enter Tryz.func59, Tryz.ntmps59
  go_wp2_with fail
  refine HC.out.mono ?_
  rintro e w1 ⟨rfl, h1, hb1⟩
  obtain ⟨hB, v, hbk, hown, hne⟩ := h1
  have c0 : w1.cell? ⟨b, 0, none⟩ = some (.pointer (some ⟨b, 0, none⟩)) := by rw [Lib.cell_of_heap hbk]; rfl
  have c1 : w1.cell? ⟨b, 1, none⟩ = some v := by rw [Lib.cell_of_heap hbk]; rfl
  clear HC
  go_wp2_with (at_builtin; refine Lib.wpList_append_own_string _ rfl _ _ 36 9 rfl B 5 i0 (by kernel_rfl) (by kernel_rfl) hi hz0 hz1 hz2 _ _ _ rfl hown s rfl ?c3 ?c4 ?c5 ?_)
  case c3 => unfold maxLen; omega
  case c4 => omega
  case c5 => have := hb1.size; omega
  intro v' w2 hown' hgrow _
  have hlt : b < w1.heap.size := by
    rcases Nat.lt_or_ge b w1.heap.size with h' | h'
    · exact h'
    · simp [Array.getElem?_eq_none h'] at hbk
  have hb2 : w2.heap[b]? = some (.cells #[.pointer (some ⟨b, 0, none⟩), v] 89 (0, 0)) := by
    rw [hgrow.block b hlt (fun e => hne e.symm)]
    exact hbk
  have d0 : w2.cell? ⟨b, 0, none⟩ = some (.pointer (some ⟨b, 0, none⟩)) := by rw [Lib.cell_of_heap hb2]; rfl
  have d1 : w2.cell? ⟨b, 1, none⟩ = some v := by rw [Lib.cell_of_heap hb2]; rfl
  have f1 : w2.frozen? ⟨b, 1, none⟩ = false := Lib.frozen_of_heap hb2 1
  obtain ⟨ao, n', cap, rfl⟩ : ∃ ao n' cap, v' = .slice ao n' cap := by
    rcases hown'.2 with ⟨hv, _⟩ | ⟨g, cap, cur, hv, _⟩
    · exact ⟨_, _, _, hv⟩
    · exact ⟨_, _, _, hv⟩
  have HX := Lib.hid (show Bb (w2.setCell ⟨b, 1, none⟩ (.slice ao n' cap)) B b (l ++ s.data.toList) ∧ Below B w (w2.setCell ⟨b, 1, none⟩ (.slice ao n' cap)) from by
    refine ⟨.inr ?_, ((hb1.grown hgrow (by have := hb1.size; omega) (fun k hk => (hown.lt k hk).1)).setCell (p := ⟨b, 1, none⟩) hB _)⟩
    refine Lib.BuilderAt.put (T := 89) (e := 5) hB hb2 (bs' := bv (l ++ s.data.toList)) ?_ bb_ne
    rw [bv_append, List.length_append, hbl, ← strCells_eq]
    simpa [Lib.strCells_length] using hown')
  clear hown hown' hgrow hb1 hbk hb2 hne hlt
  go_wp2_with fail
  go_ret2
  exact ⟨rfl, HX.out⟩

theorem byteCells_eq (l : List UInt8) : Lib.byteCells l = bv l := rfl
theorem len_any (B b : Nat) (l : List UInt8) (w : World) (h : Bb w B b l) :
    Calls Tryz.prog 58 #[.pointer (some ⟨b, 0, none⟩)] w fun e w' => e = .returned (.int .i64 (l.length : Int)) ∧ w = w' := by
  refine (Tryz.Builder_Len B b (bv l) w h).mono ?_
  rintro e w' ⟨rfl, rfl⟩
  exact ⟨by rw [bv_length], rfl⟩
theorem string_any (B b : Nat) (l : List UInt8) (w : World) (h : Bb w B b l) (hB : B ≤ w.heap.size) :
    Calls Tryz.prog 60 #[.pointer (some ⟨b, 0, none⟩)] w fun e w' => e = .returned (.string ⟨l.toArray⟩) ∧ Below B w w' :=
  Tryz.Builder_String_any B b l w h hB
theorem bb_new (w : World) : Bb (w.alloc (.cells #[.pointer none, .slice none 0 0] 89)) w.heap.size w.heap.size [] := Lib.fresh_isBuilder _ _ w
theorem Bb.lt {w : World} {B b : Nat} {l : List UInt8} (h : Bb w B b l) : b < w.heap.size := by
  rcases h with h | h
  · exact h.lt
  · exact h.lt
/-- What lies elsewhere leaves a builder as it is. -/
theorem Bb.keep {w w' : World} {B b : Nat} {l : List UInt8} (h : Bb w B b l) (_hs : w.heap.size ≤ w'.heap.size) (hb : ∀ k, B ≤ k → k < w.heap.size → w'.heap[k]? = w.heap[k]?) : Bb w' B b l := by
  have key : ∀ p, Lib.BuilderAt 89 5 B b p (bv l) w → Lib.BuilderAt 89 5 B b p (bv l) w' := by
    intro p hp
    have hlt := hp.lt
    obtain ⟨hB, v, hbk, hown, hne⟩ := hp
    refine ⟨hB, v, (hb b hB hlt).trans hbk, ?_, hne⟩
    rcases hown with ⟨h1, h2⟩
    refine ⟨h1, ?_⟩
    rcases h2 with h2 | ⟨g, cap, cur, hv, hg, hc, hr⟩
    · exact .inl h2
    · exact .inr ⟨g, cap, cur, hv, hg, (hb g hg (Array.getElem?_eq_some_iff.1 hc).1).trans hc, hr⟩
  rcases h with h | h
  · exact .inl (key _ h)
  · exact .inr (key _ h)
end Bd
end Go.Proofs.YtnljhnckmgpllaaGreat
namespace Go.Proofs.YtnljhnckmgpllaaGreat
namespace Rd
open Vi Sq

/-- May a record be? -/
def ok1 (r : Int × Int × ByteArray) : Bool := decide (1 ≤ r.1 ∧ r.1 ≤ 1000000000 ∧ 0 ≤ r.2.1 ∧ r.2.1 ≤ 1000000000 ∧ r.2.2.size ≤ 2000)
theorem ok1_iff (r : Int × Int × ByteArray) : ok1 r = true ↔ 1 ≤ r.1 ∧ r.1 ≤ 1000000000 ∧ 0 ≤ r.2.1 ∧ r.2.1 ≤ 1000000000 ∧ r.2.2.size ≤ 2000 := by simp [ok1]
/-- Does a record not go on behind the one ahead of it? -/
def off : Option (Int × Int × ByteArray) → Int × Int × ByteArray → Bool
  | none, _ => false
  | some p, r => decide (r.1 ≠ p.1 + 1 ∨ r.2.1 < p.2.1)
/-- What record.Row tells, behind a record. -/
def rowE : Option (Int × Int × ByteArray) → List (Int × Int × ByteArray) → Int
  | _, [] => 0
  | p, r :: l => if ok1 r = false then 150 else if off p r = true then 151 else rowE (some r) l
/-- A record's bytes. -/
def recB (r : Int × Int × ByteArray) : List UInt8 := putV r.1.toNat ++ (putV r.2.1.toNat ++ (putV r.2.2.size ++ r.2.2.data.toList))
def joinB (l : List (Int × Int × ByteArray)) : List UInt8 := l.flatMap recB
/-- What record.Join tells. -/
def jE (l : List (Int × Int × ByteArray)) : Int := if rowE none l ≠ 0 then rowE none l else if 20000 < (joinB l).length then 3 else 0
/-- k numbers, one behind the other. -/
def fin : Nat → List Nat → List UInt8 → Int × List Nat × List UInt8
  | 0, acc, b => (0, acc, b)
  | k + 1, acc, b => if (gv 0 0 b).2.2 ≠ 0 then ((gv 0 0 b).2.2, acc, []) else fin k (acc ++ [(gv 0 0 b).1]) (b.drop (gv 0 0 b).2.1)
/-- The record at the beginning of bytes, and what stands behind it. -/
def rec1 (b : List UInt8) : Option ((Int × Int × ByteArray) × List UInt8) := match fin 3 [] b with
  | (0, [q, t, n], r) => if q < 1 ∨ 1000000000 < q ∨ 1000000000 < t ∨ 2000 < n then none else if r.length < n then none else some (((q : Int), (t : Int), ⟨(r.take n).toArray⟩), r.drop n)
  | _ => none
def spl : Nat → List UInt8 → Option (List (Int × Int × ByteArray))
  | 0, b => if b = [] then some [] else none
  | n + 1, b => if b = [] then some [] else match rec1 b with
    | none => none
    | some x => (spl n x.2).map (x.1 :: ·)
/-- What record.Split tells. -/
def split (b : List UInt8) : Option (List (Int × Int × ByteArray)) := if 20000 < b.length then none else match spl b.length b with
  | none => none
  | some l => if rowE none l ≠ 0 then none else some l

theorem fin_put (n : Nat) (hn : n < 9223372036854775808) (k : Nat) (acc : List Nat) (r : List UInt8) : fin (k + 1) acc (putV n ++ r) = fin k (acc ++ [n]) r := by
  rw [fin, gv_put n hn, if_neg (by simp)]
  simp
theorem recB_length (r : Int × Int × ByteArray) : 3 ≤ (recB r).length := by
  have := length_putV_pos r.1.toNat
  have := length_putV_pos r.2.1.toNat
  have := length_putV_pos r.2.2.size
  unfold recB; simp only [List.length_append]; omega
theorem rec1_put (r : Int × Int × ByteArray) (h : ok1 r = true) (b : List UInt8) : rec1 (recB r ++ b) = some (r, b) := by
  obtain ⟨q, t, d⟩ := r
  rw [ok1_iff] at h
  simp only at h
  obtain ⟨q, rfl⟩ := Int.eq_ofNat_of_zero_le (show 0 ≤ q by omega)
  obtain ⟨t, rfl⟩ := Int.eq_ofNat_of_zero_le (show 0 ≤ t by omega)
  have hd : d.data.toList.length = d.size := rfl
  unfold rec1 recB
  simp only [List.append_assoc, Int.toNat_natCast]
  rw [fin_put q (by omega), fin_put t (by omega), fin_put d.size (by omega)]
  simp only [fin, List.nil_append, List.cons_append]
  rw [if_neg (by omega), if_neg (by simp only [List.length_append]; omega)]
  rw [List.take_left' hd, List.drop_left' hd]
theorem fin_some : ∀ (k : Nat) (acc : List Nat) (b : List UInt8) (ns : List Nat) (r : List UInt8), fin k acc b = (0, ns, r) → ∃ l : List Nat, l.length = k ∧ ns = acc ++ l ∧ b = l.flatMap putV ++ r ∧ ∀ n ∈ l, n < 9223372036854775808
  | 0, acc, b, ns, r, h => by
    simp only [fin, Prod.mk.injEq, true_and] at h
    exact ⟨[], rfl, by simp [h.1], by simp [h.2], by simp⟩
  | k + 1, acc, b, ns, r, h => by
    rw [fin] at h
    split at h
    · rename_i hc
      simp only [Prod.mk.injEq] at h
      exact absurd h.1 hc
    rename_i hc
    obtain ⟨l, hl, hns, hb, hlt⟩ := fin_some k _ _ _ _ h
    obtain ⟨n, rest, hb1, hv, hu, hn, -⟩ := gv_some b 0 0 (gv 0 0 b).1 (gv 0 0 b).2.1 (by
      have : (gv 0 0 b).2.2 = 0 := by simpa using hc
      rw [← this])
    simp only [Nat.pow_zero, Nat.mul_one, Nat.zero_add] at hv hu
    have hdr : b.drop (gv 0 0 b).2.1 = rest := by
      rw [hu]
      conv => lhs; rw [hb1]
      simp
    rw [hdr] at hb
    rw [hv] at hns
    refine ⟨n :: l, by simp [hl], by simp [hns], ?_, ?_⟩
    · rw [List.flatMap_cons, List.append_assoc, ← hb]; exact hb1
    · intro x hx
      rcases List.mem_cons.1 hx with rfl | hx
      · simpa using hn
      · exact hlt x hx
theorem rec1_some (b : List UInt8) (r : Int × Int × ByteArray) (b' : List UInt8) (h : rec1 b = some (r, b')) : ok1 r = true ∧ b = recB r ++ b' := by
  unfold rec1 at h
  split at h
  · rename_i q t n rr he
    obtain ⟨l, hl, hns, hb, -⟩ := fin_some 3 [] b _ _ he
    simp only [List.nil_append] at hns
    subst hns
    split at h
    · simp at h
    split at h
    · simp at h
    rename_i h1 h2
    simp only [Option.some.injEq, Prod.mk.injEq] at h
    obtain ⟨rfl, rfl⟩ := h
    have e : (⟨(rr.take n).toArray⟩ : ByteArray).size = n := by
      have : (⟨(rr.take n).toArray⟩ : ByteArray).size = (rr.take n).length := by simp [ByteArray.size]
      rw [this, List.length_take]; omega
    refine ⟨?_, ?_⟩
    · rw [ok1_iff]
      simp only [e]
      omega
    · rw [hb]
      unfold recB
      simp only [Int.toNat_natCast, e]
      simp [List.append_assoc]
  · simp at h
theorem spl_join : ∀ (l : List (Int × Int × ByteArray)) (n : Nat), (∀ r ∈ l, ok1 r = true) → (joinB l).length ≤ n → spl n (joinB l) = some l
  | [], n, _, _ => by cases n <;> simp [spl, joinB]
  | r :: l, n, h, hn => by
    have e : joinB (r :: l) = recB r ++ joinB l := List.flatMap_cons ..
    have h3 := recB_length r
    rw [e, List.length_append] at hn
    obtain ⟨n, rfl⟩ : ∃ m, n = m + 1 := ⟨n - 1, by omega⟩
    rw [e, spl, if_neg (by intro e2; have := congrArg List.length e2; simp at this; rw [this.1] at h3; simp at h3), rec1_put r (h r (List.mem_cons_self ..))]
    simp only
    rw [spl_join l n (fun x hx => h x (List.mem_cons_of_mem _ hx)) (by omega)]
    rfl
theorem spl_some : ∀ (n : Nat) (b : List UInt8) (l : List (Int × Int × ByteArray)), spl n b = some l → b = joinB l ∧ ∀ r ∈ l, ok1 r = true
  | 0, b, l, h => by
    rw [spl] at h
    split at h
    · simp only [Option.some.injEq] at h; subst h; rename_i hb; simp [hb, joinB]
    · simp at h
  | n + 1, b, l, h => by
    rw [spl] at h
    split at h
    · simp only [Option.some.injEq] at h; subst h; rename_i hb; simp [hb, joinB]
    split at h
    · simp at h
    rename_i x hx
    obtain ⟨l', hl', rfl⟩ := Option.map_eq_some_iff.1 h
    obtain ⟨h1, h2⟩ := spl_some n x.2 l' hl'
    obtain ⟨h3, h4⟩ := rec1_some b x.1 x.2 hx
    refine ⟨?_, ?_⟩
    · rw [h4, h1]; exact (List.flatMap_cons ..).symm
    · intro r hr
      rcases List.mem_cons.1 hr with rfl | hr
      · exact h3
      · exact h2 r hr
theorem rowE_ok : ∀ (l : List (Int × Int × ByteArray)) (p : Option (Int × Int × ByteArray)), rowE p l = 0 → ∀ r ∈ l, ok1 r = true
  | [], _, _ => by simp
  | r :: l, p, h => by
    rw [rowE] at h
    split at h; · simp at h
    split at h; · simp at h
    rename_i h1 _
    intro x hx
    rcases List.mem_cons.1 hx with rfl | hx
    · simpa using h1
    · exact rowE_ok l _ h x hx
theorem split_join (l : List (Int × Int × ByteArray)) (h : jE l = 0) : split (joinB l) = some l := by
  unfold jE at h
  split at h
  · rename_i h1; exact absurd h h1
  split at h; · simp at h
  rename_i h1 h2
  have h1 : rowE none l = 0 := by simpa using h1
  unfold split
  rw [if_neg h2, spl_join l _ (rowE_ok l _ h1) (Nat.le_refl _)]
  simp [h1]
theorem split_some (b : List UInt8) (l : List (Int × Int × ByteArray)) (h : split b = some l) : b = joinB l ∧ jE l = 0 := by
  unfold split at h
  split at h; · simp at h
  split at h; · simp at h
  rename_i h2 _ l' hl'
  split at h; · simp at h
  rename_i h3
  simp only [Option.some.injEq] at h
  subst h
  obtain ⟨h4, -⟩ := spl_some _ _ _ hl'
  refine ⟨h4, ?_⟩
  unfold jE
  rw [if_neg h3, if_neg (by rw [← h4]; exact h2)]
end Rd
end Go.Proofs.YtnljhnckmgpllaaGreat
namespace Go.Proofs.YtnljhnckmgpllaaGreat
namespace Rd
open Go.RowKit Vi

/-- A record as a value. -/
def rv (r : Int × Int × ByteArray) : Value := .agg #[.int .i64 r.1, .int .i64 r.2.1, .string r.2.2]
def cE (r : Int × Int × ByteArray) : Int := if ok1 r = true then 0 else 150
theorem cE_ok {r : Int × Int × ByteArray} (h : ok1 r = true) : cE r = 0 := if_pos h
theorem cE_no {r : Int × Int × ByteArray} (h : ¬ ok1 r = true) : cE r = 150 := if_neg h
set_option maxHeartbeats 3200000 in
theorem check_any (q t : Int) (d : ByteArray) (w : World) :
    Calls Tryz.prog 56 #[.agg #[.int .i64 q, .int .i64 t, .string d]] w fun e w' => e = .returned (.int .i64 (cE (q, t, d))) ∧ Below w.heap.size w w' := by
  by_cases h : ok1 (q, t, d) = true
  · rw [cE_ok h]
    rw [ok1_iff] at h
    simp only at h
    have h1 : ¬ q < 1 := by omega
    have h2 : ¬ 1000000000 < q := by omega
    have h3 : ¬ t < 0 := by omega
    have h4 : ¬ 1000000000 < t := by omega
    have h5 : ¬ (2000 : Int) < (d.size : Int) := by omega
    clear h
    go_enter Tryz.func56, Tryz.ntmps56
    go_wp2_with fail
    go_ret
    exact ⟨rfl, ext_alloc w _⟩
  · rw [cE_no h]
    rw [ok1_iff] at h
    simp only at h
    by_cases h1 : q < 1
    · go_enter Tryz.func56, Tryz.ntmps56
      go_wp2_with fail
      go_ret
      exact ⟨rfl, ext_alloc w _⟩
    by_cases h2 : 1000000000 < q
    · go_enter Tryz.func56, Tryz.ntmps56
      go_wp2_with fail
      go_ret
      exact ⟨rfl, ext_alloc w _⟩
    by_cases h3 : t < 0
    · go_enter Tryz.func56, Tryz.ntmps56
      go_wp2_with fail
      go_ret
      exact ⟨rfl, ext_alloc w _⟩
    by_cases h4 : 1000000000 < t
    · go_enter Tryz.func56, Tryz.ntmps56
      go_wp2_with fail
      go_ret
      exact ⟨rfl, ext_alloc w _⟩
    have h5 : (2000 : Int) < (d.size : Int) := by omega
    go_enter Tryz.func56, Tryz.ntmps56
    go_wp2_with fail
    go_ret
    exact ⟨rfl, ext_alloc w _⟩
/-- How many bytes more. -/
def lenR (m : Nat) : Nat := if m = 0 then 0 else (putV m).length
theorem lenR_zero : lenR 0 = 0 := rfl
theorem lenR_step (n : Nat) : (putV n).length = 1 + lenR (n / 128) := by
  unfold lenR
  by_cases h : n < 128
  · rw [putV_small h, if_pos (by omega)]; rfl
  · rw [putV_step h, if_neg (by omega), List.length_cons]; omega
theorem lenR_pos (n : Nat) (h : 0 < n) : lenR n = 1 + lenR (n / 128) := by rw [← lenR_step]; exact if_neg (by omega)

set_option maxHeartbeats 1600000 in
theorem vsize_any (N : Nat) (w : World) (hN : N < 9223372036854775808) :
    Calls Tryz.prog 62 #[.int .i64 (N : Int)] w fun e w' => e = .returned (.int .i64 ((putV N).length : Int)) ∧ w = w' := by
  have hput : (putV N).length ≤ 9 := length_putV_le N 8 (by omega)
  have h0 := lenR_step N
  have H0 := Lib.hid h0
  clear h0
  go_enter Tryz.func62, Tryz.ntmps62
  go_wp2_with fail
  go_loopw [0, 3] (fun m k wr => ∃ (mk kk : Nat), m = .int .i64 mk ∧ k = .int .i64 kk ∧ mk < 9223372036854775808 ∧ kk ≤ 9 ∧ Hid (kk + lenR mk = (putV N).length) ∧ wr = w) (fun m _ _ => (intOf m).toNat)
  case atStart => exact ⟨N / 128, 1, by go_num, by go_num, by omega, by omega, H0.out.symm, rfl⟩
  case round =>
    obtain ⟨mk, kk, rfl, rfl, hm, hk, heq, rfl⟩ := hrel
    by_cases hlt : 0 < mk
    · have hs := lenR_pos mk hlt
      have hq := heq.out
      have hkk : kk + 1 ≤ 9 := by omega
      have hq2 : kk + 1 + lenR (mk / 128) = (putV N).length := by omega
      have HQ := Lib.hid hq2
      clear hs hq hq2
      go_wp2_with fail
      exact ⟨⟨mk / 128, kk + 1, by go_num, by go_num, by omega, hkk, HQ.out, trivial⟩, by simp [intOf]; omega⟩
    · obtain rfl : mk = 0 := by omega
      have hq := heq.out
      rw [lenR_zero, Nat.add_zero] at hq
      clear heq
      subst hq
      go_wp2_with fail
      go_ret
      exact ⟨rfl, rfl⟩

set_option maxHeartbeats 6400000 in
set_option maxRecDepth 100000 in
theorem rsize_any (q t : Nat) (d : ByteArray) (w : World) (h : ok1 ((q : Int), (t : Int), d) = true) :
    Calls Tryz.prog 34 #[.agg #[.int .i64 (q : Int), .int .i64 (t : Int), .string d]] w fun e w' => e = .returned (.int .i64 ((recB ((q : Int), (t : Int), d)).length : Int)) ∧ Below w.heap.size w w' := by
  have mixed : Tryz.prog.follows .mixedOrders = true := by kernel_rfl
  have hc := check_any q t d
  simp only [cE_ok h] at hc
  have HC := Lib.hid hc
  rw [ok1_iff] at h
  simp only at h
  have hl : (recB ((q : Int), (t : Int), d)).length = (putV q).length + (putV t).length + (putV d.size).length + d.size := by
    have : d.data.toList.length = d.size := rfl
    unfold recB
    simp only [List.length_append, Int.toNat_natCast, this]; omega
  have HL := Lib.hid hl
  have l1 : (putV q).length ≤ 9 := length_putV_le q 8 (by omega)
  have l2 : (putV t).length ≤ 9 := length_putV_le t 8 (by omega)
  have l3 : (putV d.size).length ≤ 9 := length_putV_le d.size 8 (by omega)
  have HS1 := Lib.hid (fun w => vsize_any q w (by omega))
  have HS2 := Lib.hid (fun w => vsize_any t w (by omega))
  have HS3 := Lib.hid (fun w => vsize_any d.size w (by omega))
  generalize (putV q).length = a at *
  generalize (putV t).length = b at *
  generalize (putV d.size).length = c at *
  have hq1 : ((q : Int) == 0) = false := by rw [beq_eq_false_iff_ne]; omega
  have hsz : d.size ≤ 2000 := h.2.2.2.2
  clear hc hl h
  go_enter Tryz.func34, Tryz.ntmps34
  go_wp2_with fail
  refine (HC.out _).mono ?_
  rintro e1 w1 ⟨rfl, hb1⟩
  have cc : ∀ j, w1.cell? ⟨w.heap.size, j, none⟩ = (w.alloc (.cells #[.int .i64 (q : Int), .int .i64 (t : Int), .string d] 57)).cell? ⟨w.heap.size, j, none⟩ := fun j => hb1.cell (p := ⟨w.heap.size, j, none⟩) (by simp)
  have c0 : w1.cell? ⟨w.heap.size, 0, none⟩ = some (.int .i64 (q : Int)) := by rw [cc, World.cell?_alloc_new]; rfl
  have c1 : w1.cell? ⟨w.heap.size, 1, none⟩ = some (.int .i64 (t : Int)) := by rw [cc, World.cell?_alloc_new]; rfl
  have c2 : w1.cell? ⟨w.heap.size, 2, none⟩ = some (.string d) := by rw [cc, World.cell?_alloc_new]; rfl
  have HB := Lib.hid (ext_trans (ext_alloc w _) hb1)
  clear hb1 cc HC
  go_wp2_with fail
  go_quiet (first | (go_at_call_of 62 (q : Int); exact (HS1.out _).mono fun _ _ h => ⟨h.1, _, h.2.symm⟩) | (go_at_call_of 62 (t : Int); exact (HS2.out _).mono fun _ _ h => ⟨h.1, _, h.2.symm⟩) | (go_at_call_of 62 (d.size : Int); exact (HS3.out _).mono fun _ _ h => ⟨h.1, _, h.2.symm⟩))
  go_wp2_with fail
  go_ret
  refine ⟨ret_int (k := .i64) (b := _) ?_, below_drewN HB.out _⟩
  rw [HL.out]
  omega
end Rd
end Go.Proofs.YtnljhnckmgpllaaGreat
namespace Go.Proofs.YtnljhnckmgpllaaGreat
namespace Rd
open Go.RowKit

/-- A record's cells. -/
def cl3 (r : Int × Int × ByteArray) : List Value := [.int .i64 r.1, .int .i64 r.2.1, .string r.2.2]
def fl3 (l : List (Int × Int × ByteArray)) : List Value := l.flatMap cl3
theorem fl3_cons (r : Int × Int × ByteArray) (l : List (Int × Int × ByteArray)) : fl3 (r :: l) = .int .i64 r.1 :: .int .i64 r.2.1 :: .string r.2.2 :: fl3 l := rfl
theorem length_fl3 (l : List (Int × Int × ByteArray)) : (fl3 l).length = l.length * 3 := by
  induction l with
  | nil => rfl
  | cons x l ih => rw [fl3_cons, List.length_cons, List.length_cons, List.length_cons, List.length_cons, ih]; omega
theorem fl3_append (a b : List (Int × Int × ByteArray)) : fl3 (a ++ b) = fl3 a ++ fl3 b := List.flatMap_append ..
theorem fl3_at (l : List (Int × Int × ByteArray)) (k : Nat) (x : Int × Int × ByteArray) (h : l[k]? = some x) :
    (fl3 l)[k * 3]? = some (.int .i64 x.1) ∧ (fl3 l)[k * 3 + 1]? = some (.int .i64 x.2.1) ∧ (fl3 l)[k * 3 + 2]? = some (.string x.2.2) := by
  induction l generalizing k with
  | nil => simp at h
  | cons y l ih =>
    rw [fl3_cons]
    rcases k with _ | k
    · simp at h; subst h; exact ⟨rfl, rfl, rfl⟩
    · have := ih k (by simpa using h)
      rw [show (k + 1) * 3 = k * 3 + 1 + 1 + 1 by omega]
      simpa using this
/-- A slice that reads as records, inside a round. -/
theorem rec3 {w : World} {B n k : Nat} {A : Option Addr} {l : List (Int × Int × ByteArray)} (h : Rd w B 3 A n (fl3 l)) (hk : k < n) :
    ∃ ad q t d, A = some ad ∧ ad.block < B ∧ l[k]? = some (q, t, d) ∧ w.cell? (ad.add (k * 3)) = some (.int .i64 q) ∧ w.cell? ⟨(ad.add (k * 3)).block, (ad.add (k * 3)).off + 1, none⟩ = some (.int .i64 t) ∧ w.cell? ⟨(ad.add (k * 3)).block, (ad.add (k * 3)).off + 2, none⟩ = some (.string d) := by
  obtain ⟨ad, e, hb, hc⟩ := h.cells (by omega)
  have hl : l.length = n := by have := h.len; rw [length_fl3] at this; omega
  obtain ⟨⟨q, t, d⟩, hx⟩ : ∃ x, l[k]? = some x := ⟨l[k]'(by omega), List.getElem?_eq_getElem (by omega)⟩
  obtain ⟨h1, h2, h3⟩ := fl3_at l k _ hx
  exact ⟨ad, q, t, d, e, hb, hx, hc _ _ h1, by have := hc _ _ h2; rw [← add_add] at this; exact this, by have := hc _ _ h3; rw [← add_add] at this; exact this⟩
theorem rd3_len {w : World} {B n : Nat} {A : Option Addr} {l : List (Int × Int × ByteArray)} (h : Rd w B 3 A n (fl3 l)) : l.length = n := by
  have := h.len; rw [length_fl3] at this; omega
/-- The record ahead. -/
def pv (l : List (Int × Int × ByteArray)) (k : Nat) : Option (Int × Int × ByteArray) := if k = 0 then none else l[k - 1]?
theorem row_no {l : List (Int × Int × ByteArray)} {k : Nat} {r : Int × Int × ByteArray} (h : l[k]? = some r) (ho : ¬ ok1 r = true) : rowE (pv l k) (l.drop k) = 150 := by
  rw [drop_at l k r h, rowE, if_pos (by simpa using ho)]
theorem row_off {l : List (Int × Int × ByteArray)} {k : Nat} {r p : Int × Int × ByteArray} (h : l[k + 1]? = some r) (hp : l[k]? = some p) (ho : ok1 r = true) (hf : r.1 ≠ p.1 + 1 ∨ r.2.1 < p.2.1) : rowE (pv l (k + 1)) (l.drop (k + 1)) = 151 := by
  have e : pv l (k + 1) = some p := by unfold pv; rw [if_neg (by omega), Nat.add_sub_cancel, hp]
  rw [drop_at l (k + 1) r h, rowE, if_neg (by simp [ho]), e, if_pos (by simp [off]; omega)]
theorem row_on {l : List (Int × Int × ByteArray)} {k : Nat} {r p : Int × Int × ByteArray} (h : l[k + 1]? = some r) (hp : l[k]? = some p) (ho : ok1 r = true) (hf : ¬ (r.1 ≠ p.1 + 1 ∨ r.2.1 < p.2.1)) :
    rowE (pv l (k + 1)) (l.drop (k + 1)) = rowE (pv l (k + 2)) (l.drop (k + 2)) := by
  have e : pv l (k + 1) = some p := by unfold pv; rw [if_neg (by omega), Nat.add_sub_cancel, hp]
  have e2 : pv l (k + 2) = some r := by unfold pv; rw [if_neg (by omega), show k + 2 - 1 = k + 1 by omega, h]
  rw [drop_at l (k + 1) r h, rowE, if_neg (by simp [ho]), e, if_neg (by simp [off]; omega), e2]
theorem row_on0 {l : List (Int × Int × ByteArray)} {r : Int × Int × ByteArray} (h : l[0]? = some r) (ho : ok1 r = true) : rowE (pv l 0) (l.drop 0) = rowE (pv l 1) (l.drop 1) := by
  have e2 : pv l 1 = some r := by unfold pv; rw [if_neg (by omega)]; exact h
  rw [drop_at l 0 r h, rowE, if_neg (by simp [ho]), e2]; rfl
theorem row_end {l : List (Int × Int × ByteArray)} {k : Nat} (h : l.length ≤ k) : rowE (pv l k) (l.drop k) = 0 := by rw [List.drop_eq_nil_of_le h]; rfl
end Rd
end Go.Proofs.YtnljhnckmgpllaaGreat
namespace Go.Proofs.YtnljhnckmgpllaaGreat
namespace Rd
open Go.RowKit

set_option maxHeartbeats 6400000 in
set_option maxRecDepth 100000 in
theorem row_any (A : Option Addr) (n c : Nat) (l : List (Int × Int × ByteArray)) (w : World) (hrd : Rd w w.heap.size 3 A n (fl3 l)) (hn : n ≤ 1000000) :
    Calls Tryz.prog 26 #[.slice A n c] w fun e w' => e = .returned (.int .i64 (rowE none l)) ∧ Below w.heap.size w w' := by
  have mixed : Tryz.prog.follows .mixedOrders = true := by kernel_rfl
  have hln := rd3_len hrd
  have HC := Lib.hid (fun q t d w => check_any q t d w)
  have HR := Lib.hid hrd
  clear hrd
  go_enter Tryz.func26, Tryz.ntmps26
  go_wp2_with fail
  go_loopw [8] (fun v wr => ∃ k : Nat, v = .int .i64 k ∧ k ≤ n ∧ Hid (rowE (pv l k) (l.drop k) = rowE none l ∧ (∀ j r, j < k → l[j]? = some r → ok1 r = true) ∧ Below w.heap.size w wr)) (fun v _ => n - (intOf v).toNat)
  case atStart => exact ⟨0, by go_num, by omega, rfl, fun j r h => absurd h (by omega), Below.refl _ _⟩
  case round =>
    obtain ⟨k, rfl, hk, HX⟩ := hrel
    by_cases hkn : k < n
    · obtain ⟨ad, q, t, d, rfl, hbk, hx, hc0, hc1, hc2⟩ := rec3 (HR.out.below HX.out.2.2) hkn
      by_cases ho : ok1 (q, t, d) = true
      · have hce := cE_ok ho
        have hok : ∀ j r, j < k + 1 → l[j]? = some r → ok1 r = true := by
          intro j r hj hr
          rcases Nat.lt_or_ge j k with h | h
          · exact HX.out.2.1 j r h hr
          · obtain rfl : j = k := by omega
            rw [hx] at hr; cases hr; exact ho
        have HOK := Lib.hid hok
        clear hok
        rcases k with _ | k
        · have HRE := Lib.hid ((row_on0 hx ho).symm.trans HX.out.1)
          have hz : ad.add (0 * 3) = ad := by rw [Nat.zero_mul]; rfl
          rw [hz] at hc0 hc1 hc2
          clear hz
          have HB := Lib.hid HX.out.2.2
          go_wp2_with fail
          refine (HC.out _ _ _ _).mono ?_
          rintro e1 w1 ⟨rfl, hb1⟩
          rw [hce]
          have HB1 := Lib.hid (ext_trans HB.out (ext_trans (ext_alloc wr _) hb1))
          clear hc0 hc1 hc2 hb1 hx HX HB HC
          go_wp2_with fail
          go_quiet (fail)
          go_wp2_with fail
          exact ⟨⟨1, by go_num, by omega, HRE.out, HOK.out, below_drewN HB1.out _⟩, by simp [intOf]; omega⟩
        · obtain ⟨ad', q', t', d', e', hbk', hx', hc0', hc1', -⟩ := rec3 (HR.out.below HX.out.2.2) (show k < n by omega)
          obtain rfl : ad = ad' := by simpa using e'
          have hp := HX.out.2.1 k _ (by omega) hx'
          rw [ok1_iff] at hp
          simp only at hp
          have hp1 := hp.1
          have hp2 := hp.2.1
          have i1 : (((k + 1 : Nat) : Int) - 1) = ((k : Nat) : Int) := by omega
          have i2 : (0 : Int) < ((k + 1 : Nat) : Int) := by omega
          have i3 : (k : Int) < (n : Int) := by omega
          have i4 : (0 : Int) ≤ (k : Int) := by omega
          have i5 : IntKind.i64.wrap (k : Int) = (k : Int) := by rw [IntKind.wrap_i64]; omega
          have i6 : IntKind.i64.wrap (q' + 1) = q' + 1 := by rw [IntKind.wrap_i64]; omega
          clear hp e'
          by_cases hf1 : q = q' + 1
          · subst hf1
            by_cases hf2 : t < t'
            · have HRE := Lib.hid ((row_off hx hx' ho (.inr hf2)).symm.trans HX.out.1)
              have HB := Lib.hid HX.out.2.2
              go_wp2_with fail
              refine (HC.out _ _ _ _).mono ?_
              rintro e1 w1 ⟨rfl, hb1⟩
              rw [hce]
              have hh : ∀ p : Addr, p.block < w.heap.size → w1.cell? p = wr.cell? p := fun p hp => (hb1.cell (by simp; have := HB.out.size; omega)).trans (World.cell?_alloc_lt wr _ p (by have := HB.out.size; omega))
              have c0 : w1.cell? ⟨wr.heap.size, 0, none⟩ = some (.int .i64 (q' + 1)) := by rw [hb1.cell (p := ⟨wr.heap.size, 0, none⟩) (by simp), World.cell?_alloc_new]; rfl
              have c1 : w1.cell? ⟨wr.heap.size, 1, none⟩ = some (.int .i64 t) := by rw [hb1.cell (p := ⟨wr.heap.size, 1, none⟩) (by simp), World.cell?_alloc_new]; rfl
              have d0 := (hh _ (by rw [add_block]; exact hbk')).trans hc0'
              have d1 := (hh ⟨(ad.add (k * 3)).block, (ad.add (k * 3)).off + 1, none⟩ (by rw [add_block]; exact hbk')).trans hc1'
              have HB1 := Lib.hid (ext_trans HB.out (ext_trans (ext_alloc wr _) hb1))
              clear hc0 hc1 hc2 hc0' hc1' hb1 hh hx hx' HX HB HC
              go_wp2_with fail
              go_quiet (fail)
              go_wp2_with fail
              go_ret
              exact ⟨ret_int HRE.out, below_drewN HB1.out _⟩
            · have HRE := Lib.hid ((row_on hx hx' ho (by simp only; omega)).symm.trans HX.out.1)
              have HB := Lib.hid HX.out.2.2
              go_wp2_with fail
              refine (HC.out _ _ _ _).mono ?_
              rintro e1 w1 ⟨rfl, hb1⟩
              rw [hce]
              have hh : ∀ p : Addr, p.block < w.heap.size → w1.cell? p = wr.cell? p := fun p hp => (hb1.cell (by simp; have := HB.out.size; omega)).trans (World.cell?_alloc_lt wr _ p (by have := HB.out.size; omega))
              have c0 : w1.cell? ⟨wr.heap.size, 0, none⟩ = some (.int .i64 (q' + 1)) := by rw [hb1.cell (p := ⟨wr.heap.size, 0, none⟩) (by simp), World.cell?_alloc_new]; rfl
              have c1 : w1.cell? ⟨wr.heap.size, 1, none⟩ = some (.int .i64 t) := by rw [hb1.cell (p := ⟨wr.heap.size, 1, none⟩) (by simp), World.cell?_alloc_new]; rfl
              have d0 := (hh _ (by rw [add_block]; exact hbk')).trans hc0'
              have d1 := (hh ⟨(ad.add (k * 3)).block, (ad.add (k * 3)).off + 1, none⟩ (by rw [add_block]; exact hbk')).trans hc1'
              have HB1 := Lib.hid (ext_trans HB.out (ext_trans (ext_alloc wr _) hb1))
              clear hc0 hc1 hc2 hc0' hc1' hb1 hh hx hx' HX HB HC
              go_wp2_with fail
              go_quiet (fail)
              go_wp2_with fail
              exact ⟨⟨k + 2, by go_num, by omega, HRE.out, HOK.out, below_drewN HB1.out _⟩, by simp [intOf]; omega⟩
          · have HRE := Lib.hid ((row_off hx hx' ho (.inl hf1)).symm.trans HX.out.1)
            have HB := Lib.hid HX.out.2.2
            go_wp2_with fail
            refine (HC.out _ _ _ _).mono ?_
            rintro e1 w1 ⟨rfl, hb1⟩
            rw [hce]
            have hh : ∀ p : Addr, p.block < w.heap.size → w1.cell? p = wr.cell? p := fun p hp => (hb1.cell (by simp; have := HB.out.size; omega)).trans (World.cell?_alloc_lt wr _ p (by have := HB.out.size; omega))
            have c0 : w1.cell? ⟨wr.heap.size, 0, none⟩ = some (.int .i64 q) := by rw [hb1.cell (p := ⟨wr.heap.size, 0, none⟩) (by simp), World.cell?_alloc_new]; rfl
            have c1 : w1.cell? ⟨wr.heap.size, 1, none⟩ = some (.int .i64 t) := by rw [hb1.cell (p := ⟨wr.heap.size, 1, none⟩) (by simp), World.cell?_alloc_new]; rfl
            have d0 := (hh _ (by rw [add_block]; exact hbk')).trans hc0'
            have d1 := (hh ⟨(ad.add (k * 3)).block, (ad.add (k * 3)).off + 1, none⟩ (by rw [add_block]; exact hbk')).trans hc1'
            have HB1 := Lib.hid (ext_trans HB.out (ext_trans (ext_alloc wr _) hb1))
            clear hc0 hc1 hc2 hc0' hc1' hb1 hh hx hx' HX HB HC
            go_wp2_with fail
            go_quiet (fail)
            go_wp2_with fail
            go_ret
            exact ⟨ret_int HRE.out, below_drewN HB1.out _⟩
      · have hce := cE_no ho
        have HRE := Lib.hid ((row_no hx ho).symm.trans HX.out.1)
        have HB := Lib.hid HX.out.2.2
        go_wp2_with fail
        refine (HC.out _ _ _ _).mono ?_
        rintro e1 w1 ⟨rfl, hb1⟩
        rw [hce]
        have HB1 := Lib.hid (ext_trans HB.out (ext_trans (ext_alloc wr _) hb1))
        clear hc0 hc1 hc2 hb1 hx HX HB HC
        go_wp2_with fail
        go_ret
        exact ⟨ret_int HRE.out, HB1.out⟩
    · obtain rfl : k = n := by omega
      have HRE := Lib.hid ((row_end (l := l) (k := k) (by omega)).symm.trans HX.out.1)
      have HB := Lib.hid HX.out.2.2
      clear HX HC
      go_wp2_with fail
      go_ret
      exact ⟨ret_int HRE.out, HB.out⟩
end Rd
end Go.Proofs.YtnljhnckmgpllaaGreat
namespace Go.Proofs.YtnljhnckmgpllaaGreat
namespace Rd
open Go.RowKit Vi Bd

theorem Bb_below {w w' : World} {B b : Nat} {l : List UInt8} (h : Bb w B b l) (hb : Below w.heap.size w w') : Bb w' B b l := h.keep hb.size fun k _ hk => hb.block k hk
theorem vtxt_list (n : Nat) : (vtxt n).data.toList = putV n := by simp [vtxt]
theorem vtxt_size (n : Nat) : (vtxt n).size = (putV n).length := by simp [vtxt, ByteArray.size]
/-- The bytes of the first k numbers. -/
def acc3 (q t d k : Nat) : List UInt8 := ([q, t, d].take k).flatMap putV

set_option maxHeartbeats 6400000 in
set_option maxRecDepth 100000 in
theorem rput_any (q t : Nat) (d : ByteArray) (w : World) (h : ok1 ((q : Int), (t : Int), d) = true) :
    Calls Tryz.prog 57 #[.agg #[.int .i64 (q : Int), .int .i64 (t : Int), .string d]] w fun e w' => e = .returned (.tuple #[.string ⟨(recB ((q : Int), (t : Int), d)).toArray⟩, .int .i64 0]) ∧ Below w.heap.size w w' := by
  have mixed : Tryz.prog.follows .mixedOrders = true := by kernel_rfl
  have hc := check_any q t d
  simp only [cE_ok h] at hc
  have HC := Lib.hid hc
  rw [ok1_iff] at h
  simp only at h
  have l1 : (putV q).length ≤ 9 := length_putV_le q 8 (by omega)
  have l2 : (putV t).length ≤ 9 := length_putV_le t 8 (by omega)
  have l3 : (putV d.size).length ≤ 9 := length_putV_le d.size 8 (by omega)
  have P1 := Lib.hid (fun w => put_any q w (by omega))
  have P2 := Lib.hid (fun w => put_any t w (by omega))
  have P3 := Lib.hid (fun w => put_any d.size w (by omega))
  have hsz : d.size ≤ 2000 := h.2.2.2.2
  have hac : acc3 q t d.size 3 ++ d.data.toList = recB ((q : Int), (t : Int), d) := by simp [acc3, recB]
  have HAC := Lib.hid hac
  clear hc h hac
  go_enter Tryz.func57, Tryz.ntmps57
  go_wp2_with fail
  refine (HC.out _).mono ?_
  rintro e1 w1 ⟨rfl, hb1⟩
  have cc : ∀ j, w1.cell? ⟨w.heap.size, j, none⟩ = (w.alloc (.cells #[.int .i64 (q : Int), .int .i64 (t : Int), .string d] 57)).cell? ⟨w.heap.size, j, none⟩ := fun j => hb1.cell (p := ⟨w.heap.size, j, none⟩) (by simp)
  have c0 : w1.cell? ⟨w.heap.size, 0, none⟩ = some (.int .i64 (q : Int)) := by rw [cc, World.cell?_alloc_new]; rfl
  have c1 : w1.cell? ⟨w.heap.size, 1, none⟩ = some (.int .i64 (t : Int)) := by rw [cc, World.cell?_alloc_new]; rfl
  have c2 : w1.cell? ⟨w.heap.size, 2, none⟩ = some (.string d) := by rw [cc, World.cell?_alloc_new]; rfl
  have hlt : w.heap.size < w1.heap.size := by have := hb1.size; simp at this; omega
  have hbb := bb_new w1
  have hd2 : ∀ o : Obj, (w1.alloc o).cell? ⟨w.heap.size, 2, none⟩ = some (.string d) := fun o => (World.cell?_alloc_lt w1 o ⟨w.heap.size, 2, none⟩ hlt).trans c2
  have hd1 : ∀ o : Obj, (w1.alloc o).cell? ⟨w.heap.size, 1, none⟩ = some (.int .i64 (t : Int)) := fun o => (World.cell?_alloc_lt w1 o ⟨w.heap.size, 1, none⟩ hlt).trans c1
  have hd0 : ∀ o : Obj, (w1.alloc o).cell? ⟨w.heap.size, 0, none⟩ = some (.int .i64 (q : Int)) := fun o => (World.cell?_alloc_lt w1 o ⟨w.heap.size, 0, none⟩ hlt).trans c0
  have HB := Lib.hid (show Below w.heap.size w (w1.alloc (.cells #[.pointer none, .slice none 0 0] 89)) from (ext_trans (ext_alloc w _) hb1).alloc (by omega) _)
  have HBB := Lib.hid hbb
  clear hb1 cc HC hbb
  generalize hB : w1.heap.size = B at *
  have hB2 : B ≤ (w1.alloc (.cells #[.pointer none, .slice none 0 0] 89)).heap.size := by simp; omega
  have e0 := hd0 (.cells #[.pointer none, .slice none 0 0] 89)
  have e1 := hd1 (.cells #[.pointer none, .slice none 0 0] 89)
  have e2 := hd2 (.cells #[.pointer none, .slice none 0 0] 89)
  go_wp2_with fail
  clear hB c0 c1 c2 hd0 hd1 hd2 e0 e1
  generalize w1.alloc (.cells #[.pointer none, .slice none 0 0] 89) = w4 at *
  have i0 : ∀ w : World, (Instr.index 138 (.agg #[.int .i64 (q : Int), .int .i64 (t : Int), .int .i64 (d.size : Int)]) (.int .i64 0)).run Tryz.prog w = .ok (.int .i64 (q : Int)) w := fun _ => by kernel_rfl
  have i1 : ∀ w : World, (Instr.index 138 (.agg #[.int .i64 (q : Int), .int .i64 (t : Int), .int .i64 (d.size : Int)]) (.int .i64 1)).run Tryz.prog w = .ok (.int .i64 (t : Int)) w := fun _ => by kernel_rfl
  have i2 : ∀ w : World, (Instr.index 138 (.agg #[.int .i64 (q : Int), .int .i64 (t : Int), .int .i64 (d.size : Int)]) (.int .i64 2)).run Tryz.prog w = .ok (.int .i64 (d.size : Int)) w := fun _ => by kernel_rfl
  go_loopw [23] (fun v wr => ∃ k : Nat, v = .int .i64 k ∧ k ≤ 3 ∧ Hid (Bb wr B B (acc3 q t d.size k) ∧ Below B w4 wr ∧ B ≤ wr.heap.size)) (fun v _ => 3 - (intOf v).toNat)
  case atStart => exact ⟨0, by go_num, by omega, HBB.out, Below.refl _ _, hB2⟩
  case round =>
    obtain ⟨k, rfl, hk, HX⟩ := hrel
    by_cases hk3 : k < 3
    · obtain rfl | rfl | rfl : k = 0 ∨ k = 1 ∨ k = 2 := by omega
      · skip
        go_wp2_with fail
        refine (P1.out _).mono ?_
        rintro e2 w2 ⟨rfl, hb2⟩
        have HB2 := Lib.hid hb2
        have hbb := Bb_below HX.out.1 hb2
        have hW := write_any B B (acc3 q t d.size 0) (vtxt q) w2 hbb (by rw [vtxt_size]; unfold acc3; simp; omega) (by have := HX.out.2.2; have := hb2.size; omega)
        rw [vtxt_list] at hW
        have HW := Lib.hid hW
        clear hW hbb hb2
        go_wp2_with fail
        refine HW.out.mono ?_
        rintro e3 w3 ⟨rfl, hbb3, hb3⟩
        have hacc : acc3 q t d.size 0 ++ putV q = acc3 q t d.size (0 + 1) := by simp [acc3]
        rw [hacc] at hbb3
        have HX3 := Lib.hid (show Bb w3 B B (acc3 q t d.size (0 + 1)) ∧ Below B w4 w3 ∧ B ≤ w3.heap.size from ⟨hbb3, (HX.out.2.1.trans (HB2.out.mono HX.out.2.2)).trans hb3, by have := hb3.size; have := HB2.out.size; have := HX.out.2.2; omega⟩)
        clear hbb3 hb3 hacc HW HB2 HX
        go_wp2_with fail
        exact ⟨⟨0 + 1, by go_num, by omega, HX3.out⟩, by simp [intOf]⟩
      · skip
        go_wp2_with fail
        refine (P2.out _).mono ?_
        rintro e2 w2 ⟨rfl, hb2⟩
        have HB2 := Lib.hid hb2
        have hbb := Bb_below HX.out.1 hb2
        have hW := write_any B B (acc3 q t d.size 1) (vtxt t) w2 hbb (by rw [vtxt_size]; unfold acc3; simp; omega) (by have := HX.out.2.2; have := hb2.size; omega)
        rw [vtxt_list] at hW
        have HW := Lib.hid hW
        clear hW hbb hb2
        go_wp2_with fail
        refine HW.out.mono ?_
        rintro e3 w3 ⟨rfl, hbb3, hb3⟩
        have hacc : acc3 q t d.size 1 ++ putV t = acc3 q t d.size (1 + 1) := by simp [acc3]
        rw [hacc] at hbb3
        have HX3 := Lib.hid (show Bb w3 B B (acc3 q t d.size (1 + 1)) ∧ Below B w4 w3 ∧ B ≤ w3.heap.size from ⟨hbb3, (HX.out.2.1.trans (HB2.out.mono HX.out.2.2)).trans hb3, by have := hb3.size; have := HB2.out.size; have := HX.out.2.2; omega⟩)
        clear hbb3 hb3 hacc HW HB2 HX
        go_wp2_with fail
        exact ⟨⟨1 + 1, by go_num, by omega, HX3.out⟩, by simp [intOf]⟩
      · skip
        go_wp2_with fail
        refine (P3.out _).mono ?_
        rintro e2 w2 ⟨rfl, hb2⟩
        have HB2 := Lib.hid hb2
        have hbb := Bb_below HX.out.1 hb2
        have hW := write_any B B (acc3 q t d.size 2) (vtxt d.size) w2 hbb (by rw [vtxt_size]; unfold acc3; simp; omega) (by have := HX.out.2.2; have := hb2.size; omega)
        rw [vtxt_list] at hW
        have HW := Lib.hid hW
        clear hW hbb hb2
        go_wp2_with fail
        refine HW.out.mono ?_
        rintro e3 w3 ⟨rfl, hbb3, hb3⟩
        have hacc : acc3 q t d.size 2 ++ putV d.size = acc3 q t d.size (2 + 1) := by simp [acc3]
        rw [hacc] at hbb3
        have HX3 := Lib.hid (show Bb w3 B B (acc3 q t d.size (2 + 1)) ∧ Below B w4 w3 ∧ B ≤ w3.heap.size from ⟨hbb3, (HX.out.2.1.trans (HB2.out.mono HX.out.2.2)).trans hb3, by have := hb3.size; have := HB2.out.size; have := HX.out.2.2; omega⟩)
        clear hbb3 hb3 hacc HW HB2 HX
        go_wp2_with fail
        exact ⟨⟨2 + 1, by go_num, by omega, HX3.out⟩, by simp [intOf]⟩
    · obtain rfl : k = 3 := by omega
      have hcd := (HX.out.2.1.cell (p := ⟨w.heap.size, 2, none⟩) hlt).trans e2
      have hW := write_any B B (acc3 q t d.size 3) d wr HX.out.1 (by unfold acc3; simp; omega) HX.out.2.2
      rw [HAC.out] at hW
      have HW := Lib.hid hW
      clear hW
      go_wp2_with fail
      refine HW.out.mono ?_
      rintro e3 w3 ⟨rfl, hbb3, hb3⟩
      have HS := Lib.hid (string_any B B _ w3 hbb3 (by have := hb3.size; have := HX.out.2.2; omega))
      have HB3 := Lib.hid ((HX.out.2.1).trans hb3)
      clear hbb3 hb3 HW
      go_wp2_with fail
      refine HS.out.mono ?_
      rintro e4 w5 ⟨rfl, hb4⟩
      have HB5 := Lib.hid (HB.out.trans ((HB3.out.trans hb4).mono (by omega)))
      clear hb4 HS HB3 hcd
      go_wp2_with fail
      go_ret2
      exact ⟨rfl, HB5.out⟩
end Rd
end Go.Proofs.YtnljhnckmgpllaaGreat
namespace Go.Proofs.YtnljhnckmgpllaaGreat
namespace Rd
open Go.RowKit Vi Bd

def jS (l : List (Int × Int × ByteArray)) : ByteArray := if jE l = 0 then ⟨(joinB l).toArray⟩ else ⟨#[]⟩
theorem jS_ok {l : List (Int × Int × ByteArray)} (h : jE l = 0) : jS l = ⟨(joinB l).toArray⟩ := if_pos h
theorem jS_no {l : List (Int × Int × ByteArray)} (h : jE l ≠ 0) : jS l = ⟨#[]⟩ := if_neg h
theorem recB_le (r : Int × Int × ByteArray) (h : ok1 r = true) : (recB r).length ≤ 2027 := by
  rw [ok1_iff] at h
  have l1 := length_putV_le r.1.toNat 8 (by omega)
  have l2 := length_putV_le r.2.1.toNat 8 (by omega)
  have l3 := length_putV_le r.2.2.size 8 (by omega)
  have : r.2.2.data.toList.length = r.2.2.size := rfl
  unfold recB; simp only [List.length_append]; omega
theorem joinB_append (a b : List (Int × Int × ByteArray)) : joinB (a ++ b) = joinB a ++ joinB b := List.flatMap_append ..
theorem joinB_take {l : List (Int × Int × ByteArray)} {k : Nat} {r : Int × Int × ByteArray} (h : l[k]? = some r) : joinB (l.take (k + 1)) = joinB (l.take k) ++ recB r := by
  have e : l.take (k + 1) = l.take k ++ [r] := by rw [List.take_add_one, h]; rfl
  rw [e, joinB_append]; simp [joinB]
theorem joinB_le (l : List (Int × Int × ByteArray)) (k : Nat) : (joinB (l.take k)).length ≤ (joinB l).length := by
  conv => rhs; rw [← List.take_append_drop k l, joinB_append, List.length_append]
  omega

set_option maxHeartbeats 6400000 in
set_option maxRecDepth 100000 in
theorem join_any (A : Option Addr) (n c : Nat) (l : List (Int × Int × ByteArray)) (w : World) (hrd : Rd w w.heap.size 3 A n (fl3 l)) (hn : n ≤ 1000000) :
    Calls Tryz.prog 29 #[.slice A n c] w fun e w' => e = .returned (.tuple #[.string (jS l), .int .i64 (jE l)]) ∧ Below w.heap.size w w' := by
  have mixed : Tryz.prog.follows .mixedOrders = true := by kernel_rfl
  have hln := rd3_len hrd
  have HR := Lib.hid hrd
  have HW := Lib.hid (row_any A n c l w hrd hn)
  clear hrd
  by_cases hr : rowE none l = 0
  · have hok := rowE_ok l none hr
    have HOK := Lib.hid hok
    have hje : 20000 < (joinB l).length → jE l = 3 := fun h => by unfold jE; rw [if_neg (by simp [hr]), if_pos h]
    have hje2 : ¬ 20000 < (joinB l).length → jE l = 0 := fun h => by unfold jE; rw [if_neg (by simp [hr]), if_neg h]
    have HJ := Lib.hid (And.intro hje hje2)
    rw [hr] at HW
    have P := Lib.hid (fun q t d w h => rput_any q t d w h)
    clear hok hje hje2 hr
    go_enter Tryz.func29, Tryz.ntmps29
    go_wp2_with fail
    refine HW.out.mono ?_
    rintro e1 w1 ⟨rfl, hb1⟩
    have HB := Lib.hid (show Below w.heap.size w (w1.alloc (.cells #[.pointer none, .slice none 0 0] 89)) from hb1.alloc hb1.size _)
    have HBB := Lib.hid (bb_new w1)
    have hlt := hb1.size
    clear HW hb1
    go_wp2_with fail
    generalize hB : w1.heap.size = B at *
    have hB2 : B ≤ (w1.alloc (.cells #[.pointer none, .slice none 0 0] 89)).heap.size := by simp; omega
    clear hB
    generalize w1.alloc (.cells #[.pointer none, .slice none 0 0] 89) = w4 at *
    go_loopw [17] (fun v wr => ∃ k : Nat, v = .int .i64 k ∧ k ≤ n ∧ Hid (Bb wr B B (joinB (l.take k)) ∧ Below B w4 wr ∧ B ≤ wr.heap.size ∧ (joinB (l.take k)).length ≤ 20000)) (fun v _ => n - (intOf v).toNat)
    case atStart => exact ⟨0, by go_num, by omega, HBB.out, Below.refl _ _, hB2, by simp [joinB]⟩
    case round =>
      obtain ⟨k, rfl, hk, HX⟩ := hrel
      by_cases hkn : k < n
      · have hbw := HB.out.trans (HX.out.2.1.mono hlt)
        obtain ⟨ad, q, t, d, rfl, hbk, hx, hc0, hc1, hc2⟩ := rec3 (HR.out.below hbw) hkn
        have ho : ok1 (q, t, d) = true := HOK.out _ (List.mem_of_getElem? hx)
        have hoo := ho
        rw [ok1_iff] at hoo
        obtain ⟨q, rfl⟩ := Int.eq_ofNat_of_zero_le (show 0 ≤ q by have := hoo.1; simp only at this; omega)
        obtain ⟨t, rfl⟩ := Int.eq_ofNat_of_zero_le (show 0 ≤ t by have := hoo.2.2.1; simp only at this; omega)
        clear hoo hbw
        have hle := recB_le _ ho
        have HT := Lib.hid (joinB_take hx)
        have hlen := HX.out.2.2.2
        have HL := Lib.hid (joinB_le l (k + 1))
        go_wp2_with fail
        refine (P.out q t d _ ho).mono ?_
        rintro e2 w2 ⟨rfl, hb2⟩
        obtain ⟨sb, hsb⟩ : ∃ sb : ByteArray, sb = ⟨(recB ((q : Int), (t : Int), d)).toArray⟩ := ⟨_, rfl⟩
        have hs1 : sb.size = (recB ((q : Int), (t : Int), d)).length := by rw [hsb]; simp [ByteArray.size]
        have hs2 : sb.data.toList = recB ((q : Int), (t : Int), d) := by rw [hsb]
        have hT2 := congrArg List.length HT.out
        rw [List.length_append] at hT2
        rw [← hsb]
        have HBB2 := Lib.hid (Bb_below (HX.out.1.keep (w' := wr.alloc (.cells #[.int .i64 (q : Int), .int .i64 (t : Int), .string d] 57)) (by simp) fun k _ hk => Below.heap_alloc wr _ k hk) hb2)
        have HB2 := Lib.hid (ext_trans (ext_alloc wr _) hb2)
        have hLen := Lib.hid (len_any B B _ w2 HBB2.out)
        have HB3 := Lib.hid (HX.out.2.1.trans (HB2.out.mono HX.out.2.2.1))
        have hB3 : B ≤ w2.heap.size := by have := HB2.out.size; have := HX.out.2.2.1; omega
        have HBW := Lib.hid (HB.out.trans (HB3.out.mono hlt))
        have HS := Lib.hid hs2
        generalize hjl : (joinB (l.take k)).length = jl at *
        have hjl2 : jl ≤ 20000 := HX.out.2.2.2
        have HJL := Lib.hid hjl
        have hbd : sb.size ≤ 2027 := by omega
        have HT2 := Lib.hid hT2
        have HS1 := Lib.hid hs1
        clear hsb hs1 hs2 hT2 hb2 hle hjl P HOK ho HX hc0 hc1 hc2
        go_wp2_with fail
        by_cases hbig : 20000 < jl + sb.size
        · have hj3 : jE l = 3 := HJ.out.1 (by have := HL.out; have := HT2.out; have := HS1.out; omega)
          have hcmp : (20000 : Int) - (jl : Int) < (sb.size : Int) := by omega
          go_wp2_with fail
          refine hLen.out.mono ?_
          rintro e3 w3 ⟨rfl, rfl⟩
          go_wp2_with fail
          go_ret2
          rw [jS_no (by rw [hj3]; decide), hj3]
          exact ⟨rfl, HBW.out⟩
        · have hcmp : ¬ (20000 : Int) - (jl : Int) < (sb.size : Int) := by omega
          have HWr := Lib.hid (write_any B B (joinB (l.take k)) sb w2 HBB2.out (by have := HJL.out; omega) hB3)
          go_wp2_with fail
          refine hLen.out.mono ?_
          rintro e3 w3 ⟨rfl, rfl⟩
          go_wp2_with fail
          refine HWr.out.mono ?_
          rintro e4 w5 ⟨rfl, hbb5, hb5⟩
          rw [HS.out, ← HT.out] at hbb5
          have HX5 := Lib.hid (show Bb w5 B B (joinB (l.take (k + 1))) ∧ Below B w4 w5 ∧ B ≤ w5.heap.size ∧ (joinB (l.take (k + 1))).length ≤ 20000 from
            ⟨hbb5, HB3.out.trans hb5, by have := hb5.size; omega, by have := HT2.out; have := HS1.out; omega⟩)
          clear hbb5 hb5 HWr HBB2 HB3 HB2 hLen HS HT HT2 HS1 HJL hx
          go_wp2_with fail
          exact ⟨⟨k + 1, by go_num, by omega, HX5.out⟩, by simp [intOf]; omega⟩
      · obtain rfl : k = n := by omega
        have ht : l.take k = l := List.take_of_length_le (by omega)
        have HX2 := Lib.hid HX.out
        rw [ht] at HX2
        have hj0 : jE l = 0 := HJ.out.2 (by have := HX2.out.2.2.2; omega)
        have HJ0 := Lib.hid hj0
        have HS := Lib.hid (string_any B B _ wr HX2.out.1 HX2.out.2.2.1)
        clear HX ht hj0 P HOK
        go_wp2_with fail
        refine HS.out.mono ?_
        rintro e2 w2 ⟨rfl, hb2⟩
        have HB5 := Lib.hid (HB.out.trans ((HX2.out.2.1.trans hb2).mono hlt))
        clear hb2 HS
        go_wp2_with fail
        go_ret2
        rw [jS_ok HJ0.out, HJ0.out]
        exact ⟨rfl, HB5.out⟩
  · have hje : jE l = rowE none l := by unfold jE; rw [if_pos hr]
    have hjs := jS_no (l := l) (by rw [hje]; exact hr)
    rw [hje, hjs]
    generalize rowE none l = x at *
    have hb1 : (x != 0) = true := by rw [bne_iff_ne]; exact hr
    have hb2 : (x == 0) = false := by rw [beq_eq_false_iff_ne]; exact hr
    clear hje hjs
    go_enter Tryz.func29, Tryz.ntmps29
    go_wp2_with fail
    refine HW.out.mono ?_
    rintro e1 w1 ⟨rfl, hb1⟩
    have HB1 := Lib.hid hb1
    clear hb1
    go_wp2_with fail
    go_ret2
    exact ⟨rfl, HB1.out⟩
end Rd
end Go.Proofs.YtnljhnckmgpllaaGreat
