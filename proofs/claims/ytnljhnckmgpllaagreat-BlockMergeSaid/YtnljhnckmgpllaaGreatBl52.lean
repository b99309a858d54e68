/- block.Encode: a block. block.Merge. block.Seqs, Ticks; span.Has, Empty, Size. varvelaw15.Few, varveref15.Same. block: what the laws ask of it: plain lists, no program. The laws of block: the probes. BlockAgain, BlockSmall. -/
import Derived.Test.YtnljhnckmgpllaaGreatBl51
import Derived.ArgAppend
import Derived.Deep.QuietTactic
import Derived.BigQuiet
import Derived.Test.YtnljhnckmgpllaaGreatBl49
import Derived.Deep.LoopGhost
import Derived.Test.YtnljhnckmgpllaaGreatBl50
import Derived.Test.YtnljhnckmgpllaaGreatBl47
namespace Go.Proofs.YtnljhnckmgpllaaGreat
namespace Bk
open Go.RowKit Vi Sq Rd

theorem flat_le : ∀ (l : List Nat), (∀ x ∈ l, x < 9223372036854775808) → (l.flatMap putV).length ≤ 9 * l.length
  | [], _ => by simp
  | n :: l, h => by
    have h1 := length_putV_le n 8 (h n (List.mem_cons_self ..))
    have h2 := flat_le l fun x hx => h x (List.mem_cons_of_mem _ hx)
    rw [List.flatMap_cons, List.length_append, List.length_cons]; omega
/-- The block of the five numbers. -/
def Five (w : World) (b x0 x1 x2 x3 x4 : Nat) : Prop := w.heap[b]? = some (.cells #[.int .i64 (x0 : Int), .int .i64 (x1 : Int), .int .i64 (x2 : Int), .int .i64 (x3 : Int), .int .i64 (x4 : Int)] 3 (0, 0))
theorem Five.cell {w : World} {b x0 x1 x2 x3 x4 k N : Nat} (h : Five w b x0 x1 x2 x3 x4) (hk : [x0, x1, x2, x3, x4][k]? = some N) : w.cell? ⟨b, k, none⟩ = some (.int .i64 (N : Int)) := by
  rw [cell_of_row w b k _ _ (0, 0) h]
  rcases k with _ | _ | _ | _ | _ | k
  all_goals simp at hk
  all_goals subst hk; rfl

set_option maxHeartbeats 6400000 in
set_option maxRecDepth 100000 in
theorem enc_yes (A : Option Addr) (n c : Nat) (l : List (Int × Int × ByteArray)) (w : World) (hrd : Rd w w.heap.size 3 A n (fl3 l)) (hn : n ≤ 100000) (he : encE l = 0) :
    Calls Tryz.prog 22 #[.slice A n c] w fun e w' => EncAns l e ∧ Below w.heap.size w w' := by
  have mixed : Tryz.prog.follows .mixedOrders = true := by kernel_rfl
  have hln := rd3_len hrd
  obtain ⟨hj, hl⟩ := enc_ok he
  have hn0 : 0 < n := by rw [← hln]; exact List.length_pos_iff.2 hl
  obtain ⟨m, rfl⟩ : ∃ m, n = m + 1 := ⟨n - 1, by omega⟩
  have hJ := join_any A (m + 1) c l w hrd (by omega)
  rw [jS_ok hj, hj] at hJ
  obtain ⟨raw, hraw⟩ : ∃ raw : ByteArray, raw = ⟨(joinB l).toArray⟩ := ⟨_, rfl⟩
  rw [← hraw] at hJ
  have hr1 : raw.data.toList = joinB l := by rw [hraw]
  have hr2 : raw.size = (joinB l).length := by rw [hraw]; simp [ByteArray.size]
  have hr3 : raw.size ≤ 20000 := by rw [hr2]; exact (jE_row hj).2
  have HJ := Lib.hid hJ
  have hP := fun w => pack_un raw w hr3
  rw [hr1] at hP
  have HP := Lib.hid hP
  have HE := Lib.hid he
  have HR := Lib.hid hrd
  have hn1 : (((m : Nat) : Int) + 1 == 0) = false := by rw [beq_eq_false_iff_ne]; omega
  have hn2 : (((m + 1 : Nat) : Int) == 0) = false := by rw [beq_eq_false_iff_ne]; omega
  obtain ⟨e1, e2, e3, e4, e5, e6⟩ := ends hj hl
  obtain ⟨ad, q0, t0, d0, rfl, hbk, hx0, hc00, hc01, -⟩ := rec3 hrd (show 0 < m + 1 by omega)
  obtain ⟨ad', q1, t1, d1, hA', -, hx1, hc10, hc11, hc12⟩ := rec3 hrd (show m < m + 1 by omega)
  obtain rfl : ad = ad' := by simpa using hA'
  have ha0 : at3 l 0 = (q0, t0, d0) := Option.some.inj ((at3_get l 0 (by omega)).symm.trans hx0)
  have ha1 : at3 l (l.length - 1) = (q1, t1, d1) := Option.some.inj ((at3_get l (l.length - 1) (by omega)).symm.trans (by rw [hln]; exact hx1))
  rw [ha0, ha1] at e4
  rw [ha0] at e1 e2 e3
  rw [ha1] at e5
  simp only at e1 e2 e3 e4 e5
  obtain ⟨Q, rfl⟩ := Int.eq_ofNat_of_zero_le (show 0 ≤ q0 by omega)
  obtain ⟨T, rfl⟩ := Int.eq_ofNat_of_zero_le (show 0 ≤ t0 by omega)
  obtain ⟨D, hD⟩ := Int.eq_ofNat_of_zero_le (show 0 ≤ t1 - (T : Int) by omega)
  have h5 : hd5 l = [raw.size, m + 1, Q, T, D] := by unfold hd5; rw [ha0, ha1, hr2, hln]; simp only; rw [hD]; simp
  have H5 := Lib.hid h5
  have HRR := Lib.hid (And.intro hr1 hr2)
  have hz : ad.add (0 * 3) = ad := by rw [Nat.zero_mul]; rfl
  rw [hz] at hc00 hc01
  have hlq : l.length = m + 1 := hln
  rw [hlq] at e2
  have HC := Lib.hid (And.intro hc00 (And.intro hc01 (And.intro hc10 (And.intro hc11 hc12))))
  clear hJ hP he hraw hr1 hr2 hx0 hx1 hA' ha0 ha1 h5 hz hlq hj hl hrd hc00 hc01 hc10 hc11 hc12 hln
  go_enter Tryz.func22, Tryz.ntmps22
  go_wp2_with fail
  refine HJ.out.mono ?_
  rintro e1 w1 ⟨rfl, hb1⟩
  have HB1 := Lib.hid hb1
  clear hb1 HJ
  go_wp2_with fail
  refine (HP.out _).mono ?_
  rintro e2 w2 ⟨sh, arr, hso, hsh, hshz, rfl, hb2⟩
  have HB2 := Lib.hid (ext_trans HB1.out hb2)
  have hcl : ∀ p : Addr, p.block < w.heap.size → w2.cell? p = w.cell? p := fun p hp => HB2.out.cell hp
  have c00 := (hcl ad hbk).trans HC.out.1
  have c01 := (hcl ⟨ad.block, ad.off + 1, none⟩ hbk).trans HC.out.2.1
  have c10 := (hcl (ad.add (m * 3)) (by rw [add_block]; exact hbk)).trans HC.out.2.2.1
  have c11 := (hcl ⟨(ad.add (m * 3)).block, (ad.add (m * 3)).off + 1, none⟩ (by rw [add_block]; exact hbk)).trans HC.out.2.2.2.1
  have c12 := (hcl ⟨(ad.add (m * 3)).block, (ad.add (m * 3)).off + 2, none⟩ (by rw [add_block]; exact hbk)).trans HC.out.2.2.2.2
  have hbk2 : ad.block < w2.heap.size := by have := HB2.out.size; omega
  have HSO := Lib.hid hso
  have hsl : sh.size = (packed (joinB l) arr).length := by rw [hsh]; simp [ByteArray.size]
  have hip : isP l arr = decide (sh.size < raw.size) := by unfold isP; rw [hsl, HRR.out.2]
  have HIP := Lib.hid hip
  have HSH := Lib.hid hsh
  clear hso hsh hip hsl hb2 HP hcl HR
  by_cases hlt : sh.size < raw.size
  · have hlt2 : (sh.size : Int) < (raw.size : Int) := by omega
    go_wp2_with fail
    have hown : OwnB ((w2.alloc (.cells #[.int .i64 q1, .int .i64 t1, .string d1] 57)).alloc (.cells #[.int .u8 1] 5)) (w2.heap.size + 1) (.slice (some ⟨w2.heap.size + 1, 0, none⟩) 1 1) [1] := by
      have := ownB_lit (w2.alloc (.cells #[.int .i64 q1, .int .i64 t1, .string d1] 57)) 1
      rwa [show (w2.alloc (.cells #[.int .i64 q1, .int .i64 t1, .string d1] 57)).heap.size = w2.heap.size + 1 by simp] at this
    have hbw : Below w2.heap.size w2 ((w2.alloc (.cells #[.int .i64 q1, .int .i64 t1, .string d1] 57)).alloc (.cells #[.int .u8 1] 5)) := ((Below.refl _ _).alloc (Nat.le_refl _) _).alloc (by simp) _
    have hl1 : ((w2.alloc (.cells #[.int .i64 q1, .int .i64 t1, .string d1] 57)).alloc (.cells #[.int .u8 1] 5)).cell? ⟨w2.heap.size, 1, none⟩ = some (.int .i64 t1) :=
      (World.cell?_alloc_lt _ _ ⟨w2.heap.size, 1, none⟩ (by simp)).trans (by rw [World.cell?_alloc_new]; rfl)
    have hsz5 : ((w2.alloc (.cells #[.int .i64 q1, .int .i64 t1, .string d1] 57)).alloc (.cells #[.int .u8 1] 5)).heap.size = w2.heap.size + 2 := by simp
    generalize (w2.alloc (.cells #[.int .i64 q1, .int .i64 t1, .string d1] 57)).alloc (.cells #[.int .u8 1] 5) = w5 at *
    have f00 := (hbw.cell (p := ad) hbk2).trans c00
    have f01 := (hbw.cell (p := ⟨ad.block, ad.off + 1, none⟩) hbk2).trans c01
    have i1 : (0 : Int) < (m : Int) + 1 := by omega
    have i2 : IntKind.i64.wrap (t1 - (T : Int)) = (D : Int) := by rw [IntKind.wrap_i64]; omega
    have HO := Lib.hid (And.intro hown hbw)
    have hDlt : D ≤ 1000000000 := by omega
    have HDD := Lib.hid hD
    have HSZ := Lib.hid hsz5
    clear c00 c01 c10 c11 c12 hown hbw hD hsz5
    go_region
    all_goals
      have hfive : Five (w5.alloc (.cells #[.int .i64 (raw.size : Int), .int .i64 ((m : Int) + 1), .int .i64 (Q : Int), .int .i64 (T : Int), .int .i64 (D : Int)] 3)) w5.heap.size raw.size (m + 1) Q T D := by
        have := heap_alloc_new w5 (.cells #[.int .i64 (raw.size : Int), .int .i64 ((m : Int) + 1), .int .i64 (Q : Int), .int .i64 (T : Int), .int .i64 (D : Int)] 3)
        unfold Five
        exact this
      have hsz5 := HSZ.out
      have hb6 := HO.out.2.alloc (o := (.cells #[.int .i64 (raw.size : Int), .int .i64 ((m : Int) + 1), .int .i64 (Q : Int), .int .i64 (T : Int), .int .i64 (D : Int)] 3)) (by omega)
      have ho6 : OwnB (w5.alloc (.cells #[.int .i64 (raw.size : Int), .int .i64 ((m : Int) + 1), .int .i64 (Q : Int), .int .i64 (T : Int), .int .i64 (D : Int)] 3)) (w2.heap.size + 1) (.slice (some ⟨w2.heap.size + 1, 0, none⟩) 1 1) [1] := HO.out.1.below (ext_alloc _ _) (Nat.le_refl _)
      have HX0 := Lib.hid (And.intro hfive (And.intro ho6 hb6))
      have hs6 : w2.heap.size + 1 ≤ (w5.alloc (.cells #[.int .i64 (raw.size : Int), .int .i64 ((m : Int) + 1), .int .i64 (Q : Int), .int .i64 (T : Int), .int .i64 (D : Int)] 3)).heap.size := by simp; omega
      clear hfive hb6 ho6 HO f00 f01 hl1
      generalize w5.alloc (.cells #[.int .i64 (raw.size : Int), .int .i64 ((m : Int) + 1), .int .i64 (Q : Int), .int .i64 (T : Int), .int .i64 (D : Int)] 3) = w6 at *
      clear hsz5
      generalize w5.heap.size = F at *
      have HL5 := Lib.hid (show ∀ x ∈ [raw.size, m + 1, Q, T, D], x < 9223372036854775808 by intro x hx; simp at hx; omega)
      clear e1 e2 e3 e4 e5 e6 hDlt
      go_wp2_with fail
      go_loopw [10, 71] (fun v a wr => ∃ (k : Nat) (v0 : Value), v0 = v ∧ a = .int .i64 (k : Int) ∧ k ≤ 5 ∧ Hid (Five wr F raw.size (m + 1) Q T D ∧ OwnB wr (w2.heap.size + 1) v0 (1 :: ([raw.size, m + 1, Q, T, D].take k).flatMap putV) ∧ Below w2.heap.size w2 wr ∧ w2.heap.size + 1 ≤ wr.heap.size)) (fun _ a _ => 5 - (intOf a).toNat)
      case atStart => exact ⟨0, _, rfl, rfl, by omega, HX0.out.1, HX0.out.2.1, below_drewN (n := 1) HX0.out.2.2, hs6⟩
      case round =>
        obtain ⟨k, v, hv, rfl, hk, HX⟩ := hrel
        subst hv
        by_cases hk5 : k < 5
        · obtain ⟨N, hN⟩ : ∃ N, [raw.size, m + 1, Q, T, D][k]? = some N := ⟨_, List.getElem?_eq_getElem (by simpa using hk5)⟩
          have hlt5 := HL5.out
          have hP := put_any N wr (hlt5 _ (List.mem_of_getElem? hN))
          have hflat := flat_le ([raw.size, m + 1, Q, T, D].take k) (fun x hx => hlt5 x (List.mem_of_mem_take hx))
          have htk : ([raw.size, m + 1, Q, T, D].take (k + 1)).flatMap putV = ([raw.size, m + 1, Q, T, D].take k).flatMap putV ++ putV N := by
            rw [List.take_add_one, hN]; simp
          have hNl := length_putV_le N 8 (hlt5 _ (List.mem_of_getElem? hN))
          have hll : ([raw.size, m + 1, Q, T, D].take k).length ≤ 5 := by rw [List.length_take]; simp; omega
          have hcell := HX.out.1.cell hN
          have HTK := Lib.hid htk
          have HP := Lib.hid hP
          have hacc : (1 :: ([raw.size, m + 1, Q, T, D].take k).flatMap putV).length + (vtxt N).size ≤ 1099511627776 := by rw [vtxt_size, List.length_cons]; omega
          have HAC := Lib.hid hacc
          clear hlt5 hP hflat htk hNl hll hacc hN
          have i9 : (k : Int) < 5 := by omega
          go_wp2_with fail
          refine HP.out.mono ?_
          rintro e3 w7 ⟨rfl, hb7⟩
          have ho7 : OwnB w7 (w2.heap.size + 1) v (1 :: ([raw.size, m + 1, Q, T, D].take k).flatMap putV) := HX.out.2.1.below hb7 (Nat.le_refl _)
          have hf7 : Five w7 F raw.size (m + 1) Q T D := (hb7.block _ (Array.getElem?_eq_some_iff.1 HX.out.1).1).trans HX.out.1
          have hs7 : w2.heap.size + 1 ≤ w7.heap.size := by have := hb7.size; have := HX.out.2.2.2; omega
          have hb77 : Below w2.heap.size w2 w7 := HX.out.2.2.1.trans (hb7.mono (by have := HX.out.2.2.2; omega))
          have HX7 := Lib.hid (And.intro hf7 (And.intro ho7 (And.intro hs7 hb77)))
          clear hb7 ho7 hf7 hs7 hb77 HX hcell HP
          go_wp2_with (at_builtin; refine appendS (vtxt N) HX7.out.2.1 HAC.out HX7.out.2.2.1 ?_; intro A1 n1 c1 w8 hn1 hown8 hb8 hg8)
          have hne : v.ownBlock ≠ some F := Lib.ownBlock_ne HX7.out.2.1 HX7.out.1 (by decide)
          have hf8 : Five w8 F raw.size (m + 1) Q T D := (hg8.block _ (Array.getElem?_eq_some_iff.1 HX7.out.1).1 (fun e => hne e.symm)).trans HX7.out.1
          rw [vtxt_list] at hown8
          exact ⟨⟨k + 1, _, rfl, by go_num, by omega, hf8, by rw [HTK.out]; exact hown8, HX7.out.2.2.2.trans (hb8.mono (by omega)), by have := hb8.size; have := HX7.out.2.2.1; omega⟩, by simp [intOf]; omega⟩
        · obtain rfl : k = 5 := by omega
          have hflat := flat_le [raw.size, m + 1, Q, T, D] HL5.out
          have HO := Lib.hid (show OwnB wr (w2.heap.size + 1) v (1 :: (hd5 l).flatMap putV) by rw [H5.out]; exact HX.out.2.1)
          have hacc : (1 :: (hd5 l).flatMap putV).length + sh.size ≤ 1099511627776 := by rw [List.length_cons, H5.out]; simp only [List.length_cons, List.length_nil] at hflat; omega
          have HAC := Lib.hid hacc
          have HB := Lib.hid (And.intro HX.out.2.2.1 HX.out.2.2.2)
          clear hflat hacc HX
          go_wp2_with (at_builtin; refine appendS sh HO.out HAC.out HB.out.2 ?_; intro A1 n1 c1 w8 hn1 hown8 hb8 hg8)
          obtain ⟨A', c', hv', hc1, hc2, hrd8⟩ := hown8.rd
          cases hv'
          have hstr := run_str (c := c1) hrd8
          obtain ⟨S, hS⟩ : ∃ S : ByteArray, S = ⟨((1 :: (hd5 l).flatMap putV) ++ sh.data.toList).toArray⟩ := ⟨_, rfl⟩
          have hblk : S = ⟨(blk l arr).toArray⟩ := by
            rw [hS]
            unfold blk mode body
            rw [if_pos (by rw [HIP.out]; simpa using hlt), if_pos (by rw [HIP.out]; simpa using hlt), HSH.out]
            rfl
          have HBK := Lib.hid hblk
          have HB8 := Lib.hid (HB2.out.trans ((HB.out.1.trans (hb8.mono (by omega))).mono HB2.out.size))
          rw [hstr, ← hS]
          clear hstr hS hblk hown8 hb8 hg8 hrd8 hc1 hc2
          go_wp2_with fail
          go_ret2
          exact ⟨⟨S, by rw [HE.out]; rfl, fun h => absurd HE.out h, fun _ => ⟨arr, HSO.out, HBK.out⟩⟩, HB8.out⟩
  · have hlt2 : ¬ (sh.size : Int) < (raw.size : Int) := by omega
    go_wp2_with fail
    have hown : OwnB ((w2.alloc (.cells #[.int .i64 q1, .int .i64 t1, .string d1] 57)).alloc (.cells #[.int .u8 0] 5)) (w2.heap.size + 1) (.slice (some ⟨w2.heap.size + 1, 0, none⟩) 1 1) [0] := by
      have := ownB_lit (w2.alloc (.cells #[.int .i64 q1, .int .i64 t1, .string d1] 57)) 0
      rwa [show (w2.alloc (.cells #[.int .i64 q1, .int .i64 t1, .string d1] 57)).heap.size = w2.heap.size + 1 by simp] at this
    have hbw : Below w2.heap.size w2 ((w2.alloc (.cells #[.int .i64 q1, .int .i64 t1, .string d1] 57)).alloc (.cells #[.int .u8 0] 5)) := ((Below.refl _ _).alloc (Nat.le_refl _) _).alloc (by simp) _
    have hl1 : ((w2.alloc (.cells #[.int .i64 q1, .int .i64 t1, .string d1] 57)).alloc (.cells #[.int .u8 0] 5)).cell? ⟨w2.heap.size, 1, none⟩ = some (.int .i64 t1) :=
      (World.cell?_alloc_lt _ _ ⟨w2.heap.size, 1, none⟩ (by simp)).trans (by rw [World.cell?_alloc_new]; rfl)
    have hsz5 : ((w2.alloc (.cells #[.int .i64 q1, .int .i64 t1, .string d1] 57)).alloc (.cells #[.int .u8 0] 5)).heap.size = w2.heap.size + 2 := by simp
    generalize (w2.alloc (.cells #[.int .i64 q1, .int .i64 t1, .string d1] 57)).alloc (.cells #[.int .u8 0] 5) = w5 at *
    have f00 := (hbw.cell (p := ad) hbk2).trans c00
    have f01 := (hbw.cell (p := ⟨ad.block, ad.off + 1, none⟩) hbk2).trans c01
    have i1 : (0 : Int) < (m : Int) + 1 := by omega
    have i2 : IntKind.i64.wrap (t1 - (T : Int)) = (D : Int) := by rw [IntKind.wrap_i64]; omega
    have HO := Lib.hid (And.intro hown hbw)
    have hDlt : D ≤ 1000000000 := by omega
    have HDD := Lib.hid hD
    have HSZ := Lib.hid hsz5
    clear c00 c01 c10 c11 c12 hown hbw hD hsz5
    go_region
    all_goals
      have hfive : Five (w5.alloc (.cells #[.int .i64 (raw.size : Int), .int .i64 ((m : Int) + 1), .int .i64 (Q : Int), .int .i64 (T : Int), .int .i64 (D : Int)] 3)) w5.heap.size raw.size (m + 1) Q T D := by
        have := heap_alloc_new w5 (.cells #[.int .i64 (raw.size : Int), .int .i64 ((m : Int) + 1), .int .i64 (Q : Int), .int .i64 (T : Int), .int .i64 (D : Int)] 3)
        unfold Five
        exact this
      have hsz5 := HSZ.out
      have hb6 := HO.out.2.alloc (o := (.cells #[.int .i64 (raw.size : Int), .int .i64 ((m : Int) + 1), .int .i64 (Q : Int), .int .i64 (T : Int), .int .i64 (D : Int)] 3)) (by omega)
      have ho6 : OwnB (w5.alloc (.cells #[.int .i64 (raw.size : Int), .int .i64 ((m : Int) + 1), .int .i64 (Q : Int), .int .i64 (T : Int), .int .i64 (D : Int)] 3)) (w2.heap.size + 1) (.slice (some ⟨w2.heap.size + 1, 0, none⟩) 1 1) [0] := HO.out.1.below (ext_alloc _ _) (Nat.le_refl _)
      have HX0 := Lib.hid (And.intro hfive (And.intro ho6 hb6))
      have hs6 : w2.heap.size + 1 ≤ (w5.alloc (.cells #[.int .i64 (raw.size : Int), .int .i64 ((m : Int) + 1), .int .i64 (Q : Int), .int .i64 (T : Int), .int .i64 (D : Int)] 3)).heap.size := by simp; omega
      clear hfive hb6 ho6 HO f00 f01 hl1
      generalize w5.alloc (.cells #[.int .i64 (raw.size : Int), .int .i64 ((m : Int) + 1), .int .i64 (Q : Int), .int .i64 (T : Int), .int .i64 (D : Int)] 3) = w6 at *
      clear hsz5
      generalize w5.heap.size = F at *
      have HL5 := Lib.hid (show ∀ x ∈ [raw.size, m + 1, Q, T, D], x < 9223372036854775808 by intro x hx; simp at hx; omega)
      clear e1 e2 e3 e4 e5 e6 hDlt
      go_wp2_with fail
      go_loopw [10, 71] (fun v a wr => ∃ (k : Nat) (v0 : Value), v0 = v ∧ a = .int .i64 (k : Int) ∧ k ≤ 5 ∧ Hid (Five wr F raw.size (m + 1) Q T D ∧ OwnB wr (w2.heap.size + 1) v0 (0 :: ([raw.size, m + 1, Q, T, D].take k).flatMap putV) ∧ Below w2.heap.size w2 wr ∧ w2.heap.size + 1 ≤ wr.heap.size)) (fun _ a _ => 5 - (intOf a).toNat)
      case atStart => exact ⟨0, _, rfl, rfl, by omega, HX0.out.1, HX0.out.2.1, below_drewN (n := 1) HX0.out.2.2, hs6⟩
      case round =>
        obtain ⟨k, v, hv, rfl, hk, HX⟩ := hrel
        subst hv
        by_cases hk5 : k < 5
        · obtain ⟨N, hN⟩ : ∃ N, [raw.size, m + 1, Q, T, D][k]? = some N := ⟨_, List.getElem?_eq_getElem (by simpa using hk5)⟩
          have hlt5 := HL5.out
          have hP := put_any N wr (hlt5 _ (List.mem_of_getElem? hN))
          have hflat := flat_le ([raw.size, m + 1, Q, T, D].take k) (fun x hx => hlt5 x (List.mem_of_mem_take hx))
          have htk : ([raw.size, m + 1, Q, T, D].take (k + 1)).flatMap putV = ([raw.size, m + 1, Q, T, D].take k).flatMap putV ++ putV N := by
            rw [List.take_add_one, hN]; simp
          have hNl := length_putV_le N 8 (hlt5 _ (List.mem_of_getElem? hN))
          have hll : ([raw.size, m + 1, Q, T, D].take k).length ≤ 5 := by rw [List.length_take]; simp; omega
          have hcell := HX.out.1.cell hN
          have HTK := Lib.hid htk
          have HP := Lib.hid hP
          have hacc : (0 :: ([raw.size, m + 1, Q, T, D].take k).flatMap putV).length + (vtxt N).size ≤ 1099511627776 := by rw [vtxt_size, List.length_cons]; omega
          have HAC := Lib.hid hacc
          clear hlt5 hP hflat htk hNl hll hacc hN
          have i9 : (k : Int) < 5 := by omega
          go_wp2_with fail
          refine HP.out.mono ?_
          rintro e3 w7 ⟨rfl, hb7⟩
          have ho7 : OwnB w7 (w2.heap.size + 1) v (0 :: ([raw.size, m + 1, Q, T, D].take k).flatMap putV) := HX.out.2.1.below hb7 (Nat.le_refl _)
          have hf7 : Five w7 F raw.size (m + 1) Q T D := (hb7.block _ (Array.getElem?_eq_some_iff.1 HX.out.1).1).trans HX.out.1
          have hs7 : w2.heap.size + 1 ≤ w7.heap.size := by have := hb7.size; have := HX.out.2.2.2; omega
          have hb77 : Below w2.heap.size w2 w7 := HX.out.2.2.1.trans (hb7.mono (by have := HX.out.2.2.2; omega))
          have HX7 := Lib.hid (And.intro hf7 (And.intro ho7 (And.intro hs7 hb77)))
          clear hb7 ho7 hf7 hs7 hb77 HX hcell HP
          go_wp2_with (at_builtin; refine appendS (vtxt N) HX7.out.2.1 HAC.out HX7.out.2.2.1 ?_; intro A1 n1 c1 w8 hn1 hown8 hb8 hg8)
          have hne : v.ownBlock ≠ some F := Lib.ownBlock_ne HX7.out.2.1 HX7.out.1 (by decide)
          have hf8 : Five w8 F raw.size (m + 1) Q T D := (hg8.block _ (Array.getElem?_eq_some_iff.1 HX7.out.1).1 (fun e => hne e.symm)).trans HX7.out.1
          rw [vtxt_list] at hown8
          exact ⟨⟨k + 1, _, rfl, by go_num, by omega, hf8, by rw [HTK.out]; exact hown8, HX7.out.2.2.2.trans (hb8.mono (by omega)), by have := hb8.size; have := HX7.out.2.2.1; omega⟩, by simp [intOf]; omega⟩
        · obtain rfl : k = 5 := by omega
          have hflat := flat_le [raw.size, m + 1, Q, T, D] HL5.out
          have HO := Lib.hid (show OwnB wr (w2.heap.size + 1) v (0 :: (hd5 l).flatMap putV) by rw [H5.out]; exact HX.out.2.1)
          have hacc : (0 :: (hd5 l).flatMap putV).length + raw.size ≤ 1099511627776 := by rw [List.length_cons, H5.out]; simp only [List.length_cons, List.length_nil] at hflat; omega
          have HAC := Lib.hid hacc
          have HB := Lib.hid (And.intro HX.out.2.2.1 HX.out.2.2.2)
          clear hflat hacc HX
          go_wp2_with (at_builtin; refine appendS raw HO.out HAC.out HB.out.2 ?_; intro A1 n1 c1 w8 hn1 hown8 hb8 hg8)
          obtain ⟨A', c', hv', hc1, hc2, hrd8⟩ := hown8.rd
          cases hv'
          have hstr := run_str (c := c1) hrd8
          obtain ⟨S, hS⟩ : ∃ S : ByteArray, S = ⟨((0 :: (hd5 l).flatMap putV) ++ raw.data.toList).toArray⟩ := ⟨_, rfl⟩
          have hblk : S = ⟨(blk l arr).toArray⟩ := by
            rw [hS]
            unfold blk mode body
            rw [if_neg (by rw [HIP.out]; simpa using hlt), if_neg (by rw [HIP.out]; simpa using hlt), HRR.out.1]
            rfl
          have HBK := Lib.hid hblk
          have HB8 := Lib.hid (HB2.out.trans ((HB.out.1.trans (hb8.mono (by omega))).mono HB2.out.size))
          rw [hstr, ← hS]
          clear hstr hS hblk hown8 hb8 hg8 hrd8 hc1 hc2
          go_wp2_with fail
          go_ret2
          exact ⟨⟨S, by rw [HE.out]; rfl, fun h => absurd HE.out h, fun _ => ⟨arr, HSO.out, HBK.out⟩⟩, HB8.out⟩
theorem enc_any (A : Option Addr) (n c : Nat) (l : List (Int × Int × ByteArray)) (w : World) (hrd : Rd w w.heap.size 3 A n (fl3 l)) (hn : n ≤ 100000) :
    Calls Tryz.prog 22 #[.slice A n c] w fun e w' => EncAns l e ∧ Below w.heap.size w w' := by
  by_cases he : encE l = 0
  · exact enc_yes A n c l w hrd hn he
  · exact enc_err A n c l w hrd hn he
end Bk
end Go.Proofs.YtnljhnckmgpllaaGreat
namespace Go.Proofs.YtnljhnckmgpllaaGreat
namespace Bk
open Go.RowKit Tk Vi Sq Rd

section
variable {ops : Array Oper} {rest : List Oper} {o : Oper} {a : Act} {Q : Exit → Act → World → Prop}
/-- 'append(x[:n:n], y...)': a new row. -/
theorem appendR {s x : Operand} {w0 : World} {ad : Addr} {A2 : Option Addr} {n m c2 : Nat} {l k : List (Int × Int × ByteArray)} (hrd1 : Rd w0 w0.heap.size 3 (some ad) n (fl3 l)) (hrd2 : Rd w0 w0.heap.size 3 A2 m (fl3 k)) (hn0 : 0 < n) (hm : 0 < m) (hn : n + m ≤ 100000)
    (h : ∀ v' w', Own3 w' w0.heap.size v' (l ++ k) → Below w0.heap.size w0 w' → wpList Tryz.prog ops Q rest (a.put o.dst v') w')
    (hgd : o.guard = none := by exact rfl) (ho : o.op = .call { callee := .builtin .append, args := #[s, x], argTypes := #[38, 38] } := by exact rfl)
    (hs : a.eval s = .slice (some ad) n n := by exact rfl) (hx : a.eval x = .slice A2 m c2 := by exact rfl) :
    wpList Tryz.prog ops Q (o :: rest) a w0 := by
  obtain ⟨i0, hi, hz0, hz1, hz2⟩ := info_parts rec_info
  obtain ⟨ad1, e1, -, hc1⟩ := hrd1.cells hn0
  obtain rfl : ad = ad1 := by simpa using e1
  obtain ⟨ad2, rfl, -, hc2⟩ := hrd2.cells hm
  refine wpList_append_grows w0 hgd s x 38 ho 57 i0 (.agg #[.int .i64 0, .int .i64 0, .string ⟨#[]⟩]) 3 32 Tryz.underlying38 hi hz0 hz1 hz2 rfl (by omega) (some ad) n n (fl3 l) hs (by intro e; cases e) hrd1.len
    (by intro b hb; cases hb; exact hc1) ad2 m c2 (fl3 k) hx hrd2.len hc2 (fl3_one k) (by omega) (by simp only [maxLen]; omega) (by omega) ?_
  intro v' w' hown' hg
  have hl := rd3_len hrd1
  have hk := rd3_len hrd2
  refine h v' w' ?_ ((Below.refl _ _).grown hg (Nat.le_refl _) (by simp))
  unfold Own3
  rw [List.length_append, fl3_append, hl, hk]
  exact hown'
end

/-- What block.Merge gives. -/
def MrgAns (a b : ByteArray) (e : Ending) : Prop := ((dec a.data.toList = none ∨ dec b.data.toList = none) ∧ ∃ x, e = .returned (.tuple #[.string ⟨#[]⟩, .int .i64 x]) ∧ x ≠ 0) ∨
  (∃ la lb, dec a.data.toList = some la ∧ dec b.data.toList = some lb ∧ EncAns (la ++ lb) e)
theorem dec_len {b : List UInt8} {l : List (Int × Int × ByteArray)} (h : dec b = some l) : 0 < l.length ∧ l.length ≤ 6667 := by
  obtain ⟨h1, h2⟩ := dec_some h
  obtain ⟨-, -, -, -, -, h3⟩ := ends h1 h2
  exact ⟨List.length_pos_iff.2 h2, h3⟩
set_option maxHeartbeats 6400000 in
set_option maxRecDepth 100000 in
theorem Merge_any (a b : ByteArray) (w : World) (ha : a.size ≤ 1000000) (hb : b.size ≤ 1000000) :
    Calls Tryz.prog 27 #[.string a, .string b] w fun e w' => MrgAns a b e ∧ Below w.heap.size w w' := by
  have mixed : Tryz.prog.follows .mixedOrders = true := by kernel_rfl
  have HA := Lib.hid (Decode_any a w ha)
  have HBB := Lib.hid (fun w => Decode_any b w hb)
  go_enter Tryz.func27, Tryz.ntmps27
  go_wp2_with fail
  refine HA.out.mono ?_
  rintro e1 w1 ⟨hd, hb1⟩
  have HB1 := Lib.hid hb1
  clear HA hb1
  rcases hd with ⟨la, v, hla, rfl, hown⟩ | ⟨hla, x, rfl, hx⟩
  · have HL := Lib.hid (And.intro hla (dec_len hla))
    obtain ⟨A, c, rfl, hc1, hc2, hrd⟩ := hown.rd
    have HR := Lib.hid hrd
    clear hla hown hrd
    go_wp2_with fail
    refine (HBB.out _).mono ?_
    rintro e2 w2 ⟨hd, hb2⟩
    have hr1 := (HR.out.below hb2).more hb2.size
    have HB2 := Lib.hid (HB1.out.trans (hb2.mono HB1.out.size))
    clear HBB hb2 HR HB1
    rcases hd with ⟨lb, v, hlb, rfl, hown⟩ | ⟨hlb, x, rfl, hx⟩
    · have HM := Lib.hid (And.intro hlb (dec_len hlb))
      obtain ⟨A2, c2, rfl, hc3, hc4, hrd2⟩ := hown.rd
      obtain ⟨ad, rfl, -⟩ := hr1.cells HL.out.2.1
      have HR1 := Lib.hid hr1
      have HR2 := Lib.hid hrd2
      have hcm : c ≤ 9223372036854775807 := by unfold maxLen at hc2; omega
      have HLN := Lib.hid (show (la ++ lb).length ≤ 100000 by rw [List.length_append]; have := HL.out.2.2; have := HM.out.2.2; omega)
      generalize hn : la.length = n at *
      generalize hm : lb.length = m at *
      clear hn hm hlb hown hrd2 hr1 hc2 hc4
      go_wp2_with (at_builtin; refine appendR HR1.out HR2.out HL.out.2.1 HM.out.2.1 (by have := HL.out.2.2; have := HM.out.2.2; omega) ?_; intro v3 w3 hown3 hb3)
      obtain ⟨A3, c3, rfl, -, -, hrd3⟩ := hown3.rd
      have HE := Lib.hid (enc_any A3 _ c3 _ w3 hrd3 HLN.out)
      have HB3 := Lib.hid (HB2.out.trans (hb3.mono HB2.out.size))
      clear hown3 hrd3 hb3
      go_wp2_with fail
      refine HE.out.mono ?_
      rintro e4 w4 ⟨he, hb4⟩
      have HB4 := Lib.hid (HB3.out.trans (hb4.mono HB3.out.size))
      clear hb4 HE
      have he0 := he
      obtain ⟨S, rfl, -⟩ := he
      have HE0 := Lib.hid he0
      clear he0
      go_wp2_with fail
      go_ret2
      exact ⟨.inr ⟨la, lb, HL.out.1, HM.out.1, HE0.out⟩, HB4.out⟩
    · have HM := Lib.hid hlb
      have hb1 : (x != 0) = true := by rw [bne_iff_ne]; exact hx
      have hb2 : (x == 0) = false := by rw [beq_eq_false_iff_ne]; exact hx
      clear hlb hr1
      go_wp2_with fail
      go_ret2
      exact ⟨.inl ⟨.inr HM.out, x, rfl, hx⟩, HB2.out⟩
  · have HM := Lib.hid hla
    have hb1 : (x != 0) = true := by rw [bne_iff_ne]; exact hx
    have hb2 : (x == 0) = false := by rw [beq_eq_false_iff_ne]; exact hx
    clear hla
    go_wp2_with fail
    go_ret2
    exact ⟨.inl ⟨.inl HM.out, x, rfl, hx⟩, HB1.out⟩
end Bk
end Go.Proofs.YtnljhnckmgpllaaGreat
namespace Go.Proofs.YtnljhnckmgpllaaGreat
namespace Bk
open Go.RowKit Tk Vi Sq Rd

/-- A range as a value. -/
def rg (lo hi : Int) : Value := .agg #[.int .i64 lo, .int .i64 hi]
set_option maxHeartbeats 6400000 in
set_option maxRecDepth 100000 in
theorem seqs_any (raw c first early late : Nat) (w : World) (h : first + c ≤ 1000000000) :
    Calls Tryz.prog 31 #[magg 0 0 raw (c + 1 : Nat) first early late] w fun e w' => e = .returned (rg first (first + c : Nat)) ∧ Below w.heap.size w w' := by
  have mixed : Tryz.prog.follows .mixedOrders = true := by kernel_rfl
  have h1 : ¬ (((c + 1 : Nat) : Int) < 1) := by omega
  have h2 : IntKind.i64.wrap (((c + 1 : Nat) : Int) - 1) = (c : Int) := by rw [IntKind.wrap_i64]; omega
  have h3 : IntKind.i64.wrap (9223372036854775807 - (c : Int)) = 9223372036854775807 - (c : Int) := by rw [IntKind.wrap_i64]; omega
  have h4 : ¬ (9223372036854775807 - (c : Int) < (first : Int)) := by omega
  have h5 : IntKind.i64.wrap ((first : Int) + (c : Int)) = ((first + c : Nat) : Int) := by rw [IntKind.wrap_i64]; omega
  have HB := Lib.hid h
  clear h
  unfold magg rg
  generalize ((c + 1 : Nat) : Int) = C at *
  go_enter Tryz.func31, Tryz.ntmps31
  go_wp2_with fail
  refine bodyPost_ret (v := .agg #[.int .i64 first, .int .i64 ((first : Int) + c)]) (by simp [results, go_sem]) rfl ?_
  exact ⟨by simp, (ext_alloc w _).trans ((ext_alloc _ _).mono (by simp))⟩
set_option maxHeartbeats 6400000 in
set_option maxRecDepth 100000 in
theorem ticks_any (raw c first early late : Nat) (w : World) :
    Calls Tryz.prog 32 #[magg 0 0 raw (c + 1 : Nat) first early late] w fun e w' => e = .returned (rg early late) ∧ Below w.heap.size w w' := by
  have mixed : Tryz.prog.follows .mixedOrders = true := by kernel_rfl
  have h1 : ¬ (((c + 1 : Nat) : Int) < 1) := by omega
  unfold magg rg
  generalize ((c + 1 : Nat) : Int) = C at *
  go_enter Tryz.func32, Tryz.ntmps32
  go_wp2_with fail
  refine bodyPost_ret (v := .agg #[.int .i64 early, .int .i64 late]) (by simp [results, go_sem]) rfl ?_
  exact ⟨rfl, (ext_alloc w _).trans ((ext_alloc _ _).mono (by simp))⟩
set_option maxHeartbeats 6400000 in
set_option maxRecDepth 100000 in
theorem has_yes (lo hi n : Int) (w : World) (h1 : lo ≤ n) (h2 : n ≤ hi) :
    Calls Tryz.prog 30 #[rg lo hi, .int .i64 n] w fun e w' => e = .returned (.bool true) ∧ Below w.heap.size w w' := by
  have mixed : Tryz.prog.follows .mixedOrders = true := by kernel_rfl
  unfold rg
  go_enter Tryz.func30, Tryz.ntmps30
  go_wp2_with fail
  go_ret
  exact ⟨rfl, ext_alloc w _⟩
set_option maxHeartbeats 6400000 in
set_option maxRecDepth 100000 in
theorem empty_no (lo hi : Int) (w : World) (h : lo ≤ hi) :
    Calls Tryz.prog 61 #[rg lo hi] w fun e w' => e = .returned (.bool false) ∧ Below w.heap.size w w' := by
  have mixed : Tryz.prog.follows .mixedOrders = true := by kernel_rfl
  have h1 : ¬ (hi < lo) := by omega
  unfold rg
  go_enter Tryz.func61, Tryz.ntmps61
  go_wp2_with fail
  go_ret
  exact ⟨rfl, ext_alloc w _⟩
set_option maxHeartbeats 6400000 in
set_option maxRecDepth 100000 in
theorem size_yes (lo c : Nat) (w : World) (h : lo + c ≤ 1000000000) :
    Calls Tryz.prog 33 #[rg lo (lo + c : Nat)] w fun e w' => e = .returned (.int .i64 (c + 1 : Nat)) ∧ Below w.heap.size w w' := by
  have mixed : Tryz.prog.follows .mixedOrders = true := by kernel_rfl
  have HE := Lib.hid (fun w => empty_no lo (lo + c : Nat) w (by omega))
  unfold rg
  go_enter Tryz.func33, Tryz.ntmps33
  go_wp2_with fail
  refine (HE.out _).mono ?_
  rintro e1 w1 ⟨rfl, hb1⟩
  have c0 : w1.cell? ⟨w.heap.size, 0, none⟩ = some (.int .i64 (lo : Int)) := by rw [hb1.cell (p := ⟨w.heap.size, 0, none⟩) (by simp), World.cell?_alloc_new]; rfl
  have c1 : w1.cell? ⟨w.heap.size, 1, none⟩ = some (.int .i64 ((lo : Int) + (c : Int))) := by rw [hb1.cell (p := ⟨w.heap.size, 1, none⟩) (by simp), World.cell?_alloc_new]; rfl
  have HB := Lib.hid ((ext_alloc w _).trans (hb1.mono (by simp)))
  have HH := Lib.hid h
  clear HE hb1 h
  go_wp2_with fail
  · rename_i hh
    exfalso
    have := HH.out
    have u1 : IntKind.u64.wrap (IntKind.u64.wrap ((lo : Int) + c) - IntKind.u64.wrap lo) = c := by rw [IntKind.wrap_u64, IntKind.wrap_u64, IntKind.wrap_u64]; omega
    rw [u1] at hh
    omega
  · go_ret
    have := HH.out
    have u1 : IntKind.u64.wrap (IntKind.u64.wrap ((lo : Int) + c) - IntKind.u64.wrap lo) = c := by rw [IntKind.wrap_u64, IntKind.wrap_u64, IntKind.wrap_u64]; omega
    refine ⟨ret_int (k := .i64) ?_, HB.out⟩
    rw [u1, wrap64, wrap64]
    omega
end Bk
end Go.Proofs.YtnljhnckmgpllaaGreat
namespace Go.Proofs.YtnljhnckmgpllaaGreat
namespace Rd
open Go.RowKit

/-- What varvelaw15.Few tells. -/
def few (l : List (Int × Int × ByteArray)) : Bool := decide (l.length ≤ 200) && l.all fun r => decide (r.2.2.size ≤ 3000)
theorem few_big {l : List (Int × Int × ByteArray)} (h : 200 < l.length) : few l = false := by unfold few; rw [decide_eq_false (by omega)]; rfl
theorem few_no {l : List (Int × Int × ByteArray)} {k : Nat} {q t : Int} {d : ByteArray} (h : l[k]? = some (q, t, d)) (hd : 3000 < d.size) : few l = false := by
  unfold few
  rw [Bool.and_eq_false_iff]
  right
  rw [List.all_eq_false]
  exact ⟨_, List.mem_of_getElem? h, by simp only [decide_eq_true_eq]; omega⟩
theorem few_yes {l : List (Int × Int × ByteArray)} (h : l.length ≤ 200) (hd : ∀ k r, k < l.length → l[k]? = some r → r.2.2.size ≤ 3000) : few l = true := by
  unfold few
  rw [Bool.and_eq_true]
  refine ⟨decide_eq_true h, List.all_eq_true.2 fun x hx => ?_⟩
  obtain ⟨k, hk, rfl⟩ := List.getElem_of_mem hx
  exact decide_eq_true (hd k _ hk (List.getElem?_eq_getElem hk))
theorem few_len {l : List (Int × Int × ByteArray)} (h : few l = true) : l.length ≤ 200 := by
  unfold few at h
  rw [Bool.and_eq_true] at h
  exact of_decide_eq_true h.1

set_option maxHeartbeats 6400000 in
set_option maxRecDepth 100000 in
theorem few_any (A : Option Addr) (n c : Nat) (l : List (Int × Int × ByteArray)) (w : World) (hrd : Rd w w.heap.size 3 A n (fl3 l)) (hn : n ≤ c) (hc : c ≤ maxLen) :
    Calls Tryz.prog 19 #[.slice A n c] w fun e w' => e = .returned (.bool (few l)) ∧ w = w' := by
  have mixed : Tryz.prog.follows .mixedOrders = true := by kernel_rfl
  have hln := rd3_len hrd
  have hnm : n ≤ 9223372036854775807 := by unfold maxLen at hc; omega
  clear hn hc
  by_cases hb : 200 < n
  · have HF := Lib.hid (few_big (l := l) (by omega))
    have hb2 : (200 : Int) < (n : Int) := by omega
    clear hb hrd hln
    go_enter Tryz.func19, Tryz.ntmps19
    go_wp2_with fail
    go_ret
    exact ⟨ret_bool HF.out.symm, rfl⟩
  · have HR := Lib.hid hrd
    clear hrd
    go_enter Tryz.func19, Tryz.ntmps19
    go_wp2_with fail
    go_loopw [3] (fun v wr => ∃ k : Nat, v = .int .i64 k ∧ k ≤ n ∧ w = wr ∧ Hid (∀ j r, j < k → l[j]? = some r → r.2.2.size ≤ 3000)) (fun v _ => n - (intOf v).toNat)
    case atStart => exact ⟨0, by go_num, by omega, rfl, fun j r h => absurd h (by omega)⟩
    case round =>
      obtain ⟨k, rfl, hk, rfl, HX⟩ := hrel
      by_cases hkn : k < n
      · obtain ⟨ad, q, t, d, rfl, hbk, hx, hc0, hc1, hc2⟩ := rec3 HR.out hkn
        by_cases hd : d.size ≤ 3000
        · have hok : ∀ j r, j < k + 1 → l[j]? = some r → r.2.2.size ≤ 3000 := by
            intro j r hj hr
            rcases Nat.lt_or_ge j k with h | h
            · exact HX.out j r h hr
            · obtain rfl : j = k := by omega
              rw [hx] at hr; cases hr; exact hd
          have HOK := Lib.hid hok
          have hd2 : ¬ (3000 : Int) < (d.size : Int) := by omega
          clear hok hx hc0 hc1 HX
          go_wp2_with fail
          exact ⟨⟨k + 1, by go_num, by omega, trivial, HOK.out⟩, by simp [intOf]; omega⟩
        · have HF := Lib.hid (few_no hx (by omega))
          have hd2 : (3000 : Int) < (d.size : Int) := by omega
          clear hx hc0 hc1 HX
          go_wp2_with fail
          go_ret
          exact ⟨ret_bool HF.out.symm, rfl⟩
      · obtain rfl : k = n := by omega
        have HF := Lib.hid (few_yes (l := l) (by omega) (by rw [hln]; exact HX.out))
        clear HX HR
        go_wp2_with fail
        go_ret
        exact ⟨ret_bool HF.out.symm, rfl⟩
set_option maxHeartbeats 6400000 in
set_option maxRecDepth 100000 in
/-- The same records twice. -/
theorem same_yes (A B : Option Addr) (n c d : Nat) (l : List (Int × Int × ByteArray)) (w : World) (hrd : Rd w w.heap.size 3 A n (fl3 l)) (hrd2 : Rd w w.heap.size 3 B n (fl3 l)) (hn : n ≤ 100000) :
    Calls Tryz.prog 25 #[.slice A n c, .slice B n d] w fun e w' => e = .returned (.bool true) ∧ Below w.heap.size w w' := by
  have mixed : Tryz.prog.follows .mixedOrders = true := by kernel_rfl
  have HR := Lib.hid (And.intro hrd hrd2)
  clear hrd hrd2
  go_enter Tryz.func25, Tryz.ntmps25
  go_wp2_with fail
  go_loopw [5] (fun v wr => ∃ k : Nat, v = .int .i64 k ∧ k ≤ n ∧ Hid (Below w.heap.size w wr)) (fun v _ => n - (intOf v).toNat)
  case atStart => exact ⟨0, by go_num, by omega, Below.refl _ _⟩
  case round =>
    obtain ⟨k, rfl, hk, HX⟩ := hrel
    by_cases hkn : k < n
    · obtain ⟨ad, q, t, x, rfl, hbk, hx, hc0, hc1, hc2⟩ := rec3 (HR.out.1.below HX.out) hkn
      obtain ⟨ad', q', t', x', rfl, hbk', hx', hd0, hd1, hd2⟩ := rec3 (HR.out.2.below HX.out) hkn
      rw [hx] at hx'
      simp only [Option.some.injEq, Prod.mk.injEq] at hx'
      obtain ⟨rfl, rfl, rfl⟩ := hx'
      have i1 : (0 : Int) ≤ (k : Int) := by omega
      have i2 : (k : Int) < (n : Int) := by omega
      have i3 : IntKind.i64.wrap (k : Int) = (k : Int) := by rw [IntKind.wrap_i64]; omega
      have HB := Lib.hid HX.out
      clear hx hbk hbk' HX HR
      go_wp2_with fail
      go_quiet (fail)
      go_wp2_with fail
      exact ⟨⟨k + 1, by go_num, by omega, below_drewN HB.out _⟩, by simp [intOf]; omega⟩
    · obtain rfl : k = n := by omega
      have HB := Lib.hid HX.out
      clear HX HR
      go_wp2_with fail
      go_ret
      exact ⟨rfl, HB.out⟩
end Rd
end Go.Proofs.YtnljhnckmgpllaaGreat
namespace Go.Proofs.YtnljhnckmgpllaaGreat
namespace Bt
theorem bl_le {n k : Nat} (h : n < 2 ^ k) : bl n ≤ k := by
  rcases Nat.eq_zero_or_pos n with rfl | hn
  · simp [bl]
  · obtain ⟨h1, -, h3⟩ := bl_spec n hn
    have h4 : 2 ^ (bl n - 1) < 2 ^ k := by omega
    have := (Nat.pow_lt_pow_iff_right (by omega)).1 h4
    omega
theorem bl_add (a b : Nat) : bl (a + b) ≤ bl a + bl b + 1 := by
  rcases Nat.eq_zero_or_pos a with rfl | ha
  · rw [Nat.zero_add]; omega
  rcases Nat.eq_zero_or_pos b with rfl | hb
  · rw [Nat.add_zero]; omega
  obtain ⟨-, h1, -⟩ := bl_spec a ha
  obtain ⟨-, h2, -⟩ := bl_spec b hb
  refine bl_le ?_
  have e1 : 2 ^ bl a ≤ 2 ^ (bl a + bl b) := Nat.pow_le_pow_right (by omega) (by omega)
  have e2 : 2 ^ bl b ≤ 2 ^ (bl a + bl b) := Nat.pow_le_pow_right (by omega) (by omega)
  rw [Nat.pow_succ]; omega
end Bt
namespace Tb
def gl (m : Nat) : Nat := if m = 0 then 0 else 3 + 2 * Bt.bl m
theorem tb_len : ∀ (R : List (Int × Int)) (last : Int), Good last R → gl (flat R).length ≤ (tb R).length
  | [], _, _ => by simp [gl, flat]
  | x :: R, last, h => by
    have ih := tb_len R x.1 h.2.2.2.2
    have hx := h.2.2.2.1
    have e : tb (x :: R) = (Bt.toB 4 x.1.toNat ++ Bt.gam x.2.toNat) ++ tb R := rfl
    have e2 : (flat (x :: R)).length = x.2.toNat + (flat R).length := by
      show (List.replicate x.2.toNat x.1 ++ flat R).length = _
      simp
    rw [e, e2, List.length_append, List.length_append, Bt.length_toB, Bt.length_gam _ (by omega)]
    have h1 := (Bt.bl_spec x.2.toNat (by omega)).2.2
    have h2 := Bt.bl_add x.2.toNat (flat R).length
    unfold gl at *
    rw [if_neg (by omega)]
    split at ih
    · rename_i h0
      rw [h0, Nat.add_zero]; omega
    · omega
end Tb
namespace Hf
theorem hb_big (syms : List Int) : 21 ≤ (hb syms).length := by
  have hg := Tb.runs_good (lns syms) (lns_good syms).rng
  have h1 := Tb.tb_len _ _ hg.1
  rw [hg.2, length_lns] at h1
  have h2 : Tb.gl 257 = 21 := by decide +kernel
  unfold hb
  rw [List.length_append]
  omega
end Hf
namespace Bk
open Vi Sq Rd

/-- A short text is never packed. -/
theorem packed_big (s : List UInt8) (A : List Nat) : 6 ≤ (packed s A).length := by
  have h3 := Hf.hb_big (sy s A)
  have h4 := Bt.length_byt (Hf.hb (sy s A))
  have := length_putV_pos s.length
  have := length_putV_pos (Bw.pri A)
  have := length_putV_pos (sy s A).length
  have : Hf.hbyt (sy s A) = Bt.byt (Hf.hb (sy s A)) := rfl
  unfold packed; simp only [List.length_append, this]; omega
theorem isP_short {l : List (Int × Int × ByteArray)} (A : List Nat) (h : (joinB l).length ≤ 6) : isP l A = false := by
  have := packed_big (joinB l) A
  unfold isP; rw [decide_eq_false_iff_not]; omega

/-- The probe's record. -/
def hi : ByteArray := ⟨#[104, 105]⟩
def l0 : List (Int × Int × ByteArray) := [(1, 300, hi)]
def b0 : ByteArray := ⟨#[0, 6, 1, 1, 172, 2, 0, 1, 172, 2, 2, 104, 105]⟩
theorem put1 : putV 1 = [1] := by rw [putV_small (by omega)]; rfl
theorem put2 : putV 2 = [2] := by rw [putV_small (by omega)]; rfl
theorem put0 : putV 0 = [0] := by rw [putV_small (by omega)]; rfl
theorem put6 : putV 6 = [6] := by rw [putV_small (by omega)]; rfl
theorem put300 : putV 300 = [172, 2] := by rw [putV_step (by omega), show 300 / 128 = 2 from rfl, put2]; rfl
theorem joinB_l0 : joinB l0 = [1, 172, 2, 2, 104, 105] := by
  show recB (1, 300, hi) ++ [] = _
  unfold recB
  show (putV 1 ++ (putV 300 ++ (putV 2 ++ [104, 105]))) ++ [] = _
  rw [put1, put300, put2]; rfl
theorem row_l0 : rowE none l0 = 0 := by decide
theorem jE_l0 : jE l0 = 0 := by
  unfold jE
  rw [if_neg (by rw [row_l0]; decide), if_neg (by rw [joinB_l0]; decide)]
theorem encE_l0 : encE l0 = 0 := by unfold encE; rw [if_neg (by decide)]; exact jE_l0
theorem blk_l0 (A : List Nat) : blk l0 A = b0.data.toList := by
  have h1 : isP l0 A = false := isP_short A (by rw [joinB_l0]; decide)
  have h2 : (joinB l0).length = 6 := by rw [joinB_l0]; rfl
  have h3 : hd5 l0 = [6, 1, 1, 300, 0] := by unfold hd5; rw [h2]; rfl
  unfold blk mode body
  rw [if_neg (by rw [h1]; decide), if_neg (by rw [h1]; decide), h3, joinB_l0]
  show _ :: ((putV 6 ++ (putV 1 ++ (putV 1 ++ (putV 300 ++ (putV 0 ++ []))))) ++ _) = _
  rw [put6, put1, put300, put0]; rfl
theorem sorted_l0 : Sx.Sorted (joinB l0) [6, 0, 2, 3, 4, 5, 1] := by rw [joinB_l0]; exact ⟨by decide, by decide⟩
theorem dec_b0 : dec b0.data.toList = some l0 := by
  have := dec_blk jE_l0 (by decide) sorted_l0
  rwa [blk_l0] at this
theorem peek_b0 : ∃ r, peekB b0.data.toList = some (0, 6, 1, 1, 300, 300, r) := by
  have := peek_blk [6, 0, 2, 3, 4, 5, 1] jE_l0 (by decide)
  rw [blk_l0] at this
  have h1 : isP l0 [6, 0, 2, 3, 4, 5, 1] = false := isP_short _ (by rw [joinB_l0]; decide)
  have h2 : mode l0 [6, 0, 2, 3, 4, 5, 1] = 0 := by unfold mode; rw [h1]; rfl
  rw [h2, joinB_l0] at this
  exact ⟨_, this⟩
theorem encE_l0l0 : encE (l0 ++ l0) = 151 := by
  unfold encE jE
  rw [if_neg (by decide)]
  have : rowE none (l0 ++ l0) = 151 := by decide
  rw [this]; rfl

/-! Parts of a row. -/
theorem row_take : ∀ (l : List (Int × Int × ByteArray)) (p : Option (Int × Int × ByteArray)) (k : Nat), rowE p l = 0 → rowE p (l.take k) = 0
  | [], _, k, _ => by rw [List.take_nil]; rfl
  | x :: l, p, 0, _ => rfl
  | x :: l, p, k + 1, h => by
    rw [List.take_succ_cons]
    rw [rowE] at h ⊢
    split at h; · simp at h
    split at h; · simp at h
    rename_i h1 h2
    rw [if_neg h1, if_neg h2]
    exact row_take l (some x) k h
theorem row_none : ∀ (l : List (Int × Int × ByteArray)) (p : Option (Int × Int × ByteArray)), rowE p l = 0 → rowE none l = 0
  | [], _, _ => rfl
  | x :: l, p, h => by
    rw [rowE] at h ⊢
    split at h; · simp at h
    split at h; · simp at h
    rename_i h1 h2
    rw [if_neg h1, if_neg (by simp [off])]
    exact h
theorem row_drop : ∀ (l : List (Int × Int × ByteArray)) (p : Option (Int × Int × ByteArray)) (k : Nat), rowE p l = 0 → rowE none (l.drop k) = 0
  | l, p, 0, h => row_none l p h
  | [], _, k + 1, _ => rfl
  | x :: l, p, k + 1, h => by
    rw [List.drop_succ_cons]
    rw [rowE] at h
    split at h; · simp at h
    split at h; · simp at h
    exact row_drop l (some x) k h
theorem jE_of_row {l : List (Int × Int × ByteArray)} (h : rowE none l = 0) : jE l = if 20000 < (joinB l).length then 3 else 0 := by unfold jE; rw [if_neg (by simp [h])]
theorem jE_cases {l : List (Int × Int × ByteArray)} (h : rowE none l = 0) : (20000 < (joinB l).length ∧ jE l = 3) ∨ ((joinB l).length ≤ 20000 ∧ jE l = 0) := by
  rw [jE_of_row h]
  split
  · exact .inl ⟨by assumption, rfl⟩
  · exact .inr ⟨by omega, rfl⟩
theorem joinB_cat (a b : List (Int × Int × ByteArray)) : (joinB (a ++ b)).length = (joinB a).length + (joinB b).length := by
  have : joinB (a ++ b) = joinB a ++ joinB b := List.flatMap_append ..
  rw [this, List.length_append]
/-- Where a part's block is none, the whole's is none, for the same reason. -/
theorem enc_part {l : List (Int × Int × ByteArray)} {k : Nat} (h : rowE none l = 0) (hk : 0 < k) (hkl : k < l.length) (hp : encE (l.take k) ≠ 0 ∨ encE (l.drop k) ≠ 0) : encE l = 3 := by
  have hn : l ≠ [] := by rintro rfl; simp at hkl
  have hn1 : l.take k ≠ [] := by intro e; have := congrArg List.length e; rw [List.length_take, List.length_nil] at this; omega
  have hn2 : l.drop k ≠ [] := by intro e; have := congrArg List.length e; rw [List.length_drop, List.length_nil] at this; omega
  have hj := joinB_cat (l.take k) (l.drop k)
  rw [List.take_append_drop] at hj
  unfold encE at *
  rw [if_neg hn]
  rw [if_neg hn1, if_neg hn2] at hp
  rcases jE_cases h with ⟨h1, h2⟩ | ⟨h1, h2⟩
  · exact h2
  · exfalso
    rcases jE_cases (row_take l none k h) with ⟨a1, a2⟩ | ⟨a1, a2⟩
    · omega
    rcases jE_cases (row_drop l none k h) with ⟨b1, b2⟩ | ⟨b1, b2⟩
    · omega
    rcases hp with hp | hp
    · exact hp a2
    · exact hp b2
theorem enc_row {l : List (Int × Int × ByteArray)} (h : rowE none l = 0) (hn : l ≠ []) : encE l = 0 ∨ encE l = 3 := by
  unfold encE
  rw [if_neg hn]
  rcases jE_cases h with ⟨-, h2⟩ | ⟨-, h2⟩
  · exact .inr h2
  · exact .inl h2
end Bk
end Go.Proofs.YtnljhnckmgpllaaGreat
namespace Go.Proofs.YtnljhnckmgpllaaGreat
namespace Bk
open Go.RowKit Tk Vi Sq Rd

/-- Encode, where there is a block. -/
theorem enc_dec (A : Option Addr) (n c : Nat) (l : List (Int × Int × ByteArray)) (w : World) (hrd : Rd w w.heap.size 3 A n (fl3 l)) (hn : n ≤ 100000) (h : encE l = 0) :
    Calls Tryz.prog 22 #[.slice A n c] w fun e w' => (∃ (S : ByteArray) (arr : List Nat), e = .returned (.tuple #[.string S, .int .i64 0]) ∧ Sx.Sorted (joinB l) arr ∧ S.data.toList = blk l arr ∧ S.size ≤ (joinB l).length + 26 ∧ S.size ≤ 20026 ∧ dec S.data.toList = some l) ∧ Below w.heap.size w w' := by
  refine (enc_any A n c l w hrd hn).mono ?_
  rintro e w' ⟨⟨S, rfl, -, h2⟩, hb⟩
  obtain ⟨arr, hso, rfl⟩ := h2 h
  obtain ⟨hj, hl⟩ := enc_ok h
  have h3 := blk_len (A := arr) hj hl
  have h4 := (jE_row hj).2
  have h5 : (⟨(blk l arr).toArray⟩ : ByteArray).size = (blk l arr).length := by simp [ByteArray.size]
  exact ⟨⟨_, arr, by rw [h], hso, rfl, by omega, by omega, dec_blk hj hl hso⟩, hb⟩
/-- Encode, where there is none. -/
theorem enc_not (A : Option Addr) (n c : Nat) (l : List (Int × Int × ByteArray)) (w : World) (hrd : Rd w w.heap.size 3 A n (fl3 l)) (hn : n ≤ 100000) (h : encE l ≠ 0) :
    Calls Tryz.prog 22 #[.slice A n c] w fun e w' => e = .returned (.tuple #[.string ⟨#[]⟩, .int .i64 (encE l)]) ∧ Below w.heap.size w w' := by
  refine (enc_any A n c l w hrd hn).mono ?_
  rintro e w' ⟨⟨S, rfl, h1, -⟩, hb⟩
  rw [h1 h]
  exact ⟨rfl, hb⟩
theorem dec_yes (s : ByteArray) (l : List (Int × Int × ByteArray)) (w : World) (hs : s.size ≤ 1000000) (h : dec s.data.toList = some l) :
    Calls Tryz.prog 24 #[.string s] w fun e w' => (∃ A c, e = .returned (.tuple #[.slice A l.length c, .int .i64 0]) ∧ Rd w' w'.heap.size 3 A l.length (fl3 l)) ∧ Below w.heap.size w w' := by
  refine (Decode_any s w hs).mono ?_
  rintro e w' ⟨⟨l', v, hl, rfl, hown⟩ | ⟨hl, -⟩, hb⟩
  · rw [h] at hl
    obtain rfl := Option.some.inj hl
    obtain ⟨A, c, rfl, -, -, hr⟩ := hown.rd
    exact ⟨⟨A, c, rfl, hr⟩, hb⟩
  · rw [h] at hl; cases hl

/-- The probe's bytes. -/
def b0l : Value := .string ⟨#[0, 6, 1, 1, 172, 2, 0, 1, 172, 2, 2, 104, 105]⟩
theorem rd_l0 (w : World) : Rd (w.alloc (.cells #[.int .i64 1, .int .i64 300, .string ⟨#[104, 105]⟩] 57)) (w.heap.size + 1) 3 (some ⟨w.heap.size, 0, none⟩) 1 (fl3 l0) := by
  refine ⟨rfl, fun _ => ⟨_, rfl, Nat.lt_succ_self _, fun j u hu => ?_⟩⟩
  rw [Addr.add_lit, Nat.zero_add, World.cell?_alloc_new]
  simpa [fl3, cl3, l0, hi] using hu
theorem enc_l0 (A : Option Addr) (c : Nat) (w : World) (hrd : Rd w w.heap.size 3 A 1 (fl3 l0)) :
    Calls Tryz.prog 22 #[.slice A 1 c] w fun e w' => e = .returned (.tuple #[b0l, .int .i64 0]) ∧ Below w.heap.size w w' := by
  refine (enc_dec A 1 c l0 w hrd (by omega) encE_l0).mono ?_
  rintro e w' ⟨⟨S, arr, rfl, -, hS, -⟩, hb⟩
  have : S = b0 := by
    rw [blk_l0] at hS
    obtain ⟨⟨S⟩⟩ := S
    have h2 : S = b0.data.toList := hS
    rw [h2]
  rw [this]
  exact ⟨rfl, hb⟩
theorem enc_nil (w : World) : Calls Tryz.prog 22 #[.slice none 0 0] w fun e w' => e = .returned (.tuple #[.string ⟨#[]⟩, .int .i64 2]) ∧ Below w.heap.size w w' := by
  have h : encE [] = 2 := if_pos rfl
  refine (enc_not none 0 0 [] w Rd.nil (by omega) (by rw [h]; decide)).mono ?_
  rintro e w' ⟨rfl, hb⟩
  rw [h]
  exact ⟨rfl, hb⟩
theorem peek_b0l (w : World) : Calls Tryz.prog 28 #[b0l] w fun e w' => e = .returned (.tuple #[magg 0 0 6 1 1 300 300, .int .i64 0]) ∧ Below w.heap.size w w' := by
  refine (Peek_any b0 w (by decide)).mono ?_
  obtain ⟨r, hr⟩ := peek_b0
  rintro e w' ⟨⟨md, raw, count, first, early, late, r', h, rfl⟩ | ⟨h, -⟩, hb⟩
  · rw [hr] at h
    simp only [Option.some.injEq, Prod.mk.injEq] at h
    obtain ⟨-, rfl, rfl, rfl, rfl, rfl, -⟩ := h
    exact ⟨rfl, hb⟩
  · rw [hr] at h; cases h
theorem dec_b0l (w : World) : Calls Tryz.prog 24 #[b0l] w fun e w' => (∃ A c, e = .returned (.tuple #[.slice A 1 c, .int .i64 0]) ∧ Rd w' w'.heap.size 3 A 1 (fl3 l0)) ∧ Below w.heap.size w w' := dec_yes b0 l0 w (by decide) dec_b0
theorem merge_b0l (w : World) : Calls Tryz.prog 27 #[b0l, b0l] w fun e w' => e = .returned (.tuple #[.string ⟨#[]⟩, .int .i64 151]) ∧ Below w.heap.size w w' := by
  refine (Merge_any b0 b0 w (by decide) (by decide)).mono ?_
  rintro e w' ⟨⟨h | h, -⟩ | ⟨la, lb, h1, h2, S, rfl, h3, -⟩, hb⟩
  · rw [dec_b0] at h; cases h
  · rw [dec_b0] at h; cases h
  · rw [dec_b0] at h1 h2
    obtain rfl := Option.some.inj h1
    obtain rfl := Option.some.inj h2
    rw [h3 (by rw [encE_l0l0]; decide), encE_l0l0]
    exact ⟨rfl, hb⟩
theorem seqs_l0 (w : World) : Calls Tryz.prog 31 #[magg 0 0 6 1 1 300 300] w fun e w' => e = .returned (rg 1 1) ∧ Below w.heap.size w w' := seqs_any 6 0 1 300 300 w (by omega)
theorem ticks_l0 (w : World) : Calls Tryz.prog 32 #[magg 0 0 6 1 1 300 300] w fun e w' => e = .returned (rg 300 300) ∧ Below w.heap.size w w' := ticks_any 6 0 1 300 300 w

set_option maxHeartbeats 6400000 in
set_option maxRecDepth 100000 in
theorem bawake_any (w : World) : Calls Tryz.prog 21 #[] w fun e w' => e = .returned (.bool true) ∧ Below w.heap.size w w' := by
  have mixed : Tryz.prog.follows .mixedOrders = true := by kernel_rfl
  have hr0 := rd_l0 w
  have hbw := ext_alloc w (.cells #[.int .i64 1, .int .i64 300, .string ⟨#[104, 105]⟩] 57)
  have H0 := Lib.hid (And.intro hr0 hbw)
  clear hr0 hbw
  go_enter Tryz.func21, Tryz.ntmps21
  go_wp2_with fail
  refine (enc_l0 _ _ _ (H0.out.1.more (by simp))).mono ?_
  rintro e1 w1 ⟨rfl, hb1⟩
  have H1 := Lib.hid (show Rd w1 (w.heap.size + 1) 3 (some ⟨w.heap.size, 0, none⟩) 1 (fl3 l0) ∧ Below w.heap.size w w1 ∧ w.heap.size + 1 ≤ w1.heap.size from
    ⟨H0.out.1.below (hb1.mono (by simp)), H0.out.2.trans (hb1.mono (by simp)), by have := hb1.size; simp at this; omega⟩)
  clear H0 hb1
  unfold b0l
  go_wp2_with fail
  refine (peek_b0l w1).mono ?_
  rintro e2 w2 ⟨rfl, hb2⟩
  have hB2 : w.heap.size + 1 ≤ w2.heap.size := by have := hb2.size; have := H1.out.2.2; omega
  have hbw2 := H1.out.2.1.trans (hb2.mono H1.out.2.1.size)
  have hr2 := (H1.out.1.below (hb2.mono H1.out.2.2)).alloc hB2 (.cells #[.int .i64 0, .int .i64 0, .int .i64 6, .int .i64 1, .int .i64 1, .int .i64 300, .int .i64 300] 49)
  have hbf := hbw2.alloc (o := .cells #[.int .i64 0, .int .i64 0, .int .i64 6, .int .i64 1, .int .i64 1, .int .i64 300, .int .i64 300] 49) hbw2.size
  have hmf : Mb (w2.alloc (.cells #[.int .i64 0, .int .i64 0, .int .i64 6, .int .i64 1, .int .i64 1, .int .i64 300, .int .i64 300] 49)) w2.heap.size 0 0 6 1 1 300 300 := heap_alloc_new w2 _
  have H2 := Lib.hid (And.intro hmf (And.intro hr2 hbf))
  have hF : w.heap.size + 1 ≤ w2.heap.size := hB2
  have HF := Lib.hid hF
  clear hmf hr2 hbf hb2 hB2 hbw2 hF H1
  unfold magg
  go_wp2_with fail
  refine (dec_b0l _).mono ?_
  rintro e3 w3 ⟨⟨A3, c3, rfl, hr3⟩, hb3⟩
  have hs3 := hb3.size
  simp at hs3
  have H3 := Lib.hid (show Mb w3 w2.heap.size 0 0 6 1 1 300 300 ∧ Rd w3 (w.heap.size + 1) 3 (some ⟨w.heap.size, 0, none⟩) 1 (fl3 l0) ∧ Below w.heap.size w w3 ∧ Rd w3 w3.heap.size 3 A3 1 (fl3 l0) ∧ w2.heap.size + 1 ≤ w3.heap.size from
    ⟨H2.out.1.below hb3 (by simp), H2.out.2.1.below (hb3.mono (by have := HF.out; simp; omega)), H2.out.2.2.trans (hb3.mono H2.out.2.2.size), hr3, hs3⟩)
  clear H2 hb3 hr3 hs3
  go_wp2_with fail
  refine (enc_nil w3).mono ?_
  rintro e4 w4 ⟨rfl, hb4⟩
  have H4 := Lib.hid (show Mb w4 w2.heap.size 0 0 6 1 1 300 300 ∧ Rd w4 (w.heap.size + 1) 3 (some ⟨w.heap.size, 0, none⟩) 1 (fl3 l0) ∧ Below w.heap.size w w4 ∧ Rd w4 w4.heap.size 3 A3 1 (fl3 l0) ∧ w2.heap.size + 1 ≤ w4.heap.size from
    ⟨H3.out.1.below hb4 H3.out.2.2.2.2, H3.out.2.1.below (hb4.mono (by have := HF.out; have := H3.out.2.2.2.2; omega)), H3.out.2.2.1.trans (hb4.mono H3.out.2.2.1.size), (H3.out.2.2.2.1.below hb4).more hb4.size, by have := hb4.size; have := H3.out.2.2.2.2; omega⟩)
  clear H3 hb4
  go_wp2_with fail
  refine (merge_b0l w4).mono ?_
  rintro e5 w5 ⟨rfl, hb5⟩
  have H5 := Lib.hid (show Mb w5 w2.heap.size 0 0 6 1 1 300 300 ∧ Rd w5 (w.heap.size + 1) 3 (some ⟨w.heap.size, 0, none⟩) 1 (fl3 l0) ∧ Below w.heap.size w w5 ∧ Rd w5 w5.heap.size 3 A3 1 (fl3 l0) ∧ w2.heap.size + 1 ≤ w5.heap.size from
    ⟨H4.out.1.below hb5 H4.out.2.2.2.2, H4.out.2.1.below (hb5.mono (by have := HF.out; have := H4.out.2.2.2.2; omega)), H4.out.2.2.1.trans (hb5.mono H4.out.2.2.1.size), (H4.out.2.2.2.1.below hb5).more hb5.size, by have := hb5.size; have := H4.out.2.2.2.2; omega⟩)
  have k0 := H5.out.1.c0
  have k1 := H5.out.1.c1
  have k2 := H5.out.1.c2
  have k3 := H5.out.1.c3
  have k4 := H5.out.1.c4
  have k5 := H5.out.1.c5
  have k6 := H5.out.1.c6
  have HS := Lib.hid (fun c d => same_yes A3 (some ⟨w.heap.size, 0, none⟩) 1 c d l0 w5 H5.out.2.2.2.1 (H5.out.2.1.more (by have := HF.out; have := H5.out.2.2.2.2; omega)) (by omega))
  clear H4 hb5
  go_wp2_with fail
  refine (HS.out _ _).mono ?_
  rintro e6 w6 ⟨rfl, hb6⟩
  have H6 := Lib.hid (show Mb w6 w2.heap.size 0 0 6 1 1 300 300 ∧ Below w.heap.size w w6 ∧ w2.heap.size + 1 ≤ w6.heap.size from
    ⟨H5.out.1.below hb6 H5.out.2.2.2.2, H5.out.2.2.1.trans (hb6.mono H5.out.2.2.1.size), by have := hb6.size; have := H5.out.2.2.2.2; omega⟩)
  clear k0 k1 k2 k3 k4 k5 k6 H5 hb6 HS
  have k0 := H6.out.1.c0
  have k1 := H6.out.1.c1
  have k2 := H6.out.1.c2
  have k3 := H6.out.1.c3
  have k4 := H6.out.1.c4
  have k5 := H6.out.1.c5
  have k6 := H6.out.1.c6
  go_wp2_with fail
  refine (seqs_l0 w6).mono ?_
  rintro e7 w7 ⟨rfl, hb7⟩
  have H7 := Lib.hid (show Mb w7 w2.heap.size 0 0 6 1 1 300 300 ∧ Below w.heap.size w w7 from
    ⟨H6.out.1.below hb7 H6.out.2.2, H6.out.2.1.trans (hb7.mono H6.out.2.1.size)⟩)
  clear k0 k1 k2 k3 k4 k5 k6 H6 hb7
  have k0 := H7.out.1.c0
  have k1 := H7.out.1.c1
  have k2 := H7.out.1.c2
  have k3 := H7.out.1.c3
  have k4 := H7.out.1.c4
  have k5 := H7.out.1.c5
  have k6 := H7.out.1.c6
  unfold rg
  go_wp2_with fail
  refine (ticks_l0 w7).mono ?_
  rintro e8 w8 ⟨rfl, hb8⟩
  have H8 := Lib.hid (H7.out.2.trans (hb8.mono H7.out.2.size))
  clear k0 k1 k2 k3 k4 k5 k6 H7 hb8
  unfold rg
  go_wp2_with fail
  go_ret
  exact ⟨rfl, H8.out⟩
end Bk
end Go.Proofs.YtnljhnckmgpllaaGreat
namespace Go.Proofs.YtnljhnckmgpllaaGreat
namespace Bk
open Go.RowKit Tk Vi Sq Rd

set_option maxHeartbeats 6400000 in
set_option maxRecDepth 100000 in
theorem again_law (s : ByteArray) (w : World) : Calls Tryz.prog 8 #[.string s] w fun e w' => e = .returned (.bool true) ∧ Below w.heap.size w w' := by
  have mixed : Tryz.prog.follows .mixedOrders = true := by kernel_rfl
  by_cases hs : 3000 < s.size
  · go_enter Tryz.func8, Tryz.ntmps8
    go_wp2_with fail
    refine (bawake_any w).mono ?_
    rintro e1 w1 ⟨rfl, hb⟩
    have HB := Lib.hid hb
    clear hb
    go_wp2_with fail
    go_ret
    exact ⟨rfl, HB.out⟩
  have HD := Lib.hid (Decode_any s w (by omega))
  go_enter Tryz.func8, Tryz.ntmps8
  go_wp2_with fail
  refine HD.out.mono ?_
  rintro e1 w1 ⟨hd, hb1⟩
  have HB1 := Lib.hid hb1
  clear HD hb1
  rcases hd with ⟨l, v, hl, rfl, hown⟩ | ⟨hl, x, rfl, hx⟩
  · have hlen := dec_len hl
    obtain ⟨hj, hn⟩ := dec_some hl
    obtain ⟨A, c, rfl, hc1, hc2, hrd⟩ := hown.rd
    have henc : encE l = 0 := by unfold encE; rw [if_neg hn]; exact hj
    have HE := Lib.hid (enc_dec A l.length c l w1 hrd (by omega) henc)
    have HR := Lib.hid hrd
    generalize hln : l.length = n at *
    obtain ⟨m, rfl⟩ : ∃ m, n = m + 1 := ⟨n - 1, by omega⟩
    have HL := Lib.hid hln
    have HM := Lib.hid hlen.2
    clear hln hlen hown hrd hj hn henc hl hc1 hc2
    go_wp2_with fail
    refine HE.out.mono ?_
    rintro e2 w2 ⟨⟨S, arr, rfl, -, -, -, hS, hdec⟩, hb2⟩
    have HDY := Lib.hid (dec_yes S l w2 (by omega) hdec)
    have HR2 := Lib.hid ((HR.out.below hb2).more hb2.size)
    have HB2 := Lib.hid (HB1.out.trans (hb2.mono HB1.out.size))
    clear hb2 HE HR HB1 hdec hS
    go_wp2_with fail
    refine HDY.out.mono ?_
    rintro e3 w3 ⟨⟨A3, c3, rfl, hr3⟩, hb3⟩
    rw [HL.out] at hr3 ⊢
    have HR3 := Lib.hid ((HR2.out.below hb3).more hb3.size)
    have HB3 := Lib.hid (HB2.out.trans (hb3.mono HB2.out.size))
    have HSM := Lib.hid (same_yes A3 A (m + 1) c3 c l w3 hr3 HR3.out (by have := HM.out; omega))
    clear hr3 hb3 HR2 HB2 HDY
    go_wp2_with fail
    refine HSM.out.mono ?_
    rintro e4 w4 ⟨rfl, hb4⟩
    have HB4 := Lib.hid (HB3.out.trans (hb4.mono HB3.out.size))
    clear hb4 HSM HB3
    go_wp2_with fail
    refine (bawake_any w4).mono ?_
    rintro e5 w5 ⟨rfl, hb5⟩
    have HB5 := Lib.hid (HB4.out.trans (hb5.mono HB4.out.size))
    clear hb5
    go_wp2_with fail
    go_ret
    exact ⟨rfl, HB5.out⟩
  · have hb1 : (x != 0) = true := by rw [bne_iff_ne]; exact hx
    have hb2 : (x == 0) = false := by rw [beq_eq_false_iff_ne]; exact hx
    clear hl
    go_wp2_with fail
    refine (bawake_any w1).mono ?_
    rintro e5 w5 ⟨rfl, hb5⟩
    have HB5 := Lib.hid (HB1.out.trans (hb5.mono HB1.out.size))
    clear hb5
    go_wp2_with fail
    go_ret
    exact ⟨rfl, HB5.out⟩

set_option maxHeartbeats 6400000 in
set_option maxRecDepth 100000 in
theorem small_law (A : Option Addr) (n c : Nat) (l : List (Int × Int × ByteArray)) (w : World) (hrd : Rd w w.heap.size 3 A n (fl3 l)) (hnc : n ≤ c) (hcm : c ≤ maxLen) :
    Calls Tryz.prog 11 #[.slice A n c] w fun e w' => e = .returned (.bool true) ∧ Below w.heap.size w w' := by
  have mixed : Tryz.prog.follows .mixedOrders = true := by kernel_rfl
  have HF := Lib.hid (few_any A n c l w hrd hnc hcm)
  have hln := rd3_len hrd
  by_cases hf : few l = true
  · have hF := HF.out
    rw [hf] at hF
    have HF2 := Lib.hid hF
    have hl200 := few_len hf
    rw [hln] at hl200
    clear hF HF hf hnc hcm
    by_cases he : encE l = 0
    · have HE := Lib.hid (enc_dec A n c l w hrd (by omega) he)
      have hrow := (jE_row (enc_ok he).1).1
      have HOK := Lib.hid (rowE_ok l none hrow)
      have HRS := Lib.hid (fun q t d w h => rsize_any q t d w h)
      have hj2 := (jE_row (enc_ok he).1).2
      have HR := Lib.hid hrd
      have HJ := Lib.hid hj2
      clear he hrow hrd hj2
      go_enter Tryz.func11, Tryz.ntmps11
      go_wp2_with fail
      refine HF2.out.mono ?_
      rintro e1 w1 ⟨rfl, rfl⟩
      go_wp2_with fail
      refine HE.out.mono ?_
      rintro e2 w2 ⟨⟨S, arr, rfl, -, -, hS1, hS2, -⟩, hb2⟩
      have HB2 := Lib.hid hb2
      have hS3 : (S.size : Int) ≤ (((joinB l).length : Nat) : Int) + 26 := by omega
      have HS := Lib.hid (And.intro hS1 hS2)
      clear hb2 HE HF2 hS1 hS2 hS3
      go_wp2_with fail
      go_loopw [5, 6] (fun a v wr => ∃ (k J : Nat), a = .int .i64 (J : Int) ∧ v = .int .i64 (k : Int) ∧ k ≤ n ∧ Hid (J = (joinB (l.take k)).length ∧ J ≤ 20000 ∧ Below w2.heap.size w2 wr)) (fun _ v _ => n - (intOf v).toNat)
      case atStart => exact ⟨0, 0, by go_num, by go_num, by omega, by simp [joinB], by omega, Below.refl _ _⟩
      case round =>
        obtain ⟨k, J, rfl, rfl, hk, HX⟩ := hrel
        by_cases hkn : k < n
        · obtain ⟨ad, q, t, d, rfl, hbk, hx, hc0, hc1, hc2⟩ := rec3 (HR.out.below (HB2.out.trans (HX.out.2.2.mono HB2.out.size))) hkn
          have ho : ok1 (q, t, d) = true := HOK.out _ (List.mem_of_getElem? hx)
          have hoo := ho
          rw [ok1_iff] at hoo
          obtain ⟨q, rfl⟩ := Int.eq_ofNat_of_zero_le (show 0 ≤ q by have := hoo.1; simp only at this; omega)
          obtain ⟨t, rfl⟩ := Int.eq_ofNat_of_zero_le (show 0 ≤ t by have := hoo.2.2.1; simp only at this; omega)
          have HP := Lib.hid (HRS.out q t d wr ho)
          have hT := congrArg List.length (joinB_take hx)
          rw [List.length_append, ← HX.out.1] at hT
          have hle := recB_le _ ho
          have hle2 := joinB_le l (k + 1)
          have hJ := HX.out.2.1
          have hJ2 : J + (recB ((q : Int), (t : Int), d)).length ≤ 20000 := by have := HJ.out; omega
          generalize (recB ((q : Int), (t : Int), d)).length = L at *
          have HT := Lib.hid (And.intro hT.symm (And.intro hJ2 HX.out.2.2))
          clear hoo ho hx hT hle2 HX HRS HOK
          go_wp2_with fail
          refine HP.out.mono ?_
          rintro e3 w3 ⟨rfl, hb3⟩
          have HB3 := Lib.hid (HT.out.2.2.trans (hb3.mono HT.out.2.2.size))
          clear hb3 HP hc0 hc1 hc2
          go_wp2_with fail
          exact ⟨⟨k + 1, J + L, by go_num, by go_num, by omega, HT.out.1, HT.out.2.1, HB3.out⟩, by simp [intOf]; omega⟩
        · obtain rfl : k = n := by omega
          have ht : l.take k = l := List.take_of_length_le (by omega)
          have hJ := HX.out.1
          rw [ht] at hJ
          have c1 : (S.size : Int) ≤ (J : Int) + 26 := by have := HS.out.1; omega
          have c2 : (S.size : Int) ≤ 60000 := by have := HS.out.2; omega
          have hJ3 := HX.out.2.1
          have HB3 := Lib.hid (HB2.out.trans (HX.out.2.2.mono HB2.out.size))
          clear HX ht hJ HRS HOK HJ HR
          go_wp2_with fail
          refine (bawake_any wr).mono ?_
          rintro e5 w5 ⟨rfl, hb5⟩
          have HB5 := Lib.hid (HB3.out.trans (hb5.mono HB3.out.size))
          clear hb5
          go_wp2_with fail
          go_ret
          exact ⟨rfl, HB5.out⟩
    · have HE := Lib.hid (enc_not A n c l w hrd (by omega) he)
      have hb1 : (encE l != 0) = true := by rw [bne_iff_ne]; exact he
      have hb2 : (encE l == 0) = false := by rw [beq_eq_false_iff_ne]; exact he
      clear hrd he
      generalize encE l = x at *
      go_enter Tryz.func11, Tryz.ntmps11
      go_wp2_with fail
      refine HF2.out.mono ?_
      rintro e1 w1 ⟨rfl, rfl⟩
      go_wp2_with fail
      refine HE.out.mono ?_
      rintro e2 w2 ⟨rfl, hb2⟩
      have HB2 := Lib.hid hb2
      clear hb2 HE HF2
      go_wp2_with fail
      refine (bawake_any w2).mono ?_
      rintro e5 w5 ⟨rfl, hb5⟩
      have HB5 := Lib.hid (HB2.out.trans (hb5.mono HB2.out.size))
      clear hb5
      go_wp2_with fail
      go_ret
      exact ⟨rfl, HB5.out⟩
  · have hf2 : few l = false := by simpa using hf
    rw [hf2] at HF
    clear hf hf2 hrd hln
    go_enter Tryz.func11, Tryz.ntmps11
    go_wp2_with fail
    refine HF.out.mono ?_
    rintro e1 w1 ⟨rfl, rfl⟩
    go_wp2_with fail
    refine (bawake_any w).mono ?_
    rintro e5 w5 ⟨rfl, hb5⟩
    have HB5 := Lib.hid hb5
    clear hb5
    go_wp2_with fail
    go_ret
    exact ⟨rfl, HB5.out⟩
end Bk
end Go.Proofs.YtnljhnckmgpllaaGreat
