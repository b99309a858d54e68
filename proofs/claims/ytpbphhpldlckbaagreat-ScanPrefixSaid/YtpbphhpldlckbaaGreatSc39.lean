/- block.Encode. block.Encode: a block. What the probes tell: plain lists, no program. block: what the laws ask of it: plain lists, no program. -/
import Derived.Test.YtpbphhpldlckbaaGreatSc16
import Derived.Test.YtpbphhpldlckbaaGreatSc14
import Derived.Test.YtpbphhpldlckbaaGreatSc38
import Derived.Test.YtpbphhpldlckbaaGreatSc12
namespace Go.Proofs.YtpbphhpldlckbaaGreat
namespace Bk
open Go.RowKit Vi Sq Rd

section
variable {ops : Array Oper} {rest : List Oper} {o : Oper} {a : Act} {Q : Exit → Act → World → Prop}
/-- 'append(b, s...)' of a text. -/
theorem appendS {s x : Operand} {B : Nat} {v : Value} {l : List UInt8} {w0 : World} (d : ByteArray) (hown : OwnB w0 B v l) (hl : l.length + d.size ≤ 1099511627776) (hB : B ≤ w0.heap.size)
    (h : ∀ A' n' c' w', Hid (n' = l.length + d.size) → OwnB w' B (.slice A' n' c') (l ++ d.data.toList) → Below B w0 w' → w0.grownBy w' v.ownBlock → wpList Tryz.prog ops Q rest (a.put o.dst (.slice A' n' c')) w')
    (hgd : o.guard = none := by exact rfl) (ho : o.op = .call { callee := .builtin .append, args := #[s, x], argTypes := #[66, 9] } := by exact rfl)
    (hs : a.eval s = v := by exact rfl) (hx : a.eval x = .string d := by exact rfl) :
    wpList Tryz.prog ops Q (o :: rest) a w0 := by
  obtain ⟨i0, hi, hz0, hz1, hz2⟩ := info_parts byte_info
  refine Lib.wpList_append_own_string _ hgd s x 66 9 ho B 5 i0 Tryz.underlying66 Tryz.underlying9 hi hz0 hz1 hz2 v l.length (bv l) hs hown d hx (by simp only [maxLen]; omega) (by omega) hB ?_
  intro v' w' hown' hg _
  have hlt := World.ownsRow.lt hown
  obtain ⟨A', c', rfl, _, _⟩ := own_slice hown'
  refine h A' _ c' w' rfl ?_ ((Below.refl _ _).grown hg hB (fun k hk => (hlt k hk).1)) hg
  unfold OwnB
  rw [bv_append, List.length_append]
  exact hown'
end
theorem ownB_lit (w : World) (m : UInt8) : OwnB (w.alloc (.cells #[.int .u8 (m.toNat : Int)] 5)) w.heap.size (.slice (some ⟨w.heap.size, 0, none⟩) 1 1) [m] :=
  ⟨rfl, .inr ⟨w.heap.size, 1, _, rfl, Nat.le_refl _, heap_alloc_new w _, Nat.le_refl _, by unfold maxLen; decide, rfl, rfl⟩⟩

/-- What block.Encode gives. -/
def EncAns (l : List (Int × Int × ByteArray)) (e : Ending) : Prop := ∃ S : ByteArray, e = .returned (.tuple #[.string S, .int .i64 (encE l)]) ∧ (encE l ≠ 0 → S = ⟨#[]⟩) ∧ (encE l = 0 → ∃ arr, Sx.Sorted (joinB l) arr ∧ S = ⟨(blk l arr).toArray⟩)

set_option maxHeartbeats 6400000 in
set_option maxRecDepth 100000 in
theorem enc_err (A : Option Addr) (n c : Nat) (l : List (Int × Int × ByteArray)) (w : World) (hrd : Rd w w.heap.size 3 A n (fl3 l)) (hn : n ≤ 100000) (hne : encE l ≠ 0) :
    Calls Tryz.prog 11 #[.slice A n c] w fun e w' => EncAns l e ∧ Below w.heap.size w w' := by
  have mixed : Tryz.prog.follows .mixedOrders = true := by kernel_rfl
  have hln := rd3_len hrd
  by_cases hl : l = []
  · have hE : encE l = 2 := if_pos hl
    have HE := Lib.hid hE
    obtain rfl : n = 0 := by rw [← hln, hl]; rfl
    clear hrd hl hln hE hne
    go_enter Tryz.func11, Tryz.ntmps11
    go_wp2_with fail
    go_ret2
    exact ⟨⟨⟨#[]⟩, by rw [HE.out]; rfl, fun _ => rfl, fun h => absurd (HE.out.symm.trans h) (by decide)⟩, Below.refl _ _⟩
  · have hE : encE l = jE l := if_neg hl
    rw [hE] at hne
    have HE := Lib.hid hE
    have hJ := join_any A n c l w hrd (by omega)
    rw [jS_no hne] at hJ
    have hn0 : 0 < n := by rw [← hln]; exact List.length_pos_iff.2 hl
    have hn1 : ((n : Int) == 0) = false := by rw [beq_eq_false_iff_ne]; omega
    generalize jE l = x at *
    have HJ := Lib.hid hJ
    have hx1 : (x != 0) = true := by rw [bne_iff_ne]; exact hne
    have hx2 : (x == 0) = false := by rw [beq_eq_false_iff_ne]; exact hne
    clear hJ hrd hE hl hln
    go_enter Tryz.func11, Tryz.ntmps11
    go_wp2_with fail
    refine HJ.out.mono ?_
    rintro e1 w1 ⟨rfl, hb1⟩
    have HB := Lib.hid hb1
    clear hb1
    go_wp2_with fail
    go_ret2
    exact ⟨⟨⟨#[]⟩, by rw [HE.out]; rfl, fun _ => rfl, fun h => absurd (HE.out.symm.trans h) hne⟩, HB.out⟩
end Bk
end Go.Proofs.YtpbphhpldlckbaaGreat
namespace Go.Proofs.YtpbphhpldlckbaaGreat
namespace Bk
open Go.RowKit Vi Sq Rd

theorem flat_le : ∀ (l : List Nat), (∀ x ∈ l, x < 9223372036854775808) → (l.flatMap putV).length ≤ 9 * l.length
  | [], _ => by simp
  | n :: l, h => by
    have h1 := length_putV_le n 8 (h n (List.mem_cons_self ..))
    have h2 := flat_le l fun x hx => h x (List.mem_cons_of_mem _ hx)
    rw [List.flatMap_cons, List.length_append, List.length_cons]; omega
/-- The block of the five numbers. -/
def Five (w : World) (b x0 x1 x2 x3 x4 : Nat) : Prop := w.heap[b]? = some (.cells #[.int .i64 (x0 : Int), .int .i64 (x1 : Int), .int .i64 (x2 : Int), .int .i64 (x3 : Int), .int .i64 (x4 : Int)] 3 (0, 0))
theorem Five.cell {w : World} {b x0 x1 x2 x3 x4 k N : Nat} (h : Five w b x0 x1 x2 x3 x4) (hk : [x0, x1, x2, x3, x4][k]? = some N) : w.cell? ⟨b, k, none⟩ = some (.int .i64 (N : Int)) := by
  rw [cell_of_row w b k _ _ (0, 0) h]
  rcases k with _ | _ | _ | _ | _ | k
  all_goals simp at hk
  all_goals subst hk; rfl

set_option maxHeartbeats 6400000 in
set_option maxRecDepth 100000 in
theorem enc_yes (A : Option Addr) (n c : Nat) (l : List (Int × Int × ByteArray)) (w : World) (hrd : Rd w w.heap.size 3 A n (fl3 l)) (hn : n ≤ 100000) (he : encE l = 0) :
    Calls Tryz.prog 11 #[.slice A n c] w fun e w' => EncAns l e ∧ Below w.heap.size w w' := by
  have mixed : Tryz.prog.follows .mixedOrders = true := by kernel_rfl
  have hln := rd3_len hrd
  obtain ⟨hj, hl⟩ := enc_ok he
  have hn0 : 0 < n := by rw [← hln]; exact List.length_pos_iff.2 hl
  obtain ⟨m, rfl⟩ : ∃ m, n = m + 1 := ⟨n - 1, by omega⟩
  have hJ := join_any A (m + 1) c l w hrd (by omega)
  rw [jS_ok hj, hj] at hJ
  obtain ⟨raw, hraw⟩ : ∃ raw : ByteArray, raw = ⟨(joinB l).toArray⟩ := ⟨_, rfl⟩
  rw [← hraw] at hJ
  have hr1 : raw.data.toList = joinB l := by rw [hraw]
  have hr2 : raw.size = (joinB l).length := by rw [hraw]; simp [ByteArray.size]
  have hr3 : raw.size ≤ 20000 := by rw [hr2]; exact (jE_row hj).2
  have HJ := Lib.hid hJ
  have hP := fun w => pack_un raw w hr3
  rw [hr1] at hP
  have HP := Lib.hid hP
  have HE := Lib.hid he
  have HR := Lib.hid hrd
  have hn1 : (((m : Nat) : Int) + 1 == 0) = false := by rw [beq_eq_false_iff_ne]; omega
  have hn2 : (((m + 1 : Nat) : Int) == 0) = false := by rw [beq_eq_false_iff_ne]; omega
  obtain ⟨e1, e2, e3, e4, e5, e6⟩ := ends hj hl
  obtain ⟨ad, q0, t0, d0, rfl, hbk, hx0, hc00, hc01, -⟩ := rec3 hrd (show 0 < m + 1 by omega)
  obtain ⟨ad', q1, t1, d1, hA', -, hx1, hc10, hc11, hc12⟩ := rec3 hrd (show m < m + 1 by omega)
  obtain rfl : ad = ad' := by simpa using hA'
  have ha0 : at3 l 0 = (q0, t0, d0) := Option.some.inj ((at3_get l 0 (by omega)).symm.trans hx0)
  have ha1 : at3 l (l.length - 1) = (q1, t1, d1) := Option.some.inj ((at3_get l (l.length - 1) (by omega)).symm.trans (by rw [hln]; exact hx1))
  rw [ha0, ha1] at e4
  rw [ha0] at e1 e2 e3
  rw [ha1] at e5
  simp only at e1 e2 e3 e4 e5
  obtain ⟨Q, rfl⟩ := Int.eq_ofNat_of_zero_le (show 0 ≤ q0 by omega)
  obtain ⟨T, rfl⟩ := Int.eq_ofNat_of_zero_le (show 0 ≤ t0 by omega)
  obtain ⟨D, hD⟩ := Int.eq_ofNat_of_zero_le (show 0 ≤ t1 - (T : Int) by omega)
  have h5 : hd5 l = [raw.size, m + 1, Q, T, D] := by unfold hd5; rw [ha0, ha1, hr2, hln]; simp only; rw [hD]; simp
  have H5 := Lib.hid h5
  have HRR := Lib.hid (And.intro hr1 hr2)
  have hz : ad.add (0 * 3) = ad := by rw [Nat.zero_mul]; rfl
  rw [hz] at hc00 hc01
  have hlq : l.length = m + 1 := hln
  rw [hlq] at e2
  have HC := Lib.hid (And.intro hc00 (And.intro hc01 (And.intro hc10 (And.intro hc11 hc12))))
  clear hJ hP he hraw hr1 hr2 hx0 hx1 hA' ha0 ha1 h5 hz hlq hj hl hrd hc00 hc01 hc10 hc11 hc12 hln
  go_enter Tryz.func11, Tryz.ntmps11
  go_wp2_with fail
  refine HJ.out.mono ?_
  rintro e1 w1 ⟨rfl, hb1⟩
  have HB1 := Lib.hid hb1
  clear hb1 HJ
  go_wp2_with fail
  refine (HP.out _).mono ?_
  rintro e2 w2 ⟨sh, arr, hso, hsh, hshz, rfl, hb2⟩
  have HB2 := Lib.hid (ext_trans HB1.out hb2)
  have hcl : ∀ p : Addr, p.block < w.heap.size → w2.cell? p = w.cell? p := fun p hp => HB2.out.cell hp
  have c00 := (hcl ad hbk).trans HC.out.1
  have c01 := (hcl ⟨ad.block, ad.off + 1, none⟩ hbk).trans HC.out.2.1
  have c10 := (hcl (ad.add (m * 3)) (by rw [add_block]; exact hbk)).trans HC.out.2.2.1
  have c11 := (hcl ⟨(ad.add (m * 3)).block, (ad.add (m * 3)).off + 1, none⟩ (by rw [add_block]; exact hbk)).trans HC.out.2.2.2.1
  have c12 := (hcl ⟨(ad.add (m * 3)).block, (ad.add (m * 3)).off + 2, none⟩ (by rw [add_block]; exact hbk)).trans HC.out.2.2.2.2
  have hbk2 : ad.block < w2.heap.size := by have := HB2.out.size; omega
  have HSO := Lib.hid hso
  have hsl : sh.size = (packed (joinB l) arr).length := by rw [hsh]; simp [ByteArray.size]
  have hip : isP l arr = decide (sh.size < raw.size) := by unfold isP; rw [hsl, HRR.out.2]
  have HIP := Lib.hid hip
  have HSH := Lib.hid hsh
  clear hso hsh hip hsl hb2 HP hcl HR
  by_cases hlt : sh.size < raw.size
  · have hlt2 : (sh.size : Int) < (raw.size : Int) := by omega
    go_wp2_with fail
    have hown : OwnB ((w2.alloc (.cells #[.int .i64 q1, .int .i64 t1, .string d1] 40)).alloc (.cells #[.int .u8 1] 5)) (w2.heap.size + 1) (.slice (some ⟨w2.heap.size + 1, 0, none⟩) 1 1) [1] := by
      have := ownB_lit (w2.alloc (.cells #[.int .i64 q1, .int .i64 t1, .string d1] 40)) 1
      rwa [show (w2.alloc (.cells #[.int .i64 q1, .int .i64 t1, .string d1] 40)).heap.size = w2.heap.size + 1 by simp] at this
    have hbw : Below w2.heap.size w2 ((w2.alloc (.cells #[.int .i64 q1, .int .i64 t1, .string d1] 40)).alloc (.cells #[.int .u8 1] 5)) := ((Below.refl _ _).alloc (Nat.le_refl _) _).alloc (by simp) _
    have hl1 : ((w2.alloc (.cells #[.int .i64 q1, .int .i64 t1, .string d1] 40)).alloc (.cells #[.int .u8 1] 5)).cell? ⟨w2.heap.size, 1, none⟩ = some (.int .i64 t1) :=
      (World.cell?_alloc_lt _ _ ⟨w2.heap.size, 1, none⟩ (by simp)).trans (by rw [World.cell?_alloc_new]; rfl)
    have hsz5 : ((w2.alloc (.cells #[.int .i64 q1, .int .i64 t1, .string d1] 40)).alloc (.cells #[.int .u8 1] 5)).heap.size = w2.heap.size + 2 := by simp
    generalize (w2.alloc (.cells #[.int .i64 q1, .int .i64 t1, .string d1] 40)).alloc (.cells #[.int .u8 1] 5) = w5 at *
    have f00 := (hbw.cell (p := ad) hbk2).trans c00
    have f01 := (hbw.cell (p := ⟨ad.block, ad.off + 1, none⟩) hbk2).trans c01
    have i1 : (0 : Int) < (m : Int) + 1 := by omega
    have i2 : IntKind.i64.wrap (t1 - (T : Int)) = (D : Int) := by rw [IntKind.wrap_i64]; omega
    have HO := Lib.hid (And.intro hown hbw)
    have hDlt : D ≤ 1000000000 := by omega
    have HDD := Lib.hid hD
    have HSZ := Lib.hid hsz5
    clear c00 c01 c10 c11 c12 hown hbw hD hsz5
    go_region
    all_goals
      have hfive : Five (w5.alloc (.cells #[.int .i64 (raw.size : Int), .int .i64 ((m : Int) + 1), .int .i64 (Q : Int), .int .i64 (T : Int), .int .i64 (D : Int)] 3)) w5.heap.size raw.size (m + 1) Q T D := by
        have := heap_alloc_new w5 (.cells #[.int .i64 (raw.size : Int), .int .i64 ((m : Int) + 1), .int .i64 (Q : Int), .int .i64 (T : Int), .int .i64 (D : Int)] 3)
        unfold Five
        exact this
      have hsz5 := HSZ.out
      have hb6 := HO.out.2.alloc (o := (.cells #[.int .i64 (raw.size : Int), .int .i64 ((m : Int) + 1), .int .i64 (Q : Int), .int .i64 (T : Int), .int .i64 (D : Int)] 3)) (by omega)
      have ho6 : OwnB (w5.alloc (.cells #[.int .i64 (raw.size : Int), .int .i64 ((m : Int) + 1), .int .i64 (Q : Int), .int .i64 (T : Int), .int .i64 (D : Int)] 3)) (w2.heap.size + 1) (.slice (some ⟨w2.heap.size + 1, 0, none⟩) 1 1) [1] := HO.out.1.below (ext_alloc _ _) (Nat.le_refl _)
      have HX0 := Lib.hid (And.intro hfive (And.intro ho6 hb6))
      have hs6 : w2.heap.size + 1 ≤ (w5.alloc (.cells #[.int .i64 (raw.size : Int), .int .i64 ((m : Int) + 1), .int .i64 (Q : Int), .int .i64 (T : Int), .int .i64 (D : Int)] 3)).heap.size := by simp; omega
      clear hfive hb6 ho6 HO f00 f01 hl1
      generalize w5.alloc (.cells #[.int .i64 (raw.size : Int), .int .i64 ((m : Int) + 1), .int .i64 (Q : Int), .int .i64 (T : Int), .int .i64 (D : Int)] 3) = w6 at *
      clear hsz5
      generalize w5.heap.size = F at *
      have HL5 := Lib.hid (show ∀ x ∈ [raw.size, m + 1, Q, T, D], x < 9223372036854775808 by intro x hx; simp at hx; omega)
      clear e1 e2 e3 e4 e5 e6 hDlt
      go_wp2_with fail
      go_loopw [10, 71] (fun v a wr => ∃ (k : Nat) (v0 : Value), v0 = v ∧ a = .int .i64 (k : Int) ∧ k ≤ 5 ∧ Hid (Five wr F raw.size (m + 1) Q T D ∧ OwnB wr (w2.heap.size + 1) v0 (1 :: ([raw.size, m + 1, Q, T, D].take k).flatMap putV) ∧ Below w2.heap.size w2 wr ∧ w2.heap.size + 1 ≤ wr.heap.size)) (fun _ a _ => 5 - (intOf a).toNat)
      case atStart => exact ⟨0, _, rfl, rfl, by omega, HX0.out.1, HX0.out.2.1, below_drewN (n := 1) HX0.out.2.2, hs6⟩
      case round =>
        obtain ⟨k, v, hv, rfl, hk, HX⟩ := hrel
        subst hv
        by_cases hk5 : k < 5
        · obtain ⟨N, hN⟩ : ∃ N, [raw.size, m + 1, Q, T, D][k]? = some N := ⟨_, List.getElem?_eq_getElem (by simpa using hk5)⟩
          have hlt5 := HL5.out
          have hP := put_any N wr (hlt5 _ (List.mem_of_getElem? hN))
          have hflat := flat_le ([raw.size, m + 1, Q, T, D].take k) (fun x hx => hlt5 x (List.mem_of_mem_take hx))
          have htk : ([raw.size, m + 1, Q, T, D].take (k + 1)).flatMap putV = ([raw.size, m + 1, Q, T, D].take k).flatMap putV ++ putV N := by
            rw [List.take_add_one, hN]; simp
          have hNl := length_putV_le N 8 (hlt5 _ (List.mem_of_getElem? hN))
          have hll : ([raw.size, m + 1, Q, T, D].take k).length ≤ 5 := by rw [List.length_take]; simp; omega
          have hcell := HX.out.1.cell hN
          have HTK := Lib.hid htk
          have HP := Lib.hid hP
          have hacc : (1 :: ([raw.size, m + 1, Q, T, D].take k).flatMap putV).length + (vtxt N).size ≤ 1099511627776 := by rw [vtxt_size, List.length_cons]; omega
          have HAC := Lib.hid hacc
          clear hlt5 hP hflat htk hNl hll hacc hN
          have i9 : (k : Int) < 5 := by omega
          go_wp2_with fail
          refine HP.out.mono ?_
          rintro e3 w7 ⟨rfl, hb7⟩
          have ho7 : OwnB w7 (w2.heap.size + 1) v (1 :: ([raw.size, m + 1, Q, T, D].take k).flatMap putV) := HX.out.2.1.below hb7 (Nat.le_refl _)
          have hf7 : Five w7 F raw.size (m + 1) Q T D := (hb7.block _ (Array.getElem?_eq_some_iff.1 HX.out.1).1).trans HX.out.1
          have hs7 : w2.heap.size + 1 ≤ w7.heap.size := by have := hb7.size; have := HX.out.2.2.2; omega
          have hb77 : Below w2.heap.size w2 w7 := HX.out.2.2.1.trans (hb7.mono (by have := HX.out.2.2.2; omega))
          have HX7 := Lib.hid (And.intro hf7 (And.intro ho7 (And.intro hs7 hb77)))
          clear hb7 ho7 hf7 hs7 hb77 HX hcell HP
          go_wp2_with (at_builtin; refine appendS (vtxt N) HX7.out.2.1 HAC.out HX7.out.2.2.1 ?_; intro A1 n1 c1 w8 hn1 hown8 hb8 hg8)
          have hne : v.ownBlock ≠ some F := Lib.ownBlock_ne HX7.out.2.1 HX7.out.1 (by decide)
          have hf8 : Five w8 F raw.size (m + 1) Q T D := (hg8.block _ (Array.getElem?_eq_some_iff.1 HX7.out.1).1 (fun e => hne e.symm)).trans HX7.out.1
          rw [vtxt_list] at hown8
          exact ⟨⟨k + 1, _, rfl, by go_num, by omega, hf8, by rw [HTK.out]; exact hown8, HX7.out.2.2.2.trans (hb8.mono (by omega)), by have := hb8.size; have := HX7.out.2.2.1; omega⟩, by simp [intOf]; omega⟩
        · obtain rfl : k = 5 := by omega
          have hflat := flat_le [raw.size, m + 1, Q, T, D] HL5.out
          have HO := Lib.hid (show OwnB wr (w2.heap.size + 1) v (1 :: (hd5 l).flatMap putV) by rw [H5.out]; exact HX.out.2.1)
          have hacc : (1 :: (hd5 l).flatMap putV).length + sh.size ≤ 1099511627776 := by rw [List.length_cons, H5.out]; simp only [List.length_cons, List.length_nil] at hflat; omega
          have HAC := Lib.hid hacc
          have HB := Lib.hid (And.intro HX.out.2.2.1 HX.out.2.2.2)
          clear hflat hacc HX
          go_wp2_with (at_builtin; refine appendS sh HO.out HAC.out HB.out.2 ?_; intro A1 n1 c1 w8 hn1 hown8 hb8 hg8)
          obtain ⟨A', c', hv', hc1, hc2, hrd8⟩ := hown8.rd
          cases hv'
          have hstr := run_str (c := c1) hrd8
          obtain ⟨S, hS⟩ : ∃ S : ByteArray, S = ⟨((1 :: (hd5 l).flatMap putV) ++ sh.data.toList).toArray⟩ := ⟨_, rfl⟩
          have hblk : S = ⟨(blk l arr).toArray⟩ := by
            rw [hS]
            unfold blk mode body
            rw [if_pos (by rw [HIP.out]; simpa using hlt), if_pos (by rw [HIP.out]; simpa using hlt), HSH.out]
            rfl
          have HBK := Lib.hid hblk
          have HB8 := Lib.hid (HB2.out.trans ((HB.out.1.trans (hb8.mono (by omega))).mono HB2.out.size))
          rw [hstr, ← hS]
          clear hstr hS hblk hown8 hb8 hg8 hrd8 hc1 hc2
          go_wp2_with fail
          go_ret2
          exact ⟨⟨S, by rw [HE.out]; rfl, fun h => absurd HE.out h, fun _ => ⟨arr, HSO.out, HBK.out⟩⟩, HB8.out⟩
  · have hlt2 : ¬ (sh.size : Int) < (raw.size : Int) := by omega
    go_wp2_with fail
    have hown : OwnB ((w2.alloc (.cells #[.int .i64 q1, .int .i64 t1, .string d1] 40)).alloc (.cells #[.int .u8 0] 5)) (w2.heap.size + 1) (.slice (some ⟨w2.heap.size + 1, 0, none⟩) 1 1) [0] := by
      have := ownB_lit (w2.alloc (.cells #[.int .i64 q1, .int .i64 t1, .string d1] 40)) 0
      rwa [show (w2.alloc (.cells #[.int .i64 q1, .int .i64 t1, .string d1] 40)).heap.size = w2.heap.size + 1 by simp] at this
    have hbw : Below w2.heap.size w2 ((w2.alloc (.cells #[.int .i64 q1, .int .i64 t1, .string d1] 40)).alloc (.cells #[.int .u8 0] 5)) := ((Below.refl _ _).alloc (Nat.le_refl _) _).alloc (by simp) _
    have hl1 : ((w2.alloc (.cells #[.int .i64 q1, .int .i64 t1, .string d1] 40)).alloc (.cells #[.int .u8 0] 5)).cell? ⟨w2.heap.size, 1, none⟩ = some (.int .i64 t1) :=
      (World.cell?_alloc_lt _ _ ⟨w2.heap.size, 1, none⟩ (by simp)).trans (by rw [World.cell?_alloc_new]; rfl)
    have hsz5 : ((w2.alloc (.cells #[.int .i64 q1, .int .i64 t1, .string d1] 40)).alloc (.cells #[.int .u8 0] 5)).heap.size = w2.heap.size + 2 := by simp
    generalize (w2.alloc (.cells #[.int .i64 q1, .int .i64 t1, .string d1] 40)).alloc (.cells #[.int .u8 0] 5) = w5 at *
    have f00 := (hbw.cell (p := ad) hbk2).trans c00
    have f01 := (hbw.cell (p := ⟨ad.block, ad.off + 1, none⟩) hbk2).trans c01
    have i1 : (0 : Int) < (m : Int) + 1 := by omega
    have i2 : IntKind.i64.wrap (t1 - (T : Int)) = (D : Int) := by rw [IntKind.wrap_i64]; omega
    have HO := Lib.hid (And.intro hown hbw)
    have hDlt : D ≤ 1000000000 := by omega
    have HDD := Lib.hid hD
    have HSZ := Lib.hid hsz5
    clear c00 c01 c10 c11 c12 hown hbw hD hsz5
    go_region
    all_goals
      have hfive : Five (w5.alloc (.cells #[.int .i64 (raw.size : Int), .int .i64 ((m : Int) + 1), .int .i64 (Q : Int), .int .i64 (T : Int), .int .i64 (D : Int)] 3)) w5.heap.size raw.size (m + 1) Q T D := by
        have := heap_alloc_new w5 (.cells #[.int .i64 (raw.size : Int), .int .i64 ((m : Int) + 1), .int .i64 (Q : Int), .int .i64 (T : Int), .int .i64 (D : Int)] 3)
        unfold Five
        exact this
      have hsz5 := HSZ.out
      have hb6 := HO.out.2.alloc (o := (.cells #[.int .i64 (raw.size : Int), .int .i64 ((m : Int) + 1), .int .i64 (Q : Int), .int .i64 (T : Int), .int .i64 (D : Int)] 3)) (by omega)
      have ho6 : OwnB (w5.alloc (.cells #[.int .i64 (raw.size : Int), .int .i64 ((m : Int) + 1), .int .i64 (Q : Int), .int .i64 (T : Int), .int .i64 (D : Int)] 3)) (w2.heap.size + 1) (.slice (some ⟨w2.heap.size + 1, 0, none⟩) 1 1) [0] := HO.out.1.below (ext_alloc _ _) (Nat.le_refl _)
      have HX0 := Lib.hid (And.intro hfive (And.intro ho6 hb6))
      have hs6 : w2.heap.size + 1 ≤ (w5.alloc (.cells #[.int .i64 (raw.size : Int), .int .i64 ((m : Int) + 1), .int .i64 (Q : Int), .int .i64 (T : Int), .int .i64 (D : Int)] 3)).heap.size := by simp; omega
      clear hfive hb6 ho6 HO f00 f01 hl1
      generalize w5.alloc (.cells #[.int .i64 (raw.size : Int), .int .i64 ((m : Int) + 1), .int .i64 (Q : Int), .int .i64 (T : Int), .int .i64 (D : Int)] 3) = w6 at *
      clear hsz5
      generalize w5.heap.size = F at *
      have HL5 := Lib.hid (show ∀ x ∈ [raw.size, m + 1, Q, T, D], x < 9223372036854775808 by intro x hx; simp at hx; omega)
      clear e1 e2 e3 e4 e5 e6 hDlt
      go_wp2_with fail
      go_loopw [10, 71] (fun v a wr => ∃ (k : Nat) (v0 : Value), v0 = v ∧ a = .int .i64 (k : Int) ∧ k ≤ 5 ∧ Hid (Five wr F raw.size (m + 1) Q T D ∧ OwnB wr (w2.heap.size + 1) v0 (0 :: ([raw.size, m + 1, Q, T, D].take k).flatMap putV) ∧ Below w2.heap.size w2 wr ∧ w2.heap.size + 1 ≤ wr.heap.size)) (fun _ a _ => 5 - (intOf a).toNat)
      case atStart => exact ⟨0, _, rfl, rfl, by omega, HX0.out.1, HX0.out.2.1, below_drewN (n := 1) HX0.out.2.2, hs6⟩
      case round =>
        obtain ⟨k, v, hv, rfl, hk, HX⟩ := hrel
        subst hv
        by_cases hk5 : k < 5
        · obtain ⟨N, hN⟩ : ∃ N, [raw.size, m + 1, Q, T, D][k]? = some N := ⟨_, List.getElem?_eq_getElem (by simpa using hk5)⟩
          have hlt5 := HL5.out
          have hP := put_any N wr (hlt5 _ (List.mem_of_getElem? hN))
          have hflat := flat_le ([raw.size, m + 1, Q, T, D].take k) (fun x hx => hlt5 x (List.mem_of_mem_take hx))
          have htk : ([raw.size, m + 1, Q, T, D].take (k + 1)).flatMap putV = ([raw.size, m + 1, Q, T, D].take k).flatMap putV ++ putV N := by
            rw [List.take_add_one, hN]; simp
          have hNl := length_putV_le N 8 (hlt5 _ (List.mem_of_getElem? hN))
          have hll : ([raw.size, m + 1, Q, T, D].take k).length ≤ 5 := by rw [List.length_take]; simp; omega
          have hcell := HX.out.1.cell hN
          have HTK := Lib.hid htk
          have HP := Lib.hid hP
          have hacc : (0 :: ([raw.size, m + 1, Q, T, D].take k).flatMap putV).length + (vtxt N).size ≤ 1099511627776 := by rw [vtxt_size, List.length_cons]; omega
          have HAC := Lib.hid hacc
          clear hlt5 hP hflat htk hNl hll hacc hN
          have i9 : (k : Int) < 5 := by omega
          go_wp2_with fail
          refine HP.out.mono ?_
          rintro e3 w7 ⟨rfl, hb7⟩
          have ho7 : OwnB w7 (w2.heap.size + 1) v (0 :: ([raw.size, m + 1, Q, T, D].take k).flatMap putV) := HX.out.2.1.below hb7 (Nat.le_refl _)
          have hf7 : Five w7 F raw.size (m + 1) Q T D := (hb7.block _ (Array.getElem?_eq_some_iff.1 HX.out.1).1).trans HX.out.1
          have hs7 : w2.heap.size + 1 ≤ w7.heap.size := by have := hb7.size; have := HX.out.2.2.2; omega
          have hb77 : Below w2.heap.size w2 w7 := HX.out.2.2.1.trans (hb7.mono (by have := HX.out.2.2.2; omega))
          have HX7 := Lib.hid (And.intro hf7 (And.intro ho7 (And.intro hs7 hb77)))
          clear hb7 ho7 hf7 hs7 hb77 HX hcell HP
          go_wp2_with (at_builtin; refine appendS (vtxt N) HX7.out.2.1 HAC.out HX7.out.2.2.1 ?_; intro A1 n1 c1 w8 hn1 hown8 hb8 hg8)
          have hne : v.ownBlock ≠ some F := Lib.ownBlock_ne HX7.out.2.1 HX7.out.1 (by decide)
          have hf8 : Five w8 F raw.size (m + 1) Q T D := (hg8.block _ (Array.getElem?_eq_some_iff.1 HX7.out.1).1 (fun e => hne e.symm)).trans HX7.out.1
          rw [vtxt_list] at hown8
          exact ⟨⟨k + 1, _, rfl, by go_num, by omega, hf8, by rw [HTK.out]; exact hown8, HX7.out.2.2.2.trans (hb8.mono (by omega)), by have := hb8.size; have := HX7.out.2.2.1; omega⟩, by simp [intOf]; omega⟩
        · obtain rfl : k = 5 := by omega
          have hflat := flat_le [raw.size, m + 1, Q, T, D] HL5.out
          have HO := Lib.hid (show OwnB wr (w2.heap.size + 1) v (0 :: (hd5 l).flatMap putV) by rw [H5.out]; exact HX.out.2.1)
          have hacc : (0 :: (hd5 l).flatMap putV).length + raw.size ≤ 1099511627776 := by rw [List.length_cons, H5.out]; simp only [List.length_cons, List.length_nil] at hflat; omega
          have HAC := Lib.hid hacc
          have HB := Lib.hid (And.intro HX.out.2.2.1 HX.out.2.2.2)
          clear hflat hacc HX
          go_wp2_with (at_builtin; refine appendS raw HO.out HAC.out HB.out.2 ?_; intro A1 n1 c1 w8 hn1 hown8 hb8 hg8)
          obtain ⟨A', c', hv', hc1, hc2, hrd8⟩ := hown8.rd
          cases hv'
          have hstr := run_str (c := c1) hrd8
          obtain ⟨S, hS⟩ : ∃ S : ByteArray, S = ⟨((0 :: (hd5 l).flatMap putV) ++ raw.data.toList).toArray⟩ := ⟨_, rfl⟩
          have hblk : S = ⟨(blk l arr).toArray⟩ := by
            rw [hS]
            unfold blk mode body
            rw [if_neg (by rw [HIP.out]; simpa using hlt), if_neg (by rw [HIP.out]; simpa using hlt), HRR.out.1]
            rfl
          have HBK := Lib.hid hblk
          have HB8 := Lib.hid (HB2.out.trans ((HB.out.1.trans (hb8.mono (by omega))).mono HB2.out.size))
          rw [hstr, ← hS]
          clear hstr hS hblk hown8 hb8 hg8 hrd8 hc1 hc2
          go_wp2_with fail
          go_ret2
          exact ⟨⟨S, by rw [HE.out]; rfl, fun h => absurd HE.out h, fun _ => ⟨arr, HSO.out, HBK.out⟩⟩, HB8.out⟩
theorem enc_any (A : Option Addr) (n c : Nat) (l : List (Int × Int × ByteArray)) (w : World) (hrd : Rd w w.heap.size 3 A n (fl3 l)) (hn : n ≤ 100000) :
    Calls Tryz.prog 11 #[.slice A n c] w fun e w' => EncAns l e ∧ Below w.heap.size w w' := by
  by_cases he : encE l = 0
  · exact enc_yes A n c l w hrd hn he
  · exact enc_err A n c l w hrd hn he
end Bk
end Go.Proofs.YtpbphhpldlckbaaGreat
namespace Go.Proofs.YtpbphhpldlckbaaGreat
namespace Sq
open Sx Vi Zr Hf

theorem sorted_unique {s : List UInt8} {A B : List Nat} (h : Sorted s A) (k : Sorted s B) : A = B :=
  List.Perm.eq_of_pairwise (fun _ _ _ _ h1 h2 => absurd (less_trans h1 h2) less_irrefl) h.srt k.srt (h.perm.trans k.perm.symm)
instance (s : List UInt8) : ∀ (L p q : Nat), Decidable (less s L p q)
  | 0, _, _ => isFalse (fun h => h)
  | L + 1, p, q =>
    have := instDecidableLess s L (p + 1) (q + 1)
    by unfold less; exact inferInstance
theorem sorted_banana : Sorted [98, 97, 110, 97, 110, 97] [6, 5, 3, 1, 0, 4, 2] := ⟨by decide, by decide⟩
theorem sorted_nil : Sorted [] [0] := ⟨by decide, by decide⟩
theorem pri_banana : Bw.pri [6, 5, 3, 1, 0, 4, 2] = 4 := by decide
theorem lst_banana : Bw.lst [98, 97, 110, 97, 110, 97] [6, 5, 3, 1, 0, 4, 2] = [97, 110, 110, 98, 97, 97] := by decide
theorem rks_banana : Fr.rks Fr.row0 [97, 110, 110, 98, 97, 97] = [97, 110, 0, 99, 2, 0] := by decide +kernel
theorem sy_banana : sy [98, 97, 110, 97, 110, 97] [6, 5, 3, 1, 0, 4, 2] = [98, 111, 0, 100, 3, 0] := by
  unfold sy
  rw [lst_banana, rks_banana]
  decide +kernel
theorem head_short : (head [0]).1 = 4 := by decide +kernel
theorem lv_zero : ∀ (n s : Nat), Ln.lv s (List.replicate n 0) = []
  | 0, _ => rfl
  | n + 1, s => by
    rw [List.replicate_succ]
    show (if (0 : Int) < 0 then _ else Ln.lv (s + 1) (List.replicate n 0)) = []
    rw [if_neg (by decide)]
    exact lv_zero n (s + 1)
theorem lns_nil : lns [] = List.replicate 257 0 := by
  have h : cts [] = List.replicate 257 0 := rfl
  have h2 : St.stab Ln.wt (Ln.lv 0 (cts [])) = [] := by
    rw [h, lv_zero]
    have := St.stab_perm Ln.wt ([] : List Ln.Thing)
    exact this.eq_nil
  unfold lns Ln.bestL
  rw [h2, if_pos (by decide), h, List.foldl_nil, List.length_replicate]
theorem runs_nil : Tb.runs (List.replicate 257 0) = [(0, 257)] := by decide +kernel
theorem hb_nil : hb [] = Bt.bits [0, 8] ++ [false, false, false, false, true] := by
  unfold hb
  rw [lns_nil, runs_nil]
  decide +kernel
theorem hbyt_nil : hbyt [] = [0, 8, 8] := by
  unfold hbyt
  rw [hb_nil, Bt.byt_whole, Bt.byt_part _ (by decide) (by decide)]
  decide
theorem packed_nil : packed [] [0] = [0, 0, 0, 0, 8, 8] := by
  have h1 : Bw.pri [0] = 0 := by decide
  have h2 : sy [] [0] = [] := by
    have e : Bw.lst [] [0] = [] := by decide
    unfold sy
    rw [e]
    decide +kernel
  unfold packed
  rw [h1, h2, hbyt_nil]
  have h0 : putV 0 = [0] := by rw [putV_small (by omega)]; rfl
  show putV 0 ++ (putV 0 ++ (putV 0 ++ [0, 8, 8])) = _
  rw [h0]; rfl
theorem un_nil : unS [0, 0, 0, 0, 8, 8] = some [] := by
  have := back sorted_nil (by decide)
  rwa [packed_nil] at this
end Sq
end Go.Proofs.YtpbphhpldlckbaaGreat
namespace Go.Proofs.YtpbphhpldlckbaaGreat
namespace Bt
theorem bl_le {n k : Nat} (h : n < 2 ^ k) : bl n ≤ k := by
  rcases Nat.eq_zero_or_pos n with rfl | hn
  · simp [bl]
  · obtain ⟨h1, -, h3⟩ := bl_spec n hn
    have h4 : 2 ^ (bl n - 1) < 2 ^ k := by omega
    have := (Nat.pow_lt_pow_iff_right (by omega)).1 h4
    omega
theorem bl_add (a b : Nat) : bl (a + b) ≤ bl a + bl b + 1 := by
  rcases Nat.eq_zero_or_pos a with rfl | ha
  · rw [Nat.zero_add]; omega
  rcases Nat.eq_zero_or_pos b with rfl | hb
  · rw [Nat.add_zero]; omega
  obtain ⟨-, h1, -⟩ := bl_spec a ha
  obtain ⟨-, h2, -⟩ := bl_spec b hb
  refine bl_le ?_
  have e1 : 2 ^ bl a ≤ 2 ^ (bl a + bl b) := Nat.pow_le_pow_right (by omega) (by omega)
  have e2 : 2 ^ bl b ≤ 2 ^ (bl a + bl b) := Nat.pow_le_pow_right (by omega) (by omega)
  rw [Nat.pow_succ]; omega
end Bt
namespace Tb
def gl (m : Nat) : Nat := if m = 0 then 0 else 3 + 2 * Bt.bl m
theorem tb_len : ∀ (R : List (Int × Int)) (last : Int), Good last R → gl (flat R).length ≤ (tb R).length
  | [], _, _ => by simp [gl, flat]
  | x :: R, last, h => by
    have ih := tb_len R x.1 h.2.2.2.2
    have hx := h.2.2.2.1
    have e : tb (x :: R) = (Bt.toB 4 x.1.toNat ++ Bt.gam x.2.toNat) ++ tb R := rfl
    have e2 : (flat (x :: R)).length = x.2.toNat + (flat R).length := by
      show (List.replicate x.2.toNat x.1 ++ flat R).length = _
      simp
    rw [e, e2, List.length_append, List.length_append, Bt.length_toB, Bt.length_gam _ (by omega)]
    have h1 := (Bt.bl_spec x.2.toNat (by omega)).2.2
    have h2 := Bt.bl_add x.2.toNat (flat R).length
    unfold gl at *
    rw [if_neg (by omega)]
    split at ih
    · rename_i h0
      rw [h0, Nat.add_zero]; omega
    · omega
end Tb
namespace Hf
theorem hb_big (syms : List Int) : 21 ≤ (hb syms).length := by
  have hg := Tb.runs_good (lns syms) (lns_good syms).rng
  have h1 := Tb.tb_len _ _ hg.1
  rw [hg.2, length_lns] at h1
  have h2 : Tb.gl 257 = 21 := by decide +kernel
  unfold hb
  rw [List.length_append]
  omega
end Hf
namespace Bk
open Vi Sq Rd

/-- A short text is never packed. -/
theorem packed_big (s : List UInt8) (A : List Nat) : 6 ≤ (packed s A).length := by
  have h3 := Hf.hb_big (sy s A)
  have h4 := Bt.length_byt (Hf.hb (sy s A))
  have := length_putV_pos s.length
  have := length_putV_pos (Bw.pri A)
  have := length_putV_pos (sy s A).length
  have : Hf.hbyt (sy s A) = Bt.byt (Hf.hb (sy s A)) := rfl
  unfold packed; simp only [List.length_append, this]; omega
theorem isP_short {l : List (Int × Int × ByteArray)} (A : List Nat) (h : (joinB l).length ≤ 6) : isP l A = false := by
  have := packed_big (joinB l) A
  unfold isP; rw [decide_eq_false_iff_not]; omega

/-- The probe's record. -/
def hi : ByteArray := ⟨#[104, 105]⟩
def l0 : List (Int × Int × ByteArray) := [(1, 300, hi)]
def b0 : ByteArray := ⟨#[0, 6, 1, 1, 172, 2, 0, 1, 172, 2, 2, 104, 105]⟩
theorem put1 : putV 1 = [1] := by rw [putV_small (by omega)]; rfl
theorem put2 : putV 2 = [2] := by rw [putV_small (by omega)]; rfl
theorem put0 : putV 0 = [0] := by rw [putV_small (by omega)]; rfl
theorem put6 : putV 6 = [6] := by rw [putV_small (by omega)]; rfl
theorem put300 : putV 300 = [172, 2] := by rw [putV_step (by omega), show 300 / 128 = 2 from rfl, put2]; rfl
theorem joinB_l0 : joinB l0 = [1, 172, 2, 2, 104, 105] := by
  show recB (1, 300, hi) ++ [] = _
  unfold recB
  show (putV 1 ++ (putV 300 ++ (putV 2 ++ [104, 105]))) ++ [] = _
  rw [put1, put300, put2]; rfl
theorem row_l0 : rowE none l0 = 0 := by decide
theorem jE_l0 : jE l0 = 0 := by
  unfold jE
  rw [if_neg (by rw [row_l0]; decide), if_neg (by rw [joinB_l0]; decide)]
theorem encE_l0 : encE l0 = 0 := by unfold encE; rw [if_neg (by decide)]; exact jE_l0
theorem blk_l0 (A : List Nat) : blk l0 A = b0.data.toList := by
  have h1 : isP l0 A = false := isP_short A (by rw [joinB_l0]; decide)
  have h2 : (joinB l0).length = 6 := by rw [joinB_l0]; rfl
  have h3 : hd5 l0 = [6, 1, 1, 300, 0] := by unfold hd5; rw [h2]; rfl
  unfold blk mode body
  rw [if_neg (by rw [h1]; decide), if_neg (by rw [h1]; decide), h3, joinB_l0]
  show _ :: ((putV 6 ++ (putV 1 ++ (putV 1 ++ (putV 300 ++ (putV 0 ++ []))))) ++ _) = _
  rw [put6, put1, put300, put0]; rfl
theorem sorted_l0 : Sx.Sorted (joinB l0) [6, 0, 2, 3, 4, 5, 1] := by rw [joinB_l0]; exact ⟨by decide, by decide⟩
theorem dec_b0 : dec b0.data.toList = some l0 := by
  have := dec_blk jE_l0 (by decide) sorted_l0
  rwa [blk_l0] at this
theorem peek_b0 : ∃ r, peekB b0.data.toList = some (0, 6, 1, 1, 300, 300, r) := by
  have := peek_blk [6, 0, 2, 3, 4, 5, 1] jE_l0 (by decide)
  rw [blk_l0] at this
  have h1 : isP l0 [6, 0, 2, 3, 4, 5, 1] = false := isP_short _ (by rw [joinB_l0]; decide)
  have h2 : mode l0 [6, 0, 2, 3, 4, 5, 1] = 0 := by unfold mode; rw [h1]; rfl
  rw [h2, joinB_l0] at this
  exact ⟨_, this⟩
theorem encE_l0l0 : encE (l0 ++ l0) = 151 := by
  unfold encE jE
  rw [if_neg (by decide)]
  have : rowE none (l0 ++ l0) = 151 := by decide
  rw [this]; rfl

/-! Parts of a row. -/
theorem row_take : ∀ (l : List (Int × Int × ByteArray)) (p : Option (Int × Int × ByteArray)) (k : Nat), rowE p l = 0 → rowE p (l.take k) = 0
  | [], _, k, _ => by rw [List.take_nil]; rfl
  | x :: l, p, 0, _ => rfl
  | x :: l, p, k + 1, h => by
    rw [List.take_succ_cons]
    rw [rowE] at h ⊢
    split at h; · simp at h
    split at h; · simp at h
    rename_i h1 h2
    rw [if_neg h1, if_neg h2]
    exact row_take l (some x) k h
theorem row_none : ∀ (l : List (Int × Int × ByteArray)) (p : Option (Int × Int × ByteArray)), rowE p l = 0 → rowE none l = 0
  | [], _, _ => rfl
  | x :: l, p, h => by
    rw [rowE] at h ⊢
    split at h; · simp at h
    split at h; · simp at h
    rename_i h1 h2
    rw [if_neg h1, if_neg (by simp [off])]
    exact h
theorem row_drop : ∀ (l : List (Int × Int × ByteArray)) (p : Option (Int × Int × ByteArray)) (k : Nat), rowE p l = 0 → rowE none (l.drop k) = 0
  | l, p, 0, h => row_none l p h
  | [], _, k + 1, _ => rfl
  | x :: l, p, k + 1, h => by
    rw [List.drop_succ_cons]
    rw [rowE] at h
    split at h; · simp at h
    split at h; · simp at h
    exact row_drop l (some x) k h
theorem jE_of_row {l : List (Int × Int × ByteArray)} (h : rowE none l = 0) : jE l = if 20000 < (joinB l).length then 3 else 0 := by unfold jE; rw [if_neg (by simp [h])]
theorem jE_cases {l : List (Int × Int × ByteArray)} (h : rowE none l = 0) : (20000 < (joinB l).length ∧ jE l = 3) ∨ ((joinB l).length ≤ 20000 ∧ jE l = 0) := by
  rw [jE_of_row h]
  split
  · exact .inl ⟨by assumption, rfl⟩
  · exact .inr ⟨by omega, rfl⟩
theorem joinB_cat (a b : List (Int × Int × ByteArray)) : (joinB (a ++ b)).length = (joinB a).length + (joinB b).length := by
  have : joinB (a ++ b) = joinB a ++ joinB b := List.flatMap_append ..
  rw [this, List.length_append]
/-- Where a part's block is none, the whole's is none, for the same reason. -/
theorem enc_part {l : List (Int × Int × ByteArray)} {k : Nat} (h : rowE none l = 0) (hk : 0 < k) (hkl : k < l.length) (hp : encE (l.take k) ≠ 0 ∨ encE (l.drop k) ≠ 0) : encE l = 3 := by
  have hn : l ≠ [] := by rintro rfl; simp at hkl
  have hn1 : l.take k ≠ [] := by intro e; have := congrArg List.length e; rw [List.length_take, List.length_nil] at this; omega
  have hn2 : l.drop k ≠ [] := by intro e; have := congrArg List.length e; rw [List.length_drop, List.length_nil] at this; omega
  have hj := joinB_cat (l.take k) (l.drop k)
  rw [List.take_append_drop] at hj
  unfold encE at *
  rw [if_neg hn]
  rw [if_neg hn1, if_neg hn2] at hp
  rcases jE_cases h with ⟨h1, h2⟩ | ⟨h1, h2⟩
  · exact h2
  · exfalso
    rcases jE_cases (row_take l none k h) with ⟨a1, a2⟩ | ⟨a1, a2⟩
    · omega
    rcases jE_cases (row_drop l none k h) with ⟨b1, b2⟩ | ⟨b1, b2⟩
    · omega
    rcases hp with hp | hp
    · exact hp a2
    · exact hp b2
theorem enc_row {l : List (Int × Int × ByteArray)} (h : rowE none l = 0) (hn : l ≠ []) : encE l = 0 ∨ encE l = 3 := by
  unfold encE
  rw [if_neg hn]
  rcases jE_cases h with ⟨-, h2⟩ | ⟨-, h2⟩
  · exact .inr h2
  · exact .inl h2
end Bk
end Go.Proofs.YtpbphhpldlckbaaGreat
