/- record.Get. block.peek$1: what stands ahead of a block's records is taken. -/
import Derived.Test.YtpbphhpldlckbaaGreatSc16
import Derived.Test.YtpbphhpldlckbaaGreatSc14
namespace Go.Proofs.YtpbphhpldlckbaaGreat
namespace Rd
open Go.RowKit Vi Bd

theorem vget_ok (w : World) (p n len : Nat) (s : ByteArray) (hs : s.size ≤ 1000000) (hp : p ≤ s.size) (hg : gv 0 0 (s.data.toList.drop p) = (n, len, 0)) :
    Calls Tryz.prog 79 #[.string s, .int .i64 (p : Int)] w fun e w' => e = .returned (.tuple #[.int .i64 (n : Int), .int .i64 ((p + len : Nat) : Int), .int .i64 0]) ∧ w = w' := by
  have hl : s.data.toList.length = s.size := rfl
  have hgv : getV s.data.toList (p : Int) = ((n : Int), ((p + len : Nat) : Int), 0) := by
    unfold getV
    rw [if_neg (by rw [hl]; omega), Int.toNat_natCast, hg]
    simp
  have hv := get_any s (p : Int) w hs
  rw [hgv] at hv
  exact hv
theorem vget_no (w : World) (p : Nat) (s : ByteArray) (hs : s.size ≤ 1000000) (hp : p ≤ s.size) (hg : (gv 0 0 (s.data.toList.drop p)).2.2 ≠ 0) :
    Calls Tryz.prog 79 #[.string s, .int .i64 (p : Int)] w fun e w' => e = .returned (.tuple #[.int .i64 0, .int .i64 0, .int .i64 (gv 0 0 (s.data.toList.drop p)).2.2]) ∧ w = w' := by
  have hl : s.data.toList.length = s.size := rfl
  have hgv : getV s.data.toList (p : Int) = (0, 0, (gv 0 0 (s.data.toList.drop p)).2.2) := by
    unfold getV
    rw [if_neg (by rw [hl]; omega), Int.toNat_natCast, if_neg hg]
  have hv := get_any s (p : Int) w hs
  rw [hgv] at hv
  exact hv
theorem gv_in (s : ByteArray) (p n len : Nat) (hp : p ≤ s.size) (hg : gv 0 0 (s.data.toList.drop p) = (n, len, 0)) : n < 9223372036854775808 ∧ p + len ≤ s.size := by
  obtain ⟨m, rest, h1, h2, h3, h4, -⟩ := gv_some _ 0 0 n len hg
  have := congrArg List.length h1
  rw [List.length_drop, List.length_append] at this
  have hl : s.data.toList.length = s.size := rfl
  simp only [Nat.pow_zero, Nat.mul_one, Nat.zero_add, Nat.sub_zero] at h2 h3 h4
  have e : (128 : Nat) ^ 9 = 9223372036854775808 := by decide
  omega
theorem extract_mid (s : ByteArray) (p z : Nat) : s.extract p (p + z) = ⟨((s.data.toList.drop p).take z).toArray⟩ := by
  apply ByteArray.ext
  apply Array.ext'
  rw [ByteArray.data_extract]
  rw [Array.toList_extract]
  simp [List.extract_eq_take_drop]
/-- A block of three numbers. -/
def Row3 (w : World) (b : Nat) (x y z : Nat) : Prop := w.heap[b]? = some (.cells #[.int .i64 (x : Int), .int .i64 (y : Int), .int .i64 (z : Int)] 123 (0, 0))
section
variable {w w' : World} {b x y z : Nat}
theorem Row3.c0 (h : Row3 w b x y z) : w.cell? ⟨b, 0, none⟩ = some (.int .i64 (x : Int)) := by rw [cell_of_row w b 0 _ _ (0, 0) h]; rfl
theorem Row3.c1 (h : Row3 w b x y z) : w.cell? ⟨b, 1, none⟩ = some (.int .i64 (y : Int)) := by rw [cell_of_row w b 1 _ _ (0, 0) h]; rfl
theorem Row3.c2 (h : Row3 w b x y z) : w.cell? ⟨b, 2, none⟩ = some (.int .i64 (z : Int)) := by rw [cell_of_row w b 2 _ _ (0, 0) h]; rfl
theorem Row3.fz (h : Row3 w b x y z) (j : Nat) : w.frozen? ⟨b, j, none⟩ = false := frozen_of_row w b j _ _ h
theorem Row3.set0 (h : Row3 w b x y z) (u : Nat) : Row3 (w.setCell ⟨b, 0, none⟩ (.int .i64 (u : Int))) b u y z := by
  unfold Row3 at *
  simp [World.setCell, Array.getElem?_modify, h]
theorem Row3.set1 (h : Row3 w b x y z) (u : Nat) : Row3 (w.setCell ⟨b, 1, none⟩ (.int .i64 (u : Int))) b x u z := by
  unfold Row3 at *
  simp [World.setCell, Array.getElem?_modify, h]
theorem Row3.set2 (h : Row3 w b x y z) (u : Nat) : Row3 (w.setCell ⟨b, 2, none⟩ (.int .i64 (u : Int))) b x y u := by
  unfold Row3 at *
  simp [World.setCell, Array.getElem?_modify, h]
end
/-- The result's block. -/
def Res (w : World) (b : Nat) : Prop := w.heap[b]? = some (.cells #[.int .i64 0, .int .i64 0, .string ⟨#[]⟩] 40 (0, 0))
section
variable {w w' : World} {b : Nat}
theorem Res.c0 (h : Res w b) : w.cell? ⟨b, 0, none⟩ = some (.int .i64 0) := by rw [cell_of_row w b 0 _ _ (0, 0) h]; rfl
theorem Res.c1 (h : Res w b) : w.cell? ⟨b, 1, none⟩ = some (.int .i64 0) := by rw [cell_of_row w b 1 _ _ (0, 0) h]; rfl
theorem Res.c2 (h : Res w b) : w.cell? ⟨b, 2, none⟩ = some (.string ⟨#[]⟩) := by rw [cell_of_row w b 2 _ _ (0, 0) h]; rfl
theorem Res.fz (h : Res w b) (j : Nat) : w.frozen? ⟨b, j, none⟩ = false := frozen_of_row w b j _ _ h
end
theorem rec1_at {b r : List UInt8} {x y z : Nat} (h : fin 3 [] b = (0, [x, y, z], r)) :
    rec1 b = if x < 1 ∨ 1000000000 < x ∨ 1000000000 < y ∨ 2000 < z then none else if r.length < z then none else some (((x : Int), (y : Int), ⟨(r.take z).toArray⟩), r.drop z) := by
  simp only [rec1, h]
theorem rec1_err {b : List UInt8} (h : (fin 3 [] b).1 ≠ 0) : rec1 b = none := by
  unfold rec1
  split
  · rename_i he; rw [he] at h; exact absurd rfl h
  · rfl
theorem Res.fill {w w' : World} {b : Nat} (h : Res w b) (q t : Int) (d : ByteArray) (hw : w' = ((w.setCell ⟨b, 0, none⟩ (.int .i64 q)).setCell ⟨b, 1, none⟩ (.int .i64 t)).setCell ⟨b, 2, none⟩ (.string d)) :
    w'.cell? ⟨b, 0, none⟩ = some (.int .i64 q) ∧ w'.cell? ⟨b, 1, none⟩ = some (.int .i64 t) ∧ w'.cell? ⟨b, 2, none⟩ = some (.string d) := by
  have hh : w'.heap[b]? = some (.cells #[.int .i64 q, .int .i64 t, .string d] 40 (0, 0)) := by
    rw [hw]
    unfold Res at h
    simp [World.setCell, Array.getElem?_modify, h]
  exact ⟨by rw [cell_of_row w' b 0 _ _ (0, 0) hh]; rfl, by rw [cell_of_row w' b 1 _ _ (0, 0) hh]; rfl, by rw [cell_of_row w' b 2 _ _ (0, 0) hh]; rfl⟩
theorem below_fill {w w' : World} {b B : Nat} {v0 v1 v2 : Value} (h : Below B w w') (hb : B ≤ b) : Below B w (((w'.setCell ⟨b, 0, none⟩ v0).setCell ⟨b, 1, none⟩ v1).setCell ⟨b, 2, none⟩ v2) :=
  ((h.setCell (p := ⟨b, 0, none⟩) hb v0).setCell (p := ⟨b, 1, none⟩) hb v1).setCell (p := ⟨b, 2, none⟩) hb v2
/-- What record.Get tells. -/
def getQ (b : List UInt8) (p : Nat) (e : Ending) : Prop := (∃ r b', rec1 b = some (r, b') ∧ e = .returned (.tuple #[rv r, .int .i64 ((p + (recB r).length : Nat) : Int), .int .i64 0])) ∨
  (rec1 b = none ∧ ∃ x, e = .returned (.tuple #[rv (0, 0, ⟨#[]⟩), .int .i64 0, .int .i64 x]) ∧ x ≠ 0)

set_option maxHeartbeats 6400000 in
set_option maxRecDepth 100000 in
theorem rget_any (s : ByteArray) (p : Nat) (w : World) (hs : s.size ≤ 1000000) (hp : p ≤ s.size) :
    Calls Tryz.prog 67 #[.string s, .int .i64 (p : Int)] w fun e w' => getQ (s.data.toList.drop p) p e ∧ Below w.heap.size w w' := by
  have mixed : Tryz.prog.follows .mixedOrders = true := by kernel_rfl
  obtain ⟨F, hF⟩ : ∃ F, F = fin 3 [] (s.data.toList.drop p) := ⟨_, rfl⟩
  have HF := Lib.hid hF
  clear hF
  go_enter Tryz.func67, Tryz.ntmps67
  go_wp2_with fail
  go_step3
  go_wp2_with fail
  go_step3
  go_wp2_with fail
  have hr3 : Row3 ((w.alloc (.cells #[.int .i64 0, .int .i64 0, .string ⟨#[]⟩] 40)).alloc (.cells #[.int .i64 0, .int .i64 0, .int .i64 0] 123)) (w.heap.size + 1) 0 0 0 := by
    have := heap_alloc_new (w.alloc (.cells #[.int .i64 0, .int .i64 0, .string ⟨#[]⟩] 40)) (.cells #[.int .i64 0, .int .i64 0, .int .i64 0] 123)
    rwa [show (w.alloc (.cells #[.int .i64 0, .int .i64 0, .string ⟨#[]⟩] 40)).heap.size = w.heap.size + 1 by simp] at this
  have hrs : Res ((w.alloc (.cells #[.int .i64 0, .int .i64 0, .string ⟨#[]⟩] 40)).alloc (.cells #[.int .i64 0, .int .i64 0, .int .i64 0] 123)) w.heap.size :=
    (Below.heap_alloc _ _ w.heap.size (by simp)).trans (heap_alloc_new w _)
  have hbw : Below w.heap.size w ((w.alloc (.cells #[.int .i64 0, .int .i64 0, .string ⟨#[]⟩] 40)).alloc (.cells #[.int .i64 0, .int .i64 0, .int .i64 0] 123)) := ((Below.refl _ _).alloc (Nat.le_refl _) _).alloc (by simp) _
  generalize (w.alloc (.cells #[.int .i64 0, .int .i64 0, .string ⟨#[]⟩] 40)).alloc (.cells #[.int .i64 0, .int .i64 0, .int .i64 0] 123) = w0 at *
  have H0 := Lib.hid (And.intro hr3 (And.intro hrs hbw))
  clear hr3 hrs hbw
  go_loopw [1, 9] (fun a i wr => ∃ (k x y z p' : Nat), a = .int .i64 (p' : Int) ∧ i = .int .i64 (k : Int) ∧ k ≤ 3 ∧ p' ≤ s.size ∧ x < 9223372036854775808 ∧ y < 9223372036854775808 ∧ z < 9223372036854775808 ∧
    Hid (F = fin (3 - k) ([x, y, z].take k) (s.data.toList.drop p') ∧ Row3 wr (w.heap.size + 1) x y z ∧ Res wr w.heap.size ∧ Below w.heap.size w wr)) (fun _ i _ => 3 - (intOf i).toNat)
  case atStart => exact ⟨0, 0, 0, 0, p, rfl, rfl, by omega, hp, by omega, by omega, by omega, HF.out, H0.out⟩
  case round =>
    obtain ⟨k, x, y, z, p', rfl, rfl, hk, hp', hx, hy, hz, HX⟩ := hrel
    by_cases hk3 : k < 3
    · by_cases hg : (gv 0 0 (s.data.toList.drop p')).2.2 = 0
      · obtain ⟨u, len, hgv⟩ : ∃ u len, gv 0 0 (s.data.toList.drop p') = (u, len, 0) := ⟨_, _, by rw [← hg]⟩
        obtain ⟨hu, hlen⟩ := gv_in s p' u len hp' hgv
        have HG := Lib.hid (vget_ok wr p' u len s hs hp' hgv)
        have hstep : fin (3 - k) ([x, y, z].take k) (s.data.toList.drop p') = fin (3 - (k + 1)) ([x, y, z].take k ++ [u]) (s.data.toList.drop (p' + len)) := by
          rw [show 3 - k = (3 - (k + 1)) + 1 by omega, fin, if_neg (by simp [hg]), hgv, List.drop_drop]
        have HST := Lib.hid (HX.out.1.trans hstep)
        clear hstep hg hgv
        obtain rfl | rfl | rfl : k = 0 ∨ k = 1 ∨ k = 2 := by omega
        · have hc := HX.out.2.1.c0
          have hf := HX.out.2.1.fz 0
          have HN := Lib.hid (show Row3 (wr.setCell ⟨w.heap.size + 1, 0, none⟩ (.int .i64 (u : Int))) (w.heap.size + 1) u y z ∧ Res (wr.setCell ⟨w.heap.size + 1, 0, none⟩ (.int .i64 (u : Int))) w.heap.size ∧ Below w.heap.size w (wr.setCell ⟨w.heap.size + 1, 0, none⟩ (.int .i64 (u : Int))) from
            ⟨HX.out.2.1.set0 u, (Below.heap_setCell wr ⟨w.heap.size + 1, 0, none⟩ _ w.heap.size (by simp)).trans HX.out.2.2.1, HX.out.2.2.2.setCell (p := ⟨w.heap.size + 1, 0, none⟩) (by simp) _⟩)
          have HST2 := Lib.hid (show F = fin (3 - 1) ([u, y, z].take 1) (s.data.toList.drop (p' + len)) from HST.out)
          clear HX HST
          go_wp2_with fail
          refine HG.out.mono ?_
          rintro e1 w1 ⟨rfl, rfl⟩
          clear HG
          go_wp2
          exact ⟨⟨1, u, y, z, p' + len, by go_num, rfl, by omega, by omega, by omega, by omega, by omega, HST2.out, HN.out⟩, by simp [intOf]⟩
        · have hc := HX.out.2.1.c1
          have hf := HX.out.2.1.fz 1
          have HN := Lib.hid (show Row3 (wr.setCell ⟨w.heap.size + 1, 1, none⟩ (.int .i64 (u : Int))) (w.heap.size + 1) x u z ∧ Res (wr.setCell ⟨w.heap.size + 1, 1, none⟩ (.int .i64 (u : Int))) w.heap.size ∧ Below w.heap.size w (wr.setCell ⟨w.heap.size + 1, 1, none⟩ (.int .i64 (u : Int))) from
            ⟨HX.out.2.1.set1 u, (Below.heap_setCell wr ⟨w.heap.size + 1, 1, none⟩ _ w.heap.size (by simp)).trans HX.out.2.2.1, HX.out.2.2.2.setCell (p := ⟨w.heap.size + 1, 1, none⟩) (by simp) _⟩)
          have HST2 := Lib.hid (show F = fin (3 - 2) ([x, u, z].take 2) (s.data.toList.drop (p' + len)) from HST.out)
          clear HX HST
          go_wp2_with fail
          refine HG.out.mono ?_
          rintro e1 w1 ⟨rfl, rfl⟩
          clear HG
          go_wp2
          exact ⟨⟨2, x, u, z, p' + len, by go_num, rfl, by omega, by omega, by omega, by omega, by omega, HST2.out, HN.out⟩, by simp [intOf]⟩
        · have hc := HX.out.2.1.c2
          have hf := HX.out.2.1.fz 2
          have HN := Lib.hid (show Row3 (wr.setCell ⟨w.heap.size + 1, 2, none⟩ (.int .i64 (u : Int))) (w.heap.size + 1) x y u ∧ Res (wr.setCell ⟨w.heap.size + 1, 2, none⟩ (.int .i64 (u : Int))) w.heap.size ∧ Below w.heap.size w (wr.setCell ⟨w.heap.size + 1, 2, none⟩ (.int .i64 (u : Int))) from
            ⟨HX.out.2.1.set2 u, (Below.heap_setCell wr ⟨w.heap.size + 1, 2, none⟩ _ w.heap.size (by simp)).trans HX.out.2.2.1, HX.out.2.2.2.setCell (p := ⟨w.heap.size + 1, 2, none⟩) (by simp) _⟩)
          have HST2 := Lib.hid (show F = fin (3 - 3) ([x, y, u].take 3) (s.data.toList.drop (p' + len)) from HST.out)
          clear HX HST
          go_wp2_with fail
          refine HG.out.mono ?_
          rintro e1 w1 ⟨rfl, rfl⟩
          clear HG
          go_wp2
          exact ⟨⟨3, x, y, u, p' + len, by go_num, rfl, by omega, by omega, by omega, by omega, by omega, HST2.out, HN.out⟩, by simp [intOf]⟩
      · have HG := Lib.hid (vget_no wr p' s hs hp' hg)
        have hstep : (fin (3 - k) ([x, y, z].take k) (s.data.toList.drop p')).1 = (gv 0 0 (s.data.toList.drop p')).2.2 := by
          rw [show 3 - k = (3 - (k + 1)) + 1 by omega, fin, if_pos hg]
        have hno : rec1 (s.data.toList.drop p) = none := rec1_err (by rw [← HF.out, HX.out.1, hstep]; exact hg)
        have HNO := Lib.hid hno
        generalize hxx : (gv 0 0 (s.data.toList.drop p')).2.2 = xx at *
        have hb0 : (xx == 0) = false := by rw [beq_eq_false_iff_ne]; exact hg
        clear hstep hno hxx
        have cr0 := HX.out.2.2.1.c0
        have cr1 := HX.out.2.2.1.c1
        have cr2 := HX.out.2.2.1.c2
        have fr0 := HX.out.2.2.1.fz 0
        have fr1 := HX.out.2.2.1.fz 1
        have fr2 := HX.out.2.2.1.fz 2
        obtain rfl | rfl | rfl : k = 0 ∨ k = 1 ∨ k = 2 := by omega
        · have hc := HX.out.2.1.c0
          have hf := HX.out.2.1.fz 0
          have HRS := Lib.hid ((Below.heap_setCell wr ⟨w.heap.size + 1, 0, none⟩ (.int .i64 0) w.heap.size (by simp)).trans HX.out.2.2.1)
          have HB := Lib.hid (HX.out.2.2.2.setCell (p := ⟨w.heap.size + 1, 0, none⟩) (by simp) (.int .i64 0))
          clear HX
          go_wp2_with fail
          refine HG.out.mono ?_
          rintro e1 w1 ⟨rfl, rfl⟩
          clear HG
          go_wp2
          obtain ⟨e0, e1, e2⟩ := Res.fill HRS.out 0 0 ⟨#[]⟩ rfl
          rw [Exit.noGoto_ret]
          change bodyPost _ _ _ _ _ _
          refine bodyPost_ret (v := .tuple #[rv (0, 0, ⟨#[]⟩), .int .i64 0, .int .i64 xx]) ?_ rfl ?_
          · simp [results, go_sem, e0, e1, e2, rv]
          · exact ⟨.inr ⟨HNO.out, xx, rfl, hg⟩, below_fill HB.out (Nat.le_refl _)⟩
        · have hc := HX.out.2.1.c1
          have hf := HX.out.2.1.fz 1
          have HRS := Lib.hid ((Below.heap_setCell wr ⟨w.heap.size + 1, 1, none⟩ (.int .i64 0) w.heap.size (by simp)).trans HX.out.2.2.1)
          have HB := Lib.hid (HX.out.2.2.2.setCell (p := ⟨w.heap.size + 1, 1, none⟩) (by simp) (.int .i64 0))
          clear HX
          go_wp2_with fail
          refine HG.out.mono ?_
          rintro e1 w1 ⟨rfl, rfl⟩
          clear HG
          go_wp2
          obtain ⟨e0, e1, e2⟩ := Res.fill HRS.out 0 0 ⟨#[]⟩ rfl
          rw [Exit.noGoto_ret]
          change bodyPost _ _ _ _ _ _
          refine bodyPost_ret (v := .tuple #[rv (0, 0, ⟨#[]⟩), .int .i64 0, .int .i64 xx]) ?_ rfl ?_
          · simp [results, go_sem, e0, e1, e2, rv]
          · exact ⟨.inr ⟨HNO.out, xx, rfl, hg⟩, below_fill HB.out (Nat.le_refl _)⟩
        · have hc := HX.out.2.1.c2
          have hf := HX.out.2.1.fz 2
          have HRS := Lib.hid ((Below.heap_setCell wr ⟨w.heap.size + 1, 2, none⟩ (.int .i64 0) w.heap.size (by simp)).trans HX.out.2.2.1)
          have HB := Lib.hid (HX.out.2.2.2.setCell (p := ⟨w.heap.size + 1, 2, none⟩) (by simp) (.int .i64 0))
          clear HX
          go_wp2_with fail
          refine HG.out.mono ?_
          rintro e1 w1 ⟨rfl, rfl⟩
          clear HG
          go_wp2
          obtain ⟨e0, e1, e2⟩ := Res.fill HRS.out 0 0 ⟨#[]⟩ rfl
          rw [Exit.noGoto_ret]
          change bodyPost _ _ _ _ _ _
          refine bodyPost_ret (v := .tuple #[rv (0, 0, ⟨#[]⟩), .int .i64 0, .int .i64 xx]) ?_ rfl ?_
          · simp [results, go_sem, e0, e1, e2, rv]
          · exact ⟨.inr ⟨HNO.out, xx, rfl, hg⟩, below_fill HB.out (Nat.le_refl _)⟩
    · obtain rfl : k = 3 := by omega
      have hfin : fin 3 [] (s.data.toList.drop p) = (0, [x, y, z], s.data.toList.drop p') := HF.out.symm.trans HX.out.1
      have hrec := rec1_at hfin
      have hl : s.data.toList.length = s.size := rfl
      rw [List.length_drop, hl] at hrec
      have HREC := Lib.hid hrec
      have HFIN := Lib.hid hfin
      have c0 := HX.out.2.1.c0
      have c1 := HX.out.2.1.c1
      have c2 := HX.out.2.1.c2
      have cr0 := HX.out.2.2.1.c0
      have cr1 := HX.out.2.2.1.c1
      have cr2 := HX.out.2.2.1.c2
      have fr0 := HX.out.2.2.1.fz 0
      have fr1 := HX.out.2.2.1.fz 1
      have fr2 := HX.out.2.2.1.fz 2
      clear hrec hfin hl
      by_cases hbad : x < 1 ∨ 1000000000 < x ∨ 1000000000 < y ∨ 2000 < z
      · have hno : rec1 (s.data.toList.drop p) = none := by rw [HREC.out, if_pos hbad]
        have HNO := Lib.hid hno
        obtain ⟨e0, e1, e2⟩ := Res.fill HX.out.2.2.1 0 0 ⟨#[]⟩ rfl
        have HB := Lib.hid (HX.out.2.2.2)
        clear HX hno HREC HFIN
        by_cases h1 : (x : Int) < 1
        · skip
          go_wp2
          try rw [Exit.noGoto_ret]
          change bodyPost _ _ _ _ _ _
          refine bodyPost_ret (v := .tuple #[rv (0, 0, ⟨#[]⟩), .int .i64 0, .int .i64 150]) ?_ rfl ?_
          · simp [results, go_sem, e0, e1, e2, rv]
          · exact ⟨.inr ⟨HNO.out, 150, rfl, by decide⟩, below_fill HB.out (Nat.le_refl _)⟩
        by_cases h2 : (1000000000 : Int) < (x : Int)
        · skip
          go_wp2
          try rw [Exit.noGoto_ret]
          change bodyPost _ _ _ _ _ _
          refine bodyPost_ret (v := .tuple #[rv (0, 0, ⟨#[]⟩), .int .i64 0, .int .i64 150]) ?_ rfl ?_
          · simp [results, go_sem, e0, e1, e2, rv]
          · exact ⟨.inr ⟨HNO.out, 150, rfl, by decide⟩, below_fill HB.out (Nat.le_refl _)⟩
        by_cases h3 : (1000000000 : Int) < (y : Int)
        · skip
          go_wp2
          try rw [Exit.noGoto_ret]
          change bodyPost _ _ _ _ _ _
          refine bodyPost_ret (v := .tuple #[rv (0, 0, ⟨#[]⟩), .int .i64 0, .int .i64 150]) ?_ rfl ?_
          · simp [results, go_sem, e0, e1, e2, rv]
          · exact ⟨.inr ⟨HNO.out, 150, rfl, by decide⟩, below_fill HB.out (Nat.le_refl _)⟩
        have h4 : (2000 : Int) < (z : Int) := by omega
        go_wp2
        try rw [Exit.noGoto_ret]
        change bodyPost _ _ _ _ _ _
        refine bodyPost_ret (v := .tuple #[rv (0, 0, ⟨#[]⟩), .int .i64 0, .int .i64 150]) ?_ rfl ?_
        · simp [results, go_sem, e0, e1, e2, rv]
        · exact ⟨.inr ⟨HNO.out, 150, rfl, by decide⟩, below_fill HB.out (Nat.le_refl _)⟩
      have h1 : ¬ (x : Int) < 1 := by omega
      have h2 : ¬ (1000000000 : Int) < (x : Int) := by omega
      have h3 : ¬ (1000000000 : Int) < (y : Int) := by omega
      have h4 : ¬ (2000 : Int) < (z : Int) := by omega
      by_cases hsh : s.size - p' < z
      · have hno : rec1 (s.data.toList.drop p) = none := by rw [HREC.out, if_neg hbad, if_pos hsh]
        have HNO := Lib.hid hno
        obtain ⟨e0, e1, e2⟩ := Res.fill HX.out.2.2.1 0 0 ⟨#[]⟩ rfl
        have HB := Lib.hid (HX.out.2.2.2)
        have h5 : (s.size : Int) - (p' : Int) < (z : Int) := by omega
        clear HX hno HREC HFIN
        go_wp2
        try rw [Exit.noGoto_ret]
        change bodyPost _ _ _ _ _ _
        refine bodyPost_ret (v := .tuple #[rv (0, 0, ⟨#[]⟩), .int .i64 0, .int .i64 4]) ?_ rfl ?_
        · simp [results, go_sem, e0, e1, e2, rv]
        · exact ⟨.inr ⟨HNO.out, 4, rfl, by decide⟩, below_fill HB.out (Nat.le_refl _)⟩
      · have hyes : rec1 (s.data.toList.drop p) = some (((x : Int), (y : Int), ⟨((s.data.toList.drop p').take z).toArray⟩), (s.data.toList.drop p').drop z) := by rw [HREC.out, if_neg hbad, if_neg hsh]
        have HYES := Lib.hid hyes
        have h5 : ¬ (s.size : Int) - (p' : Int) < (z : Int) := by omega
        clear hyes HREC
        go_wp2
        have i1 : (p' : Int) ≤ (p' : Int) + (z : Int) := by omega
        have i2 : (p' : Int) + (z : Int) ≤ (s.size : Int) := by omega
        have i3 : ((p' : Int) + (z : Int)).toNat = p' + z := by omega
        have i4 : (0 : Int) ≤ (p' : Int) := by omega
        have i5 : IntKind.i64.wrap ((p' : Int) + (z : Int)) = (p' : Int) + (z : Int) := by rw [IntKind.wrap_i64]; omega
        have i6 : ((p' : Int)).toNat = p' := by omega
        go_region
        all_goals
          obtain ⟨e0, e1, e2⟩ := Res.fill HX.out.2.2.1 (x : Int) (y : Int) (s.extract p' (p' + z)) rfl
          have HB := Lib.hid (HX.out.2.2.2)
          have hex := extract_mid s p' z
          obtain ⟨hok, happ⟩ := rec1_some _ _ _ HYES.out
          have hlen := congrArg List.length happ
          have hl : s.data.toList.length = s.size := rfl
          rw [List.length_append, List.length_drop, List.length_drop, List.length_drop, hl] at hlen
          have HL := Lib.hid hlen
          have HEX := Lib.hid hex
          clear HX hlen happ hok hex hl
          go_wp2
          try rw [Exit.noGoto_ret]
          change bodyPost _ _ _ _ _ _
          refine bodyPost_ret (v := .tuple #[.agg #[.int .i64 (x : Int), .int .i64 (y : Int), .string (s.extract p' (p' + z))], .int .i64 ((p' : Int) + (z : Int)), .int .i64 0]) ?_ rfl ?_
          · simp [results, go_sem, e0, e1, e2]
          · refine ⟨.inl ⟨_, _, HYES.out, ?_⟩, below_drewN (n := 1) (below_fill HB.out (Nat.le_refl _))⟩
            rw [HEX.out]
            have := HL.out
            have e9 : (p' : Int) + (z : Int) = ((p + (recB ((x : Int), (y : Int), ⟨((s.data.toList.drop p').take z).toArray⟩)).length : Nat) : Int) := by omega
            rw [e9]
            rfl
end Rd
end Go.Proofs.YtpbphhpldlckbaaGreat
namespace Go.Proofs.YtpbphhpldlckbaaGreat
namespace Bk
open Go.RowKit Tk Vi Sq Rd
open Bt (Frm)

/-- A block's head at block b. -/
def Hb (w : World) (b : Nat) (raw count first early late md : Int) (bd : ByteArray) : Prop :=
  w.heap[b]? = some (.cells #[.int .i64 0, .int .i64 0, .int .i64 raw, .int .i64 count, .int .i64 first, .int .i64 early, .int .i64 late, .int .i64 md, .string bd] 87 (0, 0))
section
variable {w w' : World} {b : Nat} {raw count first early late md : Int} {bd : ByteArray} (h : Hb w b raw count first early late md bd)
include h
theorem Hb.lt : b < w.heap.size := (Array.getElem?_eq_some_iff.1 h).1
theorem Hb.c0 : w.cell? ⟨b, 0, none⟩ = some (.int .i64 0) := by rw [cell_of_row w b 0 _ _ (0, 0) h]; rfl
theorem Hb.c1 : w.cell? ⟨b, 1, none⟩ = some (.int .i64 0) := by rw [cell_of_row w b 1 _ _ (0, 0) h]; rfl
theorem Hb.c2 : w.cell? ⟨b, 2, none⟩ = some (.int .i64 raw) := by rw [cell_of_row w b 2 _ _ (0, 0) h]; rfl
theorem Hb.c3 : w.cell? ⟨b, 3, none⟩ = some (.int .i64 count) := by rw [cell_of_row w b 3 _ _ (0, 0) h]; rfl
theorem Hb.c4 : w.cell? ⟨b, 4, none⟩ = some (.int .i64 first) := by rw [cell_of_row w b 4 _ _ (0, 0) h]; rfl
theorem Hb.c5 : w.cell? ⟨b, 5, none⟩ = some (.int .i64 early) := by rw [cell_of_row w b 5 _ _ (0, 0) h]; rfl
theorem Hb.c6 : w.cell? ⟨b, 6, none⟩ = some (.int .i64 late) := by rw [cell_of_row w b 6 _ _ (0, 0) h]; rfl
theorem Hb.c7 : w.cell? ⟨b, 7, none⟩ = some (.int .i64 md) := by rw [cell_of_row w b 7 _ _ (0, 0) h]; rfl
theorem Hb.c8 : w.cell? ⟨b, 8, none⟩ = some (.string bd) := by rw [cell_of_row w b 8 _ _ (0, 0) h]; rfl
theorem Hb.fz (j : Nat) : w.frozen? ⟨b, j, none⟩ = false := frozen_of_row w b j _ _ h
theorem Hb.set2 (x : Int) : Hb (w.setCell ⟨b, 2, none⟩ (.int .i64 x)) b x count first early late md bd := by
  unfold Hb at *; simp [World.setCell, Array.getElem?_modify, h]
theorem Hb.set3 (x : Int) : Hb (w.setCell ⟨b, 3, none⟩ (.int .i64 x)) b raw x first early late md bd := by
  unfold Hb at *; simp [World.setCell, Array.getElem?_modify, h]
theorem Hb.set4 (x : Int) : Hb (w.setCell ⟨b, 4, none⟩ (.int .i64 x)) b raw count x early late md bd := by
  unfold Hb at *; simp [World.setCell, Array.getElem?_modify, h]
theorem Hb.set5 (x : Int) : Hb (w.setCell ⟨b, 5, none⟩ (.int .i64 x)) b raw count first x late md bd := by
  unfold Hb at *; simp [World.setCell, Array.getElem?_modify, h]
theorem Hb.set6 (x : Int) : Hb (w.setCell ⟨b, 6, none⟩ (.int .i64 x)) b raw count first early x md bd := by
  unfold Hb at *; simp [World.setCell, Array.getElem?_modify, h]
theorem Hb.set7 (x : Int) : Hb (w.setCell ⟨b, 7, none⟩ (.int .i64 x)) b raw count first early late x bd := by
  unfold Hb at *; simp [World.setCell, Array.getElem?_modify, h]
theorem Hb.set8 (x : ByteArray) : Hb (w.setCell ⟨b, 8, none⟩ (.string x)) b raw count first early late md x := by
  unfold Hb at *; simp [World.setCell, Array.getElem?_modify, h]
theorem Hb.far {p : Addr} (hp : b ≠ p.block) (u : Value) : Hb (w.setCell p u) b raw count first early late md bd := (Below.heap_setCell w p u b hp).trans h
theorem Hb.keep {L : List Nat} (hk : Keep w w' L) (hb : b ∉ L) : Hb w' b raw count first early late md bd := (hk.blk b (Array.getElem?_eq_some_iff.1 h).1 hb).trans h
theorem Hb.below {B : Nat} (hk : Below B w w') (hb : b < B) : Hb w' b raw count first early late md bd := (hk.block b hb).trans h
end
theorem Hb.new (w : World) : Hb (w.alloc (.cells #[.int .i64 0, .int .i64 0, .int .i64 0, .int .i64 0, .int .i64 0, .int .i64 0, .int .i64 0, .int .i64 0, .string ⟨#[]⟩] 87)) w.heap.size 0 0 0 0 0 0 ⟨#[]⟩ := heap_alloc_new w _

/-- The variables of block.peek while it takes. -/
structure Vp (w : World) (bV bT bH bF : Nat) (s : ByteArray) (p : Nat) (raw count first early late md : Int) (bd : ByteArray) : Prop where
  vV : Var w bV 117 (.pointer (some ⟨bT, 0, none⟩))
  ta : Ta w bT s p
  vF : Var w bF 95 (.func (.func 60) #[.pointer (some ⟨bT, 0, none⟩)] #[])
  hb : Hb w bH raw count first early late md bd
  ne : bV ≠ bT ∧ bV ≠ bH ∧ bV ≠ bF ∧ bT ≠ bH ∧ bT ≠ bF ∧ bH ≠ bF
section
variable {w w' : World} {bV bT bH bF p : Nat} {s : ByteArray} {raw count first early late md : Int} {bd : ByteArray} (h : Vp w bV bT bH bF s p raw count first early late md bd)
include h
theorem Vp.drew : Vp w.drew bV bT bH bF s p raw count first early late md bd := ⟨h.vV, h.ta, h.vF, h.hb, h.ne⟩
theorem Vp.keep (hk : Keep w w' []) : Vp w' bV bT bH bF s p raw count first early late md bd :=
  ⟨hk.var h.vV (by simp), hk.ta h.ta (by simp), hk.var h.vF (by simp), h.hb.keep hk (by simp), h.ne⟩
theorem Vp.set_p (q : Nat) : Vp (w.setCell ⟨bT, 1, none⟩ (.int .i64 (q : Int))) bV bT bH bF s q raw count first early late md bd := by
  obtain ⟨n1, n2, n3, n4, n5, n6⟩ := h.ne
  exact ⟨h.vV.far (p := ⟨bT, 1, none⟩) n1 _, h.ta.set1 q, h.vF.far (p := ⟨bT, 1, none⟩) (Ne.symm n5) _, h.hb.far (p := ⟨bT, 1, none⟩) (Ne.symm n4) _, h.ne⟩
/-- The head is written. -/
theorem Vp.put {raw' count' first' early' late' md' : Int} {bd' : ByteArray} (hk : Keep w w' [bH]) (hH : Hb w' bH raw' count' first' early' late' md' bd') : Vp w' bV bT bH bF s p raw' count' first' early' late' md' bd' := by
  obtain ⟨n1, n2, n3, n4, n5, n6⟩ := h.ne
  exact ⟨hk.var h.vV (by simpa using n2), hk.ta h.ta (by simpa using n4), hk.var h.vF (by simpa using Ne.symm n6), hH, h.ne⟩
/-- The taker goes on. -/
theorem Vp.went {q : Nat} (hk : Keep w w' [bT]) (hT : Ta w' bT s q) : Vp w' bV bT bH bF s q raw count first early late md bd := by
  obtain ⟨n1, n2, n3, n4, n5, n6⟩ := h.ne
  exact ⟨hk.var h.vV (by simpa using n1), hT, hk.var h.vF (by simpa using Ne.symm n5), h.hb.keep hk (by simpa using Ne.symm n4), h.ne⟩
end

/-- Why a head is none; 0: it is one. -/
def perr : List UInt8 → Int
  | [] => 4
  | _ :: b => (fin 5 [] b).1
/-- What is taken. -/
def PkA (s : ByteArray) (bT bH : Nat) (w : World) (e : Ending) (w' : World) : Prop := Keep w w' [bT, bH] ∧
  ((∃ (m : UInt8) (b' : List UInt8) (n1 n2 n3 n4 n5 : Nat) (r : ByteArray), s.data.toList = m :: b' ∧ fin 5 [] b' = (0, [n1, n2, n3, n4, n5], r.data.toList) ∧ e = .returned (.tuple #[]) ∧ Hb w' bH n1 n2 n3 n4 (lateOf n4 n5) m.toNat r) ∨
   (perr s.data.toList ≠ 0 ∧ ∃ q, e = .panicked [fault (perr s.data.toList) q]))
theorem num_any (w : World) (b p : Nat) (s : ByteArray) (h : Ta w b s p) (hs : s.size ≤ 1000000) (hp : p ≤ s.size) :
    Calls Tryz.prog 60 #[.pointer (some ⟨b, 0, none⟩)] w fun e w' =>
      (∃ n k, gv 0 0 (s.data.toList.drop p) = (n, k, 0) ∧ p + k ≤ s.size ∧ n < 9223372036854775808 ∧ e = .returned (.int .i64 (n : Int)) ∧ w' = w.setCell ⟨b, 1, none⟩ (.int .i64 ((p + k : Nat) : Int))) ∨
      ((gv 0 0 (s.data.toList.drop p)).2.2 ≠ 0 ∧ e = .panicked [fault (gv 0 0 (s.data.toList.drop p)).2.2 p] ∧ w = w') := by
  by_cases hg : (gv 0 0 (s.data.toList.drop p)).2.2 = 0
  · obtain ⟨n, k, hgv⟩ : ∃ n k, gv 0 0 (s.data.toList.drop p) = (n, k, 0) := ⟨_, _, by rw [← hg]⟩
    obtain ⟨hn, hk⟩ := gv_in s p n k hp hgv
    refine (num_ok w b p n k s h hs hp hgv).mono ?_
    rintro e w' ⟨he, hw⟩
    exact .inl ⟨n, k, hgv, hk, hn, he, hw⟩
  · refine (num_no w b p s h hs hp hg).mono ?_
    rintro e w' ⟨he, hw⟩
    exact .inr ⟨hg, he, hw⟩
/-- One number more. -/
theorem fin_go {b : List UInt8} {k n u : Nat} {acc : List Nat} (h : gv 0 0 b = (n, u, 0)) : fin (k + 1) acc b = fin k (acc ++ [n]) (b.drop u) := by
  rw [fin, if_neg (by simp [h]), h]
theorem fin_stop {b : List UInt8} {k : Nat} {acc : List Nat} (h : (gv 0 0 b).2.2 ≠ 0) : (fin (k + 1) acc b).1 = (gv 0 0 b).2.2 := by
  rw [fin, if_pos h]
end Bk
end Go.Proofs.YtpbphhpldlckbaaGreat
