/- record.Get. block: what its functions compute: plain lists, no program. block.peek$1: what stands ahead of a block's records is taken. block.peek$1 is walked. -/
import Derived.Test.YtnljhnckmgpllaaGreatBl49
import Derived.Deep.RegionHeld3
namespace Go.Proofs.YtnljhnckmgpllaaGreat
namespace Rd
open Go.RowKit Vi Bd

theorem vget_ok (w : World) (p n len : Nat) (s : ByteArray) (hs : s.size ≤ 1000000) (hp : p ≤ s.size) (hg : gv 0 0 (s.data.toList.drop p) = (n, len, 0)) :
    Calls Tryz.prog 81 #[.string s, .int .i64 (p : Int)] w fun e w' => e = .returned (.tuple #[.int .i64 (n : Int), .int .i64 ((p + len : Nat) : Int), .int .i64 0]) ∧ w = w' := by
  have hl : s.data.toList.length = s.size := rfl
  have hgv : getV s.data.toList (p : Int) = ((n : Int), ((p + len : Nat) : Int), 0) := by
    unfold getV
    rw [if_neg (by rw [hl]; omega), Int.toNat_natCast, hg]
    simp
  have hv := get_any s (p : Int) w hs
  rw [hgv] at hv
  exact hv
theorem vget_no (w : World) (p : Nat) (s : ByteArray) (hs : s.size ≤ 1000000) (hp : p ≤ s.size) (hg : (gv 0 0 (s.data.toList.drop p)).2.2 ≠ 0) :
    Calls Tryz.prog 81 #[.string s, .int .i64 (p : Int)] w fun e w' => e = .returned (.tuple #[.int .i64 0, .int .i64 0, .int .i64 (gv 0 0 (s.data.toList.drop p)).2.2]) ∧ w = w' := by
  have hl : s.data.toList.length = s.size := rfl
  have hgv : getV s.data.toList (p : Int) = (0, 0, (gv 0 0 (s.data.toList.drop p)).2.2) := by
    unfold getV
    rw [if_neg (by rw [hl]; omega), Int.toNat_natCast, if_neg hg]
  have hv := get_any s (p : Int) w hs
  rw [hgv] at hv
  exact hv
theorem gv_in (s : ByteArray) (p n len : Nat) (hp : p ≤ s.size) (hg : gv 0 0 (s.data.toList.drop p) = (n, len, 0)) : n < 9223372036854775808 ∧ p + len ≤ s.size := by
  obtain ⟨m, rest, h1, h2, h3, h4, -⟩ := gv_some _ 0 0 n len hg
  have := congrArg List.length h1
  rw [List.length_drop, List.length_append] at this
  have hl : s.data.toList.length = s.size := rfl
  simp only [Nat.pow_zero, Nat.mul_one, Nat.zero_add, Nat.sub_zero] at h2 h3 h4
  have e : (128 : Nat) ^ 9 = 9223372036854775808 := by decide
  omega
theorem extract_mid (s : ByteArray) (p z : Nat) : s.extract p (p + z) = ⟨((s.data.toList.drop p).take z).toArray⟩ := by
  apply ByteArray.ext
  apply Array.ext'
  rw [ByteArray.data_extract]
  rw [Array.toList_extract]
  simp [List.extract_eq_take_drop]
/-- A block of three numbers. -/
def Row3 (w : World) (b : Nat) (x y z : Nat) : Prop := w.heap[b]? = some (.cells #[.int .i64 (x : Int), .int .i64 (y : Int), .int .i64 (z : Int)] 138 (0, 0))
section
variable {w w' : World} {b x y z : Nat}
theorem Row3.c0 (h : Row3 w b x y z) : w.cell? ⟨b, 0, none⟩ = some (.int .i64 (x : Int)) := by rw [cell_of_row w b 0 _ _ (0, 0) h]; rfl
theorem Row3.c1 (h : Row3 w b x y z) : w.cell? ⟨b, 1, none⟩ = some (.int .i64 (y : Int)) := by rw [cell_of_row w b 1 _ _ (0, 0) h]; rfl
theorem Row3.c2 (h : Row3 w b x y z) : w.cell? ⟨b, 2, none⟩ = some (.int .i64 (z : Int)) := by rw [cell_of_row w b 2 _ _ (0, 0) h]; rfl
theorem Row3.fz (h : Row3 w b x y z) (j : Nat) : w.frozen? ⟨b, j, none⟩ = false := frozen_of_row w b j _ _ h
theorem Row3.set0 (h : Row3 w b x y z) (u : Nat) : Row3 (w.setCell ⟨b, 0, none⟩ (.int .i64 (u : Int))) b u y z := by
  unfold Row3 at *
  simp [World.setCell, Array.getElem?_modify, h]
theorem Row3.set1 (h : Row3 w b x y z) (u : Nat) : Row3 (w.setCell ⟨b, 1, none⟩ (.int .i64 (u : Int))) b x u z := by
  unfold Row3 at *
  simp [World.setCell, Array.getElem?_modify, h]
theorem Row3.set2 (h : Row3 w b x y z) (u : Nat) : Row3 (w.setCell ⟨b, 2, none⟩ (.int .i64 (u : Int))) b x y u := by
  unfold Row3 at *
  simp [World.setCell, Array.getElem?_modify, h]
end
/-- The result's block. -/
def Res (w : World) (b : Nat) : Prop := w.heap[b]? = some (.cells #[.int .i64 0, .int .i64 0, .string ⟨#[]⟩] 57 (0, 0))
section
variable {w w' : World} {b : Nat}
theorem Res.c0 (h : Res w b) : w.cell? ⟨b, 0, none⟩ = some (.int .i64 0) := by rw [cell_of_row w b 0 _ _ (0, 0) h]; rfl
theorem Res.c1 (h : Res w b) : w.cell? ⟨b, 1, none⟩ = some (.int .i64 0) := by rw [cell_of_row w b 1 _ _ (0, 0) h]; rfl
theorem Res.c2 (h : Res w b) : w.cell? ⟨b, 2, none⟩ = some (.string ⟨#[]⟩) := by rw [cell_of_row w b 2 _ _ (0, 0) h]; rfl
theorem Res.fz (h : Res w b) (j : Nat) : w.frozen? ⟨b, j, none⟩ = false := frozen_of_row w b j _ _ h
end
theorem rec1_at {b r : List UInt8} {x y z : Nat} (h : fin 3 [] b = (0, [x, y, z], r)) :
    rec1 b = if x < 1 ∨ 1000000000 < x ∨ 1000000000 < y ∨ 2000 < z then none else if r.length < z then none else some (((x : Int), (y : Int), ⟨(r.take z).toArray⟩), r.drop z) := by
  simp only [rec1, h]
theorem rec1_err {b : List UInt8} (h : (fin 3 [] b).1 ≠ 0) : rec1 b = none := by
  unfold rec1
  split
  · rename_i he; rw [he] at h; exact absurd rfl h
  · rfl
theorem Res.fill {w w' : World} {b : Nat} (h : Res w b) (q t : Int) (d : ByteArray) (hw : w' = ((w.setCell ⟨b, 0, none⟩ (.int .i64 q)).setCell ⟨b, 1, none⟩ (.int .i64 t)).setCell ⟨b, 2, none⟩ (.string d)) :
    w'.cell? ⟨b, 0, none⟩ = some (.int .i64 q) ∧ w'.cell? ⟨b, 1, none⟩ = some (.int .i64 t) ∧ w'.cell? ⟨b, 2, none⟩ = some (.string d) := by
  have hh : w'.heap[b]? = some (.cells #[.int .i64 q, .int .i64 t, .string d] 57 (0, 0)) := by
    rw [hw]
    unfold Res at h
    simp [World.setCell, Array.getElem?_modify, h]
  exact ⟨by rw [cell_of_row w' b 0 _ _ (0, 0) hh]; rfl, by rw [cell_of_row w' b 1 _ _ (0, 0) hh]; rfl, by rw [cell_of_row w' b 2 _ _ (0, 0) hh]; rfl⟩
theorem below_fill {w w' : World} {b B : Nat} {v0 v1 v2 : Value} (h : Below B w w') (hb : B ≤ b) : Below B w (((w'.setCell ⟨b, 0, none⟩ v0).setCell ⟨b, 1, none⟩ v1).setCell ⟨b, 2, none⟩ v2) :=
  ((h.setCell (p := ⟨b, 0, none⟩) hb v0).setCell (p := ⟨b, 1, none⟩) hb v1).setCell (p := ⟨b, 2, none⟩) hb v2
/-- What record.Get tells. -/
def getQ (b : List UInt8) (p : Nat) (e : Ending) : Prop := (∃ r b', rec1 b = some (r, b') ∧ e = .returned (.tuple #[rv r, .int .i64 ((p + (recB r).length : Nat) : Int), .int .i64 0])) ∨
  (rec1 b = none ∧ ∃ x, e = .returned (.tuple #[rv (0, 0, ⟨#[]⟩), .int .i64 0, .int .i64 x]) ∧ x ≠ 0)

set_option maxHeartbeats 6400000 in
set_option maxRecDepth 100000 in
theorem rget_any (s : ByteArray) (p : Nat) (w : World) (hs : s.size ≤ 1000000) (hp : p ≤ s.size) :
    Calls Tryz.prog 100 #[.string s, .int .i64 (p : Int)] w fun e w' => getQ (s.data.toList.drop p) p e ∧ Below w.heap.size w w' := by
  have mixed : Tryz.prog.follows .mixedOrders = true := by kernel_rfl
  obtain ⟨F, hF⟩ : ∃ F, F = fin 3 [] (s.data.toList.drop p) := ⟨_, rfl⟩
  have HF := Lib.hid hF
  clear hF
  go_enter Tryz.func100, Tryz.ntmps100
  go_wp2_with fail
  go_step3
  go_wp2_with fail
  go_step3
  go_wp2_with fail
  have hr3 : Row3 ((w.alloc (.cells #[.int .i64 0, .int .i64 0, .string ⟨#[]⟩] 57)).alloc (.cells #[.int .i64 0, .int .i64 0, .int .i64 0] 138)) (w.heap.size + 1) 0 0 0 := by
    have := heap_alloc_new (w.alloc (.cells #[.int .i64 0, .int .i64 0, .string ⟨#[]⟩] 57)) (.cells #[.int .i64 0, .int .i64 0, .int .i64 0] 138)
    rwa [show (w.alloc (.cells #[.int .i64 0, .int .i64 0, .string ⟨#[]⟩] 57)).heap.size = w.heap.size + 1 by simp] at this
  have hrs : Res ((w.alloc (.cells #[.int .i64 0, .int .i64 0, .string ⟨#[]⟩] 57)).alloc (.cells #[.int .i64 0, .int .i64 0, .int .i64 0] 138)) w.heap.size :=
    (Below.heap_alloc _ _ w.heap.size (by simp)).trans (heap_alloc_new w _)
  have hbw : Below w.heap.size w ((w.alloc (.cells #[.int .i64 0, .int .i64 0, .string ⟨#[]⟩] 57)).alloc (.cells #[.int .i64 0, .int .i64 0, .int .i64 0] 138)) := ((Below.refl _ _).alloc (Nat.le_refl _) _).alloc (by simp) _
  generalize (w.alloc (.cells #[.int .i64 0, .int .i64 0, .string ⟨#[]⟩] 57)).alloc (.cells #[.int .i64 0, .int .i64 0, .int .i64 0] 138) = w0 at *
  have H0 := Lib.hid (And.intro hr3 (And.intro hrs hbw))
  clear hr3 hrs hbw
  go_loopw [1, 9] (fun a i wr => ∃ (k x y z p' : Nat), a = .int .i64 (p' : Int) ∧ i = .int .i64 (k : Int) ∧ k ≤ 3 ∧ p' ≤ s.size ∧ x < 9223372036854775808 ∧ y < 9223372036854775808 ∧ z < 9223372036854775808 ∧
    Hid (F = fin (3 - k) ([x, y, z].take k) (s.data.toList.drop p') ∧ Row3 wr (w.heap.size + 1) x y z ∧ Res wr w.heap.size ∧ Below w.heap.size w wr)) (fun _ i _ => 3 - (intOf i).toNat)
  case atStart => exact ⟨0, 0, 0, 0, p, rfl, rfl, by omega, hp, by omega, by omega, by omega, HF.out, H0.out⟩
  case round =>
    obtain ⟨k, x, y, z, p', rfl, rfl, hk, hp', hx, hy, hz, HX⟩ := hrel
    by_cases hk3 : k < 3
    · by_cases hg : (gv 0 0 (s.data.toList.drop p')).2.2 = 0
      · obtain ⟨u, len, hgv⟩ : ∃ u len, gv 0 0 (s.data.toList.drop p') = (u, len, 0) := ⟨_, _, by rw [← hg]⟩
        obtain ⟨hu, hlen⟩ := gv_in s p' u len hp' hgv
        have HG := Lib.hid (vget_ok wr p' u len s hs hp' hgv)
        have hstep : fin (3 - k) ([x, y, z].take k) (s.data.toList.drop p') = fin (3 - (k + 1)) ([x, y, z].take k ++ [u]) (s.data.toList.drop (p' + len)) := by
          rw [show 3 - k = (3 - (k + 1)) + 1 by omega, fin, if_neg (by simp [hg]), hgv, List.drop_drop]
        have HST := Lib.hid (HX.out.1.trans hstep)
        clear hstep hg hgv
        obtain rfl | rfl | rfl : k = 0 ∨ k = 1 ∨ k = 2 := by omega
        · have hc := HX.out.2.1.c0
          have hf := HX.out.2.1.fz 0
          have HN := Lib.hid (show Row3 (wr.setCell ⟨w.heap.size + 1, 0, none⟩ (.int .i64 (u : Int))) (w.heap.size + 1) u y z ∧ Res (wr.setCell ⟨w.heap.size + 1, 0, none⟩ (.int .i64 (u : Int))) w.heap.size ∧ Below w.heap.size w (wr.setCell ⟨w.heap.size + 1, 0, none⟩ (.int .i64 (u : Int))) from
            ⟨HX.out.2.1.set0 u, (Below.heap_setCell wr ⟨w.heap.size + 1, 0, none⟩ _ w.heap.size (by simp)).trans HX.out.2.2.1, HX.out.2.2.2.setCell (p := ⟨w.heap.size + 1, 0, none⟩) (by simp) _⟩)
          have HST2 := Lib.hid (show F = fin (3 - 1) ([u, y, z].take 1) (s.data.toList.drop (p' + len)) from HST.out)
          clear HX HST
          go_wp2_with fail
          refine HG.out.mono ?_
          rintro e1 w1 ⟨rfl, rfl⟩
          clear HG
          go_wp2
          exact ⟨⟨1, u, y, z, p' + len, by go_num, rfl, by omega, by omega, by omega, by omega, by omega, HST2.out, HN.out⟩, by simp [intOf]⟩
        · have hc := HX.out.2.1.c1
          have hf := HX.out.2.1.fz 1
          have HN := Lib.hid (show Row3 (wr.setCell ⟨w.heap.size + 1, 1, none⟩ (.int .i64 (u : Int))) (w.heap.size + 1) x u z ∧ Res (wr.setCell ⟨w.heap.size + 1, 1, none⟩ (.int .i64 (u : Int))) w.heap.size ∧ Below w.heap.size w (wr.setCell ⟨w.heap.size + 1, 1, none⟩ (.int .i64 (u : Int))) from
            ⟨HX.out.2.1.set1 u, (Below.heap_setCell wr ⟨w.heap.size + 1, 1, none⟩ _ w.heap.size (by simp)).trans HX.out.2.2.1, HX.out.2.2.2.setCell (p := ⟨w.heap.size + 1, 1, none⟩) (by simp) _⟩)
          have HST2 := Lib.hid (show F = fin (3 - 2) ([x, u, z].take 2) (s.data.toList.drop (p' + len)) from HST.out)
          clear HX HST
          go_wp2_with fail
          refine HG.out.mono ?_
          rintro e1 w1 ⟨rfl, rfl⟩
          clear HG
          go_wp2
          exact ⟨⟨2, x, u, z, p' + len, by go_num, rfl, by omega, by omega, by omega, by omega, by omega, HST2.out, HN.out⟩, by simp [intOf]⟩
        · have hc := HX.out.2.1.c2
          have hf := HX.out.2.1.fz 2
          have HN := Lib.hid (show Row3 (wr.setCell ⟨w.heap.size + 1, 2, none⟩ (.int .i64 (u : Int))) (w.heap.size + 1) x y u ∧ Res (wr.setCell ⟨w.heap.size + 1, 2, none⟩ (.int .i64 (u : Int))) w.heap.size ∧ Below w.heap.size w (wr.setCell ⟨w.heap.size + 1, 2, none⟩ (.int .i64 (u : Int))) from
            ⟨HX.out.2.1.set2 u, (Below.heap_setCell wr ⟨w.heap.size + 1, 2, none⟩ _ w.heap.size (by simp)).trans HX.out.2.2.1, HX.out.2.2.2.setCell (p := ⟨w.heap.size + 1, 2, none⟩) (by simp) _⟩)
          have HST2 := Lib.hid (show F = fin (3 - 3) ([x, y, u].take 3) (s.data.toList.drop (p' + len)) from HST.out)
          clear HX HST
          go_wp2_with fail
          refine HG.out.mono ?_
          rintro e1 w1 ⟨rfl, rfl⟩
          clear HG
          go_wp2
          exact ⟨⟨3, x, y, u, p' + len, by go_num, rfl, by omega, by omega, by omega, by omega, by omega, HST2.out, HN.out⟩, by simp [intOf]⟩
      · have HG := Lib.hid (vget_no wr p' s hs hp' hg)
        have hstep : (fin (3 - k) ([x, y, z].take k) (s.data.toList.drop p')).1 = (gv 0 0 (s.data.toList.drop p')).2.2 := by
          rw [show 3 - k = (3 - (k + 1)) + 1 by omega, fin, if_pos hg]
        have hno : rec1 (s.data.toList.drop p) = none := rec1_err (by rw [← HF.out, HX.out.1, hstep]; exact hg)
        have HNO := Lib.hid hno
        generalize hxx : (gv 0 0 (s.data.toList.drop p')).2.2 = xx at *
        have hb0 : (xx == 0) = false := by rw [beq_eq_false_iff_ne]; exact hg
        clear hstep hno hxx
        have cr0 := HX.out.2.2.1.c0
        have cr1 := HX.out.2.2.1.c1
        have cr2 := HX.out.2.2.1.c2
        have fr0 := HX.out.2.2.1.fz 0
        have fr1 := HX.out.2.2.1.fz 1
        have fr2 := HX.out.2.2.1.fz 2
        obtain rfl | rfl | rfl : k = 0 ∨ k = 1 ∨ k = 2 := by omega
        · have hc := HX.out.2.1.c0
          have hf := HX.out.2.1.fz 0
          have HRS := Lib.hid ((Below.heap_setCell wr ⟨w.heap.size + 1, 0, none⟩ (.int .i64 0) w.heap.size (by simp)).trans HX.out.2.2.1)
          have HB := Lib.hid (HX.out.2.2.2.setCell (p := ⟨w.heap.size + 1, 0, none⟩) (by simp) (.int .i64 0))
          clear HX
          go_wp2_with fail
          refine HG.out.mono ?_
          rintro e1 w1 ⟨rfl, rfl⟩
          clear HG
          go_wp2
          obtain ⟨e0, e1, e2⟩ := Res.fill HRS.out 0 0 ⟨#[]⟩ rfl
          rw [Exit.noGoto_ret]
          change bodyPost _ _ _ _ _ _
          refine bodyPost_ret (v := .tuple #[rv (0, 0, ⟨#[]⟩), .int .i64 0, .int .i64 xx]) ?_ rfl ?_
          · simp [results, go_sem, e0, e1, e2, rv]
          · exact ⟨.inr ⟨HNO.out, xx, rfl, hg⟩, below_fill HB.out (Nat.le_refl _)⟩
        · have hc := HX.out.2.1.c1
          have hf := HX.out.2.1.fz 1
          have HRS := Lib.hid ((Below.heap_setCell wr ⟨w.heap.size + 1, 1, none⟩ (.int .i64 0) w.heap.size (by simp)).trans HX.out.2.2.1)
          have HB := Lib.hid (HX.out.2.2.2.setCell (p := ⟨w.heap.size + 1, 1, none⟩) (by simp) (.int .i64 0))
          clear HX
          go_wp2_with fail
          refine HG.out.mono ?_
          rintro e1 w1 ⟨rfl, rfl⟩
          clear HG
          go_wp2
          obtain ⟨e0, e1, e2⟩ := Res.fill HRS.out 0 0 ⟨#[]⟩ rfl
          rw [Exit.noGoto_ret]
          change bodyPost _ _ _ _ _ _
          refine bodyPost_ret (v := .tuple #[rv (0, 0, ⟨#[]⟩), .int .i64 0, .int .i64 xx]) ?_ rfl ?_
          · simp [results, go_sem, e0, e1, e2, rv]
          · exact ⟨.inr ⟨HNO.out, xx, rfl, hg⟩, below_fill HB.out (Nat.le_refl _)⟩
        · have hc := HX.out.2.1.c2
          have hf := HX.out.2.1.fz 2
          have HRS := Lib.hid ((Below.heap_setCell wr ⟨w.heap.size + 1, 2, none⟩ (.int .i64 0) w.heap.size (by simp)).trans HX.out.2.2.1)
          have HB := Lib.hid (HX.out.2.2.2.setCell (p := ⟨w.heap.size + 1, 2, none⟩) (by simp) (.int .i64 0))
          clear HX
          go_wp2_with fail
          refine HG.out.mono ?_
          rintro e1 w1 ⟨rfl, rfl⟩
          clear HG
          go_wp2
          obtain ⟨e0, e1, e2⟩ := Res.fill HRS.out 0 0 ⟨#[]⟩ rfl
          rw [Exit.noGoto_ret]
          change bodyPost _ _ _ _ _ _
          refine bodyPost_ret (v := .tuple #[rv (0, 0, ⟨#[]⟩), .int .i64 0, .int .i64 xx]) ?_ rfl ?_
          · simp [results, go_sem, e0, e1, e2, rv]
          · exact ⟨.inr ⟨HNO.out, xx, rfl, hg⟩, below_fill HB.out (Nat.le_refl _)⟩
    · obtain rfl : k = 3 := by omega
      have hfin : fin 3 [] (s.data.toList.drop p) = (0, [x, y, z], s.data.toList.drop p') := HF.out.symm.trans HX.out.1
      have hrec := rec1_at hfin
      have hl : s.data.toList.length = s.size := rfl
      rw [List.length_drop, hl] at hrec
      have HREC := Lib.hid hrec
      have HFIN := Lib.hid hfin
      have c0 := HX.out.2.1.c0
      have c1 := HX.out.2.1.c1
      have c2 := HX.out.2.1.c2
      have cr0 := HX.out.2.2.1.c0
      have cr1 := HX.out.2.2.1.c1
      have cr2 := HX.out.2.2.1.c2
      have fr0 := HX.out.2.2.1.fz 0
      have fr1 := HX.out.2.2.1.fz 1
      have fr2 := HX.out.2.2.1.fz 2
      clear hrec hfin hl
      by_cases hbad : x < 1 ∨ 1000000000 < x ∨ 1000000000 < y ∨ 2000 < z
      · have hno : rec1 (s.data.toList.drop p) = none := by rw [HREC.out, if_pos hbad]
        have HNO := Lib.hid hno
        obtain ⟨e0, e1, e2⟩ := Res.fill HX.out.2.2.1 0 0 ⟨#[]⟩ rfl
        have HB := Lib.hid (HX.out.2.2.2)
        clear HX hno HREC HFIN
        by_cases h1 : (x : Int) < 1
        · skip
          go_wp2
          try rw [Exit.noGoto_ret]
          change bodyPost _ _ _ _ _ _
          refine bodyPost_ret (v := .tuple #[rv (0, 0, ⟨#[]⟩), .int .i64 0, .int .i64 150]) ?_ rfl ?_
          · simp [results, go_sem, e0, e1, e2, rv]
          · exact ⟨.inr ⟨HNO.out, 150, rfl, by decide⟩, below_fill HB.out (Nat.le_refl _)⟩
        by_cases h2 : (1000000000 : Int) < (x : Int)
        · skip
          go_wp2
          try rw [Exit.noGoto_ret]
          change bodyPost _ _ _ _ _ _
          refine bodyPost_ret (v := .tuple #[rv (0, 0, ⟨#[]⟩), .int .i64 0, .int .i64 150]) ?_ rfl ?_
          · simp [results, go_sem, e0, e1, e2, rv]
          · exact ⟨.inr ⟨HNO.out, 150, rfl, by decide⟩, below_fill HB.out (Nat.le_refl _)⟩
        by_cases h3 : (1000000000 : Int) < (y : Int)
        · skip
          go_wp2
          try rw [Exit.noGoto_ret]
          change bodyPost _ _ _ _ _ _
          refine bodyPost_ret (v := .tuple #[rv (0, 0, ⟨#[]⟩), .int .i64 0, .int .i64 150]) ?_ rfl ?_
          · simp [results, go_sem, e0, e1, e2, rv]
          · exact ⟨.inr ⟨HNO.out, 150, rfl, by decide⟩, below_fill HB.out (Nat.le_refl _)⟩
        have h4 : (2000 : Int) < (z : Int) := by omega
        go_wp2
        try rw [Exit.noGoto_ret]
        change bodyPost _ _ _ _ _ _
        refine bodyPost_ret (v := .tuple #[rv (0, 0, ⟨#[]⟩), .int .i64 0, .int .i64 150]) ?_ rfl ?_
        · simp [results, go_sem, e0, e1, e2, rv]
        · exact ⟨.inr ⟨HNO.out, 150, rfl, by decide⟩, below_fill HB.out (Nat.le_refl _)⟩
      have h1 : ¬ (x : Int) < 1 := by omega
      have h2 : ¬ (1000000000 : Int) < (x : Int) := by omega
      have h3 : ¬ (1000000000 : Int) < (y : Int) := by omega
      have h4 : ¬ (2000 : Int) < (z : Int) := by omega
      by_cases hsh : s.size - p' < z
      · have hno : rec1 (s.data.toList.drop p) = none := by rw [HREC.out, if_neg hbad, if_pos hsh]
        have HNO := Lib.hid hno
        obtain ⟨e0, e1, e2⟩ := Res.fill HX.out.2.2.1 0 0 ⟨#[]⟩ rfl
        have HB := Lib.hid (HX.out.2.2.2)
        have h5 : (s.size : Int) - (p' : Int) < (z : Int) := by omega
        clear HX hno HREC HFIN
        go_wp2
        try rw [Exit.noGoto_ret]
        change bodyPost _ _ _ _ _ _
        refine bodyPost_ret (v := .tuple #[rv (0, 0, ⟨#[]⟩), .int .i64 0, .int .i64 4]) ?_ rfl ?_
        · simp [results, go_sem, e0, e1, e2, rv]
        · exact ⟨.inr ⟨HNO.out, 4, rfl, by decide⟩, below_fill HB.out (Nat.le_refl _)⟩
      · have hyes : rec1 (s.data.toList.drop p) = some (((x : Int), (y : Int), ⟨((s.data.toList.drop p').take z).toArray⟩), (s.data.toList.drop p').drop z) := by rw [HREC.out, if_neg hbad, if_neg hsh]
        have HYES := Lib.hid hyes
        have h5 : ¬ (s.size : Int) - (p' : Int) < (z : Int) := by omega
        clear hyes HREC
        go_wp2
        have i1 : (p' : Int) ≤ (p' : Int) + (z : Int) := by omega
        have i2 : (p' : Int) + (z : Int) ≤ (s.size : Int) := by omega
        have i3 : ((p' : Int) + (z : Int)).toNat = p' + z := by omega
        have i4 : (0 : Int) ≤ (p' : Int) := by omega
        have i5 : IntKind.i64.wrap ((p' : Int) + (z : Int)) = (p' : Int) + (z : Int) := by rw [IntKind.wrap_i64]; omega
        have i6 : ((p' : Int)).toNat = p' := by omega
        go_region
        all_goals
          obtain ⟨e0, e1, e2⟩ := Res.fill HX.out.2.2.1 (x : Int) (y : Int) (s.extract p' (p' + z)) rfl
          have HB := Lib.hid (HX.out.2.2.2)
          have hex := extract_mid s p' z
          obtain ⟨hok, happ⟩ := rec1_some _ _ _ HYES.out
          have hlen := congrArg List.length happ
          have hl : s.data.toList.length = s.size := rfl
          rw [List.length_append, List.length_drop, List.length_drop, List.length_drop, hl] at hlen
          have HL := Lib.hid hlen
          have HEX := Lib.hid hex
          clear HX hlen happ hok hex hl
          go_wp2
          try rw [Exit.noGoto_ret]
          change bodyPost _ _ _ _ _ _
          refine bodyPost_ret (v := .tuple #[.agg #[.int .i64 (x : Int), .int .i64 (y : Int), .string (s.extract p' (p' + z))], .int .i64 ((p' : Int) + (z : Int)), .int .i64 0]) ?_ rfl ?_
          · simp [results, go_sem, e0, e1, e2]
          · refine ⟨.inl ⟨_, _, HYES.out, ?_⟩, below_drewN (n := 1) (below_fill HB.out (Nat.le_refl _))⟩
            rw [HEX.out]
            have := HL.out
            have e9 : (p' : Int) + (z : Int) = ((p + (recB ((x : Int), (y : Int), ⟨((s.data.toList.drop p').take z).toArray⟩)).length : Nat) : Int) := by omega
            rw [e9]
            rfl
end Rd
end Go.Proofs.YtnljhnckmgpllaaGreat
namespace Go.Proofs.YtnljhnckmgpllaaGreat
namespace Bk
open Vi Sq Rd

/-- The record at a place, or nothing. -/
def at3 (l : List (Int × Int × ByteArray)) (k : Nat) : Int × Int × ByteArray := l.getD k (0, 0, ⟨#[]⟩)
/-- Are a row's bytes packed? -/
def isP (l : List (Int × Int × ByteArray)) (A : List Nat) : Bool := decide ((packed (joinB l) A).length < (joinB l).length)
def body (l : List (Int × Int × ByteArray)) (A : List Nat) : List UInt8 := if isP l A = true then packed (joinB l) A else joinB l
def mode (l : List (Int × Int × ByteArray)) (A : List Nat) : Nat := if isP l A = true then 1 else 0
/-- The five numbers of a head. -/
def hd5 (l : List (Int × Int × ByteArray)) : List Nat := [(joinB l).length, l.length, (at3 l 0).1.toNat, (at3 l 0).2.1.toNat, ((at3 l (l.length - 1)).2.1 - (at3 l 0).2.1).toNat]
/-- A row's block. -/
def blk (l : List (Int × Int × ByteArray)) (A : List Nat) : List UInt8 := UInt8.ofNat (mode l A) :: ((hd5 l).flatMap putV ++ body l A)
/-- What block.Encode tells. -/
def encE (l : List (Int × Int × ByteArray)) : Int := if l = [] then 2 else jE l
def lateOf (early more : Nat) : Nat := if more ≤ 1000000000 ∧ early ≤ 1000000000 then early + more else 9223372036854775807
def mayH (md raw count first early late : Nat) : Bool := decide (md ≤ 1 ∧ raw ≤ 20000 ∧ 1 ≤ count ∧ count ≤ raw ∧ 1 ≤ first ∧ first + count ≤ 1000000001 ∧ early ≤ 1000000000 ∧ late ≤ 1000000000)
/-- A block's head: the mode, the numbers, the body. -/
def peekB : List UInt8 → Option (Nat × Nat × Nat × Nat × Nat × Nat × List UInt8)
  | [] => none
  | m :: b => match fin 5 [] b with
    | (0, [raw, count, first, early, more], r) => if mayH m.toNat raw count first early (lateOf early more) = true then some (m.toNat, raw, count, first, early, lateOf early more, r) else none
    | _ => none
/-- The bytes of a block's records. -/
def rawB (md raw : Nat) (b : List UInt8) : Option (List UInt8) := match (if md = 1 then unS b else some b) with
  | none => none
  | some s => if s.length ≠ raw then none else some s
/-- Do records lie as a head says? -/
def fits (l : List (Int × Int × ByteArray)) (count first early late : Nat) : Bool := decide (l.length = count ∧ (at3 l 0).1 = first ∧ (at3 l 0).2.1 = early ∧ (at3 l (l.length - 1)).2.1 = late)
/-- What block.Decode tells. -/
def dec (b : List UInt8) : Option (List (Int × Int × ByteArray)) := match peekB b with
  | none => none
  | some (md, raw, count, first, early, late, r) => match rawB md raw r with
    | none => none
    | some s => match split s with
      | none => none
      | some l => if fits l count first early late = true then some l else none

/-- What a row is. -/
theorem row_seq : ∀ (l : List (Int × Int × ByteArray)) (p : Int × Int × ByteArray), rowE (some p) l = 0 → ∀ (k : Nat) (r : Int × Int × ByteArray), l[k]? = some r → r.1 = p.1 + (k : Int) + 1 ∧ p.2.1 ≤ r.2.1 ∧ ok1 r = true ∧ ∀ (j : Nat) (r' : Int × Int × ByteArray), k ≤ j → l[j]? = some r' → r.2.1 ≤ r'.2.1
  | [], _, _, k, r, h => by simp at h
  | x :: l, p, h, k, r, hk => by
    rw [rowE] at h
    split at h; · simp at h
    rename_i ho
    split at h; · simp at h
    rename_i hf
    have ho : ok1 x = true := by simpa using ho
    have hx : x.1 = p.1 + 1 ∧ p.2.1 ≤ x.2.1 := by
      simp only [off, decide_eq_true_eq] at hf
      omega
    have ih := row_seq l x h
    rcases k with _ | k
    · simp at hk; subst hk
      refine ⟨by simp; omega, hx.2, ho, ?_⟩
      intro j r' _ hj
      rcases j with _ | j
      · simp at hj; subst hj; exact Int.le_refl _
      · exact (ih j r' (by simpa using hj)).2.1
    · obtain ⟨h1, h2, h3, h4⟩ := ih k r (by simpa using hk)
      refine ⟨by rw [h1, hx.1]; push_cast; omega, by omega, h3, ?_⟩
      intro j r' hkj hj
      obtain ⟨j, rfl⟩ : ∃ i, j = i + 1 := ⟨j - 1, by omega⟩
      exact h4 j r' (by omega) (by simpa using hj)
theorem row_seq0 (l : List (Int × Int × ByteArray)) (h : rowE none l = 0) (k : Nat) (r : Int × Int × ByteArray) (hk : l[k]? = some r) :
    r.1 = (at3 l 0).1 + (k : Int) ∧ (at3 l 0).2.1 ≤ r.2.1 ∧ ok1 r = true ∧ ∀ (j : Nat) (r' : Int × Int × ByteArray), k ≤ j → l[j]? = some r' → r.2.1 ≤ r'.2.1 := by
  rcases l with _ | ⟨x, l⟩
  · simp at hk
  rw [rowE] at h
  split at h; · simp at h
  rename_i ho
  split at h; · simp at h
  have ho : ok1 x = true := by simpa using ho
  have e : at3 (x :: l) 0 = x := rfl
  rw [e]
  have ih := row_seq l x h
  rcases k with _ | k
  · simp at hk; subst hk
    refine ⟨by simp, Int.le_refl _, ho, ?_⟩
    intro j r' _ hj
    rcases j with _ | j
    · simp at hj; subst hj; exact Int.le_refl _
    · exact (ih j r' (by simpa using hj)).2.1
  · obtain ⟨h1, h2, h3, h4⟩ := ih k r (by simpa using hk)
    refine ⟨by rw [h1]; push_cast; omega, h2, h3, ?_⟩
    intro j r' hkj hj
    obtain ⟨j, rfl⟩ : ∃ i, j = i + 1 := ⟨j - 1, by omega⟩
    exact h4 j r' (by omega) (by simpa using hj)
theorem at3_get (l : List (Int × Int × ByteArray)) (k : Nat) (h : k < l.length) : l[k]? = some (at3 l k) := by
  unfold at3; rw [List.getD_eq_getElem?_getD, List.getElem?_eq_getElem h]; rfl
theorem joinB_ge : ∀ (l : List (Int × Int × ByteArray)), 3 * l.length ≤ (joinB l).length
  | [] => by simp
  | r :: l => by
    have e : joinB (r :: l) = recB r ++ joinB l := List.flatMap_cons ..
    have := recB_length r
    have := joinB_ge l
    rw [e, List.length_append, List.length_cons]; omega
theorem jE_row {l : List (Int × Int × ByteArray)} (h : jE l = 0) : rowE none l = 0 ∧ (joinB l).length ≤ 20000 := by
  unfold jE at h
  split at h
  · rename_i h1; exact absurd h h1
  split at h; · simp at h
  rename_i h1 h2
  exact ⟨by simpa using h1, by omega⟩
/-- What is known of a row's ends. -/
theorem ends {l : List (Int × Int × ByteArray)} (h : jE l = 0) (hn : l ≠ []) :
    1 ≤ (at3 l 0).1 ∧ (at3 l 0).1 + l.length ≤ 1000000001 ∧ 0 ≤ (at3 l 0).2.1 ∧ (at3 l 0).2.1 ≤ (at3 l (l.length - 1)).2.1 ∧ (at3 l (l.length - 1)).2.1 ≤ 1000000000 ∧ l.length ≤ 6667 := by
  obtain ⟨h1, h2⟩ := jE_row h
  have hp : 0 < l.length := List.length_pos_iff.2 hn
  have h3 := joinB_ge l
  obtain ⟨a1, a2, a3, a4⟩ := row_seq0 l h1 0 _ (at3_get l 0 hp)
  obtain ⟨b1, b2, b3, b4⟩ := row_seq0 l h1 (l.length - 1) _ (at3_get l (l.length - 1) (by omega))
  rw [ok1_iff] at a3 b3
  refine ⟨a3.1, ?_, a3.2.2.1, b2, b3.2.2.2.1, by omega⟩
  have := b3.2.1
  omega
theorem hd5_lt {l : List (Int × Int × ByteArray)} (h : jE l = 0) (hn : l ≠ []) : ∀ n ∈ hd5 l, n < 9223372036854775808 := by
  obtain ⟨e1, e2, e3, e4, e5, e6⟩ := ends h hn
  obtain ⟨h1, h2⟩ := jE_row h
  intro n hm
  simp only [hd5, List.mem_cons, List.not_mem_nil, or_false] at hm
  omega
theorem fin_flat : ∀ (l acc : List Nat) (r : List UInt8), (∀ n ∈ l, n < 9223372036854775808) → fin l.length acc (l.flatMap putV ++ r) = (0, acc ++ l, r)
  | [], acc, r, _ => by simp [fin]
  | n :: l, acc, r, h => by
    rw [List.flatMap_cons, List.append_assoc, List.length_cons, fin_put n (h n (List.mem_cons_self ..)), fin_flat l _ r (fun x hx => h x (List.mem_cons_of_mem _ hx))]
    simp
theorem mode_le (l : List (Int × Int × ByteArray)) (A : List Nat) : mode l A ≤ 1 := by unfold mode; split <;> omega
theorem peek_blk {l : List (Int × Int × ByteArray)} (A : List Nat) (h : jE l = 0) (hn : l ≠ []) :
    peekB (blk l A) = some (mode l A, (joinB l).length, l.length, (at3 l 0).1.toNat, (at3 l 0).2.1.toNat, (at3 l (l.length - 1)).2.1.toNat, body l A) := by
  obtain ⟨e1, e2, e3, e4, e5, e6⟩ := ends h hn
  obtain ⟨h1, h2⟩ := jE_row h
  have hp : 0 < l.length := List.length_pos_iff.2 hn
  have hm := mode_le l A
  have h3 := joinB_ge l
  have hf := fin_flat (hd5 l) [] (body l A) (hd5_lt h hn)
  have h5 : (hd5 l).length = 5 := rfl
  rw [h5, List.nil_append] at hf
  unfold blk
  simp only [peekB, hf]
  simp only [hd5]
  have hl : lateOf (at3 l 0).2.1.toNat ((at3 l (l.length - 1)).2.1 - (at3 l 0).2.1).toNat = (at3 l (l.length - 1)).2.1.toNat := by
    unfold lateOf; rw [if_pos (by omega)]; omega
  rw [hl, toNat_ofNat _ (by omega), if_pos]
  unfold mayH
  simp only [decide_eq_true_eq]
  omega
theorem raw_blk {l : List (Int × Int × ByteArray)} {A : List Nat} (h : jE l = 0) (hA : Sx.Sorted (joinB l) A) : rawB (mode l A) (joinB l).length (body l A) = some (joinB l) := by
  obtain ⟨h1, h2⟩ := jE_row h
  unfold rawB mode body
  by_cases hp : isP l A = true
  · rw [if_pos hp, if_pos hp, if_pos rfl, back hA h2]; simp
  · rw [if_neg hp, if_neg hp, if_neg (by decide)]; simp
theorem dec_blk {l : List (Int × Int × ByteArray)} {A : List Nat} (h : jE l = 0) (hn : l ≠ []) (hA : Sx.Sorted (joinB l) A) : dec (blk l A) = some l := by
  obtain ⟨e1, e2, e3, e4, e5, e6⟩ := ends h hn
  unfold dec
  rw [peek_blk A h hn]
  simp only
  rw [raw_blk h hA]
  simp only
  rw [split_join l h]
  simp only
  rw [if_pos]
  unfold fits
  simp only [decide_eq_true_eq]
  refine ⟨trivial, by omega, by omega, by omega⟩
theorem dec_some {b : List UInt8} {l : List (Int × Int × ByteArray)} (h : dec b = some l) : jE l = 0 ∧ l ≠ [] := by
  unfold dec at h
  split at h; · simp at h
  rename_i md raw count first early late r hp
  split at h; · simp at h
  split at h; · simp at h
  rename_i s hs l' hl'
  split at h
  · rename_i hf
    simp only [Option.some.injEq] at h
    subst h
    refine ⟨(split_some _ _ hl').2, ?_⟩
    rintro rfl
    simp only [fits, decide_eq_true_eq] at hf
    unfold peekB at hp
    split at hp; · simp at hp
    split at hp
    · split at hp
      · rename_i hm
        simp only [Option.some.injEq, Prod.mk.injEq] at hp
        simp only [mayH, decide_eq_true_eq] at hm
        have := hf.1
        simp at this
        omega
      · simp at hp
    · simp at hp
  · simp at h
theorem blk_len {l : List (Int × Int × ByteArray)} {A : List Nat} (h : jE l = 0) (hn : l ≠ []) : (blk l A).length ≤ (joinB l).length + 26 := by
  obtain ⟨e1, e2, e3, e4, e5, e6⟩ := ends h hn
  obtain ⟨h1, h2⟩ := jE_row h
  have l1 := length_putV_le (joinB l).length 2 (by omega)
  have l2 := length_putV_le l.length 2 (by omega)
  have l3 := length_putV_le (at3 l 0).1.toNat 4 (by omega)
  have l4 := length_putV_le (at3 l 0).2.1.toNat 4 (by omega)
  have l5 := length_putV_le ((at3 l (l.length - 1)).2.1 - (at3 l 0).2.1).toNat 4 (by omega)
  have hb : (body l A).length ≤ (joinB l).length := by
    unfold body
    split
    · rename_i hp
      simp only [isP, decide_eq_true_eq] at hp
      omega
    · exact Nat.le_refl _
  unfold blk hd5
  simp only [List.length_cons, List.length_append, List.flatMap_cons, List.flatMap_nil, List.length_nil]
  omega
theorem enc_ok {l : List (Int × Int × ByteArray)} (h : encE l = 0) : jE l = 0 ∧ l ≠ [] := by
  unfold encE at h
  split at h; · simp at h
  exact ⟨h, by assumption⟩
end Bk
end Go.Proofs.YtnljhnckmgpllaaGreat
namespace Go.Proofs.YtnljhnckmgpllaaGreat
namespace Bk
open Go.RowKit Tk Vi Sq Rd
open Bt (Frm)

/-- A block's head at block b. -/
def Hb (w : World) (b : Nat) (raw count first early late md : Int) (bd : ByteArray) : Prop :=
  w.heap[b]? = some (.cells #[.int .i64 0, .int .i64 0, .int .i64 raw, .int .i64 count, .int .i64 first, .int .i64 early, .int .i64 late, .int .i64 md, .string bd] 82 (0, 0))
section
variable {w w' : World} {b : Nat} {raw count first early late md : Int} {bd : ByteArray} (h : Hb w b raw count first early late md bd)
include h
theorem Hb.lt : b < w.heap.size := (Array.getElem?_eq_some_iff.1 h).1
theorem Hb.c0 : w.cell? ⟨b, 0, none⟩ = some (.int .i64 0) := by rw [cell_of_row w b 0 _ _ (0, 0) h]; rfl
theorem Hb.c1 : w.cell? ⟨b, 1, none⟩ = some (.int .i64 0) := by rw [cell_of_row w b 1 _ _ (0, 0) h]; rfl
theorem Hb.c2 : w.cell? ⟨b, 2, none⟩ = some (.int .i64 raw) := by rw [cell_of_row w b 2 _ _ (0, 0) h]; rfl
theorem Hb.c3 : w.cell? ⟨b, 3, none⟩ = some (.int .i64 count) := by rw [cell_of_row w b 3 _ _ (0, 0) h]; rfl
theorem Hb.c4 : w.cell? ⟨b, 4, none⟩ = some (.int .i64 first) := by rw [cell_of_row w b 4 _ _ (0, 0) h]; rfl
theorem Hb.c5 : w.cell? ⟨b, 5, none⟩ = some (.int .i64 early) := by rw [cell_of_row w b 5 _ _ (0, 0) h]; rfl
theorem Hb.c6 : w.cell? ⟨b, 6, none⟩ = some (.int .i64 late) := by rw [cell_of_row w b 6 _ _ (0, 0) h]; rfl
theorem Hb.c7 : w.cell? ⟨b, 7, none⟩ = some (.int .i64 md) := by rw [cell_of_row w b 7 _ _ (0, 0) h]; rfl
theorem Hb.c8 : w.cell? ⟨b, 8, none⟩ = some (.string bd) := by rw [cell_of_row w b 8 _ _ (0, 0) h]; rfl
theorem Hb.fz (j : Nat) : w.frozen? ⟨b, j, none⟩ = false := frozen_of_row w b j _ _ h
theorem Hb.set2 (x : Int) : Hb (w.setCell ⟨b, 2, none⟩ (.int .i64 x)) b x count first early late md bd := by
  unfold Hb at *; simp [World.setCell, Array.getElem?_modify, h]
theorem Hb.set3 (x : Int) : Hb (w.setCell ⟨b, 3, none⟩ (.int .i64 x)) b raw x first early late md bd := by
  unfold Hb at *; simp [World.setCell, Array.getElem?_modify, h]
theorem Hb.set4 (x : Int) : Hb (w.setCell ⟨b, 4, none⟩ (.int .i64 x)) b raw count x early late md bd := by
  unfold Hb at *; simp [World.setCell, Array.getElem?_modify, h]
theorem Hb.set5 (x : Int) : Hb (w.setCell ⟨b, 5, none⟩ (.int .i64 x)) b raw count first x late md bd := by
  unfold Hb at *; simp [World.setCell, Array.getElem?_modify, h]
theorem Hb.set6 (x : Int) : Hb (w.setCell ⟨b, 6, none⟩ (.int .i64 x)) b raw count first early x md bd := by
  unfold Hb at *; simp [World.setCell, Array.getElem?_modify, h]
theorem Hb.set7 (x : Int) : Hb (w.setCell ⟨b, 7, none⟩ (.int .i64 x)) b raw count first early late x bd := by
  unfold Hb at *; simp [World.setCell, Array.getElem?_modify, h]
theorem Hb.set8 (x : ByteArray) : Hb (w.setCell ⟨b, 8, none⟩ (.string x)) b raw count first early late md x := by
  unfold Hb at *; simp [World.setCell, Array.getElem?_modify, h]
theorem Hb.far {p : Addr} (hp : b ≠ p.block) (u : Value) : Hb (w.setCell p u) b raw count first early late md bd := (Below.heap_setCell w p u b hp).trans h
theorem Hb.keep {L : List Nat} (hk : Keep w w' L) (hb : b ∉ L) : Hb w' b raw count first early late md bd := (hk.blk b (Array.getElem?_eq_some_iff.1 h).1 hb).trans h
theorem Hb.below {B : Nat} (hk : Below B w w') (hb : b < B) : Hb w' b raw count first early late md bd := (hk.block b hb).trans h
end
theorem Hb.new (w : World) : Hb (w.alloc (.cells #[.int .i64 0, .int .i64 0, .int .i64 0, .int .i64 0, .int .i64 0, .int .i64 0, .int .i64 0, .int .i64 0, .string ⟨#[]⟩] 82)) w.heap.size 0 0 0 0 0 0 ⟨#[]⟩ := heap_alloc_new w _

/-- The variables of block.peek while it takes. -/
structure Vp (w : World) (bV bT bH bF : Nat) (s : ByteArray) (p : Nat) (raw count first early late md : Int) (bd : ByteArray) : Prop where
  vV : Var w bV 73 (.pointer (some ⟨bT, 0, none⟩))
  ta : Ta w bT s p
  vF : Var w bF 75 (.func (.func 46) #[.pointer (some ⟨bT, 0, none⟩)] #[])
  hb : Hb w bH raw count first early late md bd
  ne : bV ≠ bT ∧ bV ≠ bH ∧ bV ≠ bF ∧ bT ≠ bH ∧ bT ≠ bF ∧ bH ≠ bF
section
variable {w w' : World} {bV bT bH bF p : Nat} {s : ByteArray} {raw count first early late md : Int} {bd : ByteArray} (h : Vp w bV bT bH bF s p raw count first early late md bd)
include h
theorem Vp.drew : Vp w.drew bV bT bH bF s p raw count first early late md bd := ⟨h.vV, h.ta, h.vF, h.hb, h.ne⟩
theorem Vp.keep (hk : Keep w w' []) : Vp w' bV bT bH bF s p raw count first early late md bd :=
  ⟨hk.var h.vV (by simp), hk.ta h.ta (by simp), hk.var h.vF (by simp), h.hb.keep hk (by simp), h.ne⟩
theorem Vp.set_p (q : Nat) : Vp (w.setCell ⟨bT, 1, none⟩ (.int .i64 (q : Int))) bV bT bH bF s q raw count first early late md bd := by
  obtain ⟨n1, n2, n3, n4, n5, n6⟩ := h.ne
  exact ⟨h.vV.far (p := ⟨bT, 1, none⟩) n1 _, h.ta.set1 q, h.vF.far (p := ⟨bT, 1, none⟩) (Ne.symm n5) _, h.hb.far (p := ⟨bT, 1, none⟩) (Ne.symm n4) _, h.ne⟩
/-- The head is written. -/
theorem Vp.put {raw' count' first' early' late' md' : Int} {bd' : ByteArray} (hk : Keep w w' [bH]) (hH : Hb w' bH raw' count' first' early' late' md' bd') : Vp w' bV bT bH bF s p raw' count' first' early' late' md' bd' := by
  obtain ⟨n1, n2, n3, n4, n5, n6⟩ := h.ne
  exact ⟨hk.var h.vV (by simpa using n2), hk.ta h.ta (by simpa using n4), hk.var h.vF (by simpa using Ne.symm n6), hH, h.ne⟩
/-- The taker goes on. -/
theorem Vp.went {q : Nat} (hk : Keep w w' [bT]) (hT : Ta w' bT s q) : Vp w' bV bT bH bF s q raw count first early late md bd := by
  obtain ⟨n1, n2, n3, n4, n5, n6⟩ := h.ne
  exact ⟨hk.var h.vV (by simpa using n1), hT, hk.var h.vF (by simpa using Ne.symm n5), h.hb.keep hk (by simpa using Ne.symm n4), h.ne⟩
end

/-- Why a head is none; 0: it is one. -/
def perr : List UInt8 → Int
  | [] => 4
  | _ :: b => (fin 5 [] b).1
/-- What is taken. -/
def PkA (s : ByteArray) (bT bH : Nat) (w : World) (e : Ending) (w' : World) : Prop := Keep w w' [bT, bH] ∧
  ((∃ (m : UInt8) (b' : List UInt8) (n1 n2 n3 n4 n5 : Nat) (r : ByteArray), s.data.toList = m :: b' ∧ fin 5 [] b' = (0, [n1, n2, n3, n4, n5], r.data.toList) ∧ e = .returned (.tuple #[]) ∧ Hb w' bH n1 n2 n3 n4 (lateOf n4 n5) m.toNat r) ∨
   (perr s.data.toList ≠ 0 ∧ ∃ q, e = .panicked [fault (perr s.data.toList) q]))
theorem num_any (w : World) (b p : Nat) (s : ByteArray) (h : Ta w b s p) (hs : s.size ≤ 1000000) (hp : p ≤ s.size) :
    Calls Tryz.prog 46 #[.pointer (some ⟨b, 0, none⟩)] w fun e w' =>
      (∃ n k, gv 0 0 (s.data.toList.drop p) = (n, k, 0) ∧ p + k ≤ s.size ∧ n < 9223372036854775808 ∧ e = .returned (.int .i64 (n : Int)) ∧ w' = w.setCell ⟨b, 1, none⟩ (.int .i64 ((p + k : Nat) : Int))) ∨
      ((gv 0 0 (s.data.toList.drop p)).2.2 ≠ 0 ∧ e = .panicked [fault (gv 0 0 (s.data.toList.drop p)).2.2 p] ∧ w = w') := by
  by_cases hg : (gv 0 0 (s.data.toList.drop p)).2.2 = 0
  · obtain ⟨n, k, hgv⟩ : ∃ n k, gv 0 0 (s.data.toList.drop p) = (n, k, 0) := ⟨_, _, by rw [← hg]⟩
    obtain ⟨hn, hk⟩ := gv_in s p n k hp hgv
    refine (num_ok w b p n k s h hs hp hgv).mono ?_
    rintro e w' ⟨he, hw⟩
    exact .inl ⟨n, k, hgv, hk, hn, he, hw⟩
  · refine (num_no w b p s h hs hp hg).mono ?_
    rintro e w' ⟨he, hw⟩
    exact .inr ⟨hg, he, hw⟩
/-- One number more. -/
theorem fin_go {b : List UInt8} {k n u : Nat} {acc : List Nat} (h : gv 0 0 b = (n, u, 0)) : fin (k + 1) acc b = fin k (acc ++ [n]) (b.drop u) := by
  rw [fin, if_neg (by simp [h]), h]
theorem fin_stop {b : List UInt8} {k : Nat} {acc : List Nat} (h : (gv 0 0 b).2.2 ≠ 0) : (fin (k + 1) acc b).1 = (gv 0 0 b).2.2 := by
  rw [fin, if_pos h]
end Bk
end Go.Proofs.YtnljhnckmgpllaaGreat
namespace Go.Proofs.YtnljhnckmgpllaaGreat
namespace Bk
open Go.RowKit Tk Vi Sq Rd
open Bt (Frm)

/-- Where the taking stands: k numbers are left. -/
def Pn (w0 w : World) (bV bT bH bF : Nat) (s : ByteArray) (b' : List UInt8) (k : Nat) (acc : List Nat) (p : Nat) (raw count first early late md : Int) (bd : ByteArray) : Prop :=
  Vp w bV bT bH bF s p raw count first early late md bd ∧ Keep w0 w [bT, bH] ∧ p ≤ s.size ∧ fin 5 [] b' = fin k acc (s.data.toList.drop p)
theorem Pn.num {w0 w : World} {bV bT bH bF p k : Nat} {s : ByteArray} {b' : List UInt8} {acc : List Nat} {raw count first early late md : Int} {bd : ByteArray} (m : UInt8) (hb : s.data.toList = m :: b')
    (h : Pn w0 w bV bT bH bF s b' (k + 1) acc p raw count first early late md bd) (hs : s.size ≤ 1000000) :
    Calls Tryz.prog 46 #[.pointer (some ⟨bT, 0, none⟩)] w fun e w' =>
      (∃ n q : Nat, n < 9223372036854775808 ∧ e = .returned (.int .i64 (n : Int)) ∧ w'.cell? ⟨bF, 0, none⟩ = some (.func (.func 46) #[.pointer (some ⟨bT, 0, none⟩)] #[]) ∧ Hid (Pn w0 w' bV bT bH bF s b' k (acc ++ [(n : Nat)]) q raw count first early late md bd)) ∨
      (Keep w0 w' [bT, bH] ∧ perr s.data.toList ≠ 0 ∧ ∃ q, e = .panicked [fault (perr s.data.toList) q]) := by
  obtain ⟨hv, hk, hp, hf⟩ := h
  refine (num_any w bT p s hv.ta hs hp).mono ?_
  rintro e w' (⟨n, u, hg, hu, hn, he, hw⟩ | ⟨hg, he, hw⟩)
  · subst hw
    have h2 := hv.set_p (p + u)
    refine .inl ⟨n, p + u, hn, he, h2.vF.cell, h2, hk.set ⟨bT, 1, none⟩ (.inl (by simp)) _, hu, ?_⟩
    rw [hf, fin_go hg, List.drop_drop]
  · subst hw
    have hpe : perr s.data.toList = (gv 0 0 (s.data.toList.drop p)).2.2 := by
      have : perr s.data.toList = (fin 5 [] b').1 := by rw [hb]; rfl
      rw [this, hf, fin_stop hg]
    exact .inr ⟨hk, by rw [hpe]; exact hg, p, by rw [hpe]; exact he⟩

set_option maxHeartbeats 6400000 in
set_option maxRecDepth 100000 in
theorem peek1_any (w : World) (bV bT bH bF : Nat) (s : ByteArray) (hV : Vp w bV bT bH bF s 0 0 0 0 0 0 0 ⟨#[]⟩) (hs : s.size ≤ 1000000) :
    Calls Tryz.prog 97 #[.pointer (some ⟨bV, 0, none⟩), .pointer (some ⟨bH, 0, none⟩), .pointer (some ⟨bF, 0, none⟩)] w fun e w' => PkA s bT bH w e w' := by
  have mixed : Tryz.prog.follows .mixedOrders = true := by kernel_rfl
  rcases hb : s.data.toList with _ | ⟨m, b'⟩
  · have hd : s.size = 0 := by
      have : s.data.toList.length = s.size := rfl
      rw [hb] at this; simpa using this.symm
    have HB := Lib.hid (byte_no w bT s hV.ta hs hd)
    have hcV := hV.vV.cell
    have HE := Lib.hid hb
    clear hV hb hd
    go_enter Tryz.func97, Tryz.ntmps97
    go_wp2_with fail
    refine HB.out.mono ?_
    rintro e1 w1 ⟨rfl, hk⟩
    exact ⟨rfl, hk.more (by simp), .inr (by rw [HE.out]; exact ⟨by decide, 0, rfl⟩)⟩
  · have hsz : 1 ≤ s.size := by
      have : s.data.toList.length = s.size := rfl
      rw [hb, List.length_cons] at this; omega
    have HB := Lib.hid (byte_ok w bT s hV.ta hs m b' hb)
    have hcV := hV.vV.cell
    have HE := Lib.hid hb
    have HV := Lib.hid hV
    obtain ⟨nVT, nVH, nVF, nTH, nTF, nHF⟩ := hV.ne
    clear hV hb
    go_enter Tryz.func97, Tryz.ntmps97
    go_wp2_with fail
    refine HB.out.mono ?_
    rintro e1 w1 ⟨rfl, hta, hk⟩
    have hv1 := HV.out.went hk hta
    have hc7 := hv1.hb.c7
    have hf7 := hv1.hb.fz 7
    have hk2 : Keep w1 (w1.setCell ⟨bH, 7, none⟩ (.int .i64 (m.toNat : Int))) [bH] := (Keep.refl w1 _).set ⟨bH, 7, none⟩ (.inl (by simp)) _
    have hv2 := hv1.put hk2 (hv1.hb.set7 (m.toNat : Int))
    have hp2 : Pn w (w1.setCell ⟨bH, 7, none⟩ (.int .i64 (m.toNat : Int))) bV bT bH bF s b' 5 [] 1 0 0 0 0 0 m.toNat ⟨#[]⟩ :=
      ⟨hv2, (hk.more (by simp)).trans (hk2.more (by simp)), hsz, by rw [HE.out]; rfl⟩
    have HP2 := Lib.hid hp2
    have hcF := hv2.vF.cell
    clear hta hk hv1 hk2 hv2 hp2 HB hcV
    go_wp2_with fail
    clear hc7 hf7
    generalize w1.setCell ⟨bH, 7, none⟩ (.int .i64 (m.toNat : Int)) = w2 at *
    have hSd : w2.drew.cell? ⟨bF, 0, none⟩ = some (.func (.func 46) #[.pointer (some ⟨bT, 0, none⟩)] #[]) := hcF
    have HSd := Lib.hid hSd
    have HP2d := Lib.hid (show Pn w w2.drew bV bT bH bF s b' 5 [] 1 0 0 0 0 0 m.toNat ⟨#[]⟩ from ⟨HP2.out.1.drew, HP2.out.2.1.drew, HP2.out.2.2⟩)
    clear hSd hcF HP2
    refine wp_region_held (S := fun wx => wx.cell? ⟨bF, 0, none⟩ = some (.func (.func 46) #[.pointer (some ⟨bT, 0, none⟩)] #[])) (by kernel_rfl) ?_
    change wpAnyH _ _ _ _ _ _ _ _ (World.drew _)
    refine wpAnyH_take (i := 0) (v := (.func (.func 46) #[.pointer (some ⟨bT, 0, none⟩)] #[])) rfl (by kernel_rfl) (by kernel_rfl) (by kernel_rfl) (fun _ _ _ h => h) (Or.inl ⟨by rfl, fun w hS => ?_⟩) HSd.out ?_
    · go_simp
    refine wpAnyH_take (i := 2) (v := (.func (.func 46) #[.pointer (some ⟨bT, 0, none⟩)] #[])) rfl (by kernel_rfl) (by kernel_rfl) (by kernel_rfl) (fun _ _ _ h => h) (Or.inl ⟨by rfl, fun w hS => ?_⟩) HSd.out ?_
    · go_simp
    refine wpAnyH_take (i := 4) (v := (.func (.func 46) #[.pointer (some ⟨bT, 0, none⟩)] #[])) rfl (by kernel_rfl) (by kernel_rfl) (by kernel_rfl) (fun _ _ _ h => h) (Or.inl ⟨by rfl, fun w hS => ?_⟩) HSd.out ?_
    · go_simp
    refine wpAnyH_take (i := 6) (v := (.func (.func 46) #[.pointer (some ⟨bT, 0, none⟩)] #[])) rfl (by kernel_rfl) (by kernel_rfl) (by kernel_rfl) (fun _ _ _ h => h) (Or.inl ⟨by rfl, fun w hS => ?_⟩) HSd.out ?_
    · go_simp
    refine wpAnyH_all (rs := [1]) (by kernel_rfl) (by simp) ?_
    intro i hi
    obtain rfl : i = 1 := by simpa using hi
    clear hi
    unfold wpOp
    go_simp
    refine Or.inl ((Pn.num m HE.out HP2d.out hs).mono ?_)
    rintro e3 v3 (⟨n1, q1, hn1, rfl, hS1, hA1⟩ | ⟨hkx, hnx, q, rfl⟩)
    rotate_left
    · exact ⟨rfl, hkx, .inr ⟨hnx, q, rfl⟩⟩
    refine ⟨hS1, ?_⟩
    clear HP2d
    refine wpAnyH_take (i := 8) (v := .pointer (some ⟨bH, 0, none⟩)) rfl (by kernel_rfl) (by kernel_rfl) (by kernel_rfl) (fun _ _ _ h => h) (Or.inl ⟨by rfl, fun w hS => ?_⟩) hS1 ?_
    · go_simp
    refine wpAnyH_take (i := 9) (v := .pointer (some ⟨bH, 2, none⟩)) rfl (by kernel_rfl) (by kernel_rfl) (by kernel_rfl) (fun _ _ _ h => h) (Or.inl ⟨by rfl, fun w hS => ?_⟩) hS1 ?_
    · go_simp
    refine wpAnyH_all (rs := [3]) (by kernel_rfl) (by simp) ?_
    intro i hi
    obtain rfl : i = 3 := by simpa using hi
    clear hi
    unfold wpOp
    go_simp
    refine Or.inl ((Pn.num m HE.out hA1.out hs).mono ?_)
    rintro e4 v4 (⟨n2, q2, hn2, rfl, hS2, hA2⟩ | ⟨hkx, hnx, q, rfl⟩)
    rotate_left
    · exact ⟨rfl, hkx, .inr ⟨hnx, q, rfl⟩⟩
    refine ⟨hS2, ?_⟩
    clear hA1
    refine wpAnyH_all (rs := [5]) (by kernel_rfl) (by simp) ?_
    intro i hi
    obtain rfl : i = 5 := by simpa using hi
    clear hi
    unfold wpOp
    go_simp
    refine Or.inl ((Pn.num m HE.out hA2.out hs).mono ?_)
    rintro e5 v5 (⟨n3, q3, hn3, rfl, hS3, hA3⟩ | ⟨hkx, hnx, q, rfl⟩)
    rotate_left
    · exact ⟨rfl, hkx, .inr ⟨hnx, q, rfl⟩⟩
    refine ⟨hS3, ?_⟩
    clear hA2
    refine wpAnyH_all (rs := [7]) (by kernel_rfl) (by simp) ?_
    intro i hi
    obtain rfl : i = 7 := by simpa using hi
    clear hi
    unfold wpOp
    go_simp
    refine Or.inl ((Pn.num m HE.out hA3.out hs).mono ?_)
    rintro e6 v6 (⟨n4, q4, hn4, rfl, hS4, hA4⟩ | ⟨hkx, hnx, q, rfl⟩)
    rotate_left
    · exact ⟨rfl, hkx, .inr ⟨hnx, q, rfl⟩⟩
    refine ⟨hS4, ?_⟩
    clear hA3
    have b0 := hA4.out.1.hb
    have c0 := b0.c2
    have f0 := b0.fz 2
    refine wpAnyH_all (rs := [10]) (by kernel_rfl) (by simp) ?_
    intro i hi
    obtain rfl : i = 10 := by simpa using hi
    clear hi
    unfold wpOp
    go_simp
    have b1 := b0.set2 (n1 : Int)
    have s1 : (v6.setCell ⟨bH, 2, none⟩ (.int .i64 (n1 : Int))).cell? ⟨bF, 0, none⟩ = some (.func (.func 46) #[.pointer (some ⟨bT, 0, none⟩)] #[]) := (World.cell?_setCell_other v6 ⟨bH, 2, none⟩ ⟨bF, 0, none⟩ _ (by intro e; injection e with e; exact nHF e)).trans hS4
    refine Or.inl ?_
    clear c0 f0
    refine wpAnyH_take (i := 11) (v := .pointer (some ⟨bH, 0, none⟩)) rfl (by kernel_rfl) (by kernel_rfl) (by kernel_rfl) (fun _ _ _ h => h) (Or.inl ⟨by rfl, fun w hS => ?_⟩) s1 ?_
    · go_simp
    refine wpAnyH_take (i := 12) (v := .pointer (some ⟨bH, 3, none⟩)) rfl (by kernel_rfl) (by kernel_rfl) (by kernel_rfl) (fun _ _ _ h => h) (Or.inl ⟨by rfl, fun w hS => ?_⟩) s1 ?_
    · go_simp
    have c1 := b1.c3
    have f1 := b1.fz 3
    refine wpAnyH_all (rs := [13]) (by kernel_rfl) (by simp) ?_
    intro i hi
    obtain rfl : i = 13 := by simpa using hi
    clear hi
    unfold wpOp
    go_simp
    have b2 := b1.set3 (n2 : Int)
    have s2 : ((v6.setCell ⟨bH, 2, none⟩ (.int .i64 (n1 : Int))).setCell ⟨bH, 3, none⟩ (.int .i64 (n2 : Int))).cell? ⟨bF, 0, none⟩ = some (.func (.func 46) #[.pointer (some ⟨bT, 0, none⟩)] #[]) := (World.cell?_setCell_other (v6.setCell ⟨bH, 2, none⟩ (.int .i64 (n1 : Int))) ⟨bH, 3, none⟩ ⟨bF, 0, none⟩ _ (by intro e; injection e with e; exact nHF e)).trans s1
    refine Or.inl ?_
    clear c1 f1
    refine wpAnyH_take (i := 14) (v := .pointer (some ⟨bH, 0, none⟩)) rfl (by kernel_rfl) (by kernel_rfl) (by kernel_rfl) (fun _ _ _ h => h) (Or.inl ⟨by rfl, fun w hS => ?_⟩) s2 ?_
    · go_simp
    refine wpAnyH_take (i := 15) (v := .pointer (some ⟨bH, 4, none⟩)) rfl (by kernel_rfl) (by kernel_rfl) (by kernel_rfl) (fun _ _ _ h => h) (Or.inl ⟨by rfl, fun w hS => ?_⟩) s2 ?_
    · go_simp
    have c2 := b2.c4
    have f2 := b2.fz 4
    refine wpAnyH_all (rs := [16]) (by kernel_rfl) (by simp) ?_
    intro i hi
    obtain rfl : i = 16 := by simpa using hi
    clear hi
    unfold wpOp
    go_simp
    have b3 := b2.set4 (n3 : Int)
    have s3 : (((v6.setCell ⟨bH, 2, none⟩ (.int .i64 (n1 : Int))).setCell ⟨bH, 3, none⟩ (.int .i64 (n2 : Int))).setCell ⟨bH, 4, none⟩ (.int .i64 (n3 : Int))).cell? ⟨bF, 0, none⟩ = some (.func (.func 46) #[.pointer (some ⟨bT, 0, none⟩)] #[]) := (World.cell?_setCell_other ((v6.setCell ⟨bH, 2, none⟩ (.int .i64 (n1 : Int))).setCell ⟨bH, 3, none⟩ (.int .i64 (n2 : Int))) ⟨bH, 4, none⟩ ⟨bF, 0, none⟩ _ (by intro e; injection e with e; exact nHF e)).trans s2
    refine Or.inl ?_
    clear c2 f2
    refine wpAnyH_take (i := 17) (v := .pointer (some ⟨bH, 0, none⟩)) rfl (by kernel_rfl) (by kernel_rfl) (by kernel_rfl) (fun _ _ _ h => h) (Or.inl ⟨by rfl, fun w hS => ?_⟩) s3 ?_
    · go_simp
    refine wpAnyH_take (i := 18) (v := .pointer (some ⟨bH, 5, none⟩)) rfl (by kernel_rfl) (by kernel_rfl) (by kernel_rfl) (fun _ _ _ h => h) (Or.inl ⟨by rfl, fun w hS => ?_⟩) s3 ?_
    · go_simp
    have c3 := b3.c5
    have f3 := b3.fz 5
    refine wpAnyH_all (rs := [19]) (by kernel_rfl) (by simp) ?_
    intro i hi
    obtain rfl : i = 19 := by simpa using hi
    clear hi
    unfold wpOp
    go_simp
    have b4 := b3.set5 (n4 : Int)
    have s4 : ((((v6.setCell ⟨bH, 2, none⟩ (.int .i64 (n1 : Int))).setCell ⟨bH, 3, none⟩ (.int .i64 (n2 : Int))).setCell ⟨bH, 4, none⟩ (.int .i64 (n3 : Int))).setCell ⟨bH, 5, none⟩ (.int .i64 (n4 : Int))).cell? ⟨bF, 0, none⟩ = some (.func (.func 46) #[.pointer (some ⟨bT, 0, none⟩)] #[]) := (World.cell?_setCell_other (((v6.setCell ⟨bH, 2, none⟩ (.int .i64 (n1 : Int))).setCell ⟨bH, 3, none⟩ (.int .i64 (n2 : Int))).setCell ⟨bH, 4, none⟩ (.int .i64 (n3 : Int))) ⟨bH, 5, none⟩ ⟨bF, 0, none⟩ _ (by intro e; injection e with e; exact nHF e)).trans s3
    refine Or.inl ?_
    clear c3 f3
    refine wpAnyH_done (by kernel_rfl) ?_ _
    have hk4 : Keep v6 ((((v6.setCell ⟨bH, 2, none⟩ (.int .i64 (n1 : Int))).setCell ⟨bH, 3, none⟩ (.int .i64 (n2 : Int))).setCell ⟨bH, 4, none⟩ (.int .i64 (n3 : Int))).setCell ⟨bH, 5, none⟩ (.int .i64 (n4 : Int))) [bH] := ((((Keep.refl v6 _).set ⟨bH, 2, none⟩ (.inl (by simp)) _).set ⟨bH, 3, none⟩ (.inl (by simp)) _).set ⟨bH, 4, none⟩ (.inl (by simp)) _).set ⟨bH, 5, none⟩ (.inl (by simp)) _
    have HP7 := Lib.hid (show Pn w ((((v6.setCell ⟨bH, 2, none⟩ (.int .i64 (n1 : Int))).setCell ⟨bH, 3, none⟩ (.int .i64 (n2 : Int))).setCell ⟨bH, 4, none⟩ (.int .i64 (n3 : Int))).setCell ⟨bH, 5, none⟩ (.int .i64 (n4 : Int))) bV bT bH bF s b' 1 ([] ++ [n1] ++ [n2] ++ [n3] ++ [n4]) q4 n1 n2 n3 n4 0 m.toNat ⟨#[]⟩ from ⟨hA4.out.1.put hk4 b4, hA4.out.2.1.trans (hk4.more (by simp)), hA4.out.2.2⟩)
    clear b0 b1 b2 b3 b4 s1 s2 s3 hA4 hS1 hS2 hS3 hS4 hk4
    have hcF := HP7.out.1.vF.cell
    generalize ((((v6.setCell ⟨bH, 2, none⟩ (.int .i64 (n1 : Int))).setCell ⟨bH, 3, none⟩ (.int .i64 (n2 : Int))).setCell ⟨bH, 4, none⟩ (.int .i64 (n3 : Int))).setCell ⟨bH, 5, none⟩ (.int .i64 (n4 : Int))) = w7 at *
    go_wp2_with fail
    refine (Pn.num m HE.out HP7.out hs).mono ?_
    rintro e8 w8 (⟨n5, q5, hn5, rfl, hS8, hA8⟩ | ⟨hkx, hnx, q, rfl⟩)
    rotate_left
    · exact ⟨rfl, hkx, .inr ⟨hnx, q, rfl⟩⟩
    have hcV8 := hA8.out.1.vV.cell
    have b8 := hA8.out.1.hb
    have c5 := b8.c5
    have c6 := b8.c6
    have f6 := b8.fz 6
    have B8 := Lib.hid b8
    clear b8 hS8 hcF HP7
    by_cases h1 : n5 ≤ 1000000000
    · by_cases h2 : n4 ≤ 1000000000
      · have i1 : (n5 : Int) ≤ 1000000000 := by omega
        have i2 : (n4 : Int) ≤ 1000000000 := by omega
        have hlo : ((n4 : Int) + (n5 : Int)) = ((lateOf n4 n5 : Nat) : Int) := by unfold lateOf; rw [if_pos (by omega)]; push_cast; rfl
        have HLO := Lib.hid hlo
        have hkA : Keep w8 ((w8.setCell ⟨bH, 6, none⟩ (.int .i64 9223372036854775807)).setCell ⟨bH, 6, none⟩ (.int .i64 ((n4 : Int) + (n5 : Int)))) [bH] := ((Keep.refl w8 _).set ⟨bH, 6, none⟩ (.inl (by simp)) _).set ⟨bH, 6, none⟩ (.inl (by simp)) _
        have HA := Lib.hid (And.intro (hA8.out.1.put hkA ((B8.out.set6 9223372036854775807).set6 ((n4 : Int) + (n5 : Int)))) (And.intro (hA8.out.2.1.trans (hkA.more (L' := [bT, bH]) (by simp))) ((B8.out.set6 9223372036854775807).set6 ((n4 : Int) + (n5 : Int)))))
        have HR := Lib.hid (rest_any ((w8.setCell ⟨bH, 6, none⟩ (.int .i64 9223372036854775807)).setCell ⟨bH, 6, none⟩ (.int .i64 ((n4 : Int) + (n5 : Int)))) bT q5 s HA.out.1.ta hs hA8.out.2.2.1)
        have hff : fin 5 [] b' = (0, [n1, n2, n3, n4, n5], s.data.toList.drop q5) := hA8.out.2.2.2
        have HFF := Lib.hid hff
        have hcVA : ((w8.setCell ⟨bH, 6, none⟩ (.int .i64 9223372036854775807)).setCell ⟨bH, 6, none⟩ (.int .i64 ((n4 : Int) + (n5 : Int)))).cell? ⟨bV, 0, none⟩ = some (.pointer (some ⟨bT, 0, none⟩)) := HA.out.1.vV.cell
        clear hlo hkA hA8 hff
        go_wp2_with fail
        refine HR.out.mono ?_
        rintro e9 w9 ⟨rfl, hfr⟩
        have hk9 : Keep ((w8.setCell ⟨bH, 6, none⟩ (.int .i64 9223372036854775807)).setCell ⟨bH, 6, none⟩ (.int .i64 ((n4 : Int) + (n5 : Int)))) w9 [bT] := Keep.of_frm hfr (by simp)
        have b9 := HA.out.2.2.keep hk9 (by simpa using Ne.symm nTH)
        have c8 := b9.c8
        have f8 := b9.fz 8
        have HK9 := Lib.hid (HA.out.2.1.trans (hk9.more (by simp)))
        obtain ⟨r, hr⟩ : ∃ r : ByteArray, r = ⟨(s.data.toList.drop q5).toArray⟩ := ⟨_, rfl⟩
        have hr2 : r.data.toList = s.data.toList.drop q5 := by rw [hr]
        rw [← hr]
        rw [← hr2] at HFF
        have HB9 := Lib.hid (b9.set8 r)
        rw [HLO.out] at HB9
        clear hr hr2 hfr hk9 b9 HR HA HLO c5 c6 f6 hcVA
        go_wp2_with fail
        go_end0
        exact ⟨HK9.out.set ⟨bH, 8, none⟩ (.inl (by simp)) _, .inl ⟨m, b', n1, n2, n3, n4, n5, r, HE.out, HFF.out, rfl, HB9.out⟩⟩
      · have i1 : (n5 : Int) ≤ 1000000000 := by omega
        have i2 : ¬ (n4 : Int) ≤ 1000000000 := by omega
        have hlo : 9223372036854775807 = ((lateOf n4 n5 : Nat) : Int) := by unfold lateOf; rw [if_neg (by omega)]; rfl
        have HLO := Lib.hid hlo
        have hkA : Keep w8 (w8.setCell ⟨bH, 6, none⟩ (.int .i64 9223372036854775807)) [bH] := (Keep.refl w8 _).set ⟨bH, 6, none⟩ (.inl (by simp)) _
        have HA := Lib.hid (And.intro (hA8.out.1.put hkA (B8.out.set6 9223372036854775807)) (And.intro (hA8.out.2.1.trans (hkA.more (L' := [bT, bH]) (by simp))) (B8.out.set6 9223372036854775807)))
        have HR := Lib.hid (rest_any (w8.setCell ⟨bH, 6, none⟩ (.int .i64 9223372036854775807)) bT q5 s HA.out.1.ta hs hA8.out.2.2.1)
        have hff : fin 5 [] b' = (0, [n1, n2, n3, n4, n5], s.data.toList.drop q5) := hA8.out.2.2.2
        have HFF := Lib.hid hff
        have hcVA : (w8.setCell ⟨bH, 6, none⟩ (.int .i64 9223372036854775807)).cell? ⟨bV, 0, none⟩ = some (.pointer (some ⟨bT, 0, none⟩)) := HA.out.1.vV.cell
        clear hlo hkA hA8 hff
        go_wp2_with fail
        refine HR.out.mono ?_
        rintro e9 w9 ⟨rfl, hfr⟩
        have hk9 : Keep (w8.setCell ⟨bH, 6, none⟩ (.int .i64 9223372036854775807)) w9 [bT] := Keep.of_frm hfr (by simp)
        have b9 := HA.out.2.2.keep hk9 (by simpa using Ne.symm nTH)
        have c8 := b9.c8
        have f8 := b9.fz 8
        have HK9 := Lib.hid (HA.out.2.1.trans (hk9.more (by simp)))
        obtain ⟨r, hr⟩ : ∃ r : ByteArray, r = ⟨(s.data.toList.drop q5).toArray⟩ := ⟨_, rfl⟩
        have hr2 : r.data.toList = s.data.toList.drop q5 := by rw [hr]
        rw [← hr]
        rw [← hr2] at HFF
        have HB9 := Lib.hid (b9.set8 r)
        rw [HLO.out] at HB9
        clear hr hr2 hfr hk9 b9 HR HA HLO c5 c6 f6 hcVA
        go_wp2_with fail
        go_end0
        exact ⟨HK9.out.set ⟨bH, 8, none⟩ (.inl (by simp)) _, .inl ⟨m, b', n1, n2, n3, n4, n5, r, HE.out, HFF.out, rfl, HB9.out⟩⟩
    · have i1 : ¬ (n5 : Int) ≤ 1000000000 := by omega
      have hlo : 9223372036854775807 = ((lateOf n4 n5 : Nat) : Int) := by unfold lateOf; rw [if_neg (by omega)]; rfl
      have HLO := Lib.hid hlo
      have hkA : Keep w8 (w8.setCell ⟨bH, 6, none⟩ (.int .i64 9223372036854775807)) [bH] := (Keep.refl w8 _).set ⟨bH, 6, none⟩ (.inl (by simp)) _
      have HA := Lib.hid (And.intro (hA8.out.1.put hkA (B8.out.set6 9223372036854775807)) (And.intro (hA8.out.2.1.trans (hkA.more (L' := [bT, bH]) (by simp))) (B8.out.set6 9223372036854775807)))
      have HR := Lib.hid (rest_any (w8.setCell ⟨bH, 6, none⟩ (.int .i64 9223372036854775807)) bT q5 s HA.out.1.ta hs hA8.out.2.2.1)
      have hff : fin 5 [] b' = (0, [n1, n2, n3, n4, n5], s.data.toList.drop q5) := hA8.out.2.2.2
      have HFF := Lib.hid hff
      have hcVA : (w8.setCell ⟨bH, 6, none⟩ (.int .i64 9223372036854775807)).cell? ⟨bV, 0, none⟩ = some (.pointer (some ⟨bT, 0, none⟩)) := HA.out.1.vV.cell
      clear hlo hkA hA8 hff
      go_wp2_with fail
      refine HR.out.mono ?_
      rintro e9 w9 ⟨rfl, hfr⟩
      have hk9 : Keep (w8.setCell ⟨bH, 6, none⟩ (.int .i64 9223372036854775807)) w9 [bT] := Keep.of_frm hfr (by simp)
      have b9 := HA.out.2.2.keep hk9 (by simpa using Ne.symm nTH)
      have c8 := b9.c8
      have f8 := b9.fz 8
      have HK9 := Lib.hid (HA.out.2.1.trans (hk9.more (by simp)))
      obtain ⟨r, hr⟩ : ∃ r : ByteArray, r = ⟨(s.data.toList.drop q5).toArray⟩ := ⟨_, rfl⟩
      have hr2 : r.data.toList = s.data.toList.drop q5 := by rw [hr]
      rw [← hr]
      rw [← hr2] at HFF
      have HB9 := Lib.hid (b9.set8 r)
      rw [HLO.out] at HB9
      clear hr hr2 hfr hk9 b9 HR HA HLO c5 c6 f6 hcVA
      go_wp2_with fail
      go_end0
      exact ⟨HK9.out.set ⟨bH, 8, none⟩ (.inl (by simp)) _, .inl ⟨m, b', n1, n2, n3, n4, n5, r, HE.out, HFF.out, rfl, HB9.out⟩⟩
end Bk
end Go.Proofs.YtnljhnckmgpllaaGreat
