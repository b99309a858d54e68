/- The laws of squash: the probes, SquashBack, SquashAgain, SquashRuns. -/
import Derived.Test.YtnljhnckmgpllaaGreatBl40
import Derived.Test.YtnljhnckmgpllaaGreatBl46
import Derived.Test.YtnljhnckmgpllaaGreatBl47
namespace Go.Proofs.YtnljhnckmgpllaaGreat
namespace Sq
open Go.RowKit

/-- A text's packed bytes: they are unpacked. -/
theorem pack_un (s : ByteArray) (w : World) (hs : s.size ≤ 20000) :
    Calls Tryz.prog 13 #[.string s] w fun e w' => ∃ t : ByteArray, ∃ arr, Sx.Sorted s.data.toList arr ∧ t = ⟨(packed s.data.toList arr).toArray⟩ ∧ t.size ≤ 200000 ∧ e = .returned (.tuple #[.string t, .int .i64 0]) ∧ Below w.heap.size w w' := by
  refine (spack_any s w hs).mono ?_
  rintro e w' ⟨arr, hso, rfl, hb⟩
  refine ⟨_, arr, hso, rfl, ?_, rfl, hb⟩
  show (packed s.data.toList arr).toArray.size ≤ _
  rw [List.size_toArray]
  have h1 := sy_len hso
  have h2 := pri_le hso
  have hsz : s.data.toList.length = s.size := rfl
  rw [hsz] at h1 h2
  have h3 := hbyt_le (sy s.data.toList arr) (by omega)
  have p1 := Vi.length_putV_le s.size 8 (by have : (128 : Nat) ^ (8 + 1) = 9223372036854775808 := by decide
                                            omega)
  have p2 := Vi.length_putV_le (Bw.pri arr) 8 (by have : (128 : Nat) ^ (8 + 1) = 9223372036854775808 := by decide
                                                  omega)
  have p3 := Vi.length_putV_le (sy s.data.toList arr).length 8 (by have : (128 : Nat) ^ (8 + 1) = 9223372036854775808 := by decide
                                                                   omega)
  unfold packed
  rw [List.length_append, List.length_append, List.length_append, hsz]
  omega
/-- Unpack, where a text comes back. -/
theorem un_yes (b : ByteArray) (r : List UInt8) (w : World) (hs : b.size ≤ 1000000) (h : unS b.data.toList = some r) :
    Calls Tryz.prog 18 #[.string b] w fun e w' => e = .returned (.tuple #[.string ⟨r.toArray⟩, .int .i64 0]) ∧ Below w.heap.size w w' := by
  refine (unpack_any b w hs).mono ?_
  rintro e w' ⟨⟨r', hr, rfl⟩ | ⟨hr, _⟩, hb⟩
  · rw [h] at hr; cases hr; exact ⟨rfl, hb⟩
  · rw [h] at hr; cases hr
theorem un_no (b : ByteArray) (w : World) (hs : b.size ≤ 1000000) (h : unS b.data.toList = none) :
    Calls Tryz.prog 18 #[.string b] w fun e w' => (∃ x, e = .returned (.tuple #[.string ⟨#[]⟩, .int .i64 x]) ∧ x ≠ 0) ∧ Below w.heap.size w w' := by
  refine (unpack_any b w hs).mono ?_
  rintro e w' ⟨⟨r', hr, _⟩ | ⟨_, x, rfl, hx, _⟩, hb⟩
  · rw [h] at hr; cases hr
  · exact ⟨⟨x, rfl, hx⟩, hb⟩
theorem un_short (w : World) : Calls Tryz.prog 18 #[.string ⟨#[0]⟩] w fun e w' => e = .returned (.tuple #[.string ⟨#[]⟩, .int .i64 4]) ∧ Below w.heap.size w w' := by
  have h4 : (head (⟨#[0]⟩ : ByteArray).data.toList).1 = 4 := head_short
  refine (unpack_any ⟨#[0]⟩ w (by decide)).mono ?_
  rintro e w' ⟨⟨r', hr, _⟩ | ⟨_, x, rfl, hx, hh⟩, hb⟩
  · exfalso
    unfold unS at hr
    rw [if_pos (by rw [h4]; decide)] at hr
    cases hr
  · rw [h4] at hh
    rw [hh (by decide)]
    exact ⟨rfl, hb⟩
theorem pack_nil (w : World) : Calls Tryz.prog 13 #[.string ⟨#[]⟩] w fun e w' => e = .returned (.tuple #[.string ⟨#[0, 0, 0, 0, 8, 8]⟩, .int .i64 0]) ∧ Below w.heap.size w w' := by
  refine (spack_any ⟨#[]⟩ w (by decide)).mono ?_
  rintro e w' ⟨arr, hso, rfl, hb⟩
  have ha : arr = [0] := sorted_unique hso sorted_nil
  subst ha
  refine ⟨?_, hb⟩
  show Ending.returned (.tuple #[.string ⟨(packed [] [0]).toArray⟩, .int .i64 0]) = _
  rw [packed_nil]
def banana : ByteArray := ⟨#[98, 97, 110, 97, 110, 97]⟩
theorem pack_banana (w : World) : Calls Tryz.prog 13 #[.string banana] w fun e w' => (∃ t : ByteArray, e = .returned (.tuple #[.string t, .int .i64 0]) ∧ t.size ≤ 200000 ∧ unS t.data.toList = some [98, 97, 110, 97, 110, 97]) ∧ Below w.heap.size w w' := by
  refine (pack_un banana w (by decide)).mono ?_
  rintro e w' ⟨t, arr, hso, ht, hts, rfl, hb⟩
  refine ⟨⟨t, rfl, hts, ?_⟩, hb⟩
  rw [ht]
  exact back hso (by decide)
theorem symbols_banana (w : World) : Calls Tryz.prog 15 #[.string banana] w fun e w' => ∃ A c, e = .returned (.tuple #[.slice A 6 c, .int .i64 4, .int .i64 0]) ∧ Rd w' w'.heap.size 1 A 6 (([98, 111, 0, 100, 3, 0] : List Int).map (Value.int .i64)) ∧ Below w.heap.size w w' := by
  refine (symbols_any banana w (by decide)).mono ?_
  rintro e w' ⟨arr, v, hso, rfl, hown, hb⟩
  have ha : arr = [6, 5, 3, 1, 0, 4, 2] := sorted_unique hso sorted_banana
  subst ha
  have hown2 : Own w' w.heap.size v [98, 111, 0, 100, 3, 0] := by
    have h1 : sy banana.data.toList [6, 5, 3, 1, 0, 4, 2] = [98, 111, 0, 100, 3, 0] := sy_banana
    rwa [h1] at hown
  obtain ⟨A, c, rfl, _, _, hr⟩ := hown2.rd
  refine ⟨A, c, ?_, hr, hb⟩
  rw [pri_banana]; rfl

set_option maxHeartbeats 6400000 in
set_option maxRecDepth 100000 in
theorem awake_any (w : World) : Calls Tryz.prog 12 #[] w fun e w' => e = .returned (.bool true) ∧ Below w.heap.size w w' := by
  have mixed : Tryz.prog.follows .mixedOrders = true := by kernel_rfl
  go_enter Tryz.func12, Tryz.ntmps12
  go_wp2_with fail
  refine (pack_nil w).mono ?_
  rintro e1 w1 ⟨rfl, hb1⟩
  have H1 := Lib.hid hb1
  clear hb1
  go_wp2_with fail
  refine (un_yes _ [] w1 (by decide) un_nil).mono ?_
  rintro e2 w2 ⟨rfl, hb2⟩
  have H2 := Lib.hid (ext_trans H1.out hb2)
  clear hb2 H1
  go_wp2_with fail
  refine (pack_banana w2).mono ?_
  rintro e3 w3 ⟨⟨t, rfl, hts, hut⟩, hb3⟩
  have H3 := Lib.hid (ext_trans H2.out hb3)
  have HU := Lib.hid (fun w => un_yes t _ w (by omega) hut)
  clear hb3 H2 hut hts
  go_wp2_with fail
  refine (HU.out w3).mono ?_
  rintro e4 w4 ⟨rfl, hb4⟩
  have H4 := Lib.hid (ext_trans H3.out hb4)
  clear hb4 H3 HU
  go_wp2_with fail
  refine (symbols_banana w4).mono ?_
  rintro e5 w5 ⟨A, c, rfl, hr5, hb5⟩
  have H5 := Lib.hid (ext_trans H4.out hb5)
  have HR5 := Lib.hid hr5
  clear hb5 hr5 H4
  go_wp2_with fail
  refine (un_short w5).mono ?_
  rintro e6 w6 ⟨rfl, hb6⟩
  have H6 := Lib.hid (ext_trans H5.out hb6)
  have HR6 := Lib.hid ((HR5.out.below hb6).more hb6.size)
  clear hb6 HR5 H5
  go_wp2_with fail
  have hlit := rd_lit w6 3 [98, 111, 0, 100, 3, 0]
  have hbw : Below w6.heap.size w6 (w6.alloc (.cells (([98, 111, 0, 100, 3, 0] : List Int).map (Value.int .i64)).toArray 3)) := (Below.refl _ _).alloc (Nat.le_refl _) _
  have hbw2 : Below w6.heap.size w6 (w6.alloc (.cells #[.int .i64 98, .int .i64 111, .int .i64 0, .int .i64 100, .int .i64 3, .int .i64 0] 3)) := hbw
  have hlit2 : Rd (w6.alloc (.cells #[.int .i64 98, .int .i64 111, .int .i64 0, .int .i64 100, .int .i64 3, .int .i64 0] 3)) (w6.alloc (.cells #[.int .i64 98, .int .i64 111, .int .i64 0, .int .i64 100, .int .i64 3, .int .i64 0] 3)).heap.size 1 (some ⟨w6.heap.size, 0, none⟩) 6 (([98, 111, 0, 100, 3, 0] : List Int).map (Value.int .i64)) := hlit
  have HSM := Lib.hid (Sm.same_any A (some ⟨w6.heap.size, 0, none⟩) 6 6 c 6 [98, 111, 0, 100, 3, 0] [98, 111, 0, 100, 3, 0] _ (by decide) _ _ ((HR6.out.below hbw2).more hbw2.size) hlit2)
  have HB := Lib.hid (ext_trans H6.out hbw2)
  clear hlit hbw hbw2 hlit2 HR6 H6
  refine HSM.out.mono ?_
  rintro e7 w7 ⟨rfl, q, rfl⟩
  rw [show (([98, 111, 0, 100, 3, 0] : List Int) == [98, 111, 0, 100, 3, 0]) = true from rfl]
  clear HSM
  go_wp2_with fail
  go_ret
  exact ⟨rfl, below_drewN HB.out q⟩

theorem str_self (s : ByteArray) : (⟨s.data.toList.toArray⟩ : ByteArray) = s := by
  apply ByteArray.ext
  simp
theorem cut_list (t : ByteArray) (n : Nat) : (t.extract 0 n).data.toList = t.data.toList.take n := by
  rw [ByteArray.data_extract, Array.toList_extract]
  simp [List.extract_eq_take_drop]

set_option maxHeartbeats 6400000 in
set_option maxRecDepth 100000 in
theorem back_law (s bh : ByteArray) (w : World) : Calls Tryz.prog 4 #[.string s, .string bh] w fun e w' => e = .returned (.bool true) ∧ Below w.heap.size w w' := by
  have mixed : Tryz.prog.follows .mixedOrders = true := by kernel_rfl
  by_cases hs : 2000 < s.size
  · have hi : (2000 : Int) < (s.size : Int) := by omega
    go_enter Tryz.func4, Tryz.ntmps4
    go_wp2_with fail
    refine (awake_any w).mono ?_
    rintro e1 w1 ⟨rfl, hb⟩
    have HB := Lib.hid hb
    clear hb
    go_wp2_with fail
    go_ret
    exact ⟨rfl, HB.out⟩
  by_cases hs2 : 100 < bh.size
  · have hi : (100 : Int) < (bh.size : Int) := by omega
    have hi2 : ¬ (2000 : Int) < (s.size : Int) := by omega
    go_enter Tryz.func4, Tryz.ntmps4
    go_wp2_with fail
    refine (awake_any w).mono ?_
    rintro e1 w1 ⟨rfl, hb⟩
    have HB := Lib.hid hb
    clear hb
    go_wp2_with fail
    go_ret
    exact ⟨rfl, HB.out⟩
  have hi1 : ¬ (2000 : Int) < (s.size : Int) := by omega
  have hi2 : ¬ (100 : Int) < (bh.size : Int) := by omega
  go_enter Tryz.func4, Tryz.ntmps4
  go_wp2_with fail
  refine (pack_un s w (by omega)).mono ?_
  rintro e1 w1 ⟨t, arr, hso, ht, hts, rfl, hb1⟩
  have hsz : s.data.toList.length = s.size := rfl
  have htl : t.data.toList = packed s.data.toList arr := by rw [ht]
  have ht4 : 4 ≤ t.size := by
    have : t.size = t.data.toList.length := rfl
    rw [this, htl]
    exact packed_len hso
  have hbk := back hso (by omega)
  have hct := cut hso (by omega)
  have hbh := fun x hx => behind hso (by omega) x hx
  rw [← htl] at hbk hct
  have htz : t.data.toList.length = t.size := rfl
  rw [htz] at hct
  have HB1 := Lib.hid hb1
  have HU1 := Lib.hid (fun w => (un_yes t _ w (by omega) hbk).mono fun e w' (h : e = Ending.returned (.tuple #[.string ⟨s.data.toList.toArray⟩, .int .i64 0]) ∧ Below w.heap.size w w') => (show e = Ending.returned (.tuple #[.string s, .int .i64 0]) ∧ Below w.heap.size w w' from ⟨by rw [h.1, str_self], h.2⟩))
  have hsz2 : (t.extract 0 (t.size - 1)).size ≤ 1000000 := by
    have : (t.extract 0 (t.size - 1)).size = (t.extract 0 (t.size - 1)).data.toList.length := rfl
    rw [this, cut_list, List.length_take]; omega
  have HU2 := Lib.hid (fun w => un_no (t.extract 0 (t.size - 1)) w hsz2 (by rw [cut_list]; exact hct))
  have hcat : (t ++ bh).data.toList = t.data.toList ++ bh.data.toList := by simp
  have hcz : (t ++ bh).size ≤ 1000000 := by rw [ByteArray.size_append]; omega
  have HCT := Lib.hid (And.intro hcat hcz)
  have hbh2 : ∀ x, x ≠ [] → unS (t.data.toList ++ x) = none := fun x hx => by rw [htl]; exact hbh x hx
  have HBH := Lib.hid hbh2
  have HBK := Lib.hid hbk
  have e1 : (t.size : Int) - 1 = ((t.size - 1 : Nat) : Int) := by omega
  have i1 : ((t.size - 1 : Nat) : Int) ≤ (t.size : Int) := by omega
  have i2 : (0 : Int) ≤ ((t.size - 1 : Nat) : Int) := by omega
  have i3 : (((t.size - 1 : Nat) : Int)).toNat = t.size - 1 := by omega
  have i4 : ¬ (t.size : Int) < 4 := by omega
  clear hb1 hso ht htl ht4 hbk hct hbh htz hsz hsz2 hcat hcz hbh2 hs hs2
  go_wp2_with fail
  refine (HU1.out w1).mono ?_
  rintro e2 w2 ⟨rfl, hb2⟩
  have HB2 := Lib.hid (ext_trans HB1.out hb2)
  clear hb2
  go_wp2_with fail
  refine (HU2.out w2).mono ?_
  rintro e3 w3 ⟨⟨x, rfl, hx⟩, hb3⟩
  have HB3 := Lib.hid (ext_trans HB2.out hb3)
  have hx1 : (x == 0) = false := by rw [beq_eq_false_iff_ne]; exact hx
  have hx2 : (x != 0) = true := by rw [bne_iff_ne]; exact hx
  have hbz : bh.size ≤ 100 := by omega
  clear hb3 hx HU2 HU1
  by_cases h0 : bh.size = 0
  · have hbe : bh = ⟨#[]⟩ := ByteArray.ext (Array.eq_empty_of_size_eq_zero h0)
    have HU3 := Lib.hid (un_yes (t ++ bh) s.data.toList w3 HCT.out.2 (by
      rw [HCT.out.1, show bh.data.toList = [] by rw [hbe], List.append_nil]; exact HBK.out))
    subst hbe
    clear h0
    go_wp2_with fail
    refine HU3.out.mono ?_
    rintro e4 w4 ⟨rfl, hb4⟩
    have HB4 := Lib.hid (ext_trans HB3.out hb4)
    clear hb4 HU3
    go_wp2_with fail
    refine (awake_any w4).mono ?_
    rintro e5 w5 ⟨rfl, hb5⟩
    have HB5 := Lib.hid (ext_trans HB4.out hb5)
    clear hb5
    go_wp2_with fail
    go_ret
    exact ⟨rfl, HB5.out⟩
  · have hne3 : bh ≠ ⟨#[]⟩ := by
      rintro rfl
      exact h0 rfl
    have hne2 : decide (bh = ⟨#[]⟩) = false := decide_eq_false hne3
    have hne : (bh == ⟨#[]⟩) = false := by
      show (bh.data == #[]) = false
      rw [beq_eq_false_iff_ne]
      intro e
      exact hne3 (ByteArray.ext e)
    have HU3 := Lib.hid (un_no (t ++ bh) w3 HCT.out.2 (by
      rw [HCT.out.1]
      refine HBH.out _ ?_
      intro e
      apply h0
      have : bh.size = bh.data.toList.length := rfl
      rw [this, e]; rfl))
    clear h0
    go_wp2_with fail
    refine HU3.out.mono ?_
    rintro e4 w4 ⟨⟨y, rfl, hy⟩, hb4⟩
    have HB4 := Lib.hid (ext_trans HB3.out hb4)
    have hne5 : bh.toList ≠ [] := by
      intro e
      apply hne3
      apply ByteArray.ext
      rw [ByteArray.toList_eq] at e
      exact Array.toList_eq_nil_iff.1 e
    have hne6 : (bh.toList == []) = false := by rw [beq_eq_false_iff_ne]; exact hne5
    have hy1 : (y == 0) = false := by rw [beq_eq_false_iff_ne]; exact hy
    have hy2 : (y != 0) = true := by rw [bne_iff_ne]; exact hy
    clear hb4 HU3 hy
    go_wp2_with fail
    refine (awake_any w4).mono ?_
    rintro e5 w5 ⟨rfl, hb5⟩
    have HB5 := Lib.hid (ext_trans HB4.out hb5)
    clear hb5
    go_wp2_with fail
    go_ret
    exact ⟨rfl, HB5.out⟩

set_option maxHeartbeats 6400000 in
set_option maxRecDepth 100000 in
theorem again_law (b : ByteArray) (w : World) : Calls Tryz.prog 5 #[.string b] w fun e w' => e = .returned (.bool true) ∧ Below w.heap.size w w' := by
  have mixed : Tryz.prog.follows .mixedOrders = true := by kernel_rfl
  by_cases hs : 1000 < b.size
  · have hi : (1000 : Int) < (b.size : Int) := by omega
    go_enter Tryz.func5, Tryz.ntmps5
    go_wp2_with fail
    refine (awake_any w).mono ?_
    rintro e1 w1 ⟨rfl, hb⟩
    have HB := Lib.hid hb
    clear hb
    go_wp2_with fail
    go_ret
    exact ⟨rfl, HB.out⟩
  have hi1 : ¬ (1000 : Int) < (b.size : Int) := by omega
  have HU := Lib.hid (unpack_any b w (by omega))
  go_enter Tryz.func5, Tryz.ntmps5
  go_wp2_with fail
  refine HU.out.mono ?_
  rintro e1 w1 ⟨hcase, hb1⟩
  have HB1 := Lib.hid hb1
  clear hb1 HU
  rcases hcase with ⟨r, hr, rfl⟩ | ⟨_, x, rfl, hx, _⟩
  · have hrl := unS_len _ _ hr
    obtain ⟨s, hse⟩ : ∃ s : ByteArray, s = ⟨r.toArray⟩ := ⟨_, rfl⟩
    have hsl : s.size ≤ 20000 := by
      rw [hse]
      show r.toArray.size ≤ _
      rw [List.size_toArray]; exact hrl
    rw [← hse]
    clear hr hrl hse
    go_wp2_with fail
    refine (pack_un s w1 hsl).mono ?_
    rintro e2 w2 ⟨t, arr, hso, ht, hts, rfl, hb2⟩
    have htl : t.data.toList = packed s.data.toList arr := by rw [ht]
    have hbk := back hso (by have : s.data.toList.length = s.size := rfl
                             omega)
    rw [← htl] at hbk
    have HB2 := Lib.hid (ext_trans HB1.out hb2)
    have HU1 := Lib.hid (fun w => (un_yes t _ w (by omega) hbk).mono fun e w' (h : e = Ending.returned (.tuple #[.string ⟨s.data.toList.toArray⟩, .int .i64 0]) ∧ Below w.heap.size w w') => (show e = Ending.returned (.tuple #[.string s, .int .i64 0]) ∧ Below w.heap.size w w' from ⟨by rw [h.1, str_self], h.2⟩))
    have hi3 : (s.size : Int) ≤ 20000 := by omega
    clear hso ht htl hbk hb2
    go_wp2_with fail
    refine (HU1.out w2).mono ?_
    rintro e3 w3 ⟨rfl, hb3⟩
    have HB3 := Lib.hid (ext_trans HB2.out hb3)
    clear hb3 HU1
    go_wp2_with fail
    refine (awake_any w3).mono ?_
    rintro e5 w5 ⟨rfl, hb5⟩
    have HB5 := Lib.hid (ext_trans HB3.out hb5)
    clear hb5
    go_wp2_with fail
    go_ret
    exact ⟨rfl, HB5.out⟩
  · have hx1 : (x == 0) = false := by rw [beq_eq_false_iff_ne]; exact hx
    have hx2 : (x != 0) = true := by rw [bne_iff_ne]; exact hx
    clear hx
    go_wp2_with fail
    refine (awake_any w1).mono ?_
    rintro e5 w5 ⟨rfl, hb5⟩
    have HB5 := Lib.hid (ext_trans HB1.out hb5)
    clear hb5
    go_wp2_with fail
    go_ret
    exact ⟨rfl, HB5.out⟩
end Sq
end Go.Proofs.YtnljhnckmgpllaaGreat
