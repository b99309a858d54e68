/- BlockBack. BlockMerge. An argument that is a slice of records. -/
import Derived.Test.YtnljhnckmgpllaaGreatBl52
import Derived.Deep.RegionHeld3
import Derived.Test.YtnljhnckmgpllaaGreatBl49
import Derived.Deep.Slices
import Derived.Deep.Fields
import Derived.ChangeSame
namespace Go.Proofs.YtnljhnckmgpllaaGreat
namespace Bk
open Go.RowKit Tk Vi Sq Rd

theorem peek_yes (s : ByteArray) {md raw count first early late : Nat} {r : List UInt8} (w : World) (hs : s.size ≤ 1000000) (h : peekB s.data.toList = some (md, raw, count, first, early, late, r)) :
    Calls Tryz.prog 28 #[.string s] w fun e w' => e = .returned (.tuple #[magg 0 0 raw count first early late, .int .i64 0]) ∧ Below w.heap.size w w' := by
  refine (Peek_any s w hs).mono ?_
  rintro e w' ⟨⟨md', raw', count', first', early', late', r', h', rfl⟩ | ⟨h', -⟩, hb⟩
  · rw [h] at h'
    simp only [Option.some.injEq, Prod.mk.injEq] at h'
    obtain ⟨-, rfl, rfl, rfl, rfl, rfl, -⟩ := h'
    exact ⟨rfl, hb⟩
  · rw [h] at h'; cases h'
/-- What holds of a row's records, all numbers as such. -/
theorem row_nats {l : List (Int × Int × ByteArray)} (h : jE l = 0) (hn : l ≠ []) : ∃ F E T : Nat, (at3 l 0).1 = F ∧ (at3 l 0).2.1 = E ∧ (at3 l (l.length - 1)).2.1 = T ∧ F + l.length ≤ 1000000001 ∧ (at3 l 0).1.toNat = F ∧ (at3 l 0).2.1.toNat = E ∧ (at3 l (l.length - 1)).2.1.toNat = T ∧
    ∀ (k : Nat) (r : Int × Int × ByteArray), l[k]? = some r → r.1 = (F : Int) + k ∧ (E : Int) ≤ r.2.1 ∧ r.2.1 ≤ (T : Int) := by
  obtain ⟨e1, e2, e3, e4, e5, e6⟩ := ends h hn
  obtain ⟨h1, h2⟩ := jE_row h
  have hp : 0 < l.length := List.length_pos_iff.2 hn
  refine ⟨(at3 l 0).1.toNat, (at3 l 0).2.1.toNat, (at3 l (l.length - 1)).2.1.toNat, by omega, by omega, by omega, by omega, rfl, rfl, rfl, fun k r hk => ?_⟩
  obtain ⟨a1, a2, -, a4⟩ := row_seq0 l h1 k r hk
  have hkl : k < l.length := (List.getElem?_eq_some_iff.1 hk).1
  have := a4 (l.length - 1) _ (by omega) (at3_get l (l.length - 1) (by omega))
  omega

set_option maxHeartbeats 6400000 in
set_option maxRecDepth 100000 in
theorem back_law (A : Option Addr) (n c : Nat) (l : List (Int × Int × ByteArray)) (w : World) (hrd : Rd w w.heap.size 3 A n (fl3 l)) (hnc : n ≤ c) (hcm : c ≤ maxLen) :
    Calls Tryz.prog 10 #[.slice A n c] w fun e w' => e = .returned (.bool true) ∧ Below w.heap.size w w' := by
  have mixed : Tryz.prog.follows .mixedOrders = true := by kernel_rfl
  have HF := Lib.hid (few_any A n c l w hrd hnc hcm)
  have hln := rd3_len hrd
  by_cases hf : few l = true
  · have hF := HF.out
    rw [hf] at hF
    have HF2 := Lib.hid hF
    have hl200 := few_len hf
    rw [hln] at hl200
    clear hF HF hf hnc hcm
    by_cases he : encE l = 0
    · have HE := Lib.hid (enc_dec A n c l w hrd (by omega) he)
      obtain ⟨hj, hl⟩ := enc_ok he
      have hn0 : 0 < l.length := List.length_pos_iff.2 hl
      obtain ⟨m, rfl⟩ : ∃ m, n = m + 1 := ⟨n - 1, by omega⟩
      have hHJ := fun w hr => join_any A (m + 1) c l w hr (by omega)
      rw [hj, jS_ok hj] at hHJ
      obtain ⟨raw, hraw⟩ : ∃ raw : ByteArray, raw = ⟨(joinB l).toArray⟩ := ⟨_, rfl⟩
      rw [← hraw] at hHJ
      have hr2 : (joinB l).length = raw.size := by rw [hraw]; simp [ByteArray.size]
      have hr3 : raw.size ≤ 20000 := by rw [← hr2]; exact (jE_row hj).2
      obtain ⟨F, E, T, q1, q2, q3, q4, q5, q6, q7, q8⟩ := row_nats hj hl
      have hpk := fun A => peek_blk (l := l) A hj hl
      rw [q5, q6, q7, hr2, hln] at hpk
      have HPK := Lib.hid hpk
      have HJ := Lib.hid hHJ
      have HR := Lib.hid hrd
      have HQ := Lib.hid (And.intro q1 (And.intro q2 (And.intro q3 q8)))
      rw [hln] at q4
      have HLN := Lib.hid hln
      have hq4 : F + m ≤ 1000000000 := by omega
      clear he hrd hj hl hn0 hraw hr2 q1 q2 q3 q4 q5 q6 q7 q8 hpk hHJ hln
      go_enter Tryz.func10, Tryz.ntmps10
      go_wp2_with fail
      refine HF2.out.mono ?_
      rintro e1 w1 ⟨rfl, rfl⟩
      go_wp2_with fail
      refine HE.out.mono ?_
      rintro e2 w2 ⟨⟨S, arr, rfl, -, hS0, -, hS2, hdec⟩, hb2⟩
      have hp2 := HPK.out arr
      rw [← hS0] at hp2
      have HP2 := Lib.hid (fun w => peek_yes S w (by omega) hp2)
      have HD := Lib.hid (dec_yes S l w2 (by omega) hdec)
      have HB2 := Lib.hid hb2
      clear hb2 HE HF2 hS0 hS2 hdec hp2 HPK
      go_wp2_with fail
      refine HD.out.mono ?_
      rintro e3 w3 ⟨⟨A3, c3, rfl, hr3⟩, hb3⟩
      rw [HLN.out] at hr3 ⊢
      have HR3 := Lib.hid hr3
      have HB3 := Lib.hid (HB2.out.trans (hb3.mono HB2.out.size))
      clear hr3 hb3 HB2 HD
      go_wp2_with fail
      refine (HP2.out w3).mono ?_
      rintro e4 w4 ⟨rfl, hb4⟩
      have HR4 := Lib.hid ((HR3.out.below hb4).more hb4.size)
      have HB4 := Lib.hid (HB3.out.trans (hb4.mono HB3.out.size))
      clear hb4 HB3 HR3 HP2
      unfold magg
      go_wp2_with fail
      have hmb : Mb (w4.alloc (.cells #[.int .i64 0, .int .i64 0, .int .i64 raw.size, .int .i64 ((m : Int) + 1), .int .i64 F, .int .i64 E, .int .i64 T] 49)) w4.heap.size 0 0 raw.size ((m : Int) + 1) F E T := heap_alloc_new w4 _
      have hb5 := HB4.out.alloc (o := .cells #[.int .i64 0, .int .i64 0, .int .i64 raw.size, .int .i64 ((m : Int) + 1), .int .i64 F, .int .i64 E, .int .i64 T] 49) HB4.out.size
      have hr5 := HR4.out.alloc (Nat.le_refl _) (.cells #[.int .i64 0, .int .i64 0, .int .i64 raw.size, .int .i64 ((m : Int) + 1), .int .i64 F, .int .i64 E, .int .i64 T] 49)
      have HW5 := Lib.hid (And.intro hmb (And.intro hb5 (And.intro hr5 (show w4.heap.size < (w4.alloc (.cells #[.int .i64 0, .int .i64 0, .int .i64 raw.size, .int .i64 ((m : Int) + 1), .int .i64 F, .int .i64 E, .int .i64 T] 49)).heap.size by simp))))
      clear hmb hb5 hr5 HB4 HR4
      generalize w4.alloc (.cells #[.int .i64 0, .int .i64 0, .int .i64 raw.size, .int .i64 ((m : Int) + 1), .int .i64 F, .int .i64 E, .int .i64 T] 49) = w5 at *
      have HJ5 := Lib.hid (HJ.out w5 (HR.out.below HW5.out.2.1 |>.more HW5.out.2.1.size))
      refine HJ5.out.mono ?_
      rintro e6 w6 ⟨rfl, hb6⟩
      have HW6 := Lib.hid (show Mb w6 w4.heap.size 0 0 raw.size ((m : Int) + 1) F E T ∧ Below w.heap.size w w6 ∧ Rd w6 w6.heap.size 3 A3 (m + 1) (fl3 l) ∧ w4.heap.size < w6.heap.size from
        ⟨HW5.out.1.below hb6 HW5.out.2.2.2, HW5.out.2.1.trans (hb6.mono HW5.out.2.1.size), (HW5.out.2.2.1.below (hb6.mono (Nat.le_of_lt HW5.out.2.2.2))).more (by have := hb6.size; have := HW5.out.2.2.2; omega), by have := hb6.size; have := HW5.out.2.2.2; omega⟩)
      have HSM := Lib.hid (fun c1 c2 => same_yes A3 A (m + 1) c1 c2 l w6 HW6.out.2.2.1 ((HR.out.below HW6.out.2.1).more HW6.out.2.1.size) (by omega))
      have k2 := HW6.out.1.c2
      have k3 := HW6.out.1.c3
      clear hb6 HW5 HJ5 HJ
      generalize w4.heap.size = G at *
      go_wp2_with fail
      refine (HSM.out _ _).mono ?_
      rintro e7 w7 ⟨rfl, hb7⟩
      have HW7 := Lib.hid (show Mb w7 G 0 0 raw.size ((m : Int) + 1) F E T ∧ Below w.heap.size w w7 ∧ G < w7.heap.size from
        ⟨HW6.out.1.below hb7 HW6.out.2.2.2, HW6.out.2.1.trans (hb7.mono HW6.out.2.1.size), by have := hb7.size; have := HW6.out.2.2.2; omega⟩)
      clear k2 k3 hb7 HSM HW6
      have k2 := HW7.out.1.c2
      have k3 := HW7.out.1.c3
      go_wp2_with fail
      clear k2 k3
      go_loopw [11] (fun v wr => ∃ k : Nat, v = .int .i64 k ∧ k ≤ m + 1 ∧ Hid (Below w7.heap.size w7 wr)) (fun v _ => m + 1 - (intOf v).toNat)
      case atStart => exact ⟨0, by go_num, by omega, Below.refl _ _⟩
      case round =>
        obtain ⟨k, rfl, hk, HX⟩ := hrel
        have hbw := HW7.out.2.1.trans (HX.out.mono HW7.out.2.1.size)
        have hmb := HW7.out.1.below HX.out HW7.out.2.2
        by_cases hkn : k < m + 1
        · obtain ⟨ad, q, t, d, rfl, hbk, hx, hc0, hc1, hc2⟩ := rec3 (HR.out.below hbw) hkn
          obtain ⟨rfl, ht1, ht2⟩ := HQ.out.2.2.2 k _ hx
          have hbk2 : ad.block < wr.heap.size := Nat.lt_of_lt_of_le hbk hbw.size
          have hC : ∀ wx, Below wr.heap.size wr wx → (wx.cell? ⟨G, 0, none⟩ = some (.int .i64 0) ∧ wx.cell? ⟨G, 1, none⟩ = some (.int .i64 0) ∧ wx.cell? ⟨G, 2, none⟩ = some (.int .i64 (raw.size : Int)) ∧ wx.cell? ⟨G, 3, none⟩ = some (.int .i64 ((m : Int) + 1)) ∧ wx.cell? ⟨G, 4, none⟩ = some (.int .i64 (F : Int)) ∧ wx.cell? ⟨G, 5, none⟩ = some (.int .i64 (E : Int)) ∧ wx.cell? ⟨G, 6, none⟩ = some (.int .i64 (T : Int))) ∧ (wx.cell? (ad.add (k * 3)) = some (.int .i64 ((F : Int) + k)) ∧ wx.cell? ⟨(ad.add (k * 3)).block, (ad.add (k * 3)).off + 1, none⟩ = some (.int .i64 t)) ∧ Below wr.heap.size wr wx := fun wx hb =>
            have hm := hmb.below hb hmb.lt
            ⟨⟨hm.c0, hm.c1, hm.c2, hm.c3, hm.c4, hm.c5, hm.c6⟩, ⟨(hb.cell (by rw [add_block]; exact hbk2)).trans hc0, (hb.cell (p := ⟨(ad.add (k * 3)).block, (ad.add (k * 3)).off + 1, none⟩) (by rw [add_block]; exact hbk2)).trans hc1⟩, hb⟩
          have HSd := Lib.hid (hC _ (ext_drew wr))
          have hS1 : ∀ wx, (wx.cell? ⟨G, 0, none⟩ = some (.int .i64 0) ∧ wx.cell? ⟨G, 1, none⟩ = some (.int .i64 0) ∧ wx.cell? ⟨G, 2, none⟩ = some (.int .i64 (raw.size : Int)) ∧ wx.cell? ⟨G, 3, none⟩ = some (.int .i64 ((m : Int) + 1)) ∧ wx.cell? ⟨G, 4, none⟩ = some (.int .i64 (F : Int)) ∧ wx.cell? ⟨G, 5, none⟩ = some (.int .i64 (E : Int)) ∧ wx.cell? ⟨G, 6, none⟩ = some (.int .i64 (T : Int))) ∧ (wx.cell? (ad.add (k * 3)) = some (.int .i64 ((F : Int) + k)) ∧ wx.cell? ⟨(ad.add (k * 3)).block, (ad.add (k * 3)).off + 1, none⟩ = some (.int .i64 t)) ∧ Below wr.heap.size wr wx → Calls Tryz.prog 31 #[magg 0 0 raw.size ((m : Int) + 1) F E T] wx fun e w' => e = .returned (.agg #[.int .i64 (F : Int), .int .i64 ((F : Int) + m)]) ∧ ((w'.cell? ⟨G, 0, none⟩ = some (.int .i64 0) ∧ w'.cell? ⟨G, 1, none⟩ = some (.int .i64 0) ∧ w'.cell? ⟨G, 2, none⟩ = some (.int .i64 (raw.size : Int)) ∧ w'.cell? ⟨G, 3, none⟩ = some (.int .i64 ((m : Int) + 1)) ∧ w'.cell? ⟨G, 4, none⟩ = some (.int .i64 (F : Int)) ∧ w'.cell? ⟨G, 5, none⟩ = some (.int .i64 (E : Int)) ∧ w'.cell? ⟨G, 6, none⟩ = some (.int .i64 (T : Int))) ∧ (w'.cell? (ad.add (k * 3)) = some (.int .i64 ((F : Int) + k)) ∧ w'.cell? ⟨(ad.add (k * 3)).block, (ad.add (k * 3)).off + 1, none⟩ = some (.int .i64 t)) ∧ Below wr.heap.size wr w') := by
            intro wx ⟨_, _, hb⟩
            refine (seqs_any raw.size m F E T wx hq4).mono ?_
            rintro e w' ⟨rfl, hb2⟩
            exact ⟨rfl, hC _ (hb.trans (hb2.mono hb.size))⟩
          have hS2 : ∀ wx, (wx.cell? ⟨G, 0, none⟩ = some (.int .i64 0) ∧ wx.cell? ⟨G, 1, none⟩ = some (.int .i64 0) ∧ wx.cell? ⟨G, 2, none⟩ = some (.int .i64 (raw.size : Int)) ∧ wx.cell? ⟨G, 3, none⟩ = some (.int .i64 ((m : Int) + 1)) ∧ wx.cell? ⟨G, 4, none⟩ = some (.int .i64 (F : Int)) ∧ wx.cell? ⟨G, 5, none⟩ = some (.int .i64 (E : Int)) ∧ wx.cell? ⟨G, 6, none⟩ = some (.int .i64 (T : Int))) ∧ (wx.cell? (ad.add (k * 3)) = some (.int .i64 ((F : Int) + k)) ∧ wx.cell? ⟨(ad.add (k * 3)).block, (ad.add (k * 3)).off + 1, none⟩ = some (.int .i64 t)) ∧ Below wr.heap.size wr wx → Calls Tryz.prog 32 #[magg 0 0 raw.size ((m : Int) + 1) F E T] wx fun e w' => e = .returned (.agg #[.int .i64 (E : Int), .int .i64 (T : Int)]) ∧ ((w'.cell? ⟨G, 0, none⟩ = some (.int .i64 0) ∧ w'.cell? ⟨G, 1, none⟩ = some (.int .i64 0) ∧ w'.cell? ⟨G, 2, none⟩ = some (.int .i64 (raw.size : Int)) ∧ w'.cell? ⟨G, 3, none⟩ = some (.int .i64 ((m : Int) + 1)) ∧ w'.cell? ⟨G, 4, none⟩ = some (.int .i64 (F : Int)) ∧ w'.cell? ⟨G, 5, none⟩ = some (.int .i64 (E : Int)) ∧ w'.cell? ⟨G, 6, none⟩ = some (.int .i64 (T : Int))) ∧ (w'.cell? (ad.add (k * 3)) = some (.int .i64 ((F : Int) + k)) ∧ w'.cell? ⟨(ad.add (k * 3)).block, (ad.add (k * 3)).off + 1, none⟩ = some (.int .i64 t)) ∧ Below wr.heap.size wr w') := by
            intro wx ⟨_, _, hb⟩
            refine (ticks_any raw.size m F E T wx).mono ?_
            rintro e w' ⟨rfl, hb2⟩
            exact ⟨rfl, hC _ (hb.trans (hb2.mono hb.size))⟩
          have hS3 : ∀ wx lo hi x, (wx.cell? ⟨G, 0, none⟩ = some (.int .i64 0) ∧ wx.cell? ⟨G, 1, none⟩ = some (.int .i64 0) ∧ wx.cell? ⟨G, 2, none⟩ = some (.int .i64 (raw.size : Int)) ∧ wx.cell? ⟨G, 3, none⟩ = some (.int .i64 ((m : Int) + 1)) ∧ wx.cell? ⟨G, 4, none⟩ = some (.int .i64 (F : Int)) ∧ wx.cell? ⟨G, 5, none⟩ = some (.int .i64 (E : Int)) ∧ wx.cell? ⟨G, 6, none⟩ = some (.int .i64 (T : Int))) ∧ (wx.cell? (ad.add (k * 3)) = some (.int .i64 ((F : Int) + k)) ∧ wx.cell? ⟨(ad.add (k * 3)).block, (ad.add (k * 3)).off + 1, none⟩ = some (.int .i64 t)) ∧ Below wr.heap.size wr wx → lo ≤ x → x ≤ hi → Calls Tryz.prog 30 #[.agg #[.int .i64 lo, .int .i64 hi], .int .i64 x] wx fun e w' => e = .returned (.bool true) ∧ ((w'.cell? ⟨G, 0, none⟩ = some (.int .i64 0) ∧ w'.cell? ⟨G, 1, none⟩ = some (.int .i64 0) ∧ w'.cell? ⟨G, 2, none⟩ = some (.int .i64 (raw.size : Int)) ∧ w'.cell? ⟨G, 3, none⟩ = some (.int .i64 ((m : Int) + 1)) ∧ w'.cell? ⟨G, 4, none⟩ = some (.int .i64 (F : Int)) ∧ w'.cell? ⟨G, 5, none⟩ = some (.int .i64 (E : Int)) ∧ w'.cell? ⟨G, 6, none⟩ = some (.int .i64 (T : Int))) ∧ (w'.cell? (ad.add (k * 3)) = some (.int .i64 ((F : Int) + k)) ∧ w'.cell? ⟨(ad.add (k * 3)).block, (ad.add (k * 3)).off + 1, none⟩ = some (.int .i64 t)) ∧ Below wr.heap.size wr w') := by
            intro wx lo hi x ⟨_, _, hb⟩ h1 h2
            refine (has_yes lo hi x wx h1 h2).mono ?_
            rintro e w' ⟨rfl, hb2⟩
            exact ⟨rfl, hC _ (hb.trans (hb2.mono hb.size))⟩
          have HS1 := Lib.hid hS1
          have HS2 := Lib.hid hS2
          have HS3 := Lib.hid hS3
          have i1 : (0 : Int) ≤ (k : Int) := by omega
          have i2 : (k : Int) < (m : Int) + 1 := by omega
          have i3 : IntKind.i64.wrap (k : Int) = (k : Int) := by rw [IntKind.wrap_i64]; omega
          have HB9 := Lib.hid hbw
          clear hC hS1 hS2 hS3 hc0 hc1 hc2 hx hbk hbk2 hmb hbw HQ
          unfold magg at HS1 HS2
          go_wp2_with fail
          go_region_held3 (fun wx => (wx.cell? ⟨G, 0, none⟩ = some (.int .i64 0) ∧ wx.cell? ⟨G, 1, none⟩ = some (.int .i64 0) ∧ wx.cell? ⟨G, 2, none⟩ = some (.int .i64 (raw.size : Int)) ∧ wx.cell? ⟨G, 3, none⟩ = some (.int .i64 ((m : Int) + 1)) ∧ wx.cell? ⟨G, 4, none⟩ = some (.int .i64 (F : Int)) ∧ wx.cell? ⟨G, 5, none⟩ = some (.int .i64 (E : Int)) ∧ wx.cell? ⟨G, 6, none⟩ = some (.int .i64 (T : Int))) ∧ (wx.cell? (ad.add (k * 3)) = some (.int .i64 ((F : Int) + k)) ∧ wx.cell? ⟨(ad.add (k * 3)).block, (ad.add (k * 3)).off + 1, none⟩ = some (.int .i64 t)) ∧ Below wr.heap.size wr wx) (first | exact HSd.out | assumption) (first | (go_at_call 31; refine (HS1.out _ (by first | exact HSd.out | assumption)).mono ?_; rintro e8 w8 ⟨rfl, hS8⟩) | (go_at_call 32; refine (HS2.out _ (by first | exact HSd.out | assumption)).mono ?_; rintro e9 w9 ⟨rfl, hS9⟩) | (go_at_call 30; refine (HS3.out _ _ _ _ (by first | exact HSd.out | assumption) (by omega) (by omega)).mono ?_; rintro e10 w10 ⟨rfl, hS10⟩))
          have HB10 := Lib.hid (HX.out.trans (hS10.2.2.mono HX.out.size))
          clear hS8 hS9 hS10 HSd HS1 HS2 HS3 HX
          go_wp2_with fail
          refine ⟨?_, by simp [intOf]; omega⟩
          repeat apply Exists.intro
          exact ⟨⟨k + 1, by go_num, by omega, HB10.out⟩, rfl⟩
        · obtain rfl : k = m + 1 := by omega
          obtain ⟨ad, q0, t0, d0, rfl, hbk, hx0, hc00, hc01, -⟩ := rec3 (HR.out.below hbw) (show 0 < m + 1 by omega)
          obtain ⟨ad', q1, t1, d1, hA', -, hx1, -, hc11, -⟩ := rec3 (HR.out.below hbw) (show m < m + 1 by omega)
          obtain rfl : ad = ad' := by simpa using hA'
          have hl1 : l.length - 1 = m := by have := HLN.out; omega
          have ha0 : at3 l 0 = (q0, t0, d0) := Option.some.inj ((at3_get l 0 (by have := HLN.out; omega)).symm.trans hx0)
          have ha1 : at3 l (l.length - 1) = (q1, t1, d1) := Option.some.inj ((at3_get l (l.length - 1) (by have := HLN.out; omega)).symm.trans (by rw [hl1]; exact hx1))
          have hq := HQ.out
          rw [ha0, ha1] at hq
          obtain ⟨rfl, rfl, rfl, -⟩ := hq
          have hz : ad.add (0 * 3) = ad := by rw [Nat.zero_mul]; rfl
          rw [hz] at hc00 hc01
          have hbk2 : ad.block < wr.heap.size := Nat.lt_of_lt_of_le hbk hbw.size
          have hC : ∀ wx, Below wr.heap.size wr wx → (wx.cell? ⟨G, 0, none⟩ = some (.int .i64 0) ∧ wx.cell? ⟨G, 1, none⟩ = some (.int .i64 0) ∧ wx.cell? ⟨G, 2, none⟩ = some (.int .i64 (raw.size : Int)) ∧ wx.cell? ⟨G, 3, none⟩ = some (.int .i64 ((m : Int) + 1)) ∧ wx.cell? ⟨G, 4, none⟩ = some (.int .i64 (F : Int)) ∧ wx.cell? ⟨G, 5, none⟩ = some (.int .i64 (E : Int)) ∧ wx.cell? ⟨G, 6, none⟩ = some (.int .i64 (T : Int))) ∧ (wx.cell? ad = some (.int .i64 (F : Int)) ∧ wx.cell? ⟨ad.block, ad.off + 1, none⟩ = some (.int .i64 (E : Int)) ∧ wx.cell? ⟨(ad.add (m * 3)).block, (ad.add (m * 3)).off + 1, none⟩ = some (.int .i64 (T : Int))) ∧ Below wr.heap.size wr wx := fun wx hb =>
            have hm := hmb.below hb hmb.lt
            ⟨⟨hm.c0, hm.c1, hm.c2, hm.c3, hm.c4, hm.c5, hm.c6⟩, ⟨(hb.cell hbk2).trans hc00, (hb.cell (p := ⟨ad.block, ad.off + 1, none⟩) hbk2).trans hc01, (hb.cell (p := ⟨(ad.add (m * 3)).block, (ad.add (m * 3)).off + 1, none⟩) (by rw [add_block]; exact hbk2)).trans hc11⟩, hb⟩
          have HSd := Lib.hid (hC _ (ext_drew wr))
          have hS1 : ∀ wx, (wx.cell? ⟨G, 0, none⟩ = some (.int .i64 0) ∧ wx.cell? ⟨G, 1, none⟩ = some (.int .i64 0) ∧ wx.cell? ⟨G, 2, none⟩ = some (.int .i64 (raw.size : Int)) ∧ wx.cell? ⟨G, 3, none⟩ = some (.int .i64 ((m : Int) + 1)) ∧ wx.cell? ⟨G, 4, none⟩ = some (.int .i64 (F : Int)) ∧ wx.cell? ⟨G, 5, none⟩ = some (.int .i64 (E : Int)) ∧ wx.cell? ⟨G, 6, none⟩ = some (.int .i64 (T : Int))) ∧ (wx.cell? ad = some (.int .i64 (F : Int)) ∧ wx.cell? ⟨ad.block, ad.off + 1, none⟩ = some (.int .i64 (E : Int)) ∧ wx.cell? ⟨(ad.add (m * 3)).block, (ad.add (m * 3)).off + 1, none⟩ = some (.int .i64 (T : Int))) ∧ Below wr.heap.size wr wx → Calls Tryz.prog 31 #[magg 0 0 raw.size ((m : Int) + 1) F E T] wx fun e w' => e = .returned (.agg #[.int .i64 (F : Int), .int .i64 ((F : Int) + m)]) ∧ ((w'.cell? ⟨G, 0, none⟩ = some (.int .i64 0) ∧ w'.cell? ⟨G, 1, none⟩ = some (.int .i64 0) ∧ w'.cell? ⟨G, 2, none⟩ = some (.int .i64 (raw.size : Int)) ∧ w'.cell? ⟨G, 3, none⟩ = some (.int .i64 ((m : Int) + 1)) ∧ w'.cell? ⟨G, 4, none⟩ = some (.int .i64 (F : Int)) ∧ w'.cell? ⟨G, 5, none⟩ = some (.int .i64 (E : Int)) ∧ w'.cell? ⟨G, 6, none⟩ = some (.int .i64 (T : Int))) ∧ (w'.cell? ad = some (.int .i64 (F : Int)) ∧ w'.cell? ⟨ad.block, ad.off + 1, none⟩ = some (.int .i64 (E : Int)) ∧ w'.cell? ⟨(ad.add (m * 3)).block, (ad.add (m * 3)).off + 1, none⟩ = some (.int .i64 (T : Int))) ∧ Below wr.heap.size wr w') := by
            intro wx ⟨_, _, hb⟩
            refine (seqs_any raw.size m F E T wx hq4).mono ?_
            rintro e w' ⟨rfl, hb2⟩
            exact ⟨rfl, hC _ (hb.trans (hb2.mono hb.size))⟩
          have hS2 : ∀ wx, (wx.cell? ⟨G, 0, none⟩ = some (.int .i64 0) ∧ wx.cell? ⟨G, 1, none⟩ = some (.int .i64 0) ∧ wx.cell? ⟨G, 2, none⟩ = some (.int .i64 (raw.size : Int)) ∧ wx.cell? ⟨G, 3, none⟩ = some (.int .i64 ((m : Int) + 1)) ∧ wx.cell? ⟨G, 4, none⟩ = some (.int .i64 (F : Int)) ∧ wx.cell? ⟨G, 5, none⟩ = some (.int .i64 (E : Int)) ∧ wx.cell? ⟨G, 6, none⟩ = some (.int .i64 (T : Int))) ∧ (wx.cell? ad = some (.int .i64 (F : Int)) ∧ wx.cell? ⟨ad.block, ad.off + 1, none⟩ = some (.int .i64 (E : Int)) ∧ wx.cell? ⟨(ad.add (m * 3)).block, (ad.add (m * 3)).off + 1, none⟩ = some (.int .i64 (T : Int))) ∧ Below wr.heap.size wr wx → Calls Tryz.prog 33 #[.agg #[.int .i64 (F : Int), .int .i64 ((F : Int) + m)]] wx fun e w' => e = .returned (.int .i64 ((m : Int) + 1)) ∧ ((w'.cell? ⟨G, 0, none⟩ = some (.int .i64 0) ∧ w'.cell? ⟨G, 1, none⟩ = some (.int .i64 0) ∧ w'.cell? ⟨G, 2, none⟩ = some (.int .i64 (raw.size : Int)) ∧ w'.cell? ⟨G, 3, none⟩ = some (.int .i64 ((m : Int) + 1)) ∧ w'.cell? ⟨G, 4, none⟩ = some (.int .i64 (F : Int)) ∧ w'.cell? ⟨G, 5, none⟩ = some (.int .i64 (E : Int)) ∧ w'.cell? ⟨G, 6, none⟩ = some (.int .i64 (T : Int))) ∧ (w'.cell? ad = some (.int .i64 (F : Int)) ∧ w'.cell? ⟨ad.block, ad.off + 1, none⟩ = some (.int .i64 (E : Int)) ∧ w'.cell? ⟨(ad.add (m * 3)).block, (ad.add (m * 3)).off + 1, none⟩ = some (.int .i64 (T : Int))) ∧ Below wr.heap.size wr w') := by
            intro wx ⟨_, _, hb⟩
            refine (size_yes F m wx hq4).mono ?_
            rintro e w' ⟨rfl, hb2⟩
            exact ⟨rfl, hC _ (hb.trans (hb2.mono hb.size))⟩
          have hS3 : ∀ wx, (wx.cell? ⟨G, 0, none⟩ = some (.int .i64 0) ∧ wx.cell? ⟨G, 1, none⟩ = some (.int .i64 0) ∧ wx.cell? ⟨G, 2, none⟩ = some (.int .i64 (raw.size : Int)) ∧ wx.cell? ⟨G, 3, none⟩ = some (.int .i64 ((m : Int) + 1)) ∧ wx.cell? ⟨G, 4, none⟩ = some (.int .i64 (F : Int)) ∧ wx.cell? ⟨G, 5, none⟩ = some (.int .i64 (E : Int)) ∧ wx.cell? ⟨G, 6, none⟩ = some (.int .i64 (T : Int))) ∧ (wx.cell? ad = some (.int .i64 (F : Int)) ∧ wx.cell? ⟨ad.block, ad.off + 1, none⟩ = some (.int .i64 (E : Int)) ∧ wx.cell? ⟨(ad.add (m * 3)).block, (ad.add (m * 3)).off + 1, none⟩ = some (.int .i64 (T : Int))) ∧ Below wr.heap.size wr wx → Calls Tryz.prog 21 #[] wx fun e w' => e = .returned (.bool true) ∧ ((w'.cell? ⟨G, 0, none⟩ = some (.int .i64 0) ∧ w'.cell? ⟨G, 1, none⟩ = some (.int .i64 0) ∧ w'.cell? ⟨G, 2, none⟩ = some (.int .i64 (raw.size : Int)) ∧ w'.cell? ⟨G, 3, none⟩ = some (.int .i64 ((m : Int) + 1)) ∧ w'.cell? ⟨G, 4, none⟩ = some (.int .i64 (F : Int)) ∧ w'.cell? ⟨G, 5, none⟩ = some (.int .i64 (E : Int)) ∧ w'.cell? ⟨G, 6, none⟩ = some (.int .i64 (T : Int))) ∧ (w'.cell? ad = some (.int .i64 (F : Int)) ∧ w'.cell? ⟨ad.block, ad.off + 1, none⟩ = some (.int .i64 (E : Int)) ∧ w'.cell? ⟨(ad.add (m * 3)).block, (ad.add (m * 3)).off + 1, none⟩ = some (.int .i64 (T : Int))) ∧ Below wr.heap.size wr w') := by
            intro wx ⟨_, _, hb⟩
            refine (bawake_any wx).mono ?_
            rintro e w' ⟨rfl, hb2⟩
            exact ⟨rfl, hC _ (hb.trans (hb2.mono hb.size))⟩
          have HS1 := Lib.hid hS1
          have HS2 := Lib.hid hS2
          have HS3 := Lib.hid hS3
          have i1 : (0 : Int) < (m : Int) + 1 := by omega
          have i2 : IntKind.i64.wrap (((m : Int) + 1) - 1) = (m : Int) := by rw [IntKind.wrap_i64]; omega
          have i3 : (0 : Int) ≤ (m : Int) := by omega
          have i4 : (m : Int) < (m : Int) + 1 := by omega
          have i5 : m < m + 1 := by omega
          have i6 : IntKind.i64.wrap (m : Int) = (m : Int) := by rw [IntKind.wrap_i64]; omega
          have HB9 := Lib.hid hbw
          clear hC hS1 hS2 hS3 hc00 hc01 hc11 hx0 hx1 hA' ha0 ha1 hl1 hz hbk hbk2 hmb hbw HQ HLN
          unfold magg at HS1
          go_wp2_with fail
          go_region_held3 (fun wx => (wx.cell? ⟨G, 0, none⟩ = some (.int .i64 0) ∧ wx.cell? ⟨G, 1, none⟩ = some (.int .i64 0) ∧ wx.cell? ⟨G, 2, none⟩ = some (.int .i64 (raw.size : Int)) ∧ wx.cell? ⟨G, 3, none⟩ = some (.int .i64 ((m : Int) + 1)) ∧ wx.cell? ⟨G, 4, none⟩ = some (.int .i64 (F : Int)) ∧ wx.cell? ⟨G, 5, none⟩ = some (.int .i64 (E : Int)) ∧ wx.cell? ⟨G, 6, none⟩ = some (.int .i64 (T : Int))) ∧ (wx.cell? ad = some (.int .i64 (F : Int)) ∧ wx.cell? ⟨ad.block, ad.off + 1, none⟩ = some (.int .i64 (E : Int)) ∧ wx.cell? ⟨(ad.add (m * 3)).block, (ad.add (m * 3)).off + 1, none⟩ = some (.int .i64 (T : Int))) ∧ Below wr.heap.size wr wx) (first | exact HSd.out | assumption) (first | (go_at_call 31; refine (HS1.out _ (by first | exact HSd.out | assumption)).mono ?_; rintro e8 w8 ⟨rfl, hS8⟩) | (go_at_call 33; refine (HS2.out _ (by first | exact HSd.out | assumption)).mono ?_; rintro e9 w9 ⟨rfl, hS9⟩) | (go_at_call 21; refine (HS3.out _ (by first | exact HSd.out | assumption)).mono ?_; rintro e10 w10 ⟨rfl, hS10⟩))
          have HB10 := Lib.hid (HB9.out.trans (hS10.2.2.mono HB9.out.size))
          clear hS8 hS9 hS10 HSd HS1 HS2 HS3 HX
          go_wp2_with fail
          go_ret
          exact ⟨rfl, HB10.out⟩
    · have HE := Lib.hid (enc_not A n c l w hrd (by omega) he)
      have hb1 : (encE l != 0) = true := by rw [bne_iff_ne]; exact he
      have hb2 : (encE l == 0) = false := by rw [beq_eq_false_iff_ne]; exact he
      clear hrd he
      generalize encE l = x at *
      go_enter Tryz.func10, Tryz.ntmps10
      go_wp2_with fail
      refine HF2.out.mono ?_
      rintro e1 w1 ⟨rfl, rfl⟩
      go_wp2_with fail
      refine HE.out.mono ?_
      rintro e2 w2 ⟨rfl, hb2⟩
      have HB2 := Lib.hid hb2
      clear hb2 HE HF2
      go_wp2_with fail
      refine (bawake_any w2).mono ?_
      rintro e5 w5 ⟨rfl, hb5⟩
      have HB5 := Lib.hid (HB2.out.trans (hb5.mono HB2.out.size))
      clear hb5
      go_wp2_with fail
      go_ret
      exact ⟨rfl, HB5.out⟩
  · have hf2 : few l = false := by simpa using hf
    rw [hf2] at HF
    clear hf hf2 hrd hln
    go_enter Tryz.func10, Tryz.ntmps10
    go_wp2_with fail
    refine HF.out.mono ?_
    rintro e1 w1 ⟨rfl, rfl⟩
    go_wp2_with fail
    refine (bawake_any w).mono ?_
    rintro e5 w5 ⟨rfl, hb5⟩
    have HB5 := Lib.hid hb5
    clear hb5
    go_wp2_with fail
    go_ret
    exact ⟨rfl, HB5.out⟩
end Bk
end Go.Proofs.YtnljhnckmgpllaaGreat
namespace Go.Proofs.YtnljhnckmgpllaaGreat
namespace Bk
open Go.RowKit Tk Vi Sq Rd

theorem fl3_cut (l : List (Int × Int × ByteArray)) (k : Nat) (h : k ≤ l.length) : (fl3 l).take (k * 3) = fl3 (l.take k) ∧ (fl3 l).drop (k * 3) = fl3 (l.drop k) := by
  have e : fl3 l = fl3 (l.take k) ++ fl3 (l.drop k) := by rw [← fl3_append, List.take_append_drop]
  have hl : (fl3 (l.take k)).length = k * 3 := by rw [length_fl3, List.length_take, Nat.min_eq_left h]
  rw [e]
  exact ⟨List.take_left' hl, List.drop_left' hl⟩
/-- Encode tells one thing of one row. -/
theorem enc_one {l : List (Int × Int × ByteArray)} {e : Ending} {S : ByteArray} {arr : List Nat} (h : EncAns l e) (he : encE l = 0) (hs : Sx.Sorted (joinB l) arr) (hS : S.data.toList = blk l arr) : e = .returned (.tuple #[.string S, .int .i64 0]) := by
  obtain ⟨S', rfl, -, h2⟩ := h
  obtain ⟨arr', hso, rfl⟩ := h2 he
  obtain rfl := sorted_unique hso hs
  rw [he, ← hS]
theorem merge_cat (a b : ByteArray) (la lb : List (Int × Int × ByteArray)) (w : World) (ha : a.size ≤ 1000000) (hb : b.size ≤ 1000000) (h1 : dec a.data.toList = some la) (h2 : dec b.data.toList = some lb) :
    Calls Tryz.prog 27 #[.string a, .string b] w fun e w' => EncAns (la ++ lb) e ∧ Below w.heap.size w w' := by
  refine (Merge_any a b w ha hb).mono ?_
  rintro e w' ⟨⟨h | h, -⟩ | ⟨la', lb', h1', h2', he⟩, hb⟩
  · rw [h1] at h; cases h
  · rw [h2] at h; cases h
  · rw [h1] at h1'
    rw [h2] at h2'
    obtain rfl := Option.some.inj h1'
    obtain rfl := Option.some.inj h2'
    exact ⟨he, hb⟩

set_option maxHeartbeats 6400000 in
set_option maxRecDepth 100000 in
theorem merge_law (A : Option Addr) (n c : Nat) (l : List (Int × Int × ByteArray)) (cut : Int) (w : World) (hrd : Rd w w.heap.size 3 A n (fl3 l)) (hnc : n ≤ c) (hcm : c ≤ maxLen) :
    Calls Tryz.prog 9 #[.slice A n c, .int .i64 cut] w fun e w' => e = .returned (.bool true) ∧ Below w.heap.size w w' := by
  have mixed : Tryz.prog.follows .mixedOrders = true := by kernel_rfl
  have HF := Lib.hid (few_any A n c l w hrd hnc hcm)
  have hln := rd3_len hrd
  by_cases hf : few l = true
  · have hF := HF.out
    rw [hf] at hF
    have HF2 := Lib.hid hF
    have hl200 := few_len hf
    rw [hln] at hl200
    have hcmx : c ≤ 9223372036854775807 := by unfold maxLen at hcm; omega
    clear hF HF hf hcm
    by_cases h1 : cut < 1
    · clear hrd
      go_enter Tryz.func9, Tryz.ntmps9
      go_wp2_with fail
      refine HF2.out.mono ?_
      rintro e1 w1 ⟨rfl, rfl⟩
      go_wp2_with fail
      refine (bawake_any w).mono ?_
      rintro e5 w5 ⟨rfl, hb5⟩
      have HB5 := Lib.hid hb5
      clear hb5
      go_wp2_with fail
      go_ret
      exact ⟨rfl, HB5.out⟩
    obtain ⟨K, rfl⟩ : ∃ K : Nat, cut = (K : Int) := ⟨cut.toNat, by omega⟩
    by_cases h2 : n ≤ K
    · clear hrd
      go_enter Tryz.func9, Tryz.ntmps9
      go_wp2_with fail
      refine HF2.out.mono ?_
      rintro e1 w1 ⟨rfl, rfl⟩
      go_wp2_with fail
      refine (bawake_any w).mono ?_
      rintro e5 w5 ⟨rfl, hb5⟩
      have HB5 := Lib.hid hb5
      clear hb5
      go_wp2_with fail
      go_ret
      exact ⟨rfl, HB5.out⟩
    have HRW := Lib.hid (row_any A n c l w hrd (by omega))
    by_cases h3 : rowE none l = 0
    · have hRW := HRW.out
      rw [h3] at hRW
      have HRW2 := Lib.hid hRW
      obtain ⟨g1, g2⟩ := fl3_cut l K (by omega)
      have hr1 := hrd.take (k := K) (by omega)
      have hr2 := hrd.drop (k := K) (cap := c) (by omega) hnc
      rw [g1] at hr1
      rw [g2, if_neg (by omega)] at hr2
      have hln0 : l ≠ [] := by rintro rfl; simp at hln; omega
      have HJ := Lib.hid (fun h => enc_part (k := K) h3 (by omega) (by omega) h)
      have HC := Lib.hid (enc_row h3 hln0)
      obtain ⟨ad, rfl, -⟩ := hrd.cells (by omega)
      have HR := Lib.hid (show Rd w w.heap.size 3 (some ad) n (fl3 l) ∧ Rd w w.heap.size 3 (some ad) K (fl3 (l.take K)) ∧ Rd w w.heap.size 3 (some (ad.add (K * 3))) (n - K) (fl3 (l.drop K)) from ⟨hrd, hr1, hr2⟩)
      have HTD := Lib.hid (List.take_append_drop K l)
      have i1 : (1 : Int) ≤ (K : Int) := by omega
      have i2 : K < n := by omega
      have i3 : K ≤ n := by omega
      have i4 : K ≤ c := by omega
      clear HRW hRW h1 h2 h3 g1 g2 hr1 hr2 hrd hln hln0
      go_enter Tryz.func9, Tryz.ntmps9
      go_wp2_with fail
      refine HF2.out.mono ?_
      rintro e1 w1 ⟨rfl, rfl⟩
      go_wp2_with fail
      refine HRW2.out.mono ?_
      rintro e2 w2 ⟨rfl, hb2⟩
      have HB2 := Lib.hid hb2
      clear hb2 HRW2 HF2
      go_wp2_with fail
      have hr1 := (HR.out.2.1.below HB2.out).more HB2.out.size
      by_cases ha : encE (l.take K) = 0
      · have HE1 := Lib.hid (enc_dec (some ad) K c (l.take K) w2 hr1 (by omega) ha)
        clear hr1
        refine HE1.out.mono ?_
        rintro e3 w3 ⟨⟨S1, arr1, rfl, -, -, -, hS1, hd1⟩, hb3⟩
        have HB3 := Lib.hid (HB2.out.trans (hb3.mono HB2.out.size))
        have HD1 := Lib.hid (And.intro hS1 hd1)
        clear hb3 HE1 hS1 hd1 HB2
        go_wp2_with fail
        have hr2 := (HR.out.2.2.below HB3.out).more HB3.out.size
        by_cases hb : encE (l.drop K) = 0
        · have HE2 := Lib.hid (enc_dec (some (ad.add (K * 3))) (n - K) (c - K) (l.drop K) w3 hr2 (by omega) hb)
          clear hr2 ha hb
          refine HE2.out.mono ?_
          rintro e4 w4 ⟨⟨S2, arr2, rfl, -, -, -, hS2, hd2⟩, hb4⟩
          have HB4 := Lib.hid (HB3.out.trans (hb4.mono HB3.out.size))
          have hm := fun w => merge_cat S1 S2 (l.take K) (l.drop K) w (by have := HD1.out.1; omega) (by omega) HD1.out.2 hd2
          rw [HTD.out] at hm
          have HM := Lib.hid hm
          clear hb4 HE2 hS2 hd2 HB3 hm
          rcases HC.out with HG | HG
          · have HE3 := Lib.hid (enc_dec (some ad) n c l w4 ((HR.out.1.below HB4.out).more HB4.out.size) (by omega) HG)
            have HG2 := Lib.hid HG
            clear HG
            go_wp2_with fail
            refine HE3.out.mono ?_
            rintro e5 w5 ⟨⟨S3, arr3, rfl, hso, hbl, -, -, -⟩, hb5⟩
            have HB5 := Lib.hid (HB4.out.trans (hb5.mono HB4.out.size))
            have HS3 := Lib.hid (And.intro hso hbl)
            clear hb5 HE3 hso hbl
            go_wp2_with fail
            refine (HM.out w5).mono ?_
            rintro e6 w6 ⟨he6, hb6⟩
            obtain rfl := enc_one he6 HG2.out HS3.out.1 HS3.out.2
            have HB6 := Lib.hid (HB5.out.trans (hb6.mono HB5.out.size))
            clear hb6 he6 HM HS3
            go_wp2_with fail
            refine (bawake_any w6).mono ?_
            rintro e9 w9 ⟨rfl, hb9⟩
            have HB9 := Lib.hid (HB6.out.trans (hb9.mono HB6.out.size))
            clear hb9
            go_wp2_with fail
            go_ret
            exact ⟨rfl, HB9.out⟩
          · have h3 : encE l = 3 := HG
            have HC3 := Lib.hid HG
            have HE3 := Lib.hid (enc_not (some ad) n c l w4 ((HR.out.1.below HB4.out).more HB4.out.size) (by omega) (by rw [h3]; decide))
            rw [h3] at HE3
            clear h3 HG
            go_wp2_with fail
            refine HE3.out.mono ?_
            rintro e5 w5 ⟨rfl, hb5⟩
            have HB5 := Lib.hid (HB4.out.trans (hb5.mono HB4.out.size))
            clear hb5 HE3
            go_wp2_with fail
            refine (HM.out w5).mono ?_
            rintro e6 w6 ⟨he6, hb6⟩
            have h3 : encE l = 3 := HC3.out
            obtain ⟨S6, rfl, hz, -⟩ := he6
            obtain rfl := hz (by rw [h3]; decide)
            rw [h3]
            have HB6 := Lib.hid (HB5.out.trans (hb6.mono HB5.out.size))
            clear hb6 h3 hz HM
            go_wp2_with fail
            refine (bawake_any w6).mono ?_
            rintro e9 w9 ⟨rfl, hb9⟩
            have HB9 := Lib.hid (HB6.out.trans (hb9.mono HB6.out.size))
            clear hb9
            go_wp2_with fail
            go_ret
            exact ⟨rfl, HB9.out⟩
        · have HG := HJ.out (.inr hb)
          have HE2 := Lib.hid (enc_not (some (ad.add (K * 3))) (n - K) (c - K) (l.drop K) w3 hr2 (by omega) hb)
          have hb1 : (encE (l.drop K) != 0) = true := by rw [bne_iff_ne]; exact hb
          have hb2 : (encE (l.drop K) == 0) = false := by rw [beq_eq_false_iff_ne]; exact hb
          clear hr2 ha hb
          generalize encE (l.drop K) = x at *
          refine HE2.out.mono ?_
          rintro e4 w4 ⟨rfl, hb4⟩
          have HB4 := Lib.hid (HB3.out.trans (hb4.mono HB3.out.size))
          clear hb4 HE2 HB3
          have h3 : encE l = 3 := HG
          have HE3 := Lib.hid (enc_not (some ad) n c l w4 ((HR.out.1.below HB4.out).more HB4.out.size) (by omega) (by rw [h3]; decide))
          rw [h3] at HE3
          clear h3 HG
          go_wp2_with fail
          refine HE3.out.mono ?_
          rintro e5 w5 ⟨rfl, hb5⟩
          have HB5 := Lib.hid (HB4.out.trans (hb5.mono HB4.out.size))
          clear hb5 HE3
          go_wp2_with fail
          refine (bawake_any w5).mono ?_
          rintro e9 w9 ⟨rfl, hb9⟩
          have HB9 := Lib.hid (HB5.out.trans (hb9.mono HB5.out.size))
          clear hb9
          go_wp2_with fail
          go_ret
          exact ⟨rfl, HB9.out⟩
      · have HG := HJ.out (.inl ha)
        have HE1 := Lib.hid (enc_not (some ad) K c (l.take K) w2 hr1 (by omega) ha)
        have hb1 : (encE (l.take K) != 0) = true := by rw [bne_iff_ne]; exact ha
        have hb2 : (encE (l.take K) == 0) = false := by rw [beq_eq_false_iff_ne]; exact ha
        clear hr1 ha
        generalize encE (l.take K) = x at *
        refine HE1.out.mono ?_
        rintro e3 w3 ⟨rfl, hb3⟩
        have HB3 := Lib.hid (HB2.out.trans (hb3.mono HB2.out.size))
        have HG3 := Lib.hid HG
        clear hb3 HE1 HB2 HG
        go_wp2_with fail
        have HE2 := Lib.hid (enc_any (some (ad.add (K * 3))) (n - K) (c - K) (l.drop K) w3 ((HR.out.2.2.below HB3.out).more HB3.out.size) (by omega))
        refine HE2.out.mono ?_
        rintro e4 w4 ⟨⟨S2, rfl, -, -⟩, hb4⟩
        have HB4 := Lib.hid (HB3.out.trans (hb4.mono HB3.out.size))
        have HG := HG3.out
        clear hb4 HE2 HB3 HG3
        generalize encE (l.drop K) = y at *
        have h3 : encE l = 3 := HG
        have HE3 := Lib.hid (enc_not (some ad) n c l w4 ((HR.out.1.below HB4.out).more HB4.out.size) (by omega) (by rw [h3]; decide))
        rw [h3] at HE3
        clear h3 HG
        go_wp2_with fail
        refine HE3.out.mono ?_
        rintro e5 w5 ⟨rfl, hb5⟩
        have HB5 := Lib.hid (HB4.out.trans (hb5.mono HB4.out.size))
        clear hb5 HE3
        go_wp2_with fail
        refine (bawake_any w5).mono ?_
        rintro e9 w9 ⟨rfl, hb9⟩
        have HB9 := Lib.hid (HB5.out.trans (hb9.mono HB5.out.size))
        clear hb9
        go_wp2_with fail
        go_ret
        exact ⟨rfl, HB9.out⟩
    · have hb1 : (rowE none l != 0) = true := by rw [bne_iff_ne]; exact h3
      have hb2 : (rowE none l == 0) = false := by rw [beq_eq_false_iff_ne]; exact h3
      clear hrd h3
      generalize rowE none l = x at *
      go_enter Tryz.func9, Tryz.ntmps9
      go_wp2_with fail
      refine HF2.out.mono ?_
      rintro e1 w1 ⟨rfl, rfl⟩
      go_wp2_with fail
      refine HRW.out.mono ?_
      rintro e2 w2 ⟨rfl, hb2⟩
      have HB2 := Lib.hid hb2
      clear hb2 HRW HF2
      go_wp2_with fail
      refine (bawake_any w2).mono ?_
      rintro e5 w5 ⟨rfl, hb5⟩
      have HB5 := Lib.hid (HB2.out.trans (hb5.mono HB2.out.size))
      clear hb5
      go_wp2_with fail
      go_ret
      exact ⟨rfl, HB5.out⟩
  · have hf2 : few l = false := by simpa using hf
    rw [hf2] at HF
    clear hf hf2 hrd hln
    go_enter Tryz.func9, Tryz.ntmps9
    go_wp2_with fail
    refine HF.out.mono ?_
    rintro e1 w1 ⟨rfl, rfl⟩
    go_wp2_with fail
    refine (bawake_any w).mono ?_
    rintro e5 w5 ⟨rfl, hb5⟩
    have HB5 := Lib.hid hb5
    clear hb5
    go_wp2_with fail
    go_ret
    exact ⟨rfl, HB5.out⟩
end Bk
end Go.Proofs.YtnljhnckmgpllaaGreat
namespace Go.Proofs.YtnljhnckmgpllaaGreat
namespace Rd
open Go.RowKit Go.ChangeShapes Go.WideShapes Go.Deep

theorem fl3_inv {l : List (Int × Int × ByteArray)} {j : Nat} {u : Value} (h : (fl3 l)[j]? = some u) : ∃ (k s : Nat) (x : Int × Int × ByteArray), j = k * 3 + s ∧ s < 3 ∧ l[k]? = some x ∧ (cl3 x)[s]? = some u := by
  have hj : j < l.length * 3 := by rw [← length_fl3]; exact (List.getElem?_eq_some_iff.1 h).1
  have hk : j / 3 < l.length := by omega
  obtain ⟨x, hx⟩ : ∃ x, l[j / 3]? = some x := ⟨_, List.getElem?_eq_getElem hk⟩
  obtain ⟨h1, h2, h3⟩ := fl3_at l (j / 3) x hx
  have hs : j % 3 < 3 := Nat.mod_lt _ (by omega)
  refine ⟨j / 3, j % 3, x, by omega, hs, hx, ?_⟩
  rw [show j = j / 3 * 3 + j % 3 by omega] at h
  generalize j % 3 = s at *
  rcases s with _ | _ | _ | s
  · rw [Nat.add_zero] at h; exact h1.symm.trans h
  · exact h2.symm.trans h
  · exact h3.symm.trans h
  · omega
theorem open_recs {H : Type} {enc : TypeId × Value → H} {P : Program} {w : World} {base : Nat} {r : Reach} {t e : TypeId} {f0 f1 f2 : Field} {v : Value} {d : DataW H} {p : List MemPlace}
    (ht : P.underlying t = some (.slice e)) (he : P.underlying e = some (.struct #[f0, f1, f2])) (hone : oneCellFields P #[f0, f1, f2] = true) (hc : P.cellsOf e = 3)
    (t0 : P.underlying f0.type = some (.int .i64)) (t1 : P.underlying f1.type = some (.int .i64)) (t2 : P.underlying f2.type = some .string)
    (hv : Value.okWide P w r base t v) (h : DataW.Trod enc P w 0 (fun _ => true) true t v d p) :
    ∃ (A : Option Addr) (n c : Nat) (l : List (Int × Int × ByteArray)), v = .slice A n c ∧ Rd w w.heap.size 3 A n (fl3 l) ∧ n ≤ c ∧ c ≤ maxLen ∧ l.length = n := by
  obtain ⟨a0, len, cap, rfl⟩ := okWide_slice ht hv
  obtain ⟨fuel, hf⟩ := h
  rcases Go.Deep.open_slice ht hf with ⟨hcs, -⟩ | ⟨a, len', cap', m, n, D, Pl, hcs, -, hl, hm, hmm, -, hx⟩
  · simp [Value.cells] at hcs
    obtain ⟨rfl, rfl, rfl⟩ := hcs
    exact ⟨none, 0, 0, [], rfl, Rd.nil, Nat.le_refl _, by simp [maxLen], rfl⟩
  · simp [Value.cells] at hcs
    obtain ⟨rfl, rfl, rfl⟩ := hcs
    rw [hc] at hx
    have hlm : len ≤ m := by rw [hmm, if_pos rfl]; exact hl
    have hex : ∀ i, i < len → ∃ x : Int × Int × ByteArray, ∀ s u, (cl3 x)[s]? = some u → w.cell? (a.add (i * 3 + s)) = some u := by
      intro i hi
      obtain ⟨cs', hcl, htr⟩ := hx i (by omega)
      obtain ⟨-, hlen, hat⟩ := World.cells?_some hcl
      obtain ⟨ys, k, -, -, -, hyl, hfl⟩ := DataW.trod_struct he htr
      match cs', hlen with
      | [c0, c1, c2], _ =>
        have g : ∀ (j : Nat) (f : Field), #[f0, f1, f2][j]? = some f → ∃ y, DataW.trod enc P w 0 (fun _ => true) true k f.type (([c0, c1, c2].drop j).take 1) = some y := by
          intro j f hj
          obtain ⟨o1, o2⟩ := Go.Deep.hone_of hone j f hj
          have := hfl j f hj
          rw [o1, o2] at this
          have hjl : j < ys.length := by rw [hyl]; exact (Array.getElem?_eq_some_iff.1 hj).1
          exact ⟨_, this.trans (List.getElem?_eq_getElem hjl)⟩
        obtain ⟨y0, g0⟩ := g 0 f0 rfl
        obtain ⟨y1, g1⟩ := g 1 f1 rfl
        obtain ⟨y2, g2⟩ := g 2 f2 rfl
        obtain ⟨q, hq, -, -⟩ := DataW.trod_int t0 g0
        obtain ⟨tk, htk, -, -⟩ := DataW.trod_int t1 g1
        obtain ⟨d, hd, -, -⟩ := DataW.trod_string t2 g2
        simp at hq htk hd
        subst hq; subst htk; subst hd
        refine ⟨(q, tk, d), fun s u hu => ?_⟩
        rw [← add_add]
        have hs : s < 3 := (List.getElem?_eq_some_iff.1 hu).1
        rw [hat s hs]; exact hu
    obtain ⟨R, hR⟩ := Go.Deep.choose_lt hex
    refine ⟨some a, len, cap, (List.range len).map R, rfl, ⟨by rw [length_fl3]; simp, fun hn => ⟨a, rfl, ?_, ?_⟩⟩, hl, hm, by simp⟩
    · have h0 := World.block_lt_of_cell? w _ (hR 0 hn 0 _ rfl)
      rwa [add_block] at h0
    · intro j u hu
      obtain ⟨k, s, x, rfl, hs, hk, hc⟩ := fl3_inv hu
      rw [List.getElem?_map] at hk
      rcases Nat.lt_or_ge k len with hkl | hkl
      · rw [List.getElem?_eq_getElem (by simpa using hkl)] at hk
        simp at hk
        subst hk
        exact hR k hkl s u hc
      · rw [List.getElem?_eq_none (by simpa using hkl)] at hk
        cases hk
end Rd
end Go.Proofs.YtnljhnckmgpllaaGreat
