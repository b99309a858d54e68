/- ScanGrows. A header by value as it comes in. -/
import Derived.Test.YtpbphhpldlckbaaGreatSc52
import Derived.Test.YtpbphhpldlckbaaGreatSc49
import Derived.Test.YtpbphhpldlckbaaGreatSc01
import Derived.Test.YtpbphhpldlckbaaGreatSc02
import Derived.Lib.SmallJoins
import Derived.SliceStrings
namespace Go.Proofs.YtpbphhpldlckbaaGreat
namespace Sn
open Go.RowKit Hd Fm Bk Vi Rd

set_option maxHeartbeats 6400000 in
set_option maxRecDepth 100000 in
theorem grows_far (s : ByteArray) (i g f : Int) (A : Option Addr) (n c : Nat) (w : World) (h : 3000 < s.size ∨ n < 1 ∨ 20 < n) :
    Calls Tryz.prog 4 #[.string s, .agg #[.int .i64 i, .int .i64 g, .int .i64 f], .slice A n c] w fun e w' => e = .returned (.bool true) ∧ Below w.heap.size w w' := by
  have mixed : Tryz.prog.follows .mixedOrders = true := by kernel_rfl
  have HA := Lib.hid (fun w => sawake_any w)
  have HB := Lib.hid (ext_alloc w (.cells #[.int .i64 i, .int .i64 g, .int .i64 f] 23))
  by_cases h1 : (3000 : Int) < (s.size : Int)
  · clear h
    go_enter Tryz.func4, Tryz.ntmps4
    go_wp2_with fail
    refine (HA.out _).mono ?_
    rintro ex wx ⟨rfl, hbx⟩
    have HBX := Lib.hid (HB.out.trans (hbx.mono HB.out.size))
    clear hbx
    go_wp2_with fail
    go_ret
    exact ⟨rfl, HBX.out⟩
  · by_cases h2 : (n : Int) < 1
    · clear h
      go_enter Tryz.func4, Tryz.ntmps4
      go_wp2_with fail
      refine (HA.out _).mono ?_
      rintro ex wx ⟨rfl, hbx⟩
      have HBX := Lib.hid (HB.out.trans (hbx.mono HB.out.size))
      clear hbx
      go_wp2_with fail
      go_ret
      exact ⟨rfl, HBX.out⟩
    · have h3 : (20 : Int) < (n : Int) := by omega
      clear h
      go_enter Tryz.func4, Tryz.ntmps4
      go_wp2_with fail
      refine (HA.out _).mono ?_
      rintro ex wx ⟨rfl, hbx⟩
      have HBX := Lib.hid (HB.out.trans (hbx.mono HB.out.size))
      clear hbx
      go_wp2_with fail
      go_ret
      exact ⟨rfl, HBX.out⟩
set_option maxHeartbeats 6400000 in
set_option maxRecDepth 100000 in
theorem grows_none (s : ByteArray) (i g f : Int) (A : Option Addr) (n c : Nat) (w : World) (hs : s.size ≤ 3000) (hn1 : 1 ≤ n) (hn : n ≤ 20) (h : tl s i g f = none) :
    Calls Tryz.prog 4 #[.string s, .agg #[.int .i64 i, .int .i64 g, .int .i64 f], .slice A n c] w fun e w' => e = .returned (.bool true) ∧ Below w.heap.size w w' := by
  have mixed : Tryz.prog.follows .mixedOrders = true := by kernel_rfl
  have HA := Lib.hid (fun w => sawake_any w)
  have HB := Lib.hid (ext_alloc w (.cells #[.int .i64 i, .int .i64 g, .int .i64 f] 23))
  have HH := Lib.hid (Blk.new w #[.int .i64 i, .int .i64 g, .int .i64 f] 23)
  have HT := Lib.hid (fun w => tail_none h w (by omega))
  have h1 : ¬ (3000 : Int) < (s.size : Int) := by omega
  have h2 : ¬ (n : Int) < 1 := by omega
  have h3 : ¬ (20 : Int) < (n : Int) := by omega
  clear h
  go_enter Tryz.func4, Tryz.ntmps4
  go_wp2_with fail
  have k0 := HH.out.cell 0 rfl
  have k1 := HH.out.cell 1 rfl
  have k2 := HH.out.cell 2 rfl
  generalize w.alloc (.cells #[.int .i64 i, .int .i64 g, .int .i64 f] 23) = w0 at *
  refine (HT.out _).mono ?_
  rintro e1 w1 ⟨rfl, hb1⟩
  have HB1 := Lib.hid (HB.out.trans (hb1.mono HB.out.size))
  clear hb1 k0 k1 k2
  go_wp2_with fail
  refine (HA.out _).mono ?_
  rintro ex wx ⟨rfl, hbx⟩
  have HBX := Lib.hid (HB1.out.trans (hbx.mono HB1.out.size))
  clear hbx
  go_wp2_with fail
  go_ret
  exact ⟨rfl, HBX.out⟩
set_option maxHeartbeats 6400000 in
set_option maxRecDepth 100000 in
theorem grows_some (s : ByteArray) (i g f : Int) (A : Option Addr) (n c : Nat) (data : List ByteArray) (L : List Mt) (E : Nat) (w : World) (hrd : Rd w w.heap.size 1 A n (data.map Value.string)) (hs : s.size ≤ 3000) (hn1 : 1 ≤ n) (hn : n ≤ 20) (h : tl s i g f = some (L, E)) :
    Calls Tryz.prog 4 #[.string s, .agg #[.int .i64 i, .int .i64 g, .int .i64 f], .slice A n c] w fun e w' => e = .returned (.bool true) ∧ Below w.heap.size w w' := by
  have mixed : Tryz.prog.follows .mixedOrders = true := by kernel_rfl
  have HA := Lib.hid (fun w => sawake_any w)
  have HB := Lib.hid (ext_alloc w (.cells #[.int .i64 i, .int .i64 g, .int .i64 f] 23))
  have HH := Lib.hid (Blk.new w #[.int .i64 i, .int .i64 g, .int .i64 f] 23)
  obtain ⟨hE, hL, -⟩ := cut_end h
  obtain ⟨f', e0, hff, hf1, hf2, -, -, -, hst, hrow, -, hok⟩ := tl_some h
  have HT := Lib.hid (fun w => tail_some h w (by omega))
  have HREC := Lib.hid (fun A n c w hr hn => records_ok s A n c L w (by omega) hr hn hok (St_stands hst))
  have HROW := Lib.hid (fun A n c w hr hn => row_any A n c (recs s L) w hr hn)
  rw [hrow.1] at HROW
  have HRL := Lib.hid (recs_len s L)
  have HNX := Lib.hid (fun A n c w hr hn => next_any A n c i g f f' L w hr hn hok hff)
  unfold hv at HNX
  have hdl : data.length = n := by have := hrd.len; simpa using this
  have HDL := Lib.hid hdl
  have HRD := Lib.hid (hrd.ext HB.out)
  have hnx : nextM f' L ≤ 1000000001 := by
    unfold nextM
    rcases hl : L.getLast? with _ | m
    · dsimp only; omega
    · have := (okM_iff m).1 (rowM_mem L none (okBl_row hok).2 m (List.mem_of_getLast? hl))
      dsimp only; omega
  have HGT := Lib.hid (fun (B : ByteArray) (A : List Nat) (h1 : L.length < 1000) (hB : B.data.toList = blk (mr (nextM f' L) (lateM L) data) A) (hj : jE (mr (nextM f' L) (lateM L) data) = 0) (hA : Sx.Sorted (joinB (mr (nextM f' L) (lateM L) data)) A) =>
    show tl (s.extract 0 E ++ frB 2 B) i g f = some (L ++ [mtOf E B (mr (nextM f' L) (lateM L) data) (nextM f' L) (lateM L) (lateM L)], E + (B.size + 9)) from by
      have hft : f.toNat = f' := by omega
      have h' := grow_tl (T := lateM L) (l := data) (B := B) (A := A) h (by omega) h1 (by intro e; rw [e] at hdl; simp at hdl; omega) (by rw [hft]; exact hB) rfl (by rw [hft]; exact hj) (by rw [hft]; exact hA)
      rw [hft] at h'; exact h')
  have HFF := Lib.hid hff
  have HLT := Lib.hid (show ∀ m, L.getLast? = some m → lateM L = m.l from fun m hm => by unfold lateM; rw [hm])
  have HL0 := Lib.hid (show L = [] → lateM L = 0 from fun hm => by rw [hm]; rfl)
  have HMT := Lib.hid (fun k d hk => mr_take (nextM f' L) (lateM L) data k d hk)
  have HML := Lib.hid (fun (l : List ByteArray) => length_mr (nextM f' L) (lateM L) l)
  obtain ⟨q, hq⟩ : ∃ q, nextM f' L = q := ⟨_, rfl⟩
  obtain ⟨t, ht⟩ : ∃ t, lateM L = t := ⟨_, rfl⟩
  obtain ⟨m, hm⟩ : ∃ m, L.length = m := ⟨_, rfl⟩
  rw [hm] at HT HRL hL
  rw [hq] at HNX HGT hnx HMT HML
  rw [ht] at HGT HLT HL0 HMT HML
  have HM := Lib.hid hm
  have h1 : ¬ (3000 : Int) < (s.size : Int) := by omega
  have h2 : ¬ (n : Int) < 1 := by omega
  have h3 : ¬ (20 : Int) < (n : Int) := by omega
  have h6 : ¬ (s.size : Int) < (E : Int) := by omega
  have h7 : (0 : Int) ≤ (E : Int) := by omega
  have h8 : (E : Int) ≤ (s.size : Int) := by omega
  clear h hst hrow hok hrd hdl hff hq ht hm hf1 hf2
  go_enter Tryz.func4, Tryz.ntmps4
  go_wp2_with fail
  have k0 := HH.out.cell 0 rfl
  have k1 := HH.out.cell 1 rfl
  have k2 := HH.out.cell 2 rfl
  generalize w.alloc (.cells #[.int .i64 i, .int .i64 g, .int .i64 f] 23) = w0 at *
  refine (HT.out _).mono ?_
  rintro e1 w1 ⟨⟨A1, c1, rfl, hc1, hr1⟩, hb1⟩
  have HB1 := Lib.hid (HB.out.trans (hb1.mono HB.out.size))
  have HH1 := Lib.hid (HH.out.ext hb1)
  have HR1 := Lib.hid hr1
  have HD1 := Lib.hid (HRD.out.ext hb1)
  clear hb1 hr1 k0 k1 k2 HT HRD HB HH
  go_wp2_with fail
  refine (HREC.out A1 m c1 _ HR1.out (by omega)).mono ?_
  rintro e2 w2 ⟨⟨v2, rfl, hown2⟩, hb2⟩
  obtain ⟨A2, c2, rfl, -, -, hr2⟩ := hown2.rd
  have HB2 := Lib.hid (HB1.out.trans (hb2.mono HB1.out.size))
  have HH2 := Lib.hid (HH1.out.ext hb2)
  have HR2 := Lib.hid (HR1.out.ext hb2)
  have HD2 := Lib.hid (HD1.out.ext hb2)
  have HRW := Lib.hid (HROW.out A2 _ c2 _ hr2 (by have := HRL.out; omega))
  clear hb2 hown2 hr2 HREC HROW
  go_wp2_with fail
  refine HRW.out.mono ?_
  rintro e3 w3 ⟨rfl, hb3⟩
  have HB3 := Lib.hid (HB2.out.trans (hb3.mono HB2.out.size))
  have HH3 := Lib.hid (HH2.out.ext hb3)
  have HR3 := Lib.hid (HR2.out.ext hb3)
  have HD3 := Lib.hid (HD2.out.ext hb3)
  clear hb3 HRW
  have k0 := HH3.out.cell 0 rfl
  have k1 := HH3.out.cell 1 rfl
  have k2 := HH3.out.cell 2 rfl
  go_wp2_with fail
  refine (HNX.out A1 m c1 _ HR3.out (by omega)).mono ?_
  rintro e4 w4 ⟨rfl, hb4⟩
  have HB4 := Lib.hid (HB3.out.trans (hb4.mono HB3.out.size))
  have HH4 := Lib.hid (HH3.out.ext hb4)
  have HR4 := Lib.hid (HR3.out.ext hb4)
  have HD4 := Lib.hid (HD3.out.ext hb4)
  clear hb4 k0 k1 k2 HNX
  go_upto_if 79 with (fail)
  go_cut [13] from 80 (fun s13 wx => s13 = .int .i64 (t : Int) ∧ w4 = wx)
  case first =>
    by_cases hm0 : m = 0
    · have HT0 := Lib.hid (HL0.out (List.length_eq_zero_iff.1 (by rw [HM.out]; exact hm0)))
      subst hm0
      go_wp2_with fail
      go_meet
      case rel => exact ⟨by rw [HT0.out]; rfl, rfl⟩
    · obtain ⟨j, hj⟩ : ∃ j, m = j + 1 := ⟨m - 1, by omega⟩
      obtain ⟨ad, mm, hA, hbk, hx, -, -, -, -, -, -, hc6⟩ := mt_at (k := j) HR4.out (by omega)
      have HT0 := Lib.hid (HLT.out mm (by rw [List.getLast?_eq_getElem?, HM.out, hj, Nat.add_sub_cancel]; exact hx))
      have g1 : 0 < m := by omega
      have g2 : IntKind.i64.wrap ((m : Int) - 1) = (j : Int) := by rw [IntKind.wrap_i64]; omega
      have g3 : (j : Int) < (m : Int) := by omega
      subst hA
      clear hx hbk hj hm0
      go_wp2_with fail
      go_meet
      case rel => exact ⟨by rw [HT0.out], rfl⟩
  case rest =>
    obtain ⟨rfl, rfl⟩ := hcut
    clear HL0 HLT
    go_wp2_with fail
    go_loopw [14, 15] (fun s14 s15 wr => ∃ (k : Nat) (A5 : Option Addr) (n5 c5 : Nat), s15 = .int .i64 (k : Int) ∧ s14 = .slice A5 n5 c5 ∧ k ≤ n ∧ Hid (Own3 wr w4.heap.size (.slice A5 n5 c5) (mr q t (data.take k)) ∧ Below w4.heap.size w4 wr)) (fun _ v _ => n - (intOf v).toNat)
    case atStart => exact ⟨0, none, 0, 0, by go_num, rfl, by omega, Lib.hid ⟨own3_nil _ _, Below.refl _ _⟩⟩
    case round =>
      obtain ⟨k, A5, n5, c5, rfl, rfl, hk, HX⟩ := hrel
      by_cases hkn : k < n
      · obtain ⟨ad, u, hA, hbk, hx, hc0⟩ := ((HD4.out.ext HX.out.2)).at1 hkn
        rw [List.getElem?_map] at hx
        obtain ⟨d, hd, rfl⟩ := Option.map_eq_some_iff.1 hx
        have HMK := Lib.hid (HMT.out k d hd)
        have HO := Lib.hid HX.out.1
        have HBR := Lib.hid HX.out.2
        have HBW := Lib.hid (HB4.out.trans (HX.out.2.mono HB4.out.size))
        have HLE := Lib.hid (show (mr q t (data.take k)).length ≤ 1099511627776 by rw [HML.out, List.length_take]; omega)
        subst hA
        clear hx hd hbk HX
        go_wp2_with (at_builtin; go_loud (refine append3 HO.out HLE.out HBR.out.size ?_; intro A6 n6 c6 w6 hn6 hown6 hb6))
        have HP := Lib.hid (show Own3 w6 w4.heap.size (.slice A6 n6 c6) (mr q t (data.take (k + 1))) ∧ Below w4.heap.size w4 w6 from ⟨by rw [HMK.out]; push_cast; exact hown6, HBR.out.trans hb6⟩)
        clear hown6 hb6 hn6
        go_roundw
        case rel => exact ⟨k + 1, A6, n6, c6, by go_num, rfl, by omega, HP⟩
        case measure => simp [intOf]; omega
      · obtain rfl : k = n := by omega
        have h9 := HX.out
        rw [List.take_of_length_le (by rw [HDL.out]; omega)] at h9
        obtain ⟨hown9, hb9⟩ := h9
        obtain ⟨A9, c9, e9, -, -, hr9⟩ := hown9.rd
        cases e9
        rw [HML.out, HDL.out] at hr9 ⊢
        have HB9 := Lib.hid (HB4.out.trans (hb9.mono HB4.out.size))
        have HH9 := Lib.hid (HH4.out.ext hb9)
        have HR9 := Lib.hid (HR4.out.ext hb9)
        by_cases he : encE (mr q t data) = 0
        · have HE := Lib.hid (enc_dec A5 k c5 _ wr hr9 (by omega) he)
          obtain ⟨hj, -⟩ := enc_ok he
          have HJ := Lib.hid hj
          have h0k : 0 ≤ k := Nat.zero_le _
          clear hown9 hb9 hr9 HX he hj HMT
          go_wp2_with fail
          refine HE.out.mono ?_
          rintro e10 w10 ⟨⟨S, arr, rfl, hso, hS, -, hS2, -⟩, hb10⟩
          have HB10 := Lib.hid (HB9.out.trans (hb10.mono HB9.out.size))
          have HH10 := Lib.hid (HH9.out.ext hb10)
          have HR10 := Lib.hid (HR9.out.ext hb10)
          have HPU := Lib.hid (fun w => fput_2 S w (by omega))
          have hX := size_frB 2 S
          clear hb10 HE
          by_cases hL2 : m < 1000
          · have HG := Lib.hid (HGT.out S arr (by rw [HM.out]; exact hL2) hS HJ.out hso)
            have hXs : (frB 2 S).size ≤ 30000 := by omega
            have HT2 := Lib.hid (fun w => tail_some HG.out w (by rw [ByteArray.size_append, size_cut hE]; omega))
            rw [List.length_append, HM.out, ← hX] at HT2
            have HTK := Lib.hid (show (L ++ [mtOf E S (mr q t data) q t t]).take m = L by rw [← HM.out, List.take_append_of_le_length (Nat.le_refl _), List.take_length])
            have HLA := Lib.hid (show (L ++ [mtOf E S (mr q t data) q t t])[m]? = some (mtOf E S (mr q t data) q t t) by rw [← HM.out, List.getElem?_append_right (Nat.le_refl _), Nat.sub_self]; rfl)
            have HCN := Lib.hid (show (mtOf E S (mr q t data) q t t).c = k by unfold mtOf; rw [HML.out]; exact HDL.out)
            have HAN := Lib.hid (show (mtOf E S (mr q t data) q t t).a = E from rfl)
            have hov : ¬ 9223372036854775807 < (s.extract 0 E).size + (frB 2 S).size := by rw [size_cut hE]; omega
            have hov2 : ¬ 9223372036854775807 < min E s.size + (frB 2 S).size := by omega
            have hov3 : ¬ 9223372036854775807 < E + (frB 2 S).size := by omega
            have hmin : min E s.size = E := by omega
            generalize mtOf E S (mr q t data) q t t = mm at *
            clear hso hS HGT HJ HG hX
            generalize frB 2 S = X at *
            go_wp2_with fail
            refine (HPU.out _).mono ?_
            rintro e11 w11 ⟨rfl, hb11⟩
            have HB11 := Lib.hid (HB10.out.trans (hb11.mono HB10.out.size))
            have HH11 := Lib.hid (HH10.out.ext hb11)
            have HR11 := Lib.hid (HR10.out.ext hb11)
            clear hb11 HPU
            have hL3 : ¬ (1000 : Int) ≤ (m : Int) := by omega
            go_wp2_with fail
            have HSO := Lib.hid (show ∀ wx, Below w11.heap.size w11 wx → wx.cell? ⟨w.heap.size, 0, none⟩ = some (.int .i64 i) ∧ wx.cell? ⟨w.heap.size, 1, none⟩ = some (.int .i64 g) ∧ wx.cell? ⟨w.heap.size, 2, none⟩ = some (.int .i64 f) from fun wx hb => ⟨(HH11.out.ext hb).cell 0 rfl, (HH11.out.ext hb).cell 1 rfl, (HH11.out.ext hb).cell 2 rfl⟩)
            have HS := Lib.hid (HSO.out _ (ext_drew w11))
            go_region_held3 (fun wx => wx.cell? ⟨w.heap.size, 0, none⟩ = some (.int .i64 i) ∧ wx.cell? ⟨w.heap.size, 1, none⟩ = some (.int .i64 g) ∧ wx.cell? ⟨w.heap.size, 2, none⟩ = some (.int .i64 f)) (first | exact HS.out | exact hs12) (first
              | (go_at_call 6; refine (HT2.out _).mono ?_; rintro e12 w12 ⟨⟨A12, c12, rfl, hc12, hr12⟩, hb12⟩; have hs12 := HSO.out _ (ext_trans (ext_drew w11) hb12); have HX12 := Lib.hid (ext_trans (ext_drew w11) hb12)))
            have HB12 := Lib.hid (HB11.out.trans (HX12.out.mono HB11.out.size))
            have HR12 := Lib.hid (HR11.out.ext HX12.out)
            have HN12 := Lib.hid (show Rd w12 w12.heap.size 7 A12 (m + 1) (fl7 (L ++ [mm])) from by simpa using hr12)
            have hc12' : m + 1 ≤ c12 := hc12
            have HSL := Lib.hid (rd_take7 HN12.out (Nat.le_succ m))
            rw [HTK.out] at HSL
            have HSM := Lib.hid (fun cc => same_mt A12 A1 m cc c1 L w12 HSL.out HR12.out (by omega))
            have HMI := Lib.hid (Nat.lt_succ_self m)
            clear hb12 hs12 HSO HS hr12 hc12
            have q1 : (m + 1 == m + 1) = true := by simp
            have q2 : (0 : Int) ≤ (m : Int) := by omega
            have q3 : (m : Int) ≤ (c12 : Int) := by omega
            go_wp2_with fail
            refine (HSM.out _).mono ?_
            rintro e13 w13 ⟨rfl, hb13⟩
            have HB13 := Lib.hid (HB12.out.trans (hb13.mono HB12.out.size))
            obtain ⟨ad, m2, hA, hbk, hx, d0, -, -, d3, -, -, -⟩ := mt_at (k := m) (HN12.out.ext hb13) (by omega)
            obtain rfl : mm = m2 := Option.some.inj (HLA.out.symm.trans hx)
            rw [HAN.out] at d0
            rw [HCN.out] at d3
            subst hA
            clear hb13 hbk hx HSM
            go_wp2_with fail
            refine (HA.out _).mono ?_
            rintro ex wx ⟨rfl, hbx⟩
            have HBX := Lib.hid (HB13.out.trans (hbx.mono HB13.out.size))
            clear hbx
            go_wp2_with fail
            go_ret
            exact ⟨rfl, HBX.out⟩
          · have hL3 : (1000 : Int) ≤ (m : Int) := by omega
            clear hso hS HGT HJ
            generalize frB 2 S = X at *
            go_wp2_with fail
            refine (HPU.out _).mono ?_
            rintro e11 w11 ⟨rfl, hb11⟩
            have HB11 := Lib.hid (HB10.out.trans (hb11.mono HB10.out.size))
            clear hb11
            go_wp2_with fail
            refine (HA.out _).mono ?_
            rintro ex wx ⟨rfl, hbx⟩
            have HBX := Lib.hid (HB11.out.trans (hbx.mono HB11.out.size))
            clear hbx
            go_wp2_with fail
            go_ret
            exact ⟨rfl, HBX.out⟩
        · have HE := Lib.hid (enc_not A5 k c5 _ wr hr9 (by omega) he)
          have HPU := Lib.hid (fun w => fput_2 ⟨#[]⟩ w (by decide))
          generalize encE (mr q t data) = x at *
          have hx0 : ¬ (x = 0) := he
          clear hown9 hb9 hr9 HX HMT
          go_wp2_with fail
          refine HE.out.mono ?_
          rintro e10 w10 ⟨rfl, hb10⟩
          have HB10 := Lib.hid (HB9.out.trans (hb10.mono HB9.out.size))
          clear hb10 HE
          go_wp2_with fail
          refine (HPU.out _).mono ?_
          rintro e11 w11 ⟨rfl, hb11⟩
          have HB11 := Lib.hid (HB10.out.trans (hb11.mono HB10.out.size))
          clear hb11
          go_wp2_with fail
          refine (HA.out _).mono ?_
          rintro ex wx ⟨rfl, hbx⟩
          have HBX := Lib.hid (HB11.out.trans (hbx.mono HB11.out.size))
          clear hbx
          go_wp2_with fail
          go_ret
          exact ⟨rfl, HBX.out⟩
theorem grows_law (s : ByteArray) (i g f : Int) (A : Option Addr) (n c : Nat) (data : List ByteArray) (w : World) (hrd : Rd w w.heap.size 1 A n (data.map Value.string)) (_hn : n ≤ c) (_hc : c ≤ maxLen) :
    Calls Tryz.prog 4 #[.string s, .agg #[.int .i64 i, .int .i64 g, .int .i64 f], .slice A n c] w fun e w' => e = .returned (.bool true) ∧ Below w.heap.size w w' := by
  by_cases hf : 3000 < s.size ∨ n < 1 ∨ 20 < n
  · exact grows_far s i g f A n c w hf
  · rcases hl : tl s i g f with _ | ⟨L, E⟩
    · exact grows_none s i g f A n c w (by omega) (by omega) (by omega) hl
    · exact grows_some s i g f A n c data L E w hrd (by omega) (by omega) (by omega) hl
end Sn
end Go.Proofs.YtpbphhpldlckbaaGreat
namespace Go.Proofs.YtpbphhpldlckbaaGreat
open Go.RowKit Go.ChangeShapes Go.WideShapes Go.Deep Go.Joins
/-- A struct of three numbers by value, opened. -/
theorem open_head {H : Type} {enc : TypeId × Value → H} {P : Program} {w : World} {base b0 : Nat} {spare : Nat → Bool} {held : Bool} {r : Reach} {t : TypeId} {f0 f1 f2 : Field} {v : Value} {d : DataW H} {p : List MemPlace}
    (hs : P.underlying t = some (.struct #[f0, f1, f2])) (hone : oneCellFields P #[f0, f1, f2] = true) (hC : P.cellsOf t = 3)
    (t0 : P.underlying f0.type = some (.int .i64)) (t1 : P.underlying f1.type = some (.int .i64)) (t2 : P.underlying f2.type = some (.int .i64))
    (hv : Value.okWide P w r b0 t v) (h : DataW.Trod enc P w base spare held t v d p) : ∃ a b c : Int, v = .agg #[.int .i64 a, .int .i64 b, .int .i64 c] := by
  obtain ⟨c0, c1, c2, y0, y1, y2, m, rfl, -, -, h0, h1, h2⟩ := open_agg3 hs hone hC hv h
  obtain ⟨x, e0, -, -⟩ := DataW.trod_int t0 h0
  obtain ⟨y, e1, -, -⟩ := DataW.trod_int t1 h1
  obtain ⟨z, e2, -, -⟩ := DataW.trod_int t2 h2
  simp at e0 e1 e2
  subst e0 e1 e2
  exact ⟨x, y, z, rfl⟩
/-- A slice of texts that came in, nil or not. -/
theorem open_strsl {H : Type} {enc : TypeId × Value → H} {P : Program} {w : World} {base : Nat} {r : Reach} {t e : TypeId} {v : Value} {d : DataW H} {p : List MemPlace}
    (ht : P.underlying t = some (.slice e)) (he : P.underlying e = some .string) (hc : P.cellsOf e = 1)
    (hv : Value.okWide P w r base t v) (h : DataW.Trod enc P w 0 (fun _ => true) true t v d p) (_hlt : ∀ x ∈ p, x.block < w.heap.size) :
    ∃ (A : Option Addr) (n c : Nat) (l : List ByteArray), v = .slice A n c ∧ Rd w w.heap.size 1 A n (l.map Value.string) ∧ n ≤ c ∧ c ≤ maxLen := by
  obtain ⟨a0, len, cap, rfl⟩ := okWide_slice ht hv
  obtain ⟨fuel, hf⟩ := h
  rcases open_strings ht he hc hf with ⟨hcs, -⟩ | ⟨a, len', cap', zs, hcs, _, hl, hm, hz, -, hcell, -⟩
  · simp [Value.cells] at hcs
    obtain ⟨rfl, rfl, rfl⟩ := hcs
    exact ⟨none, 0, 0, [], rfl, Rd.nil, Nat.le_refl _, by simp [maxLen]⟩
  · simp [Value.cells] at hcs
    obtain ⟨rfl, rfl, rfl⟩ := hcs
    simp at hz
    refine ⟨some a, len, cap, zs.take len, rfl, ⟨by simp; omega, fun hn => ⟨a, rfl, ?_, ?_⟩⟩, hl, hm⟩
    · have h0 := World.block_lt_of_cell? w (a.add 0) (hcell 0 (by omega))
      rwa [add_block] at h0
    · intro j u hu
      rw [List.getElem?_map, List.getElem?_take] at hu
      split at hu
      · rename_i hj
        have hjz : j < zs.length := by omega
        rw [List.getElem?_eq_getElem hjz] at hu
        simp at hu
        rw [hcell j hjz, ← hu]
        simp [List.getD, List.getElem?_eq_getElem hjz]
      · simp at hu
end Go.Proofs.YtpbphhpldlckbaaGreat
