/- scan's probes: awake. varveref21.Same, at rows that are the same. ScanPrefix. ScanPrefix, where something is found. A header by value as it comes in. -/
import Derived.Test.YtpbphhpldlckbaaGreatSc42
import Derived.Deep.Cut
import Derived.Test.YtpbphhpldlckbaaGreatSc02
import Derived.Deep.LoopGhost
import Derived.Deep.RegionHeld3
import Derived.Test.YtpbphhpldlckbaaGreatSc01
import Derived.Lib.SmallJoins
namespace Go.Proofs.YtpbphhpldlckbaaGreat
namespace Sn
open Go.RowKit Hd Fm Bk Vi Rd

set_option maxHeartbeats 6400000 in
set_option maxRecDepth 100000 in
theorem sawake_any (w : World) : Calls Tryz.prog 5 #[] w fun e w' => e = .returned (.bool true) ∧ Below w.heap.size w w' := by
  have mixed : Tryz.prog.follows .mixedOrders = true := by kernel_rfl
  have HONE := Lib.hid (one_any w)
  have HTX := Lib.hid (fun w => tail_x w)
  have HS0 := Lib.hid (fun w => sealed_0 w)
  have HS1 := Lib.hid (fun w => sealed_1 w)
  have HTE := Lib.hid (fun w => tail_e w)
  have HLD := Lib.hid (fun w => load_0 w)
  unfold magg at HLD
  have HFT := Lib.hid (fun A c w hr => foot_any A 1 c [mt0] w hr (by omega) (by decide))
  have HP3 := Lib.hid (fun w => fput_3 (ftB [mt0]) w ft_size)
  have H1 := Lib.hid (show s0 ++ frB 3 (ftB [mt0]) = s1 from rfl)
  have hov1 : ¬ 9223372036854775807 < s0.size + 1 := by rw [s0_size]; decide
  have hov2 : ¬ 9223372036854775807 < s0.size + (frB 3 (ftB [mt0])).size := by
    have := ft_size
    rw [s0_size, size_frB]; omega
  have hz : s0.size = 32 := s0_size
  generalize frB 3 (ftB [mt0]) = U at *
  generalize ftB [mt0] = T at *
  generalize s1 = S1 at *
  generalize s0 = S0 at *
  go_enter Tryz.func5, Tryz.ntmps5
  go_wp2_with fail
  refine HONE.out.mono ?_
  rintro e1 w1 ⟨rfl, hb1⟩
  have HB1 := Lib.hid (hb1.trans ((ext_alloc w1 (.cells #[.int .i64 1, .int .i64 1, .int .i64 1] 23)).mono hb1.size))
  have HH1 := Lib.hid (Blk.new w1 #[.int .i64 1, .int .i64 1, .int .i64 1] 23)
  clear hb1 HONE
  go_upto_region 2 with (fail)
  generalize w1.alloc (.cells #[.int .i64 1, .int .i64 1, .int .i64 1] 23) = w2 at *
  have k0 := HH1.out.cell 0 rfl
  have k1 := HH1.out.cell 1 rfl
  have k2 := HH1.out.cell 2 rfl
  go_wp2_with fail
  refine (HTX.out _).mono ?_
  rintro e3 w3 ⟨⟨A, c, rfl, hr3⟩, hb3⟩
  have HB3 := Lib.hid (HB1.out.trans (hb3.mono HB1.out.size))
  have HH3 := Lib.hid (HH1.out.ext hb3)
  have HR3 := Lib.hid hr3
  clear hb3 hr3 k0 k1 k2 HTX
  have k0 := HH3.out.cell 0 rfl
  have k1 := HH3.out.cell 1 rfl
  have k2 := HH3.out.cell 2 rfl
  go_wp2_with fail
  refine (HS0.out _).mono ?_
  rintro e4 w4 ⟨rfl, hb4⟩
  have HB4 := Lib.hid (HB3.out.trans (hb4.mono HB3.out.size))
  have HH4 := Lib.hid (HH3.out.ext hb4)
  have HR4 := Lib.hid (HR3.out.ext hb4)
  clear hb4 k0 k1 k2 HS0
  go_wp2_with fail
  refine (HFT.out A c _ HR4.out).mono ?_
  rintro e5 w5 ⟨rfl, hb5⟩
  have HB5 := Lib.hid (HB4.out.trans (hb5.mono HB4.out.size))
  have HH5 := Lib.hid (HH4.out.ext hb5)
  have HR5 := Lib.hid (HR4.out.ext hb5)
  clear hb5 HFT
  go_wp2_with fail
  refine (HP3.out _).mono ?_
  rintro e6 w6 ⟨rfl, hb6⟩
  have HB6 := Lib.hid (HB5.out.trans (hb6.mono HB5.out.size))
  have HH6 := Lib.hid (HH5.out.ext hb6)
  have HR6 := Lib.hid (HR5.out.ext hb6)
  clear hb6 HP3
  have k0 := HH6.out.cell 0 rfl
  have k1 := HH6.out.cell 1 rfl
  have k2 := HH6.out.cell 2 rfl
  go_wp2_with fail
  rw [H1.out]
  refine (HS1.out _).mono ?_
  rintro e7 w7 ⟨⟨A7, c7, rfl⟩, hb7⟩
  have HB7 := Lib.hid (HB6.out.trans (hb7.mono HB6.out.size))
  have HH7 := Lib.hid (HH6.out.ext hb7)
  have HR7 := Lib.hid (HR6.out.ext hb7)
  clear hb7 HS1 k0 k1 k2
  obtain ⟨ad, m, hA, hbk, hx, c0, c1, c2, c3, c4, c5, c6⟩ := mt_at (k := 0) HR7.out (by omega)
  obtain rfl : mt0 = m := Option.some.inj hx
  rw [Nat.zero_mul, add0] at c0 c1 c2 c3 c4 c5 c6
  subst hA
  have HC7 := Lib.hid (And.intro c0 (And.intro c1 (And.intro c2 (And.intro c3 (And.intro c4 (And.intro c5 (And.intro c6 hbk)))))))
  unfold mt0 at c0 c1 c2 c3 c4 c5 c6 HC7
  dsimp only at c0 c1 c2 c3 c4 c5 c6 HC7
  clear hx hbk
  go_wp2_with fail
  refine (HLD.out _).mono ?_
  rintro e8 w8 ⟨⟨A8, c8, rfl, hr8⟩, hb8⟩
  have HB8 := Lib.hid (HB7.out.trans (hb8.mono HB7.out.size))
  have HH8 := Lib.hid (HH7.out.ext hb8)
  have HBK := Lib.hid (Nat.lt_of_lt_of_le HC7.out.2.2.2.2.2.2.2 hb8.size)
  have HC8 := Lib.hid (And.intro ((hb8.cell HC7.out.2.2.2.2.2.2.2).trans HC7.out.1) (And.intro ((hb8.cell (p := ⟨ad.block, ad.off + 1, none⟩) HC7.out.2.2.2.2.2.2.2).trans HC7.out.2.1) (And.intro ((hb8.cell (p := ⟨ad.block, ad.off + 2, none⟩) HC7.out.2.2.2.2.2.2.2).trans HC7.out.2.2.1) (And.intro ((hb8.cell (p := ⟨ad.block, ad.off + 3, none⟩) HC7.out.2.2.2.2.2.2.2).trans HC7.out.2.2.2.1)
    (And.intro ((hb8.cell (p := ⟨ad.block, ad.off + 4, none⟩) HC7.out.2.2.2.2.2.2.2).trans HC7.out.2.2.2.2.1) (And.intro ((hb8.cell (p := ⟨ad.block, ad.off + 5, none⟩) HC7.out.2.2.2.2.2.2.2).trans HC7.out.2.2.2.2.2.1) ((hb8.cell (p := ⟨ad.block, ad.off + 6, none⟩) HC7.out.2.2.2.2.2.2.2).trans HC7.out.2.2.2.2.2.2.1)))))))
  have HR8 := Lib.hid hr8
  clear hb8 hr8 HLD c0 c1 c2 c3 c4 c5 c6
  have k0 := HH8.out.cell 0 rfl
  have k1 := HH8.out.cell 1 rfl
  have k2 := HH8.out.cell 2 rfl
  go_wp2_with fail
  refine (HTE.out _).mono ?_
  rintro e9 w9 ⟨rfl, hb9⟩
  have HB9 := Lib.hid (HB8.out.trans (hb9.mono HB8.out.size))
  have hc0 := (hb9.cell HBK.out).trans HC8.out.1
  have hc1 := (hb9.cell (p := ⟨ad.block, ad.off + 1, none⟩) HBK.out).trans HC8.out.2.1
  have hc2 := (hb9.cell (p := ⟨ad.block, ad.off + 2, none⟩) HBK.out).trans HC8.out.2.2.1
  have hc3 := (hb9.cell (p := ⟨ad.block, ad.off + 3, none⟩) HBK.out).trans HC8.out.2.2.2.1
  have hc4 := (hb9.cell (p := ⟨ad.block, ad.off + 4, none⟩) HBK.out).trans HC8.out.2.2.2.2.1
  have hc5 := (hb9.cell (p := ⟨ad.block, ad.off + 5, none⟩) HBK.out).trans HC8.out.2.2.2.2.2.1
  have hc6 := (hb9.cell (p := ⟨ad.block, ad.off + 6, none⟩) HBK.out).trans HC8.out.2.2.2.2.2.2
  obtain ⟨a8, q, t, d, hA8, -, hx8, -, -, hd8⟩ := rec3 (k := 0) (HR8.out.ext hb9) (by omega)
  have he8 := Option.some.inj hx8
  cases he8
  rw [Nat.zero_mul, add0] at hd8
  subst hA8
  clear hb9 hx8 HTE k0 k1 k2
  unfold hi at hd8
  go_wp2_with fail
  go_ret
  exact ⟨rfl, HB9.out⟩
end Sn
end Go.Proofs.YtpbphhpldlckbaaGreat
namespace Go.Proofs.YtpbphhpldlckbaaGreat
namespace Sn
open Go.RowKit Hd Bk

set_option maxHeartbeats 3200000 in
set_option maxRecDepth 100000 in
theorem same_mt (A A' : Option Addr) (n c c' : Nat) (l : List Mt) (w : World) (h1 : Rd w w.heap.size 7 A n (fl7 l)) (h2 : Rd w w.heap.size 7 A' n (fl7 l)) (hn : n ≤ 1000000) :
    Calls Tryz.prog 7 #[.slice A n c, .slice A' n c'] w fun e w' => e = .returned (.bool true) ∧ Below w.heap.size w w' := by
  have mixed : Tryz.prog.follows .mixedOrders = true := by kernel_rfl
  have HR1 := Lib.hid h1
  have HR2 := Lib.hid h2
  have hb0 := (show ((n : Int) != (n : Int)) = false by simp)
  clear h1 h2
  go_enter Tryz.func7, Tryz.ntmps7
  go_wp2_with fail
  go_loopw [5] (fun v wr => ∃ k : Nat, v = .int .i64 k ∧ k ≤ n ∧ Hid (Below w.heap.size w wr)) (fun v _ => n - (intOf v).toNat)
  case atStart => exact ⟨0, by go_num, by omega, Lib.hid (Below.refl _ _)⟩
  case round =>
    obtain ⟨k, rfl, hk, HX⟩ := hrel
    by_cases hkn : k < n
    · obtain ⟨ad, m, rfl, hbk, hx, c0, c1, c2, c3, c4, c5, c6⟩ := mt_at (HR1.out.below HX.out) hkn
      obtain ⟨ad', m', rfl, hbk', hx', d0, d1, d2, d3, d4, d5, d6⟩ := mt_at (HR2.out.below HX.out) hkn
      obtain rfl : m = m' := by rw [hx] at hx'; exact Option.some.inj hx'
      clear hx hx'
      obtain ⟨ma, ms, mr, mc, mf, me, ml⟩ := m
      dsimp only at *
      go_wp2_with fail
      go_quiet (fail)
      have HP := Lib.hid (HX.out.trans (ext_drewN wr nq |>.mono HX.out.size))
      go_wp2_with fail
      go_roundw
      case rel => exact ⟨k + 1, by go_num, by omega, HP⟩
      case measure => simp [intOf]; omega
    · obtain rfl : k = n := by omega
      have HB := HX
      go_wp2_with fail
      go_ret
      exact ⟨rfl, HB.out⟩
end Sn
end Go.Proofs.YtpbphhpldlckbaaGreat
namespace Go.Proofs.YtpbphhpldlckbaaGreat
namespace Sn
open Go.RowKit Hd Fm Bk

theorem rd_take7 {w : World} {B n k : Nat} {A : Option Addr} {l : List Mt} (h : Rd w B 7 A n (fl7 l)) (hk : k ≤ n) : Rd w B 7 A k (fl7 (l.take k)) := by
  have h2 := h.take hk
  have e : (fl7 l).take (k * 7) = fl7 (l.take k) := by
    have hl := mt_len h
    have := fl7_append (l.take k) (l.drop k)
    rw [List.take_append_drop] at this
    rw [this, List.take_append_of_le_length (by rw [length_fl7, List.length_take]; omega), List.take_of_length_le (by rw [length_fl7, List.length_take]; omega)]
  rwa [e] at h2
set_option maxHeartbeats 6400000 in
set_option maxRecDepth 100000 in
theorem prefix_far (s : ByteArray) (i g f cut : Int) (w : World) (h : 3000 < s.size ∨ cut < 0 ∨ (s.size : Int) < cut) :
    Calls Tryz.prog 3 #[.string s, .agg #[.int .i64 i, .int .i64 g, .int .i64 f], .int .i64 cut] w fun e w' => e = .returned (.bool true) ∧ Below w.heap.size w w' := by
  have mixed : Tryz.prog.follows .mixedOrders = true := by kernel_rfl
  have HA := Lib.hid (fun w => sawake_any w)
  have HB := Lib.hid (ext_alloc w (.cells #[.int .i64 i, .int .i64 g, .int .i64 f] 23))
  by_cases h1 : (3000 : Int) < (s.size : Int)
  · clear h
    go_enter Tryz.func3, Tryz.ntmps3
    go_wp2_with fail
    refine (HA.out _).mono ?_
    rintro e1 w1 ⟨rfl, hb1⟩
    have HB1 := Lib.hid (HB.out.trans (hb1.mono HB.out.size))
    clear hb1
    go_wp2_with fail
    go_ret
    exact ⟨rfl, HB1.out⟩
  · by_cases h2 : cut < 0
    · clear h
      go_enter Tryz.func3, Tryz.ntmps3
      go_wp2_with fail
      refine (HA.out _).mono ?_
      rintro e1 w1 ⟨rfl, hb1⟩
      have HB1 := Lib.hid (HB.out.trans (hb1.mono HB.out.size))
      clear hb1
      go_wp2_with fail
      go_ret
      exact ⟨rfl, HB1.out⟩
    · have h3 : (s.size : Int) < cut := by omega
      clear h
      go_enter Tryz.func3, Tryz.ntmps3
      go_wp2_with fail
      refine (HA.out _).mono ?_
      rintro e1 w1 ⟨rfl, hb1⟩
      have HB1 := Lib.hid (HB.out.trans (hb1.mono HB.out.size))
      clear hb1
      go_wp2_with fail
      go_ret
      exact ⟨rfl, HB1.out⟩
set_option maxHeartbeats 6400000 in
set_option maxRecDepth 100000 in
theorem prefix_none (s : ByteArray) (i g f : Int) (c : Nat) (w : World) (hs : s.size ≤ 3000) (hc : c ≤ s.size) (h : tl s i g f = none) :
    Calls Tryz.prog 3 #[.string s, .agg #[.int .i64 i, .int .i64 g, .int .i64 f], .int .i64 (c : Int)] w fun e w' => e = .returned (.bool true) ∧ Below w.heap.size w w' := by
  have mixed : Tryz.prog.follows .mixedOrders = true := by kernel_rfl
  have HA := Lib.hid (fun w => sawake_any w)
  have HB := Lib.hid (ext_alloc w (.cells #[.int .i64 i, .int .i64 g, .int .i64 f] 23))
  have HH := Lib.hid (Blk.new w #[.int .i64 i, .int .i64 g, .int .i64 f] 23)
  have HT := Lib.hid (fun w => tail_none h w (by omega))
  have HTC := Lib.hid (fun w => tail_none (cut_none h hc) w (by rw [size_cut hc]; omega))
  have h1 : ¬ (3000 : Int) < (s.size : Int) := by omega
  have h3 : ¬ (s.size : Int) < (c : Int) := by omega
  have h4 : (0 : Int) ≤ (c : Int) := by omega
  have h5 : (c : Int) ≤ (s.size : Int) := by omega
  clear h
  go_enter Tryz.func3, Tryz.ntmps3
  go_wp2_with fail
  have k0 := HH.out.cell 0 rfl
  have k1 := HH.out.cell 1 rfl
  have k2 := HH.out.cell 2 rfl
  generalize w.alloc (.cells #[.int .i64 i, .int .i64 g, .int .i64 f] 23) = w0 at *
  refine (HT.out _).mono ?_
  rintro e1 w1 ⟨rfl, hb1⟩
  have HB1 := Lib.hid (HB.out.trans (hb1.mono HB.out.size))
  have HH1 := Lib.hid (HH.out.ext hb1)
  clear hb1 k0 k1 k2
  go_wp2_with fail
  have HSO := Lib.hid (show ∀ wx, Below w1.heap.size w1 wx → wx.cell? ⟨w.heap.size, 0, none⟩ = some (.int .i64 i) ∧ wx.cell? ⟨w.heap.size, 1, none⟩ = some (.int .i64 g) ∧ wx.cell? ⟨w.heap.size, 2, none⟩ = some (.int .i64 f) from fun wx hb => ⟨(HH1.out.ext hb).cell 0 rfl, (HH1.out.ext hb).cell 1 rfl, (HH1.out.ext hb).cell 2 rfl⟩)
  have HS := Lib.hid (And.intro (HH1.out.cell 0 rfl) (And.intro (HH1.out.cell 1 rfl) (HH1.out.cell 2 rfl)))
  go_region_held3 (fun wx => wx.cell? ⟨w.heap.size, 0, none⟩ = some (.int .i64 i) ∧ wx.cell? ⟨w.heap.size, 1, none⟩ = some (.int .i64 g) ∧ wx.cell? ⟨w.heap.size, 2, none⟩ = some (.int .i64 f)) (first | exact HS.out | exact hs2) (first
    | (go_at_call 6; refine (HTC.out _).mono ?_; rintro e2 w2 ⟨rfl, hb2⟩; have hs2 := HSO.out _ (ext_trans (ext_drew w1) hb2); have HB2 := Lib.hid (HB1.out.trans ((ext_trans (ext_drew w1) hb2).mono HB1.out.size))))
  clear hb2 hs2
  go_wp2_with fail
  refine (HA.out _).mono ?_
  rintro e3 w3 ⟨rfl, hb3⟩
  have HB3 := Lib.hid (HB2.out.trans (hb3.mono HB2.out.size))
  clear hb3
  go_wp2_with fail
  go_ret
  exact ⟨rfl, HB3.out⟩
end Sn
end Go.Proofs.YtpbphhpldlckbaaGreat
namespace Go.Proofs.YtpbphhpldlckbaaGreat
namespace Sn
open Go.RowKit Hd Fm Bk

set_option maxHeartbeats 6400000 in
set_option maxRecDepth 100000 in
theorem prefix_short (s : ByteArray) (i g f : Int) (c : Nat) (L : List Mt) (E : Nat) (w : World) (hs : s.size ≤ 3000) (hc : c ≤ s.size) (h : tl s i g f = some (L, E)) (hn' : tl (s.extract 0 c) i g f = none) (hcE : c < E) :
    Calls Tryz.prog 3 #[.string s, .agg #[.int .i64 i, .int .i64 g, .int .i64 f], .int .i64 (c : Int)] w fun e w' => e = .returned (.bool true) ∧ Below w.heap.size w w' := by
  have mixed : Tryz.prog.follows .mixedOrders = true := by kernel_rfl
  have HA := Lib.hid (fun w => sawake_any w)
  have HB := Lib.hid (ext_alloc w (.cells #[.int .i64 i, .int .i64 g, .int .i64 f] 23))
  have HH := Lib.hid (Blk.new w #[.int .i64 i, .int .i64 g, .int .i64 f] 23)
  obtain ⟨hE, hL, hend⟩ := cut_end h
  have HT := Lib.hid (fun w => tail_some h w (by omega))
  have HTE := Lib.hid (fun w => tail_some hend w (by rw [size_cut hE]; omega))
  have HTC := Lib.hid (fun w => tail_none hn' w (by rw [size_cut hc]; omega))
  obtain ⟨n, hn⟩ : ∃ n, L.length = n := ⟨_, rfl⟩
  rw [hn] at HT HTE hL
  have HN := Lib.hid hn
  have h1 : ¬ (3000 : Int) < (s.size : Int) := by omega
  have h3 : ¬ (s.size : Int) < (c : Int) := by omega
  have h4 : (0 : Int) ≤ (c : Int) := by omega
  have h5 : (c : Int) ≤ (s.size : Int) := by omega
  have h6 : ¬ (s.size : Int) < (E : Int) := by omega
  have h7 : (0 : Int) ≤ (E : Int) := by omega
  have h8 : (E : Int) ≤ (s.size : Int) := by omega
  have h9 : (E != E) = false := by simp
  have h10 : decide (c < E) = true := decide_eq_true hcE
  clear h hend hn hn' hcE
  go_enter Tryz.func3, Tryz.ntmps3
  go_wp2_with fail
  have k0 := HH.out.cell 0 rfl
  have k1 := HH.out.cell 1 rfl
  have k2 := HH.out.cell 2 rfl
  generalize w.alloc (.cells #[.int .i64 i, .int .i64 g, .int .i64 f] 23) = w0 at *
  refine (HT.out _).mono ?_
  rintro e1 w1 ⟨⟨A1, c1, rfl, hc1, hr1⟩, hb1⟩
  have HB1 := Lib.hid (HB.out.trans (hb1.mono HB.out.size))
  have HH1 := Lib.hid (HH.out.ext hb1)
  have HR1 := Lib.hid hr1
  clear hb1 hr1 k0 k1 k2
  go_wp2_with fail
  have HSO := Lib.hid (show ∀ wx, Below w1.heap.size w1 wx → wx.cell? ⟨w.heap.size, 0, none⟩ = some (.int .i64 i) ∧ wx.cell? ⟨w.heap.size, 1, none⟩ = some (.int .i64 g) ∧ wx.cell? ⟨w.heap.size, 2, none⟩ = some (.int .i64 f) from fun wx hb => ⟨(HH1.out.ext hb).cell 0 rfl, (HH1.out.ext hb).cell 1 rfl, (HH1.out.ext hb).cell 2 rfl⟩)
  have HS := Lib.hid (HSO.out _ (ext_drew w1))
  go_region_held3 (fun wx => wx.cell? ⟨w.heap.size, 0, none⟩ = some (.int .i64 i) ∧ wx.cell? ⟨w.heap.size, 1, none⟩ = some (.int .i64 g) ∧ wx.cell? ⟨w.heap.size, 2, none⟩ = some (.int .i64 f)) (first | exact HS.out | exact hs2) (first
    | (go_at_call 6; refine (HTC.out _).mono ?_; rintro e2 w2 ⟨rfl, hb2⟩; have hs2 := HSO.out _ (ext_trans (ext_drew w1) hb2); have HX2 := Lib.hid (ext_trans (ext_drew w1) hb2)))
  have HB2 := Lib.hid (HB1.out.trans (HX2.out.mono HB1.out.size))
  have HH2 := Lib.hid (HH1.out.ext HX2.out)
  have HR2 := Lib.hid (HR1.out.ext HX2.out)
  clear hb2 hs2 HSO HS
  go_wp2_with fail
  have HSO := Lib.hid (show ∀ wx, Below w2.heap.size w2 wx → wx.cell? ⟨w.heap.size, 0, none⟩ = some (.int .i64 i) ∧ wx.cell? ⟨w.heap.size, 1, none⟩ = some (.int .i64 g) ∧ wx.cell? ⟨w.heap.size, 2, none⟩ = some (.int .i64 f) from fun wx hb => ⟨(HH2.out.ext hb).cell 0 rfl, (HH2.out.ext hb).cell 1 rfl, (HH2.out.ext hb).cell 2 rfl⟩)
  have HS := Lib.hid (HSO.out _ (ext_drew w2))
  go_region_held3 (fun wx => wx.cell? ⟨w.heap.size, 0, none⟩ = some (.int .i64 i) ∧ wx.cell? ⟨w.heap.size, 1, none⟩ = some (.int .i64 g) ∧ wx.cell? ⟨w.heap.size, 2, none⟩ = some (.int .i64 f)) (first | exact HS.out | exact hs3) (first
    | (go_at_call 6; refine (HTE.out _).mono ?_; rintro e3 w3 ⟨⟨A3, c3, rfl, hc3, hr3⟩, hb3⟩; have hs3 := HSO.out _ (ext_trans (ext_drew w2) hb3); have HX3 := Lib.hid (ext_trans (ext_drew w2) hb3)))
  have HR3 := Lib.hid hr3
  have HB3 := Lib.hid (HB2.out.trans (HX3.out.mono HB2.out.size))
  have HRA := Lib.hid (HR2.out.ext HX3.out)
  have HSM := Lib.hid (same_mt A3 A1 n c3 c1 L w3 HR3.out HRA.out (by omega))
  clear hr3 hb3 hs3 HSO HS
  go_wp2_with fail
  refine HSM.out.mono ?_
  rintro e4 w4 ⟨rfl, hb4⟩
  have HB4 := Lib.hid (HB3.out.trans (hb4.mono HB3.out.size))
  clear hb4 HSM
  go_wp2_with fail
  refine (HA.out _).mono ?_
  rintro e5 w5 ⟨rfl, hb5⟩
  have HB5 := Lib.hid (HB4.out.trans (hb5.mono HB4.out.size))
  clear hb5
  go_wp2_with fail
  go_ret
  exact ⟨rfl, HB5.out⟩
set_option maxHeartbeats 6400000 in
set_option maxRecDepth 100000 in
theorem prefix_long (s : ByteArray) (i g f : Int) (c : Nat) (L : List Mt) (E : Nat) (L' l2 : List Mt) (E' : Nat) (w : World) (hs : s.size ≤ 3000) (hc : c ≤ s.size) (h : tl s i g f = some (L, E)) (h' : tl (s.extract 0 c) i g f = some (L', E')) (hl2 : L = L' ++ l2) (hE1 : E' ≤ E) (hE2 : E' ≤ c) (hcE : E ≤ c → l2 = [] ∧ E' = E) :
    Calls Tryz.prog 3 #[.string s, .agg #[.int .i64 i, .int .i64 g, .int .i64 f], .int .i64 (c : Int)] w fun e w' => e = .returned (.bool true) ∧ Below w.heap.size w w' := by
  have mixed : Tryz.prog.follows .mixedOrders = true := by kernel_rfl
  have HA := Lib.hid (fun w => sawake_any w)
  have HB := Lib.hid (ext_alloc w (.cells #[.int .i64 i, .int .i64 g, .int .i64 f] 23))
  have HH := Lib.hid (Blk.new w #[.int .i64 i, .int .i64 g, .int .i64 f] 23)
  obtain ⟨hE, hL, hend⟩ := cut_end h
  have HT := Lib.hid (fun w => tail_some h w (by omega))
  have HTE := Lib.hid (fun w => tail_some hend w (by rw [size_cut hE]; omega))
  have HTC := Lib.hid (fun w => tail_some h' w (by rw [size_cut hc]; omega))
  have hm2 : L'.length ≤ L.length := by rw [hl2, List.length_append]; omega
  have htk : L.take L'.length = L' := by rw [hl2, List.take_append_of_le_length (Nat.le_refl _), List.take_length]
  have hlast : c < E ∨ L'.length = L.length := by
    rcases Nat.lt_or_ge c E with h | h
    · exact .inl h
    · obtain ⟨rfl, -⟩ := hcE h
      rw [hl2, List.append_nil]; exact .inr rfl
  obtain ⟨n, hn⟩ : ∃ n, L.length = n := ⟨_, rfl⟩
  rw [hn] at HT HTE hL
  have HN := Lib.hid hn
  have h1 : ¬ (3000 : Int) < (s.size : Int) := by omega
  have h3 : ¬ (s.size : Int) < (c : Int) := by omega
  have h4 : (0 : Int) ≤ (c : Int) := by omega
  have h5 : (c : Int) ≤ (s.size : Int) := by omega
  have h6 : ¬ (s.size : Int) < (E : Int) := by omega
  have h7 : (0 : Int) ≤ (E : Int) := by omega
  have h8 : (E : Int) ≤ (s.size : Int) := by omega
  have h9 : (E != E) = false := by simp
  obtain ⟨m, hm⟩ : ∃ m, L'.length = m := ⟨_, rfl⟩
  rw [hm] at HTC htk hlast hm2
  rw [HN.out] at hm2 hlast
  have HTK := Lib.hid htk
  have h10 : decide (m ≤ n) = true := decide_eq_true hm2
  have h11 : decide (E' ≤ c) = true := decide_eq_true hE2
  have h12 : decide (E' ≤ E) = true := decide_eq_true hE1
  have h13 : (0 : Int) ≤ (m : Int) := by omega
  clear h hend hn h' hl2 hE1 hE2 hcE htk
  go_enter Tryz.func3, Tryz.ntmps3
  go_wp2_with fail
  have k0 := HH.out.cell 0 rfl
  have k1 := HH.out.cell 1 rfl
  have k2 := HH.out.cell 2 rfl
  generalize w.alloc (.cells #[.int .i64 i, .int .i64 g, .int .i64 f] 23) = w0 at *
  refine (HT.out _).mono ?_
  rintro e1 w1 ⟨⟨A1, c1, rfl, hc1, hr1⟩, hb1⟩
  have HB1 := Lib.hid (HB.out.trans (hb1.mono HB.out.size))
  have HH1 := Lib.hid (HH.out.ext hb1)
  have HR1 := Lib.hid hr1
  clear hb1 hr1 k0 k1 k2
  go_wp2_with fail
  have HSO := Lib.hid (show ∀ wx, Below w1.heap.size w1 wx → wx.cell? ⟨w.heap.size, 0, none⟩ = some (.int .i64 i) ∧ wx.cell? ⟨w.heap.size, 1, none⟩ = some (.int .i64 g) ∧ wx.cell? ⟨w.heap.size, 2, none⟩ = some (.int .i64 f) from fun wx hb => ⟨(HH1.out.ext hb).cell 0 rfl, (HH1.out.ext hb).cell 1 rfl, (HH1.out.ext hb).cell 2 rfl⟩)
  have HS := Lib.hid (HSO.out _ (ext_drew w1))
  go_region_held3 (fun wx => wx.cell? ⟨w.heap.size, 0, none⟩ = some (.int .i64 i) ∧ wx.cell? ⟨w.heap.size, 1, none⟩ = some (.int .i64 g) ∧ wx.cell? ⟨w.heap.size, 2, none⟩ = some (.int .i64 f)) (first | exact HS.out | exact hs2) (first
    | (go_at_call 6; refine (HTC.out _).mono ?_; rintro e2 w2 ⟨⟨A2, c2, rfl, hc2, hr2⟩, hb2⟩; have hs2 := HSO.out _ (ext_trans (ext_drew w1) hb2); have HX2 := Lib.hid (ext_trans (ext_drew w1) hb2)))
  have HRS := Lib.hid hr2
  clear hr2
  have HB2 := Lib.hid (HB1.out.trans (HX2.out.mono HB1.out.size))
  have HH2 := Lib.hid (HH1.out.ext HX2.out)
  have HR2 := Lib.hid (HR1.out.ext HX2.out)
  clear hb2 hs2 HSO HS
  go_wp2_with fail
  have HSO := Lib.hid (show ∀ wx, Below w2.heap.size w2 wx → wx.cell? ⟨w.heap.size, 0, none⟩ = some (.int .i64 i) ∧ wx.cell? ⟨w.heap.size, 1, none⟩ = some (.int .i64 g) ∧ wx.cell? ⟨w.heap.size, 2, none⟩ = some (.int .i64 f) from fun wx hb => ⟨(HH2.out.ext hb).cell 0 rfl, (HH2.out.ext hb).cell 1 rfl, (HH2.out.ext hb).cell 2 rfl⟩)
  have HS := Lib.hid (HSO.out _ (ext_drew w2))
  go_region_held3 (fun wx => wx.cell? ⟨w.heap.size, 0, none⟩ = some (.int .i64 i) ∧ wx.cell? ⟨w.heap.size, 1, none⟩ = some (.int .i64 g) ∧ wx.cell? ⟨w.heap.size, 2, none⟩ = some (.int .i64 f)) (first | exact HS.out | exact hs3) (first
    | (go_at_call 6; refine (HTE.out _).mono ?_; rintro e3 w3 ⟨⟨A3, c3, rfl, hc3, hr3⟩, hb3⟩; have hs3 := HSO.out _ (ext_trans (ext_drew w2) hb3); have HX3 := Lib.hid (ext_trans (ext_drew w2) hb3)))
  have HR3 := Lib.hid hr3
  have HB3 := Lib.hid (HB2.out.trans (HX3.out.mono HB2.out.size))
  have HRA := Lib.hid (HR2.out.ext HX3.out)
  have HRS3 := Lib.hid (HRS.out.ext HX3.out)
  have HSM := Lib.hid (same_mt A3 A1 n c3 c1 L w3 HR3.out HRA.out (by omega))
  clear hr3 hb3 hs3 HSO HS
  go_wp2_with fail
  refine HSM.out.mono ?_
  rintro e4 w4 ⟨rfl, hb4⟩
  have HB4 := Lib.hid (HB3.out.trans (hb4.mono HB3.out.size))
  have HRS4 := Lib.hid (HRS3.out.ext hb4)
  have HRA4 := Lib.hid (HRA.out.ext hb4)
  clear hb4 HSM
  have HSL := Lib.hid (rd_take7 HRA4.out hm2)
  rw [HTK.out] at HSL
  have HSM2 := Lib.hid (fun cc => same_mt A2 A1 m c2 cc L' w4 HRS4.out HSL.out (by omega))
  have h14 : (m : Int) ≤ (c1 : Int) := by omega
  go_wp2_with fail
  refine (HSM2.out _).mono ?_
  rintro e6 w6 ⟨rfl, hb6⟩
  have HB6 := Lib.hid (HB4.out.trans (hb6.mono HB4.out.size))
  clear hb6
  by_cases hcE : c < E
  · have h15 : decide (c < E) = true := decide_eq_true hcE
    go_wp2_with fail
    refine (HA.out _).mono ?_
    rintro e5 w5 ⟨rfl, hb5⟩
    have HB5 := Lib.hid (HB6.out.trans (hb5.mono HB6.out.size))
    clear hb5
    go_wp2_with fail
    go_ret
    exact ⟨rfl, HB5.out⟩
  · have h15 : decide (c < E) = false := decide_eq_false hcE
    have h16 : m = n := by omega
    subst h16
    have h17 : (m == m) = true := by simp
    go_wp2_with fail
    refine (HA.out _).mono ?_
    rintro e5 w5 ⟨rfl, hb5⟩
    have HB5 := Lib.hid (HB6.out.trans (hb5.mono HB6.out.size))
    clear hb5
    go_wp2_with fail
    go_ret
    exact ⟨rfl, HB5.out⟩
theorem prefix_law (s : ByteArray) (i g f cut : Int) (w : World) :
    Calls Tryz.prog 3 #[.string s, .agg #[.int .i64 i, .int .i64 g, .int .i64 f], .int .i64 cut] w fun e w' => e = .returned (.bool true) ∧ Below w.heap.size w w' := by
  by_cases hf : 3000 < s.size ∨ cut < 0 ∨ (s.size : Int) < cut
  · exact prefix_far s i g f cut w hf
  · obtain ⟨c, rfl⟩ : ∃ c : Nat, cut = c := ⟨cut.toNat, by omega⟩
    rcases hl : tl s i g f with _ | ⟨L, E⟩
    · exact prefix_none s i g f c w (by omega) (by omega) hl
    · rcases cut_some hl (c := c) (by omega) with ⟨h1, h2⟩ | ⟨L', E', l2, h1, h2, h3, h4, h5⟩
      · exact prefix_short s i g f c L E w (by omega) (by omega) hl h1 h2
      · exact prefix_long s i g f c L E L' l2 E' w (by omega) (by omega) hl h1 h2 h3 h4 h5
end Sn
end Go.Proofs.YtpbphhpldlckbaaGreat
namespace Go.Proofs.YtpbphhpldlckbaaGreat
open Go.RowKit Go.ChangeShapes Go.WideShapes Go.Deep Go.Joins
/-- A struct of three numbers by value, opened. -/
theorem open_head {H : Type} {enc : TypeId × Value → H} {P : Program} {w : World} {base b0 : Nat} {spare : Nat → Bool} {held : Bool} {r : Reach} {t : TypeId} {f0 f1 f2 : Field} {v : Value} {d : DataW H} {p : List MemPlace}
    (hs : P.underlying t = some (.struct #[f0, f1, f2])) (hone : oneCellFields P #[f0, f1, f2] = true) (hC : P.cellsOf t = 3)
    (t0 : P.underlying f0.type = some (.int .i64)) (t1 : P.underlying f1.type = some (.int .i64)) (t2 : P.underlying f2.type = some (.int .i64))
    (hv : Value.okWide P w r b0 t v) (h : DataW.Trod enc P w base spare held t v d p) : ∃ a b c : Int, v = .agg #[.int .i64 a, .int .i64 b, .int .i64 c] := by
  obtain ⟨c0, c1, c2, y0, y1, y2, m, rfl, -, -, h0, h1, h2⟩ := open_agg3 hs hone hC hv h
  obtain ⟨x, e0, -, -⟩ := DataW.trod_int t0 h0
  obtain ⟨y, e1, -, -⟩ := DataW.trod_int t1 h1
  obtain ⟨z, e2, -, -⟩ := DataW.trod_int t2 h2
  simp at e0 e1 e2
  subst e0 e1 e2
  exact ⟨x, y, z, rfl⟩
end Go.Proofs.YtpbphhpldlckbaaGreat
