/- ScanPrefix, where something is found. A header by value as it comes in. -/
import Derived.Test.YtpbphhpldlckbaaGreatSc52
import Derived.Test.YtpbphhpldlckbaaGreatSc01
import Derived.Test.YtpbphhpldlckbaaGreatSc02
import Derived.Lib.SmallJoins
import Derived.SliceStrings
namespace Go.Proofs.YtpbphhpldlckbaaGreat
namespace Sn
open Go.RowKit Hd Fm Bk

set_option maxHeartbeats 6400000 in
set_option maxRecDepth 100000 in
theorem prefix_short (s : ByteArray) (i g f : Int) (c : Nat) (L : List Mt) (E : Nat) (w : World) (hs : s.size ≤ 3000) (hc : c ≤ s.size) (h : tl s i g f = some (L, E)) (hn' : tl (s.extract 0 c) i g f = none) (hcE : c < E) :
    Calls Tryz.prog 3 #[.string s, .agg #[.int .i64 i, .int .i64 g, .int .i64 f], .int .i64 (c : Int)] w fun e w' => e = .returned (.bool true) ∧ Below w.heap.size w w' := by
  have mixed : Tryz.prog.follows .mixedOrders = true := by kernel_rfl
  have HA := Lib.hid (fun w => sawake_any w)
  have HB := Lib.hid (ext_alloc w (.cells #[.int .i64 i, .int .i64 g, .int .i64 f] 23))
  have HH := Lib.hid (Blk.new w #[.int .i64 i, .int .i64 g, .int .i64 f] 23)
  obtain ⟨hE, hL, hend⟩ := cut_end h
  have HT := Lib.hid (fun w => tail_some h w (by omega))
  have HTE := Lib.hid (fun w => tail_some hend w (by rw [size_cut hE]; omega))
  have HTC := Lib.hid (fun w => tail_none hn' w (by rw [size_cut hc]; omega))
  obtain ⟨n, hn⟩ : ∃ n, L.length = n := ⟨_, rfl⟩
  rw [hn] at HT HTE hL
  have HN := Lib.hid hn
  have h1 : ¬ (3000 : Int) < (s.size : Int) := by omega
  have h3 : ¬ (s.size : Int) < (c : Int) := by omega
  have h4 : (0 : Int) ≤ (c : Int) := by omega
  have h5 : (c : Int) ≤ (s.size : Int) := by omega
  have h6 : ¬ (s.size : Int) < (E : Int) := by omega
  have h7 : (0 : Int) ≤ (E : Int) := by omega
  have h8 : (E : Int) ≤ (s.size : Int) := by omega
  have h9 : (E != E) = false := by simp
  have h10 : decide (c < E) = true := decide_eq_true hcE
  clear h hend hn hn' hcE
  go_enter Tryz.func3, Tryz.ntmps3
  go_wp2_with fail
  have k0 := HH.out.cell 0 rfl
  have k1 := HH.out.cell 1 rfl
  have k2 := HH.out.cell 2 rfl
  generalize w.alloc (.cells #[.int .i64 i, .int .i64 g, .int .i64 f] 23) = w0 at *
  refine (HT.out _).mono ?_
  rintro e1 w1 ⟨⟨A1, c1, rfl, hc1, hr1⟩, hb1⟩
  have HB1 := Lib.hid (HB.out.trans (hb1.mono HB.out.size))
  have HH1 := Lib.hid (HH.out.ext hb1)
  have HR1 := Lib.hid hr1
  clear hb1 hr1 k0 k1 k2
  go_wp2_with fail
  have HSO := Lib.hid (show ∀ wx, Below w1.heap.size w1 wx → wx.cell? ⟨w.heap.size, 0, none⟩ = some (.int .i64 i) ∧ wx.cell? ⟨w.heap.size, 1, none⟩ = some (.int .i64 g) ∧ wx.cell? ⟨w.heap.size, 2, none⟩ = some (.int .i64 f) from fun wx hb => ⟨(HH1.out.ext hb).cell 0 rfl, (HH1.out.ext hb).cell 1 rfl, (HH1.out.ext hb).cell 2 rfl⟩)
  have HS := Lib.hid (HSO.out _ (ext_drew w1))
  go_region_held3 (fun wx => wx.cell? ⟨w.heap.size, 0, none⟩ = some (.int .i64 i) ∧ wx.cell? ⟨w.heap.size, 1, none⟩ = some (.int .i64 g) ∧ wx.cell? ⟨w.heap.size, 2, none⟩ = some (.int .i64 f)) (first | exact HS.out | exact hs2) (first
    | (go_at_call 6; refine (HTC.out _).mono ?_; rintro e2 w2 ⟨rfl, hb2⟩; have hs2 := HSO.out _ (ext_trans (ext_drew w1) hb2); have HX2 := Lib.hid (ext_trans (ext_drew w1) hb2)))
  have HB2 := Lib.hid (HB1.out.trans (HX2.out.mono HB1.out.size))
  have HH2 := Lib.hid (HH1.out.ext HX2.out)
  have HR2 := Lib.hid (HR1.out.ext HX2.out)
  clear hb2 hs2 HSO HS
  go_wp2_with fail
  have HSO := Lib.hid (show ∀ wx, Below w2.heap.size w2 wx → wx.cell? ⟨w.heap.size, 0, none⟩ = some (.int .i64 i) ∧ wx.cell? ⟨w.heap.size, 1, none⟩ = some (.int .i64 g) ∧ wx.cell? ⟨w.heap.size, 2, none⟩ = some (.int .i64 f) from fun wx hb => ⟨(HH2.out.ext hb).cell 0 rfl, (HH2.out.ext hb).cell 1 rfl, (HH2.out.ext hb).cell 2 rfl⟩)
  have HS := Lib.hid (HSO.out _ (ext_drew w2))
  go_region_held3 (fun wx => wx.cell? ⟨w.heap.size, 0, none⟩ = some (.int .i64 i) ∧ wx.cell? ⟨w.heap.size, 1, none⟩ = some (.int .i64 g) ∧ wx.cell? ⟨w.heap.size, 2, none⟩ = some (.int .i64 f)) (first | exact HS.out | exact hs3) (first
    | (go_at_call 6; refine (HTE.out _).mono ?_; rintro e3 w3 ⟨⟨A3, c3, rfl, hc3, hr3⟩, hb3⟩; have hs3 := HSO.out _ (ext_trans (ext_drew w2) hb3); have HX3 := Lib.hid (ext_trans (ext_drew w2) hb3)))
  have HR3 := Lib.hid hr3
  have HB3 := Lib.hid (HB2.out.trans (HX3.out.mono HB2.out.size))
  have HRA := Lib.hid (HR2.out.ext HX3.out)
  have HSM := Lib.hid (same_mt A3 A1 n c3 c1 L w3 HR3.out HRA.out (by omega))
  clear hr3 hb3 hs3 HSO HS
  go_wp2_with fail
  refine HSM.out.mono ?_
  rintro e4 w4 ⟨rfl, hb4⟩
  have HB4 := Lib.hid (HB3.out.trans (hb4.mono HB3.out.size))
  clear hb4 HSM
  go_wp2_with fail
  refine (HA.out _).mono ?_
  rintro e5 w5 ⟨rfl, hb5⟩
  have HB5 := Lib.hid (HB4.out.trans (hb5.mono HB4.out.size))
  clear hb5
  go_wp2_with fail
  go_ret
  exact ⟨rfl, HB5.out⟩
set_option maxHeartbeats 6400000 in
set_option maxRecDepth 100000 in
theorem prefix_long (s : ByteArray) (i g f : Int) (c : Nat) (L : List Mt) (E : Nat) (L' l2 : List Mt) (E' : Nat) (w : World) (hs : s.size ≤ 3000) (hc : c ≤ s.size) (h : tl s i g f = some (L, E)) (h' : tl (s.extract 0 c) i g f = some (L', E')) (hl2 : L = L' ++ l2) (hE1 : E' ≤ E) (hE2 : E' ≤ c) (hcE : E ≤ c → l2 = [] ∧ E' = E) :
    Calls Tryz.prog 3 #[.string s, .agg #[.int .i64 i, .int .i64 g, .int .i64 f], .int .i64 (c : Int)] w fun e w' => e = .returned (.bool true) ∧ Below w.heap.size w w' := by
  have mixed : Tryz.prog.follows .mixedOrders = true := by kernel_rfl
  have HA := Lib.hid (fun w => sawake_any w)
  have HB := Lib.hid (ext_alloc w (.cells #[.int .i64 i, .int .i64 g, .int .i64 f] 23))
  have HH := Lib.hid (Blk.new w #[.int .i64 i, .int .i64 g, .int .i64 f] 23)
  obtain ⟨hE, hL, hend⟩ := cut_end h
  have HT := Lib.hid (fun w => tail_some h w (by omega))
  have HTE := Lib.hid (fun w => tail_some hend w (by rw [size_cut hE]; omega))
  have HTC := Lib.hid (fun w => tail_some h' w (by rw [size_cut hc]; omega))
  have hm2 : L'.length ≤ L.length := by rw [hl2, List.length_append]; omega
  have htk : L.take L'.length = L' := by rw [hl2, List.take_append_of_le_length (Nat.le_refl _), List.take_length]
  have hlast : c < E ∨ L'.length = L.length := by
    rcases Nat.lt_or_ge c E with h | h
    · exact .inl h
    · obtain ⟨rfl, -⟩ := hcE h
      rw [hl2, List.append_nil]; exact .inr rfl
  obtain ⟨n, hn⟩ : ∃ n, L.length = n := ⟨_, rfl⟩
  rw [hn] at HT HTE hL
  have HN := Lib.hid hn
  have h1 : ¬ (3000 : Int) < (s.size : Int) := by omega
  have h3 : ¬ (s.size : Int) < (c : Int) := by omega
  have h4 : (0 : Int) ≤ (c : Int) := by omega
  have h5 : (c : Int) ≤ (s.size : Int) := by omega
  have h6 : ¬ (s.size : Int) < (E : Int) := by omega
  have h7 : (0 : Int) ≤ (E : Int) := by omega
  have h8 : (E : Int) ≤ (s.size : Int) := by omega
  have h9 : (E != E) = false := by simp
  obtain ⟨m, hm⟩ : ∃ m, L'.length = m := ⟨_, rfl⟩
  rw [hm] at HTC htk hlast hm2
  rw [HN.out] at hm2 hlast
  have HTK := Lib.hid htk
  have h10 : decide (m ≤ n) = true := decide_eq_true hm2
  have h11 : decide (E' ≤ c) = true := decide_eq_true hE2
  have h12 : decide (E' ≤ E) = true := decide_eq_true hE1
  have h13 : (0 : Int) ≤ (m : Int) := by omega
  clear h hend hn h' hl2 hE1 hE2 hcE htk
  go_enter Tryz.func3, Tryz.ntmps3
  go_wp2_with fail
  have k0 := HH.out.cell 0 rfl
  have k1 := HH.out.cell 1 rfl
  have k2 := HH.out.cell 2 rfl
  generalize w.alloc (.cells #[.int .i64 i, .int .i64 g, .int .i64 f] 23) = w0 at *
  refine (HT.out _).mono ?_
  rintro e1 w1 ⟨⟨A1, c1, rfl, hc1, hr1⟩, hb1⟩
  have HB1 := Lib.hid (HB.out.trans (hb1.mono HB.out.size))
  have HH1 := Lib.hid (HH.out.ext hb1)
  have HR1 := Lib.hid hr1
  clear hb1 hr1 k0 k1 k2
  go_wp2_with fail
  have HSO := Lib.hid (show ∀ wx, Below w1.heap.size w1 wx → wx.cell? ⟨w.heap.size, 0, none⟩ = some (.int .i64 i) ∧ wx.cell? ⟨w.heap.size, 1, none⟩ = some (.int .i64 g) ∧ wx.cell? ⟨w.heap.size, 2, none⟩ = some (.int .i64 f) from fun wx hb => ⟨(HH1.out.ext hb).cell 0 rfl, (HH1.out.ext hb).cell 1 rfl, (HH1.out.ext hb).cell 2 rfl⟩)
  have HS := Lib.hid (HSO.out _ (ext_drew w1))
  go_region_held3 (fun wx => wx.cell? ⟨w.heap.size, 0, none⟩ = some (.int .i64 i) ∧ wx.cell? ⟨w.heap.size, 1, none⟩ = some (.int .i64 g) ∧ wx.cell? ⟨w.heap.size, 2, none⟩ = some (.int .i64 f)) (first | exact HS.out | exact hs2) (first
    | (go_at_call 6; refine (HTC.out _).mono ?_; rintro e2 w2 ⟨⟨A2, c2, rfl, hc2, hr2⟩, hb2⟩; have hs2 := HSO.out _ (ext_trans (ext_drew w1) hb2); have HX2 := Lib.hid (ext_trans (ext_drew w1) hb2)))
  have HRS := Lib.hid hr2
  clear hr2
  have HB2 := Lib.hid (HB1.out.trans (HX2.out.mono HB1.out.size))
  have HH2 := Lib.hid (HH1.out.ext HX2.out)
  have HR2 := Lib.hid (HR1.out.ext HX2.out)
  clear hb2 hs2 HSO HS
  go_wp2_with fail
  have HSO := Lib.hid (show ∀ wx, Below w2.heap.size w2 wx → wx.cell? ⟨w.heap.size, 0, none⟩ = some (.int .i64 i) ∧ wx.cell? ⟨w.heap.size, 1, none⟩ = some (.int .i64 g) ∧ wx.cell? ⟨w.heap.size, 2, none⟩ = some (.int .i64 f) from fun wx hb => ⟨(HH2.out.ext hb).cell 0 rfl, (HH2.out.ext hb).cell 1 rfl, (HH2.out.ext hb).cell 2 rfl⟩)
  have HS := Lib.hid (HSO.out _ (ext_drew w2))
  go_region_held3 (fun wx => wx.cell? ⟨w.heap.size, 0, none⟩ = some (.int .i64 i) ∧ wx.cell? ⟨w.heap.size, 1, none⟩ = some (.int .i64 g) ∧ wx.cell? ⟨w.heap.size, 2, none⟩ = some (.int .i64 f)) (first | exact HS.out | exact hs3) (first
    | (go_at_call 6; refine (HTE.out _).mono ?_; rintro e3 w3 ⟨⟨A3, c3, rfl, hc3, hr3⟩, hb3⟩; have hs3 := HSO.out _ (ext_trans (ext_drew w2) hb3); have HX3 := Lib.hid (ext_trans (ext_drew w2) hb3)))
  have HR3 := Lib.hid hr3
  have HB3 := Lib.hid (HB2.out.trans (HX3.out.mono HB2.out.size))
  have HRA := Lib.hid (HR2.out.ext HX3.out)
  have HRS3 := Lib.hid (HRS.out.ext HX3.out)
  have HSM := Lib.hid (same_mt A3 A1 n c3 c1 L w3 HR3.out HRA.out (by omega))
  clear hr3 hb3 hs3 HSO HS
  go_wp2_with fail
  refine HSM.out.mono ?_
  rintro e4 w4 ⟨rfl, hb4⟩
  have HB4 := Lib.hid (HB3.out.trans (hb4.mono HB3.out.size))
  have HRS4 := Lib.hid (HRS3.out.ext hb4)
  have HRA4 := Lib.hid (HRA.out.ext hb4)
  clear hb4 HSM
  have HSL := Lib.hid (rd_take7 HRA4.out hm2)
  rw [HTK.out] at HSL
  have HSM2 := Lib.hid (fun cc => same_mt A2 A1 m c2 cc L' w4 HRS4.out HSL.out (by omega))
  have h14 : (m : Int) ≤ (c1 : Int) := by omega
  go_wp2_with fail
  refine (HSM2.out _).mono ?_
  rintro e6 w6 ⟨rfl, hb6⟩
  have HB6 := Lib.hid (HB4.out.trans (hb6.mono HB4.out.size))
  clear hb6
  by_cases hcE : c < E
  · have h15 : decide (c < E) = true := decide_eq_true hcE
    go_wp2_with fail
    refine (HA.out _).mono ?_
    rintro e5 w5 ⟨rfl, hb5⟩
    have HB5 := Lib.hid (HB6.out.trans (hb5.mono HB6.out.size))
    clear hb5
    go_wp2_with fail
    go_ret
    exact ⟨rfl, HB5.out⟩
  · have h15 : decide (c < E) = false := decide_eq_false hcE
    have h16 : m = n := by omega
    subst h16
    have h17 : (m == m) = true := by simp
    go_wp2_with fail
    refine (HA.out _).mono ?_
    rintro e5 w5 ⟨rfl, hb5⟩
    have HB5 := Lib.hid (HB6.out.trans (hb5.mono HB6.out.size))
    clear hb5
    go_wp2_with fail
    go_ret
    exact ⟨rfl, HB5.out⟩
theorem prefix_law (s : ByteArray) (i g f cut : Int) (w : World) :
    Calls Tryz.prog 3 #[.string s, .agg #[.int .i64 i, .int .i64 g, .int .i64 f], .int .i64 cut] w fun e w' => e = .returned (.bool true) ∧ Below w.heap.size w w' := by
  by_cases hf : 3000 < s.size ∨ cut < 0 ∨ (s.size : Int) < cut
  · exact prefix_far s i g f cut w hf
  · obtain ⟨c, rfl⟩ : ∃ c : Nat, cut = c := ⟨cut.toNat, by omega⟩
    rcases hl : tl s i g f with _ | ⟨L, E⟩
    · exact prefix_none s i g f c w (by omega) (by omega) hl
    · rcases cut_some hl (c := c) (by omega) with ⟨h1, h2⟩ | ⟨L', E', l2, h1, h2, h3, h4, h5⟩
      · exact prefix_short s i g f c L E w (by omega) (by omega) hl h1 h2
      · exact prefix_long s i g f c L E L' l2 E' w (by omega) (by omega) hl h1 h2 h3 h4 h5
end Sn
end Go.Proofs.YtpbphhpldlckbaaGreat
namespace Go.Proofs.YtpbphhpldlckbaaGreat
open Go.RowKit Go.ChangeShapes Go.WideShapes Go.Deep Go.Joins
/-- A struct of three numbers by value, opened. -/
theorem open_head {H : Type} {enc : TypeId × Value → H} {P : Program} {w : World} {base b0 : Nat} {spare : Nat → Bool} {held : Bool} {r : Reach} {t : TypeId} {f0 f1 f2 : Field} {v : Value} {d : DataW H} {p : List MemPlace}
    (hs : P.underlying t = some (.struct #[f0, f1, f2])) (hone : oneCellFields P #[f0, f1, f2] = true) (hC : P.cellsOf t = 3)
    (t0 : P.underlying f0.type = some (.int .i64)) (t1 : P.underlying f1.type = some (.int .i64)) (t2 : P.underlying f2.type = some (.int .i64))
    (hv : Value.okWide P w r b0 t v) (h : DataW.Trod enc P w base spare held t v d p) : ∃ a b c : Int, v = .agg #[.int .i64 a, .int .i64 b, .int .i64 c] := by
  obtain ⟨c0, c1, c2, y0, y1, y2, m, rfl, -, -, h0, h1, h2⟩ := open_agg3 hs hone hC hv h
  obtain ⟨x, e0, -, -⟩ := DataW.trod_int t0 h0
  obtain ⟨y, e1, -, -⟩ := DataW.trod_int t1 h1
  obtain ⟨z, e2, -, -⟩ := DataW.trod_int t2 h2
  simp at e0 e1 e2
  subst e0 e1 e2
  exact ⟨x, y, z, rfl⟩
/-- A slice of texts that came in, nil or not. -/
theorem open_strsl {H : Type} {enc : TypeId × Value → H} {P : Program} {w : World} {base : Nat} {r : Reach} {t e : TypeId} {v : Value} {d : DataW H} {p : List MemPlace}
    (ht : P.underlying t = some (.slice e)) (he : P.underlying e = some .string) (hc : P.cellsOf e = 1)
    (hv : Value.okWide P w r base t v) (h : DataW.Trod enc P w 0 (fun _ => true) true t v d p) (_hlt : ∀ x ∈ p, x.block < w.heap.size) :
    ∃ (A : Option Addr) (n c : Nat) (l : List ByteArray), v = .slice A n c ∧ Rd w w.heap.size 1 A n (l.map Value.string) ∧ n ≤ c ∧ c ≤ maxLen := by
  obtain ⟨a0, len, cap, rfl⟩ := okWide_slice ht hv
  obtain ⟨fuel, hf⟩ := h
  rcases open_strings ht he hc hf with ⟨hcs, -⟩ | ⟨a, len', cap', zs, hcs, _, hl, hm, hz, -, hcell, -⟩
  · simp [Value.cells] at hcs
    obtain ⟨rfl, rfl, rfl⟩ := hcs
    exact ⟨none, 0, 0, [], rfl, Rd.nil, Nat.le_refl _, by simp [maxLen]⟩
  · simp [Value.cells] at hcs
    obtain ⟨rfl, rfl, rfl⟩ := hcs
    simp at hz
    refine ⟨some a, len, cap, zs.take len, rfl, ⟨by simp; omega, fun hn => ⟨a, rfl, ?_, ?_⟩⟩, hl, hm⟩
    · have h0 := World.block_lt_of_cell? w (a.add 0) (hcell 0 (by omega))
      rwa [add_block] at h0
    · intro j u hu
      rw [List.getElem?_map, List.getElem?_take] at hu
      split at hu
      · rename_i hj
        have hjz : j < zs.length := by omega
        rw [List.getElem?_eq_getElem hjz] at hu
        simp at hu
        rw [hcell j hjz, ← hu]
        simp [List.getD, List.getElem?_eq_getElem hjz]
      · simp at hu
end Go.Proofs.YtpbphhpldlckbaaGreat
