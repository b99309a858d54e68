/- scan.Tail, where the header stands. append of several numbers at once onto a slice of the call's own. head.PutFoot. scan.Load, where the block stands. -/
import Derived.Test.YtpbphhpldlckbaaGreatSc40
import Derived.Deep.LoopGhost
import Derived.Deep.CutBlock
import Derived.Test.YtpbphhpldlckbaaGreatSc03
import Derived.Test.YtpbphhpldlckbaaGreatSc04
import Derived.Test.YtpbphhpldlckbaaGreatSc13
import Derived.Test.YtpbphhpldlckbaaGreatSc37
namespace Go.Proofs.YtpbphhpldlckbaaGreat
namespace Sn
open Go.RowKit Hd Fm Bk

theorem tl_yes {s : ByteArray} {i g f : Nat} (h : 1 ≤ i ∧ i ≤ 999999 ∧ 1 ≤ g ∧ g ≤ 999999 ∧ 1 ≤ f ∧ f ≤ 1000000000) (hp : preB s (hdrB i g f) = true) : tl s i g f = some (rn f s [] (hdrB i g f).size) := by
  unfold tl
  rw [if_pos ⟨by unfold okH; rw [decide_eq_true_eq]; omega, by simpa using hp⟩]
  simp
theorem pre_size {s p : ByteArray} (h : preB s p = true) : p.size ≤ s.size := by
  have := congrArg ByteArray.size ((preB_iff s p).1 h)
  rw [ByteArray.size_extract] at this
  omega
theorem Lp.fin {w wL wx : World} {b4 b3 b10 : Nat} {i g f : Int} {h1 e0 : Nat} {s : ByteArray} {A : Option Addr} {n c e k : Nat} {L : List Mt} (h : Lp w wL wx b4 b3 b10 i g f h1 e0 s A n c e k L) (hr : Sn.rn h1 s [] e0 = (L, e)) (ht : tl s i g f = some (Sn.rn h1 s [] e0))
    (hB : Below w.heap.size w wL) (h4 : w.heap.size ≤ b4) (h4' : b4 < wL.heap.size) (h10 : w.heap.size ≤ b10) :
    TlAns s i g f w (.returned (.tuple #[.slice A n c, .int .i64 (e : Int), .int .i64 0])) (wx.setCell ⟨b4, 0, none⟩ (.slice A n c)) ∧ Below w.heap.size w (wx.setCell ⟨b4, 0, none⟩ (.slice A n c)) := by
  refine ⟨.inl ⟨L, e, _, by rw [ht, hr], rfl, ?_⟩, (h.but.set4 0 _).below hB h4 h10 hB.size⟩
  exact own_setCell_far (own_lower h.own hB.size) (fun e => by have := (World.ownsRow.lt h.own _ e).1; dsimp only at this; omega) _
set_option maxHeartbeats 6400000 in
set_option maxRecDepth 100000 in
theorem tail_yes (s : ByteArray) (i g f : Nat) (w : World) (hs : s.size ≤ 1000000) (h : 1 ≤ i ∧ i ≤ 999999 ∧ 1 ≤ g ∧ g ≤ 999999 ∧ 1 ≤ f ∧ f ≤ 1000000000) (hp : preB s (hdrB i g f) = true) :
    Calls Tryz.prog 6 #[.string s, .agg #[.int .i64 (i : Int), .int .i64 (g : Int), .int .i64 (f : Int)]] w fun e w' => TlAns s i g f w e w' ∧ Below w.heap.size w w' := by
  have mixed : Tryz.prog.follows .mixedOrders = true := by kernel_rfl
  have HT := Lib.hid (tl_yes h hp)
  have hse := pre_size hp
  have HBG := Lib.hid (fun wx => begun_ok s i g f wx h hp)
  simp only [if_true] at HBG
  obtain ⟨e0, he0⟩ : ∃ e0, (hdrB i g f).size = e0 := ⟨_, rfl⟩
  rw [he0] at HT hse HBG
  have HSC := Lib.hid (fun wx => scan_any s e0 wx hs (by omega))
  have HFL := Lib.hid (frs_len s e0 hs)
  have HW := Lib.hid ((ext_alloc w (.cells #[.int .i64 (i : Int), .int .i64 (g : Int), .int .i64 (f : Int)] 23)).trans ((ext_alloc _ (.cells #[.slice none 0 0] 25)).mono (by simp)))
  have hv : Var ((w.alloc (.cells #[.int .i64 (i : Int), .int .i64 (g : Int), .int .i64 (f : Int)] 23)).alloc (.cells #[.slice none 0 0] 25)) (w.heap.size + 1) 25 (.slice none 0 0) := by
    have := Var.new (w.alloc (.cells #[.int .i64 (i : Int), .int .i64 (g : Int), .int .i64 (f : Int)] 23)) 25 (.slice none 0 0)
    rwa [show (w.alloc (.cells #[.int .i64 (i : Int), .int .i64 (g : Int), .int .i64 (f : Int)] 23)).heap.size = w.heap.size + 1 by simp] at this
  have HV := Lib.hid hv
  have HH := Lib.hid (show Blk ((w.alloc (.cells #[.int .i64 (i : Int), .int .i64 (g : Int), .int .i64 (f : Int)] 23)).alloc (.cells #[.slice none 0 0] 25)) w.heap.size #[.int .i64 (i : Int), .int .i64 (g : Int), .int .i64 (f : Int)] 23 from Blk.alloc (Blk.new w _ _) _)
  clear hv hp he0
  go_enter Tryz.func6, Tryz.ntmps6
  go_wp2_with fail
  go_step3
  go_wp2_with fail
  generalize (w.alloc (.cells #[.int .i64 (i : Int), .int .i64 (g : Int), .int .i64 (f : Int)] 23)).alloc (.cells #[.slice none 0 0] 25) = w0 at *
  refine (HBG.out _).mono ?_
  rintro e1 w1 ⟨rfl, hb1⟩
  have HV1 := Lib.hid (HV.out.below hb1 HV.out.lt)
  have HH1 := Lib.hid (HH.out.ext hb1)
  have HB1 := Lib.hid (HW.out.trans (hb1.mono HW.out.size))
  clear hb1 HV HH HW
  go_wp2_with fail
  refine (HSC.out w1).mono ?_
  rintro e2 w2 ⟨⟨v2, rfl, hown2⟩, hb2⟩
  obtain ⟨AF, cF, rfl, -, -⟩ := own_slice hown2
  have HRF := Lib.hid (Rd.of_own hown2)
  have hob := World.ownsRow.lt hown2
  have HOB := Lib.hid (show ∀ ad, AF = some ad → ad.block ≠ w.heap.size + 1 ∧ ad.block ≠ w2.heap.size from fun ad e => by
    have h1 := hob ad.block (by rw [e]; rfl)
    have h2 := HV1.out.lt
    omega)
  have HV2 := Lib.hid ((HV1.out.below hb2 HV1.out.lt).alloc (.cells #[.int .i64 0] 3))
  have HH2 := Lib.hid ((HH1.out.ext hb2).alloc (.cells #[.int .i64 0] 3))
  have HL2 := Lib.hid (Var.new w2 3 (.int .i64 0))
  have HB2 := Lib.hid (HB1.out.trans (hb2.mono HB1.out.size))
  have HB3 := Lib.hid (HB2.out.trans ((ext_alloc w2 (.cells #[.int .i64 0] 3)).mono HB2.out.size))
  have HS3 := Lib.hid (show w2.heap.size ≤ (w2.alloc (.cells #[.int .i64 0] 3)).heap.size by simp)
  have HS4 := Lib.hid (show w.heap.size ≤ w2.heap.size from HB2.out.size)
  have hnF := HFL.out
  obtain ⟨nF, hnF2⟩ : ∃ nF, (frs s e0).length = nF := ⟨_, rfl⟩
  rw [hnF2] at HRF hnF ⊢
  have HNF := Lib.hid hnF2
  have HBB := Lib.hid (show w.heap.size + 1 < w2.heap.size from Nat.lt_of_lt_of_le HV1.out.lt hb2.size)
  clear hb2 hown2 hob hnF2 HV1 HH1 HFL
  go_wp2_with fail
  go_step3
  go_wp2_with fail
  have HRL := Lib.hid (HRF.out.alloc (Nat.le_refl _) (.cells #[.int .i64 0] 3))
  generalize w2.alloc (.cells #[.int .i64 0] 3) = wL at *
  generalize w2.heap.size = b10 at *
  have HQ := Lib.hid (show w.heap.size ≤ w.heap.size + 1 ∧ w.heap.size + 1 < wL.heap.size from ⟨Nat.le_succ _, HV2.out.lt⟩)
  have HLT := Lib.hid (show w.heap.size < w.heap.size + 1 from Nat.lt_succ_self _)
  have HQ10 := Lib.hid (show b10 < wL.heap.size from HL2.out.lt)
  generalize w.heap.size + 1 = b4 at *
  clear HRF HB2
  go_loopw [5, 35] (fun s5 s35 wr => ∃ (k e : Nat) (L : List Mt) (A : Option Addr) (n c : Nat), s35 = .int .i64 (k : Int) ∧ s5 = .int .i64 (e : Int) ∧ k ≤ nF ∧ Hid (Lp w wL wr b4 w.heap.size b10 i g f f e0 s A n c e k L)) (fun _ v _ => nF - (intOf v).toNat)
  case atStart => exact ⟨0, e0, [], none, 0, 0, by go_num, rfl, by omega, Lib.hid ⟨St_nil _ _, rfl, rfl, HV2.out, ownM_nil _ _, HH2.out, HL2.out, But2.refl _ _ _⟩⟩
  case round =>
    obtain ⟨k, e, L, A, n, c, rfl, rfl, hk, HX⟩ := hrel
    by_cases hkn : k < nF
    · obtain ⟨hg, hx, hdr⟩ := HX.out.next (by rw [HNF.out]; exact hkn)
      obtain ⟨ad, hA, -, c0, c1, c2, c3⟩ := fr_at HRL.out hx HX.out.but HS3.out HOB.out
      have hgt := GF_to hg
      have hbs : (fbody s e).size ≤ 1000000 := by unfold fbody; rw [ByteArray.size_extract]; omega
      have HME := Lib.hid (fun wx => meta_any (by4 s.data.toList e) (fbody s e) e (fto s e) wx hbs (by omega) (by omega))
      have HDE := Lib.hid (fun wx => Decode_any (fbody s e) wx hbs)
      have HFR := Lib.hid (show fr s e = (by4 s.data.toList e, fbody s e, e, fto s e) from rfl)
      have HNX := Lib.hid (And.intro hg (And.intro hdr (fun m => (good_iff f L (fr s e) m).2)))
      have HGN := Lib.hid (fun m => (good_iff f L (fr s e) m).1)
      rw [HFR.out] at HNX HGN
      unfold fr at c0 c1 c2 c3
      dsimp only at c0 c1 c2 c3
      subst hA
      have HAL := Lib.hid (ext_alloc wr (.cells #[.int .i64 (by4 s.data.toList e : Int), .string (fbody s e), .int .i64 (e : Int), .int .i64 (fto s e : Int)] 59))
      have HW1 := Lib.hid (HX.out.ext HAL.out)
      have HF1 := Lib.hid (show Fb (wr.alloc (.cells #[.int .i64 (by4 s.data.toList e : Int), .string (fbody s e), .int .i64 (e : Int), .int .i64 (fto s e : Int)] 59)) wr.heap.size (by4 s.data.toList e) (fbody s e) e (fto s e) from heap_alloc_new wr _)
      have HOW := Lib.hid (show ∀ k, (Value.slice A n c).ownBlock = some k → wL.heap.size ≤ k ∧ k < wr.heap.size from World.ownsRow.lt HX.out.own)
      have HBT := Lib.hid (show wL.heap.size ≤ wr.heap.size from HX.out.but.size)
      have HST := Lib.hid (show (GF s e → good f L (fr s e) = none) → Sn.rn f s [] e0 = (L, e) from HX.out.stop)
      rw [HFR.out] at HST
      generalize by4 s.data.toList e = K at *
      generalize fbody s e = BD at *
      generalize hTO : fto s e = T at *
      have HTO := Lib.hid hTO
      clear hTO
      clear hg hx hdr hgt hbs HX
      go_upto_block 1 with (fail)
      go_cut [5] from 36 to 67 (fun s5 wx => s5 = .int .i64 (T : Int) ∧ ∃ (L' : List Mt) (A' : Option Addr) (n' c' : Nat), Hid (Lp w wL wx b4 w.heap.size b10 i g f f e0 s A' n' c' T (k + 1) L'))
      case rest =>
        obtain ⟨rfl, L', A', n', c', HP⟩ := hcut
        clear HME HDE HFR HNX HGN c0 c1 c2 c3 HAL HW1 HF1 HOW HBT HST HTO
        go_wp2_with fail
        go_roundw
        case rel => exact ⟨k + 1, T, L', A', n', c', by go_num, rfl, by omega, HP⟩
        case measure => simp [intOf]; omega
      go_wp2_with fail
      generalize wr.alloc (.cells #[.int .i64 (K : Int), .string BD, .int .i64 (e : Int), .int .i64 (T : Int)] 59) = wA at *
      refine (HME.out _).mono ?_
      rintro e3 w3 ⟨ha, hb3⟩
      have HW3 := Lib.hid (HW1.out.ext hb3)
      have HF3 := Lib.hid (HF1.out.below hb3 HF1.out.lt)
      have HZ3 := Lib.hid (show wr.heap.size ≤ w3.heap.size from Nat.le_trans HAL.out.size hb3.size)
      clear HW1 HF1 hb3 HME c0 c1 c2 c3
      rcases ha with ⟨m, hm, rfl⟩ | ⟨hm, rfl⟩
      · obtain ⟨ma, ms, mr, mc, mf, me, ml⟩ := m
        have HAM := Lib.hid (ext_alloc w3 (.cells #[.int .i64 (ma : Int), .int .i64 (ms : Int), .int .i64 (mr : Int), .int .i64 (mc : Int), .int .i64 (mf : Int), .int .i64 (me : Int), .int .i64 (ml : Int)] 38))
        have HW4 := Lib.hid (HW3.out.ext HAM.out)
        have HF4 := Lib.hid (HF3.out.below HAM.out HF3.out.lt)
        have HM4 := Lib.hid (show Mb (w3.alloc (.cells #[.int .i64 (ma : Int), .int .i64 (ms : Int), .int .i64 (mr : Int), .int .i64 (mc : Int), .int .i64 (mf : Int), .int .i64 (me : Int), .int .i64 (ml : Int)] 38)) w3.heap.size ma ms mr mc mf me ml from heap_alloc_new w3 _)
        have HGO := Lib.hid (fun wx hk => goes_any ⟨ma, ms, mr, mc, mf, me, ml⟩ b4 w.heap.size b10 i g f f A n c L wx rfl HW3.out.ok hk)
        have HMM := Lib.hid hm
        unfold mv magg at HGO
        dsimp only at HGO
        unfold mv magg
        rcases hgo : goesB f L ⟨ma, ms, mr, mc, mf, me, ml⟩ with _ | _
        · rw [hgo] at HGO
          have HRN := Lib.hid (HST.out (fun _ => by
            rcases hgd : good f L (K, BD, e, T) with _ | m
            · rfl
            · obtain ⟨h1, h2, -⟩ := HGN.out m hgd
              rw [HMM.out] at h1
              obtain rfl := Option.some.inj h1
              rw [hgo] at h2; cases h2))
          have c0 := HM4.out.c0
          have c1 := HM4.out.c1
          have c2 := HM4.out.c2
          have c3 := HM4.out.c3
          have c4 := HM4.out.c4
          have c5 := HM4.out.c5
          have c6 := HM4.out.c6
          clear HW3 HF3 hm hgo HST HGN HNX
          go_wp2_with fail
          generalize w3.alloc (.cells #[.int .i64 (ma : Int), .int .i64 (ms : Int), .int .i64 (mr : Int), .int .i64 (mc : Int), .int .i64 (mf : Int), .int .i64 (me : Int), .int .i64 (ml : Int)] 38) = w4 at *
          refine (HGO.out _ HW4.out.kp.1).mono ?_
          rintro e5 w5 ⟨rfl, hb5⟩
          have HW := Lib.hid (HW4.out.ext hb5)
          clear hb5 c0 c1 c2 c3 c4 c5 c6
          have HF := Lib.hid (HW.out.fin HRN.out HT.out HB3.out HQ.out.1 HQ.out.2 HS4.out)
          have hc := HW.out.row.cell
          have hf := HW.out.row.frozen
          have hc2 := (HW.out.row.set_ (.slice A n c)).cell
          clear HW
          go_wp2_with fail
          try rw [Exit.noGoto_ret]
          refine bodyPost_ret (v := .tuple #[.slice A n c, .int .i64 (e : Int), .int .i64 0]) (by simp [results, go_sem, hc2]) rfl ?_
          exact HF.out
        · rw [hgo] at HGO
          have HGG := Lib.hid hgo
          clear HW3 HF3 hm hgo
          go_wp2_with fail
          generalize w3.alloc (.cells #[.int .i64 (ma : Int), .int .i64 (ms : Int), .int .i64 (mr : Int), .int .i64 (mc : Int), .int .i64 (mf : Int), .int .i64 (me : Int), .int .i64 (ml : Int)] 38) = w4 at *
          refine (HGO.out _ HW4.out.kp.1).mono ?_
          rintro e5 w5 ⟨rfl, hb5⟩
          have HW5 := Lib.hid (HW4.out.ext hb5)
          have HF5 := Lib.hid (HF4.out.below hb5 HF4.out.lt)
          have HM5 := Lib.hid (HM4.out.below hb5 HM4.out.lt)
          have c1 := HF5.out.c1
          clear hb5 HW4 HF4 HM4
          go_wp2_with fail
          refine (HDE.out _).mono ?_
          rintro e6 w6 ⟨hd, hb6⟩
          have HW6 := Lib.hid (HW5.out.ext hb6)
          have HF6 := Lib.hid (HF5.out.below hb6 HF5.out.lt)
          have HM6 := Lib.hid (HM5.out.below hb6 HM5.out.lt)
          clear hb6 HW5 HF5 HM5 c1
          rcases hd with ⟨l6, v6, hd, rfl, -⟩ | ⟨hd, x, rfl, hx⟩
          · have h0 := HW6.out
            have x4 := h0.row.cell
            have x4f := h0.row.frozen
            have x10 := h0.lt.cell
            have x10f := h0.lt.frozen
            have c0 := HM6.out.c0
            have c1 := HM6.out.c1
            have c2 := HM6.out.c2
            have c3 := HM6.out.c3
            have c4 := HM6.out.c4
            have c5 := HM6.out.c5
            have c6 := HM6.out.c6
            have d3 := HF6.out.c3
            have HLN := Lib.hid (show L.length ≤ 1000000 by have := h0.st.2.1; omega)
            have hgen := Lib.hid h0.own
            have HBS := Lib.hid h0.but.size
            have H7 := Lib.hid (show ∀ w7, w6.grownBy w7 (Value.slice A n c).ownBlock → Var w7 b4 25 (.slice A n c) ∧ Var w7 b10 3 (.int .i64 (lateM L : Int)) ∧ Fb w7 wr.heap.size K BD e T ∧ Mb w7 w3.heap.size ma ms mr mc mf me ml from fun w7 hg =>
              ⟨h0.row.grown hg (fun e => by have := HOW.out _ e; have := HQ.out.2; omega), h0.lt.grown hg (fun e => by have := HOW.out _ e; have := HQ10.out; omega), HF6.out.grown hg (fun e => by have := HOW.out _ e; omega), (hg.block w3.heap.size HM6.out.lt (fun e => by have := HOW.out _ e.symm; have := HZ3.out; omega)).trans HM6.out⟩)
            have hn1 : ¬ b4 = b10 := Nat.ne_of_lt HBB.out
            have hn2 : ¬ b10 = b4 := fun e => hn1 e.symm
            have l4 := h0.row.lt
            have l10 := h0.lt.lt
            have lf := HF6.out.lt
            have lm := HM6.out.lt
            have HDD := Lib.hid (show dec BD.data.toList = some l6 from hd)
            clear h0 hd
            have HFIN := Lib.hid (show ∀ w7 g7 cap, w6.grownBy w7 (Value.slice A n c).ownBlock → OwnM w7 wL.heap.size (.slice (some ⟨g7, 0, none⟩) (L.length + 1) cap) (L ++ [⟨ma, ms, mr, mc, mf, me, ml⟩]) →
              Lp w wL ((w7.setCell ⟨b4, 0, none⟩ (.slice (some ⟨g7, 0, none⟩) (L.length + 1) cap)).setCell ⟨b10, 0, none⟩ (.int .i64 (ml : Int))) b4 w.heap.size b10 i g f f e0 s (some ⟨g7, 0, none⟩) (L.length + 1) cap T (k + 1) (L ++ [⟨ma, ms, mr, mc, mf, me, ml⟩]) from fun w7 g7 cap hg hown => by
                obtain ⟨f4, f10, -, -⟩ := H7.out w7 hg
                have hgd := HNX.out.2.2 ⟨ma, ms, mr, mc, mf, me, ml⟩ ⟨HMM.out, HGG.out, l6, HDD.out⟩
                obtain ⟨hg1, hg2, -⟩ := HNX.out
                have hob := World.ownsRow.lt hown
                refine ⟨?_, ?_, hg2, ((f4.set_ _).far hn1 _), ?_, ?_, ?_, ?_⟩
                · have := St_step HW6.out.st hg1 (by rw [HFR.out]; exact hgd)
                  rwa [HTO.out] at this
                · rw [← HW6.out.rr, ← HTO.out]; exact (rn_step hg1 (by rw [HFR.out]; exact hgd)).symm
                · exact own_setCell_far (own_setCell_far hown (fun e => by have := (hob _ e).1; have := HQ.out.2; dsimp only at *; omega) _) (fun e => by have := (hob _ e).1; have := HQ10.out; dsimp only at *; omega) _
                · have h1 := hg.block w.heap.size (Array.getElem?_eq_some_iff.1 HW6.out.hd).1 (fun e => by have := (HOW.out _ e.symm).1; have := HB3.out.size; have := HQ.out.1; have := HQ.out.2; omega)
                  exact (Below.heap_setCell _ ⟨b10, 0, none⟩ _ _ (by have := HLT.out; have := HBB.out; dsimp only; omega)).trans ((Below.heap_setCell _ ⟨b4, 0, none⟩ _ _ (by have := HLT.out; dsimp only; omega)).trans (h1.trans HW6.out.hd))
                · rw [lateM_snoc]; exact (f10.far hn2 _).set_ _
                · exact ((HW6.out.but.grown hg (fun q e => (HOW.out q e).1)).set4 0 _).set10 0 _)
            have hLe : n = L.length := HW6.out.kp.2
            clear HW6 HF6 HM6 HNX HGN HST HMM HGG HGO HDE hLe HT HB1 HB3 HS3 HS4 HQ HQ10 HLT HBB HRL HOB HNF hs h hse HV2 HH2 HL2 HFR HTO HOW HBT HAL HZ3 HAM HDD HSC HBG hnF
            go_wp2_with fail
            go_region_law (refine step_append7 (.tmp 60) (.tmp 62) ⟨ma, ms, mr, mc, mf, me, ml⟩ rfl rfl hgen.out HLN.out HBS.out (by simp [Act.eval]) (by simp [Act.eval]) ?_; intro g7 cap w7 hown7 hg7 hat7; have h7 := H7.out w7 hg7; have y4 := h7.1.cell; have y4f := h7.1.frozen; have y10 := h7.2.1.cell; have y10f := h7.2.1.frozen; have z3 := h7.2.2.1.c3; have z6 := h7.2.2.2.c6)
            all_goals
              have HP := Lib.hid (HFIN.out w7 g7 cap hg7 hown7)
              clear h7 y4 y4f y10 y10f z3 z6 hown7 hg7 hat7 x4 x4f x10 x10f c0 c1 c2 c3 c4 c5 c6 d3 HFIN H7
              go_wp2_with fail
              go_meet
              case rel => exact ⟨rfl, _, _, _, _, HP⟩
          · have HRN := Lib.hid (HST.out (fun _ => by
              rcases hgd : good f L (K, BD, e, T) with _ | m
              · rfl
              · obtain ⟨-, -, r, h3⟩ := HGN.out m hgd
                have h4 : dec BD.data.toList = some r := h3
                rw [hd] at h4; cases h4))
            have HW := HW6
            clear HW6 hd
            have HF := Lib.hid (HW.out.fin HRN.out HT.out HB3.out HQ.out.1 HQ.out.2 HS4.out)
            have hc := HW.out.row.cell
            have hf := HW.out.row.frozen
            have hc2 := (HW.out.row.set_ (.slice A n c)).cell
            clear HW
            go_wp2_with fail
            try rw [Exit.noGoto_ret]
            refine bodyPost_ret (v := .tuple #[.slice A n c, .int .i64 (e : Int), .int .i64 0]) (by simp [results, go_sem, hc2]) rfl ?_
            exact HF.out
      · have HRN := Lib.hid (HST.out (fun _ => by
          rcases hgd : good f L (K, BD, e, T) with _ | m
          · rfl
          · have := (HGN.out m hgd).1
            rw [hm] at this; cases this))
        have HW := Lib.hid (HW3.out.ext (ext_alloc w3 (.cells #[.int .i64 0, .int .i64 0, .int .i64 0, .int .i64 0, .int .i64 0, .int .i64 0, .int .i64 0] 38)))
        clear HW3 HF3 hm HST HGN HNX
        unfold magg
        have HF := Lib.hid (HW.out.fin HRN.out HT.out HB3.out HQ.out.1 HQ.out.2 HS4.out)
        have hc := HW.out.row.cell
        have hf := HW.out.row.frozen
        have hc2 := (HW.out.row.set_ (.slice A n c)).cell
        clear HW
        go_wp2_with fail
        try rw [Exit.noGoto_ret]
        refine bodyPost_ret (v := .tuple #[.slice A n c, .int .i64 (e : Int), .int .i64 0]) (by simp [results, go_sem, hc2]) rfl ?_
        exact HF.out
    · have HRN := Lib.hid (HX.out.done (by rw [HNF.out]; exact hkn))
      have HW := HX
      clear HX
      have HF := Lib.hid (HW.out.fin HRN.out HT.out HB3.out HQ.out.1 HQ.out.2 HS4.out)
      have hc := HW.out.row.cell
      have hf := HW.out.row.frozen
      have hc2 := (HW.out.row.set_ (.slice A n c)).cell
      clear HW
      go_wp2_with fail
      try rw [Exit.noGoto_ret]
      refine bodyPost_ret (v := .tuple #[.slice A n c, .int .i64 (e : Int), .int .i64 0]) (by simp [results, go_sem, hc2]) rfl ?_
      exact HF.out
end Sn
end Go.Proofs.YtpbphhpldlckbaaGreat
namespace Go.Proofs.YtpbphhpldlckbaaGreat
open Go.RowKit
section
variable {ops : Array Oper} {rest : List Oper} {o : Oper} {a : Act} {Q : Exit → Act → World → Prop}
theorem cell_lit_new (w : World) (t : TypeId) (l : List Value) (j : Nat) (u : Value) (h : l[j]? = some u) : (w.alloc (.cells l.toArray t)).cell? ((⟨w.heap.size, 0, none⟩ : Addr).add j) = some u := by
  rw [Addr.add_lit, Nat.zero_add, World.cell?_alloc_new]
  simpa using h
/-- 'append(s, y0, y1, ..)' onto a slice of the call's own. -/
theorem appendL {s x : Operand} {B g m : Nat} {v : Value} {l : List Int} {w0 : World} (ys : List Int) (hgw : w0.heap.size = g) (hm : ys.length = m) (hown : Own w0 B v l) (hl : l.length ≤ 1099511627776) (hy : ys.length ≤ 1000) (hp : 0 < ys.length) (hB : B ≤ w0.heap.size)
    (h : ∀ A' n' c' w', Hid (n' = l.length + ys.length) → Own w' B (.slice A' n' c') (l ++ ys) → Below B w0 w' → w0.grownBy w' v.ownBlock → (Value.ownBlock (.slice A' n' c') = v.ownBlock ∨ ∃ g, Value.ownBlock (.slice A' n' c') = some g ∧ w0.heap.size ≤ g) → wpList Tryz.prog ops Q rest (a.put o.dst (.slice A' n' c')) w')
    (hgd : o.guard = none := by exact rfl) (ho : o.op = .call { callee := .builtin .append, args := #[s, x], argTypes := #[67, 67] } := by exact rfl)
    (hs : a.eval s = v := by exact rfl) (hx : a.eval x = .slice (some ⟨g, 0, none⟩) m m := by exact rfl) :
    wpList Tryz.prog ops Q (o :: rest) a (w0.alloc (.cells (ys.map (Value.int .i64)).toArray 3)) := by
  subst hgw hm
  obtain ⟨i0, hi, hz0, hz1, hz2⟩ := info_parts int_info
  refine wpList_append_own_at _ hgd s x 67 ho B 3 i0 (.int .i64 0) 1 8 Tryz.underlying67 hi hz0 hz1 hz2 rfl (by omega) v l.length (l.map (Value.int .i64)) hs (hown.alloc _)
    ⟨w0.heap.size, 0, none⟩ ys.length ys.length (ys.map (Value.int .i64)) hx (by simp) (fun j u hu => cell_lit_new w0 _ _ j u hu) (by intro u hu; rw [List.mem_map] at hu; obtain ⟨y, -, rfl⟩ := hu; rfl) (by simp only [maxLen]; omega) (by omega) (by simp; omega) ?_
  intro v' w' hown' hg _ hat
  have hg0 : w0.grownBy w' v.ownBlock := (World.grownBy_alloc w0 _ v.ownBlock).trans hg
  have hlt := World.ownsRow.lt hown
  obtain ⟨A', c', rfl, _, _⟩ := own_slice hown'
  refine h A' _ c' w' rfl (by unfold Own; simpa using hown') ((Below.refl _ _).grown hg0 hB (fun k hk => (hlt k hk).1)) hg0 ?_
  rcases hat with e | e
  · exact .inl e
  · exact .inr ⟨_, e, by simp⟩
end
end Go.Proofs.YtpbphhpldlckbaaGreat
namespace Go.Proofs.YtpbphhpldlckbaaGreat
namespace Sn
open Go.RowKit Hd Bk Vi Rd

/-- A footer's numbers; its bytes. -/
def nums (m : Mt) : List Nat := [m.a, m.s, m.r, m.c, m.f, m.e, m.l - m.e]
def ftN (l : List Mt) : List Nat := l.length :: l.flatMap nums
def ftB (l : List Mt) : ByteArray := ⟨((ftN l).flatMap putV).toArray⟩
def ints (l : List Nat) : List Int := l.map fun (n : Nat) => (n : Int)
theorem ints_nv (l : List Nat) : (ints l).map (Value.int .i64) = nv l := by unfold ints nv; rw [List.map_map]; rfl
theorem ints_append (a b : List Nat) : ints (a ++ b) = ints a ++ ints b := List.map_append ..
theorem length_ints (l : List Nat) : (ints l).length = l.length := List.length_map ..
theorem length_nums : ∀ (l : List Mt), (l.flatMap nums).length = l.length * 7
  | [] => rfl
  | m :: l => by rw [List.flatMap_cons, List.length_append, length_nums l, List.length_cons]; show 7 + _ = _; omega
theorem nums_take (l : List Mt) (k : Nat) (m : Mt) (h : l[k]? = some m) : (l.take (k + 1)).flatMap nums = (l.take k).flatMap nums ++ nums m := by
  rw [List.take_add_one, h, List.flatMap_append]; simp

set_option maxHeartbeats 6400000 in
set_option maxRecDepth 100000 in
theorem foot_any (A : Option Addr) (n c : Nat) (l : List Mt) (w : World) (hrd : Rd w w.heap.size 7 A n (fl7 l)) (hn : n ≤ 100000) (ho : okBl l = true) :
    Calls Tryz.prog 15 #[.slice A n c] w fun e w' => e = .returned (.tuple #[.string (ftB l), .int .i64 0]) ∧ Below w.heap.size w w' := by
  have mixed : Tryz.prog.follows .mixedOrders = true := by kernel_rfl
  have hln := mt_len hrd
  have hbl := blocks_any A n c l w hrd (by omega)
  rw [blE_yes ho] at hbl
  have HBL := Lib.hid hbl
  obtain ⟨hl0, hrow⟩ := okBl_row ho
  have HOK := Lib.hid (rowM_mem l none hrow)
  have hn1 : n ≤ 1000 := by omega
  have HLN := Lib.hid hln
  have HR := Lib.hid hrd
  clear hbl hrd hln hl0 hrow ho
  go_enter Tryz.func15, Tryz.ntmps15
  go_wp2_with fail
  refine HBL.out.mono ?_
  rintro e1 w1 ⟨rfl, hb1⟩
  have HB1 := Lib.hid hb1
  have HW := Lib.hid (World.ownsRow_lit (base := w.heap.size) (e := 3) (size := 1) w1 #[.int .i64 (n : Int)] 1 hb1.size (by simp [maxLen]) rfl)
  have HB2 := Lib.hid (hb1.trans ((ext_alloc w1 (.cells #[.int .i64 (n : Int)] 3)).mono hb1.size))
  clear hb1 HBL
  go_wp2_with fail
  go_loopw [5, 18] (fun s5 s18 wr => ∃ (k : Nat) (A1 : Option Addr) (n1 c1 : Nat), s18 = .int .i64 (k : Int) ∧ s5 = .slice A1 n1 c1 ∧ k ≤ n ∧ Hid (Own wr w.heap.size (.slice A1 n1 c1) (ints (n :: (l.take k).flatMap nums)) ∧ Below w.heap.size w wr)) (fun _ v _ => n - (intOf v).toNat)
  case atStart => exact ⟨0, _, _, _, by go_num, rfl, by omega, Lib.hid ⟨HW.out, HB2.out⟩⟩
  case round =>
    obtain ⟨k, A5, n5, c5, rfl, rfl, hk, HX⟩ := hrel
    by_cases hkn : k < n
    · obtain ⟨ad, m, hA, hbk, hx, hc0, hc1, hc2, hc3, hc4, hc5, hc6⟩ := mt_at (HR.out.below HX.out.2) hkn
      have hok := (okM_iff m).1 (HOK.out m (List.mem_of_getElem? hx))
      have HNT := Lib.hid (nums_take l k m hx)
      obtain ⟨ma, ms, mr, mc, mf, me, ml⟩ := m
      dsimp only at hok
      obtain ⟨d, hd⟩ : ∃ d, ml - me = d := ⟨_, rfl⟩
      have hs : IntKind.i64.wrap ((ml : Int) - (me : Int)) = (d : Int) := by rw [IntKind.wrap_i64]; omega
      have HD := Lib.hid (show nums ⟨ma, ms, mr, mc, mf, me, ml⟩ = [ma, ms, mr, mc, mf, me, d] by unfold nums; rw [hd])
      have hown : Own (wr.alloc (.cells #[.int .i64 (ma : Int), .int .i64 (ms : Int), .int .i64 (mr : Int), .int .i64 (mc : Int), .int .i64 (mf : Int), .int .i64 (me : Int), .int .i64 (ml : Int)] 38)) w.heap.size (.slice A5 n5 c5) (ints (n :: (l.take k).flatMap nums)) := HX.out.1.below (ext_alloc wr _) (Nat.le_refl _)
      have HO := Lib.hid hown
      have HLE := Lib.hid (show (ints (n :: (l.take k).flatMap nums)).length ≤ 1099511627776 by rw [length_ints, List.length_cons, length_nums, List.length_take]; omega)
      have HB3 := Lib.hid (HX.out.2.trans ((ext_alloc wr (.cells #[.int .i64 (ma : Int), .int .i64 (ms : Int), .int .i64 (mr : Int), .int .i64 (mc : Int), .int .i64 (mf : Int), .int .i64 (me : Int), .int .i64 (ml : Int)] 38)).mono HX.out.2.size))
      subst hA
      clear hown hx hd hok HX hbk
      go_wp2_with (at_builtin; go_loud (refine appendL (g := wr.heap.size + 1) [ma, ms, mr, mc, mf, me, d] (by simp) rfl HO.out HLE.out (by simp) (by simp) HB3.out.size ?_; intro A1 n1 c1 w3 hn1 hown1 hb1 hg1 hat1))
      have HF := Lib.hid (show ints (n :: (l.take (k + 1)).flatMap nums) = ints (n :: (l.take k).flatMap nums) ++ [(ma : Int), (ms : Int), (mr : Int), (mc : Int), (mf : Int), (me : Int), (d : Int)] by
        rw [HNT.out, HD.out, ← List.cons_append, ints_append]; rfl)
      go_roundw
      case rel => exact ⟨k + 1, A1, n1, c1, by go_num, rfl, by omega, Lib.hid ⟨by rw [HF.out]; exact hown1, HB3.out.trans hb1⟩⟩
      case measure => simp [intOf]; omega
    · obtain rfl : k = n := by omega
      have h9 := HX.out
      rw [List.take_of_length_le (by rw [HLN.out]; omega)] at h9
      have hrd : Rd wr wr.heap.size 1 A5 n5 (nv (ftN l)) := by
        obtain ⟨h, h2⟩ := h9.1.rd0
        rw [← h2, ints_nv, show k :: l.flatMap nums = ftN l by unfold ftN; rw [HLN.out]] at h
        exact h
      have hn5 : n5 ≤ 7001 := by
        obtain ⟨-, h2⟩ := h9.1.rd0
        rw [length_ints, List.length_cons, length_nums, HLN.out] at h2
        omega
      have hall : ∀ x ∈ ftN l, x < 9223372036854775808 := by
        intro x hx
        unfold ftN at hx
        rcases List.mem_cons.1 hx with rfl | hx
        · rw [HLN.out]; omega
        · obtain ⟨m, hm, hx⟩ := List.mem_flatMap.1 hx
          have := (okM_iff m).1 (HOK.out m hm)
          simp only [nums, List.mem_cons, List.not_mem_nil, or_false] at hx
          omega
      have HN := Lib.hid (numbers_any A5 n5 c5 (ftN l) wr hrd (by omega) hall)
      have HB2 := Lib.hid h9.2
      clear h9 HX hrd hall hn5
      go_wp2_with fail
      refine HN.out.mono ?_
      rintro e5 w5 ⟨rfl, hb5⟩
      have HB5 := Lib.hid (HB2.out.trans (hb5.mono HB2.out.size))
      clear hb5
      go_wp2_with fail
      go_ret2
      exact ⟨rfl, HB5.out⟩
end Sn
end Go.Proofs.YtpbphhpldlckbaaGreat
namespace Go.Proofs.YtpbphhpldlckbaaGreat
namespace Sn
open Go.RowKit Hd Fm Bk Rd

/-- A block stands where its Meta says. -/
def Stands (s : ByteArray) (m : Mt) (R : List (Int × Int × ByteArray)) : Prop := GF s m.a ∧ metaF (fr s m.a) = some m ∧ dec (fbody s m.a).data.toList = some R
theorem get_yes (s : ByteArray) (p : Nat) (w : World) (hs : s.size ≤ 1000000) (hp : p ≤ 2000000) (h : GF s p) :
    Calls Tryz.prog 33 #[.string s, .int .i64 (p : Int)] w fun e w' => e = .returned (.tuple #[fagg (by4 s.data.toList p) (fbody s p) p (fto s p), .int .i64 0]) ∧ Below w.heap.size w w' := by
  refine (Get_any s p w hs hp).mono ?_
  rintro e w' ⟨⟨-, rfl⟩ | ⟨hn, -⟩, hb⟩
  · exact ⟨rfl, hb⟩
  · exact absurd h hn
theorem meta_yes (k : Nat) (b : ByteArray) (p t : Nat) (m : Mt) (w : World) (hb : b.size ≤ 1000000) (hp : p ≤ t) (ht : t ≤ 1000000000) (h : metaF (k, b, p, t) = some m) :
    Calls Tryz.prog 21 #[fagg k b p t] w fun e w' => e = .returned (.tuple #[mv m, .bool true]) ∧ Below w.heap.size w w' := by
  refine (meta_any k b p t w hb hp ht).mono ?_
  rintro e w' ⟨⟨m', h', rfl⟩ | ⟨h', -⟩, hb⟩
  · rw [h] at h'; cases h'; exact ⟨rfl, hb⟩
  · rw [h] at h'; cases h'
theorem dec_own (s : ByteArray) (l : List (Int × Int × ByteArray)) (w : World) (hs : s.size ≤ 1000000) (h : dec s.data.toList = some l) :
    Calls Tryz.prog 22 #[.string s] w fun e w' => (∃ v, e = .returned (.tuple #[v, .int .i64 0]) ∧ Own3 w' w.heap.size v l) ∧ Below w.heap.size w w' := by
  refine (Decode_any s w hs).mono ?_
  rintro e w' ⟨⟨l', v, hl, rfl, hown⟩ | ⟨hl, -⟩, hb⟩
  · rw [h] at hl; cases hl; exact ⟨⟨v, rfl, hown⟩, hb⟩
  · rw [h] at hl; cases hl
set_option maxHeartbeats 6400000 in
set_option maxRecDepth 100000 in
theorem load_ok (s : ByteArray) (m : Mt) (R : List (Int × Int × ByteArray)) (w : World) (hs : s.size ≤ 1000000) (h : Stands s m R) :
    Calls Tryz.prog 16 #[.string s, mv m] w fun e w' => (∃ v, e = .returned (.tuple #[v, .int .i64 0]) ∧ Own3 w' w.heap.size v R) ∧ Below w.heap.size w w' := by
  have mixed : Tryz.prog.follows .mixedOrders = true := by kernel_rfl
  obtain ⟨hg, hm, hd⟩ := h
  have hgt := GF_to hg
  obtain ⟨k2, ka, ks, -⟩ := metaF_some hm
  have hbs : (fbody s m.a).size ≤ 1000000 := by unfold fbody; rw [ByteArray.size_extract]; omega
  have HGE := Lib.hid (fun w => get_yes s m.a w hs (by omega) hg)
  have HME := Lib.hid (fun w => meta_yes _ _ _ _ m w hbs (by omega) (by omega) hm)
  have HDE := Lib.hid (fun w => dec_own (fbody s m.a) R w hbs hd)
  have hk : by4 s.data.toList m.a = 2 := k2
  have hsz : m.s = fto s m.a - m.a := ks
  have hs2 : IntKind.i64.wrap ((fto s m.a : Int) - (m.a : Int)) = (m.s : Int) := by rw [IntKind.wrap_i64]; omega
  have HB := Lib.hid (ext_alloc w (.cells #[.int .i64 m.a, .int .i64 m.s, .int .i64 m.r, .int .i64 m.c, .int .i64 m.f, .int .i64 m.e, .int .i64 m.l] 38))
  have HM := Lib.hid (show Mb (w.alloc (.cells #[.int .i64 m.a, .int .i64 m.s, .int .i64 m.r, .int .i64 m.c, .int .i64 m.f, .int .i64 m.e, .int .i64 m.l] 38)) w.heap.size m.a m.s m.r m.c m.f m.e m.l from heap_alloc_new w _)
  rw [hk] at HGE
  unfold mv magg fagg at HME
  rw [hk] at HME
  unfold fagg at HGE
  generalize fto s m.a = T at *
  generalize fbody s m.a = BD at *
  obtain ⟨ma, ms, mr, mc, mf, me, ml⟩ := m
  dsimp only at *
  unfold mv magg
  dsimp only
  clear hg hm hd k2 ka ks hk hsz hgt
  go_enter Tryz.func16, Tryz.ntmps16
  go_wp2_with fail
  have a0 := HM.out.c0
  generalize w.alloc (.cells #[.int .i64 ma, .int .i64 ms, .int .i64 mr, .int .i64 mc, .int .i64 mf, .int .i64 me, .int .i64 ml] 38) = w0 at *
  go_wp2_with fail
  refine (HGE.out _).mono ?_
  rintro e1 w1 ⟨rfl, hb1⟩
  have HB1 := Lib.hid (HB.out.trans (hb1.mono HB.out.size))
  have HM1 := Lib.hid (HM.out.below hb1 HM.out.lt)
  have HB2 := Lib.hid (HB1.out.trans ((ext_alloc w1 (.cells #[.int .i64 2, .string BD, .int .i64 ma, .int .i64 T] 59)).mono HB1.out.size))
  have HM2 := Lib.hid (HM1.out.below (ext_alloc w1 (.cells #[.int .i64 2, .string BD, .int .i64 ma, .int .i64 T] 59)) HM1.out.lt)
  have HF2 := Lib.hid (show Fb (w1.alloc (.cells #[.int .i64 2, .string BD, .int .i64 ma, .int .i64 T] 59)) w1.heap.size 2 BD ma T from heap_alloc_new w1 _)
  clear hb1 a0
  go_upto_region 2 with (fail)
  generalize w1.alloc (.cells #[.int .i64 2, .string BD, .int .i64 ma, .int .i64 T] 59) = w2 at *
  have q0 := HF2.out.c0
  have q1 := HF2.out.c1
  have q2 := HF2.out.c2
  have q3 := HF2.out.c3
  have a1 := HM2.out.c1
  go_wp2_with fail
  refine (HDE.out _).mono ?_
  rintro e3 w3 ⟨⟨v3, rfl, hown3⟩, hb3⟩
  have HF3 := Lib.hid (HF2.out.below hb3 HF2.out.lt)
  have HM3 := Lib.hid (HM2.out.below hb3 HM2.out.lt)
  have HB3 := Lib.hid (HB2.out.trans (hb3.mono HB2.out.size))
  have HO3 := Lib.hid hown3
  have HZ := Lib.hid HB2.out.size
  clear hb3 q0 q1 q2 q3 a1 hown3
  have q0 := HF3.out.c0
  have q1 := HF3.out.c1
  have q2 := HF3.out.c2
  have q3 := HF3.out.c3
  go_wp2_with fail
  refine (HME.out _).mono ?_
  rintro e4 w4 ⟨rfl, hb4⟩
  have HM4 := Lib.hid ((HM3.out.below hb4 HM3.out.lt).below (ext_alloc w4 (.cells #[.int .i64 ma, .int .i64 ms, .int .i64 mr, .int .i64 mc, .int .i64 mf, .int .i64 me, .int .i64 ml] 38)) (Nat.lt_of_lt_of_le HM3.out.lt hb4.size))
  have HB4 := Lib.hid ((HB3.out.trans (hb4.mono HB3.out.size)).trans ((ext_alloc w4 (.cells #[.int .i64 ma, .int .i64 ms, .int .i64 mr, .int .i64 mc, .int .i64 mf, .int .i64 me, .int .i64 ml] 38)).mono (Nat.le_trans HB3.out.size hb4.size)))
  have HO4 := Lib.hid ((HO3.out.below hb4 (Nat.le_refl _)).below (ext_alloc w4 (.cells #[.int .i64 ma, .int .i64 ms, .int .i64 mr, .int .i64 mc, .int .i64 mf, .int .i64 me, .int .i64 ml] 38)) (Nat.le_refl _))
  have HN4 := Lib.hid (show Mb (w4.alloc (.cells #[.int .i64 ma, .int .i64 ms, .int .i64 mr, .int .i64 mc, .int .i64 mf, .int .i64 me, .int .i64 ml] 38)) w4.heap.size ma ms mr mc mf me ml from heap_alloc_new w4 _)
  clear hb4 q0 q1 q2 q3
  go_upto_region 10 with (fail)
  generalize w4.alloc (.cells #[.int .i64 ma, .int .i64 ms, .int .i64 mr, .int .i64 mc, .int .i64 mf, .int .i64 me, .int .i64 ml] 38) = w5 at *
  have q0 := HM4.out.c0
  have q1 := HM4.out.c1
  have q2 := HM4.out.c2
  have q3 := HM4.out.c3
  have q4 := HM4.out.c4
  have q5 := HM4.out.c5
  have q6 := HM4.out.c6
  have r0 := HN4.out.c0
  have r1 := HN4.out.c1
  have r2 := HN4.out.c2
  have r3 := HN4.out.c3
  have r4 := HN4.out.c4
  have r5 := HN4.out.c5
  have r6 := HN4.out.c6
  go_wp2_with fail
  go_ret2
  exact ⟨⟨v3, rfl, HO4.out.lower HZ.out⟩, HB4.out⟩
end Sn
end Go.Proofs.YtpbphhpldlckbaaGreat
