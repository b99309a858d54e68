/- block.Decode. squash.Pack. squash: one byte again and again takes a few bytes: plain lists, no program. squash.Pack, Unpack as their laws use them. -/
import Derived.Test.YtpbphhpldlckbaaGreatSc36
import Derived.Test.YtpbphhpldlckbaaGreatSc37
import Derived.Deep.QuietTactic
import Derived.BigQuiet
import Derived.Test.YtpbphhpldlckbaaGreatSc25
import Derived.Test.YtpbphhpldlckbaaGreatSc33
import Derived.Test.YtpbphhpldlckbaaGreatSc12
import Derived.Test.YtpbphhpldlckbaaGreatSc35
namespace Go.Proofs.YtpbphhpldlckbaaGreat
namespace Bk
open Go.RowKit Tk Vi Sq Rd

theorem unS_le {b r : List UInt8} (h : unS b = some r) : r.length ≤ 20000 := unS_len b r h
theorem dec_peek {b : List UInt8} (h : peekB b = none) : dec b = none := by unfold dec; rw [h]
theorem dec_at {b r : List UInt8} {md raw count first early late : Nat} (h : peekB b = some (md, raw, count, first, early, late, r)) :
    dec b = match rawB md raw r with
      | none => none
      | some s => match split s with
        | none => none
        | some l => if fits l count first early late = true then some l else none := by unfold dec; rw [h]; rfl
theorem dec_raw {b r : List UInt8} {md raw count first early late : Nat} (h : peekB b = some (md, raw, count, first, early, late, r)) (h2 : rawB md raw r = none) : dec b = none := by rw [dec_at h, h2]
theorem dec_split {b r s : List UInt8} {md raw count first early late : Nat} (h : peekB b = some (md, raw, count, first, early, late, r)) (h2 : rawB md raw r = some s) (h3 : split s = none) : dec b = none := by
  rw [dec_at h, h2]; simp only [h3]
theorem dec_fits {b r s : List UInt8} {md raw count first early late : Nat} {l : List (Int × Int × ByteArray)} (h : peekB b = some (md, raw, count, first, early, late, r)) (h2 : rawB md raw r = some s) (h3 : split s = some l) :
    dec b = if fits l count first early late = true then some l else none := by
  rw [dec_at h, h2]; simp only [h3]
theorem peek_le {b r : List UInt8} {md raw count first early late : Nat} (h : peekB b = some (md, raw, count, first, early, late, r)) : r.length ≤ b.length ∧ raw ≤ 20000 ∧ 1 ≤ count ∧ count ≤ raw := by
  unfold peekB at h
  split at h; · simp at h
  rename_i m b'
  split at h
  · rename_i raw' count' first' early' more r' hf
    split at h
    · rename_i hm
      simp only [Option.some.injEq, Prod.mk.injEq] at h
      obtain ⟨-, rfl, rfl, -, -, -, rfl⟩ := h
      rw [mayH_iff] at hm
      obtain ⟨l, -, -, hb, -⟩ := fin_some 5 [] b' _ _ hf
      refine ⟨?_, hm.2.1, hm.2.2.1, hm.2.2.2.1⟩
      rw [hb, List.length_cons, List.length_append]; omega
    · simp at h
  · simp at h
theorem fits_iff (l : List (Int × Int × ByteArray)) (count first early late : Nat) : fits l count first early late = true ↔ l.length = count ∧ (at3 l 0).1 = first ∧ (at3 l 0).2.1 = early ∧ (at3 l (l.length - 1)).2.1 = late := by simp [fits]
/-- What block.Decode gives. -/
def DecAns (s : ByteArray) (w : World) (e : Ending) (w' : World) : Prop := (∃ l v, dec s.data.toList = some l ∧ e = .returned (.tuple #[v, .int .i64 0]) ∧ Own3 w' w.heap.size v l) ∨
  (dec s.data.toList = none ∧ ∃ x, e = .returned (.tuple #[.slice none 0 0, .int .i64 x]) ∧ x ≠ 0)
set_option maxHeartbeats 6400000 in
set_option maxRecDepth 100000 in
theorem Decode_any (s : ByteArray) (w : World) (hs : s.size ≤ 1000000) :
    Calls Tryz.prog 22 #[.string s] w fun e w' => DecAns s w e w' ∧ Below w.heap.size w w' := by
  have mixed : Tryz.prog.follows .mixedOrders = true := by kernel_rfl
  have HP := Lib.hid (fun w => peek_any s w hs)
  have hsl : s.data.toList.length = s.size := rfl
  go_enter Tryz.func22, Tryz.ntmps22
  go_wp2_with fail
  refine (HP.out _).mono ?_
  rintro e1 w1 ⟨hp, hb1⟩
  have HB1 := Lib.hid hb1
  clear HP hb1
  rcases hp with ⟨md, raw, count, first, early, late, r, hpk, rfl⟩ | ⟨hpk, x, rfl, hx⟩
  · have hle := peek_le hpk
    have hrl : r.data.toList.length = r.size := rfl
    have HRW := Lib.hid (fun w => raw_any raw count first early late md r w (by omega))
    unfold hagg at HRW ⊢
    have hH : Hb (w1.alloc (.cells #[.int .i64 0, .int .i64 0, .int .i64 raw, .int .i64 count, .int .i64 first, .int .i64 early, .int .i64 late, .int .i64 md, .string r] 87)) w1.heap.size raw count first early late md r := heap_alloc_new w1 _
    have hbw := HB1.out.alloc (o := .cells #[.int .i64 0, .int .i64 0, .int .i64 raw, .int .i64 count, .int .i64 first, .int .i64 early, .int .i64 late, .int .i64 md, .string r] 87) HB1.out.size
    have HH := Lib.hid (And.intro hH hbw)
    have HPK := Lib.hid hpk
    have HLE := Lib.hid hle.2
    clear hsl hle hrl hpk hH hbw
    go_wp2_with fail
    refine (HRW.out _).mono ?_
    rintro e2 w2 ⟨hrw, hb2⟩
    have hH2 := HH.out.1.below hb2 HH.out.1.lt
    have HB2 := Lib.hid (HH.out.2.trans (hb2.mono HH.out.2.size))
    clear HRW HH hb2 HB1
    rcases hrw with ⟨t, hrt, rfl⟩ | ⟨hrt, x, rfl, hx⟩
    · have HRT := Lib.hid hrt
      have htl : t.size ≤ 20000 := by
        have h2 := HRT.out
        unfold rawB at h2
        split at h2; · simp at h2
        split at h2; · simp at h2
        rename_i hne
        simp only [Option.some.injEq] at h2
        subst h2
        have : t.data.toList.length = t.size := rfl
        have := HLE.out.1
        omega
      have HS := Lib.hid (split_any t w2 (by omega))
      have HH2 := Lib.hid hH2
      clear hrt htl hH2
      go_wp2_with fail
      refine HS.out.mono ?_
      rintro e3 w3 ⟨hsp, hb3⟩
      have hH3 := HH2.out.below hb3 HH2.out.lt
      have HB3 := Lib.hid (HB2.out.trans (hb3.mono HB2.out.size))
      clear HS HH2 hb3
      rcases hsp with ⟨l, hl, v, rfl, hown⟩ | ⟨hl, x, rfl, hx⟩
      · have hdf := dec_fits HPK.out HRT.out hl
        have HO := Lib.hid (Own3.lower hown HB2.out.size)
        obtain ⟨A, c, rfl, hc1, hc2, hrd⟩ := hown.rd
        have k3 := hH3.c3
        have k4 := hH3.c4
        have k5 := hH3.c5
        have k6 := hH3.c6
        have HLN := Lib.hid HLE.out.2
        clear hH3 hown hl HRT HPK
        by_cases h1 : l.length = count
        · have HLL := Lib.hid h1
          obtain ⟨m, hm⟩ : ∃ m, l.length = m + 1 := ⟨l.length - 1, by have := HLN.out.1; omega⟩
          obtain ⟨ad, q0, t0, d0, rfl, hbk, hx0, hc00, hc01, -⟩ := rec3 hrd (show 0 < l.length by omega)
          obtain ⟨ad', q1, t1, d1, hA', -, hx1, -, hc11, -⟩ := rec3 hrd (show m < l.length by omega)
          obtain rfl : ad = ad' := by simpa using hA'
          have ha0 : at3 l 0 = (q0, t0, d0) := Option.some.inj ((at3_get l 0 (by omega)).symm.trans hx0)
          have ha1 : at3 l (l.length - 1) = (q1, t1, d1) := Option.some.inj ((at3_get l (l.length - 1) (by omega)).symm.trans (by rw [hm]; exact hx1))
          have hft : fits l count first early late = true ↔ q0 = first ∧ t0 = early ∧ t1 = late := by rw [fits_iff, ha0, ha1]; simp only; exact ⟨fun h => h.2, fun h => ⟨h1, h⟩⟩
          have hz : ad.add (0 * 3) = ad := by rw [Nat.zero_mul]; rfl
          rw [hz] at hc00 hc01
          have hcm : c ≤ 9223372036854775807 := by unfold maxLen at hc2; omega
          subst h1
          have HO4 := Lib.hid (show Own3 w3 w.heap.size (.slice (some ad) (m + 1) c) l by have := HO.out; rwa [hm] at this)
          rw [hm] at hc1 k3 ⊢
          clear hm hx0 hx1 hA' ha0 ha1 hz hrd hc2 HLN HLL
          have i1 : (0 : Int) < (m : Int) + 1 := by omega
          have i2 : IntKind.i64.wrap (((m : Int) + 1) - 1) = (m : Int) := by rw [IntKind.wrap_i64]; omega
          by_cases h2 : q0 = first
          · subst h2
            by_cases h3 : t0 = early
            · subst h3
              by_cases h4 : t1 = late
              · subst h4
                rw [if_pos (hft.2 ⟨rfl, rfl, rfl⟩)] at hdf
                have HD := Lib.hid hdf
                clear hdf hft
                go_wp2_with fail
                go_quiet (fail)
                go_wp2_with fail
                go_ret2
                exact ⟨.inl ⟨l, .slice (some ad) (m + 1) c, HD.out, rfl, HO4.out⟩, below_drewN HB3.out _⟩
              · rw [if_neg (fun h => h4 (hft.1 h).2.2)] at hdf
                have HD := Lib.hid hdf
                have b4 : ((t1 : Int) == (late : Int)) = false := by rw [beq_eq_false_iff_ne]; exact h4
                have c4 : ((t1 : Int) != (late : Int)) = true := by rw [bne_iff_ne]; exact h4
                clear hdf hft h4
                go_wp2_with fail
                go_quiet (fail)
                go_wp2_with fail
                go_ret2
                exact ⟨.inr ⟨HD.out, 170, rfl, by decide⟩, below_drewN HB3.out _⟩
            · rw [if_neg (fun h => h3 (hft.1 h).2.1)] at hdf
              have HD := Lib.hid hdf
              have b3 : ((t0 : Int) == (early : Int)) = false := by rw [beq_eq_false_iff_ne]; exact h3
              have c3 : ((t0 : Int) != (early : Int)) = true := by rw [bne_iff_ne]; exact h3
              clear hdf hft h3
              go_wp2_with fail
              go_quiet (fail)
              go_wp2_with fail
              go_ret2
              exact ⟨.inr ⟨HD.out, 170, rfl, by decide⟩, below_drewN HB3.out _⟩
          · rw [if_neg (fun h => h2 (hft.1 h).1)] at hdf
            have HD := Lib.hid hdf
            have b2 : ((q0 : Int) == (first : Int)) = false := by rw [beq_eq_false_iff_ne]; exact h2
            have c2 : ((q0 : Int) != (first : Int)) = true := by rw [bne_iff_ne]; exact h2
            clear hdf hft h2
            go_wp2_with fail
            go_quiet (fail)
            go_wp2_with fail
            go_ret2
            exact ⟨.inr ⟨HD.out, 170, rfl, by decide⟩, below_drewN HB3.out _⟩
        · rw [if_neg (by rw [fits_iff]; exact fun h => h1 h.1)] at hdf
          have HD := Lib.hid hdf
          have b1 : ((l.length : Int) == (count : Int)) = false := by rw [beq_eq_false_iff_ne]; omega
          have b2 : ((l.length : Int) != (count : Int)) = true := by rw [bne_iff_ne]; omega
          have b3 : (l.length == count) = false := by rw [beq_eq_false_iff_ne]; omega
          have b4 : (l.length != count) = true := by rw [bne_iff_ne]; omega
          clear hdf h1 hrd
          go_wp2_with fail
          go_quiet (fail)
          go_wp2_with fail
          go_ret2
          exact ⟨.inr ⟨HD.out, 170, rfl, by decide⟩, below_drewN HB3.out _⟩
      · have HD := Lib.hid (dec_split HPK.out HRT.out hl)
        have hb1 : (x != 0) = true := by rw [bne_iff_ne]; exact hx
        have hb2 : (x == 0) = false := by rw [beq_eq_false_iff_ne]; exact hx
        clear hl
        go_wp2_with fail
        go_ret2
        exact ⟨.inr ⟨HD.out, x, rfl, hx⟩, HB3.out⟩
    · have HD := Lib.hid (dec_raw HPK.out hrt)
      have hb1 : (x != 0) = true := by rw [bne_iff_ne]; exact hx
      have hb2 : (x == 0) = false := by rw [beq_eq_false_iff_ne]; exact hx
      clear hrt
      go_wp2_with fail
      go_ret2
      exact ⟨.inr ⟨HD.out, x, rfl, hx⟩, HB2.out⟩
  · have HD := Lib.hid (dec_peek hpk)
    have hb1 : (x != 0) = true := by rw [bne_iff_ne]; exact hx
    have hb2 : (x == 0) = false := by rw [beq_eq_false_iff_ne]; exact hx
    have HB2 := Lib.hid (HB1.out.alloc (o := .cells #[.int .i64 0, .int .i64 0, .int .i64 0, .int .i64 0, .int .i64 0, .int .i64 0, .int .i64 0, .int .i64 0, .string ⟨#[]⟩] 87) HB1.out.size)
    clear hpk
    unfold hagg
    go_wp2_with fail
    go_ret2
    exact ⟨.inr ⟨HD.out, x, rfl, hx⟩, HB2.out⟩
end Bk
end Go.Proofs.YtpbphhpldlckbaaGreat
namespace Go.Proofs.YtpbphhpldlckbaaGreat
namespace Sq
open Go.RowKit Zr Vi

theorem ba_append (a b : List UInt8) : (⟨a.toArray⟩ : ByteArray) ++ ⟨b.toArray⟩ = ⟨(a ++ b).toArray⟩ := by
  apply ByteArray.ext
  simp

theorem tb_runs_le (l : List Int) : (Tb.tb (Tb.runs (Hf.lns l))).length ≤ 10000 := by
  have hg := Hf.lns_good l
  have hlen := Hf.length_lns l
  have h1 := Tb.runs_good (Hf.lns l) hg.rng
  have h2 := Tb.length_le_flat _ _ h1.1
  rw [h1.2] at h2
  have := Tb.length_tb_le (Tb.runs (Hf.lns l)) (fun x hx => by
    have := Tb.good_mem _ _ h1.1 x hx
    rw [h1.2] at this; omega)
  omega
theorem hbyt_le (l : List Int) (h : l.length ≤ 20000) : (Hf.hbyt l).length ≤ 100000 := by
  have h1 := tb_runs_le l
  have h2 := Hf.enc_len (Hf.lns l) (Hf.lns_good l).rng l
  have h3 : (Hf.hb l).length ≤ 310000 := by
    unfold Hf.hb
    rw [List.length_append]; omega
  have h4 := Bt.length_byt (Hf.hb l)
  show (Bt.byt (Hf.hb l)).length ≤ _
  omega

/-- Numbers as bytes, one behind the other. -/
def puts (N : List Nat) : List UInt8 := N.flatMap putV
theorem puts_take (N : List Nat) (k : Nat) (h : k < N.length) : puts (N.take (k + 1)) = puts (N.take k) ++ putV N[k] := by
  unfold puts
  rw [List.take_add_one, List.getElem?_eq_getElem h, List.flatMap_append]
  simp

set_option maxHeartbeats 6400000 in
set_option maxRecDepth 100000 in
theorem spack_any (s : ByteArray) (w : World) (hs : s.size ≤ 20000) :
    Calls Tryz.prog 26 #[.string s] w fun e w' => ∃ arr, Sx.Sorted s.data.toList arr ∧ e = .returned (.tuple #[.string ⟨(packed s.data.toList arr).toArray⟩, .int .i64 0]) ∧ Below w.heap.size w w' := by
  have mixed : Tryz.prog.follows .mixedOrders = true := by kernel_rfl
  have HS := Lib.hid (symbols_any s w hs)
  go_enter Tryz.func26, Tryz.ntmps26
  go_wp2_with fail
  refine HS.out.mono ?_
  rintro e1 w1 ⟨arr, v1, hso, rfl, hown1, hb1⟩
  obtain ⟨A1, c1, rfl, hc1, hm1, hr1⟩ := hown1.rd
  have hsl := sy_len hso
  have hpl := pri_le hso
  have hsz : s.data.toList.length = s.size := rfl
  rw [hsz] at hsl hpl
  have hok := sy_ok (s := s.data.toList) (A := arr)
  have hpk : packed s.data.toList arr = puts [s.size, Bw.pri arr, (sy s.data.toList arr).length] ++ Hf.hbyt (sy s.data.toList arr) := by
    unfold packed puts
    simp only [List.flatMap_cons, List.flatMap_nil, List.append_nil, List.append_assoc, hsz]
  have HPK := Lib.hid hpk
  have HSO := Lib.hid hso
  have HB1 := Lib.hid hb1
  have HR1 := Lib.hid hr1
  have HOK := Lib.hid hok
  generalize sy s.data.toList arr = sy0 at *
  generalize hpr : Bw.pri arr = pr at *
  have HPR := Lib.hid hpr
  clear hso hown1 hb1 hr1 hok hpk hpr hsz HS
  go_wp2_with fail
  obtain ⟨N, hN⟩ : ∃ N, N = [s.size, pr, sy0.length] := ⟨_, rfl⟩
  have hNl : N.length = 3 := by rw [hN]; rfl
  have hNb : ∀ x ∈ N, x ≤ 20000 := by
    rw [hN]; intro x hx
    simp at hx
    omega
  have hlit := rd_lit w1 3 (N.map fun x : Nat => (x : Int))
  have harr : (((N.map fun x : Nat => (x : Int)).map (Value.int .i64)).toArray) = #[.int .i64 (s.size : Int), .int .i64 (pr : Int), .int .i64 (sy0.length : Int)] := by rw [hN]; rfl
  rw [harr] at hlit
  rw [← hN] at HPK
  have hbw : Below w1.heap.size w1 (w1.alloc (.cells #[.int .i64 (s.size : Int), .int .i64 (pr : Int), .int .i64 (sy0.length : Int)] 3)) := (Below.refl _ _).alloc (Nat.le_refl _) _
  have HL := Lib.hid (And.intro hlit hbw)
  have HNB := Lib.hid hNb
  have hsyl : sy0.length ≤ 20000 := by omega
  clear hlit harr hbw hNb hN
  generalize w1.alloc (.cells #[.int .i64 (s.size : Int), .int .i64 (pr : Int), .int .i64 (sy0.length : Int)] 3) = w2 at *
  have hps : (⟨#[]⟩ : ByteArray) = ⟨(puts (N.take 0)).toArray⟩ := rfl
  go_loopg [7, 29] 3 (fun kx s7 s29 wr => ∃ (k : Nat) (t : ByteArray), s7 = .string t ∧ s29 = .int .i64 (k : Int) ∧ k ≤ 3 ∧ 3 - k ≤ kx ∧ t.size ≤ 9 * k ∧ Hid (t = ⟨(puts (N.take k)).toArray⟩) ∧ Aside (Below w2.heap.size w2 wr))
  case atStart => exact ⟨0, _, rfl, rfl, by omega, by omega, Nat.le_refl 0, hps, Below.refl _ _⟩
  case round =>
    clear hps
    obtain ⟨k, t, rfl, rfl, hk, hkx, hts, ht, H⟩ := hrel
    by_cases hlt : k < 3
    · have hrd := HL.out.1.below H.out
      rw [List.length_map, hNl] at hrd
      obtain ⟨ad, x, e1, had, hx, hcell⟩ := hrd.int1 (k := k) hlt
      cases e1
      rw [Addr.add_lit, Nat.zero_add] at hcell
      have hkl : k < N.length := by omega
      rw [List.getElem?_map, List.getElem?_eq_getElem hkl, Option.map_some, Option.some.injEq] at hx
      subst hx
      have hnb := HNB.out N[k] (List.getElem_mem hkl)
      have HP := Lib.hid (put_any N[k] wr (by omega))
      have hst : t ++ vtxt N[k] = ⟨(puts (N.take (k + 1))).toArray⟩ := by
        rw [ht.out, puts_take N k hkl]
        exact ba_append _ _
      have HST := Lib.hid hst
      have hvs : (vtxt N[k]).size ≤ 9 := by
        show (putV N[k]).toArray.size ≤ 9
        rw [List.size_toArray]
        exact length_putV_le N[k] 8 (by have : (128 : Nat) ^ (8 + 1) = 9223372036854775808 := by decide
                                        omega)
      generalize N[k] = y at *
      clear hrd had hst hkl
      go_wp2_with fail
      refine HP.out.mono ?_
      rintro e3 w3 ⟨rfl, hb3⟩
      have HX : Aside (Below w2.heap.size w2 w3) := ext_trans H.out hb3
      generalize vtxt y = vt at *
      clear hb3 HP
      go_wp2_with fail
      go_roundg (3 - (k + 1))
      case measure => omega
      case rel => exact ⟨k + 1, _, rfl, by go_num, by omega, by omega, by (rw [ByteArray.size_append]; omega), HST.out, HX.out⟩
    · obtain rfl : k = 3 := by omega
      have htt : t = ⟨(puts N).toArray⟩ := by rw [ht.out, List.take_of_length_le (by omega)]
      have hb14 : Below w1.heap.size w1 wr := ext_trans HL.out.2 H.out
      have hr4 := (HR1.out.below hb14).more hb14.size
      have HE := Lib.hid (Hf.encode_any A1 sy0.length c1 sy0 wr hsyl HOK.out hr4)
      have HBB := Lib.hid (ext_trans HB1.out hb14)
      have hfin : t ++ ⟨(Hf.hbyt sy0).toArray⟩ = ⟨(packed s.data.toList arr).toArray⟩ := by
        rw [HPK.out, htt]
        exact ba_append _ _
      have HFIN := Lib.hid hfin
      have hbs : (⟨(Hf.hbyt sy0).toArray⟩ : ByteArray).size ≤ 1000000 := by
        show (Hf.hbyt sy0).toArray.size ≤ _
        rw [List.size_toArray]
        exact Nat.le_trans (hbyt_le sy0 hsyl) (by omega)
      generalize (⟨(Hf.hbyt sy0).toArray⟩ : ByteArray) = hb at *
      clear htt hb14 hr4 hfin H ht
      go_wp2_with fail
      refine HE.out.mono ?_
      rintro e5 w5 ⟨rfl, hb5⟩
      have HX := Lib.hid (ext_trans HBB.out hb5)
      clear hb5 HE
      go_wp2_with fail
      go_ret2
      exact ⟨arr, HSO.out, by rw [← HFIN.out]; rfl, HX.out⟩
end Sq
end Go.Proofs.YtpbphhpldlckbaaGreat
namespace Go.Proofs.YtpbphhpldlckbaaGreat
namespace Tb
open Bt
theorem stepR_le (R : List (Int × Int)) (n : Int) : (stepR R n).length ≤ R.length + 1 := by
  unfold stepR
  split
  · rename_i y k h
    split
    · rw [List.length_append, List.length_dropLast]; simp
    · simp
  · simp
theorem stepR_last (R : List (Int × Int)) (n : Int) : ∃ k, (stepR R n).getLast? = some (n, k) := by
  unfold stepR
  split
  · rename_i y k h
    split
    · rename_i e; subst e; exact ⟨k + 1, by simp⟩
    · exact ⟨1, by simp⟩
  · exact ⟨1, by simp⟩
theorem stepR_same (R : List (Int × Int)) (n k : Int) (h : R.getLast? = some (n, k)) : (stepR R n).length ≤ R.length := by
  unfold stepR
  rw [h]
  simp only [if_true]
  rw [List.length_append, List.length_dropLast]
  rcases R with _ | ⟨x, r⟩
  · simp at h
  · simp
theorem foldl_same : ∀ (c : Nat) (R : List (Int × Int)) (n k : Int), R.getLast? = some (n, k) → ((List.replicate c n).foldl stepR R).length ≤ R.length
  | 0, R, n, k, h => by simp
  | c + 1, R, n, k, h => by
    rw [List.replicate_succ, List.foldl_cons]
    obtain ⟨k', h'⟩ := stepR_last R n
    have := foldl_same c (stepR R n) n k' h'
    have := stepR_same R n k h
    omega
theorem foldl_zeros (c : Nat) (R : List (Int × Int)) (n : Int) : ((List.replicate c n).foldl stepR R).length ≤ R.length + 1 := by
  rcases c with _ | c
  · simp
  · rw [List.replicate_succ, List.foldl_cons]
    obtain ⟨k', h'⟩ := stepR_last R n
    have := foldl_same c (stepR R n) n k' h'
    have := stepR_le R n
    omega
theorem runs_few (a b y : Int) (c d : Nat) : (runs (a :: b :: (List.replicate c 0 ++ y :: List.replicate d 0))).length ≤ 5 := by
  unfold runs
  rw [List.foldl_cons, List.foldl_cons, List.foldl_append, List.foldl_cons]
  have h1 := foldl_zeros d (stepR (List.foldl stepR (stepR (stepR [] a) b) (List.replicate c 0)) y) 0
  have h2 := stepR_le (List.foldl stepR (stepR (stepR [] a) b) (List.replicate c 0)) y
  have h3 := foldl_zeros c (stepR (stepR [] a) b) 0
  have h4 := stepR_le (stepR [] a) b
  have h5 := stepR_le [] a
  simp only [List.length_nil] at h5
  omega
theorem bl_le (n : Nat) (h : n < 512) : bl n ≤ 9 := by
  rcases Nat.eq_zero_or_pos n with rfl | h0
  · decide
  · have := (bl_spec n h0).1
    rcases Nat.lt_or_ge (bl n) 10 with h9 | h9
    · omega
    · have := Nat.pow_le_pow_right (n := 2) (by omega) (show 9 ≤ bl n - 1 by omega)
      simp only [show (2 : Nat) ^ 9 = 512 by rfl] at this
      omega
theorem tb_le : ∀ (R : List (Int × Int)) (last : Int), Good last R → (flat R).length < 512 → (tb R).length ≤ 21 * R.length
  | [], _, _, _ => by simp [tb]
  | x :: R, last, h, hl => by
    have hx := h.2.2.2.1
    have e : tb (x :: R) = (toB 4 x.1.toNat ++ gam x.2.toNat) ++ tb R := rfl
    have e2 : flat (x :: R) = List.replicate x.2.toNat x.1 ++ flat R := rfl
    rw [e2, List.length_append, List.length_replicate] at hl
    have ih := tb_le R x.1 h.2.2.2.2 (by omega)
    have hb := bl_le x.2.toNat (by omega)
    rw [e, List.length_append, List.length_append, length_toB, length_gam _ (by omega), List.length_cons]
    omega
end Tb

namespace Sq
open Vi Zr Hf Sx

section
variable {A : List Nat} {n : Nat} {x : UInt8}
theorem tl_rep (p : Nat) : tl (List.replicate n x) p = if p < n then x.toNat + 1 else 0 := by
  unfold tl
  rw [List.getElem?_replicate]
  split <;> simp_all
theorem less_rep : ∀ (L p q : Nat), q < p → p ≤ n → n + 1 ≤ p + L → less (List.replicate n x) L p q
  | 0, p, q, h1, h2, h3 => by omega
  | L + 1, p, q, h1, h2, h3 => by
    simp only [less, tl_rep]
    by_cases hp : p < n
    · right
      rw [if_pos hp, if_pos (by omega)]
      exact ⟨rfl, less_rep L (p + 1) (q + 1) (by omega) (by omega) (by omega)⟩
    · left
      rw [if_neg hp, if_pos (by omega)]; omega
theorem pri_rep (h : Sorted (List.replicate n x) A) : Bw.pri A = n := by
  have hl := Bw.A_len h
  have hp := Bw.pri_lt h
  have hz := (Bw.zero_iff h (Bw.pri A) hp).2 rfl
  rw [List.length_replicate] at hl
  have := Bw.row_count h (Bw.pri A) hp (fun p => decide (p ≠ 0)) (by
    intro p hpA
    have hpn := (Bw.A_mem h p).1 hpA
    rw [List.length_replicate] at hpn
    rw [hz, List.length_replicate]
    constructor
    · intro h0
      exact less_rep (n + 1) p 0 (by simp at h0; omega) hpn (by omega)
    · intro h0
      simp only [decide_eq_true_eq]
      rintro rfl
      exact less_irrefl h0)
  rw [h.perm.countP_eq, List.length_replicate, Bw.countP_range_succ] at this
  simp at this
  omega
theorem lst_rep (h : Sorted (List.replicate n x) A) : Bw.lst (List.replicate n x) A = List.replicate n x := by
  have hl := Bw.length_lst h
  rw [List.length_replicate] at hl
  have hc := Bw.count_lst h (fun c => c == x)
  have h2 : (List.replicate n x).countP (fun c => c == x) = n := by
    rw [List.countP_eq_length.2 (fun a ha => by rw [List.eq_of_mem_replicate ha]; simp), List.length_replicate]
  rw [h2] at hc
  refine List.eq_replicate_iff.2 ⟨hl, fun b hb => ?_⟩
  have := List.countP_eq_length.1 (hc.trans hl.symm) b hb
  simpa using this
theorem plc_head (r : List UInt8) : Fr.plc x (x :: r) = 0 := by simp [Fr.plc]
theorem rks_rep : ∀ (k : Nat) (r : List UInt8), Fr.rks (x :: r) (List.replicate k x) = List.replicate k 0
  | 0, r => rfl
  | k + 1, r => by
    rw [List.replicate_succ, List.replicate_succ]
    have e : Fr.mv (x :: r) 0 = x :: r := by rw [Fr.mv_some (c := x) (by simp)]; simp
    simp only [Fr.rks, plc_head, e, rks_rep k r]
    rfl
theorem rks_all (k : Nat) : Fr.rks Fr.row0 (List.replicate (k + 1) x) = (x.toNat : Int) :: List.replicate k 0 := by
  obtain ⟨h1, h2⟩ := Fr.plc_lt x Fr.row0 (Fr.row0_mem x)
  have e : Fr.plc x Fr.row0 = x.toNat := by
    have hlt := h1
    rw [Fr.length_row0] at hlt
    have h3 := h2
    unfold Fr.row0 at h3
    rw [List.getElem?_map, List.getElem?_range (by exact hlt)] at h3
    simp only [Option.map_some, Option.some.injEq] at h3
    have := congrArg UInt8.toNat h3
    change Fr.plc x Fr.row0 = x.toNat
    exact (Vi.toNat_ofNat _ hlt).symm.trans this
  rw [List.replicate_succ, Fr.rks, Fr.mv_some h2, rks_rep, e]

theorem digTo_len : ∀ (k m : Nat), m < 2 ^ (k + 1) → (digTo m).length ≤ k
  | 0, m, h => by rw [digTo_small (by simpa using Nat.le_of_lt_succ h)]; simp
  | k + 1, m, h => by
    by_cases h1 : m ≤ 1
    · rw [digTo_small h1]; simp
    · rw [digTo_step (by omega), List.length_cons]
      have := digTo_len k (m / 2) (by rw [Nat.pow_succ] at h; omega)
      omega
theorem low_len (m : Nat) (h : m < 8191) : (low m).length ≤ 12 := by
  rw [low_eq, List.length_map]
  exact digTo_len 12 (m + 1) (by simp only [show (2 : Nat) ^ (12 + 1) = 8192 by rfl]; omega)
theorem low_mem (m : Nat) (s : Int) (h : s ∈ low m) : s = 0 ∨ s = 1 := by
  have := List.all_eq_true.1 (low_dig m) s h
  simpa [isDig] using this

theorem sy_rep (h : Sorted (List.replicate n x) A) (hn : 1 ≤ n) (hn2 : n ≤ 5000) :
    (sy (List.replicate n x) A).length ≤ 13 ∧ ∃ y : Nat, 2 ≤ y ∧ y ≤ 256 ∧ ∀ s ∈ sy (List.replicate n x) A, s = 0 ∨ s = 1 ∨ s = (y : Int) := by
  obtain ⟨k, rfl⟩ : ∃ k, n = k + 1 := ⟨n - 1, by omega⟩
  have hx := x.toNat_lt
  unfold sy
  rw [lst_rep h, rks_all]
  have hz := pk_zeros k
  by_cases h0 : x.toNat = 0
  · have e : pk 0 (((x.toNat : Nat) : Int) :: List.replicate k 0) = low (1 + k) := by
      have := hz 1 []
      rw [List.append_nil] at this
      simp only [pk, h0, Int.natCast_zero, if_true]
      rw [Nat.zero_add, this]; rfl
    rw [e]
    refine ⟨Nat.le_trans (low_len _ (by omega)) (by omega), 2, by omega, by omega, fun s hs => ?_⟩
    rcases low_mem _ _ hs with h | h <;> simp [h]
  · have e : pk 0 (((x.toNat : Nat) : Int) :: List.replicate k 0) = low 0 ++ ((x.toNat : Int) + 1) :: low (0 + k) := by
      have := hz 0 []
      rw [List.append_nil] at this
      simp only [pk]
      rw [if_neg (by omega), this]; rfl
    have h00 : low 0 = [] := List.eq_nil_of_length_eq_zero (by have := length_low 0; omega)
    rw [e, h00, List.nil_append, Nat.zero_add]
    refine ⟨by rw [List.length_cons]; have := low_len k (by omega); omega, x.toNat + 1, by omega, by omega, fun s hs => ?_⟩
    rcases List.mem_cons.1 hs with h | h
    · right; right; omega
    · rcases low_mem _ _ h with h | h <;> simp [h]
end

theorem cts_zero (syms : List Int) (hall : syms.all okS = true) (i : Nat) (hi : (i : Int) ∉ syms) : (cts syms).getD i 0 = 0 := by
  have key : ∀ (syms : List Int) (l : List Int), syms.all okS = true → (i : Int) ∉ syms → l.getD i 0 = 0 → (syms.foldl (fun l s => incI l s.toNat) l).getD i 0 = 0 := by
    intro syms
    induction syms with
    | nil => intro l _ _ h; exact h
    | cons s r ih =>
      intro l ha hm h
      simp only [List.all_cons, Bool.and_eq_true] at ha
      have hs : 0 ≤ s ∧ s < 257 := by simpa [okS] using ha.1
      rw [List.mem_cons, not_or] at hm
      refine ih _ ha.2 hm.2 ?_
      unfold incI
      rw [List.getD_eq_getElem?_getD, List.getElem?_set_ne (by omega), ← List.getD_eq_getElem?_getD]; exact h
  refine key syms _ hall hi ?_
  rw [List.getD_eq_getElem?_getD, List.getElem?_replicate]
  split <;> rfl

theorem krs (x : Int) (h : 0 ≤ x ∧ x ≤ 15) : (x = 0 ∧ Cn.kr x = 0) ∨ (x = 1 ∧ Cn.kr x = 16384) ∨ (x = 2 ∧ Cn.kr x = 8192) ∨ (3 ≤ x ∧ 0 < Cn.kr x ∧ Cn.kr x ≤ 4096) := by
  have : x = 0 ∨ x = 1 ∨ x = 2 ∨ x = 3 ∨ x = 4 ∨ x = 5 ∨ x = 6 ∨ x = 7 ∨ x = 8 ∨ x = 9 ∨ x = 10 ∨ x = 11 ∨ x = 12 ∨ x = 13 ∨ x = 14 ∨ x = 15 := by omega
  rcases this with rfl | rfl | rfl | rfl | rfl | rfl | rfl | rfl | rfl | rfl | rfl | rfl | rfl | rfl | rfl | rfl <;> decide

theorem split3 (l : List Int) (y : Nat) (hl : l.length = 257) (h2 : 2 ≤ y) (h3 : y ≤ 256) (h0 : ∀ i, i ≠ 0 → i ≠ 1 → i ≠ y → l.getD i 0 = 0) :
    l = l.getD 0 0 :: l.getD 1 0 :: (List.replicate (y - 2) 0 ++ l.getD y 0 :: List.replicate (256 - y) 0) := by
  refine List.ext_getElem? fun i => ?_
  rcases i with _ | _ | i
  · rw [List.getElem?_cons_zero, List.getD_eq_getElem?_getD, List.getElem?_eq_getElem (by omega)]; rfl
  · rw [List.getElem?_cons_succ, List.getElem?_cons_zero, List.getD_eq_getElem?_getD, List.getElem?_eq_getElem (by omega)]; rfl
  · rw [List.getElem?_cons_succ, List.getElem?_cons_succ]
    rcases Nat.lt_trichotomy (i + 2) y with h | h | h
    · rw [List.getElem?_append_left (by rw [List.length_replicate]; omega), List.getElem?_replicate, if_pos (by omega)]
      have := h0 (i + 2) (by omega) (by omega) (by omega)
      rw [List.getD_eq_getElem?_getD, List.getElem?_eq_getElem (by omega), Option.getD_some] at this
      rw [List.getElem?_eq_getElem (by omega), this]
    · rw [List.getElem?_append_right (by rw [List.length_replicate]; omega), List.length_replicate, show i - (y - 2) = 0 by omega, List.getElem?_cons_zero, List.getD_eq_getElem?_getD, ← h, List.getElem?_eq_getElem (by omega)]; rfl
    · rw [List.getElem?_append_right (by rw [List.length_replicate]; omega), List.length_replicate, show i - (y - 2) = (i + 2 - y - 1) + 1 by omega, List.getElem?_cons_succ, List.getElem?_replicate]
      by_cases hi : i + 2 < 257
      · rw [if_pos (by omega)]
        have := h0 (i + 2) (by omega) (by omega) (by omega)
        rw [List.getD_eq_getElem?_getD, List.getElem?_eq_getElem (by omega), Option.getD_some] at this
        rw [List.getElem?_eq_getElem (by omega), this]
      · rw [if_neg (by omega), List.getElem?_eq_none (by omega)]

theorem enc_le (l syms : List Int) (h : ∀ s ∈ syms, (l.getD s.toNat 0).toNat ≤ 2) : (Cn.enc l syms).length ≤ 2 * syms.length := by
  induction syms with
  | nil => simp [Cn.enc]
  | cons s r ih =>
    have e : Cn.enc l (s :: r) = Bt.toB (l.getD s.toNat 0).toNat (Cn.wd l s.toNat) ++ Cn.enc l r := rfl
    have := ih (fun t ht => h t (by simp [ht]))
    have := h s (by simp)
    rw [e, List.length_append, Bt.length_toB, List.length_cons]; omega

theorem hb_le (syms : List Int) (hall : syms.all okS = true) (y : Nat) (h2 : 2 ≤ y) (h3 : y ≤ 256) (hs : ∀ s ∈ syms, s = 0 ∨ s = 1 ∨ s = (y : Int)) : (hb syms).length ≤ 105 + 2 * syms.length := by
  have hg := lns_good syms
  have hl := length_lns syms
  have hc := length_cts syms
  have hz : ∀ i, i ≠ 0 → i ≠ 1 → i ≠ y → (lns syms).getD i 0 = 0 := by
    intro i i0 i1 iy
    by_cases hi : i < 257
    · have h0 := cts_zero syms hall i (by intro hm; have := hs _ hm; omega)
      have hu := hg.used i (by omega)
      rw [List.getD_eq_getElem?_getD, List.getElem?_eq_getElem (by omega), Option.getD_some] at h0
      rw [h0] at hu
      have h5 : 0 ≤ (lns syms).getD i 0 := by
        rw [List.getD_eq_getElem?_getD, List.getElem?_eq_getElem (by omega), Option.getD_some]
        exact (hg.rng _ (List.getElem_mem _)).1
      omega
    · rw [List.getD_eq_getElem?_getD, List.getElem?_eq_none (by omega)]; rfl
  have hsp := split3 (lns syms) y hl h2 h3 hz
  have hr : ∀ i, i < 257 → 0 ≤ (lns syms).getD i 0 ∧ (lns syms).getD i 0 ≤ 15 := by
    intro i hi
    rw [List.getD_eq_getElem?_getD, List.getElem?_eq_getElem (by omega), Option.getD_some]
    exact hg.rng _ (List.getElem_mem _)
  have hsum : ((lns syms).map Cn.kr).sum = Cn.kr ((lns syms).getD 0 0) + Cn.kr ((lns syms).getD 1 0) + Cn.kr ((lns syms).getD y 0) := by
    have := congrArg (fun l => (l.map Cn.kr).sum) hsp
    simp only [List.map_cons, List.map_append, List.sum_cons, List.sum_append_nat, kr_zero] at this
    omega
  have hlow : (lns syms).getD 0 0 ≤ 2 ∧ (lns syms).getD 1 0 ≤ 2 ∧ (lns syms).getD y 0 ≤ 2 := by
    have k0 := krs _ (hr 0 (by omega))
    have k1 := krs _ (hr 1 (by omega))
    have k2 := krs _ (hr y (by omega))
    by_cases hn : (St.stab Ln.wt (Ln.lv 0 (cts syms))).length < 2
    · have hone : ∀ i, (lns syms).getD i 0 ≤ 1 := by
        intro i
        have e : (lns syms).getD i 0 = (Ln.bestL (cts syms) 15).getD i 0 := rfl
        rcases Ln.best_few (cts syms) 15 hn with ⟨_, h⟩ | ⟨j, hj, _, _, h⟩
        · rw [e, h, List.getD_eq_getElem?_getD, List.getElem?_replicate]; split <;> simp
        · rw [e, h, List.getD_eq_getElem?_getD]
          rcases hq : ((List.replicate (cts syms).length (0 : Int)).set j 1)[i]? with _ | z
          · simp
          · have := List.mem_of_getElem? hq
            rcases List.mem_or_eq_of_mem_set this with h | h
            · rw [List.eq_of_mem_replicate h]; simp
            · rw [h]; simp
      have := hone 0; have := hone 1; have := hone y
      omega
    · have hb := (Ln.best_many (cts syms) 15 (by omega) (by omega) (by omega) (by rw [(St.stab_perm Ln.wt (Ln.lv 0 (cts syms))).length_eq]; exact cts_len syms)).2
      have hb2 : ((lns syms).map Cn.kr).sum = 32768 := hb
      rw [hsum] at hb2
      omega
  have ht := Tb.runs_good (lns syms) hg.rng
  have h5 : (Tb.runs (lns syms)).length ≤ 5 := by rw [hsp]; exact Tb.runs_few _ _ _ _ _
  have ht2 := Tb.tb_le (Tb.runs (lns syms)) (-1) ht.1 (by rw [ht.2, hl]; omega)
  have he := enc_le (lns syms) syms (by
    intro s hm
    rcases hs s hm with rfl | rfl | rfl
    · exact Int.toNat_le.2 hlow.1
    · exact Int.toNat_le.2 hlow.2.1
    · rw [Int.toNat_natCast]; exact Int.toNat_le.2 hlow.2.2)
  unfold hb
  rw [List.length_append]; omega

theorem putV_le2 (n : Nat) (h : n < 16384) : (putV n).length ≤ 2 := by
  by_cases h1 : n < 128
  · rw [putV_small h1]; simp
  · rw [putV_step h1, putV_small (by omega)]; simp
theorem packed_rep {A : List Nat} {n : Nat} {x : UInt8} (h : Sorted (List.replicate n x) A) (hn : 1 ≤ n) (hn2 : n ≤ 5000) : (packed (List.replicate n x) A).length ≤ 24 := by
  obtain ⟨h1, y, h2, h3, hs⟩ := sy_rep h hn hn2
  have hb := hb_le _ sy_ok y h2 h3 hs
  unfold packed hbyt
  rw [List.length_append, List.length_append, List.length_append, Bt.length_byt, pri_rep h, List.length_replicate]
  have := putV_le2 n (by omega)
  rw [putV_small (n := (sy (List.replicate n x) A).length) (by omega), List.length_singleton]
  omega
end Sq
end Go.Proofs.YtpbphhpldlckbaaGreat
namespace Go.Proofs.YtpbphhpldlckbaaGreat
namespace Sq
open Go.RowKit

/-- A text's packed bytes: they are unpacked. -/
theorem pack_un (s : ByteArray) (w : World) (hs : s.size ≤ 20000) :
    Calls Tryz.prog 26 #[.string s] w fun e w' => ∃ t : ByteArray, ∃ arr, Sx.Sorted s.data.toList arr ∧ t = ⟨(packed s.data.toList arr).toArray⟩ ∧ t.size ≤ 200000 ∧ e = .returned (.tuple #[.string t, .int .i64 0]) ∧ Below w.heap.size w w' := by
  refine (spack_any s w hs).mono ?_
  rintro e w' ⟨arr, hso, rfl, hb⟩
  refine ⟨_, arr, hso, rfl, ?_, rfl, hb⟩
  show (packed s.data.toList arr).toArray.size ≤ _
  rw [List.size_toArray]
  have h1 := sy_len hso
  have h2 := pri_le hso
  have hsz : s.data.toList.length = s.size := rfl
  rw [hsz] at h1 h2
  have h3 := hbyt_le (sy s.data.toList arr) (by omega)
  have p1 := Vi.length_putV_le s.size 8 (by have : (128 : Nat) ^ (8 + 1) = 9223372036854775808 := by decide
                                            omega)
  have p2 := Vi.length_putV_le (Bw.pri arr) 8 (by have : (128 : Nat) ^ (8 + 1) = 9223372036854775808 := by decide
                                                  omega)
  have p3 := Vi.length_putV_le (sy s.data.toList arr).length 8 (by have : (128 : Nat) ^ (8 + 1) = 9223372036854775808 := by decide
                                                                   omega)
  unfold packed
  rw [List.length_append, List.length_append, List.length_append, hsz]
  omega
/-- Unpack, where a text comes back. -/
theorem un_yes (b : ByteArray) (r : List UInt8) (w : World) (hs : b.size ≤ 1000000) (h : unS b.data.toList = some r) :
    Calls Tryz.prog 66 #[.string b] w fun e w' => e = .returned (.tuple #[.string ⟨r.toArray⟩, .int .i64 0]) ∧ Below w.heap.size w w' := by
  refine (unpack_any b w hs).mono ?_
  rintro e w' ⟨⟨r', hr, rfl⟩ | ⟨hr, _⟩, hb⟩
  · rw [h] at hr; cases hr; exact ⟨rfl, hb⟩
  · rw [h] at hr; cases hr
theorem un_no (b : ByteArray) (w : World) (hs : b.size ≤ 1000000) (h : unS b.data.toList = none) :
    Calls Tryz.prog 66 #[.string b] w fun e w' => (∃ x, e = .returned (.tuple #[.string ⟨#[]⟩, .int .i64 x]) ∧ x ≠ 0) ∧ Below w.heap.size w w' := by
  refine (unpack_any b w hs).mono ?_
  rintro e w' ⟨⟨r', hr, _⟩ | ⟨_, x, rfl, hx, _⟩, hb⟩
  · rw [h] at hr; cases hr
  · exact ⟨⟨x, rfl, hx⟩, hb⟩
theorem str_self (s : ByteArray) : (⟨s.data.toList.toArray⟩ : ByteArray) = s := by
  apply ByteArray.ext
  simp
theorem cut_list (t : ByteArray) (n : Nat) : (t.extract 0 n).data.toList = t.data.toList.take n := by
  rw [ByteArray.data_extract, Array.toList_extract]
  simp [List.extract_eq_take_drop]
end Sq
end Go.Proofs.YtpbphhpldlckbaaGreat
