/- squash.Symbols, Text. squash.Unpack$1. squash.Unpack$1, where no number is there. huff.Counts. -/
import Derived.Test.YtpbphhpldlckbaaGreatSc19
import Derived.Test.YtpbphhpldlckbaaGreatSc23
import Derived.Test.YtpbphhpldlckbaaGreatSc24
import Derived.Test.YtpbphhpldlckbaaGreatSc12
import Derived.Test.YtpbphhpldlckbaaGreatSc16
import Derived.Deep.RegionHeld3
import Derived.OrdersHeld
import Derived.Test.YtpbphhpldlckbaaGreatSc07
import Derived.Test.YtpbphhpldlckbaaGreatSc09
import Derived.Deep.LoopGhost
import Derived.BigRegion
namespace Go.Proofs.YtpbphhpldlckbaaGreat
namespace Sq
open Go.RowKit Zr

set_option maxHeartbeats 3200000 in
set_option maxRecDepth 100000 in
theorem symbols_any (s : ByteArray) (w : World) (hs : s.size ≤ 20000) :
    Calls Tryz.prog 47 #[.string s] w fun e w' => ∃ arr v, Sx.Sorted s.data.toList arr ∧ e = .returned (.tuple #[v, .int .i64 (Bw.pri arr : Int), .int .i64 0]) ∧ Own w' w.heap.size v (sy s.data.toList arr) ∧ Below w.heap.size w w' := by
  have mixed : Tryz.prog.follows .mixedOrders = true := by kernel_rfl
  have HF := Lib.hid (Bw.forward_any s w hs)
  go_enter Tryz.func47, Tryz.ntmps47
  go_wp2_with fail
  refine HF.out.mono ?_
  rintro e1 w1 ⟨arr, hso, rfl, hb1⟩
  have hll := Bw.length_lst hso
  obtain ⟨t, ht⟩ : ∃ t : ByteArray, t = ⟨(Bw.lst s.data.toList arr).toArray⟩ := ⟨_, rfl⟩
  have htl : t.data.toList = Bw.lst s.data.toList arr := by rw [ht]
  have hts : t.size = s.size := by
    have : t.size = t.data.toList.length := rfl
    rw [this, htl, hll]; rfl
  rw [← ht]
  have HR := Lib.hid (Fr.ranks_any t w1 (by omega))
  rw [htl] at HR
  have HSO := Lib.hid hso
  have HB1 := Lib.hid hb1
  have hrl := Fr.length_rks (Bw.lst s.data.toList arr) Fr.row0
  have hrok := (rks_ok (Bw.lst s.data.toList arr)).1
  have hsy : sy s.data.toList arr = pk 0 (Fr.rks Fr.row0 (Bw.lst s.data.toList arr)) := rfl
  have HSY := Lib.hid hsy
  have HROK := Lib.hid hrok
  have hrl2 : (Fr.rks Fr.row0 (Bw.lst s.data.toList arr)).length = s.size := by rw [hrl, hll]; rfl
  generalize Fr.rks Fr.row0 (Bw.lst s.data.toList arr) = rk at *
  clear ht htl hso hb1 hll hrl hsy hrok
  go_wp2_with fail
  refine HR.out.mono ?_
  rintro e2 w2 ⟨v2, rfl, hown2, hb2⟩
  obtain ⟨A2, c2, rfl, _, _, hrd2⟩ := hown2.rd
  rw [hrl2] at hrd2 ⊢
  have HP := Lib.hid (pack_any A2 s.size c2 rk w2 (by omega) hrd2)
  have HB2 := Lib.hid (ext_trans HB1.out hb2)
  clear hown2 hrd2 hb2 HR
  go_wp2_with fail
  refine HP.out.mono ?_
  rintro e3 w3 ⟨v3, rfl, hown3, hb3⟩
  have hpe : packE rk = 0 := if_pos HROK.out
  have hpl : packL rk = pk 0 rk := if_pos HROK.out
  rw [hpl, ← HSY.out] at hown3
  rw [hpe]
  have HX := Lib.hid (And.intro (hown3.lower HB2.out.size) (ext_trans HB2.out hb3))
  clear hown3 hb3 hpe hpl HP
  go_wp2_with fail
  go_ret3
  exact ⟨arr, _, HSO.out, rfl, HX.out.1, HX.out.2⟩

theorem unp_ok : ∀ (l acc : List Int), l.all okSym = true → (unp acc l).all okRank = true
  | [], acc, _ => by
    rw [unp]
    refine List.all_eq_true.2 fun x hx => ?_
    rw [List.eq_of_mem_replicate hx]; rfl
  | s :: l, acc, h => by
    rw [List.all_cons, Bool.and_eq_true] at h
    rw [unp]
    split
    · exact unp_ok l _ h.2
    · rename_i hd
      rw [List.all_append, List.all_cons, unp_ok l [] h.2, Bool.and_true, Bool.and_eq_true]
      refine ⟨List.all_eq_true.2 fun x hx => (by rw [List.eq_of_mem_replicate hx]; rfl), ?_⟩
      have h1 := h.1
      unfold okSym at h1
      unfold isDig at hd
      unfold okRank
      simp at h1 hd ⊢
      omega
theorem length_txt : ∀ (l : List Int) (row : List UInt8), (Fr.txt row l).length = l.length
  | [], _ => rfl
  | r :: l, row => by simp [Fr.txt, length_txt l]
theorem may_mayB (n p : Nat) : Bw.mayB n (p : Int) = may n p := by
  unfold Bw.mayB may
  by_cases h : n = 0
  · rw [if_pos h, if_pos h]; exact decide_eq_decide.2 (by omega)
  · rw [if_neg h, if_neg h]
    congr 1 <;> exact decide_eq_decide.2 (by omega)
theorem may_le (n p : Nat) (h : may n p = true) : p ≤ n := by
  unfold may at h
  split at h
  · simp at h; omega
  · simp at h; omega

set_option maxHeartbeats 6400000 in
set_option maxRecDepth 100000 in
theorem stext_any (A : Option Addr) (k c : Nat) (l : List Int) (pr n : Nat) (w : World) (_hk : k ≤ 20000) (hkc : k ≤ c) (hc : c ≤ maxLen) (hn : n ≤ 20000) (hrd : Rd w w.heap.size 1 A k (l.map (Value.int .i64))) :
    Calls Tryz.prog 88 #[.slice A k c, .int .i64 (pr : Int), .int .i64 (n : Int)] w fun e w' =>
      ((∃ r, txtS l pr n = some r ∧ e = .returned (.tuple #[.string ⟨r.toArray⟩, .int .i64 0])) ∨ (txtS l pr n = none ∧ ∃ x, e = .returned (.tuple #[.string ⟨#[]⟩, .int .i64 x]) ∧ x ≠ 0)) ∧ Below w.heap.size w w' := by
  have mixed : Tryz.prog.follows .mixedOrders = true := by kernel_rfl
  have HU := Lib.hid (unpack_any A k c l (n : Int) w hkc hc hrd)
  obtain ⟨T, hT⟩ : ∃ T, T = txtS l pr n := ⟨_, rfl⟩
  simp only [← hT]
  have htx : txtS l pr n = if 20000 < n then none else if unpackE l n ≠ 0 then none else if (unp [] l).length ≠ n then none
      else if may n pr = true then Bw.inv (Fr.txt Fr.row0 (unp [] l)) pr (fun row => Bw.stp (Fr.txt Fr.row0 (unp [] l)) pr row) n 0 [] else none := rfl
  rw [← hT, if_neg (by omega)] at htx
  have HTX := Lib.hid htx
  have hok : unpackE l n = 0 → l.all okSym = true := by
    intro h
    unfold unpackE at h
    split at h
    · omega
    · rename_i hh; simpa using hh
  have HOK := Lib.hid hok
  have hup : unpackE l n = 0 → unpack l n = unp [] l := fun h => if_pos h
  have HUP := Lib.hid hup
  clear hrd hT htx hok hup
  generalize unpackE l (n : Int) = ue at *
  generalize unpack l (n : Int) = ul at *
  go_enter Tryz.func88, Tryz.ntmps88
  go_wp2_with fail
  refine HU.out.mono ?_
  rintro e1 w1 ⟨v1, rfl, hown1, hb1⟩
  have HB1 := Lib.hid hb1
  by_cases hue : ue = 0
  · subst hue
    have hul := HUP.out rfl
    subst hul
    have hall := unp_ok l [] (HOK.out rfl)
    have htx2 := HTX.out
    rw [if_neg (by decide)] at htx2
    obtain ⟨A1, c1, rfl, _, _, hr1⟩ := hown1.rd
    by_cases hlen : (unp [] l).length = n
    · rw [if_neg (by omega)] at htx2
      rw [hlen] at hr1 ⊢
      have HTT := Lib.hid (Fr.text_any A1 n c1 (unp [] l) w1 hn hall hr1)
      have HT2 := Lib.hid htx2
      obtain ⟨t, ht⟩ : ∃ t : ByteArray, t = ⟨(Fr.txt Fr.row0 (unp [] l)).toArray⟩ := ⟨_, rfl⟩
      have htl : t.data.toList = Fr.txt Fr.row0 (unp [] l) := by rw [ht]
      have hts : t.size = n := by
        have : t.size = t.data.toList.length := rfl
        rw [this, htl, length_txt, hlen]
      rw [← ht] at HTT
      rw [← htl] at HT2
      have HTS := Lib.hid hts
      clear hb1 hown1 hall htx2 hr1 ht htl hlen HTX HUP HOK HU
      go_wp2_with fail
      refine HTT.out.mono ?_
      rintro e2 w2 ⟨rfl, hb2⟩
      have HB2 := Lib.hid (ext_trans HB1.out hb2)
      clear hb2 HTT
      by_cases hm : may n pr = true
      · have hm2 : Bw.mayB t.size (pr : Int) = true := by rw [hts, may_mayB]; exact hm
        have hple : pr ≤ t.size := by rw [hts]; exact may_le n pr hm
        have HI := Lib.hid (Bw.inverse_any t pr w2 (by omega) hple hm2)
        have hT4 := HT2.out
        rw [if_pos hm] at hT4
        rw [hts] at HI
        rw [← hT4] at HI
        clear hm hm2 hple hT4 hts HT2
        go_wp2_with fail
        refine HI.out.mono ?_
        rintro e3 w3 ⟨hcase, hb3⟩
        have HB3 := Lib.hid (ext_trans HB2.out hb3)
        clear hb3 HI
        rcases hcase with ⟨r, hr, rfl⟩ | ⟨hr, rfl⟩
        · have HRR := Lib.hid hr
          clear hr
          go_wp2_with fail
          go_ret2
          exact ⟨.inl ⟨r, HRR.out, rfl⟩, HB3.out⟩
        · have HRR := Lib.hid hr
          clear hr
          go_wp2_with fail
          go_ret2
          exact ⟨.inr ⟨HRR.out, 130, rfl, by decide⟩, HB3.out⟩
      · have hm2 : Bw.mayB t.size (pr : Int) = false := by rw [hts, may_mayB]; simpa using hm
        have HI := Lib.hid (Bw.inverse_no t (pr : Int) w2 (by omega) hm2)
        have hT4 := HT2.out
        rw [if_neg hm] at hT4
        have HT4 := Lib.hid hT4
        clear hm hm2 hT4 hts HT2
        go_wp2_with fail
        refine HI.out.mono ?_
        rintro e3 w3 ⟨rfl, rfl⟩
        go_wp2_with fail
        go_ret2
        exact ⟨.inr ⟨HT4.out, 130, rfl, by decide⟩, HB2.out⟩
    · rw [if_pos hlen] at htx2
      have HT2 := Lib.hid htx2
      have hl1 : (((unp [] l).length : Int) == (n : Int)) = false := by rw [beq_eq_false_iff_ne]; omega
      have hl2 : (((unp [] l).length : Int) != (n : Int)) = true := by rw [bne_iff_ne]; omega
      clear hb1 hown1 hall htx2 hr1 HTX HUP HOK HU
      generalize (unp [] l).length = ln at *
      go_wp2_with fail
      go_ret2
      exact ⟨.inr ⟨HT2.out, 5, rfl, by decide⟩, HB1.out⟩
  · have htx2 := HTX.out
    rw [if_pos hue] at htx2
    have HT2 := Lib.hid htx2
    have hl1 : (ue == 0) = false := by rw [beq_eq_false_iff_ne]; exact hue
    have hl2 : (ue != 0) = true := by rw [bne_iff_ne]; exact hue
    have HUE := Lib.hid hue
    clear hb1 hown1 htx2 HTX HUP HOK HU hue
    go_wp2_with fail
    go_ret2
    exact ⟨.inr ⟨HT2.out, ue, rfl, HUE.out⟩, HB1.out⟩
end Sq
end Go.Proofs.YtpbphhpldlckbaaGreat
namespace Go.Proofs.YtpbphhpldlckbaaGreat
namespace Sq
open Go.RowKit Tk Vi
open Bt (Frm)

/-- The variables of squash.Unpack and what they hold. -/
structure Vs (w : World) (b bN bS bP bM bR bB : Nat) (s : ByteArray) (p : Nat) (x y z : Int) (t : ByteArray) : Prop where
  ta : Ta w b s p
  vN : Var w bN 95 (.func (.func 60) #[.pointer (some ⟨b, 0, none⟩)] #[])
  vR : Var w bR 100 (.func (.func 63) #[.pointer (some ⟨b, 0, none⟩)] #[])
  vS : Var w bS 3 (.int .i64 x)
  vP : Var w bP 3 (.int .i64 y)
  vM : Var w bM 3 (.int .i64 z)
  vB : Var w bB 9 (.string t)
  ne : b ≠ bN ∧ b ≠ bS ∧ b ≠ bP ∧ b ≠ bM ∧ b ≠ bR ∧ b ≠ bB ∧ bN ≠ bS ∧ bN ≠ bP ∧ bN ≠ bM ∧ bN ≠ bR ∧ bN ≠ bB ∧ bS ≠ bP ∧ bS ≠ bM ∧ bS ≠ bR ∧ bS ≠ bB ∧ bP ≠ bM ∧ bP ≠ bR ∧ bP ≠ bB ∧ bM ≠ bR ∧ bM ≠ bB ∧ bR ≠ bB
section
variable {w w' : World} {b bN bS bP bM bR bB p : Nat} {s t : ByteArray} {x y z : Int} (h : Vs w b bN bS bP bM bR bB s p x y z t)
include h
theorem Vs.drew : Vs w.drew b bN bS bP bM bR bB s p x y z t := ⟨h.ta, h.vN, h.vR, h.vS, h.vP, h.vM, h.vB, h.ne⟩
theorem Vs.drewN (m : Nat) : Vs (w.drewN m) b bN bS bP bM bR bB s p x y z t := ⟨h.ta, h.vN, h.vR, h.vS, h.vP, h.vM, h.vB, h.ne⟩
theorem Vs.keep (hk : Keep w w' []) : Vs w' b bN bS bP bM bR bB s p x y z t :=
  ⟨hk.ta h.ta (by simp), hk.var h.vN (by simp), hk.var h.vR (by simp), hk.var h.vS (by simp), hk.var h.vP (by simp), hk.var h.vM (by simp), hk.var h.vB (by simp), h.ne⟩
theorem Vs.set_p (q : Nat) : Vs (w.setCell ⟨b, 1, none⟩ (.int .i64 (q : Int))) b bN bS bP bM bR bB s q x y z t := by
  obtain ⟨n1, n2, n3, n4, n5, n6, _⟩ := h.ne
  exact ⟨h.ta.set1 q, h.vN.far (p := ⟨b, 1, none⟩) (Ne.symm n1) _, h.vR.far (p := ⟨b, 1, none⟩) (Ne.symm n5) _, h.vS.far (p := ⟨b, 1, none⟩) (Ne.symm n2) _, h.vP.far (p := ⟨b, 1, none⟩) (Ne.symm n3) _, h.vM.far (p := ⟨b, 1, none⟩) (Ne.symm n4) _, h.vB.far (p := ⟨b, 1, none⟩) (Ne.symm n6) _, h.ne⟩
theorem Vs.set_three (n1 n2 n3 : Nat) : Vs (((w.setCell ⟨bS, 0, none⟩ (.int .i64 (n1 : Int))).setCell ⟨bP, 0, none⟩ (.int .i64 (n2 : Int))).setCell ⟨bM, 0, none⟩ (.int .i64 (n3 : Int))) b bN bS bP bM bR bB s p n1 n2 n3 t := by
  obtain ⟨_, bs, bp, bm, _, _, ns, np, nm, _, _, sp, sm, sr, sb, pm, pr, pb, mr, mb, _⟩ := h.ne
  refine ⟨?_, ?_, ?_, ?_, ?_, ?_, ?_, h.ne⟩
  · exact (Below.heap_setCell _ ⟨bM, 0, none⟩ _ b bm).trans ((Below.heap_setCell _ ⟨bP, 0, none⟩ _ b bp).trans ((Below.heap_setCell _ ⟨bS, 0, none⟩ _ b bs).trans h.ta))
  · exact ((h.vN.far (p := ⟨bS, 0, none⟩) ns _).far (p := ⟨bP, 0, none⟩) np _).far (p := ⟨bM, 0, none⟩) nm _
  · exact ((h.vR.far (p := ⟨bS, 0, none⟩) (Ne.symm sr) _).far (p := ⟨bP, 0, none⟩) (Ne.symm pr) _).far (p := ⟨bM, 0, none⟩) (Ne.symm mr) _
  · exact ((h.vS.set_ _).far (p := ⟨bP, 0, none⟩) sp _).far (p := ⟨bM, 0, none⟩) sm _
  · exact ((h.vP.far (p := ⟨bS, 0, none⟩) (Ne.symm sp) _).set_ _).far (p := ⟨bM, 0, none⟩) pm _
  · exact ((h.vM.far (p := ⟨bS, 0, none⟩) (Ne.symm sm) _).far (p := ⟨bP, 0, none⟩) (Ne.symm pm) _).set_ _
  · exact ((h.vB.far (p := ⟨bS, 0, none⟩) (Ne.symm sb) _).far (p := ⟨bP, 0, none⟩) (Ne.symm pb) _).far (p := ⟨bM, 0, none⟩) (Ne.symm mb) _
end

set_option maxHeartbeats 6400000 in
set_option maxRecDepth 100000 in
theorem un1_ok (w : World) (b bN bS bP bM bR bB n1 k1 n2 k2 n3 k3 : Nat) (s : ByteArray) (hV : Vs w b bN bS bP bM bR bB s 0 0 0 0 ⟨#[]⟩) (hs : s.size ≤ 1000000) (hk : k1 + k2 + k3 ≤ s.size)
    (h1 : gv 0 0 s.data.toList = (n1, k1, 0)) (h2 : gv 0 0 (s.data.toList.drop k1) = (n2, k2, 0)) (h3 : gv 0 0 (s.data.toList.drop (k1 + k2)) = (n3, k3, 0)) :
    Calls Tryz.prog 86 #[.pointer (some ⟨bN, 0, none⟩), .pointer (some ⟨bS, 0, none⟩), .pointer (some ⟨bP, 0, none⟩), .pointer (some ⟨bM, 0, none⟩), .pointer (some ⟨bR, 0, none⟩), .pointer (some ⟨bB, 0, none⟩)] w fun e w' =>
      e = .returned (.tuple #[]) ∧ Var w' bS 3 (.int .i64 (n1 : Int)) ∧ Var w' bP 3 (.int .i64 (n2 : Int)) ∧ Var w' bM 3 (.int .i64 (n3 : Int)) ∧ Var w' bB 9 (.string ⟨(s.data.toList.drop (k1 + k2 + k3)).toArray⟩) ∧ Keep w w' [b, bS, bP, bM, bB] := by
  have mixed : Tryz.prog.follows .mixedOrders = true := by kernel_rfl
  have hN1 : Calls Tryz.prog 60 #[.pointer (some ⟨b, 0, none⟩)] w.drew fun e w' => e = .returned (.int .i64 (n1 : Int)) ∧ w'.cell? ⟨bN, 0, none⟩ = some (.func (.func 60) #[.pointer (some ⟨b, 0, none⟩)] #[]) ∧ Vs w' b bN bS bP bM bR bB s k1 0 0 0 ⟨#[]⟩ ∧ Keep w w' [b, bS, bP, bM, bB] := by
    refine (num_ok w.drew b 0 n1 k1 s hV.drew.ta hs (by omega) (by rw [List.drop_zero]; exact h1)).mono ?_
    rintro e w' ⟨rfl, rfl⟩
    rw [Nat.zero_add]
    exact ⟨rfl, (hV.drew.set_p k1).vN.cell, hV.drew.set_p k1, ((Keep.refl w _).drew).set ⟨b, 1, none⟩ (.inl (by simp)) _⟩
  have hN2 : ∀ w1, (Vs w1 b bN bS bP bM bR bB s k1 0 0 0 ⟨#[]⟩ ∧ Keep w w1 [b, bS, bP, bM, bB]) → Calls Tryz.prog 60 #[.pointer (some ⟨b, 0, none⟩)] w1 fun e w' => e = .returned (.int .i64 (n2 : Int)) ∧ w'.cell? ⟨bN, 0, none⟩ = some (.func (.func 60) #[.pointer (some ⟨b, 0, none⟩)] #[]) ∧ Vs w' b bN bS bP bM bR bB s (k1 + k2) 0 0 0 ⟨#[]⟩ ∧ Keep w w' [b, bS, bP, bM, bB] := by
    rintro w1 ⟨hv, hkp⟩
    refine (num_ok w1 b k1 n2 k2 s hv.ta hs (by omega) h2).mono ?_
    rintro e w' ⟨rfl, rfl⟩
    exact ⟨rfl, (hv.set_p (k1 + k2)).vN.cell, hv.set_p (k1 + k2), hkp.set ⟨b, 1, none⟩ (.inl (by simp)) _⟩
  have hN3 : ∀ w1, (Vs w1 b bN bS bP bM bR bB s (k1 + k2) 0 0 0 ⟨#[]⟩ ∧ Keep w w1 [b, bS, bP, bM, bB]) → Calls Tryz.prog 60 #[.pointer (some ⟨b, 0, none⟩)] w1 fun e w' => e = .returned (.int .i64 (n3 : Int)) ∧ w'.cell? ⟨bN, 0, none⟩ = some (.func (.func 60) #[.pointer (some ⟨b, 0, none⟩)] #[]) ∧ Vs w' b bN bS bP bM bR bB s (k1 + k2 + k3) 0 0 0 ⟨#[]⟩ ∧ Keep w w' [b, bS, bP, bM, bB] := by
    rintro w1 ⟨hv, hkp⟩
    refine (num_ok w1 b (k1 + k2) n3 k3 s hv.ta hs (by omega) h3).mono ?_
    rintro e w' ⟨rfl, rfl⟩
    exact ⟨rfl, (hv.set_p (k1 + k2 + k3)).vN.cell, hv.set_p (k1 + k2 + k3), hkp.set ⟨b, 1, none⟩ (.inl (by simp)) _⟩
  have HN1 := Lib.hid hN1
  have HN2 := Lib.hid hN2
  have HN3 := Lib.hid hN3
  have HV := Lib.hid hV
  have hSd : w.drew.cell? ⟨bN, 0, none⟩ = some (.func (.func 60) #[.pointer (some ⟨b, 0, none⟩)] #[]) := hV.vN.cell
  have HSd := Lib.hid hSd
  clear hN1 hN2 hN3 hV hSd h1 h2 h3
  have tok1 : True := trivial
  have nNS : bN ≠ bS := HV.out.ne.2.2.2.2.2.2.1
  have nNP : bN ≠ bP := HV.out.ne.2.2.2.2.2.2.2.1
  have nNM : bN ≠ bM := HV.out.ne.2.2.2.2.2.2.2.2.1
  have nSP : bS ≠ bP := HV.out.ne.2.2.2.2.2.2.2.2.2.2.2.1
  have nSM : bS ≠ bM := HV.out.ne.2.2.2.2.2.2.2.2.2.2.2.2.1
  have nPM : bP ≠ bM := HV.out.ne.2.2.2.2.2.2.2.2.2.2.2.2.2.2.2.1
  go_enter Tryz.func86, Tryz.ntmps86
  go_wp2_with fail
  go_region_held3 (fun wx => wx.cell? ⟨bN, 0, none⟩ = some (.func (.func 60) #[.pointer (some ⟨b, 0, none⟩)] #[])) (first | exact HSd.out | assumption) (first | (have _t := tok1; go_at_call 60; refine HN1.out.mono ?_; rintro e1 w1 ⟨rfl, hS1, hA1⟩; clear tok1) | (go_at_call 60; refine (HN2.out _ hA1).mono ?_; rintro e2 w2 ⟨rfl, hS2, hA2⟩; clear hA1) | (go_at_call 60; refine (HN3.out _ hA2).mono ?_; rintro e3 w3 ⟨rfl, hS3, hA3⟩; have c1 := hA3.1.vS.cell; have f1 := hA3.1.vS.frozen; have c2 := hA3.1.vP.cell; have f2 := hA3.1.vP.frozen; have c3 := hA3.1.vM.cell; have f3 := hA3.1.vM.frozen; have s1 := (hA3.1.vN.far (p := ⟨bS, 0, none⟩) nNS (.int .i64 (n1 : Int))).cell; have s2 := ((hA3.1.vN.far (p := ⟨bS, 0, none⟩) nNS (.int .i64 (n1 : Int))).far (p := ⟨bP, 0, none⟩) nNP (.int .i64 (n2 : Int))).cell; have s3 := (((hA3.1.vN.far (p := ⟨bS, 0, none⟩) nNS (.int .i64 (n1 : Int))).far (p := ⟨bP, 0, none⟩) nNP (.int .i64 (n2 : Int))).far (p := ⟨bM, 0, none⟩) nNM (.int .i64 (n3 : Int))).cell; have HA3 := Lib.hid hA3; clear hA2 hA3))
  have hV4 := HA3.out.1.set_three n1 n2 n3
  have hK4 := ((HA3.out.2.set ⟨bS, 0, none⟩ (.inl (by simp)) (.int .i64 (n1 : Int))).set ⟨bP, 0, none⟩ (.inl (by simp)) (.int .i64 (n2 : Int))).set ⟨bM, 0, none⟩ (.inl (by simp)) (.int .i64 (n3 : Int))
  clear c1 c2 c3 f1 f2 f3 s1 s2 s3 hS1 hS2 hS3
  generalize ((w3.setCell ⟨bS, 0, none⟩ (.int .i64 (n1 : Int))).setCell ⟨bP, 0, none⟩ (.int .i64 (n2 : Int))).setCell ⟨bM, 0, none⟩ (.int .i64 (n3 : Int)) = w4 at *
  have hcR := hV4.vR.cell
  have HR := Lib.hid (rest_any w4 b (k1 + k2 + k3) s hV4.ta hs hk)
  have HV4 := Lib.hid (And.intro hV4 hK4)
  clear hV4 hK4
  go_wp2_with fail
  refine HR.out.mono ?_
  rintro e5 w5 ⟨rfl, hf5⟩
  have hk5 : Keep w4 w5 [b] := Keep.of_frm hf5 (by simp)
  have nb := HV4.out.1.ne
  have v1 := hk5.var HV4.out.1.vS (by simpa using Ne.symm nb.2.1)
  have v2 := hk5.var HV4.out.1.vP (by simpa using Ne.symm nb.2.2.1)
  have v3 := hk5.var HV4.out.1.vM (by simpa using Ne.symm nb.2.2.2.1)
  have v4 := hk5.var HV4.out.1.vB (by simpa using Ne.symm nb.2.2.2.2.2.1)
  have hcB := v4.cell
  have hfB := v4.frozen
  obtain ⟨_, _, _, _, _, _, _, _, _, _, _, _, _, _, nSB, _, _, nPB, _, nMB, _⟩ := nb
  have HX := Lib.hid (show Var (w5.setCell ⟨bB, 0, none⟩ (.string ⟨(s.data.toList.drop (k1 + k2 + k3)).toArray⟩)) bS 3 (.int .i64 (n1 : Int)) ∧ Var (w5.setCell ⟨bB, 0, none⟩ (.string ⟨(s.data.toList.drop (k1 + k2 + k3)).toArray⟩)) bP 3 (.int .i64 (n2 : Int)) ∧ Var (w5.setCell ⟨bB, 0, none⟩ (.string ⟨(s.data.toList.drop (k1 + k2 + k3)).toArray⟩)) bM 3 (.int .i64 (n3 : Int)) ∧ Var (w5.setCell ⟨bB, 0, none⟩ (.string ⟨(s.data.toList.drop (k1 + k2 + k3)).toArray⟩)) bB 9 (.string ⟨(s.data.toList.drop (k1 + k2 + k3)).toArray⟩) ∧ Keep w (w5.setCell ⟨bB, 0, none⟩ (.string ⟨(s.data.toList.drop (k1 + k2 + k3)).toArray⟩)) [b, bS, bP, bM, bB] from
    ⟨v1.far (p := ⟨bB, 0, none⟩) nSB _, v2.far (p := ⟨bB, 0, none⟩) nPB _, v3.far (p := ⟨bB, 0, none⟩) nMB _, v4.set_ _, (HV4.out.2.trans (hk5.more (by simp))).set ⟨bB, 0, none⟩ (.inl (by simp)) _⟩)
  generalize hrs : (⟨(s.data.toList.drop (k1 + k2 + k3)).toArray⟩ : ByteArray) = rs at *
  have HRS := Lib.hid hrs
  clear hrs
  clear hf5 hk5 v1 v2 v3 v4 HR hcR
  go_wp2_with fail
  go_end0
  rw [HRS.out]
  exact ⟨rfl, HX.out⟩
end Sq
end Go.Proofs.YtpbphhpldlckbaaGreat
namespace Go.Proofs.YtpbphhpldlckbaaGreat
namespace Sq
open Go.RowKit Tk Vi
open Bt (Frm)

set_option maxHeartbeats 6400000 in
set_option maxRecDepth 100000 in
theorem un1_no1 (w : World) (b bN bS bP bM bR bB : Nat) (s : ByteArray) (hV : Vs w b bN bS bP bM bR bB s 0 0 0 0 ⟨#[]⟩) (hs : s.size ≤ 1000000) (h1 : (gv 0 0 s.data.toList).2.2 ≠ 0) :
    Calls Tryz.prog 86 #[.pointer (some ⟨bN, 0, none⟩), .pointer (some ⟨bS, 0, none⟩), .pointer (some ⟨bP, 0, none⟩), .pointer (some ⟨bM, 0, none⟩), .pointer (some ⟨bR, 0, none⟩), .pointer (some ⟨bB, 0, none⟩)] w fun e w' =>
      (∃ p, e = .panicked [fault (gv 0 0 s.data.toList).2.2 p]) ∧ Keep w w' [b, bS, bP, bM, bB] := by
  have mixed : Tryz.prog.follows .mixedOrders = true := by kernel_rfl
  obtain ⟨x, hx⟩ : ∃ x, x = (gv 0 0 s.data.toList).2.2 := ⟨_, rfl⟩
  rw [← hx]
  have hN1 : ∀ w1, (Vs w1 b bN bS bP bM bR bB s (0) 0 0 0 ⟨#[]⟩ ∧ Keep w w1 [b, bS, bP, bM, bB]) → Calls Tryz.prog 60 #[.pointer (some ⟨b, 0, none⟩)] w1 fun e w' => e = .panicked [fault x (0)] ∧ Keep w w' [b, bS, bP, bM, bB] := by
    rintro w1 ⟨hv, hkp⟩
    refine (num_no w1 b (0) s hv.ta hs (by omega) (by rw [List.drop_zero]; exact h1)).mono ?_
    rintro e w' ⟨rfl, rfl⟩
    exact ⟨by rw [hx, List.drop_zero], hkp⟩
  have HV := Lib.hid hV
  have h0 : Vs w.drew b bN bS bP bM bR bB s 0 0 0 0 ⟨#[]⟩ ∧ Keep w w.drew [b, bS, bP, bM, bB] := ⟨hV.drew, (Keep.refl w _).drew⟩
  have hSd : w.drew.cell? ⟨bN, 0, none⟩ = some (.func (.func 60) #[.pointer (some ⟨b, 0, none⟩)] #[]) := hV.vN.cell
  have hcN := hV.vN.cell
  have HN1 := Lib.hid hN1
  clear hN1 hV h1 hx
  go_enter Tryz.func86, Tryz.ntmps86
  go_wp2_with fail
  refine wp_region_held (S := fun wx => wx.cell? ⟨bN, 0, none⟩ = some (.func (.func 60) #[.pointer (some ⟨b, 0, none⟩)] #[])) (by kernel_rfl) ?_
  change wpAnyH _ _ _ _ _ _ _ _ (World.drew _)
  refine wpAnyH_take (i := 0) (v := (.func (.func 60) #[.pointer (some ⟨b, 0, none⟩)] #[])) rfl (by kernel_rfl) (by kernel_rfl) (by kernel_rfl) (fun _ _ _ h => h) (Or.inl ⟨by rfl, fun w hS => ?_⟩) hSd ?_
  · go_simp
  refine wpAnyH_take (i := 2) (v := (.func (.func 60) #[.pointer (some ⟨b, 0, none⟩)] #[])) rfl (by kernel_rfl) (by kernel_rfl) (by kernel_rfl) (fun _ _ _ h => h) (Or.inl ⟨by rfl, fun w hS => ?_⟩) hSd ?_
  · go_simp
  refine wpAnyH_take (i := 4) (v := (.func (.func 60) #[.pointer (some ⟨b, 0, none⟩)] #[])) rfl (by kernel_rfl) (by kernel_rfl) (by kernel_rfl) (fun _ _ _ h => h) (Or.inl ⟨by rfl, fun w hS => ?_⟩) hSd ?_
  · go_simp
  refine wpAnyH_all (rs := [1]) (by kernel_rfl) (by simp) ?_
  intro i hi
  obtain rfl : i = 1 := by simpa using hi
  clear hi
  unfold wpOp
  go_simp
  refine Or.inl ((HN1.out _ h0).mono ?_)
  rintro e1 w1 ⟨rfl, hKx⟩
  exact ⟨rfl, ⟨_, rfl⟩, hKx⟩
set_option maxHeartbeats 6400000 in
set_option maxRecDepth 100000 in
theorem un1_no2 (w : World) (b bN bS bP bM bR bB n1 k1 : Nat) (s : ByteArray) (hV : Vs w b bN bS bP bM bR bB s 0 0 0 0 ⟨#[]⟩) (hs : s.size ≤ 1000000) (hk : k1 ≤ s.size) (h1 : gv 0 0 s.data.toList = (n1, k1, 0)) (h2 : (gv 0 0 (s.data.toList.drop k1)).2.2 ≠ 0) :
    Calls Tryz.prog 86 #[.pointer (some ⟨bN, 0, none⟩), .pointer (some ⟨bS, 0, none⟩), .pointer (some ⟨bP, 0, none⟩), .pointer (some ⟨bM, 0, none⟩), .pointer (some ⟨bR, 0, none⟩), .pointer (some ⟨bB, 0, none⟩)] w fun e w' =>
      (∃ p, e = .panicked [fault (gv 0 0 (s.data.toList.drop k1)).2.2 p]) ∧ Keep w w' [b, bS, bP, bM, bB] := by
  have mixed : Tryz.prog.follows .mixedOrders = true := by kernel_rfl
  obtain ⟨x, hx⟩ : ∃ x, x = (gv 0 0 (s.data.toList.drop k1)).2.2 := ⟨_, rfl⟩
  rw [← hx]
  have hN1 : ∀ w1, (Vs w1 b bN bS bP bM bR bB s (0) 0 0 0 ⟨#[]⟩ ∧ Keep w w1 [b, bS, bP, bM, bB]) → Calls Tryz.prog 60 #[.pointer (some ⟨b, 0, none⟩)] w1 fun e w' => e = .returned (.int .i64 (n1 : Int)) ∧ w'.cell? ⟨bN, 0, none⟩ = some (.func (.func 60) #[.pointer (some ⟨b, 0, none⟩)] #[]) ∧ Vs w' b bN bS bP bM bR bB s (0 + k1) 0 0 0 ⟨#[]⟩ ∧ Keep w w' [b, bS, bP, bM, bB] := by
    rintro w1 ⟨hv, hkp⟩
    refine (num_ok w1 b (0) n1 k1 s hv.ta hs (by omega) (by rw [List.drop_zero]; exact h1)).mono ?_
    rintro e w' ⟨rfl, rfl⟩
    exact ⟨rfl, (hv.set_p (0 + k1)).vN.cell, hv.set_p (0 + k1), hkp.set ⟨b, 1, none⟩ (.inl (by simp)) _⟩
  have hN2 : ∀ w1, (Vs w1 b bN bS bP bM bR bB s (0 + k1) 0 0 0 ⟨#[]⟩ ∧ Keep w w1 [b, bS, bP, bM, bB]) → Calls Tryz.prog 60 #[.pointer (some ⟨b, 0, none⟩)] w1 fun e w' => e = .panicked [fault x (0 + k1)] ∧ Keep w w' [b, bS, bP, bM, bB] := by
    rintro w1 ⟨hv, hkp⟩
    refine (num_no w1 b (0 + k1) s hv.ta hs (by omega) (by rw [Nat.zero_add]; exact h2)).mono ?_
    rintro e w' ⟨rfl, rfl⟩
    exact ⟨by rw [hx, Nat.zero_add], hkp⟩
  have HV := Lib.hid hV
  have h0 : Vs w.drew b bN bS bP bM bR bB s 0 0 0 0 ⟨#[]⟩ ∧ Keep w w.drew [b, bS, bP, bM, bB] := ⟨hV.drew, (Keep.refl w _).drew⟩
  have hSd : w.drew.cell? ⟨bN, 0, none⟩ = some (.func (.func 60) #[.pointer (some ⟨b, 0, none⟩)] #[]) := hV.vN.cell
  have hcN := hV.vN.cell
  have HN1 := Lib.hid hN1
  have HN2 := Lib.hid hN2
  clear hN1 hN2 hV h1 h2 hx
  go_enter Tryz.func86, Tryz.ntmps86
  go_wp2_with fail
  refine wp_region_held (S := fun wx => wx.cell? ⟨bN, 0, none⟩ = some (.func (.func 60) #[.pointer (some ⟨b, 0, none⟩)] #[])) (by kernel_rfl) ?_
  change wpAnyH _ _ _ _ _ _ _ _ (World.drew _)
  refine wpAnyH_take (i := 0) (v := (.func (.func 60) #[.pointer (some ⟨b, 0, none⟩)] #[])) rfl (by kernel_rfl) (by kernel_rfl) (by kernel_rfl) (fun _ _ _ h => h) (Or.inl ⟨by rfl, fun w hS => ?_⟩) hSd ?_
  · go_simp
  refine wpAnyH_take (i := 2) (v := (.func (.func 60) #[.pointer (some ⟨b, 0, none⟩)] #[])) rfl (by kernel_rfl) (by kernel_rfl) (by kernel_rfl) (fun _ _ _ h => h) (Or.inl ⟨by rfl, fun w hS => ?_⟩) hSd ?_
  · go_simp
  refine wpAnyH_take (i := 4) (v := (.func (.func 60) #[.pointer (some ⟨b, 0, none⟩)] #[])) rfl (by kernel_rfl) (by kernel_rfl) (by kernel_rfl) (fun _ _ _ h => h) (Or.inl ⟨by rfl, fun w hS => ?_⟩) hSd ?_
  · go_simp
  refine wpAnyH_all (rs := [1]) (by kernel_rfl) (by simp) ?_
  intro i hi
  obtain rfl : i = 1 := by simpa using hi
  clear hi
  unfold wpOp
  go_simp
  refine Or.inl ((HN1.out _ h0).mono ?_)
  rintro e1 w1 ⟨rfl, hS1, hA1⟩
  refine ⟨hS1, ?_⟩
  clear h0
  refine wpAnyH_all (rs := [3]) (by kernel_rfl) (by simp) ?_
  intro i hi
  obtain rfl : i = 3 := by simpa using hi
  clear hi
  unfold wpOp
  go_simp
  refine Or.inl ((HN2.out _ hA1).mono ?_)
  rintro e2 w2 ⟨rfl, hKx⟩
  exact ⟨rfl, ⟨_, rfl⟩, hKx⟩
set_option maxHeartbeats 6400000 in
set_option maxRecDepth 100000 in
theorem un1_no3 (w : World) (b bN bS bP bM bR bB n1 k1 n2 k2 : Nat) (s : ByteArray) (hV : Vs w b bN bS bP bM bR bB s 0 0 0 0 ⟨#[]⟩) (hs : s.size ≤ 1000000) (hk : k1 + k2 ≤ s.size) (h1 : gv 0 0 s.data.toList = (n1, k1, 0)) (h2 : gv 0 0 (s.data.toList.drop k1) = (n2, k2, 0)) (h3 : (gv 0 0 (s.data.toList.drop (k1 + k2))).2.2 ≠ 0) :
    Calls Tryz.prog 86 #[.pointer (some ⟨bN, 0, none⟩), .pointer (some ⟨bS, 0, none⟩), .pointer (some ⟨bP, 0, none⟩), .pointer (some ⟨bM, 0, none⟩), .pointer (some ⟨bR, 0, none⟩), .pointer (some ⟨bB, 0, none⟩)] w fun e w' =>
      (∃ p, e = .panicked [fault (gv 0 0 (s.data.toList.drop (k1 + k2))).2.2 p]) ∧ Keep w w' [b, bS, bP, bM, bB] := by
  have mixed : Tryz.prog.follows .mixedOrders = true := by kernel_rfl
  obtain ⟨x, hx⟩ : ∃ x, x = (gv 0 0 (s.data.toList.drop (k1 + k2))).2.2 := ⟨_, rfl⟩
  rw [← hx]
  have hN1 : ∀ w1, (Vs w1 b bN bS bP bM bR bB s (0) 0 0 0 ⟨#[]⟩ ∧ Keep w w1 [b, bS, bP, bM, bB]) → Calls Tryz.prog 60 #[.pointer (some ⟨b, 0, none⟩)] w1 fun e w' => e = .returned (.int .i64 (n1 : Int)) ∧ w'.cell? ⟨bN, 0, none⟩ = some (.func (.func 60) #[.pointer (some ⟨b, 0, none⟩)] #[]) ∧ Vs w' b bN bS bP bM bR bB s (0 + k1) 0 0 0 ⟨#[]⟩ ∧ Keep w w' [b, bS, bP, bM, bB] := by
    rintro w1 ⟨hv, hkp⟩
    refine (num_ok w1 b (0) n1 k1 s hv.ta hs (by omega) (by rw [List.drop_zero]; exact h1)).mono ?_
    rintro e w' ⟨rfl, rfl⟩
    exact ⟨rfl, (hv.set_p (0 + k1)).vN.cell, hv.set_p (0 + k1), hkp.set ⟨b, 1, none⟩ (.inl (by simp)) _⟩
  have hN2 : ∀ w1, (Vs w1 b bN bS bP bM bR bB s (0 + k1) 0 0 0 ⟨#[]⟩ ∧ Keep w w1 [b, bS, bP, bM, bB]) → Calls Tryz.prog 60 #[.pointer (some ⟨b, 0, none⟩)] w1 fun e w' => e = .returned (.int .i64 (n2 : Int)) ∧ w'.cell? ⟨bN, 0, none⟩ = some (.func (.func 60) #[.pointer (some ⟨b, 0, none⟩)] #[]) ∧ Vs w' b bN bS bP bM bR bB s (0 + k1 + k2) 0 0 0 ⟨#[]⟩ ∧ Keep w w' [b, bS, bP, bM, bB] := by
    rintro w1 ⟨hv, hkp⟩
    refine (num_ok w1 b (0 + k1) n2 k2 s hv.ta hs (by omega) (by rw [Nat.zero_add]; exact h2)).mono ?_
    rintro e w' ⟨rfl, rfl⟩
    exact ⟨rfl, (hv.set_p (0 + k1 + k2)).vN.cell, hv.set_p (0 + k1 + k2), hkp.set ⟨b, 1, none⟩ (.inl (by simp)) _⟩
  have hN3 : ∀ w1, (Vs w1 b bN bS bP bM bR bB s (0 + k1 + k2) 0 0 0 ⟨#[]⟩ ∧ Keep w w1 [b, bS, bP, bM, bB]) → Calls Tryz.prog 60 #[.pointer (some ⟨b, 0, none⟩)] w1 fun e w' => e = .panicked [fault x (0 + k1 + k2)] ∧ Keep w w' [b, bS, bP, bM, bB] := by
    rintro w1 ⟨hv, hkp⟩
    refine (num_no w1 b (0 + k1 + k2) s hv.ta hs (by omega) (by rw [Nat.zero_add]; exact h3)).mono ?_
    rintro e w' ⟨rfl, rfl⟩
    exact ⟨by rw [hx, Nat.zero_add], hkp⟩
  have HV := Lib.hid hV
  have h0 : Vs w.drew b bN bS bP bM bR bB s 0 0 0 0 ⟨#[]⟩ ∧ Keep w w.drew [b, bS, bP, bM, bB] := ⟨hV.drew, (Keep.refl w _).drew⟩
  have hSd : w.drew.cell? ⟨bN, 0, none⟩ = some (.func (.func 60) #[.pointer (some ⟨b, 0, none⟩)] #[]) := hV.vN.cell
  have hcN := hV.vN.cell
  have HN1 := Lib.hid hN1
  have HN2 := Lib.hid hN2
  have HN3 := Lib.hid hN3
  clear hN1 hN2 hN3 hV h1 h2 h3 hx
  go_enter Tryz.func86, Tryz.ntmps86
  go_wp2_with fail
  refine wp_region_held (S := fun wx => wx.cell? ⟨bN, 0, none⟩ = some (.func (.func 60) #[.pointer (some ⟨b, 0, none⟩)] #[])) (by kernel_rfl) ?_
  change wpAnyH _ _ _ _ _ _ _ _ (World.drew _)
  refine wpAnyH_take (i := 0) (v := (.func (.func 60) #[.pointer (some ⟨b, 0, none⟩)] #[])) rfl (by kernel_rfl) (by kernel_rfl) (by kernel_rfl) (fun _ _ _ h => h) (Or.inl ⟨by rfl, fun w hS => ?_⟩) hSd ?_
  · go_simp
  refine wpAnyH_take (i := 2) (v := (.func (.func 60) #[.pointer (some ⟨b, 0, none⟩)] #[])) rfl (by kernel_rfl) (by kernel_rfl) (by kernel_rfl) (fun _ _ _ h => h) (Or.inl ⟨by rfl, fun w hS => ?_⟩) hSd ?_
  · go_simp
  refine wpAnyH_take (i := 4) (v := (.func (.func 60) #[.pointer (some ⟨b, 0, none⟩)] #[])) rfl (by kernel_rfl) (by kernel_rfl) (by kernel_rfl) (fun _ _ _ h => h) (Or.inl ⟨by rfl, fun w hS => ?_⟩) hSd ?_
  · go_simp
  refine wpAnyH_all (rs := [1]) (by kernel_rfl) (by simp) ?_
  intro i hi
  obtain rfl : i = 1 := by simpa using hi
  clear hi
  unfold wpOp
  go_simp
  refine Or.inl ((HN1.out _ h0).mono ?_)
  rintro e1 w1 ⟨rfl, hS1, hA1⟩
  refine ⟨hS1, ?_⟩
  clear h0
  refine wpAnyH_all (rs := [3]) (by kernel_rfl) (by simp) ?_
  intro i hi
  obtain rfl : i = 3 := by simpa using hi
  clear hi
  unfold wpOp
  go_simp
  refine Or.inl ((HN2.out _ hA1).mono ?_)
  rintro e2 w2 ⟨rfl, hS2, hA2⟩
  refine ⟨hS2, ?_⟩
  clear hA1
  refine wpAnyH_all (rs := [5]) (by kernel_rfl) (by simp) ?_
  intro i hi
  obtain rfl : i = 5 := by simpa using hi
  clear hi
  unfold wpOp
  go_simp
  refine Or.inl ((HN3.out _ hA2).mono ?_)
  rintro e3 w3 ⟨rfl, hKx⟩
  exact ⟨rfl, ⟨_, rfl⟩, hKx⟩
end Sq
end Go.Proofs.YtpbphhpldlckbaaGreat
namespace Go.Proofs.YtpbphhpldlckbaaGreat
namespace Hf
open Go.RowKit

set_option maxHeartbeats 3200000 in
set_option maxRecDepth 100000 in
theorem counts_any (A : Option Addr) (n c : Nat) (l : List Int) (w : World) (hn : n ≤ 60000) (hrd : Rd w w.heap.size 1 A n (l.map (Value.int .i64))) :
    Calls Tryz.prog 95 #[.slice A n c] w fun e w' => ∃ v, e = .returned (.tuple #[v, .int .i64 (ctsE l)]) ∧ Own w' w.heap.size v (ctsL l) ∧ Below w.heap.size w w' := by
  have hln : l.length = n := by simpa using hrd.len
  have HL := Lib.hid hln
  have HR := Lib.hid hrd
  clear hln hrd
  go_enter Tryz.func95, Tryz.ntmps95
  go_wp2_with (at_make; (refine make1 (n := 257) (by omega) (Nat.le_refl w.heap.size) ?_); intro w1 hown1 hg1)
  have hb1 : Below w.heap.size w w1 := (Below.refl _ _).grown hg1 (Nat.le_refl _) (by simp)
  have H0 : Aside (Own w1 w.heap.size (.slice (some ⟨w.heap.size, 0, none⟩) 257 257) (cts (l.take 0)) ∧ Below w.heap.size w w1) := ⟨hown1, hb1⟩
  clear hg1 hown1 hb1
  go_wp2_with fail
  go_loopg [13] n (fun kx s13 wr => ∃ (k : Nat), s13 = .int .i64 (k : Int) ∧ k ≤ n ∧ n - k ≤ kx ∧ Hid ((l.take k).all okS = true) ∧ Aside (Own wr w.heap.size (.slice (some ⟨w.heap.size, 0, none⟩) 257 257) (cts (l.take k)) ∧ Below w.heap.size w wr))
  case atStart => exact ⟨0, rfl, by omega, by omega, rfl, H0.out⟩
  case round =>
    clear H0
    obtain ⟨k, rfl, hk, hkx, hall, H⟩ := hrel
    by_cases hlt : k < n
    · obtain ⟨ad, x, rfl, had, hx, hcell⟩ := (HR.out.below H.out.2).int1 hlt
      have hkl : k < l.length := by have := HL.out; omega
      rw [List.getElem?_eq_getElem hkl, Option.some.injEq] at hx
      have hno := all_no l k hkl
      have hat := all_take l k hkl hall.out
      have hst := cts_take l k hkl
      rw [hx] at hno hat hst
      have HNo := Lib.hid hno
      have HAt := Lib.hid hat
      have HSt := Lib.hid hst
      clear hno hat hst hx hkl
      by_cases h1 : x < 0
      · have hf : l.all okS = false := HNo.out (by simp [okS]; omega)
        have HF := Lib.hid hf
        clear hf
        go_wp2_with fail
        go_ret2
        rw [(ctsE_no l HF.out).1, (ctsE_no l HF.out).2]
        exact ⟨_, rfl, World.ownsRow_nil _ _ _ _, H.out.2⟩
      by_cases h2 : 257 ≤ x
      · have hf : l.all okS = false := HNo.out (by simp [okS]; omega)
        have HF := Lib.hid hf
        clear hf
        go_wp2_with fail
        go_ret2
        rw [(ctsE_no l HF.out).1, (ctsE_no l HF.out).2]
        exact ⟨_, rfl, World.ownsRow_nil _ _ _ _, H.out.2⟩
      · have hok : okS x = true := by simp [okS]; omega
        have HA2 := Lib.hid (HAt.out hok)
        clear hok
        obtain ⟨t, rfl⟩ := Int.eq_ofNat_of_zero_le (show 0 ≤ x by omega)
        have hc := H.out.1.cell (k := t) (x := (cts (l.take k)).getD t 0) (at_some _ _ (by rw [length_cts]; omega))
        have hf := H.out.1.frozen (k := t)
        have hbd := cts_bd (l.take k) ((cts (l.take k)).getD t 0) (by rw [List.getD_eq_getElem?_getD, List.getElem?_eq_getElem (by rw [length_cts]; omega)]; exact List.getElem_mem _)
        have hbl : ((l.take k).length : Int) ≤ 60000 := by rw [List.length_take]; omega
        have HN0 := Own.put2 (k := t) H.out ((cts (l.take k)).getD t 0 + 1)
        have e1 : (cts (l.take k)).set t ((cts (l.take k)).getD t 0 + 1) = cts (l.take (k + 1)) := by
          rw [HSt.out, Int.toNat_natCast]; rfl
        rw [e1] at HN0
        obtain ⟨y, hy⟩ : ∃ y, y = (cts (l.take k)).getD t 0 := ⟨_, rfl⟩
        rw [← hy] at hc hbd HN0
        have HN : Aside _ := HN0
        have hy0 : 0 ≤ y := hbd.1
        have hy1 : y ≤ 60000 := by omega
        clear HN0 H hy e1 hbd hbl
        go_wp2_with fail
        go_roundg (n - (k + 1))
        case measure => omega
        case rel => exact ⟨k + 1, by go_num, by omega, by omega, HA2.out, HN.out⟩
    · have hE := H.out
      have e : l.take k = l := List.take_of_length_le (by have := HL.out; omega)
      have ha := hall.out
      rw [e] at hE ha
      have HE : Aside _ := hE
      have HA := Lib.hid ha
      clear H hE e ha
      go_wp2_with fail
      go_ret2
      rw [(ctsE_yes l HA.out).1, (ctsE_yes l HA.out).2]
      exact ⟨_, rfl, HE.out⟩
end Hf
end Go.Proofs.YtpbphhpldlckbaaGreat
