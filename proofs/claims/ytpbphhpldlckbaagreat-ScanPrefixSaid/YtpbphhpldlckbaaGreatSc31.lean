/- bits.Writer.Text. canon.Code: Word, Put. bits.Reader: peek, Left. bits.Reader: Left, Get, noughts. bits.Reader: Gamma, Done, NewReader. canon.Code: ended, Get. -/
import Derived.Test.YtpbphhpldlckbaaGreatSc30
import Derived.Test.YtpbphhpldlckbaaGreatSc22
import Derived.Test.YtpbphhpldlckbaaGreatSc09
namespace Go.Proofs.YtpbphhpldlckbaaGreat
namespace Bt
open Go.RowKit

/-- Bits as a text. -/
def btxt (bs : List Bool) : ByteArray := ⟨(byt bs).toArray⟩

theorem OwnB.rd1 {w : World} {B : Nat} {v : Value} {l : List UInt8} (h : OwnB w B v l) (w' : World) (hk : ∀ p : Addr, p.block < w.heap.size → w'.cell? p = w.cell? p) :
    (convert 66 9 v).run Tryz.prog w' = .ok (.string ⟨l.toArray⟩) w' := by
  obtain ⟨A, c, rfl, _, _, hr⟩ := h.rd
  exact run_str (hr.keep hk)

set_option maxHeartbeats 3200000 in
set_option maxRecDepth 100000 in
theorem text_any (w : World) (B b : Nat) (g : Option Nat) (bs : List Bool) (h : Wt w B b g bs) (hl : bs.length ≤ 8000000) :
    Calls Tryz.prog 76 #[.pointer (some ⟨b, 0, none⟩)] w fun e w' => e = .returned (.string (btxt bs)) ∧ Below w.heap.size w w' := by
  have mixed : Tryz.prog.follows .mixedOrders = true := by kernel_rfl
  obtain ⟨v, l, rest, n, hW, hn, hr, rfl, rfl⟩ := h
  have hc0 := hW.c0
  have hc1 := hW.c1
  have hc2 := hW.c2
  have hlt := hW.lt
  have HO := Lib.hid hW.own
  by_cases h0 : n = 0
  · subst h0
    have hb : btxt (bits l ++ toB 0 rest) = ⟨l.toArray⟩ := by
      unfold btxt; rw [byt_whole]; simp [toB, byt_nil]
    rw [hb]
    have hcv := OwnB.rd1 HO.out w (fun _ _ => rfl)
    clear hW hb
    go_enter Tryz.func76, Tryz.ntmps76
    go_wp2
    go_ret
    exact ⟨rfl, Below.refl _ _⟩
  · have hr2 : rest * 2 ^ (8 - n) < 256 := by
      have := Nat.mul_lt_mul_of_pos_right hr (Nat.two_pow_pos (8 - n))
      rwa [← Nat.pow_add, show n + (8 - n) = 8 by omega] at this
    have hb : btxt (bits l ++ toB n rest) = ⟨(l ++ [UInt8.ofNat (rest * 2 ^ (8 - n))]).toArray⟩ := by
      unfold btxt
      rw [byt_whole, byt_part _ (by rw [length_toB]; omega) (by rw [length_toB]; omega), length_toB, ofB_toB_lt _ _ hr]
    rw [hb]
    have hz : ∀ z : Int, z = ((rest * 2 ^ (8 - n) : Nat) : Int) → z = ((UInt8.ofNat (rest * 2 ^ (8 - n))).toNat : Int) := by
      intro z e; rw [e, UInt8.toNat_ofNat']; omega
    have hZ : IntKind.u64.wrap ((rest : Int) * 2 ^ (8 - n)) % 256 = ((UInt8.ofNat (rest * 2 ^ (8 - n))).toNat : Int) := by
      apply hz
      rw [show (rest : Int) * 2 ^ (8 - n) = ((rest * 2 ^ (8 - n) : Nat) : Int) by simp, IntKind.wrap_u64]
      omega
    have hcv1 := OwnB.rd1 HO.out w.drew (fun _ _ => rfl)
    have hcv2 := OwnB.rd1 HO.out (w.alloc (.cells #[.int .u8 (IntKind.u64.wrap ((rest : Int) * 2 ^ (8 - n)) % 256)] 5)).drew (fun p hp => World.cell?_alloc_lt w _ p hp)
    have hcA : (w.alloc (.cells #[.int .u8 (IntKind.u64.wrap ((rest : Int) * 2 ^ (8 - n)) % 256)] 5)).cell? ⟨b, 0, none⟩ = some v := (World.cell?_alloc_lt w _ ⟨b, 0, none⟩ hlt).trans hc0
    have hcv3 : (convert 66 9 (.slice (some ⟨w.heap.size, 0, none⟩) 1 1)).run Tryz.prog (w.alloc (.cells #[.int .u8 (IntKind.u64.wrap ((rest : Int) * 2 ^ (8 - n)) % 256)] 5)).drew = .ok (.string ⟨[UInt8.ofNat (rest * 2 ^ (8 - n))].toArray⟩) (w.alloc (.cells #[.int .u8 (IntKind.u64.wrap ((rest : Int) * 2 ^ (8 - n)) % 256)] 5)).drew := by
      rw [hZ]
      exact run_str (B := w.heap.size + 1) (l := [UInt8.ofNat (rest * 2 ^ (8 - n))]) ⟨rfl, fun _ => ⟨_, rfl, by simp, cell_one_new w _ _⟩⟩
    have hbel : Below w.heap.size w (w.alloc (.cells #[.int .u8 (IntKind.u64.wrap ((rest : Int) * 2 ^ (8 - n)) % 256)] 5)).drew := (ext_alloc w _).drew
    have HBL := Lib.hid hbel
    obtain ⟨S1, hS1⟩ : ∃ S1 : ByteArray, S1 = ⟨l.toArray⟩ := ⟨_, rfl⟩
    obtain ⟨S2, hS2⟩ : ∃ S2 : ByteArray, S2 = ⟨[UInt8.ofNat (rest * 2 ^ (8 - n))].toArray⟩ := ⟨_, rfl⟩
    have hs1 : S1.size ≤ 1000000 := by
      rw [hS1]
      show l.toArray.size ≤ _
      rw [List.size_toArray]
      rw [List.length_append, length_bits] at hl; omega
    have hs2 : S2.size = 1 := by rw [hS2]; rfl
    rw [← hS1] at hcv1 hcv2
    rw [← hS2] at hcv3
    have hres : (⟨(l ++ [UInt8.ofNat (rest * 2 ^ (8 - n))]).toArray⟩ : ByteArray) = S1 ++ S2 := by
      rw [hS1, hS2]
      apply ByteArray.ext
      simp
    rw [hres]
    clear hW hb hz hr2 hZ hbel hS1 hS2 hres hl
    go_enter Tryz.func76, Tryz.ntmps76
    go_wp2_with fail
    go_region
    go_wp2
    go_ret
    exact ⟨rfl, HBL.out⟩
end Bt
end Go.Proofs.YtpbphhpldlckbaaGreat
namespace Go.Proofs.YtpbphhpldlckbaaGreat
namespace Cn
open Go.RowKit

theorem wds_at (l : List Int) (s : Nat) (hs : s < l.length) (h : 0 < l[s]) : (wds l)[s]? = some ((wd l s : Int), l[s]) := by
  unfold wds
  rw [List.getElem?_map, List.getElem?_range hs]
  have : l.getD s 0 = l[s] := by rw [List.getD_eq_getElem?_getD, List.getElem?_eq_getElem hs]; rfl
  simp only [Option.map_some, this]
  rw [if_pos h]

set_option maxHeartbeats 3200000 in
set_option maxRecDepth 100000 in
theorem word_any (w : World) (b s : Nat) (l : List Int) (h : Cd w b l) (hl : l.length ≤ 1000) (hs : s < l.length) (hp : 0 < l[s]) :
    Calls Tryz.prog 102 #[.pointer (some ⟨b, 0, none⟩), .int .i64 (s : Int)] w fun e w' => e = .returned (.tuple #[.agg #[.int .i64 (wd l s : Int), .int .i64 l[s]], .int .i64 0]) ∧ Below w.heap.size w w' := by
  have mixed : Tryz.prog.follows .mixedOrders = true := by kernel_rfl
  obtain ⟨g, c, hc0, hr⟩ := h.words
  have hm := h.made
  obtain ⟨h1, h2⟩ := fl2_at (wds l) s _ (wds_at l s hs hp)
  have hcell : ∀ k u, (fl2 (wds l))[k]? = some u → w.cell? ⟨g, k, none⟩ = some u := by
    intro k u hu
    obtain ⟨ad, e, _, hc⟩ := hr.cells (by omega)
    cases e
    have := hc k u hu
    rwa [Addr.add_lit, Nat.zero_add] at this
  have hg : g < w.heap.size := by
    obtain ⟨ad, e, hb, _⟩ := hr.cells (by omega)
    cases e; exact hb
  have hc1 := hcell _ _ h1
  have hc2 := hcell _ _ h2
  have hlb := h.lt
  generalize wd l s = x at *
  generalize l[s] = y at *
  rw [show 2 * s = s * 2 by omega] at hc1 hc2
  have b0 : (y == 0) = false := by rw [beq_eq_false_iff_ne]; omega
  generalize l.length = n at *
  have HR := Lib.hid hr
  clear h hr h1 h2 hcell
  go_enter Tryz.func102, Tryz.ntmps102
  go_wp2_with fail
  refine bodyPost_ret (v := .tuple #[.agg #[.int .i64 (x : Int), .int .i64 y], .int .i64 0]) ?_ rfl ?_
  · simp [results, go_sem]
  · exact ⟨rfl, ext_alloc w _⟩

section
open Bt
theorem frm_of_below {w w' : World} (h : Below w.heap.size w w') (b : Nat) (g : Option Nat) : Frm w w' b g := ⟨h.os, h.tape, h.output, h.size, fun k hk _ _ => h.block k hk⟩
theorem wt_ext {w w' : World} {B b : Nat} {g : Option Nat} {bs : List Bool} (h : Wt w B b g bs) (hb : Below w.heap.size w w') : Wt w' B b g bs := by
  obtain ⟨v, l, rest, n, hW, h1, h2, h3, h4⟩ := h
  exact ⟨v, l, rest, n, ⟨(hb.block b hW.lt).trans hW.row, hW.ge, hW.own.below hb (Nat.le_refl _), hW.ne⟩, h1, h2, h3, h4⟩

set_option maxHeartbeats 3200000 in
set_option maxRecDepth 100000 in
theorem cput_any (w : World) (b s : Nat) (l : List Int) (B bw : Nat) (g : Option Nat) (bs : List Bool) (h : Cd w b l) (hok : Ok l) (hl : l.length ≤ 1000) (hs : s < l.length) (hp : 0 < l[s]) (hW : Wt w B bw g bs) (hbl : bs.length ≤ 8000000) :
    Calls Tryz.prog 75 #[.pointer (some ⟨b, 0, none⟩), .pointer (some ⟨bw, 0, none⟩), .int .i64 (s : Int)] w fun e w' => e = .returned (.int .i64 0) ∧
      ∃ g', Wt w' B bw g' (bs ++ toB l[s].toNat (wd l s)) ∧ Frm w w' bw g ∧ Nxt w g g' := by
  have hr := hok.rng l[s] (List.getElem_mem _)
  obtain ⟨y, hy⟩ : ∃ y : Nat, l[s] = (y : Int) := ⟨l[s].toNat, by omega⟩
  obtain ⟨hw0, hlt, hy15⟩ := wd_lt l hok s y hs (by omega) hy
  clear hw0
  have hwd := word_any w b s l h hl hs hp
  have hput := fun w' (hb : Below w.heap.size w w') => Put_any w' B bw g bs (wd l s) y (wt_ext hW hb) hlt (by omega) hbl
  rw [hy] at hwd ⊢
  rw [Int.toNat_natCast]
  have HWD := Lib.hid hwd
  have HP := Lib.hid hput
  generalize wd l s = x at *
  clear hwd hput h hok hW hbl hr hy hlt hp
  go_enter Tryz.func75, Tryz.ntmps75
  go_wp2_with fail
  refine HWD.out.mono ?_
  rintro e1 w1 ⟨rfl, hb1⟩
  have hb2 : Below w.heap.size w (w1.alloc (Obj.cells #[.int .i64 (x : Int), .int .i64 (y : Int)] 175)) := ext_trans hb1 (ext_alloc w1 _)
  have HB2 := Lib.hid hb2
  clear hb2
  go_wp2_with fail
  refine (HP.out _ HB2.out).mono ?_
  rintro e2 w2 ⟨rfl, g', h1, h2, h3⟩
  have HE : Aside (∃ g', Wt w2 B bw g' (bs ++ toB y x) ∧ Frm w w2 bw g ∧ Nxt w g g') := ⟨g', h1, (frm_of_below HB2.out bw g).trans h2 (.inl rfl), by
    rcases h3 with e | ⟨m, e, hm⟩
    · exact .inl e
    · exact .inr ⟨m, e, Nat.le_trans HB2.out.size hm⟩⟩
  clear h1 h2 h3
  go_wp2_with fail
  go_ret
  exact ⟨rfl, HE.out⟩
end
end Cn
end Go.Proofs.YtpbphhpldlckbaaGreat
namespace Go.Proofs.YtpbphhpldlckbaaGreat
namespace Bt
open Go.RowKit

/-- A reader at block b: its text, and the bit that comes next. -/
def RdS (w : World) (b : Nat) (s : ByteArray) (p : Nat) : Prop := w.heap[b]? = some (.cells #[.string s, .int .i64 (p : Int)] 206 (0, 0))
section
variable {w w' : World} {b p : Nat} {s : ByteArray}
theorem RdS.lt (h : RdS w b s p) : b < w.heap.size := (Array.getElem?_eq_some_iff.1 h).1
theorem RdS.c0 (h : RdS w b s p) : w.cell? ⟨b, 0, none⟩ = some (.string s) := by rw [cell_of_row w b 0 _ _ (0, 0) h]; rfl
theorem RdS.c1 (h : RdS w b s p) : w.cell? ⟨b, 1, none⟩ = some (.int .i64 (p : Int)) := by rw [cell_of_row w b 1 _ _ (0, 0) h]; rfl
theorem RdS.fz (h : RdS w b s p) (j : Nat) : w.frozen? ⟨b, j, none⟩ = false := frozen_of_row w b j _ _ h
theorem RdS.set1 (h : RdS w b s p) (q : Nat) : RdS (w.setCell ⟨b, 1, none⟩ (.int .i64 (q : Int))) b s q := by
  unfold RdS at *
  simp [World.setCell, Array.getElem?_modify, h]
theorem RdS.drewN (h : RdS w b s p) (m : Nat) : RdS (w.drewN m) b s p := h
end

/-- Some bits as a number. -/
def bnum (s : ByteArray) (p k : Nat) : Nat := ofB (((bits s.data.toList).drop p).take k)

theorem bnum_add (s : ByteArray) (p a k : Nat) (h : p + a + k ≤ 8 * s.size) : bnum s p (a + k) = bnum s p a * 2 ^ k + bnum s (p + a) k := by
  unfold bnum
  rw [take_bits_succ, ofB_append]
  have hl : (((bits s.data.toList).drop (p + a)).take k).length = k := by
    rw [List.length_take, List.length_drop, length_bits]
    have : s.data.toList.length = s.size := rfl
    omega
  rw [hl]
theorem bnum_lt (s : ByteArray) (p k : Nat) : bnum s p k < 2 ^ k := by
  unfold bnum
  exact Nat.lt_of_lt_of_le (ofB_lt _) (Nat.pow_le_pow_right (by omega) (by rw [List.length_take]; omega))
theorem bnum_byte (s : ByteArray) (p k : Nat) (h : p / 8 < s.size) (hk : p % 8 + k ≤ 8) : bnum s p k = s[p / 8].toNat / 2 ^ (8 - p % 8 - k) % 2 ^ k := by
  unfold bnum
  rw [byte_bits s.data.toList p k s[p / 8] (by rw [List.getElem?_eq_getElem (show p / 8 < s.data.toList.length from h)]; rfl) hk, ofB_toB]

theorem w64 (n : Nat) (h : n < 9223372036854775808) : wrap64 (n : Int) = n := by unfold wrap64; omega
theorem wraps_i64' (n : Int) (h₀ : 0 ≤ n) (h₁ : n < 2 ^ 63) : IntKind.i64.wrap n = n := by
  have e : (2 : Int) ^ 63 = 9223372036854775808 := by decide
  rw [IntKind.wrap_i64]; omega
theorem pk1 (c : Nat) (hc : c ≤ 8) : wrap64 (wrap64 (2 ^ c) - 1) = 2 ^ c - 1 := by
  have : c = 0 ∨ c = 1 ∨ c = 2 ∨ c = 3 ∨ c = 4 ∨ c = 5 ∨ c = 6 ∨ c = 7 ∨ c = 8 := by omega
  rcases this with rfl | rfl | rfl | rfl | rfl | rfl | rfl | rfl | rfl <;> simp [wrap64]
theorem pk2 (B e : Nat) (hB : B < 256) : wrap64 (B : Int) / 2 ^ e = ((B / 2 ^ e : Nat) : Int) := by
  rw [w64 B (by omega), Int.natCast_ediv, Int.natCast_pow]; rfl
theorem pk3 (x c : Nat) (hx : x < 256) (hc : c ≤ 8) : Go.bits .and .i64 (x : Int) (2 ^ c - 1) = ((x % 2 ^ c : Nat) : Int) := by
  have h63 : (x : Int) < 2 ^ 63 := by
    have e63 : (2 : Int) ^ 63 = 9223372036854775808 := by decide
    rw [e63]; omega
  rw [bits_mask .i64 63 (by decide) wraps_i64' c (by omega) _ (by omega) h63, Int.natCast_emod, Int.natCast_pow]; rfl
theorem pk4 (q x c : Nat) (hq : q * 2 ^ c < 1099511627776) (hx : x < 2 ^ c) (hc : x < 256) : Go.bits .or .i64 ((q * 2 ^ c : Nat) : Int) (x : Int) = ((q * 2 ^ c + x : Nat) : Int) := by
  have h1 : q * 2 ^ c < 2 ^ 63 := Nat.lt_of_lt_of_le hq (by decide)
  have h2 : x < 2 ^ 63 := Nat.lt_of_lt_of_le hc (by decide)
  rw [(bits_nat .i64 63 (by decide) wraps_i64' (q * 2 ^ c) x h1 h2).2, Nat.mul_comm, Nat.two_pow_add_eq_or_of_lt hx]
theorem pk5 (q d c : Nat) (h : q < 2 ^ d) (hd : d + c ≤ 40) : q * 2 ^ c < 1099511627776 := by
  have h1 := Nat.mul_lt_mul_of_pos_right h (Nat.two_pow_pos c)
  rw [← Nat.pow_add] at h1
  exact Nat.lt_of_lt_of_le h1 (Nat.le_trans (Nat.pow_le_pow_right (by omega) hd) (by decide))
theorem pk6 (q c : Nat) (h : q * 2 ^ c < 1099511627776) : wrap64 ((q : Int) * 2 ^ c) = ((q * 2 ^ c : Nat) : Int) := by
  have e : (q : Int) * 2 ^ c = ((q * 2 ^ c : Nat) : Int) := by rw [Int.natCast_mul, Int.natCast_pow]; rfl
  rw [e]
  generalize q * 2 ^ c = z at *
  exact w64 z (by omega)
theorem peekJoin (acc d c f B : Nat) (h : acc < 2 ^ d) (hd : d + c ≤ 40) (hc : c ≤ 8) (hB : B < 256) :
    Go.bits .or .i64 (wrap64 ((acc : Int) * 2 ^ c)) (Go.bits .and .i64 (wrap64 (B : Int) / 2 ^ (f - c)) (wrap64 (wrap64 (2 ^ c) - 1))) = ((acc * 2 ^ c + B / 2 ^ (f - c) % 2 ^ c : Nat) : Int) := by
  have hq : B / 2 ^ (f - c) < 256 := Nat.lt_of_le_of_lt (Nat.div_le_self _ _) hB
  have h5 := pk5 acc d c h hd
  rw [pk1 c hc, pk2 B _ hB, pk3 _ c hq hc, pk6 acc c h5]
  exact pk4 acc _ c h5 (Nat.mod_lt _ (Nat.two_pow_pos c)) (Nat.lt_of_le_of_lt (Nat.mod_le _ _) hq)

set_option maxHeartbeats 3200000 in
set_option maxRecDepth 100000 in
theorem peek_any (w : World) (b p0 p wd : Nat) (s : ByteArray) (h : RdS w b s p0) (hs : s.size ≤ 1000000) (hp : p + wd ≤ 8 * s.size) (hwd : wd ≤ 40) :
    Calls Tryz.prog 146 #[.pointer (some ⟨b, 0, none⟩), .int .i64 (p : Int), .int .i64 (wd : Int)] w fun e w' => e = .returned (.int .i64 (bnum s p wd : Int)) ∧ ∃ m, w' = w.drewN m := by
  have mixed : Tryz.prog.follows .mixedOrders = true := by kernel_rfl
  have hc0 := h.c0
  have HP := Lib.hid hp
  clear h
  go_enter Tryz.func146, Tryz.ntmps146
  go_wp2_with fail
  go_loopg [1, 2, 7] wd (fun kx s1 s2 s7 wr => ∃ (d k m : Nat), d + k = wd ∧ s1 = .int .i64 ((p + d : Nat) : Int) ∧ s2 = .int .i64 (k : Int) ∧ s7 = .int .i64 (bnum s p d : Int) ∧ k ≤ kx ∧ wr = w.drewN m)
  case atStart => exact ⟨0, wd, 0, by omega, rfl, rfl, by simp [bnum, ofB], by omega, rfl⟩
  case round =>
    obtain ⟨d, k, m, hdk, rfl, rfl, rfl, hkx, rfl⟩ := hrel
    by_cases h0 : 0 < k
    · obtain ⟨t, ht⟩ : ∃ t, t = p + d := ⟨_, rfl⟩
      obtain ⟨r, hr⟩ : ∃ r, r = t % 8 := ⟨_, rfl⟩
      obtain ⟨j, hj⟩ : ∃ j, j = t / 8 := ⟨_, rfl⟩
      have hjs : j < s.size := by have := HP.out; omega
      obtain ⟨f, hf⟩ : ∃ f, f = 8 - r := ⟨_, rfl⟩
      obtain ⟨c, hc⟩ : ∃ c, c = min f k := ⟨_, rfl⟩
      rw [← ht]
      have e1 : (t : Int) % 8 = (r : Int) := by omega
      have e2 : (t : Int) / 8 = (j : Int) := by omega
      have e3 : (8 : Int) - (r : Int) = (f : Int) := by omega
      have e4 : min (f : Int) (k : Int) = (c : Int) := by omega
      have hrb : r < 8 := by omega
      have hfb : 1 ≤ f := by omega
      have hf8 : f ≤ 8 := by omega
      have hcb : 1 ≤ c := by omega
      have hcf : c ≤ f := by omega
      have hck : c ≤ k := by omega
      have htb : t ≤ 8000000 := by have := HP.out; omega
      have hbl := bnum_lt s p d
      have E1 := Lib.hid e1
      have E2 := Lib.hid e2
      have E3 := Lib.hid e3
      have E4 := Lib.hid e4
      have HT := Lib.hid ht
      have HR := Lib.hid hr
      have HJ := Lib.hid hj
      have HF := Lib.hid hf
      clear e1 e2 e3 e4 ht hr hj hf hc
      go_wp2_with fail
      rw [E1.out, E3.out, E4.out]
      have e2 := E2.out
      have hj := peekJoin (bnum s p d) d c f s[j].toNat hbl (by omega) (by omega) s[j].toNat_lt
      have hbn : bnum s p d * 2 ^ c + s[j].toNat / 2 ^ (f - c) % 2 ^ c = bnum s p (d + c) := by
        rw [bnum_add s p d c (by have := HP.out; omega), ← HT.out]
        have hjt : t / 8 = j := HJ.out.symm
        have := bnum_byte s t c (by omega) (by have := HR.out; have := HF.out; omega)
        rw [this]
        subst hjt
        rw [show 8 - t % 8 - c = f - c by have := HR.out; have := HF.out; omega]
      rw [hbn] at hj
      have HJN := Lib.hid hj
      clear hj hbn
      go_region
      go_wp2_with fail
      go_roundg (k - c)
      case measure => omega
      case rel => exact ⟨d + c, k - c, _, by omega, by (have := HT.out; go_num), by go_num, by rw [HJN.out], by omega, rfl⟩
    · have hk0 : k = 0 := by omega
      subst hk0
      have hd : d = wd := by omega
      subst hd
      go_wp2_with fail
      go_ret
      exact ⟨rfl, m, rfl⟩
end Bt
end Go.Proofs.YtpbphhpldlckbaaGreat
namespace Go.Proofs.YtpbphhpldlckbaaGreat
namespace Bt
open Go.RowKit

theorem Frm.drewN {w w' : World} {b : Nat} {g : Option Nat} (h : Frm w w' b g) (m : Nat) : Frm w (w'.drewN m) b g := ⟨h.os, h.tape, h.output, h.size, h.blk⟩

set_option maxHeartbeats 1600000 in
set_option maxRecDepth 100000 in
theorem left_any (w : World) (b p : Nat) (s : ByteArray) (h : RdS w b s p) (hs : s.size ≤ 1000000) (hp : p ≤ 8 * s.size) :
    Calls Tryz.prog 130 #[.pointer (some ⟨b, 0, none⟩)] w fun e w' => e = .returned (.int .i64 ((8 * s.size - p : Nat) : Int)) ∧ ∃ m, w' = w.drewN m := by
  have mixed : Tryz.prog.follows .mixedOrders = true := by kernel_rfl
  have hc0 := h.c0
  have hc1 := h.c1
  clear h
  go_enter Tryz.func130, Tryz.ntmps130
  go_wp2_with fail
  go_quiet (fail)
  go_wp2
  go_ret
  exact ⟨ret_int (by omega), _, rfl⟩

set_option maxHeartbeats 1600000 in
set_option maxRecDepth 100000 in
theorem rget_any (w : World) (b p wd : Nat) (s : ByteArray) (h : RdS w b s p) (hs : s.size ≤ 1000000) (hp : p ≤ 8 * s.size) (h1 : 1 ≤ wd) (hwd : wd ≤ 32) :
    Calls Tryz.prog 126 #[.pointer (some ⟨b, 0, none⟩), .int .i64 (wd : Int)] w fun e w' =>
      if p + wd ≤ 8 * s.size then e = .returned (.tuple #[.int .i64 (bnum s p wd : Int), .int .i64 0]) ∧ RdS w' b s (p + wd) ∧ Frm w w' b none else e = .returned (.tuple #[.int .i64 0, .int .i64 4]) ∧ ∃ m, w' = w.drewN m := by
  have hleft := left_any w b p s h hs hp
  have HL := Lib.hid hleft
  have hc0 := h.c0
  have hc1 := h.c1
  have hf1 := h.fz 1
  have HR : Aside (RdS w b s p) := h
  have HPK : Hid (p + wd ≤ 8 * s.size → ∀ w', RdS w' b s (p + wd) → Calls Tryz.prog 146 #[.pointer (some ⟨b, 0, none⟩), .int .i64 (p : Int), .int .i64 (wd : Int)] w' fun e w'' => e = .returned (.int .i64 (bnum s p wd : Int)) ∧ ∃ m, w'' = w'.drewN m) :=
    fun hh w' h' => peek_any w' b (p + wd) p wd s h' hs hh (by omega)
  clear h hleft
  by_cases hle : p + wd ≤ 8 * s.size
  · simp only [if_pos hle]
    have hb : wd ≤ 8 * s.size - p := by omega
    go_enter Tryz.func126, Tryz.ntmps126
    go_wp2_with fail
    refine HL.out.mono ?_
    rintro e1 w1 ⟨rfl, m, rfl⟩
    obtain ⟨z, hz⟩ : ∃ z, z = 8 * s.size - p := ⟨_, rfl⟩
    rw [← hz] at hb ⊢
    clear hz
    go_wp2_with fail
    have hR2 : RdS ((w.drewN m).setCell ⟨b, 1, none⟩ (.int .i64 ((p : Int) + (wd : Int)))) b s (p + wd) := by
      have := (HR.out.drewN m).set1 (p + wd)
      rwa [Int.natCast_add] at this
    have HR2 : Aside _ := hR2
    have HF2 : Aside (Frm w ((w.drewN m).setCell ⟨b, 1, none⟩ (.int .i64 ((p : Int) + (wd : Int)))) b none) := ((Frm.refl w b none).drewN m).set 1 _
    refine (HPK.out hle _ hR2).mono ?_
    rintro e2 w2 ⟨rfl, m2, rfl⟩
    clear hR2
    go_wp2_with fail
    go_ret2
    exact ⟨rfl, HR2.out, HF2.out.drewN m2⟩
  · simp only [if_neg hle]
    have hb : 8 * s.size - p < wd := by omega
    go_enter Tryz.func126, Tryz.ntmps126
    go_wp2_with fail
    refine HL.out.mono ?_
    rintro e1 w1 ⟨rfl, m, rfl⟩
    obtain ⟨z, hz⟩ : ∃ z, z = 8 * s.size - p := ⟨_, rfl⟩
    rw [← hz] at hb ⊢
    clear hz
    go_wp2_with fail
    go_ret2
    exact ⟨rfl, m, rfl⟩

/-- The bits that are left. -/
def rem (s : ByteArray) (p : Nat) : List Bool := (bits s.data.toList).drop p
theorem length_rem (s : ByteArray) (p : Nat) : (rem s p).length = 8 * s.size - p := by
  unfold rem; rw [List.length_drop, length_bits]; rfl
theorem bnum_one (s : ByteArray) (p : Nat) (h : p < 8 * s.size) : ∃ x, (rem s p).take 1 = [x] ∧ bnum s p 1 = x.toNat := by
  have hl : ((rem s p).take 1).length = 1 := by rw [List.length_take, length_rem]; omega
  obtain ⟨x, hx⟩ := List.length_eq_one_iff.1 hl
  refine ⟨x, hx, ?_⟩
  unfold bnum
  rw [show ((bits s.data.toList).drop p).take 1 = [x] from hx]
  cases x <;> rfl
/-- k noughts, and then none, or the end. -/
theorem nz_is (l : List Bool) (k : Nat) (h : l.take k = List.replicate k false) (hk : l.length = k ∨ ∃ r, l.drop k = true :: r) : nz l = k := by
  rw [← List.take_append_drop k l, h, nz_replicate]
  rcases hk with hk | ⟨r, hr⟩
  · rw [List.drop_of_length_le (by omega)]; rfl
  · rw [hr, nz_true]; rfl

set_option maxHeartbeats 1600000 in
set_option maxRecDepth 100000 in
theorem noughts_any (w : World) (b p : Nat) (s : ByteArray) (h : RdS w b s p) (hs : s.size ≤ 1000000) (hp : p ≤ 8 * s.size) :
    Calls Tryz.prog 131 #[.pointer (some ⟨b, 0, none⟩), .int .i64 ((8 * s.size - p : Nat) : Int)] w fun e w' => e = .returned (.int .i64 (nz (rem s p) : Int)) ∧ ∃ m, w' = w.drewN m := by
  have hc1 := h.c1
  obtain ⟨z, hz⟩ : ∃ z, z = 8 * s.size - p := ⟨_, rfl⟩
  have HPK : Hid (∀ m k, k < z → Calls Tryz.prog 146 #[.pointer (some ⟨b, 0, none⟩), .int .i64 ((p : Int) + (k : Int)), .int .i64 1] (w.drewN m) fun e w'' => e = .returned (.int .i64 (bnum s (p + k) 1 : Int)) ∧ ∃ m2, w'' = w.drewN m2) := by
    intro m k hk
    have := peek_any (w.drewN m) b p (p + k) 1 s (h.drewN m) hs (by omega) (by omega)
    rw [Int.natCast_add] at this
    refine this.mono ?_
    rintro e w' ⟨he, m2, rfl⟩
    exact ⟨he, m + m2, by rw [World.drewN_drewN]⟩
  have HZ := Lib.hid hz
  have hzb : z ≤ 8000000 := by omega
  have hpb : p ≤ 8000000 := by omega
  rw [← hz]
  clear h hz hp
  go_enter Tryz.func131, Tryz.ntmps131
  go_wp2_with fail
  go_loopg [5] z (fun kx s5 wr => ∃ (k m : Nat), s5 = .int .i64 (k : Int) ∧ k ≤ z ∧ z - k ≤ kx ∧ Hid ((rem s p).take k = List.replicate k false) ∧ wr = w.drewN m)
  case atStart => exact ⟨0, 0, rfl, by omega, by omega, rfl, rfl⟩
  case round =>
    obtain ⟨k, m, rfl, hk, hkx, heq, rfl⟩ := hrel
    by_cases hlt : k < z
    · obtain ⟨x, hx1, hx2⟩ := bnum_one s (p + k) (by have := HZ.out; omega)
      have hdr : (rem s p).drop k = rem s (p + k) := by unfold rem; rw [List.drop_drop]
      have hpk := HPK.out m k hlt
      rw [hx2] at hpk
      have HPP := Lib.hid hpk
      cases x
      · have hn : (rem s p).take (k + 1) = List.replicate (k + 1) false := by
          rw [List.take_add, heq.out, hdr, hx1, List.replicate_succ']
        have HN := Lib.hid hn
        clear hx1 hx2 hdr hpk hn
        go_wp2_with fail
        refine HPP.out.mono ?_
        rintro e1 w1 ⟨rfl, m1, rfl⟩
        go_wp2_with fail
        go_roundg (z - (k + 1))
        case measure => omega
        case rel => exact ⟨k + 1, _, by go_num, by omega, by omega, HN.out, rfl⟩
      · have hn : nz (rem s p) = k := by
          refine nz_is _ k heq.out (.inr ⟨(rem s (p + k)).drop 1, ?_⟩)
          rw [hdr]
          conv => lhs; rw [← List.take_append_drop 1 (rem s (p + k)), hx1]
          rfl
        have HN := Lib.hid hn
        clear hx1 hx2 hdr hpk hn
        go_wp2_with fail
        refine HPP.out.mono ?_
        rintro e1 w1 ⟨rfl, m1, rfl⟩
        go_wp2_with fail
        go_ret
        rw [HN.out]
        exact ⟨rfl, _, rfl⟩
    · have hn : nz (rem s p) = k := nz_is _ k heq.out (.inl (by rw [length_rem]; have := HZ.out; omega))
      have HN := Lib.hid hn
      clear hn
      go_wp2_with fail
      go_ret
      rw [HN.out]
      exact ⟨rfl, _, rfl⟩
end Bt
end Go.Proofs.YtpbphhpldlckbaaGreat
namespace Go.Proofs.YtpbphhpldlckbaaGreat
namespace Bt
open Go.RowKit

set_option maxHeartbeats 1600000 in
set_option maxRecDepth 100000 in
theorem done_any (w : World) (b p : Nat) (s : ByteArray) (h : RdS w b s p) (hs : s.size ≤ 1000000) (hp : p ≤ 8 * s.size) :
    Calls Tryz.prog 106 #[.pointer (some ⟨b, 0, none⟩)] w fun e w' => e = .returned (.bool (doneB (rem s p))) ∧ ∃ m, w' = w.drewN m := by
  have hleft := left_any w b p s h hs hp
  have hn := fun m => noughts_any (w.drewN m) b p s (h.drewN m) hs hp
  have hd : doneB (rem s p) = (decide (8 * s.size - p = 0) || (decide (8 * s.size - p < 8) && decide (nz (rem s p) = 8 * s.size - p))) := by
    unfold doneB; rw [length_rem]
  have hnz := nz_le (rem s p)
  rw [length_rem] at hnz
  obtain ⟨z, hz⟩ : ∃ z, z = 8 * s.size - p := ⟨_, rfl⟩
  rw [← hz] at hleft hd hnz
  simp only [← hz] at hn
  have hzb : z ≤ 8000000 := by omega
  have HL := Lib.hid hleft
  have HN := Lib.hid hn
  have HD := Lib.hid hd
  generalize nz (rem s p) = q at *
  clear h hleft hn hd hz hp
  by_cases h0 : z = 0
  · subst h0
    go_enter Tryz.func106, Tryz.ntmps106
    go_wp2_with fail
    refine HL.out.mono ?_
    rintro e1 w1 ⟨rfl, m, rfl⟩
    go_wp2_with fail
    go_ret
    rw [HD.out]
    exact ⟨rfl, m, rfl⟩
  have c0 : ((z : Int) == 0) = false := by rw [beq_eq_false_iff_ne]; omega
  by_cases h8 : z < 8
  · have hq : ((q : Int) == (z : Int)) = decide (q = z) := by
      by_cases hqz : q = z
      · subst hqz; simp
      · rw [decide_eq_false hqz, beq_eq_false_iff_ne]; omega
    go_enter Tryz.func106, Tryz.ntmps106
    go_wp2_with fail
    refine HL.out.mono ?_
    rintro e1 w1 ⟨rfl, m, rfl⟩
    go_wp2_with fail
    refine (HN.out m).mono ?_
    rintro e2 w2 ⟨rfl, m2, rfl⟩
    go_wp2_with fail
    go_ret
    rw [HD.out, decide_eq_false h0, decide_eq_true h8, Bool.false_or, Bool.true_and]
    exact ⟨rfl, m + m2, rfl⟩
  · go_enter Tryz.func106, Tryz.ntmps106
    go_wp2_with fail
    refine HL.out.mono ?_
    rintro e1 w1 ⟨rfl, m, rfl⟩
    go_wp2_with fail
    go_ret
    rw [HD.out, decide_eq_false h0, decide_eq_false h8]
    exact ⟨rfl, m, rfl⟩

set_option maxHeartbeats 1600000 in
set_option maxRecDepth 100000 in
theorem newReader_any (w : World) (s : ByteArray) :
    Calls Tryz.prog 103 #[.string s] w fun e w' => e = .returned (.pointer (some ⟨w.heap.size, 0, none⟩)) ∧ RdS w' w.heap.size s 0 ∧ Below w.heap.size w w' := by
  go_enter Tryz.func103, Tryz.ntmps103
  go_wp2_with fail
  go_ret
  exact ⟨rfl, heap_alloc_new w _, ext_alloc w _⟩

theorem getGam_rem (s : ByteArray) (p : Nat) (h0 : ¬ 8 * s.size - p = 0) (h1 : ¬ nz (rem s p) = 8 * s.size - p) (h2 : ¬ 32 ≤ nz (rem s p)) (h3 : ¬ 8 * s.size - p < 2 * nz (rem s p) + 1) :
    getGam (rem s p) = (0, bnum s (p + nz (rem s p)) (nz (rem s p) + 1), rem s (p + (2 * nz (rem s p) + 1))) := by
  unfold getGam
  rw [length_rem, if_neg h0, if_neg h1, if_neg h2, if_neg h3]
  unfold bnum rem
  rw [List.drop_drop, List.drop_drop]

set_option maxHeartbeats 3200000 in
set_option maxRecDepth 100000 in
theorem rgamma_any (w : World) (b p : Nat) (s : ByteArray) (h : RdS w b s p) (hs : s.size ≤ 1000000) (hp : p ≤ 8 * s.size) :
    Calls Tryz.prog 127 #[.pointer (some ⟨b, 0, none⟩)] w fun e w' => e = .returned (.tuple #[.int .i64 ((getGam (rem s p)).2.1 : Int), .int .i64 (getGam (rem s p)).1]) ∧
      (((getGam (rem s p)).1 ≠ 0 ∧ ∃ m, w' = w.drewN m) ∨ ((getGam (rem s p)).1 = 0 ∧ RdS w' b s (p + (2 * nz (rem s p) + 1)) ∧ (getGam (rem s p)).2.2 = rem s (p + (2 * nz (rem s p) + 1)) ∧ p + (2 * nz (rem s p) + 1) ≤ 8 * s.size ∧ Frm w w' b none)) := by
  have hleft := left_any w b p s h hs hp
  have hn := fun m => noughts_any (w.drewN m) b p s (h.drewN m) hs hp
  have hnz := nz_le (rem s p)
  have hll := length_rem s p
  have hgr := getGam_rem s p
  have hc1 := h.c1
  have hf1 := h.fz 1
  rw [length_rem] at hnz
  obtain ⟨z, hz⟩ : ∃ z, z = 8 * s.size - p := ⟨_, rfl⟩
  rw [← hz] at hleft hnz hll hgr
  simp only [← hz] at hn
  obtain ⟨q, hq⟩ : ∃ q, q = nz (rem s p) := ⟨_, rfl⟩
  have hpk : ∀ m, q < 32 → 2 * q + 1 ≤ z → Calls Tryz.prog 146 #[.pointer (some ⟨b, 0, none⟩), .int .i64 ((p : Int) + (q : Int)), .int .i64 ((q : Int) + 1)] (w.drewN m) fun e w'' => e = .returned (.int .i64 (bnum s (p + q) (q + 1) : Int)) ∧ ∃ m2, w'' = w.drewN (m + m2) := by
    intro m h1 h2
    have := peek_any (w.drewN m) b p (p + q) (q + 1) s (h.drewN m) hs (by omega) (by omega)
    rw [Int.natCast_add, Int.natCast_add] at this
    refine this.mono ?_
    rintro e w' ⟨he, m2, rfl⟩
    exact ⟨he, m2, by rw [World.drewN_drewN]⟩
  have hgd : getGam (rem s p) = if z = 0 then (4, 0, rem s p) else if q = z then (4, 0, rem s p) else if 32 ≤ q then (40, 0, rem s p) else if z < 2 * q + 1 then (4, 0, rem s p) else (0, bnum s (p + q) (q + 1), rem s (p + (2 * q + 1))) := by
    by_cases g0 : z = 0
    · rw [if_pos g0]; unfold getGam; rw [hll, if_pos g0]
    by_cases g1 : q = z
    · rw [if_neg g0, if_pos g1]; unfold getGam; rw [hll, if_neg g0, if_pos (hq ▸ g1)]
    by_cases g2 : 32 ≤ q
    · rw [if_neg g0, if_neg g1, if_pos g2]; unfold getGam; rw [hll, if_neg g0, if_neg (hq ▸ g1), if_pos (hq ▸ g2)]
    by_cases g3 : z < 2 * q + 1
    · rw [if_neg g0, if_neg g1, if_neg g2, if_pos g3]; unfold getGam; rw [hll, if_neg g0, if_neg (hq ▸ g1), if_neg (hq ▸ g2), if_pos (hq ▸ g3)]
    · rw [if_neg g0, if_neg g1, if_neg g2, if_neg g3, hgr g0 (hq ▸ g1) (hq ▸ g2) (hq ▸ g3), ← hq]
  rw [← hq] at hnz ⊢
  simp only [← hq] at hn
  have HPK := Lib.hid hpk
  have HRD : Aside (RdS w b s p) := h
  have HZ := Lib.hid hz
  have HL := Lib.hid hleft
  have HN := Lib.hid hn
  have HG := Lib.hid hgd
  generalize getGam (rem s p) = GG at *
  have hzb : z ≤ 8000000 := by omega
  have hpb : p ≤ 8000000 := by omega
  clear h hleft hn hgd hgr hll hpk hz hq
  by_cases g0 : z = 0
  · have hG := HG.out
    rw [if_pos g0] at hG
    subst hG
    subst g0
    go_enter Tryz.func127, Tryz.ntmps127
    go_wp2_with fail
    refine HL.out.mono ?_
    rintro e1 w1 ⟨rfl, m, rfl⟩
    go_wp2_with fail
    go_ret2
    exact ⟨rfl, .inl ⟨by decide, m, rfl⟩⟩
  have c0 : ((z : Int) == 0) = false := by rw [beq_eq_false_iff_ne]; omega
  by_cases g1 : q = z
  · have hG := HG.out
    rw [if_neg g0, if_pos g1] at hG
    subst hG
    subst g1
    go_enter Tryz.func127, Tryz.ntmps127
    go_wp2_with fail
    refine HL.out.mono ?_
    rintro e1 w1 ⟨rfl, m, rfl⟩
    go_wp2_with fail
    refine (HN.out m).mono ?_
    rintro e2 w2 ⟨rfl, m2, rfl⟩
    go_wp2_with fail
    go_ret2
    exact ⟨rfl, .inl ⟨by decide, m + m2, rfl⟩⟩
  have c1 : ((q : Int) == (z : Int)) = false := by rw [beq_eq_false_iff_ne]; omega
  by_cases g2 : 32 ≤ q
  · have hG := HG.out
    rw [if_neg g0, if_neg g1, if_pos g2] at hG
    subst hG
    go_enter Tryz.func127, Tryz.ntmps127
    go_wp2_with fail
    refine HL.out.mono ?_
    rintro e1 w1 ⟨rfl, m, rfl⟩
    go_wp2_with fail
    refine (HN.out m).mono ?_
    rintro e2 w2 ⟨rfl, m2, rfl⟩
    go_wp2_with fail
    go_ret2
    exact ⟨rfl, .inl ⟨by decide, m + m2, rfl⟩⟩
  by_cases g3 : z < 2 * q + 1
  · have hG := HG.out
    rw [if_neg g0, if_neg g1, if_neg g2, if_pos g3] at hG
    subst hG
    go_enter Tryz.func127, Tryz.ntmps127
    go_wp2_with fail
    refine HL.out.mono ?_
    rintro e1 w1 ⟨rfl, m, rfl⟩
    go_wp2_with fail
    refine (HN.out m).mono ?_
    rintro e2 w2 ⟨rfl, m2, rfl⟩
    go_wp2_with fail
    go_ret2
    exact ⟨rfl, .inl ⟨by decide, m + m2, rfl⟩⟩
  · have hG := HG.out
    rw [if_neg g0, if_neg g1, if_neg g2, if_neg g3] at hG
    have HGG := Lib.hid hG
    clear hG
    go_enter Tryz.func127, Tryz.ntmps127
    go_wp2_with fail
    refine HL.out.mono ?_
    rintro e1 w1 ⟨rfl, m, rfl⟩
    go_wp2_with fail
    refine (HN.out m).mono ?_
    rintro e2 w2 ⟨rfl, m2, rfl⟩
    go_wp2_with fail
    refine (HPK.out (m + m2) (by omega) (by omega)).mono ?_
    rintro e3 w3 ⟨rfl, m3, rfl⟩
    have hR2 : ∀ k, RdS ((w.drewN k).setCell ⟨b, 1, none⟩ (.int .i64 ((p : Int) + (2 * (q : Int) + 1)))) b s (p + (2 * q + 1)) := by
      intro k
      have := (HRD.out.drewN k).set1 (p + (2 * q + 1))
      rwa [show ((p + (2 * q + 1) : Nat) : Int) = (p : Int) + (2 * (q : Int) + 1) by omega] at this
    have HR2 := Lib.hid hR2
    have HF2 : Hid (∀ k, Frm w ((w.drewN k).setCell ⟨b, 1, none⟩ (.int .i64 ((p : Int) + (2 * (q : Int) + 1)))) b none) := fun k => ((Frm.refl w b none).drewN k).set 1 _
    clear hR2
    go_wp2_with fail
    go_ret2
    rw [HGG.out]
    exact ⟨rfl, .inr ⟨rfl, HR2.out _, rfl, by have := HZ.out; omega, HF2.out _⟩⟩
end Bt
end Go.Proofs.YtpbphhpldlckbaaGreat
namespace Go.Proofs.YtpbphhpldlckbaaGreat
namespace Cn
open Go.RowKit

theorem Cd.drewN {w : World} {b : Nat} {l : List Int} (h : Cd w b l) (m : Nat) : Cd (w.drewN m) b l := h.ext (below_drewN (Below.refl _ _) m)

set_option maxHeartbeats 6400000 in
set_option maxRecDepth 100000 in
theorem ended_any (w : World) (b n wd : Nat) (l : List Int) (h : Cd w b l) (_hn : n ≤ 1000000) (hwd : wd ≤ 15) :
    Calls Tryz.prog 128 #[.pointer (some ⟨b, 0, none⟩), .int .i64 (n : Int), .int .i64 (wd : Int)] w fun e w' => (∃ x, e = .returned (.int .i64 x) ∧ x ≠ 0) ∧ ∃ m, w' = w.drewN m := by
  have mixed : Tryz.prog.follows .mixedOrders = true := by kernel_rfl
  have H : Aside (Cd w b l) := h
  clear h
  go_enter Tryz.func128, Tryz.ntmps128
  go_wp2_with fail
  go_loopg [7] 16 (fun kx s7 wr => ∃ (d m : Nat), s7 = .int .i64 ((wd + d : Nat) : Int) ∧ wd + d ≤ 16 ∧ 16 - (wd + d) ≤ kx ∧ wr = w.drewN m)
  case atStart => exact ⟨0, 0, by simp, by omega, by omega, rfl⟩
  case round =>
    obtain ⟨d, m, rfl, hd, hkx, rfl⟩ := hrel
    by_cases hlt : wd + d ≤ 15
    · have hcn := H.out.cnt (wd + d) hlt
      have hfs := H.out.fst (wd + d) hlt
      obtain ⟨k, hk⟩ : ∃ k, k = wd + d := ⟨_, rfl⟩
      rw [← hk] at hcn hfs hlt hd hkx ⊢
      have e1 : (k : Int) - (wd : Int) = (d : Int) := by omega
      have HK := Lib.hid hk
      clear hk H
      go_wp2_with fail
      go_region
      go_wp2_with fail
      obtain ⟨lo, hlo⟩ : ∃ lo, lo = RowKit.wrap64 ((n : Int) * 2 ^ d) := ⟨_, rfl⟩
      rw [← hlo]
      obtain ⟨hi, hhi⟩ : ∃ hi, hi = Go.bits .or .i64 lo (RowKit.wrap64 (RowKit.wrap64 (2 ^ d) - 1)) := ⟨_, rfl⟩
      rw [← hhi]
      clear hlo hhi e1
      generalize cn l k = c at *
      generalize fs l k = f at *
      by_cases h0 : 0 < k
      · have h0i : (0 : Int) < (k : Int) := by omega
        have hk16 : (k : Int) < 16 := by omega
        have hkt : ((k : Int)).toNat = k := by omega
        by_cases h1 : 0 < c
        · have h1i : (0 : Int) < (c : Int) := by omega
          by_cases h2 : lo < RowKit.wrap64 ((f : Int) + (c : Int))
          · by_cases h3 : (f : Int) ≤ hi
            · skip
              go_quiet (fail)
              go_wp2_with fail
              go_ret
              exact ⟨⟨4, rfl, by decide⟩, m + 1 + nq, by show ((w.drewN m).drewN 1).drewN nq = _; rw [World.drewN_drewN, World.drewN_drewN, Nat.add_assoc]⟩
            · skip
              go_quiet (fail)
              go_wp2_with fail
              go_roundg (16 - (k + 1))
              case measure => omega
              case rel => exact ⟨d + 1, _, by have := HK.out; go_num, by have := HK.out; omega, by have := HK.out; omega, by first | rfl | trivial⟩
          · skip
            go_quiet (fail)
            go_wp2_with fail
            go_roundg (16 - (k + 1))
            case measure => omega
            case rel => exact ⟨d + 1, _, by have := HK.out; go_num, by have := HK.out; omega, by have := HK.out; omega, by first | rfl | trivial⟩
        · obtain rfl : c = 0 := by omega
          go_quiet (fail)
          go_wp2_with fail
          go_roundg (16 - (k + 1))
          case measure => omega
          case rel => exact ⟨d + 1, _, by have := HK.out; go_num, by have := HK.out; omega, by have := HK.out; omega, by first | rfl | trivial⟩
      · obtain rfl : k = 0 := by omega
        go_quiet (fail)
        go_wp2_with fail
        go_roundg (16 - (0 + 1))
        case measure => omega
        case rel => exact ⟨d + 1, _, by have := HK.out; go_num, by have := HK.out; omega, by have := HK.out; omega, by first | rfl | trivial⟩
    · have e16 : wd + d = 16 := by omega
      have h15 : ¬ ((wd + d : Nat) : Int) ≤ 15 := by omega
      obtain ⟨k, hk⟩ : ∃ k, k = wd + d := ⟨_, rfl⟩
      rw [← hk] at h15 ⊢
      clear hk e16 hlt
      by_cases h0 : wd = 0
      · subst h0
        go_wp2_with fail
        go_ret
        exact ⟨⟨4, rfl, by decide⟩, _, rfl⟩
      · have h0' : ((wd : Int) == 0) = false := by rw [beq_eq_false_iff_ne]; omega
        go_wp2_with fail
        go_ret
        exact ⟨⟨40, rfl, by decide⟩, _, rfl⟩
end Cn
end Go.Proofs.YtpbphhpldlckbaaGreat
