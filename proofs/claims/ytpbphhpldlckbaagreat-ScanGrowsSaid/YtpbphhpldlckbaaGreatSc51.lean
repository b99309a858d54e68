/- block.head.may; block.peek, Peek. block.Peek; block.head.raw. Whole structs: stored into a block, loaded from it, told as a result: no cell is opened. scan.meta. strings.HasPrefix; scan.begun. Slices of records that the call itself makes. record.Split. block.Decode. block.Encode. block.Encode: a block. block: what the laws ask of it: plain lists, no program. -/
import Derived.Test.YtpbphhpldlckbaaGreatSc50
import Derived.Test.YtpbphhpldlckbaaGreatSc48
import Derived.Test.YtpbphhpldlckbaaGreatSc46
import Derived.Test.YtpbphhpldlckbaaGreatSc06
import Derived.Test.YtpbphhpldlckbaaGreatSc02
import Derived.Deep.Cut
import Derived.Test.YtpbphhpldlckbaaGreatSc49
import Derived.Test.YtpbphhpldlckbaaGreatSc15
import Derived.Deep.QuietTactic
import Derived.BigQuiet
import Derived.Test.YtpbphhpldlckbaaGreatSc47
namespace Go.Proofs.YtpbphhpldlckbaaGreat
namespace Bk
open Go.RowKit Tk Vi Sq Rd
open Bt (Frm)

/-- A head as a value. -/
def hagg (raw count first early late md : Int) (bd : ByteArray) : Value := .agg #[.int .i64 0, .int .i64 0, .int .i64 raw, .int .i64 count, .int .i64 first, .int .i64 early, .int .i64 late, .int .i64 md, .string bd]
theorem mayH_iff (md raw count first early late : Nat) : mayH md raw count first early late = true ↔ md ≤ 1 ∧ raw ≤ 20000 ∧ 1 ≤ count ∧ count ≤ raw ∧ 1 ≤ first ∧ first + count ≤ 1000000001 ∧ early ≤ 1000000000 ∧ late ≤ 1000000000 := by simp [mayH]
theorem mayH_no (md raw count first early late : Nat) (h : ¬ (md ≤ 1 ∧ raw ≤ 20000 ∧ 1 ≤ count ∧ count ≤ raw ∧ 1 ≤ first ∧ first + count ≤ 1000000001 ∧ early ≤ 1000000000 ∧ late ≤ 1000000000)) : mayH md raw count first early late = false := by
  rw [← Bool.not_eq_true, mayH_iff]; exact h
theorem mayH_yes (md raw count first early late : Nat) (h : md ≤ 1 ∧ raw ≤ 20000 ∧ 1 ≤ count ∧ count ≤ raw ∧ 1 ≤ first ∧ first + count ≤ 1000000001 ∧ early ≤ 1000000000 ∧ late ≤ 1000000000) : mayH md raw count first early late = true := (mayH_iff ..).2 h
set_option maxHeartbeats 3200000 in
theorem may0 (raw count first early late : Nat) (bd : ByteArray) (w : World) :
    Calls Tryz.prog 65 #[hagg raw count first early late 0 bd] w fun e w' => e = .returned (.bool (mayH 0 raw count first early late)) ∧ Below w.heap.size w w' := by
  unfold hagg
  by_cases h0 : 20000 < raw
  · rw [mayH_no _ _ _ _ _ _ (by omega)]
    have a1 : (20000 : Int) < (raw : Int) := by omega
    go_enter Tryz.func65, Tryz.ntmps65
    go_wp2_with fail
    go_ret
    exact ⟨rfl, ext_alloc w _⟩
  have a1 : ¬ (20000 : Int) < (raw : Int) := by omega
  by_cases h1 : count < 1
  · rw [mayH_no _ _ _ _ _ _ (by omega)]
    have a2 : (count : Int) < 1 := by omega
    go_enter Tryz.func65, Tryz.ntmps65
    go_wp2_with fail
    go_ret
    exact ⟨rfl, ext_alloc w _⟩
  have a2 : ¬ (count : Int) < 1 := by omega
  by_cases h2 : raw < count
  · rw [mayH_no _ _ _ _ _ _ (by omega)]
    have a3 : (raw : Int) < (count : Int) := by omega
    go_enter Tryz.func65, Tryz.ntmps65
    go_wp2_with fail
    go_ret
    exact ⟨rfl, ext_alloc w _⟩
  have a3 : ¬ (raw : Int) < (count : Int) := by omega
  by_cases h3 : 1 ≤ first
  rotate_left
  · rw [mayH_no _ _ _ _ _ _ (by omega)]
    have a4 : ¬ (1 : Int) ≤ (first : Int) := by omega
    go_enter Tryz.func65, Tryz.ntmps65
    go_wp2_with fail
    go_ret
    exact ⟨rfl, ext_alloc w _⟩
  have a4 : (1 : Int) ≤ (first : Int) := by omega
  by_cases h4 : first + count ≤ 1000000001
  rotate_left
  · rw [mayH_no _ _ _ _ _ _ (by omega)]
    have a5 : ¬ (first : Int) ≤ 1000000001 - (count : Int) := by omega
    go_enter Tryz.func65, Tryz.ntmps65
    go_wp2_with fail
    go_ret
    exact ⟨rfl, ext_alloc w _⟩
  have a5 : (first : Int) ≤ 1000000001 - (count : Int) := by omega
  by_cases h5 : early ≤ 1000000000
  rotate_left
  · rw [mayH_no _ _ _ _ _ _ (by omega)]
    have a6 : ¬ (early : Int) ≤ 1000000000 := by omega
    go_enter Tryz.func65, Tryz.ntmps65
    go_wp2_with fail
    go_ret
    exact ⟨rfl, ext_alloc w _⟩
  have a6 : (early : Int) ≤ 1000000000 := by omega
  by_cases h6 : late ≤ 1000000000
  rotate_left
  · rw [mayH_no _ _ _ _ _ _ (by omega)]
    have a7 : ¬ (late : Int) ≤ 1000000000 := by omega
    go_enter Tryz.func65, Tryz.ntmps65
    go_wp2_with fail
    go_ret
    exact ⟨rfl, ext_alloc w _⟩
  have a7 : (late : Int) ≤ 1000000000 := by omega
  rw [mayH_yes _ _ _ _ _ _ (by omega)]
  go_enter Tryz.func65, Tryz.ntmps65
  go_wp2_with fail
  go_ret
  exact ⟨rfl, ext_alloc w _⟩
set_option maxHeartbeats 3200000 in
theorem may1 (raw count first early late : Nat) (bd : ByteArray) (w : World) :
    Calls Tryz.prog 65 #[hagg raw count first early late 1 bd] w fun e w' => e = .returned (.bool (mayH 1 raw count first early late)) ∧ Below w.heap.size w w' := by
  unfold hagg
  by_cases h0 : 20000 < raw
  · rw [mayH_no _ _ _ _ _ _ (by omega)]
    have a1 : (20000 : Int) < (raw : Int) := by omega
    go_enter Tryz.func65, Tryz.ntmps65
    go_wp2_with fail
    go_ret
    exact ⟨rfl, ext_alloc w _⟩
  have a1 : ¬ (20000 : Int) < (raw : Int) := by omega
  by_cases h1 : count < 1
  · rw [mayH_no _ _ _ _ _ _ (by omega)]
    have a2 : (count : Int) < 1 := by omega
    go_enter Tryz.func65, Tryz.ntmps65
    go_wp2_with fail
    go_ret
    exact ⟨rfl, ext_alloc w _⟩
  have a2 : ¬ (count : Int) < 1 := by omega
  by_cases h2 : raw < count
  · rw [mayH_no _ _ _ _ _ _ (by omega)]
    have a3 : (raw : Int) < (count : Int) := by omega
    go_enter Tryz.func65, Tryz.ntmps65
    go_wp2_with fail
    go_ret
    exact ⟨rfl, ext_alloc w _⟩
  have a3 : ¬ (raw : Int) < (count : Int) := by omega
  by_cases h3 : 1 ≤ first
  rotate_left
  · rw [mayH_no _ _ _ _ _ _ (by omega)]
    have a4 : ¬ (1 : Int) ≤ (first : Int) := by omega
    go_enter Tryz.func65, Tryz.ntmps65
    go_wp2_with fail
    go_ret
    exact ⟨rfl, ext_alloc w _⟩
  have a4 : (1 : Int) ≤ (first : Int) := by omega
  by_cases h4 : first + count ≤ 1000000001
  rotate_left
  · rw [mayH_no _ _ _ _ _ _ (by omega)]
    have a5 : ¬ (first : Int) ≤ 1000000001 - (count : Int) := by omega
    go_enter Tryz.func65, Tryz.ntmps65
    go_wp2_with fail
    go_ret
    exact ⟨rfl, ext_alloc w _⟩
  have a5 : (first : Int) ≤ 1000000001 - (count : Int) := by omega
  by_cases h5 : early ≤ 1000000000
  rotate_left
  · rw [mayH_no _ _ _ _ _ _ (by omega)]
    have a6 : ¬ (early : Int) ≤ 1000000000 := by omega
    go_enter Tryz.func65, Tryz.ntmps65
    go_wp2_with fail
    go_ret
    exact ⟨rfl, ext_alloc w _⟩
  have a6 : (early : Int) ≤ 1000000000 := by omega
  by_cases h6 : late ≤ 1000000000
  rotate_left
  · rw [mayH_no _ _ _ _ _ _ (by omega)]
    have a7 : ¬ (late : Int) ≤ 1000000000 := by omega
    go_enter Tryz.func65, Tryz.ntmps65
    go_wp2_with fail
    go_ret
    exact ⟨rfl, ext_alloc w _⟩
  have a7 : (late : Int) ≤ 1000000000 := by omega
  rw [mayH_yes _ _ _ _ _ _ (by omega)]
  go_enter Tryz.func65, Tryz.ntmps65
  go_wp2_with fail
  go_ret
  exact ⟨rfl, ext_alloc w _⟩
set_option maxHeartbeats 3200000 in
theorem may_any (raw count first early late md : Nat) (bd : ByteArray) (w : World) :
    Calls Tryz.prog 65 #[hagg raw count first early late md bd] w fun e w' => e = .returned (.bool (mayH md raw count first early late)) ∧ Below w.heap.size w w' := by
  by_cases hm : md ≤ 1
  · obtain rfl | rfl : md = 0 ∨ md = 1 := by omega
    · exact may0 raw count first early late bd w
    · exact may1 raw count first early late bd w
  · rw [mayH_no _ _ _ _ _ _ (by omega)]
    have n0 : ((md : Int) != 0) = true := by rw [bne_iff_ne]; omega
    have n1 : ((md : Int) != 1) = true := by rw [bne_iff_ne]; omega
    have n2 : ((md : Int) == 0) = false := by rw [beq_eq_false_iff_ne]; omega
    have n3 : ((md : Int) == 1) = false := by rw [beq_eq_false_iff_ne]; omega
    unfold hagg
    go_enter Tryz.func65, Tryz.ntmps65
    go_wp2_with fail
    go_ret
    exact ⟨rfl, ext_alloc w _⟩

theorem peekB_err {b : List UInt8} (h : perr b ≠ 0) : peekB b = none := by
  rcases b with _ | ⟨m, b⟩
  · rfl
  · simp only [perr] at h
    unfold peekB
    split
    · rfl
    · rename_i m2 b2 he
      injection he with e1 e2
      subst e1 e2
      split
      · rename_i hf; rw [hf] at h; exact absurd rfl h
      · rfl
theorem peekB_at {b b' : List UInt8} {m : UInt8} {n1 n2 n3 n4 n5 : Nat} {r : List UInt8} (h : b = m :: b') (hf : fin 5 [] b' = (0, [n1, n2, n3, n4, n5], r)) :
    peekB b = if mayH m.toNat n1 n2 n3 n4 (lateOf n4 n5) = true then some (m.toNat, n1, n2, n3, n4, lateOf n4 n5, r) else none := by
  subst h
  simp only [peekB, hf]
theorem perr_ok {b b' : List UInt8} {m : UInt8} {ns r} (h : b = m :: b') (hf : fin 5 [] b' = (0, ns, r)) : perr b = 0 := by
  subst h
  simp only [perr, hf]
/-- What is caught. -/
def PcA (s : ByteArray) (bH : Nat) (e : Ending) (w' : World) : Prop :=
  (∃ (m : UInt8) (b' : List UInt8) (n1 n2 n3 n4 n5 : Nat) (r : ByteArray), s.data.toList = m :: b' ∧ fin 5 [] b' = (0, [n1, n2, n3, n4, n5], r.data.toList) ∧ e = .returned (.tuple #[.int .i64 0, .int .i64 0]) ∧ Hb w' bH n1 n2 n3 n4 (lateOf n4 n5) m.toNat r) ∨
  (perr s.data.toList ≠ 0 ∧ ∃ q : Int, e = .returned (.tuple #[.int .i64 (perr s.data.toList), .int .i64 q]))
theorem pk_caught (w : World) (bV bT bH bF : Nat) (s : ByteArray) (hV : Vp w bV bT bH bF s 0 0 0 0 0 0 0 ⟨#[]⟩) (hs : s.size ≤ 1000000) :
    Calls Tryz.prog 64 #[.func (.func 61) #[] #[.pointer (some ⟨bV, 0, none⟩), .pointer (some ⟨bH, 0, none⟩), .pointer (some ⟨bF, 0, none⟩)]] w fun e w' => PcA s bH e w' ∧ Keep w w' [bT, bH] := by
  have hl : ∀ k ∈ [bT, bH], k < w.heap.size := by
    intro k hk
    simp at hk
    rcases hk with rfl | rfl
    · exact hV.ta.lt
    · exact hV.hb.lt
  have hn : ∀ k ∈ [bT, bH], k ∉ [w.heap.size, w.heap.size + 1] := by
    intro k hk hm
    have := hl k hk
    simp at hm
    omega
  have hb := wC_keep w
  have hwc := wC_vars w
  have hc := peek1_any (wC w) bV bT bH bF s (hV.keep (Keep.of_below hb)) hs
  have hkk : ∀ w2 w', Keep (wC w) w2 [bT, bH] → Keep w2 w' [w.heap.size, w.heap.size + 1] → Keep w w' [bT, bH] := by
    intro w2 w' g5 hkp
    have hkk : Keep w w2 [bT, bH] := (Keep.of_below hb).trans (w' := wC w) g5
    exact ⟨hkp.os.trans hkk.os, hkp.tape.trans hkk.tape, hkp.output.trans hkk.output, Nat.le_trans hkk.size hkp.size, fun k hk hm => (hkp.blk k (Nat.lt_of_lt_of_le hk hkk.size) (by simp; omega)).trans (hkk.blk k hk hm)⟩
  by_cases he : perr s.data.toList = 0
  · have h := caughtB_ok w _ (fun w' => Keep (wC w) w' [bT, bH] ∧ ∃ (m : UInt8) (b' : List UInt8) (n1 n2 n3 n4 n5 : Nat) (r : ByteArray), s.data.toList = m :: b' ∧ fin 5 [] b' = (0, [n1, n2, n3, n4, n5], r.data.toList) ∧ Hb w' bH n1 n2 n3 n4 (lateOf n4 n5) m.toNat r)
      (fun w' hG => ⟨hG.1.var hwc.1 (fun hm => by have := hl _ hm; omega), hG.1.var hwc.2 (fun hm => by have := hl _ hm; omega)⟩) (hc.mono (by
        rintro e w' ⟨hk, ⟨m, b', n1, n2, n3, n4, n5, r, h1, h2, h3, h4⟩ | ⟨hx, -⟩⟩
        · exact ⟨h3, hk, m, b', n1, n2, n3, n4, n5, r, h1, h2, h4⟩
        · exact absurd he hx))
    refine h.mono ?_
    rintro e w' ⟨rfl, w2, ⟨g5, m, b', n1, n2, n3, n4, n5, r, h1, h2, h4⟩, hkp⟩
    exact ⟨.inl ⟨m, b', n1, n2, n3, n4, n5, r, h1, h2, rfl, h4.keep hkp (hn _ (by simp))⟩, hkk w2 w' g5 hkp⟩
  · have h := caughtB_no w _ (perr s.data.toList) (fun w' => Keep (wC w) w' [bT, bH])
      (fun w' hG => ⟨hG.var hwc.1 (fun hm => by have := hl _ hm; omega), hG.var hwc.2 (fun hm => by have := hl _ hm; omega)⟩) (hc.mono (by
        rintro e w' ⟨hk, ⟨m, b', n1, n2, n3, n4, n5, r, h1, h2, h3, h4⟩ | ⟨hx, q, hq⟩⟩
        · exact absurd (perr_ok h1 h2) he
        · exact ⟨⟨q, hq⟩, hk⟩))
    refine h.mono ?_
    rintro e w' ⟨⟨p, he'⟩, w2, g5, hkp⟩
    exact ⟨.inr ⟨he, p, he'⟩, hkk w2 w' g5 hkp⟩

/-- What block.peek gives. -/
def PeekAns (s : ByteArray) (e : Ending) : Prop := (∃ (md raw count first early late : Nat) (r : ByteArray), peekB s.data.toList = some (md, raw, count, first, early, late, r.data.toList) ∧ e = .returned (.tuple #[hagg raw count first early late md r, .int .i64 0])) ∨
  (peekB s.data.toList = none ∧ ∃ x, e = .returned (.tuple #[hagg 0 0 0 0 0 0 ⟨#[]⟩, .int .i64 x]) ∧ x ≠ 0)
/-- The result's block is written whole. -/
theorem Hb.fill {w : World} {b : Nat} (h : Hb w b 0 0 0 0 0 0 ⟨#[]⟩) (raw count first early late md : Int) (bd : ByteArray) :
    Hb (((((((((w.setCell ⟨b, 0, none⟩ (.int .i64 0)).setCell ⟨b, 1, none⟩ (.int .i64 0)).setCell ⟨b, 2, none⟩ (.int .i64 raw)).setCell ⟨b, 3, none⟩ (.int .i64 count)).setCell ⟨b, 4, none⟩ (.int .i64 first)).setCell ⟨b, 5, none⟩ (.int .i64 early)).setCell ⟨b, 6, none⟩ (.int .i64 late)).setCell ⟨b, 7, none⟩ (.int .i64 md)).setCell ⟨b, 8, none⟩ (.string bd)) b raw count first early late md bd := by
  have h0 : Hb (w.setCell ⟨b, 0, none⟩ (.int .i64 0)) b 0 0 0 0 0 0 ⟨#[]⟩ := by unfold Hb at *; simp [World.setCell, Array.getElem?_modify, h]
  have h1 : Hb ((w.setCell ⟨b, 0, none⟩ (.int .i64 0)).setCell ⟨b, 1, none⟩ (.int .i64 0)) b 0 0 0 0 0 0 ⟨#[]⟩ := by
    generalize w.setCell ⟨b, 0, none⟩ (.int .i64 0) = w at *
    unfold Hb at *; simp [World.setCell, Array.getElem?_modify, h0]
  exact ((((((h1.set2 raw).set3 count).set4 first).set5 early).set6 late).set7 md).set8 bd
theorem below_fill9 {w w' : World} {b B : Nat} {v0 v1 v2 v3 v4 v5 v6 v7 v8 : Value} (h : Below B w w') (hb : B ≤ b) : Below B w (((((((((w'.setCell ⟨b, 0, none⟩ v0).setCell ⟨b, 1, none⟩ v1).setCell ⟨b, 2, none⟩ v2).setCell ⟨b, 3, none⟩ v3).setCell ⟨b, 4, none⟩ v4).setCell ⟨b, 5, none⟩ v5).setCell ⟨b, 6, none⟩ v6).setCell ⟨b, 7, none⟩ v7).setCell ⟨b, 8, none⟩ v8) := below_put (below_put (below_put (below_put (below_put (below_put (below_put (below_put (below_put (h) hb 0 v0) hb 1 v1) hb 2 v2) hb 3 v3) hb 4 v4) hb 5 v5) hb 6 v6) hb 7 v7) hb 8 v8
set_option maxHeartbeats 6400000 in
set_option maxRecDepth 100000 in
theorem peek_any (s : ByteArray) (w : World) (hs : s.size ≤ 1000000) :
    Calls Tryz.prog 40 #[.string s] w fun e w' => PeekAns s e ∧ Below w.heap.size w w' := by
  have mixed : Tryz.prog.follows .mixedOrders = true := by kernel_rfl
  go_enter Tryz.func40, Tryz.ntmps40
  go_wp2_with fail
  refine (takeNew_any s _).mono ?_
  rintro e1 w1 ⟨rfl, hta, hb1⟩
  have e0 : (w.alloc (.cells #[.int .i64 0, .int .i64 0, .int .i64 0, .int .i64 0, .int .i64 0, .int .i64 0, .int .i64 0, .int .i64 0, .string ⟨#[]⟩] 87)).heap.size = w.heap.size + 1 := by simp
  rw [e0] at hta hb1
  have hR1 : Hb w1 w.heap.size 0 0 0 0 0 0 ⟨#[]⟩ := (Hb.new w).below hb1 (by omega)
  have hw1 : Below w.heap.size w w1 := ((Below.refl _ _).alloc (Nat.le_refl _) _).trans (hb1.mono (by omega))
  have hsz : w.heap.size + 1 < w1.heap.size := hta.lt
  have vV := Var.new w1 117 (.pointer (some ⟨w.heap.size + 1, 0, none⟩))
  have vF := Var.new (w1.alloc (.cells #[.pointer (some ⟨w.heap.size + 1, 0, none⟩)] 117)) 95 .nilFunc
  rw [show (w1.alloc (.cells #[.pointer (some ⟨w.heap.size + 1, 0, none⟩)] 117)).heap.size = w1.heap.size + 1 by simp] at vF
  have d1 := store_one (P := Tryz.prog) (v := (.func (.func 60) #[.pointer (some ⟨w.heap.size + 1, 0, none⟩)] #[])) rfl vF.cell vF.frozen
  have uV := vV.alloc (.cells #[(.func (.func 60) #[.pointer (some ⟨w.heap.size + 1, 0, none⟩)] #[])] 95)
  have uF := Var.new (w1.alloc (.cells #[.pointer (some ⟨w.heap.size + 1, 0, none⟩)] 117)) 95 (.func (.func 60) #[.pointer (some ⟨w.heap.size + 1, 0, none⟩)] #[])
  rw [show (w1.alloc (.cells #[.pointer (some ⟨w.heap.size + 1, 0, none⟩)] 117)).heap.size = w1.heap.size + 1 by simp] at uF
  have hsB : ((w1.alloc (.cells #[.pointer (some ⟨w.heap.size + 1, 0, none⟩)] 117)).alloc (.cells #[(.func (.func 60) #[.pointer (some ⟨w.heap.size + 1, 0, none⟩)] #[])] 95)).heap.size = w1.heap.size + 1 + 1 := by simp
  have uH := Hb.new ((w1.alloc (.cells #[.pointer (some ⟨w.heap.size + 1, 0, none⟩)] 117)).alloc (.cells #[(.func (.func 60) #[.pointer (some ⟨w.heap.size + 1, 0, none⟩)] #[])] 95))
  rw [hsB] at uH
  have hbW : Below w1.heap.size w1 (((w1.alloc (.cells #[.pointer (some ⟨w.heap.size + 1, 0, none⟩)] 117)).alloc (.cells #[(.func (.func 60) #[.pointer (some ⟨w.heap.size + 1, 0, none⟩)] #[])] 95)).alloc (.cells #[.int .i64 0, .int .i64 0, .int .i64 0, .int .i64 0, .int .i64 0, .int .i64 0, .int .i64 0, .int .i64 0, .string ⟨#[]⟩] 87)) := (((Below.refl _ _).alloc (Nat.le_refl _) _).alloc (by simp) _).alloc (by rw [hsB]; omega) _
  have hVp : Vp (((w1.alloc (.cells #[.pointer (some ⟨w.heap.size + 1, 0, none⟩)] 117)).alloc (.cells #[(.func (.func 60) #[.pointer (some ⟨w.heap.size + 1, 0, none⟩)] #[])] 95)).alloc (.cells #[.int .i64 0, .int .i64 0, .int .i64 0, .int .i64 0, .int .i64 0, .int .i64 0, .int .i64 0, .int .i64 0, .string ⟨#[]⟩] 87)) w1.heap.size (w.heap.size + 1) (w1.heap.size + 1 + 1) (w1.heap.size + 1) s 0 0 0 0 0 0 0 ⟨#[]⟩ :=
    ⟨uV.alloc _, (hbW.block _ hsz).trans hta, uF.alloc _, uH, by omega, by omega, by omega, by omega, by omega, by omega⟩
  have HC := Lib.hid (pk_caught _ _ _ _ _ s hVp hs)
  have hRW : Hb (((w1.alloc (.cells #[.pointer (some ⟨w.heap.size + 1, 0, none⟩)] 117)).alloc (.cells #[(.func (.func 60) #[.pointer (some ⟨w.heap.size + 1, 0, none⟩)] #[])] 95)).alloc (.cells #[.int .i64 0, .int .i64 0, .int .i64 0, .int .i64 0, .int .i64 0, .int .i64 0, .int .i64 0, .int .i64 0, .string ⟨#[]⟩] 87)) w.heap.size 0 0 0 0 0 0 ⟨#[]⟩ := hR1.below hbW (by omega)
  have HW := Lib.hid (And.intro (hw1.trans (hbW.mono (by omega))) hRW)
  have HS := Lib.hid hsz
  have HSB := Lib.hid hsB
  clear e0 hta hb1 hR1 hw1 hsz vV vF uV uF hsB uH hbW hVp hRW
  go_wp2_with fail
  clear d1
  refine HC.out.mono ?_
  rintro e2 w2 ⟨hpc, hk⟩
  have hkb := HW.out.1.trans (hk.below HW.out.1.size (by intro k hk; have := HS.out; simp at hk; omega))
  have hR2 := HW.out.2.keep hk (by have := HS.out; simp; omega)
  have HK := Lib.hid (And.intro hkb hR2)
  have f0 := hR2.fz 0
  have f1 := hR2.fz 1
  have f2 := hR2.fz 2
  have f3 := hR2.fz 3
  have f4 := hR2.fz 4
  have f5 := hR2.fz 5
  have f6 := hR2.fz 6
  have f7 := hR2.fz 7
  have f8 := hR2.fz 8
  have r0 := hR2.c0
  have r1 := hR2.c1
  have r2 := hR2.c2
  have r3 := hR2.c3
  have r4 := hR2.c4
  have r5 := hR2.c5
  have r6 := hR2.c6
  have r7 := hR2.c7
  have r8 := hR2.c8
  clear HC hk hkb hR2 HW HSB
  rcases hpc with ⟨m, b', n1, n2, n3, n4, n5, r, h1, h2, rfl, h4⟩ | ⟨hx, q, rfl⟩
  · have HM := Lib.hid (may_any n1 n2 n3 n4 (lateOf n4 n5) m.toNat r w2)
    unfold hagg at HM
    have HPB := Lib.hid (peekB_at h1 h2)
    have k0 := h4.c0
    have k1 := h4.c1
    have k2 := h4.c2
    have k3 := h4.c3
    have k4 := h4.c4
    have k5 := h4.c5
    have k6 := h4.c6
    have k7 := h4.c7
    have k8 := h4.c8
    have hH := Lib.hid h4
    clear h1 h2 h4
    by_cases hm : mayH m.toNat n1 n2 n3 n4 (lateOf n4 n5) = true
    · rw [if_pos hm] at HPB
      rw [hm] at HM
      clear hm
      generalize lateOf n4 n5 = L at *
      clear f0 r0 f1 r1 f2 r2 f3 r3 f4 r4 f5 r5 f6 r6 f7 r7 f8 r8
      go_wp2_with fail
      refine HM.out.mono ?_
      rintro e3 w3 ⟨rfl, hb3⟩
      have HK3 := Lib.hid (And.intro (HK.out.1.trans (hb3.mono HK.out.1.size)) (HK.out.2.below hb3 HK.out.2.lt))
      have f0 := HK3.out.2.fz 0
      have f1 := HK3.out.2.fz 1
      have f2 := HK3.out.2.fz 2
      have f3 := HK3.out.2.fz 3
      have f4 := HK3.out.2.fz 4
      have f5 := HK3.out.2.fz 5
      have f6 := HK3.out.2.fz 6
      have f7 := HK3.out.2.fz 7
      have f8 := HK3.out.2.fz 8
      have r0 := HK3.out.2.c0
      have r1 := HK3.out.2.c1
      have r2 := HK3.out.2.c2
      have r3 := HK3.out.2.c3
      have r4 := HK3.out.2.c4
      have r5 := HK3.out.2.c5
      have r6 := HK3.out.2.c6
      have r7 := HK3.out.2.c7
      have r8 := HK3.out.2.c8
      have hh := hH.out.below hb3 hH.out.lt
      clear hb3 HM k0 k1 k2 k3 k4 k5 k6 k7 k8
      have k0 := hh.c0
      have k1 := hh.c1
      have k2 := hh.c2
      have k3 := hh.c3
      have k4 := hh.c4
      have k5 := hh.c5
      have k6 := hh.c6
      have k7 := hh.c7
      have k8 := hh.c8
      clear hh
      have HF := Lib.hid (HK3.out.2.fill n1 n2 n3 n4 L m.toNat r)
      go_wp2_with fail
      have g0 := HF.out.c0
      have g1 := HF.out.c1
      have g2 := HF.out.c2
      have g3 := HF.out.c3
      have g4 := HF.out.c4
      have g5 := HF.out.c5
      have g6 := HF.out.c6
      have g7 := HF.out.c7
      have g8 := HF.out.c8
      refine bodyPost_ret (v := .tuple #[hagg n1 n2 n3 n4 L m.toNat r, .int .i64 0]) (by simp [results, go_sem, g0, g1, g2, g3, g4, g5, g6, g7, g8, hagg]) rfl ?_
      exact ⟨.inl ⟨m.toNat, n1, n2, n3, n4, L, r, HPB.out, rfl⟩, below_fill9 HK3.out.1 (Nat.le_refl _)⟩
    · rw [if_neg hm] at HPB
      rw [Bool.not_eq_true] at hm
      rw [hm] at HM
      clear hm
      generalize lateOf n4 n5 = L at *
      clear f0 r0 f1 r1 f2 r2 f3 r3 f4 r4 f5 r5 f6 r6 f7 r7 f8 r8
      go_wp2_with fail
      refine HM.out.mono ?_
      rintro e3 w3 ⟨rfl, hb3⟩
      have HK3 := Lib.hid (And.intro (HK.out.1.trans (hb3.mono HK.out.1.size)) (HK.out.2.below hb3 HK.out.2.lt))
      have f0 := HK3.out.2.fz 0
      have f1 := HK3.out.2.fz 1
      have f2 := HK3.out.2.fz 2
      have f3 := HK3.out.2.fz 3
      have f4 := HK3.out.2.fz 4
      have f5 := HK3.out.2.fz 5
      have f6 := HK3.out.2.fz 6
      have f7 := HK3.out.2.fz 7
      have f8 := HK3.out.2.fz 8
      have r0 := HK3.out.2.c0
      have r1 := HK3.out.2.c1
      have r2 := HK3.out.2.c2
      have r3 := HK3.out.2.c3
      have r4 := HK3.out.2.c4
      have r5 := HK3.out.2.c5
      have r6 := HK3.out.2.c6
      have r7 := HK3.out.2.c7
      have r8 := HK3.out.2.c8
      clear hb3 HM k0 k1 k2 k3 k4 k5 k6 k7 k8
      have HF := Lib.hid (HK3.out.2.fill 0 0 0 0 0 0 ⟨#[]⟩)
      go_wp2_with fail
      have g0 := HF.out.c0
      have g1 := HF.out.c1
      have g2 := HF.out.c2
      have g3 := HF.out.c3
      have g4 := HF.out.c4
      have g5 := HF.out.c5
      have g6 := HF.out.c6
      have g7 := HF.out.c7
      have g8 := HF.out.c8
      refine bodyPost_ret (v := .tuple #[hagg 0 0 0 0 0 0 ⟨#[]⟩, .int .i64 170]) (by simp [results, go_sem, g0, g1, g2, g3, g4, g5, g6, g7, g8, hagg]) rfl ?_
      exact ⟨.inr ⟨HPB.out, 170, rfl, by decide⟩, below_fill9 HK3.out.1 (Nat.le_refl _)⟩
  · have HP := Lib.hid (And.intro (peekB_err hx) hx)
    generalize perr s.data.toList = x at *
    have hb1 : (x != 0) = true := by rw [bne_iff_ne]; exact hx
    have hb2 : (x == 0) = false := by rw [beq_eq_false_iff_ne]; exact hx
    have HF := Lib.hid (HK.out.2.fill 0 0 0 0 0 0 ⟨#[]⟩)
    go_wp2_with fail
    have g0 := HF.out.c0
    have g1 := HF.out.c1
    have g2 := HF.out.c2
    have g3 := HF.out.c3
    have g4 := HF.out.c4
    have g5 := HF.out.c5
    have g6 := HF.out.c6
    have g7 := HF.out.c7
    have g8 := HF.out.c8
    refine bodyPost_ret (v := .tuple #[hagg 0 0 0 0 0 0 ⟨#[]⟩, .int .i64 x]) (by simp [results, go_sem, g0, g1, g2, g3, g4, g5, g6, g7, g8, hagg]) rfl ?_
    exact ⟨.inr ⟨HP.out.1, x, rfl, hx⟩, below_fill9 HK.out.1 (Nat.le_refl _)⟩
end Bk
end Go.Proofs.YtpbphhpldlckbaaGreat
namespace Go.Proofs.YtpbphhpldlckbaaGreat
namespace Bk
open Go.RowKit Tk Vi Sq Rd

/-- What block.Peek gives. -/
def MetaAns (s : ByteArray) (e : Ending) : Prop := (∃ (md raw count first early late : Nat) (r : List UInt8), peekB s.data.toList = some (md, raw, count, first, early, late, r) ∧ e = .returned (.tuple #[magg 0 0 raw count first early late, .int .i64 0])) ∨
  (peekB s.data.toList = none ∧ ∃ x, e = .returned (.tuple #[magg 0 0 0 0 0 0 0, .int .i64 x]) ∧ x ≠ 0)
set_option maxHeartbeats 6400000 in
set_option maxRecDepth 100000 in
theorem Peek_any (s : ByteArray) (w : World) (hs : s.size ≤ 1000000) :
    Calls Tryz.prog 39 #[.string s] w fun e w' => MetaAns s e ∧ Below w.heap.size w w' := by
  have mixed : Tryz.prog.follows .mixedOrders = true := by kernel_rfl
  have HP := Lib.hid (fun w => peek_any s w hs)
  go_enter Tryz.func39, Tryz.ntmps39
  go_wp2_with fail
  refine (HP.out _).mono ?_
  rintro e1 w1 ⟨hp, hb1⟩
  have hR := (Mb.new w).below hb1 (by simp)
  have hB := (ext_alloc w _).trans (hb1.mono (by simp))
  have hlt : w.heap.size < w1.heap.size := by have := hb1.size; simp at this; omega
  clear HP hb1
  rcases hp with ⟨md, raw, count, first, early, late, r, hpk, rfl⟩ | ⟨hpk, x, rfl, hx⟩
  · have HPK := Lib.hid hpk
    have hR2 : Mb (w1.alloc (.cells #[.int .i64 0, .int .i64 0, .int .i64 raw, .int .i64 count, .int .i64 first, .int .i64 early, .int .i64 late, .int .i64 md, .string r] 87)) w.heap.size 0 0 0 0 0 0 0 := hR.below (ext_alloc w1 _) hlt
    have HB := Lib.hid (hB.alloc (o := (.cells #[.int .i64 0, .int .i64 0, .int .i64 raw, .int .i64 count, .int .i64 first, .int .i64 early, .int .i64 late, .int .i64 md, .string r] 87)) (by omega))
    have HF := Lib.hid (hR2.fill 0 0 raw count first early late)
    have r0 := hR2.c0
    have r1 := hR2.c1
    have r2 := hR2.c2
    have r3 := hR2.c3
    have r4 := hR2.c4
    have r5 := hR2.c5
    have r6 := hR2.c6
    have f0 := hR2.fz 0
    have f1 := hR2.fz 1
    have f2 := hR2.fz 2
    have f3 := hR2.fz 3
    have f4 := hR2.fz 4
    have f5 := hR2.fz 5
    have f6 := hR2.fz 6
    clear hR hB hR2 hpk hlt
    unfold hagg
    go_wp2_with fail
    have g0 := HF.out.c0
    have g1 := HF.out.c1
    have g2 := HF.out.c2
    have g3 := HF.out.c3
    have g4 := HF.out.c4
    have g5 := HF.out.c5
    have g6 := HF.out.c6
    refine bodyPost_ret (v := .tuple #[magg 0 0 raw count first early late, .int .i64 0]) (by simp [results, go_sem, g0, g1, g2, g3, g4, g5, g6, magg]) rfl ?_
    exact ⟨.inl ⟨md, raw, count, first, early, late, r.data.toList, HPK.out, rfl⟩, below_fill7 HB.out (Nat.le_refl _)⟩
  · have HPK := Lib.hid hpk
    have hR2 : Mb (w1.alloc (.cells #[.int .i64 0, .int .i64 0, .int .i64 0, .int .i64 0, .int .i64 0, .int .i64 0, .int .i64 0, .int .i64 0, .string ⟨#[]⟩] 87)) w.heap.size 0 0 0 0 0 0 0 := hR.below (ext_alloc w1 _) hlt
    have HB := Lib.hid (hB.alloc (o := (.cells #[.int .i64 0, .int .i64 0, .int .i64 0, .int .i64 0, .int .i64 0, .int .i64 0, .int .i64 0, .int .i64 0, .string ⟨#[]⟩] 87)) (by omega))
    have HF := Lib.hid (hR2.fill 0 0 0 0 0 0 0)
    have r0 := hR2.c0
    have r1 := hR2.c1
    have r2 := hR2.c2
    have r3 := hR2.c3
    have r4 := hR2.c4
    have r5 := hR2.c5
    have r6 := hR2.c6
    have f0 := hR2.fz 0
    have f1 := hR2.fz 1
    have f2 := hR2.fz 2
    have f3 := hR2.fz 3
    have f4 := hR2.fz 4
    have f5 := hR2.fz 5
    have f6 := hR2.fz 6
    clear hR hB hR2 hpk hlt
    unfold hagg
    go_wp2_with fail
    have g0 := HF.out.c0
    have g1 := HF.out.c1
    have g2 := HF.out.c2
    have g3 := HF.out.c3
    have g4 := HF.out.c4
    have g5 := HF.out.c5
    have g6 := HF.out.c6
    refine bodyPost_ret (v := .tuple #[magg 0 0 0 0 0 0 0, .int .i64 x]) (by simp [results, go_sem, g0, g1, g2, g3, g4, g5, g6, magg]) rfl ?_
    exact ⟨.inr ⟨HPK.out, x, rfl, hx⟩, below_fill7 HB.out (Nat.le_refl _)⟩

theorem rawB_plain {md raw : Nat} {b : List UInt8} (h : md ≠ 1) : rawB md raw b = if b.length ≠ raw then none else some b := by
  unfold rawB; rw [if_neg h]
theorem rawB_packed {raw : Nat} {b : List UInt8} : rawB 1 raw b = match unS b with | none => none | some s => if s.length ≠ raw then none else some s := by
  unfold rawB; rw [if_pos rfl]; rcases unS b with _ | s <;> rfl
/-- What head.raw gives. -/
def RawAns (o : Option (List UInt8)) (e : Ending) : Prop := (∃ t : ByteArray, o = some t.data.toList ∧ e = .returned (.tuple #[.string t, .int .i64 0])) ∨ (o = none ∧ ∃ x, e = .returned (.tuple #[.string ⟨#[]⟩, .int .i64 x]) ∧ x ≠ 0)
set_option maxHeartbeats 6400000 in
set_option maxRecDepth 100000 in
theorem raw_any (raw count first early late md : Nat) (bd : ByteArray) (w : World) (hs : bd.size ≤ 1000000) :
    Calls Tryz.prog 41 #[hagg raw count first early late md bd] w fun e w' => RawAns (rawB md raw bd.data.toList) e ∧ Below w.heap.size w w' := by
  have mixed : Tryz.prog.follows .mixedOrders = true := by kernel_rfl
  have hl : bd.data.toList.length = bd.size := rfl
  by_cases hm : md = 1
  · subst hm
    have HU := Lib.hid (unpack_any bd (w.alloc (.cells #[.int .i64 0, .int .i64 0, .int .i64 (raw : Int), .int .i64 (count : Int), .int .i64 (first : Int), .int .i64 (early : Int), .int .i64 (late : Int), .int .i64 1, .string bd] 87)) hs)
    obtain ⟨R, hR⟩ : ∃ R, R = rawB 1 raw bd.data.toList := ⟨_, rfl⟩
    rw [← hR]
    rw [rawB_packed] at hR
    have HR := Lib.hid hR
    have cc : (w.alloc (.cells #[.int .i64 0, .int .i64 0, .int .i64 (raw : Int), .int .i64 (count : Int), .int .i64 (first : Int), .int .i64 (early : Int), .int .i64 (late : Int), .int .i64 1, .string bd] 87)).cell? ⟨w.heap.size, 2, none⟩ = some (.int .i64 (raw : Int)) := by rw [World.cell?_alloc_new]; rfl
    have HC := Lib.hid cc
    have HB0 := Lib.hid (ext_alloc w (.cells #[.int .i64 0, .int .i64 0, .int .i64 (raw : Int), .int .i64 (count : Int), .int .i64 (first : Int), .int .i64 (early : Int), .int .i64 (late : Int), .int .i64 1, .string bd] 87))
    clear hR hl cc
    unfold hagg
    go_enter Tryz.func41, Tryz.ntmps41
    go_wp2_with fail
    refine HU.out.mono ?_
    rintro e1 w1 ⟨hc, hb1⟩
    have c2 := (hb1.cell (p := ⟨w.heap.size, 2, none⟩) (by simp)).trans HC.out
    have HB := Lib.hid (HB0.out.trans (hb1.mono (by simp)))
    clear hb1 HU HC HB0
    rcases hc with ⟨t, ht, rfl⟩ | ⟨ht, x, rfl, hx, -⟩
    · have hR2 : R = if t.length ≠ raw then none else some t := by rw [HR.out, ht]
      obtain ⟨sb, hsb⟩ : ∃ sb : ByteArray, sb = ⟨t.toArray⟩ := ⟨_, rfl⟩
      have hsz : sb.size = t.length := by rw [hsb]; simp [ByteArray.size]
      have hst : sb.data.toList = t := by rw [hsb]
      rw [← hsb]
      rw [← hsz, ← hst] at hR2
      clear hsb hsz hst ht HR
      by_cases hn : sb.size = raw
      · rw [if_neg (by simpa using hn)] at hR2
        have HR2 := Lib.hid hR2
        clear hR2
        subst hn
        go_wp2_with fail
        go_ret2
        exact ⟨.inl ⟨sb, HR2.out, rfl⟩, HB.out⟩
      · rw [if_pos hn] at hR2
        have HR2 := Lib.hid hR2
        have hb1 : ((sb.size : Int) != (raw : Int)) = true := by rw [bne_iff_ne]; omega
        have hb2 : ((sb.size : Int) == (raw : Int)) = false := by rw [beq_eq_false_iff_ne]; omega
        have hb3 : (sb.size == raw) = false := by rw [beq_eq_false_iff_ne]; omega
        have hb4 : (sb.size != raw) = true := by rw [bne_iff_ne]; omega
        clear hR2
        go_wp2_with fail
        go_ret2
        exact ⟨.inr ⟨HR2.out, 5, rfl, by decide⟩, HB.out⟩
    · have hR2 : R = none := by rw [HR.out, ht]
      have HR2 := Lib.hid hR2
      have hb1 : (x != 0) = true := by rw [bne_iff_ne]; exact hx
      have hb2 : (x == 0) = false := by rw [beq_eq_false_iff_ne]; exact hx
      clear hR2 ht HR
      go_wp2_with fail
      go_ret2
      exact ⟨.inr ⟨HR2.out, x, rfl, hx⟩, HB.out⟩
  · rw [rawB_plain hm]
    have hb1 : ((md : Int) == 1) = false := by rw [beq_eq_false_iff_ne]; omega
    have hb2 : ((md : Int) != 1) = true := by rw [bne_iff_ne]; omega
    clear hm
    by_cases hn : bd.size = raw
    · rw [if_neg (by rw [hl]; simpa using hn)]
      subst hn
      clear hl
      unfold hagg
      go_enter Tryz.func41, Tryz.ntmps41
      go_wp2_with fail
      go_ret2
      exact ⟨.inl ⟨bd, rfl, rfl⟩, ext_alloc w _⟩
    · rw [if_pos (by rw [hl]; exact hn)]
      have hb3 : ((bd.size : Int) != (raw : Int)) = true := by rw [bne_iff_ne]; omega
      have hb4 : ((bd.size : Int) == (raw : Int)) = false := by rw [beq_eq_false_iff_ne]; omega
      have hb5 : (bd.size == raw) = false := by rw [beq_eq_false_iff_ne]; omega
      have hb6 : (bd.size != raw) = true := by rw [bne_iff_ne]; omega
      clear hl hn
      unfold hagg
      go_enter Tryz.func41, Tryz.ntmps41
      go_wp2_with fail
      go_ret2
      exact ⟨.inr ⟨rfl, 5, rfl, by decide⟩, ext_alloc w _⟩
end Bk
end Go.Proofs.YtpbphhpldlckbaaGreat
namespace Go.Proofs.YtpbphhpldlckbaaGreat
open Go.RowKit

/-- A block that holds just these cells. -/
def Blk (w : World) (g : Nat) (cs : Array Value) (t : TypeId) : Prop := w.heap[g]? = some (.cells cs t (0, 0))
section
variable {w w' : World} {g : Nat} {cs : Array Value} {t : TypeId} (h : Blk w g cs t)
include h
theorem Blk.lt : g < w.heap.size := (Array.getElem?_eq_some_iff.1 h).1
theorem Blk.cell (k : Nat) {v : Value} (hv : cs[k]? = some v) : w.cell? ⟨g, k, none⟩ = some v := by rw [cell_of_row w g k _ _ (0, 0) h]; exact hv
theorem Blk.fz (k : Nat) : w.frozen? ⟨g, k, none⟩ = false := frozen_of_row w g k _ _ h
theorem Blk.below {B : Nat} (hb : Below B w w') (hg : g < B) : Blk w' g cs t := (hb.block g hg).trans h
theorem Blk.ext (hb : Below w.heap.size w w') : Blk w' g cs t := Blk.below h hb (Blk.lt h)
theorem Blk.alloc (o : Obj) : Blk (w.alloc o) g cs t := (Below.heap_alloc w o g (Blk.lt h)).trans h
theorem Blk.set (z : Array Value) : Blk (w.setRow g z) g z t := setRow_heap w g cs z t (0, 0) h
theorem Blk.setOther {k : Nat} (hk : g ≠ k) (z : Array Value) : Blk (w.setRow k z) g cs t := (setRow_other w k g z hk).trans h
theorem Blk.setCell {k j : Nat} (hk : g ≠ k) (v : Value) : Blk (w.setCell ⟨k, j, none⟩ v) g cs t := (Below.heap_setCell w ⟨k, j, none⟩ v g hk).trans h
theorem Blk.grown {row : Option Nat} (hg : w.grownBy w' row) (hr : row ≠ some g) : Blk w' g cs t := (hg.block g (Blk.lt h) (fun e => hr e.symm)).trans h
/-- One cell is written. -/
theorem Blk.put (k : Nat) (v : Value) : Blk (w.setCell ⟨g, k, none⟩ v) g (cs.set! k v) t := by
  unfold Blk at *; simp [World.setCell, Array.getElem?_modify, h]
end
theorem Blk.new (w : World) (cs : Array Value) (t : TypeId) : Blk (w.alloc (.cells cs t)) w.heap.size cs t := heap_alloc_new w _
theorem ext_setRow {w w' : World} {B g : Nat} (h : Below B w w') (hg : B ≤ g) (z : Array Value) : Below B w (w'.setRow g z) := h.trans ⟨rfl, rfl, rfl, by rw [size_setRow]; exact Nat.le_refl _, fun k hk => setRow_other w' g k z (by omega)⟩

section
variable {P : Program} {ops : Array Oper} {rest : List Oper} {op : Oper} {a : Act} {w : World} {Q : Exit → Act → World → Prop}
theorem wpList_store_row (hgd : op.guard = none) (t : TypeId) (x y : Operand) (ho : op.op = .store t x y) (g : Nat) (z c : Array Value) (hx : a.eval x = .pointer (some ⟨g, 0, none⟩)) (hy : a.eval y = .agg z)
    (hh : Blk w g c t) (hi : (P.info? t).map (·.size) = some z.size) (hc : c.size = z.size) (h1 : z.all (·.oneCell') = true)
    (h : wpList P ops Q rest (a.put op.dst undef) (w.setRow g z)) : wpList P ops Q (op :: rest) a w := by
  refine wpList_plain hgd fun _ hK => ?_
  unfold Oper.wp execOp
  simp only [ho, hx, hy, Instr.storeAt, Instr.sureAddr, Sem.run_bind, Sem.run_pure, Result.andThen_ok, run_storeVar_row w g t t c z hh hi hc h1]
  exact hK _ _ h
theorem wpList_load_row (hgd : op.guard = none) (t : TypeId) (x : Operand) (ho : op.op = .load t x) (g : Nat) (c : Array Value) (d : TypeDesc) (hx : a.eval x = .pointer (some ⟨g, 0, none⟩))
    (hh : Blk w g c t) (hu : P.underlying t = some d) (hd : (match d with | .struct _ | .array _ _ => true | _ => false) = true) (hi : (P.info? t).map (·.size) = some c.size)
    (h : wpList P ops Q rest (a.put op.dst (.agg c)) w) : wpList P ops Q (op :: rest) a w := by
  refine wpList_plain hgd fun _ hK => ?_
  unfold Oper.wp execOp
  simp only [ho, hx, Instr.loadAt, Instr.sureAddr, Sem.run_bind, Sem.run_pure, Result.andThen_ok, run_loadVar_row w g t t c (0, 0) d hh hu hd hi]
  exact hK _ _ h
end
/-- Results that lie in a variable, and in a slot. -/
theorem results_cell2 {P : Program} {fn : Func} {tmps : Array Value} {w : World} {a b : Nat} {t : TypeId} {g : Nat} {c : Array Value} {u : Value} {d : TypeDesc} (hr : fn.results = #[.cell a t, .tmp b]) (ht : tmps.getD a undef = .pointer (some ⟨g, 0, none⟩)) (hb : tmps.getD b undef = u)
    (hh : Blk w g c t) (hu : P.underlying t = some d) (hd : (match d with | .struct _ | .array _ _ => true | _ => false) = true) (hi : (P.info? t).map (·.size) = some c.size) :
    (results fn tmps).run P w = .ok (.tuple #[.agg c, u]) w := by
  unfold results
  rw [hr]
  have ht2 : tmps[a]?.getD undef = .pointer (some ⟨g, 0, none⟩) := by rw [← ht]; simp [Array.getD_eq_getD_getElem?]
  have hb2 : tmps[b]?.getD undef = u := by rw [← hb]; simp [Array.getD_eq_getD_getElem?]
  simp [ht2, hb2, asAddr, run_loadVar_row w g t t c (0, 0) d hh hu hd hi]
theorem results_cell1 {P : Program} {fn : Func} {tmps : Array Value} {w : World} {a : Nat} {t : TypeId} {g : Nat} {c : Array Value} {d : TypeDesc} (hr : fn.results = #[.cell a t]) (ht : tmps.getD a undef = .pointer (some ⟨g, 0, none⟩))
    (hh : Blk w g c t) (hu : P.underlying t = some d) (hd : (match d with | .struct _ | .array _ _ => true | _ => false) = true) (hi : (P.info? t).map (·.size) = some c.size) :
    (results fn tmps).run P w = .ok (.agg c) w := results_cell hr ht (run_loadVar_row w g t t c (0, 0) d hh hu hd hi)
end Go.Proofs.YtpbphhpldlckbaaGreat
namespace Go.Proofs.YtpbphhpldlckbaaGreat
namespace Sn
open Go.RowKit Hd Fm Bk

/-- What scan.meta gives. -/
def MfAns (x : Fr) (e : Ending) : Prop := (∃ m, metaF x = some m ∧ e = .returned (.tuple #[mv m, .bool true])) ∨ (metaF x = none ∧ e = .returned (.tuple #[magg 0 0 0 0 0 0 0, .bool false]))
set_option maxHeartbeats 6400000 in
set_option maxRecDepth 100000 in
theorem meta_any (k : Nat) (b : ByteArray) (p t : Nat) (w : World) (hb : b.size ≤ 1000000) (hp : p ≤ t) (ht : t ≤ 1000000000) :
    Calls Tryz.prog 21 #[fagg k b p t] w fun e w' => MfAns (k, b, p, t) e ∧ Below w.heap.size w w' := by
  have mixed : Tryz.prog.follows .mixedOrders = true := by kernel_rfl
  have HI := Lib.hid (show (Tryz.prog.info? 38).map (·.size) = some 7 by kernel_rfl)
  have HB := Lib.hid ((ext_alloc w (.cells #[.int .i64 k, .string b, .int .i64 p, .int .i64 t] 59)).trans ((ext_alloc _ (.cells #[.int .i64 0, .int .i64 0, .int .i64 0, .int .i64 0, .int .i64 0, .int .i64 0, .int .i64 0] 38)).mono (by simp)))
  have M1 := Lib.hid (show Fb ((w.alloc (.cells #[.int .i64 k, .string b, .int .i64 p, .int .i64 t] 59)).alloc (.cells #[.int .i64 0, .int .i64 0, .int .i64 0, .int .i64 0, .int .i64 0, .int .i64 0, .int .i64 0] 38)) w.heap.size k b p t from
    (Below.heap_alloc _ _ _ (by simp)).trans (heap_alloc_new w _))
  have M2 := Lib.hid (show Mb ((w.alloc (.cells #[.int .i64 k, .string b, .int .i64 p, .int .i64 t] 59)).alloc (.cells #[.int .i64 0, .int .i64 0, .int .i64 0, .int .i64 0, .int .i64 0, .int .i64 0, .int .i64 0] 38)) (w.heap.size + 1) 0 0 0 0 0 0 0 from by
    have hh := Mb.new (w.alloc (.cells #[.int .i64 k, .string b, .int .i64 p, .int .i64 t] 59))
    rw [show (w.alloc (.cells #[.int .i64 k, .string b, .int .i64 p, .int .i64 t] 59)).heap.size = w.heap.size + 1 by simp] at hh
    exact hh)
  have HP := Lib.hid (fun w => Peek_any b w hb)
  unfold fagg
  go_enter Tryz.func21, Tryz.ntmps21
  go_wp2_with fail
  generalize (w.alloc (.cells #[.int .i64 k, .string b, .int .i64 p, .int .i64 t] 59)).alloc (.cells #[.int .i64 0, .int .i64 0, .int .i64 0, .int .i64 0, .int .i64 0, .int .i64 0, .int .i64 0] 38) = w0 at *
  refine (HP.out _).mono ?_
  rintro e1 w1 ⟨ha, hb1⟩
  have F1 := M1.out.below hb1 M1.out.lt
  have G1 := M2.out.below hb1 M2.out.lt
  have HB1 := Lib.hid (HB.out.trans (hb1.mono HB.out.size))
  have HL1 := Lib.hid (Nat.lt_of_lt_of_le M2.out.lt hb1.size)
  have l1 : w.heap.size < w1.heap.size := Nat.lt_of_lt_of_le M1.out.lt hb1.size
  have l2 : w.heap.size + 1 < w1.heap.size := Nat.lt_of_lt_of_le M2.out.lt hb1.size
  clear hb1
  rcases ha with ⟨md, raw, count, first, early, late, r, hpk, rfl⟩ | ⟨hpk, x, rfl, hx⟩
  · by_cases hk : k = 2
    · subst hk
      have HM := Lib.hid (show metaF (2, b, p, t) = some ⟨p, t - p, raw, count, first, early, late⟩ by unfold metaF; rw [hpk]; exact if_pos rfl)
      obtain ⟨d, hd⟩ : ∃ d : Nat, t - p = d := ⟨_, rfl⟩
      have b2 : IntKind.i64.wrap ((t : Int) - (p : Int)) = (d : Int) := by rw [IntKind.wrap_i64]; omega
      rw [hd] at HM
      clear hd
      have F2 : Fb (w1.alloc (.cells #[.int .i64 0, .int .i64 0, .int .i64 raw, .int .i64 count, .int .i64 first, .int .i64 early, .int .i64 late] 38)) w.heap.size 2 b p t := F1.below (ext_alloc w1 _) l1
      have G2 : Mb (w1.alloc (.cells #[.int .i64 0, .int .i64 0, .int .i64 raw, .int .i64 count, .int .i64 first, .int .i64 early, .int .i64 late] 38)) (w.heap.size + 1) 0 0 0 0 0 0 0 := G1.below (ext_alloc w1 _) l2
      have HB2 := Lib.hid (HB1.out.trans ((ext_alloc w1 (.cells #[.int .i64 0, .int .i64 0, .int .i64 raw, .int .i64 count, .int .i64 first, .int .i64 early, .int .i64 late] 38)).mono HB1.out.size))
      have HL2 := Lib.hid (Nat.lt_of_lt_of_le l2 (ext_alloc w1 (.cells #[.int .i64 0, .int .i64 0, .int .i64 raw, .int .i64 count, .int .i64 first, .int .i64 early, .int .i64 late] 38)).size)
      have HW2 := Lib.hid (show Mb (w1.alloc (.cells #[.int .i64 0, .int .i64 0, .int .i64 raw, .int .i64 count, .int .i64 first, .int .i64 early, .int .i64 late] 38)) w1.heap.size 0 0 raw count first early late from heap_alloc_new w1 _)
      clear hpk HP F1 G1
      unfold magg
      go_upto_region 2 with (fail)
      generalize w1.alloc (.cells #[.int .i64 0, .int .i64 0, .int .i64 raw, .int .i64 count, .int .i64 first, .int .i64 early, .int .i64 late] 38) = w2 at *
      have HG2 := Lib.hid (show w.heap.size ≤ w.heap.size + 1 from Nat.le_succ _)
      generalize w.heap.size + 1 = g2 at *
      have c0 := F2.c0
      have c2 := F2.c2
      have c3 := F2.c3
      have s0 := HW2.out.c0
      have s1 := HW2.out.c1
      have y0 := HW2.out.fz 0
      have y1 := HW2.out.fz 1
      have HG := Lib.hid (show Blk w2 g2 #[.int .i64 0, .int .i64 0, .int .i64 0, .int .i64 0, .int .i64 0, .int .i64 0, .int .i64 0] 38 from G2)
      have HL1 := Lib.hid (show w.heap.size ≤ w1.heap.size ∧ g2 ≠ w1.heap.size from ⟨Nat.le_of_lt l1, Nat.ne_of_lt l2⟩)
      clear F2 G2 l1 l2
      go_wp2_with fail
      go_region
      have HX := Lib.hid (show Blk (((w2.setCell ⟨w1.heap.size, 0, none⟩ (.int .i64 (p : Int))).setCell ⟨w1.heap.size, 1, none⟩ (.int .i64 (d : Int))).drew) w1.heap.size #[.int .i64 p, .int .i64 d, .int .i64 raw, .int .i64 count, .int .i64 first, .int .i64 early, .int .i64 late] 38 from (HW2.out.set0 p).set1 d)
      have HY := Lib.hid (show Blk (((w2.setCell ⟨w1.heap.size, 0, none⟩ (.int .i64 (p : Int))).setCell ⟨w1.heap.size, 1, none⟩ (.int .i64 (d : Int))).drew) g2 #[.int .i64 0, .int .i64 0, .int .i64 0, .int .i64 0, .int .i64 0, .int .i64 0, .int .i64 0] 38 from (HG.out.setCell HL1.out.2 _).setCell HL1.out.2 _)
      have HB4 := Lib.hid (show Below w.heap.size w (((w2.setCell ⟨w1.heap.size, 0, none⟩ (.int .i64 (p : Int))).setCell ⟨w1.heap.size, 1, none⟩ (.int .i64 (d : Int))).drew) from ((HB2.out.setCell (p := ⟨w1.heap.size, 0, none⟩) HL1.out.1 _).setCell (p := ⟨w1.heap.size, 1, none⟩) HL1.out.1 _).drew)
      generalize ((w2.setCell ⟨w1.heap.size, 0, none⟩ (.int .i64 (p : Int))).setCell ⟨w1.heap.size, 1, none⟩ (.int .i64 (d : Int))).drew = w4 at *
      go_wp2_with (first | (refine wpList_load_row rfl 38 (.tmp 4) rfl w1.heap.size #[.int .i64 p, .int .i64 d, .int .i64 raw, .int .i64 count, .int .i64 first, .int .i64 early, .int .i64 late] _ (by simp [go_sem, Act.eval]) HX.out Tryz.underlying38 rfl HI.out ?_) | (refine wpList_store_row rfl 38 (.tmp 2) (.tmp 29) rfl g2 #[.int .i64 p, .int .i64 d, .int .i64 raw, .int .i64 count, .int .i64 first, .int .i64 early, .int .i64 late] #[.int .i64 0, .int .i64 0, .int .i64 0, .int .i64 0, .int .i64 0, .int .i64 0, .int .i64 0] (by simp [go_sem, Act.eval]) (by simp [go_sem, Act.eval]) HY.out HI.out rfl (by simp [Value.oneCell']) ?_))
      refine bodyPost_ret (v := .tuple #[mv ⟨p, d, raw, count, first, early, late⟩, .bool true]) (by exact results_cell2 rfl rfl rfl (HY.out.set #[.int .i64 p, .int .i64 d, .int .i64 raw, .int .i64 count, .int .i64 first, .int .i64 early, .int .i64 late]) Tryz.underlying38 rfl HI.out) (by exact rfl) ?_
      exact ⟨.inl ⟨_, HM.out, rfl⟩, ext_setRow HB4.out HG2.out _⟩
    · have HM := Lib.hid (show metaF (k, b, p, t) = none by unfold metaF; rw [hpk]; exact if_neg hk)
      have F2 : Fb (w1.alloc (.cells #[.int .i64 0, .int .i64 0, .int .i64 raw, .int .i64 count, .int .i64 first, .int .i64 early, .int .i64 late] 38)) w.heap.size k b p t := F1.below (ext_alloc w1 _) l1
      have G2 : Mb (w1.alloc (.cells #[.int .i64 0, .int .i64 0, .int .i64 raw, .int .i64 count, .int .i64 first, .int .i64 early, .int .i64 late] 38)) (w.heap.size + 1) 0 0 0 0 0 0 0 := G1.below (ext_alloc w1 _) l2
      have HB2 := Lib.hid (HB1.out.trans ((ext_alloc w1 (.cells #[.int .i64 0, .int .i64 0, .int .i64 raw, .int .i64 count, .int .i64 first, .int .i64 early, .int .i64 late] 38)).mono HB1.out.size))
      have HL2 := Lib.hid (Nat.lt_of_lt_of_le l2 (ext_alloc w1 (.cells #[.int .i64 0, .int .i64 0, .int .i64 raw, .int .i64 count, .int .i64 first, .int .i64 early, .int .i64 late] 38)).size)
      clear hpk HP F1 G1
      unfold magg
      go_upto_region 2 with (fail)
      generalize w1.alloc (.cells #[.int .i64 0, .int .i64 0, .int .i64 raw, .int .i64 count, .int .i64 first, .int .i64 early, .int .i64 late] 38) = w2 at *
      have HG2 := Lib.hid (show w.heap.size ≤ w.heap.size + 1 from Nat.le_succ _)
      generalize w.heap.size + 1 = g2 at *
      have c0 := F2.c0
      have c2 := F2.c2
      have c3 := F2.c3
      have HG := Lib.hid (show Blk w2 g2 #[.int .i64 0, .int .i64 0, .int .i64 0, .int .i64 0, .int .i64 0, .int .i64 0, .int .i64 0] 38 from G2)
      clear F2 G2 l1 l2
      go_wp2_with (first | (refine wpList_store_row rfl 38 (.tmp 2) (.tmp 19) rfl g2 #[.int .i64 0, .int .i64 0, .int .i64 0, .int .i64 0, .int .i64 0, .int .i64 0, .int .i64 0] #[.int .i64 0, .int .i64 0, .int .i64 0, .int .i64 0, .int .i64 0, .int .i64 0, .int .i64 0] (by simp [go_sem, Act.eval]) (by simp [go_sem, Act.eval]) HG.out HI.out rfl (by simp [Value.oneCell']) ?_))
      refine bodyPost_ret (v := .tuple #[magg 0 0 0 0 0 0 0, .bool false]) (by exact results_cell2 rfl rfl rfl (HG.out.set #[.int .i64 0, .int .i64 0, .int .i64 0, .int .i64 0, .int .i64 0, .int .i64 0, .int .i64 0]) Tryz.underlying38 rfl HI.out) (by exact rfl) ?_
      exact ⟨.inr ⟨HM.out, rfl⟩, ext_setRow HB2.out HG2.out _⟩
  · have HM := Lib.hid (show metaF (k, b, p, t) = none by unfold metaF; rw [hpk])
    by_cases hk : k = 2
    · subst hk
      have F2 : Fb (w1.alloc (.cells #[.int .i64 0, .int .i64 0, .int .i64 0, .int .i64 0, .int .i64 0, .int .i64 0, .int .i64 0] 38)) w.heap.size 2 b p t := F1.below (ext_alloc w1 _) l1
      have G2 : Mb (w1.alloc (.cells #[.int .i64 0, .int .i64 0, .int .i64 0, .int .i64 0, .int .i64 0, .int .i64 0, .int .i64 0] 38)) (w.heap.size + 1) 0 0 0 0 0 0 0 := G1.below (ext_alloc w1 _) l2
      have HB2 := Lib.hid (HB1.out.trans ((ext_alloc w1 (.cells #[.int .i64 0, .int .i64 0, .int .i64 0, .int .i64 0, .int .i64 0, .int .i64 0, .int .i64 0] 38)).mono HB1.out.size))
      have HL2 := Lib.hid (Nat.lt_of_lt_of_le l2 (ext_alloc w1 (.cells #[.int .i64 0, .int .i64 0, .int .i64 0, .int .i64 0, .int .i64 0, .int .i64 0, .int .i64 0] 38)).size)
      clear hpk HP F1 G1
      unfold magg
      go_upto_region 2 with (fail)
      generalize w1.alloc (.cells #[.int .i64 0, .int .i64 0, .int .i64 0, .int .i64 0, .int .i64 0, .int .i64 0, .int .i64 0] 38) = w2 at *
      have HG2 := Lib.hid (show w.heap.size ≤ w.heap.size + 1 from Nat.le_succ _)
      generalize w.heap.size + 1 = g2 at *
      have c0 := F2.c0
      have c2 := F2.c2
      have c3 := F2.c3
      have HG := Lib.hid (show Blk w2 g2 #[.int .i64 0, .int .i64 0, .int .i64 0, .int .i64 0, .int .i64 0, .int .i64 0, .int .i64 0] 38 from G2)
      clear F2 G2 l1 l2
      go_wp2_with (first | (refine wpList_store_row rfl 38 (.tmp 2) (.tmp 19) rfl g2 #[.int .i64 0, .int .i64 0, .int .i64 0, .int .i64 0, .int .i64 0, .int .i64 0, .int .i64 0] #[.int .i64 0, .int .i64 0, .int .i64 0, .int .i64 0, .int .i64 0, .int .i64 0, .int .i64 0] (by simp [go_sem, Act.eval]) (by simp [go_sem, Act.eval]) HG.out HI.out rfl (by simp [Value.oneCell']) ?_))
      refine bodyPost_ret (v := .tuple #[magg 0 0 0 0 0 0 0, .bool false]) (by exact results_cell2 rfl rfl rfl (HG.out.set #[.int .i64 0, .int .i64 0, .int .i64 0, .int .i64 0, .int .i64 0, .int .i64 0, .int .i64 0]) Tryz.underlying38 rfl HI.out) (by exact rfl) ?_
      exact ⟨.inr ⟨HM.out, rfl⟩, ext_setRow HB2.out HG2.out _⟩
    · skip
      have F2 : Fb (w1.alloc (.cells #[.int .i64 0, .int .i64 0, .int .i64 0, .int .i64 0, .int .i64 0, .int .i64 0, .int .i64 0] 38)) w.heap.size k b p t := F1.below (ext_alloc w1 _) l1
      have G2 : Mb (w1.alloc (.cells #[.int .i64 0, .int .i64 0, .int .i64 0, .int .i64 0, .int .i64 0, .int .i64 0, .int .i64 0] 38)) (w.heap.size + 1) 0 0 0 0 0 0 0 := G1.below (ext_alloc w1 _) l2
      have HB2 := Lib.hid (HB1.out.trans ((ext_alloc w1 (.cells #[.int .i64 0, .int .i64 0, .int .i64 0, .int .i64 0, .int .i64 0, .int .i64 0, .int .i64 0] 38)).mono HB1.out.size))
      have HL2 := Lib.hid (Nat.lt_of_lt_of_le l2 (ext_alloc w1 (.cells #[.int .i64 0, .int .i64 0, .int .i64 0, .int .i64 0, .int .i64 0, .int .i64 0, .int .i64 0] 38)).size)
      clear hpk HP F1 G1
      unfold magg
      go_upto_region 2 with (fail)
      generalize w1.alloc (.cells #[.int .i64 0, .int .i64 0, .int .i64 0, .int .i64 0, .int .i64 0, .int .i64 0, .int .i64 0] 38) = w2 at *
      have HG2 := Lib.hid (show w.heap.size ≤ w.heap.size + 1 from Nat.le_succ _)
      generalize w.heap.size + 1 = g2 at *
      have c0 := F2.c0
      have c2 := F2.c2
      have c3 := F2.c3
      have HG := Lib.hid (show Blk w2 g2 #[.int .i64 0, .int .i64 0, .int .i64 0, .int .i64 0, .int .i64 0, .int .i64 0, .int .i64 0] 38 from G2)
      clear F2 G2 l1 l2
      go_wp2_with (first | (refine wpList_store_row rfl 38 (.tmp 2) (.tmp 19) rfl g2 #[.int .i64 0, .int .i64 0, .int .i64 0, .int .i64 0, .int .i64 0, .int .i64 0, .int .i64 0] #[.int .i64 0, .int .i64 0, .int .i64 0, .int .i64 0, .int .i64 0, .int .i64 0, .int .i64 0] (by simp [go_sem, Act.eval]) (by simp [go_sem, Act.eval]) HG.out HI.out rfl (by simp [Value.oneCell']) ?_))
      refine bodyPost_ret (v := .tuple #[magg 0 0 0 0 0 0 0, .bool false]) (by exact results_cell2 rfl rfl rfl (HG.out.set #[.int .i64 0, .int .i64 0, .int .i64 0, .int .i64 0, .int .i64 0, .int .i64 0, .int .i64 0]) Tryz.underlying38 rfl HI.out) (by exact rfl) ?_
      exact ⟨.inr ⟨HM.out, rfl⟩, ext_setRow HB2.out HG2.out _⟩
end Sn
end Go.Proofs.YtpbphhpldlckbaaGreat
namespace Go.Proofs.YtpbphhpldlckbaaGreat
namespace Sn
open Go.RowKit Hd Fm

/-- Does a text begin with another one? -/
def preB (s p : ByteArray) : Bool := decide (s.extract 0 p.size = p)
theorem preB_iff (s p : ByteArray) : preB s p = true ↔ s.extract 0 p.size = p := by unfold preB; rw [decide_eq_true_eq]
set_option maxHeartbeats 1600000 in
set_option maxRecDepth 100000 in
theorem beqL (a b : ByteArray) {r : Bool} (h : decide (a = b) = r) : (a.toList == b.toList) = r := by
  rw [ByteArray.toList_eq, ByteArray.toList_eq]
  subst h
  by_cases hq : a = b
  · subst hq; simp
  · rw [decide_eq_false hq, beq_eq_false_iff_ne]
    intro e
    obtain ⟨⟨a⟩⟩ := a
    obtain ⟨⟨b⟩⟩ := b
    exact hq (by simp only at e; rw [e])
theorem hp1 (s p : ByteArray) (w : World) {b : Bool} (h : preB s p = b) : Calls Tryz.prog 55 #[.string s, .string p] w fun e w' => e = .returned (.bool b) ∧ w = w' := by
  have mixed : Tryz.prog.follows .mixedOrders = true := by kernel_rfl
  by_cases hs : p.size ≤ s.size
  · have h1 : decide (p.size ≤ s.size) = true := decide_eq_true hs
    have hb := Lib.hid (beqL (s.extract 0 p.size) p h)
    clear h
    go_enter Tryz.func55, Tryz.ntmps55
    go_wp2_with fail
    go_ret
    exact ⟨ret_bool hb.out, rfl⟩
  · have h1 : decide (p.size ≤ s.size) = false := decide_eq_false hs
    have hb := Lib.hid (show false = b by
      subst h
      rcases hq : preB s p with _ | _
      · rfl
      · have := congrArg ByteArray.size ((preB_iff s p).1 hq)
        rw [ByteArray.size_extract] at this
        omega)
    clear h
    go_enter Tryz.func55, Tryz.ntmps55
    go_wp2_with fail
    go_ret
    exact ⟨ret_bool hb.out, rfl⟩
theorem hp2 (s p : ByteArray) (w : World) {b : Bool} (h : preB s p = b) : Calls Tryz.prog 35 #[.string s, .string p] w fun e w' => e = .returned (.bool b) ∧ w = w' := by
  have mixed : Tryz.prog.follows .mixedOrders = true := by kernel_rfl
  have H := Lib.hid (fun w => hp1 s p w h)
  clear h
  go_enter Tryz.func35, Tryz.ntmps35
  go_wp2_with fail
  refine (H.out _).mono ?_
  rintro e1 w1 ⟨rfl, rfl⟩
  go_wp2_with fail
  go_ret
  exact ⟨rfl, rfl⟩
/-- A header's frame. -/
def hdrB (i g f : Nat) : ByteArray := frB 1 (hb i g f)
theorem hb_size (i g f : Nat) (h : 1 ≤ i ∧ i ≤ 999999 ∧ 1 ≤ g ∧ g ≤ 999999 ∧ 1 ≤ f ∧ f ≤ 1000000000) : (hb i g f).size ≤ 27 := by
  have h3 := flat_len [i, g, f] (by intro x hx; simp at hx; omega)
  simp only [List.flatMap_cons, List.flatMap_nil, List.append_nil, List.length_cons, List.length_nil] at h3
  unfold hb
  show (List.toArray _).size ≤ 27
  rw [List.size_toArray]
  omega
set_option maxHeartbeats 1600000 in
set_option maxRecDepth 100000 in
theorem begun_ok (s : ByteArray) (i g f : Nat) (w : World) (h : 1 ≤ i ∧ i ≤ 999999 ∧ 1 ≤ g ∧ g ≤ 999999 ∧ 1 ≤ f ∧ f ≤ 1000000000) {b : Bool} (hp : preB s (hdrB i g f) = b) :
    Calls Tryz.prog 17 #[.string s, .agg #[.int .i64 (i : Int), .int .i64 (g : Int), .int .i64 (f : Int)]] w fun e w' => e = .returned (.tuple #[.int .i64 (if b = true then ((hdrB i g f).size : Int) else 0), .bool b]) ∧ Below w.heap.size w w' := by
  have mixed : Tryz.prog.follows .mixedOrders = true := by kernel_rfl
  have HH := Lib.hid (hput_yes i g f (w.alloc (.cells #[.int .i64 (i : Int), .int .i64 (g : Int), .int .i64 (f : Int)] 23)) h)
  have HB := Lib.hid (ext_alloc w (.cells #[.int .i64 (i : Int), .int .i64 (g : Int), .int .i64 (f : Int)] 23))
  have HP := Lib.hid (fun w => put_any 1 (hb i g f) w (by decide) (by have := hb_size i g f h; omega))
  have hsz := hb_size i g f h
  have HX := Lib.hid (fun w => hp2 s (hdrB i g f) w hp)
  have HE := Lib.hid (show frB 1 (hb i g f) = hdrB i g f from rfl)
  rw [HE.out] at HP
  generalize hdrB i g f = D at *
  generalize hb i g f = E at *
  clear h hp
  rcases b with _ | _
  all_goals
    go_enter Tryz.func17, Tryz.ntmps17
    go_wp2_with fail
    refine HH.out.mono ?_
    rintro e1 w1 ⟨rfl, hb1⟩
    have HB1 := Lib.hid (HB.out.trans (hb1.mono HB.out.size))
    clear hb1
    go_wp2_with fail
    refine (HP.out _).mono ?_
    rintro e2 w2 ⟨rfl, hb2⟩
    have HB2 := Lib.hid (HB1.out.trans (hb2.mono HB1.out.size))
    clear hb2
    go_wp2_with fail
    refine (HX.out _).mono ?_
    rintro e3 w3 ⟨rfl, rfl⟩
    go_wp2_with fail
    go_ret2
    exact ⟨rfl, HB2.out⟩
set_option maxHeartbeats 1600000 in
set_option maxRecDepth 100000 in
theorem begun_no (s : ByteArray) (i g f : Int) (w : World) (h : okH i g f = false) :
    Calls Tryz.prog 17 #[.string s, .agg #[.int .i64 i, .int .i64 g, .int .i64 f]] w fun e w' => e = .returned (.tuple #[.int .i64 0, .bool false]) ∧ Below w.heap.size w w' := by
  have mixed : Tryz.prog.follows .mixedOrders = true := by kernel_rfl
  have HH := Lib.hid (hput_no i g f (w.alloc (.cells #[.int .i64 i, .int .i64 g, .int .i64 f] 23)) h)
  have HB := Lib.hid (ext_alloc w (.cells #[.int .i64 i, .int .i64 g, .int .i64 f] 23))
  clear h
  go_enter Tryz.func17, Tryz.ntmps17
  go_wp2_with fail
  refine HH.out.mono ?_
  rintro e1 w1 ⟨rfl, hb1⟩
  have HB1 := Lib.hid (HB.out.trans (hb1.mono HB.out.size))
  clear hb1
  go_wp2_with fail
  go_ret2
  exact ⟨rfl, HB1.out⟩
end Sn
end Go.Proofs.YtpbphhpldlckbaaGreat
namespace Go.Proofs.YtpbphhpldlckbaaGreat
namespace Rd
open Go.RowKit

/-- A slice of records that the call owns from block B on. -/
def Own3 (w : World) (B : Nat) (v : Value) (l : List (Int × Int × ByteArray)) : Prop := w.ownsRow B 40 3 v l.length (fl3 l)
theorem rec_info : (Tryz.prog.info? 40).map (fun i => (i.zero, i.size, i.bytes)) = some (some (.agg #[.int .i64 0, .int .i64 0, .string ⟨#[]⟩]), 3, 32) := by kernel_rfl
theorem fl3_one (l : List (Int × Int × ByteArray)) : ∀ u ∈ fl3 l, u.oneCell' = true := by
  induction l with
  | nil => simp [fl3]
  | cons x l ih =>
    intro u hu
    rw [fl3_cons] at hu
    simp only [List.mem_cons] at hu
    rcases hu with rfl | rfl | rfl | hu
    · rfl
    · rfl
    · rfl
    · exact ih u hu

section
variable {ops : Array Oper} {rest : List Oper} {o : Oper} {a : Act} {Q : Exit → Act → World → Prop}
theorem append3 {s x : Operand} {B : Nat} {v : Value} {l : List (Int × Int × ByteArray)} {w0 : World} {y z : Int} {d : ByteArray} (hown : Own3 w0 B v l) (hl : l.length ≤ 1099511627776) (hB : B ≤ w0.heap.size)
    (h : ∀ A' n' c' w', Hid (n' = l.length + 1) → Own3 w' B (.slice A' n' c') (l ++ [(y, z, d)]) → Below B w0 w' → wpList Tryz.prog ops Q rest (a.put o.dst (.slice A' n' c')) w')
    (hgd : o.guard = none := by exact rfl) (ho : o.op = .call { callee := .builtin .append, args := #[s, x], argTypes := #[32, 32] } := by exact rfl)
    (hs : a.eval s = v := by exact rfl) (hx : a.eval x = .slice (some ⟨w0.heap.size, 0, none⟩) 1 1 := by exact rfl) :
    wpList Tryz.prog ops Q (o :: rest) a (w0.alloc (.cells #[.int .i64 y, .int .i64 z, .string d] 40)) := by
  obtain ⟨i0, hi, hz0, hz1, hz2⟩ := info_parts rec_info
  refine wpList_append_own_at _ hgd s x 32 ho B 40 i0 (.agg #[.int .i64 0, .int .i64 0, .string ⟨#[]⟩]) 3 32 Tryz.underlying32 hi hz0 hz1 hz2 rfl (by omega) v l.length (fl3 l) hs (hown.alloc _)
    ⟨w0.heap.size, 0, none⟩ 1 1 [.int .i64 y, .int .i64 z, .string d] hx rfl ?_ (by intro u hu; simp at hu; rcases hu with rfl | rfl | rfl <;> rfl) (by simp only [maxLen]; omega) (by omega) (by simp; omega) ?_
  · intro j u hu
    rw [Addr.add_lit, Nat.zero_add, World.cell?_alloc_new]
    simpa using hu
  intro v' w' hown' hg _ hat
  have hg0 : w0.grownBy w' v.ownBlock := (World.grownBy_alloc w0 _ v.ownBlock).trans hg
  have hlt := World.ownsRow.lt hown
  obtain ⟨A', c', rfl, _, _⟩ := own_slice hown'
  refine h A' _ c' w' rfl ?_ ((Below.refl _ _).grown hg0 hB (fun k hk => (hlt k hk).1))
  unfold Own3
  rw [List.length_append, fl3_append]
  exact hown'
end
section
variable {w w' : World} {B C : Nat} {v : Value} {l : List (Int × Int × ByteArray)}
theorem Own3.below (h : Own3 w B v l) (hb : Below C w w') (hC : w.heap.size ≤ C) : Own3 w' B v l := own_below h hb hC
theorem Own3.lower (h : Own3 w B v l) (hC : C ≤ B) : Own3 w C v l := own_lower h hC
theorem Own3.rd (h : Own3 w B v l) : ∃ A c, v = .slice A l.length c ∧ l.length ≤ c ∧ c ≤ maxLen ∧ Rd w w.heap.size 3 A l.length (fl3 l) := by
  have h0 := h
  obtain ⟨A, c, rfl, h1, h2⟩ := own_slice h0
  exact ⟨A, c, rfl, h1, h2, Rd.of_own h⟩
theorem own3_nil (w : World) (B : Nat) : Own3 w B (.slice none 0 0) [] := World.ownsRow_nil _ _ _ _
end
end Rd
end Go.Proofs.YtpbphhpldlckbaaGreat
namespace Go.Proofs.YtpbphhpldlckbaaGreat
namespace Rd
open Go.RowKit Vi Bd

theorem rec1_lt {b b' : List UInt8} {r : Int × Int × ByteArray} (h : rec1 b = some (r, b')) : b = recB r ++ b' ∧ b'.length + 3 ≤ b.length := by
  obtain ⟨-, h2⟩ := rec1_some b r b' h
  refine ⟨h2, ?_⟩
  have := congrArg List.length h2
  rw [List.length_append] at this
  have := recB_length r
  omega
theorem spl_fuel : ∀ (n m : Nat) (b : List UInt8), b.length ≤ n → b.length ≤ m → spl n b = spl m b
  | 0, m, b, hn, _ => by
    have hb : b = [] := List.length_eq_zero_iff.1 (by omega)
    subst hb
    cases m <;> simp [spl]
  | n + 1, m, b, hn, hm => by
    by_cases hb : b = []
    · subst hb; cases m <;> simp [spl]
    · have h0 : 0 < b.length := List.length_pos_iff.2 hb
      obtain ⟨m, rfl⟩ : ∃ k, m = k + 1 := ⟨m - 1, by omega⟩
      rw [spl, spl, if_neg hb, if_neg hb]
      rcases hr : rec1 b with _ | ⟨r, b'⟩
      · rfl
      · have := (rec1_lt hr).2
        simp only
        rw [spl_fuel n m b' (by omega) (by omega)]
/-- A row that is split up to a place. -/
def Sp (b : List UInt8) (l : List (Int × Int × ByteArray)) (rest : List UInt8) : Prop := (spl rest.length rest).map (l ++ ·) = spl b.length b
theorem sp_start (b : List UInt8) : Sp b [] b := by unfold Sp; simp
theorem sp_end {b : List UInt8} {l : List (Int × Int × ByteArray)} (h : Sp b l []) : spl b.length b = some l := by unfold Sp at h; rw [← h]; simp [spl]
theorem sp_none {b rest : List UInt8} {l : List (Int × Int × ByteArray)} (h : Sp b l rest) (hr : rest ≠ []) (h1 : rec1 rest = none) : spl b.length b = none := by
  unfold Sp at h
  rw [← h]
  obtain ⟨n, hn⟩ : ∃ n, rest.length = n + 1 := ⟨rest.length - 1, by have := List.length_pos_iff.2 hr; omega⟩
  rw [hn, spl, if_neg hr, h1]; rfl
theorem sp_step {b rest rest' : List UInt8} {l : List (Int × Int × ByteArray)} {r : Int × Int × ByteArray} (h : Sp b l rest) (hr : rest ≠ []) (h1 : rec1 rest = some (r, rest')) : Sp b (l ++ [r]) rest' := by
  unfold Sp at *
  rw [← h]
  obtain ⟨n, hn⟩ : ∃ n, rest.length = n + 1 := ⟨rest.length - 1, by have := List.length_pos_iff.2 hr; omega⟩
  have := (rec1_lt h1).2
  rw [hn, spl, if_neg hr, h1]
  simp only
  rw [spl_fuel n rest'.length rest' (by omega) (Nat.le_refl _), Option.map_map]
  congr 1
  funext x
  simp
theorem split_none {b : List UInt8} (h : spl b.length b = none) : split b = none := by unfold split; rw [h]; split <;> rfl
theorem split_big {b : List UInt8} (h : 20000 < b.length) : split b = none := if_pos h
theorem split_row {b : List UInt8} {l : List (Int × Int × ByteArray)} (h : spl b.length b = some l) (hr : rowE none l ≠ 0) : split b = none := by
  unfold split; rw [h]; simp only; rw [if_pos hr]; split <;> rfl
theorem split_yes {b : List UInt8} {l : List (Int × Int × ByteArray)} (h0 : ¬ 20000 < b.length) (h : spl b.length b = some l) (hr : rowE none l = 0) : split b = some l := by
  unfold split; rw [if_neg h0, h]; simp only; rw [if_neg (by simp [hr])]

set_option maxHeartbeats 6400000 in
set_option maxRecDepth 100000 in
theorem split_any (s : ByteArray) (w : World) (hs : s.size ≤ 1000000) :
    Calls Tryz.prog 42 #[.string s] w fun e w' => ((∃ l, split s.data.toList = some l ∧ ∃ v, e = .returned (.tuple #[v, .int .i64 0]) ∧ Own3 w' w.heap.size v l) ∨
      (split s.data.toList = none ∧ ∃ x, e = .returned (.tuple #[.slice none 0 0, .int .i64 x]) ∧ x ≠ 0)) ∧ Below w.heap.size w w' := by
  have mixed : Tryz.prog.follows .mixedOrders = true := by kernel_rfl
  have hl : s.data.toList.length = s.size := rfl
  by_cases hb : 20000 < s.size
  · have HN := Lib.hid (split_big (b := s.data.toList) (by omega))
    have hb1 : (20000 : Int) < (s.size : Int) := by omega
    go_enter Tryz.func42, Tryz.ntmps42
    go_wp2_with fail
    go_ret2
    exact ⟨.inr ⟨HN.out, 3, rfl, by decide⟩, Below.refl _ _⟩
  · have hb1 : ¬ (20000 : Int) < (s.size : Int) := by omega
    have HL := Lib.hid hl
    clear hl
    go_enter Tryz.func42, Tryz.ntmps42
    go_wp2_with fail
    go_loopw [4, 5] (fun v a wr => ∃ (p : Nat) (l : List (Int × Int × ByteArray)) (v0 : Value), v0 = v ∧ a = .int .i64 (p : Int) ∧ p ≤ s.size ∧ l.length ≤ p ∧ Hid (Sp s.data.toList l (s.data.toList.drop p) ∧ Own3 wr w.heap.size v l ∧ Below w.heap.size w wr)) (fun _ a _ => s.size - (intOf a).toNat)
    case atStart => exact ⟨0, [], .slice none 0 0, rfl, rfl, by omega, by simp, by rw [List.drop_zero]; exact sp_start _, own3_nil _ _, Below.refl _ _⟩
    case round =>
      obtain ⟨p, l, v, hv, rfl, hp, hlp, HX⟩ := hrel
      subst hv
      by_cases hps : p < s.size
      · have hrest : s.data.toList.drop p ≠ [] := by
          intro e
          have := congrArg List.length e
          rw [List.length_drop, HL.out] at this
          simp at this; omega
        have HG := Lib.hid (rget_any s p wr hs hp)
        have HRE := Lib.hid hrest
        have hi : (p : Int) < (s.size : Int) := by omega
        clear hrest
        go_wp2_with fail
        refine HG.out.mono ?_
        rintro e1 w1 ⟨⟨r, b', hr, rfl⟩ | ⟨hr, x, rfl, hx⟩, hb2⟩
        · obtain ⟨q, t, d⟩ := r
          obtain ⟨h1, h2⟩ := rec1_lt hr
          have h3 := congrArg List.length h1
          have h4 := recB_length (q, t, d)
          rw [List.length_append, List.length_drop, HL.out] at h3
          have hdr : b' = s.data.toList.drop (p + (recB (q, t, d)).length) := by
            rw [← List.drop_drop, h1]; simp
          have HST := Lib.hid (sp_step HX.out.1 HRE.out hr)
          rw [hdr] at HST
          generalize (recB (q, t, d)).length = m at *
          have hown := HX.out.2.1.below hb2 (Nat.le_refl _)
          have hB := HX.out.2.2.trans (hb2.mono HX.out.2.2.size)
          have HO := Lib.hid (And.intro hown hB)
          have hle := hB.size
          clear hdr h1 h2 HG HX HRE hr hown hB hb2
          unfold rv
          have ho2 : Own3 (w1.alloc (.cells #[.int .i64 q, .int .i64 t, .string d] 40)) w.heap.size v l := HO.out.1.below ((Below.refl _ _).alloc (Nat.le_refl _) _) (Nat.le_refl _)
          have hll : l.length ≤ 1099511627776 := by omega
          have hB3 : w.heap.size ≤ (w1.alloc (.cells #[.int .i64 q, .int .i64 t, .string d] 40)).heap.size := by simp; omega
          have HO2 := Lib.hid (And.intro ho2 (And.intro hll hB3))
          clear ho2 hll hB3
          go_wp2_with (at_builtin; refine append3 HO2.out.1 HO2.out.2.1 HO2.out.2.2 ?_ (hx := by simp [go_sem, Act.eval]); intro A1 n1 c1 w3 hn1 hown3 hb3)
          exact ⟨⟨p + m, l ++ [(q, t, d)], _, rfl, by go_num, by omega, by simp; omega, HST.out, hown3, (HO.out.2.alloc hle _).trans hb3⟩, by simp [intOf]; omega⟩
        · have HN := Lib.hid (split_none (sp_none HX.out.1 HRE.out hr))
          have HB := Lib.hid (HX.out.2.2.trans (hb2.mono HX.out.2.2.size))
          have hx1 : (x != 0) = true := by rw [bne_iff_ne]; exact hx
          have hx2 : (x == 0) = false := by rw [beq_eq_false_iff_ne]; exact hx
          have hle := HB.out.size
          clear HG HX HRE hr hb2
          unfold rv
          go_wp2_with fail
          go_ret2
          exact ⟨.inr ⟨HN.out, x, rfl, hx⟩, HB.out.alloc hle _⟩
      · obtain rfl : p = s.size := by omega
        have hnil : s.data.toList.drop s.size = [] := List.drop_eq_nil_of_le (by rw [HL.out]; exact Nat.le_refl _)
        have hsp := HX.out.1
        rw [hnil] at hsp
        have HE := Lib.hid (sp_end hsp)
        obtain ⟨A, c, rfl, hc1, hc2, hrd⟩ := HX.out.2.1.rd
        have HW := Lib.hid (row_any A l.length c l wr hrd (by omega))
        clear hnil hsp hrd
        by_cases hr : rowE none l = 0
        · have HY := Lib.hid (split_yes (by rw [HL.out]; exact hb) HE.out hr)
          rw [hr] at HW
          clear HE hr
          go_wp2_with fail
          refine HW.out.mono ?_
          rintro e2 w2 ⟨rfl, hb2⟩
          have HB := Lib.hid (HX.out.2.2.trans (hb2.mono HX.out.2.2.size))
          have HO := Lib.hid (HX.out.2.1.below hb2 (Nat.le_refl _))
          clear HX hb2 HW
          go_wp2_with fail
          go_ret2
          exact ⟨.inl ⟨l, HY.out, _, rfl, HO.out⟩, HB.out⟩
        · have HN := Lib.hid (split_row HE.out hr)
          generalize rowE none l = x at *
          have hx1 : (x != 0) = true := by rw [bne_iff_ne]; exact hr
          have hx2 : (x == 0) = false := by rw [beq_eq_false_iff_ne]; exact hr
          go_wp2_with fail
          refine HW.out.mono ?_
          rintro e2 w2 ⟨rfl, hb2⟩
          have HB := Lib.hid (HX.out.2.2.trans (hb2.mono HX.out.2.2.size))
          clear HX hb2 HW
          go_wp2_with fail
          go_ret2
          exact ⟨.inr ⟨HN.out, x, rfl, hr⟩, HB.out⟩
end Rd
end Go.Proofs.YtpbphhpldlckbaaGreat
namespace Go.Proofs.YtpbphhpldlckbaaGreat
namespace Bk
open Go.RowKit Tk Vi Sq Rd

theorem unS_le {b r : List UInt8} (h : unS b = some r) : r.length ≤ 20000 := unS_len b r h
theorem dec_peek {b : List UInt8} (h : peekB b = none) : dec b = none := by unfold dec; rw [h]
theorem dec_at {b r : List UInt8} {md raw count first early late : Nat} (h : peekB b = some (md, raw, count, first, early, late, r)) :
    dec b = match rawB md raw r with
      | none => none
      | some s => match split s with
        | none => none
        | some l => if fits l count first early late = true then some l else none := by unfold dec; rw [h]; rfl
theorem dec_raw {b r : List UInt8} {md raw count first early late : Nat} (h : peekB b = some (md, raw, count, first, early, late, r)) (h2 : rawB md raw r = none) : dec b = none := by rw [dec_at h, h2]
theorem dec_split {b r s : List UInt8} {md raw count first early late : Nat} (h : peekB b = some (md, raw, count, first, early, late, r)) (h2 : rawB md raw r = some s) (h3 : split s = none) : dec b = none := by
  rw [dec_at h, h2]; simp only [h3]
theorem dec_fits {b r s : List UInt8} {md raw count first early late : Nat} {l : List (Int × Int × ByteArray)} (h : peekB b = some (md, raw, count, first, early, late, r)) (h2 : rawB md raw r = some s) (h3 : split s = some l) :
    dec b = if fits l count first early late = true then some l else none := by
  rw [dec_at h, h2]; simp only [h3]
theorem peek_le {b r : List UInt8} {md raw count first early late : Nat} (h : peekB b = some (md, raw, count, first, early, late, r)) : r.length ≤ b.length ∧ raw ≤ 20000 ∧ 1 ≤ count ∧ count ≤ raw := by
  unfold peekB at h
  split at h; · simp at h
  rename_i m b'
  split at h
  · rename_i raw' count' first' early' more r' hf
    split at h
    · rename_i hm
      simp only [Option.some.injEq, Prod.mk.injEq] at h
      obtain ⟨-, rfl, rfl, -, -, -, rfl⟩ := h
      rw [mayH_iff] at hm
      obtain ⟨l, -, -, hb, -⟩ := fin_some 5 [] b' _ _ hf
      refine ⟨?_, hm.2.1, hm.2.2.1, hm.2.2.2.1⟩
      rw [hb, List.length_cons, List.length_append]; omega
    · simp at h
  · simp at h
theorem fits_iff (l : List (Int × Int × ByteArray)) (count first early late : Nat) : fits l count first early late = true ↔ l.length = count ∧ (at3 l 0).1 = first ∧ (at3 l 0).2.1 = early ∧ (at3 l (l.length - 1)).2.1 = late := by simp [fits]
/-- What block.Decode gives. -/
def DecAns (s : ByteArray) (w : World) (e : Ending) (w' : World) : Prop := (∃ l v, dec s.data.toList = some l ∧ e = .returned (.tuple #[v, .int .i64 0]) ∧ Own3 w' w.heap.size v l) ∨
  (dec s.data.toList = none ∧ ∃ x, e = .returned (.tuple #[.slice none 0 0, .int .i64 x]) ∧ x ≠ 0)
set_option maxHeartbeats 6400000 in
set_option maxRecDepth 100000 in
theorem Decode_any (s : ByteArray) (w : World) (hs : s.size ≤ 1000000) :
    Calls Tryz.prog 22 #[.string s] w fun e w' => DecAns s w e w' ∧ Below w.heap.size w w' := by
  have mixed : Tryz.prog.follows .mixedOrders = true := by kernel_rfl
  have HP := Lib.hid (fun w => peek_any s w hs)
  have hsl : s.data.toList.length = s.size := rfl
  go_enter Tryz.func22, Tryz.ntmps22
  go_wp2_with fail
  refine (HP.out _).mono ?_
  rintro e1 w1 ⟨hp, hb1⟩
  have HB1 := Lib.hid hb1
  clear HP hb1
  rcases hp with ⟨md, raw, count, first, early, late, r, hpk, rfl⟩ | ⟨hpk, x, rfl, hx⟩
  · have hle := peek_le hpk
    have hrl : r.data.toList.length = r.size := rfl
    have HRW := Lib.hid (fun w => raw_any raw count first early late md r w (by omega))
    unfold hagg at HRW ⊢
    have hH : Hb (w1.alloc (.cells #[.int .i64 0, .int .i64 0, .int .i64 raw, .int .i64 count, .int .i64 first, .int .i64 early, .int .i64 late, .int .i64 md, .string r] 87)) w1.heap.size raw count first early late md r := heap_alloc_new w1 _
    have hbw := HB1.out.alloc (o := .cells #[.int .i64 0, .int .i64 0, .int .i64 raw, .int .i64 count, .int .i64 first, .int .i64 early, .int .i64 late, .int .i64 md, .string r] 87) HB1.out.size
    have HH := Lib.hid (And.intro hH hbw)
    have HPK := Lib.hid hpk
    have HLE := Lib.hid hle.2
    clear hsl hle hrl hpk hH hbw
    go_wp2_with fail
    refine (HRW.out _).mono ?_
    rintro e2 w2 ⟨hrw, hb2⟩
    have hH2 := HH.out.1.below hb2 HH.out.1.lt
    have HB2 := Lib.hid (HH.out.2.trans (hb2.mono HH.out.2.size))
    clear HRW HH hb2 HB1
    rcases hrw with ⟨t, hrt, rfl⟩ | ⟨hrt, x, rfl, hx⟩
    · have HRT := Lib.hid hrt
      have htl : t.size ≤ 20000 := by
        have h2 := HRT.out
        unfold rawB at h2
        split at h2; · simp at h2
        split at h2; · simp at h2
        rename_i hne
        simp only [Option.some.injEq] at h2
        subst h2
        have : t.data.toList.length = t.size := rfl
        have := HLE.out.1
        omega
      have HS := Lib.hid (split_any t w2 (by omega))
      have HH2 := Lib.hid hH2
      clear hrt htl hH2
      go_wp2_with fail
      refine HS.out.mono ?_
      rintro e3 w3 ⟨hsp, hb3⟩
      have hH3 := HH2.out.below hb3 HH2.out.lt
      have HB3 := Lib.hid (HB2.out.trans (hb3.mono HB2.out.size))
      clear HS HH2 hb3
      rcases hsp with ⟨l, hl, v, rfl, hown⟩ | ⟨hl, x, rfl, hx⟩
      · have hdf := dec_fits HPK.out HRT.out hl
        have HO := Lib.hid (Own3.lower hown HB2.out.size)
        obtain ⟨A, c, rfl, hc1, hc2, hrd⟩ := hown.rd
        have k3 := hH3.c3
        have k4 := hH3.c4
        have k5 := hH3.c5
        have k6 := hH3.c6
        have HLN := Lib.hid HLE.out.2
        clear hH3 hown hl HRT HPK
        by_cases h1 : l.length = count
        · have HLL := Lib.hid h1
          obtain ⟨m, hm⟩ : ∃ m, l.length = m + 1 := ⟨l.length - 1, by have := HLN.out.1; omega⟩
          obtain ⟨ad, q0, t0, d0, rfl, hbk, hx0, hc00, hc01, -⟩ := rec3 hrd (show 0 < l.length by omega)
          obtain ⟨ad', q1, t1, d1, hA', -, hx1, -, hc11, -⟩ := rec3 hrd (show m < l.length by omega)
          obtain rfl : ad = ad' := by simpa using hA'
          have ha0 : at3 l 0 = (q0, t0, d0) := Option.some.inj ((at3_get l 0 (by omega)).symm.trans hx0)
          have ha1 : at3 l (l.length - 1) = (q1, t1, d1) := Option.some.inj ((at3_get l (l.length - 1) (by omega)).symm.trans (by rw [hm]; exact hx1))
          have hft : fits l count first early late = true ↔ q0 = first ∧ t0 = early ∧ t1 = late := by rw [fits_iff, ha0, ha1]; simp only; exact ⟨fun h => h.2, fun h => ⟨h1, h⟩⟩
          have hz : ad.add (0 * 3) = ad := by rw [Nat.zero_mul]; rfl
          rw [hz] at hc00 hc01
          have hcm : c ≤ 9223372036854775807 := by unfold maxLen at hc2; omega
          subst h1
          have HO4 := Lib.hid (show Own3 w3 w.heap.size (.slice (some ad) (m + 1) c) l by have := HO.out; rwa [hm] at this)
          rw [hm] at hc1 k3 ⊢
          clear hm hx0 hx1 hA' ha0 ha1 hz hrd hc2 HLN HLL
          have i1 : (0 : Int) < (m : Int) + 1 := by omega
          have i2 : IntKind.i64.wrap (((m : Int) + 1) - 1) = (m : Int) := by rw [IntKind.wrap_i64]; omega
          by_cases h2 : q0 = first
          · subst h2
            by_cases h3 : t0 = early
            · subst h3
              by_cases h4 : t1 = late
              · subst h4
                rw [if_pos (hft.2 ⟨rfl, rfl, rfl⟩)] at hdf
                have HD := Lib.hid hdf
                clear hdf hft
                go_wp2_with fail
                go_quiet (fail)
                go_wp2_with fail
                go_ret2
                exact ⟨.inl ⟨l, .slice (some ad) (m + 1) c, HD.out, rfl, HO4.out⟩, below_drewN HB3.out _⟩
              · rw [if_neg (fun h => h4 (hft.1 h).2.2)] at hdf
                have HD := Lib.hid hdf
                have b4 : ((t1 : Int) == (late : Int)) = false := by rw [beq_eq_false_iff_ne]; exact h4
                have c4 : ((t1 : Int) != (late : Int)) = true := by rw [bne_iff_ne]; exact h4
                clear hdf hft h4
                go_wp2_with fail
                go_quiet (fail)
                go_wp2_with fail
                go_ret2
                exact ⟨.inr ⟨HD.out, 170, rfl, by decide⟩, below_drewN HB3.out _⟩
            · rw [if_neg (fun h => h3 (hft.1 h).2.1)] at hdf
              have HD := Lib.hid hdf
              have b3 : ((t0 : Int) == (early : Int)) = false := by rw [beq_eq_false_iff_ne]; exact h3
              have c3 : ((t0 : Int) != (early : Int)) = true := by rw [bne_iff_ne]; exact h3
              clear hdf hft h3
              go_wp2_with fail
              go_quiet (fail)
              go_wp2_with fail
              go_ret2
              exact ⟨.inr ⟨HD.out, 170, rfl, by decide⟩, below_drewN HB3.out _⟩
          · rw [if_neg (fun h => h2 (hft.1 h).1)] at hdf
            have HD := Lib.hid hdf
            have b2 : ((q0 : Int) == (first : Int)) = false := by rw [beq_eq_false_iff_ne]; exact h2
            have c2 : ((q0 : Int) != (first : Int)) = true := by rw [bne_iff_ne]; exact h2
            clear hdf hft h2
            go_wp2_with fail
            go_quiet (fail)
            go_wp2_with fail
            go_ret2
            exact ⟨.inr ⟨HD.out, 170, rfl, by decide⟩, below_drewN HB3.out _⟩
        · rw [if_neg (by rw [fits_iff]; exact fun h => h1 h.1)] at hdf
          have HD := Lib.hid hdf
          have b1 : ((l.length : Int) == (count : Int)) = false := by rw [beq_eq_false_iff_ne]; omega
          have b2 : ((l.length : Int) != (count : Int)) = true := by rw [bne_iff_ne]; omega
          have b3 : (l.length == count) = false := by rw [beq_eq_false_iff_ne]; omega
          have b4 : (l.length != count) = true := by rw [bne_iff_ne]; omega
          clear hdf h1 hrd
          go_wp2_with fail
          go_quiet (fail)
          go_wp2_with fail
          go_ret2
          exact ⟨.inr ⟨HD.out, 170, rfl, by decide⟩, below_drewN HB3.out _⟩
      · have HD := Lib.hid (dec_split HPK.out HRT.out hl)
        have hb1 : (x != 0) = true := by rw [bne_iff_ne]; exact hx
        have hb2 : (x == 0) = false := by rw [beq_eq_false_iff_ne]; exact hx
        clear hl
        go_wp2_with fail
        go_ret2
        exact ⟨.inr ⟨HD.out, x, rfl, hx⟩, HB3.out⟩
    · have HD := Lib.hid (dec_raw HPK.out hrt)
      have hb1 : (x != 0) = true := by rw [bne_iff_ne]; exact hx
      have hb2 : (x == 0) = false := by rw [beq_eq_false_iff_ne]; exact hx
      clear hrt
      go_wp2_with fail
      go_ret2
      exact ⟨.inr ⟨HD.out, x, rfl, hx⟩, HB2.out⟩
  · have HD := Lib.hid (dec_peek hpk)
    have hb1 : (x != 0) = true := by rw [bne_iff_ne]; exact hx
    have hb2 : (x == 0) = false := by rw [beq_eq_false_iff_ne]; exact hx
    have HB2 := Lib.hid (HB1.out.alloc (o := .cells #[.int .i64 0, .int .i64 0, .int .i64 0, .int .i64 0, .int .i64 0, .int .i64 0, .int .i64 0, .int .i64 0, .string ⟨#[]⟩] 87) HB1.out.size)
    clear hpk
    unfold hagg
    go_wp2_with fail
    go_ret2
    exact ⟨.inr ⟨HD.out, x, rfl, hx⟩, HB2.out⟩
end Bk
end Go.Proofs.YtpbphhpldlckbaaGreat
namespace Go.Proofs.YtpbphhpldlckbaaGreat
namespace Bk
open Go.RowKit Vi Sq Rd

section
variable {ops : Array Oper} {rest : List Oper} {o : Oper} {a : Act} {Q : Exit → Act → World → Prop}
/-- 'append(b, s...)' of a text. -/
theorem appendS {s x : Operand} {B : Nat} {v : Value} {l : List UInt8} {w0 : World} (d : ByteArray) (hown : OwnB w0 B v l) (hl : l.length + d.size ≤ 1099511627776) (hB : B ≤ w0.heap.size)
    (h : ∀ A' n' c' w', Hid (n' = l.length + d.size) → OwnB w' B (.slice A' n' c') (l ++ d.data.toList) → Below B w0 w' → w0.grownBy w' v.ownBlock → wpList Tryz.prog ops Q rest (a.put o.dst (.slice A' n' c')) w')
    (hgd : o.guard = none := by exact rfl) (ho : o.op = .call { callee := .builtin .append, args := #[s, x], argTypes := #[66, 9] } := by exact rfl)
    (hs : a.eval s = v := by exact rfl) (hx : a.eval x = .string d := by exact rfl) :
    wpList Tryz.prog ops Q (o :: rest) a w0 := by
  obtain ⟨i0, hi, hz0, hz1, hz2⟩ := info_parts byte_info
  refine Lib.wpList_append_own_string _ hgd s x 66 9 ho B 5 i0 Tryz.underlying66 Tryz.underlying9 hi hz0 hz1 hz2 v l.length (bv l) hs hown d hx (by simp only [maxLen]; omega) (by omega) hB ?_
  intro v' w' hown' hg _
  have hlt := World.ownsRow.lt hown
  obtain ⟨A', c', rfl, _, _⟩ := own_slice hown'
  refine h A' _ c' w' rfl ?_ ((Below.refl _ _).grown hg hB (fun k hk => (hlt k hk).1)) hg
  unfold OwnB
  rw [bv_append, List.length_append]
  exact hown'
end
theorem ownB_lit (w : World) (m : UInt8) : OwnB (w.alloc (.cells #[.int .u8 (m.toNat : Int)] 5)) w.heap.size (.slice (some ⟨w.heap.size, 0, none⟩) 1 1) [m] :=
  ⟨rfl, .inr ⟨w.heap.size, 1, _, rfl, Nat.le_refl _, heap_alloc_new w _, Nat.le_refl _, by unfold maxLen; decide, rfl, rfl⟩⟩

/-- What block.Encode gives. -/
def EncAns (l : List (Int × Int × ByteArray)) (e : Ending) : Prop := ∃ S : ByteArray, e = .returned (.tuple #[.string S, .int .i64 (encE l)]) ∧ (encE l ≠ 0 → S = ⟨#[]⟩) ∧ (encE l = 0 → ∃ arr, Sx.Sorted (joinB l) arr ∧ S = ⟨(blk l arr).toArray⟩)

set_option maxHeartbeats 6400000 in
set_option maxRecDepth 100000 in
theorem enc_err (A : Option Addr) (n c : Nat) (l : List (Int × Int × ByteArray)) (w : World) (hrd : Rd w w.heap.size 3 A n (fl3 l)) (hn : n ≤ 100000) (hne : encE l ≠ 0) :
    Calls Tryz.prog 11 #[.slice A n c] w fun e w' => EncAns l e ∧ Below w.heap.size w w' := by
  have mixed : Tryz.prog.follows .mixedOrders = true := by kernel_rfl
  have hln := rd3_len hrd
  by_cases hl : l = []
  · have hE : encE l = 2 := if_pos hl
    have HE := Lib.hid hE
    obtain rfl : n = 0 := by rw [← hln, hl]; rfl
    clear hrd hl hln hE hne
    go_enter Tryz.func11, Tryz.ntmps11
    go_wp2_with fail
    go_ret2
    exact ⟨⟨⟨#[]⟩, by rw [HE.out]; rfl, fun _ => rfl, fun h => absurd (HE.out.symm.trans h) (by decide)⟩, Below.refl _ _⟩
  · have hE : encE l = jE l := if_neg hl
    rw [hE] at hne
    have HE := Lib.hid hE
    have hJ := join_any A n c l w hrd (by omega)
    rw [jS_no hne] at hJ
    have hn0 : 0 < n := by rw [← hln]; exact List.length_pos_iff.2 hl
    have hn1 : ((n : Int) == 0) = false := by rw [beq_eq_false_iff_ne]; omega
    generalize jE l = x at *
    have HJ := Lib.hid hJ
    have hx1 : (x != 0) = true := by rw [bne_iff_ne]; exact hne
    have hx2 : (x == 0) = false := by rw [beq_eq_false_iff_ne]; exact hne
    clear hJ hrd hE hl hln
    go_enter Tryz.func11, Tryz.ntmps11
    go_wp2_with fail
    refine HJ.out.mono ?_
    rintro e1 w1 ⟨rfl, hb1⟩
    have HB := Lib.hid hb1
    clear hb1
    go_wp2_with fail
    go_ret2
    exact ⟨⟨⟨#[]⟩, by rw [HE.out]; rfl, fun _ => rfl, fun h => absurd (HE.out.symm.trans h) hne⟩, HB.out⟩
end Bk
end Go.Proofs.YtpbphhpldlckbaaGreat
namespace Go.Proofs.YtpbphhpldlckbaaGreat
namespace Bk
open Go.RowKit Vi Sq Rd

theorem flat_le : ∀ (l : List Nat), (∀ x ∈ l, x < 9223372036854775808) → (l.flatMap putV).length ≤ 9 * l.length
  | [], _ => by simp
  | n :: l, h => by
    have h1 := length_putV_le n 8 (h n (List.mem_cons_self ..))
    have h2 := flat_le l fun x hx => h x (List.mem_cons_of_mem _ hx)
    rw [List.flatMap_cons, List.length_append, List.length_cons]; omega
/-- The block of the five numbers. -/
def Five (w : World) (b x0 x1 x2 x3 x4 : Nat) : Prop := w.heap[b]? = some (.cells #[.int .i64 (x0 : Int), .int .i64 (x1 : Int), .int .i64 (x2 : Int), .int .i64 (x3 : Int), .int .i64 (x4 : Int)] 3 (0, 0))
theorem Five.cell {w : World} {b x0 x1 x2 x3 x4 k N : Nat} (h : Five w b x0 x1 x2 x3 x4) (hk : [x0, x1, x2, x3, x4][k]? = some N) : w.cell? ⟨b, k, none⟩ = some (.int .i64 (N : Int)) := by
  rw [cell_of_row w b k _ _ (0, 0) h]
  rcases k with _ | _ | _ | _ | _ | k
  all_goals simp at hk
  all_goals subst hk; rfl

set_option maxHeartbeats 6400000 in
set_option maxRecDepth 100000 in
theorem enc_yes (A : Option Addr) (n c : Nat) (l : List (Int × Int × ByteArray)) (w : World) (hrd : Rd w w.heap.size 3 A n (fl3 l)) (hn : n ≤ 100000) (he : encE l = 0) :
    Calls Tryz.prog 11 #[.slice A n c] w fun e w' => EncAns l e ∧ Below w.heap.size w w' := by
  have mixed : Tryz.prog.follows .mixedOrders = true := by kernel_rfl
  have hln := rd3_len hrd
  obtain ⟨hj, hl⟩ := enc_ok he
  have hn0 : 0 < n := by rw [← hln]; exact List.length_pos_iff.2 hl
  obtain ⟨m, rfl⟩ : ∃ m, n = m + 1 := ⟨n - 1, by omega⟩
  have hJ := join_any A (m + 1) c l w hrd (by omega)
  rw [jS_ok hj, hj] at hJ
  obtain ⟨raw, hraw⟩ : ∃ raw : ByteArray, raw = ⟨(joinB l).toArray⟩ := ⟨_, rfl⟩
  rw [← hraw] at hJ
  have hr1 : raw.data.toList = joinB l := by rw [hraw]
  have hr2 : raw.size = (joinB l).length := by rw [hraw]; simp [ByteArray.size]
  have hr3 : raw.size ≤ 20000 := by rw [hr2]; exact (jE_row hj).2
  have HJ := Lib.hid hJ
  have hP := fun w => pack_un raw w hr3
  rw [hr1] at hP
  have HP := Lib.hid hP
  have HE := Lib.hid he
  have HR := Lib.hid hrd
  have hn1 : (((m : Nat) : Int) + 1 == 0) = false := by rw [beq_eq_false_iff_ne]; omega
  have hn2 : (((m + 1 : Nat) : Int) == 0) = false := by rw [beq_eq_false_iff_ne]; omega
  obtain ⟨e1, e2, e3, e4, e5, e6⟩ := ends hj hl
  obtain ⟨ad, q0, t0, d0, rfl, hbk, hx0, hc00, hc01, -⟩ := rec3 hrd (show 0 < m + 1 by omega)
  obtain ⟨ad', q1, t1, d1, hA', -, hx1, hc10, hc11, hc12⟩ := rec3 hrd (show m < m + 1 by omega)
  obtain rfl : ad = ad' := by simpa using hA'
  have ha0 : at3 l 0 = (q0, t0, d0) := Option.some.inj ((at3_get l 0 (by omega)).symm.trans hx0)
  have ha1 : at3 l (l.length - 1) = (q1, t1, d1) := Option.some.inj ((at3_get l (l.length - 1) (by omega)).symm.trans (by rw [hln]; exact hx1))
  rw [ha0, ha1] at e4
  rw [ha0] at e1 e2 e3
  rw [ha1] at e5
  simp only at e1 e2 e3 e4 e5
  obtain ⟨Q, rfl⟩ := Int.eq_ofNat_of_zero_le (show 0 ≤ q0 by omega)
  obtain ⟨T, rfl⟩ := Int.eq_ofNat_of_zero_le (show 0 ≤ t0 by omega)
  obtain ⟨D, hD⟩ := Int.eq_ofNat_of_zero_le (show 0 ≤ t1 - (T : Int) by omega)
  have h5 : hd5 l = [raw.size, m + 1, Q, T, D] := by unfold hd5; rw [ha0, ha1, hr2, hln]; simp only; rw [hD]; simp
  have H5 := Lib.hid h5
  have HRR := Lib.hid (And.intro hr1 hr2)
  have hz : ad.add (0 * 3) = ad := by rw [Nat.zero_mul]; rfl
  rw [hz] at hc00 hc01
  have hlq : l.length = m + 1 := hln
  rw [hlq] at e2
  have HC := Lib.hid (And.intro hc00 (And.intro hc01 (And.intro hc10 (And.intro hc11 hc12))))
  clear hJ hP he hraw hr1 hr2 hx0 hx1 hA' ha0 ha1 h5 hz hlq hj hl hrd hc00 hc01 hc10 hc11 hc12 hln
  go_enter Tryz.func11, Tryz.ntmps11
  go_wp2_with fail
  refine HJ.out.mono ?_
  rintro e1 w1 ⟨rfl, hb1⟩
  have HB1 := Lib.hid hb1
  clear hb1 HJ
  go_wp2_with fail
  refine (HP.out _).mono ?_
  rintro e2 w2 ⟨sh, arr, hso, hsh, hshz, rfl, hb2⟩
  have HB2 := Lib.hid (ext_trans HB1.out hb2)
  have hcl : ∀ p : Addr, p.block < w.heap.size → w2.cell? p = w.cell? p := fun p hp => HB2.out.cell hp
  have c00 := (hcl ad hbk).trans HC.out.1
  have c01 := (hcl ⟨ad.block, ad.off + 1, none⟩ hbk).trans HC.out.2.1
  have c10 := (hcl (ad.add (m * 3)) (by rw [add_block]; exact hbk)).trans HC.out.2.2.1
  have c11 := (hcl ⟨(ad.add (m * 3)).block, (ad.add (m * 3)).off + 1, none⟩ (by rw [add_block]; exact hbk)).trans HC.out.2.2.2.1
  have c12 := (hcl ⟨(ad.add (m * 3)).block, (ad.add (m * 3)).off + 2, none⟩ (by rw [add_block]; exact hbk)).trans HC.out.2.2.2.2
  have hbk2 : ad.block < w2.heap.size := by have := HB2.out.size; omega
  have HSO := Lib.hid hso
  have hsl : sh.size = (packed (joinB l) arr).length := by rw [hsh]; simp [ByteArray.size]
  have hip : isP l arr = decide (sh.size < raw.size) := by unfold isP; rw [hsl, HRR.out.2]
  have HIP := Lib.hid hip
  have HSH := Lib.hid hsh
  clear hso hsh hip hsl hb2 HP hcl HR
  by_cases hlt : sh.size < raw.size
  · have hlt2 : (sh.size : Int) < (raw.size : Int) := by omega
    go_wp2_with fail
    have hown : OwnB ((w2.alloc (.cells #[.int .i64 q1, .int .i64 t1, .string d1] 40)).alloc (.cells #[.int .u8 1] 5)) (w2.heap.size + 1) (.slice (some ⟨w2.heap.size + 1, 0, none⟩) 1 1) [1] := by
      have := ownB_lit (w2.alloc (.cells #[.int .i64 q1, .int .i64 t1, .string d1] 40)) 1
      rwa [show (w2.alloc (.cells #[.int .i64 q1, .int .i64 t1, .string d1] 40)).heap.size = w2.heap.size + 1 by simp] at this
    have hbw : Below w2.heap.size w2 ((w2.alloc (.cells #[.int .i64 q1, .int .i64 t1, .string d1] 40)).alloc (.cells #[.int .u8 1] 5)) := ((Below.refl _ _).alloc (Nat.le_refl _) _).alloc (by simp) _
    have hl1 : ((w2.alloc (.cells #[.int .i64 q1, .int .i64 t1, .string d1] 40)).alloc (.cells #[.int .u8 1] 5)).cell? ⟨w2.heap.size, 1, none⟩ = some (.int .i64 t1) :=
      (World.cell?_alloc_lt _ _ ⟨w2.heap.size, 1, none⟩ (by simp)).trans (by rw [World.cell?_alloc_new]; rfl)
    have hsz5 : ((w2.alloc (.cells #[.int .i64 q1, .int .i64 t1, .string d1] 40)).alloc (.cells #[.int .u8 1] 5)).heap.size = w2.heap.size + 2 := by simp
    generalize (w2.alloc (.cells #[.int .i64 q1, .int .i64 t1, .string d1] 40)).alloc (.cells #[.int .u8 1] 5) = w5 at *
    have f00 := (hbw.cell (p := ad) hbk2).trans c00
    have f01 := (hbw.cell (p := ⟨ad.block, ad.off + 1, none⟩) hbk2).trans c01
    have i1 : (0 : Int) < (m : Int) + 1 := by omega
    have i2 : IntKind.i64.wrap (t1 - (T : Int)) = (D : Int) := by rw [IntKind.wrap_i64]; omega
    have HO := Lib.hid (And.intro hown hbw)
    have hDlt : D ≤ 1000000000 := by omega
    have HDD := Lib.hid hD
    have HSZ := Lib.hid hsz5
    clear c00 c01 c10 c11 c12 hown hbw hD hsz5
    go_region
    all_goals
      have hfive : Five (w5.alloc (.cells #[.int .i64 (raw.size : Int), .int .i64 ((m : Int) + 1), .int .i64 (Q : Int), .int .i64 (T : Int), .int .i64 (D : Int)] 3)) w5.heap.size raw.size (m + 1) Q T D := by
        have := heap_alloc_new w5 (.cells #[.int .i64 (raw.size : Int), .int .i64 ((m : Int) + 1), .int .i64 (Q : Int), .int .i64 (T : Int), .int .i64 (D : Int)] 3)
        unfold Five
        exact this
      have hsz5 := HSZ.out
      have hb6 := HO.out.2.alloc (o := (.cells #[.int .i64 (raw.size : Int), .int .i64 ((m : Int) + 1), .int .i64 (Q : Int), .int .i64 (T : Int), .int .i64 (D : Int)] 3)) (by omega)
      have ho6 : OwnB (w5.alloc (.cells #[.int .i64 (raw.size : Int), .int .i64 ((m : Int) + 1), .int .i64 (Q : Int), .int .i64 (T : Int), .int .i64 (D : Int)] 3)) (w2.heap.size + 1) (.slice (some ⟨w2.heap.size + 1, 0, none⟩) 1 1) [1] := HO.out.1.below (ext_alloc _ _) (Nat.le_refl _)
      have HX0 := Lib.hid (And.intro hfive (And.intro ho6 hb6))
      have hs6 : w2.heap.size + 1 ≤ (w5.alloc (.cells #[.int .i64 (raw.size : Int), .int .i64 ((m : Int) + 1), .int .i64 (Q : Int), .int .i64 (T : Int), .int .i64 (D : Int)] 3)).heap.size := by simp; omega
      clear hfive hb6 ho6 HO f00 f01 hl1
      generalize w5.alloc (.cells #[.int .i64 (raw.size : Int), .int .i64 ((m : Int) + 1), .int .i64 (Q : Int), .int .i64 (T : Int), .int .i64 (D : Int)] 3) = w6 at *
      clear hsz5
      generalize w5.heap.size = F at *
      have HL5 := Lib.hid (show ∀ x ∈ [raw.size, m + 1, Q, T, D], x < 9223372036854775808 by intro x hx; simp at hx; omega)
      clear e1 e2 e3 e4 e5 e6 hDlt
      go_wp2_with fail
      go_loopw [10, 71] (fun v a wr => ∃ (k : Nat) (v0 : Value), v0 = v ∧ a = .int .i64 (k : Int) ∧ k ≤ 5 ∧ Hid (Five wr F raw.size (m + 1) Q T D ∧ OwnB wr (w2.heap.size + 1) v0 (1 :: ([raw.size, m + 1, Q, T, D].take k).flatMap putV) ∧ Below w2.heap.size w2 wr ∧ w2.heap.size + 1 ≤ wr.heap.size)) (fun _ a _ => 5 - (intOf a).toNat)
      case atStart => exact ⟨0, _, rfl, rfl, by omega, HX0.out.1, HX0.out.2.1, below_drewN (n := 1) HX0.out.2.2, hs6⟩
      case round =>
        obtain ⟨k, v, hv, rfl, hk, HX⟩ := hrel
        subst hv
        by_cases hk5 : k < 5
        · obtain ⟨N, hN⟩ : ∃ N, [raw.size, m + 1, Q, T, D][k]? = some N := ⟨_, List.getElem?_eq_getElem (by simpa using hk5)⟩
          have hlt5 := HL5.out
          have hP := put_any N wr (hlt5 _ (List.mem_of_getElem? hN))
          have hflat := flat_le ([raw.size, m + 1, Q, T, D].take k) (fun x hx => hlt5 x (List.mem_of_mem_take hx))
          have htk : ([raw.size, m + 1, Q, T, D].take (k + 1)).flatMap putV = ([raw.size, m + 1, Q, T, D].take k).flatMap putV ++ putV N := by
            rw [List.take_add_one, hN]; simp
          have hNl := length_putV_le N 8 (hlt5 _ (List.mem_of_getElem? hN))
          have hll : ([raw.size, m + 1, Q, T, D].take k).length ≤ 5 := by rw [List.length_take]; simp; omega
          have hcell := HX.out.1.cell hN
          have HTK := Lib.hid htk
          have HP := Lib.hid hP
          have hacc : (1 :: ([raw.size, m + 1, Q, T, D].take k).flatMap putV).length + (vtxt N).size ≤ 1099511627776 := by rw [vtxt_size, List.length_cons]; omega
          have HAC := Lib.hid hacc
          clear hlt5 hP hflat htk hNl hll hacc hN
          have i9 : (k : Int) < 5 := by omega
          go_wp2_with fail
          refine HP.out.mono ?_
          rintro e3 w7 ⟨rfl, hb7⟩
          have ho7 : OwnB w7 (w2.heap.size + 1) v (1 :: ([raw.size, m + 1, Q, T, D].take k).flatMap putV) := HX.out.2.1.below hb7 (Nat.le_refl _)
          have hf7 : Five w7 F raw.size (m + 1) Q T D := (hb7.block _ (Array.getElem?_eq_some_iff.1 HX.out.1).1).trans HX.out.1
          have hs7 : w2.heap.size + 1 ≤ w7.heap.size := by have := hb7.size; have := HX.out.2.2.2; omega
          have hb77 : Below w2.heap.size w2 w7 := HX.out.2.2.1.trans (hb7.mono (by have := HX.out.2.2.2; omega))
          have HX7 := Lib.hid (And.intro hf7 (And.intro ho7 (And.intro hs7 hb77)))
          clear hb7 ho7 hf7 hs7 hb77 HX hcell HP
          go_wp2_with (at_builtin; refine appendS (vtxt N) HX7.out.2.1 HAC.out HX7.out.2.2.1 ?_; intro A1 n1 c1 w8 hn1 hown8 hb8 hg8)
          have hne : v.ownBlock ≠ some F := Lib.ownBlock_ne HX7.out.2.1 HX7.out.1 (by decide)
          have hf8 : Five w8 F raw.size (m + 1) Q T D := (hg8.block _ (Array.getElem?_eq_some_iff.1 HX7.out.1).1 (fun e => hne e.symm)).trans HX7.out.1
          rw [vtxt_list] at hown8
          exact ⟨⟨k + 1, _, rfl, by go_num, by omega, hf8, by rw [HTK.out]; exact hown8, HX7.out.2.2.2.trans (hb8.mono (by omega)), by have := hb8.size; have := HX7.out.2.2.1; omega⟩, by simp [intOf]; omega⟩
        · obtain rfl : k = 5 := by omega
          have hflat := flat_le [raw.size, m + 1, Q, T, D] HL5.out
          have HO := Lib.hid (show OwnB wr (w2.heap.size + 1) v (1 :: (hd5 l).flatMap putV) by rw [H5.out]; exact HX.out.2.1)
          have hacc : (1 :: (hd5 l).flatMap putV).length + sh.size ≤ 1099511627776 := by rw [List.length_cons, H5.out]; simp only [List.length_cons, List.length_nil] at hflat; omega
          have HAC := Lib.hid hacc
          have HB := Lib.hid (And.intro HX.out.2.2.1 HX.out.2.2.2)
          clear hflat hacc HX
          go_wp2_with (at_builtin; refine appendS sh HO.out HAC.out HB.out.2 ?_; intro A1 n1 c1 w8 hn1 hown8 hb8 hg8)
          obtain ⟨A', c', hv', hc1, hc2, hrd8⟩ := hown8.rd
          cases hv'
          have hstr := run_str (c := c1) hrd8
          obtain ⟨S, hS⟩ : ∃ S : ByteArray, S = ⟨((1 :: (hd5 l).flatMap putV) ++ sh.data.toList).toArray⟩ := ⟨_, rfl⟩
          have hblk : S = ⟨(blk l arr).toArray⟩ := by
            rw [hS]
            unfold blk mode body
            rw [if_pos (by rw [HIP.out]; simpa using hlt), if_pos (by rw [HIP.out]; simpa using hlt), HSH.out]
            rfl
          have HBK := Lib.hid hblk
          have HB8 := Lib.hid (HB2.out.trans ((HB.out.1.trans (hb8.mono (by omega))).mono HB2.out.size))
          rw [hstr, ← hS]
          clear hstr hS hblk hown8 hb8 hg8 hrd8 hc1 hc2
          go_wp2_with fail
          go_ret2
          exact ⟨⟨S, by rw [HE.out]; rfl, fun h => absurd HE.out h, fun _ => ⟨arr, HSO.out, HBK.out⟩⟩, HB8.out⟩
  · have hlt2 : ¬ (sh.size : Int) < (raw.size : Int) := by omega
    go_wp2_with fail
    have hown : OwnB ((w2.alloc (.cells #[.int .i64 q1, .int .i64 t1, .string d1] 40)).alloc (.cells #[.int .u8 0] 5)) (w2.heap.size + 1) (.slice (some ⟨w2.heap.size + 1, 0, none⟩) 1 1) [0] := by
      have := ownB_lit (w2.alloc (.cells #[.int .i64 q1, .int .i64 t1, .string d1] 40)) 0
      rwa [show (w2.alloc (.cells #[.int .i64 q1, .int .i64 t1, .string d1] 40)).heap.size = w2.heap.size + 1 by simp] at this
    have hbw : Below w2.heap.size w2 ((w2.alloc (.cells #[.int .i64 q1, .int .i64 t1, .string d1] 40)).alloc (.cells #[.int .u8 0] 5)) := ((Below.refl _ _).alloc (Nat.le_refl _) _).alloc (by simp) _
    have hl1 : ((w2.alloc (.cells #[.int .i64 q1, .int .i64 t1, .string d1] 40)).alloc (.cells #[.int .u8 0] 5)).cell? ⟨w2.heap.size, 1, none⟩ = some (.int .i64 t1) :=
      (World.cell?_alloc_lt _ _ ⟨w2.heap.size, 1, none⟩ (by simp)).trans (by rw [World.cell?_alloc_new]; rfl)
    have hsz5 : ((w2.alloc (.cells #[.int .i64 q1, .int .i64 t1, .string d1] 40)).alloc (.cells #[.int .u8 0] 5)).heap.size = w2.heap.size + 2 := by simp
    generalize (w2.alloc (.cells #[.int .i64 q1, .int .i64 t1, .string d1] 40)).alloc (.cells #[.int .u8 0] 5) = w5 at *
    have f00 := (hbw.cell (p := ad) hbk2).trans c00
    have f01 := (hbw.cell (p := ⟨ad.block, ad.off + 1, none⟩) hbk2).trans c01
    have i1 : (0 : Int) < (m : Int) + 1 := by omega
    have i2 : IntKind.i64.wrap (t1 - (T : Int)) = (D : Int) := by rw [IntKind.wrap_i64]; omega
    have HO := Lib.hid (And.intro hown hbw)
    have hDlt : D ≤ 1000000000 := by omega
    have HDD := Lib.hid hD
    have HSZ := Lib.hid hsz5
    clear c00 c01 c10 c11 c12 hown hbw hD hsz5
    go_region
    all_goals
      have hfive : Five (w5.alloc (.cells #[.int .i64 (raw.size : Int), .int .i64 ((m : Int) + 1), .int .i64 (Q : Int), .int .i64 (T : Int), .int .i64 (D : Int)] 3)) w5.heap.size raw.size (m + 1) Q T D := by
        have := heap_alloc_new w5 (.cells #[.int .i64 (raw.size : Int), .int .i64 ((m : Int) + 1), .int .i64 (Q : Int), .int .i64 (T : Int), .int .i64 (D : Int)] 3)
        unfold Five
        exact this
      have hsz5 := HSZ.out
      have hb6 := HO.out.2.alloc (o := (.cells #[.int .i64 (raw.size : Int), .int .i64 ((m : Int) + 1), .int .i64 (Q : Int), .int .i64 (T : Int), .int .i64 (D : Int)] 3)) (by omega)
      have ho6 : OwnB (w5.alloc (.cells #[.int .i64 (raw.size : Int), .int .i64 ((m : Int) + 1), .int .i64 (Q : Int), .int .i64 (T : Int), .int .i64 (D : Int)] 3)) (w2.heap.size + 1) (.slice (some ⟨w2.heap.size + 1, 0, none⟩) 1 1) [0] := HO.out.1.below (ext_alloc _ _) (Nat.le_refl _)
      have HX0 := Lib.hid (And.intro hfive (And.intro ho6 hb6))
      have hs6 : w2.heap.size + 1 ≤ (w5.alloc (.cells #[.int .i64 (raw.size : Int), .int .i64 ((m : Int) + 1), .int .i64 (Q : Int), .int .i64 (T : Int), .int .i64 (D : Int)] 3)).heap.size := by simp; omega
      clear hfive hb6 ho6 HO f00 f01 hl1
      generalize w5.alloc (.cells #[.int .i64 (raw.size : Int), .int .i64 ((m : Int) + 1), .int .i64 (Q : Int), .int .i64 (T : Int), .int .i64 (D : Int)] 3) = w6 at *
      clear hsz5
      generalize w5.heap.size = F at *
      have HL5 := Lib.hid (show ∀ x ∈ [raw.size, m + 1, Q, T, D], x < 9223372036854775808 by intro x hx; simp at hx; omega)
      clear e1 e2 e3 e4 e5 e6 hDlt
      go_wp2_with fail
      go_loopw [10, 71] (fun v a wr => ∃ (k : Nat) (v0 : Value), v0 = v ∧ a = .int .i64 (k : Int) ∧ k ≤ 5 ∧ Hid (Five wr F raw.size (m + 1) Q T D ∧ OwnB wr (w2.heap.size + 1) v0 (0 :: ([raw.size, m + 1, Q, T, D].take k).flatMap putV) ∧ Below w2.heap.size w2 wr ∧ w2.heap.size + 1 ≤ wr.heap.size)) (fun _ a _ => 5 - (intOf a).toNat)
      case atStart => exact ⟨0, _, rfl, rfl, by omega, HX0.out.1, HX0.out.2.1, below_drewN (n := 1) HX0.out.2.2, hs6⟩
      case round =>
        obtain ⟨k, v, hv, rfl, hk, HX⟩ := hrel
        subst hv
        by_cases hk5 : k < 5
        · obtain ⟨N, hN⟩ : ∃ N, [raw.size, m + 1, Q, T, D][k]? = some N := ⟨_, List.getElem?_eq_getElem (by simpa using hk5)⟩
          have hlt5 := HL5.out
          have hP := put_any N wr (hlt5 _ (List.mem_of_getElem? hN))
          have hflat := flat_le ([raw.size, m + 1, Q, T, D].take k) (fun x hx => hlt5 x (List.mem_of_mem_take hx))
          have htk : ([raw.size, m + 1, Q, T, D].take (k + 1)).flatMap putV = ([raw.size, m + 1, Q, T, D].take k).flatMap putV ++ putV N := by
            rw [List.take_add_one, hN]; simp
          have hNl := length_putV_le N 8 (hlt5 _ (List.mem_of_getElem? hN))
          have hll : ([raw.size, m + 1, Q, T, D].take k).length ≤ 5 := by rw [List.length_take]; simp; omega
          have hcell := HX.out.1.cell hN
          have HTK := Lib.hid htk
          have HP := Lib.hid hP
          have hacc : (0 :: ([raw.size, m + 1, Q, T, D].take k).flatMap putV).length + (vtxt N).size ≤ 1099511627776 := by rw [vtxt_size, List.length_cons]; omega
          have HAC := Lib.hid hacc
          clear hlt5 hP hflat htk hNl hll hacc hN
          have i9 : (k : Int) < 5 := by omega
          go_wp2_with fail
          refine HP.out.mono ?_
          rintro e3 w7 ⟨rfl, hb7⟩
          have ho7 : OwnB w7 (w2.heap.size + 1) v (0 :: ([raw.size, m + 1, Q, T, D].take k).flatMap putV) := HX.out.2.1.below hb7 (Nat.le_refl _)
          have hf7 : Five w7 F raw.size (m + 1) Q T D := (hb7.block _ (Array.getElem?_eq_some_iff.1 HX.out.1).1).trans HX.out.1
          have hs7 : w2.heap.size + 1 ≤ w7.heap.size := by have := hb7.size; have := HX.out.2.2.2; omega
          have hb77 : Below w2.heap.size w2 w7 := HX.out.2.2.1.trans (hb7.mono (by have := HX.out.2.2.2; omega))
          have HX7 := Lib.hid (And.intro hf7 (And.intro ho7 (And.intro hs7 hb77)))
          clear hb7 ho7 hf7 hs7 hb77 HX hcell HP
          go_wp2_with (at_builtin; refine appendS (vtxt N) HX7.out.2.1 HAC.out HX7.out.2.2.1 ?_; intro A1 n1 c1 w8 hn1 hown8 hb8 hg8)
          have hne : v.ownBlock ≠ some F := Lib.ownBlock_ne HX7.out.2.1 HX7.out.1 (by decide)
          have hf8 : Five w8 F raw.size (m + 1) Q T D := (hg8.block _ (Array.getElem?_eq_some_iff.1 HX7.out.1).1 (fun e => hne e.symm)).trans HX7.out.1
          rw [vtxt_list] at hown8
          exact ⟨⟨k + 1, _, rfl, by go_num, by omega, hf8, by rw [HTK.out]; exact hown8, HX7.out.2.2.2.trans (hb8.mono (by omega)), by have := hb8.size; have := HX7.out.2.2.1; omega⟩, by simp [intOf]; omega⟩
        · obtain rfl : k = 5 := by omega
          have hflat := flat_le [raw.size, m + 1, Q, T, D] HL5.out
          have HO := Lib.hid (show OwnB wr (w2.heap.size + 1) v (0 :: (hd5 l).flatMap putV) by rw [H5.out]; exact HX.out.2.1)
          have hacc : (0 :: (hd5 l).flatMap putV).length + raw.size ≤ 1099511627776 := by rw [List.length_cons, H5.out]; simp only [List.length_cons, List.length_nil] at hflat; omega
          have HAC := Lib.hid hacc
          have HB := Lib.hid (And.intro HX.out.2.2.1 HX.out.2.2.2)
          clear hflat hacc HX
          go_wp2_with (at_builtin; refine appendS raw HO.out HAC.out HB.out.2 ?_; intro A1 n1 c1 w8 hn1 hown8 hb8 hg8)
          obtain ⟨A', c', hv', hc1, hc2, hrd8⟩ := hown8.rd
          cases hv'
          have hstr := run_str (c := c1) hrd8
          obtain ⟨S, hS⟩ : ∃ S : ByteArray, S = ⟨((0 :: (hd5 l).flatMap putV) ++ raw.data.toList).toArray⟩ := ⟨_, rfl⟩
          have hblk : S = ⟨(blk l arr).toArray⟩ := by
            rw [hS]
            unfold blk mode body
            rw [if_neg (by rw [HIP.out]; simpa using hlt), if_neg (by rw [HIP.out]; simpa using hlt), HRR.out.1]
            rfl
          have HBK := Lib.hid hblk
          have HB8 := Lib.hid (HB2.out.trans ((HB.out.1.trans (hb8.mono (by omega))).mono HB2.out.size))
          rw [hstr, ← hS]
          clear hstr hS hblk hown8 hb8 hg8 hrd8 hc1 hc2
          go_wp2_with fail
          go_ret2
          exact ⟨⟨S, by rw [HE.out]; rfl, fun h => absurd HE.out h, fun _ => ⟨arr, HSO.out, HBK.out⟩⟩, HB8.out⟩
theorem enc_any (A : Option Addr) (n c : Nat) (l : List (Int × Int × ByteArray)) (w : World) (hrd : Rd w w.heap.size 3 A n (fl3 l)) (hn : n ≤ 100000) :
    Calls Tryz.prog 11 #[.slice A n c] w fun e w' => EncAns l e ∧ Below w.heap.size w w' := by
  by_cases he : encE l = 0
  · exact enc_yes A n c l w hrd hn he
  · exact enc_err A n c l w hrd hn he
end Bk
end Go.Proofs.YtpbphhpldlckbaaGreat
namespace Go.Proofs.YtpbphhpldlckbaaGreat
namespace Bt
theorem bl_le {n k : Nat} (h : n < 2 ^ k) : bl n ≤ k := by
  rcases Nat.eq_zero_or_pos n with rfl | hn
  · simp [bl]
  · obtain ⟨h1, -, h3⟩ := bl_spec n hn
    have h4 : 2 ^ (bl n - 1) < 2 ^ k := by omega
    have := (Nat.pow_lt_pow_iff_right (by omega)).1 h4
    omega
theorem bl_add (a b : Nat) : bl (a + b) ≤ bl a + bl b + 1 := by
  rcases Nat.eq_zero_or_pos a with rfl | ha
  · rw [Nat.zero_add]; omega
  rcases Nat.eq_zero_or_pos b with rfl | hb
  · rw [Nat.add_zero]; omega
  obtain ⟨-, h1, -⟩ := bl_spec a ha
  obtain ⟨-, h2, -⟩ := bl_spec b hb
  refine bl_le ?_
  have e1 : 2 ^ bl a ≤ 2 ^ (bl a + bl b) := Nat.pow_le_pow_right (by omega) (by omega)
  have e2 : 2 ^ bl b ≤ 2 ^ (bl a + bl b) := Nat.pow_le_pow_right (by omega) (by omega)
  rw [Nat.pow_succ]; omega
end Bt
namespace Tb
def gl (m : Nat) : Nat := if m = 0 then 0 else 3 + 2 * Bt.bl m
theorem tb_len : ∀ (R : List (Int × Int)) (last : Int), Good last R → gl (flat R).length ≤ (tb R).length
  | [], _, _ => by simp [gl, flat]
  | x :: R, last, h => by
    have ih := tb_len R x.1 h.2.2.2.2
    have hx := h.2.2.2.1
    have e : tb (x :: R) = (Bt.toB 4 x.1.toNat ++ Bt.gam x.2.toNat) ++ tb R := rfl
    have e2 : (flat (x :: R)).length = x.2.toNat + (flat R).length := by
      show (List.replicate x.2.toNat x.1 ++ flat R).length = _
      simp
    rw [e, e2, List.length_append, List.length_append, Bt.length_toB, Bt.length_gam _ (by omega)]
    have h1 := (Bt.bl_spec x.2.toNat (by omega)).2.2
    have h2 := Bt.bl_add x.2.toNat (flat R).length
    unfold gl at *
    rw [if_neg (by omega)]
    split at ih
    · rename_i h0
      rw [h0, Nat.add_zero]; omega
    · omega
end Tb
namespace Hf
theorem hb_big (syms : List Int) : 21 ≤ (hb syms).length := by
  have hg := Tb.runs_good (lns syms) (lns_good syms).rng
  have h1 := Tb.tb_len _ _ hg.1
  rw [hg.2, length_lns] at h1
  have h2 : Tb.gl 257 = 21 := by decide +kernel
  unfold hb
  rw [List.length_append]
  omega
end Hf
namespace Bk
open Vi Sq Rd

/-- A short text is never packed. -/
theorem packed_big (s : List UInt8) (A : List Nat) : 6 ≤ (packed s A).length := by
  have h3 := Hf.hb_big (sy s A)
  have h4 := Bt.length_byt (Hf.hb (sy s A))
  have := length_putV_pos s.length
  have := length_putV_pos (Bw.pri A)
  have := length_putV_pos (sy s A).length
  have : Hf.hbyt (sy s A) = Bt.byt (Hf.hb (sy s A)) := rfl
  unfold packed; simp only [List.length_append, this]; omega
theorem isP_short {l : List (Int × Int × ByteArray)} (A : List Nat) (h : (joinB l).length ≤ 6) : isP l A = false := by
  have := packed_big (joinB l) A
  unfold isP; rw [decide_eq_false_iff_not]; omega

/-- The probe's record. -/
def hi : ByteArray := ⟨#[104, 105]⟩
def l0 : List (Int × Int × ByteArray) := [(1, 300, hi)]
def b0 : ByteArray := ⟨#[0, 6, 1, 1, 172, 2, 0, 1, 172, 2, 2, 104, 105]⟩
theorem put1 : putV 1 = [1] := by rw [putV_small (by omega)]; rfl
theorem put2 : putV 2 = [2] := by rw [putV_small (by omega)]; rfl
theorem put0 : putV 0 = [0] := by rw [putV_small (by omega)]; rfl
theorem put6 : putV 6 = [6] := by rw [putV_small (by omega)]; rfl
theorem put300 : putV 300 = [172, 2] := by rw [putV_step (by omega), show 300 / 128 = 2 from rfl, put2]; rfl
theorem joinB_l0 : joinB l0 = [1, 172, 2, 2, 104, 105] := by
  show recB (1, 300, hi) ++ [] = _
  unfold recB
  show (putV 1 ++ (putV 300 ++ (putV 2 ++ [104, 105]))) ++ [] = _
  rw [put1, put300, put2]; rfl
theorem row_l0 : rowE none l0 = 0 := by decide
theorem jE_l0 : jE l0 = 0 := by
  unfold jE
  rw [if_neg (by rw [row_l0]; decide), if_neg (by rw [joinB_l0]; decide)]
theorem encE_l0 : encE l0 = 0 := by unfold encE; rw [if_neg (by decide)]; exact jE_l0
theorem blk_l0 (A : List Nat) : blk l0 A = b0.data.toList := by
  have h1 : isP l0 A = false := isP_short A (by rw [joinB_l0]; decide)
  have h2 : (joinB l0).length = 6 := by rw [joinB_l0]; rfl
  have h3 : hd5 l0 = [6, 1, 1, 300, 0] := by unfold hd5; rw [h2]; rfl
  unfold blk mode body
  rw [if_neg (by rw [h1]; decide), if_neg (by rw [h1]; decide), h3, joinB_l0]
  show _ :: ((putV 6 ++ (putV 1 ++ (putV 1 ++ (putV 300 ++ (putV 0 ++ []))))) ++ _) = _
  rw [put6, put1, put300, put0]; rfl
theorem sorted_l0 : Sx.Sorted (joinB l0) [6, 0, 2, 3, 4, 5, 1] := by rw [joinB_l0]; exact ⟨by decide, by decide⟩
theorem dec_b0 : dec b0.data.toList = some l0 := by
  have := dec_blk jE_l0 (by decide) sorted_l0
  rwa [blk_l0] at this
theorem peek_b0 : ∃ r, peekB b0.data.toList = some (0, 6, 1, 1, 300, 300, r) := by
  have := peek_blk [6, 0, 2, 3, 4, 5, 1] jE_l0 (by decide)
  rw [blk_l0] at this
  have h1 : isP l0 [6, 0, 2, 3, 4, 5, 1] = false := isP_short _ (by rw [joinB_l0]; decide)
  have h2 : mode l0 [6, 0, 2, 3, 4, 5, 1] = 0 := by unfold mode; rw [h1]; rfl
  rw [h2, joinB_l0] at this
  exact ⟨_, this⟩
theorem encE_l0l0 : encE (l0 ++ l0) = 151 := by
  unfold encE jE
  rw [if_neg (by decide)]
  have : rowE none (l0 ++ l0) = 151 := by decide
  rw [this]; rfl

/-! Parts of a row. -/
theorem row_take : ∀ (l : List (Int × Int × ByteArray)) (p : Option (Int × Int × ByteArray)) (k : Nat), rowE p l = 0 → rowE p (l.take k) = 0
  | [], _, k, _ => by rw [List.take_nil]; rfl
  | x :: l, p, 0, _ => rfl
  | x :: l, p, k + 1, h => by
    rw [List.take_succ_cons]
    rw [rowE] at h ⊢
    split at h; · simp at h
    split at h; · simp at h
    rename_i h1 h2
    rw [if_neg h1, if_neg h2]
    exact row_take l (some x) k h
theorem row_none : ∀ (l : List (Int × Int × ByteArray)) (p : Option (Int × Int × ByteArray)), rowE p l = 0 → rowE none l = 0
  | [], _, _ => rfl
  | x :: l, p, h => by
    rw [rowE] at h ⊢
    split at h; · simp at h
    split at h; · simp at h
    rename_i h1 h2
    rw [if_neg h1, if_neg (by simp [off])]
    exact h
theorem row_drop : ∀ (l : List (Int × Int × ByteArray)) (p : Option (Int × Int × ByteArray)) (k : Nat), rowE p l = 0 → rowE none (l.drop k) = 0
  | l, p, 0, h => row_none l p h
  | [], _, k + 1, _ => rfl
  | x :: l, p, k + 1, h => by
    rw [List.drop_succ_cons]
    rw [rowE] at h
    split at h; · simp at h
    split at h; · simp at h
    exact row_drop l (some x) k h
theorem jE_of_row {l : List (Int × Int × ByteArray)} (h : rowE none l = 0) : jE l = if 20000 < (joinB l).length then 3 else 0 := by unfold jE; rw [if_neg (by simp [h])]
theorem jE_cases {l : List (Int × Int × ByteArray)} (h : rowE none l = 0) : (20000 < (joinB l).length ∧ jE l = 3) ∨ ((joinB l).length ≤ 20000 ∧ jE l = 0) := by
  rw [jE_of_row h]
  split
  · exact .inl ⟨by assumption, rfl⟩
  · exact .inr ⟨by omega, rfl⟩
theorem joinB_cat (a b : List (Int × Int × ByteArray)) : (joinB (a ++ b)).length = (joinB a).length + (joinB b).length := by
  have : joinB (a ++ b) = joinB a ++ joinB b := List.flatMap_append ..
  rw [this, List.length_append]
/-- Where a part's block is none, the whole's is none, for the same reason. -/
theorem enc_part {l : List (Int × Int × ByteArray)} {k : Nat} (h : rowE none l = 0) (hk : 0 < k) (hkl : k < l.length) (hp : encE (l.take k) ≠ 0 ∨ encE (l.drop k) ≠ 0) : encE l = 3 := by
  have hn : l ≠ [] := by rintro rfl; simp at hkl
  have hn1 : l.take k ≠ [] := by intro e; have := congrArg List.length e; rw [List.length_take, List.length_nil] at this; omega
  have hn2 : l.drop k ≠ [] := by intro e; have := congrArg List.length e; rw [List.length_drop, List.length_nil] at this; omega
  have hj := joinB_cat (l.take k) (l.drop k)
  rw [List.take_append_drop] at hj
  unfold encE at *
  rw [if_neg hn]
  rw [if_neg hn1, if_neg hn2] at hp
  rcases jE_cases h with ⟨h1, h2⟩ | ⟨h1, h2⟩
  · exact h2
  · exfalso
    rcases jE_cases (row_take l none k h) with ⟨a1, a2⟩ | ⟨a1, a2⟩
    · omega
    rcases jE_cases (row_drop l none k h) with ⟨b1, b2⟩ | ⟨b1, b2⟩
    · omega
    rcases hp with hp | hp
    · exact hp a2
    · exact hp b2
theorem enc_row {l : List (Int × Int × ByteArray)} (h : rowE none l = 0) (hn : l ≠ []) : encE l = 0 ∨ encE l = 3 := by
  unfold encE
  rw [if_neg hn]
  rcases jE_cases h with ⟨-, h2⟩ | ⟨-, h2⟩
  · exact .inr h2
  · exact .inl h2
end Bk
end Go.Proofs.YtpbphhpldlckbaaGreat
