/- block.head.may; block.peek, Peek. block.Peek; block.head.raw. Whole structs: stored into a block, loaded from it, told as a result: no cell is opened. -/
import Derived.Test.YtpbphhpldlckbaaGreatSc18
import Derived.Test.YtpbphhpldlckbaaGreatSc02
import Derived.Test.YtpbphhpldlckbaaGreatSc35
import Derived.Test.YtpbphhpldlckbaaGreatSc01
namespace Go.Proofs.YtpbphhpldlckbaaGreat
namespace Bk
open Go.RowKit Tk Vi Sq Rd
open Bt (Frm)

/-- A head as a value. -/
def hagg (raw count first early late md : Int) (bd : ByteArray) : Value := .agg #[.int .i64 0, .int .i64 0, .int .i64 raw, .int .i64 count, .int .i64 first, .int .i64 early, .int .i64 late, .int .i64 md, .string bd]
theorem mayH_iff (md raw count first early late : Nat) : mayH md raw count first early late = true ↔ md ≤ 1 ∧ raw ≤ 20000 ∧ 1 ≤ count ∧ count ≤ raw ∧ 1 ≤ first ∧ first + count ≤ 1000000001 ∧ early ≤ 1000000000 ∧ late ≤ 1000000000 := by simp [mayH]
theorem mayH_no (md raw count first early late : Nat) (h : ¬ (md ≤ 1 ∧ raw ≤ 20000 ∧ 1 ≤ count ∧ count ≤ raw ∧ 1 ≤ first ∧ first + count ≤ 1000000001 ∧ early ≤ 1000000000 ∧ late ≤ 1000000000)) : mayH md raw count first early late = false := by
  rw [← Bool.not_eq_true, mayH_iff]; exact h
theorem mayH_yes (md raw count first early late : Nat) (h : md ≤ 1 ∧ raw ≤ 20000 ∧ 1 ≤ count ∧ count ≤ raw ∧ 1 ≤ first ∧ first + count ≤ 1000000001 ∧ early ≤ 1000000000 ∧ late ≤ 1000000000) : mayH md raw count first early late = true := (mayH_iff ..).2 h
set_option maxHeartbeats 3200000 in
theorem may0 (raw count first early late : Nat) (bd : ByteArray) (w : World) :
    Calls Tryz.prog 65 #[hagg raw count first early late 0 bd] w fun e w' => e = .returned (.bool (mayH 0 raw count first early late)) ∧ Below w.heap.size w w' := by
  unfold hagg
  by_cases h0 : 20000 < raw
  · rw [mayH_no _ _ _ _ _ _ (by omega)]
    have a1 : (20000 : Int) < (raw : Int) := by omega
    go_enter Tryz.func65, Tryz.ntmps65
    go_wp2_with fail
    go_ret
    exact ⟨rfl, ext_alloc w _⟩
  have a1 : ¬ (20000 : Int) < (raw : Int) := by omega
  by_cases h1 : count < 1
  · rw [mayH_no _ _ _ _ _ _ (by omega)]
    have a2 : (count : Int) < 1 := by omega
    go_enter Tryz.func65, Tryz.ntmps65
    go_wp2_with fail
    go_ret
    exact ⟨rfl, ext_alloc w _⟩
  have a2 : ¬ (count : Int) < 1 := by omega
  by_cases h2 : raw < count
  · rw [mayH_no _ _ _ _ _ _ (by omega)]
    have a3 : (raw : Int) < (count : Int) := by omega
    go_enter Tryz.func65, Tryz.ntmps65
    go_wp2_with fail
    go_ret
    exact ⟨rfl, ext_alloc w _⟩
  have a3 : ¬ (raw : Int) < (count : Int) := by omega
  by_cases h3 : 1 ≤ first
  rotate_left
  · rw [mayH_no _ _ _ _ _ _ (by omega)]
    have a4 : ¬ (1 : Int) ≤ (first : Int) := by omega
    go_enter Tryz.func65, Tryz.ntmps65
    go_wp2_with fail
    go_ret
    exact ⟨rfl, ext_alloc w _⟩
  have a4 : (1 : Int) ≤ (first : Int) := by omega
  by_cases h4 : first + count ≤ 1000000001
  rotate_left
  · rw [mayH_no _ _ _ _ _ _ (by omega)]
    have a5 : ¬ (first : Int) ≤ 1000000001 - (count : Int) := by omega
    go_enter Tryz.func65, Tryz.ntmps65
    go_wp2_with fail
    go_ret
    exact ⟨rfl, ext_alloc w _⟩
  have a5 : (first : Int) ≤ 1000000001 - (count : Int) := by omega
  by_cases h5 : early ≤ 1000000000
  rotate_left
  · rw [mayH_no _ _ _ _ _ _ (by omega)]
    have a6 : ¬ (early : Int) ≤ 1000000000 := by omega
    go_enter Tryz.func65, Tryz.ntmps65
    go_wp2_with fail
    go_ret
    exact ⟨rfl, ext_alloc w _⟩
  have a6 : (early : Int) ≤ 1000000000 := by omega
  by_cases h6 : late ≤ 1000000000
  rotate_left
  · rw [mayH_no _ _ _ _ _ _ (by omega)]
    have a7 : ¬ (late : Int) ≤ 1000000000 := by omega
    go_enter Tryz.func65, Tryz.ntmps65
    go_wp2_with fail
    go_ret
    exact ⟨rfl, ext_alloc w _⟩
  have a7 : (late : Int) ≤ 1000000000 := by omega
  rw [mayH_yes _ _ _ _ _ _ (by omega)]
  go_enter Tryz.func65, Tryz.ntmps65
  go_wp2_with fail
  go_ret
  exact ⟨rfl, ext_alloc w _⟩
set_option maxHeartbeats 3200000 in
theorem may1 (raw count first early late : Nat) (bd : ByteArray) (w : World) :
    Calls Tryz.prog 65 #[hagg raw count first early late 1 bd] w fun e w' => e = .returned (.bool (mayH 1 raw count first early late)) ∧ Below w.heap.size w w' := by
  unfold hagg
  by_cases h0 : 20000 < raw
  · rw [mayH_no _ _ _ _ _ _ (by omega)]
    have a1 : (20000 : Int) < (raw : Int) := by omega
    go_enter Tryz.func65, Tryz.ntmps65
    go_wp2_with fail
    go_ret
    exact ⟨rfl, ext_alloc w _⟩
  have a1 : ¬ (20000 : Int) < (raw : Int) := by omega
  by_cases h1 : count < 1
  · rw [mayH_no _ _ _ _ _ _ (by omega)]
    have a2 : (count : Int) < 1 := by omega
    go_enter Tryz.func65, Tryz.ntmps65
    go_wp2_with fail
    go_ret
    exact ⟨rfl, ext_alloc w _⟩
  have a2 : ¬ (count : Int) < 1 := by omega
  by_cases h2 : raw < count
  · rw [mayH_no _ _ _ _ _ _ (by omega)]
    have a3 : (raw : Int) < (count : Int) := by omega
    go_enter Tryz.func65, Tryz.ntmps65
    go_wp2_with fail
    go_ret
    exact ⟨rfl, ext_alloc w _⟩
  have a3 : ¬ (raw : Int) < (count : Int) := by omega
  by_cases h3 : 1 ≤ first
  rotate_left
  · rw [mayH_no _ _ _ _ _ _ (by omega)]
    have a4 : ¬ (1 : Int) ≤ (first : Int) := by omega
    go_enter Tryz.func65, Tryz.ntmps65
    go_wp2_with fail
    go_ret
    exact ⟨rfl, ext_alloc w _⟩
  have a4 : (1 : Int) ≤ (first : Int) := by omega
  by_cases h4 : first + count ≤ 1000000001
  rotate_left
  · rw [mayH_no _ _ _ _ _ _ (by omega)]
    have a5 : ¬ (first : Int) ≤ 1000000001 - (count : Int) := by omega
    go_enter Tryz.func65, Tryz.ntmps65
    go_wp2_with fail
    go_ret
    exact ⟨rfl, ext_alloc w _⟩
  have a5 : (first : Int) ≤ 1000000001 - (count : Int) := by omega
  by_cases h5 : early ≤ 1000000000
  rotate_left
  · rw [mayH_no _ _ _ _ _ _ (by omega)]
    have a6 : ¬ (early : Int) ≤ 1000000000 := by omega
    go_enter Tryz.func65, Tryz.ntmps65
    go_wp2_with fail
    go_ret
    exact ⟨rfl, ext_alloc w _⟩
  have a6 : (early : Int) ≤ 1000000000 := by omega
  by_cases h6 : late ≤ 1000000000
  rotate_left
  · rw [mayH_no _ _ _ _ _ _ (by omega)]
    have a7 : ¬ (late : Int) ≤ 1000000000 := by omega
    go_enter Tryz.func65, Tryz.ntmps65
    go_wp2_with fail
    go_ret
    exact ⟨rfl, ext_alloc w _⟩
  have a7 : (late : Int) ≤ 1000000000 := by omega
  rw [mayH_yes _ _ _ _ _ _ (by omega)]
  go_enter Tryz.func65, Tryz.ntmps65
  go_wp2_with fail
  go_ret
  exact ⟨rfl, ext_alloc w _⟩
set_option maxHeartbeats 3200000 in
theorem may_any (raw count first early late md : Nat) (bd : ByteArray) (w : World) :
    Calls Tryz.prog 65 #[hagg raw count first early late md bd] w fun e w' => e = .returned (.bool (mayH md raw count first early late)) ∧ Below w.heap.size w w' := by
  by_cases hm : md ≤ 1
  · obtain rfl | rfl : md = 0 ∨ md = 1 := by omega
    · exact may0 raw count first early late bd w
    · exact may1 raw count first early late bd w
  · rw [mayH_no _ _ _ _ _ _ (by omega)]
    have n0 : ((md : Int) != 0) = true := by rw [bne_iff_ne]; omega
    have n1 : ((md : Int) != 1) = true := by rw [bne_iff_ne]; omega
    have n2 : ((md : Int) == 0) = false := by rw [beq_eq_false_iff_ne]; omega
    have n3 : ((md : Int) == 1) = false := by rw [beq_eq_false_iff_ne]; omega
    unfold hagg
    go_enter Tryz.func65, Tryz.ntmps65
    go_wp2_with fail
    go_ret
    exact ⟨rfl, ext_alloc w _⟩

theorem peekB_err {b : List UInt8} (h : perr b ≠ 0) : peekB b = none := by
  rcases b with _ | ⟨m, b⟩
  · rfl
  · simp only [perr] at h
    unfold peekB
    split
    · rfl
    · rename_i m2 b2 he
      injection he with e1 e2
      subst e1 e2
      split
      · rename_i hf; rw [hf] at h; exact absurd rfl h
      · rfl
theorem peekB_at {b b' : List UInt8} {m : UInt8} {n1 n2 n3 n4 n5 : Nat} {r : List UInt8} (h : b = m :: b') (hf : fin 5 [] b' = (0, [n1, n2, n3, n4, n5], r)) :
    peekB b = if mayH m.toNat n1 n2 n3 n4 (lateOf n4 n5) = true then some (m.toNat, n1, n2, n3, n4, lateOf n4 n5, r) else none := by
  subst h
  simp only [peekB, hf]
theorem perr_ok {b b' : List UInt8} {m : UInt8} {ns r} (h : b = m :: b') (hf : fin 5 [] b' = (0, ns, r)) : perr b = 0 := by
  subst h
  simp only [perr, hf]
/-- What is caught. -/
def PcA (s : ByteArray) (bH : Nat) (e : Ending) (w' : World) : Prop :=
  (∃ (m : UInt8) (b' : List UInt8) (n1 n2 n3 n4 n5 : Nat) (r : ByteArray), s.data.toList = m :: b' ∧ fin 5 [] b' = (0, [n1, n2, n3, n4, n5], r.data.toList) ∧ e = .returned (.tuple #[.int .i64 0, .int .i64 0]) ∧ Hb w' bH n1 n2 n3 n4 (lateOf n4 n5) m.toNat r) ∨
  (perr s.data.toList ≠ 0 ∧ ∃ q : Int, e = .returned (.tuple #[.int .i64 (perr s.data.toList), .int .i64 q]))
theorem pk_caught (w : World) (bV bT bH bF : Nat) (s : ByteArray) (hV : Vp w bV bT bH bF s 0 0 0 0 0 0 0 ⟨#[]⟩) (hs : s.size ≤ 1000000) :
    Calls Tryz.prog 64 #[.func (.func 61) #[] #[.pointer (some ⟨bV, 0, none⟩), .pointer (some ⟨bH, 0, none⟩), .pointer (some ⟨bF, 0, none⟩)]] w fun e w' => PcA s bH e w' ∧ Keep w w' [bT, bH] := by
  have hl : ∀ k ∈ [bT, bH], k < w.heap.size := by
    intro k hk
    simp at hk
    rcases hk with rfl | rfl
    · exact hV.ta.lt
    · exact hV.hb.lt
  have hn : ∀ k ∈ [bT, bH], k ∉ [w.heap.size, w.heap.size + 1] := by
    intro k hk hm
    have := hl k hk
    simp at hm
    omega
  have hb := wC_keep w
  have hwc := wC_vars w
  have hc := peek1_any (wC w) bV bT bH bF s (hV.keep (Keep.of_below hb)) hs
  have hkk : ∀ w2 w', Keep (wC w) w2 [bT, bH] → Keep w2 w' [w.heap.size, w.heap.size + 1] → Keep w w' [bT, bH] := by
    intro w2 w' g5 hkp
    have hkk : Keep w w2 [bT, bH] := (Keep.of_below hb).trans (w' := wC w) g5
    exact ⟨hkp.os.trans hkk.os, hkp.tape.trans hkk.tape, hkp.output.trans hkk.output, Nat.le_trans hkk.size hkp.size, fun k hk hm => (hkp.blk k (Nat.lt_of_lt_of_le hk hkk.size) (by simp; omega)).trans (hkk.blk k hk hm)⟩
  by_cases he : perr s.data.toList = 0
  · have h := caughtB_ok w _ (fun w' => Keep (wC w) w' [bT, bH] ∧ ∃ (m : UInt8) (b' : List UInt8) (n1 n2 n3 n4 n5 : Nat) (r : ByteArray), s.data.toList = m :: b' ∧ fin 5 [] b' = (0, [n1, n2, n3, n4, n5], r.data.toList) ∧ Hb w' bH n1 n2 n3 n4 (lateOf n4 n5) m.toNat r)
      (fun w' hG => ⟨hG.1.var hwc.1 (fun hm => by have := hl _ hm; omega), hG.1.var hwc.2 (fun hm => by have := hl _ hm; omega)⟩) (hc.mono (by
        rintro e w' ⟨hk, ⟨m, b', n1, n2, n3, n4, n5, r, h1, h2, h3, h4⟩ | ⟨hx, -⟩⟩
        · exact ⟨h3, hk, m, b', n1, n2, n3, n4, n5, r, h1, h2, h4⟩
        · exact absurd he hx))
    refine h.mono ?_
    rintro e w' ⟨rfl, w2, ⟨g5, m, b', n1, n2, n3, n4, n5, r, h1, h2, h4⟩, hkp⟩
    exact ⟨.inl ⟨m, b', n1, n2, n3, n4, n5, r, h1, h2, rfl, h4.keep hkp (hn _ (by simp))⟩, hkk w2 w' g5 hkp⟩
  · have h := caughtB_no w _ (perr s.data.toList) (fun w' => Keep (wC w) w' [bT, bH])
      (fun w' hG => ⟨hG.var hwc.1 (fun hm => by have := hl _ hm; omega), hG.var hwc.2 (fun hm => by have := hl _ hm; omega)⟩) (hc.mono (by
        rintro e w' ⟨hk, ⟨m, b', n1, n2, n3, n4, n5, r, h1, h2, h3, h4⟩ | ⟨hx, q, hq⟩⟩
        · exact absurd (perr_ok h1 h2) he
        · exact ⟨⟨q, hq⟩, hk⟩))
    refine h.mono ?_
    rintro e w' ⟨⟨p, he'⟩, w2, g5, hkp⟩
    exact ⟨.inr ⟨he, p, he'⟩, hkk w2 w' g5 hkp⟩

/-- What block.peek gives. -/
def PeekAns (s : ByteArray) (e : Ending) : Prop := (∃ (md raw count first early late : Nat) (r : ByteArray), peekB s.data.toList = some (md, raw, count, first, early, late, r.data.toList) ∧ e = .returned (.tuple #[hagg raw count first early late md r, .int .i64 0])) ∨
  (peekB s.data.toList = none ∧ ∃ x, e = .returned (.tuple #[hagg 0 0 0 0 0 0 ⟨#[]⟩, .int .i64 x]) ∧ x ≠ 0)
/-- The result's block is written whole. -/
theorem Hb.fill {w : World} {b : Nat} (h : Hb w b 0 0 0 0 0 0 ⟨#[]⟩) (raw count first early late md : Int) (bd : ByteArray) :
    Hb (((((((((w.setCell ⟨b, 0, none⟩ (.int .i64 0)).setCell ⟨b, 1, none⟩ (.int .i64 0)).setCell ⟨b, 2, none⟩ (.int .i64 raw)).setCell ⟨b, 3, none⟩ (.int .i64 count)).setCell ⟨b, 4, none⟩ (.int .i64 first)).setCell ⟨b, 5, none⟩ (.int .i64 early)).setCell ⟨b, 6, none⟩ (.int .i64 late)).setCell ⟨b, 7, none⟩ (.int .i64 md)).setCell ⟨b, 8, none⟩ (.string bd)) b raw count first early late md bd := by
  have h0 : Hb (w.setCell ⟨b, 0, none⟩ (.int .i64 0)) b 0 0 0 0 0 0 ⟨#[]⟩ := by unfold Hb at *; simp [World.setCell, Array.getElem?_modify, h]
  have h1 : Hb ((w.setCell ⟨b, 0, none⟩ (.int .i64 0)).setCell ⟨b, 1, none⟩ (.int .i64 0)) b 0 0 0 0 0 0 ⟨#[]⟩ := by
    generalize w.setCell ⟨b, 0, none⟩ (.int .i64 0) = w at *
    unfold Hb at *; simp [World.setCell, Array.getElem?_modify, h0]
  exact ((((((h1.set2 raw).set3 count).set4 first).set5 early).set6 late).set7 md).set8 bd
theorem below_fill9 {w w' : World} {b B : Nat} {v0 v1 v2 v3 v4 v5 v6 v7 v8 : Value} (h : Below B w w') (hb : B ≤ b) : Below B w (((((((((w'.setCell ⟨b, 0, none⟩ v0).setCell ⟨b, 1, none⟩ v1).setCell ⟨b, 2, none⟩ v2).setCell ⟨b, 3, none⟩ v3).setCell ⟨b, 4, none⟩ v4).setCell ⟨b, 5, none⟩ v5).setCell ⟨b, 6, none⟩ v6).setCell ⟨b, 7, none⟩ v7).setCell ⟨b, 8, none⟩ v8) := below_put (below_put (below_put (below_put (below_put (below_put (below_put (below_put (below_put (h) hb 0 v0) hb 1 v1) hb 2 v2) hb 3 v3) hb 4 v4) hb 5 v5) hb 6 v6) hb 7 v7) hb 8 v8
set_option maxHeartbeats 6400000 in
set_option maxRecDepth 100000 in
theorem peek_any (s : ByteArray) (w : World) (hs : s.size ≤ 1000000) :
    Calls Tryz.prog 40 #[.string s] w fun e w' => PeekAns s e ∧ Below w.heap.size w w' := by
  have mixed : Tryz.prog.follows .mixedOrders = true := by kernel_rfl
  go_enter Tryz.func40, Tryz.ntmps40
  go_wp2_with fail
  refine (takeNew_any s _).mono ?_
  rintro e1 w1 ⟨rfl, hta, hb1⟩
  have e0 : (w.alloc (.cells #[.int .i64 0, .int .i64 0, .int .i64 0, .int .i64 0, .int .i64 0, .int .i64 0, .int .i64 0, .int .i64 0, .string ⟨#[]⟩] 87)).heap.size = w.heap.size + 1 := by simp
  rw [e0] at hta hb1
  have hR1 : Hb w1 w.heap.size 0 0 0 0 0 0 ⟨#[]⟩ := (Hb.new w).below hb1 (by omega)
  have hw1 : Below w.heap.size w w1 := ((Below.refl _ _).alloc (Nat.le_refl _) _).trans (hb1.mono (by omega))
  have hsz : w.heap.size + 1 < w1.heap.size := hta.lt
  have vV := Var.new w1 117 (.pointer (some ⟨w.heap.size + 1, 0, none⟩))
  have vF := Var.new (w1.alloc (.cells #[.pointer (some ⟨w.heap.size + 1, 0, none⟩)] 117)) 95 .nilFunc
  rw [show (w1.alloc (.cells #[.pointer (some ⟨w.heap.size + 1, 0, none⟩)] 117)).heap.size = w1.heap.size + 1 by simp] at vF
  have d1 := store_one (P := Tryz.prog) (v := (.func (.func 60) #[.pointer (some ⟨w.heap.size + 1, 0, none⟩)] #[])) rfl vF.cell vF.frozen
  have uV := vV.alloc (.cells #[(.func (.func 60) #[.pointer (some ⟨w.heap.size + 1, 0, none⟩)] #[])] 95)
  have uF := Var.new (w1.alloc (.cells #[.pointer (some ⟨w.heap.size + 1, 0, none⟩)] 117)) 95 (.func (.func 60) #[.pointer (some ⟨w.heap.size + 1, 0, none⟩)] #[])
  rw [show (w1.alloc (.cells #[.pointer (some ⟨w.heap.size + 1, 0, none⟩)] 117)).heap.size = w1.heap.size + 1 by simp] at uF
  have hsB : ((w1.alloc (.cells #[.pointer (some ⟨w.heap.size + 1, 0, none⟩)] 117)).alloc (.cells #[(.func (.func 60) #[.pointer (some ⟨w.heap.size + 1, 0, none⟩)] #[])] 95)).heap.size = w1.heap.size + 1 + 1 := by simp
  have uH := Hb.new ((w1.alloc (.cells #[.pointer (some ⟨w.heap.size + 1, 0, none⟩)] 117)).alloc (.cells #[(.func (.func 60) #[.pointer (some ⟨w.heap.size + 1, 0, none⟩)] #[])] 95))
  rw [hsB] at uH
  have hbW : Below w1.heap.size w1 (((w1.alloc (.cells #[.pointer (some ⟨w.heap.size + 1, 0, none⟩)] 117)).alloc (.cells #[(.func (.func 60) #[.pointer (some ⟨w.heap.size + 1, 0, none⟩)] #[])] 95)).alloc (.cells #[.int .i64 0, .int .i64 0, .int .i64 0, .int .i64 0, .int .i64 0, .int .i64 0, .int .i64 0, .int .i64 0, .string ⟨#[]⟩] 87)) := (((Below.refl _ _).alloc (Nat.le_refl _) _).alloc (by simp) _).alloc (by rw [hsB]; omega) _
  have hVp : Vp (((w1.alloc (.cells #[.pointer (some ⟨w.heap.size + 1, 0, none⟩)] 117)).alloc (.cells #[(.func (.func 60) #[.pointer (some ⟨w.heap.size + 1, 0, none⟩)] #[])] 95)).alloc (.cells #[.int .i64 0, .int .i64 0, .int .i64 0, .int .i64 0, .int .i64 0, .int .i64 0, .int .i64 0, .int .i64 0, .string ⟨#[]⟩] 87)) w1.heap.size (w.heap.size + 1) (w1.heap.size + 1 + 1) (w1.heap.size + 1) s 0 0 0 0 0 0 0 ⟨#[]⟩ :=
    ⟨uV.alloc _, (hbW.block _ hsz).trans hta, uF.alloc _, uH, by omega, by omega, by omega, by omega, by omega, by omega⟩
  have HC := Lib.hid (pk_caught _ _ _ _ _ s hVp hs)
  have hRW : Hb (((w1.alloc (.cells #[.pointer (some ⟨w.heap.size + 1, 0, none⟩)] 117)).alloc (.cells #[(.func (.func 60) #[.pointer (some ⟨w.heap.size + 1, 0, none⟩)] #[])] 95)).alloc (.cells #[.int .i64 0, .int .i64 0, .int .i64 0, .int .i64 0, .int .i64 0, .int .i64 0, .int .i64 0, .int .i64 0, .string ⟨#[]⟩] 87)) w.heap.size 0 0 0 0 0 0 ⟨#[]⟩ := hR1.below hbW (by omega)
  have HW := Lib.hid (And.intro (hw1.trans (hbW.mono (by omega))) hRW)
  have HS := Lib.hid hsz
  have HSB := Lib.hid hsB
  clear e0 hta hb1 hR1 hw1 hsz vV vF uV uF hsB uH hbW hVp hRW
  go_wp2_with fail
  clear d1
  refine HC.out.mono ?_
  rintro e2 w2 ⟨hpc, hk⟩
  have hkb := HW.out.1.trans (hk.below HW.out.1.size (by intro k hk; have := HS.out; simp at hk; omega))
  have hR2 := HW.out.2.keep hk (by have := HS.out; simp; omega)
  have HK := Lib.hid (And.intro hkb hR2)
  have f0 := hR2.fz 0
  have f1 := hR2.fz 1
  have f2 := hR2.fz 2
  have f3 := hR2.fz 3
  have f4 := hR2.fz 4
  have f5 := hR2.fz 5
  have f6 := hR2.fz 6
  have f7 := hR2.fz 7
  have f8 := hR2.fz 8
  have r0 := hR2.c0
  have r1 := hR2.c1
  have r2 := hR2.c2
  have r3 := hR2.c3
  have r4 := hR2.c4
  have r5 := hR2.c5
  have r6 := hR2.c6
  have r7 := hR2.c7
  have r8 := hR2.c8
  clear HC hk hkb hR2 HW HSB
  rcases hpc with ⟨m, b', n1, n2, n3, n4, n5, r, h1, h2, rfl, h4⟩ | ⟨hx, q, rfl⟩
  · have HM := Lib.hid (may_any n1 n2 n3 n4 (lateOf n4 n5) m.toNat r w2)
    unfold hagg at HM
    have HPB := Lib.hid (peekB_at h1 h2)
    have k0 := h4.c0
    have k1 := h4.c1
    have k2 := h4.c2
    have k3 := h4.c3
    have k4 := h4.c4
    have k5 := h4.c5
    have k6 := h4.c6
    have k7 := h4.c7
    have k8 := h4.c8
    have hH := Lib.hid h4
    clear h1 h2 h4
    by_cases hm : mayH m.toNat n1 n2 n3 n4 (lateOf n4 n5) = true
    · rw [if_pos hm] at HPB
      rw [hm] at HM
      clear hm
      generalize lateOf n4 n5 = L at *
      clear f0 r0 f1 r1 f2 r2 f3 r3 f4 r4 f5 r5 f6 r6 f7 r7 f8 r8
      go_wp2_with fail
      refine HM.out.mono ?_
      rintro e3 w3 ⟨rfl, hb3⟩
      have HK3 := Lib.hid (And.intro (HK.out.1.trans (hb3.mono HK.out.1.size)) (HK.out.2.below hb3 HK.out.2.lt))
      have f0 := HK3.out.2.fz 0
      have f1 := HK3.out.2.fz 1
      have f2 := HK3.out.2.fz 2
      have f3 := HK3.out.2.fz 3
      have f4 := HK3.out.2.fz 4
      have f5 := HK3.out.2.fz 5
      have f6 := HK3.out.2.fz 6
      have f7 := HK3.out.2.fz 7
      have f8 := HK3.out.2.fz 8
      have r0 := HK3.out.2.c0
      have r1 := HK3.out.2.c1
      have r2 := HK3.out.2.c2
      have r3 := HK3.out.2.c3
      have r4 := HK3.out.2.c4
      have r5 := HK3.out.2.c5
      have r6 := HK3.out.2.c6
      have r7 := HK3.out.2.c7
      have r8 := HK3.out.2.c8
      have hh := hH.out.below hb3 hH.out.lt
      clear hb3 HM k0 k1 k2 k3 k4 k5 k6 k7 k8
      have k0 := hh.c0
      have k1 := hh.c1
      have k2 := hh.c2
      have k3 := hh.c3
      have k4 := hh.c4
      have k5 := hh.c5
      have k6 := hh.c6
      have k7 := hh.c7
      have k8 := hh.c8
      clear hh
      have HF := Lib.hid (HK3.out.2.fill n1 n2 n3 n4 L m.toNat r)
      go_wp2_with fail
      have g0 := HF.out.c0
      have g1 := HF.out.c1
      have g2 := HF.out.c2
      have g3 := HF.out.c3
      have g4 := HF.out.c4
      have g5 := HF.out.c5
      have g6 := HF.out.c6
      have g7 := HF.out.c7
      have g8 := HF.out.c8
      refine bodyPost_ret (v := .tuple #[hagg n1 n2 n3 n4 L m.toNat r, .int .i64 0]) (by simp [results, go_sem, g0, g1, g2, g3, g4, g5, g6, g7, g8, hagg]) rfl ?_
      exact ⟨.inl ⟨m.toNat, n1, n2, n3, n4, L, r, HPB.out, rfl⟩, below_fill9 HK3.out.1 (Nat.le_refl _)⟩
    · rw [if_neg hm] at HPB
      rw [Bool.not_eq_true] at hm
      rw [hm] at HM
      clear hm
      generalize lateOf n4 n5 = L at *
      clear f0 r0 f1 r1 f2 r2 f3 r3 f4 r4 f5 r5 f6 r6 f7 r7 f8 r8
      go_wp2_with fail
      refine HM.out.mono ?_
      rintro e3 w3 ⟨rfl, hb3⟩
      have HK3 := Lib.hid (And.intro (HK.out.1.trans (hb3.mono HK.out.1.size)) (HK.out.2.below hb3 HK.out.2.lt))
      have f0 := HK3.out.2.fz 0
      have f1 := HK3.out.2.fz 1
      have f2 := HK3.out.2.fz 2
      have f3 := HK3.out.2.fz 3
      have f4 := HK3.out.2.fz 4
      have f5 := HK3.out.2.fz 5
      have f6 := HK3.out.2.fz 6
      have f7 := HK3.out.2.fz 7
      have f8 := HK3.out.2.fz 8
      have r0 := HK3.out.2.c0
      have r1 := HK3.out.2.c1
      have r2 := HK3.out.2.c2
      have r3 := HK3.out.2.c3
      have r4 := HK3.out.2.c4
      have r5 := HK3.out.2.c5
      have r6 := HK3.out.2.c6
      have r7 := HK3.out.2.c7
      have r8 := HK3.out.2.c8
      clear hb3 HM k0 k1 k2 k3 k4 k5 k6 k7 k8
      have HF := Lib.hid (HK3.out.2.fill 0 0 0 0 0 0 ⟨#[]⟩)
      go_wp2_with fail
      have g0 := HF.out.c0
      have g1 := HF.out.c1
      have g2 := HF.out.c2
      have g3 := HF.out.c3
      have g4 := HF.out.c4
      have g5 := HF.out.c5
      have g6 := HF.out.c6
      have g7 := HF.out.c7
      have g8 := HF.out.c8
      refine bodyPost_ret (v := .tuple #[hagg 0 0 0 0 0 0 ⟨#[]⟩, .int .i64 170]) (by simp [results, go_sem, g0, g1, g2, g3, g4, g5, g6, g7, g8, hagg]) rfl ?_
      exact ⟨.inr ⟨HPB.out, 170, rfl, by decide⟩, below_fill9 HK3.out.1 (Nat.le_refl _)⟩
  · have HP := Lib.hid (And.intro (peekB_err hx) hx)
    generalize perr s.data.toList = x at *
    have hb1 : (x != 0) = true := by rw [bne_iff_ne]; exact hx
    have hb2 : (x == 0) = false := by rw [beq_eq_false_iff_ne]; exact hx
    have HF := Lib.hid (HK.out.2.fill 0 0 0 0 0 0 ⟨#[]⟩)
    go_wp2_with fail
    have g0 := HF.out.c0
    have g1 := HF.out.c1
    have g2 := HF.out.c2
    have g3 := HF.out.c3
    have g4 := HF.out.c4
    have g5 := HF.out.c5
    have g6 := HF.out.c6
    have g7 := HF.out.c7
    have g8 := HF.out.c8
    refine bodyPost_ret (v := .tuple #[hagg 0 0 0 0 0 0 ⟨#[]⟩, .int .i64 x]) (by simp [results, go_sem, g0, g1, g2, g3, g4, g5, g6, g7, g8, hagg]) rfl ?_
    exact ⟨.inr ⟨HP.out.1, x, rfl, hx⟩, below_fill9 HK.out.1 (Nat.le_refl _)⟩
end Bk
end Go.Proofs.YtpbphhpldlckbaaGreat
namespace Go.Proofs.YtpbphhpldlckbaaGreat
namespace Bk
open Go.RowKit Tk Vi Sq Rd

/-- What block.Peek gives. -/
def MetaAns (s : ByteArray) (e : Ending) : Prop := (∃ (md raw count first early late : Nat) (r : List UInt8), peekB s.data.toList = some (md, raw, count, first, early, late, r) ∧ e = .returned (.tuple #[magg 0 0 raw count first early late, .int .i64 0])) ∨
  (peekB s.data.toList = none ∧ ∃ x, e = .returned (.tuple #[magg 0 0 0 0 0 0 0, .int .i64 x]) ∧ x ≠ 0)
set_option maxHeartbeats 6400000 in
set_option maxRecDepth 100000 in
theorem Peek_any (s : ByteArray) (w : World) (hs : s.size ≤ 1000000) :
    Calls Tryz.prog 39 #[.string s] w fun e w' => MetaAns s e ∧ Below w.heap.size w w' := by
  have mixed : Tryz.prog.follows .mixedOrders = true := by kernel_rfl
  have HP := Lib.hid (fun w => peek_any s w hs)
  go_enter Tryz.func39, Tryz.ntmps39
  go_wp2_with fail
  refine (HP.out _).mono ?_
  rintro e1 w1 ⟨hp, hb1⟩
  have hR := (Mb.new w).below hb1 (by simp)
  have hB := (ext_alloc w _).trans (hb1.mono (by simp))
  have hlt : w.heap.size < w1.heap.size := by have := hb1.size; simp at this; omega
  clear HP hb1
  rcases hp with ⟨md, raw, count, first, early, late, r, hpk, rfl⟩ | ⟨hpk, x, rfl, hx⟩
  · have HPK := Lib.hid hpk
    have hR2 : Mb (w1.alloc (.cells #[.int .i64 0, .int .i64 0, .int .i64 raw, .int .i64 count, .int .i64 first, .int .i64 early, .int .i64 late, .int .i64 md, .string r] 87)) w.heap.size 0 0 0 0 0 0 0 := hR.below (ext_alloc w1 _) hlt
    have HB := Lib.hid (hB.alloc (o := (.cells #[.int .i64 0, .int .i64 0, .int .i64 raw, .int .i64 count, .int .i64 first, .int .i64 early, .int .i64 late, .int .i64 md, .string r] 87)) (by omega))
    have HF := Lib.hid (hR2.fill 0 0 raw count first early late)
    have r0 := hR2.c0
    have r1 := hR2.c1
    have r2 := hR2.c2
    have r3 := hR2.c3
    have r4 := hR2.c4
    have r5 := hR2.c5
    have r6 := hR2.c6
    have f0 := hR2.fz 0
    have f1 := hR2.fz 1
    have f2 := hR2.fz 2
    have f3 := hR2.fz 3
    have f4 := hR2.fz 4
    have f5 := hR2.fz 5
    have f6 := hR2.fz 6
    clear hR hB hR2 hpk hlt
    unfold hagg
    go_wp2_with fail
    have g0 := HF.out.c0
    have g1 := HF.out.c1
    have g2 := HF.out.c2
    have g3 := HF.out.c3
    have g4 := HF.out.c4
    have g5 := HF.out.c5
    have g6 := HF.out.c6
    refine bodyPost_ret (v := .tuple #[magg 0 0 raw count first early late, .int .i64 0]) (by simp [results, go_sem, g0, g1, g2, g3, g4, g5, g6, magg]) rfl ?_
    exact ⟨.inl ⟨md, raw, count, first, early, late, r.data.toList, HPK.out, rfl⟩, below_fill7 HB.out (Nat.le_refl _)⟩
  · have HPK := Lib.hid hpk
    have hR2 : Mb (w1.alloc (.cells #[.int .i64 0, .int .i64 0, .int .i64 0, .int .i64 0, .int .i64 0, .int .i64 0, .int .i64 0, .int .i64 0, .string ⟨#[]⟩] 87)) w.heap.size 0 0 0 0 0 0 0 := hR.below (ext_alloc w1 _) hlt
    have HB := Lib.hid (hB.alloc (o := (.cells #[.int .i64 0, .int .i64 0, .int .i64 0, .int .i64 0, .int .i64 0, .int .i64 0, .int .i64 0, .int .i64 0, .string ⟨#[]⟩] 87)) (by omega))
    have HF := Lib.hid (hR2.fill 0 0 0 0 0 0 0)
    have r0 := hR2.c0
    have r1 := hR2.c1
    have r2 := hR2.c2
    have r3 := hR2.c3
    have r4 := hR2.c4
    have r5 := hR2.c5
    have r6 := hR2.c6
    have f0 := hR2.fz 0
    have f1 := hR2.fz 1
    have f2 := hR2.fz 2
    have f3 := hR2.fz 3
    have f4 := hR2.fz 4
    have f5 := hR2.fz 5
    have f6 := hR2.fz 6
    clear hR hB hR2 hpk hlt
    unfold hagg
    go_wp2_with fail
    have g0 := HF.out.c0
    have g1 := HF.out.c1
    have g2 := HF.out.c2
    have g3 := HF.out.c3
    have g4 := HF.out.c4
    have g5 := HF.out.c5
    have g6 := HF.out.c6
    refine bodyPost_ret (v := .tuple #[magg 0 0 0 0 0 0 0, .int .i64 x]) (by simp [results, go_sem, g0, g1, g2, g3, g4, g5, g6, magg]) rfl ?_
    exact ⟨.inr ⟨HPK.out, x, rfl, hx⟩, below_fill7 HB.out (Nat.le_refl _)⟩

theorem rawB_plain {md raw : Nat} {b : List UInt8} (h : md ≠ 1) : rawB md raw b = if b.length ≠ raw then none else some b := by
  unfold rawB; rw [if_neg h]
theorem rawB_packed {raw : Nat} {b : List UInt8} : rawB 1 raw b = match unS b with | none => none | some s => if s.length ≠ raw then none else some s := by
  unfold rawB; rw [if_pos rfl]; rcases unS b with _ | s <;> rfl
/-- What head.raw gives. -/
def RawAns (o : Option (List UInt8)) (e : Ending) : Prop := (∃ t : ByteArray, o = some t.data.toList ∧ e = .returned (.tuple #[.string t, .int .i64 0])) ∨ (o = none ∧ ∃ x, e = .returned (.tuple #[.string ⟨#[]⟩, .int .i64 x]) ∧ x ≠ 0)
set_option maxHeartbeats 6400000 in
set_option maxRecDepth 100000 in
theorem raw_any (raw count first early late md : Nat) (bd : ByteArray) (w : World) (hs : bd.size ≤ 1000000) :
    Calls Tryz.prog 41 #[hagg raw count first early late md bd] w fun e w' => RawAns (rawB md raw bd.data.toList) e ∧ Below w.heap.size w w' := by
  have mixed : Tryz.prog.follows .mixedOrders = true := by kernel_rfl
  have hl : bd.data.toList.length = bd.size := rfl
  by_cases hm : md = 1
  · subst hm
    have HU := Lib.hid (unpack_any bd (w.alloc (.cells #[.int .i64 0, .int .i64 0, .int .i64 (raw : Int), .int .i64 (count : Int), .int .i64 (first : Int), .int .i64 (early : Int), .int .i64 (late : Int), .int .i64 1, .string bd] 87)) hs)
    obtain ⟨R, hR⟩ : ∃ R, R = rawB 1 raw bd.data.toList := ⟨_, rfl⟩
    rw [← hR]
    rw [rawB_packed] at hR
    have HR := Lib.hid hR
    have cc : (w.alloc (.cells #[.int .i64 0, .int .i64 0, .int .i64 (raw : Int), .int .i64 (count : Int), .int .i64 (first : Int), .int .i64 (early : Int), .int .i64 (late : Int), .int .i64 1, .string bd] 87)).cell? ⟨w.heap.size, 2, none⟩ = some (.int .i64 (raw : Int)) := by rw [World.cell?_alloc_new]; rfl
    have HC := Lib.hid cc
    have HB0 := Lib.hid (ext_alloc w (.cells #[.int .i64 0, .int .i64 0, .int .i64 (raw : Int), .int .i64 (count : Int), .int .i64 (first : Int), .int .i64 (early : Int), .int .i64 (late : Int), .int .i64 1, .string bd] 87))
    clear hR hl cc
    unfold hagg
    go_enter Tryz.func41, Tryz.ntmps41
    go_wp2_with fail
    refine HU.out.mono ?_
    rintro e1 w1 ⟨hc, hb1⟩
    have c2 := (hb1.cell (p := ⟨w.heap.size, 2, none⟩) (by simp)).trans HC.out
    have HB := Lib.hid (HB0.out.trans (hb1.mono (by simp)))
    clear hb1 HU HC HB0
    rcases hc with ⟨t, ht, rfl⟩ | ⟨ht, x, rfl, hx, -⟩
    · have hR2 : R = if t.length ≠ raw then none else some t := by rw [HR.out, ht]
      obtain ⟨sb, hsb⟩ : ∃ sb : ByteArray, sb = ⟨t.toArray⟩ := ⟨_, rfl⟩
      have hsz : sb.size = t.length := by rw [hsb]; simp [ByteArray.size]
      have hst : sb.data.toList = t := by rw [hsb]
      rw [← hsb]
      rw [← hsz, ← hst] at hR2
      clear hsb hsz hst ht HR
      by_cases hn : sb.size = raw
      · rw [if_neg (by simpa using hn)] at hR2
        have HR2 := Lib.hid hR2
        clear hR2
        subst hn
        go_wp2_with fail
        go_ret2
        exact ⟨.inl ⟨sb, HR2.out, rfl⟩, HB.out⟩
      · rw [if_pos hn] at hR2
        have HR2 := Lib.hid hR2
        have hb1 : ((sb.size : Int) != (raw : Int)) = true := by rw [bne_iff_ne]; omega
        have hb2 : ((sb.size : Int) == (raw : Int)) = false := by rw [beq_eq_false_iff_ne]; omega
        have hb3 : (sb.size == raw) = false := by rw [beq_eq_false_iff_ne]; omega
        have hb4 : (sb.size != raw) = true := by rw [bne_iff_ne]; omega
        clear hR2
        go_wp2_with fail
        go_ret2
        exact ⟨.inr ⟨HR2.out, 5, rfl, by decide⟩, HB.out⟩
    · have hR2 : R = none := by rw [HR.out, ht]
      have HR2 := Lib.hid hR2
      have hb1 : (x != 0) = true := by rw [bne_iff_ne]; exact hx
      have hb2 : (x == 0) = false := by rw [beq_eq_false_iff_ne]; exact hx
      clear hR2 ht HR
      go_wp2_with fail
      go_ret2
      exact ⟨.inr ⟨HR2.out, x, rfl, hx⟩, HB.out⟩
  · rw [rawB_plain hm]
    have hb1 : ((md : Int) == 1) = false := by rw [beq_eq_false_iff_ne]; omega
    have hb2 : ((md : Int) != 1) = true := by rw [bne_iff_ne]; omega
    clear hm
    by_cases hn : bd.size = raw
    · rw [if_neg (by rw [hl]; simpa using hn)]
      subst hn
      clear hl
      unfold hagg
      go_enter Tryz.func41, Tryz.ntmps41
      go_wp2_with fail
      go_ret2
      exact ⟨.inl ⟨bd, rfl, rfl⟩, ext_alloc w _⟩
    · rw [if_pos (by rw [hl]; exact hn)]
      have hb3 : ((bd.size : Int) != (raw : Int)) = true := by rw [bne_iff_ne]; omega
      have hb4 : ((bd.size : Int) == (raw : Int)) = false := by rw [beq_eq_false_iff_ne]; omega
      have hb5 : (bd.size == raw) = false := by rw [beq_eq_false_iff_ne]; omega
      have hb6 : (bd.size != raw) = true := by rw [bne_iff_ne]; omega
      clear hl hn
      unfold hagg
      go_enter Tryz.func41, Tryz.ntmps41
      go_wp2_with fail
      go_ret2
      exact ⟨.inr ⟨rfl, 5, rfl, by decide⟩, ext_alloc w _⟩
end Bk
end Go.Proofs.YtpbphhpldlckbaaGreat
namespace Go.Proofs.YtpbphhpldlckbaaGreat
open Go.RowKit

/-- A block that holds just these cells. -/
def Blk (w : World) (g : Nat) (cs : Array Value) (t : TypeId) : Prop := w.heap[g]? = some (.cells cs t (0, 0))
section
variable {w w' : World} {g : Nat} {cs : Array Value} {t : TypeId} (h : Blk w g cs t)
include h
theorem Blk.lt : g < w.heap.size := (Array.getElem?_eq_some_iff.1 h).1
theorem Blk.cell (k : Nat) {v : Value} (hv : cs[k]? = some v) : w.cell? ⟨g, k, none⟩ = some v := by rw [cell_of_row w g k _ _ (0, 0) h]; exact hv
theorem Blk.fz (k : Nat) : w.frozen? ⟨g, k, none⟩ = false := frozen_of_row w g k _ _ h
theorem Blk.below {B : Nat} (hb : Below B w w') (hg : g < B) : Blk w' g cs t := (hb.block g hg).trans h
theorem Blk.ext (hb : Below w.heap.size w w') : Blk w' g cs t := Blk.below h hb (Blk.lt h)
theorem Blk.alloc (o : Obj) : Blk (w.alloc o) g cs t := (Below.heap_alloc w o g (Blk.lt h)).trans h
theorem Blk.set (z : Array Value) : Blk (w.setRow g z) g z t := setRow_heap w g cs z t (0, 0) h
theorem Blk.setOther {k : Nat} (hk : g ≠ k) (z : Array Value) : Blk (w.setRow k z) g cs t := (setRow_other w k g z hk).trans h
theorem Blk.setCell {k j : Nat} (hk : g ≠ k) (v : Value) : Blk (w.setCell ⟨k, j, none⟩ v) g cs t := (Below.heap_setCell w ⟨k, j, none⟩ v g hk).trans h
theorem Blk.grown {row : Option Nat} (hg : w.grownBy w' row) (hr : row ≠ some g) : Blk w' g cs t := (hg.block g (Blk.lt h) (fun e => hr e.symm)).trans h
/-- One cell is written. -/
theorem Blk.put (k : Nat) (v : Value) : Blk (w.setCell ⟨g, k, none⟩ v) g (cs.set! k v) t := by
  unfold Blk at *; simp [World.setCell, Array.getElem?_modify, h]
end
theorem Blk.new (w : World) (cs : Array Value) (t : TypeId) : Blk (w.alloc (.cells cs t)) w.heap.size cs t := heap_alloc_new w _
theorem ext_setRow {w w' : World} {B g : Nat} (h : Below B w w') (hg : B ≤ g) (z : Array Value) : Below B w (w'.setRow g z) := h.trans ⟨rfl, rfl, rfl, by rw [size_setRow]; exact Nat.le_refl _, fun k hk => setRow_other w' g k z (by omega)⟩

section
variable {P : Program} {ops : Array Oper} {rest : List Oper} {op : Oper} {a : Act} {w : World} {Q : Exit → Act → World → Prop}
theorem wpList_store_row (hgd : op.guard = none) (t : TypeId) (x y : Operand) (ho : op.op = .store t x y) (g : Nat) (z c : Array Value) (hx : a.eval x = .pointer (some ⟨g, 0, none⟩)) (hy : a.eval y = .agg z)
    (hh : Blk w g c t) (hi : (P.info? t).map (·.size) = some z.size) (hc : c.size = z.size) (h1 : z.all (·.oneCell') = true)
    (h : wpList P ops Q rest (a.put op.dst undef) (w.setRow g z)) : wpList P ops Q (op :: rest) a w := by
  refine wpList_plain hgd fun _ hK => ?_
  unfold Oper.wp execOp
  simp only [ho, hx, hy, Instr.storeAt, Instr.sureAddr, Sem.run_bind, Sem.run_pure, Result.andThen_ok, run_storeVar_row w g t t c z hh hi hc h1]
  exact hK _ _ h
theorem wpList_load_row (hgd : op.guard = none) (t : TypeId) (x : Operand) (ho : op.op = .load t x) (g : Nat) (c : Array Value) (d : TypeDesc) (hx : a.eval x = .pointer (some ⟨g, 0, none⟩))
    (hh : Blk w g c t) (hu : P.underlying t = some d) (hd : (match d with | .struct _ | .array _ _ => true | _ => false) = true) (hi : (P.info? t).map (·.size) = some c.size)
    (h : wpList P ops Q rest (a.put op.dst (.agg c)) w) : wpList P ops Q (op :: rest) a w := by
  refine wpList_plain hgd fun _ hK => ?_
  unfold Oper.wp execOp
  simp only [ho, hx, Instr.loadAt, Instr.sureAddr, Sem.run_bind, Sem.run_pure, Result.andThen_ok, run_loadVar_row w g t t c (0, 0) d hh hu hd hi]
  exact hK _ _ h
end
/-- Results that lie in a variable, and in a slot. -/
theorem results_cell2 {P : Program} {fn : Func} {tmps : Array Value} {w : World} {a b : Nat} {t : TypeId} {g : Nat} {c : Array Value} {u : Value} {d : TypeDesc} (hr : fn.results = #[.cell a t, .tmp b]) (ht : tmps.getD a undef = .pointer (some ⟨g, 0, none⟩)) (hb : tmps.getD b undef = u)
    (hh : Blk w g c t) (hu : P.underlying t = some d) (hd : (match d with | .struct _ | .array _ _ => true | _ => false) = true) (hi : (P.info? t).map (·.size) = some c.size) :
    (results fn tmps).run P w = .ok (.tuple #[.agg c, u]) w := by
  unfold results
  rw [hr]
  have ht2 : tmps[a]?.getD undef = .pointer (some ⟨g, 0, none⟩) := by rw [← ht]; simp [Array.getD_eq_getD_getElem?]
  have hb2 : tmps[b]?.getD undef = u := by rw [← hb]; simp [Array.getD_eq_getD_getElem?]
  simp [ht2, hb2, asAddr, run_loadVar_row w g t t c (0, 0) d hh hu hd hi]
theorem results_cell1 {P : Program} {fn : Func} {tmps : Array Value} {w : World} {a : Nat} {t : TypeId} {g : Nat} {c : Array Value} {d : TypeDesc} (hr : fn.results = #[.cell a t]) (ht : tmps.getD a undef = .pointer (some ⟨g, 0, none⟩))
    (hh : Blk w g c t) (hu : P.underlying t = some d) (hd : (match d with | .struct _ | .array _ _ => true | _ => false) = true) (hi : (P.info? t).map (·.size) = some c.size) :
    (results fn tmps).run P w = .ok (.agg c) w := results_cell hr ht (run_loadVar_row w g t t c (0, 0) d hh hu hd hi)
end Go.Proofs.YtpbphhpldlckbaaGreat
