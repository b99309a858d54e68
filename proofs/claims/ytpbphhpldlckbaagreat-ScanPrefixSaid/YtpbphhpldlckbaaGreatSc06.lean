/- frame: known, get. frame: Put, Get. A range over an iterator that turns a variable of its own; the body never leaves the loop. -/
import Derived.Test.YtpbphhpldlckbaaGreatSc05
import Derived.Deep.RegionHeld3
import Derived.Test.YtpbphhpldlckbaaGreatRows
import Derived.RangeFuncNested
import Derived.RangeFuncBound
import Derived.RangeFuncCalls
import Derived.RangeFuncLeaves
import Derived.Shelf.Abstract
import Derived.Shelf.RegionOpen
import Derived.WalkKit
import Derived.OwnWalkIn
import Derived.TacticsInMore
import Derived.LoopNIn
import Derived.LoopIn
namespace Go.Proofs.YtpbphhpldlckbaaGreat
namespace Fm
open Go.RowKit Cr

theorem known_yes (k : Nat) (w : World) (h : 1 ≤ k ∧ k ≤ 4) : Calls Tryz.prog 28 #[.int .i64 (k : Int)] w fun e w' => e = .returned (.bool true) ∧ w = w' := by
  have h1 : (1 : Int) ≤ (k : Int) := by omega
  have h2 : (k : Int) ≤ 4 := by omega
  go_enter Tryz.func28, Tryz.ntmps28
  go_wp2_with fail
  go_ret
  exact ⟨rfl, rfl⟩
theorem known_no (k : Nat) (w : World) (h : ¬ (1 ≤ k ∧ k ≤ 4)) : Calls Tryz.prog 28 #[.int .i64 (k : Int)] w fun e w' => e = .returned (.bool false) ∧ w = w' := by
  by_cases h1 : (1 : Int) ≤ (k : Int)
  · have h2 : ¬ (k : Int) ≤ 4 := by omega
    go_enter Tryz.func28, Tryz.ntmps28
    go_wp2_with fail
    go_ret
    exact ⟨rfl, rfl⟩
  · go_enter Tryz.func28, Tryz.ntmps28
    go_wp2_with fail
    go_ret
    exact ⟨rfl, rfl⟩
/-- A frame as a value, and in a block. -/
def fagg (k : Nat) (b : ByteArray) (p t : Nat) : Value := .agg #[.int .i64 (k : Int), .string b, .int .i64 (p : Int), .int .i64 (t : Int)]
def Fb (w : World) (g : Nat) (k : Int) (b : ByteArray) (p t : Int) : Prop := w.heap[g]? = some (.cells #[.int .i64 k, .string b, .int .i64 p, .int .i64 t] 59 (0, 0))
section
variable {w w' : World} {g : Nat} {k p t : Int} {b : ByteArray} (h : Fb w g k b p t)
include h
theorem Fb.lt : g < w.heap.size := (Array.getElem?_eq_some_iff.1 h).1
theorem Fb.c0 : w.cell? ⟨g, 0, none⟩ = some (.int .i64 k) := by rw [cell_of_row w g 0 _ _ (0, 0) h]; rfl
theorem Fb.c1 : w.cell? ⟨g, 1, none⟩ = some (.string b) := by rw [cell_of_row w g 1 _ _ (0, 0) h]; rfl
theorem Fb.c2 : w.cell? ⟨g, 2, none⟩ = some (.int .i64 p) := by rw [cell_of_row w g 2 _ _ (0, 0) h]; rfl
theorem Fb.c3 : w.cell? ⟨g, 3, none⟩ = some (.int .i64 t) := by rw [cell_of_row w g 3 _ _ (0, 0) h]; rfl
theorem Fb.fz (j : Nat) : w.frozen? ⟨g, j, none⟩ = false := frozen_of_row w g j _ _ h
theorem Fb.below {B : Nat} (hk : Below B w w') (hb : g < B) : Fb w' g k b p t := (hk.block g hb).trans h
theorem Fb.set0 (x : Int) : Fb (w.setCell ⟨g, 0, none⟩ (.int .i64 x)) g x b p t := by
  unfold Fb at *; simp [World.setCell, Array.getElem?_modify, h]
theorem Fb.set1 (x : ByteArray) : Fb (w.setCell ⟨g, 1, none⟩ (.string x)) g k x p t := by
  unfold Fb at *; simp [World.setCell, Array.getElem?_modify, h]
theorem Fb.set2 (x : Int) : Fb (w.setCell ⟨g, 2, none⟩ (.int .i64 x)) g k b x t := by
  unfold Fb at *; simp [World.setCell, Array.getElem?_modify, h]
theorem Fb.set3 (x : Int) : Fb (w.setCell ⟨g, 3, none⟩ (.int .i64 x)) g k b p x := by
  unfold Fb at *; simp [World.setCell, Array.getElem?_modify, h]
end
theorem Fb.new (w : World) : Fb (w.alloc (.cells #[.int .i64 0, .string ⟨#[]⟩, .int .i64 0, .int .i64 0] 59)) w.heap.size 0 ⟨#[]⟩ 0 0 := heap_alloc_new w _
theorem Fb.fill {w : World} {g : Nat} {k p t : Int} {b : ByteArray} (h : Fb w g k b p t) (k' p' t' : Int) (b' : ByteArray) :
    Fb ((((w.setCell ⟨g, 0, none⟩ (.int .i64 k')).setCell ⟨g, 1, none⟩ (.string b')).setCell ⟨g, 2, none⟩ (.int .i64 p')).setCell ⟨g, 3, none⟩ (.int .i64 t')) g k' b' p' t' := (((h.set0 k').set1 b').set2 p').set3 t'
theorem below_fill4 {w w' : World} {b B : Nat} {v0 v1 v2 v3 : Value} (h : Below B w w') (hb : B ≤ b) : Below B w ((((w'.setCell ⟨b, 0, none⟩ v0).setCell ⟨b, 1, none⟩ v1).setCell ⟨b, 2, none⟩ v2).setCell ⟨b, 3, none⟩ v3) :=
  (((h.setCell (p := ⟨b, 0, none⟩) hb v0).setCell (p := ⟨b, 1, none⟩) hb v1).setCell (p := ⟨b, 2, none⟩) hb v2).setCell (p := ⟨b, 3, none⟩) hb v3
/-- A frame stands at a place: its kind, how many bytes its body has. -/
def GF (s : ByteArray) (p : Nat) : Prop :=
  p + 5 ≤ s.size ∧ (1 ≤ by4 s.data.toList p ∧ by4 s.data.toList p ≤ 4) ∧ u4 s.data.toList (p + 1) ≤ 60000 ∧ p + 9 + u4 s.data.toList (p + 1) ≤ s.size ∧
    crc (s.extract p (p + 5 + u4 s.data.toList (p + 1))).data.toList = u4 s.data.toList (p + 5 + u4 s.data.toList (p + 1))
instance (s : ByteArray) (p : Nat) : Decidable (GF s p) := by unfold GF; infer_instance
def fn (s : ByteArray) (p : Nat) : Nat := u4 s.data.toList (p + 1)
def fbody (s : ByteArray) (p : Nat) : ByteArray := s.extract (p + 5) (p + 5 + fn s p)
def fto (s : ByteArray) (p : Nat) : Nat := p + 5 + fn s p + 4
def FrAns (s : ByteArray) (p : Nat) (e : Ending) : Prop :=
  (GF s p ∧ e = .returned (.tuple #[fagg (by4 s.data.toList p) (fbody s p) p (fto s p), .int .i64 0])) ∨ (¬ GF s p ∧ ∃ x : Int, x ≠ 0 ∧ e = .returned (.tuple #[fagg 0 ⟨#[]⟩ 0 0, .int .i64 x]))

set_option maxHeartbeats 6400000 in
set_option maxRecDepth 100000 in
theorem get_any (g : Nat) (s : ByteArray) (p : Nat) (w : World) (ht : Au w g (n256 tb)) (hs : s.size ≤ 1000000) (hp : p ≤ 2000000) :
    Calls Tryz.prog 54 #[.pointer (some ⟨g, 0, none⟩), .string s, .int .i64 (p : Int)] w fun e w' => FrAns s p e ∧ Below w.heap.size w w' := by
  have mixed : Tryz.prog.follows .mixedOrders = true := by kernel_rfl
  have HB0 := Lib.hid (ext_alloc w (.cells #[.int .i64 0, .string ⟨#[]⟩, .int .i64 0, .int .i64 0] 59))
  have q0 : ¬ (p : Int) < 0 := by omega
  by_cases h1 : (s.size : Int) < (p : Int)
  · have HN := Lib.hid (show ¬ GF s p from fun h => by have := h.1; omega)
    go_enter Tryz.func54, Tryz.ntmps54
    go_wp2_with fail
    refine bodyPost_ret (v := .tuple #[fagg 0 ⟨#[]⟩ 0 0, .int .i64 2]) (by simp [results, go_sem, fagg]) rfl ?_
    exact ⟨.inr ⟨HN.out, 2, by omega, rfl⟩, HB0.out⟩
  have h2 : IntKind.i64.wrap ((s.size : Int) - (p : Int)) = (s.size : Int) - (p : Int) := by rw [IntKind.wrap_i64]; omega
  by_cases h3 : (s.size : Int) - (p : Int) < 5
  · have HN := Lib.hid (show ¬ GF s p from fun h => by have := h.1; omega)
    go_enter Tryz.func54, Tryz.ntmps54
    go_wp2_with fail
    refine bodyPost_ret (v := .tuple #[fagg 0 ⟨#[]⟩ 0 0, .int .i64 4]) (by simp [results, go_sem, fagg]) rfl ?_
    exact ⟨.inr ⟨HN.out, 4, by omega, rfl⟩, HB0.out⟩
  have h4 : IntKind.i64.wrap ((p : Int) + 1) = ((p + 1 : Nat) : Int) := by rw [IntKind.wrap_i64]; omega
  have HU1 := Lib.hid (unfix_any s (p + 1) (w.alloc (.cells #[.int .i64 0, .string ⟨#[]⟩, .int .i64 0, .int .i64 0] 59)) (by omega) (by omega))
  have hps : p < s.size := by omega
  have hps2 : (p : Int) < (s.size : Int) := by omega
  have hk8 := by4_get s p hps
  have h64 : wrap64 (s[p].toNat : Int) = (s[p].toNat : Int) := by have := s[p].toNat_lt; unfold wrap64; omega
  have hfn := u4_lt s.data.toList (p + 1)
  have HFN := Lib.hid (show fn s p = u4 s.data.toList (p + 1) from rfl)
  rw [← HFN.out] at HU1 hfn
  by_cases h5 : 1 ≤ by4 s.data.toList p ∧ by4 s.data.toList p ≤ 4
  · have HK := Lib.hid (known_yes (by4 s.data.toList p) (w.alloc (.cells #[.int .i64 0, .string ⟨#[]⟩, .int .i64 0, .int .i64 0] 59)) h5)
    rw [hk8] at HK
    by_cases h6 : (60000 : Int) < (fn s p : Int)
    · have HN := Lib.hid (show ¬ GF s p from fun h => by have := h.2.2.1; rw [← HFN.out] at this; omega)
      clear h5 hk8
      generalize fn s p = N at *
      go_enter Tryz.func54, Tryz.ntmps54
      go_wp2_with fail
      refine HU1.out.mono ?_
      rintro e1 w1 ⟨rfl, rfl⟩
      go_wp2_with fail
      refine HK.out.mono ?_
      rintro e1 w1 ⟨rfl, rfl⟩
      go_wp2_with fail
      refine bodyPost_ret (v := .tuple #[fagg 0 ⟨#[]⟩ 0 0, .int .i64 3]) (by simp [results, go_sem, fagg]) rfl ?_
      exact ⟨.inr ⟨HN.out, 3, by omega, rfl⟩, HB0.out⟩
    have h7 : IntKind.i64.wrap ((s.size : Int) - (p : Int) - 5) = (s.size : Int) - (p : Int) - 5 := by rw [IntKind.wrap_i64]; omega
    have h8 : IntKind.i64.wrap ((s.size : Int) - (p : Int) - 5 - 4) = (s.size : Int) - (p : Int) - 5 - 4 := by rw [IntKind.wrap_i64]; omega
    by_cases h9 : (s.size : Int) - (p : Int) - 5 - 4 < (fn s p : Int)
    · have HN := Lib.hid (show ¬ GF s p from fun h => by have := h.2.2.2.1; rw [← HFN.out] at this; omega)
      clear h5 hk8
      generalize fn s p = N at *
      go_enter Tryz.func54, Tryz.ntmps54
      go_wp2_with fail
      refine HU1.out.mono ?_
      rintro e1 w1 ⟨rfl, rfl⟩
      go_wp2_with fail
      refine HK.out.mono ?_
      rintro e1 w1 ⟨rfl, rfl⟩
      go_wp2_with fail
      refine bodyPost_ret (v := .tuple #[fagg 0 ⟨#[]⟩ 0 0, .int .i64 4]) (by simp [results, go_sem, fagg]) rfl ?_
      exact ⟨.inr ⟨HN.out, 4, by omega, rfl⟩, HB0.out⟩
    have h10 : IntKind.i64.wrap ((p : Int) + 1 + 4 + (fn s p : Int)) = ((p + 5 + fn s p : Nat) : Int) := by rw [IntKind.wrap_i64]; omega
    have HU2 := Lib.hid (unfix_any s (p + 5 + fn s p) (w.alloc (.cells #[.int .i64 0, .string ⟨#[]⟩, .int .i64 0, .int .i64 0] 59)) (by omega) (by omega))
    have hq := u4_lt s.data.toList (p + 5 + fn s p)
    have HQ := Lib.hid (show GF s p ↔ crc (s.extract p (p + 5 + fn s p)).data.toList = u4 s.data.toList (p + 5 + fn s p) from
      ⟨fun h => h.2.2.2.2, fun h => ⟨by omega, h5, by rw [← HFN.out]; omega, by rw [← HFN.out]; omega, h⟩⟩)
    have htw := ht.below HB0.out ht.lt
    have HLEN := Lib.hid (show (vu (n256 tb)).length = 256 by rw [length_vu, length_n256])
    have HTR := Lib.hid (fun (wx : World) (hb : Below (w.heap.size + 1) (w.alloc (.cells #[.int .i64 0, .string ⟨#[]⟩, .int .i64 0, .int .i64 0] 59)) wx) => (htw.below hb (by have := ht.lt; omega)).range)
    have HCR := Lib.hid (fun (wx : World) => of_any (s.extract p (p + 5 + fn s p)) wx (by rw [ByteArray.size_extract]; omega))
    have HTB := Lib.hid (show TB = (vu (n256 tb)).toArray from rfl)
    rw [HTB.out] at HCR
    have HF0 := Lib.hid (Fb.new w)
    have HSZ := Lib.hid (show (w.alloc (.cells #[.int .i64 0, .string ⟨#[]⟩, .int .i64 0, .int .i64 0] 59)).heap.size = w.heap.size + 1 by simp)
    have e1 : 0 ≤ (p : Int) := by omega
    have e2 : (p : Int) ≤ ((p + 5 + fn s p : Nat) : Int) := by omega
    have e3 : ((p + 5 + fn s p : Nat) : Int) ≤ (s.size : Int) := by omega
    have e4 : (p : Int) ≤ (p : Int) + 5 + (fn s p : Int) := by omega
    have e5 : (p : Int) + 5 + (fn s p : Int) ≤ (s.size : Int) := by omega
    have e6 : (p : Int) + 1 + 4 ≤ (p : Int) + 5 + (fn s p : Int) := by omega
    have e7 : 0 ≤ (p : Int) + 1 + 4 := by omega
    have HBD := Lib.hid (show fbody s p = s.extract (p + 5) (p + 5 + fn s p) ∧ fto s p = p + 5 + fn s p + 4 from ⟨rfl, rfl⟩)
    clear h5 htw
    generalize vu (n256 tb) = Z at *
    generalize hcr : crc (s.extract p (p + 5 + fn s p)).data.toList = C at *
    have hC : C < 4294967296 := hcr ▸ crc_lt _
    clear hcr
    generalize u4 s.data.toList (p + 5 + fn s p) = V at *
    generalize fn s p = N at *
    by_cases hCV : C = V
    · subst hCV
      have hbb : ((C : Int) != (C : Int)) = false := by simp
      have h64c : IntKind.i64.wrap (C : Int) = (C : Int) := by rw [IntKind.wrap_i64]; omega
      go_enter Tryz.func54, Tryz.ntmps54
      go_wp2_with fail
      refine HU1.out.mono ?_
      rintro e1 w1 ⟨rfl, rfl⟩
      go_wp2_with fail
      refine HK.out.mono ?_
      rintro e1 w1 ⟨rfl, rfl⟩
      go_wp2_with fail
      refine HU2.out.mono ?_
      rintro e1 w1 ⟨rfl, rfl⟩
      have HS0 := Lib.hid (And.intro (HTR.out (w.alloc (.cells #[.int .i64 0, .string ⟨#[]⟩, .int .i64 0, .int .i64 0] 59)).drew ⟨rfl, rfl, rfl, Nat.le_refl _, fun _ _ => rfl⟩) (show Below (w.heap.size + 1) (w.alloc (.cells #[.int .i64 0, .string ⟨#[]⟩, .int .i64 0, .int .i64 0] 59)) (w.alloc (.cells #[.int .i64 0, .string ⟨#[]⟩, .int .i64 0, .int .i64 0] 59)).drew from ⟨rfl, rfl, rfl, Nat.le_refl _, fun _ _ => rfl⟩))
      go_wp2_with fail
      generalize w.alloc (.cells #[.int .i64 0, .string ⟨#[]⟩, .int .i64 0, .int .i64 0] 59) = w1 at *
      have HUD := Lib.hid Tryz.underlying73
      have hlz : (Tryz.prog.info? 73).map (·.size) = some Z.length := by rw [HLEN.out]; kernel_rfl
      have hud := Tryz.underlying73
      go_region_held3 (fun wx => wx.rangeAt g 0 Z ∧ Below (w.heap.size + 1) w1 wx) (first | exact HS0.out | assumption) (first
        | (go_at_call 30; refine (HCR.out _).mono ?_; rintro e2 w2 ⟨rfl, hb2⟩; have hB2 := HS0.out.2.trans (hb2.mono (by have := HS0.out.2.size; have := HSZ.out; simp at *; omega)); have hS2 := And.intro (HTR.out _ hB2) hB2))
      have hR := HF0.out.below hS2.2 (by omega)
      have HR := Lib.hid hR
      have HBE := Lib.hid (HB0.out.trans (hS2.2.mono (by omega)))
      have r0 := hR.c0
      have r1 := hR.c1
      have r2 := hR.c2
      have r3 := hR.c3
      have f0 := hR.fz 0
      have f1 := hR.fz 1
      have f2 := hR.fz 2
      have f3 := hR.fz 3
      clear hR hS2 hB2 hb2 hlz hud
      go_wp2_with fail
      go_region_held3 (fun _ => True) (trivial) (fail)
      go_wp2_with fail
      have t1 : IntKind.i64.wrap (s[p].toNat : Int) = (s[p].toNat : Int) := by rw [IntKind.wrap_i64]; have := s[p].toNat_lt; omega
      have t2 : ((p : Int) + 1 + 4).toNat = p + 5 := by omega
      have t3 : ((p : Int) + 5 + (N : Int)).toNat = p + 5 + N := by omega
      refine bodyPost_ret (v := .tuple #[fagg s[p].toNat (s.extract (p + 5) (p + 5 + N)) p (p + 5 + N + 4), .int .i64 0]) (by simp [results, go_sem, r0, r1, r2, r3, fagg, t1, t2, t3]) rfl ?_
      exact ⟨.inl ⟨HQ.out.2 trivial, by rw [hk8, HBD.out.1, HBD.out.2]⟩, below_drewN (below_fill4 HBE.out (Nat.le_refl _)) 1⟩
    · have hne : ¬ (C : Int) = (V : Int) := by omega
      have hbb : ((C : Int) != (V : Int)) = true := by simp; omega
      have h64c : IntKind.i64.wrap (C : Int) = (C : Int) := by rw [IntKind.wrap_i64]; omega
      go_enter Tryz.func54, Tryz.ntmps54
      go_wp2_with fail
      refine HU1.out.mono ?_
      rintro e1 w1 ⟨rfl, rfl⟩
      go_wp2_with fail
      refine HK.out.mono ?_
      rintro e1 w1 ⟨rfl, rfl⟩
      go_wp2_with fail
      refine HU2.out.mono ?_
      rintro e1 w1 ⟨rfl, rfl⟩
      have HS0 := Lib.hid (And.intro (HTR.out (w.alloc (.cells #[.int .i64 0, .string ⟨#[]⟩, .int .i64 0, .int .i64 0] 59)).drew ⟨rfl, rfl, rfl, Nat.le_refl _, fun _ _ => rfl⟩) (show Below (w.heap.size + 1) (w.alloc (.cells #[.int .i64 0, .string ⟨#[]⟩, .int .i64 0, .int .i64 0] 59)) (w.alloc (.cells #[.int .i64 0, .string ⟨#[]⟩, .int .i64 0, .int .i64 0] 59)).drew from ⟨rfl, rfl, rfl, Nat.le_refl _, fun _ _ => rfl⟩))
      go_wp2_with fail
      generalize w.alloc (.cells #[.int .i64 0, .string ⟨#[]⟩, .int .i64 0, .int .i64 0] 59) = w1 at *
      have HUD := Lib.hid Tryz.underlying73
      have hlz : (Tryz.prog.info? 73).map (·.size) = some Z.length := by rw [HLEN.out]; kernel_rfl
      have hud := Tryz.underlying73
      go_region_held3 (fun wx => wx.rangeAt g 0 Z ∧ Below (w.heap.size + 1) w1 wx) (first | exact HS0.out | assumption) (first
        | (go_at_call 30; refine (HCR.out _).mono ?_; rintro e2 w2 ⟨rfl, hb2⟩; have hB2 := HS0.out.2.trans (hb2.mono (by have := HS0.out.2.size; have := HSZ.out; simp at *; omega)); have hS2 := And.intro (HTR.out _ hB2) hB2))
      have hR := HF0.out.below hS2.2 (by omega)
      have HR := Lib.hid hR
      have HBE := Lib.hid (HB0.out.trans (hS2.2.mono (by omega)))
      have r0 := hR.c0
      have r1 := hR.c1
      have r2 := hR.c2
      have r3 := hR.c3
      have f0 := hR.fz 0
      have f1 := hR.fz 1
      have f2 := hR.fz 2
      have f3 := hR.fz 3
      clear hR hS2 hB2 hb2 hlz hud
      go_wp2_with fail
      refine bodyPost_ret (v := .tuple #[fagg 0 ⟨#[]⟩ 0 0, .int .i64 7]) (by simp [results, go_sem, r0, r1, r2, r3, fagg]) rfl ?_
      exact ⟨.inr ⟨fun h => hCV (HQ.out.1 h), 7, by omega, rfl⟩, below_fill4 HBE.out (Nat.le_refl _)⟩
  · have HN := Lib.hid (show ¬ GF s p from fun h => h5 h.2.1)
    have HK := Lib.hid (known_no (by4 s.data.toList p) (w.alloc (.cells #[.int .i64 0, .string ⟨#[]⟩, .int .i64 0, .int .i64 0] 59)) h5)
    rw [hk8] at HK
    clear h5 hk8
    generalize fn s p = N at *
    go_enter Tryz.func54, Tryz.ntmps54
    go_wp2_with fail
    refine HU1.out.mono ?_
    rintro e1 w1 ⟨rfl, rfl⟩
    go_wp2_with fail
    refine HK.out.mono ?_
    rintro e1 w1 ⟨rfl, rfl⟩
    go_wp2_with fail
    refine bodyPost_ret (v := .tuple #[fagg 0 ⟨#[]⟩ 0 0, .int .i64 160]) (by simp [results, go_sem, fagg]) rfl ?_
    exact ⟨.inr ⟨HN.out, 160, by omega, rfl⟩, HB0.out⟩
end Fm
end Go.Proofs.YtpbphhpldlckbaaGreat
namespace Go.Proofs.YtpbphhpldlckbaaGreat
namespace Fm
open Go.RowKit Cr

/-- What stands ahead of a frame's sum; a frame. -/
def frA (k : UInt8) (b : ByteArray) : ByteArray := ⟨#[k]⟩ ++ ⟨(le 4 b.size).toArray⟩ ++ b
def frB (k : UInt8) (b : ByteArray) : ByteArray := frA k b ++ ⟨(le 4 (crc (frA k b).data.toList)).toArray⟩
theorem size_frA (k : UInt8) (b : ByteArray) : (frA k b).size = b.size + 5 := by
  unfold frA
  rw [ByteArray.size_append, ByteArray.size_append]
  show 1 + (le 4 b.size).toArray.size + b.size = _
  rw [List.size_toArray, length_le]; omega

set_option maxHeartbeats 3200000 in
set_option maxRecDepth 100000 in
theorem put_any (k : UInt8) (b : ByteArray) (w : World) (hk : 1 ≤ k.toNat ∧ k.toNat ≤ 4) (hb : b.size ≤ 60000) :
    Calls Tryz.prog 12 #[.int .i64 (k.toNat : Int), .string b] w fun e w' => e = .returned (.tuple #[.string (frB k b), .int .i64 0]) ∧ Below w.heap.size w w' := by
  have mixed : Tryz.prog.follows .mixedOrders = true := by kernel_rfl
  have HK := Lib.hid (known_yes k.toNat w hk)
  have HF := Lib.hid (fix_any b.size w (by omega))
  have q1 : ¬ (60000 : Int) < (b.size : Int) := by omega
  have q2 : (k.toNat : Int) % 256 = (k.toNat : Int) := by omega
  go_enter Tryz.func12, Tryz.ntmps12
  go_wp2_with fail
  refine HK.out.mono ?_
  rintro e1 w1 ⟨rfl, rfl⟩
  go_wp2_with fail
  refine HF.out.mono ?_
  rintro e2 w2 ⟨rfl, hb2⟩
  have hrd : Rd (w2.alloc (.cells #[.int .u8 (k.toNat : Int)] 5)) (w2.alloc (.cells #[.int .u8 (k.toNat : Int)] 5)).heap.size 1 (some ⟨w2.heap.size, 0, none⟩) 1 (bv [k]) := Rd.of_own (World.ownsRow_lit (base := w2.heap.size) (e := 5) (size := 1) w2 #[.int .u8 (k.toNat : Int)] 1 (Nat.le_refl _) (by simp [maxLen]) rfl)
  have hs := run_str (l := [k]) (c := 1) hrd
  have HW2 := Lib.hid (hb2.trans ((ext_alloc w2 (.cells #[.int .u8 (k.toNat : Int)] 5)).mono hb2.size))
  have hl1 : ¬ 9223372036854775807 < 1 + (le 4 b.size).length := by rw [length_le]; omega
  have hl2 : ¬ 9223372036854775807 < 1 + (le 4 b.size).length + b.size := by rw [length_le]; omega
  have HA := Lib.hid (show ({ data := #[k] } : ByteArray) ++ { data := (le 4 b.size).toArray } ++ b = frA k b from rfl)
  have HOF := Lib.hid (fun (wx : World) => of_any (frA k b) wx (by rw [size_frA]; omega))
  have HFX := Lib.hid (fun (wx : World) => fix_any (crc (frA k b).data.toList) wx (crc_lt _))
  have HTA := Lib.hid (table_any (w2.alloc (.cells #[.int .u8 (k.toNat : Int)] 5)))
  have hc := crc_lt (frA k b).data.toList
  have HB := Lib.hid (show frB k b = frA k b ++ ⟨(le 4 (crc (frA k b).data.toList)).toArray⟩ from rfl)
  have hsz := size_frA k b
  clear hb2 hrd
  generalize crc (frA k b).data.toList = C at *
  have h64 : IntKind.i64.wrap (C : Int) = (C : Int) := by rw [IntKind.wrap_i64]; omega
  go_wp2_with fail
  rw [HA.out]
  generalize frA k b = F at *
  refine HTA.out.mono ?_
  rintro e3 w3 ⟨rfl, hb3⟩
  have HW3 := Lib.hid (HW2.out.trans (hb3.mono HW2.out.size))
  clear hb3 hs hl1 hl2
  go_wp2_with fail
  refine (HOF.out w3).mono ?_
  rintro e4 w4 ⟨rfl, hb4⟩
  have HW4 := Lib.hid (HW3.out.trans (hb4.mono HW3.out.size))
  clear hb4
  go_wp2_with fail
  refine (HFX.out w4).mono ?_
  rintro e5 w5 ⟨rfl, hb5⟩
  have HW5 := Lib.hid (HW4.out.trans (hb5.mono HW4.out.size))
  have hl3 : ¬ 9223372036854775807 < F.size + (le 4 C).length := by rw [length_le]; omega
  clear hb5
  go_wp2_with fail
  go_ret2
  exact ⟨by rw [HB.out]; rfl, HW5.out⟩

set_option maxHeartbeats 3200000 in
set_option maxRecDepth 100000 in
theorem Get_any (s : ByteArray) (p : Nat) (w : World) (hs : s.size ≤ 1000000) (hp : p ≤ 2000000) :
    Calls Tryz.prog 33 #[.string s, .int .i64 (p : Int)] w fun e w' => FrAns s p e ∧ Below w.heap.size w w' := by
  have mixed : Tryz.prog.follows .mixedOrders = true := by kernel_rfl
  have hz : (Tryz.prog.info? 73).map (fun i => (i.zero, i.size)) = some (some (.agg (Array.replicate 256 (.int .u32 0))), 256) := by kernel_rfl
  have hsz : (Tryz.prog.info? 73).map (·.size) = some 256 := by kernel_rfl
  have HZ := Lib.hid hz
  have HSI := Lib.hid hsz
  have HT := Lib.hid (table_any (w.alloc (.cells #[.int .i64 0, .string ⟨#[]⟩, .int .i64 0, .int .i64 0] 59)))
  have HB0 := Lib.hid (ext_alloc w (.cells #[.int .i64 0, .string ⟨#[]⟩, .int .i64 0, .int .i64 0] 59))
  have HF0 := Lib.hid (Fb.new w)
  have HTL := Lib.hid (show TB.size = 256 by unfold TB; rw [List.size_toArray, length_vu, length_n256])
  have HT1 := Lib.hid (show TB.all (·.oneCell') = true from all_oneCell_toArray (vu_one _))
  have HLT := Lib.hid (show w.heap.size < (w.alloc (.cells #[.int .i64 0, .string ⟨#[]⟩, .int .i64 0, .int .i64 0] 59)).heap.size by simp)
  clear hz hsz
  go_enter Tryz.func33, Tryz.ntmps33
  go_wp2_with fail
  generalize w.alloc (.cells #[.int .i64 0, .string ⟨#[]⟩, .int .i64 0, .int .i64 0] 59) = w0 at *
  refine HT.out.mono ?_
  rintro e1 w1 ⟨rfl, hb1⟩
  have HG := Lib.hid (get_any w1.heap.size s p (w1.alloc (.cells TB 73)) (tb_row w1) hs hp)
  have HB1 := Lib.hid (HB0.out.trans (hb1.mono HB0.out.size))
  have HB2 := Lib.hid (HB1.out.trans ((ext_alloc w1 (.cells TB 73)).mono HB1.out.size))
  have HF2 := Lib.hid ((HF0.out.below hb1 HLT.out).below (ext_alloc w1 (.cells TB 73)) (Nat.lt_of_lt_of_le HLT.out hb1.size))
  have HL2 := Lib.hid (show w.heap.size < (w1.alloc (.cells TB 73)).heap.size by have := HLT.out; have := hb1.size; simp; omega)
  clear hb1 HT
  generalize TB = Z at *
  go_wp2_with (first | (refine wpList_alloc_zero rfl 73 rfl _ _ HZ.out ?_) | (refine wpList_store_new w1 (Array.replicate 256 (.int .u32 0)) rfl 73 (.tmp 6) (.tmp 7) rfl Z (by simp [go_sem, Act.eval]) (by simp [go_sem, Act.eval]) (by rw [HTL.out]; exact HSI.out) (by rw [HTL.out]; simp) HT1.out ?_))
  generalize w1.alloc (.cells Z 73) = w2 at *
  refine HG.out.mono ?_
  rintro e3 w3 ⟨ha, hb3⟩
  have HB3 := Lib.hid (HB2.out.trans (hb3.mono HB2.out.size))
  have HR3 := Lib.hid (HF2.out.below hb3 HL2.out)
  clear hb3 HG
  rcases ha with ⟨hgf, rfl⟩ | ⟨hgf, x, hx, rfl⟩
  · have HGF := Lib.hid hgf
    have hR := HR3.out
    have r0 := hR.c0
    have r1 := hR.c1
    have r2 := hR.c2
    have r3 := hR.c3
    have f0 := hR.fz 0
    have f1 := hR.fz 1
    have f2 := hR.fz 2
    have f3 := hR.fz 3
    clear hR
    unfold fagg
    go_wp2_with fail
    refine bodyPost_ret (v := .tuple #[fagg (by4 s.data.toList p) (fbody s p) p (fto s p), .int .i64 0]) (by simp [results, go_sem, r0, r1, r2, r3, fagg]) rfl ?_
    exact ⟨.inl ⟨HGF.out, rfl⟩, below_fill4 HB3.out (Nat.le_refl _)⟩
  · have HGF := Lib.hid (And.intro hgf hx)
    have hR := HR3.out
    have r0 := hR.c0
    have r1 := hR.c1
    have r2 := hR.c2
    have r3 := hR.c3
    have f0 := hR.fz 0
    have f1 := hR.fz 1
    have f2 := hR.fz 2
    have f3 := hR.fz 3
    clear hR
    unfold fagg
    go_wp2_with fail
    refine bodyPost_ret (v := .tuple #[fagg 0 ⟨#[]⟩ 0 0, .int .i64 x]) (by simp [results, go_sem, r0, r1, r2, r3, fagg]) rfl ?_
    exact ⟨.inr ⟨HGF.out.1, x, HGF.out.2, rfl⟩, below_fill4 HB3.out (Nat.le_refl _)⟩
end Fm
end Go.Proofs.YtpbphhpldlckbaaGreat
namespace Go.Proofs.YtpbphhpldlckbaaGreat
namespace Rg
open Go.RowKit Go.Shelf

variable {F : Fence} {n : Nat} {P : Program}
/-- The blocks of S that hold cells lie as they lay. -/
structure Ks (S : Nat → Prop) (W W' : World) : Prop where
  size : W.heap.size ≤ W'.heap.size
  same : ∀ k o, W.heap[k]? = some o → o.isCells = true → S k → W'.heap[k]? = some o
theorem Ks.trans {S : Nat → Prop} {A B C : World} (h : Ks S A B) (k : Ks S B C) : Ks S A C := ⟨Nat.le_trans h.size k.size, fun i o hi ho hS => k.same i o (h.same i o hi ho hS) ho hS⟩
theorem Ks.putObj {S : Nat → Prop} {W : World} {l : Nat} {o : Obj} (o' : Obj) (h : W.heap[l]? = some o) (ho : o.isCells = false) : Ks S W (W.putObj l o') := by
  refine ⟨(grownBy_putObj' W l o').size, fun k p hk hp _ => ?_⟩
  rw [World.putObj_heap_other (by rintro rfl; rw [h] at hk; cases hk; rw [ho] at hp; cases hp)]
  exact hk
/-- The iterator gives xs, one behind the other; it turns no block but b, and new ones. -/
def Gives {α : Type} (F : Fence) (n : Nat) (P : Program) (g : Nat) (lb : Array Value) (enc : α → Value) (R : Nat → Prop) (b : Nat) (xs : List α) (w : World) : Prop :=
  ∀ (l : Nat) (J : List α → (Nat → Prop) → World → Prop) (W : World), Below w.heap.size w W →
    (∀ pre S S' W1 W2, J pre S W1 → W1.grownBy W2 (some b) → (∀ k, S' k → S k ∨ W1.heap.size ≤ k ∧ k < W2.heap.size) → J pre S' W2) →
    (∀ pre x rest S W1, xs = pre ++ x :: rest → J pre S W1 → YieldAt F (n - 1) P l #[enc x] W1 fun e W' => e = .returned (.bool true) ∧ J (pre ++ [x]) S W' ∧ Ks S W1 W') →
    J [] R W →
    CallsIn F n P g (#[.func (.yield l) #[] #[]] ++ lb) W fun e W' => (∃ v, e = .returned v) ∧ ∃ S, J xs S W'

theorem wpIn_range_own {α : Type} {g : Operand} {p : Tmp} {assign body : Code} {Q : Exit → Act → World → Prop} {a : Act} {w : World}
    (hro : F.round = none) (h1 : 1 ≤ n) {gf : Nat} {lb : Array Value} (hg : a.eval g = .func (.func gf) #[] lb) (hFg : F.fn gf) (eg : ∀ args w, (callFunc gf args).run P w = .ok (.enter gf args) w)
    {enc : α → Value} {R : Nat → Prop} {b : Nat} {xs : List α} (hb : b < w.heap.size) (hseq : Gives F (n - 1) P gf lb enc R b xs w)
    (I : List α → (Nat → Prop) → World → Prop) (hI : ∀ pre S S' W W' row, I pre S W → W.grownBy W' row → (∀ r, row = some r → r = b ∨ w.heap.size ≤ r ∧ ∃ o : Obj, W.heap[r]? = some o ∧ o.isCells = false) →
      (∀ k, S' k → S k ∨ W.heap.size ≤ k ∧ k < W'.heap.size) → I pre S' W')
    (h0 : I [] R w) (Ax : List α → α → (Nat → Prop) → Act → World → Prop)
    (hAx : ∀ pre x S a' W W' row, Ax pre x S a' W → W.grownBy W' row → (∀ r, row = some r → r = b ∨ w.heap.size ≤ r ∧ ∃ o : Obj, W.heap[r]? = some o ∧ o.isCells = false) → Ax pre x S a' W')
    (hassign : ∀ (l : Nat) (pre : List α) (x : α) (rest : List α) (S : Nat → Prop) (W : World), xs = pre ++ x :: rest → I pre S W →
      assign.wpIn (F.inRound l) (n - 1 - 1) P (Exit.then (fun a' W' => KeepsOthers W W' ∧ Ks S W W' ∧ Ax pre x S a' W') (fun _ _ _ => False)) { tmps := (#[p].zip #[enc x]).foldl (fun t (p, v) => t.setIfInBounds p v) a.tmps, defers := [] } W)
    (hbody : ∀ (l : Nat) (pre : List α) (x : α) (rest : List α) (S : Nat → Prop) (a' : Act) (W : World), xs = pre ++ x :: rest → Ax pre x S a' W →
      body.wpIn (F.inRound l) (n - 1 - 1) P (fun e _ W' => e = .normal ∧ KeepsOthers W W' ∧ Ks S W W' ∧ I (pre ++ [x]) S W') a' W)
    (hdone : ∀ (D : Nat) (S : Nat → Prop) (W : World), w.heap.size ≤ D → I xs S W → W.heap[D]? = some (.deferred (some [])) → Q .normal { a with defers := { target := .collected D, args := #[] } :: a.defers } W) :
    (Code.rangeFunc g #[p] assign body).wpIn F n P Q a w := by
  refine wpIn_rangeFunc ?_
  intro fn hfn
  rw [hro]
  obtain ⟨rec, hrec⟩ : ∃ rec : LoopState → Option Code → Loop, rec = fun st pe => { state := st, pending := pe, fn, tmps := a.tmps, params := #[p], assign, body, defers := w.heap.size } := ⟨_, rfl⟩
  obtain ⟨W1, hW1⟩ : ∃ W1, (w.alloc (.deferred (some []))).alloc (.loop (rec .ready none)) = W1 := ⟨_, rfl⟩
  have hL1 : W1.heap[w.heap.size + 1]? = some (.loop (rec .ready none)) := by
    rw [← hW1]; have := World.alloc_heap_new (w.alloc (.deferred (some []))) (.loop (rec .ready none)); rwa [World.size_alloc] at this
  have hK1 : W1.heap[w.heap.size]? = some (.deferred (some [])) := by
    rw [← hW1]; exact (Below.heap_alloc _ _ _ (by simp)).trans (World.alloc_heap_new w _)
  have hIa : ∀ pre S W o, I pre S W → I pre S (W.alloc o) := fun pre S W o h => hI pre S S W _ none h (World.grownBy_alloc W o none) (fun r e => by cases e) (fun _ h => .inl h)
  have hIp : ∀ pre S W l (o o' : Obj), I pre S W → w.heap.size ≤ l → W.heap[l]? = some o → o.isCells = false → I pre S (W.putObj l o') := fun pre S W l o o' h hl ho hc =>
    hI pre S S W _ (some l) h (grownBy_putObj' W l o') (fun r e => by cases e; exact .inr ⟨hl, o, ho, hc⟩) (fun _ h => .inl h)
  have hI1 : I [] R W1 := by rw [← hW1]; exact hIa _ _ _ _ (hIa _ _ _ _ h0)
  have hb1 : Below w.heap.size w W1 := by
    rw [← hW1]; exact ((Below.refl _ w).alloc (Nat.le_refl _) _).alloc (by simp) _
  refine ⟨w.heap.size + 1, [{ target := .collected w.heap.size, args := #[] }], W1, { target := .fn (.func gf) lb, args := #[.func (.yield (w.heap.size + 1)) #[] #[]] }, W1, gf,
    #[.func (.yield (w.heap.size + 1)) #[] #[]] ++ lb, W1, ?_, ?_, ?_, ?_, fun _ => h1, ?_⟩
  · rw [← hW1, hrec]; exact run_enterLoop_outer _ _ _ _ _
  · simp only [resolve, hg]
    simp [go_sem]
  · intro f' hf'; simp [Target.leads] at hf'; subst hf'; exact hFg
  · simp [invoke, go_sem, eg]
  · have hst : ∀ {A B : World} {k : Nat} {o : Obj}, A.grownBy B (some b) → w.heap.size ≤ k → A.heap[k]? = some o → B.heap[k]? = some o := fun hgr hk ho =>
      (hgr.block _ (Array.getElem?_eq_some_iff.1 ho).1 (by intro e; cases e; omega)).trans ho
    refine (hseq (w.heap.size + 1)
      (fun pre S W => I pre S W ∧ W.heap[w.heap.size + 1]? = some (.loop (rec .ready none)) ∧ W.heap[w.heap.size]? = some (.deferred (some [])))
      W1 hb1 (fun pre S S' A B hs hgr hS => ⟨hI pre S S' A B _ hs.1 hgr (fun r e => by cases e; exact .inl rfl) hS, hst hgr (by omega) hs.2.1, hst hgr (by omega) hs.2.2⟩) ?_ ⟨hI1, hL1, hK1⟩).mono ?_
    · rintro pre x rest S W hxs ⟨hi, hl, hk⟩
      have hlt : w.heap.size + 1 < W.heap.size := (Array.getElem?_eq_some_iff.1 hl).1
      have hy := run_yield (P := P) (args := #[enc x]) hl (by rw [hrec]; rfl)
      rw [hrec] at hy
      refine ⟨fn, _, assign, body, hy, roundIn_of_wpIn hfn (wpIn_mono (hassign (w.heap.size + 1) pre x rest S W hxs hi) ?_)⟩
      rintro e a' W' hp
      cases e with
      | normal =>
        obtain ⟨hk0, hkc0, hax⟩ := hp
        have hl0 := hk0.same _ _ hl rfl
        have hk00 := hk0.same _ _ hk rfl
        have hlt0 : w.heap.size + 1 < W'.heap.size := (Array.getElem?_eq_some_iff.1 hl0).1
        refine ⟨_, run_beginRound hl0 (by rw [hrec]), ?_⟩
        have hl2 : (W'.putObj (w.heap.size + 1) (.loop { rec .ready none with state := .busy })).heap[w.heap.size + 1]? = some (.loop { rec .ready none with state := .busy }) := World.putObj_heap_same hlt0
        have hk2 : (W'.putObj (w.heap.size + 1) (.loop { rec .ready none with state := .busy })).heap[w.heap.size]? = some (.deferred (some [])) := (World.putObj_heap_other (by omega)).trans hk00
        have hw2 : Ks S W (W'.putObj (w.heap.size + 1) (.loop { rec .ready none with state := .busy })) := hkc0.trans (Ks.putObj _ hl0 rfl)
        refine wpIn_mono (hbody _ pre x rest S a' _ hxs (hAx _ _ _ _ _ _ (some (w.heap.size + 1)) hax (grownBy_putObj' _ _ _) (fun r e => by cases e; exact .inr ⟨by omega, _, hl0, rfl⟩))) ?_
        rintro e a3 W3 ⟨rfl, hk3, hkp3, hi3⟩
        have hl3 := hk3.same _ _ hl2 rfl
        have hr := run_endRound (P := P) none hl3
        rw [hrec] at hr hl3
        refine ⟨_, _, hr, rfl, ⟨hIp _ _ _ _ _ _ hi3 (by omega) hl3 rfl, ?_, (World.putObj_heap_other (by omega)).trans (hk3.same _ _ hk2 rfl)⟩, (hw2.trans hkp3).trans (Ks.putObj _ hl3 rfl)⟩
        rw [hrec]
        exact World.putObj_heap_same (Array.getElem?_eq_some_iff.1 hl3).1
      | ret => exact hp.elim
      | exit id => exact hp.elim
      | goto t => exact hp.elim
      | panic ch => exact hp.elim
      | outgrown => exact hp.elim
    · rintro e W2 ⟨⟨v, rfl⟩, S, hi, hl, hk⟩
      exact ⟨none, _, by have := run_endLoop (P := P) hl (by rw [hrec]; simp); rw [hrec] at this; exact this, hdone _ S _ (Nat.le_refl _) (hIp _ _ _ _ _ _ hi (by omega) hl rfl) ((World.putObj_heap_other (by omega)).trans hk)⟩
end Rg
end Go.Proofs.YtpbphhpldlckbaaGreat
