/- frame: known, get. frame: Put, Get. A range over an iterator that turns a variable of its own; the body never leaves the loop. frame.frames$1: it gives the frames that stand one behind the other. frame: frames, Scan. strings.Builder: Len, String: the shelf's contracts at this dump (written by the kit's lay-shelf.mjs and lay-plain.mjs; cut to two). strings.Builder: copyCheck, WriteString. record: what its functions compute: plain lists, no program. record.Check. Slices of records (structs of three cells). record.Row. record.Put. head.numbers. -/
import Derived.Test.YtpbphhpldlckbaaGreatSc48
import Derived.Deep.RegionHeld3
import Derived.Test.YtpbphhpldlckbaaGreatRows
import Derived.RangeFuncNested
import Derived.RangeFuncBound
import Derived.RangeFuncCalls
import Derived.RangeFuncLeaves
import Derived.Shelf.Abstract
import Derived.Shelf.RegionOpen
import Derived.WalkKit
import Derived.OwnWalkIn
import Derived.TacticsInMore
import Derived.LoopNIn
import Derived.LoopIn
import Derived.Sort.LoopGhostIn
import Derived.Shelf.Strings.Builder1
import Derived.Test.YtpbphhpldlckbaaGreatSc15
import Derived.Test.YtpbphhpldlckbaaGreatSc24
import Derived.Test.YtpbphhpldlckbaaGreatSc40
import Derived.Deep.LoopGhost
namespace Go.Proofs.YtpbphhpldlckbaaGreat
namespace Fm
open Go.RowKit Cr

theorem known_yes (k : Nat) (w : World) (h : 1 ≤ k ∧ k ≤ 4) : Calls Tryz.prog 28 #[.int .i64 (k : Int)] w fun e w' => e = .returned (.bool true) ∧ w = w' := by
  have h1 : (1 : Int) ≤ (k : Int) := by omega
  have h2 : (k : Int) ≤ 4 := by omega
  go_enter Tryz.func28, Tryz.ntmps28
  go_wp2_with fail
  go_ret
  exact ⟨rfl, rfl⟩
theorem known_no (k : Nat) (w : World) (h : ¬ (1 ≤ k ∧ k ≤ 4)) : Calls Tryz.prog 28 #[.int .i64 (k : Int)] w fun e w' => e = .returned (.bool false) ∧ w = w' := by
  by_cases h1 : (1 : Int) ≤ (k : Int)
  · have h2 : ¬ (k : Int) ≤ 4 := by omega
    go_enter Tryz.func28, Tryz.ntmps28
    go_wp2_with fail
    go_ret
    exact ⟨rfl, rfl⟩
  · go_enter Tryz.func28, Tryz.ntmps28
    go_wp2_with fail
    go_ret
    exact ⟨rfl, rfl⟩
/-- A frame as a value, and in a block. -/
def fagg (k : Nat) (b : ByteArray) (p t : Nat) : Value := .agg #[.int .i64 (k : Int), .string b, .int .i64 (p : Int), .int .i64 (t : Int)]
def Fb (w : World) (g : Nat) (k : Int) (b : ByteArray) (p t : Int) : Prop := w.heap[g]? = some (.cells #[.int .i64 k, .string b, .int .i64 p, .int .i64 t] 59 (0, 0))
section
variable {w w' : World} {g : Nat} {k p t : Int} {b : ByteArray} (h : Fb w g k b p t)
include h
theorem Fb.lt : g < w.heap.size := (Array.getElem?_eq_some_iff.1 h).1
theorem Fb.c0 : w.cell? ⟨g, 0, none⟩ = some (.int .i64 k) := by rw [cell_of_row w g 0 _ _ (0, 0) h]; rfl
theorem Fb.c1 : w.cell? ⟨g, 1, none⟩ = some (.string b) := by rw [cell_of_row w g 1 _ _ (0, 0) h]; rfl
theorem Fb.c2 : w.cell? ⟨g, 2, none⟩ = some (.int .i64 p) := by rw [cell_of_row w g 2 _ _ (0, 0) h]; rfl
theorem Fb.c3 : w.cell? ⟨g, 3, none⟩ = some (.int .i64 t) := by rw [cell_of_row w g 3 _ _ (0, 0) h]; rfl
theorem Fb.fz (j : Nat) : w.frozen? ⟨g, j, none⟩ = false := frozen_of_row w g j _ _ h
theorem Fb.below {B : Nat} (hk : Below B w w') (hb : g < B) : Fb w' g k b p t := (hk.block g hb).trans h
theorem Fb.set0 (x : Int) : Fb (w.setCell ⟨g, 0, none⟩ (.int .i64 x)) g x b p t := by
  unfold Fb at *; simp [World.setCell, Array.getElem?_modify, h]
theorem Fb.set1 (x : ByteArray) : Fb (w.setCell ⟨g, 1, none⟩ (.string x)) g k x p t := by
  unfold Fb at *; simp [World.setCell, Array.getElem?_modify, h]
theorem Fb.set2 (x : Int) : Fb (w.setCell ⟨g, 2, none⟩ (.int .i64 x)) g k b x t := by
  unfold Fb at *; simp [World.setCell, Array.getElem?_modify, h]
theorem Fb.set3 (x : Int) : Fb (w.setCell ⟨g, 3, none⟩ (.int .i64 x)) g k b p x := by
  unfold Fb at *; simp [World.setCell, Array.getElem?_modify, h]
end
theorem Fb.new (w : World) : Fb (w.alloc (.cells #[.int .i64 0, .string ⟨#[]⟩, .int .i64 0, .int .i64 0] 59)) w.heap.size 0 ⟨#[]⟩ 0 0 := heap_alloc_new w _
theorem Fb.fill {w : World} {g : Nat} {k p t : Int} {b : ByteArray} (h : Fb w g k b p t) (k' p' t' : Int) (b' : ByteArray) :
    Fb ((((w.setCell ⟨g, 0, none⟩ (.int .i64 k')).setCell ⟨g, 1, none⟩ (.string b')).setCell ⟨g, 2, none⟩ (.int .i64 p')).setCell ⟨g, 3, none⟩ (.int .i64 t')) g k' b' p' t' := (((h.set0 k').set1 b').set2 p').set3 t'
theorem below_fill4 {w w' : World} {b B : Nat} {v0 v1 v2 v3 : Value} (h : Below B w w') (hb : B ≤ b) : Below B w ((((w'.setCell ⟨b, 0, none⟩ v0).setCell ⟨b, 1, none⟩ v1).setCell ⟨b, 2, none⟩ v2).setCell ⟨b, 3, none⟩ v3) :=
  (((h.setCell (p := ⟨b, 0, none⟩) hb v0).setCell (p := ⟨b, 1, none⟩) hb v1).setCell (p := ⟨b, 2, none⟩) hb v2).setCell (p := ⟨b, 3, none⟩) hb v3
/-- A frame stands at a place: its kind, how many bytes its body has. -/
def GF (s : ByteArray) (p : Nat) : Prop :=
  p + 5 ≤ s.size ∧ (1 ≤ by4 s.data.toList p ∧ by4 s.data.toList p ≤ 4) ∧ u4 s.data.toList (p + 1) ≤ 60000 ∧ p + 9 + u4 s.data.toList (p + 1) ≤ s.size ∧
    crc (s.extract p (p + 5 + u4 s.data.toList (p + 1))).data.toList = u4 s.data.toList (p + 5 + u4 s.data.toList (p + 1))
instance (s : ByteArray) (p : Nat) : Decidable (GF s p) := by unfold GF; infer_instance
def fn (s : ByteArray) (p : Nat) : Nat := u4 s.data.toList (p + 1)
def fbody (s : ByteArray) (p : Nat) : ByteArray := s.extract (p + 5) (p + 5 + fn s p)
def fto (s : ByteArray) (p : Nat) : Nat := p + 5 + fn s p + 4
def FrAns (s : ByteArray) (p : Nat) (e : Ending) : Prop :=
  (GF s p ∧ e = .returned (.tuple #[fagg (by4 s.data.toList p) (fbody s p) p (fto s p), .int .i64 0])) ∨ (¬ GF s p ∧ ∃ x : Int, x ≠ 0 ∧ e = .returned (.tuple #[fagg 0 ⟨#[]⟩ 0 0, .int .i64 x]))

set_option maxHeartbeats 6400000 in
set_option maxRecDepth 100000 in
theorem get_any (g : Nat) (s : ByteArray) (p : Nat) (w : World) (ht : Au w g (n256 tb)) (hs : s.size ≤ 1000000) (hp : p ≤ 2000000) :
    Calls Tryz.prog 54 #[.pointer (some ⟨g, 0, none⟩), .string s, .int .i64 (p : Int)] w fun e w' => FrAns s p e ∧ Below w.heap.size w w' := by
  have mixed : Tryz.prog.follows .mixedOrders = true := by kernel_rfl
  have HB0 := Lib.hid (ext_alloc w (.cells #[.int .i64 0, .string ⟨#[]⟩, .int .i64 0, .int .i64 0] 59))
  have q0 : ¬ (p : Int) < 0 := by omega
  by_cases h1 : (s.size : Int) < (p : Int)
  · have HN := Lib.hid (show ¬ GF s p from fun h => by have := h.1; omega)
    go_enter Tryz.func54, Tryz.ntmps54
    go_wp2_with fail
    refine bodyPost_ret (v := .tuple #[fagg 0 ⟨#[]⟩ 0 0, .int .i64 2]) (by simp [results, go_sem, fagg]) rfl ?_
    exact ⟨.inr ⟨HN.out, 2, by omega, rfl⟩, HB0.out⟩
  have h2 : IntKind.i64.wrap ((s.size : Int) - (p : Int)) = (s.size : Int) - (p : Int) := by rw [IntKind.wrap_i64]; omega
  by_cases h3 : (s.size : Int) - (p : Int) < 5
  · have HN := Lib.hid (show ¬ GF s p from fun h => by have := h.1; omega)
    go_enter Tryz.func54, Tryz.ntmps54
    go_wp2_with fail
    refine bodyPost_ret (v := .tuple #[fagg 0 ⟨#[]⟩ 0 0, .int .i64 4]) (by simp [results, go_sem, fagg]) rfl ?_
    exact ⟨.inr ⟨HN.out, 4, by omega, rfl⟩, HB0.out⟩
  have h4 : IntKind.i64.wrap ((p : Int) + 1) = ((p + 1 : Nat) : Int) := by rw [IntKind.wrap_i64]; omega
  have HU1 := Lib.hid (unfix_any s (p + 1) (w.alloc (.cells #[.int .i64 0, .string ⟨#[]⟩, .int .i64 0, .int .i64 0] 59)) (by omega) (by omega))
  have hps : p < s.size := by omega
  have hps2 : (p : Int) < (s.size : Int) := by omega
  have hk8 := by4_get s p hps
  have h64 : wrap64 (s[p].toNat : Int) = (s[p].toNat : Int) := by have := s[p].toNat_lt; unfold wrap64; omega
  have hfn := u4_lt s.data.toList (p + 1)
  have HFN := Lib.hid (show fn s p = u4 s.data.toList (p + 1) from rfl)
  rw [← HFN.out] at HU1 hfn
  by_cases h5 : 1 ≤ by4 s.data.toList p ∧ by4 s.data.toList p ≤ 4
  · have HK := Lib.hid (known_yes (by4 s.data.toList p) (w.alloc (.cells #[.int .i64 0, .string ⟨#[]⟩, .int .i64 0, .int .i64 0] 59)) h5)
    rw [hk8] at HK
    by_cases h6 : (60000 : Int) < (fn s p : Int)
    · have HN := Lib.hid (show ¬ GF s p from fun h => by have := h.2.2.1; rw [← HFN.out] at this; omega)
      clear h5 hk8
      generalize fn s p = N at *
      go_enter Tryz.func54, Tryz.ntmps54
      go_wp2_with fail
      refine HU1.out.mono ?_
      rintro e1 w1 ⟨rfl, rfl⟩
      go_wp2_with fail
      refine HK.out.mono ?_
      rintro e1 w1 ⟨rfl, rfl⟩
      go_wp2_with fail
      refine bodyPost_ret (v := .tuple #[fagg 0 ⟨#[]⟩ 0 0, .int .i64 3]) (by simp [results, go_sem, fagg]) rfl ?_
      exact ⟨.inr ⟨HN.out, 3, by omega, rfl⟩, HB0.out⟩
    have h7 : IntKind.i64.wrap ((s.size : Int) - (p : Int) - 5) = (s.size : Int) - (p : Int) - 5 := by rw [IntKind.wrap_i64]; omega
    have h8 : IntKind.i64.wrap ((s.size : Int) - (p : Int) - 5 - 4) = (s.size : Int) - (p : Int) - 5 - 4 := by rw [IntKind.wrap_i64]; omega
    by_cases h9 : (s.size : Int) - (p : Int) - 5 - 4 < (fn s p : Int)
    · have HN := Lib.hid (show ¬ GF s p from fun h => by have := h.2.2.2.1; rw [← HFN.out] at this; omega)
      clear h5 hk8
      generalize fn s p = N at *
      go_enter Tryz.func54, Tryz.ntmps54
      go_wp2_with fail
      refine HU1.out.mono ?_
      rintro e1 w1 ⟨rfl, rfl⟩
      go_wp2_with fail
      refine HK.out.mono ?_
      rintro e1 w1 ⟨rfl, rfl⟩
      go_wp2_with fail
      refine bodyPost_ret (v := .tuple #[fagg 0 ⟨#[]⟩ 0 0, .int .i64 4]) (by simp [results, go_sem, fagg]) rfl ?_
      exact ⟨.inr ⟨HN.out, 4, by omega, rfl⟩, HB0.out⟩
    have h10 : IntKind.i64.wrap ((p : Int) + 1 + 4 + (fn s p : Int)) = ((p + 5 + fn s p : Nat) : Int) := by rw [IntKind.wrap_i64]; omega
    have HU2 := Lib.hid (unfix_any s (p + 5 + fn s p) (w.alloc (.cells #[.int .i64 0, .string ⟨#[]⟩, .int .i64 0, .int .i64 0] 59)) (by omega) (by omega))
    have hq := u4_lt s.data.toList (p + 5 + fn s p)
    have HQ := Lib.hid (show GF s p ↔ crc (s.extract p (p + 5 + fn s p)).data.toList = u4 s.data.toList (p + 5 + fn s p) from
      ⟨fun h => h.2.2.2.2, fun h => ⟨by omega, h5, by rw [← HFN.out]; omega, by rw [← HFN.out]; omega, h⟩⟩)
    have htw := ht.below HB0.out ht.lt
    have HLEN := Lib.hid (show (vu (n256 tb)).length = 256 by rw [length_vu, length_n256])
    have HTR := Lib.hid (fun (wx : World) (hb : Below (w.heap.size + 1) (w.alloc (.cells #[.int .i64 0, .string ⟨#[]⟩, .int .i64 0, .int .i64 0] 59)) wx) => (htw.below hb (by have := ht.lt; omega)).range)
    have HCR := Lib.hid (fun (wx : World) => of_any (s.extract p (p + 5 + fn s p)) wx (by rw [ByteArray.size_extract]; omega))
    have HTB := Lib.hid (show TB = (vu (n256 tb)).toArray from rfl)
    rw [HTB.out] at HCR
    have HF0 := Lib.hid (Fb.new w)
    have HSZ := Lib.hid (show (w.alloc (.cells #[.int .i64 0, .string ⟨#[]⟩, .int .i64 0, .int .i64 0] 59)).heap.size = w.heap.size + 1 by simp)
    have e1 : 0 ≤ (p : Int) := by omega
    have e2 : (p : Int) ≤ ((p + 5 + fn s p : Nat) : Int) := by omega
    have e3 : ((p + 5 + fn s p : Nat) : Int) ≤ (s.size : Int) := by omega
    have e4 : (p : Int) ≤ (p : Int) + 5 + (fn s p : Int) := by omega
    have e5 : (p : Int) + 5 + (fn s p : Int) ≤ (s.size : Int) := by omega
    have e6 : (p : Int) + 1 + 4 ≤ (p : Int) + 5 + (fn s p : Int) := by omega
    have e7 : 0 ≤ (p : Int) + 1 + 4 := by omega
    have HBD := Lib.hid (show fbody s p = s.extract (p + 5) (p + 5 + fn s p) ∧ fto s p = p + 5 + fn s p + 4 from ⟨rfl, rfl⟩)
    clear h5 htw
    generalize vu (n256 tb) = Z at *
    generalize hcr : crc (s.extract p (p + 5 + fn s p)).data.toList = C at *
    have hC : C < 4294967296 := hcr ▸ crc_lt _
    clear hcr
    generalize u4 s.data.toList (p + 5 + fn s p) = V at *
    generalize fn s p = N at *
    by_cases hCV : C = V
    · subst hCV
      have hbb : ((C : Int) != (C : Int)) = false := by simp
      have h64c : IntKind.i64.wrap (C : Int) = (C : Int) := by rw [IntKind.wrap_i64]; omega
      go_enter Tryz.func54, Tryz.ntmps54
      go_wp2_with fail
      refine HU1.out.mono ?_
      rintro e1 w1 ⟨rfl, rfl⟩
      go_wp2_with fail
      refine HK.out.mono ?_
      rintro e1 w1 ⟨rfl, rfl⟩
      go_wp2_with fail
      refine HU2.out.mono ?_
      rintro e1 w1 ⟨rfl, rfl⟩
      have HS0 := Lib.hid (And.intro (HTR.out (w.alloc (.cells #[.int .i64 0, .string ⟨#[]⟩, .int .i64 0, .int .i64 0] 59)).drew ⟨rfl, rfl, rfl, Nat.le_refl _, fun _ _ => rfl⟩) (show Below (w.heap.size + 1) (w.alloc (.cells #[.int .i64 0, .string ⟨#[]⟩, .int .i64 0, .int .i64 0] 59)) (w.alloc (.cells #[.int .i64 0, .string ⟨#[]⟩, .int .i64 0, .int .i64 0] 59)).drew from ⟨rfl, rfl, rfl, Nat.le_refl _, fun _ _ => rfl⟩))
      go_wp2_with fail
      generalize w.alloc (.cells #[.int .i64 0, .string ⟨#[]⟩, .int .i64 0, .int .i64 0] 59) = w1 at *
      have HUD := Lib.hid Tryz.underlying73
      have hlz : (Tryz.prog.info? 73).map (·.size) = some Z.length := by rw [HLEN.out]; kernel_rfl
      have hud := Tryz.underlying73
      go_region_held3 (fun wx => wx.rangeAt g 0 Z ∧ Below (w.heap.size + 1) w1 wx) (first | exact HS0.out | assumption) (first
        | (go_at_call 30; refine (HCR.out _).mono ?_; rintro e2 w2 ⟨rfl, hb2⟩; have hB2 := HS0.out.2.trans (hb2.mono (by have := HS0.out.2.size; have := HSZ.out; simp at *; omega)); have hS2 := And.intro (HTR.out _ hB2) hB2))
      have hR := HF0.out.below hS2.2 (by omega)
      have HR := Lib.hid hR
      have HBE := Lib.hid (HB0.out.trans (hS2.2.mono (by omega)))
      have r0 := hR.c0
      have r1 := hR.c1
      have r2 := hR.c2
      have r3 := hR.c3
      have f0 := hR.fz 0
      have f1 := hR.fz 1
      have f2 := hR.fz 2
      have f3 := hR.fz 3
      clear hR hS2 hB2 hb2 hlz hud
      go_wp2_with fail
      go_region_held3 (fun _ => True) (trivial) (fail)
      go_wp2_with fail
      have t1 : IntKind.i64.wrap (s[p].toNat : Int) = (s[p].toNat : Int) := by rw [IntKind.wrap_i64]; have := s[p].toNat_lt; omega
      have t2 : ((p : Int) + 1 + 4).toNat = p + 5 := by omega
      have t3 : ((p : Int) + 5 + (N : Int)).toNat = p + 5 + N := by omega
      refine bodyPost_ret (v := .tuple #[fagg s[p].toNat (s.extract (p + 5) (p + 5 + N)) p (p + 5 + N + 4), .int .i64 0]) (by simp [results, go_sem, r0, r1, r2, r3, fagg, t1, t2, t3]) rfl ?_
      exact ⟨.inl ⟨HQ.out.2 trivial, by rw [hk8, HBD.out.1, HBD.out.2]⟩, below_drewN (below_fill4 HBE.out (Nat.le_refl _)) 1⟩
    · have hne : ¬ (C : Int) = (V : Int) := by omega
      have hbb : ((C : Int) != (V : Int)) = true := by simp; omega
      have h64c : IntKind.i64.wrap (C : Int) = (C : Int) := by rw [IntKind.wrap_i64]; omega
      go_enter Tryz.func54, Tryz.ntmps54
      go_wp2_with fail
      refine HU1.out.mono ?_
      rintro e1 w1 ⟨rfl, rfl⟩
      go_wp2_with fail
      refine HK.out.mono ?_
      rintro e1 w1 ⟨rfl, rfl⟩
      go_wp2_with fail
      refine HU2.out.mono ?_
      rintro e1 w1 ⟨rfl, rfl⟩
      have HS0 := Lib.hid (And.intro (HTR.out (w.alloc (.cells #[.int .i64 0, .string ⟨#[]⟩, .int .i64 0, .int .i64 0] 59)).drew ⟨rfl, rfl, rfl, Nat.le_refl _, fun _ _ => rfl⟩) (show Below (w.heap.size + 1) (w.alloc (.cells #[.int .i64 0, .string ⟨#[]⟩, .int .i64 0, .int .i64 0] 59)) (w.alloc (.cells #[.int .i64 0, .string ⟨#[]⟩, .int .i64 0, .int .i64 0] 59)).drew from ⟨rfl, rfl, rfl, Nat.le_refl _, fun _ _ => rfl⟩))
      go_wp2_with fail
      generalize w.alloc (.cells #[.int .i64 0, .string ⟨#[]⟩, .int .i64 0, .int .i64 0] 59) = w1 at *
      have HUD := Lib.hid Tryz.underlying73
      have hlz : (Tryz.prog.info? 73).map (·.size) = some Z.length := by rw [HLEN.out]; kernel_rfl
      have hud := Tryz.underlying73
      go_region_held3 (fun wx => wx.rangeAt g 0 Z ∧ Below (w.heap.size + 1) w1 wx) (first | exact HS0.out | assumption) (first
        | (go_at_call 30; refine (HCR.out _).mono ?_; rintro e2 w2 ⟨rfl, hb2⟩; have hB2 := HS0.out.2.trans (hb2.mono (by have := HS0.out.2.size; have := HSZ.out; simp at *; omega)); have hS2 := And.intro (HTR.out _ hB2) hB2))
      have hR := HF0.out.below hS2.2 (by omega)
      have HR := Lib.hid hR
      have HBE := Lib.hid (HB0.out.trans (hS2.2.mono (by omega)))
      have r0 := hR.c0
      have r1 := hR.c1
      have r2 := hR.c2
      have r3 := hR.c3
      have f0 := hR.fz 0
      have f1 := hR.fz 1
      have f2 := hR.fz 2
      have f3 := hR.fz 3
      clear hR hS2 hB2 hb2 hlz hud
      go_wp2_with fail
      refine bodyPost_ret (v := .tuple #[fagg 0 ⟨#[]⟩ 0 0, .int .i64 7]) (by simp [results, go_sem, r0, r1, r2, r3, fagg]) rfl ?_
      exact ⟨.inr ⟨fun h => hCV (HQ.out.1 h), 7, by omega, rfl⟩, below_fill4 HBE.out (Nat.le_refl _)⟩
  · have HN := Lib.hid (show ¬ GF s p from fun h => h5 h.2.1)
    have HK := Lib.hid (known_no (by4 s.data.toList p) (w.alloc (.cells #[.int .i64 0, .string ⟨#[]⟩, .int .i64 0, .int .i64 0] 59)) h5)
    rw [hk8] at HK
    clear h5 hk8
    generalize fn s p = N at *
    go_enter Tryz.func54, Tryz.ntmps54
    go_wp2_with fail
    refine HU1.out.mono ?_
    rintro e1 w1 ⟨rfl, rfl⟩
    go_wp2_with fail
    refine HK.out.mono ?_
    rintro e1 w1 ⟨rfl, rfl⟩
    go_wp2_with fail
    refine bodyPost_ret (v := .tuple #[fagg 0 ⟨#[]⟩ 0 0, .int .i64 160]) (by simp [results, go_sem, fagg]) rfl ?_
    exact ⟨.inr ⟨HN.out, 160, by omega, rfl⟩, HB0.out⟩
end Fm
end Go.Proofs.YtpbphhpldlckbaaGreat
namespace Go.Proofs.YtpbphhpldlckbaaGreat
namespace Fm
open Go.RowKit Cr

/-- What stands ahead of a frame's sum; a frame. -/
def frA (k : UInt8) (b : ByteArray) : ByteArray := ⟨#[k]⟩ ++ ⟨(le 4 b.size).toArray⟩ ++ b
def frB (k : UInt8) (b : ByteArray) : ByteArray := frA k b ++ ⟨(le 4 (crc (frA k b).data.toList)).toArray⟩
theorem size_frA (k : UInt8) (b : ByteArray) : (frA k b).size = b.size + 5 := by
  unfold frA
  rw [ByteArray.size_append, ByteArray.size_append]
  show 1 + (le 4 b.size).toArray.size + b.size = _
  rw [List.size_toArray, length_le]; omega

set_option maxHeartbeats 3200000 in
set_option maxRecDepth 100000 in
theorem put_any (k : UInt8) (b : ByteArray) (w : World) (hk : 1 ≤ k.toNat ∧ k.toNat ≤ 4) (hb : b.size ≤ 60000) :
    Calls Tryz.prog 12 #[.int .i64 (k.toNat : Int), .string b] w fun e w' => e = .returned (.tuple #[.string (frB k b), .int .i64 0]) ∧ Below w.heap.size w w' := by
  have mixed : Tryz.prog.follows .mixedOrders = true := by kernel_rfl
  have HK := Lib.hid (known_yes k.toNat w hk)
  have HF := Lib.hid (fix_any b.size w (by omega))
  have q1 : ¬ (60000 : Int) < (b.size : Int) := by omega
  have q2 : (k.toNat : Int) % 256 = (k.toNat : Int) := by omega
  go_enter Tryz.func12, Tryz.ntmps12
  go_wp2_with fail
  refine HK.out.mono ?_
  rintro e1 w1 ⟨rfl, rfl⟩
  go_wp2_with fail
  refine HF.out.mono ?_
  rintro e2 w2 ⟨rfl, hb2⟩
  have hrd : Rd (w2.alloc (.cells #[.int .u8 (k.toNat : Int)] 5)) (w2.alloc (.cells #[.int .u8 (k.toNat : Int)] 5)).heap.size 1 (some ⟨w2.heap.size, 0, none⟩) 1 (bv [k]) := Rd.of_own (World.ownsRow_lit (base := w2.heap.size) (e := 5) (size := 1) w2 #[.int .u8 (k.toNat : Int)] 1 (Nat.le_refl _) (by simp [maxLen]) rfl)
  have hs := run_str (l := [k]) (c := 1) hrd
  have HW2 := Lib.hid (hb2.trans ((ext_alloc w2 (.cells #[.int .u8 (k.toNat : Int)] 5)).mono hb2.size))
  have hl1 : ¬ 9223372036854775807 < 1 + (le 4 b.size).length := by rw [length_le]; omega
  have hl2 : ¬ 9223372036854775807 < 1 + (le 4 b.size).length + b.size := by rw [length_le]; omega
  have HA := Lib.hid (show ({ data := #[k] } : ByteArray) ++ { data := (le 4 b.size).toArray } ++ b = frA k b from rfl)
  have HOF := Lib.hid (fun (wx : World) => of_any (frA k b) wx (by rw [size_frA]; omega))
  have HFX := Lib.hid (fun (wx : World) => fix_any (crc (frA k b).data.toList) wx (crc_lt _))
  have HTA := Lib.hid (table_any (w2.alloc (.cells #[.int .u8 (k.toNat : Int)] 5)))
  have hc := crc_lt (frA k b).data.toList
  have HB := Lib.hid (show frB k b = frA k b ++ ⟨(le 4 (crc (frA k b).data.toList)).toArray⟩ from rfl)
  have hsz := size_frA k b
  clear hb2 hrd
  generalize crc (frA k b).data.toList = C at *
  have h64 : IntKind.i64.wrap (C : Int) = (C : Int) := by rw [IntKind.wrap_i64]; omega
  go_wp2_with fail
  rw [HA.out]
  generalize frA k b = F at *
  refine HTA.out.mono ?_
  rintro e3 w3 ⟨rfl, hb3⟩
  have HW3 := Lib.hid (HW2.out.trans (hb3.mono HW2.out.size))
  clear hb3 hs hl1 hl2
  go_wp2_with fail
  refine (HOF.out w3).mono ?_
  rintro e4 w4 ⟨rfl, hb4⟩
  have HW4 := Lib.hid (HW3.out.trans (hb4.mono HW3.out.size))
  clear hb4
  go_wp2_with fail
  refine (HFX.out w4).mono ?_
  rintro e5 w5 ⟨rfl, hb5⟩
  have HW5 := Lib.hid (HW4.out.trans (hb5.mono HW4.out.size))
  have hl3 : ¬ 9223372036854775807 < F.size + (le 4 C).length := by rw [length_le]; omega
  clear hb5
  go_wp2_with fail
  go_ret2
  exact ⟨by rw [HB.out]; rfl, HW5.out⟩

set_option maxHeartbeats 3200000 in
set_option maxRecDepth 100000 in
theorem Get_any (s : ByteArray) (p : Nat) (w : World) (hs : s.size ≤ 1000000) (hp : p ≤ 2000000) :
    Calls Tryz.prog 33 #[.string s, .int .i64 (p : Int)] w fun e w' => FrAns s p e ∧ Below w.heap.size w w' := by
  have mixed : Tryz.prog.follows .mixedOrders = true := by kernel_rfl
  have hz : (Tryz.prog.info? 73).map (fun i => (i.zero, i.size)) = some (some (.agg (Array.replicate 256 (.int .u32 0))), 256) := by kernel_rfl
  have hsz : (Tryz.prog.info? 73).map (·.size) = some 256 := by kernel_rfl
  have HZ := Lib.hid hz
  have HSI := Lib.hid hsz
  have HT := Lib.hid (table_any (w.alloc (.cells #[.int .i64 0, .string ⟨#[]⟩, .int .i64 0, .int .i64 0] 59)))
  have HB0 := Lib.hid (ext_alloc w (.cells #[.int .i64 0, .string ⟨#[]⟩, .int .i64 0, .int .i64 0] 59))
  have HF0 := Lib.hid (Fb.new w)
  have HTL := Lib.hid (show TB.size = 256 by unfold TB; rw [List.size_toArray, length_vu, length_n256])
  have HT1 := Lib.hid (show TB.all (·.oneCell') = true from all_oneCell_toArray (vu_one _))
  have HLT := Lib.hid (show w.heap.size < (w.alloc (.cells #[.int .i64 0, .string ⟨#[]⟩, .int .i64 0, .int .i64 0] 59)).heap.size by simp)
  clear hz hsz
  go_enter Tryz.func33, Tryz.ntmps33
  go_wp2_with fail
  generalize w.alloc (.cells #[.int .i64 0, .string ⟨#[]⟩, .int .i64 0, .int .i64 0] 59) = w0 at *
  refine HT.out.mono ?_
  rintro e1 w1 ⟨rfl, hb1⟩
  have HG := Lib.hid (get_any w1.heap.size s p (w1.alloc (.cells TB 73)) (tb_row w1) hs hp)
  have HB1 := Lib.hid (HB0.out.trans (hb1.mono HB0.out.size))
  have HB2 := Lib.hid (HB1.out.trans ((ext_alloc w1 (.cells TB 73)).mono HB1.out.size))
  have HF2 := Lib.hid ((HF0.out.below hb1 HLT.out).below (ext_alloc w1 (.cells TB 73)) (Nat.lt_of_lt_of_le HLT.out hb1.size))
  have HL2 := Lib.hid (show w.heap.size < (w1.alloc (.cells TB 73)).heap.size by have := HLT.out; have := hb1.size; simp; omega)
  clear hb1 HT
  generalize TB = Z at *
  go_wp2_with (first | (refine wpList_alloc_zero rfl 73 rfl _ _ HZ.out ?_) | (refine wpList_store_new w1 (Array.replicate 256 (.int .u32 0)) rfl 73 (.tmp 6) (.tmp 7) rfl Z (by simp [go_sem, Act.eval]) (by simp [go_sem, Act.eval]) (by rw [HTL.out]; exact HSI.out) (by rw [HTL.out]; simp) HT1.out ?_))
  generalize w1.alloc (.cells Z 73) = w2 at *
  refine HG.out.mono ?_
  rintro e3 w3 ⟨ha, hb3⟩
  have HB3 := Lib.hid (HB2.out.trans (hb3.mono HB2.out.size))
  have HR3 := Lib.hid (HF2.out.below hb3 HL2.out)
  clear hb3 HG
  rcases ha with ⟨hgf, rfl⟩ | ⟨hgf, x, hx, rfl⟩
  · have HGF := Lib.hid hgf
    have hR := HR3.out
    have r0 := hR.c0
    have r1 := hR.c1
    have r2 := hR.c2
    have r3 := hR.c3
    have f0 := hR.fz 0
    have f1 := hR.fz 1
    have f2 := hR.fz 2
    have f3 := hR.fz 3
    clear hR
    unfold fagg
    go_wp2_with fail
    refine bodyPost_ret (v := .tuple #[fagg (by4 s.data.toList p) (fbody s p) p (fto s p), .int .i64 0]) (by simp [results, go_sem, r0, r1, r2, r3, fagg]) rfl ?_
    exact ⟨.inl ⟨HGF.out, rfl⟩, below_fill4 HB3.out (Nat.le_refl _)⟩
  · have HGF := Lib.hid (And.intro hgf hx)
    have hR := HR3.out
    have r0 := hR.c0
    have r1 := hR.c1
    have r2 := hR.c2
    have r3 := hR.c3
    have f0 := hR.fz 0
    have f1 := hR.fz 1
    have f2 := hR.fz 2
    have f3 := hR.fz 3
    clear hR
    unfold fagg
    go_wp2_with fail
    refine bodyPost_ret (v := .tuple #[fagg 0 ⟨#[]⟩ 0 0, .int .i64 x]) (by simp [results, go_sem, r0, r1, r2, r3, fagg]) rfl ?_
    exact ⟨.inr ⟨HGF.out.1, x, HGF.out.2, rfl⟩, below_fill4 HB3.out (Nat.le_refl _)⟩
end Fm
end Go.Proofs.YtpbphhpldlckbaaGreat
namespace Go.Proofs.YtpbphhpldlckbaaGreat
namespace Rg
open Go.RowKit Go.Shelf

variable {F : Fence} {n : Nat} {P : Program}
/-- The blocks of S that hold cells lie as they lay. -/
structure Ks (S : Nat → Prop) (W W' : World) : Prop where
  size : W.heap.size ≤ W'.heap.size
  same : ∀ k o, W.heap[k]? = some o → o.isCells = true → S k → W'.heap[k]? = some o
theorem Ks.trans {S : Nat → Prop} {A B C : World} (h : Ks S A B) (k : Ks S B C) : Ks S A C := ⟨Nat.le_trans h.size k.size, fun i o hi ho hS => k.same i o (h.same i o hi ho hS) ho hS⟩
theorem Ks.putObj {S : Nat → Prop} {W : World} {l : Nat} {o : Obj} (o' : Obj) (h : W.heap[l]? = some o) (ho : o.isCells = false) : Ks S W (W.putObj l o') := by
  refine ⟨(grownBy_putObj' W l o').size, fun k p hk hp _ => ?_⟩
  rw [World.putObj_heap_other (by rintro rfl; rw [h] at hk; cases hk; rw [ho] at hp; cases hp)]
  exact hk
/-- The iterator gives xs, one behind the other; it turns no block but b, and new ones. -/
def Gives {α : Type} (F : Fence) (n : Nat) (P : Program) (g : Nat) (lb : Array Value) (enc : α → Value) (R : Nat → Prop) (b : Nat) (xs : List α) (w : World) : Prop :=
  ∀ (l : Nat) (J : List α → (Nat → Prop) → World → Prop) (W : World), Below w.heap.size w W →
    (∀ pre S S' W1 W2, J pre S W1 → W1.grownBy W2 (some b) → (∀ k, S' k → S k ∨ W1.heap.size ≤ k ∧ k < W2.heap.size) → J pre S' W2) →
    (∀ pre x rest S W1, xs = pre ++ x :: rest → J pre S W1 → YieldAt F (n - 1) P l #[enc x] W1 fun e W' => e = .returned (.bool true) ∧ J (pre ++ [x]) S W' ∧ Ks S W1 W') →
    J [] R W →
    CallsIn F n P g (#[.func (.yield l) #[] #[]] ++ lb) W fun e W' => (∃ v, e = .returned v) ∧ ∃ S, J xs S W'

theorem wpIn_range_own {α : Type} {g : Operand} {p : Tmp} {assign body : Code} {Q : Exit → Act → World → Prop} {a : Act} {w : World}
    (hro : F.round = none) (h1 : 1 ≤ n) {gf : Nat} {lb : Array Value} (hg : a.eval g = .func (.func gf) #[] lb) (hFg : F.fn gf) (eg : ∀ args w, (callFunc gf args).run P w = .ok (.enter gf args) w)
    {enc : α → Value} {R : Nat → Prop} {b : Nat} {xs : List α} (hb : b < w.heap.size) (hseq : Gives F (n - 1) P gf lb enc R b xs w)
    (I : List α → (Nat → Prop) → World → Prop) (hI : ∀ pre S S' W W' row, I pre S W → W.grownBy W' row → (∀ r, row = some r → r = b ∨ w.heap.size ≤ r ∧ ∃ o : Obj, W.heap[r]? = some o ∧ o.isCells = false) →
      (∀ k, S' k → S k ∨ W.heap.size ≤ k ∧ k < W'.heap.size) → I pre S' W')
    (h0 : I [] R w) (Ax : List α → α → (Nat → Prop) → Act → World → Prop)
    (hAx : ∀ pre x S a' W W' row, Ax pre x S a' W → W.grownBy W' row → (∀ r, row = some r → r = b ∨ w.heap.size ≤ r ∧ ∃ o : Obj, W.heap[r]? = some o ∧ o.isCells = false) → Ax pre x S a' W')
    (hassign : ∀ (l : Nat) (pre : List α) (x : α) (rest : List α) (S : Nat → Prop) (W : World), xs = pre ++ x :: rest → I pre S W →
      assign.wpIn (F.inRound l) (n - 1 - 1) P (Exit.then (fun a' W' => KeepsOthers W W' ∧ Ks S W W' ∧ Ax pre x S a' W') (fun _ _ _ => False)) { tmps := (#[p].zip #[enc x]).foldl (fun t (p, v) => t.setIfInBounds p v) a.tmps, defers := [] } W)
    (hbody : ∀ (l : Nat) (pre : List α) (x : α) (rest : List α) (S : Nat → Prop) (a' : Act) (W : World), xs = pre ++ x :: rest → Ax pre x S a' W →
      body.wpIn (F.inRound l) (n - 1 - 1) P (fun e _ W' => e = .normal ∧ KeepsOthers W W' ∧ Ks S W W' ∧ I (pre ++ [x]) S W') a' W)
    (hdone : ∀ (D : Nat) (S : Nat → Prop) (W : World), w.heap.size ≤ D → I xs S W → W.heap[D]? = some (.deferred (some [])) → Q .normal { a with defers := { target := .collected D, args := #[] } :: a.defers } W) :
    (Code.rangeFunc g #[p] assign body).wpIn F n P Q a w := by
  refine wpIn_rangeFunc ?_
  intro fn hfn
  rw [hro]
  obtain ⟨rec, hrec⟩ : ∃ rec : LoopState → Option Code → Loop, rec = fun st pe => { state := st, pending := pe, fn, tmps := a.tmps, params := #[p], assign, body, defers := w.heap.size } := ⟨_, rfl⟩
  obtain ⟨W1, hW1⟩ : ∃ W1, (w.alloc (.deferred (some []))).alloc (.loop (rec .ready none)) = W1 := ⟨_, rfl⟩
  have hL1 : W1.heap[w.heap.size + 1]? = some (.loop (rec .ready none)) := by
    rw [← hW1]; have := World.alloc_heap_new (w.alloc (.deferred (some []))) (.loop (rec .ready none)); rwa [World.size_alloc] at this
  have hK1 : W1.heap[w.heap.size]? = some (.deferred (some [])) := by
    rw [← hW1]; exact (Below.heap_alloc _ _ _ (by simp)).trans (World.alloc_heap_new w _)
  have hIa : ∀ pre S W o, I pre S W → I pre S (W.alloc o) := fun pre S W o h => hI pre S S W _ none h (World.grownBy_alloc W o none) (fun r e => by cases e) (fun _ h => .inl h)
  have hIp : ∀ pre S W l (o o' : Obj), I pre S W → w.heap.size ≤ l → W.heap[l]? = some o → o.isCells = false → I pre S (W.putObj l o') := fun pre S W l o o' h hl ho hc =>
    hI pre S S W _ (some l) h (grownBy_putObj' W l o') (fun r e => by cases e; exact .inr ⟨hl, o, ho, hc⟩) (fun _ h => .inl h)
  have hI1 : I [] R W1 := by rw [← hW1]; exact hIa _ _ _ _ (hIa _ _ _ _ h0)
  have hb1 : Below w.heap.size w W1 := by
    rw [← hW1]; exact ((Below.refl _ w).alloc (Nat.le_refl _) _).alloc (by simp) _
  refine ⟨w.heap.size + 1, [{ target := .collected w.heap.size, args := #[] }], W1, { target := .fn (.func gf) lb, args := #[.func (.yield (w.heap.size + 1)) #[] #[]] }, W1, gf,
    #[.func (.yield (w.heap.size + 1)) #[] #[]] ++ lb, W1, ?_, ?_, ?_, ?_, fun _ => h1, ?_⟩
  · rw [← hW1, hrec]; exact run_enterLoop_outer _ _ _ _ _
  · simp only [resolve, hg]
    simp [go_sem]
  · intro f' hf'; simp [Target.leads] at hf'; subst hf'; exact hFg
  · simp [invoke, go_sem, eg]
  · have hst : ∀ {A B : World} {k : Nat} {o : Obj}, A.grownBy B (some b) → w.heap.size ≤ k → A.heap[k]? = some o → B.heap[k]? = some o := fun hgr hk ho =>
      (hgr.block _ (Array.getElem?_eq_some_iff.1 ho).1 (by intro e; cases e; omega)).trans ho
    refine (hseq (w.heap.size + 1)
      (fun pre S W => I pre S W ∧ W.heap[w.heap.size + 1]? = some (.loop (rec .ready none)) ∧ W.heap[w.heap.size]? = some (.deferred (some [])))
      W1 hb1 (fun pre S S' A B hs hgr hS => ⟨hI pre S S' A B _ hs.1 hgr (fun r e => by cases e; exact .inl rfl) hS, hst hgr (by omega) hs.2.1, hst hgr (by omega) hs.2.2⟩) ?_ ⟨hI1, hL1, hK1⟩).mono ?_
    · rintro pre x rest S W hxs ⟨hi, hl, hk⟩
      have hlt : w.heap.size + 1 < W.heap.size := (Array.getElem?_eq_some_iff.1 hl).1
      have hy := run_yield (P := P) (args := #[enc x]) hl (by rw [hrec]; rfl)
      rw [hrec] at hy
      refine ⟨fn, _, assign, body, hy, roundIn_of_wpIn hfn (wpIn_mono (hassign (w.heap.size + 1) pre x rest S W hxs hi) ?_)⟩
      rintro e a' W' hp
      cases e with
      | normal =>
        obtain ⟨hk0, hkc0, hax⟩ := hp
        have hl0 := hk0.same _ _ hl rfl
        have hk00 := hk0.same _ _ hk rfl
        have hlt0 : w.heap.size + 1 < W'.heap.size := (Array.getElem?_eq_some_iff.1 hl0).1
        refine ⟨_, run_beginRound hl0 (by rw [hrec]), ?_⟩
        have hl2 : (W'.putObj (w.heap.size + 1) (.loop { rec .ready none with state := .busy })).heap[w.heap.size + 1]? = some (.loop { rec .ready none with state := .busy }) := World.putObj_heap_same hlt0
        have hk2 : (W'.putObj (w.heap.size + 1) (.loop { rec .ready none with state := .busy })).heap[w.heap.size]? = some (.deferred (some [])) := (World.putObj_heap_other (by omega)).trans hk00
        have hw2 : Ks S W (W'.putObj (w.heap.size + 1) (.loop { rec .ready none with state := .busy })) := hkc0.trans (Ks.putObj _ hl0 rfl)
        refine wpIn_mono (hbody _ pre x rest S a' _ hxs (hAx _ _ _ _ _ _ (some (w.heap.size + 1)) hax (grownBy_putObj' _ _ _) (fun r e => by cases e; exact .inr ⟨by omega, _, hl0, rfl⟩))) ?_
        rintro e a3 W3 ⟨rfl, hk3, hkp3, hi3⟩
        have hl3 := hk3.same _ _ hl2 rfl
        have hr := run_endRound (P := P) none hl3
        rw [hrec] at hr hl3
        refine ⟨_, _, hr, rfl, ⟨hIp _ _ _ _ _ _ hi3 (by omega) hl3 rfl, ?_, (World.putObj_heap_other (by omega)).trans (hk3.same _ _ hk2 rfl)⟩, (hw2.trans hkp3).trans (Ks.putObj _ hl3 rfl)⟩
        rw [hrec]
        exact World.putObj_heap_same (Array.getElem?_eq_some_iff.1 hl3).1
      | ret => exact hp.elim
      | exit id => exact hp.elim
      | goto t => exact hp.elim
      | panic ch => exact hp.elim
      | outgrown => exact hp.elim
    · rintro e W2 ⟨⟨v, rfl⟩, S, hi, hl, hk⟩
      exact ⟨none, _, by have := run_endLoop (P := P) hl (by rw [hrec]; simp); rw [hrec] at this; exact this, hdone _ S _ (Nat.le_refl _) (hIp _ _ _ _ _ _ hi (by omega) hl rfl) ((World.putObj_heap_other (by omega)).trans hk)⟩
end Rg
end Go.Proofs.YtpbphhpldlckbaaGreat
namespace Go.Proofs.YtpbphhpldlckbaaGreat
namespace Fm
open Go.RowKit Go.Shelf Cr Rg

section
variable {F : Fence} {n : Nat} {P : Program} {ops : Array Oper} {rest : List Oper} {op : Oper} {a : Act} {w : World} {Q : Exit → Act → World → Prop}
theorem wpListIn_alloc_zero (hgd : op.guard = none) (t : TypeId) (ho : op.op = .alloc t) (z : Value) (k : Nat) (hz : (P.info? t).map (fun i => (i.zero, i.size)) = some (some z, k))
    (h : wpListIn F n P ops Q rest (a.put op.dst (.pointer (some ⟨w.heap.size, 0, none⟩))) (w.alloc (.cells z.cells t))) : wpListIn F n P ops Q (op :: rest) a w := by
  refine wpListIn_plain hgd fun K hK => ?_
  have hz1 := (zero_of_info hz).1 w
  unfold Oper.wpIn
  refine ⟨?_, ?_⟩
  · simp [Oper.about, ho]
  · rw [Oper.semAt_plain F _ _ (by rw [ho]; intro c hc'; cases hc')]
    simp only [execOp, ho, Instr.alloc, Sem.run_bind, hz1, Result.andThen_ok]
    exact hK _ _ h
theorem wpListIn_store_new (w0 : World) (c : Array Value) (hgd : op.guard = none) (t : TypeId) (x y : Operand) (ho : op.op = .store t x y) (z : Array Value) (hx : a.eval x = .pointer (some ⟨w0.heap.size, 0, none⟩)) (hy : a.eval y = .agg z)
    (hi : (P.info? t).map (·.size) = some z.size) (hc : c.size = z.size) (h1 : z.all (·.oneCell') = true)
    (h : wpListIn F n P ops Q rest (a.put op.dst undef) (w0.alloc (.cells z t))) : wpListIn F n P ops Q (op :: rest) a (w0.alloc (.cells c t)) := by
  refine wpListIn_plain hgd fun K hK => ?_
  unfold Oper.wpIn
  refine ⟨?_, ?_⟩
  · simp [Oper.about, ho]
  · rw [Oper.semAt_plain F _ _ (by rw [ho]; intro c hc'; cases hc')]
    simp only [execOp, ho, hx, hy, Instr.storeAt, Instr.sureAddr, Sem.run_bind, Sem.run_pure, Result.andThen_ok, run_storeVar_new w0 t c z hi hc h1]
    exact hK _ _ h
end
/-- The frames from a place on. -/
abbrev Fr := Nat × ByteArray × Nat × Nat
def fr (s : ByteArray) (p : Nat) : Fr := (by4 s.data.toList p, fbody s p, p, fto s p)
def fv (x : Fr) : Value := fagg x.1 x.2.1 x.2.2.1 x.2.2.2
theorem GF_to {s : ByteArray} {p : Nat} (h : GF s p) : p + 9 ≤ fto s p ∧ fto s p ≤ s.size := by
  have := h.2.2.2.1
  unfold fto fn
  omega
def frs (s : ByteArray) (p : Nat) : List Fr := if _h : GF s p then fr s p :: frs s (fto s p) else []
termination_by s.size - p
decreasing_by have := GF_to _h; omega
theorem frs_yes {s : ByteArray} {p : Nat} (h : GF s p) : frs s p = fr s p :: frs s (fto s p) := by rw [frs, dif_pos h]
theorem frs_no {s : ByteArray} {p : Nat} (h : ¬ GF s p) : frs s p = [] := by rw [frs, dif_neg h]
def One (w : World) (b : Nat) (v : Value) (t : TypeId) : Prop := w.heap[b]? = some (.cells #[v] t (0, 0))
theorem One.cell {w : World} {b : Nat} {v : Value} {t : TypeId} (h : One w b v t) : w.cell? ⟨b, 0, none⟩ = some v := by rw [cell_of_row w b 0 _ _ (0, 0) h]; rfl
theorem One.fz {w : World} {b : Nat} {v : Value} {t : TypeId} (h : One w b v t) : w.frozen? ⟨b, 0, none⟩ = false := frozen_of_row w b 0 _ _ h
theorem One.lt {w : World} {b : Nat} {v : Value} {t : TypeId} (h : One w b v t) : b < w.heap.size := (Array.getElem?_eq_some_iff.1 h).1
theorem One.below {w w' : World} {b B : Nat} {v : Value} {t : TypeId} (h : One w b v t) (hb : Below B w w') (hB : b < B) : One w' b v t := (hb.block b hB).trans h
theorem One.set {w : World} {b : Nat} {v : Value} {t : TypeId} (h : One w b v t) (u : Value) : One (w.setCell ⟨b, 0, none⟩ u) b u t := by
  unfold One at *; simp [World.setCell, Array.getElem?_modify, h]
theorem One.far {w : World} {b g j : Nat} {v : Value} {t : TypeId} (h : One w b v t) (hn : b ≠ g) (u : Value) : One (w.setCell ⟨g, j, none⟩ u) b v t := (Below.heap_setCell w ⟨g, j, none⟩ u b hn).trans h
theorem One.ks {w w' : World} {b : Nat} {v : Value} {t : TypeId} {S : Nat → Prop} (h : One w b v t) (hk : Ks S w w') (hS : S b) : One w' b v t := hk.same _ _ h rfl hS
theorem grown_one (W : World) (b : Nat) (v : Value) : W.grownBy (W.setCell ⟨b, 0, none⟩ v) (some b) := by
  refine ⟨rfl, rfl, rfl, by simp, fun k _ hk => ?_⟩
  exact Below.heap_setCell W ⟨b, 0, none⟩ v k (by rintro rfl; exact hk rfl)
theorem grown_below {W W' : World} {r : Option Nat} (h : Below W.heap.size W W') : W.grownBy W' r := ⟨h.os, h.tape, h.output, h.size, fun k hk _ => h.block k hk⟩

set_option maxHeartbeats 6400000 in
set_option maxRecDepth 100000 in
theorem frames1_gives (n bs ba : Nat) (s : ByteArray) (p : Nat) (w : World) (hs : s.size ≤ 1000000) (hp : p ≤ 1000000)
    (cs : One w bs (.string s) 9) (ca : One w ba (.int .i64 (p : Int)) 3) (hne : bs ≠ ba) :
    Gives Fence.wide n Tryz.prog 56 #[.pointer (some ⟨bs, 0, none⟩), .pointer (some ⟨ba, 0, none⟩)] fv (fun k => k = bs ∨ k = ba) ba (frs s p) w := by
  intro l J W hW hJ hY h0
  have hz : (Tryz.prog.info? 73).map (fun i => (i.zero, i.size)) = some (some (.agg (Array.replicate 256 (.int .u32 0))), 256) := by kernel_rfl
  have hsz : (Tryz.prog.info? 73).map (·.size) = some 256 := by kernel_rfl
  have HZ := Lib.hid hz
  have HSI := Lib.hid hsz
  have HTL := Lib.hid (show TB.size = 256 by unfold TB; rw [List.size_toArray, length_vu, length_n256])
  have HT1 := Lib.hid (show TB.all (·.oneCell') = true from all_oneCell_toArray (vu_one _))
  have HT := Lib.hid (table_any W)
  have HJb := Lib.hid (fun (pre : List Fr) (S : Nat → Prop) (W1 W2 : World) (h : J pre S W1) (hb : Below W1.heap.size W1 W2) => hJ pre S S W1 W2 h (grown_below hb) (fun _ h => .inl h))
  have HJ := Lib.hid hJ
  have HY := Lib.hid hY
  have H0 := Lib.hid (And.intro h0 (And.intro (cs.below hW cs.lt) (ca.below hW ca.lt)))
  clear hz hsz hJ hY h0 cs ca hW
  refine callsIn_of_wp Tryz.func56 rfl trivial ?_ rfl
  simp only [Tryz.ntmps56, List.size_toArray, List.length_cons, List.length_nil, Nat.reduceAdd, Nat.reduceSub, Array.replicate_succ, Array.replicate_zero, List.push_toArray, List.append_toArray, List.nil_append, List.cons_append]
  gi_wp2_with fail
  refine ⟨trivial, (fun h => by cases h), (callsIn_wide.2 HT.out).mono ?_⟩
  rintro e1 w1 ⟨rfl, hb1⟩
  have H1 := Lib.hid (And.intro (HJb.out _ _ _ _ H0.out.1 hb1) (And.intro (H0.out.2.1.below hb1 H0.out.2.1.lt) (H0.out.2.2.below hb1 H0.out.2.2.lt)))
  have HB2 := Lib.hid (ext_alloc w1 (.cells TB 73))
  have H2 := Lib.hid (And.intro (HJ.out _ _ (fun k => k = bs ∨ k = ba ∨ k = w1.heap.size) _ _ H1.out.1 (grown_below HB2.out) (by rintro k (h | h | h); exact .inl (.inl h); exact .inl (.inr h); exact .inr (by subst h; simp))) (And.intro (H1.out.2.1.below HB2.out H1.out.2.1.lt) (And.intro (H1.out.2.2.below HB2.out H1.out.2.2.lt) (tb_row w1))))
  clear hb1 HT H0 H1 HB2
  generalize TB = Z at *
  gi_wp2_with (first | (refine wpListIn_alloc_zero rfl 73 rfl _ _ HZ.out ?_) | (refine wpListIn_store_new w1 (Array.replicate 256 (.int .u32 0)) rfl 73 (.tmp 4) (.tmp 7) rfl Z (by simp [go_sem, Act.eval]) (by simp [go_sem, Act.eval]) (by rw [HTL.out]; exact HSI.out) (by rw [HTL.out]; simp) HT1.out ?_))
  obtain ⟨T, hT⟩ : ∃ T, T = w1.heap.size := ⟨_, rfl⟩
  rw [← hT] at H2 ⊢
  generalize w1.alloc (.cells Z 73) = w2 at *
  clear hT
  simp only [Act.put, List.setIfInBounds_toArray, List.set_cons_zero, List.set_cons_succ]
  gi_loopg [] (s.size + 2) (fun kx wr => ∃ (q : Nat) (pre : List Fr), q ≤ 1000000 ∧ s.size + 1 - q < kx ∧ Hid (frs s p = pre ++ frs s q ∧ J pre (fun k => k = bs ∨ k = ba ∨ k = T) wr ∧ One wr bs (.string s) 9 ∧ One wr ba (.int .i64 (q : Int)) 3 ∧ Au wr T (n256 tb)))
  case atStart => exact ⟨p, [], by omega, by omega, Lib.hid ⟨rfl, H2.out.1, H2.out.2.1, H2.out.2.2.1, H2.out.2.2.2⟩⟩
  case round =>
    clear H2
    obtain ⟨q, pre, hq, hkx, H⟩ := hrel
    have hc1 := H.out.2.2.1.cell
    have hc2 := H.out.2.2.2.1.cell
    have HG := Lib.hid (get_any T s q wr H.out.2.2.2.2 hs (by omega))
    gi_wp2_with fail
    refine ⟨trivial, (fun h => by cases h), (callsIn_wide.2 HG.out).mono ?_⟩
    rintro e3 w3 ⟨ha, hb3⟩
    have hT3 : T < w3.heap.size := Nat.lt_of_lt_of_le H.out.2.2.2.2.lt hb3.size
    have H3 := Lib.hid (And.intro (HJb.out _ _ _ _ H.out.2.1 hb3) (And.intro (H.out.2.2.1.below hb3 H.out.2.2.1.lt) (And.intro (H.out.2.2.2.1.below hb3 H.out.2.2.2.1.lt) (H.out.2.2.2.2.below hb3 H.out.2.2.2.2.lt))))
    have HE := Lib.hid H.out.1
    clear hb3 HG H hc1 hc2
    rcases ha with ⟨hgf, rfl⟩ | ⟨hgf, x, hx, rfl⟩
    · have hto := GF_to hgf
      have HX := Lib.hid (show frs s p = pre ++ fr s q :: frs s (fto s q) by rw [HE.out, frs_yes hgf])
      have hb4 := ext_alloc w3 (.cells #[.int .i64 ((by4 s.data.toList q : Nat) : Int), .string (fbody s q), .int .i64 (q : Int), .int .i64 ((fto s q : Nat) : Int)] 59)
      have H4 := Lib.hid (And.intro (HJ.out _ _ (fun k => k = bs ∨ k = ba ∨ k = T ∨ k = w3.heap.size) _ _ H3.out.1 (grown_below hb4) (by rintro k (h | h | h | h); exact .inl (.inl h); exact .inl (.inr (.inl h)); exact .inl (.inr (.inr h)); exact .inr (by subst h; simp))) (And.intro (H3.out.2.1.below hb4 H3.out.2.1.lt) (And.intro (H3.out.2.2.1.below hb4 H3.out.2.2.1.lt) (And.intro (H3.out.2.2.2.below hb4 H3.out.2.2.2.lt) (show Fb _ w3.heap.size _ _ _ _ from heap_alloc_new w3 (.cells #[.int .i64 ((by4 s.data.toList q : Nat) : Int), .string (fbody s q), .int .i64 (q : Int), .int .i64 ((fto s q : Nat) : Int)] 59))))))
      obtain ⟨fnn, tmps, assign, body, hy, hR⟩ := HY.out pre (fr s q) (frs s (fto s q)) _ _ HX.out H4.out.1
      have HR := Lib.hid hR
      dsimp only [fv, fr, fagg] at hy
      unfold fagg
      clear hb4 hgf H3 hR
      gi_wp2_with fail
      refine ⟨(fun h => by cases h), HR.out.mono ?_⟩
      rintro e5 w5 ⟨rfl, hJ5, hk5⟩
      have hs5 := H4.out.2.1.ks hk5 (.inl rfl)
      have ha5 := H4.out.2.2.1.ks hk5 (.inr (.inl rfl))
      have ht5 : Au w5 T (n256 tb) := ⟨hk5.same _ _ H4.out.2.2.2.1.1 rfl (.inr (.inr (.inl rfl))), H4.out.2.2.2.1.2⟩
      have hf5 : Fb w5 w3.heap.size _ _ _ _ := hk5.same _ _ H4.out.2.2.2.2 rfl (.inr (.inr (.inr rfl)))
      have hc3 := hf5.c3
      have hcA := ha5.cell
      have hfA := ha5.fz
      have hTba : T ≠ ba := by
        rintro rfl
        have h1 := ha5
        have h2 := ht5.1
        unfold One at h1
        rw [h1] at h2
        simp at h2
      have H5 := Lib.hid (And.intro (HJ.out _ _ (fun k => k = bs ∨ k = ba ∨ k = T) _ _ hJ5 (grown_one w5 ba (.int .i64 ((fto s q : Nat) : Int))) (by rintro k (h | h | h); exact .inl (.inl h); exact .inl (.inr (.inl h)); exact .inl (.inr (.inr (.inl h))))) (And.intro (hs5.far (j := 0) hne (.int .i64 ((fto s q : Nat) : Int))) (And.intro (ha5.set (.int .i64 ((fto s q : Nat) : Int))) (show Au (w5.setCell ⟨ba, 0, none⟩ (.int .i64 ((fto s q : Nat) : Int))) T (n256 tb) from ⟨(Below.heap_setCell w5 ⟨ba, 0, none⟩ _ T hTba).trans ht5.1, ht5.2⟩))))
      have HX2 := Lib.hid (show frs s p = (pre ++ [fr s q]) ++ frs s (fto s q) by rw [HX.out]; simp)
      clear hJ5 hk5 hs5 ha5 ht5 hf5 hTba H4 HR HX HE hy
      gi_wp2_with fail
      gi_roundg (s.size + 1 - fto s q + 1)
      case measure => omega
      case rel => exact ⟨fto s q, pre ++ [fr s q], by omega, by omega, Lib.hid ⟨HX2.out, H5.out⟩⟩
    · have HX := Lib.hid (show frs s p = pre by rw [HE.out, frs_no hgf, List.append_nil])
      have hb4 := ext_alloc w3 (.cells #[.int .i64 0, .string ⟨#[]⟩, .int .i64 0, .int .i64 0] 59)
      have H4 := Lib.hid (HJb.out _ _ _ _ H3.out.1 hb4)
      have hxb : (x != 0) = true := by simp [hx]
      unfold fagg
      clear hb4 hgf H3
      gi_wp2_with fail
      refine ⟨(fun _ h => by cases h), ?_⟩
      gi_wp2_with fail
      refine bodyPost_ret (results_none rfl _ _ _) rfl ?_
      exact ⟨⟨_, rfl⟩, _, by rw [HX.out]; exact H4.out⟩
end Fm
end Go.Proofs.YtpbphhpldlckbaaGreat
namespace Go.Proofs.YtpbphhpldlckbaaGreat
namespace Fm
open Go.RowKit Go.Shelf Cr Rg

theorem frames_any (s : ByteArray) (p : Nat) (w : World) :
    Calls Tryz.prog 36 #[.string s, .int .i64 (p : Int)] w fun e w' => e = .returned (.func (.func 56) #[] #[.pointer (some ⟨w.heap.size, 0, none⟩), .pointer (some ⟨w.heap.size + 1, 0, none⟩)]) ∧
      w' = (w.alloc (.cells #[.string s] 9)).alloc (.cells #[.int .i64 (p : Int)] 3) := by
  go_enter Tryz.func36, Tryz.ntmps36
  go_wp2_with fail
  go_ret
  exact ⟨rfl, rfl⟩
/-- Frames as cells. -/
def clF (x : Fr) : List Value := [.int .i64 (x.1 : Int), .string x.2.1, .int .i64 (x.2.2.1 : Int), .int .i64 (x.2.2.2 : Int)]
def flF (l : List Fr) : List Value := l.flatMap clF
def OwnFr (w : World) (B : Nat) (v : Value) (l : List Fr) : Prop := w.ownsRow B 59 4 v l.length (flF l)
def lastTo (p : Nat) (l : List Fr) : Nat := match l.getLast? with | none => p | some x => x.2.2.2

theorem One.new {w : World} {g : Nat} (v : Value) (t : TypeId) (hg : w.heap.size = g) : One (w.alloc (.cells #[v] t)) g v t := hg ▸ heap_alloc_new w _
theorem One.alloc {w : World} {g : Nat} {v : Value} {t : TypeId} (h : One w g v t) (o : Obj) : One (w.alloc o) g v t := (Below.heap_alloc w o g h.lt).trans h
theorem One.grown {w w' : World} {g : Nat} {v : Value} {t : TypeId} {row : Option Nat} (h : One w g v t) (hg : w.grownBy w' row) (hr : row ≠ some g) : One w' g v t := (hg.block g h.lt (fun e => hr e.symm)).trans h
theorem Fb.grown {w w' : World} {g : Nat} {k p t : Int} {b : ByteArray} {row : Option Nat} (h : Fb w g k b p t) (hg : w.grownBy w' row) (hr : row ≠ some g) : Fb w' g k b p t := (hg.block g h.lt (fun e => hr e.symm)).trans h
theorem own_grown {w w' : World} {base : Nat} {e : TypeId} {size n : Nat} {v : Value} {xs : List Value} {row : Option Nat} (h : w.ownsRow base e size v n xs) (hg : w.grownBy w' row)
    (hr : ∀ r, row = some r → r < base ∨ ∃ o : Obj, w.heap[r]? = some o ∧ o.isCells = false) : w'.ownsRow base e size v n xs := by
  refine ⟨h.1, ?_⟩
  rcases h.2 with h2 | ⟨g, cap, cur, hv, hb, hh, r⟩
  · exact Or.inl h2
  · refine Or.inr ⟨g, cap, cur, hv, hb, ?_, r⟩
    rw [hg.block g (Array.getElem?_eq_some_iff.1 hh).1 ?_]
    · exact hh
    · intro he
      rcases hr g he.symm with h1 | ⟨o, ho, hc⟩
      · omega
      · rw [hh] at ho; cases ho; cases hc
theorem row_one {w : World} {g r : Nat} {v : Value} {t : TypeId} {B b : Nat} (h : One w g v t) (hgb : g ≠ b) (hr : r = b ∨ B ≤ r ∧ ∃ o : Obj, w.heap[r]? = some o ∧ o.isCells = false) : some r ≠ some g := by
  rintro e
  cases e
  rcases hr with rfl | ⟨_, o, ho, hc⟩
  · exact hgb rfl
  · rw [h] at ho; cases ho; cases hc
theorem row_fb {w : World} {g r : Nat} {k p t : Int} {by_ : ByteArray} {B b : Nat} (h : Fb w g k by_ p t) (hgb : g ≠ b) (hr : r = b ∨ B ≤ r ∧ ∃ o : Obj, w.heap[r]? = some o ∧ o.isCells = false) : some r ≠ some g := by
  rintro e
  cases e
  rcases hr with rfl | ⟨_, o, ho, hc⟩
  · exact hgb rfl
  · rw [h] at ho; cases ho; cases hc
theorem Ks.alloc (S : Nat → Prop) (W : World) (o : Obj) : Ks S W (W.alloc o) := ⟨by simp, fun k p hk _ _ => (Below.heap_alloc W o k (Array.getElem?_eq_some_iff.1 hk).1).trans hk⟩
theorem fr_info : (Tryz.prog.info? 59).map (fun i => (i.zero, i.size, i.bytes)) = some (some (.agg #[.int .i64 0, .string ⟨#[]⟩, .int .i64 0, .int .i64 0]), 4, 40) := by kernel_rfl
theorem frs_len (s : ByteArray) (p : Nat) (hs : s.size ≤ 1000000) : (frs s p).length ≤ 1000000 := by
  have h : ∀ (m p : Nat), s.size - p ≤ m → (frs s p).length ≤ m := by
    intro m
    induction m with
    | zero =>
      intro p hp
      rw [frs_no (fun h => by have := GF_to h; omega)]; simp
    | succ m ih =>
      intro p hp
      by_cases h : GF s p
      · have := GF_to h
        rw [frs_yes h, List.length_cons]
        have := ih (fto s p) (by omega)
        omega
      · rw [frs_no h]; simp
  have := h (s.size - p) p (Nat.le_refl _)
  omega
theorem frs_pre {l pre : List Fr} {x : Fr} {rest : List Fr} (h : l = pre ++ x :: rest) : pre.length ≤ l.length := by rw [h, List.length_append]; omega
/-- What Scan's own cells hold. -/
def IS (w : World) (b3 b6 B p : Nat) (pre : List Fr) (v : Value) (W : World) : Prop :=
  (One W b6 v 53 ∧ OwnFr W B v pre) ∧ One W b3 (.int .i64 ((lastTo p pre : Nat) : Int)) 3 ∧ Below w.heap.size w W ∧ B ≤ W.heap.size
theorem IS.grown {w : World} {b3 b6 B p b : Nat} {pre : List Fr} {v : Value} {W W' : World} {row : Option Nat} (h : IS w b3 b6 B p pre v W) (hb3 : b3 ≠ b) (hb6 : b6 ≠ b) (hbB : b < B) (hwb : w.heap.size ≤ b)
    (hg : W.grownBy W' row) (hr : ∀ r, row = some r → r = b ∨ B ≤ r ∧ ∃ o : Obj, W.heap[r]? = some o ∧ o.isCells = false) : IS w b3 b6 B p pre v W' := by
  obtain ⟨⟨h1, h2⟩, h3, h4, h5⟩ := h
  have q : ∀ {g : Nat} {v : Value} {t : TypeId}, One W g v t → g ≠ b → row ≠ some g := fun ho hn e => by
    subst e; exact row_one ho hn (hr _ rfl) rfl
  refine ⟨⟨h1.grown hg (q h1 hb6), own_grown h2 hg (fun r e => ?_)⟩, h3.grown hg (q h3 hb3), h4.trans ⟨hg.os, hg.tape, hg.output, hg.size, fun k hk => hg.block k (Nat.lt_of_lt_of_le hk h4.size) (fun e => ?_)⟩, Nat.le_trans h5 hg.size⟩
  · rcases hr r e with rfl | ⟨_, h⟩
    · exact .inl hbB
    · exact .inr h
  · have := h4.size
    have := hr k e.symm
    omega
/-- The blocks that the iterator wants kept are none of Scan's own. -/
def SS (b3 b6 : Nat) (v : Value) (S : Nat → Prop) (W : World) : Prop := ∀ k, S k → v.ownBlock ≠ some k ∧ k ≠ b3 ∧ k ≠ b6 ∧ k < W.heap.size
theorem SS.grown {w : World} {b3 b6 B p : Nat} {pre : List Fr} {v : Value} {S S' : Nat → Prop} {W W' : World} (hi : IS w b3 b6 B p pre v W) (h : SS b3 b6 v S W) (hs : W.heap.size ≤ W'.heap.size) (hS : ∀ k, S' k → S k ∨ W.heap.size ≤ k ∧ k < W'.heap.size) : SS b3 b6 v S' W' := by
  intro k hk
  rcases hS k hk with h1 | ⟨h1, h2⟩
  · obtain ⟨a, b, c, d⟩ := h k h1
    exact ⟨a, b, c, Nat.lt_of_lt_of_le d hs⟩
  · have l6 := hi.1.1.lt
    have l3 := hi.2.1.lt
    exact ⟨fun e => by have := World.ownsRow.lt hi.1.2 k e; omega, by omega, by omega, h2⟩
theorem own_cells {w : World} {base : Nat} {e : TypeId} {size n : Nat} {v : Value} {xs : List Value} {g : Nat} (h : w.ownsRow base e size v n xs) (hv : v.ownBlock = some g) : ∃ o : Obj, w.heap[g]? = some o ∧ o.isCells = true := by
  rcases h.2 with ⟨h2, _⟩ | ⟨g', cap, cur, h2, hb, hh, r⟩
  · rw [h2] at hv; cases hv
  · rw [h2] at hv; cases hv; exact ⟨_, hh, rfl⟩
theorem flF_snoc (l : List Fr) (x : Fr) : flF (l ++ [x]) = flF l ++ clF x := by unfold flF; rw [List.flatMap_append]; simp
theorem lastTo_snoc (p : Nat) (l : List Fr) (x : Fr) : lastTo p (l ++ [x]) = x.2.2.2 := by unfold lastTo; rw [List.getLast?_append]; rfl
attribute [local go_sem] Oper.semAt_some
attribute [-go_sem] Builtin.append_
set_option maxHeartbeats 6400000 in
set_option maxRecDepth 100000 in
theorem scan_any (s : ByteArray) (p : Nat) (w : World) (hs : s.size ≤ 1000000) (hp : p ≤ 1000000) :
    Calls Tryz.prog 18 #[.string s, .int .i64 (p : Int)] w fun e w' => (∃ v, e = .returned (.tuple #[v, .int .i64 ((lastTo p (frs s p) : Nat) : Int)]) ∧ OwnFr w' w.heap.size v (frs s p)) ∧ Below w.heap.size w w' := by
  have mixed : Tryz.prog.follows .mixedOrders = true := by kernel_rfl
  refine (callsIn_wide (n := 3)).1 ?_
  refine callsIn_of_wp_marks Tryz.func18 rfl trivial ?_ rfl
  simp only [Tryz.ntmps18, List.size_toArray, List.length_cons, List.length_nil, Nat.reduceAdd, Nat.reduceSub, Array.replicate_succ, Array.replicate_zero, List.push_toArray, List.append_toArray, List.nil_append, List.cons_append]
  gi_wp2_with fail
  refine ⟨trivial, (callsIn_wide.2 (frames_any s p _)).mono ?_⟩
  rintro e1 w1 ⟨rfl, rfl⟩
  gi_wp2_with fail
  have HW0 := Lib.hid (show ((((w.alloc (.cells #[.int .i64 (p : Int)] 3)).alloc (.cells #[.slice none 0 0] 53)).alloc (.cells #[.string s] 9)).alloc (.cells #[.int .i64 (p : Int)] 3)).heap.size = w.heap.size + 1 + 1 + 1 + 1 by simp)
  have C3 := Lib.hid ((((One.new (w := w) (.int .i64 (p : Int)) 3 rfl).alloc (.cells #[.slice none 0 0] 53)).alloc (.cells #[.string s] 9)).alloc (.cells #[.int .i64 (p : Int)] 3))
  have C6 := Lib.hid (((One.new (w := w.alloc (.cells #[.int .i64 (p : Int)] 3)) (g := w.heap.size + 1) (.slice none 0 0) 53 (by simp)).alloc (.cells #[.string s] 9)).alloc (.cells #[.int .i64 (p : Int)] 3))
  have CS := Lib.hid ((One.new (w := (w.alloc (.cells #[.int .i64 (p : Int)] 3)).alloc (.cells #[.slice none 0 0] 53)) (g := w.heap.size + 1 + 1) (.string s) 9 (by simp)).alloc (.cells #[.int .i64 (p : Int)] 3))
  have CA := Lib.hid (One.new (w := ((w.alloc (.cells #[.int .i64 (p : Int)] 3)).alloc (.cells #[.slice none 0 0] 53)).alloc (.cells #[.string s] 9)) (g := w.heap.size + 1 + 1 + 1) (.int .i64 (p : Int)) 3 (by simp))
  have HB := Lib.hid ((((ext_alloc w (.cells #[.int .i64 (p : Int)] 3)).trans ((ext_alloc _ (.cells #[.slice none 0 0] 53)).mono (by simp))).trans ((ext_alloc _ (.cells #[.string s] 9)).mono (by simp; omega))).trans ((ext_alloc _ (.cells #[.int .i64 (p : Int)] 3)).mono (by simp; omega)))
  generalize (((w.alloc (.cells #[.int .i64 (p : Int)] 3)).alloc (.cells #[.slice none 0 0] 53)).alloc (.cells #[.string s] 9)).alloc (.cells #[.int .i64 (p : Int)] 3) = W0 at *
  refine wpIn_range_own rfl (by omega) (gf := 56) (lb := #[.pointer (some ⟨w.heap.size + 1 + 1, 0, none⟩), .pointer (some ⟨w.heap.size + 1 + 1 + 1, 0, none⟩)]) rfl trivial (enters_of Tryz.func56 (by kernel_rfl) rfl)
    (enc := fv) (R := fun k => k = w.heap.size + 1 + 1 ∨ k = w.heap.size + 1 + 1 + 1) (b := w.heap.size + 1 + 1 + 1) (xs := frs s p) (by rw [HW0.out]; omega)
    (frames1_gives _ _ _ s p W0 hs hp CS.out CA.out (by omega))
    (fun pre S W => ∃ v, IS w w.heap.size (w.heap.size + 1) W0.heap.size p pre v W ∧ SS w.heap.size (w.heap.size + 1) v S W)
    (fun pre S S' W W' row ⟨v, h, h'⟩ hg hr hS => ⟨v, h.grown (by omega) (by omega) (by rw [HW0.out]; omega) (by omega) hg hr, h'.grown h hg.size hS⟩)
    ⟨_, ⟨⟨C6.out, World.ownsRow_nil _ _ _ _⟩, C3.out, HB.out, Nat.le_refl _⟩, fun k hk => ⟨by simp [Value.ownBlock], by omega, by omega, by rw [HW0.out]; omega⟩⟩
    (fun pre x S a' W => ∃ g v, W0.heap.size ≤ g ∧ v.ownBlock ≠ some g ∧ a' = { tmps := #[.string s, .int .i64 (p : Int), undef, .pointer (some ⟨w.heap.size, 0, none⟩), .slice none 0 0, .int .i64 0, .pointer (some ⟨w.heap.size + 1, 0, none⟩), .pointer (some ⟨g, 0, none⟩), .string s, .int .i64 (p : Int),
      .func (.func 56) #[] #[.pointer (some ⟨w.heap.size + 1 + 1, 0, none⟩), .pointer (some ⟨w.heap.size + 1 + 1 + 1, 0, none⟩)], fv x, undef, undef, undef, undef, undef, undef, undef, undef], defers := [] } ∧ Fb W g x.1 x.2.1 x.2.2.1 x.2.2.2 ∧ IS w w.heap.size (w.heap.size + 1) W0.heap.size p pre v W ∧ SS w.heap.size (w.heap.size + 1) v S W)
    ?hax ?assign ?body ?done
  case hax =>
    rintro pre x S a' W W' row ⟨g, v, hg, hv, rfl, hf, hi, hss⟩ hgr hr
    exact ⟨g, v, hg, hv, rfl, hf.grown hgr (by intro e; subst e; exact row_fb hf (by rw [HW0.out] at hg; omega) (hr _ rfl) rfl), hi.grown (by omega) (by omega) (by rw [HW0.out]; omega) (by omega) hgr hr, hss.grown hi hgr.size (fun _ h => .inl h)⟩
  case assign =>
    rintro l pre ⟨k, b, q, t⟩ rest S W hxs ⟨v, hi, hss⟩
    unfold fv fagg
    dsimp only
    gi_wp2_with fail
    exact ⟨KeepsOthers.alloc _ _, Ks.alloc _ _ _, W.heap.size, v, hi.2.2.2, (fun e => by have := World.ownsRow.lt hi.1.2 _ e; omega), rfl, heap_alloc_new W _, hi.grown (b := w.heap.size + 1 + 1 + 1) (by omega) (by omega) (by rw [HW0.out]; omega) (by omega) (World.grownBy_alloc W _ none) (by intro r e; cases e), hss.grown hi (by simp) (fun _ h => .inl h)⟩
  case body =>
    rintro l pre ⟨k, b, q, t⟩ rest S a' W hxs ⟨g, v, hg, hvg, rfl, hf, ⟨⟨h1, h2⟩, h3, h4, h5⟩, hss⟩
    have hc1 := h1.cell
    have hc3 := h3.cell
    have hf1 := h1.fz
    have hf3 := h3.fz
    have d0 := hf.c0
    have d1 := hf.c1
    have d2 := hf.c2
    have d3 := hf.c3
    have hpl : pre.length ≤ 1000000 := Nat.le_trans (frs_pre hxs) (frs_len s p hs)
    obtain ⟨i0, hi, hz0, hz1, hz2⟩ := info_parts fr_info
    have hX : (W.alloc (.cells #[.int .i64 (k : Int), .string b, .int .i64 (q : Int), .int .i64 (t : Int)] 59)).drew.heap.size = W.heap.size + 1 := by simp
    have hgw : W.grownBy (W.alloc (.cells #[.int .i64 (k : Int), .string b, .int .i64 (q : Int), .int .i64 (t : Int)] 59)).drew none := have h := World.grownBy_alloc W (.cells #[.int .i64 (k : Int), .string b, .int .i64 (q : Int), .int .i64 (t : Int)] 59) none; ⟨h.os, h.tape, h.output, h.size, h.block⟩
    obtain ⟨v', w', hr, o', hg', -, hob⟩ := run_append_own_at (P := Tryz.prog) (w := (W.alloc (.cells #[.int .i64 (k : Int), .string b, .int .i64 (q : Int), .int .i64 (t : Int)] 59)).drew) W0.heap.size 53 53 59 i0 (.agg #[.int .i64 0, .string ⟨#[]⟩, .int .i64 0, .int .i64 0]) 4 40 Tryz.underlying53 hi hz0 hz1 hz2 rfl (by omega) v pre.length (flF pre) (own_grown h2 hgw (by intro r e; cases e))
      ⟨W.heap.size, 0, none⟩ 1 1 (clF (k, b, q, t)) rfl (by
        intro j u hu
        have hnew : (W.alloc (.cells #[.int .i64 (k : Int), .string b, .int .i64 (q : Int), .int .i64 (t : Int)] 59)).drew.heap[W.heap.size]? = some _ := heap_alloc_new W (.cells #[.int .i64 (k : Int), .string b, .int .i64 (q : Int), .int .i64 (t : Int)] 59)
        have hj : j < 4 := (List.getElem?_eq_some_iff.1 hu).1
        rcases j with _ | _ | _ | _ | j
        · simp [clF] at hu; subst hu; exact Fb.c0 hnew
        · simp [clF] at hu; subst hu; exact Fb.c1 hnew
        · simp [clF] at hu; subst hu; exact Fb.c2 hnew
        · simp [clF] at hu; subst hu; exact Fb.c3 hnew
        · omega) (by intro u hu; simp [clF] at hu; rcases hu with rfl | rfl | rfl | rfl <;> rfl) (by simp only [maxLen]; omega) (by omega) (by rw [hX]; omega)
    obtain ⟨g', cap', rfl⟩ := ownsRow_succ o'
    have hlv := World.ownsRow.lt h2
    have nb : ∀ {x : Nat}, x < W0.heap.size → v.ownBlock ≠ some x := fun hx e => by have := hlv _ e; omega
    have n6 : v.ownBlock ≠ some (w.heap.size + 1) := nb (by rw [HW0.out]; omega)
    have n3 : v.ownBlock ≠ some w.heap.size := nb (by rw [HW0.out]; omega)
    have X1 := (h1.grown hgw (by simp)).grown hg' n6
    have X3 := (h3.grown hgw (by simp)).grown hg' n3
    have XF := (hf.grown hgw (by simp)).grown hg' hvg
    have x1 := X1.cell
    have x3 := X3.cell
    have y1 := X1.fz
    have y3 := X3.fz
    have z3 := XF.c3
    have hgl := hf.lt
    have h6l := h1.lt
    have h3l := h3.lt
    have bX : Below W.heap.size W (W.alloc (.cells #[.int .i64 (k : Int), .string b, .int .i64 (q : Int), .int .i64 (t : Int)] 59)).drew := ⟨hgw.os, hgw.tape, hgw.output, hgw.size, fun k hk => hgw.block k hk (by simp)⟩
    have b2 : Below W0.heap.size (W.alloc (.cells #[.int .i64 (k : Int), .string b, .int .i64 (q : Int), .int .i64 (t : Int)] 59)).drew w' := (Below.refl _ _).grown hg' (by rw [hX]; omega) (fun k hk => (hlv k hk).1)
    have hw0 : w.heap.size ≤ W0.heap.size := by rw [HW0.out]; omega
    have b3 : Below w.heap.size w w' := (h4.trans (bX.mono h4.size)).trans (b2.mono hw0)
    have b4 : Below w.heap.size w ((w'.setCell ⟨w.heap.size + 1, 0, none⟩ (.slice (some ⟨g', 0, none⟩) (pre.length + 1) cap')).setCell ⟨w.heap.size, 0, none⟩ (.int .i64 (t : Int))) := (b3.setCell (p := ⟨w.heap.size + 1, 0, none⟩) (Nat.le_succ _) _).setCell (p := ⟨w.heap.size, 0, none⟩) (Nat.le_refl _) _
    have ho2 := World.ownsRow.lt o'
    have hsz : W.heap.size ≤ w'.heap.size := Nat.le_trans bX.size b2.size
    have kO : KeepsOthers W w' := ⟨hsz, fun i o hi ho => by
      have hl := (Array.getElem?_eq_some_iff.1 hi).1
      rw [hg'.block i (by rw [hX]; omega) (fun e => by obtain ⟨o2, h1, h2⟩ := own_cells h2 e.symm; rw [hi] at h1; cases h1; rw [ho] at h2; cases h2), hgw.block i hl (by simp)]
      exact hi⟩
    have kS : Ks S W ((w'.setCell ⟨w.heap.size + 1, 0, none⟩ (.slice (some ⟨g', 0, none⟩) (pre.length + 1) cap')).setCell ⟨w.heap.size, 0, none⟩ (.int .i64 (t : Int))) := ⟨by simp; exact hsz, fun i o hi ho hS => by
      have hl := (Array.getElem?_eq_some_iff.1 hi).1
      obtain ⟨s1, s2, s3, s4⟩ := hss i hS
      rw [Below.heap_setCell _ ⟨w.heap.size, 0, none⟩ _ i s2, Below.heap_setCell _ ⟨w.heap.size + 1, 0, none⟩ _ i s3, hg'.block i (by rw [hX]; omega) (fun e => s1 e.symm), hgw.block i hl (by simp)]
      exact hi⟩
    have HFIN := Lib.hid (show KeepsOthers W ((w'.setCell ⟨w.heap.size + 1, 0, none⟩ (.slice (some ⟨g', 0, none⟩) (pre.length + 1) cap')).setCell ⟨w.heap.size, 0, none⟩ (.int .i64 (t : Int))) ∧ Ks S W ((w'.setCell ⟨w.heap.size + 1, 0, none⟩ (.slice (some ⟨g', 0, none⟩) (pre.length + 1) cap')).setCell ⟨w.heap.size, 0, none⟩ (.int .i64 (t : Int))) ∧ ∃ v, IS w w.heap.size (w.heap.size + 1) W0.heap.size p (pre ++ [(k, b, q, t)]) v ((w'.setCell ⟨w.heap.size + 1, 0, none⟩ (.slice (some ⟨g', 0, none⟩) (pre.length + 1) cap')).setCell ⟨w.heap.size, 0, none⟩ (.int .i64 (t : Int))) ∧ SS w.heap.size (w.heap.size + 1) v S ((w'.setCell ⟨w.heap.size + 1, 0, none⟩ (.slice (some ⟨g', 0, none⟩) (pre.length + 1) cap')).setCell ⟨w.heap.size, 0, none⟩ (.int .i64 (t : Int))) from
      ⟨(kO.trans (KeepsOthers.setCell _ _ _)).trans (KeepsOthers.setCell _ _ _), kS, .slice (some ⟨g', 0, none⟩) (pre.length + 1) cap',
        ⟨⟨(X1.set _).far (j := 0) (by omega) _, by
          unfold OwnFr
          rw [flF_snoc, List.length_append]
          exact own_setCell_far (own_setCell_far o' (fun e => by have h8 := (ho2 _ e).1; have h9 := HW0.out; dsimp only at h8; omega) _) (fun e => by have h8 := (ho2 _ e).1; have h9 := HW0.out; dsimp only at h8; omega) _⟩,
         by rw [lastTo_snoc]; exact (X3.far (j := 0) (by omega) _).set _, b4, by simp; omega⟩,
        fun i hi => by
          obtain ⟨s1, s2, s3, s4⟩ := hss i hi
          refine ⟨fun e => ?_, s2, s3, by simp; omega⟩
          rcases hob with h | h
          · exact s1 (h ▸ e)
          · rw [h, hX] at e; cases e; omega⟩)
    clear o' hg' hob X1 X3 XF bX b2 b3 b4 kO kS
    dsimp only at d0 d1 d2 d3 z3
    gi_wp2_with fail
    gi_region_with_o (fail)
    all_goals exact And.intro rfl HFIN.out
  case done =>
    rintro D S W hD ⟨v, ⟨⟨h1, h2⟩, h3, h4, h5⟩, hss⟩ hK
    have hc1 := h1.cell
    have hc3 := h3.cell
    gi_wp2_with fail
    gi_region
    gi_wp2_with fail
    have hKd : W.drew.heap[D]? = some (.deferred (some [])) := hK
    have hgD := grownBy_putObj' W.drew D (.deferred none)
    have hw0 : w.heap.size ≤ W0.heap.size := by rw [HW0.out]; omega
    refine ⟨by simp, .inl ⟨_, _, rfl, run_takeDeferred hKd, ?_⟩⟩
    refine ⟨_, results_tmp2 rfl _ _ _, ⟨_, rfl, own_lower (own_grown (w := W.drew) h2 hgD (fun r e => by cases e; exact .inr ⟨_, hKd, rfl⟩)) hw0⟩, h4.trans ⟨hgD.os, hgD.tape, hgD.output, hgD.size, fun i hi => hgD.block i (Nat.lt_of_lt_of_le hi h4.size) (fun e => by cases e; omega)⟩⟩
end Fm
end Go.Proofs.YtpbphhpldlckbaaGreat
namespace Go.Proofs
open Go.Shelf
def Tryz.lays170_ren : Go.Shelf.Ren := ⟨fun | 170 => 44 | n => n, fun | 70 => 91 | 3 => 3 | 0 => 0 | 72 => 93 | 37 => 66 | 5 => 5 | n => n, fun | n => n⟩
theorem Tryz.lays170 : Go.Proofs.Lays.n170 Tryz.prog Tryz.lays170_ren := {
  mixed := by kernel_rfl
  f170 := Tryz.func44.trans (congrArg some (by kernel_rfl))
  t0 := Tryz.underlying0
  a0 := Tryz.isAgg0
  z0 := Tryz.sizeOf0
  v0 := Tryz.zeroValue0
  t3 := Tryz.underlying3
  a3 := Tryz.isAgg3
  z3 := Tryz.sizeOf3
  v3 := Tryz.zeroValue3
  t37 := Tryz.underlying66
  a37 := Tryz.isAgg66
  z37 := Tryz.sizeOf66
  v37 := Tryz.zeroValue66
  t70 := Tryz.underlying91
  a70 := Tryz.isAgg91
  z70 := Tryz.sizeOf91
  v70 := Tryz.zeroValue91
  t72 := Tryz.underlying93
  a72 := Tryz.isAgg93
  z72 := Tryz.sizeOf93
  v72 := Tryz.zeroValue93 }
open Go.RowKit in
theorem Tryz.Builder_Len (B b : Nat) (bs : List Value) (w : World) (h : Lib.IsBuilder 93 5 B b bs w) :
    Calls Tryz.prog 44 #[.pointer (some ⟨b, 0, none⟩)] w fun e w' => e = .returned (.int .i64 bs.length) ∧ w' = w := Any.Builder_Len Tryz.lays170 B b bs w h
def Tryz.lays169_ren : Go.Shelf.Ren := ⟨fun | 169 => 46 | n => n, fun | 70 => 91 | 9 => 9 | 0 => 0 | 72 => 93 | 37 => 66 | 127 => 124 | 3 => 3 | 5 => 5 | n => n, fun | n => n⟩
theorem Tryz.lays169 : Go.Proofs.Lays.n169 Tryz.prog Tryz.lays169_ren := {
  mixed := by kernel_rfl
  f169 := Tryz.func46.trans (congrArg some (by kernel_rfl))
  t0 := Tryz.underlying0
  a0 := Tryz.isAgg0
  z0 := Tryz.sizeOf0
  v0 := Tryz.zeroValue0
  t3 := Tryz.underlying3
  a3 := Tryz.isAgg3
  z3 := Tryz.sizeOf3
  v3 := Tryz.zeroValue3
  t9 := Tryz.underlying9
  a9 := Tryz.isAgg9
  z9 := Tryz.sizeOf9
  v9 := Tryz.zeroValue9
  t37 := Tryz.underlying66
  a37 := Tryz.isAgg66
  z37 := Tryz.sizeOf66
  v37 := Tryz.zeroValue66
  t70 := Tryz.underlying91
  a70 := Tryz.isAgg91
  z70 := Tryz.sizeOf91
  v70 := Tryz.zeroValue91
  t72 := Tryz.underlying93
  a72 := Tryz.isAgg93
  z72 := Tryz.sizeOf93
  v72 := Tryz.zeroValue93
  t127 := Tryz.underlying124
  a127 := Tryz.isAgg124
  z127 := Tryz.sizeOf124
  v127 := Tryz.zeroValue124 }
theorem Tryz.Builder_Extra_169 : Builder.Extra Tryz.prog Tryz.lays169_ren := {
  sizeBuilder := by kernel_rfl
  liesBuilder := by kernel_rfl
  t5 := Tryz.underlying5
  a5 := Tryz.isAgg5
  z5 := Tryz.sizeOf5
  v5 := Tryz.zeroValue5
  infoByte := by kernel_rfl
  cellsByte := by kernel_rfl
  sizeByte := by kernel_rfl
  neB5 := by decide }
open Go.RowKit in
theorem Tryz.Builder_String_any (B b : Nat) (l : List UInt8) (w : World) (h : Lib.IsBuilder 93 5 B b (Lib.byteCells l) w) (hBw : B ≤ w.heap.size) :
    Calls Tryz.prog 46 #[.pointer (some ⟨b, 0, none⟩)] w fun e w' => e = .returned (.string ⟨l.toArray⟩) ∧ Below B w w' := Any.Builder_String_any Tryz.lays169 Tryz.Builder_Extra_169 B b l w h hBw
end Go.Proofs
namespace Go.Proofs.YtpbphhpldlckbaaGreat
namespace Bd
open Go.RowKit

/-- A builder at block b that holds bytes. -/
def Bb (w : World) (B b : Nat) (l : List UInt8) : Prop := Lib.IsBuilder 93 5 B b (bv l) w
theorem bb_size : (Tryz.prog.info? 93).map (·.size) = some 2 := by kernel_rfl
theorem bb_lies : liesAt Tryz.prog Tryz.prog.depth 93 (2 / Tryz.prog.cellsOf 93) 0 93 1 = true := by kernel_rfl
theorem bb_ne : 93 ≠ 5 := by decide
theorem bb_u : Tryz.prog.underlying 91 = some (.pointer 93) := by kernel_rfl
theorem bb_p : Tryz.prog.underlying 154 = some .unsafePointer := by kernel_rfl

set_option maxHeartbeats 1600000 in
set_option maxRecDepth 100000 in
theorem copyCheck_used (b : Nat) (w : World) (h0 : w.cell? ⟨b, 0, none⟩ = some (.pointer (some ⟨b, 0, none⟩))) :
    Calls Tryz.prog 68 #[.pointer (some ⟨b, 0, none⟩)] w fun e w' => e = .returned (.tuple #[]) ∧ w' = w := by
  obtain ⟨j, hj, _⟩ := Option.map_eq_some_iff.1 bb_size
  go_enter Tryz.func68, Tryz.ntmps68
  go_wp2
  rw [Lib.run_neq_ptr_same w _ bb_u hj]
  go_wp2
  go_end0
  exact ⟨rfl, rfl⟩

set_option maxHeartbeats 1600000 in
set_option maxRecDepth 100000 in
theorem copyCheck_fresh (b : Nat) (w : World) (h0 : w.cell? ⟨b, 0, none⟩ = some (.pointer none)) (hsh : w.shape? b = some (93, 2)) (hfz : w.frozen? ⟨b, 0, none⟩ = false) :
    Calls Tryz.prog 68 #[.pointer (some ⟨b, 0, none⟩)] w fun e w' => e = .returned (.tuple #[]) ∧ w' = w.setCell ⟨b, 0, none⟩ (.pointer (some ⟨b, 0, none⟩)) := by
  obtain ⟨j, hj, hjs⟩ := Option.map_eq_some_iff.1 bb_size
  go_enter Tryz.func68, Tryz.ntmps68
  go_wp2
  rw [Lib.run_to_unsafe w ⟨b, 0, none⟩ bb_u bb_p hj (by rw [hjs]; decide) hsh (Nat.zero_lt_succ 1)]
  simp only [Result.andThen]
  rw [Oper.upon_value]
  go_wp2
  rw [run_callFunc_extern Tryz.func89 (by kernel_rfl) (by kernel_rfl) (by kernel_rfl) (e := Extern.AbiNoEscape.same) (by kernel_rfl)]
  rw [Lib.run_noEscape]
  simp only [Result.andThen]
  rw [Oper.upon_value]
  go_wp2
  rw [Lib.run_from_unsafe w ⟨b, 0, none⟩ bb_p bb_u hj hsh bb_lies]
  simp only [Result.andThen]
  rw [Oper.upon_value]
  go_wp2
  go_end0
  exact ⟨rfl, rfl⟩

theorem copyCheck_any (B b : Nat) (l : List UInt8) (w : World) (h : Bb w B b l) :
    Calls Tryz.prog 68 #[.pointer (some ⟨b, 0, none⟩)] w fun e w' => e = .returned (.tuple #[]) ∧ (Lib.BuilderAt 93 5 B b (.pointer (some ⟨b, 0, none⟩)) (bv l) w' ∧ Below B w w') := by
  rcases h with h | h
  · refine (copyCheck_fresh b w h.cell0 h.shape h.frozen0).mono ?_
    rintro e w' ⟨rfl, rfl⟩
    exact ⟨rfl, h.used _, (Below.refl B w).setCell (p := ⟨b, 0, none⟩) h.1 _⟩
  · refine (copyCheck_used b w h.cell0).mono ?_
    rintro e w' ⟨rfl, rfl⟩
    exact ⟨rfl, h, Below.refl B _⟩
theorem strCells_eq (s : ByteArray) : Lib.strCells s = bv s.data.toList := rfl

set_option maxHeartbeats 3200000 in
set_option maxRecDepth 100000 in
theorem write_any (B b : Nat) (l : List UInt8) (s : ByteArray) (w : World) (h : Bb w B b l) (hl : l.length + s.size ≤ 1099511627776) (hBw : B ≤ w.heap.size) :
    Calls Tryz.prog 45 #[.pointer (some ⟨b, 0, none⟩), .string s] w fun e w' => e = .returned (.tuple #[.int .i64 s.size, .nilIface]) ∧ Bb w' B b (l ++ s.data.toList) ∧ Below B w w' := by
  obtain ⟨i0, hi, hz0, hz1, hz2⟩ := info_parts byte_info
  have hbl : (bv l).length = l.length := bv_length l
  have HC := Lib.hid (copyCheck_any B b l w h)
  clear h
  go_enter Tryz.func45, Tryz.ntmps45
  go_wp2_with fail
  refine HC.out.mono ?_
  rintro e w1 ⟨rfl, h1, hb1⟩
  obtain ⟨hB, v, hbk, hown, hne⟩ := h1
  have c0 : w1.cell? ⟨b, 0, none⟩ = some (.pointer (some ⟨b, 0, none⟩)) := by rw [Lib.cell_of_heap hbk]; rfl
  have c1 : w1.cell? ⟨b, 1, none⟩ = some v := by rw [Lib.cell_of_heap hbk]; rfl
  clear HC
  go_wp2_with (at_builtin; refine Lib.wpList_append_own_string _ rfl _ _ 66 9 rfl B 5 i0 (by kernel_rfl) (by kernel_rfl) hi hz0 hz1 hz2 _ _ _ rfl hown s rfl ?c3 ?c4 ?c5 ?_)
  case c3 => unfold maxLen; omega
  case c4 => omega
  case c5 => have := hb1.size; omega
  intro v' w2 hown' hgrow _
  have hlt : b < w1.heap.size := by
    rcases Nat.lt_or_ge b w1.heap.size with h' | h'
    · exact h'
    · simp [Array.getElem?_eq_none h'] at hbk
  have hb2 : w2.heap[b]? = some (.cells #[.pointer (some ⟨b, 0, none⟩), v] 93 (0, 0)) := by
    rw [hgrow.block b hlt (fun e => hne e.symm)]
    exact hbk
  have d0 : w2.cell? ⟨b, 0, none⟩ = some (.pointer (some ⟨b, 0, none⟩)) := by rw [Lib.cell_of_heap hb2]; rfl
  have d1 : w2.cell? ⟨b, 1, none⟩ = some v := by rw [Lib.cell_of_heap hb2]; rfl
  have f1 : w2.frozen? ⟨b, 1, none⟩ = false := Lib.frozen_of_heap hb2 1
  obtain ⟨ao, n', cap, rfl⟩ : ∃ ao n' cap, v' = .slice ao n' cap := by
    rcases hown'.2 with ⟨hv, _⟩ | ⟨g, cap, cur, hv, _⟩
    · exact ⟨_, _, _, hv⟩
    · exact ⟨_, _, _, hv⟩
  have HX := Lib.hid (show Bb (w2.setCell ⟨b, 1, none⟩ (.slice ao n' cap)) B b (l ++ s.data.toList) ∧ Below B w (w2.setCell ⟨b, 1, none⟩ (.slice ao n' cap)) from by
    refine ⟨.inr ?_, ((hb1.grown hgrow (by have := hb1.size; omega) (fun k hk => (hown.lt k hk).1)).setCell (p := ⟨b, 1, none⟩) hB _)⟩
    refine Lib.BuilderAt.put (T := 93) (e := 5) hB hb2 (bs' := bv (l ++ s.data.toList)) ?_ bb_ne
    rw [bv_append, List.length_append, hbl, ← strCells_eq]
    simpa [Lib.strCells_length] using hown')
  clear hown hown' hgrow hb1 hbk hb2 hne hlt
  go_wp2_with fail
  go_ret2
  exact ⟨rfl, HX.out⟩

theorem byteCells_eq (l : List UInt8) : Lib.byteCells l = bv l := rfl
theorem len_any (B b : Nat) (l : List UInt8) (w : World) (h : Bb w B b l) :
    Calls Tryz.prog 44 #[.pointer (some ⟨b, 0, none⟩)] w fun e w' => e = .returned (.int .i64 (l.length : Int)) ∧ w = w' := by
  refine (Tryz.Builder_Len B b (bv l) w h).mono ?_
  rintro e w' ⟨rfl, rfl⟩
  exact ⟨by rw [bv_length], rfl⟩
theorem string_any (B b : Nat) (l : List UInt8) (w : World) (h : Bb w B b l) (hB : B ≤ w.heap.size) :
    Calls Tryz.prog 46 #[.pointer (some ⟨b, 0, none⟩)] w fun e w' => e = .returned (.string ⟨l.toArray⟩) ∧ Below B w w' :=
  Tryz.Builder_String_any B b l w h hB
theorem bb_new (w : World) : Bb (w.alloc (.cells #[.pointer none, .slice none 0 0] 93)) w.heap.size w.heap.size [] := Lib.fresh_isBuilder _ _ w
theorem Bb.lt {w : World} {B b : Nat} {l : List UInt8} (h : Bb w B b l) : b < w.heap.size := by
  rcases h with h | h
  · exact h.lt
  · exact h.lt
/-- What lies elsewhere leaves a builder as it is. -/
theorem Bb.keep {w w' : World} {B b : Nat} {l : List UInt8} (h : Bb w B b l) (_hs : w.heap.size ≤ w'.heap.size) (hb : ∀ k, B ≤ k → k < w.heap.size → w'.heap[k]? = w.heap[k]?) : Bb w' B b l := by
  have key : ∀ p, Lib.BuilderAt 93 5 B b p (bv l) w → Lib.BuilderAt 93 5 B b p (bv l) w' := by
    intro p hp
    have hlt := hp.lt
    obtain ⟨hB, v, hbk, hown, hne⟩ := hp
    refine ⟨hB, v, (hb b hB hlt).trans hbk, ?_, hne⟩
    rcases hown with ⟨h1, h2⟩
    refine ⟨h1, ?_⟩
    rcases h2 with h2 | ⟨g, cap, cur, hv, hg, hc, hr⟩
    · exact .inl h2
    · exact .inr ⟨g, cap, cur, hv, hg, (hb g hg (Array.getElem?_eq_some_iff.1 hc).1).trans hc, hr⟩
  rcases h with h | h
  · exact .inl (key _ h)
  · exact .inr (key _ h)
end Bd
end Go.Proofs.YtpbphhpldlckbaaGreat
namespace Go.Proofs.YtpbphhpldlckbaaGreat
namespace Rd
open Vi Sq

/-- May a record be? -/
def ok1 (r : Int × Int × ByteArray) : Bool := decide (1 ≤ r.1 ∧ r.1 ≤ 1000000000 ∧ 0 ≤ r.2.1 ∧ r.2.1 ≤ 1000000000 ∧ r.2.2.size ≤ 2000)
theorem ok1_iff (r : Int × Int × ByteArray) : ok1 r = true ↔ 1 ≤ r.1 ∧ r.1 ≤ 1000000000 ∧ 0 ≤ r.2.1 ∧ r.2.1 ≤ 1000000000 ∧ r.2.2.size ≤ 2000 := by simp [ok1]
/-- Does a record not go on behind the one ahead of it? -/
def off : Option (Int × Int × ByteArray) → Int × Int × ByteArray → Bool
  | none, _ => false
  | some p, r => decide (r.1 ≠ p.1 + 1 ∨ r.2.1 < p.2.1)
/-- What record.Row tells, behind a record. -/
def rowE : Option (Int × Int × ByteArray) → List (Int × Int × ByteArray) → Int
  | _, [] => 0
  | p, r :: l => if ok1 r = false then 150 else if off p r = true then 151 else rowE (some r) l
/-- A record's bytes. -/
def recB (r : Int × Int × ByteArray) : List UInt8 := putV r.1.toNat ++ (putV r.2.1.toNat ++ (putV r.2.2.size ++ r.2.2.data.toList))
def joinB (l : List (Int × Int × ByteArray)) : List UInt8 := l.flatMap recB
/-- What record.Join tells. -/
def jE (l : List (Int × Int × ByteArray)) : Int := if rowE none l ≠ 0 then rowE none l else if 20000 < (joinB l).length then 3 else 0
/-- k numbers, one behind the other. -/
def fin : Nat → List Nat → List UInt8 → Int × List Nat × List UInt8
  | 0, acc, b => (0, acc, b)
  | k + 1, acc, b => if (gv 0 0 b).2.2 ≠ 0 then ((gv 0 0 b).2.2, acc, []) else fin k (acc ++ [(gv 0 0 b).1]) (b.drop (gv 0 0 b).2.1)
/-- The record at the beginning of bytes, and what stands behind it. -/
def rec1 (b : List UInt8) : Option ((Int × Int × ByteArray) × List UInt8) := match fin 3 [] b with
  | (0, [q, t, n], r) => if q < 1 ∨ 1000000000 < q ∨ 1000000000 < t ∨ 2000 < n then none else if r.length < n then none else some (((q : Int), (t : Int), ⟨(r.take n).toArray⟩), r.drop n)
  | _ => none
def spl : Nat → List UInt8 → Option (List (Int × Int × ByteArray))
  | 0, b => if b = [] then some [] else none
  | n + 1, b => if b = [] then some [] else match rec1 b with
    | none => none
    | some x => (spl n x.2).map (x.1 :: ·)
/-- What record.Split tells. -/
def split (b : List UInt8) : Option (List (Int × Int × ByteArray)) := if 20000 < b.length then none else match spl b.length b with
  | none => none
  | some l => if rowE none l ≠ 0 then none else some l

theorem fin_put (n : Nat) (hn : n < 9223372036854775808) (k : Nat) (acc : List Nat) (r : List UInt8) : fin (k + 1) acc (putV n ++ r) = fin k (acc ++ [n]) r := by
  rw [fin, gv_put n hn, if_neg (by simp)]
  simp
theorem recB_length (r : Int × Int × ByteArray) : 3 ≤ (recB r).length := by
  have := length_putV_pos r.1.toNat
  have := length_putV_pos r.2.1.toNat
  have := length_putV_pos r.2.2.size
  unfold recB; simp only [List.length_append]; omega
theorem rec1_put (r : Int × Int × ByteArray) (h : ok1 r = true) (b : List UInt8) : rec1 (recB r ++ b) = some (r, b) := by
  obtain ⟨q, t, d⟩ := r
  rw [ok1_iff] at h
  simp only at h
  obtain ⟨q, rfl⟩ := Int.eq_ofNat_of_zero_le (show 0 ≤ q by omega)
  obtain ⟨t, rfl⟩ := Int.eq_ofNat_of_zero_le (show 0 ≤ t by omega)
  have hd : d.data.toList.length = d.size := rfl
  unfold rec1 recB
  simp only [List.append_assoc, Int.toNat_natCast]
  rw [fin_put q (by omega), fin_put t (by omega), fin_put d.size (by omega)]
  simp only [fin, List.nil_append, List.cons_append]
  rw [if_neg (by omega), if_neg (by simp only [List.length_append]; omega)]
  rw [List.take_left' hd, List.drop_left' hd]
theorem fin_some : ∀ (k : Nat) (acc : List Nat) (b : List UInt8) (ns : List Nat) (r : List UInt8), fin k acc b = (0, ns, r) → ∃ l : List Nat, l.length = k ∧ ns = acc ++ l ∧ b = l.flatMap putV ++ r ∧ ∀ n ∈ l, n < 9223372036854775808
  | 0, acc, b, ns, r, h => by
    simp only [fin, Prod.mk.injEq, true_and] at h
    exact ⟨[], rfl, by simp [h.1], by simp [h.2], by simp⟩
  | k + 1, acc, b, ns, r, h => by
    rw [fin] at h
    split at h
    · rename_i hc
      simp only [Prod.mk.injEq] at h
      exact absurd h.1 hc
    rename_i hc
    obtain ⟨l, hl, hns, hb, hlt⟩ := fin_some k _ _ _ _ h
    obtain ⟨n, rest, hb1, hv, hu, hn, -⟩ := gv_some b 0 0 (gv 0 0 b).1 (gv 0 0 b).2.1 (by
      have : (gv 0 0 b).2.2 = 0 := by simpa using hc
      rw [← this])
    simp only [Nat.pow_zero, Nat.mul_one, Nat.zero_add] at hv hu
    have hdr : b.drop (gv 0 0 b).2.1 = rest := by
      rw [hu]
      conv => lhs; rw [hb1]
      simp
    rw [hdr] at hb
    rw [hv] at hns
    refine ⟨n :: l, by simp [hl], by simp [hns], ?_, ?_⟩
    · rw [List.flatMap_cons, List.append_assoc, ← hb]; exact hb1
    · intro x hx
      rcases List.mem_cons.1 hx with rfl | hx
      · simpa using hn
      · exact hlt x hx
theorem rec1_some (b : List UInt8) (r : Int × Int × ByteArray) (b' : List UInt8) (h : rec1 b = some (r, b')) : ok1 r = true ∧ b = recB r ++ b' := by
  unfold rec1 at h
  split at h
  · rename_i q t n rr he
    obtain ⟨l, hl, hns, hb, -⟩ := fin_some 3 [] b _ _ he
    simp only [List.nil_append] at hns
    subst hns
    split at h
    · simp at h
    split at h
    · simp at h
    rename_i h1 h2
    simp only [Option.some.injEq, Prod.mk.injEq] at h
    obtain ⟨rfl, rfl⟩ := h
    have e : (⟨(rr.take n).toArray⟩ : ByteArray).size = n := by
      have : (⟨(rr.take n).toArray⟩ : ByteArray).size = (rr.take n).length := by simp [ByteArray.size]
      rw [this, List.length_take]; omega
    refine ⟨?_, ?_⟩
    · rw [ok1_iff]
      simp only [e]
      omega
    · rw [hb]
      unfold recB
      simp only [Int.toNat_natCast, e]
      simp [List.append_assoc]
  · simp at h
theorem spl_join : ∀ (l : List (Int × Int × ByteArray)) (n : Nat), (∀ r ∈ l, ok1 r = true) → (joinB l).length ≤ n → spl n (joinB l) = some l
  | [], n, _, _ => by cases n <;> simp [spl, joinB]
  | r :: l, n, h, hn => by
    have e : joinB (r :: l) = recB r ++ joinB l := List.flatMap_cons ..
    have h3 := recB_length r
    rw [e, List.length_append] at hn
    obtain ⟨n, rfl⟩ : ∃ m, n = m + 1 := ⟨n - 1, by omega⟩
    rw [e, spl, if_neg (by intro e2; have := congrArg List.length e2; simp at this; rw [this.1] at h3; simp at h3), rec1_put r (h r (List.mem_cons_self ..))]
    simp only
    rw [spl_join l n (fun x hx => h x (List.mem_cons_of_mem _ hx)) (by omega)]
    rfl
theorem spl_some : ∀ (n : Nat) (b : List UInt8) (l : List (Int × Int × ByteArray)), spl n b = some l → b = joinB l ∧ ∀ r ∈ l, ok1 r = true
  | 0, b, l, h => by
    rw [spl] at h
    split at h
    · simp only [Option.some.injEq] at h; subst h; rename_i hb; simp [hb, joinB]
    · simp at h
  | n + 1, b, l, h => by
    rw [spl] at h
    split at h
    · simp only [Option.some.injEq] at h; subst h; rename_i hb; simp [hb, joinB]
    split at h
    · simp at h
    rename_i x hx
    obtain ⟨l', hl', rfl⟩ := Option.map_eq_some_iff.1 h
    obtain ⟨h1, h2⟩ := spl_some n x.2 l' hl'
    obtain ⟨h3, h4⟩ := rec1_some b x.1 x.2 hx
    refine ⟨?_, ?_⟩
    · rw [h4, h1]; exact (List.flatMap_cons ..).symm
    · intro r hr
      rcases List.mem_cons.1 hr with rfl | hr
      · exact h3
      · exact h2 r hr
theorem rowE_ok : ∀ (l : List (Int × Int × ByteArray)) (p : Option (Int × Int × ByteArray)), rowE p l = 0 → ∀ r ∈ l, ok1 r = true
  | [], _, _ => by simp
  | r :: l, p, h => by
    rw [rowE] at h
    split at h; · simp at h
    split at h; · simp at h
    rename_i h1 _
    intro x hx
    rcases List.mem_cons.1 hx with rfl | hx
    · simpa using h1
    · exact rowE_ok l _ h x hx
theorem split_join (l : List (Int × Int × ByteArray)) (h : jE l = 0) : split (joinB l) = some l := by
  unfold jE at h
  split at h
  · rename_i h1; exact absurd h h1
  split at h; · simp at h
  rename_i h1 h2
  have h1 : rowE none l = 0 := by simpa using h1
  unfold split
  rw [if_neg h2, spl_join l _ (rowE_ok l _ h1) (Nat.le_refl _)]
  simp [h1]
theorem split_some (b : List UInt8) (l : List (Int × Int × ByteArray)) (h : split b = some l) : b = joinB l ∧ jE l = 0 := by
  unfold split at h
  split at h; · simp at h
  split at h; · simp at h
  rename_i h2 _ l' hl'
  split at h; · simp at h
  rename_i h3
  simp only [Option.some.injEq] at h
  subst h
  obtain ⟨h4, -⟩ := spl_some _ _ _ hl'
  refine ⟨h4, ?_⟩
  unfold jE
  rw [if_neg h3, if_neg (by rw [← h4]; exact h2)]
end Rd
end Go.Proofs.YtpbphhpldlckbaaGreat
namespace Go.Proofs.YtpbphhpldlckbaaGreat
namespace Rd
open Go.RowKit Vi

/-- A record as a value. -/
def rv (r : Int × Int × ByteArray) : Value := .agg #[.int .i64 r.1, .int .i64 r.2.1, .string r.2.2]
def cE (r : Int × Int × ByteArray) : Int := if ok1 r = true then 0 else 150
theorem cE_ok {r : Int × Int × ByteArray} (h : ok1 r = true) : cE r = 0 := if_pos h
theorem cE_no {r : Int × Int × ByteArray} (h : ¬ ok1 r = true) : cE r = 150 := if_neg h
set_option maxHeartbeats 3200000 in
theorem check_any (q t : Int) (d : ByteArray) (w : World) :
    Calls Tryz.prog 23 #[.agg #[.int .i64 q, .int .i64 t, .string d]] w fun e w' => e = .returned (.int .i64 (cE (q, t, d))) ∧ Below w.heap.size w w' := by
  by_cases h : ok1 (q, t, d) = true
  · rw [cE_ok h]
    rw [ok1_iff] at h
    simp only at h
    have h1 : ¬ q < 1 := by omega
    have h2 : ¬ 1000000000 < q := by omega
    have h3 : ¬ t < 0 := by omega
    have h4 : ¬ 1000000000 < t := by omega
    have h5 : ¬ (2000 : Int) < (d.size : Int) := by omega
    clear h
    go_enter Tryz.func23, Tryz.ntmps23
    go_wp2_with fail
    go_ret
    exact ⟨rfl, ext_alloc w _⟩
  · rw [cE_no h]
    rw [ok1_iff] at h
    simp only at h
    by_cases h1 : q < 1
    · go_enter Tryz.func23, Tryz.ntmps23
      go_wp2_with fail
      go_ret
      exact ⟨rfl, ext_alloc w _⟩
    by_cases h2 : 1000000000 < q
    · go_enter Tryz.func23, Tryz.ntmps23
      go_wp2_with fail
      go_ret
      exact ⟨rfl, ext_alloc w _⟩
    by_cases h3 : t < 0
    · go_enter Tryz.func23, Tryz.ntmps23
      go_wp2_with fail
      go_ret
      exact ⟨rfl, ext_alloc w _⟩
    by_cases h4 : 1000000000 < t
    · go_enter Tryz.func23, Tryz.ntmps23
      go_wp2_with fail
      go_ret
      exact ⟨rfl, ext_alloc w _⟩
    have h5 : (2000 : Int) < (d.size : Int) := by omega
    go_enter Tryz.func23, Tryz.ntmps23
    go_wp2_with fail
    go_ret
    exact ⟨rfl, ext_alloc w _⟩
end Rd
end Go.Proofs.YtpbphhpldlckbaaGreat
namespace Go.Proofs.YtpbphhpldlckbaaGreat
namespace Rd
open Go.RowKit

/-- A record's cells. -/
def cl3 (r : Int × Int × ByteArray) : List Value := [.int .i64 r.1, .int .i64 r.2.1, .string r.2.2]
def fl3 (l : List (Int × Int × ByteArray)) : List Value := l.flatMap cl3
theorem fl3_cons (r : Int × Int × ByteArray) (l : List (Int × Int × ByteArray)) : fl3 (r :: l) = .int .i64 r.1 :: .int .i64 r.2.1 :: .string r.2.2 :: fl3 l := rfl
theorem length_fl3 (l : List (Int × Int × ByteArray)) : (fl3 l).length = l.length * 3 := by
  induction l with
  | nil => rfl
  | cons x l ih => rw [fl3_cons, List.length_cons, List.length_cons, List.length_cons, List.length_cons, ih]; omega
theorem fl3_append (a b : List (Int × Int × ByteArray)) : fl3 (a ++ b) = fl3 a ++ fl3 b := List.flatMap_append ..
theorem fl3_at (l : List (Int × Int × ByteArray)) (k : Nat) (x : Int × Int × ByteArray) (h : l[k]? = some x) :
    (fl3 l)[k * 3]? = some (.int .i64 x.1) ∧ (fl3 l)[k * 3 + 1]? = some (.int .i64 x.2.1) ∧ (fl3 l)[k * 3 + 2]? = some (.string x.2.2) := by
  induction l generalizing k with
  | nil => simp at h
  | cons y l ih =>
    rw [fl3_cons]
    rcases k with _ | k
    · simp at h; subst h; exact ⟨rfl, rfl, rfl⟩
    · have := ih k (by simpa using h)
      rw [show (k + 1) * 3 = k * 3 + 1 + 1 + 1 by omega]
      simpa using this
/-- A slice that reads as records, inside a round. -/
theorem rec3 {w : World} {B n k : Nat} {A : Option Addr} {l : List (Int × Int × ByteArray)} (h : Rd w B 3 A n (fl3 l)) (hk : k < n) :
    ∃ ad q t d, A = some ad ∧ ad.block < B ∧ l[k]? = some (q, t, d) ∧ w.cell? (ad.add (k * 3)) = some (.int .i64 q) ∧ w.cell? ⟨(ad.add (k * 3)).block, (ad.add (k * 3)).off + 1, none⟩ = some (.int .i64 t) ∧ w.cell? ⟨(ad.add (k * 3)).block, (ad.add (k * 3)).off + 2, none⟩ = some (.string d) := by
  obtain ⟨ad, e, hb, hc⟩ := h.cells (by omega)
  have hl : l.length = n := by have := h.len; rw [length_fl3] at this; omega
  obtain ⟨⟨q, t, d⟩, hx⟩ : ∃ x, l[k]? = some x := ⟨l[k]'(by omega), List.getElem?_eq_getElem (by omega)⟩
  obtain ⟨h1, h2, h3⟩ := fl3_at l k _ hx
  exact ⟨ad, q, t, d, e, hb, hx, hc _ _ h1, by have := hc _ _ h2; rw [← add_add] at this; exact this, by have := hc _ _ h3; rw [← add_add] at this; exact this⟩
theorem rd3_len {w : World} {B n : Nat} {A : Option Addr} {l : List (Int × Int × ByteArray)} (h : Rd w B 3 A n (fl3 l)) : l.length = n := by
  have := h.len; rw [length_fl3] at this; omega
/-- The record ahead. -/
def pv (l : List (Int × Int × ByteArray)) (k : Nat) : Option (Int × Int × ByteArray) := if k = 0 then none else l[k - 1]?
theorem row_no {l : List (Int × Int × ByteArray)} {k : Nat} {r : Int × Int × ByteArray} (h : l[k]? = some r) (ho : ¬ ok1 r = true) : rowE (pv l k) (l.drop k) = 150 := by
  rw [drop_at l k r h, rowE, if_pos (by simpa using ho)]
theorem row_off {l : List (Int × Int × ByteArray)} {k : Nat} {r p : Int × Int × ByteArray} (h : l[k + 1]? = some r) (hp : l[k]? = some p) (ho : ok1 r = true) (hf : r.1 ≠ p.1 + 1 ∨ r.2.1 < p.2.1) : rowE (pv l (k + 1)) (l.drop (k + 1)) = 151 := by
  have e : pv l (k + 1) = some p := by unfold pv; rw [if_neg (by omega), Nat.add_sub_cancel, hp]
  rw [drop_at l (k + 1) r h, rowE, if_neg (by simp [ho]), e, if_pos (by simp [off]; omega)]
theorem row_on {l : List (Int × Int × ByteArray)} {k : Nat} {r p : Int × Int × ByteArray} (h : l[k + 1]? = some r) (hp : l[k]? = some p) (ho : ok1 r = true) (hf : ¬ (r.1 ≠ p.1 + 1 ∨ r.2.1 < p.2.1)) :
    rowE (pv l (k + 1)) (l.drop (k + 1)) = rowE (pv l (k + 2)) (l.drop (k + 2)) := by
  have e : pv l (k + 1) = some p := by unfold pv; rw [if_neg (by omega), Nat.add_sub_cancel, hp]
  have e2 : pv l (k + 2) = some r := by unfold pv; rw [if_neg (by omega), show k + 2 - 1 = k + 1 by omega, h]
  rw [drop_at l (k + 1) r h, rowE, if_neg (by simp [ho]), e, if_neg (by simp [off]; omega), e2]
theorem row_on0 {l : List (Int × Int × ByteArray)} {r : Int × Int × ByteArray} (h : l[0]? = some r) (ho : ok1 r = true) : rowE (pv l 0) (l.drop 0) = rowE (pv l 1) (l.drop 1) := by
  have e2 : pv l 1 = some r := by unfold pv; rw [if_neg (by omega)]; exact h
  rw [drop_at l 0 r h, rowE, if_neg (by simp [ho]), e2]; rfl
theorem row_end {l : List (Int × Int × ByteArray)} {k : Nat} (h : l.length ≤ k) : rowE (pv l k) (l.drop k) = 0 := by rw [List.drop_eq_nil_of_le h]; rfl
end Rd
end Go.Proofs.YtpbphhpldlckbaaGreat
namespace Go.Proofs.YtpbphhpldlckbaaGreat
namespace Rd
open Go.RowKit

set_option maxHeartbeats 6400000 in
set_option maxRecDepth 100000 in
theorem row_any (A : Option Addr) (n c : Nat) (l : List (Int × Int × ByteArray)) (w : World) (hrd : Rd w w.heap.size 3 A n (fl3 l)) (hn : n ≤ 1099511627776) :
    Calls Tryz.prog 9 #[.slice A n c] w fun e w' => e = .returned (.int .i64 (rowE none l)) ∧ Below w.heap.size w w' := by
  have mixed : Tryz.prog.follows .mixedOrders = true := by kernel_rfl
  have hln := rd3_len hrd
  have HC := Lib.hid (fun q t d w => check_any q t d w)
  have HR := Lib.hid hrd
  clear hrd
  go_enter Tryz.func9, Tryz.ntmps9
  go_wp2_with fail
  go_loopw [8] (fun v wr => ∃ k : Nat, v = .int .i64 k ∧ k ≤ n ∧ Hid (rowE (pv l k) (l.drop k) = rowE none l ∧ (∀ j r, j < k → l[j]? = some r → ok1 r = true) ∧ Below w.heap.size w wr)) (fun v _ => n - (intOf v).toNat)
  case atStart => exact ⟨0, by go_num, by omega, rfl, fun j r h => absurd h (by omega), Below.refl _ _⟩
  case round =>
    obtain ⟨k, rfl, hk, HX⟩ := hrel
    by_cases hkn : k < n
    · obtain ⟨ad, q, t, d, rfl, hbk, hx, hc0, hc1, hc2⟩ := rec3 (HR.out.below HX.out.2.2) hkn
      by_cases ho : ok1 (q, t, d) = true
      · have hce := cE_ok ho
        have hok : ∀ j r, j < k + 1 → l[j]? = some r → ok1 r = true := by
          intro j r hj hr
          rcases Nat.lt_or_ge j k with h | h
          · exact HX.out.2.1 j r h hr
          · obtain rfl : j = k := by omega
            rw [hx] at hr; cases hr; exact ho
        have HOK := Lib.hid hok
        clear hok
        rcases k with _ | k
        · have HRE := Lib.hid ((row_on0 hx ho).symm.trans HX.out.1)
          have hz : ad.add (0 * 3) = ad := by rw [Nat.zero_mul]; rfl
          rw [hz] at hc0 hc1 hc2
          clear hz
          have HB := Lib.hid HX.out.2.2
          go_wp2_with fail
          refine (HC.out _ _ _ _).mono ?_
          rintro e1 w1 ⟨rfl, hb1⟩
          rw [hce]
          have HB1 := Lib.hid (ext_trans HB.out (ext_trans (ext_alloc wr _) hb1))
          clear hc0 hc1 hc2 hb1 hx HX HB HC
          go_wp2_with fail
          go_quiet (fail)
          go_wp2_with fail
          exact ⟨⟨1, by go_num, by omega, HRE.out, HOK.out, below_drewN HB1.out _⟩, by simp [intOf]; omega⟩
        · obtain ⟨ad', q', t', d', e', hbk', hx', hc0', hc1', -⟩ := rec3 (HR.out.below HX.out.2.2) (show k < n by omega)
          obtain rfl : ad = ad' := by simpa using e'
          have hp := HX.out.2.1 k _ (by omega) hx'
          rw [ok1_iff] at hp
          simp only at hp
          have hp1 := hp.1
          have hp2 := hp.2.1
          have i1 : (((k + 1 : Nat) : Int) - 1) = ((k : Nat) : Int) := by omega
          have i2 : (0 : Int) < ((k + 1 : Nat) : Int) := by omega
          have i3 : (k : Int) < (n : Int) := by omega
          have i4 : (0 : Int) ≤ (k : Int) := by omega
          have i5 : IntKind.i64.wrap (k : Int) = (k : Int) := by rw [IntKind.wrap_i64]; omega
          have i6 : IntKind.i64.wrap (q' + 1) = q' + 1 := by rw [IntKind.wrap_i64]; omega
          clear hp e'
          by_cases hf1 : q = q' + 1
          · subst hf1
            by_cases hf2 : t < t'
            · have HRE := Lib.hid ((row_off hx hx' ho (.inr hf2)).symm.trans HX.out.1)
              have HB := Lib.hid HX.out.2.2
              go_wp2_with fail
              refine (HC.out _ _ _ _).mono ?_
              rintro e1 w1 ⟨rfl, hb1⟩
              rw [hce]
              have hh : ∀ p : Addr, p.block < w.heap.size → w1.cell? p = wr.cell? p := fun p hp => (hb1.cell (by simp; have := HB.out.size; omega)).trans (World.cell?_alloc_lt wr _ p (by have := HB.out.size; omega))
              have c0 : w1.cell? ⟨wr.heap.size, 0, none⟩ = some (.int .i64 (q' + 1)) := by rw [hb1.cell (p := ⟨wr.heap.size, 0, none⟩) (by simp), World.cell?_alloc_new]; rfl
              have c1 : w1.cell? ⟨wr.heap.size, 1, none⟩ = some (.int .i64 t) := by rw [hb1.cell (p := ⟨wr.heap.size, 1, none⟩) (by simp), World.cell?_alloc_new]; rfl
              have d0 := (hh _ (by rw [add_block]; exact hbk')).trans hc0'
              have d1 := (hh ⟨(ad.add (k * 3)).block, (ad.add (k * 3)).off + 1, none⟩ (by rw [add_block]; exact hbk')).trans hc1'
              have HB1 := Lib.hid (ext_trans HB.out (ext_trans (ext_alloc wr _) hb1))
              clear hc0 hc1 hc2 hc0' hc1' hb1 hh hx hx' HX HB HC
              go_wp2_with fail
              go_quiet (fail)
              go_wp2_with fail
              go_ret
              exact ⟨ret_int HRE.out, below_drewN HB1.out _⟩
            · have HRE := Lib.hid ((row_on hx hx' ho (by simp only; omega)).symm.trans HX.out.1)
              have HB := Lib.hid HX.out.2.2
              go_wp2_with fail
              refine (HC.out _ _ _ _).mono ?_
              rintro e1 w1 ⟨rfl, hb1⟩
              rw [hce]
              have hh : ∀ p : Addr, p.block < w.heap.size → w1.cell? p = wr.cell? p := fun p hp => (hb1.cell (by simp; have := HB.out.size; omega)).trans (World.cell?_alloc_lt wr _ p (by have := HB.out.size; omega))
              have c0 : w1.cell? ⟨wr.heap.size, 0, none⟩ = some (.int .i64 (q' + 1)) := by rw [hb1.cell (p := ⟨wr.heap.size, 0, none⟩) (by simp), World.cell?_alloc_new]; rfl
              have c1 : w1.cell? ⟨wr.heap.size, 1, none⟩ = some (.int .i64 t) := by rw [hb1.cell (p := ⟨wr.heap.size, 1, none⟩) (by simp), World.cell?_alloc_new]; rfl
              have d0 := (hh _ (by rw [add_block]; exact hbk')).trans hc0'
              have d1 := (hh ⟨(ad.add (k * 3)).block, (ad.add (k * 3)).off + 1, none⟩ (by rw [add_block]; exact hbk')).trans hc1'
              have HB1 := Lib.hid (ext_trans HB.out (ext_trans (ext_alloc wr _) hb1))
              clear hc0 hc1 hc2 hc0' hc1' hb1 hh hx hx' HX HB HC
              go_wp2_with fail
              go_quiet (fail)
              go_wp2_with fail
              exact ⟨⟨k + 2, by go_num, by omega, HRE.out, HOK.out, below_drewN HB1.out _⟩, by simp [intOf]; omega⟩
          · have HRE := Lib.hid ((row_off hx hx' ho (.inl hf1)).symm.trans HX.out.1)
            have HB := Lib.hid HX.out.2.2
            go_wp2_with fail
            refine (HC.out _ _ _ _).mono ?_
            rintro e1 w1 ⟨rfl, hb1⟩
            rw [hce]
            have hh : ∀ p : Addr, p.block < w.heap.size → w1.cell? p = wr.cell? p := fun p hp => (hb1.cell (by simp; have := HB.out.size; omega)).trans (World.cell?_alloc_lt wr _ p (by have := HB.out.size; omega))
            have c0 : w1.cell? ⟨wr.heap.size, 0, none⟩ = some (.int .i64 q) := by rw [hb1.cell (p := ⟨wr.heap.size, 0, none⟩) (by simp), World.cell?_alloc_new]; rfl
            have c1 : w1.cell? ⟨wr.heap.size, 1, none⟩ = some (.int .i64 t) := by rw [hb1.cell (p := ⟨wr.heap.size, 1, none⟩) (by simp), World.cell?_alloc_new]; rfl
            have d0 := (hh _ (by rw [add_block]; exact hbk')).trans hc0'
            have d1 := (hh ⟨(ad.add (k * 3)).block, (ad.add (k * 3)).off + 1, none⟩ (by rw [add_block]; exact hbk')).trans hc1'
            have HB1 := Lib.hid (ext_trans HB.out (ext_trans (ext_alloc wr _) hb1))
            clear hc0 hc1 hc2 hc0' hc1' hb1 hh hx hx' HX HB HC
            go_wp2_with fail
            go_quiet (fail)
            go_wp2_with fail
            go_ret
            exact ⟨ret_int HRE.out, below_drewN HB1.out _⟩
      · have hce := cE_no ho
        have HRE := Lib.hid ((row_no hx ho).symm.trans HX.out.1)
        have HB := Lib.hid HX.out.2.2
        go_wp2_with fail
        refine (HC.out _ _ _ _).mono ?_
        rintro e1 w1 ⟨rfl, hb1⟩
        rw [hce]
        have HB1 := Lib.hid (ext_trans HB.out (ext_trans (ext_alloc wr _) hb1))
        clear hc0 hc1 hc2 hb1 hx HX HB HC
        go_wp2_with fail
        go_ret
        exact ⟨ret_int HRE.out, HB1.out⟩
    · obtain rfl : k = n := by omega
      have HRE := Lib.hid ((row_end (l := l) (k := k) (by omega)).symm.trans HX.out.1)
      have HB := Lib.hid HX.out.2.2
      clear HX HC
      go_wp2_with fail
      go_ret
      exact ⟨ret_int HRE.out, HB.out⟩
end Rd
end Go.Proofs.YtpbphhpldlckbaaGreat
namespace Go.Proofs.YtpbphhpldlckbaaGreat
namespace Rd
open Go.RowKit Vi Bd

theorem Bb_below {w w' : World} {B b : Nat} {l : List UInt8} (h : Bb w B b l) (hb : Below w.heap.size w w') : Bb w' B b l := h.keep hb.size fun k _ hk => hb.block k hk
theorem vtxt_list (n : Nat) : (vtxt n).data.toList = putV n := by simp [vtxt]
theorem vtxt_size (n : Nat) : (vtxt n).size = (putV n).length := by simp [vtxt, ByteArray.size]
/-- The bytes of the first k numbers. -/
def acc3 (q t d k : Nat) : List UInt8 := ([q, t, d].take k).flatMap putV

set_option maxHeartbeats 6400000 in
set_option maxRecDepth 100000 in
theorem rput_any (q t : Nat) (d : ByteArray) (w : World) (h : ok1 ((q : Int), (t : Int), d) = true) :
    Calls Tryz.prog 43 #[.agg #[.int .i64 (q : Int), .int .i64 (t : Int), .string d]] w fun e w' => e = .returned (.tuple #[.string ⟨(recB ((q : Int), (t : Int), d)).toArray⟩, .int .i64 0]) ∧ Below w.heap.size w w' := by
  have mixed : Tryz.prog.follows .mixedOrders = true := by kernel_rfl
  have hc := check_any q t d
  simp only [cE_ok h] at hc
  have HC := Lib.hid hc
  rw [ok1_iff] at h
  simp only at h
  have l1 : (putV q).length ≤ 9 := length_putV_le q 8 (by omega)
  have l2 : (putV t).length ≤ 9 := length_putV_le t 8 (by omega)
  have l3 : (putV d.size).length ≤ 9 := length_putV_le d.size 8 (by omega)
  have P1 := Lib.hid (fun w => put_any q w (by omega))
  have P2 := Lib.hid (fun w => put_any t w (by omega))
  have P3 := Lib.hid (fun w => put_any d.size w (by omega))
  have hsz : d.size ≤ 2000 := h.2.2.2.2
  have hac : acc3 q t d.size 3 ++ d.data.toList = recB ((q : Int), (t : Int), d) := by simp [acc3, recB]
  have HAC := Lib.hid hac
  clear hc h hac
  go_enter Tryz.func43, Tryz.ntmps43
  go_wp2_with fail
  refine (HC.out _).mono ?_
  rintro e1 w1 ⟨rfl, hb1⟩
  have cc : ∀ j, w1.cell? ⟨w.heap.size, j, none⟩ = (w.alloc (.cells #[.int .i64 (q : Int), .int .i64 (t : Int), .string d] 40)).cell? ⟨w.heap.size, j, none⟩ := fun j => hb1.cell (p := ⟨w.heap.size, j, none⟩) (by simp)
  have c0 : w1.cell? ⟨w.heap.size, 0, none⟩ = some (.int .i64 (q : Int)) := by rw [cc, World.cell?_alloc_new]; rfl
  have c1 : w1.cell? ⟨w.heap.size, 1, none⟩ = some (.int .i64 (t : Int)) := by rw [cc, World.cell?_alloc_new]; rfl
  have c2 : w1.cell? ⟨w.heap.size, 2, none⟩ = some (.string d) := by rw [cc, World.cell?_alloc_new]; rfl
  have hlt : w.heap.size < w1.heap.size := by have := hb1.size; simp at this; omega
  have hbb := bb_new w1
  have hd2 : ∀ o : Obj, (w1.alloc o).cell? ⟨w.heap.size, 2, none⟩ = some (.string d) := fun o => (World.cell?_alloc_lt w1 o ⟨w.heap.size, 2, none⟩ hlt).trans c2
  have hd1 : ∀ o : Obj, (w1.alloc o).cell? ⟨w.heap.size, 1, none⟩ = some (.int .i64 (t : Int)) := fun o => (World.cell?_alloc_lt w1 o ⟨w.heap.size, 1, none⟩ hlt).trans c1
  have hd0 : ∀ o : Obj, (w1.alloc o).cell? ⟨w.heap.size, 0, none⟩ = some (.int .i64 (q : Int)) := fun o => (World.cell?_alloc_lt w1 o ⟨w.heap.size, 0, none⟩ hlt).trans c0
  have HB := Lib.hid (show Below w.heap.size w (w1.alloc (.cells #[.pointer none, .slice none 0 0] 93)) from (ext_trans (ext_alloc w _) hb1).alloc (by omega) _)
  have HBB := Lib.hid hbb
  clear hb1 cc HC hbb
  generalize hB : w1.heap.size = B at *
  have hB2 : B ≤ (w1.alloc (.cells #[.pointer none, .slice none 0 0] 93)).heap.size := by simp; omega
  have e0 := hd0 (.cells #[.pointer none, .slice none 0 0] 93)
  have e1 := hd1 (.cells #[.pointer none, .slice none 0 0] 93)
  have e2 := hd2 (.cells #[.pointer none, .slice none 0 0] 93)
  go_wp2_with fail
  clear hB c0 c1 c2 hd0 hd1 hd2 e0 e1
  generalize w1.alloc (.cells #[.pointer none, .slice none 0 0] 93) = w4 at *
  have i0 : ∀ w : World, (Instr.index 123 (.agg #[.int .i64 (q : Int), .int .i64 (t : Int), .int .i64 (d.size : Int)]) (.int .i64 0)).run Tryz.prog w = .ok (.int .i64 (q : Int)) w := fun _ => by kernel_rfl
  have i1 : ∀ w : World, (Instr.index 123 (.agg #[.int .i64 (q : Int), .int .i64 (t : Int), .int .i64 (d.size : Int)]) (.int .i64 1)).run Tryz.prog w = .ok (.int .i64 (t : Int)) w := fun _ => by kernel_rfl
  have i2 : ∀ w : World, (Instr.index 123 (.agg #[.int .i64 (q : Int), .int .i64 (t : Int), .int .i64 (d.size : Int)]) (.int .i64 2)).run Tryz.prog w = .ok (.int .i64 (d.size : Int)) w := fun _ => by kernel_rfl
  go_loopw [23] (fun v wr => ∃ k : Nat, v = .int .i64 k ∧ k ≤ 3 ∧ Hid (Bb wr B B (acc3 q t d.size k) ∧ Below B w4 wr ∧ B ≤ wr.heap.size)) (fun v _ => 3 - (intOf v).toNat)
  case atStart => exact ⟨0, by go_num, by omega, HBB.out, Below.refl _ _, hB2⟩
  case round =>
    obtain ⟨k, rfl, hk, HX⟩ := hrel
    by_cases hk3 : k < 3
    · obtain rfl | rfl | rfl : k = 0 ∨ k = 1 ∨ k = 2 := by omega
      · skip
        go_wp2_with fail
        refine (P1.out _).mono ?_
        rintro e2 w2 ⟨rfl, hb2⟩
        have HB2 := Lib.hid hb2
        have hbb := Bb_below HX.out.1 hb2
        have hW := write_any B B (acc3 q t d.size 0) (vtxt q) w2 hbb (by rw [vtxt_size]; unfold acc3; simp; omega) (by have := HX.out.2.2; have := hb2.size; omega)
        rw [vtxt_list] at hW
        have HW := Lib.hid hW
        clear hW hbb hb2
        go_wp2_with fail
        refine HW.out.mono ?_
        rintro e3 w3 ⟨rfl, hbb3, hb3⟩
        have hacc : acc3 q t d.size 0 ++ putV q = acc3 q t d.size (0 + 1) := by simp [acc3]
        rw [hacc] at hbb3
        have HX3 := Lib.hid (show Bb w3 B B (acc3 q t d.size (0 + 1)) ∧ Below B w4 w3 ∧ B ≤ w3.heap.size from ⟨hbb3, (HX.out.2.1.trans (HB2.out.mono HX.out.2.2)).trans hb3, by have := hb3.size; have := HB2.out.size; have := HX.out.2.2; omega⟩)
        clear hbb3 hb3 hacc HW HB2 HX
        go_wp2_with fail
        exact ⟨⟨0 + 1, by go_num, by omega, HX3.out⟩, by simp [intOf]⟩
      · skip
        go_wp2_with fail
        refine (P2.out _).mono ?_
        rintro e2 w2 ⟨rfl, hb2⟩
        have HB2 := Lib.hid hb2
        have hbb := Bb_below HX.out.1 hb2
        have hW := write_any B B (acc3 q t d.size 1) (vtxt t) w2 hbb (by rw [vtxt_size]; unfold acc3; simp; omega) (by have := HX.out.2.2; have := hb2.size; omega)
        rw [vtxt_list] at hW
        have HW := Lib.hid hW
        clear hW hbb hb2
        go_wp2_with fail
        refine HW.out.mono ?_
        rintro e3 w3 ⟨rfl, hbb3, hb3⟩
        have hacc : acc3 q t d.size 1 ++ putV t = acc3 q t d.size (1 + 1) := by simp [acc3]
        rw [hacc] at hbb3
        have HX3 := Lib.hid (show Bb w3 B B (acc3 q t d.size (1 + 1)) ∧ Below B w4 w3 ∧ B ≤ w3.heap.size from ⟨hbb3, (HX.out.2.1.trans (HB2.out.mono HX.out.2.2)).trans hb3, by have := hb3.size; have := HB2.out.size; have := HX.out.2.2; omega⟩)
        clear hbb3 hb3 hacc HW HB2 HX
        go_wp2_with fail
        exact ⟨⟨1 + 1, by go_num, by omega, HX3.out⟩, by simp [intOf]⟩
      · skip
        go_wp2_with fail
        refine (P3.out _).mono ?_
        rintro e2 w2 ⟨rfl, hb2⟩
        have HB2 := Lib.hid hb2
        have hbb := Bb_below HX.out.1 hb2
        have hW := write_any B B (acc3 q t d.size 2) (vtxt d.size) w2 hbb (by rw [vtxt_size]; unfold acc3; simp; omega) (by have := HX.out.2.2; have := hb2.size; omega)
        rw [vtxt_list] at hW
        have HW := Lib.hid hW
        clear hW hbb hb2
        go_wp2_with fail
        refine HW.out.mono ?_
        rintro e3 w3 ⟨rfl, hbb3, hb3⟩
        have hacc : acc3 q t d.size 2 ++ putV d.size = acc3 q t d.size (2 + 1) := by simp [acc3]
        rw [hacc] at hbb3
        have HX3 := Lib.hid (show Bb w3 B B (acc3 q t d.size (2 + 1)) ∧ Below B w4 w3 ∧ B ≤ w3.heap.size from ⟨hbb3, (HX.out.2.1.trans (HB2.out.mono HX.out.2.2)).trans hb3, by have := hb3.size; have := HB2.out.size; have := HX.out.2.2; omega⟩)
        clear hbb3 hb3 hacc HW HB2 HX
        go_wp2_with fail
        exact ⟨⟨2 + 1, by go_num, by omega, HX3.out⟩, by simp [intOf]⟩
    · obtain rfl : k = 3 := by omega
      have hcd := (HX.out.2.1.cell (p := ⟨w.heap.size, 2, none⟩) hlt).trans e2
      have hW := write_any B B (acc3 q t d.size 3) d wr HX.out.1 (by unfold acc3; simp; omega) HX.out.2.2
      rw [HAC.out] at hW
      have HW := Lib.hid hW
      clear hW
      go_wp2_with fail
      refine HW.out.mono ?_
      rintro e3 w3 ⟨rfl, hbb3, hb3⟩
      have HS := Lib.hid (string_any B B _ w3 hbb3 (by have := hb3.size; have := HX.out.2.2; omega))
      have HB3 := Lib.hid ((HX.out.2.1).trans hb3)
      clear hbb3 hb3 HW
      go_wp2_with fail
      refine HS.out.mono ?_
      rintro e4 w5 ⟨rfl, hb4⟩
      have HB5 := Lib.hid (HB.out.trans ((HB3.out.trans hb4).mono (by omega)))
      clear hb4 HS HB3 hcd
      go_wp2_with fail
      go_ret2
      exact ⟨rfl, HB5.out⟩
end Rd
end Go.Proofs.YtpbphhpldlckbaaGreat
namespace Go.Proofs.YtpbphhpldlckbaaGreat
namespace Hd
open Go.RowKit Vi Bd Rd

/-- Numbers as values. -/
def nv (l : List Nat) : List Value := l.map fun (n : Nat) => Value.int .i64 (n : Int)
theorem flat_take (l : List Nat) (k x : Nat) (h : l[k]? = some x) : (l.take (k + 1)).flatMap putV = (l.take k).flatMap putV ++ putV x := by
  rw [List.take_add_one, h, List.flatMap_append]; simp
theorem flat_len : ∀ (l : List Nat), (∀ x ∈ l, x < 9223372036854775808) → (l.flatMap putV).length ≤ 9 * l.length
  | [], _ => by simp
  | x :: l, h => by
    have h1 := flat_len l (fun y hy => h y (List.mem_cons_of_mem _ hy))
    have h2 := length_putV_le x 8 (by have := h x (List.mem_cons_self ..); have : (128 : Nat) ^ (8 + 1) = 9223372036854775808 := by decide
                                      omega)
    rw [List.flatMap_cons, List.length_append, List.length_cons]; omega

set_option maxHeartbeats 3200000 in
set_option maxRecDepth 100000 in
theorem numbers_any (A : Option Addr) (n c : Nat) (l : List Nat) (w : World) (hrd : Rd w w.heap.size 1 A n (nv l)) (hn : n ≤ 100000) (hl : ∀ x ∈ l, x < 9223372036854775808) :
    Calls Tryz.prog 34 #[.slice A n c] w fun e w' => e = .returned (.tuple #[.string ⟨(l.flatMap putV).toArray⟩, .int .i64 0]) ∧ Below w.heap.size w w' := by
  have mixed : Tryz.prog.follows .mixedOrders = true := by kernel_rfl
  have hbb := bb_new w
  have HB := Lib.hid (ext_alloc w (.cells #[.pointer none, .slice none 0 0] 93))
  have HBB := Lib.hid hbb
  clear hbb
  go_enter Tryz.func34, Tryz.ntmps34
  go_wp2_with fail
  generalize w.alloc (.cells #[.pointer none, .slice none 0 0] 93) = w4 at *
  have hln : l.length = n := by have := hrd.len; simpa [nv] using this
  have HL := Lib.hid hl
  have HLN := Lib.hid hln
  have HR := Lib.hid hrd
  have HSZ := Lib.hid (flat_len l hl)
  clear hl hln hrd
  go_loopg [11] n (fun kx s11 wr => ∃ k : Nat, s11 = .int .i64 (k : Int) ∧ k ≤ n ∧ n - k ≤ kx ∧ Hid (Bb wr w.heap.size w.heap.size ((l.take k).flatMap putV) ∧ Below w.heap.size w wr))
  case atStart => exact ⟨0, rfl, by omega, by omega, Lib.hid ⟨HBB.out, HB.out⟩⟩
  case round =>
    clear HBB HB
    obtain ⟨k, rfl, hk, hkx, H⟩ := hrel
    by_cases hlt : k < n
    · have hlk : k < l.length := by rw [HLN.out]; exact hlt
      obtain ⟨ad, hA, hbk, hc⟩ := (HR.out.ext H.out.2).cells (by omega)
      have hx : l[k]? = some l[k] := List.getElem?_eq_getElem hlk
      have hcell := hc k (.int .i64 ((l[k] : Nat) : Int)) (by unfold nv; rw [List.getElem?_map, hx]; rfl)
      have hxl := HL.out l[k] (List.getElem_mem hlk)
      have HFT := Lib.hid (flat_take l k l[k] hx)
      have HTL := Lib.hid (show ((l.take k).flatMap putV).length ≤ 9 * n by
        have := flat_len (l.take k) (fun x hx => HL.out x (List.mem_of_mem_take hx)); rw [List.length_take] at this; omega)
      have HVL := Lib.hid (length_putV_le l[k] 8 (by have : (128 : Nat) ^ (8 + 1) = 9223372036854775808 := by decide
                                                     omega))
      subst hA
      have hki : (k : Int) < (n : Int) := by omega
      clear hc hbk hx
      generalize l[k] = x at *
      have HP := Lib.hid (put_any x wr hxl)
      clear hlk
      go_wp2_with fail
      refine HP.out.mono ?_
      rintro e2 w2 ⟨rfl, hb2⟩
      have hW := write_any w.heap.size w.heap.size _ (vtxt x) w2 (Bb_below H.out.1 hb2) (by rw [vtxt_size]; have := HTL.out; have := HVL.out; omega) (by have := H.out.2.size; have := hb2.size; omega)
      rw [vtxt_list, ← HFT.out] at hW
      have HW := Lib.hid hW
      have HB2 := Lib.hid (H.out.2.trans (hb2.mono H.out.2.size))
      clear hW hb2 H
      go_wp2_with fail
      refine HW.out.mono ?_
      rintro e3 w3 ⟨rfl, hbb3, hb3⟩
      have H3 := Lib.hid (And.intro hbb3 (HB2.out.trans hb3))
      clear hbb3 hb3 HW
      go_wp2_with fail
      go_roundg (n - (k + 1))
      case measure => omega
      case rel => exact ⟨k + 1, by go_num, by omega, by omega, H3⟩
    · obtain rfl : k = n := by omega
      have h9 := H.out
      rw [List.take_of_length_le (by rw [HLN.out]; omega)] at h9
      have HS := Lib.hid (Tryz.Builder_String_any w.heap.size w.heap.size _ wr h9.1 h9.2.size)
      have HB2 := Lib.hid h9.2
      clear h9 H
      go_wp2_with fail
      refine HS.out.mono ?_
      rintro e5 w5 ⟨rfl, hb5⟩
      have HB5 := Lib.hid (HB2.out.trans hb5)
      clear hb5
      go_wp2_with fail
      go_ret2
      exact ⟨rfl, HB5.out⟩
end Hd
end Go.Proofs.YtpbphhpldlckbaaGreat
