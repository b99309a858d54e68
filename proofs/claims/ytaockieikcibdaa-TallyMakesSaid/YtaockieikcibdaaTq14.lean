/- varvelaw45.TallyMakes: its calls, one behind the other. -/
import Derived.Test.YtaockieikcibdaaTq07
import Derived.Test.YtaockieikcibdaaTq08
import Derived.Test.YtaockieikcibdaaTq12
import Derived.Test.YtaockieikcibdaaTq13
namespace Go.Proofs.Ytaockieikcibdaa
namespace Tm
open Go.RowKit Go.Maps Ta Rd

/-- Two results that are the same buckets. -/
def Pr (w : World) (v1 v2 : Value) (L : List Bu) : Prop := ∃ A c A' c', v1 = .slice A L.length c ∧ v2 = .slice A' L.length c' ∧ Rd w w.heap.size 3 A L.length (flT L) ∧ Rd w w.heap.size 3 A' L.length (flT L)
theorem Pr.ext {w w' : World} {v1 v2 : Value} {L : List Bu} (h : Pr w v1 v2 L) (hb : RowKit.Below w.heap.size w w') : Pr w' v1 v2 L := by
  obtain ⟨A, c, A', c', e1, e2, h1, h2⟩ := h
  exact ⟨A, c, A', c', e1, e2, h1.ext hb, h2.ext hb⟩
theorem pr_of {w w' : World} {B : Nat} {v1 v2 : Value} {L : List Bu} (h1 : OwnT w B v1 L) (hb : RowKit.Below w.heap.size w w') (h2 : Res w' v2 L) : Pr w' v1 v2 L := by
  obtain ⟨A, c, e1, -, -, r1⟩ := h1.rd
  obtain ⟨A', c', e2, a2⟩ := h2
  exact ⟨A, c, A', c', e1, e2, r1.ext hb, a2.rd⟩
theorem same_pr {w : World} {v1 v2 : Value} {L : List Bu} (h : Pr w v1 v2 L) (hl : L.length ≤ 1000000) :
    Calls Try.prog 17 #[v1, v2] w fun e w' => e = .returned (.bool true) ∧ RowKit.Below w.heap.size w w' := by
  obtain ⟨A, c, A', c', rfl, rfl, h1, h2⟩ := h
  exact same_any A L.length c A' c' L w h1 h2 hl
theorem ofL_len (l : List (Int × Int × ByteArray)) (m : Int) : (ofL l m).length ≤ l.length := by
  unfold ofL
  split
  · have h := gat_len (items l m)
    have h2 : (items l m).length = l.length := List.length_map ..
    omega
  · simp
theorem mrgL_len (a b : List Bu) : (mrgL a b).length ≤ a.length + b.length := by
  unfold mrgL
  split
  · have h := gat_len (a ++ b)
    rw [List.length_append] at h; omega
  · simp
theorem crsL_len (S : List Bu) (m : Int) : (crsL S m).length ≤ S.length := by
  unfold crsL
  split
  · have h := gat_len (widL S m)
    rw [widL_len] at h; omega
  · simp

theorem row3_nxt {w w' : World} {g : Nat} {c0 c1 c2 : Value} (h : Row3 w g c0 c1 c2) (hb : RowKit.Below w.heap.size w w') : Row3 w' g c0 c1 c2 := h.below hb h.lt
theorem rowF_nxt {w w' : World} {g : Nat} {c0 c1 c2 : Value} (h : RowF w g c0 c1 c2) (hb : RowKit.Below w.heap.size w w') : RowF w' g c0 c1 c2 := h.below hb h.lt
/-- Two buckets that lie in blocks of their own. -/
def Six (w : World) (g g' : Nat) (S : Bu) : Prop := w.cell? ⟨g, 0, none⟩ = some (.int .i64 S.1) ∧ w.cell? ⟨g, 1, none⟩ = some (.int .i64 S.2.1) ∧ w.cell? ⟨g, 2, none⟩ = some (.int .i64 S.2.2) ∧ w.cell? ⟨g', 0, none⟩ = some (.int .i64 S.1) ∧ w.cell? ⟨g', 1, none⟩ = some (.int .i64 S.2.1) ∧ w.cell? ⟨g', 2, none⟩ = some (.int .i64 S.2.2)
theorem six_of {w : World} {g g' : Nat} {S : Bu} (h : Row3 w g (.int .i64 S.1) (.int .i64 S.2.1) (.int .i64 S.2.2)) (h' : RowF w g' (.int .i64 S.1) (.int .i64 S.2.1) (.int .i64 S.2.2)) : Six w g g' S := ⟨h.e0, h.e1, h.e2, h'.e0, h'.e1, h'.e2⟩
theorem row3_set0 {w : World} {b : Nat} {c0 c1 c2 : Value} (h : Row3 w b c0 c1 c2) (u : Value) : Row3 (w.setCell ⟨b, 0, none⟩ u) b u c1 c2 := by
  unfold Row3 at *
  simp [World.setCell, Array.getElem?_modify, h]
theorem row3_set3 {w : World} {g : Nat} {c0 c1 c2 : Value} (h : Row3 w g c0 c1 c2) (x y z : Value) : Row3 (((w.setCell ⟨g, 0, none⟩ x).setCell ⟨g, 1, none⟩ y).setCell ⟨g, 2, none⟩ z) g x y z := by
  have h0 := row3_set0 h x
  exact (h0.set1 y).set2 z
theorem rowF_set3 {w : World} {g : Nat} {c0 c1 c2 : Value} (h : RowF w g c0 c1 c2) (x y z : Value) : RowF (((w.setCell ⟨g, 0, none⟩ x).setCell ⟨g, 1, none⟩ y).setCell ⟨g, 2, none⟩ z) g x y z := ((h.set0 x).set1 y).set2 z
theorem row3_far3 {w : World} {g g' : Nat} {c0 c1 c2 : Value} (h : Row3 w g c0 c1 c2) (hn : g ≠ g') (x y z : Value) : Row3 (((w.setCell ⟨g', 0, none⟩ x).setCell ⟨g', 1, none⟩ y).setCell ⟨g', 2, none⟩ z) g c0 c1 c2 := ((h.far hn x).far hn y).far hn z
theorem rowF_far3 {w : World} {g g' : Nat} {c0 c1 c2 : Value} (h : RowF w g c0 c1 c2) (hn : g ≠ g') (x y z : Value) : RowF (((w.setCell ⟨g', 0, none⟩ x).setCell ⟨g', 1, none⟩ y).setCell ⟨g', 2, none⟩ z) g c0 c1 c2 := ((h.far hn x).far hn y).far hn z
theorem row3_new' {w : World} {g : Nat} (c0 c1 c2 : Value) (hg : w.heap.size = g) : Row3 (w.alloc (.cells #[c0, c1, c2] 40)) g c0 c1 c2 := hg ▸ Row3.new w c0 c1 c2
theorem rowF_new' {w : World} {g : Nat} (c0 c1 c2 : Value) (hg : w.heap.size = g) : RowF (w.alloc (.cells #[c0, c1, c2] 42)) g c0 c1 c2 := hg ▸ RowF.new w c0 c1 c2
theorem rd_new' {w : World} {g : Nat} (x : Bu) (t : TypeId) (hg : w.heap.size = g) : Rd (w.alloc (.cells #[.int .i64 x.1, .int .i64 x.2.1, .int .i64 x.2.2] t)) (w.alloc (.cells #[.int .i64 x.1, .int .i64 x.2.1, .int .i64 x.2.2] t)).heap.size 3 (some ⟨g, 0, none⟩) 1 (flT [x]) := hg ▸ rd_new w x t
theorem same_two (w : World) (x : Bu) (t t' : TypeId) :
    Calls Try.prog 17 #[.slice (some ⟨w.heap.size, 0, none⟩) 1 1, .slice (some ⟨w.heap.size + 1, 0, none⟩) 1 1] ((w.alloc (.cells #[.int .i64 x.1, .int .i64 x.2.1, .int .i64 x.2.2] t)).alloc (.cells #[.int .i64 x.1, .int .i64 x.2.1, .int .i64 x.2.2] t'))
      fun e w' => e = .returned (.bool true) ∧ RowKit.Below w.heap.size w w' :=
  (same_any _ 1 1 _ 1 [x] _ ((rd_new w x t).ext (ext_alloc _ _)) (rd_new' x t' (by simp)) (by omega)).mono fun _ _ h => ⟨h.1, ((ext_alloc w _).trans ((ext_alloc _ _).mono (by simp))).trans (h.2.mono (by simp; omega))⟩
theorem same_two' (w : World) (x : Bu) (t t' : TypeId) :
    Calls Try.prog 17 #[.slice (some ⟨w.heap.size + 1, 0, none⟩) 1 1, .slice (some ⟨w.heap.size, 0, none⟩) 1 1] ((w.alloc (.cells #[.int .i64 x.1, .int .i64 x.2.1, .int .i64 x.2.2] t)).alloc (.cells #[.int .i64 x.1, .int .i64 x.2.1, .int .i64 x.2.2] t'))
      fun e w' => e = .returned (.bool true) ∧ RowKit.Below w.heap.size w w' :=
  (same_any _ 1 1 _ 1 [x] _ (rd_new' x t' (by simp)) ((rd_new w x t).ext (ext_alloc _ _)) (by omega)).mono fun _ _ h => ⟨h.1, ((ext_alloc w _).trans ((ext_alloc _ _).mono (by simp))).trans (h.2.mono (by simp; omega))⟩
theorem topN_le (l : List Bu) (m : Int) : topN l m ≤ l.length := by unfold topN; omega
theorem bel_al {w w' : World} {B : Nat} (h : RowKit.Below B w w') (hB : B ≤ w.heap.size) (o : Obj) : RowKit.Below B w (w'.alloc o) := h.trans ((ext_alloc w' o).mono (Nat.le_trans hB h.size))
theorem bel_set {w w' : World} {B g j : Nat} (h : RowKit.Below B w w') (hB : B ≤ g) (u : Value) : RowKit.Below B w (w'.setCell ⟨g, j, none⟩ u) := h.setCell (p := ⟨g, j, none⟩) hB u
theorem bel_set3 {w w' : World} {B g : Nat} (h : RowKit.Below B w w') (hB : B ≤ g) (a b c : Value) : RowKit.Below B w (((w'.setCell ⟨g, 0, none⟩ a).setCell ⟨g, 1, none⟩ b).setCell ⟨g, 2, none⟩ c) := bel_set (bel_set (bel_set h hB a) hB b) hB c
/-- Two new blocks of noughts. -/
def Z19 (w0 w : World) (g : Nat) : Prop := Row3 w g (.int .i64 0) (.int .i64 0) (.int .i64 0) ∧ w0.heap.size ≤ g
def Z20 (w0 w : World) (g : Nat) : Prop := RowF w g (.int .i64 0) (.int .i64 0) (.int .i64 0) ∧ w0.heap.size ≤ g
theorem Z19.new {w0 w : World} (hb : RowKit.Below w0.heap.size w0 w) : Z19 w0 (w.alloc (.cells #[.int .i64 0, .int .i64 0, .int .i64 0] 40)) w.heap.size := ⟨Row3.new w _ _ _, hb.size⟩
theorem Z20.new {w0 w : World} (hb : RowKit.Below w0.heap.size w0 w) : Z20 w0 (w.alloc (.cells #[.int .i64 0, .int .i64 0, .int .i64 0] 42)) w.heap.size := ⟨RowF.new w _ _ _, hb.size⟩
theorem Z19.alloc {w0 w : World} {g : Nat} (h : Z19 w0 w g) (o : Obj) : Z19 w0 (w.alloc o) g := ⟨h.1.alloc o, h.2⟩
theorem Z20.alloc {w0 w : World} {g : Nat} (h : Z20 w0 w g) (o : Obj) : Z20 w0 (w.alloc o) g := ⟨h.1.alloc o, h.2⟩
theorem Z19.nxt {w0 w w' : World} {g : Nat} (h : Z19 w0 w g) (hb : RowKit.Below w.heap.size w w') : Z19 w0 w' g := ⟨row3_nxt h.1 hb, h.2⟩
theorem Z20.nxt {w0 w w' : World} {g : Nat} (h : Z20 w0 w g) (hb : RowKit.Below w.heap.size w w') : Z20 w0 w' g := ⟨rowF_nxt h.1 hb, h.2⟩
theorem Z19.row {w0 w : World} {g : Nat} (h : Z19 w0 w g) : Row3 w g (.int .i64 0) (.int .i64 0) (.int .i64 0) := h.1
theorem Z20.row {w0 w : World} {g : Nat} (h : Z20 w0 w g) : RowF w g (.int .i64 0) (.int .i64 0) (.int .i64 0) := h.1
theorem Z19.drew {w0 w : World} {g : Nat} (h : Z19 w0 w g) : Z19 w0 w.drew g := h
theorem Z20.drew {w0 w : World} {g : Nat} (h : Z20 w0 w g) : Z20 w0 w.drew g := h
theorem bel_dr {w w' : World} {B : Nat} (h : RowKit.Below B w w') : RowKit.Below B w w'.drew := below_drewN h 1
theorem row_ne {w : World} {g g' : Nat} {c0 c1 c2 d0 d1 d2 : Value} (h : Row3 w g c0 c1 c2) (h' : RowF w g' d0 d1 d2) : g ≠ g' := by
  rintro rfl
  have h2 := h.symm.trans h'
  simp at h2

set_option maxHeartbeats 6400000 in
set_option maxRecDepth 100000 in
theorem makes_any (A0 : Option Addr) (n0 c0 : Nat) (l : List (Int × Int × ByteArray)) (A1 : Option Addr) (n1 c1 : Nat) (a : List Bu) (A2 : Option Addr) (n2 c2 : Nat) (b : List Bu) (m : Int) (w : World)
    (hrd0 : Rd w w.heap.size 3 A0 n0 (fl3 l)) (hn0 : n0 ≤ c0) (hc0 : c0 ≤ maxLen) (ha : Arg w A1 n1 c1 a) (hb : Arg w A2 n2 c2 b) :
    Calls Try.prog 3 #[.slice A0 n0 c0, .agg #[.slice A1 n1 c1, .slice A2 n2 c2], .int .i64 m] w fun e w' => e = .returned (.bool true) ∧ RowKit.Below w.heap.size w w' := by
  have mixed : Try.prog.follows .mixedOrders = true := by kernel_rfl
  have hln0 := rd3_len hrd0
  have hb0 := ext_alloc w (.cells #[.slice A1 n1 c1, .slice A2 n2 c2] 25)
  have HF := Lib.hid (few_any A0 n0 c0 l _ (hrd0.ext hb0) hn0 hc0)
  have HR0 := Lib.hid (hrd0.ext hb0)
  have HA := Lib.hid (ha.ext hb0)
  have HB := Lib.hid (hb.ext hb0)
  have HL0 := Lib.hid hln0
  have hm1 : n1 ≤ 9223372036854775807 := by have := ha.nc; have := ha.cm; unfold maxLen at this; omega
  have hm2 : n2 ≤ 9223372036854775807 := by have := hb.nc; have := hb.cm; unfold maxLen at this; omega
  have hx0 : (w.alloc (.cells #[.slice A1 n1 c1, .slice A2 n2 c2] 25)).cell? ⟨w.heap.size, 0, none⟩ = some (.slice A1 n1 c1) := by rw [World.cell?_alloc_new]; rfl
  have hx1 : (w.alloc (.cells #[.slice A1 n1 c1, .slice A2 n2 c2] 25)).cell? ⟨w.heap.size, 1, none⟩ = some (.slice A2 n2 c2) := by rw [World.cell?_alloc_new]; rfl
  have HX := Lib.hid (And.intro hx0 hx1)
  have HB0 := Lib.hid hb0
  have HLT := Lib.hid (show w.heap.size < (w.alloc (.cells #[.slice A1 n1 c1, .slice A2 n2 c2] 25)).heap.size by simp)
  clear hrd0 hn0 hc0 ha hb hln0 hb0 hx0 hx1
  by_cases hf : few l = true
  · rw [hf] at HF
    have hn0 := few_len hf
    rw [HL0.out] at hn0
    clear hf
    by_cases hg : n1 ≤ 1100 ∧ n2 ≤ 1100 ∧ n1 + n2 ≤ 1300
    · obtain ⟨g1, g2, g3⟩ := hg
      have q1 : ¬ (1100 : Int) < (n1 : Int) := by omega
      have q2 : ¬ (1100 : Int) < (n2 : Int) := by omega
      have q3 : ¬ (1300 : Int) < (n1 : Int) + (n2 : Int) := by omega
      have q4 : IntKind.i64.wrap ((n1 : Int) + (n2 : Int)) = (n1 : Int) + (n2 : Int) := by rw [IntKind.wrap_i64]; omega
      go_enter Try.func3, Try.ntmps3
      go_wp2_with fail
      generalize w.alloc (.cells #[.slice A1 n1 c1, .slice A2 n2 c2] 25) = w0 at *
      refine HF.out.mono ?_
      rintro e1 w1 ⟨rfl, rfl⟩
      have d0 := HX.out.1
      have d1 := HX.out.2
      have HO1 := Lib.hid (of_any A0 n0 c0 l m w0 HR0.out (by omega))
      clear HF q1 q2 q3 q4
      generalize hE : ofE l m = E1 at *
      generalize hL : ofL l m = L1 at *
      have HE1 := Lib.hid hE
      have HL1 := Lib.hid hL
      clear hE hL
      go_wp2_with fail
      refine HO1.out.mono ?_
      rintro e1 w1 ⟨⟨v1, rfl, o1⟩, hb1⟩
      have HOW := Lib.hid o1
      have HW1 := Lib.hid hb1
      have HO2 := Lib.hid (rof_any A0 n0 c0 l m w1 (HR0.out.ext hb1) (by omega))
      rw [HE1.out, HL1.out] at HO2
      replace d0 := (HW1.out.cell (p := ⟨w.heap.size, 0, none⟩) HLT.out).trans HX.out.1
      replace d1 := (HW1.out.cell (p := ⟨w.heap.size, 1, none⟩) HLT.out).trans HX.out.2
      clear o1 hb1 HO1
      go_wp2_with fail
      refine HO2.out.mono ?_
      rintro e2 w2 ⟨⟨v2, rfl, r2⟩, hb2⟩
      have HP1 := Lib.hid (pr_of HOW.out hb2 r2)
      have HW2 := Lib.hid (HW1.out.trans (hb2.mono HW1.out.size))
      replace d0 := (HW2.out.cell (p := ⟨w.heap.size, 0, none⟩) HLT.out).trans HX.out.1
      replace d1 := (HW2.out.cell (p := ⟨w.heap.size, 1, none⟩) HLT.out).trans HX.out.2
      have hlt2 : w.heap.size < w2.heap.size := Nat.lt_of_lt_of_le HLT.out HW2.out.size
      have hC : ∀ wx, RowKit.Below w2.heap.size w2 wx → (wx.cell? ⟨w.heap.size, 0, none⟩ = some (.slice A1 n1 c1) ∧ wx.cell? ⟨w.heap.size, 1, none⟩ = some (.slice A2 n2 c2)) ∧ RowKit.Below w2.heap.size w2 wx := fun wx hb =>
        ⟨⟨(hb.cell (p := ⟨w.heap.size, 0, none⟩) hlt2).trans d0, (hb.cell (p := ⟨w.heap.size, 1, none⟩) hlt2).trans d1⟩, hb⟩
      have HC := Lib.hid hC
      have HSd := Lib.hid (HC.out w2.drew ⟨rfl, rfl, rfl, Nat.le_refl _, fun _ _ => rfl⟩)
      have HQA := Lib.hid (fun (wx : World) (hS : RowKit.Below w2.heap.size w2 wx) => own_any A1 n1 c1 a wx (HA.out.ext (HW2.out.trans (hS.mono HW2.out.size))) (by omega))
      have HQB := Lib.hid (fun (wx : World) (hS : RowKit.Below w2.heap.size w2 wx) => own_any A2 n2 c2 b wx (HB.out.ext (HW2.out.trans (hS.mono HW2.out.size))) (by omega))
      have HLA := Lib.hid HA.out.len
      have HLB := Lib.hid HB.out.len
      clear r2 hb2 HO2 HOW hC hlt2
      go_wp2_with fail
      clear d0 d1
      have tok1 : True := trivial
      go_region_held3 (fun wx => (wx.cell? ⟨w.heap.size, 0, none⟩ = some (.slice A1 n1 c1) ∧ wx.cell? ⟨w.heap.size, 1, none⟩ = some (.slice A2 n2 c2)) ∧ RowKit.Below w2.heap.size w2 wx) (first | exact HSd.out | assumption) (first
        | (have _t := tok1; clear _t tok1; go_at_call 11; refine (HQA.out _ HSd.out.2).mono ?_; rintro e3 w3 ⟨⟨v3, rfl, o3⟩, hb3⟩; have hS3 := HC.out w3 (HSd.out.2.trans (hb3.mono HSd.out.2.size)))
        | (go_at_call 11; refine (HQB.out w3 hS3.2).mono ?_; rintro e4 w4 ⟨⟨v4, rfl, o4⟩, hb4⟩; have hS4 := HC.out w4 (hS3.2.trans (hb4.mono hS3.2.size)); obtain ⟨A3, c3, rfl, -, -, r3⟩ := OwnT.rd (OwnT.below o3 hb4 (Nat.le_refl _)); obtain ⟨A4, c4, rfl, -, -, r4⟩ := OwnT.rd o4)
        | (go_at_call 10; refine (merge_any A3 _ c3 a A4 _ c4 b w4 r3 (by have := HLA.out; omega) r4 (by have := HLB.out; omega)).mono ?_; rintro e5 w5 ⟨⟨v5, rfl, o5⟩, hb5⟩; have hS5 := HC.out w5 (hS4.2.trans (hb5.mono hS4.2.size))))
      have HP2 := Lib.hid (And.intro o5 hS5.2)
      have hRM := rmerge_any A1 n1 c1 a A2 n2 c2 b w5 (HA.out.ext (HW2.out.trans (hS5.2.mono HW2.out.size))) (HB.out.ext (HW2.out.trans (hS5.2.mono HW2.out.size))) (by omega) (by omega)
      have HRM := Lib.hid hRM
      replace d0 := hS5.1.1
      replace d1 := hS5.1.2
      clear o5 o3 o4 hb3 hb4 hb5 hS3 hS4 hS5 r3 r4 HSd HQA HQB hRM
      go_wp2_with fail
      refine HRM.out.mono ?_
      rintro e6 w6 ⟨⟨v6, rfl, r6⟩, hb6⟩
      have HW6 := Lib.hid (HP2.out.2.trans (hb6.mono HP2.out.2.size))
      have HP3 := Lib.hid (pr_of HP2.out.1 hb6 r6)
      have HO7 := Lib.hid (own_any A1 n1 c1 a w6 (HA.out.ext (HW2.out.trans (HW6.out.mono HW2.out.size))) (by omega))
      replace d0 := (HC.out w6 HW6.out).1.1
      clear r6 hb6 HRM d1
      go_wp2_with fail
      refine HO7.out.mono ?_
      rintro e7 w7 ⟨⟨v7, rfl, o7⟩, hb7⟩
      obtain ⟨A7, c7, rfl, -, -, r7⟩ := OwnT.rd o7
      have HW7 := Lib.hid (HW6.out.trans (hb7.mono HW6.out.size))
      have HO8 := Lib.hid (coarse_any A7 _ c7 a m w7 r7 (by have := HLA.out; omega))
      have HP4 := Lib.hid (HP3.out.ext hb7)
      replace d0 := (HC.out w7 HW7.out).1.1
      clear o7 hb7 r7 HO7
      go_wp2_with fail
      refine HO8.out.mono ?_
      rintro e8 w8 ⟨⟨v8, rfl, o8⟩, hb8⟩
      have HP5 := Lib.hid (HP4.out.ext hb8)
      have HW8 := Lib.hid (HW7.out.trans (hb8.mono HW7.out.size))
      have HP8 := Lib.hid o8
      have HO9 := Lib.hid (rcoarse_any A1 n1 c1 a m w8 (HA.out.ext (HW2.out.trans (HW8.out.mono HW2.out.size))) (by omega))
      replace d0 := (HC.out w8 HW8.out).1.1
      clear o8 hb8 HO8
      go_wp2_with fail
      refine HO9.out.mono ?_
      rintro e9 w9 ⟨⟨v9, rfl, r9⟩, hb9⟩
      have HW9 := Lib.hid (HW8.out.trans (hb9.mono HW8.out.size))
      have HP6 := Lib.hid (And.intro (HP1.out.ext HW9.out) (And.intro (HP5.out.ext hb9) (pr_of HP8.out hb9 r9)))
      have HN9 := Lib.hid (fun (wx : World) (hb : RowKit.Below w9.heap.size w9 wx) => And.intro (HC.out wx (HW9.out.trans (hb.mono HW9.out.size))).1.1 hb)
      have HM9 := Lib.hid (fun (wx w' : World) (hS : wx.cell? ⟨w.heap.size, 0, none⟩ = some (.slice A1 n1 c1) ∧ RowKit.Below w9.heap.size w9 wx) (hb : RowKit.Below wx.heap.size wx w') => HN9.out w' (hS.2.trans (hb.mono hS.2.size)))
      have HS9 := Lib.hid (HN9.out w9.drew ⟨rfl, rfl, rfl, Nat.le_refl _, fun _ _ => rfl⟩)
      have HA9 := Lib.hid (HA.out.ext (HW2.out.trans (HW9.out.mono HW2.out.size)))
      have HQ9 := Lib.hid (fun (wx : World) (hS : wx.cell? ⟨w.heap.size, 0, none⟩ = some (.slice A1 n1 c1) ∧ RowKit.Below w9.heap.size w9 wx) => own_any A1 n1 c1 a wx (HA9.out.ext hS.2) (by omega))
      have HQS := Lib.hid (fun (wx : World) (hS : wx.cell? ⟨w.heap.size, 0, none⟩ = some (.slice A1 n1 c1) ∧ RowKit.Below w9.heap.size w9 wx) => rsum_any A1 n1 c1 a wx (HA9.out.ext hS.2) (by omega))
      have HLN : a.length ≤ 1000000 := by have := HLA.out; omega
      clear r9 hb9 HO9 HP1 HP2 HP3 HP4 HP5 HP8 HW6 HW7 HW8 d0
      have tok1 : True := trivial

      go_upto_region 9 with (fail)
      go_cut [19, 20] from 92 (fun s19 s20 wx => ∃ g19 g20 : Nat, s19 = .pointer (some ⟨g19, 0, none⟩) ∧ s20 = .pointer (some ⟨g20, 0, none⟩) ∧ RowKit.Below w9.heap.size w9 wx ∧ Six wx g19 g20 (sumB a))
      case first =>
        go_region_held3 (fun wx => wx.cell? ⟨w.heap.size, 0, none⟩ = some (.slice A1 n1 c1) ∧ RowKit.Below w9.heap.size w9 wx) (with_reducible first | exact HS9.out | assumption | (have _t := tok1; exact HN9.out _ (bel_dr (bel_al (RowKit.Below.refl _ _) (Nat.le_refl _) _))) | (have _t := tok1; exact HN9.out _ (bel_dr (bel_al (bel_al (RowKit.Below.refl _ _) (Nat.le_refl _) _) (Nat.le_refl _) _))) | exact HN9.out _ (bel_al hS10.2 (Nat.le_refl _) _) | exact HN9.out _ (bel_al (bel_al hS10.2 (Nat.le_refl _) _) (Nat.le_refl _) _) | exact HN9.out _ (bel_al hS11.2 (Nat.le_refl _) _) | exact HN9.out _ (bel_al (bel_al hS11.2 (Nat.le_refl _) _) (Nat.le_refl _) _) | exact HN9.out _ (bel_set3 hS12.2 h19g _ _ _) | exact HN9.out _ (bel_set3 hS12.2 h20g _ _ _) | exact HN9.out _ (bel_set3 (bel_set3 hS12.2 h19g _ _ _) h20g _ _ _) | exact HN9.out _ (bel_al hS12.2 (Nat.le_refl _) _) | exact HN9.out _ (bel_al (bel_al hS12.2 (Nat.le_refl _) _) (Nat.le_refl _) _) | exact HN9.out _ (bel_set3 (bel_al hS12.2 (Nat.le_refl _) _) h19g _ _ _) | exact HN9.out _ (bel_set3 (bel_al hS12.2 (Nat.le_refl _) _) h20g _ _ _) | exact HN9.out _ (bel_al (bel_set3 hS12.2 h19g _ _ _) (Nat.le_refl _) _) | exact HN9.out _ (bel_al (bel_set3 hS12.2 h20g _ _ _) (Nat.le_refl _) _)) (first
          | (have _t := tok1; clear _t tok1; go_at_call 11; refine (HQ9.out _ (by assumption)).mono ?_; rintro e10 w10 ⟨⟨v10, rfl, o10⟩, hb10⟩; have hS10 := HM9.out _ _ (by assumption) hb10; obtain ⟨A10, c10, rfl, -, -, r10⟩ := OwnT.rd o10; (try (have hq := Z19.nxt (w0 := w9) (by with_reducible first | exact (Z19.new (RowKit.Below.refl _ _)).drew | exact ((Z19.new (RowKit.Below.refl _ _)).alloc _).drew | exact (Z19.new (bel_al (RowKit.Below.refl _ _) (Nat.le_refl _) _)).drew | exact Z19.new (And.right (by assumption)) | exact Z19.new (bel_al (And.right (by assumption)) (Nat.le_refl _) _) | exact (Z19.new (And.right (by assumption))).alloc _ | exact hr19.out | exact hr19.out.alloc _ | exact (hr19.out.alloc _).alloc _) hb10; (try simp only [World.size_alloc] at hq); have hr19 := Lib.hid hq; have h19a := hq.1.e0; have h19b := hq.1.e1; have h19c := hq.1.e2; have h19x := hq.1.fz 0; have h19y := hq.1.fz 1; have h19z := hq.1.fz 2; have h19l := hq.1.lt; have h19g := hq.2; clear hq)); (try (have hq := Z20.nxt (w0 := w9) (by with_reducible first | exact (Z20.new (RowKit.Below.refl _ _)).drew | exact ((Z20.new (RowKit.Below.refl _ _)).alloc _).drew | exact (Z20.new (bel_al (RowKit.Below.refl _ _) (Nat.le_refl _) _)).drew | exact Z20.new (And.right (by assumption)) | exact Z20.new (bel_al (And.right (by assumption)) (Nat.le_refl _) _) | exact (Z20.new (And.right (by assumption))).alloc _ | exact hr20.out | exact hr20.out.alloc _ | exact (hr20.out.alloc _).alloc _) hb10; (try simp only [World.size_alloc] at hq); have hr20 := Lib.hid hq; have h20a := hq.1.e0; have h20b := hq.1.e1; have h20c := hq.1.e2; have h20x := hq.1.fz 0; have h20y := hq.1.fz 1; have h20z := hq.1.fz 2; have h20l := hq.1.lt; have h20g := hq.2; clear hq)); (try (with_reducible have hne := row_ne hr19.out.row hr20.out.row; have hne2 := hne.symm)))
          | (go_at_call 15; refine (sum_any A10 _ c10 a _ (by with_reducible first | exact r10 | exact r10.ext (ext_alloc _ _) | exact (r10.ext (ext_alloc _ _)).ext (ext_alloc _ _)) HLN).mono ?_; rintro e11 w11 ⟨rfl, hb11⟩; have hS11 := HM9.out _ _ (by assumption) hb11; (try (have hq := Z19.nxt (w0 := w9) (by with_reducible first | exact (Z19.new (RowKit.Below.refl _ _)).drew | exact ((Z19.new (RowKit.Below.refl _ _)).alloc _).drew | exact (Z19.new (bel_al (RowKit.Below.refl _ _) (Nat.le_refl _) _)).drew | exact Z19.new (And.right (by assumption)) | exact Z19.new (bel_al (And.right (by assumption)) (Nat.le_refl _) _) | exact (Z19.new (And.right (by assumption))).alloc _ | exact hr19.out | exact hr19.out.alloc _ | exact (hr19.out.alloc _).alloc _) hb11; (try simp only [World.size_alloc] at hq); have hr19 := Lib.hid hq; have h19a := hq.1.e0; have h19b := hq.1.e1; have h19c := hq.1.e2; have h19x := hq.1.fz 0; have h19y := hq.1.fz 1; have h19z := hq.1.fz 2; have h19l := hq.1.lt; have h19g := hq.2; clear hq)); (try (have hq := Z20.nxt (w0 := w9) (by with_reducible first | exact (Z20.new (RowKit.Below.refl _ _)).drew | exact ((Z20.new (RowKit.Below.refl _ _)).alloc _).drew | exact (Z20.new (bel_al (RowKit.Below.refl _ _) (Nat.le_refl _) _)).drew | exact Z20.new (And.right (by assumption)) | exact Z20.new (bel_al (And.right (by assumption)) (Nat.le_refl _) _) | exact (Z20.new (And.right (by assumption))).alloc _ | exact hr20.out | exact hr20.out.alloc _ | exact (hr20.out.alloc _).alloc _) hb11; (try simp only [World.size_alloc] at hq); have hr20 := Lib.hid hq; have h20a := hq.1.e0; have h20b := hq.1.e1; have h20c := hq.1.e2; have h20x := hq.1.fz 0; have h20y := hq.1.fz 1; have h20z := hq.1.fz 2; have h20l := hq.1.lt; have h20g := hq.2; clear hq)); (try (with_reducible have hne := row_ne hr19.out.row hr20.out.row; have hne2 := hne.symm)))
          | (go_at_call 16; refine (HQS.out _ (by assumption)).mono ?_; rintro e12 w12 ⟨rfl, hb12⟩; have hS12 := HM9.out _ _ (by assumption) hb12; (try (have hq := Z19.nxt (w0 := w9) (by with_reducible first | exact (Z19.new (RowKit.Below.refl _ _)).drew | exact ((Z19.new (RowKit.Below.refl _ _)).alloc _).drew | exact (Z19.new (bel_al (RowKit.Below.refl _ _) (Nat.le_refl _) _)).drew | exact Z19.new (And.right (by assumption)) | exact Z19.new (bel_al (And.right (by assumption)) (Nat.le_refl _) _) | exact (Z19.new (And.right (by assumption))).alloc _ | exact hr19.out | exact hr19.out.alloc _ | exact (hr19.out.alloc _).alloc _) hb12; (try simp only [World.size_alloc] at hq); have hr19 := Lib.hid hq; have h19a := hq.1.e0; have h19b := hq.1.e1; have h19c := hq.1.e2; have h19x := hq.1.fz 0; have h19y := hq.1.fz 1; have h19z := hq.1.fz 2; have h19l := hq.1.lt; have h19g := hq.2; clear hq)); (try (have hq := Z20.nxt (w0 := w9) (by with_reducible first | exact (Z20.new (RowKit.Below.refl _ _)).drew | exact ((Z20.new (RowKit.Below.refl _ _)).alloc _).drew | exact (Z20.new (bel_al (RowKit.Below.refl _ _) (Nat.le_refl _) _)).drew | exact Z20.new (And.right (by assumption)) | exact Z20.new (bel_al (And.right (by assumption)) (Nat.le_refl _) _) | exact (Z20.new (And.right (by assumption))).alloc _ | exact hr20.out | exact hr20.out.alloc _ | exact (hr20.out.alloc _).alloc _) hb12; (try simp only [World.size_alloc] at hq); have hr20 := Lib.hid hq; have h20a := hq.1.e0; have h20b := hq.1.e1; have h20c := hq.1.e2; have h20x := hq.1.fz 0; have h20y := hq.1.fz 1; have h20z := hq.1.fz 2; have h20l := hq.1.lt; have h20g := hq.2; clear hq)); (try (with_reducible have hne := row_ne hr19.out.row hr20.out.row; have hne2 := hne.symm))))
        all_goals (go_wp2_with fail; go_meet; refine ⟨_, _, rfl, rfl, And.right (by with_reducible assumption), ?_⟩)
        all_goals with_reducible first
          | exact six_of (row3_far3 (row3_set3 hr19.out.row _ _ _) hne _ _ _) (rowF_set3 (rowF_far3 hr20.out.row hne2 _ _ _) _ _ _)
          | exact six_of (Row3.alloc (row3_set3 hr19.out.row _ _ _) _) (rowF_new' _ _ _ (by simp))
          | exact six_of (row3_new' _ _ _ (by simp)) (RowF.alloc (rowF_set3 hr20.out.row _ _ _) _)
          | exact six_of (Row3.alloc (row3_new' _ _ _ (by simp)) _) (rowF_new' _ _ _ (by simp))
          | exact six_of (row3_new' _ _ _ (by simp)) (RowF.alloc (rowF_new' _ _ _ (by simp)) _)
          | skip
        all_goals trace_state
      case rest =>
        obtain ⟨g19, g20, rfl, rfl, hbc, h6⟩ := hcut
        have HBC := Lib.hid (HW9.out.trans (hbc.mono HW9.out.size))
        have HLA1 : L1.length ≤ 1000000 := by have := ofL_len l m; rw [HL1.out, HL0.out] at this; omega
        have HLM : (mrgL a b).length ≤ 1000000 := by have := mrgL_len a b; have := HLA.out; have := HLB.out; omega
        have HLC : (crsL a m).length ≤ 1000000 := by have := crsL_len a m; omega
        have HLT' : topN a m ≤ 1000000 := Nat.le_trans (topN_le a m) HLN
        have l19 : g19 < wc.heap.size := World.block_lt_of_cell? wc _ h6.1
        have l20 : g20 < wc.heap.size := World.block_lt_of_cell? wc _ h6.2.2.2.1
        have HN := Lib.hid (fun (wx : World) (hb : RowKit.Below wc.heap.size wc wx) => (show (wx.cell? ⟨w.heap.size, 0, none⟩ = some (.slice A1 n1 c1) ∧ wx.cell? ⟨g19, 0, none⟩ = some (.int .i64 (sumB a).1) ∧ wx.cell? ⟨g19, 1, none⟩ = some (.int .i64 (sumB a).2.1) ∧ wx.cell? ⟨g19, 2, none⟩ = some (.int .i64 (sumB a).2.2) ∧ wx.cell? ⟨g20, 0, none⟩ = some (.int .i64 (sumB a).1) ∧ wx.cell? ⟨g20, 1, none⟩ = some (.int .i64 (sumB a).2.1) ∧ wx.cell? ⟨g20, 2, none⟩ = some (.int .i64 (sumB a).2.2)) ∧ RowKit.Below wc.heap.size wc wx from ⟨⟨(HC.out wx (HBC.out.trans (hb.mono HBC.out.size))).1.1, (hb.cell (p := ⟨g19, 0, none⟩) l19).trans h6.1, (hb.cell (p := ⟨g19, 1, none⟩) l19).trans h6.2.1, (hb.cell (p := ⟨g19, 2, none⟩) l19).trans h6.2.2.1, (hb.cell (p := ⟨g20, 0, none⟩) l20).trans h6.2.2.2.1, (hb.cell (p := ⟨g20, 1, none⟩) l20).trans h6.2.2.2.2.1, (hb.cell (p := ⟨g20, 2, none⟩) l20).trans h6.2.2.2.2.2⟩, hb⟩))
        have HS := Lib.hid (HN.out wc.drew ⟨rfl, rfl, rfl, Nat.le_refl _, fun _ _ => rfl⟩)
        have HPX := Lib.hid (fun (wx : World) (hb : RowKit.Below wc.heap.size wc wx) => (show Pr wx v1 v2 L1 ∧ Pr wx v5 v6 (mrgL a b) ∧ Pr wx v8 v9 (crsL a m) from ⟨HP6.out.1.ext (hbc.trans (hb.mono hbc.size)), HP6.out.2.1.ext (hbc.trans (hb.mono hbc.size)), HP6.out.2.2.ext (hbc.trans (hb.mono hbc.size))⟩))
        have HAC := Lib.hid (HA9.out.ext hbc)
        clear hbc h6 HP6 HN9 HM9 HS9 HQ9 HQS HA9 HW9
        have s1 : True := trivial
        have s2 : True := trivial
        have s3 : True := trivial
        have s4 : True := trivial
        have s5 : True := trivial
        have s6 : True := trivial
        go_wp2_with fail
        go_region_held3 (fun wx => (wx.cell? ⟨w.heap.size, 0, none⟩ = some (.slice A1 n1 c1) ∧ wx.cell? ⟨g19, 0, none⟩ = some (.int .i64 (sumB a).1) ∧ wx.cell? ⟨g19, 1, none⟩ = some (.int .i64 (sumB a).2.1) ∧ wx.cell? ⟨g19, 2, none⟩ = some (.int .i64 (sumB a).2.2) ∧ wx.cell? ⟨g20, 0, none⟩ = some (.int .i64 (sumB a).1) ∧ wx.cell? ⟨g20, 1, none⟩ = some (.int .i64 (sumB a).2.1) ∧ wx.cell? ⟨g20, 2, none⟩ = some (.int .i64 (sumB a).2.2)) ∧ RowKit.Below wc.heap.size wc wx) (with_reducible first | exact HS.out | assumption | exact HN.out _ (bel_al HS17.out (Nat.le_refl _) _) | exact HN.out _ (bel_al (bel_al HS17.out (Nat.le_refl _) _) (Nat.le_refl _) _)) (first
          | (have _t := s1; clear _t s1; go_at_call 17; refine (same_pr (HPX.out _ HS.out.2).1 HLA1).mono ?_; rintro e11 w11 ⟨rfl, hb11⟩; have hS11 := HN.out w11 (HS.out.2.trans (hb11.mono HS.out.2.size)))
          | (have _t := s2; clear _t s2; go_at_call 17; refine (same_pr (HPX.out _ hS11.2).2.1 HLM).mono ?_; rintro e12 w12 ⟨rfl, hb12⟩; have hS12 := HN.out w12 (hS11.2.trans (hb12.mono hS11.2.size)))
          | (have _t := s3; clear _t s3; go_at_call 17; refine (same_pr (HPX.out _ hS12.2).2.2 HLC).mono ?_; rintro e13 w13 ⟨rfl, hb13⟩; have hS13 := HN.out w13 (hS12.2.trans (hb13.mono hS12.2.size)))
          | (have _t := s4; clear _t s4; go_at_call 11; refine (own_any A1 n1 c1 a w13 (HAC.out.ext hS13.2) (by omega)).mono ?_; rintro e14 w14 ⟨⟨v14, rfl, o14⟩, hb14⟩; have hS14 := HN.out w14 (hS13.2.trans (hb14.mono hS13.2.size)))
          | (go_at_call 18; refine (top_any v14 _ a m w14 o14 HLN).mono ?_; rintro e15 w15 ⟨⟨A15, c15, rfl, r15⟩, hb15⟩; have hS15 := HN.out w15 (hS14.2.trans (hb15.mono hS14.2.size)))
          | (go_at_call 19; refine (rtop_any A1 n1 c1 a m w15 (HAC.out.ext hS15.2) (by omega)).mono ?_; rintro e16 w16 ⟨⟨A16, c16, rfl, r16⟩, hb16⟩; have hS16 := HN.out w16 (hS15.2.trans (hb16.mono hS15.2.size)))
          | (have _t := s5; clear _t s5; go_at_call 17; refine (same_any A15 _ c15 A16 c16 ((St.stab cKey a).take (topN a m)) w16 (r15.ext hb16) r16 HLT').mono ?_; rintro e17 w17 ⟨rfl, hb17⟩; have hS17 := HN.out w17 (hS16.2.trans (hb17.mono hS16.2.size)); have HS17 := Lib.hid hS17.2)
          | (have _t := s6; clear _t s6; go_at_call 17; (first | with_reducible refine (same_two w17 (sumB a) _ _).mono ?_ | refine (same_two' w17 (sumB a) _ _).mono ?_); rintro e18 w18 ⟨rfl, hb18⟩; have hS18 := HN.out w18 (HS17.out.trans (hb18.mono HS17.out.size)))
          | (go_at_call 11; refine (own_any A1 n1 c1 a w18 (HAC.out.ext hS18.2) (by omega)).mono ?_; rintro e19 w19 ⟨⟨v19, rfl, o19⟩, hb19⟩; have hS19 := HN.out w19 (hS18.2.trans (hb19.mono hS18.2.size)); obtain ⟨A19, c19, rfl, -, -, r19⟩ := OwnT.rd o19)
          | (go_at_call 20; refine (Ta.check_any A19 _ c19 a w19 r19 HLN).mono ?_; rintro e20 w20 ⟨rfl, hb20⟩; have hS20 := HN.out w20 (hS19.2.trans (hb20.mono hS19.2.size)))
          | (go_at_call 21; refine (rcheck_any A1 n1 c1 a w20 (HAC.out.ext hS20.2).rd (by omega)).mono ?_; rintro e21 w21 ⟨rfl, hb21⟩; have hS21 := HN.out w21 (hS20.2.trans (hb21.mono hS20.2.size)))
          | (go_at_call 7; refine (awake_any w21).mono ?_; rintro e22 w22 ⟨rfl, hb22⟩; have hS22 := HN.out w22 (hS21.2.trans (hb22.mono hS21.2.size))))
        all_goals (have HFB := Lib.hid ((HB0.out.trans (HW2.out.mono HB0.out.size)).trans ((HBC.out.trans (hS22.2.mono HBC.out.size)).mono ((HB0.out.trans (HW2.out.mono HB0.out.size)).size))))
        all_goals go_wp2_with fail
        all_goals go_ret
        all_goals exact ⟨rfl, HFB.out⟩
    · by_cases q1 : (1100 : Int) < (n1 : Int)
      · clear hg
        go_enter Try.func3, Try.ntmps3
        go_wp2_with fail
        generalize w.alloc (.cells #[.slice A1 n1 c1, .slice A2 n2 c2] 25) = w0 at *
        refine HF.out.mono ?_
        rintro e1 w1 ⟨rfl, rfl⟩
        have d0 := HX.out.1
        have d1 := HX.out.2
        have HAW := Lib.hid (awake_any w0)
        go_wp2_with fail
        refine HAW.out.mono ?_
        rintro e2 w2 ⟨rfl, hb2⟩
        have HFB := Lib.hid (HB0.out.trans (hb2.mono HB0.out.size))
        clear hb2
        go_wp2_with fail
        go_ret
        exact ⟨rfl, HFB.out⟩
      by_cases q2 : (1100 : Int) < (n2 : Int)
      · clear hg
        go_enter Try.func3, Try.ntmps3
        go_wp2_with fail
        generalize w.alloc (.cells #[.slice A1 n1 c1, .slice A2 n2 c2] 25) = w0 at *
        refine HF.out.mono ?_
        rintro e1 w1 ⟨rfl, rfl⟩
        have d0 := HX.out.1
        have d1 := HX.out.2
        have HAW := Lib.hid (awake_any w0)
        go_wp2_with fail
        refine HAW.out.mono ?_
        rintro e2 w2 ⟨rfl, hb2⟩
        have HFB := Lib.hid (HB0.out.trans (hb2.mono HB0.out.size))
        clear hb2
        go_wp2_with fail
        go_ret
        exact ⟨rfl, HFB.out⟩
      have q3 : (1300 : Int) < (n1 : Int) + (n2 : Int) := by omega
      have q4 : IntKind.i64.wrap ((n1 : Int) + (n2 : Int)) = (n1 : Int) + (n2 : Int) := by rw [IntKind.wrap_i64]; omega
      clear hg
      go_enter Try.func3, Try.ntmps3
      go_wp2_with fail
      generalize w.alloc (.cells #[.slice A1 n1 c1, .slice A2 n2 c2] 25) = w0 at *
      refine HF.out.mono ?_
      rintro e1 w1 ⟨rfl, rfl⟩
      have d0 := HX.out.1
      have d1 := HX.out.2
      have HAW := Lib.hid (awake_any w0)
      go_wp2_with fail
      refine HAW.out.mono ?_
      rintro e2 w2 ⟨rfl, hb2⟩
      have HFB := Lib.hid (HB0.out.trans (hb2.mono HB0.out.size))
      clear hb2
      go_wp2_with fail
      go_ret
      exact ⟨rfl, HFB.out⟩
  · rw [show few l = false by simpa using hf] at HF
    clear hf
    go_enter Try.func3, Try.ntmps3
    go_wp2_with fail
    generalize w.alloc (.cells #[.slice A1 n1 c1, .slice A2 n2 c2] 25) = w0 at *
    refine HF.out.mono ?_
    rintro e1 w1 ⟨rfl, rfl⟩
    have d0 := HX.out.1
    have d1 := HX.out.2
    have HAW := Lib.hid (awake_any w0)
    go_wp2_with fail
    refine HAW.out.mono ?_
    rintro e2 w2 ⟨rfl, hb2⟩
    have HFB := Lib.hid (HB0.out.trans (hb2.mono HB0.out.size))
    clear hb2
    go_wp2_with fail
    go_ret
    exact ⟨rfl, HFB.out⟩
end Tm
end Go.Proofs.Ytaockieikcibdaa
