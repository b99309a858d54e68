/- varveref45.Sum. Sorting that keeps the order of equals: merging two rows, and what Go's stable sort does with them: plain lists, no program. Go's stable sort, as lists: what exchanging, inserting and chunks of a fixed length come to: no program. slices.SortStableFunc at structs: exchanging of ranges, turning. -/
import Derived.Test.YtaockieikcibdaaTq06
import Derived.Test.YtaockieikcibdaaTq04
import Derived.StillTailTactics
import Derived.Test.YtaockieikcibdaaTq01
import Derived.Sort.Defs
import Derived.Test.YtaockieikcibdaaRows
import Derived.Shelf.SlSortCmp.KitK
import Derived.Shelf.Lay
import Derived.Ground.SlsfProg
import Derived.Deep.LoopGhost
namespace Go.Proofs.Ytaockieikcibdaa
namespace Tm
open Go.RowKit Go.Maps Go.Sort Ta

/-- A block of three cells. -/
def RowF (w : World) (b : Nat) (c0 c1 c2 : Value) : Prop := w.heap[b]? = some (.cells #[c0, c1, c2] 42 (0, 0))
section
variable {w w' : World} {b : Nat} {c0 c1 c2 : Value}
theorem RowF.e0 (h : RowF w b c0 c1 c2) : w.cell? ⟨b, 0, none⟩ = some c0 := by rw [cell_of_row w b 0 _ _ (0, 0) h]; rfl
theorem RowF.e1 (h : RowF w b c0 c1 c2) : w.cell? ⟨b, 1, none⟩ = some c1 := by rw [cell_of_row w b 1 _ _ (0, 0) h]; rfl
theorem RowF.e2 (h : RowF w b c0 c1 c2) : w.cell? ⟨b, 2, none⟩ = some c2 := by rw [cell_of_row w b 2 _ _ (0, 0) h]; rfl
theorem RowF.fz (h : RowF w b c0 c1 c2) (j : Nat) : w.frozen? ⟨b, j, none⟩ = false := frozen_of_row w b j _ _ h
theorem RowF.lt (h : RowF w b c0 c1 c2) : b < w.heap.size := (Array.getElem?_eq_some_iff.1 h).1
theorem RowF.set1 (h : RowF w b c0 c1 c2) (u : Value) : RowF (w.setCell ⟨b, 1, none⟩ u) b c0 u c2 := by
  unfold RowF at *
  simp [World.setCell, Array.getElem?_modify, h]
theorem RowF.set2 (h : RowF w b c0 c1 c2) (u : Value) : RowF (w.setCell ⟨b, 2, none⟩ u) b c0 c1 u := by
  unfold RowF at *
  simp [World.setCell, Array.getElem?_modify, h]
theorem RowF.far (h : RowF w b c0 c1 c2) {g j : Nat} (hg : b ≠ g) (u : Value) : RowF (w.setCell ⟨g, j, none⟩ u) b c0 c1 c2 := (Below.heap_setCell w ⟨g, j, none⟩ u b hg).trans h
theorem RowF.alloc (h : RowF w b c0 c1 c2) (o : Obj) : RowF (w.alloc o) b c0 c1 c2 := (Below.heap_alloc w o b h.lt).trans h
theorem RowF.new (w : World) (c0 c1 c2 : Value) : RowF (w.alloc (.cells #[c0, c1, c2] 42)) w.heap.size c0 c1 c2 := by
  exact heap_alloc_new w _
theorem RowF.below {B : Nat} (h : RowF w b c0 c1 c2) (hb : Below B w w') (hB : b < B) : RowF w' b c0 c1 c2 := (hb.block b hB).trans h
end

theorem RowF.set0 {w : World} {b : Nat} {c0 c1 c2 : Value} (h : RowF w b c0 c1 c2) (u : Value) : RowF (w.setCell ⟨b, 0, none⟩ u) b u c1 c2 := by
  unfold RowF at *
  simp [World.setCell, Array.getElem?_modify, h]
theorem RowF.drewN {w : World} {b : Nat} {c0 c1 c2 : Value} (h : RowF w b c0 c1 c2) (n : Nat) : RowF (w.drewN n) b c0 c1 c2 := h
set_option maxHeartbeats 6400000 in
set_option maxRecDepth 100000 in
theorem rsum_any (A : Option Addr) (n c : Nat) (S : List Bu) (w : World) (ha : Arg w A n c S) (hn : n ≤ 1000000) :
    Calls Try.prog 16 #[.slice A n c] w fun e w' => e = .returned (.agg #[.int .i64 (sumB S).1, .int .i64 (sumB S).2.1, .int .i64 (sumB S).2.2]) ∧ Below w.heap.size w w' := by
  have mixed : Try.prog.follows .mixedOrders = true := by kernel_rfl
  have hb0 := (ext_alloc w (.cells #[.int .i64 0, .int .i64 0, .int .i64 0] 42)).trans ((ext_alloc (w.alloc (.cells #[.int .i64 0, .int .i64 0, .int .i64 0] 42)) (.cells #[.int .i64 0, .int .i64 0, .int .i64 0] 42)).mono (by simp))
  have hr2 := (RowF.new w (.int .i64 0) (.int .i64 0) (.int .i64 0)).alloc (.cells #[.int .i64 0, .int .i64 0, .int .i64 0] 42)
  have hr3 := RowF.new (w.alloc (.cells #[.int .i64 0, .int .i64 0, .int .i64 0] 42)) (.int .i64 0) (.int .i64 0) (.int .i64 0)
  rw [show (w.alloc (.cells #[.int .i64 0, .int .i64 0, .int .i64 0] 42)).heap.size = w.heap.size + 1 by simp] at hr3
  have H0 := Lib.hid (And.intro hb0 (And.intro hr2 hr3))
  have hs0 : ((w.alloc (.cells #[.int .i64 0, .int .i64 0, .int .i64 0] 42)).alloc (.cells #[.int .i64 0, .int .i64 0, .int .i64 0] 42)).heap.size = w.heap.size + 2 := by simp
  have HS0 := Lib.hid hs0
  have HC := Lib.hid (rcheck_any A n c S _ (ha.rd.ext hb0) hn)
  have HA := Lib.hid ha
  clear ha hb0 hr2 hr3 hs0
  by_cases hs : chk S = 0
  · have HP := Lib.hid (chk_inv hs)
    have HS := Lib.hid hs
    have hnm : n ≤ 1000 := by have := HP.out.1; have := HA.out.len; omega
    rw [hs] at HC
    clear hs
    go_enter Try.func16, Try.ntmps16
    go_wp2_with fail
    generalize (w.alloc (.cells #[.int .i64 0, .int .i64 0, .int .i64 0] 42)).alloc (.cells #[.int .i64 0, .int .i64 0, .int .i64 0] 42) = w0 at *
    refine HC.out.mono ?_
    rintro e1 w1 ⟨rfl, hb1⟩
    have H1 := Lib.hid (And.intro (H0.out.1.trans (hb1.mono H0.out.1.size)) (And.intro (H0.out.2.1.below hb1 (by rw [HS0.out]; omega)) (H0.out.2.2.below hb1 (by rw [HS0.out]; omega))))
    clear hb1 HC
    go_wp2_with fail
    go_loopw [4] (fun i wr => ∃ (k : Nat) (tk : Int), i = .int .i64 (k : Int) ∧ k ≤ n ∧ Hid (RowF wr (w.heap.size + 1) (.int .i64 tk) (.int .i64 (sumC (S.take k))) (.int .i64 (sumY (S.take k))) ∧ RowF wr w.heap.size (.int .i64 0) (.int .i64 0) (.int .i64 0) ∧ Below w.heap.size w wr ∧ (k = 0 → tk = 0) ∧ (0 < k → ∀ x, S[0]? = some x → tk = x.1))) (fun i _ => n - (intOf i).toNat)
    case atStart => exact ⟨0, 0, by go_num, by omega, H1.out.2.2, H1.out.2.1, H1.out.1, fun _ => rfl, fun h => absurd h (by omega)⟩
    case round =>
      obtain ⟨k, tk, rfl, hk, HX⟩ := hrel
      have hsm := ok_sum HP.out.1 HP.out.2.1 k
      have hsm2 := ok_sum HP.out.1 HP.out.2.1 (k + 1)
      by_cases hkn : k < n
      · obtain ⟨ad, t, cc, y, hA, hbk, hx, a0, a1, a2⟩ := recT (HA.out.rd.below HX.out.2.2.1) hkn
        obtain ⟨ad', t0, cc0, y0, hA', -, hx0, b0, -, -⟩ := recT (HA.out.rd.below HX.out.2.2.1) (show 0 < n by omega)
        obtain rfl : ad = ad' := by rw [hA] at hA'; simpa using hA'
        have hb0 : wr.cell? ad = some (.int .i64 t0) := b0
        have i0 : (0 : Int) < (n : Int) := by omega
        have i0n : 0 < n := by omega
        have hst := sum_take hx
        generalize sumC (S.take k) = a at *
        generalize sumY (S.take k) = b at *
        have u1 : IntKind.i64.wrap (a + cc) = a + cc := by rw [IntKind.wrap_i64]; have := hst.1; simp only at this; omega
        have u2 : IntKind.i64.wrap (b + y) = b + y := by rw [IntKind.wrap_i64]; have := hst.2; simp only at this; omega
        have HST := Lib.hid hst
        have HX2 := Lib.hid HX.out
        have HX0 := Lib.hid hx0
        have d1 := HX.out.1.e1
        have d2 := HX.out.1.e2
        subst hA
        clear hx hA' hst hsm hsm2 hbk HX b0 hx0
        go_wp2_with fail
        go_still_tail 21, (by kernel_rfl)
        change wpList _ _ _ _ _ (wr.drewN 1)
        have hr := HX2.out.1.drewN 1
        have f0 := hr.fz 0
        have f1 := hr.fz 1
        have f2 := hr.fz 2
        have q0 := hr.e0
        have q1 := hr.e1
        have q2 := hr.e2
        have HR := Lib.hid (And.intro hr (And.intro (HX2.out.2.1.drewN 1) (below_drewN HX2.out.2.2.1 1)))
        clear a0 a1 a2 d1 d2 hb0 u1 u2 hr
        generalize wr.drewN 1 = w4 at *
        go_wp2_with fail
        refine ⟨⟨k + 1, t0, by go_num, by omega, ?_⟩, by simp [intOf]; omega⟩
        have hq := HST.out
        rw [hq.1, hq.2]
        exact ⟨((HR.out.1.set0 _).set1 _).set2 _, ((HR.out.2.1.far (by omega) _).far (by omega) _).far (by omega) _, ((HR.out.2.2.setCell (p := ⟨w.heap.size + 1, 0, none⟩) (Nat.le_succ _) _).setCell (p := ⟨w.heap.size + 1, 1, none⟩) (Nat.le_succ _) _).setCell (p := ⟨w.heap.size + 1, 2, none⟩) (Nat.le_succ _) _, fun h => absurd h (by omega), fun _ x hx => by rw [HX0.out] at hx; cases hx; rfl⟩
      · obtain rfl : n = k := by omega
        have htk : S.take n = S := List.take_of_length_le (by have := HA.out.len; omega)
        rw [htk] at HX
        have HX2 := Lib.hid HX.out
        have f0 := HX2.out.2.1.fz 0
        have f1 := HX2.out.2.1.fz 1
        have f2 := HX2.out.2.1.fz 2
        have d0 := HX2.out.1.e0
        have d1 := HX2.out.1.e1
        have d2 := HX2.out.1.e2
        have g0 := HX2.out.2.1.e0
        have g1 := HX2.out.2.1.e1
        have g2 := HX2.out.2.1.e2
        have hE : sumB S = (tk, sumC S, sumY S) := by
          by_cases hz : n = 0
          · have hS : S = [] := List.eq_nil_of_length_eq_zero (by have := HA.out.len; omega)
            rw [HX2.out.2.2.2.1 hz, hS, sumB_nil rfl]; rfl
          · have hx : S[0]? = some (S[0]'(by have := HA.out.len; omega)) := List.getElem?_eq_getElem _
            rw [sumB_yes HS.out hx, HX2.out.2.2.2.2 (by omega) _ hx]
        have HE := Lib.hid hE
        clear htk HX hsm hsm2 hE
        go_wp2_with fail
        rw [HE.out]
        refine bodyPost_ret (v := .agg #[.int .i64 tk, .int .i64 (sumC S), .int .i64 (sumY S)]) (by simp [results, go_sem, g0, g1, g2]) rfl ?_
        exact ⟨rfl, ((HX2.out.2.2.1.setCell (p := ⟨w.heap.size, 0, none⟩) (Nat.le_refl _) _).setCell (p := ⟨w.heap.size, 1, none⟩) (Nat.le_refl _) _).setCell (p := ⟨w.heap.size, 2, none⟩) (Nat.le_refl _) _⟩
  · have HE := Lib.hid (sumB_no hs)
    have h2 := chk_two hs
    rw [h2] at HC
    clear hs h2
    go_enter Try.func16, Try.ntmps16
    go_wp2_with fail
    generalize (w.alloc (.cells #[.int .i64 0, .int .i64 0, .int .i64 0] 42)).alloc (.cells #[.int .i64 0, .int .i64 0, .int .i64 0] 42) = w0 at *
    refine HC.out.mono ?_
    rintro e1 w1 ⟨rfl, hb1⟩
    have hr2 := H0.out.2.1.below hb1 (by rw [HS0.out]; omega)
    have hr3 := H0.out.2.2.below hb1 (by rw [HS0.out]; omega)
    have HB := Lib.hid (H0.out.1.trans (hb1.mono H0.out.1.size))
    have f0 := hr2.fz 0
    have f1 := hr2.fz 1
    have f2 := hr2.fz 2
    have g0 := hr2.e0
    have g1 := hr2.e1
    have g2 := hr2.e2
    have d0 := hr3.e0
    have d1 := hr3.e1
    have d2 := hr3.e2
    clear hb1 HC hr2 hr3
    go_wp2_with fail
    rw [HE.out]
    refine bodyPost_ret (v := .agg #[.int .i64 0, .int .i64 0, .int .i64 0]) (by simp [results, go_sem, g0, g1, g2]) rfl ?_
    exact ⟨rfl, ((HB.out.setCell (p := ⟨w.heap.size, 0, none⟩) (Nat.le_refl _) _).setCell (p := ⟨w.heap.size, 1, none⟩) (Nat.le_refl _) _).setCell (p := ⟨w.heap.size, 2, none⟩) (Nat.le_refl _) _⟩
end Tm
end Go.Proofs.Ytaockieikcibdaa
namespace Go.Proofs.Ytaockieikcibdaa
namespace St
variable {α : Type} (key : α → Int)

/-- Two rows merged: an element of the second one goes ahead only where it is less. -/
def mrg : List α → List α → List α
  | [], R => R
  | x :: L, [] => x :: L
  | x :: L, y :: R => if key y < key x then y :: mrg (x :: L) R else x :: mrg L (y :: R)
termination_by L R => L.length + R.length

theorem mrg_nil_left (R : List α) : mrg key [] R = R := by rw [mrg]
theorem mrg_nil_right (L : List α) : mrg key L [] = L := by cases L <;> rw [mrg]
theorem mrg_lt {x y : α} {L R : List α} (h : key y < key x) : mrg key (x :: L) (y :: R) = y :: mrg key (x :: L) R := by rw [mrg, if_pos h]
theorem mrg_ge {x y : α} {L R : List α} (h : ¬ key y < key x) : mrg key (x :: L) (y :: R) = x :: mrg key L (y :: R) := by rw [mrg, if_neg h]

/-- Rows that are cut fitly are merged part by part. -/
theorem mrg_split : ∀ (n : Nat) (L1 L2 R1 R2 : List α), L1.length + R1.length ≤ n → (∀ y ∈ R1, ∀ x ∈ L2, key y < key x) → (∀ x ∈ L1, ∀ y ∈ R2, ¬ key y < key x) →
    mrg key (L1 ++ L2) (R1 ++ R2) = mrg key L1 R1 ++ mrg key L2 R2 := by
  intro n
  induction n with
  | zero =>
    intro L1 L2 R1 R2 hn _ _
    have h1 : L1 = [] := List.eq_nil_of_length_eq_zero (by omega)
    have h2 : R1 = [] := List.eq_nil_of_length_eq_zero (by omega)
    subst h1; subst h2
    simp [mrg_nil_left]
  | succ n ih =>
    intro L1 L2 R1 R2 hn h1 h2
    rcases L1 with _ | ⟨x, L1⟩
    · rcases R1 with _ | ⟨y, R1⟩
      · simp [mrg_nil_left]
      · rcases L2 with _ | ⟨x, L2⟩
        · simp [mrg_nil_left]
        · rw [List.nil_append, List.cons_append, mrg_lt key (h1 y (by simp) x (by simp)), mrg_nil_left]
          have := ih [] (x :: L2) R1 R2 (by simp at hn ⊢; omega) (fun y hy => h1 y (by simp [hy])) (by simp)
          rw [List.nil_append, mrg_nil_left] at this
          rw [this]; rfl
    · rcases R1 with _ | ⟨y, R1⟩
      · rcases R2 with _ | ⟨y, R2⟩
        · simp [mrg_nil_right]
        · rw [List.nil_append, List.cons_append, mrg_ge key (h2 x (by simp) y (by simp)), mrg_nil_right]
          have := ih L1 L2 [] (y :: R2) (by simp at hn ⊢; omega) (by simp) (fun x hx => h2 x (by simp [hx]))
          rw [List.nil_append, mrg_nil_right] at this
          rw [this]; rfl
      · simp only [List.cons_append]
        by_cases h : key y < key x
        · rw [mrg_lt key h, mrg_lt key h]
          have := ih (x :: L1) L2 R1 R2 (by simp at hn ⊢; omega) (fun y hy => h1 y (by simp [hy])) h2
          rw [List.cons_append] at this
          rw [this]; rfl
        · rw [mrg_ge key h, mrg_ge key h]
          have := ih L1 L2 (y :: R1) R2 (by simp at hn ⊢; omega) h1 (fun x hx => h2 x (by simp [hx]))
          rw [List.cons_append] at this
          rw [this]; rfl

theorem mrg_split' (L1 L2 R1 R2 : List α) (h1 : ∀ y ∈ R1, ∀ x ∈ L2, key y < key x) (h2 : ∀ x ∈ L1, ∀ y ∈ R2, ¬ key y < key x) :
    mrg key (L1 ++ L2) (R1 ++ R2) = mrg key L1 R1 ++ mrg key L2 R2 := mrg_split key _ L1 L2 R1 R2 (Nat.le_refl _) h1 h2

theorem mrg_assoc : ∀ (n : Nat) (A B C : List α), A.length + B.length + C.length ≤ n → mrg key (mrg key A B) C = mrg key A (mrg key B C) := by
  intro n
  induction n with
  | zero =>
    intro A B C hn
    have h1 : A = [] := List.eq_nil_of_length_eq_zero (by omega)
    subst h1
    simp [mrg_nil_left]
  | succ n ih =>
    intro A B C hn
    rcases A with _ | ⟨a, A⟩
    · simp [mrg_nil_left]
    rcases B with _ | ⟨b, B⟩
    · simp [mrg_nil_left, mrg_nil_right]
    rcases C with _ | ⟨c, C⟩
    · simp [mrg_nil_right]
    simp only [List.length_cons] at hn
    by_cases hba : key b < key a
    · rw [mrg_lt key hba]
      by_cases hcb : key c < key b
      · rw [mrg_lt key hcb, mrg_lt key hcb, mrg_lt key (show key c < key a by omega), ← mrg_lt key hba, ih (a :: A) (b :: B) C (by simp; omega)]
      · rw [mrg_ge key hcb, mrg_ge key hcb, mrg_lt key hba, ih (a :: A) B (c :: C) (by simp; omega)]
    · rw [mrg_ge key hba]
      by_cases hca : key c < key a
      · rw [mrg_lt key hca, mrg_lt key (show key c < key b by omega), mrg_lt key hca, ← mrg_ge key hba, ih (a :: A) (b :: B) C (by simp; omega)]
      · rw [mrg_ge key hca, ih A (b :: B) (c :: C) (by simp; omega)]
        by_cases hcb : key c < key b
        · rw [mrg_lt key hcb, mrg_ge key hca]
        · rw [mrg_ge key hcb, mrg_ge key hba]

/-- Sorted, equals in their order. -/
def stab (l : List α) : List α := l.foldr (fun x acc => mrg key [x] acc) []
theorem stab_nil : stab key ([] : List α) = [] := rfl
theorem stab_cons (x : α) (l : List α) : stab key (x :: l) = mrg key [x] (stab key l) := rfl
theorem stab_one (x : α) : stab key [x] = [x] := by rw [stab_cons, stab_nil, mrg_nil_right]
theorem mrg_stab : ∀ (A B : List α), mrg key (stab key A) (stab key B) = stab key (A ++ B)
  | [], B => by rw [stab_nil, mrg_nil_left, List.nil_append]
  | x :: A, B => by rw [stab_cons, mrg_assoc key _ _ _ _ (Nat.le_refl _), mrg_stab A B, List.cons_append, stab_cons]

theorem mrg_perm : ∀ (n : Nat) (L R : List α), L.length + R.length ≤ n → (mrg key L R).Perm (L ++ R) := by
  intro n
  induction n with
  | zero =>
    intro L R hn
    have h1 : L = [] := List.eq_nil_of_length_eq_zero (by omega)
    subst h1
    rw [mrg_nil_left]; exact List.Perm.refl _
  | succ n ih =>
    intro L R hn
    rcases L with _ | ⟨x, L⟩
    · rw [mrg_nil_left]; exact List.Perm.refl _
    rcases R with _ | ⟨y, R⟩
    · rw [mrg_nil_right, List.append_nil]
    simp only [List.length_cons] at hn
    by_cases h : key y < key x
    · rw [mrg_lt key h]
      exact ((ih (x :: L) R (by simp; omega)).cons y).trans List.perm_middle.symm
    · rw [mrg_ge key h]
      exact (ih L (y :: R) (by simp; omega)).cons x
theorem mrg_perm' (L R : List α) : (mrg key L R).Perm (L ++ R) := mrg_perm key _ L R (Nat.le_refl _)
theorem length_mrg (L R : List α) : (mrg key L R).length = L.length + R.length := by rw [(mrg_perm' key L R).length_eq, List.length_append]

theorem stab_perm : ∀ (l : List α), (stab key l).Perm l
  | [] => List.Perm.refl _
  | x :: l => by
    rw [stab_cons]
    exact (mrg_perm' key [x] (stab key l)).trans ((stab_perm l).cons x)
theorem length_stab (l : List α) : (stab key l).length = l.length := (stab_perm key l).length_eq

/-- In order, equals beside each other. -/
def Srt (l : List α) : Prop := l.Pairwise fun a b => key a ≤ key b

theorem mrg_srt : ∀ (n : Nat) (L R : List α), L.length + R.length ≤ n → Srt key L → Srt key R → Srt key (mrg key L R) := by
  intro n
  induction n with
  | zero =>
    intro L R hn _ hR
    have h1 : L = [] := List.eq_nil_of_length_eq_zero (by omega)
    subst h1
    rw [mrg_nil_left]; exact hR
  | succ n ih =>
    intro L R hn hL hR
    rcases L with _ | ⟨x, L⟩
    · rw [mrg_nil_left]; exact hR
    rcases R with _ | ⟨y, R⟩
    · rw [mrg_nil_right]; exact hL
    simp only [List.length_cons] at hn
    have hL' := List.pairwise_cons.1 hL
    have hR' := List.pairwise_cons.1 hR
    by_cases h : key y < key x
    · rw [mrg_lt key h]
      refine List.pairwise_cons.2 ⟨fun z hz => ?_, ih (x :: L) R (by simp; omega) hL hR'.2⟩
      have hz' := (mrg_perm' key (x :: L) R).mem_iff.1 hz
      rcases List.mem_append.1 hz' with hz' | hz'
      · rcases List.mem_cons.1 hz' with rfl | hz'
        · omega
        · have := hL'.1 z hz'; omega
      · exact hR'.1 z hz'
    · rw [mrg_ge key h]
      refine List.pairwise_cons.2 ⟨fun z hz => ?_, ih L (y :: R) (by simp; omega) hL'.2 hR⟩
      have hz' := (mrg_perm' key L (y :: R)).mem_iff.1 hz
      rcases List.mem_append.1 hz' with hz' | hz'
      · exact hL'.1 z hz'
      · rcases List.mem_cons.1 hz' with rfl | hz'
        · omega
        · have := hR'.1 z hz'; omega
theorem mrg_srt' {L R : List α} (hL : Srt key L) (hR : Srt key R) : Srt key (mrg key L R) := mrg_srt key _ L R (Nat.le_refl _) hL hR

theorem stab_srt : ∀ (l : List α), Srt key (stab key l)
  | [] => List.Pairwise.nil
  | x :: l => by
    rw [stab_cons]
    exact mrg_srt' key (List.pairwise_singleton _ _) (stab_srt l)

/-- One more behind a row: it goes behind all that are not greater. -/
theorem mrg_one (S1 S2 : List α) (x : α) (h1 : ∀ s ∈ S1, key s ≤ key x) (h2 : ∀ s ∈ S2, key x < key s) : mrg key (S1 ++ S2) [x] = S1 ++ x :: S2 := by
  have h := mrg_split' key S1 S2 [] [x] (by simp) (by intro s hs y hy; simp at hy; subst hy; have := h1 s hs; omega)
  rw [List.nil_append, mrg_nil_right] at h
  rw [h]
  congr 1
  rcases S2 with _ | ⟨s, S2⟩
  · rw [mrg_nil_left]
  · rw [mrg_lt key (h2 s (by simp)), mrg_nil_right]
/-- One ahead of a row: it goes ahead of all that are not less. -/
theorem one_mrg (R1 R2 : List α) (x : α) (h1 : ∀ s ∈ R1, key s < key x) (h2 : ∀ s ∈ R2, key x ≤ key s) : mrg key [x] (R1 ++ R2) = R1 ++ x :: R2 := by
  have h := mrg_split' key [] [x] R1 R2 (by intro y hy z hz; simp at hz; subst hz; exact h1 y hy) (by simp)
  rw [List.nil_append, mrg_nil_left] at h
  rw [h]
  congr 1
  rcases R2 with _ | ⟨s, R2⟩
  · rw [mrg_nil_right]
  · rw [mrg_ge key (by have := h2 s (by simp); omega), mrg_nil_left]

end St
end Go.Proofs.Ytaockieikcibdaa
namespace Go.Proofs.Ytaockieikcibdaa
namespace St
open Go.Sort
variable {α : Type} (key : α → Int)

theorem set_mid (A B : List α) (x z : α) : (A ++ x :: B).set A.length z = A ++ z :: B := by
  rw [List.set_append_right _ _ (Nat.le_refl _), Nat.sub_self]; rfl
theorem get_mid (A B : List α) (x : α) : (A ++ x :: B)[A.length]? = some x := by
  rw [List.getElem?_append_right (Nat.le_refl _), Nat.sub_self]; rfl

section
variable [Inhabited α]
theorem arr_at {d : Array α} {A B : List α} {x : α} {i : Nat} (h : d.toList = A ++ x :: B) (hi : i = A.length) : d[i]! = x := by
  have h1 : d[i]? = some x := by rw [← Array.getElem?_toList, h, hi, get_mid]
  rw [getElem!_def, h1]

theorem swp_list {d : Array α} {A B C : List α} {x y : α} {i j : Nat} (h : d.toList = A ++ x :: (B ++ y :: C)) (hi : i = A.length) (hj : j = A.length + 1 + B.length) : (swp d i j).toList = A ++ y :: (B ++ x :: C) := by
  have e1 : d[i]! = x := arr_at h hi
  have e2 : d[j]! = y := arr_at (A := A ++ x :: B) (B := C) (by rw [h]; simp) (by simp; omega)
  unfold swp
  rw [e1, e2, Array.toList_setIfInBounds, Array.toList_setIfInBounds, h, hi, set_mid]
  have := set_mid (A ++ y :: B) C y x
  rw [show (A ++ y :: B).length = j by simp; omega] at this
  simpa using this

theorem swp_list' {d : Array α} {A B C : List α} {x y : α} {i j : Nat} (h : d.toList = A ++ x :: (B ++ y :: C)) (hi : i = A.length) (hj : j = A.length + 1 + B.length) : (swp d j i).toList = A ++ y :: (B ++ x :: C) := by
  have e1 : d[i]! = x := arr_at h hi
  have e2 : d[j]! = y := arr_at (A := A ++ x :: B) (B := C) (by rw [h]; simp) (by simp; omega)
  unfold swp
  have s1 := set_mid (A ++ x :: B) C y x
  rw [show (A ++ x :: B).length = j by simp; omega] at s1
  rw [e1, e2, Array.toList_setIfInBounds, Array.toList_setIfInBounds, h, show A ++ x :: (B ++ y :: C) = (A ++ x :: B) ++ y :: C by simp, s1, hi]
  simp

variable {lt : α → α → Bool} (hlt : ∀ x y, lt x y = decide (key x < key y))
include hlt

theorem insInner_list (A : List α) (x : α) : ∀ (n : Nat) (S B : List α) (d : Array α), S.length = n → Srt key S → d.toList = A ++ (S ++ x :: B) → (insInner lt A.length (A.length + S.length) d).toList = A ++ (mrg key S [x] ++ B) := by
  intro n
  induction n with
  | zero =>
    intro S B d hn _ h
    have : S = [] := List.eq_nil_of_length_eq_zero hn
    subst this
    rw [mrg_nil_left]
    have : insInner lt A.length (A.length + ([] : List α).length) d = d := by
      rw [List.length_nil, Nat.add_zero]
      rcases hA : A.length with _ | k
      · rw [insInner]
      · rw [insInner, if_neg (by simp)]
    rw [this, h]; rfl
  | succ n ih =>
    intro S B d hn hS h
    obtain ⟨S', s, rfl⟩ : ∃ S' s, S = S' ++ [s] := ⟨S.dropLast, S.getLast (by intro e; simp [e] at hn), (List.dropLast_concat_getLast _).symm⟩
    have hn' : S'.length = n := by simpa using hn
    have hx : d[A.length + S'.length + 1]! = x := arr_at (A := A ++ (S' ++ [s])) (B := B) (by rw [h]; simp) (by simp; omega)
    have hs : d[A.length + S'.length]! = s := arr_at (A := A ++ S') (B := x :: B) (by rw [h]; simp) (by simp)
    have hS' : Srt key S' ∧ ∀ z ∈ S', key z ≤ key s := by
      have := List.pairwise_append.1 hS
      exact ⟨this.1, fun z hz => this.2.2 z hz s (by simp)⟩
    rw [show A.length + (S' ++ [s]).length = (A.length + S'.length) + 1 by simp; omega, insInner, hx, hs, hlt]
    by_cases hlt' : key x < key s
    · rw [if_pos (by simp only [hlt', decide_true, Bool.and_true, decide_eq_true_eq]; omega)]
      have e := swp_list' (d := d) (A := A ++ S') (B := []) (C := B) (x := s) (y := x) (i := A.length + S'.length) (j := A.length + S'.length + 1) (by rw [h]; simp) (by simp) (by simp)
      rw [ih S' (s :: B) _ hn' hS'.1 (by rw [e]; simp)]
      have := mrg_split' key S' [s] [x] [] (by intro y hy z hz; simp at hy hz; subst hy; subst hz; exact hlt') (by simp)
      rw [List.append_nil, mrg_nil_right] at this
      rw [this]; simp
    · rw [if_neg (by simp [hlt'])]
      have := mrg_one key (S' ++ [s]) [] x (by intro z hz; rcases List.mem_append.1 hz with hz | hz; (have := hS'.2 z hz; omega); (simp at hz; subst hz; omega)) (by simp)
      rw [List.append_nil] at this
      rw [this, h]; simp

theorem insOuter_list (A B : List α) : ∀ (M2 M1 : List α) (d : Array α), d.toList = A ++ (stab key M1 ++ (M2 ++ B)) → (insOuter lt A.length (A.length + M1.length + M2.length) (A.length + M1.length) d).toList = A ++ (stab key (M1 ++ M2) ++ B) := by
  intro M2
  induction M2 with
  | nil =>
    intro M1 d h
    rw [insOuter, if_neg (by simp), List.append_nil, h]; rfl
  | cons x M2 ih =>
    intro M1 d h
    rw [insOuter, if_pos (by simp)]
    have e := insInner_list key hlt A x _ (stab key M1) (M2 ++ B) d rfl (stab_srt key M1) (by rw [h]; simp)
    rw [length_stab] at e
    have h1 : mrg key (stab key M1) [x] = stab key (M1 ++ [x]) := by rw [← mrg_stab, stab_one]
    have := ih (M1 ++ [x]) (insInner lt A.length (A.length + M1.length) d) (by rw [e, h1])
    rw [show M1 ++ x :: M2 = (M1 ++ [x]) ++ M2 by simp, ← this]
    congr 2
    · simp; omega
    · simp; omega

theorem insertionSort_list (A M B : List α) (d : Array α) (h : d.toList = A ++ (M ++ B)) : (insertionSort lt d A.length (A.length + M.length)).toList = A ++ (stab key M ++ B) := by
  unfold insertionSort
  rcases M with _ | ⟨x, M⟩
  · rw [insOuter, if_neg (by simp), h]; rfl
  · have := insOuter_list key hlt A B M [x] d (by rw [stab_one, h]; rfl)
    rw [show [x] ++ M = x :: M from rfl] at this
    rw [← this]
    congr 2
    simp; omega
end

/-- Chunks of bs elements, each sorted. -/
def cs (bs : Nat) (l : List α) : List α := if _h : bs = 0 ∨ l.length ≤ bs then stab key l else stab key (l.take bs) ++ cs bs (l.drop bs)
termination_by l.length
decreasing_by simp only [List.length_drop]; omega

theorem cs_small {bs : Nat} {l : List α} (h : l.length ≤ bs) : cs key bs l = stab key l := by rw [cs, dif_pos (Or.inr h)]
theorem cs_ge {bs : Nat} {l : List α} (h0 : 0 < bs) (h : bs ≤ l.length) : cs key bs l = stab key (l.take bs) ++ cs key bs (l.drop bs) := by
  by_cases h' : l.length ≤ bs
  · have e : l.length = bs := by omega
    rw [cs_small key h', List.take_of_length_le h', List.drop_of_length_le h', cs_small key (by simp), stab_nil, List.append_nil]
  · rw [cs, dif_neg (by omega)]
theorem cs_twice {bs : Nat} {l : List α} (h0 : 0 < bs) (h : 2 * bs ≤ l.length) : cs key bs l = stab key (l.take bs) ++ (stab key ((l.drop bs).take bs) ++ cs key bs (l.drop (2 * bs))) ∧
    cs key (2 * bs) l = mrg key (stab key (l.take bs)) (stab key ((l.drop bs).take bs)) ++ cs key (2 * bs) (l.drop (2 * bs)) := by
  refine ⟨?_, ?_⟩
  · rw [cs_ge key h0 (by omega), cs_ge key h0 (by simp; omega), List.drop_drop, show bs + bs = 2 * bs by omega]
  · rw [cs_ge key (by omega) h, mrg_stab]
    congr 2
    rw [show 2 * bs = bs + bs by omega, List.take_add]
theorem cs_last {bs : Nat} {l : List α} (h0 : 0 < bs) (h : bs ≤ l.length) (h2 : l.length < 2 * bs) : cs key bs l = stab key (l.take bs) ++ stab key (l.drop bs) ∧ cs key (2 * bs) l = mrg key (stab key (l.take bs)) (stab key (l.drop bs)) := by
  refine ⟨?_, ?_⟩
  · rw [cs_ge key h0 h, cs_small key (by simp; omega)]
  · rw [cs_small key (by omega), mrg_stab, List.take_append_drop]

end St
end Go.Proofs.Ytaockieikcibdaa
namespace Go.Proofs.Ytaockieikcibdaa
open Go.Shelf Go.RowKit Go.Lib Go.Sort St

/-- A list behind its first elements. -/
theorem drop_at {α : Type} (l : List α) (k : Nat) (x : α) (h : l[k]? = some x) : l.drop k = x :: l.drop (k + 1) := by
  have hk : k < l.length := (List.getElem?_eq_some_iff.1 h).1
  rw [List.drop_eq_getElem_cons hk]
  rw [List.getElem?_eq_getElem hk] at h
  congr 1
  exact Option.some.inj h
/-- What the walks lean on: the bodies and types of the stable sort at one element type; how many cells an element has is left open. -/
structure SwLays (P : Program) (k : Nat) : Prop where
  mixed : P.follows .mixedOrders = true
  swap : P.funcs[51]? = some Try.f51
  rot : P.funcs[47]? = some Try.f47
  sym : P.funcs[43]? = some Try.f43
  stb : P.funcs[38]? = some Try.f38
  tu : P.underlying 0 = some (TypeDesc.tuple #[])
  au : ∀ w, (isAgg 0).run P w = .ok false w
  zu : ∀ w, (Go.sizeOf 0).run P w = .ok 1 w
  vu : ∀ w, (zeroValue 0).run P w = .ok (Value.tuple #[]) w
  ti : P.underlying 3 = some (TypeDesc.int IntKind.i64)
  ai : ∀ w, (isAgg 3).run P w = .ok false w
  zi : ∀ w, (Go.sizeOf 3).run P w = .ok 1 w
  vi : ∀ w, (zeroValue 3).run P w = .ok (Value.int IntKind.i64 0) w
  tb : P.underlying 4 = some (TypeDesc.bool)
  ab : ∀ w, (isAgg 4).run P w = .ok false w
  zb : ∀ w, (Go.sizeOf 4).run P w = .ok 1 w
  vb : ∀ w, (zeroValue 4).run P w = .ok (Value.bool false) w
  tn : P.underlying 83 = some (TypeDesc.int IntKind.u64)
  an : ∀ w, (isAgg 83).run P w = .ok false w
  zn : ∀ w, (Go.sizeOf 83).run P w = .ok 1 w
  vn : ∀ w, (zeroValue 83).run P w = .ok (Value.int IntKind.u64 0) w
  ts : P.underlying 28 = some (TypeDesc.slice 40)
  aS : ∀ w, (isAgg 28).run P w = .ok false w
  zs : ∀ w, (Go.sizeOf 28).run P w = .ok 1 w
  vs : ∀ w, (zeroValue 28).run P w = .ok (Value.slice none 0 0) w
  tf : P.underlying 71 = some (TypeDesc.func #[40, 40] #[3] false)
  af : ∀ w, (isAgg 71).run P w = .ok false w
  zf : ∀ w, (Go.sizeOf 71).run P w = .ok 1 w
  vf : ∀ w, (zeroValue 71).run P w = .ok (Value.nilFunc) w
  aE : ∀ w, (isAgg 40).run P w = .ok true w
  zE : ∀ w, (Go.sizeOf 40).run P w = .ok k w
theorem swLays : SwLays Try.prog 3 where
  mixed := by kernel_rfl
  swap := Try.func51
  rot := Try.func47
  sym := Try.func43
  stb := Try.func38
  tu := Try.underlying0
  au := Try.isAgg0
  zu := Try.sizeOf0
  vu := Try.zeroValue0
  ti := Try.underlying3
  ai := Try.isAgg3
  zi := Try.sizeOf3
  vi := Try.zeroValue3
  tb := Try.underlying4
  ab := Try.isAgg4
  zb := Try.sizeOf4
  vb := Try.zeroValue4
  tn := Try.underlying83
  an := Try.isAgg83
  zn := Try.sizeOf83
  vn := Try.zeroValue83
  ts := Try.underlying28
  aS := Try.isAgg28
  zs := Try.sizeOf28
  vs := Try.zeroValue28
  tf := Try.underlying71
  af := Try.isAgg71
  zf := Try.sizeOf71
  vf := Try.zeroValue71
  aE := Try.isAgg40
  zE := Try.sizeOf40


section
variable {P : Program} {k : Nat} {α : Type} [Inhabited α] {enc : α → List Value} {blk off : Nat} {w0 : World} {d0 : Array α}

set_option maxHeartbeats 4000000 in
set_option maxRecDepth 1000000 in
/-- Two ranges that do not overlap are exchanged. -/
theorem swapRange_is (L : SwLays P k) (fv : Value) (cap : Nat) (d : Array α) (w : World) (R : RowK enc k w0 blk off d0) (hs : d0.size = d.size) (S : SWK enc k w0 blk off d w) (hsz : d.size < 4611686018427387904)
    (A X M Y Z : List α) (hd : d.toList = A ++ (X ++ (M ++ (Y ++ Z)))) (hXY : X.length = Y.length) (a b n : Nat) (ha : a = A.length) (hb : b = A.length + X.length + M.length) (hn : n = X.length) :
    Calls P 51 #[.slice (some ⟨blk, off, none⟩) d.size cap, .int .i64 (a : Int), .int .i64 (b : Int), .int .i64 (n : Int), fv] w fun e w' =>
      e = .returned (.tuple #[]) ∧ ∃ d', SWK enc k w0 blk off d' w' ∧ d'.toList = A ++ (Y ++ (M ++ (X ++ Z))) := by
  have mixed := L.mixed
  have tu := L.tu
  have au := L.au
  have zu := L.zu
  have vu := L.vu
  have ti := L.ti
  have ai := L.ai
  have zi := L.zi
  have vi := L.vi
  have tb := L.tb
  have ab := L.ab
  have zb := L.zb
  have vb := L.vb
  have tn := L.tn
  have an := L.an
  have zn := L.zn
  have vn := L.vn
  have ts := L.ts
  have aS := L.aS
  have zs := L.zs
  have vs := L.vs
  have tf := L.tf
  have af := L.af
  have zf := L.zf
  have vf := L.vf
  have aE := L.aE
  have zE := L.zE
  have us := run_underlying L.ts
  have S0 : Aside (SWK enc k w0 blk off d w) := S
  clear S
  have hdl : d.size = A.length + X.length + M.length + Y.length + Z.length := by rw [← Array.length_toList, hd]; simp; omega
  have HD := Lib.hid hd
  have bY : b + n ≤ d.size := by omega
  have aY : a + n ≤ d.size := by omega
  have HA : Aside (a = A.length ∧ b = A.length + X.length + M.length ∧ n = X.length ∧ n = Y.length) := ⟨ha, hb, hn, by omega⟩
  clear hd ha hb hn hdl hXY
  go_enter L.swap, Try.ntmps51
  go_wp2
  go_loopg [10] n (fun kx s10 wr => ∃ (i : Nat) (dk : Array α), s10 = .int .i64 (i : Int) ∧ i ≤ n ∧ n - i ≤ kx ∧ dk.size = d.size ∧ Aside (SWK enc k w0 blk off dk wr) ∧ Hid (dk.toList = A ++ ((Y.take i ++ X.drop i) ++ (M ++ ((X.take i ++ Y.drop i) ++ Z)))))
  case atStart => exact ⟨0, d, rfl, by omega, by omega, rfl, S0, (by show _ = _; rw [HD.out]; simp)⟩
  case round =>
    clear S0
    obtain ⟨i, dk, rfl, hin, hkx, hds, S1, heq⟩ := hrel
    by_cases hlt : (i : Int) < (n : Int)
    · go_wp2_with fail
      obtain ⟨x, hx⟩ : ∃ x, X[i]? = some x := ⟨X[i]'(by have := HA.out; omega), List.getElem?_eq_getElem _⟩
      obtain ⟨y, hy⟩ : ∃ y, Y[i]? = some y := ⟨Y[i]'(by have := HA.out; omega), List.getElem?_eq_getElem _⟩
      have HX := Lib.hid hx
      have HY := Lib.hid hy
      clear hx hy
      obtain ⟨ia, hia⟩ : ∃ ia, ia = a + i := ⟨_, rfl⟩
      obtain ⟨ib, hib⟩ : ∃ ib, ib = b + i := ⟨_, rfl⟩
      have wa : IntKind.i64.wrap ((a : Int) + (i : Int)) = (ia : Int) := by rw [IntKind.wrap_i64]; omega
      have wb : IntKind.i64.wrap ((b : Int) + (i : Int)) = (ib : Int) := by rw [IntKind.wrap_i64]; omega
      have pa : (0 : Int) ≤ (ia : Int) := by omega
      have pb : (0 : Int) ≤ (ib : Int) := by omega
      have ba : (ia : Int) < (d.size : Int) := by omega
      have bb : (ib : Int) < (d.size : Int) := by omega
      have ta : (ia : Int).toNat = ia := by omega
      have tb : (ib : Int).toNat = ib := by omega
      have S2 : Aside (SWK enc k w0 blk off (swp dk ia ib) _) := S1.out.swapped R ia ib (by omega) (by omega)
      have la := S1.out.ld1 R (by omega) P ia (by omega)
      have lb := S1.out.ld1 R (by omega) P ib (by omega)
      have sa := S1.out.st1 R (by omega) P ia (by omega) dk[ib]!
      have sb := S1.out.st2 R (by omega) P ia ib (by omega) (by omega) dk[ib]! dk[ia]!
      have na : (enc dk[ia]!).length = k := R.hk _
      have nb : (enc dk[ib]!).length = k := R.hk _
      generalize enc dk[ia]! = cA at S2 la sb na
      generalize enc dk[ib]! = cB at S2 lb sa sb nb
      have HI : Aside (ia = a + i ∧ ib = b + i) := ⟨hia, hib⟩
      clear S1 hia hib
      go_wp2_with fail
      go_big_region_o
      clear la lb sa sb
      go_wp2
      go_roundg (n - (i + 1))
      case measure => omega
      case rel =>
        refine ⟨i + 1, _, by go_num, by omega, by omega, by rw [size_swp]; exact hds, S2, ?_⟩
        obtain ⟨rfl, rfl⟩ := HI.out
        obtain ⟨ea, eb, enX, enY⟩ := HA.out
        have h1 := drop_at X i x HX.out
        have h2 := drop_at Y i y HY.out
        have h3 : X.take (i + 1) = X.take i ++ [x] := by rw [List.take_add_one, HX.out]; rfl
        have h4 : Y.take (i + 1) = Y.take i ++ [y] := by rw [List.take_add_one, HY.out]; rfl
        show _ = _
        have := swp_list (d := dk) (A := A ++ Y.take i) (B := X.drop (i + 1) ++ (M ++ X.take i)) (C := Y.drop (i + 1) ++ Z) (x := x) (y := y) (i := a + i) (j := b + i) (by rw [heq.out, h1, h2]; simp) (by simp; omega) (by simp; omega)
        rw [this, h3, h4]
        simp
    · go_wp2
      go_end0
      have hi : i = n := by omega
      obtain ⟨_, _, hnX, hnY⟩ := HA.out
      refine ⟨rfl, dk, S1.out, ?_⟩
      rw [heq.out, hi, List.take_of_length_le (by omega), List.take_of_length_le (by omega), List.drop_of_length_le (by omega), List.drop_of_length_le (by omega)]
      simp
end
end Go.Proofs.Ytaockieikcibdaa
