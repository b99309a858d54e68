/- frame.frames$1: it gives the frames that stand one behind the other. frame: frames, Scan. strings.Builder: Len, String: the shelf's contracts at this dump (written by the kit's lay-shelf.mjs and lay-plain.mjs; cut to two). Slices of numbers of the call's own, read and written by their places. -/
import Derived.Test.YtpbphhpldlckbaaGreatSc06
import Derived.Sort.LoopGhostIn
import Derived.Shelf.Strings.Builder1
import Derived.Test.YtpbphhpldlckbaaGreatRows
import Derived.Test.YtpbphhpldlckbaaGreatSc03
import Derived.Laws.OwnMore
namespace Go.Proofs.YtpbphhpldlckbaaGreat
namespace Fm
open Go.RowKit Go.Shelf Cr Rg

section
variable {F : Fence} {n : Nat} {P : Program} {ops : Array Oper} {rest : List Oper} {op : Oper} {a : Act} {w : World} {Q : Exit → Act → World → Prop}
theorem wpListIn_alloc_zero (hgd : op.guard = none) (t : TypeId) (ho : op.op = .alloc t) (z : Value) (k : Nat) (hz : (P.info? t).map (fun i => (i.zero, i.size)) = some (some z, k))
    (h : wpListIn F n P ops Q rest (a.put op.dst (.pointer (some ⟨w.heap.size, 0, none⟩))) (w.alloc (.cells z.cells t))) : wpListIn F n P ops Q (op :: rest) a w := by
  refine wpListIn_plain hgd fun K hK => ?_
  have hz1 := (zero_of_info hz).1 w
  unfold Oper.wpIn
  refine ⟨?_, ?_⟩
  · simp [Oper.about, ho]
  · rw [Oper.semAt_plain F _ _ (by rw [ho]; intro c hc'; cases hc')]
    simp only [execOp, ho, Instr.alloc, Sem.run_bind, hz1, Result.andThen_ok]
    exact hK _ _ h
theorem wpListIn_store_new (w0 : World) (c : Array Value) (hgd : op.guard = none) (t : TypeId) (x y : Operand) (ho : op.op = .store t x y) (z : Array Value) (hx : a.eval x = .pointer (some ⟨w0.heap.size, 0, none⟩)) (hy : a.eval y = .agg z)
    (hi : (P.info? t).map (·.size) = some z.size) (hc : c.size = z.size) (h1 : z.all (·.oneCell') = true)
    (h : wpListIn F n P ops Q rest (a.put op.dst undef) (w0.alloc (.cells z t))) : wpListIn F n P ops Q (op :: rest) a (w0.alloc (.cells c t)) := by
  refine wpListIn_plain hgd fun K hK => ?_
  unfold Oper.wpIn
  refine ⟨?_, ?_⟩
  · simp [Oper.about, ho]
  · rw [Oper.semAt_plain F _ _ (by rw [ho]; intro c hc'; cases hc')]
    simp only [execOp, ho, hx, hy, Instr.storeAt, Instr.sureAddr, Sem.run_bind, Sem.run_pure, Result.andThen_ok, run_storeVar_new w0 t c z hi hc h1]
    exact hK _ _ h
end
/-- The frames from a place on. -/
abbrev Fr := Nat × ByteArray × Nat × Nat
def fr (s : ByteArray) (p : Nat) : Fr := (by4 s.data.toList p, fbody s p, p, fto s p)
def fv (x : Fr) : Value := fagg x.1 x.2.1 x.2.2.1 x.2.2.2
theorem GF_to {s : ByteArray} {p : Nat} (h : GF s p) : p + 9 ≤ fto s p ∧ fto s p ≤ s.size := by
  have := h.2.2.2.1
  unfold fto fn
  omega
def frs (s : ByteArray) (p : Nat) : List Fr := if _h : GF s p then fr s p :: frs s (fto s p) else []
termination_by s.size - p
decreasing_by have := GF_to _h; omega
theorem frs_yes {s : ByteArray} {p : Nat} (h : GF s p) : frs s p = fr s p :: frs s (fto s p) := by rw [frs, dif_pos h]
theorem frs_no {s : ByteArray} {p : Nat} (h : ¬ GF s p) : frs s p = [] := by rw [frs, dif_neg h]
def One (w : World) (b : Nat) (v : Value) (t : TypeId) : Prop := w.heap[b]? = some (.cells #[v] t (0, 0))
theorem One.cell {w : World} {b : Nat} {v : Value} {t : TypeId} (h : One w b v t) : w.cell? ⟨b, 0, none⟩ = some v := by rw [cell_of_row w b 0 _ _ (0, 0) h]; rfl
theorem One.fz {w : World} {b : Nat} {v : Value} {t : TypeId} (h : One w b v t) : w.frozen? ⟨b, 0, none⟩ = false := frozen_of_row w b 0 _ _ h
theorem One.lt {w : World} {b : Nat} {v : Value} {t : TypeId} (h : One w b v t) : b < w.heap.size := (Array.getElem?_eq_some_iff.1 h).1
theorem One.below {w w' : World} {b B : Nat} {v : Value} {t : TypeId} (h : One w b v t) (hb : Below B w w') (hB : b < B) : One w' b v t := (hb.block b hB).trans h
theorem One.set {w : World} {b : Nat} {v : Value} {t : TypeId} (h : One w b v t) (u : Value) : One (w.setCell ⟨b, 0, none⟩ u) b u t := by
  unfold One at *; simp [World.setCell, Array.getElem?_modify, h]
theorem One.far {w : World} {b g j : Nat} {v : Value} {t : TypeId} (h : One w b v t) (hn : b ≠ g) (u : Value) : One (w.setCell ⟨g, j, none⟩ u) b v t := (Below.heap_setCell w ⟨g, j, none⟩ u b hn).trans h
theorem One.ks {w w' : World} {b : Nat} {v : Value} {t : TypeId} {S : Nat → Prop} (h : One w b v t) (hk : Ks S w w') (hS : S b) : One w' b v t := hk.same _ _ h rfl hS
theorem grown_one (W : World) (b : Nat) (v : Value) : W.grownBy (W.setCell ⟨b, 0, none⟩ v) (some b) := by
  refine ⟨rfl, rfl, rfl, by simp, fun k _ hk => ?_⟩
  exact Below.heap_setCell W ⟨b, 0, none⟩ v k (by rintro rfl; exact hk rfl)
theorem grown_below {W W' : World} {r : Option Nat} (h : Below W.heap.size W W') : W.grownBy W' r := ⟨h.os, h.tape, h.output, h.size, fun k hk _ => h.block k hk⟩

set_option maxHeartbeats 6400000 in
set_option maxRecDepth 100000 in
theorem frames1_gives (n bs ba : Nat) (s : ByteArray) (p : Nat) (w : World) (hs : s.size ≤ 1000000) (hp : p ≤ 1000000)
    (cs : One w bs (.string s) 9) (ca : One w ba (.int .i64 (p : Int)) 3) (hne : bs ≠ ba) :
    Gives Fence.wide n Tryz.prog 56 #[.pointer (some ⟨bs, 0, none⟩), .pointer (some ⟨ba, 0, none⟩)] fv (fun k => k = bs ∨ k = ba) ba (frs s p) w := by
  intro l J W hW hJ hY h0
  have hz : (Tryz.prog.info? 73).map (fun i => (i.zero, i.size)) = some (some (.agg (Array.replicate 256 (.int .u32 0))), 256) := by kernel_rfl
  have hsz : (Tryz.prog.info? 73).map (·.size) = some 256 := by kernel_rfl
  have HZ := Lib.hid hz
  have HSI := Lib.hid hsz
  have HTL := Lib.hid (show TB.size = 256 by unfold TB; rw [List.size_toArray, length_vu, length_n256])
  have HT1 := Lib.hid (show TB.all (·.oneCell') = true from all_oneCell_toArray (vu_one _))
  have HT := Lib.hid (table_any W)
  have HJb := Lib.hid (fun (pre : List Fr) (S : Nat → Prop) (W1 W2 : World) (h : J pre S W1) (hb : Below W1.heap.size W1 W2) => hJ pre S S W1 W2 h (grown_below hb) (fun _ h => .inl h))
  have HJ := Lib.hid hJ
  have HY := Lib.hid hY
  have H0 := Lib.hid (And.intro h0 (And.intro (cs.below hW cs.lt) (ca.below hW ca.lt)))
  clear hz hsz hJ hY h0 cs ca hW
  refine callsIn_of_wp Tryz.func56 rfl trivial ?_ rfl
  simp only [Tryz.ntmps56, List.size_toArray, List.length_cons, List.length_nil, Nat.reduceAdd, Nat.reduceSub, Array.replicate_succ, Array.replicate_zero, List.push_toArray, List.append_toArray, List.nil_append, List.cons_append]
  gi_wp2_with fail
  refine ⟨trivial, (fun h => by cases h), (callsIn_wide.2 HT.out).mono ?_⟩
  rintro e1 w1 ⟨rfl, hb1⟩
  have H1 := Lib.hid (And.intro (HJb.out _ _ _ _ H0.out.1 hb1) (And.intro (H0.out.2.1.below hb1 H0.out.2.1.lt) (H0.out.2.2.below hb1 H0.out.2.2.lt)))
  have HB2 := Lib.hid (ext_alloc w1 (.cells TB 73))
  have H2 := Lib.hid (And.intro (HJ.out _ _ (fun k => k = bs ∨ k = ba ∨ k = w1.heap.size) _ _ H1.out.1 (grown_below HB2.out) (by rintro k (h | h | h); exact .inl (.inl h); exact .inl (.inr h); exact .inr (by subst h; simp))) (And.intro (H1.out.2.1.below HB2.out H1.out.2.1.lt) (And.intro (H1.out.2.2.below HB2.out H1.out.2.2.lt) (tb_row w1))))
  clear hb1 HT H0 H1 HB2
  generalize TB = Z at *
  gi_wp2_with (first | (refine wpListIn_alloc_zero rfl 73 rfl _ _ HZ.out ?_) | (refine wpListIn_store_new w1 (Array.replicate 256 (.int .u32 0)) rfl 73 (.tmp 4) (.tmp 7) rfl Z (by simp [go_sem, Act.eval]) (by simp [go_sem, Act.eval]) (by rw [HTL.out]; exact HSI.out) (by rw [HTL.out]; simp) HT1.out ?_))
  obtain ⟨T, hT⟩ : ∃ T, T = w1.heap.size := ⟨_, rfl⟩
  rw [← hT] at H2 ⊢
  generalize w1.alloc (.cells Z 73) = w2 at *
  clear hT
  simp only [Act.put, List.setIfInBounds_toArray, List.set_cons_zero, List.set_cons_succ]
  gi_loopg [] (s.size + 2) (fun kx wr => ∃ (q : Nat) (pre : List Fr), q ≤ 1000000 ∧ s.size + 1 - q < kx ∧ Hid (frs s p = pre ++ frs s q ∧ J pre (fun k => k = bs ∨ k = ba ∨ k = T) wr ∧ One wr bs (.string s) 9 ∧ One wr ba (.int .i64 (q : Int)) 3 ∧ Au wr T (n256 tb)))
  case atStart => exact ⟨p, [], by omega, by omega, Lib.hid ⟨rfl, H2.out.1, H2.out.2.1, H2.out.2.2.1, H2.out.2.2.2⟩⟩
  case round =>
    clear H2
    obtain ⟨q, pre, hq, hkx, H⟩ := hrel
    have hc1 := H.out.2.2.1.cell
    have hc2 := H.out.2.2.2.1.cell
    have HG := Lib.hid (get_any T s q wr H.out.2.2.2.2 hs (by omega))
    gi_wp2_with fail
    refine ⟨trivial, (fun h => by cases h), (callsIn_wide.2 HG.out).mono ?_⟩
    rintro e3 w3 ⟨ha, hb3⟩
    have hT3 : T < w3.heap.size := Nat.lt_of_lt_of_le H.out.2.2.2.2.lt hb3.size
    have H3 := Lib.hid (And.intro (HJb.out _ _ _ _ H.out.2.1 hb3) (And.intro (H.out.2.2.1.below hb3 H.out.2.2.1.lt) (And.intro (H.out.2.2.2.1.below hb3 H.out.2.2.2.1.lt) (H.out.2.2.2.2.below hb3 H.out.2.2.2.2.lt))))
    have HE := Lib.hid H.out.1
    clear hb3 HG H hc1 hc2
    rcases ha with ⟨hgf, rfl⟩ | ⟨hgf, x, hx, rfl⟩
    · have hto := GF_to hgf
      have HX := Lib.hid (show frs s p = pre ++ fr s q :: frs s (fto s q) by rw [HE.out, frs_yes hgf])
      have hb4 := ext_alloc w3 (.cells #[.int .i64 ((by4 s.data.toList q : Nat) : Int), .string (fbody s q), .int .i64 (q : Int), .int .i64 ((fto s q : Nat) : Int)] 59)
      have H4 := Lib.hid (And.intro (HJ.out _ _ (fun k => k = bs ∨ k = ba ∨ k = T ∨ k = w3.heap.size) _ _ H3.out.1 (grown_below hb4) (by rintro k (h | h | h | h); exact .inl (.inl h); exact .inl (.inr (.inl h)); exact .inl (.inr (.inr h)); exact .inr (by subst h; simp))) (And.intro (H3.out.2.1.below hb4 H3.out.2.1.lt) (And.intro (H3.out.2.2.1.below hb4 H3.out.2.2.1.lt) (And.intro (H3.out.2.2.2.below hb4 H3.out.2.2.2.lt) (show Fb _ w3.heap.size _ _ _ _ from heap_alloc_new w3 (.cells #[.int .i64 ((by4 s.data.toList q : Nat) : Int), .string (fbody s q), .int .i64 (q : Int), .int .i64 ((fto s q : Nat) : Int)] 59))))))
      obtain ⟨fnn, tmps, assign, body, hy, hR⟩ := HY.out pre (fr s q) (frs s (fto s q)) _ _ HX.out H4.out.1
      have HR := Lib.hid hR
      dsimp only [fv, fr, fagg] at hy
      unfold fagg
      clear hb4 hgf H3 hR
      gi_wp2_with fail
      refine ⟨(fun h => by cases h), HR.out.mono ?_⟩
      rintro e5 w5 ⟨rfl, hJ5, hk5⟩
      have hs5 := H4.out.2.1.ks hk5 (.inl rfl)
      have ha5 := H4.out.2.2.1.ks hk5 (.inr (.inl rfl))
      have ht5 : Au w5 T (n256 tb) := ⟨hk5.same _ _ H4.out.2.2.2.1.1 rfl (.inr (.inr (.inl rfl))), H4.out.2.2.2.1.2⟩
      have hf5 : Fb w5 w3.heap.size _ _ _ _ := hk5.same _ _ H4.out.2.2.2.2 rfl (.inr (.inr (.inr rfl)))
      have hc3 := hf5.c3
      have hcA := ha5.cell
      have hfA := ha5.fz
      have hTba : T ≠ ba := by
        rintro rfl
        have h1 := ha5
        have h2 := ht5.1
        unfold One at h1
        rw [h1] at h2
        simp at h2
      have H5 := Lib.hid (And.intro (HJ.out _ _ (fun k => k = bs ∨ k = ba ∨ k = T) _ _ hJ5 (grown_one w5 ba (.int .i64 ((fto s q : Nat) : Int))) (by rintro k (h | h | h); exact .inl (.inl h); exact .inl (.inr (.inl h)); exact .inl (.inr (.inr (.inl h))))) (And.intro (hs5.far (j := 0) hne (.int .i64 ((fto s q : Nat) : Int))) (And.intro (ha5.set (.int .i64 ((fto s q : Nat) : Int))) (show Au (w5.setCell ⟨ba, 0, none⟩ (.int .i64 ((fto s q : Nat) : Int))) T (n256 tb) from ⟨(Below.heap_setCell w5 ⟨ba, 0, none⟩ _ T hTba).trans ht5.1, ht5.2⟩))))
      have HX2 := Lib.hid (show frs s p = (pre ++ [fr s q]) ++ frs s (fto s q) by rw [HX.out]; simp)
      clear hJ5 hk5 hs5 ha5 ht5 hf5 hTba H4 HR HX HE hy
      gi_wp2_with fail
      gi_roundg (s.size + 1 - fto s q + 1)
      case measure => omega
      case rel => exact ⟨fto s q, pre ++ [fr s q], by omega, by omega, Lib.hid ⟨HX2.out, H5.out⟩⟩
    · have HX := Lib.hid (show frs s p = pre by rw [HE.out, frs_no hgf, List.append_nil])
      have hb4 := ext_alloc w3 (.cells #[.int .i64 0, .string ⟨#[]⟩, .int .i64 0, .int .i64 0] 59)
      have H4 := Lib.hid (HJb.out _ _ _ _ H3.out.1 hb4)
      have hxb : (x != 0) = true := by simp [hx]
      unfold fagg
      clear hb4 hgf H3
      gi_wp2_with fail
      refine ⟨(fun _ h => by cases h), ?_⟩
      gi_wp2_with fail
      refine bodyPost_ret (results_none rfl _ _ _) rfl ?_
      exact ⟨⟨_, rfl⟩, _, by rw [HX.out]; exact H4.out⟩
end Fm
end Go.Proofs.YtpbphhpldlckbaaGreat
namespace Go.Proofs.YtpbphhpldlckbaaGreat
namespace Fm
open Go.RowKit Go.Shelf Cr Rg

theorem frames_any (s : ByteArray) (p : Nat) (w : World) :
    Calls Tryz.prog 36 #[.string s, .int .i64 (p : Int)] w fun e w' => e = .returned (.func (.func 56) #[] #[.pointer (some ⟨w.heap.size, 0, none⟩), .pointer (some ⟨w.heap.size + 1, 0, none⟩)]) ∧
      w' = (w.alloc (.cells #[.string s] 9)).alloc (.cells #[.int .i64 (p : Int)] 3) := by
  go_enter Tryz.func36, Tryz.ntmps36
  go_wp2_with fail
  go_ret
  exact ⟨rfl, rfl⟩
/-- Frames as cells. -/
def clF (x : Fr) : List Value := [.int .i64 (x.1 : Int), .string x.2.1, .int .i64 (x.2.2.1 : Int), .int .i64 (x.2.2.2 : Int)]
def flF (l : List Fr) : List Value := l.flatMap clF
def OwnFr (w : World) (B : Nat) (v : Value) (l : List Fr) : Prop := w.ownsRow B 59 4 v l.length (flF l)
def lastTo (p : Nat) (l : List Fr) : Nat := match l.getLast? with | none => p | some x => x.2.2.2

theorem One.new {w : World} {g : Nat} (v : Value) (t : TypeId) (hg : w.heap.size = g) : One (w.alloc (.cells #[v] t)) g v t := hg ▸ heap_alloc_new w _
theorem One.alloc {w : World} {g : Nat} {v : Value} {t : TypeId} (h : One w g v t) (o : Obj) : One (w.alloc o) g v t := (Below.heap_alloc w o g h.lt).trans h
theorem One.grown {w w' : World} {g : Nat} {v : Value} {t : TypeId} {row : Option Nat} (h : One w g v t) (hg : w.grownBy w' row) (hr : row ≠ some g) : One w' g v t := (hg.block g h.lt (fun e => hr e.symm)).trans h
theorem Fb.grown {w w' : World} {g : Nat} {k p t : Int} {b : ByteArray} {row : Option Nat} (h : Fb w g k b p t) (hg : w.grownBy w' row) (hr : row ≠ some g) : Fb w' g k b p t := (hg.block g h.lt (fun e => hr e.symm)).trans h
theorem own_grown {w w' : World} {base : Nat} {e : TypeId} {size n : Nat} {v : Value} {xs : List Value} {row : Option Nat} (h : w.ownsRow base e size v n xs) (hg : w.grownBy w' row)
    (hr : ∀ r, row = some r → r < base ∨ ∃ o : Obj, w.heap[r]? = some o ∧ o.isCells = false) : w'.ownsRow base e size v n xs := by
  refine ⟨h.1, ?_⟩
  rcases h.2 with h2 | ⟨g, cap, cur, hv, hb, hh, r⟩
  · exact Or.inl h2
  · refine Or.inr ⟨g, cap, cur, hv, hb, ?_, r⟩
    rw [hg.block g (Array.getElem?_eq_some_iff.1 hh).1 ?_]
    · exact hh
    · intro he
      rcases hr g he.symm with h1 | ⟨o, ho, hc⟩
      · omega
      · rw [hh] at ho; cases ho; cases hc
theorem row_one {w : World} {g r : Nat} {v : Value} {t : TypeId} {B b : Nat} (h : One w g v t) (hgb : g ≠ b) (hr : r = b ∨ B ≤ r ∧ ∃ o : Obj, w.heap[r]? = some o ∧ o.isCells = false) : some r ≠ some g := by
  rintro e
  cases e
  rcases hr with rfl | ⟨_, o, ho, hc⟩
  · exact hgb rfl
  · rw [h] at ho; cases ho; cases hc
theorem row_fb {w : World} {g r : Nat} {k p t : Int} {by_ : ByteArray} {B b : Nat} (h : Fb w g k by_ p t) (hgb : g ≠ b) (hr : r = b ∨ B ≤ r ∧ ∃ o : Obj, w.heap[r]? = some o ∧ o.isCells = false) : some r ≠ some g := by
  rintro e
  cases e
  rcases hr with rfl | ⟨_, o, ho, hc⟩
  · exact hgb rfl
  · rw [h] at ho; cases ho; cases hc
theorem Ks.alloc (S : Nat → Prop) (W : World) (o : Obj) : Ks S W (W.alloc o) := ⟨by simp, fun k p hk _ _ => (Below.heap_alloc W o k (Array.getElem?_eq_some_iff.1 hk).1).trans hk⟩
theorem fr_info : (Tryz.prog.info? 59).map (fun i => (i.zero, i.size, i.bytes)) = some (some (.agg #[.int .i64 0, .string ⟨#[]⟩, .int .i64 0, .int .i64 0]), 4, 40) := by kernel_rfl
theorem frs_len (s : ByteArray) (p : Nat) (hs : s.size ≤ 1000000) : (frs s p).length ≤ 1000000 := by
  have h : ∀ (m p : Nat), s.size - p ≤ m → (frs s p).length ≤ m := by
    intro m
    induction m with
    | zero =>
      intro p hp
      rw [frs_no (fun h => by have := GF_to h; omega)]; simp
    | succ m ih =>
      intro p hp
      by_cases h : GF s p
      · have := GF_to h
        rw [frs_yes h, List.length_cons]
        have := ih (fto s p) (by omega)
        omega
      · rw [frs_no h]; simp
  have := h (s.size - p) p (Nat.le_refl _)
  omega
theorem frs_pre {l pre : List Fr} {x : Fr} {rest : List Fr} (h : l = pre ++ x :: rest) : pre.length ≤ l.length := by rw [h, List.length_append]; omega
/-- What Scan's own cells hold. -/
def IS (w : World) (b3 b6 B p : Nat) (pre : List Fr) (v : Value) (W : World) : Prop :=
  (One W b6 v 53 ∧ OwnFr W B v pre) ∧ One W b3 (.int .i64 ((lastTo p pre : Nat) : Int)) 3 ∧ Below w.heap.size w W ∧ B ≤ W.heap.size
theorem IS.grown {w : World} {b3 b6 B p b : Nat} {pre : List Fr} {v : Value} {W W' : World} {row : Option Nat} (h : IS w b3 b6 B p pre v W) (hb3 : b3 ≠ b) (hb6 : b6 ≠ b) (hbB : b < B) (hwb : w.heap.size ≤ b)
    (hg : W.grownBy W' row) (hr : ∀ r, row = some r → r = b ∨ B ≤ r ∧ ∃ o : Obj, W.heap[r]? = some o ∧ o.isCells = false) : IS w b3 b6 B p pre v W' := by
  obtain ⟨⟨h1, h2⟩, h3, h4, h5⟩ := h
  have q : ∀ {g : Nat} {v : Value} {t : TypeId}, One W g v t → g ≠ b → row ≠ some g := fun ho hn e => by
    subst e; exact row_one ho hn (hr _ rfl) rfl
  refine ⟨⟨h1.grown hg (q h1 hb6), own_grown h2 hg (fun r e => ?_)⟩, h3.grown hg (q h3 hb3), h4.trans ⟨hg.os, hg.tape, hg.output, hg.size, fun k hk => hg.block k (Nat.lt_of_lt_of_le hk h4.size) (fun e => ?_)⟩, Nat.le_trans h5 hg.size⟩
  · rcases hr r e with rfl | ⟨_, h⟩
    · exact .inl hbB
    · exact .inr h
  · have := h4.size
    have := hr k e.symm
    omega
/-- The blocks that the iterator wants kept are none of Scan's own. -/
def SS (b3 b6 : Nat) (v : Value) (S : Nat → Prop) (W : World) : Prop := ∀ k, S k → v.ownBlock ≠ some k ∧ k ≠ b3 ∧ k ≠ b6 ∧ k < W.heap.size
theorem SS.grown {w : World} {b3 b6 B p : Nat} {pre : List Fr} {v : Value} {S S' : Nat → Prop} {W W' : World} (hi : IS w b3 b6 B p pre v W) (h : SS b3 b6 v S W) (hs : W.heap.size ≤ W'.heap.size) (hS : ∀ k, S' k → S k ∨ W.heap.size ≤ k ∧ k < W'.heap.size) : SS b3 b6 v S' W' := by
  intro k hk
  rcases hS k hk with h1 | ⟨h1, h2⟩
  · obtain ⟨a, b, c, d⟩ := h k h1
    exact ⟨a, b, c, Nat.lt_of_lt_of_le d hs⟩
  · have l6 := hi.1.1.lt
    have l3 := hi.2.1.lt
    exact ⟨fun e => by have := World.ownsRow.lt hi.1.2 k e; omega, by omega, by omega, h2⟩
theorem own_cells {w : World} {base : Nat} {e : TypeId} {size n : Nat} {v : Value} {xs : List Value} {g : Nat} (h : w.ownsRow base e size v n xs) (hv : v.ownBlock = some g) : ∃ o : Obj, w.heap[g]? = some o ∧ o.isCells = true := by
  rcases h.2 with ⟨h2, _⟩ | ⟨g', cap, cur, h2, hb, hh, r⟩
  · rw [h2] at hv; cases hv
  · rw [h2] at hv; cases hv; exact ⟨_, hh, rfl⟩
theorem flF_snoc (l : List Fr) (x : Fr) : flF (l ++ [x]) = flF l ++ clF x := by unfold flF; rw [List.flatMap_append]; simp
theorem lastTo_snoc (p : Nat) (l : List Fr) (x : Fr) : lastTo p (l ++ [x]) = x.2.2.2 := by unfold lastTo; rw [List.getLast?_append]; rfl
attribute [local go_sem] Oper.semAt_some
attribute [-go_sem] Builtin.append_
set_option maxHeartbeats 6400000 in
set_option maxRecDepth 100000 in
theorem scan_any (s : ByteArray) (p : Nat) (w : World) (hs : s.size ≤ 1000000) (hp : p ≤ 1000000) :
    Calls Tryz.prog 18 #[.string s, .int .i64 (p : Int)] w fun e w' => (∃ v, e = .returned (.tuple #[v, .int .i64 ((lastTo p (frs s p) : Nat) : Int)]) ∧ OwnFr w' w.heap.size v (frs s p)) ∧ Below w.heap.size w w' := by
  have mixed : Tryz.prog.follows .mixedOrders = true := by kernel_rfl
  refine (callsIn_wide (n := 3)).1 ?_
  refine callsIn_of_wp_marks Tryz.func18 rfl trivial ?_ rfl
  simp only [Tryz.ntmps18, List.size_toArray, List.length_cons, List.length_nil, Nat.reduceAdd, Nat.reduceSub, Array.replicate_succ, Array.replicate_zero, List.push_toArray, List.append_toArray, List.nil_append, List.cons_append]
  gi_wp2_with fail
  refine ⟨trivial, (callsIn_wide.2 (frames_any s p _)).mono ?_⟩
  rintro e1 w1 ⟨rfl, rfl⟩
  gi_wp2_with fail
  have HW0 := Lib.hid (show ((((w.alloc (.cells #[.int .i64 (p : Int)] 3)).alloc (.cells #[.slice none 0 0] 53)).alloc (.cells #[.string s] 9)).alloc (.cells #[.int .i64 (p : Int)] 3)).heap.size = w.heap.size + 1 + 1 + 1 + 1 by simp)
  have C3 := Lib.hid ((((One.new (w := w) (.int .i64 (p : Int)) 3 rfl).alloc (.cells #[.slice none 0 0] 53)).alloc (.cells #[.string s] 9)).alloc (.cells #[.int .i64 (p : Int)] 3))
  have C6 := Lib.hid (((One.new (w := w.alloc (.cells #[.int .i64 (p : Int)] 3)) (g := w.heap.size + 1) (.slice none 0 0) 53 (by simp)).alloc (.cells #[.string s] 9)).alloc (.cells #[.int .i64 (p : Int)] 3))
  have CS := Lib.hid ((One.new (w := (w.alloc (.cells #[.int .i64 (p : Int)] 3)).alloc (.cells #[.slice none 0 0] 53)) (g := w.heap.size + 1 + 1) (.string s) 9 (by simp)).alloc (.cells #[.int .i64 (p : Int)] 3))
  have CA := Lib.hid (One.new (w := ((w.alloc (.cells #[.int .i64 (p : Int)] 3)).alloc (.cells #[.slice none 0 0] 53)).alloc (.cells #[.string s] 9)) (g := w.heap.size + 1 + 1 + 1) (.int .i64 (p : Int)) 3 (by simp))
  have HB := Lib.hid ((((ext_alloc w (.cells #[.int .i64 (p : Int)] 3)).trans ((ext_alloc _ (.cells #[.slice none 0 0] 53)).mono (by simp))).trans ((ext_alloc _ (.cells #[.string s] 9)).mono (by simp; omega))).trans ((ext_alloc _ (.cells #[.int .i64 (p : Int)] 3)).mono (by simp; omega)))
  generalize (((w.alloc (.cells #[.int .i64 (p : Int)] 3)).alloc (.cells #[.slice none 0 0] 53)).alloc (.cells #[.string s] 9)).alloc (.cells #[.int .i64 (p : Int)] 3) = W0 at *
  refine wpIn_range_own rfl (by omega) (gf := 56) (lb := #[.pointer (some ⟨w.heap.size + 1 + 1, 0, none⟩), .pointer (some ⟨w.heap.size + 1 + 1 + 1, 0, none⟩)]) rfl trivial (enters_of Tryz.func56 (by kernel_rfl) rfl)
    (enc := fv) (R := fun k => k = w.heap.size + 1 + 1 ∨ k = w.heap.size + 1 + 1 + 1) (b := w.heap.size + 1 + 1 + 1) (xs := frs s p) (by rw [HW0.out]; omega)
    (frames1_gives _ _ _ s p W0 hs hp CS.out CA.out (by omega))
    (fun pre S W => ∃ v, IS w w.heap.size (w.heap.size + 1) W0.heap.size p pre v W ∧ SS w.heap.size (w.heap.size + 1) v S W)
    (fun pre S S' W W' row ⟨v, h, h'⟩ hg hr hS => ⟨v, h.grown (by omega) (by omega) (by rw [HW0.out]; omega) (by omega) hg hr, h'.grown h hg.size hS⟩)
    ⟨_, ⟨⟨C6.out, World.ownsRow_nil _ _ _ _⟩, C3.out, HB.out, Nat.le_refl _⟩, fun k hk => ⟨by simp [Value.ownBlock], by omega, by omega, by rw [HW0.out]; omega⟩⟩
    (fun pre x S a' W => ∃ g v, W0.heap.size ≤ g ∧ v.ownBlock ≠ some g ∧ a' = { tmps := #[.string s, .int .i64 (p : Int), undef, .pointer (some ⟨w.heap.size, 0, none⟩), .slice none 0 0, .int .i64 0, .pointer (some ⟨w.heap.size + 1, 0, none⟩), .pointer (some ⟨g, 0, none⟩), .string s, .int .i64 (p : Int),
      .func (.func 56) #[] #[.pointer (some ⟨w.heap.size + 1 + 1, 0, none⟩), .pointer (some ⟨w.heap.size + 1 + 1 + 1, 0, none⟩)], fv x, undef, undef, undef, undef, undef, undef, undef, undef], defers := [] } ∧ Fb W g x.1 x.2.1 x.2.2.1 x.2.2.2 ∧ IS w w.heap.size (w.heap.size + 1) W0.heap.size p pre v W ∧ SS w.heap.size (w.heap.size + 1) v S W)
    ?hax ?assign ?body ?done
  case hax =>
    rintro pre x S a' W W' row ⟨g, v, hg, hv, rfl, hf, hi, hss⟩ hgr hr
    exact ⟨g, v, hg, hv, rfl, hf.grown hgr (by intro e; subst e; exact row_fb hf (by rw [HW0.out] at hg; omega) (hr _ rfl) rfl), hi.grown (by omega) (by omega) (by rw [HW0.out]; omega) (by omega) hgr hr, hss.grown hi hgr.size (fun _ h => .inl h)⟩
  case assign =>
    rintro l pre ⟨k, b, q, t⟩ rest S W hxs ⟨v, hi, hss⟩
    unfold fv fagg
    dsimp only
    gi_wp2_with fail
    exact ⟨KeepsOthers.alloc _ _, Ks.alloc _ _ _, W.heap.size, v, hi.2.2.2, (fun e => by have := World.ownsRow.lt hi.1.2 _ e; omega), rfl, heap_alloc_new W _, hi.grown (b := w.heap.size + 1 + 1 + 1) (by omega) (by omega) (by rw [HW0.out]; omega) (by omega) (World.grownBy_alloc W _ none) (by intro r e; cases e), hss.grown hi (by simp) (fun _ h => .inl h)⟩
  case body =>
    rintro l pre ⟨k, b, q, t⟩ rest S a' W hxs ⟨g, v, hg, hvg, rfl, hf, ⟨⟨h1, h2⟩, h3, h4, h5⟩, hss⟩
    have hc1 := h1.cell
    have hc3 := h3.cell
    have hf1 := h1.fz
    have hf3 := h3.fz
    have d0 := hf.c0
    have d1 := hf.c1
    have d2 := hf.c2
    have d3 := hf.c3
    have hpl : pre.length ≤ 1000000 := Nat.le_trans (frs_pre hxs) (frs_len s p hs)
    obtain ⟨i0, hi, hz0, hz1, hz2⟩ := info_parts fr_info
    have hX : (W.alloc (.cells #[.int .i64 (k : Int), .string b, .int .i64 (q : Int), .int .i64 (t : Int)] 59)).drew.heap.size = W.heap.size + 1 := by simp
    have hgw : W.grownBy (W.alloc (.cells #[.int .i64 (k : Int), .string b, .int .i64 (q : Int), .int .i64 (t : Int)] 59)).drew none := have h := World.grownBy_alloc W (.cells #[.int .i64 (k : Int), .string b, .int .i64 (q : Int), .int .i64 (t : Int)] 59) none; ⟨h.os, h.tape, h.output, h.size, h.block⟩
    obtain ⟨v', w', hr, o', hg', -, hob⟩ := run_append_own_at (P := Tryz.prog) (w := (W.alloc (.cells #[.int .i64 (k : Int), .string b, .int .i64 (q : Int), .int .i64 (t : Int)] 59)).drew) W0.heap.size 53 53 59 i0 (.agg #[.int .i64 0, .string ⟨#[]⟩, .int .i64 0, .int .i64 0]) 4 40 Tryz.underlying53 hi hz0 hz1 hz2 rfl (by omega) v pre.length (flF pre) (own_grown h2 hgw (by intro r e; cases e))
      ⟨W.heap.size, 0, none⟩ 1 1 (clF (k, b, q, t)) rfl (by
        intro j u hu
        have hnew : (W.alloc (.cells #[.int .i64 (k : Int), .string b, .int .i64 (q : Int), .int .i64 (t : Int)] 59)).drew.heap[W.heap.size]? = some _ := heap_alloc_new W (.cells #[.int .i64 (k : Int), .string b, .int .i64 (q : Int), .int .i64 (t : Int)] 59)
        have hj : j < 4 := (List.getElem?_eq_some_iff.1 hu).1
        rcases j with _ | _ | _ | _ | j
        · simp [clF] at hu; subst hu; exact Fb.c0 hnew
        · simp [clF] at hu; subst hu; exact Fb.c1 hnew
        · simp [clF] at hu; subst hu; exact Fb.c2 hnew
        · simp [clF] at hu; subst hu; exact Fb.c3 hnew
        · omega) (by intro u hu; simp [clF] at hu; rcases hu with rfl | rfl | rfl | rfl <;> rfl) (by simp only [maxLen]; omega) (by omega) (by rw [hX]; omega)
    obtain ⟨g', cap', rfl⟩ := ownsRow_succ o'
    have hlv := World.ownsRow.lt h2
    have nb : ∀ {x : Nat}, x < W0.heap.size → v.ownBlock ≠ some x := fun hx e => by have := hlv _ e; omega
    have n6 : v.ownBlock ≠ some (w.heap.size + 1) := nb (by rw [HW0.out]; omega)
    have n3 : v.ownBlock ≠ some w.heap.size := nb (by rw [HW0.out]; omega)
    have X1 := (h1.grown hgw (by simp)).grown hg' n6
    have X3 := (h3.grown hgw (by simp)).grown hg' n3
    have XF := (hf.grown hgw (by simp)).grown hg' hvg
    have x1 := X1.cell
    have x3 := X3.cell
    have y1 := X1.fz
    have y3 := X3.fz
    have z3 := XF.c3
    have hgl := hf.lt
    have h6l := h1.lt
    have h3l := h3.lt
    have bX : Below W.heap.size W (W.alloc (.cells #[.int .i64 (k : Int), .string b, .int .i64 (q : Int), .int .i64 (t : Int)] 59)).drew := ⟨hgw.os, hgw.tape, hgw.output, hgw.size, fun k hk => hgw.block k hk (by simp)⟩
    have b2 : Below W0.heap.size (W.alloc (.cells #[.int .i64 (k : Int), .string b, .int .i64 (q : Int), .int .i64 (t : Int)] 59)).drew w' := (Below.refl _ _).grown hg' (by rw [hX]; omega) (fun k hk => (hlv k hk).1)
    have hw0 : w.heap.size ≤ W0.heap.size := by rw [HW0.out]; omega
    have b3 : Below w.heap.size w w' := (h4.trans (bX.mono h4.size)).trans (b2.mono hw0)
    have b4 : Below w.heap.size w ((w'.setCell ⟨w.heap.size + 1, 0, none⟩ (.slice (some ⟨g', 0, none⟩) (pre.length + 1) cap')).setCell ⟨w.heap.size, 0, none⟩ (.int .i64 (t : Int))) := (b3.setCell (p := ⟨w.heap.size + 1, 0, none⟩) (Nat.le_succ _) _).setCell (p := ⟨w.heap.size, 0, none⟩) (Nat.le_refl _) _
    have ho2 := World.ownsRow.lt o'
    have hsz : W.heap.size ≤ w'.heap.size := Nat.le_trans bX.size b2.size
    have kO : KeepsOthers W w' := ⟨hsz, fun i o hi ho => by
      have hl := (Array.getElem?_eq_some_iff.1 hi).1
      rw [hg'.block i (by rw [hX]; omega) (fun e => by obtain ⟨o2, h1, h2⟩ := own_cells h2 e.symm; rw [hi] at h1; cases h1; rw [ho] at h2; cases h2), hgw.block i hl (by simp)]
      exact hi⟩
    have kS : Ks S W ((w'.setCell ⟨w.heap.size + 1, 0, none⟩ (.slice (some ⟨g', 0, none⟩) (pre.length + 1) cap')).setCell ⟨w.heap.size, 0, none⟩ (.int .i64 (t : Int))) := ⟨by simp; exact hsz, fun i o hi ho hS => by
      have hl := (Array.getElem?_eq_some_iff.1 hi).1
      obtain ⟨s1, s2, s3, s4⟩ := hss i hS
      rw [Below.heap_setCell _ ⟨w.heap.size, 0, none⟩ _ i s2, Below.heap_setCell _ ⟨w.heap.size + 1, 0, none⟩ _ i s3, hg'.block i (by rw [hX]; omega) (fun e => s1 e.symm), hgw.block i hl (by simp)]
      exact hi⟩
    have HFIN := Lib.hid (show KeepsOthers W ((w'.setCell ⟨w.heap.size + 1, 0, none⟩ (.slice (some ⟨g', 0, none⟩) (pre.length + 1) cap')).setCell ⟨w.heap.size, 0, none⟩ (.int .i64 (t : Int))) ∧ Ks S W ((w'.setCell ⟨w.heap.size + 1, 0, none⟩ (.slice (some ⟨g', 0, none⟩) (pre.length + 1) cap')).setCell ⟨w.heap.size, 0, none⟩ (.int .i64 (t : Int))) ∧ ∃ v, IS w w.heap.size (w.heap.size + 1) W0.heap.size p (pre ++ [(k, b, q, t)]) v ((w'.setCell ⟨w.heap.size + 1, 0, none⟩ (.slice (some ⟨g', 0, none⟩) (pre.length + 1) cap')).setCell ⟨w.heap.size, 0, none⟩ (.int .i64 (t : Int))) ∧ SS w.heap.size (w.heap.size + 1) v S ((w'.setCell ⟨w.heap.size + 1, 0, none⟩ (.slice (some ⟨g', 0, none⟩) (pre.length + 1) cap')).setCell ⟨w.heap.size, 0, none⟩ (.int .i64 (t : Int))) from
      ⟨(kO.trans (KeepsOthers.setCell _ _ _)).trans (KeepsOthers.setCell _ _ _), kS, .slice (some ⟨g', 0, none⟩) (pre.length + 1) cap',
        ⟨⟨(X1.set _).far (j := 0) (by omega) _, by
          unfold OwnFr
          rw [flF_snoc, List.length_append]
          exact own_setCell_far (own_setCell_far o' (fun e => by have h8 := (ho2 _ e).1; have h9 := HW0.out; dsimp only at h8; omega) _) (fun e => by have h8 := (ho2 _ e).1; have h9 := HW0.out; dsimp only at h8; omega) _⟩,
         by rw [lastTo_snoc]; exact (X3.far (j := 0) (by omega) _).set _, b4, by simp; omega⟩,
        fun i hi => by
          obtain ⟨s1, s2, s3, s4⟩ := hss i hi
          refine ⟨fun e => ?_, s2, s3, by simp; omega⟩
          rcases hob with h | h
          · exact s1 (h ▸ e)
          · rw [h, hX] at e; cases e; omega⟩)
    clear o' hg' hob X1 X3 XF bX b2 b3 b4 kO kS
    dsimp only at d0 d1 d2 d3 z3
    gi_wp2_with fail
    gi_region_with_o (fail)
    all_goals exact And.intro rfl HFIN.out
  case done =>
    rintro D S W hD ⟨v, ⟨⟨h1, h2⟩, h3, h4, h5⟩, hss⟩ hK
    have hc1 := h1.cell
    have hc3 := h3.cell
    gi_wp2_with fail
    gi_region
    gi_wp2_with fail
    have hKd : W.drew.heap[D]? = some (.deferred (some [])) := hK
    have hgD := grownBy_putObj' W.drew D (.deferred none)
    have hw0 : w.heap.size ≤ W0.heap.size := by rw [HW0.out]; omega
    refine ⟨by simp, .inl ⟨_, _, rfl, run_takeDeferred hKd, ?_⟩⟩
    refine ⟨_, results_tmp2 rfl _ _ _, ⟨_, rfl, own_lower (own_grown (w := W.drew) h2 hgD (fun r e => by cases e; exact .inr ⟨_, hKd, rfl⟩)) hw0⟩, h4.trans ⟨hgD.os, hgD.tape, hgD.output, hgD.size, fun i hi => hgD.block i (Nat.lt_of_lt_of_le hi h4.size) (fun e => by cases e; omega)⟩⟩
end Fm
end Go.Proofs.YtpbphhpldlckbaaGreat
namespace Go.Proofs
open Go.Shelf
def Tryz.lays170_ren : Go.Shelf.Ren := ⟨fun | 170 => 44 | n => n, fun | 70 => 91 | 3 => 3 | 0 => 0 | 72 => 93 | 37 => 66 | 5 => 5 | n => n, fun | n => n⟩
theorem Tryz.lays170 : Go.Proofs.Lays.n170 Tryz.prog Tryz.lays170_ren := {
  mixed := by kernel_rfl
  f170 := Tryz.func44.trans (congrArg some (by kernel_rfl))
  t0 := Tryz.underlying0
  a0 := Tryz.isAgg0
  z0 := Tryz.sizeOf0
  v0 := Tryz.zeroValue0
  t3 := Tryz.underlying3
  a3 := Tryz.isAgg3
  z3 := Tryz.sizeOf3
  v3 := Tryz.zeroValue3
  t37 := Tryz.underlying66
  a37 := Tryz.isAgg66
  z37 := Tryz.sizeOf66
  v37 := Tryz.zeroValue66
  t70 := Tryz.underlying91
  a70 := Tryz.isAgg91
  z70 := Tryz.sizeOf91
  v70 := Tryz.zeroValue91
  t72 := Tryz.underlying93
  a72 := Tryz.isAgg93
  z72 := Tryz.sizeOf93
  v72 := Tryz.zeroValue93 }
open Go.RowKit in
theorem Tryz.Builder_Len (B b : Nat) (bs : List Value) (w : World) (h : Lib.IsBuilder 93 5 B b bs w) :
    Calls Tryz.prog 44 #[.pointer (some ⟨b, 0, none⟩)] w fun e w' => e = .returned (.int .i64 bs.length) ∧ w' = w := Any.Builder_Len Tryz.lays170 B b bs w h
def Tryz.lays169_ren : Go.Shelf.Ren := ⟨fun | 169 => 46 | n => n, fun | 70 => 91 | 9 => 9 | 0 => 0 | 72 => 93 | 37 => 66 | 127 => 124 | 3 => 3 | 5 => 5 | n => n, fun | n => n⟩
theorem Tryz.lays169 : Go.Proofs.Lays.n169 Tryz.prog Tryz.lays169_ren := {
  mixed := by kernel_rfl
  f169 := Tryz.func46.trans (congrArg some (by kernel_rfl))
  t0 := Tryz.underlying0
  a0 := Tryz.isAgg0
  z0 := Tryz.sizeOf0
  v0 := Tryz.zeroValue0
  t3 := Tryz.underlying3
  a3 := Tryz.isAgg3
  z3 := Tryz.sizeOf3
  v3 := Tryz.zeroValue3
  t9 := Tryz.underlying9
  a9 := Tryz.isAgg9
  z9 := Tryz.sizeOf9
  v9 := Tryz.zeroValue9
  t37 := Tryz.underlying66
  a37 := Tryz.isAgg66
  z37 := Tryz.sizeOf66
  v37 := Tryz.zeroValue66
  t70 := Tryz.underlying91
  a70 := Tryz.isAgg91
  z70 := Tryz.sizeOf91
  v70 := Tryz.zeroValue91
  t72 := Tryz.underlying93
  a72 := Tryz.isAgg93
  z72 := Tryz.sizeOf93
  v72 := Tryz.zeroValue93
  t127 := Tryz.underlying124
  a127 := Tryz.isAgg124
  z127 := Tryz.sizeOf124
  v127 := Tryz.zeroValue124 }
theorem Tryz.Builder_Extra_169 : Builder.Extra Tryz.prog Tryz.lays169_ren := {
  sizeBuilder := by kernel_rfl
  liesBuilder := by kernel_rfl
  t5 := Tryz.underlying5
  a5 := Tryz.isAgg5
  z5 := Tryz.sizeOf5
  v5 := Tryz.zeroValue5
  infoByte := by kernel_rfl
  cellsByte := by kernel_rfl
  sizeByte := by kernel_rfl
  neB5 := by decide }
open Go.RowKit in
theorem Tryz.Builder_String_any (B b : Nat) (l : List UInt8) (w : World) (h : Lib.IsBuilder 93 5 B b (Lib.byteCells l) w) (hBw : B ≤ w.heap.size) :
    Calls Tryz.prog 46 #[.pointer (some ⟨b, 0, none⟩)] w fun e w' => e = .returned (.string ⟨l.toArray⟩) ∧ Below B w w' := Any.Builder_String_any Tryz.lays169 Tryz.Builder_Extra_169 B b l w h hBw
end Go.Proofs
namespace Go.Proofs.YtpbphhpldlckbaaGreat
open Go.RowKit

section
variable {w w' : World} {B n c : Nat} {A : Option Addr} {l : List Int}

theorem Own.form0 (h : Own w B (.slice A n c) l) (hn : 0 < n) : ∃ g, A = some ⟨g, 0, none⟩ ∧ B ≤ g ∧ g < w.heap.size := by
  obtain ⟨_, rfl⟩ := h.rd0
  obtain ⟨_, h2⟩ := h
  rcases h2 with ⟨hv, h0⟩ | ⟨g, cap, cur, hv, hg, hh, _⟩
  · omega
  · cases hv
    exact ⟨g, rfl, hg, (Array.getElem?_eq_some_iff.1 hh).1⟩
theorem Own.cell {g k : Nat} {x : Int} (h : Own w B (.slice (some ⟨g, 0, none⟩) n c) l) (hk : l[k]? = some x) : w.cell? ⟨g, k, none⟩ = some (.int .i64 x) := by
  obtain ⟨r, rfl⟩ := h.rd0
  have hlt := (List.getElem?_eq_some_iff.1 hk).1
  obtain ⟨ad, e, _, hc⟩ := r.cells (by omega)
  cases e
  have := hc k (.int .i64 x) (by rw [List.getElem?_map, hk]; rfl)
  rwa [Addr.add_lit, Nat.zero_add] at this
theorem Own.frozen {g k : Nat} (h : Own w B (.slice (some ⟨g, 0, none⟩) n c) l) : w.frozen? ⟨g, k, none⟩ = false := by
  obtain ⟨_, h2⟩ := h
  rcases h2 with ⟨hv, h0⟩ | ⟨g', cap, cur, hv, hg, hh, _⟩
  · cases hv
  · cases hv
    simp [World.frozen?, hh]
theorem Own.put {g k : Nat} (h : Own w B (.slice (some ⟨g, 0, none⟩) n c) l) (x : Int) : Own (w.setCell ⟨g, k, none⟩ (.int .i64 x)) B (.slice (some ⟨g, 0, none⟩) n c) (l.set k x) := by
  obtain ⟨_, rfl⟩ := h.rd0
  have := (World.ownsRow.stored h k (.int .i64 x)).1
  unfold Own
  rw [List.length_set, List.map_set]
  exact this
theorem Own.ge {g : Nat} (h : Own w B (.slice (some ⟨g, 0, none⟩) n c) l) : B ≤ g := by
  obtain ⟨_, h2⟩ := h
  rcases h2 with ⟨hv, h0⟩ | ⟨g', cap, cur, hv, hg, _⟩
  · cases hv
  · cases hv; exact hg
/-- Written at a place; the world's beginning is as it was. -/
theorem Own.put2 {w0 : World} {g k : Nat} (h : Own w B (.slice (some ⟨g, 0, none⟩) n c) l ∧ Below B w0 w) (x : Int) : Own (w.setCell ⟨g, k, none⟩ (.int .i64 x)) B (.slice (some ⟨g, 0, none⟩) n c) (l.set k x) ∧ Below B w0 (w.setCell ⟨g, k, none⟩ (.int .i64 x)) :=
  ⟨h.1.put x, h.2.setCell (p := ⟨g, k, none⟩) h.1.ge _⟩
/-- The number at a place. -/
theorem at_some (l : List Int) (k : Nat) (hk : k < l.length) : l[k]? = some (l.getD k 0) := by
  rw [List.getD_eq_getElem?_getD, List.getElem?_eq_getElem hk]; rfl
end
end Go.Proofs.YtpbphhpldlckbaaGreat
