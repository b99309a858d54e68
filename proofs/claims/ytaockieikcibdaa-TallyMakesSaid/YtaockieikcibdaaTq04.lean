/- tally.Sum. tally.gatherer.buckets. Records: their cells, record.Check, varvelaw15.Few, an argument that is a slice of them. -/
import Derived.Test.YtaockieikcibdaaTq03
import Derived.Deep.LoopGhost
import Derived.Test.YtaockieikcibdaaRows
import Derived.Test.YtaockieikcibdaaTq01
import Derived.Deep.QuietTactic
import Derived.BigQuiet
import Derived.Deep.Slices
import Derived.Deep.Fields
import Derived.ChangeSame
namespace Go.Proofs.Ytaockieikcibdaa
namespace Ta
open Go.RowKit Go.Maps Go.Sort

/-- A block of three cells. -/
def Row3 (w : World) (b : Nat) (c0 c1 c2 : Value) : Prop := w.heap[b]? = some (.cells #[c0, c1, c2] 40 (0, 0))
section
variable {w w' : World} {b : Nat} {c0 c1 c2 : Value}
theorem Row3.e0 (h : Row3 w b c0 c1 c2) : w.cell? ⟨b, 0, none⟩ = some c0 := by rw [cell_of_row w b 0 _ _ (0, 0) h]; rfl
theorem Row3.e1 (h : Row3 w b c0 c1 c2) : w.cell? ⟨b, 1, none⟩ = some c1 := by rw [cell_of_row w b 1 _ _ (0, 0) h]; rfl
theorem Row3.e2 (h : Row3 w b c0 c1 c2) : w.cell? ⟨b, 2, none⟩ = some c2 := by rw [cell_of_row w b 2 _ _ (0, 0) h]; rfl
theorem Row3.fz (h : Row3 w b c0 c1 c2) (j : Nat) : w.frozen? ⟨b, j, none⟩ = false := frozen_of_row w b j _ _ h
theorem Row3.lt (h : Row3 w b c0 c1 c2) : b < w.heap.size := (Array.getElem?_eq_some_iff.1 h).1
theorem Row3.set1 (h : Row3 w b c0 c1 c2) (u : Value) : Row3 (w.setCell ⟨b, 1, none⟩ u) b c0 u c2 := by
  unfold Row3 at *
  simp [World.setCell, Array.getElem?_modify, h]
theorem Row3.set2 (h : Row3 w b c0 c1 c2) (u : Value) : Row3 (w.setCell ⟨b, 2, none⟩ u) b c0 c1 u := by
  unfold Row3 at *
  simp [World.setCell, Array.getElem?_modify, h]
theorem Row3.far (h : Row3 w b c0 c1 c2) {g j : Nat} (hg : b ≠ g) (u : Value) : Row3 (w.setCell ⟨g, j, none⟩ u) b c0 c1 c2 := (Below.heap_setCell w ⟨g, j, none⟩ u b hg).trans h
theorem Row3.alloc (h : Row3 w b c0 c1 c2) (o : Obj) : Row3 (w.alloc o) b c0 c1 c2 := (Below.heap_alloc w o b h.lt).trans h
theorem Row3.new (w : World) (c0 c1 c2 : Value) : Row3 (w.alloc (.cells #[c0, c1, c2] 40)) w.heap.size c0 c1 c2 := by
  exact heap_alloc_new w _
theorem Row3.below {B : Nat} (h : Row3 w b c0 c1 c2) (hb : Below B w w') (hB : b < B) : Row3 w' b c0 c1 c2 := (hb.block b hB).trans h
end

/-- What tally.Sum tells. -/
noncomputable def sumB (S : List Bu) : Bu := if chk S = 0 then (match S with | [] => (0, 0, 0) | x :: _ => (x.1, sumC S, sumY S)) else (0, 0, 0)
theorem sumB_no {S : List Bu} (h : chk S ≠ 0) : sumB S = (0, 0, 0) := if_neg h
theorem sumB_nil {S : List Bu} (h : S.length = 0) : sumB S = (0, 0, 0) := by
  rw [List.length_eq_zero_iff.1 h]
  unfold sumB; split <;> rfl
theorem sumB_yes {S : List Bu} {x : Bu} (h : chk S = 0) (hx : S[0]? = some x) : sumB S = (x.1, sumC S, sumY S) := by
  cases S with
  | nil => simp at hx
  | cons y l =>
    simp at hx; subst hx
    exact if_pos h
theorem chk_two {S : List Bu} (h : chk S ≠ 0) : chk S = 2 := chk_no fun hh => h (chk_yes hh)
theorem chk_inv {S : List Bu} (h : chk S = 0) : ckP S := by
  unfold chk at h
  split at h
  · assumption
  · cases h
theorem sum_take {S : List Bu} {k : Nat} {x : Bu} (h : S[k]? = some x) : sumC (S.take (k + 1)) = sumC (S.take k) + x.2.1 ∧ sumY (S.take (k + 1)) = sumY (S.take k) + x.2.2 := by
  unfold sumC sumY
  rw [List.take_add_one, h]
  simp
theorem ok_sum {S : List Bu} (hl : S.length ≤ 1000) (h : ∀ j x, j < S.length → S[j]? = some x → okB x = true) (k : Nat) :
    0 ≤ sumC (S.take k) ∧ sumC (S.take k) ≤ 1000000000000000 ∧ 0 ≤ sumY (S.take k) ∧ sumY (S.take k) ≤ 1000000000000000000 := by
  have hm : ∀ x ∈ S.take k, okB x = true := fun x hx => by
    obtain ⟨j, hj, rfl⟩ := List.getElem_of_mem (List.mem_of_mem_take hx)
    exact h j _ hj (List.getElem?_eq_getElem hj)
  have h1 := sum_nn (S.take k) (fun x hx => by have := (okB_iff x).1 (hm x hx); unfold nn; omega)
  have h2 := sum_le (S := S.take k) 1000000000000 1000000000000000 (fun x hx => by have := (okB_iff x).1 (hm x hx); omega)
  have h3 : (S.take k).length ≤ 1000 := by rw [List.length_take]; omega
  have h4 : (((S.take k).length : Nat) : Int) ≤ 1000 := by omega
  generalize (((S.take k).length : Nat) : Int) = n at *
  omega

set_option maxHeartbeats 6400000 in
set_option maxRecDepth 100000 in
theorem sum_any (A : Option Addr) (n c : Nat) (S : List Bu) (w : World) (hrd : Rd w w.heap.size 3 A n (flT S)) (hn : n ≤ 1000000) :
    Calls Try.prog 15 #[.slice A n c] w fun e w' => e = .returned (.agg #[.int .i64 (sumB S).1, .int .i64 (sumB S).2.1, .int .i64 (sumB S).2.2]) ∧ Below w.heap.size w w' := by
  have mixed : Try.prog.follows .mixedOrders = true := by kernel_rfl
  have hln := rdT_len hrd
  have hrd2 := hrd.below (ext_alloc w (.cells #[.int .i64 0, .int .i64 0, .int .i64 0] 40))
  have HCK := Lib.hid (check_any A n c S (w.alloc (.cells #[.int .i64 0, .int .i64 0, .int .i64 0] 40)) (hrd2.more (by simp)) hn)
  have HR0 := Lib.hid hrd
  have HR := Lib.hid hrd2
  have HLN := Lib.hid hln
  have HNW := Lib.hid (Row3.new w (.int .i64 0) (.int .i64 0) (.int .i64 0))
  clear hrd hrd2 hln
  by_cases hs : chk S = 0
  · have HP := Lib.hid (chk_inv hs)
    have HS := Lib.hid hs
    rw [hs] at HCK
    clear hs
    by_cases hz : n = 0
    · subst hz
      have HE := Lib.hid (sumB_nil HLN.out)
      go_enter Try.func15, Try.ntmps15
      go_wp2_with fail
      refine HCK.out.mono ?_
      rintro e1 w1 ⟨rfl, hb1⟩
      have HB := Lib.hid ((ext_alloc w (.cells #[.int .i64 0, .int .i64 0, .int .i64 0] 40)).trans (hb1.mono (by simp)))
      have hr := HNW.out.below hb1 (by simp)
      have HLT := Lib.hid hr.lt
      have f0 := hr.fz 0
      have f1 := hr.fz 1
      have f2 := hr.fz 2
      have c0 := hr.e0
      have c1 := hr.e1
      have c2 := hr.e2
      clear hb1 hr HCK
      go_wp2_with fail
      rw [HE.out]
      refine bodyPost_ret (v := .agg #[.int .i64 0, .int .i64 0, .int .i64 0]) (by simp [results, go_sem, c0, c1, c2]) rfl ?_
      exact ⟨rfl, ((HB.out.setCell (p := ⟨w.heap.size, 0, none⟩) (Nat.le_refl _) _).setCell (p := ⟨w.heap.size, 1, none⟩) (Nat.le_refl _) _).setCell (p := ⟨w.heap.size, 2, none⟩) (Nat.le_refl _) _⟩
    · have hnz : ¬ (n : Int) = 0 := by omega
      obtain ⟨ad, t0, y0, z0, hA, hbk, hx, hc0, -, -⟩ := recT HR.out (show 0 < n by omega)
      subst hA
      have HE := Lib.hid (sumB_yes HS.out hx)
      have HC0 := Lib.hid hc0
      have HBK := Lib.hid hbk
      have i1 : (0 : Int) < (n : Int) := by omega
      have hnm : n ≤ 1000 := by have := HP.out.1; have := HLN.out; omega
      clear hx hc0 hbk hz
      go_enter Try.func15, Try.ntmps15
      go_wp2_with fail
      refine HCK.out.mono ?_
      rintro e1 w1 ⟨rfl, hb1⟩
      have HB := Lib.hid ((ext_alloc w (.cells #[.int .i64 0, .int .i64 0, .int .i64 0] 40)).trans (hb1.mono (by simp)))
      have hr := HNW.out.below hb1 (by simp)
      have HLT := Lib.hid hr.lt
      have f0 := hr.fz 0
      have f1 := hr.fz 1
      have f2 := hr.fz 2
      have c0 := hr.e0
      have c1 := hr.e1
      have c2 := hr.e2
      have HRW := Lib.hid hr
      have hl0 : w1.cell? ad = some (.int .i64 t0) := by
        rw [hb1.cell (p := ad) (by simp; have := HBK.out; omega)]
        exact HC0.out
      have HB1 := Lib.hid hb1
      clear hb1 hr HCK f0 f1 f2 c0 c1 c2
      go_wp2_with fail
      clear hl0
      have hg0 := HRW.out.alloc (.cells #[.int .i64 t0, .int .i64 0, .int .i64 0] 40)
      have hg1 := Row3.new w1 (.int .i64 t0) (.int .i64 0) (.int .i64 0)
      have hbw := HB.out.trans ((ext_alloc w1 (.cells #[.int .i64 t0, .int .i64 0, .int .i64 0] 40)).mono HB.out.size)
      have hne : w.heap.size < w1.heap.size := HLT.out
      generalize w1.alloc (.cells #[.int .i64 t0, .int .i64 0, .int .i64 0] 40) = w2 at *
      generalize w1.heap.size = G at *
      have H2 := Lib.hid (And.intro hg1 (And.intro hg0 hbw))
      have HNE := Lib.hid hne
      clear hg0 hg1 hbw hne
      go_loopw [22] (fun i wr => ∃ k : Nat, i = .int .i64 (k : Int) ∧ k ≤ n ∧ Hid (Row3 wr G (.int .i64 t0) (.int .i64 (sumC (S.take k))) (.int .i64 (sumY (S.take k))) ∧ Row3 wr w.heap.size (.int .i64 0) (.int .i64 0) (.int .i64 0) ∧ Below w.heap.size w wr)) (fun i _ => n - (intOf i).toNat)
      case atStart => exact ⟨0, by go_num, by omega, H2.out⟩
      case round =>
        obtain ⟨k, rfl, hk, HX⟩ := hrel
        have hsm := ok_sum HP.out.1 HP.out.2.1 k
        have hsm2 := ok_sum HP.out.1 HP.out.2.1 (k + 1)
        by_cases hkn : k < n
        · obtain ⟨ad', t, cc, y, hA', hbk, hx, hc0, hc1, hc2⟩ := recT (HR0.out.below HX.out.2.2) hkn
          obtain rfl : ad = ad' := by simpa using hA'
          have hst := sum_take hx
          generalize sumC (S.take k) = a at *
          generalize sumY (S.take k) = b at *
          have u1 : IntKind.i64.wrap (a + cc) = a + cc := by rw [IntKind.wrap_i64]; have := hst.1; simp only at this; omega
          have u2 : IntKind.i64.wrap (b + y) = b + y := by rw [IntKind.wrap_i64]; have := hst.2; simp only at this; omega
          have HST := Lib.hid hst
          have hr := HX.out.1.alloc (.cells #[.int .i64 t, .int .i64 cc, .int .i64 y] 40)
          have f0 := hr.fz 0
          have f1 := hr.fz 1
          have f2 := hr.fz 2
          have d1 := hr.e1
          have d2 := hr.e2
          have HRR := Lib.hid (And.intro hr (And.intro (HX.out.2.1.alloc (.cells #[.int .i64 t, .int .i64 cc, .int .i64 y] 40)) (HX.out.2.2.trans ((ext_alloc wr (.cells #[.int .i64 t, .int .i64 cc, .int .i64 y] 40)).mono HX.out.2.2.size))))
          have hne : G ≠ wr.heap.size := by have := HX.out.1.lt; omega
          clear hx hA' hst hsm hsm2 hbk hr HX
          go_wp2_with fail
          refine ⟨⟨k + 1, by go_num, by omega, ?_⟩, by simp [intOf]; omega⟩
          have hq := HST.out
          rw [hq.1, hq.2]
          exact ⟨(HRR.out.1.set1 _).set2 _, (HRR.out.2.1.far (by have := HNE.out; omega) _).far (by have := HNE.out; omega) _, (HRR.out.2.2.setCell (p := ⟨G, 1, none⟩) (by have := HNE.out; show w.heap.size ≤ G; omega) _).setCell (p := ⟨G, 2, none⟩) (by have := HNE.out; show w.heap.size ≤ G; omega) _⟩
        · obtain rfl : k = n := by omega
          have htk : S.take k = S := List.take_of_length_le (by have := HLN.out; omega)
          rw [htk] at HX
          have HX2 := Lib.hid HX.out
          have f0 := HX2.out.2.1.fz 0
          have f1 := HX2.out.2.1.fz 1
          have f2 := HX2.out.2.1.fz 2
          have d0 := HX2.out.1.e0
          have d1 := HX2.out.1.e1
          have d2 := HX2.out.1.e2
          have g0 := HX2.out.2.1.e0
          have g1 := HX2.out.2.1.e1
          have g2 := HX2.out.2.1.e2
          clear htk HX hsm hsm2
          go_wp2_with fail
          rw [HE.out]
          refine bodyPost_ret (v := .agg #[.int .i64 t0, .int .i64 (sumC S), .int .i64 (sumY S)]) (by simp [results, go_sem, g0, g1, g2]) rfl ?_
          exact ⟨rfl, ((HX2.out.2.2.setCell (p := ⟨w.heap.size, 0, none⟩) (Nat.le_refl _) _).setCell (p := ⟨w.heap.size, 1, none⟩) (Nat.le_refl _) _).setCell (p := ⟨w.heap.size, 2, none⟩) (Nat.le_refl _) _⟩
  · have HE := Lib.hid (sumB_no hs)
    have h2 := chk_two hs
    rw [h2] at HCK
    clear hs h2
    go_enter Try.func15, Try.ntmps15
    go_wp2_with fail
    refine HCK.out.mono ?_
    rintro e1 w1 ⟨rfl, hb1⟩
    have HB := Lib.hid ((ext_alloc w (.cells #[.int .i64 0, .int .i64 0, .int .i64 0] 40)).trans (hb1.mono (by simp)))
    have hr := HNW.out.below hb1 (by simp)
    have HLT := Lib.hid hr.lt
    have f0 := hr.fz 0
    have f1 := hr.fz 1
    have f2 := hr.fz 2
    have c0 := hr.e0
    have c1 := hr.e1
    have c2 := hr.e2
    clear hb1 hr HCK
    go_wp2_with fail
    rw [HE.out]
    refine bodyPost_ret (v := .agg #[.int .i64 0, .int .i64 0, .int .i64 0]) (by simp [results, go_sem, c0, c1, c2]) rfl ?_
    exact ⟨rfl, ((HB.out.setCell (p := ⟨w.heap.size, 0, none⟩) (Nat.le_refl _) _).setCell (p := ⟨w.heap.size, 1, none⟩) (Nat.le_refl _) _).setCell (p := ⟨w.heap.size, 2, none⟩) (Nat.le_refl _) _⟩
end Ta
end Go.Proofs.Ytaockieikcibdaa
namespace Go.Proofs.Ytaockieikcibdaa
namespace Ta
open Go.RowKit Go.Maps

theorem len_run {w : World} {b : Nat} {es : Array MapEntry} {clock : Nat} (hb : w.heap[b]? = some (.map es clock)) (ty : TypeId) :
    (Builtin.len_ #[58] ty #[.map (some b)]).run Try.prog w = .ok (.int .i64 (es.size : Int)) w := by
  have hu := run_underlying (P := Try.prog) Try.underlying58
  simp [Builtin.len_, hu, MapKept.run_getObj_map hb, Result.andThen, goInt]
theorem door {fn : Func} {R : Ending → World → Prop} {a : Act} {w : World} {b : Nat} {es : Array MapEntry} {clock : Nat} {ty : TypeId} {co : Array Bool} {v : Value} (hb : w.heap[b]? = some (.map es clock))
    (hd : a.defers = [⟨.builtin .clear #[58] ty co, #[.map (some b)]⟩]) (hr : ∀ w1, (results fn a.tmps).run Try.prog w1 = .ok v w1) (hR : R (.returned v) (ChangeMaps.setBlock w b (.map #[] clock))) : bodyPostB Try.prog fn R .ret a w :=
  ⟨_, _, _, _, _, _, _, _, hd, clear_run hb ty co, hr _, hR⟩
theorem below_grown {w w' : World} {b : Nat} (h : Below w.heap.size w w') (_hb : b < w.heap.size) : w.grownBy w' (some b) := ⟨h.os, h.tape, h.output, h.size, fun k hk _ => h.block k hk⟩
theorem take_one {α : Type} (l : List α) (k : Nat) (x : α) (h : l[k]? = some x) : l.take (k + 1) = l.take k ++ [x] := by rw [List.take_add_one, h]; rfl
set_option maxHeartbeats 6400000 in
set_option maxRecDepth 100000 in
theorem buckets_any (S : List Bu) (b n : Nat) (w : World) (h : GM w b n S) (ha : Asc S) (hl : S.length ≤ 1000000) (ht : ∀ x ∈ S, 0 ≤ x.1 ∧ x.1 ≤ 1000000000) :
    Calls Try.prog 27 #[.agg #[.map (some b)]] w fun e w' => (∃ v, e = .returned (.tuple #[v, .int .i64 (bukE S)]) ∧ OwnT w' w.heap.size v (bukL S)) ∧ w.grownBy w' (some b) := by
  have mixed : Try.prog.follows .mixedOrders = true := by kernel_rfl
  have h1 := h.alloc (.cells #[.map (some b)] 60)
  obtain ⟨es, clock, hb, hes⟩ := h1.len
  have hbl := h.lt
  by_cases hbig : 1000 < S.length
  · have HE := Lib.hid (bukE_big hbig)
    have HG := Lib.hid ((World.grownBy_alloc w (.cells #[.map (some b)] 60) (some b)).trans (clear_grown hb))
    have HC := Lib.hid hb
    have hlen := len_run hb 3
    have hsz : (1000 : Int) < (es.size : Int) := by omega
    clear h h1 ha ht hes hbig hl hb
    refine calls_of_wp_builtin Try.func27 rfl ?_
    simp only [Try.ntmps27, List.size_toArray, List.length_cons, List.length_nil, Nat.reduceAdd, Nat.reduceSub, Array.replicate_succ, Array.replicate_zero, List.push_toArray, List.append_toArray, List.nil_append, List.cons_append]
    go_wp2_with fail
    refine door (v := .tuple #[.slice none 0 0, .int .i64 3]) HC.out rfl (fun w1 => by simp [results, go_sem]) ?_
    exact ⟨⟨.slice none 0 0, by rw [HE.out], by rw [bukL_no HE.out]; exact ownT_nil _ _⟩, HG.out⟩
  · have hlen := len_run hb 3
    have hsz : ¬ (1000 : Int) < (es.size : Int) := by omega
    have hK := keys_any b n (mD S) bR (w.alloc (.cells #[.map (some b)] 60)) h1 (by show (S.map bD).length ≤ _; rw [List.length_map]; simp only [maxLen]; omega) (by show (S.map bD).length * 8 ≤ _; rw [List.length_map]; omega)
    have HK := Lib.hid hK
    have HM := Lib.hid (And.intro h1 (And.intro ha ht))
    have HL := Lib.hid (show S.length ≤ 1000 by omega)
    have HBL := Lib.hid hbl
    clear h h1 ha ht hes hbig hl hb hK hbl
    refine calls_of_wp_builtin Try.func27 rfl ?_
    simp only [Try.ntmps27, List.size_toArray, List.length_cons, List.length_nil, Nat.reduceAdd, Nat.reduceSub, Array.replicate_succ, Array.replicate_zero, List.push_toArray, List.append_toArray, List.nil_append, List.cons_append]
    go_wp2_with fail
    refine HK.out.mono ?_
    rintro e1 w1 ⟨vk, ss, rfl, hperm, hrow, hb1⟩
    have hks := keys_sorted HM.out.2.1 hperm
    rw [hks] at hrow
    obtain ⟨Ak, ck, rfl, -, -⟩ := own_slice hrow
    have hssl : ss.length = S.length := by
      have := congrArg List.length hks
      rw [List.length_mergeSort, List.length_map] at this
      exact this
    have hrd := Rd.of_own hrow
    have HR := Lib.hid hrd
    have HG1 := Lib.hid (HM.out.1.below hb1 (by simp; have := HBL.out; omega))
    have HB1 := Lib.hid ((ext_alloc w (.cells #[.map (some b)] 60)).trans (hb1.mono (by simp)))
    have c1 : w1.cell? ⟨w.heap.size, 0, none⟩ = some (.map (some b)) := by rw [hb1.cell (p := ⟨w.heap.size, 0, none⟩) (by simp), World.cell?_alloc_new]; rfl
    have HC1 := Lib.hid c1
    generalize hN : ss.length = N at *
    have HN := Lib.hid hssl
    have hNb : N ≤ 1000 := by have := HL.out; omega
    have hsw : w.heap.size + 1 ≤ w1.heap.size := by have := hb1.size; simp at this; omega
    have HSW := Lib.hid hsw
    clear hlen hsz HK hperm hrow hks hrd hb1 hN hssl c1 hsw
    go_wp2_with fail
    go_loopw [4, 18] (fun v i wr => ∃ (k : Nat) (v0 : Value), v0 = v ∧ i = .int .i64 (k : Int) ∧ k ≤ N ∧ Hid (OwnT wr w1.heap.size v0 (S.take k) ∧ Below w1.heap.size w1 wr ∧ ∀ j x, j < k → S[j]? = some x → okB x = true)) (fun _ i _ => N - (intOf i).toNat)
    case atStart => exact ⟨0, _, rfl, by go_num, by omega, ownT_nil _ _, Below.refl _ _, fun j x h => absurd h (by omega)⟩
    case round =>
      obtain ⟨k, v, hv, rfl, hk, HX⟩ := hrel
      subst hv
      by_cases hkn : k < N
      · obtain ⟨x, hx⟩ : ∃ x, S[k]? = some x := ⟨_, List.getElem?_eq_getElem (by have := HN.out; omega)⟩
        have hmem := List.mem_of_getElem? hx
        have htx := HM.out.2.2 x hmem
        have hbr := HX.out.2.1
        obtain ⟨ad, e1, hadb, hcell⟩ := (HR.out.below hbr).cells (by omega : 0 < N)
        subst e1
        have hkc : wr.cell? (ad.add k) = some (.int .i64 x.1) := hcell k _ (by rw [List.getElem?_map, List.getElem?_map, hx]; rfl)
        have hc1 : wr.cell? ⟨w.heap.size, 0, none⟩ = some (.map (some b)) := (hbr.cell (p := ⟨w.heap.size, 0, none⟩) (by have := HSW.out; simp; omega)).trans HC1.out
        have hgm := HG1.out.below hbr (by have := HBL.out; have := HSW.out; omega)
        have hlk := hgm.look htx.1 (by omega)
        rw [lok_at S k x HM.out.2.1 hx] at hlk
        obtain ⟨t, c, y⟩ := x
        unfold bv3 at hlk
        have HMY := Lib.hid (fun w => may_any t c y w)
        have HX2 := Lib.hid HX.out
        have HTK := Lib.hid (take_one S k _ hx)
        have hal : (S.take k).length ≤ 1099511627776 := by rw [List.length_take]; have := HL.out; omega
        have HAL := Lib.hid hal
        have HXK := Lib.hid hx
        clear hmem htx hbr hadb hcell hgm hal hx HX
        go_wp2_with fail
        refine (HMY.out _).mono ?_
        rintro e2 w2 ⟨rfl, hb2⟩
        have a0 : w2.cell? ⟨wr.heap.size, 0, none⟩ = some (.int .i64 t) := by rw [hb2.cell (p := ⟨wr.heap.size, 0, none⟩) (by simp), World.cell?_alloc_new]; rfl
        have a1 : w2.cell? ⟨wr.heap.size, 1, none⟩ = some (.int .i64 c) := by rw [hb2.cell (p := ⟨wr.heap.size, 1, none⟩) (by simp), World.cell?_alloc_new]; rfl
        have a2 : w2.cell? ⟨wr.heap.size, 2, none⟩ = some (.int .i64 y) := by rw [hb2.cell (p := ⟨wr.heap.size, 2, none⟩) (by simp), World.cell?_alloc_new]; rfl
        have hbw := (ext_alloc wr (.cells #[.int .i64 t, .int .i64 c, .int .i64 y] 40)).trans (hb2.mono (by simp))
        have hown2 := OwnT.below HX2.out.1 hbw (Nat.le_refl _)
        have HO := Lib.hid (And.intro hown2 (HX2.out.2.1.trans (hbw.mono HX2.out.2.1.size)))
        by_cases hok : okB (t, c, y) = true
        · rw [hok]
          have hall : ∀ j x, j < k + 1 → S[j]? = some x → okB x = true := by
            intro j x hj hx
            rcases Nat.lt_or_ge j k with h | h
            · exact HX2.out.2.2 j x h hx
            · obtain rfl : j = k := by omega
              rw [HXK.out] at hx; cases hx; exact hok
          have HALL := Lib.hid hall
          clear hall hok hb2 hbw hown2 hlk HMY HX2 HXK
          go_wp2_with (at_builtin; refine appendT HO.out.1 HAL.out (by have := HO.out.2.size; omega) ?_; intro A1 n1 c1 w3 hn1 hown3 hb3)
          rw [← HTK.out] at hown3
          exact ⟨⟨k + 1, _, rfl, by go_num, by omega, hown3, HO.out.2.trans hb3, HALL.out⟩, by simp [intOf]; omega⟩
        · have hok2 : okB (t, c, y) = false := by simpa using hok
          rw [hok2]
          have HE := Lib.hid (bukE_no HXK.out hok2)
          obtain ⟨es2, clock2, hes2, -⟩ := (HG1.out.below HO.out.2 (by have := HBL.out; have := HSW.out; omega)).len
          have HEB := Lib.hid hes2
          have HBW := Lib.hid (HB1.out.trans (HO.out.2.mono HB1.out.size))
          clear hok hok2 hb2 hbw hown2 hlk HMY HX2 hes2
          go_wp2_with fail
          refine door (v := .tuple #[.slice none 0 0, .int .i64 3]) HEB.out rfl (fun w1 => by simp [results, go_sem]) ?_
          exact ⟨⟨.slice none 0 0, by rw [HE.out], by rw [bukL_no HE.out]; exact ownT_nil _ _⟩, (below_grown HBW.out HBL.out).trans (clear_grown HEB.out)⟩
      · obtain rfl : k = N := by omega
        have hE := bukE_yes HL.out (fun j x h1 h2 => HX.out.2.2 j x (by rw [HN.out]; exact h1) h2)
        have hO := HX.out.1
        rw [List.take_of_length_le (by have := HN.out; omega)] at hO
        obtain ⟨es2, clock2, hes2, -⟩ := (HG1.out.below HX.out.2.1 (by have := HBL.out; have := HSW.out; omega)).len
        have HEB := Lib.hid hes2
        have HE := Lib.hid hE
        have HO := Lib.hid hO
        have HBW := Lib.hid (HB1.out.trans (HX.out.2.1.mono HB1.out.size))
        clear hE hO hes2 HX
        go_wp2_with fail
        refine door (v := .tuple #[v, .int .i64 0]) HEB.out rfl (fun w1 => by simp [results, go_sem]) ?_
        have hg := clear_grown HEB.out
        refine ⟨⟨v, by rw [HE.out], ?_⟩, (below_grown HBW.out HBL.out).trans hg⟩
        rw [bukL_yes HE.out]
        exact OwnT.lower (own_kept HO.out (by have := HBL.out; have := HSW.out; omega) hg) (by have := HSW.out; omega)
end Ta
end Go.Proofs.Ytaockieikcibdaa
namespace Go.Proofs.Ytaockieikcibdaa
namespace Rd
open Go.RowKit

/-- May a record be? -/
def ok1 (r : Int × Int × ByteArray) : Bool := decide (1 ≤ r.1 ∧ r.1 ≤ 1000000000 ∧ 0 ≤ r.2.1 ∧ r.2.1 ≤ 1000000000 ∧ r.2.2.size ≤ 2000)
theorem ok1_iff (r : Int × Int × ByteArray) : ok1 r = true ↔ 1 ≤ r.1 ∧ r.1 ≤ 1000000000 ∧ 0 ≤ r.2.1 ∧ r.2.1 ≤ 1000000000 ∧ r.2.2.size ≤ 2000 := by simp [ok1]
/-- A record as a value. -/
def rv (r : Int × Int × ByteArray) : Value := .agg #[.int .i64 r.1, .int .i64 r.2.1, .string r.2.2]
def cE (r : Int × Int × ByteArray) : Int := if ok1 r = true then 0 else 150
theorem cE_ok {r : Int × Int × ByteArray} (h : ok1 r = true) : cE r = 0 := if_pos h
theorem cE_no {r : Int × Int × ByteArray} (h : ¬ ok1 r = true) : cE r = 150 := if_neg h
set_option maxHeartbeats 3200000 in
theorem check_any (q t : Int) (d : ByteArray) (w : World) :
    Calls Try.prog 25 #[.agg #[.int .i64 q, .int .i64 t, .string d]] w fun e w' => e = .returned (.int .i64 (cE (q, t, d))) ∧ Below w.heap.size w w' := by
  by_cases h : ok1 (q, t, d) = true
  · rw [cE_ok h]
    rw [ok1_iff] at h
    simp only at h
    have h1 : ¬ q < 1 := by omega
    have h2 : ¬ 1000000000 < q := by omega
    have h3 : ¬ t < 0 := by omega
    have h4 : ¬ 1000000000 < t := by omega
    have h5 : ¬ (2000 : Int) < (d.size : Int) := by omega
    clear h
    go_enter Try.func25, Try.ntmps25
    go_wp2_with fail
    go_ret
    exact ⟨rfl, ext_alloc w _⟩
  · rw [cE_no h]
    rw [ok1_iff] at h
    simp only at h
    by_cases h1 : q < 1
    · go_enter Try.func25, Try.ntmps25
      go_wp2_with fail
      go_ret
      exact ⟨rfl, ext_alloc w _⟩
    by_cases h2 : 1000000000 < q
    · go_enter Try.func25, Try.ntmps25
      go_wp2_with fail
      go_ret
      exact ⟨rfl, ext_alloc w _⟩
    by_cases h3 : t < 0
    · go_enter Try.func25, Try.ntmps25
      go_wp2_with fail
      go_ret
      exact ⟨rfl, ext_alloc w _⟩
    by_cases h4 : 1000000000 < t
    · go_enter Try.func25, Try.ntmps25
      go_wp2_with fail
      go_ret
      exact ⟨rfl, ext_alloc w _⟩
    have h5 : (2000 : Int) < (d.size : Int) := by omega
    go_enter Try.func25, Try.ntmps25
    go_wp2_with fail
    go_ret
    exact ⟨rfl, ext_alloc w _⟩
/-- A record's cells. -/
def cl3 (r : Int × Int × ByteArray) : List Value := [.int .i64 r.1, .int .i64 r.2.1, .string r.2.2]
def fl3 (l : List (Int × Int × ByteArray)) : List Value := l.flatMap cl3
theorem fl3_cons (r : Int × Int × ByteArray) (l : List (Int × Int × ByteArray)) : fl3 (r :: l) = .int .i64 r.1 :: .int .i64 r.2.1 :: .string r.2.2 :: fl3 l := rfl
theorem length_fl3 (l : List (Int × Int × ByteArray)) : (fl3 l).length = l.length * 3 := by
  induction l with
  | nil => rfl
  | cons x l ih => rw [fl3_cons, List.length_cons, List.length_cons, List.length_cons, List.length_cons, ih]; omega
theorem fl3_append (a b : List (Int × Int × ByteArray)) : fl3 (a ++ b) = fl3 a ++ fl3 b := List.flatMap_append ..
theorem fl3_at (l : List (Int × Int × ByteArray)) (k : Nat) (x : Int × Int × ByteArray) (h : l[k]? = some x) :
    (fl3 l)[k * 3]? = some (.int .i64 x.1) ∧ (fl3 l)[k * 3 + 1]? = some (.int .i64 x.2.1) ∧ (fl3 l)[k * 3 + 2]? = some (.string x.2.2) := by
  induction l generalizing k with
  | nil => simp at h
  | cons y l ih =>
    rw [fl3_cons]
    rcases k with _ | k
    · simp at h; subst h; exact ⟨rfl, rfl, rfl⟩
    · have := ih k (by simpa using h)
      rw [show (k + 1) * 3 = k * 3 + 1 + 1 + 1 by omega]
      simpa using this
/-- A slice that reads as records, inside a round. -/
theorem rec3 {w : World} {B n k : Nat} {A : Option Addr} {l : List (Int × Int × ByteArray)} (h : Rd w B 3 A n (fl3 l)) (hk : k < n) :
    ∃ ad q t d, A = some ad ∧ ad.block < B ∧ l[k]? = some (q, t, d) ∧ w.cell? (ad.add (k * 3)) = some (.int .i64 q) ∧ w.cell? ⟨(ad.add (k * 3)).block, (ad.add (k * 3)).off + 1, none⟩ = some (.int .i64 t) ∧ w.cell? ⟨(ad.add (k * 3)).block, (ad.add (k * 3)).off + 2, none⟩ = some (.string d) := by
  obtain ⟨ad, e, hb, hc⟩ := h.cells (by omega)
  have hl : l.length = n := by have := h.len; rw [length_fl3] at this; omega
  obtain ⟨⟨q, t, d⟩, hx⟩ : ∃ x, l[k]? = some x := ⟨l[k]'(by omega), List.getElem?_eq_getElem (by omega)⟩
  obtain ⟨h1, h2, h3⟩ := fl3_at l k _ hx
  exact ⟨ad, q, t, d, e, hb, hx, hc _ _ h1, by have := hc _ _ h2; rw [← add_add] at this; exact this, by have := hc _ _ h3; rw [← add_add] at this; exact this⟩
theorem rd3_len {w : World} {B n : Nat} {A : Option Addr} {l : List (Int × Int × ByteArray)} (h : Rd w B 3 A n (fl3 l)) : l.length = n := by
  have := h.len; rw [length_fl3] at this; omega
/-- What varvelaw15.Few tells. -/
def few (l : List (Int × Int × ByteArray)) : Bool := decide (l.length ≤ 200) && l.all fun r => decide (r.2.2.size ≤ 3000)
theorem few_big {l : List (Int × Int × ByteArray)} (h : 200 < l.length) : few l = false := by unfold few; rw [decide_eq_false (by omega)]; rfl
theorem few_no {l : List (Int × Int × ByteArray)} {k : Nat} {q t : Int} {d : ByteArray} (h : l[k]? = some (q, t, d)) (hd : 3000 < d.size) : few l = false := by
  unfold few
  rw [Bool.and_eq_false_iff]
  right
  rw [List.all_eq_false]
  exact ⟨_, List.mem_of_getElem? h, by simp only [decide_eq_true_eq]; omega⟩
theorem few_yes {l : List (Int × Int × ByteArray)} (h : l.length ≤ 200) (hd : ∀ k r, k < l.length → l[k]? = some r → r.2.2.size ≤ 3000) : few l = true := by
  unfold few
  rw [Bool.and_eq_true]
  refine ⟨decide_eq_true h, List.all_eq_true.2 fun x hx => ?_⟩
  obtain ⟨k, hk, rfl⟩ := List.getElem_of_mem hx
  exact decide_eq_true (hd k _ hk (List.getElem?_eq_getElem hk))
theorem few_len {l : List (Int × Int × ByteArray)} (h : few l = true) : l.length ≤ 200 := by
  unfold few at h
  rw [Bool.and_eq_true] at h
  exact of_decide_eq_true h.1

set_option maxHeartbeats 6400000 in
set_option maxRecDepth 100000 in
theorem few_any (A : Option Addr) (n c : Nat) (l : List (Int × Int × ByteArray)) (w : World) (hrd : Rd w w.heap.size 3 A n (fl3 l)) (hn : n ≤ c) (hc : c ≤ maxLen) :
    Calls Try.prog 6 #[.slice A n c] w fun e w' => e = .returned (.bool (few l)) ∧ w = w' := by
  have mixed : Try.prog.follows .mixedOrders = true := by kernel_rfl
  have hln := rd3_len hrd
  have hnm : n ≤ 9223372036854775807 := by unfold maxLen at hc; omega
  clear hn hc
  by_cases hb : 200 < n
  · have HF := Lib.hid (few_big (l := l) (by omega))
    have hb2 : (200 : Int) < (n : Int) := by omega
    clear hb hrd hln
    go_enter Try.func6, Try.ntmps6
    go_wp2_with fail
    go_ret
    exact ⟨ret_bool HF.out.symm, rfl⟩
  · have HR := Lib.hid hrd
    clear hrd
    go_enter Try.func6, Try.ntmps6
    go_wp2_with fail
    go_loopw [3] (fun v wr => ∃ k : Nat, v = .int .i64 k ∧ k ≤ n ∧ w = wr ∧ Hid (∀ j r, j < k → l[j]? = some r → r.2.2.size ≤ 3000)) (fun v _ => n - (intOf v).toNat)
    case atStart => exact ⟨0, by go_num, by omega, rfl, fun j r h => absurd h (by omega)⟩
    case round =>
      obtain ⟨k, rfl, hk, rfl, HX⟩ := hrel
      by_cases hkn : k < n
      · obtain ⟨ad, q, t, d, rfl, hbk, hx, hc0, hc1, hc2⟩ := rec3 HR.out hkn
        by_cases hd : d.size ≤ 3000
        · have hok : ∀ j r, j < k + 1 → l[j]? = some r → r.2.2.size ≤ 3000 := by
            intro j r hj hr
            rcases Nat.lt_or_ge j k with h | h
            · exact HX.out j r h hr
            · obtain rfl : j = k := by omega
              rw [hx] at hr; cases hr; exact hd
          have HOK := Lib.hid hok
          have hd2 : ¬ (3000 : Int) < (d.size : Int) := by omega
          clear hok hx hc0 hc1 HX
          go_wp2_with fail
          exact ⟨⟨k + 1, by go_num, by omega, trivial, HOK.out⟩, by simp [intOf]; omega⟩
        · have HF := Lib.hid (few_no hx (by omega))
          have hd2 : (3000 : Int) < (d.size : Int) := by omega
          clear hx hc0 hc1 HX
          go_wp2_with fail
          go_ret
          exact ⟨ret_bool HF.out.symm, rfl⟩
      · obtain rfl : k = n := by omega
        have HF := Lib.hid (few_yes (l := l) (by omega) (by rw [hln]; exact HX.out))
        clear HX HR
        go_wp2_with fail
        go_ret
        exact ⟨ret_bool HF.out.symm, rfl⟩
open Go.ChangeShapes Go.WideShapes Go.Deep
theorem fl3_inv {l : List (Int × Int × ByteArray)} {j : Nat} {u : Value} (h : (fl3 l)[j]? = some u) : ∃ (k s : Nat) (x : Int × Int × ByteArray), j = k * 3 + s ∧ s < 3 ∧ l[k]? = some x ∧ (cl3 x)[s]? = some u := by
  have hj : j < l.length * 3 := by rw [← length_fl3]; exact (List.getElem?_eq_some_iff.1 h).1
  have hk : j / 3 < l.length := by omega
  obtain ⟨x, hx⟩ : ∃ x, l[j / 3]? = some x := ⟨_, List.getElem?_eq_getElem hk⟩
  obtain ⟨h1, h2, h3⟩ := fl3_at l (j / 3) x hx
  have hs : j % 3 < 3 := Nat.mod_lt _ (by omega)
  refine ⟨j / 3, j % 3, x, by omega, hs, hx, ?_⟩
  rw [show j = j / 3 * 3 + j % 3 by omega] at h
  generalize j % 3 = s at *
  rcases s with _ | _ | _ | s
  · rw [Nat.add_zero] at h; exact h1.symm.trans h
  · exact h2.symm.trans h
  · exact h3.symm.trans h
  · omega
theorem open_recs {H : Type} {enc : TypeId × Value → H} {P : Program} {w : World} {base : Nat} {r : Reach} {t e : TypeId} {f0 f1 f2 : Field} {v : Value} {d : DataW H} {p : List MemPlace}
    (ht : P.underlying t = some (.slice e)) (he : P.underlying e = some (.struct #[f0, f1, f2])) (hone : oneCellFields P #[f0, f1, f2] = true) (hc : P.cellsOf e = 3)
    (t0 : P.underlying f0.type = some (.int .i64)) (t1 : P.underlying f1.type = some (.int .i64)) (t2 : P.underlying f2.type = some .string)
    (hv : Value.okWide P w r base t v) (h : DataW.Trod enc P w 0 (fun _ => true) true t v d p) :
    ∃ (A : Option Addr) (n c : Nat) (l : List (Int × Int × ByteArray)), v = .slice A n c ∧ Rd w w.heap.size 3 A n (fl3 l) ∧ n ≤ c ∧ c ≤ maxLen ∧ l.length = n := by
  obtain ⟨a0, len, cap, rfl⟩ := okWide_slice ht hv
  obtain ⟨fuel, hf⟩ := h
  rcases Go.Deep.open_slice ht hf with ⟨hcs, -⟩ | ⟨a, len', cap', m, n, D, Pl, hcs, -, hl, hm, hmm, -, hx⟩
  · simp [Value.cells] at hcs
    obtain ⟨rfl, rfl, rfl⟩ := hcs
    exact ⟨none, 0, 0, [], rfl, Rd.nil, Nat.le_refl _, by simp [maxLen], rfl⟩
  · simp [Value.cells] at hcs
    obtain ⟨rfl, rfl, rfl⟩ := hcs
    rw [hc] at hx
    have hlm : len ≤ m := by rw [hmm, if_pos rfl]; exact hl
    have hex : ∀ i, i < len → ∃ x : Int × Int × ByteArray, ∀ s u, (cl3 x)[s]? = some u → w.cell? (a.add (i * 3 + s)) = some u := by
      intro i hi
      obtain ⟨cs', hcl, htr⟩ := hx i (by omega)
      obtain ⟨-, hlen, hat⟩ := World.cells?_some hcl
      obtain ⟨ys, k, -, -, -, hyl, hfl⟩ := DataW.trod_struct he htr
      match cs', hlen with
      | [c0, c1, c2], _ =>
        have g : ∀ (j : Nat) (f : Field), #[f0, f1, f2][j]? = some f → ∃ y, DataW.trod enc P w 0 (fun _ => true) true k f.type (([c0, c1, c2].drop j).take 1) = some y := by
          intro j f hj
          obtain ⟨o1, o2⟩ := Go.Deep.hone_of hone j f hj
          have := hfl j f hj
          rw [o1, o2] at this
          have hjl : j < ys.length := by rw [hyl]; exact (Array.getElem?_eq_some_iff.1 hj).1
          exact ⟨_, this.trans (List.getElem?_eq_getElem hjl)⟩
        obtain ⟨y0, g0⟩ := g 0 f0 rfl
        obtain ⟨y1, g1⟩ := g 1 f1 rfl
        obtain ⟨y2, g2⟩ := g 2 f2 rfl
        obtain ⟨q, hq, -, -⟩ := DataW.trod_int t0 g0
        obtain ⟨tk, htk, -, -⟩ := DataW.trod_int t1 g1
        obtain ⟨d, hd, -, -⟩ := DataW.trod_string t2 g2
        simp at hq htk hd
        subst hq; subst htk; subst hd
        refine ⟨(q, tk, d), fun s u hu => ?_⟩
        rw [← Go.Proofs.Ytaockieikcibdaa.add_add]
        have hs : s < 3 := (List.getElem?_eq_some_iff.1 hu).1
        rw [hat s hs]; exact hu
    obtain ⟨R, hR⟩ := Go.Deep.choose_lt hex
    refine ⟨some a, len, cap, (List.range len).map R, rfl, ⟨by rw [length_fl3]; simp, fun hn => ⟨a, rfl, ?_, ?_⟩⟩, hl, hm, by simp⟩
    · have h0 := World.block_lt_of_cell? w _ (hR 0 hn 0 _ rfl)
      rwa [add_block] at h0
    · intro j u hu
      obtain ⟨k, s, x, rfl, hs, hk, hc⟩ := fl3_inv hu
      rw [List.getElem?_map] at hk
      rcases Nat.lt_or_ge k len with hkl | hkl
      · rw [List.getElem?_eq_getElem (by simpa using hkl)] at hk
        simp at hk
        subst hk
        exact hR k hkl s u hc
      · rw [List.getElem?_eq_none (by simpa using hkl)] at hk
        cases hk
end Rd
end Go.Proofs.Ytaockieikcibdaa
