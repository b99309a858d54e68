/- canon.New. tab.Put. huff: best, Encode. -/
import Derived.Test.YtpbphhpldlckbaaGreatSc32
import Derived.Test.YtpbphhpldlckbaaGreatSc30
import Derived.Test.YtpbphhpldlckbaaGreatSc21
import Derived.Test.YtpbphhpldlckbaaGreatSc31
import Derived.Test.YtpbphhpldlckbaaGreatSc25
import Derived.Test.YtpbphhpldlckbaaGreatSc10
namespace Go.Proofs.YtpbphhpldlckbaaGreat
namespace Cn
open Go.RowKit
open Bt (Frm)

theorem fieldPair : Pair2 175 163 := ⟨Tryz.underlying163, by kernel_rfl⟩
theorem fl2_zero (n : Nat) : fl2 (List.replicate n (0, 0)) = List.replicate (n * 2) (.int .i64 0) := by
  induction n with
  | zero => rfl
  | succ n ih =>
    have e : fl2 (List.replicate (n + 1) (0, 0)) = .int .i64 0 :: .int .i64 0 :: fl2 (List.replicate n (0, 0)) := rfl
    rw [e, ih, show (n + 1) * 2 = n * 2 + 1 + 1 by omega, List.replicate_succ, List.replicate_succ]
theorem made_zero (n : Nat) : (madeCells (Value.agg #[.int .i64 0, .int .i64 0]).cells n).toList = List.replicate n (.int .i64 0) := by
  apply List.ext_getElem?
  intro i
  by_cases hi : i < n
  · have h2 : i % 2 = 0 ∨ i % 2 = 1 := by omega
    rw [List.getElem?_replicate, if_pos hi]
    rcases h2 with h2 | h2 <;> simp [madeCells, Value.cells, hi, h2]
  · rw [List.getElem?_eq_none (by simp [madeCells]; omega), List.getElem?_eq_none (by simp; omega)]
/-- 'make([]T, n)' of pairs: the row is known whole. -/
theorem make12 {ops : Array Oper} {rest : List Oper} {o : Oper} {a : Act} {Q : Exit → Act → World → Prop} {t ts : TypeId} {lo co : Operand} {kl kc : IntKind} {n : Nat} {w : World} (hp : Pair2 t ts) (hn : n ≤ 1000000)
    (h : ∀ w', w'.heap[w.heap.size]? = some (.cells (fl2 (List.replicate n (0, 0))).toArray t (0, 0)) → w.grownBy w' none → wpList Tryz.prog ops Q rest (a.put o.dst (.slice (some ⟨w.heap.size, 0, none⟩) n n)) w')
    (hgd : o.guard = none := by exact rfl) (ho : o.op = Op.makeSlice ts lo co := by exact rfl) (hl : a.eval lo = .int kl (n : Int) := by exact rfl) (hc : a.eval co = .int kc (n : Int) := by exact rfl) :
    wpList Tryz.prog ops Q (o :: rest) a w := by
  obtain ⟨i0, hi, hz0, hz1, hz2⟩ := info_parts hp.info
  refine wpList_make_full w hgd lo co ts ho w.heap.size t i0 (.agg #[.int .i64 0, .int .i64 0]) 2 hp.sl hi hz0 hz1 kl kc n n n hl hc rfl rfl (by rw [hz2]; omega) (by simp only [maxLen]; omega) (Nat.le_refl _) ?_
  intro w' hown hg
  refine h w' ?_ hg
  rcases hown.2 with ⟨hv, h0⟩ | ⟨g', cap, cur, hv, hg', hh, hnc, hm, hsz, htk⟩
  · cases hv
  · simp only [Value.slice.injEq, Option.some.injEq, Addr.mk.injEq, and_true, true_and] at hv
    obtain ⟨rfl, rfl⟩ := hv
    rw [hh]
    have e1 : cur.toList = fl2 (List.replicate n (0, 0)) := by
      rw [List.take_of_length_le (by rw [Array.length_toList, hsz]; exact Nat.le_refl _)] at htk
      rw [htk, made_zero, fl2_zero]
    rw [← e1]

theorem new_lit (u : Value) : #[u, .slice none 0 0, .int .i64 0, .int .i64 0, .int .i64 0, .int .i64 0, .int .i64 0, .int .i64 0, .int .i64 0, .int .i64 0, .int .i64 0, .int .i64 0, .int .i64 0, .int .i64 0, .int .i64 0, .int .i64 0, .int .i64 0, .int .i64 0, .int .i64 0, .int .i64 0, .int .i64 0, .int .i64 0, .int .i64 0, .int .i64 0, .int .i64 0, .int .i64 0, .int .i64 0, .int .i64 0, .int .i64 0, .int .i64 0, .int .i64 0, .int .i64 0, .int .i64 0, .int .i64 0, .int .i64 0, .int .i64 0, .int .i64 0, .int .i64 0, .int .i64 0, .int .i64 0, .int .i64 0, .int .i64 0, .int .i64 0, .int .i64 0, .int .i64 0, .int .i64 0, .int .i64 0, .int .i64 0, .int .i64 0, .int .i64 0, .bool true] = (rowC u (.slice none 0 0) (l16 fun _ => 0) (l16 fun _ => 0) (l16 fun _ => 0) true).toArray := rfl

set_option maxHeartbeats 6400000 in
set_option maxRecDepth 100000 in
theorem new_any (A : Option Addr) (n c : Nat) (l : List Int) (w : World) (hn : n ≤ 257) (hck : checkE l = 0) (hok : Ok l) (hrd : Rd w w.heap.size 1 A n (l.map (Value.int .i64))) :
    Calls Tryz.prog 73 #[.slice A n c] w fun e w' => ∃ b, e = .returned (.tuple #[.pointer (some ⟨b, 0, none⟩), .int .i64 0]) ∧ Cd w' b l ∧ w.heap.size ≤ b ∧ Below w.heap.size w w' ∧ (∀ w2, w'.heap.size ≤ w2.heap.size → (∀ k, w.heap.size ≤ k → k < w'.heap.size → w2.heap[k]? = w'.heap[k]?) → Cd w2 b l) := by
  have mixed : Tryz.prog.follows .mixedOrders = true := by kernel_rfl
  have hcon := check_any A n c l w (by omega) hrd
  rw [hck] at hcon
  have HC := Lib.hid hcon
  have hln : l.length = n := by simpa using hrd.len
  have HR := Lib.hid hrd
  have HOK := Lib.hid hok
  have HLN := Lib.hid hln
  clear hcon hck hrd hok hln
  go_enter Tryz.func73, Tryz.ntmps73
  go_wp2_with fail
  refine HC.out.mono ?_
  rintro e1 w1 ⟨rfl, rfl⟩
  clear HC
  go_wp2_with (at_make; (refine make12 (n := n) fieldPair (by omega) ?_); intro w2 hrow2 hg2)
  rw [new_lit]
  have hb2 : Below w.heap.size w w2 := (Below.refl _ _).grown hg2 (Nat.le_refl _) (by simp)
  have hb3 : Below w2.heap.size w2 (w2.alloc (.cells (rowC (.slice (some ⟨w.heap.size, 0, none⟩) n n) (.slice none 0 0) (l16 fun _ => 0) (l16 fun _ => 0) (l16 fun _ => 0) true).toArray 166)) := (Below.refl _ _).alloc (Nat.le_refl _) _
  have hcx : Cx (w2.alloc (.cells (rowC (.slice (some ⟨w.heap.size, 0, none⟩) n n) (.slice none 0 0) (l16 fun _ => 0) (l16 fun _ => 0) (l16 fun _ => 0) true).toArray 166)) w2.heap.size (.slice (some ⟨w.heap.size, 0, none⟩) n n) (.slice none 0 0) (l16 (cn (l.take 0))) (l16 fun _ => 0) (l16 fun _ => 0) true := by
    refine ⟨?_, length_l16 _, length_l16 _, length_l16 _⟩
    rw [heap_alloc_new]
    have e : l16 (cn (l.take 0)) = l16 fun _ => 0 := l16_congr fun k _ => by unfold cn; split <;> simp
    rw [e]
  have H0 : Aside _ := And.intro hcx hb3
  have HROW := Lib.hid hrow2
  have HB2 := Lib.hid hb2
  have hs2 := hb2.size
  have hwlt : w.heap.size < w2.heap.size := (Array.getElem?_eq_some_iff.1 hrow2).1
  clear hb2 hb3 hcx hrow2 hg2
  generalize w2.alloc (.cells (rowC (.slice (some ⟨w.heap.size, 0, none⟩) n n) (.slice none 0 0) (l16 fun _ => 0) (l16 fun _ => 0) (l16 fun _ => 0) true).toArray 166) = w3 at *
  obtain ⟨b, hbe⟩ : ∃ b, b = w2.heap.size := ⟨_, rfl⟩
  obtain ⟨gw0, hge⟩ : ∃ gw0, gw0 = w.heap.size := ⟨_, rfl⟩
  rw [← hbe, ← hge] at H0 ⊢
  have HBE := Lib.hid hbe
  have HGE := Lib.hid hge
  clear hbe hge
  go_loopg [21] n (fun kx s21 wr => ∃ (k : Nat), s21 = .int .i64 (k : Int) ∧ k ≤ n ∧ n - k ≤ kx ∧ Aside (Cx wr b (.slice (some ⟨gw0, 0, none⟩) n n) (.slice none 0 0) (l16 (cn (l.take k))) (l16 fun _ => 0) (l16 fun _ => 0) true ∧ Below b w2 wr))
  case atStart => exact ⟨0, rfl, by omega, by omega, H0.out⟩
  case round =>
    clear H0
    obtain ⟨k, rfl, hk, hkx, H⟩ := hrel
    by_cases hlt : k < n
    · have hbw : Below w.heap.size w wr := HB2.out.trans (H.out.2.mono (by have := HBE.out; omega))
      obtain ⟨ad, x, rfl, had, hx, hcell⟩ := (HR.out.below hbw).int1 hlt
      have hkl : k < l.length := by have := HLN.out; omega
      have hkx2 : l[k] = x := by rw [List.getElem?_eq_getElem hkl] at hx; exact Option.some.inj hx
      have hr := HOK.out.rng l[k] (List.getElem_mem hkl)
      rw [hkx2] at hr
      have HLT := Lib.hid hlt
      by_cases h0 : x = 0
      · have e1 : l16 (cn (l.take (k + 1))) = l16 (cn (l.take k)) := l16_congr fun j _ => by
          rw [cn_take_succ l k j hkl, if_neg (by rintro ⟨h1, h2⟩; rw [hkx2] at h2; omega)]; rfl
        have HX : Aside (Cx wr b (.slice (some ⟨gw0, 0, none⟩) n n) (.slice none 0 0) (l16 (cn (l.take (k + 1)))) (l16 fun _ => 0) (l16 fun _ => 0) true ∧ Below b w2 wr) := by rw [e1]; exact H.out
        subst h0
        clear e1 hx hkx2 hkl had hbw
        go_wp2_with fail
        go_roundg (n - (k + 1))
        case measure => omega
        case rel => exact ⟨k + 1, by go_num, HLT.out, by have := HLT.out; omega, HX.out⟩
      · obtain ⟨y, rfl⟩ : ∃ y : Nat, x = (y : Int) := ⟨x.toNat, by omega⟩
        have hy15 : y ≤ 15 := by omega
        have hc := H.out.1.cc y hy15
        rw [l16_at _ _ hy15] at hc
        have hf := H.out.1.fz (2 + y)
        have hcl : cn (l.take k) y ≤ 257 := by
          unfold cn
          split
          · omega
          · exact Nat.le_trans (List.countP_le_length) (by rw [List.length_take]; omega)
        have hset := H.out.1.set_c y hy15 ((cn (l.take k) y + 1 : Nat) : Int)
        rw [l16_set] at hset
        have e1 : (l16 fun j => if j = y then cn (l.take k) y + 1 else cn (l.take k) j) = l16 (cn (l.take (k + 1))) := l16_congr fun j _ => by
          rw [cn_take_succ l k j hkl]
          by_cases he : j = y
          · subst he; rw [if_pos rfl, if_pos ⟨by omega, hkx2⟩]
          · rw [if_neg he, if_neg (by rintro ⟨_, h2⟩; rw [hkx2] at h2; omega)]; rfl
        rw [e1] at hset
        have hb4 := H.out.2.setCell (p := ⟨b, 2 + y, none⟩) (Nat.le_refl b) (.int .i64 ((cn (l.take k) y + 1 : Nat) : Int))
        have HX : Aside _ := And.intro hset.drew hb4.drew
        generalize cn (l.take k) y = v0 at *
        have hyp : (0 : Int) < (y : Int) := by omega
        have hy16 : (y : Int) < 16 := by omega
        have hyt : ((y : Int)).toNat = y := by omega
        have i1 : IntKind.i64.wrap ((v0 : Int) + 1) = (v0 : Int) + 1 := by rw [IntKind.wrap_i64]; omega
        clear e1 hx hkx2 hkl had hbw hset hb4 hr h0 H
        go_wp2_with fail
        go_region
        go_wp2_with fail
        go_roundg (n - (k + 1))
        case measure => omega
        case rel => exact ⟨k + 1, by go_num, HLT.out, by have := HLT.out; omega, HX.out⟩
    · have e1 : l.take k = l := List.take_of_length_le (by have := HLN.out; omega)
      have h9 := H.out
      rw [e1] at h9
      have h1 : Cx wr b (.slice (some ⟨gw0, 0, none⟩) n n) (.slice none 0 0) (l16 (cn l)) (l16 fun j => if j < 1 then fs l j else 0) (l16 fun j => if j < 1 then pl l j else 0) true := by
        have ea : (l16 fun j => if j < 1 then fs l j else 0) = l16 fun _ => 0 := l16_congr fun j _ => by
          split
          · rename_i h; obtain rfl : j = 0 := by omega
            rfl
          · rfl
        have eb : (l16 fun j => if j < 1 then pl l j else 0) = l16 fun _ => 0 := l16_congr fun j _ => by
          split
          · rename_i h; obtain rfl : j = 0 := by omega
            rfl
          · rfl
        rw [ea, eb]; exact h9.1
      have H1 : Aside _ := And.intro h1 h9.2
      clear h9 h1 e1 H
      go_wp2_with fail
      go_loopg [8] 16 (fun kx s8 wx => ∃ (M : Nat), s8 = .int .i64 (M : Int) ∧ 1 ≤ M ∧ M ≤ 16 ∧ 16 - M ≤ kx ∧
        Aside (Cx wx b (.slice (some ⟨gw0, 0, none⟩) n n) (.slice none 0 0) (l16 (cn l)) (l16 fun j => if j < M then fs l j else 0) (l16 fun j => if j < M then pl l j else 0) true ∧ Below b w2 wx))
      case atStart => exact ⟨1, rfl, by omega, by omega, by omega, H1.out⟩
      case round =>
        clear H1
        obtain ⟨M, rfl, hM1, hM, hMx, H⟩ := hrel
        by_cases hlt2 : M ≤ 15
        · obtain ⟨q, hq⟩ : ∃ q, M = q + 1 := ⟨M - 1, by omega⟩
          have hq15 : q ≤ 15 := by omega
          have hfit := fits l HOK.out q hq15
          have hp15 : 2 ^ q ≤ 32768 := Nat.pow_le_pow_right (by omega) hq15
          have hplb := (pl_le l HOK.out.rng q).1
          rw [pl_step] at hplb
          have husb : us l ≤ 257 := by unfold us; exact Nat.le_trans (List.countP_le_length) (by have := HLN.out; omega)
          have c1 := H.out.1.cf q hq15
          rw [l16_at _ _ hq15, if_pos (by omega)] at c1
          have c2 := H.out.1.cc q hq15
          rw [l16_at _ _ hq15] at c2
          have c3 := H.out.1.cf M hlt2
          rw [l16_at _ _ hlt2, if_neg (by omega)] at c3
          have f3 := H.out.1.fz (18 + M)
          have hs1 := H.out.1.set_f M hlt2 (((fs l q + cn l q) * 2 : Nat) : Int)
          rw [l16_set] at hs1
          have e1 : (l16 fun j => if j = M then (fs l q + cn l q) * 2 else if j < M then fs l j else 0) = l16 fun j => if j < M + 1 then fs l j else 0 := l16_congr fun j _ => by
            by_cases he : j = M
            · subst he; rw [if_pos rfl, if_pos (by omega), hq]; rfl
            · rw [if_neg he]
              by_cases h2 : j < M
              · rw [if_pos h2, if_pos (by omega)]
              · rw [if_neg h2, if_neg (by omega)]
          rw [e1] at hs1
          have hb5 := H.out.2.setCell (p := ⟨b, 18 + M, none⟩) (Nat.le_refl b) (.int .i64 (((fs l q + cn l q) * 2 : Nat) : Int))
          have H5 : Aside _ := And.intro hs1.drew hb5.drew
          have q1 : (M : Int) - 1 = (q : Int) := by omega
          have e2 : (l16 fun j => if j = M then pl l q + cn l q else if j < M then pl l j else 0) = l16 fun j => if j < M + 1 then pl l j else 0 := l16_congr fun j _ => by
            by_cases he : j = M
            · subst he; rw [if_pos rfl, if_pos (by omega), hq]; rfl
            · rw [if_neg he]
              by_cases h2 : j < M
              · rw [if_pos h2, if_pos (by omega)]
              · rw [if_neg h2, if_neg (by omega)]
          have E2 := Lib.hid e2
          obtain ⟨F, hF⟩ : ∃ F, F = fs l q := ⟨_, rfl⟩
          obtain ⟨C, hC⟩ : ∃ C, C = cn l q := ⟨_, rfl⟩
          obtain ⟨P0, hP⟩ : ∃ P0, P0 = pl l q := ⟨_, rfl⟩
          have HC := Lib.hid hC
          have HP := Lib.hid hP
          rw [← hF] at c1 hfit H5
          rw [← hC] at c2 hfit hplb H5
          rw [← hP] at hplb
          have i1 : IntKind.i64.wrap ((F : Int) + (C : Int)) = (F : Int) + (C : Int) := by rw [IntKind.wrap_i64]; omega
          have hm16 : (M : Int) < 16 := by omega
          have hq16 : (q : Int) < 16 := by omega
          have hmp : (0 : Int) ≤ (M : Int) := by omega
          rw [show (((F + C) * 2 : Nat) : Int) = ((F : Int) + (C : Int)) * 2 by simp] at H5
          have HM := Lib.hid hq
          clear e1 e2 hs1 hb5 hF hC hP hq
          go_wp2_with fail
          go_region
          generalize (wr.setCell ⟨b, 18 + M, none⟩ (.int .i64 (((F : Int) + (C : Int)) * 2))).drew = w5 at *
          have c1 := H5.out.1.cp q hq15
          rw [l16_at _ _ hq15, if_pos (by have := HM.out; omega), ← HP.out] at c1
          have c2 := H5.out.1.cc q hq15
          rw [l16_at _ _ hq15, ← HC.out] at c2
          have c3 := H5.out.1.cp M hlt2
          rw [l16_at _ _ hlt2, if_neg (by omega)] at c3
          have f3 := H5.out.1.fz (34 + M)
          have hs1 := H5.out.1.set_p M hlt2 ((P0 + C : Nat) : Int)
          rw [l16_set] at hs1
          have e2 := E2.out
          rw [← HP.out, ← HC.out] at e2
          rw [e2] at hs1
          have hb5 := H5.out.2.setCell (p := ⟨b, 34 + M, none⟩) (Nat.le_refl b) (.int .i64 ((P0 + C : Nat) : Int))
          have H6 : Aside _ := And.intro hs1.drew hb5.drew
          have i2 : IntKind.i64.wrap ((P0 : Int) + (C : Int)) = (P0 : Int) + (C : Int) := by rw [IntKind.wrap_i64]; omega
          rw [show ((P0 + C : Nat) : Int) = (P0 : Int) + (C : Int) by simp] at H6
          clear e2 hs1 hb5 i1 H5 H hfit
          go_wp2_with fail
          go_region
          go_wp2_with fail
          go_roundg (16 - (M + 1))
          case measure => omega
          case rel => exact ⟨M + 1, by go_num, by omega, by omega, by omega, H6.out⟩
        · obtain rfl : M = 16 := by omega
          have e1 : (l16 fun j => if j < 16 then fs l j else 0) = l16 (fs l) := l16_congr fun j hj => if_pos (by omega)
          have e2 : (l16 fun j => if j < 16 then pl l j else 0) = l16 (pl l) := l16_congr fun j hj => if_pos (by omega)
          have h9 := H.out
          rw [e1, e2] at h9
          have hrow : wr.heap[gw0]? = some (.cells (fl2 (wdsK l 0)).toArray 175 (0, 0)) := by
            rw [h9.2.block gw0 (by have := HBE.out; have := HGE.out; omega), HGE.out, HROW.out]
            have e3 : wdsK l 0 = List.replicate n (0, 0) := by
              unfold wdsK
              simp only [Nat.not_lt_zero, false_and, if_false, List.map_const', List.length_range, HLN.out]
            rw [e3]
          have hbw : Below w.heap.size w wr := HB2.out.trans (h9.2.mono (by have := HBE.out; omega))
          have hnum := number_any wr b 0 gw0 n n c A l (.slice none 0 0) HOK.out (by have := HLN.out; omega) HLN.out ((HR.out.below hbw).more hbw.size) h9.1 hrow (by have := HBE.out; have := HGE.out; omega) (fun h0 ad e => by
            obtain ⟨ad', e', hlt', _⟩ := HR.out.cells h0
            rw [e] at e'
            cases e'
            have := HBE.out; have := HGE.out
            exact ⟨by omega, by omega⟩)
          have HNU := Lib.hid hnum
          have HBW := Lib.hid hbw
          have hblt := h9.1.lt
          clear e1 e2 h9 hrow hbw hnum H
          go_wp2_with fail
          refine HNU.out.mono ?_
          rintro e7 w7 ⟨rfl, hcd, hfr, hcl⟩
          have hbl := hfr.below (B := w.heap.size) (by have := HBE.out; omega) hblt (by
            intro k hk
            have := Option.some.inj hk
            have := HGE.out
            omega)
          have hws := hfr.size
          have hgl : gw0 < wr.heap.size := by have := HBE.out; have := HGE.out; omega
          have hcl2 : ∀ w2, w7.heap.size ≤ w2.heap.size → (∀ k, w.heap.size ≤ k → k < w7.heap.size → w2.heap[k]? = w7.heap[k]?) → Cd w2 b l := fun w2 hsz hk =>
            hcl w2 hsz (hk b (by have := HBE.out; omega) (by omega)) (hk gw0 (by have := HGE.out; omega) (by omega)) (fun k h1 h2 => hk k (by have := HBW.out.size; omega) h2)
          have HX : Aside _ := And.intro hcd (And.intro (HBW.out.trans hbl) hcl2)
          clear hcd hfr hbl HNU hcl hcl2
          go_wp2_with fail
          go_ret2
          exact ⟨b, rfl, HX.out.1, by have := HBE.out; omega, HX.out.2.1, HX.out.2.2⟩
end Cn
end Go.Proofs.YtpbphhpldlckbaaGreat
namespace Go.Proofs.YtpbphhpldlckbaaGreat
namespace Tb
open Go.RowKit Bt Cn

theorem tb_take (R : List (Int × Int)) (k : Nat) (x : Int × Int) (h : R[k]? = some x) : tb (R.take (k + 1)) = tb (R.take k) ++ toB 4 x.1.toNat ++ gam x.2.toNat := by
  unfold tb
  rw [List.take_add_one, h, List.flatMap_append]
  simp
theorem length_tb_le : ∀ (R : List (Int × Int)), (∀ x ∈ R, 1 ≤ x.2 ∧ x.2 ≤ 1000) → (tb R).length ≤ 23 * R.length
  | [], _ => by simp [tb]
  | x :: R, h => by
    have e : tb (x :: R) = (toB 4 x.1.toNat ++ gam x.2.toNat) ++ tb R := rfl
    have ih := length_tb_le R (fun y hy => h y (by simp [hy]))
    have hx := h x (by simp)
    have hb : bl x.2.toNat ≤ 10 := by
      have h1 := bl_spec x.2.toNat (by omega)
      rcases Nat.lt_or_ge (bl x.2.toNat) 11 with h9 | h9
      · omega
      · have := Nat.pow_le_pow_right (n := 2) (by omega) (show 10 ≤ bl x.2.toNat - 1 by omega)
        simp only [show (2 : Nat) ^ 10 = 1024 by rfl] at this
        omega
    rw [e, List.length_append, List.length_append, length_toB, length_gam _ (by omega), List.length_cons]
    omega
theorem good_mem : ∀ (R : List (Int × Int)) (last : Int), Good last R → ∀ x ∈ R, 0 ≤ x.1 ∧ x.1 ≤ 15 ∧ 1 ≤ x.2 ∧ x.2.toNat ≤ (flat R).length
  | [], _, _, x, hx => by simp at hx
  | y :: R, last, h, x, hx => by
    have e : flat (y :: R) = List.replicate y.2.toNat y.1 ++ flat R := rfl
    rw [e, List.length_append, List.length_replicate]
    rcases List.mem_cons.1 hx with rfl | hx
    · exact ⟨h.2.1, h.2.2.1, h.2.2.2.1, by omega⟩
    · have := good_mem R y.1 h.2.2.2.2 x hx
      exact ⟨this.1, this.2.1, this.2.2.1, by omega⟩

set_option maxHeartbeats 3200000 in
set_option maxRecDepth 100000 in
theorem tput_any (w : World) (B b : Nat) (g : Option Nat) (A : Option Addr) (n c : Nat) (l : List Int) (hW : Wt w B b g []) (hn : n ≤ 257) (hck : checkE l = 0) (hok : ∀ x ∈ l, 0 ≤ x ∧ x ≤ 15) (hrd : Rd w w.heap.size 1 A n (l.map (Value.int .i64))) :
    Calls Tryz.prog 74 #[.pointer (some ⟨b, 0, none⟩), .slice A n c] w fun e w' => e = .returned (.int .i64 0) ∧ ∃ g', Wt w' B b g' (tb (runs l)) ∧ Frm w w' b g ∧ Nxt w g g' := by
  have hln : l.length = n := by simpa using hrd.len
  have hcon := check_any A n c l w (by omega) hrd
  rw [hck] at hcon
  have hruns := runs_any A n c l w (by omega) hok hrd
  have hgd := runs_good l hok
  have hRl := length_le_flat _ _ hgd.1
  have hgm := good_mem _ _ hgd.1
  rw [hgd.2, hln] at hRl hgm
  have hblt : b < w.heap.size := by obtain ⟨v, l, rest, n, hW, _⟩ := hW; exact hW.lt
  have hglt : ∀ m, g = some m → m < w.heap.size := by
    obtain ⟨v, l, rest, n, hW, _, _, _, e⟩ := hW
    intro m hm; exact (World.ownsRow.lt hW.own m (by rw [e, hm])).2
  have HC := Lib.hid hcon
  have HU := Lib.hid hruns
  have HG := Lib.hid hgm
  have HGL := Lib.hid hglt
  generalize runs l = R at *
  clear hcon hruns hgd hgm hrd hck hok hln hglt
  go_enter Tryz.func74, Tryz.ntmps74
  go_wp2_with fail
  refine HC.out.mono ?_
  rintro e1 w1 ⟨rfl, rfl⟩
  go_wp2_with fail
  refine HU.out.mono ?_
  rintro e1 w1 ⟨v, rfl, hown, hb1⟩
  have hW1 := wt_ext hW hb1
  have hF1 := frm_of_below hb1 b g
  have hs1 := hb1.size
  have hrn : ∃ A2 c2, v = .slice A2 R.length c2 := by
    obtain ⟨A2, c2, e, _⟩ := own_slice hown
    exact ⟨A2, c2, e⟩
  obtain ⟨A2, c2, rfl⟩ := hrn
  have H0 : Aside (∃ g', Wt w1 B b g' (tb (R.take 0)) ∧ Frm w1 w1 b g ∧ Nxt w1 g g') := ⟨g, by simpa [tb] using hW1, Frm.refl _ _ _, .inl rfl⟩
  have HOWN := Lib.hid hown
  have HB1 := Lib.hid hb1
  clear hW1 hF1 hown hb1 HC HU hW
  go_wp2_with fail
  go_loopg [18] R.length (fun kx s18 wr => ∃ (k : Nat), s18 = .int .i64 (k : Int) ∧ k ≤ R.length ∧ R.length - k ≤ kx ∧ Aside (∃ g', Wt wr B b g' (tb (R.take k)) ∧ Frm w1 wr b g ∧ Nxt w1 g g'))
  case atStart => exact ⟨0, rfl, by omega, by omega, H0.out⟩
  case round =>
    clear H0
    obtain ⟨k, rfl, hk, hkx, H⟩ := hrel
    by_cases hlt : k < R.length
    · have hxk : R[k]? = some R[k] := List.getElem?_eq_getElem hlt
      have hst := tb_take R k R[k] hxk
      have hx := HG.out R[k] (List.getElem_mem _)
      have hne : R ≠ [] := by rintro rfl; simp at hlt
      obtain ⟨gR, cR, hv, _, _, hgR⟩ := own2_some HOWN.out hne
      cases hv
      have hcs := own2_cells HOWN.out hxk
      have hge := own2_ge HOWN.out
      have htl := length_tb_le (R.take k) (fun y hy => by have := HG.out y (List.mem_of_mem_take hy); omega)
      rw [List.length_take, Nat.min_eq_left (by omega)] at htl
      obtain ⟨g', hW, hF, hN⟩ := H.out
      have hbk : wr.heap[gR]? = w1.heap[gR]? := hF.blk gR hgR (by omega) (fun e => by have := HGL.out gR e.symm; omega)
      have hc1 : wr.cell? ⟨gR, k * 2, none⟩ = some (.int .i64 R[k].1) := by rw [World.cell?_of_block hbk, show k * 2 = 2 * k by omega]; exact hcs.1
      have hc2 : wr.cell? ⟨gR, k * 2 + 1, none⟩ = some (.int .i64 R[k].2) := by rw [World.cell?_of_block hbk, show k * 2 + 1 = 2 * k + 1 by omega]; exact hcs.2
      generalize R[k] = x at *
      obtain ⟨x1, x2⟩ := x
      simp only at hx hc1 hc2 hst
      obtain ⟨y, rfl⟩ : ∃ y : Nat, x1 = (y : Int) := ⟨x1.toNat, by omega⟩
      obtain ⟨z, rfl⟩ : ∃ z : Nat, x2 = (z : Int) := ⟨x2.toNat, by omega⟩
      rw [Int.toNat_natCast, Int.toNat_natCast] at hst
      rw [Int.toNat_natCast] at hx
      have hy : y < 2 ^ 4 := by have := hx.2.1; simp only [show (2 : Nat) ^ 4 = 16 by rfl]; omega
      have hz : 0 < z ∧ z ≤ 257 := by omega
      have hbw : b < wr.heap.size := by have := hF.size; omega
      have hgw : ∀ m, g' = some m → m < wr.heap.size := by
        obtain ⟨v, l, rest, n, hW2, _, _, _, e⟩ := hW
        intro m hm; exact (World.ownsRow.lt hW2.own m (by rw [e, hm])).2
      have hP : ∀ wx, Below wr.heap.size wr wx → Calls Tryz.prog 100 #[.pointer (some ⟨b, 0, none⟩), .int .i64 (y : Int), .int .i64 4] wx fun e w' => e = .returned (.int .i64 0) ∧
          ∃ g2, Wt w' B b g2 (tb (R.take k) ++ toB 4 y) ∧ Frm wx w' b g' ∧ Nxt wx g' g2 := fun wx hb => Put_any wx B b g' _ y 4 (wt_ext hW hb) hy (by omega) (by omega)
      have hQ : ∀ wx g2, Wt wx B b g2 (tb (R.take k) ++ toB 4 y) → Calls Tryz.prog 101 #[.pointer (some ⟨b, 0, none⟩), .int .i64 (z : Int)] wx fun e w' => e = .returned (.int .i64 0) ∧
          ∃ g3, Wt w' B b g3 (tb (R.take (k + 1))) ∧ Frm wx w' b g2 ∧ Nxt wx g2 g3 := fun wx g2 hW2 => by
        rw [hst]
        exact gamma_any wx B b g2 _ z hW2 hz.1 (by omega) (by rw [List.length_append, length_toB]; omega)
      have HP := Lib.hid hP
      have HQ := Lib.hid hQ
      have HF : Aside (Frm w1 wr b g ∧ Nxt w1 g g') := ⟨hF, hN⟩
      have HGW := Lib.hid hgw
      clear hP hQ hF hN hW hgw hst hcs hx htl hxk hbk hy hz H
      go_wp2_with fail
      refine (HP.out _ (ext_alloc wr _)).mono ?_
      rintro e2 w2 ⟨rfl, g2, hW2, hF2, hN2⟩
      have hcell : w2.cell? ⟨wr.heap.size, 1, none⟩ = some (.int .i64 (z : Int)) := by
        rw [World.cell?_of_block (hF2.blk wr.heap.size (by simp) (by omega) (fun e => by have := HGW.out _ e.symm; omega)), World.cell?_alloc_new]; rfl
      have HF2 : Aside (Frm w1 w2 b g ∧ Nxt w1 g g2) := by
        refine ⟨(HF.out.1.trans (frm_of_below (ext_alloc wr _) b g') HF.out.2).trans hF2 HF.out.2, HF.out.2.trans hN2 ?_⟩
        have := HF.out.1.size; rw [World.size_alloc]; omega
      clear hF2 hN2 HF
      have HW2 := Lib.hid hW2
      clear hW2
      go_wp2_with fail
      refine (HQ.out _ g2 HW2.out).mono ?_
      rintro e3 w3 ⟨rfl, g3, hW3, hF3, hN3⟩
      have HN : Aside (∃ g', Wt w3 B b g' (tb (R.take (k + 1))) ∧ Frm w1 w3 b g ∧ Nxt w1 g g') := ⟨g3, hW3, HF2.out.1.trans hF3 HF2.out.2, HF2.out.2.trans hN3 HF2.out.1.size⟩
      clear hW3 hF3 hN3 HW2 HF2 HP HQ
      go_wp2_with fail
      go_roundg (R.length - (k + 1))
      case measure => omega
      case rel => exact ⟨k + 1, by go_num, by omega, by omega, HN.out⟩
    · have e : R.take k = R := List.take_of_length_le (by omega)
      have hE : ∃ g', Wt wr B b g' (tb R) ∧ Frm w wr b g ∧ Nxt w g g' := by
        obtain ⟨g', h1, h2, h3⟩ := H.out
        rw [e] at h1
        refine ⟨g', h1, (frm_of_below HB1.out b g).trans h2 (.inl rfl), ?_⟩
        rcases h3 with e | ⟨m, e, hm⟩
        · exact .inl e
        · exact .inr ⟨m, e, Nat.le_trans HB1.out.size hm⟩
      have HE : Aside _ := hE
      clear H hE e
      go_wp2_with fail
      go_ret
      exact ⟨rfl, HE.out⟩
end Tb
end Go.Proofs.YtpbphhpldlckbaaGreat
namespace Go.Proofs.YtpbphhpldlckbaaGreat
namespace Hf
open Go.RowKit Cn
open Bt (Frm Wt Nxt)

set_option maxHeartbeats 3200000 in
set_option maxRecDepth 100000 in
theorem hbest_any (A : Option Addr) (n c : Nat) (l : List Int) (w : World) (hn : n ≤ 20000) (hall : l.all okS = true) (hrd : Rd w w.heap.size 1 A n (l.map (Value.int .i64))) :
    Calls Tryz.prog 72 #[.slice A n c] w fun e w' => ∃ v u, e = .returned (.tuple #[v, u, .int .i64 0]) ∧ Own w' w.heap.size v (lns l) ∧ Below w.heap.size w w' := by
  have mixed : Tryz.prog.follows .mixedOrders = true := by kernel_rfl
  have hcon := counts_any A n c l w (by omega) hrd
  rw [(ctsE_yes l hall).1, (ctsE_yes l hall).2] at hcon
  have HC := Lib.hid hcon
  have hln : l.length = n := by simpa using hrd.len
  have HBD := Lib.hid (cts_bd l)
  have HLN := Lib.hid hln
  clear hcon hrd hln
  go_enter Tryz.func72, Tryz.ntmps72
  go_wp2_with fail
  refine HC.out.mono ?_
  rintro e1 w1 ⟨v1, rfl, hown1, hb1⟩
  obtain ⟨A1, c1, rfl, _, _, hr1⟩ := hown1.rd
  have hb := Ln.best_any A1 (cts l).length c1 (cts l) w1 (by rw [length_cts]; omega) (fun x hx => ⟨(HBD.out x hx).1, by have := (HBD.out x hx).2; have := HLN.out; omega⟩) hr1
  have HB := Lib.hid hb
  have HB1 := Lib.hid hb1
  clear hb hb1 hown1 hr1 HC
  rw [length_cts] at HB ⊢
  go_wp2_with fail
  refine HB.out.mono ?_
  rintro e2 w2 ⟨v2, rfl, hown2, hb2⟩
  have hs1 := HB1.out.size
  have HX : Aside (Own w2 w.heap.size v2 (lns l) ∧ Below w.heap.size w w2) := ⟨hown2.lower hs1, HB1.out.trans (hb2.mono hs1)⟩
  clear hown2 hb2 HB
  go_wp2_with fail
  go_ret3
  exact ⟨_, _, rfl, HX.out.1, HX.out.2⟩

theorem wt_new (w : World) : Wt (w.alloc (.cells #[.slice none 0 0, .int .u64 0, .int .i64 0] 138)) w.heap.size w.heap.size none [] :=
  ⟨.slice none 0 0, [], 0, 0, ⟨heap_alloc_new w _, Nat.le_refl _, World.ownsRow_nil _ _ _ _, by simp [Value.ownBlock]⟩, by omega, by omega, rfl, rfl⟩
theorem wt_lt {w : World} {B b : Nat} {g : Option Nat} {bs : List Bool} (h : Wt w B b g bs) : b < w.heap.size ∧ B ≤ b ∧ ∀ k, g = some k → B ≤ k := by
  obtain ⟨v, l, rest, n, hW, _, _, _, rfl⟩ := h
  exact ⟨hW.lt, hW.ge, fun k hk => (World.ownsRow.lt hW.own k hk).1⟩
theorem enc_take (l syms : List Int) (k : Nat) (h : k < syms.length) : enc l (syms.take (k + 1)) = enc l (syms.take k) ++ Bt.toB (l.getD syms[k].toNat 0).toNat (wd l syms[k].toNat) := by
  unfold enc
  rw [List.take_add_one, List.getElem?_eq_getElem h, List.flatMap_append]
  simp
theorem enc_len (l : List Int) (h : ∀ x ∈ l, 0 ≤ x ∧ x ≤ 15) : ∀ (syms : List Int), (enc l syms).length ≤ 15 * syms.length
  | [] => by simp [enc]
  | s :: r => by
    have e : enc l (s :: r) = Bt.toB (l.getD s.toNat 0).toNat (wd l s.toNat) ++ enc l r := rfl
    have ih := enc_len l h r
    have hx : (l.getD s.toNat 0).toNat ≤ 15 := by
      rw [List.getD_eq_getElem?_getD]
      by_cases hs : s.toNat < l.length
      · rw [List.getElem?_eq_getElem hs]
        have := h _ (List.getElem_mem hs)
        simp only [Option.getD_some]; omega
      · rw [List.getElem?_eq_none (by omega)]; simp
    rw [e, List.length_append, Bt.length_toB, List.length_cons]; omega

set_option maxHeartbeats 3200000 in
set_option maxRecDepth 100000 in
theorem encode_any (A : Option Addr) (n c : Nat) (l : List Int) (w : World) (hn : n ≤ 20000) (hall : l.all okS = true) (hrd : Rd w w.heap.size 1 A n (l.map (Value.int .i64))) :
    Calls Tryz.prog 48 #[.slice A n c] w fun e w' => e = .returned (.tuple #[.string ⟨(hbyt l).toArray⟩, .int .i64 0]) ∧ Below w.heap.size w w' := by
  have mixed : Tryz.prog.follows .mixedOrders = true := by kernel_rfl
  have hln : l.length = n := by simpa using hrd.len
  have HB := Lib.hid (hbest_any A n c l w hn hall hrd)
  have HR := Lib.hid hrd
  have HALL := Lib.hid hall
  have HLN := Lib.hid hln
  have hg := lns_good l
  have hlen := length_lns l
  have hck := check_lns l
  have hus : ∀ k, (h : k < l.length) → 0 ≤ l[k] ∧ ∃ hs : l[k].toNat < (lns l).length, 0 < (lns l)[l[k].toNat] := by
    intro k h
    have hs := List.getElem_mem h
    have ho : 0 ≤ l[k] ∧ l[k] < 257 := by simpa [okS] using List.all_eq_true.1 hall l[k] hs
    refine ⟨ho.1, by omega, ?_⟩
    obtain ⟨h1, h2⟩ := cts_pos l l[k] hs hall
    have := (hg.used l[k].toNat h1).2 h2
    rwa [List.getD_eq_getElem?_getD, List.getElem?_eq_getElem (by omega)] at this
  have hrl : (Tb.runs (lns l)).length ≤ 257 := by
    have h1 := Tb.runs_good (lns l) hg.rng
    have := Tb.length_le_flat _ _ h1.1
    rw [h1.2] at this; omega
  have htl : (Tb.tb (Tb.runs (lns l))).length ≤ 10000 := by
    have h1 := Tb.runs_good (lns l) hg.rng
    have := Tb.length_tb_le (Tb.runs (lns l)) (fun x hx => by
      have := Tb.good_mem _ _ h1.1 x hx
      rw [h1.2] at this; omega)
    omega
  have hel := enc_len (lns l) hg.rng
  have hhb : hbyt l = Bt.byt (Tb.tb (Tb.runs (lns l)) ++ enc (lns l) (l.take l.length)) := by rw [List.take_length]; rfl
  have HHB := Lib.hid hhb
  have HRNG := Lib.hid hg.rng
  have HEL := Lib.hid hel
  have HUS := Lib.hid hus
  have HCK := Lib.hid hck
  generalize lns l = L at *
  have HPUT := Lib.hid (fun (w : World) B b g A c hW hrd => Tb.tput_any w B b g A 257 c L hW (by omega) hck hg.rng hrd)
  have HOKL := Lib.hid (ok_check hck).1
  generalize Tb.tb (Tb.runs L) = T at *
  clear hrd hall hln hg hck hus hel hhb hrl
  go_enter Tryz.func48, Tryz.ntmps48
  go_wp2_with fail
  refine HB.out.mono ?_
  rintro e1 w1 ⟨v1, u1, rfl, hown1, hb1⟩
  obtain ⟨A1, c1, rfl, _, _, hr1⟩ := hown1.rd
  rw [hlen] at hr1 ⊢
  have HR1 := Lib.hid hr1
  have HB1 := Lib.hid hb1
  clear hown1 hr1 hb1 HB
  go_wp2_with fail
  refine (new_any A1 257 c1 L w1 (by omega) HCK.out HOKL.out HR1.out).mono ?_
  rintro e2 w2 ⟨b, rfl, hcd, hbge, hb2, _⟩
  have HCD := Lib.hid hcd
  have HB2 := Lib.hid hb2
  have hblt := hcd.lt
  have hs1 := HB1.out.size
  have hs2 := hb2.size
  clear hcd hb2
  go_wp2_with fail
  have hw3 := wt_new w2
  have hb3 : Below w2.heap.size w2 (w2.alloc (.cells #[.slice none 0 0, .int .u64 0, .int .i64 0] 138)) := (Below.refl _ _).alloc (Nat.le_refl _) _
  generalize w2.alloc (.cells #[.slice none 0 0, .int .u64 0, .int .i64 0] 138) = w3 at *
  have hr3 : Rd w3 w3.heap.size 1 A1 257 (L.map (Value.int .i64)) := ((HR1.out.below HB2.out).more HB2.out.size).ext hb3
  refine (HPUT.out w3 _ _ _ A1 c1 hw3 hr3).mono ?_
  rintro e4 w4 ⟨rfl, g4, hW4, hF4, hN4⟩
  have hb4 : Below w2.heap.size w2 w4 := hb3.trans (hF4.below (Nat.le_refl _) (wt_lt hw3).1 (by simp))
  have H0 : Aside (Wt w4 w2.heap.size w2.heap.size g4 (T ++ enc L (l.take 0)) ∧ Below w2.heap.size w2 w4) := ⟨by simpa [enc] using hW4, hb4⟩
  clear hw3 hb3 hr3 hW4 hF4 hN4 hb4 HPUT
  go_wp2_with fail
  go_loopg [40] n (fun kx s40 wr => ∃ (k : Nat), s40 = .int .i64 (k : Int) ∧ k ≤ n ∧ n - k ≤ kx ∧ Aside (∃ g, Wt wr w2.heap.size w2.heap.size g (T ++ enc L (l.take k)) ∧ Below w2.heap.size w2 wr))
  case atStart => exact ⟨0, rfl, by omega, by omega, g4, H0.out⟩
  case round =>
    clear H0
    obtain ⟨k, rfl, hk, hkx, H⟩ := hrel
    obtain ⟨g, hW, hbw⟩ := H.out
    have hB02 : Below w.heap.size w w2 := HB1.out.trans (HB2.out.mono hs1)
    by_cases hlt : k < n
    · have hb0 : Below w.heap.size w wr := hB02.trans (hbw.mono (by omega))
      obtain ⟨ad, x, rfl, had, hx, hcell⟩ := (HR.out.below hb0).int1 hlt
      have hkl : k < l.length := by have := HLN.out; omega
      have hkx2 : l[k] = x := by rw [List.getElem?_eq_getElem hkl] at hx; exact Option.some.inj hx
      have hu := HUS.out k hkl
      have het := enc_take L l k hkl
      rw [hkx2] at hu het
      obtain ⟨s, rfl⟩ : ∃ s : Nat, x = (s : Int) := ⟨x.toNat, by omega⟩
      rw [Int.toNat_natCast] at hu het
      obtain ⟨_, hsl, hsp⟩ := hu
      rw [List.getD_eq_getElem?_getD, List.getElem?_eq_getElem hsl, Option.getD_some] at het
      have hel := HEL.out (l.take k)
      rw [List.length_take] at hel
      have HP := Lib.hid (cput_any wr b s L w2.heap.size w2.heap.size g (T ++ enc L (l.take k)) (HCD.out.ext hbw) HOKL.out (by omega) hsl hsp hW (by rw [List.length_append]; omega))
      have HET := Lib.hid het
      have HBW := Lib.hid hbw
      have HWL := Lib.hid (wt_lt hW)
      clear hb0 hx hkl hkx2 het hel had hW hbw H
      go_wp2_with fail
      refine HP.out.mono ?_
      rintro e5 w5 ⟨rfl, g5, hW5, hF5, hN5⟩
      have hX : ∃ g, Wt w5 w2.heap.size w2.heap.size g (T ++ enc L (l.take (k + 1))) ∧ Below w2.heap.size w2 w5 :=
        ⟨g5, by rw [HET.out, ← List.append_assoc]; exact hW5, HBW.out.trans (hF5.below (Nat.le_refl _) HWL.out.1 HWL.out.2.2)⟩
      have HX : Aside _ := hX
      clear hX hW5 hF5 hN5 HP
      go_wp2_with fail
      go_roundg (n - (k + 1))
      case measure => omega
      case rel => exact ⟨k + 1, by go_num, by omega, by omega, HX.out⟩
    · obtain rfl : k = l.length := by have := HLN.out; omega
      have hel := HEL.out (l.take l.length)
      rw [List.length_take] at hel
      have HT := Lib.hid (Bt.text_any wr w2.heap.size w2.heap.size g (T ++ enc L (l.take l.length)) hW (by rw [List.length_append]; omega))
      have HBB := Lib.hid (hB02.trans (hbw.mono (by omega)))
      clear hel hW hbw H
      go_wp2_with fail
      refine HT.out.mono ?_
      rintro e5 w5 ⟨rfl, hb5⟩
      have HX := Lib.hid (ext_trans HBB.out hb5)
      clear hb5 HT
      rw [show Bt.btxt (T ++ enc L (l.take l.length)) = ⟨(hbyt l).toArray⟩ by rw [HHB.out]; rfl]
      go_wp2_with fail
      go_ret2
      exact ⟨rfl, HX.out⟩
end Hf
end Go.Proofs.YtpbphhpldlckbaaGreat
