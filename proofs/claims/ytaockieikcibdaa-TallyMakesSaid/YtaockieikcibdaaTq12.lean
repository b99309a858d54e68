/- varveref45.Top. varvelaw45: own, same. -/
import Derived.Test.YtaockieikcibdaaTq11
import Derived.Test.YtaockieikcibdaaTq05
import Derived.Test.YtaockieikcibdaaTq04
namespace Go.Proofs.Ytaockieikcibdaa
namespace Tm
open Go.RowKit Go.Maps Go.Sort Ta

theorem ownF_empty2 (w : World) (x : Bu) : OwnF ((w.drew.alloc (.cells #[.int .i64 x.1, .int .i64 x.2.1, .int .i64 x.2.2] 42)).alloc (.cells #[] 42)) w.heap.size (.slice (some ⟨w.heap.size + 1, 0, none⟩) 0 0) [] := by
  have h := ownF_empty (w.drew.alloc (.cells #[.int .i64 x.1, .int .i64 x.2.1, .int .i64 x.2.2] 42))
  have e : (w.drew.alloc (.cells #[.int .i64 x.1, .int .i64 x.2.1, .int .i64 x.2.2] 42)).heap.size = w.heap.size + 1 := by simp
  rw [e] at h
  exact h.lower (Nat.le_succ _)
theorem drop_some {w w' : World} {ad : Addr} {n c k : Nat} {l : List Bu} (h : Arg w (some ad) n c l) (hb : Below w.heap.size w w') (hk : k < n) : Rd w' w'.heap.size 3 (some (ad.add (k * 3))) (n - k) (flT (l.drop k)) := by
  have h1 := drop_rd h hb (Nat.le_of_lt hk)
  rw [if_neg (by have := h.nc; omega)] at h1
  exact h1
theorem rd_far' {w w' : World} {g b : Nat} {x : Bu} {t : TypeId} (hb : w.heap.size = b) (h : (w.alloc (.cells #[.int .i64 x.1, .int .i64 x.2.1, .int .i64 x.2.2] t)).grownBy w' (some g)) (hg : g ≠ w.heap.size) : Rd w' w'.heap.size 3 (some ⟨b, 0, none⟩) 1 (flT [x]) := by
  subst hb
  exact rd_far h hg
theorem take_rd {w w' : World} {A : Option Addr} {n c k : Nat} {l : List Bu} (h : Arg w A n c l) (hb : Below w.heap.size w w') (hk : k ≤ n) : Rd w' w'.heap.size 3 A k (flT (l.take k)) := by
  have h1 := (h.rd.ext hb).take (k := k) hk
  rwa [Tm.flT_take] at h1
set_option maxHeartbeats 6400000 in
set_option maxRecDepth 100000 in
theorem rtop_any (A : Option Addr) (n c : Nat) (l : List Bu) (m : Int) (w : World) (ha : Arg w A n c l) (hn : n ≤ 1000000) :
    Calls Try.prog 19 #[.slice A n c, .int .i64 m] w fun e w' => (∃ A' c', e = .returned (.slice A' (topN l m) c') ∧ Rd w' w'.heap.size 3 A' (topN l m) (flT ((St.stab cKey l).take (topN l m)))) ∧ Below w.heap.size w w' := by
  have mixed : Try.prog.follows .mixedOrders = true := by kernel_rfl
  have HA := Lib.hid ha
  clear ha
  go_enter Try.func19, Try.ntmps19
  go_wp2_with fail
  go_loopw [5, 6] (fun s i wr => ∃ (k : Nat) (v : Value), i = .int .i64 (k : Int) ∧ v = s ∧ k ≤ n ∧ Hid (Res wr v (St.stab cKey (l.take k)) ∧ Below w.heap.size w wr)) (fun _ i _ => n - (intOf i).toNat)
  case atStart => exact ⟨0, _, by go_num, rfl, by omega, res_nil _, Below.refl _ _⟩
  case round =>
    obtain ⟨i, v, rfl, hv, hi, HX⟩ := hrel
    subst hv
    obtain ⟨⟨Ao, co, hve, hao⟩, hbo⟩ := HX.out
    subst hve
    rw [St.length_stab, List.length_take] at hao ⊢
    rw [show min i l.length = i by have := HA.out.len; omega] at hao ⊢
    have HAO := Lib.hid hao
    have HB := Lib.hid hbo
    have hnc := hao.nc
    have hcm : co ≤ 9223372036854775807 := by have := hao.cm; unfold maxLen at this; omega
    clear hao hbo HX
    by_cases hin : i < n
    · obtain ⟨ad, t, cc, y, hA, hbk, hx, a0, a1, a2⟩ := recT (HA.out.rd.below HB.out) hin
      have HXI := Lib.hid hx
      have HBK := Lib.hid hbk
      have HC0 := Lib.hid (And.intro a0 (And.intro a1 a2))
      subst hA
      clear hx hbk a0 a1 a2
      go_wp2_with fail
      generalize wr = wo at *
      go_loopw [7] (fun j wi => ∃ k : Nat, j = .int .i64 (k : Int) ∧ k ≤ i ∧ Hid (Below wo.heap.size wo wi ∧ ∀ j x, j < k → (St.stab cKey (l.take i))[j]? = some x → cc ≤ x.2.1)) (fun j _ => i - (intOf j).toNat)
      case atStart => exact ⟨0, by go_num, by omega, Below.refl _ _, fun j x h => absurd h (by omega)⟩
      case round =>
        obtain ⟨k, rfl, hk, HY⟩ := hrel
        have HY2 := Lib.hid HY.out
        have hwo : (ad.add (i * 3)).block < wo.heap.size := by rw [Ta.add_block]; have := HBK.out; have := HB.out.size; omega
        have c1 := (HY.out.1.cell (p := ⟨(ad.add (i * 3)).block, (ad.add (i * 3)).off + 1, none⟩) hwo).trans HC0.out.2.1
        have c0 := HY.out.1
        have c2 := HY.out.1
        clear hwo HY
        by_cases hki : k < i
        · obtain ⟨ao, b0, b1, b2, hAo, -, hxk, -, g1, -⟩ := recT (HAO.out.rd.ext HY2.out.1) hki
          have HXK := Lib.hid hxk
          subst hAo
          clear hxk
          by_cases hge : cc ≤ b1
          · have hall : ∀ j x, j < k + 1 → (St.stab cKey (l.take i))[j]? = some x → cc ≤ x.2.1 := by
              intro j x hj hx
              rcases Nat.lt_or_ge j k with h | h
              · exact HY2.out.2 j x h hx
              · obtain rfl : j = k := by omega
                rw [HXK.out] at hx; cases hx; exact hge
            have HALL := Lib.hid (And.intro (below_drewN HY2.out.1) hall)
            clear hall c0 c2
            go_wp2_with fail
            go_quiet (fail)
            go_wp2_with fail
            exact ⟨⟨k + 1, by go_num, by omega, HALL.out.1 _, HALL.out.2⟩, by simp [intOf]; omega⟩
          · have hd : decide (cc ≤ b1) = false := decide_eq_false hge
            have HST := Lib.hid (stab_snoc (l.take i) (t, cc, y) k HY2.out.2 (by rw [List.length_take]; have := HA.out.len; omega) (fun z hz => by rw [HXK.out] at hz; cases hz; simp only; omega))
            clear hge
            go_wp2_with fail
            go_quiet (fail)
            clear hd g1
            go_wp2_with fail
            have hb3 := below_drewN HY2.out.1 nq
            clear c0 c1 c2
            generalize wr.drewN nq = w3 at *
            have hA3 := HAO.out.ext hb3
            have HB3 := Lib.hid (HB.out.trans (hb3.mono HB.out.size))
            have HA3 := Lib.hid hA3
            have hbl : (ad.add (i * 3)).block < w3.heap.size := by rw [Ta.add_block]; have := HBK.out; have := HB3.out.size; omega
            have hwo : (ad.add (i * 3)).block < wo.heap.size := by rw [Ta.add_block]; have := HBK.out; have := HB.out.size; omega
            have a0 := (hb3.cell (p := ad.add (i * 3)) hwo).trans HC0.out.1
            have a1 := (hb3.cell (p := ⟨(ad.add (i * 3)).block, (ad.add (i * 3)).off + 1, none⟩) hwo).trans HC0.out.2.1
            have a2 := (hb3.cell (p := ⟨(ad.add (i * 3)).block, (ad.add (i * 3)).off + 2, none⟩) hwo).trans HC0.out.2.2
            have hC : ∀ wx, Below w3.heap.size w3 wx → (wx.cell? (ad.add (i * 3)) = some (.int .i64 t) ∧ wx.cell? ⟨(ad.add (i * 3)).block, (ad.add (i * 3)).off + 1, none⟩ = some (.int .i64 cc) ∧ wx.cell? ⟨(ad.add (i * 3)).block, (ad.add (i * 3)).off + 2, none⟩ = some (.int .i64 y)) ∧ Below w3.heap.size w3 wx := fun wx hb =>
              ⟨⟨(hb.cell (p := ad.add (i * 3)) hbl).trans a0, (hb.cell (p := ⟨(ad.add (i * 3)).block, (ad.add (i * 3)).off + 1, none⟩) hbl).trans a1, (hb.cell (p := ⟨(ad.add (i * 3)).block, (ad.add (i * 3)).off + 2, none⟩) hbl).trans a2⟩, hb⟩
            have HC := Lib.hid hC
            have hdr : Below w3.heap.size w3 w3.drew := ⟨rfl, rfl, rfl, Nat.le_refl _, fun _ _ => rfl⟩
            have HSd := Lib.hid (HC.out _ hdr)
            have HSa := Lib.hid (HC.out _ (hdr.trans (ext_alloc w3.drew (.cells #[] 42))))
            have HSx := Lib.hid (HC.out _ (hdr.trans (ext_alloc w3.drew (.cells #[.int .i64 t, .int .i64 cc, .int .i64 y] 42))))
            have HSax := Lib.hid (HC.out _ (HSa.out.2.trans ((ext_alloc (w3.drew.alloc (.cells #[] 42)) (.cells #[.int .i64 t, .int .i64 cc, .int .i64 y] 42)).mono HSa.out.2.size)))
            have HSxa := Lib.hid (HC.out _ (HSx.out.2.trans ((ext_alloc (w3.drew.alloc (.cells #[.int .i64 t, .int .i64 cc, .int .i64 y] 42)) (.cells #[] 42)).mono HSx.out.2.size)))
            have HOa := Lib.hid (show OwnF (w3.drew.alloc (.cells #[] 42)) w3.heap.size (.slice (some ⟨w3.heap.size, 0, none⟩) 0 0) [] from ownF_empty w3.drew)
            have HOax := Lib.hid (HOa.out.below (ext_alloc (w3.drew.alloc (.cells #[] 42)) (.cells #[.int .i64 t, .int .i64 cc, .int .i64 y] 42)) (Nat.le_refl _))
            have HOxa := Lib.hid (ownF_empty2 w3 (t, cc, y))
            have hkc : k ≤ co := by omega
            have hkn : ¬ co = k := by omega
            have HTK := Lib.hid (fun (wx : World) (hb : Below w3.heap.size w3 wx) => take_rd HA3.out hb hk)
            have HDR := Lib.hid (fun (wx : World) (hb : Below w3.heap.size w3 wx) => drop_some HA3.out hb hki)
            clear hC hdr hA3 hb3 hbl hwo a0 a1 a2
            go_region_held3 (fun wx => (wx.cell? (ad.add (i * 3)) = some (.int .i64 t) ∧ wx.cell? ⟨(ad.add (i * 3)).block, (ad.add (i * 3)).off + 1, none⟩ = some (.int .i64 cc) ∧ wx.cell? ⟨(ad.add (i * 3)).block, (ad.add (i * 3)).off + 2, none⟩ = some (.int .i64 y)) ∧ Below w3.heap.size w3 wx) (first | exact HSd.out | exact HSa.out | exact HSx.out | exact HSax.out | exact HSxa.out | assumption | exact HC.out _ (hS4.2.trans ((ext_alloc w4 _).mono hS4.2.size))) (first
              | (refine step_appG (.tmp 33) (.tmp 36) rfl rfl HOa.out (HTK.out _ HSa.out.2) HA3.out.no (by simp) (by omega) HSa.out.2.size (by rfl) (by rfl) ?_; intro v4 w4 hown4 hb4 hg4; rw [List.nil_append] at hown4; have hS4 := HC.out w4 (HSa.out.2.trans hb4))
              | (refine step_appG (.tmp 33) (.tmp 36) rfl rfl HOax.out (HTK.out _ HSax.out.2) HA3.out.no (by simp) (by omega) HSax.out.2.size (by rfl) (by rfl) ?_; intro v4 w4 hown4 hb4 hg4; rw [List.nil_append] at hown4; have hS4 := HC.out w4 (HSax.out.2.trans hb4); have hrx := rd_far' (b := w3.heap.size + 1) (x := (t, cc, y)) (t := 42) (w := w3.drew.alloc (.cells #[] 42)) (by simp) (g := w3.heap.size) (show ((w3.drew.alloc (.cells #[] 42)).alloc (.cells #[.int .i64 t, .int .i64 cc, .int .i64 y] 42)).grownBy w4 (some w3.heap.size) from hg4) (by simp))
              | (refine step_appG (.tmp 33) (.tmp 36) rfl rfl HOxa.out (HTK.out _ HSxa.out.2) HA3.out.no (by simp) (by omega) HSxa.out.2.size (by rfl) (by rfl) ?_; intro v4 w4 hown4 hb4 hg4; rw [List.nil_append] at hown4; have hS4 := HC.out w4 (HSxa.out.2.trans hb4); have hrx := rd_far (x := (t, cc, y)) (t := 42) (w := w3.drew) (g := w3.heap.size + 1) ((World.grownBy_alloc (w3.drew.alloc (.cells #[.int .i64 t, .int .i64 cc, .int .i64 y] 42)) (.cells #[] 42) (some (w3.heap.size + 1))).trans (show ((w3.drew.alloc (.cells #[.int .i64 t, .int .i64 cc, .int .i64 y] 42)).alloc (.cells #[] 42)).grownBy w4 (some (w3.heap.size + 1)) from hg4)) (by simp))
              | (refine step_appG (c := 1) (.tmp 37) (.tmp 42) rfl rfl (hown4.below (ext_alloc w4 (.cells #[.int .i64 t, .int .i64 cc, .int .i64 y] 42)) (Nat.le_refl _)) (rd_new w4 (t, cc, y) 42) (fun h => by cases h) (tk_len (by omega)) (by omega) (Nat.le_trans hS4.2.size (ext_alloc w4 (.cells #[.int .i64 t, .int .i64 cc, .int .i64 y] 42)).size) (by rfl) (by rfl) ?_; intro v5 w5 hown5 hb5 hg5; have hS5 := HC.out w5 (hS4.2.trans (((ext_alloc w4 (.cells #[.int .i64 t, .int .i64 cc, .int .i64 y] 42)).mono hS4.2.size).trans hb5)))
              | (refine step_appG (c := 1) (.tmp 37) (.tmp 42) rfl rfl hown4 hrx (fun h => by cases h) (tk_len (by omega)) (by omega) hS4.2.size (by rfl) (by rfl) ?_; intro v5 w5 hown5 hb5 hg5; have hS5 := HC.out w5 (hS4.2.trans hb5))
              | (refine step_appG (c := co - k) (.tmp 43) (.tmp 46) rfl rfl hown5 (HDR.out _ hS5.2) (fun h => by cases h) (tk_len1 (by omega)) (by omega) hS5.2.size (by rfl) (by rfl) ?_; intro v6 w6 hown6 hb6 hg6; have hS6 := HC.out w6 (hS5.2.trans hb6)))
            all_goals (
              have hres := hown6.res
              rw [← HST.out, ← take_one l i _ HXI.out] at hres
              have HX6 := Lib.hid (And.intro hres (HB3.out.trans (hS6.2.mono HB3.out.size)))
              clear hres hown6 hown5 hown4 hS6 hS5 hS4
              go_wp2_with fail
              exact ⟨⟨i + 1, v6, by go_num, rfl, by omega, HX6.out⟩, by simp [intOf]; omega⟩)
        · obtain rfl : i = k := by omega
          have HST := Lib.hid (stab_snoc (l.take i) (t, cc, y) i HY2.out.2 (by rw [List.length_take]; have := HA.out.len; omega) (fun z hz => by rw [List.getElem?_eq_none (by rw [St.length_stab, List.length_take]; omega)] at hz; cases hz))
          go_wp2_with fail
          go_quiet (fail)
          go_wp2_with fail
          have hb3 := below_drewN HY2.out.1 nq
          clear c0 c1 c2
          generalize wr.drewN nq = w3 at *
          have hA3 := HAO.out.ext hb3
          have HB3 := Lib.hid (HB.out.trans (hb3.mono HB.out.size))
          have HA3 := Lib.hid hA3
          have hbl : (ad.add (i * 3)).block < w3.heap.size := by rw [Ta.add_block]; have := HBK.out; have := HB3.out.size; omega
          have hwo : (ad.add (i * 3)).block < wo.heap.size := by rw [Ta.add_block]; have := HBK.out; have := HB.out.size; omega
          have a0 := (hb3.cell (p := ad.add (i * 3)) hwo).trans HC0.out.1
          have a1 := (hb3.cell (p := ⟨(ad.add (i * 3)).block, (ad.add (i * 3)).off + 1, none⟩) hwo).trans HC0.out.2.1
          have a2 := (hb3.cell (p := ⟨(ad.add (i * 3)).block, (ad.add (i * 3)).off + 2, none⟩) hwo).trans HC0.out.2.2
          have hC : ∀ wx, Below w3.heap.size w3 wx → (wx.cell? (ad.add (i * 3)) = some (.int .i64 t) ∧ wx.cell? ⟨(ad.add (i * 3)).block, (ad.add (i * 3)).off + 1, none⟩ = some (.int .i64 cc) ∧ wx.cell? ⟨(ad.add (i * 3)).block, (ad.add (i * 3)).off + 2, none⟩ = some (.int .i64 y)) ∧ Below w3.heap.size w3 wx := fun wx hb =>
            ⟨⟨(hb.cell (p := ad.add (i * 3)) hbl).trans a0, (hb.cell (p := ⟨(ad.add (i * 3)).block, (ad.add (i * 3)).off + 1, none⟩) hbl).trans a1, (hb.cell (p := ⟨(ad.add (i * 3)).block, (ad.add (i * 3)).off + 2, none⟩) hbl).trans a2⟩, hb⟩
          have HC := Lib.hid hC
          have hdr : Below w3.heap.size w3 w3.drew := ⟨rfl, rfl, rfl, Nat.le_refl _, fun _ _ => rfl⟩
          have HSd := Lib.hid (HC.out _ hdr)
          have HSa := Lib.hid (HC.out _ (hdr.trans (ext_alloc w3.drew (.cells #[] 42))))
          have HSx := Lib.hid (HC.out _ (hdr.trans (ext_alloc w3.drew (.cells #[.int .i64 t, .int .i64 cc, .int .i64 y] 42))))
          have HSax := Lib.hid (HC.out _ (HSa.out.2.trans ((ext_alloc (w3.drew.alloc (.cells #[] 42)) (.cells #[.int .i64 t, .int .i64 cc, .int .i64 y] 42)).mono HSa.out.2.size)))
          have HSxa := Lib.hid (HC.out _ (HSx.out.2.trans ((ext_alloc (w3.drew.alloc (.cells #[.int .i64 t, .int .i64 cc, .int .i64 y] 42)) (.cells #[] 42)).mono HSx.out.2.size)))
          have HOa := Lib.hid (show OwnF (w3.drew.alloc (.cells #[] 42)) w3.heap.size (.slice (some ⟨w3.heap.size, 0, none⟩) 0 0) [] from ownF_empty w3.drew)
          have HOax := Lib.hid (HOa.out.below (ext_alloc (w3.drew.alloc (.cells #[] 42)) (.cells #[.int .i64 t, .int .i64 cc, .int .i64 y] 42)) (Nat.le_refl _))
          have HOxa := Lib.hid (ownF_empty2 w3 (t, cc, y))
          have hkc : i ≤ co := by omega
          have HTK := Lib.hid (fun (wx : World) (hb : Below w3.heap.size w3 wx) => take_rd HA3.out hb hk)
          have HDR := Lib.hid (fun (wx : World) (hb : Below w3.heap.size w3 wx) => drop_rd0 HA3.out hb)
          clear hC hdr hA3 hb3 hbl hwo a0 a1 a2
          go_region_held3 (fun wx => (wx.cell? (ad.add (i * 3)) = some (.int .i64 t) ∧ wx.cell? ⟨(ad.add (i * 3)).block, (ad.add (i * 3)).off + 1, none⟩ = some (.int .i64 cc) ∧ wx.cell? ⟨(ad.add (i * 3)).block, (ad.add (i * 3)).off + 2, none⟩ = some (.int .i64 y)) ∧ Below w3.heap.size w3 wx) (first | exact HSd.out | exact HSa.out | exact HSx.out | exact HSax.out | exact HSxa.out | assumption | exact HC.out _ (hS4.2.trans ((ext_alloc w4 _).mono hS4.2.size))) (first
            | (refine step_appG (.tmp 33) (.tmp 36) rfl rfl HOa.out (HTK.out _ HSa.out.2) HA3.out.no (by simp) (by omega) HSa.out.2.size (by rfl) (by rfl) ?_; intro v4 w4 hown4 hb4 hg4; rw [List.nil_append] at hown4; have hS4 := HC.out w4 (HSa.out.2.trans hb4))
            | (refine step_appG (.tmp 33) (.tmp 36) rfl rfl HOax.out (HTK.out _ HSax.out.2) HA3.out.no (by simp) (by omega) HSax.out.2.size (by rfl) (by rfl) ?_; intro v4 w4 hown4 hb4 hg4; rw [List.nil_append] at hown4; have hS4 := HC.out w4 (HSax.out.2.trans hb4); have hrx := rd_far' (b := w3.heap.size + 1) (x := (t, cc, y)) (t := 42) (w := w3.drew.alloc (.cells #[] 42)) (by simp) (g := w3.heap.size) (show ((w3.drew.alloc (.cells #[] 42)).alloc (.cells #[.int .i64 t, .int .i64 cc, .int .i64 y] 42)).grownBy w4 (some w3.heap.size) from hg4) (by simp))
            | (refine step_appG (.tmp 33) (.tmp 36) rfl rfl HOxa.out (HTK.out _ HSxa.out.2) HA3.out.no (by simp) (by omega) HSxa.out.2.size (by rfl) (by rfl) ?_; intro v4 w4 hown4 hb4 hg4; rw [List.nil_append] at hown4; have hS4 := HC.out w4 (HSxa.out.2.trans hb4); have hrx := rd_far (x := (t, cc, y)) (t := 42) (w := w3.drew) (g := w3.heap.size + 1) ((World.grownBy_alloc (w3.drew.alloc (.cells #[.int .i64 t, .int .i64 cc, .int .i64 y] 42)) (.cells #[] 42) (some (w3.heap.size + 1))).trans (show ((w3.drew.alloc (.cells #[.int .i64 t, .int .i64 cc, .int .i64 y] 42)).alloc (.cells #[] 42)).grownBy w4 (some (w3.heap.size + 1)) from hg4)) (by simp))
            | (refine step_appG (c := 1) (.tmp 37) (.tmp 42) rfl rfl (hown4.below (ext_alloc w4 (.cells #[.int .i64 t, .int .i64 cc, .int .i64 y] 42)) (Nat.le_refl _)) (rd_new w4 (t, cc, y) 42) (fun h => by cases h) (tk_len (by omega)) (by omega) (Nat.le_trans hS4.2.size (ext_alloc w4 (.cells #[.int .i64 t, .int .i64 cc, .int .i64 y] 42)).size) (by rfl) (by rfl) ?_; intro v5 w5 hown5 hb5 hg5; have hS5 := HC.out w5 (hS4.2.trans (((ext_alloc w4 (.cells #[.int .i64 t, .int .i64 cc, .int .i64 y] 42)).mono hS4.2.size).trans hb5)))
            | (refine step_appG (c := 1) (.tmp 37) (.tmp 42) rfl rfl hown4 hrx (fun h => by cases h) (tk_len (by omega)) (by omega) hS4.2.size (by rfl) (by rfl) ?_; intro v5 w5 hown5 hb5 hg5; have hS5 := HC.out w5 (hS4.2.trans hb5))
            | (refine step_appG (.tmp 43) (.tmp 46) rfl rfl hown5 (HDR.out _ hS5.2) (drop_no HA3.out) (tk_len1 (by omega)) (by omega) hS5.2.size (by rfl) (by rfl) ?_; intro v6 w6 hown6 hb6 hg6; have hS6 := HC.out w6 (hS5.2.trans hb6)))
          all_goals (
            have hres := hown6.res
            rw [← HST.out, ← take_one l i _ HXI.out] at hres
            have HX6 := Lib.hid (And.intro hres (HB3.out.trans (hS6.2.mono HB3.out.size)))
            clear hres hown6 hown5 hown4 hS6 hS5 hS4
            go_wp2_with fail
            exact ⟨⟨i + 1, v6, by go_num, rfl, by omega, HX6.out⟩, by simp [intOf]; omega⟩)
    · obtain rfl : n = i := by omega
      have hln := HA.out.len
      have htk : l.take n = l := List.take_of_length_le (by omega)
      rw [htk] at HAO
      have HT := Lib.hid (fun (wx : World) (hb : Below wr.heap.size wr wx) (q : Nat) (hq : q ≤ n) => take_rd HAO.out hb hq)
      have HLN := Lib.hid hln
      clear htk hln hin
      by_cases hm0 : m < 0
      · have hN : topN l m = 0 := by unfold topN; omega
        have HTN := Lib.hid hN
        by_cases hn0 : n = 0
        · have hq : ¬ (0 : Int) < (n : Int) := by omega
          have HN0 := Lib.hid hn0
          clear hN hn0
          go_wp2_with fail
          all_goals (
            go_ret
            rw [HTN.out]
            first | exact ⟨⟨Ao, co, by rw [← HN0.out]; rfl, HT.out wr (Below.refl _ _) 0 (by omega)⟩, HB.out⟩ | exact ⟨⟨Ao, ⟨co, by rw [← HN0.out]; rfl⟩, HT.out wr (Below.refl _ _) 0 (by omega)⟩, HB.out⟩)
        · have hq : (0 : Int) < (n : Int) := by omega
          have hqn : 0 < n := by omega
          clear hN hn0
          go_wp2_with fail
          all_goals (
            go_ret
            rw [HTN.out]
            first | exact ⟨⟨Ao, co, rfl, HT.out wr (Below.refl _ _) 0 (by omega)⟩, HB.out⟩ | exact ⟨⟨Ao, ⟨co, rfl⟩, HT.out wr (Below.refl _ _) 0 (by omega)⟩, HB.out⟩)
      · by_cases hmn : m < (n : Int)
        · obtain ⟨q, rfl⟩ : ∃ q : Nat, m = (q : Int) := ⟨m.toNat, by omega⟩
          have hN : topN l (q : Int) = q := by unfold topN; have := HLN.out; omega
          have HTN := Lib.hid hN
          have hqn : q < n := by omega
          have hqc : q ≤ co := by omega
          clear hN hm0 hmn
          go_wp2_with fail
          all_goals (
            go_ret
            rw [HTN.out]
            first | exact ⟨⟨Ao, co, rfl, HT.out wr (Below.refl _ _) q (by omega)⟩, HB.out⟩ | exact ⟨⟨Ao, ⟨co, rfl⟩, HT.out wr (Below.refl _ _) q (by omega)⟩, HB.out⟩)
        · have hN : topN l m = n := by unfold topN; have := HLN.out; omega
          have HTN := Lib.hid hN
          clear hN
          go_wp2_with fail
          all_goals (
            go_ret
            rw [HTN.out]
            first | exact ⟨⟨Ao, co, rfl, HT.out wr (Below.refl _ _) n (by omega)⟩, HB.out⟩ | exact ⟨⟨Ao, ⟨co, rfl⟩, HT.out wr (Below.refl _ _) n (by omega)⟩, HB.out⟩)
end Tm
end Go.Proofs.Ytaockieikcibdaa
namespace Go.Proofs.Ytaockieikcibdaa
namespace Tm
open Go.RowKit Ta

section
variable {v : Value} {B : Nat} {l : List Bu}
/-- append(s, x...), as the builtin runs. -/
theorem run_appT {w0 : World} {l2 : List Bu} {A : Option Addr} {n c : Nat} (ty : TypeId) (hown : OwnT w0 B v l) (hrd : Rd w0 w0.heap.size 3 A n (flT l2)) (hA : A = none → c = 0) (hl : l.length ≤ 1000000000) (hn : n ≤ 1000000000) (hB : B ≤ w0.heap.size) :
    ∃ v' w', (Builtin.append_ #[28, 28] ty #[v, .slice A n c]).run Try.prog w0 = .ok v' w' ∧ OwnT w' B v' (l ++ l2) ∧ Below B w0 w' := by
  obtain ⟨i0, hi, hz0, hz1, hz2⟩ := info_parts bu_info
  have hln := rdT_len hrd
  cases A with
  | none =>
    have hn0 : n = 0 := by
      rcases Nat.eq_zero_or_pos n with h0 | h0
      · exact h0
      · obtain ⟨ad, e, _⟩ := hrd.cells (by omega)
        cases e
    have hc0 := hA rfl
    subst hn0 hc0
    have hl2 : l2 = [] := List.eq_nil_of_length_eq_zero hln
    subst hl2
    exact ⟨v, w0, run_append_owned_none (P := Try.prog) (w := w0) B 28 ty 40 i0 3 Try.underlying28 hi v l.length (flT l) hown, by rw [List.append_nil]; exact hown, Below.refl _ _⟩
  | some ad =>
    obtain ⟨v', w', hr, h2, h3, -, -⟩ := run_append_own_at (P := Try.prog) w0 B 28 ty 40 i0 (.agg #[.int .i64 0, .int .i64 0, .int .i64 0]) 3 24 Try.underlying28 hi hz0 hz1 hz2 rfl (by omega) v l.length (flT l) hown
      ad n c (flT l2) (by rw [length_fl3, hln]) (by
        intro j u hu
        have hj : j < n * 3 := by
          have := (List.getElem?_eq_some_iff.1 hu).1
          rw [length_fl3, hln] at this; exact this
        obtain ⟨ad', e, _, hc⟩ := hrd.cells (by omega)
        cases e
        exact hc j u hu) (flT_one l2) (by simp only [maxLen]; omega) (by omega) hB
    have hlt := World.ownsRow.lt hown
    refine ⟨v', w', hr, ?_, ((Below.refl _ _).grown h3 hB (fun k hk => (hlt k hk).1))⟩
    unfold OwnT
    rw [List.length_append, flT_append, hln]; exact h2
end
section
variable {ops : Array Oper} {o : Oper} {a : Act} {K : Act → World → Prop} {Q : Exit → Act → World → Prop} {E : Prop}
/-- .. in a region that draws. -/
theorem step_appT (s x : Operand) {w0 : World} {B : Nat} {v : Value} {l l2 : List Bu} {A : Option Addr} {n c : Nat}
    (hgd : o.guard = none) (ho : o.op = .call { callee := .builtin .append, args := #[s, x], argTypes := #[28, 28] })
    (hown : OwnT w0 B v l) (hrd : Rd w0 w0.heap.size 3 A n (flT l2)) (hA : A = none → c = 0) (hl : l.length ≤ 1000000000) (hn : n ≤ 1000000000) (hB : B ≤ w0.heap.size) (hs : a.eval s = v) (hx : a.eval x = .slice A n c)
    (h : ∀ v' w', OwnT w' B v' (l ++ l2) → Below B w0 w' → K (a.put o.dst v') w') :
    if Region.wanted o (yielded ops a.tmps) = true then Oper.wp Try.prog o a w0 K Q else E := by
  have hw : Region.wanted o (yielded ops a.tmps) = true := by simp [Region.wanted, hgd]
  rw [if_pos hw]
  obtain ⟨v', w', hr, h1, h2⟩ := run_appT o.type hown hrd hA hl hn hB
  unfold Oper.wp execOp
  simp only [ho, resolve, invoke, builtin, Sem.run_bind, Sem.run_pure, Result.andThen_ok, List.map_toArray, List.map_cons, List.map_nil, hs, hx, hr]
  exact h v' w' h1 h2
end
set_option maxHeartbeats 3200000 in
set_option maxRecDepth 100000 in
theorem own_any (A : Option Addr) (n c : Nat) (l : List Bu) (w : World) (ha : Arg w A n c l) (hn : n ≤ 1000000) :
    Calls Try.prog 11 #[.slice A n c] w fun e w' => (∃ v, e = .returned v ∧ OwnT w' w.heap.size v l) ∧ RowKit.Below w.heap.size w w' := by
  have mixed : Try.prog.follows .mixedOrders = true := by kernel_rfl
  have HA := Lib.hid ha
  clear ha
  go_enter Try.func11, Try.ntmps11
  go_wp2_with fail
  go_loopw [3, 4] (fun s i wr => ∃ (k : Nat) (v : Value), i = .int .i64 (k : Int) ∧ v = s ∧ k ≤ n ∧ Hid (OwnT wr w.heap.size v (l.take k) ∧ RowKit.Below w.heap.size w wr)) (fun _ i _ => n - (intOf i).toNat)
  case atStart => exact ⟨0, _, by go_num, rfl, by omega, ownT_nil _ _, RowKit.Below.refl _ _⟩
  case round =>
    obtain ⟨k, v, rfl, hv, hk, HX⟩ := hrel
    subst hv
    by_cases hkn : k < n
    · obtain ⟨ad, t, cc, y, hA, hbk, hx, a0, a1, a2⟩ := recT (HA.out.rd.below HX.out.2) hkn
      have HTK := Lib.hid (show l.take (k + 1) = l.take k ++ [(t, cc, y)] by rw [List.take_add_one, hx]; rfl)
      have hbl : (ad.add (k * 3)).block < w.heap.size := by rw [Ta.add_block]; exact hbk
      have hC : ∀ wx, RowKit.Below w.heap.size wr wx → (wx.cell? (ad.add (k * 3)) = some (.int .i64 t) ∧ wx.cell? ⟨(ad.add (k * 3)).block, (ad.add (k * 3)).off + 1, none⟩ = some (.int .i64 cc) ∧ wx.cell? ⟨(ad.add (k * 3)).block, (ad.add (k * 3)).off + 2, none⟩ = some (.int .i64 y)) ∧ RowKit.Below w.heap.size wr wx := fun wx hb =>
        ⟨⟨(hb.cell (p := ad.add (k * 3)) hbl).trans a0, (hb.cell (p := ⟨(ad.add (k * 3)).block, (ad.add (k * 3)).off + 1, none⟩) hbl).trans a1, (hb.cell (p := ⟨(ad.add (k * 3)).block, (ad.add (k * 3)).off + 2, none⟩) hbl).trans a2⟩, hb⟩
      have HC := Lib.hid hC
      have hdr : RowKit.Below wr.heap.size wr wr.drew := ⟨rfl, rfl, rfl, Nat.le_refl _, fun _ _ => rfl⟩
      have hbs := hdr.trans (ext_alloc wr.drew (.cells #[.int .i64 t, .int .i64 cc, .int .i64 y] 40))
      have HSd := Lib.hid (HC.out _ (hdr.mono HX.out.2.size))
      have HSe := Lib.hid (HC.out _ (hbs.mono HX.out.2.size))
      have HO := Lib.hid (OwnT.below HX.out.1 hbs (Nat.le_refl _))
      have HNW := Lib.hid (rd_new wr.drew (t, cc, y) 40)
      have HSz := Lib.hid (Nat.le_trans HX.out.2.size HSe.out.2.size)
      have HB := Lib.hid HX.out.2
      have hal : (l.take k).length ≤ 1000000000 := by rw [List.length_take]; omega
      have HAL := Lib.hid hal
      subst hA
      clear hx hbk hal HX hbl hC hdr hbs a0 a1 a2
      go_wp2_with fail
      go_region_held3 (fun wx => (wx.cell? (ad.add (k * 3)) = some (.int .i64 t) ∧ wx.cell? ⟨(ad.add (k * 3)).block, (ad.add (k * 3)).off + 1, none⟩ = some (.int .i64 cc) ∧ wx.cell? ⟨(ad.add (k * 3)).block, (ad.add (k * 3)).off + 2, none⟩ = some (.int .i64 y)) ∧ RowKit.Below w.heap.size wr wx) (first | exact HSd.out | exact HSe.out | assumption) (first
        | (refine step_appT (c := 1) (.tmp 11) (.tmp 28) rfl rfl HO.out HNW.out (fun h => by cases h) HAL.out (by omega) HSz.out (by rfl) (by rfl) ?_; intro v4 w4 hown4 hb4; have hS4 := HC.out w4 (HSe.out.2.trans hb4)))
      rw [← HTK.out] at hown4
      have HX4 := Lib.hid (And.intro hown4 (HB.out.trans hS4.2))
      clear HSd HSe hS4 hown4
      go_wp2_with fail
      exact ⟨⟨k + 1, v4, by go_num, rfl, by omega, HX4.out⟩, by simp [intOf]; omega⟩
    · obtain rfl : n = k := by omega
      have htk : l.take n = l := List.take_of_length_le (by have := HA.out.len; omega)
      rw [htk] at HX
      go_wp2_with fail
      go_ret
      exact ⟨⟨_, rfl, HX.out.1⟩, HX.out.2⟩
set_option maxHeartbeats 3200000 in
set_option maxRecDepth 100000 in
theorem same_any (A1 : Option Addr) (n c1 : Nat) (A2 : Option Addr) (c2 : Nat) (S : List Bu) (w : World) (h1 : Rd w w.heap.size 3 A1 n (flT S)) (h2 : Rd w w.heap.size 3 A2 n (flT S)) (hn : n ≤ 1000000) :
    Calls Try.prog 17 #[.slice A1 n c1, .slice A2 n c2] w fun e w' => e = .returned (.bool true) ∧ RowKit.Below w.heap.size w w' := by
  have mixed : Try.prog.follows .mixedOrders = true := by kernel_rfl
  have HR := Lib.hid (And.intro h1 h2)
  clear h1 h2
  go_enter Try.func17, Try.ntmps17
  go_wp2_with fail
  go_loopw [5] (fun i wr => ∃ k : Nat, i = .int .i64 (k : Int) ∧ k ≤ n ∧ Hid (RowKit.Below w.heap.size w wr)) (fun i _ => n - (intOf i).toNat)
  case atStart => exact ⟨0, by go_num, by omega, RowKit.Below.refl _ _⟩
  case round =>
    obtain ⟨k, rfl, hk, HX⟩ := hrel
    by_cases hkn : k < n
    · obtain ⟨ad, a, b, c, rfl, -, hx, a0, a1, a2⟩ := recT (HR.out.1.below HX.out) hkn
      obtain ⟨ad', a', b', c', rfl, -, hx', b0, b1, b2⟩ := recT (HR.out.2.below HX.out) hkn
      rw [hx] at hx'
      cases hx'
      have HB := Lib.hid (below_drewN HX.out)
      clear hx HX
      go_wp2_with fail
      go_quiet (fail)
      go_wp2_with fail
      exact ⟨⟨k + 1, by go_num, by omega, HB.out _⟩, by simp [intOf]; omega⟩
    · obtain rfl : k = n := by omega
      go_wp2_with fail
      go_ret
      exact ⟨rfl, HX.out⟩
end Tm
end Go.Proofs.Ytaockieikcibdaa
