/- varveref15.Check; varveref45: Of, Merge, Coarse. tally.Merge. varveref45: Merge, Coarse. -/
import Derived.Test.YtaockieikcibdaaTq06
import Derived.Test.YtaockieikcibdaaTq05
namespace Go.Proofs.Ytaockieikcibdaa
namespace Tm
open Go.RowKit Go.Maps Go.Sort Ta Rd

set_option maxHeartbeats 3200000 in
theorem r15_any (q t : Int) (d : ByteArray) (w : World) :
    Calls Try.prog 28 #[.agg #[.int .i64 q, .int .i64 t, .string d]] w fun e w' => e = .returned (.int .i64 (cE (q, t, d))) ∧ Below w.heap.size w w' := by
  by_cases h : ok1 (q, t, d) = true
  · rw [cE_ok h]
    rw [ok1_iff] at h
    simp only at h
    have h1 : ¬ q < 1 := by omega
    have h2 : ¬ 1000000000 < q := by omega
    have h3 : ¬ t < 0 := by omega
    have h4 : ¬ 1000000000 < t := by omega
    have h5 : ¬ (2000 : Int) < (d.size : Int) := by omega
    clear h
    go_enter Try.func28, Try.ntmps28
    go_wp2_with fail
    go_ret
    exact ⟨rfl, ext_alloc w _⟩
  · rw [cE_no h]
    rw [ok1_iff] at h
    simp only at h
    by_cases h1 : q < 1
    · go_enter Try.func28, Try.ntmps28
      go_wp2_with fail
      go_ret
      exact ⟨rfl, ext_alloc w _⟩
    by_cases h2 : 1000000000 < q
    · go_enter Try.func28, Try.ntmps28
      go_wp2_with fail
      go_ret
      exact ⟨rfl, ext_alloc w _⟩
    by_cases h3 : t < 0
    · go_enter Try.func28, Try.ntmps28
      go_wp2_with fail
      go_ret
      exact ⟨rfl, ext_alloc w _⟩
    by_cases h4 : 1000000000 < t
    · go_enter Try.func28, Try.ntmps28
      go_wp2_with fail
      go_ret
      exact ⟨rfl, ext_alloc w _⟩
    have h5 : (2000 : Int) < (d.size : Int) := by omega
    go_enter Try.func28, Try.ntmps28
    go_wp2_with fail
    go_ret
    exact ⟨rfl, ext_alloc w _⟩
theorem ok_items {l : List (Int × Int × ByteArray)} {width : Int} (hw : 1 ≤ width) (h : ∀ r ∈ l, ok1 r = true) : okL (items l width) := fun x hx => by
  have := items_ok hw h x hx
  rw [okB_iff]; omega
theorem gat_bd {L : List Bu} (h : okL L) (hl : L.length ≤ 2500) : ∀ x ∈ gat L, (0 ≤ x.2.1 ∧ x.2.1 ≤ 2500000000000000) ∧ 0 ≤ x.2.2 ∧ x.2.2 ≤ 2500000000000000000 := by
  intro x hx
  have hnn : ∀ x ∈ L, nn x := fun x hx => by have := (okB_iff x).1 (h x hx); unfold nn; omega
  have hg := gat_sums L
  have hm := mem_sum (gat_nn hnn) hx
  have hn := gat_nn hnn x hx
  have hs := sum_le (S := L) 1000000000000 1000000000000000 (fun x hx => by have := (okB_iff x).1 (h x hx); omega)
  have h4 : ((L.length : Nat) : Int) ≤ 2500 := by omega
  unfold nn at hn
  generalize ((L.length : Nat) : Int) = n at *
  omega
/-- put, to what was gathered. -/
theorem put_step (v : Value) (L : List Bu) (t cc y : Int) (w : World) (hr : Res w v (gat L)) (hL : okL L) (hl : L.length ≤ 2500) (hx : okB (t, cc, y) = true) :
    Calls Try.prog 29 #[v, .agg #[.int .i64 t, .int .i64 cc, .int .i64 y]] w fun e w' => (∃ v, e = .returned v ∧ Res w' v (gat (L ++ [(t, cc, y)]))) ∧ Below w.heap.size w w' := by
  obtain ⟨A, c, rfl, ha⟩ := hr
  rw [okB_iff] at hx
  simp only at hx
  have hgl := gat_len L
  refine (put_any A _ c (gat L) t cc y w ha (by omega) (fun x hm => by have := gat_bd hL hl x hm; omega)).mono ?_
  rintro e w' ⟨⟨v, rfl, ho⟩, hb⟩
  rw [gat_snoc]
  exact ⟨⟨v, rfl, ho.res⟩, hb⟩
theorem down_quo (t width : Int) : t / width * width = t - t % width := by
  have e := Int.mul_ediv_add_emod t width
  rw [Int.mul_comm]; omega

set_option maxHeartbeats 6400000 in
set_option maxRecDepth 100000 in
theorem rof_any (A : Option Addr) (n c : Nat) (l : List (Int × Int × ByteArray)) (width : Int) (w : World) (hrd : Rd w w.heap.size 3 A n (fl3 l)) (hn : n ≤ 2000) :
    Calls Try.prog 9 #[.slice A n c, .int .i64 width] w fun e w' => (∃ v, e = .returned (.tuple #[v, .int .i64 (ofE l width)]) ∧ Res w' v (ofL l width)) ∧ Below w.heap.size w w' := by
  have mixed : Try.prog.follows .mixedOrders = true := by kernel_rfl
  have hln := rd3_len hrd
  by_cases hw : wideB width = true
  · have hw1 := (wideB_iff width).1 hw
    have HR := Lib.hid hrd
    have HWB := Lib.hid hw
    have HLN := Lib.hid hln
    have g1 : ¬ width < 1 := by omega
    have g2 : ¬ 1000000000 < width := by omega
    clear hrd hw hln
    go_enter Try.func9, Try.ntmps9
    go_wp2_with fail
    clear g1 g2
    go_loopw [6, 7] (fun s i wr => ∃ (k : Nat) (v : Value), i = .int .i64 (k : Int) ∧ v = s ∧ k ≤ n ∧ Hid (Res wr v (gat (items (l.take k) width)) ∧ Below w.heap.size w wr ∧ ∀ j r, j < k → l[j]? = some r → ok1 r = true)) (fun _ i _ => n - (intOf i).toNat)
    case atStart => exact ⟨0, _, by go_num, rfl, by omega, res_nil _, Below.refl _ _, fun j r h => absurd h (by omega)⟩
    case round =>
      obtain ⟨k, v, rfl, hv, hk, HX⟩ := hrel
      subst hv
      by_cases hkn : k < n
      · obtain ⟨ad, q, t, d, rfl, hbk, hx, hc0, hc1, hc2⟩ := rec3 (HR.out.below HX.out.2.1) hkn
        have HXK := Lib.hid hx
        have HX2 := Lib.hid HX.out
        have HCK := Lib.hid (r15_any q t d wr)
        by_cases ho : ok1 (q, t, d) = true
        · rw [cE_ok ho] at HCK
          have hoo := ho
          rw [ok1_iff] at hoo
          have ht0 : 0 ≤ t := hoo.2.2.1
          have ht1 : t ≤ 1000000000 := hoo.2.2.2.1
          have hd : d.size ≤ 2000 := hoo.2.2.2.2
          have HOK := Lib.hid ho
          clear hoo ho hx hbk HX
          go_wp2_with fail
          refine HCK.out.mono ?_
          rintro e3 w3 ⟨rfl, hb3⟩
          have HB3 := Lib.hid (HX2.out.2.1.trans (hb3.mono HX2.out.2.1.size))
          have HRS := Lib.hid (HX2.out.1.ext hb3)
          obtain ⟨ad', q', t', d', hA', -, hx', a0, a1, a2⟩ := rec3 (HR.out.below HB3.out) hkn
          obtain rfl : ad = ad' := by simpa using hA'
          rw [HXK.out] at hx'
          cases hx'
          clear hA'
          have e1 : t.tdiv width = t / width := Int.tdiv_eq_ediv_of_nonneg ht0
          have e2 := Int.ediv_nonneg ht0 (show 0 ≤ width by omega)
          have e3 : t / width ≤ t := Int.ediv_le_self _ ht0
          have e4 : IntKind.i64.wrap (t / width) = t / width := by rw [IntKind.wrap_i64]; omega
          have hdn := down_bd hw1.1 ht0 ht1
          unfold down at hdn
          have e5 : IntKind.i64.wrap (t / width * width) = t - t % width := by rw [down_quo, IntKind.wrap_i64]; omega
          have e6 : ¬ width = 0 := by omega
          have e7 : (width == 0) = false := by rw [beq_eq_false_iff_ne]; omega
          have hit : ∀ r ∈ l.take k, ok1 r = true := fun r hr => by
            obtain ⟨j, hj, rfl⟩ := List.getElem_of_mem hr
            have hjk : j < k := by rw [List.length_take] at hj; omega
            rw [List.getElem_take]
            exact HX2.out.2.2 j _ hjk (List.getElem?_eq_getElem (by rw [List.length_take] at hj; omega))
          have hlt : (items (l.take k) width).length ≤ 2500 := by
            have : (items (l.take k) width).length = (l.take k).length := List.length_map ..
            rw [this, List.length_take]; omega
          have HPT := Lib.hid (fun nq => put_step v (items (l.take k) width) (t - t % width) 1 (d.size : Int) (w3.drewN nq) (HRS.out.drew nq) (ok_items hw1.1 hit) hlt ((okB_iff _).2 ⟨hdn.1, hdn.2.1, by simp only; omega, by simp only; omega, by simp only; omega, by simp only; omega⟩))
          have HTK := Lib.hid (items_take (width := width) HXK.out)
          clear hb3 hc0 hc1 hc2 HCK hdn hit hlt
          go_wp2_with fail
          go_still_tail 17, (by kernel_rfl)
          change wpList _ _ _ _ _ (w3.drewN 1)
          clear e1 e2 e3 e4 e5 e6 e7 a0 a1 a2
          go_wp2_with fail
          refine (HPT.out 1).mono ?_
          rintro e4 w4 ⟨⟨v4, rfl, hr4⟩, hb4⟩
          have hti : items (l.take k) width ++ [(t - t % width, 1, (d.size : Int))] = items (l.take (k + 1)) width := HTK.out.symm
          rw [hti] at hr4
          have hall : ∀ j r, j < k + 1 → l[j]? = some r → ok1 r = true := by
            intro j r hj hr
            rcases Nat.lt_or_ge j k with h | h
            · exact HX2.out.2.2 j r h hr
            · obtain rfl : j = k := by omega
              rw [HXK.out] at hr; cases hr; exact HOK.out
          have HX4 := Lib.hid (And.intro hr4 (And.intro (HB3.out.trans ((below_drewN (Below.refl _ _) 1 : Below w3.heap.size w3 (w3.drewN 1)).trans hb4 |>.mono HB3.out.size)) hall))
          clear hr4 hb4 hti hall HPT
          go_wp2_with fail
          exact ⟨⟨k + 1, v4, by go_num, rfl, by omega, HX4.out⟩, by simp [intOf]; omega⟩
        · rw [cE_no ho] at HCK
          have ho2 : ok1 (q, t, d) = false := by simpa using ho
          obtain ⟨h1, h2⟩ := ofE_bad HWB.out hx ho2
          have HE := Lib.hid (And.intro h1 h2)
          clear ho ho2 hx hbk HX h1 h2
          go_wp2_with fail
          refine HCK.out.mono ?_
          rintro e3 w3 ⟨rfl, hb3⟩
          have HB3 := Lib.hid (HX2.out.2.1.trans (hb3.mono HX2.out.2.1.size))
          clear hb3 hc0 hc1 hc2 HCK
          go_wp2_with fail
          go_ret2
          exact ⟨⟨.slice none 0 0, by rw [HE.out.1]; rfl, by rw [HE.out.2]; exact res_nil _⟩, HB3.out⟩
      · obtain rfl : n = k := by omega
        have htk : l.take n = l := List.take_of_length_le (by have := HLN.out; omega)
        have hr := HX.out.1
        rw [htk] at hr
        obtain ⟨h1, h2⟩ := ofE_ok HWB.out (fun j r hj hr => HX.out.2.2 j r (by rw [← HLN.out]; exact hj) hr)
        have hgl := gat_len (items l width)
        have hil : (items l width).length = l.length := List.length_map ..
        have HDN := Lib.hid (done_any v (gat (items l width)) wr hr (by have := HLN.out; omega))
        rw [(done_gat _).1, (done_gat _).2, ← h1, ← h2] at HDN
        have HB := Lib.hid HX.out.2.1
        clear htk hr h1 h2 hgl hil HX
        go_wp2_with fail
        refine HDN.out.mono ?_
        rintro e3 w3 ⟨⟨v3, rfl, hr3⟩, hb3⟩
        have HR3 := Lib.hid (And.intro hr3 (HB.out.trans (hb3.mono HB.out.size)))
        clear hr3 hb3 HDN
        go_wp2_with fail
        go_ret2
        exact ⟨⟨v3, rfl, HR3.out.1⟩, HR3.out.2⟩
  · have hf : wideB width = false := by simpa using hw
    obtain ⟨h1, h2⟩ := ofE_wide (l := l) hf
    rw [h1, h2]
    have hw2 : ¬ (1 ≤ width ∧ width ≤ 1000000000) := fun h => hw ((wideB_iff width).2 h)
    clear hw hf h1 h2 hrd hln
    by_cases g1 : width < 1
    · clear hw2
      go_enter Try.func9, Try.ntmps9
      go_wp2_with fail
      go_ret2
      exact ⟨⟨.slice none 0 0, rfl, res_nil _⟩, Below.refl _ _⟩
    · have g2 : 1000000000 < width := by omega
      clear hw2
      go_enter Try.func9, Try.ntmps9
      go_wp2_with fail
      go_ret2
      exact ⟨⟨.slice none 0 0, rfl, res_nil _⟩, Below.refl _ _⟩
end Tm
end Go.Proofs.Ytaockieikcibdaa
namespace Go.Proofs.Ytaockieikcibdaa
namespace Ta
open Go.RowKit Go.Maps Go.Sort

/-- What tally.Merge tells. -/
noncomputable def mrgE (a b : List Bu) : Int := if chk a = 0 ∧ chk b = 0 then bukE (gat (a ++ b)) else 2
noncomputable def mrgL (a b : List Bu) : List Bu := if mrgE a b = 0 then gat (a ++ b) else []
theorem mrg_no {a b : List Bu} (h : ¬ (chk a = 0 ∧ chk b = 0)) : mrgE a b = 2 ∧ mrgL a b = [] := by
  have : mrgE a b = 2 := if_neg h
  exact ⟨this, by unfold mrgL; rw [this]; rfl⟩
theorem mrg_yes {a b : List Bu} (h : chk a = 0 ∧ chk b = 0) : mrgE a b = bukE (gat (a ++ b)) ∧ mrgL a b = bukL (gat (a ++ b)) := by
  have : mrgE a b = bukE (gat (a ++ b)) := if_pos h
  exact ⟨this, by unfold mrgL bukL; rw [this]⟩
/-- What was put together ahead of a round. -/
def pre (a b : List Bu) : Nat → List Bu
  | 0 => []
  | 1 => a
  | _ => a ++ b
theorem ok_pre {a b : List Bu} {j : Nat} (ha : 1 ≤ j → chk a = 0) (hb : 2 ≤ j → chk b = 0) : okL (pre a b j) ∧ (pre a b j).length ≤ 1000 * j := by
  rcases j with _ | _ | j
  · exact ⟨fun x hx => by simp [pre] at hx, by simp [pre]⟩
  · have h1 := ok_chk (ha (by omega))
    exact ⟨h1.1, by show a.length ≤ _; omega⟩
  · have h1 := ok_chk (ha (by omega))
    have h2 := ok_chk (hb (by omega))
    refine ⟨fun x hx => ?_, ?_⟩
    · rcases List.mem_append.1 hx with hx | hx
      · exact h1.1 x hx
      · exact h2.1 x hx
    · show (a ++ b).length ≤ _
      rw [List.length_append]; omega
theorem pre_step {a b : List Bu} {j : Nat} (hj : j < 2) : pre a b (j + 1) = pre a b j ++ (if j = 0 then a else b) := by
  rcases j with _ | _ | j
  · simp [pre]
  · simp [pre]
  · omega

set_option maxHeartbeats 6400000 in
set_option maxRecDepth 100000 in
theorem merge_any (A1 : Option Addr) (n1 c1 : Nat) (a : List Bu) (A2 : Option Addr) (n2 c2 : Nat) (b : List Bu) (w : World) (hrd1 : Rd w w.heap.size 3 A1 n1 (flT a)) (hn1 : n1 ≤ 1000000) (hrd2 : Rd w w.heap.size 3 A2 n2 (flT b)) (hn2 : n2 ≤ 1000000) :
    Calls Try.prog 10 #[.slice A1 n1 c1, .slice A2 n2 c2] w fun e w' => (∃ v, e = .returned (.tuple #[v, .int .i64 (mrgE a b)]) ∧ OwnT w' w.heap.size v (mrgL a b)) ∧ Below w.heap.size w w' := by
  have mixed : Try.prog.follows .mixedOrders = true := by kernel_rfl
  have HR1 := Lib.hid (And.intro hrd1 hn1)
  have HR2 := Lib.hid (And.intro hrd2 hn2)
  have hmk := run_makeMap (P := Try.prog) 58 w
  clear hrd1 hrd2 hn1 hn2
  go_enter Try.func10, Try.ntmps10
  go_wp2_with fail
  have hg0 : GM (w.alloc (.map #[] 0)) w.heap.size 0 [] := World.ownsMap_made w _ _ _
  have hg1 := (hg0.alloc (.cells #[.map (some w.heap.size)] 60)).alloc (.cells #[.slice A1 n1 c1, .slice A2 n2 c2] 28)
  have hb0 := (ext_alloc w (.map #[] 0)).trans (((ext_alloc (w.alloc (.map #[] 0)) (.cells #[.map (some w.heap.size)] 60)).mono (by simp)).trans ((ext_alloc ((w.alloc (.map #[] 0)).alloc (.cells #[.map (some w.heap.size)] 60)) (.cells #[.slice A1 n1 c1, .slice A2 n2 c2] 28)).mono (by simp; omega)))
  have hc0 : (((w.alloc (.map #[] 0)).alloc (.cells #[.map (some w.heap.size)] 60)).alloc (.cells #[.slice A1 n1 c1, .slice A2 n2 c2] 28)).cell? ⟨w.heap.size + 1, 0, none⟩ = some (.map (some w.heap.size)) := by simp [go_sem]
  have hc1 : (((w.alloc (.map #[] 0)).alloc (.cells #[.map (some w.heap.size)] 60)).alloc (.cells #[.slice A1 n1 c1, .slice A2 n2 c2] 28)).cell? ⟨w.heap.size + 1 + 1, 0, none⟩ = some (.slice A1 n1 c1) := by
    have := World.cell?_alloc_new (w := (w.alloc (.map #[] 0)).alloc (.cells #[.map (some w.heap.size)] 60)) #[.slice A1 n1 c1, .slice A2 n2 c2] 28 0
    simpa using this
  have hc2 : (((w.alloc (.map #[] 0)).alloc (.cells #[.map (some w.heap.size)] 60)).alloc (.cells #[.slice A1 n1 c1, .slice A2 n2 c2] 28)).cell? ⟨w.heap.size + 1 + 1, 1, none⟩ = some (.slice A2 n2 c2) := by
    have := World.cell?_alloc_new (w := (w.alloc (.map #[] 0)).alloc (.cells #[.map (some w.heap.size)] 60)) #[.slice A1 n1 c1, .slice A2 n2 c2] 28 1
    simpa using this
  have hs0 : w.heap.size + 3 = (((w.alloc (.map #[] 0)).alloc (.cells #[.map (some w.heap.size)] 60)).alloc (.cells #[.slice A1 n1 c1, .slice A2 n2 c2] 28)).heap.size := by simp
  clear hg0 hmk
  generalize ((w.alloc (.map #[] 0)).alloc (.cells #[.map (some w.heap.size)] 60)).alloc (.cells #[.slice A1 n1 c1, .slice A2 n2 c2] 28) = w2 at *
  have H0 := Lib.hid (And.intro hg1 hb0)
  have HC := Lib.hid (And.intro hc0 (And.intro hc1 hc2))
  have HS0 := Lib.hid hs0
  clear hg1 hb0 hc0 hc1 hc2 hs0
  generalize hB : w.heap.size = g at *
  have HBS := Lib.hid hB
  clear hB
  go_loopw [18] (fun i wr => ∃ j : Nat, i = .int .i64 (j : Int) ∧ j ≤ 2 ∧ Hid (GM wr g (pre a b j).length (gat (pre a b j)) ∧ w2.grownBy wr (some g) ∧ (1 ≤ j → chk a = 0) ∧ (2 ≤ j → chk b = 0))) (fun i _ => 2 - (intOf i).toNat)
  case atStart => exact ⟨0, by go_num, by omega, H0.out.1, ⟨rfl, rfl, rfl, Nat.le_refl _, fun _ _ _ => rfl⟩, fun h => absurd h (by omega), fun h => absurd h (by omega)⟩
  case round =>
    obtain ⟨j, rfl, hj, HX⟩ := hrel
    have hbr : Below g w wr := H0.out.2.grown HX.out.2.1 (by rw [← HS0.out]; omega) (fun g hg => by cases hg; exact Nat.le_refl _)
    have HBR := Lib.hid hbr
    have hbw : g + 3 ≤ wr.heap.size := by rw [HS0.out]; exact HX.out.2.1.size
    have HBW := Lib.hid hbw
    have hcg : wr.cell? ⟨g + 1, 0, none⟩ = some (.map (some g)) := (World.grownBy.cell_far HX.out.2.1 ⟨g + 1, 0, none⟩ (by rw [← HS0.out]; show g + 1 < g + 3; omega) (by simp)).trans HC.out.1
    have HX2 := Lib.hid HX.out
    by_cases hj2 : j < 2
    · have hcase : ∃ An nn cn l, wr.cell? ⟨g + 1 + 1, j, none⟩ = some (.slice An nn cn) ∧ Rd w g 3 An nn (flT l) ∧ nn ≤ 1000000 ∧ pre a b (j + 1) = pre a b j ++ l ∧ (chk l ≠ 0 → ¬ (chk a = 0 ∧ chk b = 0)) ∧ (chk l = 0 → (1 ≤ j + 1 → chk a = 0) ∧ (2 ≤ j + 1 → chk b = 0)) := by
        have hst := pre_step (a := a) (b := b) hj2
        have hfar : ∀ j', wr.cell? ⟨g + 1 + 1, j', none⟩ = w2.cell? ⟨g + 1 + 1, j', none⟩ := fun j' => World.grownBy.cell_far HX.out.2.1 ⟨g + 1 + 1, j', none⟩ (by rw [← HS0.out]; show g + 1 + 1 < g + 3; omega) (by simp; omega)
        have h1 := HX.out.2.2.1
        by_cases hz : j = 0
        · subst hz
          rw [if_pos rfl] at hst
          exact ⟨A1, n1, c1, a, (hfar 0).trans HC.out.2.1, HR1.out.1, HR1.out.2, hst, fun h hh => h hh.1, fun h => ⟨fun _ => h, fun hh => absurd hh (by omega)⟩⟩
        · obtain rfl : j = 1 := by omega
          rw [if_neg (by omega)] at hst
          exact ⟨A2, n2, c2, b, (hfar 1).trans HC.out.2.2, HR2.out.1, HR2.out.2, hst, fun h hh => h hh.2, fun h => ⟨fun _ => h1 (by omega), fun _ => h⟩⟩
      obtain ⟨An, nn, cn, l, hcl, hrl, hnl, hps, hbad, hgood⟩ := hcase
      have HPS := Lib.hid hps
      have HRL := Lib.hid hrl
      have HCK := Lib.hid (check_any An nn cn l wr ((hrl.below hbr).more (by omega)) hnl)
      have hln := rdT_len hrl
      have HLN := Lib.hid hln
      have j1 : (0 : Int) ≤ (j : Int) := by omega
      have j2 : (j : Int) < 2 := by omega
      clear hrl hps hln hbr hbw HX
      by_cases hs : chk l = 0
      · have HGD := Lib.hid (hgood hs)
        have HOL := Lib.hid (ok_chk hs)
        rw [hs] at HCK
        clear hbad hgood hs
        go_wp2_with fail
        refine HCK.out.mono ?_
        rintro e1 w1 ⟨rfl, hb1⟩
        have hb1b := hb1.mono (show g ≤ wr.heap.size by have := HBW.out; omega)
        have hcg1 : w1.cell? ⟨g + 1, 0, none⟩ = some (.map (some g)) := (hb1.cell (p := ⟨g + 1, 0, none⟩) (by have := HBW.out; show g + 1 < _; omega)).trans hcg
        have hgm1 := HX2.out.1.below hb1 (show g < wr.heap.size by have := HBW.out; omega)
        have hgr1 := below_grown hb1 (show g < wr.heap.size by have := HBW.out; omega)
        have HG1 := Lib.hid (And.intro hgm1 (And.intro (HX2.out.2.1.trans hgr1) (Nat.le_trans HBW.out hb1.size)))
        have HCG1 := Lib.hid hcg1
        have HOP := Lib.hid (ok_pre (j := j) HX2.out.2.2.1 HX2.out.2.2.2)
        clear hb1 hb1b hcg1 hgm1 hgr1 hcg hcl HCK
        go_wp2_with fail
        go_loopw [29] (fun i wi => ∃ k : Nat, i = .int .i64 (k : Int) ∧ k ≤ nn ∧ Hid (GM wi g ((pre a b j).length + k) (gat (pre a b j ++ l.take k)) ∧ w1.grownBy wi (some g))) (fun i _ => nn - (intOf i).toNat)
        case atStart => exact ⟨0, by go_num, by omega, by rw [List.take_zero, List.append_nil]; exact HG1.out.1, ⟨rfl, rfl, rfl, Nat.le_refl _, fun _ _ _ => rfl⟩⟩
        case round =>
          obtain ⟨k, rfl, hk, HY⟩ := hrel
          have HY2 := Lib.hid HY.out
          have hbw : g + 3 ≤ wr.heap.size := Nat.le_trans HG1.out.2.2 HY.out.2.size
          have HBW1 := Lib.hid hbw
          have hgr2 : w2.grownBy wr (some g) := HG1.out.2.1.trans HY.out.2
          have HGR2 := Lib.hid hgr2
          have hcg : wr.cell? ⟨g + 1, 0, none⟩ = some (.map (some g)) := (World.grownBy.cell_far HY.out.2 ⟨g + 1, 0, none⟩ (by have := HG1.out.2.2; show g + 1 < _; omega) (by simp)).trans HCG1.out
          have hbr : Below g w wr := H0.out.2.grown hgr2 (by rw [← HS0.out]; omega) (fun g hg => by cases hg; exact Nat.le_refl _)
          clear HY
          by_cases hkn : k < nn
          · obtain ⟨ad, t, cc, y, rfl, hbk, hx, hc0, hc1, hc2⟩ := recT (HRL.out.below hbr) hkn
            have hADD := add_step t cc y (pre a b j ++ l.take k) g ((pre a b j).length + k) (wr.alloc (.cells #[.int .i64 t, .int .i64 cc, .int .i64 y] 40)) (HY2.out.1.alloc _) (fun x hx => by
                rcases List.mem_append.1 hx with hx | hx
                · exact HOP.out.1 x hx
                · exact ok_take HOL.out.1 k x hx) (by rw [List.length_append, List.length_take]; have := HOP.out.2; have := HOL.out.2; omega) (HOL.out.1 _ (List.mem_of_getElem? hx)) (by have := HOP.out.2; have := HOL.out.2; have := HLN.out; omega)
            rw [List.append_assoc, ← take_one l k _ hx] at hADD
            have HADD := Lib.hid hADD
            have HGR := Lib.hid (HY2.out.2.trans (World.grownBy_alloc wr (.cells #[.int .i64 t, .int .i64 cc, .int .i64 y] 40) (some g)))
            have hlt : g + 1 < wr.heap.size := by omega
            clear hADD hx hbk hbr hbw hgr2
            go_wp2_with fail
            refine HADD.out.mono ?_
            rintro e5 w5 ⟨rfl, hgm, hg⟩
            have HX5 := Lib.hid (And.intro hgm (HGR.out.trans hg))
            clear hgm hg HADD HGR hc0 hc1 hc2 hcg
            go_wp2_with fail
            exact ⟨⟨k + 1, by go_num, by omega, HX5.out⟩, by simp [intOf]; omega⟩
          · obtain rfl : k = nn := by omega
            have htk : l.take k = l := List.take_of_length_le (by have := HLN.out; omega)
            have hg := HY2.out.1
            rw [htk, ← HPS.out, show (pre a b j).length + k = (pre a b (j + 1)).length by rw [HPS.out, List.length_append, HLN.out]] at hg
            have HZ := Lib.hid (And.intro hg (And.intro HGR2.out HGD.out))
            clear htk hg hbr hbw hgr2 hcg HY2
            go_wp2_with fail
            exact ⟨⟨j + 1, by go_num, by omega, HZ.out⟩, by simp [intOf]; omega⟩
      · have HE := Lib.hid (mrg_no (hbad hs))
        rw [chk_two hs] at HCK
        clear hbad hgood hs
        go_wp2_with fail
        refine HCK.out.mono ?_
        rintro e1 w1 ⟨rfl, hb1⟩
        have HB1 := Lib.hid (HBR.out.trans (hb1.mono (by have := HBW.out; omega)))
        clear hb1 HCK hcl hcg
        go_wp2_with fail
        go_ret2
        exact ⟨⟨.slice none 0 0, by rw [HE.out.1]; rfl, by rw [HE.out.2]; exact ownT_nil _ _⟩, by rw [HBS.out]; exact HB1.out⟩
    · obtain rfl : j = 2 := by omega
      have hab : chk a = 0 ∧ chk b = 0 := ⟨HX.out.2.2.1 (by omega), HX.out.2.2.2 (by omega)⟩
      have HE := Lib.hid (mrg_yes hab)
      have hok := ok_pre (a := a) (b := b) (j := 2) (fun _ => hab.1) (fun _ => hab.2)
      have hgl := gat_len (a ++ b)
      have hg : GM wr g (pre a b 2).length (gat (a ++ b)) := HX.out.1
      have hl2 : (a ++ b).length ≤ 1000 * 2 := hok.2
      have HBK := Lib.hid (buckets_any (gat (a ++ b)) g (pre a b 2).length wr hg (gat_asc _) (by omega) (ok_time hok.1))
      clear hab hok hgl hg hl2 hbr hbw HX HX2
      go_wp2_with fail
      refine HBK.out.mono ?_
      rintro e3 w3 ⟨⟨v, rfl, hown⟩, hg3⟩
      have HOW := Lib.hid (OwnT.lower hown (show g ≤ wr.heap.size by have := HBW.out; omega))
      have HB3 := Lib.hid (HBR.out.grown hg3 (by have := HBW.out; omega) (fun g hg => by cases hg; exact Nat.le_refl _))
      clear hown hg3 HBK hcg
      go_wp2_with fail
      go_ret2
      exact ⟨⟨v, by rw [HE.out.1]; rfl, by rw [HE.out.2, HBS.out]; exact HOW.out⟩, by rw [HBS.out]; exact HB3.out⟩
end Ta
end Go.Proofs.Ytaockieikcibdaa
namespace Go.Proofs.Ytaockieikcibdaa
namespace Tm
open Go.RowKit Go.Maps Go.Sort Ta

theorem chk_asc0 {S : List Bu} (h : chk S = 0) : Asc S := asc_of_at S (chk_inv h).2.2
set_option maxHeartbeats 6400000 in
set_option maxRecDepth 100000 in
theorem rmerge_any (A1 : Option Addr) (n1 c1 : Nat) (a : List Bu) (A2 : Option Addr) (n2 c2 : Nat) (b : List Bu) (w : World) (h1 : Arg w A1 n1 c1 a) (h2 : Arg w A2 n2 c2 b) (hn1 : n1 ≤ 1000000) (hn2 : n2 ≤ 1000000) :
    Calls Try.prog 12 #[.slice A1 n1 c1, .slice A2 n2 c2] w fun e w' => (∃ v, e = .returned (.tuple #[v, .int .i64 (mrgE a b)]) ∧ Res w' v (mrgL a b)) ∧ Below w.heap.size w w' := by
  have mixed : Try.prog.follows .mixedOrders = true := by kernel_rfl
  have HC1 := Lib.hid (rcheck_any A1 n1 c1 a w h1.rd hn1)
  have HA1 := Lib.hid h1
  have HA2 := Lib.hid h2
  clear h1 h2
  by_cases ha : chk a = 0
  · rw [ha] at HC1
    by_cases hb : chk b = 0
    · have HE := Lib.hid (mrg_yes ⟨ha, hb⟩)
      have HAS := Lib.hid (chk_asc0 ha)
      have HO1 := Lib.hid (ok_chk ha)
      have HO2 := Lib.hid (ok_chk hb)
      have HBB := Lib.hid hb
      clear ha hb
      go_enter Try.func12, Try.ntmps12
      go_wp2_with fail
      refine HC1.out.mono ?_
      rintro e1 w1 ⟨rfl, hb1⟩
      have HB1 := Lib.hid hb1
      have HC2 := Lib.hid (rcheck_any A2 n2 c2 b w1 (HA2.out.rd.ext hb1) hn2)
      rw [HBB.out] at HC2
      clear hb1 HC1
      go_wp2_with fail
      refine HC2.out.mono ?_
      rintro e2 w2 ⟨rfl, hb2⟩
      have HB2 := Lib.hid (HB1.out.trans (hb2.mono HB1.out.size))
      clear hb2 HC2
      go_wp2_with fail
      go_loopw [6, 7] (fun s i wr => ∃ (k : Nat) (v : Value), i = .int .i64 (k : Int) ∧ v = s ∧ k ≤ n2 ∧ Hid (Res wr v (gat (a ++ b.take k)) ∧ Below w.heap.size w wr)) (fun _ i _ => n2 - (intOf i).toNat)
      case atStart =>
        refine ⟨0, _, by go_num, rfl, by omega, ?_, HB2.out⟩
        rw [List.take_zero, List.append_nil, gat_asc_id HAS.out]
        exact ⟨A1, c1, by rw [HA1.out.len], by rw [HA1.out.len]; exact HA1.out.ext HB2.out⟩
      case round =>
        obtain ⟨k, v, rfl, hv, hk, HX⟩ := hrel
        subst hv
        by_cases hkn : k < n2
        · obtain ⟨ad, t, cc, y, hA, hbk, hx, hc0, hc1, hc2⟩ := recT (HA2.out.rd.below HX.out.2) hkn
          have HPT := Lib.hid (put_step v (a ++ b.take k) t cc y wr HX.out.1 (fun x hx => by
            rcases List.mem_append.1 hx with hx | hx
            · exact HO1.out.1 x hx
            · exact ok_take HO2.out.1 k x hx) (by rw [List.length_append, List.length_take]; have := HO1.out.2; have := HO2.out.2; omega) (HO2.out.1 _ (List.mem_of_getElem? hx)))
          have HTK := Lib.hid (take_one b k _ hx)
          have HB := Lib.hid HX.out.2
          subst hA
          clear hx hbk HX
          go_wp2_with fail
          refine HPT.out.mono ?_
          rintro e4 w4 ⟨⟨v4, rfl, hr4⟩, hb4⟩
          rw [List.append_assoc, ← HTK.out] at hr4
          have HX4 := Lib.hid (And.intro hr4 (HB.out.trans (hb4.mono HB.out.size)))
          clear hr4 hb4 HPT hc0 hc1 hc2
          go_wp2_with fail
          exact ⟨⟨k + 1, v4, by go_num, rfl, by omega, HX4.out⟩, by simp [intOf]; omega⟩
        · obtain rfl : n2 = k := by omega
          have htk : b.take n2 = b := List.take_of_length_le (by have := HA2.out.len; omega)
          have hr := HX.out.1
          rw [htk] at hr
          have hgl := gat_len (a ++ b)
          rw [List.length_append] at hgl
          have HDN := Lib.hid (done_any v (gat (a ++ b)) wr hr (by have := HO1.out.2; have := HO2.out.2; omega))
          rw [(done_gat _).1, (done_gat _).2, ← HE.out.1, ← HE.out.2] at HDN
          have HB := Lib.hid HX.out.2
          clear htk hr hgl HX
          go_wp2_with fail
          refine HDN.out.mono ?_
          rintro e3 w3 ⟨⟨v3, rfl, hr3⟩, hb3⟩
          have HR3 := Lib.hid (And.intro hr3 (HB.out.trans (hb3.mono HB.out.size)))
          clear hr3 hb3 HDN
          go_wp2_with fail
          go_ret2
          exact ⟨⟨v3, rfl, HR3.out.1⟩, HR3.out.2⟩
    · have HE := Lib.hid (mrg_no (a := a) (b := b) (fun h => hb h.2))
      have HBB := Lib.hid (chk_two hb)
      clear ha hb
      go_enter Try.func12, Try.ntmps12
      go_wp2_with fail
      refine HC1.out.mono ?_
      rintro e1 w1 ⟨rfl, hb1⟩
      have HB1 := Lib.hid hb1
      have HC2 := Lib.hid (rcheck_any A2 n2 c2 b w1 (HA2.out.rd.ext hb1) hn2)
      rw [HBB.out] at HC2
      clear hb1 HC1
      go_wp2_with fail
      refine HC2.out.mono ?_
      rintro e2 w2 ⟨rfl, hb2⟩
      have HB2 := Lib.hid (HB1.out.trans (hb2.mono HB1.out.size))
      clear hb2 HC2
      go_wp2_with fail
      go_ret2
      exact ⟨⟨.slice none 0 0, by rw [HE.out.1]; rfl, by rw [HE.out.2]; exact res_nil _⟩, HB2.out⟩
  · have HE := Lib.hid (mrg_no (a := a) (b := b) (fun h => ha h.1))
    rw [chk_two ha] at HC1
    clear ha
    go_enter Try.func12, Try.ntmps12
    go_wp2_with fail
    refine HC1.out.mono ?_
    rintro e1 w1 ⟨rfl, hb1⟩
    have HB1 := Lib.hid hb1
    clear hb1 HC1
    go_wp2_with fail
    go_ret2
    exact ⟨⟨.slice none 0 0, by rw [HE.out.1]; rfl, by rw [HE.out.2]; exact res_nil _⟩, HB1.out⟩

set_option maxHeartbeats 6400000 in
set_option maxRecDepth 100000 in
theorem rcoarse_any (A : Option Addr) (n c : Nat) (S : List Bu) (width : Int) (w : World) (ha : Arg w A n c S) (hn : n ≤ 1000000) :
    Calls Try.prog 14 #[.slice A n c, .int .i64 width] w fun e w' => (∃ v, e = .returned (.tuple #[v, .int .i64 (crsE S width)]) ∧ Res w' v (crsL S width)) ∧ Below w.heap.size w w' := by
  have mixed : Try.prog.follows .mixedOrders = true := by kernel_rfl
  have HC := Lib.hid (rcheck_any A n c S w ha.rd hn)
  have HA := Lib.hid ha
  clear ha
  by_cases hs : chk S = 0
  · rw [hs] at HC
    by_cases hw : wideB width = true
    · have HE := Lib.hid (crs_yes ⟨hs, hw⟩)
      have HO := Lib.hid (ok_chk hs)
      have hw1 := (wideB_iff width).1 hw
      have g1 : ¬ width < 1 := by omega
      have g2 : ¬ 1000000000 < width := by omega
      clear hs hw
      go_enter Try.func14, Try.ntmps14
      go_wp2_with fail
      refine HC.out.mono ?_
      rintro e1 w1 ⟨rfl, hb1⟩
      have HB1 := Lib.hid hb1
      clear hb1 HC
      go_wp2_with fail
      clear g1 g2
      go_loopw [6, 7] (fun s i wr => ∃ (k : Nat) (v : Value), i = .int .i64 (k : Int) ∧ v = s ∧ k ≤ n ∧ Hid (Res wr v (gat (widL (S.take k) width)) ∧ Below w.heap.size w wr)) (fun _ i _ => n - (intOf i).toNat)
      case atStart => exact ⟨0, _, by go_num, rfl, by omega, res_nil _, HB1.out⟩
      case round =>
        obtain ⟨k, v, rfl, hv, hk, HX⟩ := hrel
        subst hv
        by_cases hkn : k < n
        · obtain ⟨ad, t, cc, y, hA, hbk, hx, a0, a1, a2⟩ := recT (HA.out.rd.below HX.out.2) hkn
          have hob := HO.out.1 _ (List.mem_of_getElem? hx)
          have hok := (okB_iff _).1 hob
          simp only at hok
          have ht0 : 0 ≤ t := hok.1
          have ht1 : t ≤ 1000000000 := hok.2.1
          have e1 : t.tdiv width = t / width := Int.tdiv_eq_ediv_of_nonneg ht0
          have e2 := Int.ediv_nonneg ht0 (show 0 ≤ width by omega)
          have e3 : t / width ≤ t := Int.ediv_le_self _ ht0
          have e4 : IntKind.i64.wrap (t / width) = t / width := by rw [IntKind.wrap_i64]; omega
          have hdn := down_bd hw1.1 ht0 ht1
          unfold down at hdn
          have e5 : IntKind.i64.wrap (t / width * width) = t - t % width := by rw [down_quo, IntKind.wrap_i64]; omega
          have e6 : ¬ width = 0 := by omega
          have e7 : (width == 0) = false := by rw [beq_eq_false_iff_ne]; omega
          have HPT := Lib.hid (fun nq => put_step v (widL (S.take k) width) (t - t % width) cc y (wr.drewN nq) (HX.out.1.drew nq) (ok_widL hw1.1 (ok_take HO.out.1 k)) (by rw [widL_len, List.length_take]; have := HO.out.2; omega) (ok_down hw1.1 hob))
          have HTK := Lib.hid (widL_take (width := width) hx)
          have HB := Lib.hid HX.out.2
          subst hA
          clear hx hbk hob hok hdn HX
          go_wp2_with fail
          go_still_tail 21, (by kernel_rfl)
          change wpList _ _ _ _ _ (wr.drewN 1)
          clear e1 e2 e3 e4 e5 e6 e7 a0 a1 a2
          go_wp2_with fail
          refine (HPT.out 1).mono ?_
          rintro e4 w4 ⟨⟨v4, rfl, hr4⟩, hb4⟩
          have hti : widL (S.take k) width ++ [(t - t % width, cc, y)] = widL (S.take (k + 1)) width := HTK.out.symm
          rw [hti] at hr4
          have HX4 := Lib.hid (And.intro hr4 (HB.out.trans ((below_drewN (Below.refl _ _) 1 : Below wr.heap.size wr (wr.drewN 1)).trans hb4 |>.mono HB.out.size)))
          clear hr4 hb4 hti HPT
          go_wp2_with fail
          exact ⟨⟨k + 1, v4, by go_num, rfl, by omega, HX4.out⟩, by simp [intOf]; omega⟩
        · obtain rfl : n = k := by omega
          have htk : S.take n = S := List.take_of_length_le (by have := HA.out.len; omega)
          have hr := HX.out.1
          rw [htk] at hr
          have hgl := gat_len (widL S width)
          rw [widL_len] at hgl
          have HDN := Lib.hid (done_any v (gat (widL S width)) wr hr (by have := HO.out.2; omega))
          rw [(done_gat _).1, (done_gat _).2, ← HE.out.1, ← HE.out.2] at HDN
          have HB := Lib.hid HX.out.2
          clear htk hr hgl HX
          go_wp2_with fail
          refine HDN.out.mono ?_
          rintro e3 w3 ⟨⟨v3, rfl, hr3⟩, hb3⟩
          have HR3 := Lib.hid (And.intro hr3 (HB.out.trans (hb3.mono HB.out.size)))
          clear hr3 hb3 HDN
          go_wp2_with fail
          go_ret2
          exact ⟨⟨v3, rfl, HR3.out.1⟩, HR3.out.2⟩
    · have HE := Lib.hid (crs_no (S := S) (width := width) (fun h => hw h.2))
      have hw2 : ¬ (1 ≤ width ∧ width ≤ 1000000000) := fun h => hw ((wideB_iff width).2 h)
      clear hs hw
      by_cases g1 : width < 1
      · clear hw2
        go_enter Try.func14, Try.ntmps14
        go_wp2_with fail
        refine HC.out.mono ?_
        rintro e1 w1 ⟨rfl, hb1⟩
        have HB1 := Lib.hid hb1
        clear hb1 HC
        go_wp2_with fail
        go_ret2
        exact ⟨⟨.slice none 0 0, by rw [HE.out.1]; rfl, by rw [HE.out.2]; exact res_nil _⟩, HB1.out⟩
      · have g2 : 1000000000 < width := by omega
        clear hw2
        go_enter Try.func14, Try.ntmps14
        go_wp2_with fail
        refine HC.out.mono ?_
        rintro e1 w1 ⟨rfl, hb1⟩
        have HB1 := Lib.hid hb1
        clear hb1 HC
        go_wp2_with fail
        go_ret2
        exact ⟨⟨.slice none 0 0, by rw [HE.out.1]; rfl, by rw [HE.out.2]; exact res_nil _⟩, HB1.out⟩
  · have HE := Lib.hid (crs_no (S := S) (width := width) (fun h => hs h.1))
    rw [chk_two hs] at HC
    clear hs
    go_enter Try.func14, Try.ntmps14
    go_wp2_with fail
    refine HC.out.mono ?_
    rintro e1 w1 ⟨rfl, hb1⟩
    have HB1 := Lib.hid hb1
    clear hb1 HC
    go_wp2_with fail
    go_ret2
    exact ⟨⟨.slice none 0 0, by rw [HE.out.1]; rfl, by rw [HE.out.2]; exact res_nil _⟩, HB1.out⟩
end Tm
end Go.Proofs.Ytaockieikcibdaa
