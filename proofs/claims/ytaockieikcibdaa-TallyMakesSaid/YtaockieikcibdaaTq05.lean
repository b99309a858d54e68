/- tally.wide, tally.Of. tally.Coarse. Slices of the document's buckets: appending to them. -/
import Derived.Test.YtaockieikcibdaaTq04
import Derived.Test.YtaockieikcibdaaTq03
import Derived.StillTailTactics
import Derived.ArgAppend
import Derived.Laws.AppendOwnNone
import Derived.Laws.OwnMore
namespace Go.Proofs.Ytaockieikcibdaa
namespace Ta
open Go.RowKit Go.Maps Rd

theorem getB_le : ∀ (S : List Bu), (∀ x ∈ S, nn x) → ∀ t, 0 ≤ (getB S t).1 ∧ (getB S t).1 ≤ sumC S ∧ 0 ≤ (getB S t).2 ∧ (getB S t).2 ≤ sumY S
  | [], _, t => by simp [getB, sumC, sumY]
  | y :: l, h, t => by
    have h1 := h y (List.mem_cons_self ..)
    have hl := fun x hx => h x (List.mem_cons_of_mem y hx)
    have h2 := sum_nn l hl
    have ih := getB_le l hl t
    rw [getB]
    unfold sumC sumY nn at *
    simp only [List.map_cons, List.sum_cons]
    split <;> omega
set_option maxHeartbeats 3200000 in
theorem wide_any (n : Int) (w : World) : Calls Try.prog 24 #[.int .i64 n] w fun e w' => e = .returned (.bool (wideB n)) ∧ w = w' := by
  have mixed : Try.prog.follows .mixedOrders = true := by kernel_rfl
  by_cases h1 : 1 ≤ n
  · by_cases h2 : n ≤ 1000000000
    · rw [show wideB n = true from (wideB_iff n).2 ⟨h1, h2⟩]
      go_enter Try.func24, Try.ntmps24
      go_wp2_with fail
      go_ret
      exact ⟨rfl, rfl⟩
    · rw [show wideB n = false by simp [wideB, h2]]
      go_enter Try.func24, Try.ntmps24
      go_wp2_with fail
      go_ret
      exact ⟨rfl, rfl⟩
  · rw [show wideB n = false by simp [wideB, h1]]
    go_enter Try.func24, Try.ntmps24
    go_wp2_with fail
    go_ret
    exact ⟨rfl, rfl⟩

/-- What tally.Of tells. -/
def ofE (l : List (Int × Int × ByteArray)) (width : Int) : Int := if wideB width = false then 2 else if l.all ok1 = false then 150 else bukE (gat (items l width))
def ofL (l : List (Int × Int × ByteArray)) (width : Int) : List Bu := if ofE l width = 0 then gat (items l width) else []
theorem ofE_wide {l : List (Int × Int × ByteArray)} {width : Int} (h : wideB width = false) : ofE l width = 2 ∧ ofL l width = [] := by
  have : ofE l width = 2 := if_pos h
  exact ⟨this, by unfold ofL; rw [this]; rfl⟩
theorem ofE_bad {l : List (Int × Int × ByteArray)} {width : Int} {k : Nat} {r : Int × Int × ByteArray} (hw : wideB width = true) (h : l[k]? = some r) (hr : ok1 r = false) : ofE l width = 150 ∧ ofL l width = [] := by
  have : ofE l width = 150 := by
    unfold ofE
    rw [if_neg (by rw [hw]; decide), if_pos]
    rw [List.all_eq_false]
    exact ⟨r, List.mem_of_getElem? h, by simp [hr]⟩
  exact ⟨this, by unfold ofL; rw [this]; rfl⟩
theorem ofE_ok {l : List (Int × Int × ByteArray)} {width : Int} (hw : wideB width = true) (h : ∀ k r, k < l.length → l[k]? = some r → ok1 r = true) : ofE l width = bukE (gat (items l width)) ∧ ofL l width = bukL (gat (items l width)) := by
  have : ofE l width = bukE (gat (items l width)) := by
    unfold ofE
    rw [if_neg (by rw [hw]; decide), if_neg]
    simp only [Bool.not_eq_false]
    rw [List.all_eq_true]
    intro x hm
    obtain ⟨k, hk, rfl⟩ := List.getElem_of_mem hm
    exact h k _ hk (List.getElem?_eq_getElem hk)
  exact ⟨this, by unfold ofL bukL; rw [this]⟩
/-- What holds of records' buckets. -/
theorem items_ok {l : List (Int × Int × ByteArray)} {width : Int} (hw : 1 ≤ width) (h : ∀ r ∈ l, ok1 r = true) : ∀ x ∈ items l width, (0 ≤ x.1 ∧ x.1 ≤ 1000000000) ∧ x.2.1 = 1 ∧ 0 ≤ x.2.2 ∧ x.2.2 ≤ 2000 := by
  intro x hx
  obtain ⟨r, hr, rfl⟩ := List.mem_map.1 hx
  have ho := h r hr
  rw [ok1_iff] at ho
  have hd := down_bd hw ho.2.2.1 ho.2.2.2.1
  unfold down at hd
  refine ⟨⟨hd.1, hd.2.1⟩, rfl, ?_, ?_⟩
  · exact Int.natCast_nonneg _
  · show ((r.2.2.size : Nat) : Int) ≤ 2000
    omega

set_option maxHeartbeats 6400000 in
set_option maxRecDepth 100000 in
theorem of_any (A : Option Addr) (n c : Nat) (l : List (Int × Int × ByteArray)) (width : Int) (w : World) (hrd : Rd w w.heap.size 3 A n (fl3 l)) (hn : n ≤ 1000000) :
    Calls Try.prog 8 #[.slice A n c, .int .i64 width] w fun e w' => (∃ v, e = .returned (.tuple #[v, .int .i64 (ofE l width)]) ∧ OwnT w' w.heap.size v (ofL l width)) ∧ Below w.heap.size w w' := by
  have mixed : Try.prog.follows .mixedOrders = true := by kernel_rfl
  have hln := rd3_len hrd
  have HW := Lib.hid (wide_any width w)
  by_cases hw : wideB width = true
  · rw [hw] at HW
    have hw1 := (wideB_iff width).1 hw
    have HR := Lib.hid hrd
    have HWB := Lib.hid hw
    have HLN := Lib.hid hln
    have hmk := run_makeMap (P := Try.prog) 58 w
    clear hrd hw hln
    go_enter Try.func8, Try.ntmps8
    go_wp2_with fail
    refine HW.out.mono ?_
    rintro e1 w1 ⟨rfl, rfl⟩
    go_wp2_with fail
    have hg0 : GM (w.alloc (.map #[] 0)) w.heap.size 0 [] := World.ownsMap_made w _ _ _
    have hb0 := (ext_alloc w (.map #[] 0)).trans ((ext_alloc (w.alloc (.map #[] 0)) (.cells #[.map (some w.heap.size)] 60)).mono (by simp))
    have hc0 : ((w.alloc (.map #[] 0)).alloc (.cells #[.map (some w.heap.size)] 60)).cell? ⟨w.heap.size + 1, 0, none⟩ = some (.map (some w.heap.size)) := by
      have := World.cell?_alloc_new (w := w.alloc (.map #[] 0)) #[.map (some w.heap.size)] 60 0
      simp
    have H0 := Lib.hid (And.intro (hg0.alloc (.cells #[.map (some w.heap.size)] 60)) (And.intro hb0 hc0))
    have hs0 : w.heap.size + 2 = ((w.alloc (.map #[] 0)).alloc (.cells #[.map (some w.heap.size)] 60)).heap.size := by simp
    have HS0 := Lib.hid hs0
    clear hg0 hb0 hc0 hs0 hmk
    generalize (w.alloc (.map #[] 0)).alloc (.cells #[.map (some w.heap.size)] 60) = w2 at *
    generalize hB : w.heap.size = b at *
    have HBS := Lib.hid hB
    clear hB
    go_loopw [17] (fun i wr => ∃ k : Nat, i = .int .i64 (k : Int) ∧ k ≤ n ∧ Hid (GM wr b k (gat (items (l.take k) width)) ∧ w2.grownBy wr (some b) ∧ ∀ j r, j < k → l[j]? = some r → ok1 r = true)) (fun i _ => n - (intOf i).toNat)
    case atStart => exact ⟨0, by go_num, by omega, H0.out.1, ⟨rfl, rfl, rfl, Nat.le_refl _, fun _ _ _ => rfl⟩, fun j r h => absurd h (by omega)⟩
    case round =>
      obtain ⟨k, rfl, hk, HX⟩ := hrel
      have hbr : Below b w wr := H0.out.2.1.grown HX.out.2.1 (by rw [← HS0.out]; omega) (fun g hg => by cases hg; exact Nat.le_refl _)
      by_cases hkn : k < n
      · obtain ⟨ad, q, t, d, rfl, hbk, hx, hc0, hc1, hc2⟩ := rec3 (HR.out.below hbr) hkn
        have hcg : wr.cell? ⟨b + 1, 0, none⟩ = some (.map (some b)) := (World.grownBy.cell_far HX.out.2.1 ⟨b + 1, 0, none⟩ (by rw [← HS0.out]; show b + 1 < b + 2; omega) (by simp)).trans H0.out.2.2
        have HX2 := Lib.hid HX.out
        have HCK := Lib.hid (Rd.check_any q t d (wr.alloc (.cells #[.int .i64 q, .int .i64 t, .string d] 51)))
        have HXK := Lib.hid hx
        have HBR := Lib.hid hbr
        have hbw : b + 2 ≤ wr.heap.size := by rw [HS0.out]; exact HX.out.2.1.size
        by_cases ho : ok1 (q, t, d) = true
        · rw [cE_ok ho] at HCK
          have hoo := ho
          rw [ok1_iff] at hoo
          have ht0 : 0 ≤ t := hoo.2.2.1
          have ht1 : t ≤ 1000000000 := hoo.2.2.2.1
          have hd : d.size ≤ 2000 := hoo.2.2.2.2
          have HOK := Lib.hid ho
          have HBW := Lib.hid hbw
          clear hoo ho hx hbr hbk HX hbw
          go_wp2_with fail
          refine HCK.out.mono ?_
          rintro e3 w3 ⟨rfl, hb3⟩
          have a1 : w3.cell? ⟨wr.heap.size, 1, none⟩ = some (.int .i64 t) := by rw [hb3.cell (p := ⟨wr.heap.size, 1, none⟩) (by simp), World.cell?_alloc_new]; rfl
          have a2 : w3.cell? ⟨wr.heap.size, 2, none⟩ = some (.string d) := by rw [hb3.cell (p := ⟨wr.heap.size, 2, none⟩) (by simp), World.cell?_alloc_new]; rfl
          have hbw3 := (ext_alloc wr (.cells #[.int .i64 q, .int .i64 t, .string d] 51)).trans (hb3.mono (by simp))
          have a3 : w3.cell? ⟨b + 1, 0, none⟩ = some (.map (some b)) := (hbw3.cell (p := ⟨b + 1, 0, none⟩) (by have := HBW.out; simp; omega)).trans hcg
          have HG3 := Lib.hid (And.intro (HX2.out.1.below hbw3 (by have := HBW.out; omega)) hbw3)
          have e1 : t.tmod width = t % width := Int.tmod_eq_emod_of_nonneg ht0
          have e2 := Int.emod_nonneg t (show width ≠ 0 by omega)
          have e3 := Int.emod_lt_of_pos t (show 0 < width by omega)
          have e4 : IntKind.i64.wrap (t - t % width) = t - t % width := by rw [IntKind.wrap_i64]; omega
          have e5 : IntKind.i64.wrap (t % width) = t % width := by rw [IntKind.wrap_i64]; omega
          have e6 : ¬ width = 0 := by omega
          have e7 : (width == 0) = false := by rw [beq_eq_false_iff_ne]; omega
          clear hb3 hbw3 hc0 hc1 hc2 hcg HCK
          go_wp2_with fail
          go_still_tail 12, (by kernel_rfl)
          change wpList _ _ _ _ _ w3.drew
          clear e1 e2 e3 e4 e5 e6 e7 a1 a2 a3
          have hit : ∀ x ∈ items (l.take k) width, (0 ≤ x.1 ∧ x.1 ≤ 1000000000) ∧ x.2.1 = 1 ∧ 0 ≤ x.2.2 ∧ x.2.2 ≤ 2000 := items_ok hw1.1 (fun r hr => by
            obtain ⟨j, hj, rfl⟩ := List.getElem_of_mem hr
            have hjk : j < k := by rw [List.length_take] at hj; omega
            rw [List.getElem_take]
            exact HX2.out.2.2 j _ hjk (List.getElem?_eq_getElem (by rw [List.length_take] at hj; omega)))
          have hnn : ∀ x ∈ items (l.take k) width, nn x := fun x hx => by have := hit x hx; unfold nn; omega
          have hsum := sum_le (S := items (l.take k) width) 1 2000 (fun x hx => by have := hit x hx; omega)
          have hlen : (items (l.take k) width).length = k := by unfold items; rw [List.length_map, List.length_take, HLN.out]; omega
          rw [hlen] at hsum
          have hgs := gat_sums (items (l.take k) width)
          have hgb := getB_le (gat (items (l.take k) width)) (gat_nn hnn) (t - t % width)
          have hdn := down_bd hw1.1 ht0 ht1
          unfold down at hdn
          have hga := gat_asc (items (l.take k) width)
          have hADD := add_any (t - t % width) 1 (d.size : Int) (gat (items (l.take k) width)) b k w3.drew (HG3.out.1) hga (by omega) ⟨hdn.1, hdn.2.1⟩ (by omega) (by omega)
          rw [← gat_snoc] at hADD
          have hti := items_take (width := width) HXK.out
          have hti2 : items (l.take k) width ++ [(t - t % width, 1, (d.size : Int))] = items (l.take (k + 1)) width := hti.symm
          rw [hti2] at hADD
          have HADD := Lib.hid hADD
          clear hit hnn hsum hlen hgs hgb hdn hga hADD hti hti2
          go_wp2_with fail
          refine HADD.out.mono ?_
          rintro e4 w4 ⟨rfl, hgm, hg⟩
          have hall : ∀ j r, j < k + 1 → l[j]? = some r → ok1 r = true := by
            intro j r hj hr
            rcases Nat.lt_or_ge j k with h | h
            · exact HX2.out.2.2 j r h hr
            · obtain rfl : j = k := by omega
              rw [HXK.out] at hr; cases hr; exact HOK.out
          have hgr : w2.grownBy w4 (some b) := HX2.out.2.1.trans ((below_grown HG3.out.2 (by have := HBW.out; omega)).trans ((⟨rfl, rfl, rfl, Nat.le_refl _, fun _ _ _ => rfl⟩ : w3.grownBy w3.drew (some b)).trans hg))
          have HX4 := Lib.hid (And.intro hgm (And.intro hgr hall))
          clear hall hgr hgm hg HADD HX2
          go_wp2_with fail
          exact ⟨⟨k + 1, by go_num, by omega, HX4.out⟩, by simp [intOf]; omega⟩
        · rw [cE_no ho] at HCK
          have ho2 : ok1 (q, t, d) = false := by simpa using ho
          obtain ⟨h1, h2⟩ := ofE_bad HWB.out hx ho2
          have HE := Lib.hid (And.intro h1 h2)
          clear ho ho2 hx hbr hbk HX hbw h1 h2
          go_wp2_with fail
          refine HCK.out.mono ?_
          rintro e3 w3 ⟨rfl, hb3⟩
          have HB3 := Lib.hid (HBR.out.trans (((ext_alloc wr (.cells #[.int .i64 q, .int .i64 t, .string d] 51)).trans (hb3.mono (by simp))).mono (by have := HBR.out.size; have := HBS.out; omega)))
          clear hb3 hc0 hc1 hc2 hcg HCK
          go_wp2_with fail
          go_ret2
          exact ⟨⟨.slice none 0 0, by rw [HE.out.1]; rfl, by rw [HE.out.2]; exact ownT_nil _ _⟩, by rw [HBS.out]; exact HB3.out⟩
      · obtain rfl : k = n := by omega
        have htk : l.take k = l := List.take_of_length_le (by have := HLN.out; omega)
        have hg := HX.out.1
        rw [htk] at hg
        obtain ⟨h1, h2⟩ := ofE_ok HWB.out (fun j r hj hr => HX.out.2.2 j r (by rw [← HLN.out]; exact hj) hr)
        have hit : ∀ x ∈ items l width, (0 ≤ x.1 ∧ x.1 ≤ 1000000000) ∧ x.2.1 = 1 ∧ 0 ≤ x.2.2 ∧ x.2.2 ≤ 2000 := items_ok hw1.1 (fun r hr => by
          obtain ⟨j, hj, rfl⟩ := List.getElem_of_mem hr
          exact HX.out.2.2 j _ (by rw [← HLN.out]; exact hj) (List.getElem?_eq_getElem hj))
        have hgl := gat_len (items l width)
        have hil : (items l width).length = l.length := List.length_map ..
        have HBK := Lib.hid (buckets_any (gat (items l width)) b k wr hg (gat_asc _) (by have := HLN.out; omega) (gat_time fun x hx => (hit x hx).1))
        have hcg : wr.cell? ⟨b + 1, 0, none⟩ = some (.map (some b)) := (World.grownBy.cell_far HX.out.2.1 ⟨b + 1, 0, none⟩ (by rw [← HS0.out]; show b + 1 < b + 2; omega) (by simp)).trans H0.out.2.2
        have HE := Lib.hid (And.intro h1 h2)
        have HBR := Lib.hid hbr
        have HSR := Lib.hid HX.out.2.1.size
        clear hit hgl hil htk hg h1 h2 hbr HX
        go_wp2_with fail
        refine HBK.out.mono ?_
        rintro e3 w3 ⟨⟨v, rfl, hown⟩, hg3⟩
        have HO := Lib.hid (OwnT.lower hown (show b ≤ wr.heap.size by have := HSR.out; have := HS0.out; omega))
        have HB3 := Lib.hid (HBR.out.grown hg3 (by have := HSR.out; have := HS0.out; omega) (fun g hg => by cases hg; exact Nat.le_refl _))
        clear hown hg3 HBK hcg
        go_wp2_with fail
        go_ret2
        exact ⟨⟨v, by rw [HE.out.1]; rfl, by rw [HE.out.2, HBS.out]; exact HO.out⟩, by rw [HBS.out]; exact HB3.out⟩
  · have hf : wideB width = false := by simpa using hw
    rw [hf] at HW
    obtain ⟨h1, h2⟩ := ofE_wide (l := l) hf
    rw [h1, h2]
    clear hw hf hrd hln h1 h2
    go_enter Try.func8, Try.ntmps8
    go_wp2_with fail
    refine HW.out.mono ?_
    rintro e1 w1 ⟨rfl, rfl⟩
    go_wp2_with fail
    go_ret2
    exact ⟨⟨.slice none 0 0, rfl, ownT_nil _ _⟩, Below.refl _ _⟩
end Ta
end Go.Proofs.Ytaockieikcibdaa
namespace Go.Proofs.Ytaockieikcibdaa
namespace Ta
open Go.RowKit Go.Maps Go.Sort

def okL (L : List Bu) : Prop := ∀ x ∈ L, okB x = true
theorem ok_getB {L : List Bu} (h : okL L) (hl : L.length ≤ 2000) (t : Int) : 0 ≤ (getB (gat L) t).1 ∧ (getB (gat L) t).1 ≤ 2000000000000000 ∧ 0 ≤ (getB (gat L) t).2 ∧ (getB (gat L) t).2 ≤ 2000000000000000000 := by
  have hnn : ∀ x ∈ L, nn x := fun x hx => by have := (okB_iff x).1 (h x hx); unfold nn; omega
  have hg := gat_sums L
  have hb := getB_le (gat L) (gat_nn hnn) t
  have hs := sum_le (S := L) 1000000000000 1000000000000000 (fun x hx => by have := (okB_iff x).1 (h x hx); omega)
  have h4 : ((L.length : Nat) : Int) ≤ 2000 := by omega
  generalize ((L.length : Nat) : Int) = n at *
  omega
theorem ok_time {L : List Bu} (h : okL L) : ∀ x ∈ gat L, 0 ≤ x.1 ∧ x.1 ≤ 1000000000 := gat_time fun x hx => by have := (okB_iff x).1 (h x hx); omega
theorem add_step (t c y : Int) (L : List Bu) (b n : Nat) (w : World) (h : GM w b n (gat L)) (hL : okL L) (hl : L.length ≤ 2000) (hx : okB (t, c, y) = true) (hn : n ≤ 1000000) :
    Calls Try.prog 26 #[.agg #[.map (some b)], .agg #[.int .i64 t, .int .i64 c, .int .i64 y]] w fun e w' => e = .returned undef ∧ GM w' b (n + 1) (gat (L ++ [(t, c, y)])) ∧ w.grownBy w' (some b) := by
  have hb := ok_getB hL hl t
  rw [okB_iff] at hx
  simp only at hx
  rw [gat_snoc]
  exact add_any t c y (gat L) b n w h (gat_asc L) (by omega) (by omega) (by omega) (by omega)
theorem ok_chk {S : List Bu} (h : chk S = 0) : okL S ∧ S.length ≤ 1000 := by
  have hp := chk_inv h
  refine ⟨fun x hx => ?_, hp.1⟩
  obtain ⟨j, hj, rfl⟩ := List.getElem_of_mem hx
  exact hp.2.1 j _ hj (List.getElem?_eq_getElem hj)
theorem ok_down {width : Int} (hw : 1 ≤ width) {x : Bu} (hx : okB x = true) : okB (wid (down width) x) = true := by
  rw [okB_iff] at hx ⊢
  have := down_bd hw hx.1 hx.2.1
  exact ⟨this.1, this.2.1, hx.2.2⟩
/-- Buckets of a greater width. -/
def widL (S : List Bu) (width : Int) : List Bu := S.map (wid (down width))
theorem widL_len (S : List Bu) (width : Int) : (widL S width).length = S.length := List.length_map ..
theorem ok_widL {width : Int} (hw : 1 ≤ width) {S : List Bu} (h : okL S) : okL (widL S width) := fun x hx => by
  obtain ⟨y, hy, rfl⟩ := List.mem_map.1 hx
  exact ok_down hw (h y hy)
theorem ok_take {S : List Bu} (h : okL S) (k : Nat) : okL (S.take k) := fun x hx => h x (List.mem_of_mem_take hx)
theorem widL_take {S : List Bu} {width : Int} {k : Nat} {x : Bu} (h : S[k]? = some x) : widL (S.take (k + 1)) width = widL (S.take k) width ++ [wid (down width) x] := by
  unfold widL
  rw [List.take_add_one, h]; simp
/-- What tally.Coarse tells. -/
noncomputable def crsE (S : List Bu) (width : Int) : Int := if chk S = 0 ∧ wideB width = true then bukE (gat (widL S width)) else 2
noncomputable def crsL (S : List Bu) (width : Int) : List Bu := if crsE S width = 0 then gat (widL S width) else []
theorem crs_no {S : List Bu} {width : Int} (h : ¬ (chk S = 0 ∧ wideB width = true)) : crsE S width = 2 ∧ crsL S width = [] := by
  have : crsE S width = 2 := if_neg h
  exact ⟨this, by unfold crsL; rw [this]; rfl⟩
theorem crs_yes {S : List Bu} {width : Int} (h : chk S = 0 ∧ wideB width = true) : crsE S width = bukE (gat (widL S width)) ∧ crsL S width = bukL (gat (widL S width)) := by
  have : crsE S width = bukE (gat (widL S width)) := if_pos h
  exact ⟨this, by unfold crsL bukL; rw [this]⟩

theorem GM.far {w : World} {b n g j : Nat} {S : List Bu} (h : GM w b n S) (hg : b ≠ g) (u : Value) : GM (w.setCell ⟨g, j, none⟩ u) b n S := by
  obtain ⟨es, clock, hx, F, hs, hD⟩ := h
  exact ⟨es, clock, (Below.heap_setCell w ⟨g, j, none⟩ u b hg).trans hx, F, hs, hD⟩
theorem grown_set {w w' : World} {b g j : Nat} (h : w.grownBy w' (some b)) (hg : w.heap.size ≤ g) (u : Value) : w.grownBy (w'.setCell ⟨g, j, none⟩ u) (some b) :=
  ⟨h.os, h.tape, h.output, by simpa [World.setCell] using h.size, fun k hk hb => (Below.heap_setCell w' ⟨g, j, none⟩ u k (by show k ≠ g; omega)).trans (h.block k hk hb)⟩
set_option maxHeartbeats 6400000 in
set_option maxRecDepth 100000 in
theorem coarse_any (A : Option Addr) (n c : Nat) (S : List Bu) (width : Int) (w : World) (hrd : Rd w w.heap.size 3 A n (flT S)) (hn : n ≤ 1000000) :
    Calls Try.prog 13 #[.slice A n c, .int .i64 width] w fun e w' => (∃ v, e = .returned (.tuple #[v, .int .i64 (crsE S width)]) ∧ OwnT w' w.heap.size v (crsL S width)) ∧ Below w.heap.size w w' := by
  have mixed : Try.prog.follows .mixedOrders = true := by kernel_rfl
  have hln := rdT_len hrd
  have HCK := Lib.hid (check_any A n c S w hrd hn)
  have HR := Lib.hid hrd
  have HLN := Lib.hid hln
  clear hrd hln
  by_cases hs : chk S = 0
  · rw [hs] at HCK
    by_cases hw : wideB width = true
    · have HE := Lib.hid (crs_yes ⟨hs, hw⟩)
      have HO := Lib.hid (ok_chk hs)
      have hw1 := (wideB_iff width).1 hw
      have HW := Lib.hid (fun w => wide_any width w)
      rw [hw] at HW
      clear hs hw
      go_enter Try.func13, Try.ntmps13
      go_wp2_with fail
      refine HCK.out.mono ?_
      rintro e1 w1 ⟨rfl, hb1⟩
      have HB1 := Lib.hid hb1
      clear hb1 HCK
      go_wp2_with fail
      refine (HW.out _).mono ?_
      rintro e2 w2 ⟨rfl, rfl⟩
      have hmk := run_makeMap (P := Try.prog) 58 w1
      go_wp2_with fail
      have hg0 : GM (w1.alloc (.map #[] 0)) w1.heap.size 0 [] := World.ownsMap_made w1 _ _ _
      have hb0 := (ext_alloc w1 (.map #[] 0)).trans ((ext_alloc (w1.alloc (.map #[] 0)) (.cells #[.map (some w1.heap.size)] 60)).mono (by simp))
      have hc0 : ((w1.alloc (.map #[] 0)).alloc (.cells #[.map (some w1.heap.size)] 60)).cell? ⟨w1.heap.size + 1, 0, none⟩ = some (.map (some w1.heap.size)) := by
        have := World.cell?_alloc_new (w := w1.alloc (.map #[] 0)) #[.map (some w1.heap.size)] 60 0
        simp
      have H0 := Lib.hid (And.intro (hg0.alloc (.cells #[.map (some w1.heap.size)] 60)) (And.intro hb0 hc0))
      have hs0 : w1.heap.size + 2 = ((w1.alloc (.map #[] 0)).alloc (.cells #[.map (some w1.heap.size)] 60)).heap.size := by simp
      have HS0 := Lib.hid hs0
      clear hg0 hb0 hc0 hs0 hmk HW
      generalize (w1.alloc (.map #[] 0)).alloc (.cells #[.map (some w1.heap.size)] 60) = w2 at *
      have HSZ := Lib.hid HB1.out.size
      generalize hB : w1.heap.size = b at *
      have HBS := Lib.hid hB
      clear hB
      go_loopw [22] (fun i wr => ∃ k : Nat, i = .int .i64 (k : Int) ∧ k ≤ n ∧ Hid (GM wr b k (gat (widL (S.take k) width)) ∧ w2.grownBy wr (some b))) (fun i _ => n - (intOf i).toNat)
      case atStart => exact ⟨0, by go_num, by omega, H0.out.1, ⟨rfl, rfl, rfl, Nat.le_refl _, fun _ _ _ => rfl⟩⟩
      case round =>
        obtain ⟨k, rfl, hk, HX⟩ := hrel
        have hbr1 : Below b w1 wr := H0.out.2.1.grown HX.out.2 (by rw [← HS0.out]; omega) (fun g hg => by cases hg; exact Nat.le_refl _)
        have hbr : Below w.heap.size w wr := HB1.out.trans (hbr1.mono HSZ.out)
        have HBR := Lib.hid hbr
        have hbw : b + 2 ≤ wr.heap.size := by rw [HS0.out]; exact HX.out.2.size
        have HBW := Lib.hid hbw
        have hcg : wr.cell? ⟨b + 1, 0, none⟩ = some (.map (some b)) := (World.grownBy.cell_far HX.out.2 ⟨b + 1, 0, none⟩ (by rw [← HS0.out]; show b + 1 < b + 2; omega) (by simp)).trans H0.out.2.2
        have HX2 := Lib.hid HX.out
        by_cases hkn : k < n
        · obtain ⟨ad, t, cc, y, rfl, hbk, hx, hc0, hc1, hc2⟩ := recT (HR.out.below hbr) hkn
          have HXK := Lib.hid hx
          have hok := (okB_iff _).1 (HO.out.1 _ (List.mem_of_getElem? hx))
          simp only at hok
          have HOK := Lib.hid hok
          have ht0 : 0 ≤ t := hok.1
          have ht1 : t ≤ 1000000000 := hok.2.1
          have e1 : t.tmod width = t % width := Int.tmod_eq_emod_of_nonneg ht0
          have e2 := Int.emod_nonneg t (show width ≠ 0 by omega)
          have e3 := Int.emod_lt_of_pos t (show 0 < width by omega)
          have e4 : IntKind.i64.wrap (t - t % width) = t - t % width := by rw [IntKind.wrap_i64]; omega
          have e5 : IntKind.i64.wrap (t % width) = t % width := by rw [IntKind.wrap_i64]; omega
          have e6 : ¬ width = 0 := by omega
          have e7 : (width == 0) = false := by rw [beq_eq_false_iff_ne]; omega
          have hne : b + 1 ≠ wr.heap.size := by omega
          clear hok hbk hx HX hbr1 hbr hbw
          go_wp2_with fail
          have hr := Row3.new wr (.int .i64 t) (.int .i64 cc) (.int .i64 y)
          have hcg3 : (wr.alloc (.cells #[.int .i64 t, .int .i64 cc, .int .i64 y] 40)).cell? ⟨b + 1, 0, none⟩ = some (.map (some b)) := (World.cell?_alloc_lt wr _ ⟨b + 1, 0, none⟩ (by have := HBW.out; show b + 1 < _; omega)).trans hcg
          have hg3 := HX2.out.1.alloc (.cells #[.int .i64 t, .int .i64 cc, .int .i64 y] 40)
          have hgr3 := HX2.out.2.trans (World.grownBy_alloc wr (.cells #[.int .i64 t, .int .i64 cc, .int .i64 y] 40) (some b))
          have hbig : b + 2 ≤ wr.heap.size := HBW.out
          generalize wr.alloc (.cells #[.int .i64 t, .int .i64 cc, .int .i64 y] 40) = w3 at *
          generalize wr.heap.size = G at *
          have HR3 := Lib.hid (And.intro hr (And.intro hg3 (And.intro hgr3 hbig)))
          have f0 := hr.fz 0
          have d0 := hr.e0
          have d1 := hr.e1
          have d2 := hr.e2
          clear hr hg3 hgr3 hbig hc0 hc1 hc2 hcg
          go_still_tail 8, (by kernel_rfl)
          change wpList _ _ _ _ _ w3.drew
          have hr4 : Row3 w3.drew G (.int .i64 t) (.int .i64 cc) (.int .i64 y) := HR3.out.1
          have hg4 : GM w3.drew b k (gat (widL (S.take k) width)) := HR3.out.2.1
          have hgr4 : w2.grownBy w3.drew (some b) := HR3.out.2.2.1.trans ⟨rfl, rfl, rfl, Nat.le_refl _, fun _ _ _ => rfl⟩
          have hcg4 : w3.drew.cell? ⟨b + 1, 0, none⟩ = some (.map (some b)) := hcg3
          clear f0 d0 d1 d2 hcg3 e1 e2 e3 e4 e5 e6 e7
          generalize w3.drew = w4 at *
          have f0 := hr4.fz 0
          have d0 := hr4.e0
          have d1 := hr4.e1
          have d2 := hr4.e2
          have hbG := HR3.out.2.2.2
          have hADD := add_step (t - t % width) cc y (widL (S.take k) width) b k (w4.setCell ⟨G, 0, none⟩ (.int .i64 (t - t % width))) (hg4.far (by omega) _) (ok_widL hw1.1 (ok_take HO.out.1 k)) (by rw [widL_len, List.length_take]; have := HO.out.2; omega) (ok_down hw1.1 (x := (t, cc, y)) ((okB_iff _).2 HOK.out)) (by omega)
          have htk := widL_take (width := width) HXK.out
          have htk2 : widL (S.take k) width ++ [(t - t % width, cc, y)] = widL (S.take (k + 1)) width := htk.symm
          rw [htk2] at hADD
          have HADD := Lib.hid hADD
          have HGR := Lib.hid (grown_set (j := 0) hgr4 (by rw [← HS0.out]; exact hbG : w2.heap.size ≤ G) (.int .i64 (t - t % width)))
          clear hr4 hg4 hgr4 hADD htk htk2 hbG
          go_wp2_with fail
          refine HADD.out.mono ?_
          rintro e5 w5 ⟨rfl, hgm, hg⟩
          have HX5 := Lib.hid (And.intro hgm (HGR.out.trans hg))
          clear hgm hg HADD HGR f0 d0 d1 d2 hcg4
          go_wp2_with fail
          exact ⟨⟨k + 1, by go_num, by omega, HX5.out⟩, by simp [intOf]; omega⟩
        · obtain rfl : k = n := by omega
          have htk : S.take k = S := List.take_of_length_le (by have := HLN.out; omega)
          have hg := HX.out.1
          rw [htk] at hg
          have hokw := ok_widL hw1.1 HO.out.1
          have hln := widL_len S width
          have hgl := gat_len (widL S width)
          have HBK := Lib.hid (buckets_any (gat (widL S width)) b k wr hg (gat_asc _) (by have := HO.out.2; omega) (ok_time hokw))
          have HSR := Lib.hid HX.out.2.size
          clear htk hg hokw hln hgl hbr hbr1 hbw HX HX2
          go_wp2_with fail
          refine HBK.out.mono ?_
          rintro e3 w3 ⟨⟨v, rfl, hown⟩, hg3⟩
          have HOW := Lib.hid (OwnT.lower hown (show w.heap.size ≤ wr.heap.size by have := HBR.out.size; omega))
          have HB3 := Lib.hid (HBR.out.grown hg3 (by have := HBR.out.size; omega) (fun g hg => by cases hg; exact HSZ.out))
          clear hown hg3 HBK hcg
          go_wp2_with fail
          go_ret2
          exact ⟨⟨v, by rw [HE.out.1]; rfl, by rw [HE.out.2]; exact HOW.out⟩, HB3.out⟩
    · have HE := Lib.hid (crs_no (S := S) (width := width) (fun h => hw h.2))
      have hf : wideB width = false := by simpa using hw
      have HW := Lib.hid (fun w => wide_any width w)
      rw [hf] at HW
      clear hs hw hf
      go_enter Try.func13, Try.ntmps13
      go_wp2_with fail
      refine HCK.out.mono ?_
      rintro e1 w1 ⟨rfl, hb1⟩
      have HB1 := Lib.hid hb1
      clear hb1 HCK
      go_wp2_with fail
      refine (HW.out _).mono ?_
      rintro e2 w2 ⟨rfl, rfl⟩
      go_wp2_with fail
      go_ret2
      exact ⟨⟨.slice none 0 0, by rw [HE.out.1]; rfl, by rw [HE.out.2]; exact ownT_nil _ _⟩, HB1.out⟩
  · have HE := Lib.hid (crs_no (S := S) (width := width) (fun h => hs h.1))
    rw [chk_two hs] at HCK
    clear hs
    go_enter Try.func13, Try.ntmps13
    go_wp2_with fail
    refine HCK.out.mono ?_
    rintro e1 w1 ⟨rfl, hb1⟩
    have HB1 := Lib.hid hb1
    clear hb1 HCK
    go_wp2_with fail
    go_ret2
    exact ⟨⟨.slice none 0 0, by rw [HE.out.1]; rfl, by rw [HE.out.2]; exact ownT_nil _ _⟩, HB1.out⟩
end Ta
end Go.Proofs.Ytaockieikcibdaa
namespace Go.Proofs.Ytaockieikcibdaa
namespace Tm
open Go.RowKit Go.Maps Ta

theorem bf_info : (Try.prog.info? 42).map (fun i => (i.zero, i.size, i.bytes)) = some (some (.agg #[.int .i64 0, .int .i64 0, .int .i64 0]), 3, 24) := by kernel_rfl
/-- A slice of the document's buckets that the call owns from block B on. -/
def OwnF (w : World) (B : Nat) (v : Value) (l : List Bu) : Prop := w.ownsRow B 42 3 v l.length (flT l)
section
variable {w w' : World} {B C : Nat} {v : Value} {l : List Bu}
theorem OwnF.below (h : OwnF w B v l) (hb : Below C w w') (hC : w.heap.size ≤ C) : OwnF w' B v l := own_below h hb hC
theorem OwnF.lower (h : OwnF w B v l) (hC : C ≤ B) : OwnF w C v l := own_lower h hC
/-- What a slice that is handed in reads as: its address, length, room, buckets. -/
structure Arg (w : World) (A : Option Addr) (n c : Nat) (l : List Bu) : Prop where
  rd : Rd w w.heap.size 3 A n (flT l)
  nc : n ≤ c
  cm : c ≤ maxLen
  no : A = none → c = 0
theorem Arg.len {A : Option Addr} {n c : Nat} (h : Arg w A n c l) : l.length = n := rdT_len h.rd
theorem Arg.ext {A : Option Addr} {n c : Nat} (h : Arg w A n c l) (hb : Below w.heap.size w w') : Arg w' A n c l := ⟨h.rd.ext hb, h.nc, h.cm, h.no⟩
theorem OwnF.arg (h : OwnF w B v l) : ∃ A c, v = .slice A l.length c ∧ Arg w A l.length c l := by
  have h0 := h
  obtain ⟨A, c, rfl, h1, h2⟩ := own_slice h0
  refine ⟨A, c, rfl, Rd.of_own h, h1, h2, ?_⟩
  rintro rfl
  rcases h.2 with ⟨hv, _⟩ | ⟨g, cap, cur, hv, _⟩
  · simp only [Value.slice.injEq] at hv; exact hv.2.2
  · cases hv
theorem OwnT_arg (h : OwnT w B v l) : ∃ A c, v = .slice A l.length c ∧ Arg w A l.length c l := by
  have h0 := h
  obtain ⟨A, c, rfl, h1, h2⟩ := own_slice h0
  refine ⟨A, c, rfl, Rd.of_own h, h1, h2, ?_⟩
  rintro rfl
  rcases h.2 with ⟨hv, _⟩ | ⟨g, cap, cur, hv, _⟩
  · simp only [Value.slice.injEq] at hv; exact hv.2.2
  · cases hv
theorem ownF_nil (w : World) (B : Nat) : OwnF w B (.slice none 0 0) [] := World.ownsRow_nil _ _ _ _
theorem ownF_empty (w : World) : OwnF (w.alloc (.cells #[] 42)) w.heap.size (.slice (some ⟨w.heap.size, 0, none⟩) 0 0) [] :=
  World.ownsRow_lit w #[] 0 (Nat.le_refl _) (by simp [maxLen]) rfl
theorem rd_new (w : World) (x : Bu) (t : TypeId) : Rd (w.alloc (.cells #[.int .i64 x.1, .int .i64 x.2.1, .int .i64 x.2.2] t)) (w.alloc (.cells #[.int .i64 x.1, .int .i64 x.2.1, .int .i64 x.2.2] t)).heap.size 3 (some ⟨w.heap.size, 0, none⟩) 1 (flT [x]) :=
  Rd.of_own (World.ownsRow_lit (base := w.heap.size) (e := t) (size := 3) w #[.int .i64 x.1, .int .i64 x.2.1, .int .i64 x.2.2] 1 (Nat.le_refl _) (by simp [maxLen]) rfl)
/-- append(s, x...), as the builtin runs. -/
theorem run_app {w0 : World} {l2 : List Bu} {A : Option Addr} {n c : Nat} (ty : TypeId) (hown : OwnF w0 B v l) (hrd : Rd w0 w0.heap.size 3 A n (flT l2)) (hA : A = none → c = 0) (hl : l.length ≤ 1000000000) (hn : n ≤ 1000000000) (hB : B ≤ w0.heap.size) :
    ∃ v' w', (Builtin.append_ #[23, 23] ty #[v, .slice A n c]).run Try.prog w0 = .ok v' w' ∧ OwnF w' B v' (l ++ l2) ∧ Below B w0 w' := by
  obtain ⟨i0, hi, hz0, hz1, hz2⟩ := info_parts bf_info
  have hln := rdT_len hrd
  cases A with
  | none =>
    have hn0 : n = 0 := by
      rcases Nat.eq_zero_or_pos n with h0 | h0
      · exact h0
      · obtain ⟨ad, e, _⟩ := hrd.cells (by omega)
        cases e
    have hc0 := hA rfl
    subst hn0 hc0
    have hl2 : l2 = [] := List.eq_nil_of_length_eq_zero hln
    subst hl2
    exact ⟨v, w0, run_append_owned_none (P := Try.prog) (w := w0) B 23 ty 42 i0 3 Try.underlying23 hi v l.length (flT l) hown, by rw [List.append_nil]; exact hown, Below.refl _ _⟩
  | some ad =>
    obtain ⟨v', w', hr, h2, h3, -, -⟩ := run_append_own_at (P := Try.prog) w0 B 23 ty 42 i0 (.agg #[.int .i64 0, .int .i64 0, .int .i64 0]) 3 24 Try.underlying23 hi hz0 hz1 hz2 rfl (by omega) v l.length (flT l) hown
      ad n c (flT l2) (by rw [length_fl3, hln]) (by
        intro j u hu
        have hj : j < n * 3 := by
          have := (List.getElem?_eq_some_iff.1 hu).1
          rw [length_fl3, hln] at this; exact this
        obtain ⟨ad', e, _, hc⟩ := hrd.cells (by omega)
        cases e
        exact hc j u hu) (flT_one l2) (by simp only [maxLen]; omega) (by omega) hB
    have hlt := World.ownsRow.lt hown
    refine ⟨v', w', hr, ?_, ((Below.refl _ _).grown h3 hB (fun k hk => (hlt k hk).1))⟩
    unfold OwnF
    rw [List.length_append, flT_append, hln]; exact h2
end
section
variable {ops : Array Oper} {rest : List Oper} {o : Oper} {a : Act} {K : Act → World → Prop} {Q : Exit → Act → World → Prop} {E : Prop}
/-- .. in a plain region. -/
theorem list_app {s x : Operand} {w0 : World} {B : Nat} {v : Value} {l l2 : List Bu} {A : Option Addr} {n c : Nat} (hown : OwnF w0 B v l) (hrd : Rd w0 w0.heap.size 3 A n (flT l2)) (hA : A = none → c = 0) (hl : l.length ≤ 1000000000) (hn : n ≤ 1000000000) (hB : B ≤ w0.heap.size)
    (h : ∀ v' w', OwnF w' B v' (l ++ l2) → Below B w0 w' → wpList Try.prog ops Q rest (a.put o.dst v') w')
    (hgd : o.guard = none := by exact rfl) (ho : o.op = .call { callee := .builtin .append, args := #[s, x], argTypes := #[23, 23] } := by exact rfl)
    (hs : a.eval s = v := by exact rfl) (hx : a.eval x = .slice A n c := by exact rfl) : wpList Try.prog ops Q (o :: rest) a w0 := by
  refine wpList_plain hgd fun K hK => ?_
  obtain ⟨v', w', hr, h1, h2⟩ := run_app o.type hown hrd hA hl hn hB
  unfold Oper.wp execOp
  simp only [ho, resolve, invoke, builtin, Sem.run_bind, Sem.run_pure, Result.andThen_ok, List.map_toArray, List.map_cons, List.map_nil, hs, hx, hr]
  exact hK _ _ (h v' w' h1 h2)
/-- .. in a region that draws. -/
theorem step_app (s x : Operand) {w0 : World} {B : Nat} {v : Value} {l l2 : List Bu} {A : Option Addr} {n c : Nat}
    (hgd : o.guard = none) (ho : o.op = .call { callee := .builtin .append, args := #[s, x], argTypes := #[23, 23] })
    (hown : OwnF w0 B v l) (hrd : Rd w0 w0.heap.size 3 A n (flT l2)) (hA : A = none → c = 0) (hl : l.length ≤ 1000000000) (hn : n ≤ 1000000000) (hB : B ≤ w0.heap.size) (hs : a.eval s = v) (hx : a.eval x = .slice A n c)
    (h : ∀ v' w', OwnF w' B v' (l ++ l2) → Below B w0 w' → K (a.put o.dst v') w') :
    if Region.wanted o (yielded ops a.tmps) = true then Oper.wp Try.prog o a w0 K Q else E := by
  have hw : Region.wanted o (yielded ops a.tmps) = true := by simp [Region.wanted, hgd]
  rw [if_pos hw]
  obtain ⟨v', w', hr, h1, h2⟩ := run_app o.type hown hrd hA hl hn hB
  unfold Oper.wp execOp
  simp only [ho, resolve, invoke, builtin, Sem.run_bind, Sem.run_pure, Result.andThen_ok, List.map_toArray, List.map_cons, List.map_nil, hs, hx, hr]
  exact h v' w' h1 h2
end
theorem flT_drop (l : List Bu) (k : Nat) : (flT l).drop (k * 3) = flT (l.drop k) := by
  induction l generalizing k with
  | nil => simp [flT]
  | cons x l ih =>
    rcases k with _ | k
    · simp
    · rw [flT_cons, List.drop_succ_cons, show (k + 1) * 3 = k * 3 + 1 + 1 + 1 by omega, List.drop_succ_cons, List.drop_succ_cons, List.drop_succ_cons, ih]
theorem flT_take (l : List Bu) (k : Nat) : (flT l).take (k * 3) = flT (l.take k) := by
  induction l generalizing k with
  | nil => simp [flT]
  | cons x l ih =>
    rcases k with _ | k
    · simp [flT]
    · rw [flT_cons, List.take_succ_cons, flT_cons, show (k + 1) * 3 = k * 3 + 1 + 1 + 1 by omega, List.take_succ_cons, List.take_succ_cons, List.take_succ_cons, ih]
end Tm
end Go.Proofs.Ytaockieikcibdaa
