/- The reference's Pack. -/
import Derived.Test.YtjapdfehkoijjaaZrunWalks8
namespace Go.Proofs.Ytjapdfehkoijjaa
namespace Zr
open Go.RowKit

set_option maxRecDepth 100000 in
set_option maxHeartbeats 3200000 in
theorem packR_any (A : Option Addr) (n c : Nat) (l : List Int) (w : World) (hn : n ≤ 5000000) (hrd : Rd w w.heap.size 1 A n (l.map (Value.int .i64))) :
    Calls Try.prog 23 #[.slice A n c] w fun e w' => ∃ v, e = .returned (.tuple #[v, .int .i64 (packE l)]) ∧ Own w' w.heap.size v (packL l) ∧ Below w.heap.size w w' := by
  have hln : l.length = n := by simpa using hrd.len
  have Hln := Lib.hid hln
  clear hln
  go_enter Try.func23, Try.ntmps23
  go_wp2_with fail
  go_loopw [4, 5, 6] (fun u rv i wr => ∃ (k r : Nat) (acc : List Int), i = .int .i64 k ∧ k ≤ n + 1 ∧ rv = .int .i64 r ∧ r ≤ k ∧ Own wr w.heap.size u acc ∧ Below w.heap.size w wr ∧ Hid (invP l k r acc)) (fun _ _ i _ => n + 1 - (intOf i).toNat)
  case atStart => exact ⟨0, 0, [], rfl, by omega, rfl, by omega, World.ownsRow_nil _ _ _ _, Below.refl _ _, (show invP l 0 0 [] from by unfold invP; rw [if_pos (Nat.zero_le _)]; simp)⟩
  case round =>
    obtain ⟨k, r, acc, rfl, hk, rfl, hr, gown, gb, ginv⟩ := hrel
    have hal := invP_len ginv.out
    rw [Hln.out] at hal
    have grd := hrd.below gb
    have hB := gb.size
    by_cases hlt : k < n
    · obtain ⟨ad, x, rfl, had, hx, hcell⟩ := grd.int1 hlt
      have Hx := Lib.hid hx
      clear hx
      by_cases hx0 : x < 0
      · go_wp2_with fail
        go_ret2
        have hno : l.all okRank = false := all_false_int l okRank k x Hx.out (by simp [okRank]; omega)
        unfold packE packL
        rw [if_neg (by rw [hno]; simp), if_neg (by rw [hno]; simp)]
        exact ⟨_, rfl, World.ownsRow_nil _ _ _ _, gb⟩
      by_cases hx1 : 255 < x
      · go_wp2_with fail
        go_ret2
        have hno : l.all okRank = false := all_false_int l okRank k x Hx.out (by simp [okRank]; omega)
        unfold packE packL
        rw [if_neg (by rw [hno]; simp), if_neg (by rw [hno]; simp)]
        exact ⟨_, rfl, World.ownsRow_nil _ _ _ _, gb⟩
      have hok : okRank x = true := by simp [okRank]; omega
      have Hok := Lib.hid hok
      clear hok
      by_cases hx2 : x = 0
      · subst hx2
        go_wp2_with fail
        go_roundw
        case rel => exact ⟨k + 1, r + 1, acc, by go_num, by omega, by go_num, by omega, gown, gb, invP_zero ginv.out Hx.out⟩
        case measure => simp [intOf]; omega
      · have hxb : (x == 0) = false := by rw [beq_eq_false_iff_ne]; exact hx2
        have Hinv := Lib.hid (invP_sym ginv.out Hx.out hx2 Hok.out)
        have hcw : w.cell? (ad.add k) = some (.int .i64 x) := ((gb.cell (p := ad.add k) (by rw [add_block]; omega)).symm).trans hcell
        have hdl := length_digits r (by omega)
        have hul := World.ownsRow.lt gown
        go_wp2_with fail
        refine (digitsR_any r (by omega) _).mono ?_
        rintro e w1 ⟨d, rfl, hd, hb1⟩
        obtain ⟨A1, c1, rfl, hc1, hm1, _⟩ := hd.rd
        have gown1 : Own w1 w.heap.size _ acc := gown.below hb1 (Nat.le_refl _)
        have gb1 : Below w.heap.size w w1 := gb.trans (hb1.mono hB)
        have hdlt := World.ownsRow.lt hd
        have hz1 := hb1.size
        have hcell1 := (hb1.cell (p := ad.add k) (by rw [add_block]; omega)).trans hcell
        clear hcell
        go_wp2_with fail
        obtain ⟨wo, hwo⟩ : ∃ wo : World, wo = wr := ⟨_, rfl⟩
        subst hwo
        go_loopw [4, 8] (fun u j w2 => ∃ kk : Nat, j = .int .i64 kk ∧ kk ≤ (digits r).length ∧ Own w2 w.heap.size u (acc ++ (low r).take kk) ∧ Below w.heap.size w w2 ∧ Own w2 wo.heap.size (.slice A1 (digits r).length c1) (digits r) ∧
            (u.ownBlock = u4.ownBlock ∨ ∃ g, u.ownBlock = some g ∧ w1.heap.size ≤ g) ∧ w1.heap.size ≤ w2.heap.size) (fun _ j _ => (digits r).length - (intOf j).toNat)
        case atStart => exact ⟨0, rfl, by omega, by simpa using gown1, gb1, hd, .inl rfl, Nat.le_refl _⟩
        case round =>
          obtain ⟨kk, rfl, hkk, qown, qb, qd, qu, qz⟩ := hrel
          have hB2 := qb.size
          have quD : Value.ownBlock (.slice A1 (digits r).length c1) = none ∨ Value.ownBlock (.slice A1 (digits r).length c1) ≠ Value.ownBlock u4 := by
            rcases hx : Value.ownBlock (.slice A1 (digits r).length c1) with _ | gd
            · exact .inl rfl
            · right
              have h1 := hdlt gd hx
              rcases qu with e | ⟨g, e, hg⟩
              · rw [e]; intro h; have := hul gd h.symm; omega
              · rw [e]; intro h; simp at h; omega
          obtain ⟨_, _, hAe, _, _, qrd⟩ := qd.rd
          simp only [Value.slice.injEq, true_and] at hAe
          obtain ⟨rfl, rfl⟩ := hAe
          by_cases hlt2 : kk < (digits r).length
          · obtain ⟨a2, y, rfl, _, hy, hcy⟩ := qrd.int1 hlt2
            have hy12 := digits_12 r kk y hy
            have Hy := Lib.hid hy
            clear hy
            go_wp2_with (at_builtin; (refine append1 qown (by simp; omega) hB2 ?_); intro A3 n3 c3 w3 hn3 hown3 hb3 hg3 hat3)
            go_roundw
            case rel =>
              refine ⟨kk + 1, by go_num, by omega, ?_, qb.trans hb3, World.ownsRow.kept qd hg3 quD, ?_, Nat.le_trans qz hb3.size⟩
              · rw [low_at r kk y Hy.out, ← List.append_assoc]; exact hown3
              · rcases hat3 with e | ⟨g, e, hg⟩
                · rw [e]; exact qu
                · exact .inr ⟨g, e, by omega⟩
            case measure => simp [intOf]; omega
          · rw [List.take_of_length_le (by rw [low_is, List.length_map]; omega)] at qown
            have hll := length_low r
            clear qu quD qd qrd
            have hcz := (qb.cell (p := ad.add k) (by rw [add_block]; omega)).trans hcw
            go_wp2_with (at_builtin; (refine append1 qown (by simp; omega) hB2 ?_); intro A4 n4 c4 w4 hn4 hown4 hb4 hg4 hat4)
            go_roundw
            case rel => exact ⟨k + 1, 0, _, by go_num, by omega, by go_num, by omega, hown4, qb.trans hb4, Hinv.out⟩
            case measure => simp [intOf]; omega
    · by_cases hke : k = n
      · subst hke
        have hin := ginv.out
        rw [← Hln.out] at hin
        have hin2 := invP_end hin
        rw [Hln.out] at hin2
        have Hinv := Lib.hid hin2
        clear hin hin2
        have hdl := length_digits r (by omega)
        have hul := World.ownsRow.lt gown
        go_wp2_with fail
        refine (digitsR_any r (by omega) _).mono ?_
        rintro e w1 ⟨d, rfl, hd, hb1⟩
        obtain ⟨A1, c1, rfl, hc1, hm1, _⟩ := hd.rd
        have gown1 : Own w1 w.heap.size _ acc := gown.below hb1 (Nat.le_refl _)
        have gb1 : Below w.heap.size w w1 := gb.trans (hb1.mono hB)
        have hdlt := World.ownsRow.lt hd
        have hz1 := hb1.size
        skip
        go_wp2_with fail
        obtain ⟨wo, hwo⟩ : ∃ wo : World, wo = wr := ⟨_, rfl⟩
        subst hwo
        go_loopw [4, 8] (fun u j w2 => ∃ kk : Nat, j = .int .i64 kk ∧ kk ≤ (digits r).length ∧ Own w2 w.heap.size u (acc ++ (low r).take kk) ∧ Below w.heap.size w w2 ∧ Own w2 wo.heap.size (.slice A1 (digits r).length c1) (digits r) ∧
            (u.ownBlock = u4.ownBlock ∨ ∃ g, u.ownBlock = some g ∧ w1.heap.size ≤ g) ∧ w1.heap.size ≤ w2.heap.size) (fun _ j _ => (digits r).length - (intOf j).toNat)
        case atStart => exact ⟨0, rfl, by omega, by simpa using gown1, gb1, hd, .inl rfl, Nat.le_refl _⟩
        case round =>
          obtain ⟨kk, rfl, hkk, qown, qb, qd, qu, qz⟩ := hrel
          have hB2 := qb.size
          have quD : Value.ownBlock (.slice A1 (digits r).length c1) = none ∨ Value.ownBlock (.slice A1 (digits r).length c1) ≠ Value.ownBlock u4 := by
            rcases hx : Value.ownBlock (.slice A1 (digits r).length c1) with _ | gd
            · exact .inl rfl
            · right
              have h1 := hdlt gd hx
              rcases qu with e | ⟨g, e, hg⟩
              · rw [e]; intro h; have := hul gd h.symm; omega
              · rw [e]; intro h; simp at h; omega
          obtain ⟨_, _, hAe, _, _, qrd⟩ := qd.rd
          simp only [Value.slice.injEq, true_and] at hAe
          obtain ⟨rfl, rfl⟩ := hAe
          by_cases hlt2 : kk < (digits r).length
          · obtain ⟨a2, y, rfl, _, hy, hcy⟩ := qrd.int1 hlt2
            have hy12 := digits_12 r kk y hy
            have Hy := Lib.hid hy
            clear hy
            go_wp2_with (at_builtin; (refine append1 qown (by simp; omega) hB2 ?_); intro A3 n3 c3 w3 hn3 hown3 hb3 hg3 hat3)
            go_roundw
            case rel =>
              refine ⟨kk + 1, by go_num, by omega, ?_, qb.trans hb3, World.ownsRow.kept qd hg3 quD, ?_, Nat.le_trans qz hb3.size⟩
              · rw [low_at r kk y Hy.out, ← List.append_assoc]; exact hown3
              · rcases hat3 with e | ⟨g, e, hg⟩
                · rw [e]; exact qu
                · exact .inr ⟨g, e, by omega⟩
            case measure => simp [intOf]; omega
          · rw [List.take_of_length_le (by rw [low_is, List.length_map]; omega)] at qown
            have hll := length_low r
            clear qu quD qd qrd
            go_wp2_with fail
            go_roundw
            case rel => exact ⟨k + 1, 0, _, by go_num, by omega, by go_num, by omega, qown, qb, Hinv.out⟩
            case measure => simp [intOf]
      · have hinv := ginv.out
        unfold invP at hinv
        rw [if_neg (by have := Hln.out; omega)] at hinv
        have Hi := Lib.hid hinv
        clear hinv
        go_wp2_with fail
        go_ret2
        unfold packE packL
        rw [if_pos Hi.out.2, if_pos Hi.out.2, ← Hi.out.1]
        exact ⟨_, rfl, gown, gb⟩
end Zr
end Go.Proofs.Ytjapdfehkoijjaa
