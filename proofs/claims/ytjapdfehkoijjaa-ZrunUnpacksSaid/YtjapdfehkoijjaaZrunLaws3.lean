/- The law on runs of noughts: ZrunBack. -/
import Derived.Test.YtjapdfehkoijjaaZrunLaws2
namespace Go.Proofs.Ytjapdfehkoijjaa
namespace Zr
open Go.RowKit

theorem bbl (l : List Int) : (l == l) = true := by simp

set_option maxRecDepth 100000 in
set_option maxHeartbeats 1600000 in
/-- What stands behind the first test, from a world on: told once for both ways. -/
theorem back_law (w : World) (A : Option Addr) (n c : Nat) (l : List Int) (rd : InS w A n c l) (B : Option Addr) (m d : Nat) (s : List Int) (rs : InS w B m d s) :
    Calls Try.prog 8 #[.slice A n c, .slice B m d] w fun e w' => e = .returned (.bool true) ∧ Below w.heap.size w w' := by
  obtain ⟨rd, hc, hcm, hln, _⟩ := rd
  obtain ⟨rs, hd, hdm, hlm, _⟩ := rs
  have Hln := Lib.hid hln
  have Hlm := Lib.hid hlm
  clear hln hlm
  by_cases hbig : 5000 < n
  · go_enter Try.func8, Try.ntmps8
    go_wp2_with fail
    refine (awake_any _).mono ?_; rintro e w1 ⟨rfl, hb1⟩
    go_wp2_with fail
    go_ret
    exact ⟨rfl, hb1⟩
  by_cases hbig2 : 5000 < m
  · go_enter Try.func8, Try.ntmps8
    go_wp2_with fail
    refine (awake_any _).mono ?_; rintro e w1 ⟨rfl, hb1⟩
    go_wp2_with fail
    go_ret
    exact ⟨rfl, hb1⟩
  have bb := bbl
  by_cases hok : l.all okRank = true
  · have hpe : packE l = 0 := if_pos hok
    have hpl : packL l = pk 0 l := if_pos hok
    obtain ⟨hup, hcp⟩ := unp_pk l 0 hok
    have hps := okSym_pk l 0 hok
    have hplen := length_pk l 0
    simp only [List.replicate_zero, List.nil_append, Nat.zero_add] at hup hcp hplen
    have hue : unpackE (pk 0 l) n = 0 := by
      unfold unpackE count
      rw [if_neg (by rw [hps]; decide), hcp, if_neg]
      have := Hln.out; omega
    have huu : unpack (pk 0 l) n = l := by unfold unpack; rw [if_pos hue, hup]
    have hcc : count (pk 0 l) = n := by unfold count; rw [hcp]; have := Hln.out; omega
    have hle : (pk 0 l).length ≤ n := by have := Hln.out; omega
    have Hpe := Lib.hid hpe; have Hpl := Lib.hid hpl; have Hue := Lib.hid hue; have Huu := Lib.hid huu; have Hcc := Lib.hid hcc
    clear hpe hpl hup hcp hps hplen hue huu hcc hok
    rcases hse : decide (unpackE s 5000 = 0) with _ | _
    · have hne : unpackE s 5000 ≠ 0 := by simpa using hse
      have hne1 : (unpackE s 5000 != 0) = true := by simpa using hne
      have hem : unpack s 5000 = [] := by unfold unpack; rw [if_neg hne]
      have Hem := Lib.hid hem
      clear hse hne hem
      go_enter Try.func8, Try.ntmps8
      go_wp2_with fail
      refine (pack_any A n c l _ (by omega) rd).mono ?_
      rintro e w1 ⟨v1, rfl, ho1, hb1⟩
      rw [Hpe.out]; rw [Hpl.out] at ho1
      obtain ⟨A1, c1, rfl, hc1, hm1, _⟩ := ho1.rd
      go_wp2_with fail
      refine (unpack_any _ _ _ (pk 0 l) n _ hc1 hm1 ho1.rd0.1).mono ?_
      rintro e w2 ⟨v2, rfl, ho2, hb2⟩
      rw [Hue.out]; rw [Huu.out] at ho2
      obtain ⟨A2, c2, rfl, _, _, _⟩ := ho2.rd
      go_wp2_with fail
      refine (same_ext _ _ _ _ _ _ l l _ (by unfold maxLen; have := Hln.out; omega) ho2.rd0.1 (rd.ext (ext_trans hb1 hb2))).mono ?_
      rintro e w3 ⟨rfl, hb3⟩
      rw [bb]
      go_wp2_with fail
      refine (count_any _ _ _ (pk 0 l) _ _ (Nat.le_refl _) hc1 hm1 (ho1.rd0.1.ext (ext_trans hb2 hb3))).mono ?_
      rintro e w4 ⟨rfl, m4, hw4⟩
      have hb4 : Below w3.heap.size w3 w4 := by rw [hw4]; exact ext_drewN _ m4
      clear hw4
      rw [Hcc.out]
      have hb04 := ext_trans hb1 (ext_trans hb2 (ext_trans hb3 hb4))
      go_wp2_with fail
      refine (unpack_any B m d s 5000 _ hd hdm (rs.ext hb04)).mono ?_
      rintro e w5 ⟨v5, rfl, ho5, hb5⟩
      rw [Hem.out] at ho5
      obtain ⟨A5, c5, rfl, _, _, _⟩ := ho5.rd
      go_wp2_with fail
      refine (awake_any _).mono ?_; rintro e w7 ⟨rfl, hb7⟩
      go_wp2_with fail
      go_ret
      exact ⟨rfl, ext_trans hb04 (ext_trans hb5 hb7)⟩
    · have hse0 : unpackE s 5000 = 0 := by simpa using hse
      have hem : unpack s 5000 = unp [] s := by unfold unpack; rw [if_pos hse0]
      have hso : s.all okSym = true := by
        unfold unpackE at hse0
        split at hse0
        · cases hse0
        · rename_i h; simpa using h
      have hsl : (unp [] s).length ≤ 5000 := by
        rw [length_unp s [] hso]
        unfold unpackE count at hse0
        rw [if_neg (by rw [hso]; decide)] at hse0
        split at hse0
        · cases hse0
        · omega
      obtain ⟨hpu, hpr⟩ := pk_unp s [] rfl hso
      have hqe : packE (unp [] s) = 0 := if_pos hpr
      have hql : packL (unp [] s) = s := by unfold packL; rw [if_pos hpr, hpu]; rfl
      have Hse := Lib.hid hse0; have Hem := Lib.hid hem; have Hqe := Lib.hid hqe; have Hql := Lib.hid hql
      clear hse hse0 hem hso hpu hpr hqe hql
      go_enter Try.func8, Try.ntmps8
      go_wp2_with fail
      refine (pack_any A n c l _ (by omega) rd).mono ?_
      rintro e w1 ⟨v1, rfl, ho1, hb1⟩
      rw [Hpe.out]; rw [Hpl.out] at ho1
      obtain ⟨A1, c1, rfl, hc1, hm1, _⟩ := ho1.rd
      go_wp2_with fail
      refine (unpack_any _ _ _ (pk 0 l) n _ hc1 hm1 ho1.rd0.1).mono ?_
      rintro e w2 ⟨v2, rfl, ho2, hb2⟩
      rw [Hue.out]; rw [Huu.out] at ho2
      obtain ⟨A2, c2, rfl, _, _, _⟩ := ho2.rd
      go_wp2_with fail
      refine (same_ext _ _ _ _ _ _ l l _ (by unfold maxLen; have := Hln.out; omega) ho2.rd0.1 (rd.ext (ext_trans hb1 hb2))).mono ?_
      rintro e w3 ⟨rfl, hb3⟩
      rw [bb]
      go_wp2_with fail
      refine (count_any _ _ _ (pk 0 l) _ _ (Nat.le_refl _) hc1 hm1 (ho1.rd0.1.ext (ext_trans hb2 hb3))).mono ?_
      rintro e w4 ⟨rfl, m4, hw4⟩
      have hb4 : Below w3.heap.size w3 w4 := by rw [hw4]; exact ext_drewN _ m4
      clear hw4
      rw [Hcc.out]
      have hb04 := ext_trans hb1 (ext_trans hb2 (ext_trans hb3 hb4))
      go_wp2_with fail
      refine (unpack_any B m d s 5000 _ hd hdm (rs.ext hb04)).mono ?_
      rintro e w5 ⟨v5, rfl, ho5, hb5⟩
      rw [Hse.out]; rw [Hem.out] at ho5
      obtain ⟨A5, c5, rfl, _, _, _⟩ := ho5.rd
      go_wp2_with fail
      refine (pack_any _ _ c5 (unp [] s) _ (by omega) ho5.rd0.1).mono ?_
      rintro e w6 ⟨v6, rfl, ho6, hb6⟩
      rw [Hqe.out]; rw [Hql.out] at ho6
      obtain ⟨A6, c6, rfl, _, _, _⟩ := ho6.rd
      go_wp2_with fail
      refine (same_ext _ _ _ _ _ _ s s _ (by unfold maxLen; have := Hlm.out; omega) ho6.rd0.1 (rs.ext (ext_trans hb04 (ext_trans hb5 hb6)))).mono ?_
      rintro e w7 ⟨rfl, hb7⟩
      rw [bb]
      go_wp2_with fail
      refine (awake_any _).mono ?_; rintro e w8 ⟨rfl, hb8⟩
      go_wp2_with fail
      go_ret
      exact ⟨rfl, ext_trans hb04 (ext_trans hb5 (ext_trans hb6 (ext_trans hb7 hb8)))⟩
  · have hpe : packE l = 60 := if_neg hok
    have Hpe := Lib.hid hpe
    clear hpe hok
    rcases hse : decide (unpackE s 5000 = 0) with _ | _
    · have hne : unpackE s 5000 ≠ 0 := by simpa using hse
      have hne1 : (unpackE s 5000 != 0) = true := by simpa using hne
      have hem : unpack s 5000 = [] := by unfold unpack; rw [if_neg hne]
      have Hem := Lib.hid hem
      clear hse hne hem
      go_enter Try.func8, Try.ntmps8
      go_wp2_with fail
      refine (pack_any A n c l _ (by omega) rd).mono ?_
      rintro e w4 ⟨v1, rfl, ho1, hb04⟩
      rw [Hpe.out]
      obtain ⟨A1, c1, rfl, hc1, hm1, _⟩ := ho1.rd
      go_wp2_with fail
      refine (unpack_any B m d s 5000 _ hd hdm (rs.ext hb04)).mono ?_
      rintro e w5 ⟨v5, rfl, ho5, hb5⟩
      rw [Hem.out] at ho5
      obtain ⟨A5, c5, rfl, _, _, _⟩ := ho5.rd
      go_wp2_with fail
      refine (awake_any _).mono ?_; rintro e w7 ⟨rfl, hb7⟩
      go_wp2_with fail
      go_ret
      exact ⟨rfl, ext_trans hb04 (ext_trans hb5 hb7)⟩
    · have hse0 : unpackE s 5000 = 0 := by simpa using hse
      have hem : unpack s 5000 = unp [] s := by unfold unpack; rw [if_pos hse0]
      have hso : s.all okSym = true := by
        unfold unpackE at hse0
        split at hse0
        · cases hse0
        · rename_i h; simpa using h
      have hsl : (unp [] s).length ≤ 5000 := by
        rw [length_unp s [] hso]
        unfold unpackE count at hse0
        rw [if_neg (by rw [hso]; decide)] at hse0
        split at hse0
        · cases hse0
        · omega
      obtain ⟨hpu, hpr⟩ := pk_unp s [] rfl hso
      have hqe : packE (unp [] s) = 0 := if_pos hpr
      have hql : packL (unp [] s) = s := by unfold packL; rw [if_pos hpr, hpu]; rfl
      have Hse := Lib.hid hse0; have Hem := Lib.hid hem; have Hqe := Lib.hid hqe; have Hql := Lib.hid hql
      clear hse hse0 hem hso hpu hpr hqe hql
      go_enter Try.func8, Try.ntmps8
      go_wp2_with fail
      refine (pack_any A n c l _ (by omega) rd).mono ?_
      rintro e w4 ⟨v1, rfl, ho1, hb04⟩
      rw [Hpe.out]
      obtain ⟨A1, c1, rfl, hc1, hm1, _⟩ := ho1.rd
      go_wp2_with fail
      refine (unpack_any B m d s 5000 _ hd hdm (rs.ext hb04)).mono ?_
      rintro e w5 ⟨v5, rfl, ho5, hb5⟩
      rw [Hse.out]; rw [Hem.out] at ho5
      obtain ⟨A5, c5, rfl, _, _, _⟩ := ho5.rd
      go_wp2_with fail
      refine (pack_any _ _ c5 (unp [] s) _ (by omega) ho5.rd0.1).mono ?_
      rintro e w6 ⟨v6, rfl, ho6, hb6⟩
      rw [Hqe.out]; rw [Hql.out] at ho6
      obtain ⟨A6, c6, rfl, _, _, _⟩ := ho6.rd
      go_wp2_with fail
      refine (same_ext _ _ _ _ _ _ s s _ (by unfold maxLen; have := Hlm.out; omega) ho6.rd0.1 (rs.ext (ext_trans hb04 (ext_trans hb5 hb6)))).mono ?_
      rintro e w7 ⟨rfl, hb7⟩
      rw [bb]
      go_wp2_with fail
      refine (awake_any _).mono ?_; rintro e w8 ⟨rfl, hb8⟩
      go_wp2_with fail
      go_ret
      exact ⟨rfl, ext_trans hb04 (ext_trans hb5 (ext_trans hb6 (ext_trans hb7 hb8)))⟩

end Zr
end Go.Proofs.Ytjapdfehkoijjaa
