/- The laws on runs of noughts: ZrunPacks, ZrunUnpacks, ZrunBack. -/
import Derived.Test.YtjapdfehkoijjaaZrunLaws
namespace Go.Proofs.Ytjapdfehkoijjaa
namespace Zr
open Go.RowKit

/-- A slice of numbers that came in. -/
def InS (w : World) (A : Option Addr) (n c : Nat) (l : List Int) : Prop := Rd w w.heap.size 1 A n (l.map (Value.int .i64)) ∧ n ≤ c ∧ c ≤ maxLen ∧ l.length = n ∧ ∀ z ∈ l, (Lit.int .i64 z).wf = true

set_option maxRecDepth 100000 in
set_option maxHeartbeats 1600000 in
theorem packs_law (w : World) (A : Option Addr) (n c : Nat) (l : List Int) (rd : InS w A n c l) (x : Int) (wx : (Lit.int .i64 x).wf = true) :
    Calls Try.prog 6 #[.slice A n c, .int .i64 x] w fun e w' => e = .returned (.bool true) ∧ Below w.heap.size w w' := by
  obtain ⟨rd, hc, hcm, hln, _⟩ := rd
  have hx := (bounds_i64 wx).2
  have Hln := Lib.hid hln
  clear hln wx
  by_cases hbig : 5000 < n
  · go_enter Try.func6, Try.ntmps6
    go_wp2_with fail
    refine (awake_any _).mono ?_; rintro e w1 ⟨rfl, hb1⟩
    go_wp2_with fail
    go_ret
    exact ⟨rfl, hb1⟩
  · have bb : ∀ l : List Int, (l == l) = true := fun l => by simp
    have hpl : (packL l).length ≤ 5000 := by
      unfold packL; split
      · have := length_pk l 0; have := Hln.out; omega
      · simp
    have hdl : (digits x).length ≤ 63 := by
      unfold digits; split
      · simp
      · exact length_digTo _ (by omega) (by omega)
    go_enter Try.func6, Try.ntmps6
    go_wp2_with fail
    refine (pack_any A n c l _ (by omega) rd).mono ?_
    rintro e w1 ⟨v1, rfl, ho1, hb1⟩
    obtain ⟨A1, c1, rfl, _, _, _⟩ := ho1.rd
    go_wp2_with fail
    refine (packR_any A n c l _ (by omega) (rd.ext hb1)).mono ?_
    rintro e w2 ⟨v2, rfl, ho2, hb2⟩
    obtain ⟨A2, c2, rfl, _, _, _⟩ := ho2.rd
    go_wp2_with fail
    refine (same_ext _ _ _ _ _ _ (packL l) (packL l) _ (by unfold maxLen; omega) (ho1.rd0.1.ext hb2) ho2.rd0.1).mono ?_
    rintro e w3 ⟨rfl, hb3⟩
    rw [bb]
    go_wp2_with fail
    refine (digits_any x hx _).mono ?_
    rintro e w4 ⟨v4, rfl, ho4, hb4⟩
    obtain ⟨A4, c4, rfl, _, _, _⟩ := ho4.rd
    go_wp2_with fail
    refine (digitsR_any x hx _).mono ?_
    rintro e w5 ⟨v5, rfl, ho5, hb5⟩
    obtain ⟨A5, c5, rfl, _, _, _⟩ := ho5.rd
    go_wp2_with fail
    refine (same_ext _ _ _ _ _ _ (digits x) (digits x) _ (by unfold maxLen; omega) (ho4.rd0.1.ext hb5) ho5.rd0.1).mono ?_
    rintro e w6 ⟨rfl, hb6⟩
    rw [bb]
    go_wp2_with fail
    refine (awake_any _).mono ?_; rintro e w7 ⟨rfl, hb7⟩
    go_wp2_with fail
    go_ret
    exact ⟨rfl, ext_trans hb1 (ext_trans hb2 (ext_trans hb3 (ext_trans hb4 (ext_trans hb5 (ext_trans hb6 hb7)))))⟩

theorem unpack_len (l : List Int) (limit : Int) : (unpack l limit).length ≤ 100000 := by
  unfold unpack
  split
  · rename_i h
    unfold unpackE at h
    split at h
    · cases h
    · rename_i ha
      have hlen := length_unp l [] (by simpa using ha)
      split at h
      · cases h
      · rename_i hc
        unfold count at hc
        rw [hlen]; omega
  · simp

set_option maxRecDepth 100000 in
set_option maxHeartbeats 1600000 in
theorem unpacks_law (w : World) (A : Option Addr) (n c : Nat) (l : List Int) (rd : InS w A n c l) (x : Int) (_wx : (Lit.int .i64 x).wf = true) :
    Calls Try.prog 7 #[.slice A n c, .int .i64 x] w fun e w' => e = .returned (.bool true) ∧ Below w.heap.size w w' := by
  obtain ⟨rd, hc, hcm, hln, _⟩ := rd
  have Hln := Lib.hid hln
  clear hln
  by_cases hbig : 5000 < n
  · go_enter Try.func7, Try.ntmps7
    go_wp2_with fail
    refine (awake_any _).mono ?_; rintro e w1 ⟨rfl, hb1⟩
    go_wp2_with fail
    go_ret
    exact ⟨rfl, hb1⟩
  · have bb : ∀ l : List Int, (l == l) = true := fun l => by simp
    have hul := unpack_len l x
    go_enter Try.func7, Try.ntmps7
    go_wp2_with fail
    refine (unpack_any A n c l x _ hc hcm rd).mono ?_
    rintro e w1 ⟨v1, rfl, ho1, hb1⟩
    obtain ⟨A1, c1, rfl, _, _, _⟩ := ho1.rd
    go_wp2_with fail
    refine (unpackR_any A n c l x _ (by omega) (rd.ext hb1)).mono ?_
    rintro e w2 ⟨v2, rfl, ho2, hb2⟩
    obtain ⟨A2, c2, rfl, _, _, _⟩ := ho2.rd
    go_wp2_with fail
    refine (same_ext _ _ _ _ _ _ (unpack l x) (unpack l x) _ (by unfold maxLen; omega) (ho1.rd0.1.ext hb2) ho2.rd0.1).mono ?_
    rintro e w3 ⟨rfl, hb3⟩
    rw [bb]
    have rd3 := rd.ext (ext_trans hb1 (ext_trans hb2 hb3))
    go_wp2_with fail
    refine (count_any A n c l _ _ (Nat.le_refl _) hc hcm rd3).mono ?_
    rintro e w4 ⟨rfl, m4, hw4⟩
    have hb4 : Below w3.heap.size w3 w4 := by rw [hw4]; exact ext_drewN _ m4
    clear hw4
    go_wp2_with fail
    refine (countR_any A n c l _ (by omega) (rd3.ext hb4)).mono ?_
    rintro e w5 ⟨rfl, hb5⟩
    go_wp2_with fail
    refine (awake_any _).mono ?_; rintro e w7 ⟨rfl, hb7⟩
    go_wp2_with fail
    go_ret
    exact ⟨rfl, ext_trans hb1 (ext_trans hb2 (ext_trans hb3 (ext_trans hb4 (ext_trans hb5 hb7))))⟩

end Zr
end Go.Proofs.Ytjapdfehkoijjaa
