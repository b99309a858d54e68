/- zrun.Pack: its closure, and itself. -/
import Derived.Test.YtjapdfehkoijjaaZrunWalks
namespace Go.Proofs.Ytjapdfehkoijjaa
namespace Zr
open Go.RowKit

theorem low_is (n : Nat) : low n = (digits n).map (· - 1) := rfl
theorem length_digits (n : Nat) (h : (n : Int) ≤ 9223372036854775807) : (digits n).length ≤ 63 := by
  rw [digits_nat]; exact length_digTo (n + 1) (by omega) (by omega)

theorem take_snoc_int (l : List Int) (k : Nat) (u : Int) (h : l[k]? = some u) : l.take (k + 1) = l.take k ++ [u] := by
  rw [List.take_add_one, h]; rfl

theorem digits_12 (n : Nat) (k : Nat) (x : Int) (h : (digits n)[k]? = some x) : 1 ≤ x ∧ x ≤ 2 := by
  have hm := List.mem_of_getElem? h
  have := List.all_eq_true.1 (low_dig n) (x - 1) (by rw [low_is]; exact List.mem_map.2 ⟨x, hm, rfl⟩)
  simp [isDig] at this
  omega
theorem low_at (n k : Nat) (x : Int) (h : (digits n)[k]? = some x) : (low n).take (k + 1) = (low n).take k ++ [x - 1] :=
  take_snoc_int _ _ _ (by rw [low_is, List.getElem?_map, h]; rfl)

set_option maxHeartbeats 800000 in
/-- The closure: the digits of the run are appended, the run is none. -/
theorem flush_any (R O run B : Nat) (v : Value) (acc : List Int) (w : World) (hB : B ≤ w.heap.size) (hr : (run : Int) ≤ 5000000) (hacc : acc.length ≤ 1000000000)
    (hR : Var w R 3 (.int .i64 run)) (hO : Var w O 37 v) (hRO : R ≠ O) (hvR : v.ownBlock ≠ some R) (hvO : v.ownBlock ≠ some O) (hBR : B ≤ R) (hBO : B ≤ O) (hown : Own w B v acc) :
    Calls Try.prog 37 #[.pointer (some ⟨R, 0, none⟩), .pointer (some ⟨O, 0, none⟩)] w fun e w' => e = .returned (.tuple #[]) ∧ Below B w w' ∧
      ∃ v', Var w' R 3 (.int .i64 0) ∧ Var w' O 37 v' ∧ v'.ownBlock ≠ some R ∧ v'.ownBlock ≠ some O ∧ Own w' B v' (acc ++ low run) := by
  have hR1 := hR.cell
  have hR2 := hR.lt
  have hO2 := hO.lt
  have hlen := length_digits run (by omega)
  go_enter Try.func37, Try.ntmps37
  go_wp2_with fail
  refine (digits_any _ (by omega) _).mono ?_
  rintro e w1 ⟨d, rfl, hd, hb1⟩
  obtain ⟨A, c, rfl, hc, hm, _⟩ := hd.rd
  have hR' := hR.below hb1 hR2
  have hO' := hO.below hb1 hO2
  have hown' : Own w1 B v acc := hown.below hb1 (Nat.le_refl _)
  have hb1' : Below B w w1 := hb1.mono hB
  have hz1 := hb1.size
  have hdl := World.ownsRow.lt hd
  have hvl := World.ownsRow.lt hown
  clear hR1
  go_wp2_with fail
  go_loopw [7] (fun i wr => ∃ (k : Nat) (u : Value), i = .int .i64 k ∧ k ≤ (digits run).length ∧ Var wr R 3 (.int .i64 run) ∧ Var wr O 37 u ∧ (u.ownBlock = v.ownBlock ∨ ∃ g, u.ownBlock = some g ∧ w1.heap.size ≤ g) ∧
      Own wr B u (acc ++ (low run).take k) ∧ Below B w wr ∧ Own wr w.heap.size (.slice A (digits run).length c) (digits run) ∧ w1.heap.size ≤ wr.heap.size) (fun i _ => (digits run).length - (intOf i).toNat)
  case atStart => exact ⟨0, v, rfl, by omega, hR', hO', .inl rfl, by simpa using hown', hb1', hd, Nat.le_refl _⟩
  case round =>
    obtain ⟨k, u, rfl, hk, gR, gO, gu, gown, gb, gd, gz⟩ := hrel
    have guR : u.ownBlock ≠ some R := by
      rcases gu with e | ⟨g, e, hg⟩
      · rw [e]; exact hvR
      · rw [e]; intro h; simp at h; omega
    have guO : u.ownBlock ≠ some O := by
      rcases gu with e | ⟨g, e, hg⟩
      · rw [e]; exact hvO
      · rw [e]; intro h; simp at h; omega
    have guD : Value.ownBlock (.slice A (digits run).length c) = none ∨ Value.ownBlock (.slice A (digits run).length c) ≠ u.ownBlock := by
      rcases hx : Value.ownBlock (.slice A (digits run).length c) with _ | gd
      · exact .inl rfl
      · right
        have h1 := hdl gd hx
        rcases gu with e | ⟨g, e, hg⟩
        · rw [e]; intro h; have := hvl gd h.symm; omega
        · rw [e]; intro h; simp at h; omega
    have hO1 := gO.cell
    have hO3 := gO.frozen
    have hR3 := gR.frozen
    have hR4 := gR.cell
    obtain ⟨_, _, hAe, _, _, grd⟩ := gd.rd
    simp only [Value.slice.injEq, true_and] at hAe
    obtain ⟨rfl, rfl⟩ := hAe
    by_cases hlt : k < (digits run).length
    · obtain ⟨ad, x, rfl, had, hx, hcell⟩ := grd.int1 hlt
      have hx12 := digits_12 run k x hx
      have Hx := Lib.hid hx
      clear hx
      go_wp2_with (at_builtin; (refine append1 gown (by simp; omega) (Nat.le_trans hB gb.size) ?_); intro A1 n1 c1 w2 hn1 hown1 hb2 hg2 hat; have gO2 := gO.grown hg2 guO; have hO1' := gO2.cell; have hO3' := gO2.frozen)
      have hat' : Value.ownBlock (.slice A1 n1 c1) = v.ownBlock ∨ ∃ g, Value.ownBlock (.slice A1 n1 c1) = some g ∧ w1.heap.size ≤ g := by
        rcases hat with e | ⟨g, e, hg⟩
        · rw [e]; exact gu
        · exact .inr ⟨g, e, by omega⟩
      have gvO : Value.ownBlock (.slice A1 n1 c1) ≠ some O := by
        rcases hat' with e | ⟨g, e, hg⟩
        · rw [e]; exact hvO
        · rw [e]; intro h; simp at h; omega
      go_roundw
      case rel =>
        refine ⟨k + 1, _, by go_num, by omega, (gR.grown hg2 guR).far hRO _, gO2.set_ _, hat', ?_, (gb.trans hb2).setCell hBO _, ?_, ?_⟩
        · rw [low_at run k x Hx.out, ← List.append_assoc]
          exact own_setCell_far (a := ⟨O, 0, none⟩) hown1 gvO _
        · refine own_setCell_far (World.ownsRow.kept gd hg2 guD) ?_ _
          intro h; have := hdl _ h; simp at this; omega
        · have := hg2.size; simp [World.setCell]; omega
      case measure => simp [intOf]; omega
    · go_wp2_with fail
      exact bodyPost_end (results_none rfl _ _ _) rfl (by
        refine ⟨rfl, gb.setCell hBR _, u, gR.set_ _, gO.far (Ne.symm hRO) _, guR, guO, ?_⟩
        rw [List.take_of_length_le (by rw [low_is, List.length_map]; omega)] at gown
        exact own_setCell_far gown guR _)
end Zr
end Go.Proofs.Ytjapdfehkoijjaa
