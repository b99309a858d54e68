/- The laws on runs of noughts: awake, ZrunPacks, ZrunUnpacks. -/
import Derived.Test.YtjapdfehkoijjaaZrunWalks10
namespace Go.Proofs.Ytjapdfehkoijjaa
namespace Zr
open Go.RowKit

/-- A row that was just built. -/
theorem rd_lit (w : World) (t : TypeId) (l : List Int) : Rd (w.alloc (.cells (l.map (Value.int .i64)).toArray t)) (w.alloc (.cells (l.map (Value.int .i64)).toArray t)).heap.size 1 (some ⟨w.heap.size, 0, none⟩) l.length (l.map (Value.int .i64)) := by
  refine ⟨by simp, fun _ => ⟨_, rfl, by simp, fun j u hu => ?_⟩⟩
  rw [Addr.add_lit, Nat.zero_add]
  rw [World.cell?_alloc_new]
  simpa using hu

theorem Own.rd0 {w : World} {B n c : Nat} {A : Option Addr} {l : List Int} (h : Own w B (.slice A n c) l) : Rd w w.heap.size 1 A l.length (l.map (Value.int .i64)) ∧ n = l.length := by
  obtain ⟨A', c', e, _, _, r⟩ := h.rd
  simp only [Value.slice.injEq] at e
  obtain ⟨rfl, rfl, rfl⟩ := e
  exact ⟨r, rfl⟩

theorem same_ext (A B : Option Addr) (n m c d : Nat) (a b : List Int) (w : World) (hn : n ≤ maxLen) (ha : Rd w w.heap.size 1 A n (a.map (Value.int .i64))) (hb : Rd w w.heap.size 1 B m (b.map (Value.int .i64))) :
    Calls Try.prog 24 #[.slice A n c, .slice B m d] w fun e w' => e = .returned (.bool (a == b)) ∧ Below w.heap.size w w' :=
  (same_any A B n m c d a b w hn _ _ ha hb).mono fun _ _ ⟨he, q, hq⟩ => ⟨he, by rw [hq]; exact ext_drewN w q⟩

theorem aw1 : packE [0, 0, 0, 5] = 0 ∧ packL [0, 0, 0, 5] = [0, 0, 6] := by
  have h3 : low 3 = [0, 0] := low_val [0, 0] rfl
  have h0 : low 0 = [] := low_val [] rfl
  refine ⟨by decide, ?_⟩
  unfold packL
  rw [if_pos (by decide)]
  show low 3 ++ (5 + 1) :: pk 0 [] = _
  rw [h3]
  show [0, 0] ++ (5 + 1) :: low 0 = _
  rw [h0]; rfl
theorem aw2 : packE [256] = 60 ∧ packL [256] = [] := ⟨by decide, by unfold packL; rw [if_neg (by decide)]⟩
theorem aw3 : unpackE [0, 0, 6] 4 = 0 ∧ unpack [0, 0, 6] 4 = [0, 0, 0, 5] := ⟨by decide, by decide⟩
theorem aw4 : unpackE [0, 0, 6] 3 = 3 ∧ unpack [0, 0, 6] 3 = [] := ⟨by decide, by decide⟩
theorem aw5 : digits 4 = [2, 1] := by
  rw [show (4 : Int) = ((4 : Nat) : Int) from rfl, digits_nat, digTo_step (by omega), digTo_step (by omega), digTo_small (by omega)]; rfl
theorem aw6 : count [1, 300, 1] = 4 := by decide

set_option maxRecDepth 100000 in
set_option maxHeartbeats 1600000 in
theorem awake_any (w : World) : Calls Try.prog 21 #[] w fun e w' => e = .returned (.bool true) ∧ Below w.heap.size w w' := by
  go_enter Try.func21, Try.ntmps21
  go_wp2_with fail
  refine (pack_any _ 4 4 [0, 0, 0, 5] _ (by omega) (rd_lit w _ [0, 0, 0, 5])).mono ?_
  rintro e w1 ⟨v1, rfl, ho1, hb1⟩
  rw [aw1.1]; rw [aw1.2] at ho1
  obtain ⟨A1, c1, rfl, _, _, _⟩ := ho1.rd
  go_wp2_with fail
  refine (unpack_any _ 3 3 [0, 0, 6] 4 _ (by omega) (by unfold maxLen; omega) (rd_lit w1 _ [0, 0, 6])).mono ?_
  rintro e w2 ⟨v2, rfl, ho2, hb2⟩
  rw [aw3.1]; rw [aw3.2] at ho2
  obtain ⟨A2, c2, rfl, _, _, _⟩ := ho2.rd
  go_wp2_with fail
  refine (unpack_any _ 3 3 [0, 0, 6] 3 _ (by omega) (by unfold maxLen; omega) (rd_lit w2 _ [0, 0, 6])).mono ?_
  rintro e w3 ⟨v3, rfl, ho3, hb3⟩
  rw [aw4.1]
  obtain ⟨A3, c3, rfl, _, _, _⟩ := ho3.rd
  go_wp2_with fail
  refine (pack_any _ 1 1 [256] _ (by omega) (rd_lit w3 _ [256])).mono ?_
  rintro e w4 ⟨v4, rfl, ho4, hb4⟩
  rw [aw2.1]
  obtain ⟨A4, c4, rfl, _, _, _⟩ := ho4.rd
  go_wp2_with fail
  refine (digits_any 4 (by omega) _).mono ?_
  rintro e w5 ⟨v5, rfl, ho5, hb5⟩
  rw [aw5] at ho5
  obtain ⟨A5, c5, rfl, _, _, _⟩ := ho5.rd
  have e1 := ext_trans (ext_alloc w _) hb1
  have e2 := ext_trans (ext_alloc w1 _) hb2
  have e3 := ext_trans (ext_alloc w2 _) hb3
  have e4 := ext_trans (ext_alloc w3 _) hb4
  have r1 := ho1.rd0.1.ext (ext_trans e2 (ext_trans e3 (ext_trans e4 hb5)))
  have r2 := ho2.rd0.1.ext (ext_trans e3 (ext_trans e4 hb5))
  have r5 := ho5.rd0.1
  have e05 := ext_trans e1 (ext_trans e2 (ext_trans e3 (ext_trans e4 hb5)))
  clear hb1 hb2 hb3 hb4 hb5 e1 e2 e3 e4 ho1 ho2 ho3 ho4 ho5
  go_wp2_with fail
  refine (same_ext _ _ 3 3 _ _ [0, 0, 6] [0, 0, 6] _ (by unfold maxLen; omega) (r1.ext (ext_alloc _ _)) (rd_lit w5 _ [0, 0, 6])).mono ?_
  rintro e w6 ⟨rfl, hb6⟩
  have e6 := ext_trans (ext_alloc w5 _) hb6
  have r2a := r2.ext e6
  have r5a := r5.ext e6
  go_wp2_with fail
  refine (same_ext _ _ 4 4 _ _ [0, 0, 0, 5] [0, 0, 0, 5] _ (by unfold maxLen; omega) (r2a.ext (ext_alloc _ _)) (rd_lit w6 _ [0, 0, 0, 5])).mono ?_
  rintro e w7 ⟨rfl, hb7⟩
  have e7 := ext_trans (ext_alloc w6 _) hb7
  have r5b := r5a.ext e7
  go_wp2_with fail
  refine (same_ext _ _ 2 2 _ _ [2, 1] [2, 1] _ (by unfold maxLen; omega) (r5b.ext (ext_alloc _ _)) (rd_lit w7 _ [2, 1])).mono ?_
  rintro e w8 ⟨rfl, hb8⟩
  have e8 := ext_trans (ext_alloc w7 _) hb8
  go_wp2_with fail
  refine (count_any _ 3 3 [1, 300, 1] _ _ (Nat.le_refl _) (by omega) (by unfold maxLen; omega) (rd_lit w8 _ [1, 300, 1])).mono ?_
  rintro e w9 ⟨rfl, m9, hw9⟩
  have hb9 : Below (w8.alloc (.cells ([1, 300, 1].map (Value.int .i64)).toArray 3)).heap.size (w8.alloc (.cells ([1, 300, 1].map (Value.int .i64)).toArray 3)) w9 := by rw [hw9]; exact ext_drewN _ m9
  clear hw9
  rw [aw6]
  go_wp2_with fail
  go_ret
  exact ⟨rfl, ext_trans e05 (ext_trans e6 (ext_trans e7 (ext_trans e8 (ext_trans (ext_alloc w8 _) hb9))))⟩

end Zr
end Go.Proofs.Ytjapdfehkoijjaa
