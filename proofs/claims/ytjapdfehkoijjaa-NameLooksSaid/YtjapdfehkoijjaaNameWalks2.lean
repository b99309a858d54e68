/- Names of files, more: numbers, segments' names, their numbers back, kinds: each function tells what the plain functions tell. -/
import Derived.Test.YtjapdfehkoijjaaNameWalks
namespace Go.Proofs.Ytjapdfehkoijjaa
namespace Nm
open Go.RowKit

theorem okB_iff (c : UInt8) : okB c = true ↔ (97 ≤ c.toNat ∧ c.toNat ≤ 122) ∨ (48 ≤ c.toNat ∧ c.toNat ≤ 57) ∨ c.toNat = 46 ∨ c.toNat = 45 := by
  simp [okB, okRune]; omega

set_option maxHeartbeats 800000 in
theorem checkR_any (s : ByteArray) (w : World) :
    Calls Try.prog 16 #[.string s] w fun e w' => e = .returned (.int .i64 (check s.data.toList)) ∧ w = w' := by
  by_cases h1 : s.size = 0
  · have hr : check s.data.toList = 180 := by
      unfold check; rw [if_neg]; intro h; have : s.data.toList.length = s.size := rfl; omega
    rw [hr]; clear hr
    go_enter Try.func16, Try.ntmps16
    go_wp2
    go_ret
    exact ⟨rfl, rfl⟩
  by_cases h2 : 64 < s.size
  · have hr : check s.data.toList = 180 := by
      unfold check; rw [if_neg]; intro h; have : s.data.toList.length = s.size := rfl; omega
    rw [hr]; clear hr
    go_enter Try.func16, Try.ntmps16
    go_wp2
    go_ret
    exact ⟨rfl, rfl⟩
  have hz : ((s.size : Int) == 0) = false := by rw [beq_eq_false_iff_ne]; omega
  go_enter Try.func16, Try.ntmps16
  go_wp2_with fail
  go_loop [3] (fun i => ∃ k : Nat, k ≤ s.size ∧ i = .int .i64 k ∧ (s.data.toList.take k).all okB = true) (fun i => s.size - (intOf i).toNat)
  case atStart => exact ⟨0, by omega, rfl, by simp⟩
  case round =>
    obtain ⟨k, hk, rfl, hall⟩ := hrel
    have Hall := Lib.hid hall
    clear hall
    by_cases hlt : k < s.size
    · have hsn := all_take_succ s okB k hlt
      have hno := all_of_not s okB k hlt
      have hiff := okB_iff s[k]
      generalize hc : s[k] = c at hsn hno hiff
      have Hc := Lib.hid hc; have Hsn := Lib.hid hsn; have Hno := Lib.hid hno; have Hiff := Lib.hid hiff
      clear hc hsn hno hiff
      go_wp2
      all_goals first
        | (go_round
           case rel =>
             have hok : okB c = true := by
               rw [Hiff.out, ← Hc.out]; simp_all; omega
             exact ⟨k + 1, by omega, by go_num, by rw [Hsn.out, Hall.out, hok]; rfl⟩
           case measure => simp [intOf]; omega)
        | (go_ret
           have hok : okB c = false := by
             rw [← Bool.not_eq_true, Hiff.out, ← Hc.out]; simp_all; omega
           refine ⟨ret_int ?_, rfl⟩
           unfold check
           rw [if_neg (by rw [Hno.out hok]; simp)])
    · go_wp2
      go_ret
      refine ⟨ret_int ?_, rfl⟩
      have hall := Hall.out
      rw [List.take_of_length_le (by simp; omega)] at hall
      have hl : s.data.toList.length = s.size := rfl
      unfold check
      rw [if_pos ⟨by omega, by omega, hall⟩]

theorem conv6 (w : World) (a b c d e f : Int) : (convert 54 9 (.slice (some ⟨w.heap.size, 0, none⟩) 6 6)).run Try.prog (w.alloc (.cells #[.int .u8 a, .int .u8 b, .int .u8 c, .int .u8 d, .int .u8 e, .int .u8 f] 5)) =
    .ok (.string (strOfNums [a, b, c, d, e, f])) (w.alloc (.cells #[.int .u8 a, .int .u8 b, .int .u8 c, .int .u8 d, .int .u8 e, .int .u8 f] 5)) := by
  refine run_convert_bytes_arg _ 54 5 Try.underlying54 Try.underlying5 w.heap.size 0 6 6 [a, b, c, d, e, f] rfl ?_ 9 Try.underlying9
  intro i hi
  have : i = 0 ∨ i = 1 ∨ i = 2 ∨ i = 3 ∨ i = 4 ∨ i = 5 := by omega
  rcases this with rfl | rfl | rfl | rfl | rfl | rfl <;> simp [go_sem]

set_option maxHeartbeats 400000 in
theorem number_any (n : Int) (h1 : 1 ≤ n) (h2 : n ≤ 999999) (w : World) :
    Calls Try.prog 34 #[.int .i64 n] w fun e w' => e = .returned (.string ⟨(num6 n).toArray⟩) ∧ Below w.heap.size w w' := by
  have hmk : ∀ w, (Instr.makeSlice 54 (.int .i64 6) (.int .i64 6)).run Try.prog w = .ok (.slice (some ⟨w.heap.size, 0, none⟩) 6 6) (w.alloc (.cells #[.int .u8 0, .int .u8 0, .int .u8 0, .int .u8 0, .int .u8 0, .int .u8 0] 5)) := fun _ => by kernel_rfl
  have hcv := conv6
  go_enter Try.func34, Try.ntmps34
  go_wp2
  go_rounds 7
  go_wp2
  go_ret
  refine ⟨ret_str rfl, (Below.refl _ _).alloc (Nat.le_refl _) _⟩

set_option maxHeartbeats 400000 in
theorem may_any (n : Int) (w : World) : Calls Try.prog 33 #[.int .i64 n] w fun e w' => e = .returned (.bool (may n)) ∧ w = w' := by
  go_enter Try.func33, Try.ntmps33
  go_wp2
  all_goals
    go_ret
    refine ⟨ret_bool ?_, rfl⟩
    unfold may
    rw [Bool.eq_iff_iff]
    simp
    try omega
  
def segV (i g : Int) : Value := if may i = true ∧ may g = true then .tuple #[.string ⟨(seg i g).toArray⟩, .int .i64 0] else .tuple #[.string ⟨#[]⟩, .int .i64 2]

theorem seg_bytes (i g : Int) : (((ByteArray.mk #[115, 101, 103, 45] ++ ByteArray.mk (num6 i).toArray) ++ ByteArray.mk #[45]) ++ ByteArray.mk (num6 g).toArray) ++ ByteArray.mk #[46, 108, 111, 103] = ⟨(seg i g).toArray⟩ := rfl

theorem size_num6 (n : Int) : (num6 n).toArray.size = 6 := rfl

set_option maxHeartbeats 400000 in
theorem segment_any (i g : Int) (w : World) : Calls Try.prog 13 #[.int .i64 i, .int .i64 g] w fun e w' => e = .returned (segV i g) ∧ Below w.heap.size w w' := by
  by_cases hi : may i = true
  · by_cases hg : may g = true
    · have e0 : segV i g = .tuple #[.string ⟨(seg i g).toArray⟩, .int .i64 0] := if_pos ⟨hi, hg⟩
      rw [e0, ← seg_bytes]
      have hi' := (may_iff i).1 hi
      have hg' := (may_iff g).1 hg
      have Hi := Lib.hid hi; have Hg := Lib.hid hg
      clear hi hg e0
      have hs := fun n => size_num6 n
      go_enter Try.func13, Try.ntmps13
      go_wp2_with fail
      refine (may_any i _).mono ?_; rintro e w' ⟨rfl, rfl⟩; rw [Hi.out]
      go_wp2_with fail
      refine (may_any g _).mono ?_; rintro e w' ⟨rfl, rfl⟩; rw [Hg.out]
      go_wp2_with fail
      refine (number_any i (by omega) (by omega) _).mono ?_; rintro e w1 ⟨rfl, hb1⟩
      go_wp2_with fail
      refine (number_any g (by omega) (by omega) _).mono ?_; rintro e w2 ⟨rfl, hb2⟩
      go_wp2_with fail
      go_ret2
      exact ⟨rfl, hb1.trans (hb2.mono hb1.size)⟩
    · have e0 : segV i g = .tuple #[.string ⟨#[]⟩, .int .i64 2] := if_neg (by simp [hg])
      rw [e0]
      simp only [Bool.not_eq_true] at hg
      have Hi := Lib.hid hi; have Hg := Lib.hid hg
      clear hi hg e0
      go_enter Try.func13, Try.ntmps13
      go_wp2_with fail
      refine (may_any i _).mono ?_; rintro e w' ⟨rfl, rfl⟩; rw [Hi.out]
      go_wp2_with fail
      refine (may_any g _).mono ?_; rintro e w' ⟨rfl, rfl⟩; rw [Hg.out]
      go_wp2_with fail
      go_ret2
      exact ⟨rfl, Below.refl _ _⟩
  · have e0 : segV i g = .tuple #[.string ⟨#[]⟩, .int .i64 2] := if_neg (by simp [hi])
    rw [e0]
    simp only [Bool.not_eq_true] at hi
    have Hi := Lib.hid hi
    clear hi e0
    go_enter Try.func13, Try.ntmps13
    go_wp2_with (go_at_call 33; refine (may_any i _).mono ?_; rintro e w' ⟨rfl, rfl⟩; rw [Hi.out])
    go_ret2
    exact ⟨rfl, Below.refl _ _⟩

end Nm
end Go.Proofs.Ytjapdfehkoijjaa
