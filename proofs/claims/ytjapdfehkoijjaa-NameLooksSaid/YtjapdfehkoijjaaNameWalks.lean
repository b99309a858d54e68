/- Names of files: each function of package name, and of its reference, tells what the plain functions of NamePlain tell; nothing that was there has turned. -/
import Derived.Test.YtjapdfehkoijjaaRows
import Derived.Test.YtjapdfehkoijjaaNamePlain
namespace Go.Proofs.Ytjapdfehkoijjaa
namespace Nm
open Go.RowKit

set_option maxHeartbeats 400000 in
theorem letter_any (r : Int) (w : World) : Calls Try.prog 36 #[.int .i32 r] w fun e w' => e = .returned (.bool (okRune r)) ∧ w = w' := by
  go_enter Try.func36, Try.ntmps36
  go_wp2
  all_goals
    go_ret
    refine ⟨ret_bool ?_, rfl⟩
    unfold okRune
    rw [Bool.eq_iff_iff]
    simp
    try omega

theorem all_take_succ (s : ByteArray) (p : UInt8 → Bool) (k : Nat) (hk : k < s.size) : (s.data.toList.take (k + 1)).all p = ((s.data.toList.take k).all p && p s[k]) := by
  rw [List.take_succ_eq_append_getElem (by simpa using hk), List.all_append]
  simp
  rfl

theorem all_of_not (s : ByteArray) (p : UInt8 → Bool) (k : Nat) (hk : k < s.size) (h : p s[k] = false) : s.data.toList.all p = false := by
  rw [List.all_eq_false]
  exact ⟨s[k], List.getElem_mem (by simpa using hk), by simp [h]⟩

theorem okB_high (c : UInt8) (h : 128 ≤ c.toNat) : okB c = false := by
  simp [okB, okRune]; omega

set_option maxHeartbeats 400000 in
theorem check_any (s : ByteArray) (w : World) :
    Calls Try.prog 15 #[.string s] w fun e w' => e = .returned (.int .i64 (check s.data.toList)) ∧ Below w.heap.size w w' := by
  by_cases h1 : s.size < 1
  · have hr : check s.data.toList = 180 := by
      unfold check; rw [if_neg]; intro h; have : s.data.toList.length = s.size := rfl; omega
    rw [hr]; clear hr
    go_enter Try.func15, Try.ntmps15
    go_wp2
    go_ret
    exact ⟨rfl, Below.refl _ _⟩
  by_cases h2 : 64 < s.size
  · have hr : check s.data.toList = 180 := by
      unfold check; rw [if_neg]; intro h; have : s.data.toList.length = s.size := rfl; omega
    rw [hr]; clear hr
    go_enter Try.func15, Try.ntmps15
    go_wp2
    go_ret
    exact ⟨rfl, Below.refl _ _⟩
  go_enter Try.func15, Try.ntmps15
  go_wp2_with fail
  go_loopw [4] (fun _ wr => ∃ pos : Nat, pos ≤ s.size ∧ wr = w.iter s pos ∧ (s.data.toList.take pos).all okB = true) (fun _ wr => s.size - wr.iterPos w.heap.size)
  case atStart => exact ⟨0, by omega, rfl, by simp⟩
  case round =>
    obtain ⟨pos, hp, rfl, hall⟩ := hrel
    have Hall := Lib.hid hall
    clear hall
    by_cases hlt : pos < s.size
    · by_cases ha : (s[pos]'hlt).toNat < 128
      · have hnx : ∀ ty, (Instr.next (.pointer (some ⟨w.heap.size, 0, none⟩)) true ty).run Try.prog (w.iter s pos) = _ := fun ty => run_next_ascii w s pos ty hlt ha
        by_cases hk : okRune ((s[pos]'hlt).toNat : Int) = true
        · have HK := Lib.hid hk
          clear hk
          go_wp2_with (go_at_call 36; refine (letter_any _ _).mono ?_; rintro e w' ⟨rfl, rfl⟩; rw [HK.out])
          go_roundw
          case rel =>
            refine ⟨pos + 1, by omega, rfl, ?_⟩
            rw [all_take_succ s okB pos hlt, Hall.out, okB, HK.out]
            rfl
          case measure => simp; omega
        · simp only [Bool.not_eq_true] at hk
          have HK := Lib.hid hk
          clear hk
          go_wp2_with (go_at_call 36; refine (letter_any _ _).mono ?_; rintro e w' ⟨rfl, rfl⟩; rw [HK.out])
          go_ret
          have hno := all_of_not s okB pos hlt HK.out
          refine ⟨ret_int ?_, below_iter (Below.refl _ _) (Nat.le_refl _) _ _⟩
          unfold check
          rw [if_neg (by rw [hno]; simp)]
      · have hnx : ∀ ty, (Instr.next (.pointer (some ⟨w.heap.size, 0, none⟩)) true ty).run Try.prog (w.iter s pos) = _ := fun ty => run_next_any w s pos ty hlt
        have hd := (decode_high s pos hlt (by omega)).1
        have hk : okRune ((Utf8.decode s pos).1 : Int) = false := by simp [okRune]; omega
        have HK := Lib.hid hk
        clear hk
        go_wp2_with (go_at_call 36; refine (letter_any _ _).mono ?_; rintro e w' ⟨rfl, rfl⟩; rw [HK.out])
        go_ret
        have hno := all_of_not s okB pos hlt (okB_high _ (by omega))
        refine ⟨ret_int ?_, below_iter (Below.refl _ _) (Nat.le_refl _) _ _⟩
        unfold check
        rw [if_neg (by rw [hno]; simp)]
    · have hnx : ∀ ty, (Instr.next (.pointer (some ⟨w.heap.size, 0, none⟩)) true ty).run Try.prog (w.iter s pos) = _ := fun ty => run_next_end w s pos ty hlt
      go_wp2_with fail
      go_ret
      refine ⟨ret_int ?_, below_iter (Below.refl _ _) (Nat.le_refl _) _ _⟩
      have hall := Hall.out
      rw [List.take_of_length_le (by simp; omega)] at hall
      have hl : s.data.toList.length = s.size := rfl
      unfold check
      rw [if_pos ⟨by omega, by omega, hall⟩]

end Nm
end Go.Proofs.Ytjapdfehkoijjaa
