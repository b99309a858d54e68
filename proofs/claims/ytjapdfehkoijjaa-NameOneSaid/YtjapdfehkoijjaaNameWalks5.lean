/- Names of files, more: kinds, the manifest's names, and some fixed answers. -/
import Derived.Test.YtjapdfehkoijjaaNameWalks4
namespace Go.Proofs.Ytjapdfehkoijjaa
namespace Nm
open Go.RowKit

set_option maxHeartbeats 800000 in
theorem kind_any (s : ByteArray) (w : World) :
    Calls Try.prog 17 #[.string s] w fun e w' => e = .returned (.int .i64 (kind s.data.toList)) ∧ Below w.heap.size w w' := by
  unfold kind
  rcases hp : parse s.data.toList with _ | ⟨i, g⟩
  · have e0 := parseV_none hp
    clear hp
    simp only [Option.isSome_none]
    by_cases h2 : s.data.toList = [109, 97, 110, 105, 102, 101, 115, 116]
    · have b2 : (s.toList == [109, 97, 110, 105, 102, 101, 115, 116]) = true := by rw [ByteArray.toList_eq, beq_iff_eq]; exact h2
      rw [if_neg (by simp), if_pos h2]
      have H2 := Lib.hid h2; clear h2
      have E0 := Lib.hid e0; clear e0
      go_enter Try.func17, Try.ntmps17
      go_wp2_with fail
      refine (parse_any s _).mono ?_; rintro e w1 ⟨rfl, hb1⟩; rw [← E0.out]
      go_wp2_with fail
      go_ret
      exact ⟨rfl, hb1⟩
    · have b2 : (s.toList == [109, 97, 110, 105, 102, 101, 115, 116]) = false := by rw [ByteArray.toList_eq, beq_eq_false_iff_ne]; exact h2
      rw [if_neg (by simp), if_neg h2]
      clear h2
      by_cases h3 : s.data.toList = [109, 97, 110, 105, 102, 101, 115, 116, 46, 110, 101, 119]
      · have b3 : (s.toList == [109, 97, 110, 105, 102, 101, 115, 116, 46, 110, 101, 119]) = true := by rw [ByteArray.toList_eq, beq_iff_eq]; exact h3
        rw [if_pos h3]
        have H3 := Lib.hid h3; clear h3
        have E0 := Lib.hid e0; clear e0
        go_enter Try.func17, Try.ntmps17
        go_wp2_with fail
        refine (parse_any s _).mono ?_; rintro e w1 ⟨rfl, hb1⟩; rw [← E0.out]
        go_wp2_with fail
        go_ret
        exact ⟨rfl, hb1⟩
      · have b3 : (s.toList == [109, 97, 110, 105, 102, 101, 115, 116, 46, 110, 101, 119]) = false := by rw [ByteArray.toList_eq, beq_eq_false_iff_ne]; exact h3
        rw [if_neg h3]
        clear h3
        have E0 := Lib.hid e0; clear e0
        go_enter Try.func17, Try.ntmps17
        go_wp2_with fail
        refine (parse_any s _).mono ?_; rintro e w1 ⟨rfl, hb1⟩; rw [← E0.out]
        go_wp2_with fail
        go_ret
        exact ⟨rfl, hb1⟩
  · have e0 := parseV_some hp
    clear hp
    simp only [Option.isSome_some]
    rw [if_pos (by simp)]
    have E0 := Lib.hid e0; clear e0
    go_enter Try.func17, Try.ntmps17
    go_wp2_with fail
    refine (parse_any s _).mono ?_; rintro e w1 ⟨rfl, hb1⟩; rw [← E0.out]
    go_wp2_with fail
    go_ret
    exact ⟨rfl, hb1⟩

set_option maxHeartbeats 800000 in
theorem kindR_any (s : ByteArray) (w : World) :
    Calls Try.prog 18 #[.string s] w fun e w' => e = .returned (.int .i64 (kind s.data.toList)) ∧ Below w.heap.size w w' := by
  unfold kind
  rcases hp : parse s.data.toList with _ | ⟨i, g⟩
  · have e0 := parseV_none hp
    clear hp
    simp only [Option.isSome_none]
    by_cases h2 : s.data.toList = [109, 97, 110, 105, 102, 101, 115, 116]
    · have b2 : (s.toList == [109, 97, 110, 105, 102, 101, 115, 116]) = true := by rw [ByteArray.toList_eq, beq_iff_eq]; exact h2
      rw [if_neg (by simp), if_pos h2]
      have H2 := Lib.hid h2; clear h2
      have E0 := Lib.hid e0; clear e0
      go_enter Try.func18, Try.ntmps18
      go_wp2_with fail
      refine (parseR_any s _).mono ?_; rintro e w1 ⟨rfl, hb1⟩; rw [← E0.out]
      go_wp2_with fail
      go_ret
      exact ⟨rfl, hb1⟩
    · have b2 : (s.toList == [109, 97, 110, 105, 102, 101, 115, 116]) = false := by rw [ByteArray.toList_eq, beq_eq_false_iff_ne]; exact h2
      rw [if_neg (by simp), if_neg h2]
      clear h2
      by_cases h3 : s.data.toList = [109, 97, 110, 105, 102, 101, 115, 116, 46, 110, 101, 119]
      · have b3 : (s.toList == [109, 97, 110, 105, 102, 101, 115, 116, 46, 110, 101, 119]) = true := by rw [ByteArray.toList_eq, beq_iff_eq]; exact h3
        rw [if_pos h3]
        have H3 := Lib.hid h3; clear h3
        have E0 := Lib.hid e0; clear e0
        go_enter Try.func18, Try.ntmps18
        go_wp2_with fail
        refine (parseR_any s _).mono ?_; rintro e w1 ⟨rfl, hb1⟩; rw [← E0.out]
        go_wp2_with fail
        go_ret
        exact ⟨rfl, hb1⟩
      · have b3 : (s.toList == [109, 97, 110, 105, 102, 101, 115, 116, 46, 110, 101, 119]) = false := by rw [ByteArray.toList_eq, beq_eq_false_iff_ne]; exact h3
        rw [if_neg h3]
        clear h3
        have E0 := Lib.hid e0; clear e0
        go_enter Try.func18, Try.ntmps18
        go_wp2_with fail
        refine (parseR_any s _).mono ?_; rintro e w1 ⟨rfl, hb1⟩; rw [← E0.out]
        go_wp2_with fail
        go_ret
        exact ⟨rfl, hb1⟩
  · have e0 := parseV_some hp
    clear hp
    simp only [Option.isSome_some]
    rw [if_pos (by simp)]
    have E0 := Lib.hid e0; clear e0
    go_enter Try.func18, Try.ntmps18
    go_wp2_with fail
    refine (parseR_any s _).mono ?_; rintro e w1 ⟨rfl, hb1⟩; rw [← E0.out]
    go_wp2_with fail
    go_ret
    exact ⟨rfl, hb1⟩

theorem manifest_any (w : World) : Calls Try.prog 19 #[] w fun e w' => e = .returned (.string ⟨#[109, 97, 110, 105, 102, 101, 115, 116]⟩) ∧ w = w' := by
  go_enter Try.func19, Try.ntmps19
  go_wp2_with fail
  go_ret
  exact ⟨rfl, rfl⟩

theorem temp_any (w : World) : Calls Try.prog 20 #[] w fun e w' => e = .returned (.string ⟨#[109, 97, 110, 105, 102, 101, 115, 116, 46, 110, 101, 119]⟩) ∧ w = w' := by
  go_enter Try.func20, Try.ntmps20
  go_wp2_with fail
  go_ret
  exact ⟨rfl, rfl⟩

/-- 'seg-000012-000003.log'. -/
def aw : List UInt8 := [115, 101, 103, 45, 48, 48, 48, 48, 49, 50, 45, 48, 48, 48, 48, 48, 51, 46, 108, 111, 103]

theorem aw_seg : segV 12 3 = .tuple #[.string ⟨#[115, 101, 103, 45, 48, 48, 48, 48, 49, 50, 45, 48, 48, 48, 48, 48, 51, 46, 108, 111, 103]⟩, .int .i64 0] := by
  unfold segV; rw [if_pos (by decide)]; rfl
theorem aw_seg0 : segV 0 3 = .tuple #[.string ⟨#[]⟩, .int .i64 2] := by
  unfold segV; rw [if_neg (by decide)]
theorem aw_parse : parseV aw = .tuple #[.int .i64 12, .int .i64 3, .bool true] := (parseV_some (parse_seg 12 3 (by decide) (by decide))).symm
theorem aw_check1 : check [97, 32, 66] = 180 := by decide
theorem aw_check2 : check [97, 46, 98, 45, 49] = 0 := by decide
theorem aw_kind1 : kind aw = 1 := by
  have h : parse aw = some (12, 3) := parse_seg 12 3 (by decide) (by decide)
  unfold kind; rw [h]; rfl
theorem aw_kind2 : kind [109, 97, 110, 105, 102, 101, 115, 116] = 2 := by
  have h : parse [109, 97, 110, 105, 102, 101, 115, 116] = none := by unfold parse; rw [if_neg (by decide)]
  unfold kind; rw [h]; rfl

set_option maxRecDepth 100000 in
set_option maxHeartbeats 800000 in
theorem awake_any (w : World) : Calls Try.prog 10 #[] w fun e w' => e = .returned (.bool true) ∧ Below w.heap.size w w' := by
  go_enter Try.func10, Try.ntmps10
  go_wp2_with fail
  refine (segment_any 12 3 _).mono ?_; rintro e w1 ⟨rfl, hb1⟩; rw [aw_seg]
  go_wp2_with fail
  refine (parse_any _ _).mono ?_; rintro e w2 ⟨he, hb2⟩; obtain rfl := he.trans (congrArg Ending.returned aw_parse)
  go_wp2_with fail
  refine (segment_any 0 3 _).mono ?_; rintro e w3 ⟨rfl, hb3⟩; rw [aw_seg0]
  go_wp2_with fail
  refine (check_any _ _).mono ?_; rintro e w4 ⟨he, hb4⟩; obtain rfl := he.trans (ret_int aw_check1)
  go_wp2_with fail
  refine (check_any _ _).mono ?_; rintro e w5 ⟨he, hb5⟩; obtain rfl := he.trans (ret_int aw_check2)
  go_wp2_with fail
  refine (manifest_any _).mono ?_; rintro e w' ⟨rfl, rfl⟩
  go_wp2_with fail
  refine (temp_any _).mono ?_; rintro e w' ⟨rfl, rfl⟩
  go_wp2_with fail
  refine (kind_any _ _).mono ?_; rintro e w6 ⟨he, hb6⟩; obtain rfl := he.trans (ret_int aw_kind1)
  go_wp2_with fail
  refine (kind_any _ _).mono ?_; rintro e w7 ⟨he, hb7⟩; obtain rfl := he.trans (ret_int aw_kind2)
  go_wp2_with fail
  go_ret
  refine ⟨rfl, ?_⟩
  have s1 := hb1.size; have s2 := hb2.size; have s3 := hb3.size; have s4 := hb4.size; have s5 := hb5.size; have s6 := hb6.size
  exact hb1.trans ((hb2.mono (by omega)).trans ((hb3.mono (by omega)).trans ((hb4.mono (by omega)).trans ((hb5.mono (by omega)).trans ((hb6.mono (by omega)).trans (hb7.mono (by omega)))))))

end Nm
end Go.Proofs.Ytjapdfehkoijjaa
