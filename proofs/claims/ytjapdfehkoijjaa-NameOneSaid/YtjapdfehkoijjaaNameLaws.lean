/- The three laws on names of files: walked by the contracts of their functions. -/
import Derived.Test.YtjapdfehkoijjaaNameWalks5
namespace Go.Proofs.Ytjapdfehkoijjaa
namespace Nm
open Go.RowKit

theorem parseV_shape (l : List UInt8) : ∃ (a b : Int) (k : Bool), parseV l = .tuple #[.int .i64 a, .int .i64 b, .bool k] := by
  unfold parseV
  split
  · exact ⟨_, _, _, rfl⟩
  · exact ⟨_, _, _, rfl⟩
theorem segV_shape (i g : Int) : ∃ (a : ByteArray) (k : Int), segV i g = .tuple #[.string a, .int .i64 k] := by
  unfold segV
  split
  · exact ⟨_, _, rfl⟩
  · exact ⟨_, _, rfl⟩

set_option maxRecDepth 100000 in
set_option maxHeartbeats 1600000 in
theorem looks_law (s : ByteArray) (i : Int) (_ : (Lit.int .i64 i).wf = true) (g : Int) (_ : (Lit.int .i64 g).wf = true) (w : World) :
    Calls Try.prog 3 #[.string s, .int .i64 i, .int .i64 g] w fun e w' => e = .returned (.bool true) ∧ Below w.heap.size w w' := by
  by_cases hl : 1000 < s.size
  · go_enter Try.func3, Try.ntmps3
    go_wp2_with fail
    refine (awake_any _).mono ?_; rintro e w1 ⟨rfl, hb1⟩
    go_wp2_with fail
    go_ret
    exact ⟨rfl, hb1⟩
  · obtain ⟨a, b, k, hp⟩ := parseV_shape s.data.toList
    obtain ⟨c, d, hs⟩ := segV_shape i g
    have Hp := Lib.hid hp; have Hs := Lib.hid hs
    clear hp hs
    have hee : (c.toList == c.toList) = true := by simp
    go_enter Try.func3, Try.ntmps3
    go_wp2_with fail
    refine (parse_any s _).mono ?_; rintro e w1 ⟨rfl, hb1⟩; rw [Hp.out]
    go_wp2_with fail
    refine (parseR_any s _).mono ?_; rintro e w2 ⟨rfl, hb2⟩; rw [Hp.out]
    go_wp2_with fail
    refine (segment_any i g _).mono ?_; rintro e w3 ⟨rfl, hb3⟩; rw [Hs.out]
    go_wp2_with fail
    refine (segmentR_any i g _).mono ?_; rintro e w4 ⟨rfl, hb4⟩; rw [Hs.out]
    go_wp2_with fail
    refine (check_any s _).mono ?_; rintro e w5 ⟨rfl, hb5⟩
    go_wp2_with fail
    refine (checkR_any s _).mono ?_; rintro e w5' ⟨rfl, rfl⟩
    go_wp2_with fail
    refine (kind_any s _).mono ?_; rintro e w6 ⟨rfl, hb6⟩
    go_wp2_with fail
    refine (kindR_any s _).mono ?_; rintro e w7 ⟨rfl, hb7⟩
    go_wp2_with fail
    refine (awake_any _).mono ?_; rintro e w8 ⟨rfl, hb8⟩
    go_wp2_with fail
    go_ret
    refine ⟨rfl, ?_⟩
    have s1 := hb1.size; have s2 := hb2.size; have s3 := hb3.size; have s4 := hb4.size; have s5 := hb5.size; have s6 := hb6.size; have s7 := hb7.size
    exact hb1.trans ((hb2.mono (by omega)).trans ((hb3.mono (by omega)).trans ((hb4.mono (by omega)).trans ((hb5.mono (by omega)).trans ((hb6.mono (by omega)).trans ((hb7.mono (by omega)).trans (hb8.mono (by omega))))))))

theorem parse_facts {l : List UInt8} {a b : Int} {k : Bool} (h : parseV l = .tuple #[.int .i64 a, .int .i64 b, .bool k]) :
    (k = true → may a = true ∧ may b = true ∧ seg a b = l ∧ kind l = 1) ∧ (k = false → a = 0 ∧ b = 0 ∧ kind l ≠ 1) := by
  rcases hp : parse l with _ | ⟨i, g⟩
  · rw [← parseV_none hp] at h
    simp only [Value.tuple.injEq, Array.mk.injEq, List.cons.injEq, Value.int.injEq, Value.bool.injEq, true_and, and_true] at h
    obtain ⟨rfl, rfl, rfl⟩ := h
    refine ⟨fun h => (by cases h), fun _ => ⟨rfl, rfl, ?_⟩⟩
    unfold kind
    rw [hp, if_neg (by simp)]
    split
    · decide
    split <;> decide
  · rw [← parseV_some hp] at h
    simp only [Value.tuple.injEq, Array.mk.injEq, List.cons.injEq, Value.int.injEq, Value.bool.injEq, true_and, and_true] at h
    obtain ⟨rfl, rfl, rfl⟩ := h
    obtain ⟨h1, h2, h3⟩ := parse_some hp
    refine ⟨fun _ => ⟨h1, h2, h3, ?_⟩, fun h => by cases h⟩
    unfold kind
    rw [hp]; rfl

set_option maxRecDepth 100000 in
set_option maxHeartbeats 1600000 in
theorem back_law (i : Int) (_ : (Lit.int .i64 i).wf = true) (g : Int) (_ : (Lit.int .i64 g).wf = true) (s : ByteArray) (w : World) :
    Calls Try.prog 4 #[.int .i64 i, .int .i64 g, .string s] w fun e w' => e = .returned (.bool true) ∧ Below w.heap.size w w' := by
  by_cases hl : 1000 < s.size
  · go_enter Try.func4, Try.ntmps4
    go_wp2_with fail
    refine (awake_any _).mono ?_; rintro e w1 ⟨rfl, hb1⟩
    go_wp2_with fail
    go_ret
    exact ⟨rfl, hb1⟩
  · obtain ⟨a, b, k, hp⟩ := parseV_shape s.data.toList
    obtain ⟨f1, f2⟩ := parse_facts hp
    have Hp := Lib.hid hp
    clear hp
    by_cases hm : may i = true ∧ may g = true
    · have e0 : segV i g = .tuple #[.string ⟨(seg i g).toArray⟩, .int .i64 0] := if_pos hm
      have e1 : parseV (seg i g) = .tuple #[.int .i64 i, .int .i64 g, .bool true] := (parseV_some (parse_seg i g hm.1 hm.2)).symm
      have H0 := Lib.hid e0; have H1 := Lib.hid e1
      clear e0 e1 hm
      have nn : ∀ x : Int, (x != x) = false := fun x => by simp
      cases k with
      | true =>
        obtain ⟨m1, m2, m3, m4⟩ := f1 rfl
        have e2 : segV a b = .tuple #[.string ⟨(seg a b).toArray⟩, .int .i64 0] := if_pos ⟨m1, m2⟩
        have e3 : (seg a b == s.toList) = true := by rw [ByteArray.toList_eq, m3]; simp
        have e4 : check s.data.toList = 0 := by rw [← m3]; exact check_seg a b
        have H2 := Lib.hid e2; have H4 := Lib.hid e4; have H5 := Lib.hid m4
        clear e2 e4 m1 m2 m3 m4 f1 f2
        go_enter Try.func4, Try.ntmps4
        go_wp2_with fail
        refine (segment_any i g _).mono ?_; rintro e w1 ⟨rfl, hb1⟩; rw [H0.out]
        go_wp2_with fail
        refine (parse_any _ _).mono ?_; rintro e w2 ⟨he, hb2⟩; obtain rfl := he.trans (congrArg Ending.returned H1.out)
        go_wp2_with fail
        refine (parse_any s _).mono ?_; rintro e w3 ⟨rfl, hb3⟩; rw [Hp.out]
        go_wp2_with fail
        refine (segment_any a b _).mono ?_; rintro e w4 ⟨rfl, hb4⟩; rw [H2.out]
        go_wp2_with fail
        refine (check_any s _).mono ?_; rintro e w5 ⟨rfl, hb5⟩; rw [H4.out]
        go_wp2_with fail
        refine (kind_any s _).mono ?_; rintro e w6 ⟨rfl, hb6⟩; rw [H5.out]
        go_wp2_with fail
        refine (awake_any _).mono ?_; rintro e w7 ⟨rfl, hb7⟩
        go_wp2_with fail
        go_ret
        refine ⟨rfl, ?_⟩
        have s1 := hb1.size; have s2 := hb2.size; have s3 := hb3.size; have s4 := hb4.size; have s5 := hb5.size; have s6 := hb6.size
        exact hb1.trans ((hb2.mono (by omega)).trans ((hb3.mono (by omega)).trans ((hb4.mono (by omega)).trans ((hb5.mono (by omega)).trans ((hb6.mono (by omega)).trans (hb7.mono (by omega)))))))
      | false =>
        obtain ⟨rfl, rfl, m4⟩ := f2 rfl
        have e4 : (kind s.data.toList != 1) = true := by simpa using m4
        clear f1 f2 m4
        go_enter Try.func4, Try.ntmps4
        go_wp2_with fail
        refine (segment_any i g _).mono ?_; rintro e w1 ⟨rfl, hb1⟩; rw [H0.out]
        go_wp2_with fail
        refine (parse_any _ _).mono ?_; rintro e w2 ⟨he, hb2⟩; obtain rfl := he.trans (congrArg Ending.returned H1.out)
        go_wp2_with fail
        refine (parse_any s _).mono ?_; rintro e w3 ⟨rfl, hb3⟩; rw [Hp.out]
        go_wp2_with fail
        refine (kind_any s _).mono ?_; rintro e w6 ⟨rfl, hb6⟩
        go_wp2_with fail
        refine (awake_any _).mono ?_; rintro e w7 ⟨rfl, hb7⟩
        go_wp2_with fail
        go_ret
        refine ⟨rfl, ?_⟩
        have s1 := hb1.size; have s2 := hb2.size; have s3 := hb3.size; have s6 := hb6.size
        exact hb1.trans ((hb2.mono (by omega)).trans ((hb3.mono (by omega)).trans ((hb6.mono (by omega)).trans (hb7.mono (by omega)))))
    · have e0 : segV i g = .tuple #[.string ⟨#[]⟩, .int .i64 2] := if_neg hm
      have H0 := Lib.hid e0
      clear e0 hm
      cases k with
      | true =>
        obtain ⟨m1, m2, m3, m4⟩ := f1 rfl
        have e2 : segV a b = .tuple #[.string ⟨(seg a b).toArray⟩, .int .i64 0] := if_pos ⟨m1, m2⟩
        have e3 : (seg a b == s.toList) = true := by rw [ByteArray.toList_eq, m3]; simp
        have e4 : check s.data.toList = 0 := by rw [← m3]; exact check_seg a b
        have H2 := Lib.hid e2; have H4 := Lib.hid e4; have H5 := Lib.hid m4
        clear e2 e4 m1 m2 m3 m4 f1 f2
        go_enter Try.func4, Try.ntmps4
        go_wp2_with fail
        refine (segment_any i g _).mono ?_; rintro e w1 ⟨rfl, hb1⟩; rw [H0.out]
        go_wp2_with fail
        refine (parse_any s _).mono ?_; rintro e w3 ⟨rfl, hb3⟩; rw [Hp.out]
        go_wp2_with fail
        refine (segment_any a b _).mono ?_; rintro e w4 ⟨rfl, hb4⟩; rw [H2.out]
        go_wp2_with fail
        refine (check_any s _).mono ?_; rintro e w5 ⟨rfl, hb5⟩; rw [H4.out]
        go_wp2_with fail
        refine (kind_any s _).mono ?_; rintro e w6 ⟨rfl, hb6⟩; rw [H5.out]
        go_wp2_with fail
        refine (awake_any _).mono ?_; rintro e w7 ⟨rfl, hb7⟩
        go_wp2_with fail
        go_ret
        refine ⟨rfl, ?_⟩
        have s1 := hb1.size; have s3 := hb3.size; have s4 := hb4.size; have s5 := hb5.size; have s6 := hb6.size
        exact hb1.trans ((hb3.mono (by omega)).trans ((hb4.mono (by omega)).trans ((hb5.mono (by omega)).trans ((hb6.mono (by omega)).trans (hb7.mono (by omega))))))
      | false =>
        obtain ⟨rfl, rfl, m4⟩ := f2 rfl
        have e4 : (kind s.data.toList != 1) = true := by simpa using m4
        clear f1 f2 m4
        go_enter Try.func4, Try.ntmps4
        go_wp2_with fail
        refine (segment_any i g _).mono ?_; rintro e w1 ⟨rfl, hb1⟩; rw [H0.out]
        go_wp2_with fail
        refine (parse_any s _).mono ?_; rintro e w3 ⟨rfl, hb3⟩; rw [Hp.out]
        go_wp2_with fail
        refine (kind_any s _).mono ?_; rintro e w6 ⟨rfl, hb6⟩
        go_wp2_with fail
        refine (awake_any _).mono ?_; rintro e w7 ⟨rfl, hb7⟩
        go_wp2_with fail
        go_ret
        refine ⟨rfl, ?_⟩
        have s1 := hb1.size; have s3 := hb3.size; have s6 := hb6.size
        exact hb1.trans ((hb3.mono (by omega)).trans ((hb6.mono (by omega)).trans (hb7.mono (by omega))))
end Nm
end Go.Proofs.Ytjapdfehkoijjaa
