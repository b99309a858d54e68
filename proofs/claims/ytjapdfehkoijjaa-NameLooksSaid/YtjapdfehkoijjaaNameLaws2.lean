/- The third law on names of files. -/
import Derived.Test.YtjapdfehkoijjaaNameLaws
import Derived.Test.YtjapdfehkoijjaaNamePlain2
namespace Go.Proofs.Ytjapdfehkoijjaa
namespace Nm
open Go.RowKit

/-- The two arguments in their variables, in a later world. -/
def Boxes (w : World) (N : Nat) (a b c d : Int) : Prop :=
  w.cell? ⟨N, 0, none⟩ = some (.int .i64 a) ∧ w.cell? ⟨N, 1, none⟩ = some (.int .i64 b) ∧ w.cell? ⟨N + 1, 0, none⟩ = some (.int .i64 c) ∧ w.cell? ⟨N + 1, 1, none⟩ = some (.int .i64 d) ∧ N + 2 ≤ w.heap.size

theorem boxes_new (w : World) (a b c d : Int) (t : TypeId) : Boxes ((w.alloc (.cells #[.int .i64 a, .int .i64 b] t)).alloc (.cells #[.int .i64 c, .int .i64 d] t)) w.heap.size a b c d := by
  refine ⟨?_, ?_, ?_, ?_, by simp⟩ <;> simp [go_sem]

theorem Boxes.below {w w' : World} {N : Nat} {a b c d : Int} (h : Boxes w N a b c d) (hb : Below w.heap.size w w') : Boxes w' N a b c d := by
  obtain ⟨h1, h2, h3, h4, h5⟩ := h
  exact ⟨(hb.cell (p := ⟨N, 0, none⟩) (by show N < _; omega)).trans h1, (hb.cell (p := ⟨N, 1, none⟩) (by show N < _; omega)).trans h2,
    (hb.cell (p := ⟨N + 1, 0, none⟩) (by show N + 1 < _; omega)).trans h3, (hb.cell (p := ⟨N + 1, 1, none⟩) (by show N + 1 < _; omega)).trans h4, Nat.le_trans h5 hb.size⟩

theorem int_size : (Try.prog.info? 3).map (fun i => (i.zero, i.size, i.bytes)) = some (some (.int .i64 0), 1, 8) := by kernel_rfl
theorem part0 (a b : Int) (w : World) : (part 3 #[.int .i64 a, .int .i64 b] 0).run Try.prog w = .ok (.int .i64 a) w := by kernel_rfl
theorem part1 (a b : Int) (w : World) : (part 3 #[.int .i64 a, .int .i64 b] 1).run Try.prog w = .ok (.int .i64 b) w := by kernel_rfl
theorem eq_pair (a b c d : Int) (w : World) : (binOp .eql 34 (.agg #[.int .i64 a, .int .i64 b]) (.agg #[.int .i64 c, .int .i64 d])).run Try.prog w = .ok (.bool (a == c && b == d)) w := by
  obtain ⟨i0, hi, hz0, hz1, hz2⟩ := info_parts int_size
  simp only [binOp]
  simp [Op.equal, Op.maxDepth]
  rw [show (10000 : Nat) = 9998 + 1 + 1 from rfl]
  rw [Op.equalIn]
  simp [run_underlying Try.underlying34, sizeOf, typeInfo, hi, hz1]
  simp only [show List.range' 0 2 = [0, 1] from rfl, List.forIn_cons, List.forIn_nil]
  simp [part0, part1, run_equalIn_int _ _ 3 .i64 .i64 _ _ Try.underlying3]
  by_cases h : a = c
  · subst h
    simp
    by_cases h' : b = d
    · subst h'; simp
    · simp [h']
  · simp [h]

theorem aw_check3 : check [109, 97, 110, 105, 102, 101, 115, 116, 46, 110, 101, 119] = 0 := by decide

set_option maxRecDepth 100000 in
set_option maxHeartbeats 1600000 in
/-- Both may be: told by what the order and the equality of the names are. -/
theorem one_both (a b c d : Int) (ma : may a = true) (mb : may b = true) (mc : may c = true) (md : may d = true) (w : World) :
    Calls Try.prog 5 #[.agg #[.int .i64 a, .int .i64 b], .agg #[.int .i64 c, .int .i64 d]] w fun e w' => e = .returned (.bool true) ∧ Below w.heap.size w w' := by
  have ha := (may_iff a).1 ma; have hb := (may_iff b).1 mb; have hc := (may_iff c).1 mc; have hd := (may_iff d).1 md
  have hlt := less_seg a b c d ha hb hc hd
  have heq := eq_seg a b c d ha hb hc hd
  have H0 : Hid _ := Lib.hid (show segV a b = .tuple #[.string ⟨(seg a b).toArray⟩, .int .i64 0] from if_pos ⟨ma, mb⟩)
  have H1 : Hid _ := Lib.hid (show segV c d = .tuple #[.string ⟨(seg c d).toArray⟩, .int .i64 0] from if_pos ⟨mc, md⟩)
  have hk := Lib.hid (check_seg a b)
  have n1 : (seg a b == [109, 97, 110, 105, 102, 101, 115, 116]) = false := by rw [beq_eq_false_iff_ne]; exact seg_ne_man a b
  have n2 : (seg a b == [109, 97, 110, 105, 102, 101, 115, 116, 46, 110, 101, 119]) = false := by rw [beq_eq_false_iff_ne]; exact seg_ne_tmp a b
  have HX0 := boxes_new w a b c d 34
  have hq := eq_pair
  clear ma mb mc md
  have hcs : (a < c) ∨ (a = c ∧ b < d) ∨ (a = c ∧ b = d) ∨ (a = c ∧ d < b) ∨ (c < a) := by omega
  rcases hcs with h | ⟨rfl, h⟩ | ⟨rfl, rfl⟩ | ⟨rfl, h⟩ | h
  · have hL : Op.bytesLess (seg a b) (seg c d) = true := by rw [hlt]; simp; try omega
    have hE : (seg a b == seg c d) = false := by rw [Bool.eq_iff_iff, beq_iff_eq, heq]; simp; try omega
    have eac : (a == c) = false := by rw [beq_eq_false_iff_ne]; omega
    clear hlt heq
    go_enter Try.func5, Try.ntmps5
    go_wp2_with fail
    refine (segment_any _ _ _).mono ?_; rintro e w1 ⟨rfl, hb1⟩; rw [H0.out]
    have HX1 := HX0.below hb1
    obtain ⟨q1, q2, q3, q4, q5⟩ := id HX1
    go_wp2_with fail
    refine (segment_any _ _ _).mono ?_; rintro e w2 ⟨rfl, hb2⟩; rw [H1.out]
    clear q1 q2 q3 q4 q5
    have HX2 := HX1.below hb2
    obtain ⟨q1, q2, q3, q4, q5⟩ := id HX2
    go_wp2_with fail
    refine (check_any _ _).mono ?_; rintro e w3 ⟨he, hb3⟩; obtain rfl := he.trans (ret_int hk.out)
    go_wp2_with fail
    refine (manifest_any _).mono ?_; rintro e w' ⟨rfl, rfl⟩
    go_wp2_with fail
    refine (temp_any _).mono ?_; rintro e w' ⟨rfl, rfl⟩
    go_wp2_with fail
    refine (temp_any _).mono ?_; rintro e w' ⟨rfl, rfl⟩
    go_wp2_with fail
    refine (check_any _ _).mono ?_; rintro e w4 ⟨he, hb4⟩; obtain rfl := he.trans (ret_int aw_check3)
    go_wp2_with fail
    refine (awake_any _).mono ?_; rintro e w5 ⟨rfl, hb5⟩
    go_wp2_with fail
    go_ret
    refine ⟨rfl, ?_⟩
    have s0 : w.heap.size ≤ ((w.alloc (.cells #[.int .i64 a, .int .i64 b] 34)).alloc (.cells #[.int .i64 c, .int .i64 d] 34)).heap.size := by simp; omega
    have s1 := hb1.size; have s2 := hb2.size; have s3 := hb3.size; have s4 := hb4.size
    have hb0 : Below w.heap.size w ((w.alloc (.cells #[.int .i64 a, .int .i64 b] 34)).alloc (.cells #[.int .i64 c, .int .i64 d] 34)) := by go_grown
    exact hb0.trans ((hb1.mono s0).trans ((hb2.mono (by omega)).trans ((hb3.mono (by omega)).trans ((hb4.mono (by omega)).trans (hb5.mono (by omega))))))
  · have hL : Op.bytesLess (seg a b) (seg a d) = true := by rw [hlt]; simp; try omega
    have hE : (seg a b == seg a d) = false := by rw [Bool.eq_iff_iff, beq_iff_eq, heq]; simp; try omega
    have ebd : (b == d) = false := by rw [beq_eq_false_iff_ne]; omega
    clear hlt heq
    go_enter Try.func5, Try.ntmps5
    go_wp2_with fail
    refine (segment_any _ _ _).mono ?_; rintro e w1 ⟨rfl, hb1⟩; rw [H0.out]
    have HX1 := HX0.below hb1
    obtain ⟨q1, q2, q3, q4, q5⟩ := id HX1
    go_wp2_with fail
    refine (segment_any _ _ _).mono ?_; rintro e w2 ⟨rfl, hb2⟩; rw [H1.out]
    clear q1 q2 q3 q4 q5
    have HX2 := HX1.below hb2
    obtain ⟨q1, q2, q3, q4, q5⟩ := id HX2
    go_wp2_with fail
    refine (check_any _ _).mono ?_; rintro e w3 ⟨he, hb3⟩; obtain rfl := he.trans (ret_int hk.out)
    go_wp2_with fail
    refine (manifest_any _).mono ?_; rintro e w' ⟨rfl, rfl⟩
    go_wp2_with fail
    refine (temp_any _).mono ?_; rintro e w' ⟨rfl, rfl⟩
    go_wp2_with fail
    refine (temp_any _).mono ?_; rintro e w' ⟨rfl, rfl⟩
    go_wp2_with fail
    refine (check_any _ _).mono ?_; rintro e w4 ⟨he, hb4⟩; obtain rfl := he.trans (ret_int aw_check3)
    go_wp2_with fail
    refine (awake_any _).mono ?_; rintro e w5 ⟨rfl, hb5⟩
    go_wp2_with fail
    go_ret
    refine ⟨rfl, ?_⟩
    have s0 : w.heap.size ≤ ((w.alloc (.cells #[.int .i64 a, .int .i64 b] 34)).alloc (.cells #[.int .i64 a, .int .i64 d] 34)).heap.size := by simp; omega
    have s1 := hb1.size; have s2 := hb2.size; have s3 := hb3.size; have s4 := hb4.size
    have hb0 : Below w.heap.size w ((w.alloc (.cells #[.int .i64 a, .int .i64 b] 34)).alloc (.cells #[.int .i64 a, .int .i64 d] 34)) := by go_grown
    exact hb0.trans ((hb1.mono s0).trans ((hb2.mono (by omega)).trans ((hb3.mono (by omega)).trans ((hb4.mono (by omega)).trans (hb5.mono (by omega))))))
  · have hL : Op.bytesLess (seg a b) (seg a b) = false := by rw [hlt]; simp; try omega
    have hE : (seg a b == seg a b) = true := by rw [Bool.eq_iff_iff, beq_iff_eq, heq]; simp; try omega
    clear hlt heq
    go_enter Try.func5, Try.ntmps5
    go_wp2_with fail
    refine (segment_any _ _ _).mono ?_; rintro e w1 ⟨rfl, hb1⟩; rw [H0.out]
    have HX1 := HX0.below hb1
    obtain ⟨q1, q2, q3, q4, q5⟩ := id HX1
    go_wp2_with fail
    refine (segment_any _ _ _).mono ?_; rintro e w2 ⟨rfl, hb2⟩; rw [H1.out]
    clear q1 q2 q3 q4 q5
    have HX2 := HX1.below hb2
    obtain ⟨q1, q2, q3, q4, q5⟩ := id HX2
    go_wp2_with fail
    refine (check_any _ _).mono ?_; rintro e w3 ⟨he, hb3⟩; obtain rfl := he.trans (ret_int hk.out)
    go_wp2_with fail
    refine (manifest_any _).mono ?_; rintro e w' ⟨rfl, rfl⟩
    go_wp2_with fail
    refine (temp_any _).mono ?_; rintro e w' ⟨rfl, rfl⟩
    go_wp2_with fail
    refine (temp_any _).mono ?_; rintro e w' ⟨rfl, rfl⟩
    go_wp2_with fail
    refine (check_any _ _).mono ?_; rintro e w4 ⟨he, hb4⟩; obtain rfl := he.trans (ret_int aw_check3)
    go_wp2_with fail
    refine (awake_any _).mono ?_; rintro e w5 ⟨rfl, hb5⟩
    go_wp2_with fail
    go_ret
    refine ⟨rfl, ?_⟩
    have s0 : w.heap.size ≤ ((w.alloc (.cells #[.int .i64 a, .int .i64 b] 34)).alloc (.cells #[.int .i64 a, .int .i64 b] 34)).heap.size := by simp; omega
    have s1 := hb1.size; have s2 := hb2.size; have s3 := hb3.size; have s4 := hb4.size
    have hb0 : Below w.heap.size w ((w.alloc (.cells #[.int .i64 a, .int .i64 b] 34)).alloc (.cells #[.int .i64 a, .int .i64 b] 34)) := by go_grown
    exact hb0.trans ((hb1.mono s0).trans ((hb2.mono (by omega)).trans ((hb3.mono (by omega)).trans ((hb4.mono (by omega)).trans (hb5.mono (by omega))))))
  · have hL : Op.bytesLess (seg a b) (seg a d) = false := by rw [hlt]; simp; try omega
    have hE : (seg a b == seg a d) = false := by rw [Bool.eq_iff_iff, beq_iff_eq, heq]; simp; try omega
    have ebd : (b == d) = false := by rw [beq_eq_false_iff_ne]; omega
    have dbd : decide (b < d) = false := by rw [decide_eq_false_iff_not]; omega
    clear hlt heq
    go_enter Try.func5, Try.ntmps5
    go_wp2_with fail
    refine (segment_any _ _ _).mono ?_; rintro e w1 ⟨rfl, hb1⟩; rw [H0.out]
    have HX1 := HX0.below hb1
    obtain ⟨q1, q2, q3, q4, q5⟩ := id HX1
    go_wp2_with fail
    refine (segment_any _ _ _).mono ?_; rintro e w2 ⟨rfl, hb2⟩; rw [H1.out]
    clear q1 q2 q3 q4 q5
    have HX2 := HX1.below hb2
    obtain ⟨q1, q2, q3, q4, q5⟩ := id HX2
    go_wp2_with fail
    refine (check_any _ _).mono ?_; rintro e w3 ⟨he, hb3⟩; obtain rfl := he.trans (ret_int hk.out)
    go_wp2_with fail
    refine (manifest_any _).mono ?_; rintro e w' ⟨rfl, rfl⟩
    go_wp2_with fail
    refine (temp_any _).mono ?_; rintro e w' ⟨rfl, rfl⟩
    go_wp2_with fail
    refine (temp_any _).mono ?_; rintro e w' ⟨rfl, rfl⟩
    go_wp2_with fail
    refine (check_any _ _).mono ?_; rintro e w4 ⟨he, hb4⟩; obtain rfl := he.trans (ret_int aw_check3)
    go_wp2_with fail
    refine (awake_any _).mono ?_; rintro e w5 ⟨rfl, hb5⟩
    go_wp2_with fail
    go_ret
    refine ⟨rfl, ?_⟩
    have s0 : w.heap.size ≤ ((w.alloc (.cells #[.int .i64 a, .int .i64 b] 34)).alloc (.cells #[.int .i64 a, .int .i64 d] 34)).heap.size := by simp; omega
    have s1 := hb1.size; have s2 := hb2.size; have s3 := hb3.size; have s4 := hb4.size
    have hb0 : Below w.heap.size w ((w.alloc (.cells #[.int .i64 a, .int .i64 b] 34)).alloc (.cells #[.int .i64 a, .int .i64 d] 34)) := by go_grown
    exact hb0.trans ((hb1.mono s0).trans ((hb2.mono (by omega)).trans ((hb3.mono (by omega)).trans ((hb4.mono (by omega)).trans (hb5.mono (by omega))))))
  · have hL : Op.bytesLess (seg a b) (seg c d) = false := by rw [hlt]; simp; try omega
    have hE : (seg a b == seg c d) = false := by rw [Bool.eq_iff_iff, beq_iff_eq, heq]; simp; try omega
    have eac : (a == c) = false := by rw [beq_eq_false_iff_ne]; omega
    have dac : decide (a < c) = false := by rw [decide_eq_false_iff_not]; omega
    clear hlt heq
    go_enter Try.func5, Try.ntmps5
    go_wp2_with fail
    refine (segment_any _ _ _).mono ?_; rintro e w1 ⟨rfl, hb1⟩; rw [H0.out]
    have HX1 := HX0.below hb1
    obtain ⟨q1, q2, q3, q4, q5⟩ := id HX1
    go_wp2_with fail
    refine (segment_any _ _ _).mono ?_; rintro e w2 ⟨rfl, hb2⟩; rw [H1.out]
    clear q1 q2 q3 q4 q5
    have HX2 := HX1.below hb2
    obtain ⟨q1, q2, q3, q4, q5⟩ := id HX2
    go_wp2_with fail
    refine (check_any _ _).mono ?_; rintro e w3 ⟨he, hb3⟩; obtain rfl := he.trans (ret_int hk.out)
    go_wp2_with fail
    refine (manifest_any _).mono ?_; rintro e w' ⟨rfl, rfl⟩
    go_wp2_with fail
    refine (temp_any _).mono ?_; rintro e w' ⟨rfl, rfl⟩
    go_wp2_with fail
    refine (temp_any _).mono ?_; rintro e w' ⟨rfl, rfl⟩
    go_wp2_with fail
    refine (check_any _ _).mono ?_; rintro e w4 ⟨he, hb4⟩; obtain rfl := he.trans (ret_int aw_check3)
    go_wp2_with fail
    refine (awake_any _).mono ?_; rintro e w5 ⟨rfl, hb5⟩
    go_wp2_with fail
    go_ret
    refine ⟨rfl, ?_⟩
    have s0 : w.heap.size ≤ ((w.alloc (.cells #[.int .i64 a, .int .i64 b] 34)).alloc (.cells #[.int .i64 c, .int .i64 d] 34)).heap.size := by simp; omega
    have s1 := hb1.size; have s2 := hb2.size; have s3 := hb3.size; have s4 := hb4.size
    have hb0 : Below w.heap.size w ((w.alloc (.cells #[.int .i64 a, .int .i64 b] 34)).alloc (.cells #[.int .i64 c, .int .i64 d] 34)) := by go_grown
    exact hb0.trans ((hb1.mono s0).trans ((hb2.mono (by omega)).trans ((hb3.mono (by omega)).trans ((hb4.mono (by omega)).trans (hb5.mono (by omega))))))

set_option maxRecDepth 100000 in
set_option maxHeartbeats 1600000 in
theorem one_law (a b c d : Int) (w : World) :
    Calls Try.prog 5 #[.agg #[.int .i64 a, .int .i64 b], .agg #[.int .i64 c, .int .i64 d]] w fun e w' => e = .returned (.bool true) ∧ Below w.heap.size w w' := by
  by_cases hm : may a = true ∧ may b = true
  · by_cases hn : may c = true ∧ may d = true
    · exact one_both a b c d hm.1 hm.2 hn.1 hn.2 w
    · have H0 : Hid _ := Lib.hid (show segV a b = .tuple #[.string ⟨(seg a b).toArray⟩, .int .i64 0] from if_pos hm)
      have H1 : Hid _ := Lib.hid (show segV c d = .tuple #[.string ⟨#[]⟩, .int .i64 2] from if_neg hn)
      clear hm hn
      have HX0 := boxes_new w a b c d 34
      go_enter Try.func5, Try.ntmps5
      go_wp2_with fail
      refine (segment_any _ _ _).mono ?_; rintro e w1 ⟨rfl, hb1⟩; rw [H0.out]
      have HX1 := HX0.below hb1
      obtain ⟨q1, q2, q3, q4, q5⟩ := id HX1
      go_wp2_with fail
      refine (segment_any _ _ _).mono ?_; rintro e w2 ⟨rfl, hb2⟩; rw [H1.out]
      clear q1 q2 q3 q4 q5
      go_wp2_with fail
      refine (awake_any _).mono ?_; rintro e w5 ⟨rfl, hb5⟩
      go_wp2_with fail
      go_ret
      refine ⟨rfl, ?_⟩
      have s0 : w.heap.size ≤ ((w.alloc (.cells #[.int .i64 a, .int .i64 b] 34)).alloc (.cells #[.int .i64 c, .int .i64 d] 34)).heap.size := by simp; omega
      have s1 := hb1.size; have s2 := hb2.size
      have hb0 : Below w.heap.size w ((w.alloc (.cells #[.int .i64 a, .int .i64 b] 34)).alloc (.cells #[.int .i64 c, .int .i64 d] 34)) := by go_grown
      exact hb0.trans ((hb1.mono s0).trans ((hb2.mono (by omega)).trans (hb5.mono (by omega))))
  · have H0 : Hid _ := Lib.hid (show segV a b = .tuple #[.string ⟨#[]⟩, .int .i64 2] from if_neg hm)
    obtain ⟨x, y, hxy⟩ := segV_shape c d
    have H1 := Lib.hid hxy
    clear hm hxy
    have HX0 := boxes_new w a b c d 34
    go_enter Try.func5, Try.ntmps5
    go_wp2_with fail
    refine (segment_any _ _ _).mono ?_; rintro e w1 ⟨rfl, hb1⟩; rw [H0.out]
    have HX1 := HX0.below hb1
    obtain ⟨q1, q2, q3, q4, q5⟩ := id HX1
    go_wp2_with fail
    refine (segment_any _ _ _).mono ?_; rintro e w2 ⟨rfl, hb2⟩; rw [H1.out]
    clear q1 q2 q3 q4 q5
    go_wp2_with fail
    refine (awake_any _).mono ?_; rintro e w5 ⟨rfl, hb5⟩
    go_wp2_with fail
    go_ret
    refine ⟨rfl, ?_⟩
    have s0 : w.heap.size ≤ ((w.alloc (.cells #[.int .i64 a, .int .i64 b] 34)).alloc (.cells #[.int .i64 c, .int .i64 d] 34)).heap.size := by simp; omega
    have s1 := hb1.size; have s2 := hb2.size
    have hb0 : Below w.heap.size w ((w.alloc (.cells #[.int .i64 a, .int .i64 b] 34)).alloc (.cells #[.int .i64 c, .int .i64 d] 34)) := by go_grown
    exact hb0.trans ((hb1.mono s0).trans ((hb2.mono (by omega)).trans (hb5.mono (by omega))))

end Nm
end Go.Proofs.Ytjapdfehkoijjaa
