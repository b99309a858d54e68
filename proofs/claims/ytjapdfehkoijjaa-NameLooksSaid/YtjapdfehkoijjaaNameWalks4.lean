/- Names of files, more: kinds, and the reference's functions: each tells what the plain functions tell. -/
import Derived.Test.YtjapdfehkoijjaaNameWalks3
namespace Go.Proofs.Ytjapdfehkoijjaa
namespace Nm
open Go.RowKit

theorem unsix_ge (s : ByteArray) (k : Nat) (hk : k < s.size) (h : isD s[k] = false) : unsix s.data.toList = -1 := by
  unfold unsix
  rw [if_neg (by rw [all_of_not s isD k hk h]; simp)]

set_option maxHeartbeats 800000 in
theorem unsix_any (s : ByteArray) (h6 : s.size ≤ 6) (w : World) :
    Calls Try.prog 32 #[.string s] w fun e w' => e = .returned (.int .i64 (unsix s.data.toList)) ∧ w = w' := by
  go_enter Try.func32, Try.ntmps32
  go_wp2_with fail
  go_loop [3, 4] (fun n i => ∃ k : Nat, k ≤ s.size ∧ i = .int .i64 k ∧ (s.data.toList.take k).all isD = true ∧ n = .int .i64 (valTo 0 (s.data.toList.take k))) (fun _ i => s.size - (intOf i).toNat)
  case atStart => exact ⟨0, by omega, rfl, by simp, rfl⟩
  case round =>
    obtain ⟨k, hp, rfl, hall, rfl⟩ := hrel
    have hbd := valTo_bd _ (by rw [List.length_take]; omega) hall
    have Hall := Lib.hid hall
    clear hall
    by_cases hlt : k < s.size
    · have Hsn := Lib.hid (valTo_snoc (s.data.toList.take k) s[k] 0)
      have Hts := Lib.hid (take_snoc s k hlt)
      generalize hv : valTo 0 (s.data.toList.take k) = v at hbd Hsn
      clear hv
      by_cases h48 : (s[k]'hlt).toNat < 48
      · go_wp2_with fail
        go_ret
        exact ⟨ret_int (unsix_ge s k hlt (by rw [← Bool.not_eq_true, isD_iff]; omega)).symm, rfl⟩
      by_cases h57 : 57 < (s[k]'hlt).toNat
      · go_wp2_with fail
        go_ret
        exact ⟨ret_int (unsix_ge s k hlt (by rw [← Bool.not_eq_true, isD_iff]; omega)).symm, rfl⟩
      go_wp2_with fail
      go_round
      case rel =>
        refine ⟨k + 1, by omega, by go_num, ?_, ?_⟩
        · rw [all_take_succ s isD k hlt, Hall.out, (isD_iff _).2 ⟨by omega, by omega⟩]; rfl
        · rw [Hts.out, Hsn.out]
      case measure => simp [intOf]; omega
    · go_wp2_with fail
      go_ret
      refine ⟨ret_int ?_, rfl⟩
      have hall := Hall.out
      rw [List.take_of_length_le (by simp; omega)] at hall ⊢
      unfold unsix
      rw [if_pos hall]

set_option maxHeartbeats 800000 in
theorem six_any (n : Int) (h1 : 1 ≤ n) (h2 : n ≤ 999999) (w : World) :
    Calls Try.prog 35 #[.int .i64 n] w fun e w' => e = .returned (.string ⟨(num6 n).toArray⟩) ∧ Below w.heap.size w w' := by
  have hcv : ∀ (W : World) (g : Nat) (a : Int), W.heap.size = g → (convert 54 9 (.slice (some ⟨g, 0, none⟩) 1 1)).run Try.prog (W.alloc (.cells #[.int .u8 a] 5)) =
      .ok (.string (strOfNums [a])) (W.alloc (.cells #[.int .u8 a] 5)) := by
    rintro W g a rfl
    refine run_convert_bytes_arg _ 54 5 Try.underlying54 Try.underlying5 W.heap.size 0 1 1 [a] rfl (fun i hi => ?_) 9 Try.underlying9
    obtain rfl : i = 0 := by omega
    simp [go_sem]
  have hss : ∀ l, (strOfNums l).size = l.length := strOfNums_size
  go_enter Try.func35, Try.ntmps35
  go_wp2
  go_rounds 7
  go_ret
  refine ⟨ret_str rfl, ?_⟩
  go_grown

def segRV (i g : Int) : Value := if may i = true ∧ may g = true then .tuple #[.string ⟨(seg i g).toArray⟩, .int .i64 0] else .tuple #[.string ⟨#[]⟩, .int .i64 2]

set_option maxHeartbeats 800000 in
theorem segmentR_any (i g : Int) (w : World) : Calls Try.prog 14 #[.int .i64 i, .int .i64 g] w fun e w' => e = .returned (segV i g) ∧ Below w.heap.size w w' := by
  by_cases hm : may i = true ∧ may g = true
  · have e0 : segV i g = .tuple #[.string ⟨(seg i g).toArray⟩, .int .i64 0] := if_pos hm
    rw [e0, ← seg_bytes]
    have hi' := (may_iff i).1 hm.1
    have hg' := (may_iff g).1 hm.2
    clear hm e0
    have hs := fun n => size_num6 n
    go_enter Try.func14, Try.ntmps14
    go_wp2_with fail
    refine (six_any i (by omega) (by omega) _).mono ?_; rintro e w1 ⟨rfl, hb1⟩
    go_wp2_with fail
    refine (six_any g (by omega) (by omega) _).mono ?_; rintro e w2 ⟨rfl, hb2⟩
    go_wp2_with fail
    go_ret2
    exact ⟨rfl, hb1.trans (hb2.mono hb1.size)⟩
  · have e0 : segV i g = .tuple #[.string ⟨#[]⟩, .int .i64 2] := if_neg hm
    rw [e0]
    rw [may_iff, may_iff] at hm
    clear e0
    have h4 : i < 1 ∨ 999999 < i ∨ g < 1 ∨ 999999 < g := by omega
    clear hm
    by_cases c1 : i < 1
    · go_enter Try.func14, Try.ntmps14
      go_wp2_with fail
      go_ret2
      exact ⟨rfl, Below.refl _ _⟩
    by_cases c2 : 999999 < i
    · go_enter Try.func14, Try.ntmps14
      go_wp2_with fail
      go_ret2
      exact ⟨rfl, Below.refl _ _⟩
    by_cases c3 : g < 1
    · go_enter Try.func14, Try.ntmps14
      go_wp2_with fail
      go_ret2
      exact ⟨rfl, Below.refl _ _⟩
    have c4 : 999999 < g := by omega
    clear h4
    go_enter Try.func14, Try.ntmps14
    go_wp2_with fail
    go_ret2
    exact ⟨rfl, Below.refl _ _⟩

theorem parseR_is (l : List UInt8) (hl : l.length = 21) (h4 : l.take 4 = [115, 101, 103, 45]) (h10 : l[10]? = some 45) (h17 : l.drop 17 = [46, 108, 111, 103]) :
    parseR l = if unsix ((l.drop 4).take 6) < 1 ∨ unsix ((l.drop 11).take 6) < 1 then none else some (unsix ((l.drop 4).take 6), unsix ((l.drop 11).take 6)) := by
  unfold parseR; rw [if_pos ⟨hl, h4, h10, h17⟩]
theorem parseRV_none {l : List UInt8} (h : parseR l = none) : Value.tuple #[.int .i64 0, .int .i64 0, .bool false] = parseV l := by unfold parseV; rw [parse_eq, h]
theorem parseRV_some {l : List UInt8} {i g : Int} (h : parseR l = some (i, g)) : Value.tuple #[.int .i64 i, .int .i64 g, .bool true] = parseV l := by unfold parseV; rw [parse_eq, h]
theorem parseR_none {l : List UInt8} (h : ¬ (l.length = 21 ∧ l.take 4 = [115, 101, 103, 45] ∧ l[10]? = some 45 ∧ l.drop 17 = [46, 108, 111, 103])) : parseR l = none := by
  unfold parseR; rw [if_neg h]

theorem getElem?_of (s : ByteArray) (k : Nat) (h : k < s.size) : s.data.toList[k]? = some s[k] := by
  rw [List.getElem?_eq_getElem (show k < s.data.toList.length from h)]; rfl

set_option maxHeartbeats 800000 in
theorem parseR_any (s : ByteArray) (w : World) :
    Calls Try.prog 12 #[.string s] w fun e w' => e = .returned (parseV s.data.toList) ∧ Below w.heap.size w w' := by
  by_cases h21 : s.size = 21
  · have h21t : ((s.size : Int) == 21) = true := by rw [beq_iff_eq]; omega
    have e10 := getElem?_of s 10 (by omega)
    by_cases h4 : s.data.toList.take 4 = [115, 101, 103, 45]
    · have b4 : ((s.extract 0 4).toList == [115, 101, 103, 45]) = true := by rw [ByteArray.toList_eq, extract_list, beq_iff_eq]; exact h4
      by_cases h10 : s[10] = 45
      · have b10 : ((s[10].toNat : Nat) : Int) = 45 := by rw [h10]; rfl
        by_cases h17 : s.data.toList.drop 17 = [46, 108, 111, 103]
        · have b17 : ((s.extract 17 21).toList == [46, 108, 111, 103]) = true := by
            rw [ByteArray.toList_eq, extract_list, beq_iff_eq, h17]; rfl
          have hP : parseR s.data.toList = if unsix (s.extract 4 10).data.toList < 1 ∨ unsix (s.extract 11 17).data.toList < 1 then none else some (unsix (s.extract 4 10).data.toList, unsix (s.extract 11 17).data.toList) := by
            rw [extract_list, extract_list]; exact parseR_is s.data.toList h21 h4 (by rw [e10, h10]) h17
          have HP := Lib.hid hP
          clear h4 h10 h17 e10 hP
          go_enter Try.func12, Try.ntmps12
          go_wp2_with fail
          go_quiet ((go_at_call 32; exact Calls.quiet_of_same ((unsix_any _ (by simp; omega) _).mono fun _ _ h => ⟨h.1, h.2.symm⟩)))
          generalize unsix (s.extract 4 10).data.toList = vi at *
          generalize unsix (s.extract 11 17).data.toList = vg at *
          by_cases c1 : vi < 1
          · go_wp2_with fail
            go_ret3
            exact ⟨congrArg Ending.returned (parseRV_none (HP.out.trans (if_pos (Or.inl c1)))), below_drewN (Below.refl _ _) _⟩
          by_cases c2 : vg < 1
          · go_wp2_with fail
            go_ret3
            exact ⟨congrArg Ending.returned (parseRV_none (HP.out.trans (if_pos (Or.inr c2)))), below_drewN (Below.refl _ _) _⟩
          go_wp2_with fail
          go_ret3
          exact ⟨congrArg Ending.returned (parseRV_some (HP.out.trans (if_neg (by omega)))), below_drewN (Below.refl _ _) _⟩
        · have b17 : ((s.extract 17 21).toList == [46, 108, 111, 103]) = false := by
            rw [ByteArray.toList_eq, extract_list, beq_eq_false_iff_ne]
            intro h; apply h17; rw [← h]; rw [List.take_of_length_le]; simp; omega
          have hp := parseRV_none (parseR_none (fun h => h17 h.2.2.2))
          rw [← hp]
          clear h4 h10 h17 e10 hp
          go_enter Try.func12, Try.ntmps12
          go_wp2_with fail
          go_ret3
          exact ⟨rfl, Below.refl _ _⟩
      · have b10 : ¬ ((s[10].toNat : Nat) : Int) = 45 := by
          intro h; apply h10; apply UInt8.toNat_inj.1; show _ = 45; omega
        have hp := parseRV_none (parseR_none (fun h => h10 (by have := h.2.2.1; rw [e10] at this; exact Option.some.inj this)))
        rw [← hp]
        clear h4 h10 e10 hp
        go_enter Try.func12, Try.ntmps12
        go_wp2_with fail
        go_ret3
        exact ⟨rfl, Below.refl _ _⟩
    · have b4 : ((s.extract 0 4).toList == [115, 101, 103, 45]) = false := by rw [ByteArray.toList_eq, extract_list, beq_eq_false_iff_ne]; exact h4
      have hp := parseRV_none (parseR_none (fun h => h4 h.2.1))
      rw [← hp]
      clear h4 e10 hp
      go_enter Try.func12, Try.ntmps12
      go_wp2_with fail
      go_ret3
      exact ⟨rfl, Below.refl _ _⟩
  · have h21n : ((s.size : Int) != 21) = true := by rw [bne_iff_ne]; omega
    have h21f : ((s.size : Int) == 21) = false := by rw [beq_eq_false_iff_ne]; omega
    have hp := parseRV_none (parseR_none (l := s.data.toList) (fun h => h21 h.1))
    rw [← hp]
    clear hp
    go_enter Try.func12, Try.ntmps12
    go_wp2_with fail
    go_ret3
    exact ⟨rfl, Below.refl _ _⟩

end Nm
end Go.Proofs.Ytjapdfehkoijjaa
