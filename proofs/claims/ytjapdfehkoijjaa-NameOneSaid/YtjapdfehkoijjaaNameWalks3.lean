/- Names of files, more: numbers of digits, names taken apart: each function tells what the plain functions tell. -/
import Derived.Test.YtjapdfehkoijjaaNameWalks2
import Derived.Deep.RegionWith
namespace Go.Proofs.Ytjapdfehkoijjaa
namespace Nm
open Go.RowKit

theorem valTo_snoc (l : List UInt8) (c : UInt8) : ∀ n, valTo n (l ++ [c]) = 10 * valTo n l + ((c.toNat : Int) - 48) := by
  induction l with
  | nil => intro n; rfl
  | cons a l ih => intro n; exact ih _

theorem take_snoc (s : ByteArray) (k : Nat) (h : k < s.size) : s.data.toList.take (k + 1) = s.data.toList.take k ++ [s[k]] := by
  rw [List.take_succ_eq_append_getElem (by simpa using h)]; rfl

theorem isD_iff (c : UInt8) : isD c = true ↔ 48 ≤ c.toNat ∧ c.toNat ≤ 57 := by simp [isD]

theorem valTo_bd (l : List UInt8) (h : l.length ≤ 6) (hd : l.all isD = true) : 0 ≤ valTo 0 l ∧ valTo 0 l ≤ 999999 := by
  match l, h with
  | [], _ => exact ⟨by decide, by decide⟩
  | [a], _ => simp only [List.all_cons, List.all_nil, isD, Bool.and_eq_true, decide_eq_true_eq, Bool.and_true] at hd; simp only [valTo]; omega
  | [a, b], _ => simp only [List.all_cons, List.all_nil, isD, Bool.and_eq_true, decide_eq_true_eq, Bool.and_true] at hd; simp only [valTo]; omega
  | [a, b, c], _ => simp only [List.all_cons, List.all_nil, isD, Bool.and_eq_true, decide_eq_true_eq, Bool.and_true] at hd; simp only [valTo]; omega
  | [a, b, c, d], _ => simp only [List.all_cons, List.all_nil, isD, Bool.and_eq_true, decide_eq_true_eq, Bool.and_true] at hd; simp only [valTo]; omega
  | [a, b, c, d, e], _ => simp only [List.all_cons, List.all_nil, isD, Bool.and_eq_true, decide_eq_true_eq, Bool.and_true] at hd; simp only [valTo]; omega
  | [a, b, c, d, e, f], _ => simp only [List.all_cons, List.all_nil, isD, Bool.and_eq_true, decide_eq_true_eq, Bool.and_true] at hd; simp only [valTo]; omega

set_option maxHeartbeats 400000 in
theorem value_any (s : ByteArray) (h6 : s.size ≤ 6) (w : World) :
    Calls Try.prog 31 #[.string s] w fun e w' => e = .returned (.int .i64 (value s.data.toList)) ∧ Below w.heap.size w w' := by
  go_enter Try.func31, Try.ntmps31
  go_wp2_with fail
  go_loopw [3, 5] (fun n _ wr => ∃ pos : Nat, pos ≤ s.size ∧ wr = w.iter s pos ∧ (s.data.toList.take pos).all isD = true ∧ n = .int .i64 (valTo 0 (s.data.toList.take pos))) (fun _ _ wr => s.size - wr.iterPos w.heap.size)
  case atStart => exact ⟨0, by omega, rfl, by simp, rfl⟩
  case round =>
    obtain ⟨pos, hp, rfl, hall, rfl⟩ := hrel
    have hbd := valTo_bd _ (by rw [List.length_take]; omega) hall
    have Hall := Lib.hid hall
    clear hall
    by_cases hlt : pos < s.size
    · have Hsn := Lib.hid (valTo_snoc (s.data.toList.take pos) s[pos] 0)
      have Hts := Lib.hid (take_snoc s pos hlt)
      generalize hv : valTo 0 (s.data.toList.take pos) = v at hbd Hsn
      clear hv
      by_cases ha : (s[pos]'hlt).toNat < 128
      · have hnx : ∀ ty, (Instr.next (.pointer (some ⟨w.heap.size, 0, none⟩)) true ty).run Try.prog (w.iter s pos) = _ := fun ty => run_next_ascii w s pos ty hlt ha
        by_cases h48 : (s[pos]'hlt).toNat < 48
        · go_wp2_with fail
          go_ret
          have hno := all_of_not s isD pos hlt (by rw [← Bool.not_eq_true, isD_iff]; omega)
          refine ⟨ret_int ?_, below_iter (Below.refl _ _) (Nat.le_refl _) _ _⟩
          unfold value
          rw [if_neg (by rw [hno]; simp)]
        by_cases h57 : 57 < (s[pos]'hlt).toNat
        · go_wp2_with fail
          go_ret
          have hno := all_of_not s isD pos hlt (by rw [← Bool.not_eq_true, isD_iff]; omega)
          refine ⟨ret_int ?_, below_iter (Below.refl _ _) (Nat.le_refl _) _ _⟩
          unfold value
          rw [if_neg (by rw [hno]; simp)]
        go_wp2_with fail
        go_roundw
        case rel =>
          refine ⟨pos + 1, by omega, rfl, ?_, ?_⟩
          · rw [all_take_succ s isD pos hlt, Hall.out, (isD_iff _).2 ⟨by omega, by omega⟩]; rfl
          · rw [Hts.out, Hsn.out]
        case measure => simp; omega
      · have hnx : ∀ ty, (Instr.next (.pointer (some ⟨w.heap.size, 0, none⟩)) true ty).run Try.prog (w.iter s pos) = _ := fun ty => run_next_any w s pos ty hlt
        have hd := (decode_high s pos hlt (by omega)).1
        go_wp2_with fail
        go_ret
        have hno := all_of_not s isD pos hlt (by rw [← Bool.not_eq_true, isD_iff]; omega)
        refine ⟨ret_int ?_, below_iter (Below.refl _ _) (Nat.le_refl _) _ _⟩
        unfold value
        rw [if_neg (by rw [hno]; simp)]
    · have hnx : ∀ ty, (Instr.next (.pointer (some ⟨w.heap.size, 0, none⟩)) true ty).run Try.prog (w.iter s pos) = _ := fun ty => run_next_end w s pos ty hlt
      go_wp2_with fail
      go_ret
      refine ⟨ret_int ?_, below_iter (Below.refl _ _) (Nat.le_refl _) _ _⟩
      have hall := Hall.out
      rw [List.take_of_length_le (by simp; omega)] at hall ⊢
      unfold value
      rw [if_pos hall]

def parseV (l : List UInt8) : Value := match parse l with
  | some (i, g) => .tuple #[.int .i64 i, .int .i64 g, .bool true]
  | none => .tuple #[.int .i64 0, .int .i64 0, .bool false]

theorem extract_list (s : ByteArray) (a b : Nat) : (s.extract a b).data.toList = (s.data.toList.drop a).take (b - a) := by
  simp only [ByteArray.data_extract, Array.toList_extract, List.extract_eq_drop_take']

theorem parse_is (l : List UInt8) (hl : l.length = 21) : parse l = if may (value ((l.drop 4).take 6)) = true ∧ may (value ((l.drop 11).take 6)) = true ∧ seg (value ((l.drop 4).take 6)) (value ((l.drop 11).take 6)) = l
    then some (value ((l.drop 4).take 6), value ((l.drop 11).take 6)) else none := by
  unfold parse; rw [if_pos hl]

theorem parseV_none {l : List UInt8} (h : parse l = none) : Value.tuple #[.int .i64 0, .int .i64 0, .bool false] = parseV l := by unfold parseV; rw [h]
theorem parseV_some {l : List UInt8} {i g : Int} (h : parse l = some (i, g)) : Value.tuple #[.int .i64 i, .int .i64 g, .bool true] = parseV l := by unfold parseV; rw [h]

set_option maxHeartbeats 800000 in
theorem parse_any (s : ByteArray) (w : World) :
    Calls Try.prog 11 #[.string s] w fun e w' => e = .returned (parseV s.data.toList) ∧ Below w.heap.size w w' := by
  by_cases h21 : s.size = 21
  · have HP := Lib.hid (parse_is s.data.toList h21)
    have k0 : IntKind.i64.wrap 10 = 10 := by decide
    have k1 : IntKind.i64.wrap 11 = 11 := by decide
    have k2 : IntKind.i64.wrap 16 = 16 := by decide
    have k3 : IntKind.i64.wrap 17 = 17 := by decide
    go_enter Try.func11, Try.ntmps11
    go_wp2_with fail
    go_region_with (go_at_call 31; refine (value_any _ (by simp; omega) _).mono ?_; rintro e w1 ⟨rfl, hb1⟩)
    rename_i wa hba
    go_wp2_with fail
    refine (segment_any _ _ _).mono ?_
    rintro e w3 ⟨rfl, hb3⟩
    have hbz : Below w.heap.size w w3 := ((Below.refl _ w).drew).trans (hba.trans ((hb1.mono hba.size).trans (hb3.mono (Nat.le_trans hba.size hb1.size))))
    generalize value (List.take 6 (List.drop 4 s.data.toList)) = vi at *
    generalize value (List.take 6 (List.drop 11 s.data.toList)) = vg at *
    by_cases hm : may vi = true ∧ may vg = true
    · have e0 : segV vi vg = .tuple #[.string ⟨(seg vi vg).toArray⟩, .int .i64 0] := if_pos hm
      rw [e0]
      have Hm := Lib.hid hm
      clear e0 hm
      by_cases hs : seg vi vg = s.data.toList
      · have hse : (seg vi vg == s.toList) = true := by rw [ByteArray.toList_eq, hs]; simp
        have Hs := Lib.hid hs
        clear hs
        go_wp2_with fail
        go_ret3
        exact ⟨congrArg Ending.returned (parseV_some (HP.out.trans (if_pos ⟨Hm.out.1, Hm.out.2, Hs.out⟩))), hbz⟩
      · have hse : (seg vi vg == s.toList) = false := by rw [ByteArray.toList_eq]; simp [hs]
        have Hs := Lib.hid hs
        clear hs
        go_wp2_with fail
        go_ret3
        exact ⟨congrArg Ending.returned (parseV_none (HP.out.trans (if_neg fun h => Hs.out h.2.2))), hbz⟩
    · have e0 : segV vi vg = .tuple #[.string ⟨#[]⟩, .int .i64 2] := if_neg hm
      rw [e0]
      have Hm := Lib.hid hm
      clear e0 hm
      go_wp2_with fail
      go_ret3
      exact ⟨congrArg Ending.returned (parseV_none (HP.out.trans (if_neg fun h => Hm.out ⟨h.1, h.2.1⟩))), hbz⟩
  · have h21' : ((s.size : Int) == 21) = false := by rw [beq_eq_false_iff_ne]; omega
    have h21n : ((s.size : Int) != 21) = true := by rw [bne_iff_ne]; omega
    have hp : parse s.data.toList = none := by unfold parse; rw [if_neg]; exact h21
    rw [← parseV_none hp]
    clear hp
    go_enter Try.func11, Try.ntmps11
    go_wp2_with fail
    go_ret3
    exact ⟨rfl, Below.refl _ _⟩
end Nm
end Go.Proofs.Ytjapdfehkoijjaa
