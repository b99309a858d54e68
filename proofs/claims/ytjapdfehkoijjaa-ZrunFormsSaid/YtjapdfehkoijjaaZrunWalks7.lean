/- The reference's Count, and SameInts. -/
import Derived.Test.YtjapdfehkoijjaaZrunWalks6
namespace Go.Proofs.Ytjapdfehkoijjaa
namespace Zr
open Go.RowKit

/-- What the reference's Count keeps. -/
def invC (l : List Int) (k t : Nat) (acc : List Int) : Prop := if k ≤ l.length then t + cnt acc (l.drop k) = cnt [] l else t = cnt [] l

theorem invC_dig {l : List Int} {k t : Nat} {acc : List Int} {x : Int} (h : invC l k t acc) (hx : l[k]? = some x) (hd : isDig x = true) : invC l (k + 1) t (acc ++ [x]) := by
  have hk : k < l.length := (List.getElem?_eq_some_iff.1 hx).1
  unfold invC at h ⊢
  rw [if_pos (by omega)] at h ⊢
  rw [drop_at l k x hx, cnt, if_pos hd] at h
  exact h
theorem invC_sym {l : List Int} {k t : Nat} {acc : List Int} {x : Int} (h : invC l k t acc) (hx : l[k]? = some x) (hd : isDig x = false) : invC l (k + 1) (t + val acc + (if okSym x = true then 1 else 0)) [] := by
  have hk : k < l.length := (List.getElem?_eq_some_iff.1 hx).1
  unfold invC at h ⊢
  rw [if_pos (by omega)] at h ⊢
  rw [drop_at l k x hx, cnt, if_neg (by rw [hd]; simp)] at h
  omega
theorem invC_end {l : List Int} {t : Nat} {acc : List Int} (h : invC l l.length t acc) : invC l (l.length + 1) (t + val acc) [] := by
  unfold invC at h ⊢
  rw [if_pos (by omega)] at h
  rw [if_neg (by omega)]
  rw [List.drop_length, cnt] at h
  exact h

theorem map_one_12 (acc : List Int) (h : acc.all isDig = true) : (acc.map (· + 1)).all is12 = true := by
  rw [List.all_map, List.all_eq_true]
  intro x hx
  have := List.all_eq_true.1 h x hx
  simp [isDig] at this
  simp [is12]; omega

set_option maxRecDepth 100000 in
set_option maxHeartbeats 1600000 in
theorem countR_any (A : Option Addr) (n c : Nat) (l : List Int) (w : World) (hn : n ≤ 5000000) (hrd : Rd w w.heap.size 1 A n (l.map (Value.int .i64))) :
    Calls Try.prog 30 #[.slice A n c] w fun e w' => e = .returned (.int .i64 (count l)) ∧ Below w.heap.size w w' := by
  have hln : l.length = n := by simpa using hrd.len
  have Hln := Lib.hid hln
  clear hln
  unfold count
  go_enter Try.func30, Try.ntmps30
  go_wp2_with fail
  go_loopw [3, 4, 5] (fun v u i wr => ∃ (k t : Nat) (acc : List Int), i = .int .i64 k ∧ k ≤ n + 1 ∧ v = .int .i64 (min t 100001 : Nat) ∧ Own wr w.heap.size u (acc.map (· + 1)) ∧ Hid (acc.all isDig = true) ∧ acc.length ≤ k ∧ Below w.heap.size w wr ∧ Hid (invC l k t acc)) (fun _ _ i _ => n + 1 - (intOf i).toNat)
  case atStart => exact ⟨0, 0, [], rfl, by omega, rfl, World.ownsRow_nil _ _ _ _, rfl, by simp, Below.refl _ _, (show invC l 0 0 [] from by unfold invC; rw [if_pos (Nat.zero_le _)]; simp)⟩
  case round =>
    obtain ⟨k, t, acc, rfl, hk, rfl, gown, gdig, gal, gb, ginv⟩ := hrel
    have ht : min t 100001 ≤ 100001 := by omega
    have hv : min (val acc) 100001 ≤ 100001 := by omega
    have hlen : (acc.map (· + 1)).length = acc.length := List.length_map ..
    have Hlen := Lib.hid hlen
    clear hlen
    have grd := hrd.below gb
    by_cases hlt : k < n
    · obtain ⟨ad, x, rfl, had, hx, hcell⟩ := grd.int1 hlt
      have Hx := Lib.hid hx
      clear hx
      by_cases h0 : x = 0
      · subst h0
        go_wp2_with (at_builtin; (refine append1 gown (by rw [Hlen.out]; omega) gb.size ?_); intro A1 n1 c1 w1 _ hown1 hb1 _ _)
        go_roundw
        case rel => exact ⟨k + 1, t, acc ++ [0], by go_num, by omega, rfl, by simpa using hown1, Lib.hid (show (acc ++ [0]).all isDig = true by rw [List.all_append, gdig.out]; rfl), by simp; omega, gb.trans hb1, invC_dig ginv.out Hx.out rfl⟩
        case measure => simp [intOf]; omega
      by_cases h1 : x = 1
      · subst h1
        go_wp2_with (at_builtin; (refine append1 gown (by rw [Hlen.out]; omega) gb.size ?_); intro A1 n1 c1 w1 _ hown1 hb1 _ _)
        go_roundw
        case rel => exact ⟨k + 1, t, acc ++ [1], by go_num, by omega, rfl, by simpa using hown1, Lib.hid (show (acc ++ [1]).all isDig = true by rw [List.all_append, gdig.out]; rfl), by simp; omega, gb.trans hb1, invC_dig ginv.out Hx.out rfl⟩
        case measure => simp [intOf]; omega
      have b0 : (x == 0) = false := by rw [beq_eq_false_iff_ne]; exact h0
      have b1 : (x == 1) = false := by rw [beq_eq_false_iff_ne]; exact h1
      have hnd : isDig x = false := by unfold isDig; rw [b0, b1]; rfl
      have Hinv := Lib.hid (invC_sym ginv.out Hx.out hnd)
      obtain ⟨A2, c2, hu, hc2, hm2, r2⟩ := gown.rd
      subst hu
      rw [Hlen.out] at r2 hc2 ⊢
      clear h0 h1 hnd
      have hfin : ∀ (T : Nat) (y : Int), y = ((min T 100001 : Nat) : Int) → T = t + val acc + (if okSym x = true then 1 else 0) → (∃ k_1 t_1 acc_1, Value.int .i64 ((k : Int) + 1) = .int .i64 ((k_1 : Nat) : Int) ∧ k_1 ≤ n + 1 ∧ Value.int .i64 y = .int .i64 (min t_1 100001 : Nat) ∧ Own wr w.heap.size (.slice none 0 0) (acc_1.map (· + 1)) ∧ Hid (acc_1.all isDig = true) ∧ acc_1.length ≤ k_1 ∧ Below w.heap.size w wr ∧ Hid (invC l k_1 t_1 acc_1)) := by
        intro T y hy hT
        subst hy; subst hT
        exact ⟨k + 1, _, [], by go_num, by omega, rfl, World.ownsRow_nil _ _ _ _, rfl, by simp, gb, Hinv.out⟩
      have Hfin := Lib.hid hfin
      clear hfin
      by_cases h2 : 2 ≤ x
      · by_cases h3 : x ≤ 256
        · have ho : okSym x = true := by simp [okSym]; omega
          have Ho := Lib.hid ho
          clear ho
          go_wp2_with fail
          refine (valueR_any A2 _ c2 (acc.map (· + 1)) _ wr.heap.size (by unfold maxLen; omega) (map_one_12 acc gdig.out) r2).mono ?_
          rintro e w3 ⟨rfl, rfl⟩
          rw [num_val acc gdig.out]
          rcases hbd : decide ((100001 : Int) < ((min t 100001 : Nat) : Int) + ((min (val acc) 100001 : Nat) : Int) + 1) with _ | _
          all_goals
            go_wp2_with fail
            go_roundw
            case rel =>
              refine Hfin.out (t + val acc + 1) _ ?_ (by rw [Ho.out]; rfl)
              simp only [decide_eq_false_iff_not, decide_eq_true_eq] at hbd
              omega
            case measure => simp [intOf]; omega
        · have ho : okSym x = false := by simp [okSym]; omega
          have Ho := Lib.hid ho
          clear ho
          go_wp2_with fail
          refine (valueR_any A2 _ c2 (acc.map (· + 1)) _ wr.heap.size (by unfold maxLen; omega) (map_one_12 acc gdig.out) r2).mono ?_
          rintro e w3 ⟨rfl, rfl⟩
          rw [num_val acc gdig.out]
          go_wp2_with fail
          all_goals
            go_roundw
            case rel =>
              refine Hfin.out (t + val acc) _ ?_ (by rw [Ho.out]; rfl)
              omega
            case measure => simp [intOf]; omega
      · have ho : okSym x = false := by
          have h0 : x ≠ 0 := by simpa using b0
          have h1 : x ≠ 1 := by simpa using b1
          simp [okSym]; omega
        have Ho := Lib.hid ho
        clear ho
        go_wp2_with fail
        refine (valueR_any A2 _ c2 (acc.map (· + 1)) _ wr.heap.size (by unfold maxLen; omega) (map_one_12 acc gdig.out) r2).mono ?_
        rintro e w3 ⟨rfl, rfl⟩
        rw [num_val acc gdig.out]
        go_wp2_with fail
        all_goals
          go_roundw
          case rel =>
            refine Hfin.out (t + val acc) _ ?_ (by rw [Ho.out]; rfl)
            omega
          case measure => simp [intOf]; omega
    · by_cases hke : k = n
      · subst hke
        have hin := ginv.out
        rw [← Hln.out] at hin
        have Hinv := Lib.hid (invC_end hin)
        obtain ⟨A2, c2, hu, hc2, hm2, r2⟩ := gown.rd
        subst hu
        rw [Hlen.out] at r2 hc2 ⊢
        clear hin
        go_wp2_with fail
        refine (valueR_any A2 _ c2 (acc.map (· + 1)) _ wr.heap.size (by unfold maxLen; omega) (map_one_12 acc gdig.out) r2).mono ?_
        rintro e w3 ⟨rfl, rfl⟩
        rw [num_val acc gdig.out]
        go_wp2_with fail
        all_goals
          go_roundw
          case rel =>
            refine ⟨k + 1, t + val acc, [], by go_num, by omega, congrArg (Value.int .i64) ?_, World.ownsRow_nil _ _ _ _, rfl, by simp, gb, by have := Hinv.out; rwa [Hln.out] at this⟩
            omega
          case measure => simp [intOf]
      · have hinv := ginv.out
        unfold invC at hinv
        rw [if_neg (by have := Hln.out; omega)] at hinv
        have Hi := Lib.hid hinv
        clear hinv
        go_wp2_with fail
        go_ret
        exact ⟨ret_int (by rw [Hi.out]), gb⟩
end Zr
end Go.Proofs.Ytjapdfehkoijjaa
