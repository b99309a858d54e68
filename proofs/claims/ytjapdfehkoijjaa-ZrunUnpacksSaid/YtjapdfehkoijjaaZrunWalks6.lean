/- The reference's functions on runs of noughts: digits, value, Count. -/
import Derived.Test.YtjapdfehkoijjaaZrunWalks5
namespace Go.Proofs.Ytjapdfehkoijjaa
namespace Zr
open Go.RowKit

set_option maxHeartbeats 800000 in
theorem digitsR_any (n : Int) (h0 : n ≤ 9223372036854775807) (w : World) :
    Calls Try.prog 26 #[.int .i64 n] w fun e w' => ∃ v, e = .returned v ∧ Own w' w.heap.size v (digits n) ∧ Below w.heap.size w w' := by
  by_cases h1 : n < 1
  · have hd : digits n = [] := if_pos h1
    rw [hd]
    clear hd
    go_enter Try.func26, Try.ntmps26
    go_wp2_with fail
    go_rounds 1
    go_wp2_with fail
    go_ret
    exact ⟨_, rfl, World.ownsRow_nil _ _ _ _, Below.refl _ _⟩
  · obtain ⟨N, rfl⟩ := Int.eq_ofNat_of_zero_le (show 0 ≤ n by omega)
    rw [digits_nat]
    have hlen := length_digTo (N + 1) (by omega) (by omega)
    rw [← digR_eq] at hlen ⊢
    clear h1
    go_enter Try.func26, Try.ntmps26
    go_wp2_with fail
    go_loopw [0, 3] (fun m v wr => ∃ (mk : Nat) (acc : List Int), m = .int .i64 mk ∧ mk ≤ N ∧ Hid (acc ++ digR mk = digR N) ∧ acc.length ≤ 63 ∧ Own wr w.heap.size v acc ∧ Below w.heap.size w wr) (fun m _ _ => (intOf m).toNat)
    case atStart => exact ⟨N, [], rfl, by omega, rfl, by simp, World.ownsRow_nil _ _ _ _, Below.refl _ _⟩
    case round =>
      obtain ⟨mk, acc, rfl, hm1, heq, hacc, hown, hbw⟩ := hrel
      by_cases hlt : 0 < mk
      · have hst := digR_step hlt
        have hac : (acc ++ [(2 - (mk % 2 : Nat) : Int)]) ++ digR ((mk - (2 - mk % 2)) / 2) = digR N := by
          have := heq.out; rw [hst] at this; simpa using this
        have hll := congrArg List.length hac
        simp only [List.length_append, List.length_cons, List.length_nil] at hll
        have Hac := Lib.hid hac
        clear hst hac
        go_wp2_with (at_builtin; (refine append1 hown (by omega) hbw.size ?_); intro A1 n1 c1 w1 _ hown1 hb1 _ _)
        refine ⟨⟨(mk - (2 - mk % 2)) / 2, _, ?_, by omega, Hac.out, by simp; omega, ?_, hbw.trans hb1⟩, by simp [intOf]; omega⟩
        · refine congrArg (Value.int .i64) ?_
          omega
        · have hy : (2 - (mk : Int) % 2) = (2 - (mk % 2 : Nat) : Int) := by omega
          rwa [hy] at hown1
      · have hm0 : mk = 0 := by omega
        subst hm0
        have he : acc = digR N := by have := heq.out; rwa [digR_zero, List.append_nil] at this
        have He := Lib.hid he
        clear he
        go_wp2_with fail
        go_ret
        exact ⟨_, rfl, He.out ▸ hown, hbw⟩

theorem num_snoc (l : List Int) (x : Int) : num (l ++ [x]) = num l + 2 ^ l.length * x.toNat := by
  rw [num_append]; simp [num]
theorem num_le (l r : List Int) : num l ≤ num (l ++ r) := by rw [num_append]; omega

set_option maxRecDepth 100000 in
set_option maxHeartbeats 800000 in
theorem valueR_any (A : Option Addr) (n c : Nat) (l : List Int) (w : World) (B : Nat) (hm : n ≤ maxLen) (hd : l.all is12 = true) (hrd : Rd w B 1 A n (l.map (Value.int .i64))) :
    Calls Try.prog 41 #[.slice A n c] w fun e w' => e = .returned (.int .i64 (min (num l) 100001 : Nat)) ∧ w = w' := by
  have hln : l.length = n := by simpa using hrd.len
  have Hln := Lib.hid hln
  have Hd := Lib.hid hd
  clear hln hd
  unfold maxLen at hm
  go_enter Try.func41, Try.ntmps41
  go_wp2_with fail
  go_loop [3, 4, 5] (fun v p i => ∃ k q t : Nat, i = .int .i64 k ∧ k ≤ n ∧ p = .int .i64 q ∧ Hid (q = 2 ^ k) ∧ 1 ≤ q ∧ q ≤ 131072 ∧ v = .int .i64 t ∧ Hid (t = num (l.take k)) ∧ t ≤ 100001) (fun _ _ i => n - (intOf i).toNat)
  case atStart => exact ⟨0, 1, 0, rfl, by omega, rfl, rfl, by omega, by omega, rfl, rfl, by omega⟩
  case round =>
    obtain ⟨k, q, t, rfl, hk, rfl, hq, hq1, hq2, rfl, ht, ht1⟩ := hrel
    by_cases hlt : k < n
    · obtain ⟨ad, x, rfl, had, hx, hcell⟩ := hrd.int1 hlt
      have hx12 : x = 1 ∨ x = 2 := by
        have := List.all_eq_true.1 Hd.out x (List.mem_of_getElem? hx)
        simpa [is12] using this
      have hs : num (l.take (k + 1)) = t + q * x.toNat := by
        rw [take_snoc_int l k x hx, num_snoc, ← ht.out, hq.out]
        congr 2
        rw [List.length_take]; congr 1; have := Hln.out; omega
      have hge : num (l.take (k + 1)) ≤ num l := by
        have := num_le (l.take (k + 1)) (l.drop (k + 1))
        rwa [List.take_append_drop] at this
      rw [hs] at hge
      have Hs := Lib.hid hs; have Hx := Lib.hid hx; have Hge := Lib.hid hge
      clear hs hx hge
      rcases hx12 with rfl | rfl
      · by_cases hbig : (100001 : Int) - (t : Int) < (q : Int)
        · go_wp2_with fail
          go_ret
          refine ⟨ret_int ?_, rfl⟩
          have := Hge.out
          simp at this
          omega
        · have h16 : k + 1 ≤ 16 := by
            have := few (l.take (k + 1)) (List.all_eq_true.2 fun y hy => List.all_eq_true.1 Hd.out y (List.mem_of_mem_take hy)) (by rw [Hs.out]; simp; omega)
            rw [List.length_take] at this
            have := Hln.out
            omega
          have hp : decide ((q : Int) < 1000000) = true := by rw [decide_eq_true_eq]; omega
          go_wp2_with fail
          have h17 : 2 ^ (k + 1) ≤ 2 ^ 16 := Nat.pow_le_pow_right (by omega) h16
          have hq' := hq.out
          rw [Nat.pow_succ] at h17
          refine ⟨⟨k + 1, 2 * q, t + q, rfl, by omega, by go_num, ?_, by omega, by omega, by go_num, ?_, by omega⟩, by simp [intOf]; omega⟩
          · show 2 * q = 2 ^ (k + 1)
            rw [Nat.pow_succ, hq']; omega
          · show t + q = num (l.take (k + 1))
            rw [Hs.out]; simp; try omega
      · by_cases hbig : (100001 : Int) - (t : Int) < 2 * (q : Int)
        · go_wp2_with fail
          go_ret
          refine ⟨ret_int ?_, rfl⟩
          have := Hge.out
          simp at this
          omega
        · have h16 : k + 1 ≤ 16 := by
            have := few (l.take (k + 1)) (List.all_eq_true.2 fun y hy => List.all_eq_true.1 Hd.out y (List.mem_of_mem_take hy)) (by rw [Hs.out]; simp; omega)
            rw [List.length_take] at this
            have := Hln.out
            omega
          have hp : decide ((q : Int) < 1000000) = true := by rw [decide_eq_true_eq]; omega
          go_wp2_with fail
          have h17 : 2 ^ (k + 1) ≤ 2 ^ 16 := Nat.pow_le_pow_right (by omega) h16
          have hq' := hq.out
          rw [Nat.pow_succ] at h17
          refine ⟨⟨k + 1, 2 * q, t + 2 * q, rfl, by omega, by go_num, ?_, by omega, by omega, by go_num, ?_, by omega⟩, by simp [intOf]; omega⟩
          · show 2 * q = 2 ^ (k + 1)
            rw [Nat.pow_succ, hq']; omega
          · show t + 2 * q = num (l.take (k + 1))
            rw [Hs.out]; simp; try omega
    · go_wp2_with fail
      go_ret
      refine ⟨ret_int ?_, rfl⟩
      have := ht.out
      rw [List.take_of_length_le (by have := Hln.out; omega)] at this
      omega
end Zr
end Go.Proofs.Ytjapdfehkoijjaa
