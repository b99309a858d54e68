/- The law on runs of noughts: ZrunForms. -/
import Derived.Test.YtjapdfehkoijjaaZrunLaws3
namespace Go.Proofs.Ytjapdfehkoijjaa
namespace Zr
open Go.RowKit

/-- 'make([]int, n)'. -/
theorem make1 {ops : Array Oper} {rest : List Oper} {o : Oper} {a : Act} {Q : Exit → Act → World → Prop} {lo co : Operand} {kl kc : IntKind} {n : Nat} {w : World} {B : Nat} (hn : n ≤ 1099511627776) (hB : B ≤ w.heap.size)
    (h : ∀ w', Own w' B (.slice (some ⟨w.heap.size, 0, none⟩) n n) (List.replicate n 0) → w.grownBy w' none → wpList Try.prog ops Q rest (a.put o.dst (.slice (some ⟨w.heap.size, 0, none⟩) n n)) w')
    (hgd : o.guard = none := by exact rfl) (ho : o.op = Op.makeSlice 37 lo co := by exact rfl) (hl : a.eval lo = .int kl (n : Int) := by exact rfl) (hc : a.eval co = .int kc (n : Int) := by exact rfl) :
    wpList Try.prog ops Q (o :: rest) a w := by
  obtain ⟨i0, hi, hz0, hz1, hz2⟩ := info_parts int_info
  refine wpList_make_full w hgd lo co 37 ho B 3 i0 (.int .i64 0) 1 Try.underlying37 hi hz0 hz1 kl kc n n n hl hc rfl rfl (by rw [hz2]; omega) (by simp only [maxLen]; omega) hB ?_
  intro w' hown hg
  refine h w' ?_ hg
  unfold Own
  rw [List.length_replicate, List.map_replicate]
  rwa [Nat.mul_one, show (Value.int .i64 0).cells = #[.int .i64 0] from rfl, toList_madeCells_one] at hown

theorem num_digits (n : Nat) : num (digits n) = n := by
  have h : digits n = (low n).map (· + 1) := by
    rw [low_is, List.map_map]
    conv => lhs; rw [← List.map_id (digits n)]
    apply List.map_congr_left
    intro x _; simp
  rw [h, num_val _ (low_dig n), val_lown]

theorem pack_noughts (n : Nat) : packE (List.replicate n 0) = 0 ∧ packL (List.replicate n 0) = low n := by
  have h : (List.replicate n (0 : Int)).all okRank = true := by
    rw [List.all_eq_true]; intro x hx; rw [List.eq_of_mem_replicate hx]; rfl
  refine ⟨if_pos h, ?_⟩
  unfold packL
  rw [if_pos h]
  have := pk_zeros n 0 []
  rw [List.append_nil] at this
  rw [this]; simp [pk]

theorem half_step (m : Nat) (h : 1 < m) : (digTo m).length = (digTo (m / 2)).length + 1 := by rw [digTo_step h]; simp

set_option maxRecDepth 100000 in
set_option maxHeartbeats 3200000 in
theorem forms_law (x : Int) (wx : (Lit.int .i64 x).wf = true) (w : World) :
    Calls Try.prog 9 #[.int .i64 x] w fun e w' => e = .returned (.bool true) ∧ Below w.heap.size w w' := by
  have hx := bounds_i64 wx
  clear wx
  by_cases h1 : x < 1
  · have hd : digits x = [] := if_pos h1
    have Hd := Lib.hid hd
    clear hd
    by_cases h0 : x = 0
    · subst h0
      go_enter Try.func9, Try.ntmps9
      go_wp2_with fail
      refine (digits_any 0 (by omega) _).mono ?_
      rintro e w1 ⟨v1, rfl, ho1, hb1⟩
      rw [Hd.out] at ho1
      obtain ⟨A1, c1, rfl, _, _, _⟩ := ho1.rd
      go_wp2_with fail
      refine (awake_any _).mono ?_; rintro e w2 ⟨rfl, hb2⟩
      go_wp2_with fail
      go_ret
      exact ⟨rfl, ext_trans hb1 hb2⟩
    · have hneg : x < 0 := by omega
      go_enter Try.func9, Try.ntmps9
      go_wp2_with fail
      refine (digits_any x (by omega) _).mono ?_
      rintro e w1 ⟨v1, rfl, ho1, hb1⟩
      rw [Hd.out] at ho1
      obtain ⟨A1, c1, rfl, _, _, _⟩ := ho1.rd
      go_wp2_with fail
      refine (awake_any _).mono ?_; rintro e w2 ⟨rfl, hb2⟩
      go_wp2_with fail
      go_ret
      exact ⟨rfl, ext_trans hb1 hb2⟩
  by_cases h2 : 5000 < x
  · have hd : digits 0 = [] := if_pos (by omega)
    have Hd := Lib.hid hd
    clear hd
    go_enter Try.func9, Try.ntmps9
    go_wp2_with fail
    refine (digits_any 0 (by omega) _).mono ?_
    rintro e w1 ⟨v1, rfl, ho1, hb1⟩
    rw [Hd.out] at ho1
    obtain ⟨A1, c1, rfl, _, _, _⟩ := ho1.rd
    go_wp2_with fail
    refine (awake_any _).mono ?_; rintro e w2 ⟨rfl, hb2⟩
    go_wp2_with fail
    go_ret
    exact ⟨rfl, ext_trans hb1 hb2⟩
  obtain ⟨n, rfl⟩ := Int.eq_ofNat_of_zero_le (show 0 ≤ x by omega)
  obtain ⟨pe, pl⟩ := pack_noughts n
  have Pe := Lib.hid pe; have Pl := Lib.hid pl
  clear pe pl
  have hll : (low n).length = (digits n).length := by rw [low_is, List.length_map]
  have hdg := digits_nat n
  have hle : (digits n).length ≤ 12 := by
    have h3 := pow_digTo (n + 1) (by omega)
    rw [← hdg] at h3
    rcases Nat.lt_or_ge 12 (digits n).length with h | h
    · have : (2 : Nat) ^ 13 ≤ 2 ^ (digits n).length := Nat.pow_le_pow_right (by omega) h
      omega
    · exact h
  have Hll := Lib.hid hll; have Hdg := Lib.hid hdg
  clear hll hdg
  go_enter Try.func9, Try.ntmps9
  go_wp2_with (at_make; (refine make1 (n := n) (by omega) (Nat.le_refl w.heap.size) ?_); intro w1 hown1 hg1)
  have hb1 : Below w.heap.size w w1 := (Below.refl _ _).grown hg1 (Nat.le_refl _) (by simp)
  clear hg1
  refine (pack_any _ n n (List.replicate n 0) _ (by omega) (by have := hown1.rd0.1; simpa using this)).mono ?_
  rintro e w2 ⟨v2, rfl, ho2, hb2⟩
  rw [Pe.out]; rw [Pl.out] at ho2
  obtain ⟨A2, c2, rfl, _, _, _⟩ := ho2.rd
  rw [Hll.out]
  go_wp2_with fail
  refine (digits_any n (by omega) _).mono ?_
  rintro e w3 ⟨v3, rfl, ho3, hb3⟩
  obtain ⟨A3, c3, rfl, hc3, hm3, rd3⟩ := ho3.rd
  have e03 := ext_trans hb1 (ext_trans hb2 hb3)
  clear hown1 ho2 ho3 hb1 hb2 hb3
  generalize hK : (digits (n : Int)).length = K at *
  have HK := Lib.hid hK
  clear hK
  go_wp2_with fail
  go_loop [6, 7] (fun s m => ∃ sz mm : Nat, s = .int .i64 sz ∧ m = .int .i64 mm ∧ 1 ≤ mm ∧ mm ≤ n + 1 ∧ sz ≤ K ∧ Hid (sz + (digTo mm).length = K)) (fun _ m => (intOf m).toNat)
  case atStart => exact ⟨0, n + 1, rfl, by go_num, by omega, by omega, by omega, by rw [← HK.out, Hdg.out]; exact Nat.zero_add _⟩
  case round =>
    obtain ⟨sz, mm, rfl, rfl, hm1, hm2, hsz, hinv⟩ := hrel
    by_cases hlt : 1 < mm
    · have hs := half_step mm hlt
      have hi := hinv.out
      rw [hs] at hi
      have Hi := Lib.hid hi
      have hsz2 : sz + 1 ≤ K := by omega
      clear hs hi
      go_wp2_with fail
      go_round
      case rel => exact ⟨sz + 1, mm / 2, by go_num, by go_num, by omega, by omega, by omega, Lib.hid (by have := Hi.out; omega)⟩
      case measure => simp [intOf]; omega
    · have hd0 : digTo mm = [] := digTo_small (by omega)
      have hszK : sz = K := by have := hinv.out; rw [hd0] at this; simpa using this
      subst hszK
      clear hd0 hinv
      go_wp2_with fail
      go_loop [8, 9, 10] (fun s p i => ∃ k q t : Nat, i = .int .i64 k ∧ k ≤ sz ∧ p = .int .i64 q ∧ Hid (q = 2 ^ k) ∧ q ≤ 4096 ∧ s = .int .i64 t ∧ Hid (t = num ((digits n).take k)) ∧ t ≤ 5000) (fun _ _ i => sz - (intOf i).toNat)
      case atStart => exact ⟨0, 1, 0, rfl, by omega, rfl, rfl, by omega, rfl, rfl, by omega⟩
      case round =>
        obtain ⟨k, q, t, rfl, hk, rfl, hq, hq2, rfl, ht, ht1⟩ := hrel
        by_cases hlt2 : k < sz
        · obtain ⟨ad, y, rfl, had, hy, hcell⟩ := rd3.int1 hlt2
          have hy12 := digits_12 n k y hy
          have hs : num ((digits n).take (k + 1)) = t + q * y.toNat := by
            rw [take_snoc_int _ k y hy, num_snoc, ← ht.out, hq.out]
            congr 2
            rw [List.length_take]; congr 1; have := HK.out; omega
          have hge : num ((digits n).take (k + 1)) ≤ num (digits n) := by
            have := num_le ((digits n).take (k + 1)) ((digits n).drop (k + 1))
            rwa [List.take_append_drop] at this
          rw [hs, num_digits] at hge
          have h17 : 2 ^ (k + 1) ≤ 2 ^ 12 := Nat.pow_le_pow_right (by omega) (by omega)
          rw [Nat.pow_succ] at h17
          have h18 : q * 2 ≤ 4096 := by rw [hq.out]; exact h17
          have Hs := Lib.hid hs
          clear hs h17 hy
          have hyy : y = 1 ∨ y = 2 := by omega
          rcases hyy with rfl | rfl
          · simp at hge
            go_wp2_with fail
            go_round
            case rel => exact ⟨k + 1, 2 * q, t + q, by go_num, by omega, by go_num, Lib.hid (by rw [Nat.pow_succ, ← hq.out]; omega), by omega, by go_num, Lib.hid (by rw [Hs.out]; simp), by omega⟩
            case measure => simp [intOf]; omega
          · simp at hge
            go_wp2_with fail
            go_round
            case rel => exact ⟨k + 1, 2 * q, t + 2 * q, by go_num, by omega, by go_num, Lib.hid (by rw [Nat.pow_succ, ← hq.out]; omega), by omega, by go_num, Lib.hid (by rw [Hs.out]; simp; omega), by omega⟩
            case measure => simp [intOf]; omega
        · have htn : t = n := by
            have := ht.out
            rwa [List.take_of_length_le (by have := HK.out; omega), num_digits] at this
          subst htn
          go_wp2_with fail
          refine (awake_any _).mono ?_; rintro e w5 ⟨rfl, hb5⟩
          go_wp2_with fail
          go_ret
          exact ⟨rfl, ext_trans e03 hb5⟩

end Zr
end Go.Proofs.Ytjapdfehkoijjaa
