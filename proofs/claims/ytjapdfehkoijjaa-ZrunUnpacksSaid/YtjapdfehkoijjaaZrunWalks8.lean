/- SameInts; the reference's Pack. -/
import Derived.Test.YtjapdfehkoijjaaZrunWalks7
namespace Go.Proofs.Ytjapdfehkoijjaa
namespace Zr
open Go.RowKit

theorem take_eq_succ (a b : List Int) (k : Nat) (x : Int) (ha : a[k]? = some x) (hb : b[k]? = some x) (h : a.take k = b.take k) : a.take (k + 1) = b.take (k + 1) := by
  rw [take_snoc_int a k x ha, take_snoc_int b k x hb, h]

set_option maxHeartbeats 800000 in
theorem same_any (A B : Option Addr) (n m c d : Nat) (a b : List Int) (w : World) (hn : n ≤ maxLen) (Ba Bb : Nat) (ha : Rd w Ba 1 A n (a.map (Value.int .i64))) (hb : Rd w Bb 1 B m (b.map (Value.int .i64))) :
    Calls Try.prog 24 #[.slice A n c, .slice B m d] w fun e w' => e = .returned (.bool (a == b)) ∧ ∃ q, w' = w.drewN q := by
  have hla : a.length = n := by simpa using ha.len
  have hlb : b.length = m := by simpa using hb.len
  have Hla := Lib.hid hla; have Hlb := Lib.hid hlb
  clear hla hlb
  unfold maxLen at hn
  by_cases hnm : n = m
  · subst hnm
    go_enter Try.func24, Try.ntmps24
    go_wp2_with fail
    go_loopw [5] (fun i wr => ∃ k q : Nat, i = .int .i64 k ∧ k ≤ n ∧ wr = w.drewN q ∧ Hid (a.take k = b.take k)) (fun i _ => n - (intOf i).toNat)
    case atStart => exact ⟨0, 0, rfl, by omega, rfl, rfl⟩
    case round =>
      obtain ⟨k, q, rfl, hk, rfl, heq⟩ := hrel
      have ra := ha
      have rb := hb
      by_cases hlt : k < n
      · obtain ⟨aa, x, rfl, _, hx, hcx⟩ := ra.int1 hlt
        obtain ⟨ab, y, rfl, _, hy, hcy⟩ := rb.int1 hlt
        have Hx := Lib.hid hx; have Hy := Lib.hid hy
        clear hx hy
        by_cases hxy : x = y
        · subst hxy
          go_wp2_with fail
          go_quiet (fail)
          go_wp2_with fail
          go_roundw
          case rel => exact ⟨k + 1, _, by go_num, by omega, rfl, take_eq_succ a b k x Hx.out Hy.out heq.out⟩
          case measure => simp [intOf]; omega
        · have hb1 : (x == y) = false := by rw [beq_eq_false_iff_ne]; exact hxy
          have hb2 : (x != y) = true := by rw [bne_iff_ne]; exact hxy
          have hne : (a == b) = false := by
            rw [beq_eq_false_iff_ne]
            intro h
            rw [h, Hy.out] at Hx
            exact hxy (Option.some.inj Hx.out).symm
          have Hne := Lib.hid hne
          clear hne hxy
          go_wp2_with fail
          go_quiet (fail)
          go_wp2_with fail
          go_ret
          exact ⟨ret_bool Hne.out.symm, _, World.drewN_drewN _ _ _⟩
      · go_wp2_with fail
        go_ret
        refine ⟨ret_bool ?_, q, rfl⟩
        have h := heq.out
        rw [List.take_of_length_le (by have := Hla.out; omega), List.take_of_length_le (by have := Hlb.out; omega)] at h
        rw [h]; simp
  · have hne : (a == b) = false := by
      rw [beq_eq_false_iff_ne]
      intro h
      apply hnm
      rw [← Hla.out, ← Hlb.out, h]
    rw [hne]
    clear hne
    have hnm1 : ((n : Int) != (m : Int)) = true := by rw [bne_iff_ne]; omega
    have hnm2 : ((n : Int) == (m : Int)) = false := by rw [beq_eq_false_iff_ne]; omega
    have hnm3 : (n == m) = false := by rw [beq_eq_false_iff_ne]; exact hnm
    go_enter Try.func24, Try.ntmps24
    go_wp2_with fail
    go_ret
    exact ⟨rfl, 0, rfl⟩

/-- What the reference's Pack keeps. -/
def invP (l : List Int) (k r : Nat) (acc : List Int) : Prop :=
  if k ≤ l.length then acc ++ pk r (l.drop k) = pk 0 l ∧ (l.take k).all okRank = true else acc = pk 0 l ∧ l.all okRank = true

theorem invP_zero {l : List Int} {k r : Nat} {acc : List Int} (h : invP l k r acc) (hx : l[k]? = some 0) : invP l (k + 1) (r + 1) acc := by
  have hk : k < l.length := (List.getElem?_eq_some_iff.1 hx).1
  unfold invP at h ⊢
  rw [if_pos (by omega)] at h ⊢
  rw [drop_at l k 0 hx, pk, if_pos rfl] at h
  exact ⟨h.1, all_take_int l okRank k 0 hx h.2 rfl⟩
theorem invP_sym {l : List Int} {k r : Nat} {acc : List Int} {x : Int} (h : invP l k r acc) (hx : l[k]? = some x) (h0 : x ≠ 0) (ho : okRank x = true) : invP l (k + 1) 0 (acc ++ low r ++ [x + 1]) := by
  have hk : k < l.length := (List.getElem?_eq_some_iff.1 hx).1
  unfold invP at h ⊢
  rw [if_pos (by omega)] at h ⊢
  rw [drop_at l k x hx, pk, if_neg h0] at h
  exact ⟨by rw [← h.1]; simp, all_take_int l okRank k x hx h.2 ho⟩
theorem invP_end {l : List Int} {r : Nat} {acc : List Int} (h : invP l l.length r acc) : invP l (l.length + 1) 0 (acc ++ low r) := by
  unfold invP at h ⊢
  rw [if_pos (by omega)] at h
  rw [if_neg (by omega)]
  rw [List.drop_length, pk, List.take_length] at h
  exact h
theorem invP_len {l : List Int} {k r : Nat} {acc : List Int} (h : invP l k r acc) : acc.length ≤ l.length := by
  have hl := length_pk l 0
  unfold invP at h
  split at h
  · have := congrArg List.length h.1
    rw [List.length_append] at this
    omega
  · rw [h.1]; omega
end Zr
end Go.Proofs.Ytjapdfehkoijjaa
