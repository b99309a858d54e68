/- Runs of noughts as digits, the reference's ways: the same lists of numbers. -/
import Derived.Test.YtjapdfehkoijjaaZrunPlain
namespace Go.Proofs.Ytjapdfehkoijjaa
namespace Zr

/-- The reference's digits, as its loop makes them. -/
def digR (m : Nat) : List Int := if _h : m = 0 then [] else (2 - (m % 2 : Nat) : Int) :: digR ((m - (2 - m % 2)) / 2)
termination_by m
decreasing_by omega

theorem digR_zero : digR 0 = [] := by rw [digR, dif_pos rfl]
theorem digR_step {m : Nat} (h : 0 < m) : digR m = (2 - (m % 2 : Nat) : Int) :: digR ((m - (2 - m % 2)) / 2) := by rw [digR, dif_neg (by omega)]

theorem digR_eq : ∀ (m : Nat), digR m = digTo (m + 1) := by
  intro m
  induction m using Nat.strongRecOn with
  | ind m ih =>
    by_cases h : m = 0
    · subst h; rw [digR_zero, digTo_small (by omega)]
    · rw [digR_step (by omega), digTo_step (by omega), ih _ (by omega)]
      congr 1
      · omega
      · congr 1; omega

/-- 2 to the power of how many digits there were, as the reference's loop has it. -/
def pw : Nat → Int
  | 0 => 1
  | n + 1 => if pw n < 1000000 then 2 * pw n else pw n

/-- The number of a row of digits 1 and 2, the lowest one first. -/
def num : List Int → Nat
  | [] => 0
  | d :: l => d.toNat + 2 * num l

theorem num_val (l : List Int) (h : l.all isDig = true) : num (l.map (· + 1)) = val l := by
  induction l with
  | nil => rfl
  | cons d l ih =>
    simp only [List.all_cons, Bool.and_eq_true] at h
    have hd : d = 0 ∨ d = 1 := by simpa [isDig] using h.1
    simp only [List.map_cons, num, val, ih h.2]
    omega

theorem num_append : ∀ (l r : List Int), num (l ++ r) = num l + 2 ^ l.length * num r
  | [], r => by simp [num]
  | d :: l, r => by
    simp only [List.cons_append, num, num_append l r, List.length_cons, Nat.pow_succ]
    rw [Nat.mul_add]
    rw [Nat.mul_comm (2 ^ l.length) 2, Nat.mul_assoc]
    omega

def is12 (d : Int) : Bool := (d == 1) || (d == 2)
theorem num_ge : ∀ (l : List Int), l.all is12 = true → 2 ^ l.length ≤ num l + 1
  | [], _ => by simp [num]
  | d :: l, h => by
    simp only [List.all_cons, Bool.and_eq_true] at h
    have hd : d = 1 ∨ d = 2 := by simpa [is12] using h.1
    have := num_ge l h.2
    simp only [num, List.length_cons, Nat.pow_succ]
    omega

theorem pw_small : ∀ n, n ≤ 17 → pw n = 2 ^ n := by
  intro n hn
  have : n = 0 ∨ n = 1 ∨ n = 2 ∨ n = 3 ∨ n = 4 ∨ n = 5 ∨ n = 6 ∨ n = 7 ∨ n = 8 ∨ n = 9 ∨ n = 10 ∨ n = 11 ∨ n = 12 ∨ n = 13 ∨ n = 14 ∨ n = 15 ∨ n = 16 ∨ n = 17 := by omega
  rcases this with rfl | rfl | rfl | rfl | rfl | rfl | rfl | rfl | rfl | rfl | rfl | rfl | rfl | rfl | rfl | rfl | rfl | rfl <;> decide

/-- So long as the number of the first digits is small, they are few. -/
theorem few (l : List Int) (h : l.all is12 = true) (hs : num l ≤ 100001) : l.length ≤ 16 := by
  have := num_ge l h
  rcases Nat.lt_or_ge 16 l.length with hl | hl
  · have : (2 : Nat) ^ 17 ≤ 2 ^ l.length := Nat.pow_le_pow_right (by omega) hl
    omega
  · exact hl

end Zr
end Go.Proofs.Ytjapdfehkoijjaa
