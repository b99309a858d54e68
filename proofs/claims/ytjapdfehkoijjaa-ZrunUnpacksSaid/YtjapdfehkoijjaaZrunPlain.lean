/- Runs of noughts as digits: what the functions of package zrun, and of its reference, compute: plain lists of numbers, no program. -/
import Derived.Test.YtjapdfehkoijjaaKit
namespace Go.Proofs.Ytjapdfehkoijjaa
namespace Zr

/-- The digits that are left of m (a number and 1). -/
def digTo (m : Nat) : List Int := if _h : m ≤ 1 then [] else ((m % 2 : Nat) + 1 : Int) :: digTo (m / 2)
termination_by m
decreasing_by omega
/-- The digits of n. -/
def digits (n : Int) : List Int := if n < 1 then [] else digTo (n.toNat + 1)
/-- The digits, each less 1. -/
def low (n : Nat) : List Int := (digits n).map (· - 1)
/-- The symbols of ranks, behind a run of so many noughts. -/
def pk : Nat → List Int → List Int
  | run, [] => low run
  | run, r :: l => if r = 0 then pk (run + 1) l else low run ++ (r + 1) :: pk 0 l
def okRank (r : Int) : Bool := decide (0 ≤ r) && decide (r ≤ 255)
/-- Pack: the symbols, if the ranks may be. -/
def pack (l : List Int) : Option (List Int) := if l.all okRank = true then some (pk 0 l) else none
def isDig (s : Int) : Bool := (s == 0) || (s == 1)
/-- The number of a run of symbols 0 and 1. -/
def val : List Int → Nat
  | [] => 0
  | d :: l => 2 * val l + d.toNat + 1
def okSym (s : Int) : Bool := decide (0 ≤ s) && decide (s ≤ 256)
/-- How many ranks, behind a run of digits. -/
def cnt : List Int → List Int → Nat
  | acc, [] => val acc
  | acc, s :: l => if isDig s = true then cnt (acc ++ [s]) l else val acc + (if okSym s = true then 1 else 0) + cnt [] l
def count (l : List Int) : Int := (min (cnt [] l) 100001 : Nat)
/-- The ranks, behind a run of digits. -/
def unp : List Int → List Int → List Int
  | acc, [] => List.replicate (val acc) 0
  | acc, s :: l => if isDig s = true then unp (acc ++ [s]) l else List.replicate (val acc) 0 ++ (s - 1) :: unp [] l
/-- Unpack: the error and the ranks. -/
def unpackE (l : List Int) (limit : Int) : Int := if l.all okSym = false then 70 else if count l > min limit 100000 then 3 else 0
def unpack (l : List Int) (limit : Int) : List Int := if unpackE l limit = 0 then unp [] l else []

theorem digTo_small {m : Nat} (h : m ≤ 1) : digTo m = [] := by rw [digTo, dif_pos h]
theorem digTo_step {m : Nat} (h : 1 < m) : digTo m = ((m % 2 : Nat) + 1 : Int) :: digTo (m / 2) := by rw [digTo, dif_neg (by omega)]

/-- The number comes back of its digits. -/
theorem val_low : ∀ (m : Nat), 1 ≤ m → val ((digTo m).map (· - 1)) = m - 1 := by
  intro m
  induction m using Nat.strongRecOn with
  | ind m ih =>
    intro hm
    by_cases h : m ≤ 1
    · rw [digTo_small h]; simp [val]; omega
    · rw [digTo_step (by omega)]
      simp only [List.map_cons, val]
      rw [ih (m / 2) (by omega) (by omega)]
      omega

theorem digits_nat (n : Nat) : digits n = digTo (n + 1) := by
  unfold digits
  split
  · rw [digTo_small (by omega)]
  · congr 1

theorem low_eq (n : Nat) : low n = (digTo (n + 1)).map (· - 1) := by unfold low; rw [digits_nat]

theorem val_lown (n : Nat) : val (low n) = n := by
  rw [low_eq, val_low _ (by omega)]; omega

theorem low_dig (n : Nat) : (low n).all isDig = true := by
  have h : ∀ m : Nat, ((digTo m).map (· - 1)).all isDig = true := by
    intro m
    induction m using Nat.strongRecOn with
    | ind m ih =>
      by_cases h : m ≤ 1
      · rw [digTo_small h]; rfl
      · rw [digTo_step (by omega)]
        simp only [List.map_cons, List.all_cons, Bool.and_eq_true]
        refine ⟨?_, ih (m / 2) (by omega)⟩
        simp [isDig]; omega
  rw [low_eq]; exact h _

/-- A run of digits is that of its number. -/
theorem low_val : ∀ (l : List Int), l.all isDig = true → low (val l) = l
  | [], _ => by simp [val, low, digits]
  | d :: l, h => by
    simp only [List.all_cons, Bool.and_eq_true] at h
    have ih := low_val l h.2
    have hd : d = 0 ∨ d = 1 := by simpa [isDig] using h.1
    rw [low_eq] at ih ⊢
    simp only [val]
    rw [digTo_step (by omega), show (2 * val l + d.toNat + 1 + 1) / 2 = val l + 1 from by omega, List.map_cons, ih]
    congr 1
    omega

theorem length_digTo_le : ∀ (m : Nat), 1 ≤ m → (digTo m).length ≤ m - 1 := by
  intro m
  induction m using Nat.strongRecOn with
  | ind m ih =>
    intro hm
    by_cases h : m ≤ 1
    · rw [digTo_small h]; simp
    · rw [digTo_step (by omega)]
      simp only [List.length_cons]
      have := ih (m / 2) (by omega) (by omega)
      omega
theorem length_low (n : Nat) : (low n).length ≤ n := by
  rw [low_eq, List.length_map]
  have := length_digTo_le (n + 1) (by omega)
  omega

theorem length_pk : ∀ (l : List Int) (run : Nat), (pk run l).length ≤ run + l.length
  | [], run => by simpa [pk] using length_low run
  | r :: l, run => by
    simp only [pk]
    split
    · have := length_pk l (run + 1)
      simp only [List.length_cons]; omega
    · have := length_pk l 0
      have := length_low run
      simp only [List.length_append, List.length_cons]; omega

theorem cnt_digs : ∀ (d acc l : List Int), d.all isDig = true → cnt acc (d ++ l) = cnt (acc ++ d) l
  | [], acc, l, _ => by simp
  | x :: d, acc, l, h => by
    simp only [List.all_cons, Bool.and_eq_true] at h
    simp only [List.cons_append, cnt, h.1, if_true]
    rw [cnt_digs d (acc ++ [x]) l h.2]
    simp
theorem unp_digs : ∀ (d acc l : List Int), d.all isDig = true → unp acc (d ++ l) = unp (acc ++ d) l
  | [], acc, l, _ => by simp
  | x :: d, acc, l, h => by
    simp only [List.all_cons, Bool.and_eq_true] at h
    simp only [List.cons_append, unp, h.1, if_true]
    rw [unp_digs d (acc ++ [x]) l h.2]
    simp

/-- Ranks come back of their symbols, and are as many. -/
theorem unp_pk : ∀ (l : List Int) (run : Nat), l.all okRank = true → unp [] (pk run l) = List.replicate run 0 ++ l ∧ cnt [] (pk run l) = run + l.length
  | [], run, _ => by
    simp only [pk]
    have h := unp_digs (low run) [] [] (low_dig run)
    have h' := cnt_digs (low run) [] [] (low_dig run)
    rw [List.append_nil, List.nil_append] at h h'
    rw [h, h']
    simp [unp, cnt, val_lown]
  | r :: l, run, hl => by
    simp only [List.all_cons, Bool.and_eq_true] at hl
    simp only [pk]
    split
    · rename_i hr
      subst hr
      obtain ⟨h1, h2⟩ := unp_pk l (run + 1) hl.2
      rw [h1, h2]
      refine ⟨?_, by simp; omega⟩
      rw [List.replicate_succ']
      simp
    · rename_i hr
      obtain ⟨h1, h2⟩ := unp_pk l 0 hl.2
      rw [unp_digs _ _ _ (low_dig run), cnt_digs _ _ _ (low_dig run)]
      have hk : okRank r = true := hl.1
      simp only [okRank, Bool.and_eq_true, decide_eq_true_eq] at hk
      have hd : isDig (r + 1) = false := by simp [isDig]; omega
      have ho : okSym (r + 1) = true := by simp [okSym]; omega
      simp only [List.nil_append, unp, cnt, hd, ho, if_true, Bool.false_eq_true, if_false, val_lown, h1, h2, List.replicate_zero]
      refine ⟨?_, by simp; omega⟩
      congr 2
      omega

theorem okSym_low (n : Nat) : (low n).all okSym = true :=
  List.all_eq_true.2 fun c hc => by
    have := List.all_eq_true.1 (low_dig n) c hc
    simp [isDig] at this
    simp [okSym]; omega
theorem okSym_pk : ∀ (l : List Int) (run : Nat), l.all okRank = true → (pk run l).all okSym = true
  | [], run, _ => okSym_low run
  | r :: l, run, hl => by
    simp only [List.all_cons, Bool.and_eq_true] at hl
    simp only [pk]
    split
    · exact okSym_pk l _ hl.2
    · simp only [List.all_append, List.all_cons, okSym_low, okSym_pk l 0 hl.2, Bool.true_and, Bool.and_true]
      have hk : okRank r = true := hl.1
      simp only [okRank, Bool.and_eq_true, decide_eq_true_eq] at hk
      simp [okSym]; omega

/-- Noughts ahead. -/
theorem pk_zeros : ∀ (k run : Nat) (l : List Int), pk run (List.replicate k 0 ++ l) = pk (run + k) l
  | 0, run, l => by simp
  | k + 1, run, l => by
    rw [List.replicate_succ, List.cons_append, pk, if_pos rfl, pk_zeros k (run + 1) l]
    congr 1; omega

/-- Symbols come back of their ranks, and these may be. -/
theorem pk_unp : ∀ (l acc : List Int), acc.all isDig = true → l.all okSym = true → pk 0 (unp acc l) = acc ++ l ∧ (unp acc l).all okRank = true
  | [], acc, ha, _ => by
    simp only [unp]
    have h := pk_zeros (val acc) 0 []
    rw [List.append_nil] at h
    rw [h]
    refine ⟨by simp [pk, low_val acc ha], ?_⟩
    rw [List.all_eq_true]
    intro x hx
    rw [List.eq_of_mem_replicate hx]; rfl
  | s :: l, acc, ha, hl => by
    simp only [List.all_cons, Bool.and_eq_true] at hl
    simp only [unp]
    split
    · rename_i hs
      obtain ⟨h1, h2⟩ := pk_unp l (acc ++ [s]) (by simp [ha, hs]) hl.2
      exact ⟨by rw [h1]; simp, h2⟩
    · rename_i hs
      obtain ⟨h1, h2⟩ := pk_unp l [] rfl hl.2
      have hk := hl.1
      simp only [okSym, Bool.and_eq_true, decide_eq_true_eq] at hk
      have hs' : s ≠ 0 ∧ s ≠ 1 := by simpa [isDig] using hs
      rw [pk_zeros, pk, if_neg (by omega), h1]
      refine ⟨?_, ?_⟩
      · simp only [Nat.zero_add, low_val acc ha, List.nil_append]
        congr 2; omega
      · simp only [List.all_append, List.all_cons, h2, Bool.and_true, Bool.and_eq_true]
        refine ⟨?_, ?_⟩
        · rw [List.all_eq_true]
          intro x hx
          rw [List.eq_of_mem_replicate hx]; rfl
        · simp [okRank]; omega

theorem length_unp : ∀ (l acc : List Int), l.all okSym = true → (unp acc l).length = cnt acc l
  | [], acc, _ => by simp [unp, cnt]
  | s :: l, acc, hl => by
    simp only [List.all_cons, Bool.and_eq_true] at hl
    simp only [unp, cnt]
    split
    · exact length_unp l _ hl.2
    · simp [length_unp l [] hl.2, hl.1]; omega

end Zr
end Go.Proofs.Ytjapdfehkoijjaa
