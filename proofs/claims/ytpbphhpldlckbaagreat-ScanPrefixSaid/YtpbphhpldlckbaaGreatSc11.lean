/- Bytes as ranks in a row in which each goes to the front: plain lists, no program. Numbers as bytes: what varint's functions compute: plain lists of bytes, no program. Runs of noughts as digits: what the functions of package zrun, and of its reference, compute: plain lists of numbers, no program. Suffixes in order: counting, ranks by ever longer beginnings: plain lists, no program. -/
import Derived.Test.YtpbphhpldlckbaaGreatSc01
namespace Go.Proofs.YtpbphhpldlckbaaGreat
namespace Fr

/-- The row as it begins. -/
def row0 : List UInt8 := (List.range 256).map UInt8.ofNat
/-- A byte's place in a row. -/
def plc (c : UInt8) : List UInt8 → Nat
  | [] => 0
  | d :: l => if d = c then 0 else plc c l + 1
/-- The row whose element of a rank went to the front. -/
def mv (row : List UInt8) (i : Nat) : List UInt8 :=
  match row[i]? with
  | some c => c :: (row.take i ++ row.drop (i + 1))
  | none => row

theorem mv_some {row : List UInt8} {i : Nat} {c : UInt8} (h : row[i]? = some c) : mv row i = c :: (row.take i ++ row.drop (i + 1)) := by
  unfold mv; rw [h]
theorem length_mv (row : List UInt8) (i : Nat) : (mv row i).length = row.length := by
  rcases h : row[i]? with _ | c
  · unfold mv; rw [h]
  · rw [mv_some h]
    have : i < row.length := (List.getElem?_eq_some_iff.1 h).1
    simp; omega
theorem mv_perm (row : List UInt8) (i : Nat) : (mv row i).Perm row := by
  rcases h : row[i]? with _ | c
  · unfold mv; rw [h]
  · rw [mv_some h]
    have hi : i < row.length := (List.getElem?_eq_some_iff.1 h).1
    have e : row = row.take i ++ c :: row.drop (i + 1) := by
      conv => lhs; rw [← List.take_append_drop i row]
      rw [List.drop_eq_getElem_cons hi]
      congr 2
      rw [List.getElem?_eq_getElem hi] at h
      exact Option.some.inj h
    conv => rhs; rw [e]
    exact List.perm_middle.symm

theorem row0_mem (c : UInt8) : c ∈ row0 := by
  unfold row0
  rw [List.mem_map]
  exact ⟨c.toNat, by rw [List.mem_range]; exact c.toNat_lt, by simp⟩
theorem length_row0 : row0.length = 256 := by simp [row0]

theorem plc_lt (c : UInt8) : ∀ (row : List UInt8), c ∈ row → plc c row < row.length ∧ row[plc c row]? = some c
  | [], h => by simp at h
  | d :: l, h => by
    simp only [plc]
    split
    · rename_i e; subst e; simp
    · rename_i e
      have hc : c ∈ l := by
        rcases List.mem_cons.1 h with rfl | h
        · exact absurd rfl e
        · exact h
      obtain ⟨h1, h2⟩ := plc_lt c l hc
      refine ⟨by simp; omega, by simpa using h2⟩

/-- The ranks of bytes. -/
def rks : List UInt8 → List UInt8 → List Int
  | _, [] => []
  | row, c :: l => (plc c row : Int) :: rks (mv row (plc c row)) l
/-- The bytes of ranks (all of them from 0 to 255). -/
def txt : List UInt8 → List Int → List UInt8
  | _, [] => []
  | row, r :: l => (row[r.toNat]?.getD 0) :: txt (mv row r.toNat) l

theorem length_rks : ∀ (l row : List UInt8), (rks row l).length = l.length
  | [], _ => rfl
  | c :: l, row => by simp [rks, length_rks l]

/-- Bytes come back of their ranks, which may be. -/
theorem txt_rks : ∀ (l row : List UInt8), row.length = 256 → (∀ c, c ∈ row) → txt row (rks row l) = l ∧ (rks row l).all (fun r => decide (0 ≤ r) && decide (r ≤ 255)) = true
  | [], _, _, _ => ⟨rfl, rfl⟩
  | c :: l, row, hl, hm => by
    obtain ⟨h1, h2⟩ := plc_lt c row (hm c)
    have ih := txt_rks l (mv row (plc c row)) (by rw [length_mv, hl]) (fun d => (mv_perm row _).mem_iff.2 (hm d))
    simp only [rks, txt, Int.toNat_natCast, h2, Option.getD_some]
    refine ⟨by rw [ih.1], ?_⟩
    simp only [List.all_cons, ih.2, Bool.and_true, Bool.and_eq_true, decide_eq_true_eq]
    omega

end Fr
end Go.Proofs.YtpbphhpldlckbaaGreat
namespace Go.Proofs.YtpbphhpldlckbaaGreat
namespace Vi

/-- A number's bytes: seven bits each, the lowest first. -/
def putV (n : Nat) : List UInt8 := if _h : n < 128 then [UInt8.ofNat n] else UInt8.ofNat (n % 128 + 128) :: putV (n / 128)
termination_by n
decreasing_by omega

theorem putV_small {n : Nat} (h : n < 128) : putV n = [UInt8.ofNat n] := by rw [putV, dif_pos h]
theorem putV_step {n : Nat} (h : ¬ n < 128) : putV n = UInt8.ofNat (n % 128 + 128) :: putV (n / 128) := by rw [putV, dif_neg h]

/-- Taking a number, behind k bytes that came to n: the number, how many bytes, the error. -/
def gv (k n : Nat) : List UInt8 → Nat × Nat × Int
  | [] => (0, 0, if k < 9 then 4 else 5)
  | c :: l =>
    if 9 ≤ k then (0, 0, 5)
    else if 128 ≤ c.toNat then gv (k + 1) (n + (c.toNat - 128) * 128 ^ k) l
    else if c.toNat = 0 ∧ 0 < k then (0, 0, 5)
    else (n + c.toNat * 128 ^ k, k + 1, 0)

theorem toNat_ofNat (n : Nat) (h : n < 256) : (UInt8.ofNat n).toNat = n := by
  simp only [UInt8.toNat_ofNat']; omega

theorem length_putV_pos (n : Nat) : 0 < (putV n).length := by
  by_cases h : n < 128
  · rw [putV_small h]; simp
  · rw [putV_step h]; simp

/-- A number comes back of its bytes, whatever stands behind. -/
theorem gv_putV : ∀ (n k m : Nat) (rest : List UInt8), k < 9 → n < 128 ^ (9 - k) → (0 < k → 0 < n) →
    gv k m (putV n ++ rest) = (m + n * 128 ^ k, k + (putV n).length, 0) := by
  intro n
  induction n using Nat.strongRecOn with
  | ind n ih =>
    intro k m rest hk hn h0
    by_cases h : n < 128
    · rw [putV_small h]
      simp only [List.singleton_append, gv, List.length_singleton]
      rw [if_neg (by omega), toNat_ofNat n (by omega), if_neg (by omega), if_neg (by omega)]
    · rw [putV_step h]
      simp only [List.cons_append, gv, List.length_cons]
      rw [if_neg (by omega), toNat_ofNat _ (by omega), if_pos (by omega)]
      have hk8 : k + 1 < 9 := by
        rcases Nat.lt_or_ge k 8 with h8 | h8
        · omega
        · exfalso
          have : k = 8 := by omega
          subst this
          simp at hn; omega
      have hp : 128 ^ (9 - k) = 128 * 128 ^ (9 - (k + 1)) := by
        rw [show 9 - k = (9 - (k + 1)) + 1 from by omega, Nat.pow_succ]; omega
      have hd : n / 128 < 128 ^ (9 - (k + 1)) := by
        rw [hp] at hn
        exact Nat.div_lt_of_lt_mul hn
      rw [ih (n / 128) (by omega) (k + 1) _ rest hk8 hd (fun _ => by omega)]
      have e : m + (n % 128 + 128 - 128) * 128 ^ k + n / 128 * 128 ^ (k + 1) = m + n * 128 ^ k := by
        rw [Nat.pow_succ, Nat.add_assoc, show n / 128 * (128 ^ k * 128) = (n / 128 * 128) * 128 ^ k from by rw [Nat.mul_assoc, Nat.mul_comm (128 ^ k)], ← Nat.add_mul]
        congr 2; omega
      rw [e]
      congr 2; omega

/-- What is taken is a number's bytes. -/
theorem gv_some : ∀ (l : List UInt8) (k m v u : Nat), gv k m l = (v, u, 0) → ∃ n rest, l = putV n ++ rest ∧ v = m + n * 128 ^ k ∧ u = k + (putV n).length ∧ n < 128 ^ (9 - k) ∧ k < 9 ∧ (0 < k → 0 < n)
  | [], k, m, v, u, h => by
    simp only [gv] at h
    split at h <;> simp at h
  | c :: l, k, m, v, u, h => by
    simp only [gv] at h
    split at h
    · simp at h
    rename_i hk
    split at h
    · rename_i hc
      obtain ⟨n, rest, rfl, hv, hu, hn, hk9, hpos⟩ := gv_some l (k + 1) _ v u h
      have hn0 := hpos (by omega)
      have hcb := c.toNat_lt
      refine ⟨n * 128 + (c.toNat - 128), rest, ?_, ?_, ?_, ?_, by omega, fun _ => by omega⟩
      · rw [putV_step (n := n * 128 + (c.toNat - 128)) (by omega)]
        have e1 : (n * 128 + (c.toNat - 128)) / 128 = n := by omega
        have e2 : (n * 128 + (c.toNat - 128)) % 128 + 128 = c.toNat := by omega
        rw [e1, e2]
        simp
      · have e : 128 ^ (k + 1) = 128 ^ k * 128 := by exact Nat.pow_succ ..
        rw [hv, e]
        generalize 128 ^ k = q
        generalize c.toNat - 128 = y
        rw [Nat.add_mul, Nat.mul_assoc n 128 q, Nat.mul_comm 128 q]
        omega
      · rw [hu, putV_step (n := n * 128 + (c.toNat - 128)) (by omega)]
        have e1 : (n * 128 + (c.toNat - 128)) / 128 = n := by omega
        rw [e1, List.length_cons]; omega
      · rw [show 9 - k = (9 - (k + 1)) + 1 from by omega, Nat.pow_succ]
        omega
    · split at h
      · simp at h
      · rename_i hc h0
        simp only [Prod.mk.injEq, and_true] at h
        refine ⟨c.toNat, l, ?_, h.1.symm, ?_, ?_, by omega, fun hk => by omega⟩
        · rw [putV_small (by omega)]; simp
        · rw [putV_small (by omega)]; simp; omega
        · have : 128 ^ 1 ≤ 128 ^ (9 - k) := Nat.pow_le_pow_right (by omega) (by omega)
          omega

theorem gv_err (l : List UInt8) : ∀ (k m : Nat), (gv k m l).2.2 = 0 ∨ (gv k m l).1 = 0 ∧ (gv k m l).2.1 = 0 := by
  induction l with
  | nil => intro k m; right; simp [gv]
  | cons c l ih =>
    intro k m
    simp only [gv]
    split
    · right; simp
    split
    · exact ih _ _
    split
    · right; simp
    · left; rfl

theorem length_putV_le : ∀ (n k : Nat), n < 128 ^ (k + 1) → (putV n).length ≤ k + 1 := by
  intro n
  induction n using Nat.strongRecOn with
  | ind n ih =>
    intro k hn
    by_cases h : n < 128
    · rw [putV_small h]; simp
    · rw [putV_step h, List.length_cons]
      rcases k with _ | k
      · simp at hn; omega
      · have := ih (n / 128) (by omega) k (Nat.div_lt_of_lt_mul (by rw [Nat.pow_succ] at hn; omega))
        omega

end Vi
end Go.Proofs.YtpbphhpldlckbaaGreat
namespace Go.Proofs.YtpbphhpldlckbaaGreat
namespace Zr

/-- The digits that are left of m (a number and 1). -/
def digTo (m : Nat) : List Int := if _h : m ≤ 1 then [] else ((m % 2 : Nat) + 1 : Int) :: digTo (m / 2)
termination_by m
decreasing_by omega
/-- The digits of n. -/
def digits (n : Int) : List Int := if n < 1 then [] else digTo (n.toNat + 1)
/-- The digits, each less 1. -/
def low (n : Nat) : List Int := (digits n).map (· - 1)
/-- The symbols of ranks, behind a run of so many noughts. -/
def pk : Nat → List Int → List Int
  | run, [] => low run
  | run, r :: l => if r = 0 then pk (run + 1) l else low run ++ (r + 1) :: pk 0 l
def okRank (r : Int) : Bool := decide (0 ≤ r) && decide (r ≤ 255)
/-- Pack: the symbols, if the ranks may be. -/
def pack (l : List Int) : Option (List Int) := if l.all okRank = true then some (pk 0 l) else none
def isDig (s : Int) : Bool := (s == 0) || (s == 1)
/-- The number of a run of symbols 0 and 1. -/
def val : List Int → Nat
  | [] => 0
  | d :: l => 2 * val l + d.toNat + 1
def okSym (s : Int) : Bool := decide (0 ≤ s) && decide (s ≤ 256)
/-- How many ranks, behind a run of digits. -/
def cnt : List Int → List Int → Nat
  | acc, [] => val acc
  | acc, s :: l => if isDig s = true then cnt (acc ++ [s]) l else val acc + (if okSym s = true then 1 else 0) + cnt [] l
def count (l : List Int) : Int := (min (cnt [] l) 100001 : Nat)
/-- The ranks, behind a run of digits. -/
def unp : List Int → List Int → List Int
  | acc, [] => List.replicate (val acc) 0
  | acc, s :: l => if isDig s = true then unp (acc ++ [s]) l else List.replicate (val acc) 0 ++ (s - 1) :: unp [] l
/-- Unpack: the error and the ranks. -/
def unpackE (l : List Int) (limit : Int) : Int := if l.all okSym = false then 70 else if count l > min limit 100000 then 3 else 0
def unpack (l : List Int) (limit : Int) : List Int := if unpackE l limit = 0 then unp [] l else []

theorem digTo_small {m : Nat} (h : m ≤ 1) : digTo m = [] := by rw [digTo, dif_pos h]
theorem digTo_step {m : Nat} (h : 1 < m) : digTo m = ((m % 2 : Nat) + 1 : Int) :: digTo (m / 2) := by rw [digTo, dif_neg (by omega)]

/-- The number comes back of its digits. -/
theorem val_low : ∀ (m : Nat), 1 ≤ m → val ((digTo m).map (· - 1)) = m - 1 := by
  intro m
  induction m using Nat.strongRecOn with
  | ind m ih =>
    intro hm
    by_cases h : m ≤ 1
    · rw [digTo_small h]; simp [val]; omega
    · rw [digTo_step (by omega)]
      simp only [List.map_cons, val]
      rw [ih (m / 2) (by omega) (by omega)]
      omega

theorem digits_nat (n : Nat) : digits n = digTo (n + 1) := by
  unfold digits
  split
  · rw [digTo_small (by omega)]
  · congr 1

theorem low_eq (n : Nat) : low n = (digTo (n + 1)).map (· - 1) := by unfold low; rw [digits_nat]

theorem val_lown (n : Nat) : val (low n) = n := by
  rw [low_eq, val_low _ (by omega)]; omega

theorem low_dig (n : Nat) : (low n).all isDig = true := by
  have h : ∀ m : Nat, ((digTo m).map (· - 1)).all isDig = true := by
    intro m
    induction m using Nat.strongRecOn with
    | ind m ih =>
      by_cases h : m ≤ 1
      · rw [digTo_small h]; rfl
      · rw [digTo_step (by omega)]
        simp only [List.map_cons, List.all_cons, Bool.and_eq_true]
        refine ⟨?_, ih (m / 2) (by omega)⟩
        simp [isDig]; omega
  rw [low_eq]; exact h _

/-- A run of digits is that of its number. -/
theorem low_val : ∀ (l : List Int), l.all isDig = true → low (val l) = l
  | [], _ => by simp [val, low, digits]
  | d :: l, h => by
    simp only [List.all_cons, Bool.and_eq_true] at h
    have ih := low_val l h.2
    have hd : d = 0 ∨ d = 1 := by simpa [isDig] using h.1
    rw [low_eq] at ih ⊢
    simp only [val]
    rw [digTo_step (by omega), show (2 * val l + d.toNat + 1 + 1) / 2 = val l + 1 from by omega, List.map_cons, ih]
    congr 1
    omega

theorem length_digTo_le : ∀ (m : Nat), 1 ≤ m → (digTo m).length ≤ m - 1 := by
  intro m
  induction m using Nat.strongRecOn with
  | ind m ih =>
    intro hm
    by_cases h : m ≤ 1
    · rw [digTo_small h]; simp
    · rw [digTo_step (by omega)]
      simp only [List.length_cons]
      have := ih (m / 2) (by omega) (by omega)
      omega
theorem length_low (n : Nat) : (low n).length ≤ n := by
  rw [low_eq, List.length_map]
  have := length_digTo_le (n + 1) (by omega)
  omega

theorem length_pk : ∀ (l : List Int) (run : Nat), (pk run l).length ≤ run + l.length
  | [], run => by simpa [pk] using length_low run
  | r :: l, run => by
    simp only [pk]
    split
    · have := length_pk l (run + 1)
      simp only [List.length_cons]; omega
    · have := length_pk l 0
      have := length_low run
      simp only [List.length_append, List.length_cons]; omega

theorem cnt_digs : ∀ (d acc l : List Int), d.all isDig = true → cnt acc (d ++ l) = cnt (acc ++ d) l
  | [], acc, l, _ => by simp
  | x :: d, acc, l, h => by
    simp only [List.all_cons, Bool.and_eq_true] at h
    simp only [List.cons_append, cnt, h.1, if_true]
    rw [cnt_digs d (acc ++ [x]) l h.2]
    simp
theorem unp_digs : ∀ (d acc l : List Int), d.all isDig = true → unp acc (d ++ l) = unp (acc ++ d) l
  | [], acc, l, _ => by simp
  | x :: d, acc, l, h => by
    simp only [List.all_cons, Bool.and_eq_true] at h
    simp only [List.cons_append, unp, h.1, if_true]
    rw [unp_digs d (acc ++ [x]) l h.2]
    simp

/-- Ranks come back of their symbols, and are as many. -/
theorem unp_pk : ∀ (l : List Int) (run : Nat), l.all okRank = true → unp [] (pk run l) = List.replicate run 0 ++ l ∧ cnt [] (pk run l) = run + l.length
  | [], run, _ => by
    simp only [pk]
    have h := unp_digs (low run) [] [] (low_dig run)
    have h' := cnt_digs (low run) [] [] (low_dig run)
    rw [List.append_nil, List.nil_append] at h h'
    rw [h, h']
    simp [unp, cnt, val_lown]
  | r :: l, run, hl => by
    simp only [List.all_cons, Bool.and_eq_true] at hl
    simp only [pk]
    split
    · rename_i hr
      subst hr
      obtain ⟨h1, h2⟩ := unp_pk l (run + 1) hl.2
      rw [h1, h2]
      refine ⟨?_, by simp; omega⟩
      rw [List.replicate_succ']
      simp
    · rename_i hr
      obtain ⟨h1, h2⟩ := unp_pk l 0 hl.2
      rw [unp_digs _ _ _ (low_dig run), cnt_digs _ _ _ (low_dig run)]
      have hk : okRank r = true := hl.1
      simp only [okRank, Bool.and_eq_true, decide_eq_true_eq] at hk
      have hd : isDig (r + 1) = false := by simp [isDig]; omega
      have ho : okSym (r + 1) = true := by simp [okSym]; omega
      simp only [List.nil_append, unp, cnt, hd, ho, if_true, Bool.false_eq_true, if_false, val_lown, h1, h2, List.replicate_zero]
      refine ⟨?_, by simp; omega⟩
      congr 2
      omega

theorem okSym_low (n : Nat) : (low n).all okSym = true :=
  List.all_eq_true.2 fun c hc => by
    have := List.all_eq_true.1 (low_dig n) c hc
    simp [isDig] at this
    simp [okSym]; omega
theorem okSym_pk : ∀ (l : List Int) (run : Nat), l.all okRank = true → (pk run l).all okSym = true
  | [], run, _ => okSym_low run
  | r :: l, run, hl => by
    simp only [List.all_cons, Bool.and_eq_true] at hl
    simp only [pk]
    split
    · exact okSym_pk l _ hl.2
    · simp only [List.all_append, List.all_cons, okSym_low, okSym_pk l 0 hl.2, Bool.true_and, Bool.and_true]
      have hk : okRank r = true := hl.1
      simp only [okRank, Bool.and_eq_true, decide_eq_true_eq] at hk
      simp [okSym]; omega

/-- Noughts ahead. -/
theorem pk_zeros : ∀ (k run : Nat) (l : List Int), pk run (List.replicate k 0 ++ l) = pk (run + k) l
  | 0, run, l => by simp
  | k + 1, run, l => by
    rw [List.replicate_succ, List.cons_append, pk, if_pos rfl, pk_zeros k (run + 1) l]
    congr 1; omega

/-- Symbols come back of their ranks, and these may be. -/
theorem pk_unp : ∀ (l acc : List Int), acc.all isDig = true → l.all okSym = true → pk 0 (unp acc l) = acc ++ l ∧ (unp acc l).all okRank = true
  | [], acc, ha, _ => by
    simp only [unp]
    have h := pk_zeros (val acc) 0 []
    rw [List.append_nil] at h
    rw [h]
    refine ⟨by simp [pk, low_val acc ha], ?_⟩
    rw [List.all_eq_true]
    intro x hx
    rw [List.eq_of_mem_replicate hx]; rfl
  | s :: l, acc, ha, hl => by
    simp only [List.all_cons, Bool.and_eq_true] at hl
    simp only [unp]
    split
    · rename_i hs
      obtain ⟨h1, h2⟩ := pk_unp l (acc ++ [s]) (by simp [ha, hs]) hl.2
      exact ⟨by rw [h1]; simp, h2⟩
    · rename_i hs
      obtain ⟨h1, h2⟩ := pk_unp l [] rfl hl.2
      have hk := hl.1
      simp only [okSym, Bool.and_eq_true, decide_eq_true_eq] at hk
      have hs' : s ≠ 0 ∧ s ≠ 1 := by simpa [isDig] using hs
      rw [pk_zeros, pk, if_neg (by omega), h1]
      refine ⟨?_, ?_⟩
      · simp only [Nat.zero_add, low_val acc ha, List.nil_append]
        congr 2; omega
      · simp only [List.all_append, List.all_cons, h2, Bool.and_true, Bool.and_eq_true]
        refine ⟨?_, ?_⟩
        · rw [List.all_eq_true]
          intro x hx
          rw [List.eq_of_mem_replicate hx]; rfl
        · simp [okRank]; omega

theorem length_unp : ∀ (l acc : List Int), l.all okSym = true → (unp acc l).length = cnt acc l
  | [], acc, _ => by simp [unp, cnt]
  | s :: l, acc, hl => by
    simp only [List.all_cons, Bool.and_eq_true] at hl
    simp only [unp, cnt]
    split
    · exact length_unp l _ hl.2
    · simp [length_unp l [] hl.2, hl.1]; omega

end Zr
end Go.Proofs.YtpbphhpldlckbaaGreat
namespace Go.Proofs.YtpbphhpldlckbaaGreat
namespace Sx

/-- A letter, 1 and more; 0 behind the end. -/
def tl (s : List UInt8) (p : Nat) : Nat := match s[p]? with | some c => c.toNat + 1 | none => 0
theorem tl_lt {s : List UInt8} {p : Nat} (h : p < s.length) : tl s p = s[p].toNat + 1 := by unfold tl; rw [List.getElem?_eq_getElem h]
theorem tl_ge {s : List UInt8} {p : Nat} (h : s.length ≤ p) : tl s p = 0 := by unfold tl; rw [List.getElem?_eq_none h]
theorem tl_le (s : List UInt8) (p : Nat) : tl s p ≤ 256 := by
  unfold tl
  split
  · rename_i c _; have := c.toNat_lt; omega
  · omega

/-- The L letters from p on are less than those from q on; are the same. -/
def less (s : List UInt8) : Nat → Nat → Nat → Prop
  | 0, _, _ => False
  | L + 1, p, q => tl s p < tl s q ∨ (tl s p = tl s q ∧ less s L (p + 1) (q + 1))
def same (s : List UInt8) : Nat → Nat → Nat → Prop
  | 0, _, _ => True
  | L + 1, p, q => tl s p = tl s q ∧ same s L (p + 1) (q + 1)

section
variable {s : List UInt8}
theorem same_refl : ∀ (L p : Nat), same s L p p
  | 0, _ => trivial
  | L + 1, p => ⟨rfl, same_refl L (p + 1)⟩
theorem same_symm : ∀ {L p q : Nat}, same s L p q → same s L q p
  | 0, _, _, _ => trivial
  | _ + 1, _, _, h => ⟨h.1.symm, same_symm h.2⟩
theorem same_trans : ∀ {L p q r : Nat}, same s L p q → same s L q r → same s L p r
  | 0, _, _, _, _, _ => trivial
  | _ + 1, _, _, _, h, k => ⟨h.1.trans k.1, same_trans h.2 k.2⟩
theorem less_irrefl : ∀ {L p : Nat}, ¬ less s L p p
  | 0, _, h => h
  | _ + 1, _, h => by
    rcases h with h | h
    · exact Nat.lt_irrefl _ h
    · exact less_irrefl h.2
theorem less_trans : ∀ {L p q r : Nat}, less s L p q → less s L q r → less s L p r
  | 0, _, _, _, h, _ => h
  | L + 1, p, q, r, h, k => by
    rcases h with h | h <;> rcases k with k | k
    · exact .inl (by omega)
    · exact .inl (by omega)
    · exact .inl (by omega)
    · exact .inr ⟨by omega, less_trans h.2 k.2⟩
theorem less_same : ∀ {L p q r : Nat}, less s L p q → same s L q r → less s L p r
  | 0, _, _, _, h, _ => h
  | L + 1, p, q, r, h, k => by
    rcases h with h | h
    · exact .inl (by have := k.1; omega)
    · exact .inr ⟨by have := k.1; omega, less_same h.2 k.2⟩
theorem same_less : ∀ {L p q r : Nat}, same s L p q → less s L q r → less s L p r
  | 0, _, _, _, _, h => h
  | L + 1, p, q, r, k, h => by
    rcases h with h | h
    · exact .inl (by have := k.1; omega)
    · exact .inr ⟨by have := k.1; omega, same_less k.2 h.2⟩
theorem tri : ∀ (L p q : Nat), less s L p q ∨ same s L p q ∨ less s L q p
  | 0, _, _ => .inr (.inl trivial)
  | L + 1, p, q => by
    rcases Nat.lt_trichotomy (tl s p) (tl s q) with h | h | h
    · exact .inl (.inl h)
    · rcases tri L (p + 1) (q + 1) with k | k | k
      · exact .inl (.inr ⟨h, k⟩)
      · exact .inr (.inl ⟨h, k⟩)
      · exact .inr (.inr (.inr ⟨h.symm, k⟩))
    · exact .inr (.inr (.inl h))
theorem less_not_same : ∀ {L p q : Nat}, less s L p q → ¬ same s L p q := fun h k => less_irrefl (less_same h (same_symm k))
theorem less_add : ∀ (a b p q : Nat), less s (a + b) p q ↔ less s a p q ∨ (same s a p q ∧ less s b (p + a) (q + a))
  | 0, b, p, q => by simp [less, same]
  | a + 1, b, p, q => by
    rw [show a + 1 + b = (a + b) + 1 by omega]
    simp only [less, same]
    rw [less_add a b (p + 1) (q + 1), show p + 1 + a = p + (a + 1) by omega, show q + 1 + a = q + (a + 1) by omega]
    constructor
    · rintro (h | ⟨h, h' | h'⟩)
      · exact .inl (.inl h)
      · exact .inl (.inr ⟨h, h'⟩)
      · exact .inr ⟨⟨h, h'.1⟩, h'.2⟩
    · rintro ((h | h) | h)
      · exact .inl h
      · exact .inr ⟨h.1, .inl h.2⟩
      · exact .inr ⟨h.1.1, .inr ⟨h.1.2, h.2⟩⟩
theorem same_add : ∀ (a b p q : Nat), same s (a + b) p q ↔ same s a p q ∧ same s b (p + a) (q + a)
  | 0, b, p, q => by simp [same]
  | a + 1, b, p, q => by
    rw [show a + 1 + b = (a + b) + 1 by omega]
    simp only [same]
    rw [same_add a b (p + 1) (q + 1), show p + 1 + a = p + (a + 1) by omega, show q + 1 + a = q + (a + 1) by omega]
    exact and_assoc.symm
theorem same_at : ∀ {L p q : Nat}, same s L p q → ∀ i, i < L → tl s (p + i) = tl s (q + i)
  | L + 1, p, q, h, 0, _ => h.1
  | L + 1, p, q, h, i + 1, hi => by
    have := same_at h.2 i (by omega)
    rwa [show p + 1 + i = p + (i + 1) by omega, show q + 1 + i = q + (i + 1) by omega] at this
/-- Where the same letters reach the end, it is the same place. -/
theorem same_end {L p q : Nat} (hp : p ≤ s.length) (hq : q ≤ s.length) (h : same s L p q) (hL : s.length < p + L ∨ s.length < q + L) : p = q := by
  have key : ∀ p q : Nat, p ≤ s.length → q ≤ s.length → same s L p q → s.length < p + L → p ≤ q ∧ ¬ p < q := by
    intro p q hp hq h hL
    have h1 := same_at h (s.length - p) (by omega)
    rw [tl_ge (show s.length ≤ p + (s.length - p) by omega)] at h1
    have h2 : ¬ q + (s.length - p) < s.length := by
      intro hlt
      rw [tl_lt hlt] at h1; omega
    refine ⟨by omega, fun hlt => ?_⟩
    have h3 := same_at h (s.length - q) (by omega)
    rw [tl_ge (show s.length ≤ q + (s.length - q) by omega), tl_lt (show p + (s.length - q) < s.length by omega)] at h3
    omega
  rcases hL with hL | hL
  · have := key p q hp hq h hL; omega
  · have := key q p hq hp (same_symm h) hL; omega
end

/-- Counting: those of key 0, of key 1 and so on. -/
def ctd (m : Nat) (key : Nat → Nat) (l : List Nat) : List Nat := (List.range m).flatMap fun k => l.filter fun p => key p == k

theorem ctd_mem (m : Nat) (key : Nat → Nat) (l : List Nat) (x : Nat) : x ∈ ctd m key l ↔ x ∈ l ∧ key x < m := by
  simp only [ctd, List.mem_flatMap, List.mem_range, List.mem_filter, beq_iff_eq]
  constructor
  · rintro ⟨k, hk, hx, rfl⟩; exact ⟨hx, hk⟩
  · rintro ⟨hx, hk⟩; exact ⟨_, hk, hx, rfl⟩

theorem ctd_count (m : Nat) (key : Nat → Nat) (l : List Nat) (x : Nat) : (ctd m key l).count x = if key x < m then l.count x else 0 := by
  unfold ctd
  induction m with
  | zero => simp
  | succ m ih =>
    rw [List.range_succ, List.flatMap_append, List.count_append, ih]
    simp only [List.flatMap_cons, List.flatMap_nil, List.append_nil]
    by_cases h : key x = m
    · rw [if_neg (by omega), if_pos (by omega), List.count_filter (by simpa using h)]; simp
    · have e : (l.filter fun p => key p == m).count x = 0 := List.count_eq_zero.2 (by rw [List.mem_filter]; simp [h])
      rw [e]
      by_cases h2 : key x < m
      · rw [if_pos h2, if_pos (by omega)]; rfl
      · rw [if_neg h2, if_neg (by omega)]
theorem ctd_perm (m : Nat) (key : Nat → Nat) (l : List Nat) (h : ∀ x ∈ l, key x < m) : (ctd m key l).Perm l := by
  rw [List.perm_iff_count]
  intro x
  rw [ctd_count]
  split
  · rfl
  · rename_i hx
    rw [List.count_eq_zero.2 (fun hm => hx (h x hm))]
theorem ctd_pairwise (m : Nat) (key : Nat → Nat) (l : List Nat) (R : Nat → Nat → Prop) (h : l.Pairwise R) :
    (ctd m key l).Pairwise fun x y => key x < key y ∨ (key x = key y ∧ R x y) := by
  unfold ctd
  induction m with
  | zero => simp
  | succ m ih =>
    rw [List.range_succ, List.flatMap_append, List.pairwise_append]
    refine ⟨ih, ?_, ?_⟩
    · simp only [List.flatMap_cons, List.flatMap_nil, List.append_nil]
      have := h.sublist (List.filter_sublist (p := fun p => key p == m) (l := l))
      refine this.imp_of_mem ?_
      intro a b ha hb hR
      rw [List.mem_filter, beq_iff_eq] at ha hb
      exact .inr ⟨by omega, hR⟩
    · intro x hx y hy
      simp only [List.flatMap_cons, List.flatMap_nil, List.append_nil, List.mem_filter, beq_iff_eq] at hy
      have := ((ctd_mem m key l x).1 hx).2
      exact .inl (by omega)

/-- Ranks of a row's places: 1 more wherever 'diff' tells so. -/
def rkl (diff : Nat → Nat → Bool) : Nat → List Nat → List Nat
  | _, [] => []
  | _, [_] => []
  | r, a :: b :: l => (if diff a b then r + 1 else r) :: rkl diff (if diff a b then r + 1 else r) (b :: l)
/-- All of them, the first one's 0. -/
def rks (diff : Nat → Nat → Bool) (l : List Nat) : List Nat := match l with | [] => [] | l => 0 :: rkl diff 0 l

/-- A row in order, by a relation that its ranks tell. -/
structure Rank (s : List UInt8) (L : Nat) (A : List Nat) (r : Nat → Nat) : Prop where
  perm : A.Perm (List.range (s.length + 1))
  srt : A.Pairwise fun p q => ¬ less s L q p
  lt : ∀ p q, p ≤ s.length → q ≤ s.length → (r p < r q ↔ less s L p q)

section
variable {s : List UInt8}
theorem Rank.eq {L : Nat} {A : List Nat} {r : Nat → Nat} (h : Rank s L A r) {p q : Nat} (hp : p ≤ s.length) (hq : q ≤ s.length) : r p = r q ↔ same s L p q := by
  have h1 := h.lt p q hp hq
  have h2 := h.lt q p hq hp
  rcases tri (s := s) L p q with k | k | k
  · have := h1.2 k
    exact ⟨fun e => by omega, fun e => absurd e (less_not_same k)⟩
  · refine ⟨fun _ => k, fun _ => ?_⟩
    have n1 : ¬ less s L p q := fun hh => less_not_same hh k
    have n2 : ¬ less s L q p := fun hh => less_not_same hh (same_symm k)
    have := mt h1.1 n1
    have := mt h2.1 n2
    omega
  · have := h2.2 k
    exact ⟨fun e => by omega, fun e => absurd (same_symm e) (less_not_same k)⟩

/-- The two keys of a doubling. -/
def snd (s : List UInt8) (L : Nat) (r : Nat → Nat) (p : Nat) : Nat := if p + L < s.length + 1 then r (p + L) + 1 else 0

theorem pair_less {L : Nat} {A : List Nat} {r : Nat → Nat} (h : Rank s L A r) {p q : Nat} (hp : p ≤ s.length) (hq : q ≤ s.length) :
    (r p < r q ∨ (r p = r q ∧ snd s L r p < snd s L r q)) ↔ less s (L + L) p q := by
  rw [less_add, h.lt p q hp hq, h.eq hp hq]
  constructor
  · rintro (h1 | ⟨h1, h2⟩)
    · exact .inl h1
    · refine .inr ⟨h1, ?_⟩
      unfold snd at h2
      by_cases hpL : p + L ≤ s.length
      · by_cases hqL : q + L ≤ s.length
        · rw [if_pos (by omega), if_pos (by omega)] at h2
          exact (h.lt _ _ hpL hqL).1 (by omega)
        · rw [if_neg (show ¬ q + L < s.length + 1 by omega)] at h2; omega
      · have e := same_end hp hq h1 (.inl (by omega))
        subst e; omega
  · rintro (h1 | ⟨h1, h2⟩)
    · exact .inl h1
    · refine .inr ⟨h1, ?_⟩
      unfold snd
      by_cases hqL : q + L ≤ s.length
      · by_cases hpL : p + L ≤ s.length
        · rw [if_pos (by omega), if_pos (by omega)]
          have := (h.lt _ _ hpL hqL).2 h2; omega
        · have e := same_end hp hq h1 (.inl (by omega))
          subst e; omega
      · have e := same_end hp hq h1 (.inr (by omega))
        subst e
        exact absurd h2 less_irrefl
theorem pair_same {L : Nat} {A : List Nat} {r : Nat → Nat} (h : Rank s L A r) {p q : Nat} (hp : p ≤ s.length) (hq : q ≤ s.length) :
    (r p = r q ∧ snd s L r p = snd s L r q) ↔ same s (L + L) p q := by
  have h1 := pair_less h hp hq
  have h2 := pair_less h hq hp
  rcases tri (s := s) (L + L) p q with k | k | k
  · have := h1.2 k
    exact ⟨fun e => by omega, fun e => absurd e (less_not_same k)⟩
  · refine ⟨fun _ => k, fun _ => ?_⟩
    have := mt h1.1 (fun hh => less_not_same hh k)
    have := mt h2.1 (fun hh => less_not_same hh (same_symm k))
    omega
  · have := h2.2 k
    exact ⟨fun e => by omega, fun e => absurd (same_symm e) (less_not_same k)⟩
end

/-- Where ranks are told one behind the other along a row that is in order, they tell its order. -/
theorem ranks_tell {s : List UInt8} {L : Nat} {A : List Nat} (hp : A.Perm (List.range (s.length + 1))) (hs : A.Pairwise fun p q => ¬ less s L q p) (r : Nat → Nat)
    (h : ∀ i, (hi : i + 1 < A.length) → (same s L A[i] A[i + 1] → r A[i + 1] = r A[i]) ∧ (¬ same s L A[i] A[i + 1] → r A[i + 1] = r A[i] + 1)) : Rank s L A r := by
  have hord : ∀ i j, (hi : i < j) → (hj : j < A.length) → ¬ less s L A[j] A[i] := fun i j hi hj => List.pairwise_iff_getElem.1 hs i j (by omega) hj hi
  have key : ∀ d i, (hi : i + d < A.length) → r A[i] ≤ r A[i + d] ∧ (same s L A[i] A[i + d] → r A[i] = r A[i + d]) ∧ (less s L A[i] A[i + d] → r A[i] < r A[i + d]) := by
    intro d
    induction d with
    | zero => intro i hi; exact ⟨Nat.le_refl _, fun _ => rfl, fun h => absurd h less_irrefl⟩
    | succ d ih =>
      intro i hi
      obtain ⟨h1, h2, h3⟩ := ih i (by omega)
      obtain ⟨k1, k2⟩ := h (i + d) (by omega)
      have e : A[i + (d + 1)] = A[i + d + 1] := rfl
      rw [e]
      by_cases hsm : same s L A[i + d] A[i + d + 1]
      · have := k1 hsm
        refine ⟨by omega, fun hh => ?_, fun hh => ?_⟩
        · have := h2 (same_trans hh (same_symm hsm)); omega
        · have := h3 (less_same hh (same_symm hsm)); omega
      · have hk := k2 hsm
        refine ⟨by omega, fun hh => ?_, fun _ => by omega⟩
        exfalso
        have hl : less s L A[i + d] A[i + d + 1] := by
          rcases tri (s := s) L A[i + d] A[i + d + 1] with t | t | t
          · exact t
          · exact absurd t hsm
          · exact absurd t (hord (i + d) (i + d + 1) (by omega) (by omega))
        rcases Nat.eq_zero_or_pos d with rfl | hd
        · exact less_not_same hl hh
        · rcases tri (s := s) L A[i] A[i + d] with t | t | t
          · exact less_not_same (less_trans t hl) hh
          · exact less_not_same (same_less t hl) hh
          · exact hord i (i + d) (by omega) (by omega) t
  refine ⟨hp, hs, ?_⟩
  intro p q hpl hql
  obtain ⟨i, hi, rfl⟩ := List.mem_iff_getElem.1 (hp.mem_iff.2 (List.mem_range.2 (show p < s.length + 1 by omega)))
  obtain ⟨j, hj, rfl⟩ := List.mem_iff_getElem.1 (hp.mem_iff.2 (List.mem_range.2 (show q < s.length + 1 by omega)))
  rcases Nat.lt_trichotomy i j with hij | hij | hij
  · obtain ⟨h1, h2, h3⟩ := key (j - i) i (by omega)
    have e : A[i + (j - i)]'(by omega) = A[j] := by congr 1; omega
    rw [e] at h1 h2 h3
    refine ⟨fun hlt => ?_, h3⟩
    rcases tri (s := s) L A[i] A[j] with t | t | t
    · exact t
    · have := h2 t; omega
    · exact absurd t (hord i j hij hj)
  · subst hij
    exact ⟨fun h => by omega, fun h => absurd h less_irrefl⟩
  · obtain ⟨h1, h2, h3⟩ := key (i - j) j (by omega)
    have e : A[j + (i - j)]'(by omega) = A[i] := by congr 1; omega
    rw [e] at h1 h2 h3
    exact ⟨fun hlt => by omega, fun hl => absurd hl (hord j i hij hi)⟩

/-- The row that a doubling makes is in order. -/
theorem doubled_srt {s : List UInt8} {L : Nat} {A : List Nat} {r : Nat → Nat} (h : Rank s L A r) (hr : ∀ p, p ≤ s.length → r p ≤ s.length) :
    (ctd (s.length + 1 + 1) r (ctd (s.length + 1 + 1 + 1) (snd s L r) A)).Perm (List.range (s.length + 1)) ∧
    (ctd (s.length + 1 + 1) r (ctd (s.length + 1 + 1 + 1) (snd s L r) A)).Pairwise fun p q => ¬ less s (L + L) q p := by
  have hm : ∀ x ∈ A, x ≤ s.length := fun x hx => by have := List.mem_range.1 (h.perm.mem_iff.1 hx); omega
  have p1 : (ctd (s.length + 1 + 1 + 1) (snd s L r) A).Perm A := ctd_perm _ _ _ (fun x hx => by
    unfold snd; split
    · have := hr (x + L) (by omega); omega
    · omega)
  have p2 : (ctd (s.length + 1 + 1) r (ctd (s.length + 1 + 1 + 1) (snd s L r) A)).Perm A := (ctd_perm _ _ _ (fun x hx => by have := hr x (hm x (p1.mem_iff.1 hx)); omega)).trans p1
  refine ⟨p2.trans h.perm, ?_⟩
  have w1 := ctd_pairwise (s.length + 1 + 1 + 1) (snd s L r) A (fun _ _ => True) (List.pairwise_of_forall (fun _ _ => trivial))
  have w2 := ctd_pairwise (s.length + 1 + 1) r _ _ w1
  refine w2.imp_of_mem ?_
  intro a b ha hb hab hl
  have := (pair_less h (hm b (p2.mem_iff.1 hb)) (hm a (p2.mem_iff.1 ha))).2 hl
  omega

theorem first_srt (s : List UInt8) : (ctd 257 (tl s) (List.range (s.length + 1))).Perm (List.range (s.length + 1)) ∧ (ctd 257 (tl s) (List.range (s.length + 1))).Pairwise fun p q => ¬ less s 1 q p := by
  refine ⟨ctd_perm _ _ _ (fun x _ => by have := tl_le s x; omega), ?_⟩
  have w1 := ctd_pairwise 257 (tl s) (List.range (s.length + 1)) (fun _ _ => True) (List.pairwise_of_forall (fun _ _ => trivial))
  refine w1.imp ?_
  intro a b hab hl
  simp only [less, and_false, or_false] at hl
  omega

/-- Ranks go up by 1 at most: they are not above the last one; and where the last one is as great as may be, all are different. -/
theorem ranks_done {s : List UInt8} {L : Nat} {A : List Nat} {r : Nat → Nat} (h : Rank s L A r) (h0 : ∀ hz : 0 < A.length, r A[0] = 0) (h1 : ∀ i, (hi : i + 1 < A.length) → r A[i + 1] ≤ r A[i] + 1)
    (hd : ∀ hz : s.length < A.length, r (A[s.length]) = s.length) : A.Pairwise fun p q => less s L p q := by
  have hl : A.length = s.length + 1 := by rw [h.perm.length_eq, List.length_range]
  have hm : ∀ i (hi : i < A.length), A[i] ≤ s.length := fun i hi => by have := List.mem_range.1 (h.perm.mem_iff.1 (List.getElem_mem hi)); omega
  have up : ∀ d i, (hi : i + d < A.length) → r A[i + d] ≤ r A[i] + d := by
    intro d
    induction d with
    | zero => intro i _; exact Nat.le_refl _
    | succ d ih =>
      intro i hi
      have a := ih i (by omega)
      have b := h1 (i + d) (by omega)
      have e : A[i + (d + 1)] = A[i + d + 1] := rfl
      rw [e]; omega
  have all : ∀ i, (hi : i < A.length) → r A[i] = i := by
    intro i hi
    have a := up i 0 (by omega)
    have b := up (s.length - i) i (by omega)
    have e1 : A[0 + i]'(by omega) = A[i] := by congr 1; omega
    have e2 : A[i + (s.length - i)]'(by omega) = A[s.length]'(by omega) := by congr 1; omega
    rw [e1, h0 (by omega)] at a
    rw [e2, hd (by omega)] at b
    omega
  rw [List.pairwise_iff_getElem]
  intro i j hi hj hij
  exact (h.lt _ _ (hm i hi) (hm j hj)).1 (by rw [all i hi, all j hj]; exact hij)

/-- Where all places' beginnings are different, the last rank is as great as may be. -/
theorem ranks_far {s : List UInt8} {L : Nat} {A : List Nat} {r : Nat → Nat} (h : Rank s L A r) (h0 : ∀ hz : 0 < A.length, r A[0] = 0) (hL : s.length < L)
    (h2 : ∀ i, (hi : i + 1 < A.length) → ¬ same s L A[i] A[i + 1] → r A[i + 1] = r A[i] + 1) (hz : s.length < A.length) : r A[s.length] = s.length := by
  have hl : A.length = s.length + 1 := by rw [h.perm.length_eq, List.length_range]
  have hm : ∀ i (hi : i < A.length), A[i] ≤ s.length := fun i hi => by have := List.mem_range.1 (h.perm.mem_iff.1 (List.getElem_mem hi)); omega
  have hnd : A.Nodup := h.perm.nodup_iff.2 List.nodup_range
  have all : ∀ i, (hi : i < A.length) → r A[i] = i := by
    intro i
    induction i with
    | zero => intro hi; exact h0 hi
    | succ i ih =>
      intro hi
      rw [h2 i hi, ih (by omega)]
      intro hs
      have := same_end (hm _ _) (hm _ _) hs (.inl (by omega))
      have := (List.getElem_inj hnd).1 this
      omega
  exact all _ hz

/-- The suffixes in order. -/
structure Sorted (s : List UInt8) (A : List Nat) : Prop where
  perm : A.Perm (List.range (s.length + 1))
  srt : A.Pairwise fun p q => less s (s.length + 1) p q

theorem sorted_of {s : List UInt8} {L : Nat} {A : List Nat} (hp : A.Perm (List.range (s.length + 1))) (h : A.Pairwise fun p q => less s L p q) : Sorted s A := by
  refine ⟨hp, h.imp_of_mem ?_⟩
  intro a b ha hb hl
  have ha' := List.mem_range.1 (hp.mem_iff.1 ha)
  have hb' := List.mem_range.1 (hp.mem_iff.1 hb)
  rcases tri (s := s) (s.length + 1) a b with t | t | t
  · exact t
  · have e := same_end (by omega) (by omega) t (.inl (by omega))
    subst e
    exact absurd hl less_irrefl
  · exfalso
    rcases Nat.le_total L (s.length + 1) with hL | hL
    · obtain ⟨d, hd⟩ := Nat.le.dest hL
      rw [← hd, less_add] at t
      rcases t with t | t
      · exact less_irrefl (less_trans hl t)
      · exact less_not_same hl (same_symm t.1)
    · obtain ⟨d, hd⟩ := Nat.le.dest hL
      rw [← hd, less_add] at hl
      rcases hl with hl | hl
      · exact less_irrefl (less_trans hl t)
      · exact less_not_same t (same_symm hl.1)
end Sx
end Go.Proofs.YtpbphhpldlckbaaGreat
