/- lens.Best's answer, symbol by symbol: plain lists, no program. Lengths as runs, and runs as bits: plain lists, no program. huff: symbols come back of their bytes; bytes that are cut, or have more behind them, are none's: plain lists, no program. -/
import Derived.Test.YtpbphhpldlckbaaGreatSc09
import Derived.Test.YtpbphhpldlckbaaGreatSc08
namespace Go.Proofs.YtpbphhpldlckbaaGreat
namespace Ln
open St

/-- The symbols that come, with how often. -/
def lv : Nat → List Int → List Thing
  | _, [] => []
  | s, n :: r => if 0 < n then (n, (s : Int)) :: lv (s + 1) r else lv (s + 1) r

def inc (l : List Int) (s : Nat) : List Int := l.set s (l.getD s 0 + 1)
def incs (o : List Int) (xs : List Thing) : List Int := xs.foldl (fun o x => if x.2 < 0 then o else inc o x.2.toNat) o

/-- What lens.taken does to the lengths. -/
def takenP (F : List Thing) : Nat → Nat → List Int → List Int
  | 0, n, o => incs o ((rowsL F 0).take n)
  | i + 1, n, o => takenP F i (2 * npk ((rowsL F (i + 1)).take n)) (incs o ((rowsL F (i + 1)).take n))

def bestL (counts : List Int) (most : Nat) : List Int :=
  if (stab wt (lv 0 counts)).length < 2 then (stab wt (lv 0 counts)).foldl (fun o x => o.set x.2.toNat 1) (List.replicate counts.length 0)
  else takenP (stab wt (lv 0 counts)) (most - 1) (2 * (stab wt (lv 0 counts)).length - 2) (List.replicate counts.length 0)

theorem incs_nil (o : List Int) : incs o [] = o := rfl
theorem takenP_zero (F : List Thing) : ∀ (i : Nat) (o : List Int), takenP F i 0 o = o
  | 0, o => by simp [takenP, incs_nil]
  | i + 1, o => by
    simp only [takenP, List.take_zero, incs_nil]
    rw [show npk ([] : List Thing) = 0 from rfl]
    exact takenP_zero F i o

theorem length_inc (o : List Int) (s : Nat) : (inc o s).length = o.length := by simp [inc]
theorem length_incs : ∀ (xs : List Thing) (o : List Int), (incs o xs).length = o.length
  | [], _ => rfl
  | x :: r, o => by
    unfold incs
    rw [List.foldl_cons]
    have := length_incs r
    unfold incs at this
    rw [this]
    split
    · rfl
    · exact length_inc _ _
theorem length_takenP (F : List Thing) : ∀ (i n : Nat) (o : List Int), (takenP F i n o).length = o.length
  | 0, n, o => length_incs _ _
  | i + 1, n, o => by rw [takenP, length_takenP F i, length_incs]

/-- Just the leaves are counted. -/
theorem incs_leaves : ∀ (xs : List Thing) (o : List Int), incs o xs = incs o (xs.filter fun x => decide (0 ≤ x.2))
  | [], _ => rfl
  | x :: r, o => by
    have ih := incs_leaves r
    by_cases h : x.2 < 0
    · rw [List.filter_cons_of_neg (by simp; omega), ← ih]
      unfold incs; rw [List.foldl_cons, if_pos h]
    · rw [List.filter_cons_of_pos (by simp; omega)]
      unfold incs at *; rw [List.foldl_cons, List.foldl_cons, if_neg h, ih]

/-- The lengths o are those of the leaves F, leaf by leaf, and nought elsewhere. -/
structure Rel (F : List Thing) (ls : List Nat) (o : List Int) : Prop where
  len : ls.length = F.length
  leaf : ∀ (j : Nat) (x : Thing), F[j]? = some x → o[x.2.toNat]? = some ((ls.getD j 0 : Nat) : Int)
  other : ∀ s, s < o.length → (∀ x ∈ F, x.2.toNat ≠ s) → o[s]? = some 0

structure Syms (F : List Thing) (N : Nat) : Prop extends Leaves F where
  lt : ∀ x ∈ F, x.2.toNat < N
  nodup : (F.map fun x => x.2.toNat).Nodup

theorem bump_succ (ls : List Nat) (a : Nat) (ha : a < ls.length) : bump ls (a + 1) = (bump ls a).set a (ls.getD a 0 + 1) := by
  unfold bump
  rw [List.take_add_one, List.getElem?_eq_getElem ha, List.map_append, List.set_append_right _ _ (by simp; omega)]
  simp only [Option.toList_some, List.map_cons, List.map_nil, List.append_assoc, List.length_map, List.length_take, List.getD_eq_getElem?_getD, List.getElem?_eq_getElem ha, Option.getD_some]
  rw [Nat.min_eq_left (by omega), Nat.sub_self, List.drop_eq_getElem_cons ha, List.set_cons_zero]; simp

theorem getD_bump (ls : List Nat) (a j : Nat) (h : a ≤ j) : (bump ls a).getD j 0 = ls.getD j 0 := by
  unfold bump
  rw [List.getD_eq_getElem?_getD, List.getD_eq_getElem?_getD]
  by_cases hj : j < ls.length
  · rw [List.getElem?_append_right (by simp; omega)]
    simp only [List.length_map, List.length_take]
    rw [Nat.min_eq_left (by omega), List.getElem?_drop, show a + (j - a) = j by omega]
  · rw [List.getElem?_eq_none (by simp; omega), List.getElem?_eq_none (by omega)]

theorem nodup_at {F : List Thing} (h : (F.map fun x => x.2.toNat).Nodup) {i j : Nat} {x y : Thing} (hi : F[i]? = some x) (hj : F[j]? = some y) (e : x.2.toNat = y.2.toNat) : i = j := by
  have hi' := (List.getElem?_eq_some_iff.1 hi)
  have hj' := (List.getElem?_eq_some_iff.1 hj)
  obtain ⟨h1, e1⟩ := hi'
  obtain ⟨h2, e2⟩ := hj'
  have := (List.getElem_inj (xs := F.map fun x => x.2.toNat) (i := i) (j := j) (h₀ := by simpa using h1) (h₁ := by simpa using h2) h).1 (by simp [e1, e2, e])
  exact this

theorem rel_incs {F : List Thing} {N : Nat} (h : Syms F N) {ls : List Nat} {o : List Int} (ho : o.length = N) (hr : Rel F ls o) : ∀ a, a ≤ F.length → Rel F (bump ls a) (incs o (F.take a))
  | 0, _ => by simpa [bump, incs_nil] using hr
  | a + 1, ha => by
    have ih := rel_incs h ho hr a (by omega)
    have hF : F[a]? = some F[a] := List.getElem?_eq_getElem (by omega)
    have hlen := hr.len
    have e : incs o (F.take (a + 1)) = inc (incs o (F.take a)) F[a].2.toNat := by
      rw [List.take_add_one, hF]
      unfold incs
      rw [List.foldl_append]
      simp only [Option.toList_some, List.foldl_cons, List.foldl_nil]
      rw [if_neg (by have := h.sym F[a] (List.getElem_mem _); omega)]
    rw [e, bump_succ ls a (by omega)]
    have hlt := h.lt F[a] (List.getElem_mem _)
    have hcur := ih.leaf a _ hF
    rw [getD_bump ls a a (Nat.le_refl _)] at hcur
    refine ⟨by rw [List.length_set, length_bump, hlen], ?_, ?_⟩
    · intro j x hx
      unfold inc
      by_cases hj : j = a
      · subst hj
        rw [hF] at hx; cases hx
        rw [List.getElem?_set_self (by rw [length_incs, ho]; exact hlt), List.getD_eq_getElem?_getD, hcur]
        have e2 : ((bump ls j).set j (ls.getD j 0 + 1)).getD j 0 = ls.getD j 0 + 1 := by
          rw [List.getD_eq_getElem?_getD, List.getElem?_set_self (by rw [length_bump]; omega)]; rfl
        rw [e2]; simp
      · have hne : F[a].2.toNat ≠ x.2.toNat := fun e => hj (nodup_at h.nodup hx hF e.symm)
        rw [List.getElem?_set_ne hne, ih.leaf j x hx, List.getD_eq_getElem?_getD, List.getD_eq_getElem?_getD, List.getElem?_set_ne (fun e => hj e.symm)]
    · intro s hs hn
      unfold inc at hs ⊢
      rw [List.length_set] at hs
      rw [List.getElem?_set_ne (hn F[a] (List.getElem_mem _))]
      exact ih.other s hs hn

theorem rel_taken {F : List Thing} {N : Nat} (h : Syms F N) : ∀ (i n : Nat) (ls : List Nat) (o : List Int), n ≤ (rowsL F i).length → o.length = N → Rel F ls o → Rel F ((tk F i n).foldl bump ls) (takenP F i n o)
  | 0, n, ls, o, hn, ho, hr => by
    simp only [tk, List.foldl_cons, List.foldl_nil, takenP]
    rw [incs_leaves, (rows_take0 h.toLeaves n).1]
    exact rel_incs h ho hr n hn
  | i + 1, n, ls, o, hn, ho, hr => by
    obtain ⟨l, b, hlb, hl, hb, he, hf, hk, hcmp⟩ := rows_take h.toLeaves i n hn
    simp only [tk, List.foldl_cons, takenP, hk]
    rw [incs_leaves, hf, show n - b = l by omega]
    exact rel_taken h i (2 * b) _ _ hb (by rw [length_incs, ho]) (rel_incs h ho hr l hl)

theorem lv_ge : ∀ (l : List Int) (s : Nat), ∀ x ∈ lv s l, 0 < wt x ∧ (s : Int) ≤ x.2 ∧ x.2 < s + l.length
  | [], s, x, h => by simp [lv] at h
  | n :: r, s, x, h => by
    simp only [lv] at h
    have ih := lv_ge r (s + 1)
    split at h
    · rename_i hn
      rcases List.mem_cons.1 h with rfl | h
      · simp [wt, hn]; omega
      · have := ih x h; simp only [List.length_cons]; omega
    · have := ih x h; simp only [List.length_cons]; omega
theorem lv_nodup : ∀ (l : List Int) (s : Nat), ((lv s l).map fun x => x.2.toNat).Nodup
  | [], s => by simp [lv]
  | n :: r, s => by
    simp only [lv]
    split
    · rw [List.map_cons, List.nodup_cons]
      refine ⟨?_, lv_nodup r (s + 1)⟩
      intro hm
      obtain ⟨x, hx, e⟩ := List.mem_map.1 hm
      have := lv_ge r (s + 1) x hx
      simp only [Int.toNat_natCast] at e
      omega
    · exact lv_nodup r (s + 1)
theorem syms_lv (counts : List Int) : Syms (stab wt (lv 0 counts)) counts.length := by
  have hp := stab_perm wt (lv 0 counts)
  refine ⟨⟨stab_srt wt _, ?_, ?_⟩, ?_, ?_⟩
  · intro x hx; exact (lv_ge counts 0 x (hp.mem_iff.1 hx)).1
  · intro x hx; have := (lv_ge counts 0 x (hp.mem_iff.1 hx)).2.1; simpa using this
  · intro x hx; have := (lv_ge counts 0 x (hp.mem_iff.1 hx)).2; omega
  · exact (hp.map _).nodup_iff.2 (lv_nodup counts 0)

theorem length_lv : ∀ (l : List Int) (s : Nat), (lv s l).length ≤ l.length
  | [], s => by simp [lv]
  | n :: r, s => by
    have := length_lv r (s + 1)
    simp only [lv]
    split <;> simp only [List.length_cons] <;> omega

/-- A word's part of the code's room. -/
def kr (x : Int) : Nat := if 0 < x then 2 ^ (15 - x.toNat) else 0

theorem kr_sum : ∀ (counts o : List Int) (s : Nat), o.length = counts.length → (∀ i, (hi : i < counts.length) → ¬ 0 < counts[i] → o.getD i 0 = 0) →
    (o.map kr).sum = ((lv s counts).map fun x => kr (o.getD (x.2.toNat - s) 0)).sum
  | [], o, s, hl, _ => by
    have : o = [] := List.eq_nil_of_length_eq_zero (by simpa using hl)
    subst this; simp [lv]
  | n :: r, o, s, hl, h0 => by
    rcases o with _ | ⟨y, o⟩
    · simp at hl
    have ih := kr_sum r o (s + 1) (by simpa using hl) (fun i hi hn => by have := h0 (i + 1) (by simp; omega) (by simpa using hn); simpa using this)
    have e : ((lv (s + 1) r).map fun x => kr ((y :: o).getD (x.2.toNat - s) 0)) = ((lv (s + 1) r).map fun x => kr (o.getD (x.2.toNat - (s + 1)) 0)) := by
      refine List.map_congr_left fun x hx => ?_
      have := lv_ge r (s + 1) x hx
      rw [show x.2.toNat - s = (x.2.toNat - (s + 1)) + 1 by omega]
      rfl
    simp only [lv, List.map_cons, List.sum_cons]
    split
    · rw [List.map_cons, List.sum_cons, e, ih]
      simp
    · rename_i hn
      have := h0 0 (by simp) (by simpa using hn)
      simp at this
      rw [e, ih, this]; simp [kr]

/-- What lens.Best promises. -/
structure Good (counts o : List Int) (most : Nat) : Prop where
  len : o.length = counts.length
  rng : ∀ x ∈ o, 0 ≤ x ∧ x ≤ most
  used : ∀ i, (hi : i < counts.length) → (0 < o.getD i 0 ↔ 0 < counts[i])

theorem lv_mem : ∀ (l : List Int) (s i : Nat) (hi : i < l.length), 0 < l[i] → (l[i], ((s + i : Nat) : Int)) ∈ lv s l
  | n :: r, s, 0, _, h => by simp only [lv]; rw [if_pos (by simpa using h)]; simp
  | n :: r, s, i + 1, hi, h => by
    have := lv_mem r (s + 1) i (by simpa using hi) (by simpa using h)
    simp only [lv]
    rw [show s + (i + 1) = s + 1 + i by omega]
    split
    · exact List.mem_cons_of_mem _ (by simpa using this)
    · simpa using this
theorem lv_of_mem : ∀ (l : List Int) (s : Nat), ∀ x ∈ lv s l, ∃ i, ∃ hi : i < l.length, x = (l[i], ((s + i : Nat) : Int)) ∧ 0 < l[i]
  | [], s, x, h => by simp [lv] at h
  | n :: r, s, x, h => by
    simp only [lv] at h
    have ih : ∀ x ∈ lv (s + 1) r, ∃ i, ∃ hi : i < (n :: r).length, x = ((n :: r)[i], ((s + i : Nat) : Int)) ∧ 0 < (n :: r)[i] := by
      intro x hx
      obtain ⟨i, hi, e, h0⟩ := lv_of_mem r (s + 1) x hx
      exact ⟨i + 1, by simp; omega, by rw [e]; simp; omega, by simpa using h0⟩
    split at h
    · rename_i hn
      rcases List.mem_cons.1 h with rfl | h
      · exact ⟨0, by simp, by simp, by simpa using hn⟩
      · exact ih x h
    · exact ih x h

theorem best_many (counts : List Int) (most : Nat) (hm : 0 < most) (hm2 : most ≤ 15) (hn : 2 ≤ (stab wt (lv 0 counts)).length) (hs : (stab wt (lv 0 counts)).length ≤ 2 ^ most) :
    Good counts (bestL counts most) most ∧ ((bestL counts most).map kr).sum = 32768 := by
  have hS := syms_lv counts
  have hlow : 2 * (stab wt (lv 0 counts)).length - 2 ≤ (rowsL (stab wt (lv 0 counts)) (most - 1)).length := by
    rcases length_rows (F := stab wt (lv 0 counts)) (most - 1) with h1 | h1
    · have : ((stab wt (lv 0 counts)).length - 1) / 2 ^ (most - 1) < 2 := by
        rw [Nat.div_lt_iff_lt_mul (Nat.two_pow_pos _)]
        rw [show most = (most - 1) + 1 by omega, Nat.pow_succ] at hs; omega
      omega
    · omega
  have hR := rel_taken hS (most - 1) (2 * (stab wt (lv 0 counts)).length - 2) (List.replicate (stab wt (lv 0 counts)).length 0) (List.replicate counts.length 0) hlow (by simp)
    ⟨by simp, fun j x hx => by
      have := hS.lt x (List.mem_of_getElem? hx)
      rw [List.getElem?_replicate, if_pos this, List.getD_eq_getElem?_getD, List.getElem?_replicate]
      split <;> rfl, fun s hs _ => by rw [List.getElem?_replicate, if_pos (by simpa using hs)]⟩
  have hB := lens_bounds hS.toLeaves most hm hn hs
  have hW := lens_whole hS.toLeaves most hm hn hs
  have e : bestL counts most = takenP (stab wt (lv 0 counts)) (most - 1) (2 * (stab wt (lv 0 counts)).length - 2) (List.replicate counts.length 0) := by
    unfold bestL; rw [if_neg (by omega)]
  rw [← e] at hR
  have hlen : (bestL counts most).length = counts.length := by rw [e, length_takenP, List.length_replicate]
  have hll := length_lensOf (F := stab wt (lv 0 counts)) most
  change Rel _ (lensOf (stab wt (lv 0 counts)) most) _ at hR
  have hb : ∀ j, j < (stab wt (lv 0 counts)).length → 1 ≤ (lensOf (stab wt (lv 0 counts)) most).getD j 0 ∧ (lensOf (stab wt (lv 0 counts)) most).getD j 0 ≤ most := by
    intro j hj
    rw [List.getD_eq_getElem?_getD, List.getElem?_eq_getElem (by omega)]
    exact hB _ (List.getElem_mem _)
  have hused : ∀ i, (hi : i < counts.length) → (0 < counts[i] ∧ 1 ≤ (bestL counts most).getD i 0 ∧ (bestL counts most).getD i 0 ≤ most) ∨ (¬ 0 < counts[i] ∧ (bestL counts most).getD i 0 = 0) := by
    intro i hi
    by_cases h0 : 0 < counts[i]
    · left
      have hmem := (stab_perm wt (lv 0 counts)).mem_iff.2 (lv_mem counts 0 i hi h0)
      obtain ⟨j, hj⟩ := List.mem_iff_getElem?.1 hmem
      have := hR.leaf j _ hj
      have hjl := (List.getElem?_eq_some_iff.1 hj).1
      have hbj := hb j hjl
      simp only [Nat.zero_add, Int.toNat_natCast] at this
      rw [List.getD_eq_getElem?_getD, this]
      simp only [Option.getD_some]
      exact ⟨h0, by omega, by omega⟩
    · right
      refine ⟨h0, ?_⟩
      have := hR.other i (by omega) (by
        intro x hx e
        obtain ⟨k, hk, rfl, hk0⟩ := lv_of_mem counts 0 x ((stab_perm wt (lv 0 counts)).mem_iff.1 hx)
        simp at e
        subst e
        exact h0 hk0)
      rw [List.getD_eq_getElem?_getD, this]; rfl
  refine ⟨⟨hlen, ?_, ?_⟩, ?_⟩
  · intro x hx
    obtain ⟨i, hi, e⟩ := List.mem_iff_getElem.1 hx
    have := hused i (by omega)
    rw [List.getD_eq_getElem?_getD, List.getElem?_eq_getElem hi, Option.getD_some, e] at this
    omega
  · intro i hi
    have := hused i hi
    constructor <;> intro <;> omega
  · rw [kr_sum counts (bestL counts most) 0 hlen (by intro i hi hn; have := hused i hi; omega)]
    have hp := ((stab_perm wt (lv 0 counts)).map fun x => kr ((bestL counts most).getD (x.2.toNat - 0) 0)).sum_nat
    rw [← hp]
    have e2 : ((stab wt (lv 0 counts)).map fun x => kr ((bestL counts most).getD (x.2.toNat - 0) 0)) = (lensOf (stab wt (lv 0 counts)) most).map fun x => 2 ^ (15 - x) := by
      refine List.ext_getElem (by simp [hll]) fun j h1 h2 => ?_
      simp only [List.length_map] at h1 h2
      have := hR.leaf j _ (List.getElem?_eq_getElem h1)
      have hbj := hb j h1
      rw [List.getD_eq_getElem?_getD, List.getElem?_eq_getElem h2, Option.getD_some] at hbj this
      rw [List.getElem_map, List.getElem_map, Nat.sub_zero, List.getD_eq_getElem?_getD, this, Option.getD_some]
      unfold kr
      rw [if_pos (by omega), Int.toNat_natCast]
    rw [e2]
    have e3 : ((lensOf (stab wt (lv 0 counts)) most).map fun x => 2 ^ (15 - x)) = (lensOf (stab wt (lv 0 counts)) most).map (fun x => 2 ^ (15 - most) * 2 ^ (most - x)) := by
      refine List.map_congr_left fun x hx => ?_
      have := hB x hx
      rw [← Nat.pow_add]; congr 1; omega
    have e4 : ∀ (c : Nat) (l : List Nat), (l.map fun x => c * 2 ^ (most - x)).sum = c * room most l := by
      intro c l
      induction l with
      | nil => simp [room]
      | cons y r ih => simp only [room, List.map_cons, List.sum_cons] at *; rw [ih, Nat.mul_add]
    rw [e3, e4, hW, ← Nat.pow_add, show 15 - most + most = 15 by omega]

theorem best_few (counts : List Int) (most : Nat) (hn : (stab wt (lv 0 counts)).length < 2) :
    (lv 0 counts = [] ∧ bestL counts most = List.replicate counts.length 0) ∨
    ∃ i, ∃ hi : i < counts.length, lv 0 counts = [(counts[i], (i : Int))] ∧ 0 < counts[i] ∧ bestL counts most = (List.replicate counts.length 0).set i 1 := by
  unfold bestL
  rw [if_pos hn]
  have hp := stab_perm wt (lv 0 counts)
  have hl := hp.length_eq
  rcases h : lv 0 counts with _ | ⟨x, _ | ⟨y, r⟩⟩
  · left; exact ⟨rfl, rfl⟩
  · right
    obtain ⟨i, hi, e, h0⟩ := lv_of_mem counts 0 x (by rw [h]; simp)
    refine ⟨i, hi, ?_, h0, ?_⟩
    · rw [e]; simp
    · rw [stab_one, e]; simp
  · rw [h] at hl; rw [h] at hn; simp at hl; omega

theorem good_best (counts : List Int) (most : Nat) (hm : 0 < most) (hm2 : most ≤ 15) (hs : (lv 0 counts).length ≤ 2 ^ most) : Good counts (bestL counts most) most := by
  by_cases hn : (stab wt (lv 0 counts)).length < 2
  · rcases best_few counts most hn with ⟨h1, h2⟩ | ⟨i, hi, h1, h0, h2⟩
    · rw [h2]
      refine ⟨by simp, fun x hx => by rw [List.eq_of_mem_replicate hx]; omega, fun i hi => ?_⟩
      rw [List.getD_eq_getElem?_getD, List.getElem?_replicate, if_pos hi]
      simp only [Option.getD_some]
      constructor
      · intro h; omega
      · intro h
        have := lv_mem counts 0 i hi h
        rw [h1] at this; simp at this
    · rw [h2]
      refine ⟨by simp, fun x hx => ?_, fun j hj => ?_⟩
      · rcases List.mem_or_eq_of_mem_set hx with hx | rfl
        · rw [List.eq_of_mem_replicate hx]; omega
        · omega
      · rw [List.getD_eq_getElem?_getD]
        by_cases hij : i = j
        · subst hij
          rw [List.getElem?_set_self (by simpa using hi)]
          simp [h0]
        · rw [List.getElem?_set_ne hij, List.getElem?_replicate, if_pos hj]
          simp only [Option.getD_some]
          constructor
          · intro h; omega
          · intro h
            have := lv_mem counts 0 j hj h
            rw [h1] at this; simp at this; omega
  · exact (best_many counts most hm hm2 (by omega) (by rw [(stab_perm wt (lv 0 counts)).length_eq]; exact hs)).1
end Ln
end Go.Proofs.YtpbphhpldlckbaaGreat
namespace Go.Proofs.YtpbphhpldlckbaaGreat
namespace Tb
open Bt

/-- Runs told out. -/
def flat (R : List (Int × Int)) : List Int := R.flatMap fun x => List.replicate x.2.toNat x.1
/-- Runs as bits. -/
def tb (R : List (Int × Int)) : List Bool := R.flatMap fun x => toB 4 x.1.toNat ++ gam x.2.toNat
/-- Runs that differ from those ahead of them. -/
def Good : Int → List (Int × Int) → Prop
  | _, [] => True
  | last, x :: r => x.1 ≠ last ∧ 0 ≤ x.1 ∧ x.1 ≤ 15 ∧ 1 ≤ x.2 ∧ Good x.1 r
/-- Lengths taken of bits, as tab.Get takes them; none where it refuses. -/
def tg : Nat → Int → Nat → List Bool → Option (List Int × List Bool)
  | _, _, 0, b => some ([], b)
  | 0, _, _ + 1, _ => none
  | f + 1, last, left + 1, b =>
    if b.length < 4 then none
    else if (getGam (b.drop 4)).1 ≠ 0 then none
    else if (ofB (b.take 4) : Int) = last then none
    else if left + 1 < (getGam (b.drop 4)).2.1 then none
    else match tg f (ofB (b.take 4) : Int) (left + 1 - (getGam (b.drop 4)).2.1) (getGam (b.drop 4)).2.2 with
      | none => none
      | some (l, r) => some (List.replicate (getGam (b.drop 4)).2.1 (ofB (b.take 4) : Int) ++ l, r)

theorem tg_tb : ∀ (R : List (Int × Int)) (last : Int) (f left : Nat) (b : List Bool), Good last R → (flat R).length = left → R.length ≤ f → left ≤ 1000 → tg f last left (tb R ++ b) = some (flat R, b)
  | [], last, f, left, b, _, hl, _, _ => by
    have : left = 0 := by simpa [flat] using hl.symm
    subst this
    cases f <;> rfl
  | x :: R, last, f, left, b, hg, hl, hf, hb => by
    obtain ⟨h1, h2, h3, h4, h5⟩ := hg
    obtain ⟨f, rfl⟩ : ∃ f', f = f' + 1 := ⟨f - 1, by simp at hf; omega⟩
    have hfl : flat (x :: R) = List.replicate x.2.toNat x.1 ++ flat R := rfl
    have hlen : x.2.toNat + (flat R).length = left := by rw [hfl] at hl; simpa using hl
    obtain ⟨left, rfl⟩ : ∃ l', left = l' + 1 := ⟨left - 1, by omega⟩
    have htb : tb (x :: R) ++ b = toB 4 x.1.toNat ++ (gam x.2.toNat ++ (tb R ++ b)) := by
      unfold tb; rw [List.flatMap_cons]; simp
    have e1 : (tb (x :: R) ++ b).take 4 = toB 4 x.1.toNat := by rw [htb, List.take_left' (length_toB _ _)]
    have e2 : (tb (x :: R) ++ b).drop 4 = gam x.2.toNat ++ (tb R ++ b) := by rw [htb, List.drop_left' (length_toB _ _)]
    have e3 : getGam (gam x.2.toNat ++ (tb R ++ b)) = (0, x.2.toNat, tb R ++ b) := getGam_gam _ (by omega) (by omega) _
    have e4 : ((ofB (toB 4 x.1.toNat) : Nat) : Int) = x.1 := by rw [ofB_toB_lt 4 _ (by omega)]; omega
    have e5 : ¬ (tb (x :: R) ++ b).length < 4 := by rw [htb, List.length_append, length_toB]; omega
    have ih := tg_tb R x.1 f (left + 1 - x.2.toNat) b h5 (by omega) (by simp at hf; omega) (by omega)
    rw [tg, if_neg e5, e1, e2, e3, e4]
    simp only
    rw [if_neg (by simp), if_neg h1, if_neg (by omega), ih, hfl]

/-- One more length behind runs. -/
def stepR (R : List (Int × Int)) (n : Int) : List (Int × Int) :=
  match R.getLast? with
  | some (y, k) => if y = n then R.dropLast ++ [(y, k + 1)] else R ++ [(n, 1)]
  | none => R ++ [(n, 1)]
def runs (l : List Int) : List (Int × Int) := l.foldl stepR []

theorem good_snoc : ∀ (R : List (Int × Int)) (last n : Int), Good last R → (∀ y ∈ R.getLast?, y.1 ≠ n) → (R = [] → n ≠ last) → 0 ≤ n → n ≤ 15 → Good last (R ++ [(n, 1)])
  | [], last, n, _, _, h0, h1, h2 => ⟨h0 rfl, h1, h2, by simp, trivial⟩
  | [x], last, n, ⟨a, b, c, d, _⟩, h, _, h1, h2 => ⟨a, b, c, d, fun e => h x (by simp) e.symm, h1, h2, by simp, trivial⟩
  | x :: y :: R, last, n, ⟨a, b, c, d, g⟩, h, _, h1, h2 => ⟨a, b, c, d, good_snoc (y :: R) x.1 n g (by simpa using h) (by simp) h1 h2⟩
theorem good_more : ∀ (R : List (Int × Int)) (last y k : Int), Good last (R ++ [(y, k)]) → Good last (R ++ [(y, k + 1)])
  | [], last, y, k, ⟨a, b, c, d, _⟩ => ⟨a, b, c, by show 1 ≤ k + 1; have : 1 ≤ k := d; omega, trivial⟩
  | x :: R, last, y, k, ⟨a, b, c, d, g⟩ => ⟨a, b, c, d, good_more R x.1 y k g⟩
theorem good_last : ∀ (R : List (Int × Int)) (last y k : Int), Good last (R ++ [(y, k)]) → 1 ≤ k
  | [], _, _, _, ⟨_, _, _, d, _⟩ => d
  | x :: R, _, y, k, ⟨_, _, _, _, g⟩ => good_last R x.1 y k g
theorem flat_append (a b : List (Int × Int)) : flat (a ++ b) = flat a ++ flat b := List.flatMap_append ..

theorem stepR_good (R : List (Int × Int)) (n : Int) (h : Good (-1) R) (h1 : 0 ≤ n) (h2 : n ≤ 15) : Good (-1) (stepR R n) ∧ flat (stepR R n) = flat R ++ [n] := by
  unfold stepR
  rcases hl : R.getLast? with _ | ⟨y, k⟩
  · have : R = [] := List.getLast?_eq_none_iff.1 hl
    subst this
    exact ⟨⟨by show n ≠ -1; omega, h1, h2, by simp, trivial⟩, by simp [flat]⟩
  · obtain ⟨R', hR⟩ := List.getLast?_eq_some_iff.1 hl
    subst hR
    simp only
    split
    · rename_i e
      subst e
      rw [List.dropLast_concat]
      refine ⟨good_more R' _ _ _ h, ?_⟩
      have hk := good_last R' _ _ _ h
      rw [flat_append, flat_append, List.append_assoc]
      congr 1
      simp only [flat, List.flatMap_cons, List.flatMap_nil, List.append_nil]
      rw [show (k + 1).toNat = k.toNat + 1 by omega, List.replicate_succ']
    · rename_i e
      refine ⟨good_snoc _ _ _ h (by intro z hz; simp at hz; subst hz; exact e) (by simp) h1 h2, ?_⟩
      rw [flat_append]
      simp [flat]

theorem runs_good (l : List Int) (h : ∀ x ∈ l, 0 ≤ x ∧ x ≤ 15) : Good (-1) (runs l) ∧ flat (runs l) = l := by
  have : ∀ (l : List Int) (R : List (Int × Int)), Good (-1) R → (∀ x ∈ l, 0 ≤ x ∧ x ≤ 15) → Good (-1) (l.foldl stepR R) ∧ flat (l.foldl stepR R) = flat R ++ l := by
    intro l
    induction l with
    | nil => intro R hR _; exact ⟨hR, by simp⟩
    | cons x r ih =>
      intro R hR hx
      obtain ⟨a, b⟩ := stepR_good R x hR (hx x (by simp)).1 (hx x (by simp)).2
      obtain ⟨c, d⟩ := ih (stepR R x) a (fun y hy => hx y (by simp [hy]))
      exact ⟨c, by rw [List.foldl_cons, d, b]; simp⟩
  have := this l [] trivial h
  refine ⟨this.1, ?_⟩
  have h2 := this.2
  rw [show flat [] = [] from rfl, List.nil_append] at h2
  exact h2

theorem length_le_flat : ∀ (R : List (Int × Int)) (last : Int), Good last R → R.length ≤ (flat R).length
  | [], _, _ => by simp
  | x :: R, last, ⟨_, _, _, d, g⟩ => by
    have ih := length_le_flat R x.1 g
    have e : flat (x :: R) = List.replicate x.2.toNat x.1 ++ flat R := rfl
    rw [e, List.length_append, List.length_replicate, List.length_cons]; omega

/-- Lengths come back of their runs' bits. -/
theorem tab_back (l : List Int) (h : ∀ x ∈ l, 0 ≤ x ∧ x ≤ 15) (hl : l.length ≤ 1000) (b : List Bool) : tg l.length (-1) l.length (tb (runs l) ++ b) = some (l, b) := by
  obtain ⟨hg, hf⟩ := runs_good l h
  have hr : (runs l).length ≤ l.length := by have := length_le_flat (runs l) (-1) hg; rwa [hf] at this
  have := tg_tb (runs l) (-1) l.length l.length b hg (by rw [hf]) hr hl
  rwa [hf] at this
end Tb
end Go.Proofs.YtpbphhpldlckbaaGreat
namespace Go.Proofs.YtpbphhpldlckbaaGreat
namespace Tb
open Bt
theorem getGam_more (b t : List Bool) (h : (getGam b).1 = 0) : (getGam (b ++ t)).1 = 0 ∧ (getGam (b ++ t)).2.1 = (getGam b).2.1 ∧ (getGam (b ++ t)).2.2 = (getGam b).2.2 ++ t := by
  unfold getGam at h
  split at h; · simp at h
  rename_i h1
  split at h; · simp at h
  rename_i h2
  split at h; · simp at h
  rename_i h3
  split at h; · simp at h
  rename_i h4
  have hlt : nz b < b.length := by have := nz_le b; omega
  have hz : nz (b ++ t) = nz b := by
    have e : ∀ (b : List Bool), nz b < b.length → nz (b ++ t) = nz b := by
      intro b
      induction b with
      | nil => intro h; simp at h
      | cons x b ih =>
        intro h
        cases x
        · have e1 : ∀ r : List Bool, nz (false :: r) = 1 + nz r := fun r => by have := nz_replicate 1 r; simpa using this
          rw [List.cons_append, e1, e1, ih (by rw [e1, List.length_cons] at h; omega)]
        · rw [List.cons_append, nz_true, nz_true]
    exact e b hlt
  have e0 : getGam b = (0, ofB ((b.drop (nz b)).take (nz b + 1)), b.drop (2 * nz b + 1)) := by
    unfold getGam; rw [if_neg h1, if_neg h2, if_neg h3, if_neg h4]
  have e1 : getGam (b ++ t) = (0, ofB (((b ++ t).drop (nz b)).take (nz b + 1)), (b ++ t).drop (2 * nz b + 1)) := by
    unfold getGam
    rw [hz, List.length_append, if_neg (by omega), if_neg (by omega), if_neg h3, if_neg (by omega)]
  rw [e0, e1]
  refine ⟨rfl, ?_, ?_⟩
  · simp only
    rw [List.drop_append_of_le_length (by omega), List.take_append_of_le_length (by simp; omega)]
  · simp only
    rw [List.drop_append_of_le_length (by omega)]

theorem tg_more : ∀ (f : Nat) (last : Int) (left : Nat) (b : List Bool) (l : List Int) (r t : List Bool), tg f last left b = some (l, r) → tg f last left (b ++ t) = some (l, r ++ t)
  | f, last, 0, b, l, r, t, h => by
    simp only [tg, Option.some.injEq, Prod.mk.injEq] at h ⊢
    obtain ⟨rfl, rfl⟩ := h
    exact ⟨rfl, rfl⟩
  | 0, last, left + 1, b, l, r, t, h => by simp [tg] at h
  | f + 1, last, left + 1, b, l, r, t, h => by
    simp only [tg] at h ⊢
    split at h; · simp at h
    rename_i h1
    split at h; · simp at h
    rename_i h2
    split at h; · simp at h
    rename_i h3
    split at h; · simp at h
    rename_i h4
    have hg := getGam_more (b.drop 4) t (by simpa using h2)
    rw [List.length_append, if_neg (by omega), List.drop_append_of_le_length (by omega), if_neg (by simpa using hg.1), List.take_append_of_le_length (by omega), if_neg h3, hg.2.1, if_neg h4, hg.2.2]
    split at h; · simp at h
    rename_i l1 r1 h5
    simp only [Option.some.injEq, Prod.mk.injEq] at h
    obtain ⟨rfl, rfl⟩ := h
    rw [tg_more f _ _ _ l1 r1 t h5]
end Tb

namespace Hf
open Bt Cn

/-- The lengths of symbols' words. -/
def lns (syms : List Int) : List Int := Ln.bestL (cts syms) 15
/-- Symbols as bits. -/
def hb (syms : List Int) : List Bool := Tb.tb (Tb.runs (lns syms)) ++ enc (lns syms) syms
/-- Symbols of bits. -/
def hd (b : List Bool) (k : Nat) : Option (List Int) :=
  match Tb.tg 257 (-1) 257 b with
  | none => none
  | some (l, r) => if checkE l = 0 then (match getN l k r with
    | none => none
    | some (s, r') => if doneB r' = true then some s else none) else none

theorem cts_pos : ∀ (syms : List Int) (s : Int), s ∈ syms → syms.all okS = true → ∃ h : s.toNat < (cts syms).length, 0 < (cts syms)[s.toNat] := by
  intro syms s hs hall
  have key : ∀ (syms : List Int) (l : List Int), l.length = 257 → (∀ x ∈ l, 0 ≤ x) → syms.all okS = true → ∀ i, i < 257 → (0 < l.getD i 0 ∨ (i : Int) ∈ syms) → 0 < (syms.foldl (fun l s => incI l s.toNat) l).getD i 0 := by
    intro syms
    induction syms with
    | nil => intro l _ _ _ i _ h; rcases h with h | h
             · exact h
             · simp at h
    | cons x r ih =>
      intro l hl h0 hall i hi h
      simp only [List.all_cons, Bool.and_eq_true] at hall
      rw [List.foldl_cons]
      have hx : 0 ≤ x ∧ x < 257 := by simpa [okS] using hall.1
      refine ih (incI l x.toNat) (by rw [length_incI, hl]) ?_ hall.2 i hi ?_
      · intro y hy
        unfold incI at hy
        rcases List.mem_or_eq_of_mem_set hy with hy | rfl
        · exact h0 y hy
        · rw [List.getD_eq_getElem?_getD, List.getElem?_eq_getElem (by omega), Option.getD_some]
          have := h0 _ (List.getElem_mem (l := l) (n := x.toNat) (by omega)); omega
      · by_cases hix : i = x.toNat
        · left
          subst hix
          unfold incI
          rw [List.getD_eq_getElem?_getD, List.getElem?_set_self (by omega), Option.getD_some, List.getD_eq_getElem?_getD, List.getElem?_eq_getElem (by omega), Option.getD_some]
          have := h0 _ (List.getElem_mem (l := l) (n := x.toNat) (by omega)); omega
        · rcases h with h | h
          · left
            unfold incI
            rw [List.getD_eq_getElem?_getD, List.getElem?_set_ne (fun e => hix e.symm), ← List.getD_eq_getElem?_getD]; exact h
          · rcases List.mem_cons.1 h with h | h
            · exfalso; omega
            · exact .inr h
  have ho : 0 ≤ s ∧ s < 257 := by simpa [okS] using List.all_eq_true.1 hall s hs
  have h1 : s.toNat < (cts syms).length := by rw [length_cts]; omega
  refine ⟨h1, ?_⟩
  have := key syms (List.replicate 257 0) List.length_replicate (fun x hx => by rw [List.eq_of_mem_replicate hx]; omega) hall s.toNat (by omega) (.inr (by rw [Int.toNat_of_nonneg ho.1]; exact hs))
  change 0 < (cts syms).getD s.toNat 0 at this
  rwa [List.getD_eq_getElem?_getD, List.getElem?_eq_getElem h1] at this

theorem cts_len (syms : List Int) : (Ln.lv 0 (cts syms)).length ≤ 2 ^ 15 := by
  have := Ln.length_lv (cts syms) 0
  rw [length_cts] at this
  exact Nat.le_trans this (by decide)

theorem lns_good (syms : List Int) : Ln.Good (cts syms) (lns syms) 15 := Ln.good_best (cts syms) 15 (by omega) (by omega) (cts_len syms)
theorem length_lns (syms : List Int) : (lns syms).length = 257 := by rw [(lns_good syms).len, length_cts]

theorem kr_zero : ∀ (n : Nat), ((List.replicate n (0 : Int)).map kr).sum = 0 := by
  intro n; induction n with
  | zero => rfl
  | succ n ih => rw [List.replicate_succ, List.map_cons, List.sum_cons, ih]; rfl
theorem one_set (n i : Nat) (hi : i < n) : (((List.replicate n (0 : Int)).set i 1).map kr).sum = 16384 ∧ us ((List.replicate n (0 : Int)).set i 1) = 1 := by
  induction n generalizing i with
  | zero => omega
  | succ n ih =>
    rcases i with _ | i
    · rw [List.replicate_succ, List.set_cons_zero, List.map_cons, List.sum_cons, kr_zero]
      refine ⟨rfl, ?_⟩
      unfold us
      rw [List.countP_cons_of_pos (by simp), List.countP_eq_zero.2 (fun x hx => by rw [List.eq_of_mem_replicate hx]; simp)]
    · obtain ⟨h1, h2⟩ := ih i (by omega)
      rw [List.replicate_succ, List.set_cons_succ, List.map_cons, List.sum_cons, h1]
      refine ⟨rfl, ?_⟩
      unfold us at *
      rw [List.countP_cons_of_neg (by simp), h2]

theorem lns_sum (syms : List Int) : ((lns syms).map kr).sum = 0 ∨ ((lns syms).map kr).sum = 32768 ∨ (((lns syms).map kr).sum = 16384 ∧ us (lns syms) = 1) := by
  by_cases hn : (St.stab Ln.wt (Ln.lv 0 (cts syms))).length < 2
  · rcases Ln.best_few (cts syms) 15 hn with ⟨_, h⟩ | ⟨i, hi, _, _, h⟩
    · left
      unfold lns; rw [h, kr_zero]
    · right; right
      unfold lns; rw [h]
      exact one_set _ _ hi
  · right; left
    exact (Ln.best_many (cts syms) 15 (by omega) (by omega) (by omega) (by rw [(St.stab_perm Ln.wt (Ln.lv 0 (cts syms))).length_eq]; exact cts_len syms)).2

theorem check_lns (syms : List Int) : checkE (lns syms) = 0 := by
  have hg := lns_good syms
  have hs := lns_sum syms
  unfold checkE
  rw [length_lns, if_neg (by omega), if_neg, if_pos]
  · unfold sumOk half
    rcases hs with h | h | ⟨h1, h2⟩
    · simp [h]
    · simp [h]
    · simp [h1, h2]
  · intro h
    obtain ⟨x, hx, hb⟩ := List.any_eq_true.1 h
    have := hg.rng x hx
    simp [bad] at hb; omega

theorem ok_check {l : List Int} (h : checkE l = 0) : Ok l ∧ l.length ≤ 257 := by
  unfold checkE at h
  split at h; · simp at h
  rename_i h1
  split at h; · simp at h
  rename_i h2
  split at h
  · rename_i h3
    refine ⟨⟨fun x hx => ?_, ?_⟩, by omega⟩
    · have : bad x = false := by
        cases hb : bad x
        · rfl
        · exact absurd (List.any_eq_true.2 ⟨x, hx, hb⟩) h2
      simp [bad] at this; omega
    · simp [sumOk, half] at h3; omega
  · simp at h

theorem hd_hb (syms : List Int) (hall : syms.all okS = true) (r : List Bool) (hr : doneB r = true) : hd (hb syms ++ r) syms.length = some syms := by
  have hg := lns_good syms
  have hl := length_lns syms
  have h0 := check_lns syms
  have ht := Tb.tab_back (lns syms) hg.rng (by omega) (enc (lns syms) syms ++ r)
  rw [hl] at ht
  unfold hd hb
  rw [List.append_assoc, ht]
  simp only
  rw [if_pos h0, getN_enc (lns syms) (ok_check h0).1 syms r ?_]
  · simp only; rw [if_pos hr]
  · intro s hs
    have ho : 0 ≤ s ∧ s < 257 := by simpa [okS] using List.all_eq_true.1 hall s hs
    refine ⟨ho.1, by omega, ?_⟩
    obtain ⟨h1, h2⟩ := cts_pos syms s hs hall
    have := (hg.used s.toNat h1).2 h2
    rwa [List.getD_eq_getElem?_getD, List.getElem?_eq_getElem (by omega)] at this

/-- With more behind, of a beginning: the rest is told. -/
theorem hd_more (b t : List Bool) (k : Nat) (s : List Int) (h : hd b k = some s) (ht : 8 ≤ t.length) : hd (b ++ t) k = none := by
  unfold hd at h ⊢
  split at h; · simp at h
  rename_i l r h1
  rw [Tb.tg_more _ _ _ _ l r t h1]
  simp only
  split at h
  · rename_i h2
    rw [if_pos h2]
    split at h; · simp at h
    rename_i s' r' h3
    rw [getN_more l k r s' r' t h3]
    simp only
    rw [if_neg]
    have hl : (r' ++ t).length ≠ 0 ∧ ¬ (r' ++ t).length < 8 := by rw [List.length_append]; omega
    unfold doneB
    rw [decide_eq_false hl.1, decide_eq_false hl.2]; simp
  · simp at h

theorem bits_append (a b : List UInt8) : Bt.bits (a ++ b) = Bt.bits a ++ Bt.bits b := List.flatMap_append ..

theorem doneB_replicate (n : Nat) (h : n < 8) : doneB (List.replicate n false) = true := by
  have := nz_replicate n []
  rw [List.append_nil] at this
  have h2 : nz ([] : List Bool) = 0 := rfl
  unfold doneB
  rw [List.length_replicate, this, h2, Nat.add_zero]
  simp [h]

/-- The bytes of symbols. -/
def hbyt (syms : List Int) : List UInt8 := byt (hb syms)
theorem back (syms : List Int) (hall : syms.all okS = true) : hd (Bt.bits (hbyt syms)) syms.length = some syms := by
  unfold hbyt
  rw [bits_byt _ _ rfl]
  exact hd_hb syms hall _ (doneB_replicate _ (Nat.mod_lt _ (by omega)))
theorem behind (syms : List Int) (hall : syms.all okS = true) (t : List UInt8) (ht : t ≠ []) : hd (Bt.bits (hbyt syms ++ t)) syms.length = none := by
  rw [bits_append]
  refine hd_more _ _ _ _ (back syms hall) ?_
  rw [length_bits]
  have := List.length_pos_iff.2 ht
  omega
theorem cut (syms : List Int) (hall : syms.all okS = true) (a : List UInt8) (c : UInt8) (h : a ++ [c] = hbyt syms) : hd (Bt.bits a) syms.length = none := by
  rcases hq : hd (Bt.bits a) syms.length with _ | s
  · rfl
  · have h1 := hd_more _ (Bt.bits [c]) _ s hq (by simp [length_bits])
    rw [← bits_append, h, back syms hall] at h1
    simp at h1

theorem hb_pos (syms : List Int) : 5 ≤ (hb syms).length := by
  have hg := Tb.runs_good (lns syms) (lns_good syms).rng
  have hl := length_lns syms
  unfold hb
  rw [List.length_append]
  rcases h : Tb.runs (lns syms) with _ | ⟨x, R⟩
  · rw [h] at hg
    have := congrArg List.length hg.2
    simp [Tb.flat, hl] at this
  · rw [h] at hg
    have hx := hg.1.2.2.2.1
    have e : Tb.tb (x :: R) = (toB 4 x.1.toNat ++ gam x.2.toNat) ++ Tb.tb R := rfl
    rw [e, List.length_append, List.length_append, length_toB, length_gam _ (by omega)]
    have := (bl_spec x.2.toNat (by omega)).2.2
    omega
theorem hbyt_pos (syms : List Int) : 1 ≤ (hbyt syms).length := by
  have := hb_pos syms
  unfold hbyt; rw [length_byt]; omega
end Hf
end Go.Proofs.YtpbphhpldlckbaaGreat
