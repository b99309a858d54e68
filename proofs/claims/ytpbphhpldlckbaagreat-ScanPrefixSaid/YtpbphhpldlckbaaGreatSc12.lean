/- The transform of Burrows and Wheeler, and that a text comes back of it: plain lists, no program. The transform, row by row: plain lists, no program. squash: a text comes back of its bytes; bytes that are cut, or have more behind them, are none's: plain lists, no program. record: what its functions compute: plain lists, no program. varint.add, Put, Get. -/
import Derived.Test.YtpbphhpldlckbaaGreatSc11
import Derived.Test.YtpbphhpldlckbaaGreatSc10
import Derived.Test.YtpbphhpldlckbaaGreatRows
import Derived.Test.YtpbphhpldlckbaaGreatSc03
import Derived.Deep.LoopGhost
namespace Go.Proofs.YtpbphhpldlckbaaGreat
namespace Bw
open Sx

/-- The letters ahead of the suffixes, in the suffixes' order; the text itself has none. -/
def lst (s : List UInt8) (A : List Nat) : List UInt8 := (A.filter fun p => decide (p ≠ 0)).map fun p => s.getD (p - 1) 0
/-- The text's own place among its suffixes. -/
def pri (A : List Nat) : Nat := (A.takeWhile fun p => decide (p ≠ 0)).length

/-- The letter of a row. -/
def at_ (l : List UInt8) (pr row : Nat) : UInt8 := l.getD (if pr < row then row - 1 else row) 0
/-- Where the rows of a letter begin. -/
def beg (l : List UInt8) (b : Nat) : Nat := 1 + l.countP fun c => decide (c.toNat < b)
/-- Where a row's letter leads. -/
def stp (l : List UInt8) (pr row : Nat) : Nat := beg l (at_ l pr row).toNat + ((List.range row).filter fun r => decide (r ≠ pr) && decide (at_ l pr r = at_ l pr row)).length

/-- The text, from its end on; none where the rows are no text's. -/
def inv (l : List UInt8) (pr : Nat) (step : Nat → Nat) : Nat → Nat → List UInt8 → Option (List UInt8)
  | 0, row, out => if row = pr then some out else none
  | n + 1, row, out => if row = pr then none else inv l pr step n (step row) (at_ l pr row :: out)

section
variable {s : List UInt8} {A : List Nat}

theorem A_len (h : Sorted s A) : A.length = s.length + 1 := by rw [h.perm.length_eq, List.length_range]
theorem A_mem (h : Sorted s A) (p : Nat) : p ∈ A ↔ p ≤ s.length := by rw [h.perm.mem_iff, List.mem_range]; omega
theorem A_nodup (h : Sorted s A) : A.Nodup := h.perm.nodup_iff.2 List.nodup_range

/-- The text's place. -/
theorem pri_at (h : Sorted s A) : ∃ X Y, A = X ++ 0 :: Y ∧ X.length = pri A ∧ (∀ p ∈ X, p ≠ 0) ∧ ∀ p ∈ Y, p ≠ 0 := by
  obtain ⟨X, Y, e⟩ := List.append_of_mem ((A_mem h 0).2 (by omega))
  have hn := A_nodup h
  rw [e, List.nodup_append] at hn
  have hX : ∀ p ∈ X, p ≠ 0 := fun p hp => hn.2.2 p hp 0 (by simp)
  have hY : ∀ p ∈ Y, p ≠ 0 := fun p hp e0 => (List.nodup_cons.1 hn.2.1).1 (e0 ▸ hp)
  refine ⟨X, Y, e, ?_, hX, hY⟩
  unfold pri
  rw [e, List.takeWhile_append_of_pos (by intro a ha; simpa using hX a ha)]
  simp

theorem lst_split {X Y : List Nat} (e : A = X ++ 0 :: Y) (hX : ∀ p ∈ X, p ≠ 0) (hY : ∀ p ∈ Y, p ≠ 0) : lst s A = X.map (fun p => s.getD (p - 1) 0) ++ Y.map (fun p => s.getD (p - 1) 0) := by
  unfold lst
  rw [e, List.filter_append, List.filter_cons_of_neg (by simp), List.filter_eq_self.2 (by intro p hp; simpa using hX p hp), List.filter_eq_self.2 (by intro p hp; simpa using hY p hp), List.map_append]

theorem length_lst (h : Sorted s A) : (lst s A).length = s.length := by
  obtain ⟨X, Y, e, _, hX, hY⟩ := pri_at h
  have := A_len h
  rw [lst_split e hX hY]
  rw [e] at this
  simp at this ⊢; omega

/-- A row's letter is that ahead of its suffix. -/
theorem at_lst (h : Sorted s A) (row : Nat) (hr : row < A.length) (hp : row ≠ pri A) : at_ (lst s A) (pri A) row = s.getD (A[row] - 1) 0 := by
  obtain ⟨X, Y, e, hl, hX, hY⟩ := pri_at h
  have e1 : A[row]? = some A[row] := List.getElem?_eq_getElem hr
  unfold at_
  rw [lst_split e hX hY, ← hl]
  rw [← hl] at hp
  rcases Nat.lt_or_ge X.length row with hlt | hge
  · rw [if_pos hlt, List.getD_eq_getElem?_getD, List.getElem?_append_right (by simp; omega), List.length_map, List.getElem?_map]
    have : A[row]? = Y[row - 1 - X.length]? := by
      rw [e, List.getElem?_append_right (by omega), show row - X.length = (row - 1 - X.length) + 1 by omega, List.getElem?_cons_succ]
    rw [← this, e1]; rfl
  · rw [if_neg (by omega), List.getD_eq_getElem?_getD, List.getElem?_append_left (by simp; omega), List.getElem?_map]
    have : A[row]? = X[row]? := by
      rw [e, List.getElem?_append_left (by omega)]
    rw [← this, e1]; rfl

/-- How many suffixes are less than that of a row: its number. -/
theorem row_count (h : Sorted s A) (row : Nat) (hr : row < A.length) (f : Nat → Bool) (hf : ∀ p ∈ A, f p = true ↔ less s (s.length + 1) p A[row]) : A.countP f = row := by
  have e : A = A.take row ++ A[row] :: A.drop (row + 1) := by rw [List.getElem_cons_drop, List.take_append_drop]
  have hs := h.srt
  rw [e, List.pairwise_append, List.pairwise_cons] at hs
  have hm : ∀ p, p ∈ A.take row ∨ p = A[row] ∨ p ∈ A.drop (row + 1) → p ∈ A := by
    intro p hp
    rcases hp with hp | rfl | hp
    · exact List.mem_of_mem_take hp
    · exact List.getElem_mem hr
    · exact List.mem_of_mem_drop hp
  rw [e, List.countP_append, List.countP_eq_length.2 (by intro p hp; exact (hf p (hm p (.inl hp))).2 (hs.2.2 p hp _ (List.mem_cons_self ..))), List.countP_eq_zero.2, List.length_take]
  · omega
  · intro p hp hfp
    have hl := (hf p (hm p (by rcases List.mem_cons.1 hp with rfl | hp; exact .inr (.inl rfl); exact .inr (.inr hp)))).1 hfp
    rcases List.mem_cons.1 hp with rfl | hp
    · exact less_irrefl hl
    · exact less_irrefl (less_trans hl (hs.2.1.1 p hp))

theorem countP_range_succ (n : Nat) (f : Nat → Bool) : (List.range (n + 1)).countP f = (if f 0 then 1 else 0) + (List.range n).countP fun q => f (q + 1) := by
  rw [List.range_succ_eq_map, List.countP_cons, List.countP_map]
  have : (List.range n).countP (f ∘ Nat.succ) = (List.range n).countP fun q => f (q + 1) := rfl
  omega

theorem countP_text (s : List UInt8) (g : UInt8 → Bool) : (List.range s.length).countP (fun q => g (s.getD q 0)) = s.countP g := by
  induction s with
  | nil => rfl
  | cons c s ih =>
    rw [List.length_cons, countP_range_succ, List.countP_cons, ← ih]
    simp only [List.getD_cons_zero, List.getD_cons_succ]
    omega

/-- The letters are the text's, in another order. -/
theorem count_lst (h : Sorted s A) (g : UInt8 → Bool) : (lst s A).countP g = s.countP g := by
  have hp : (A.filter fun p => decide (p ≠ 0)).Perm ((List.range (s.length + 1)).filter fun p => decide (p ≠ 0)) := h.perm.filter _
  unfold lst
  rw [(hp.map _).countP_eq, List.countP_map, List.countP_filter, countP_range_succ, ← countP_text s g]
  simp

/-- A step leads from a suffix's row to that of the suffix with one letter more. -/
theorem step_row (h : Sorted s A) (row j : Nat) (hr : row < A.length) (hj : j < A.length) (hp : row ≠ pri A) (he : A[row] = A[j] + 1) : stp (lst s A) (pri A) row = j := by
  have hq : A[j] < s.length := by have := (A_mem h A[row]).1 (List.getElem_mem hr); omega
  have hc : (at_ (lst s A) (pri A) row) = s[A[j]] := by
    rw [at_lst h row hr hp, he, Nat.add_sub_cancel, List.getD_eq_getElem?_getD, List.getElem?_eq_getElem hq]; rfl
  -- the suffixes that are less than that of A[j]
  have hj' := row_count h j hj (fun p => decide (tl s p < tl s A[j]) || (decide (tl s p = tl s A[j]) && decide (¬ p = s.length) && (A.take row).contains (p + 1))) (by
    intro p hpA
    have hpl := (A_mem h p).1 hpA
    simp only [Bool.or_eq_true, Bool.and_eq_true, decide_eq_true_eq, List.contains_iff_mem]
    have e1 : less s (s.length + 1) p A[j] ↔ less s (s.length + 1 + 1) p A[j] := by
      constructor
      · intro hl; rw [less_add]; exact .inl hl
      · intro hl
        rw [less_add] at hl
        rcases hl with hl | hl
        · exact hl
        · have e := same_end hpl (by omega) hl.1 (.inl (by omega))
          rw [e] at hl
          exact absurd hl.2 less_irrefl
    rw [e1]
    show _ ↔ tl s p < tl s A[j] ∨ (tl s p = tl s A[j] ∧ less s (s.length + 1) (p + 1) (A[j] + 1))
    constructor
    · rintro (hl | ⟨⟨hl, hne⟩, hm⟩)
      · exact .inl hl
      · refine .inr ⟨hl, ?_⟩
        have hs := h.srt
        have e : A = A.take row ++ A[row] :: A.drop (row + 1) := by rw [List.getElem_cons_drop, List.take_append_drop]
        rw [e, List.pairwise_append] at hs
        rw [← he]
        exact hs.2.2 _ hm _ (List.mem_cons_self ..)
    · rintro (hl | ⟨hl, hm⟩)
      · exact .inl hl
      · have hne : ¬ p = s.length := by
          intro e
          rw [e, tl_ge (Nat.le_refl _), tl_lt hq] at hl; omega
        refine .inr ⟨⟨hl, hne⟩, ?_⟩
        obtain ⟨i, hi, hie⟩ := List.mem_iff_getElem.1 ((A_mem h (p + 1)).2 (by omega))
        rw [List.mem_take_iff_getElem]
        refine ⟨i, ?_, hie⟩
        rcases Nat.lt_or_ge i row with hlt | hge
        · omega
        · exfalso
          rw [← he, ← hie] at hm
          rcases Nat.lt_or_ge row i with hlt | hge'
          · exact less_irrefl (less_trans hm (List.pairwise_iff_getElem.1 h.srt row i hr hi hlt))
          · have : i = row := by omega
            subst this
            exact less_irrefl hm)
  rw [← hj', h.perm.countP_eq]
  unfold stp beg
  rw [hc, count_lst h]
  -- two kinds
  have hsplit : ∀ (l : List Nat) (f g : Nat → Bool), (∀ x ∈ l, ¬ (f x = true ∧ g x = true)) → l.countP (fun x => f x || g x) = l.countP f + l.countP g := by
    intro l f g
    induction l with
    | nil => intro _; rfl
    | cons x r ih =>
      intro hd
      have := hd x (by simp)
      rw [List.countP_cons, List.countP_cons, List.countP_cons, ih (fun y hy => hd y (by simp [hy]))]
      cases hf : f x <;> cases hg : g x <;> simp [hf, hg] at this ⊢ <;> omega
  rw [hsplit _ (fun p => decide (tl s p < tl s A[j])) _ (by intro x _; simp; omega)]
  congr 1
  · -- smaller letters, and the end
    rw [List.range_succ, List.countP_append, List.countP_singleton, tl_ge (Nat.le_refl s.length), tl_lt hq, if_pos (by simp), Nat.add_comm]
    congr 1
    rw [← countP_text s]
    refine List.countP_congr fun q hqr => ?_
    have hql := List.mem_range.1 hqr
    rw [tl_lt hql, List.getD_eq_getElem?_getD, List.getElem?_eq_getElem hql]
    simp
  · -- the same letter
    have e2 : (List.range (s.length + 1)).countP (fun p => decide (tl s p = tl s A[j]) && decide (¬ p = s.length) && (A.take row).contains (p + 1)) =
        (List.range (s.length + 1)).countP (fun p' => decide (p' ≠ 0) && decide (tl s (p' - 1) = tl s A[j]) && (A.take row).contains p') := by
      have l1 : (List.range (s.length + 1)).countP (fun p => decide (tl s p = tl s A[j]) && decide (¬ p = s.length) && (A.take row).contains (p + 1)) = (List.range s.length).countP (fun p => decide (tl s p = tl s A[j]) && (A.take row).contains (p + 1)) := by
        rw [List.range_succ, List.countP_append, List.countP_singleton, if_neg (by simp), Nat.add_zero]
        refine List.countP_congr fun q hqr => ?_
        have hql := List.mem_range.1 hqr
        have : ¬ q = s.length := by omega
        simp [this]
      rw [l1, countP_range_succ, if_neg (by simp), Nat.zero_add]
      refine List.countP_congr fun q hqr => ?_
      simp
    rw [e2, ← h.perm.countP_eq]
    have e : A = A.take row ++ A.drop row := (List.take_append_drop _ _).symm
    have hnd := A_nodup h
    have hz : (A.drop row).countP (fun p' => decide (p' ≠ 0) && decide (tl s (p' - 1) = tl s A[j]) && (A.take row).contains p') = 0 := by
      rw [List.countP_eq_zero]
      intro p' hp' hc'
      simp only [Bool.and_eq_true, List.contains_iff_mem] at hc'
      rw [e, List.nodup_append] at hnd
      exact hnd.2.2 p' hc'.2 p' hp' rfl
    have e3 : A.countP (fun p' => decide (p' ≠ 0) && decide (tl s (p' - 1) = tl s A[j]) && (A.take row).contains p') = (A.take row).countP (fun p' => decide (p' ≠ 0) && decide (tl s (p' - 1) = tl s A[j]) && (A.take row).contains p') := by
      have : ∀ f : Nat → Bool, (A.drop row).countP f = 0 → A.countP f = (A.take row).countP f := by
        intro f hf
        have h1 : (A.take row ++ A.drop row).countP f = A.countP f := by rw [List.take_append_drop]
        rw [← h1, List.countP_append, hf]; rfl
      exact this _ hz
    rw [e3, ← List.countP_eq_length_filter]
    have e4 : ∀ k, k ≤ A.length → (List.range k).countP (fun r => decide (r ≠ pri A) && decide (at_ (lst s A) (pri A) r = s[A[j]])) = (A.take k).countP (fun p' => decide (p' ≠ 0) && decide (tl s (p' - 1) = tl s A[j])) := by
      intro k
      induction k with
      | zero => intro _; rfl
      | succ k ih =>
        intro hk
        rw [List.range_succ, List.countP_append, ih (by omega), List.take_add_one, List.getElem?_eq_getElem (by omega), List.countP_append, List.countP_singleton]
        simp only [Option.toList_some, List.countP_singleton]
        congr 1
        have hz : A[k] = 0 ↔ k = pri A := by
          obtain ⟨X, Y, e, hl, hX, hY⟩ := pri_at h
          have e0 : A[X.length]? = some 0 := by rw [e]; simp
          have hx : X.length < A.length := (List.getElem?_eq_some_iff.1 e0).1
          have e0' : A[X.length] = 0 := (List.getElem?_eq_some_iff.1 e0).2
          rw [← hl]
          constructor
          · intro hk0; exact (List.getElem_inj hnd).1 (hk0.trans e0'.symm)
          · intro hk0; subst hk0; exact e0'
        by_cases hkp : k = pri A
        · have := hz.2 hkp
          subst hkp
          simp [this]
        · have hk0 : A[k] ≠ 0 := fun h0 => hkp (hz.1 h0)
          have hka := (A_mem h A[k]).1 (List.getElem_mem (by omega))
          have hat := at_lst h k (by omega) hkp
          rw [hat, tl_lt hq, tl_lt (show A[k] - 1 < s.length by omega), List.getD_eq_getElem?_getD, List.getElem?_eq_getElem (show A[k] - 1 < s.length by omega), Option.getD_some]
          have hiff : (s[A[k] - 1] = s[A[j]]) ↔ (s[A[k] - 1].toNat + 1 = s[A[j]].toNat + 1) := by
            constructor
            · intro e; rw [e]
            · intro e; exact UInt8.toNat_inj.1 (by omega)
          simp [hkp, hk0, hiff]
    rw [e4 row (by omega)]
    refine List.countP_congr fun p' hp' => ?_
    simp only [Bool.and_eq_true, List.contains_iff_mem]
    exact ⟨fun a => ⟨a, hp'⟩, fun a => a.1⟩

/-- The text comes back. -/
theorem inv_lst (h : Sorted s A) (step : Nat → Nat) (hst : ∀ row, row < A.length → row ≠ pri A → step row = stp (lst s A) (pri A) row) :
    ∀ (n row : Nat) (out : List UInt8), (hr : row < A.length) → A[row] = n → n ≤ s.length → out = s.drop n → inv (lst s A) (pri A) step n row out = some s := by
  intro n
  have hz : ∀ k (hk : k < A.length), A[k] = 0 ↔ k = pri A := by
    intro k hk
    obtain ⟨X, Y, e, hl, hX, hY⟩ := pri_at h
    have e0 : A[X.length]? = some 0 := by rw [e]; simp
    have hx : X.length < A.length := (List.getElem?_eq_some_iff.1 e0).1
    have e0' : A[X.length] = 0 := (List.getElem?_eq_some_iff.1 e0).2
    rw [← hl]
    constructor
    · intro hk0; exact (List.getElem_inj (A_nodup h)).1 (hk0.trans e0'.symm)
    · intro hk0; subst hk0; exact e0'
  induction n with
  | zero =>
    intro row out hr he _ ho
    simp only [inv]
    rw [if_pos ((hz row hr).1 he), ho]; rfl
  | succ n ih =>
    intro row out hr he hn ho
    have hp : row ≠ pri A := fun e => by have := (hz row hr).2 e; omega
    simp only [inv]
    rw [if_neg hp]
    obtain ⟨j, hj, hje⟩ := List.mem_iff_getElem.1 ((A_mem h n).2 (by omega))
    rw [hst row hr hp, step_row h row j hr hj hp (by rw [he, hje])]
    refine ih j _ hj hje (by omega) ?_
    rw [at_lst h row hr hp, he, Nat.add_sub_cancel, ho, List.getD_eq_getElem?_getD, List.getElem?_eq_getElem (show n < s.length by omega), List.drop_eq_getElem_cons (show n < s.length by omega)]; rfl

theorem row0 (h : Sorted s A) (hz : 0 < A.length) : A[0] = s.length := by
  have := row_count h 0 hz (fun p => decide (p ≠ A[0]) && decide (p ≠ A[0]) && false) (by
    intro p hp
    simp only [Bool.and_false, Bool.false_eq_true, false_iff]
    intro hl
    obtain ⟨i, hi, rfl⟩ := List.mem_iff_getElem.1 hp
    rcases Nat.eq_zero_or_pos i with rfl | h0
    · exact less_irrefl hl
    · exact less_irrefl (less_trans hl (List.pairwise_iff_getElem.1 h.srt 0 i hz hi h0)))
  obtain ⟨i, hi, hie⟩ := List.mem_iff_getElem.1 ((A_mem h s.length).2 (Nat.le_refl _))
  rcases Nat.eq_zero_or_pos i with rfl | h0
  · exact hie
  · exfalso
    have hl := List.pairwise_iff_getElem.1 h.srt 0 i hz hi h0
    rw [hie] at hl
    simp only [less] at hl
    rw [tl_ge (Nat.le_refl s.length)] at hl
    have h1 := (A_mem h A[0]).1 (List.getElem_mem hz)
    rcases Nat.lt_or_ge A[0] s.length with h2 | h2
    · rw [tl_lt h2] at hl; omega
    · have e : A[0] = s.length := by omega
      rw [e] at hl
      rcases hl with hl | hl
      · omega
      · exact less_irrefl hl.2
end
end Bw
end Go.Proofs.YtpbphhpldlckbaaGreat
namespace Go.Proofs.YtpbphhpldlckbaaGreat
namespace Bw
open Sx
section
variable {s : List UInt8} {A : List Nat}
theorem zero_iff (h : Sorted s A) (k : Nat) (hk : k < A.length) : A[k] = 0 ↔ k = pri A := by
  obtain ⟨X, Y, e, hl, hX, hY⟩ := pri_at h
  have e0 : A[X.length]? = some 0 := by rw [e]; simp
  have hx : X.length < A.length := (List.getElem?_eq_some_iff.1 e0).1
  have e0' : A[X.length] = 0 := (List.getElem?_eq_some_iff.1 e0).2
  rw [← hl]
  constructor
  · intro hk0; exact (List.getElem_inj (A_nodup h)).1 (hk0.trans e0'.symm)
  · intro hk0; subst hk0; exact e0'
theorem pri_lt (h : Sorted s A) : pri A < A.length := by
  obtain ⟨X, Y, e, hl, hX, hY⟩ := pri_at h
  rw [← hl, e]; simp
/-- The letters of the first k rows, and the text's place if it is among them. -/
def lk (s : List UInt8) (A : List Nat) (k : Nat) : List UInt8 := lst s (A.take k)
def pk (A : List Nat) (k : Nat) : Nat := if pri A < k then pri A else 0
theorem lk_zero : lk s A 0 = [] := rfl
theorem lk_step (k : Nat) (hk : k < A.length) : lk s A (k + 1) = if A[k] = 0 then lk s A k else lk s A k ++ [s.getD (A[k] - 1) 0] := by
  unfold lk lst
  rw [List.take_add_one, List.getElem?_eq_getElem hk, List.filter_append, List.map_append]
  by_cases h : A[k] = 0
  · rw [if_pos h]; simp [h]
  · rw [if_neg h]; simp [h]
theorem lk_all : lk s A A.length = lst s A := by unfold lk; rw [List.take_length]
theorem pk_step (h : Sorted s A) (k : Nat) (hk : k < A.length) : pk A (k + 1) = if A[k] = 0 then k else pk A k := by
  have := zero_iff h k hk
  unfold pk
  by_cases h0 : A[k] = 0
  · have := this.1 h0
    rw [if_pos h0, if_pos (by omega)]; omega
  · rw [if_neg h0]
    have hne : k ≠ pri A := fun e => h0 (this.2 e)
    by_cases hlt : pri A < k
    · rw [if_pos hlt, if_pos (by omega)]
    · rw [if_neg hlt, if_neg (by omega)]
theorem pk_all (h : Sorted s A) : pk A A.length = pri A := by unfold pk; rw [if_pos (pri_lt h)]
theorem length_lk_le (k : Nat) : (lk s A k).length ≤ k := by
  unfold lk lst
  rw [List.length_map]
  exact Nat.le_trans (List.length_filter_le _ _) (by simp; omega)
end
end Bw
end Go.Proofs.YtpbphhpldlckbaaGreat
namespace Go.Proofs.YtpbphhpldlckbaaGreat
namespace Sq
open Vi Zr Hf

/-- A text's symbols, by the order of its ends. -/
def sy (s : List UInt8) (A : List Nat) : List Int := pk 0 (Fr.rks Fr.row0 (Bw.lst s A))
/-- A text's bytes. -/
def packed (s : List UInt8) (A : List Nat) : List UInt8 := putV s.length ++ (putV (Bw.pri A) ++ (putV (sy s A).length ++ hbyt (sy s A)))
/-- May a number be a primary? -/
def may (n : Nat) (pr : Nat) : Bool := if n = 0 then decide (pr = 0) else decide (1 ≤ pr) && decide (pr ≤ n)
/-- The text of symbols. -/
def txtS (l : List Int) (pr n : Nat) : Option (List UInt8) :=
  if 20000 < n then none
  else if unpackE l n ≠ 0 then none
  else if (unp [] l).length ≠ n then none
  else if may n pr = true then Bw.inv (Fr.txt Fr.row0 (unp [] l)) pr (fun row => Bw.stp (Fr.txt Fr.row0 (unp [] l)) pr row) n 0 [] else none
/-- The text behind the three numbers. -/
def bodyS (n pr k : Nat) (b : List UInt8) : Option (List UInt8) :=
  if 20000 < n ∨ n < k then none else match hd (Bt.bits b) k with
  | none => none
  | some l => txtS l pr n
/-- The three numbers: the error, the numbers, what stands behind them. -/
def head (b : List UInt8) : Int × Nat × Nat × Nat × List UInt8 :=
  if (gv 0 0 b).2.2 ≠ 0 then ((gv 0 0 b).2.2, 0, 0, 0, [])
  else if (gv 0 0 (b.drop (gv 0 0 b).2.1)).2.2 ≠ 0 then ((gv 0 0 (b.drop (gv 0 0 b).2.1)).2.2, 0, 0, 0, [])
  else if (gv 0 0 ((b.drop (gv 0 0 b).2.1).drop (gv 0 0 (b.drop (gv 0 0 b).2.1)).2.1)).2.2 ≠ 0 then ((gv 0 0 ((b.drop (gv 0 0 b).2.1).drop (gv 0 0 (b.drop (gv 0 0 b).2.1)).2.1)).2.2, 0, 0, 0, [])
  else (0, (gv 0 0 b).1, (gv 0 0 (b.drop (gv 0 0 b).2.1)).1, (gv 0 0 ((b.drop (gv 0 0 b).2.1).drop (gv 0 0 (b.drop (gv 0 0 b).2.1)).2.1)).1,
    ((b.drop (gv 0 0 b).2.1).drop (gv 0 0 (b.drop (gv 0 0 b).2.1)).2.1).drop (gv 0 0 ((b.drop (gv 0 0 b).2.1).drop (gv 0 0 (b.drop (gv 0 0 b).2.1)).2.1)).2.1)
/-- What squash.Unpack tells. -/
def unS (b : List UInt8) : Option (List UInt8) := if (head b).1 ≠ 0 then none else bodyS (head b).2.1 (head b).2.2.1 (head b).2.2.2.1 (head b).2.2.2.2

theorem gv_put (n : Nat) (hn : n < 9223372036854775808) (r : List UInt8) : gv 0 0 (putV n ++ r) = (n, (putV n).length, 0) := by
  have := gv_putV n 0 0 r (by omega) (by simpa using hn) (by omega)
  simpa using this
theorem head_put (a b c : Nat) (ha : a < 9223372036854775808) (hb : b < 9223372036854775808) (hc : c < 9223372036854775808) (r : List UInt8) : head (putV a ++ (putV b ++ (putV c ++ r))) = (0, a, b, c, r) := by
  unfold head
  rw [gv_put a ha]
  simp only [ne_eq, not_true_eq_false, if_false, List.drop_left']
  rw [gv_put b hb]
  simp only [not_true_eq_false, if_false, List.drop_left']
  rw [gv_put c hc]
  simp only [not_true_eq_false, if_false, List.drop_left']
theorem unS_put (a b c : Nat) (ha : a < 9223372036854775808) (hb : b < 9223372036854775808) (hc : c < 9223372036854775808) (r : List UInt8) : unS (putV a ++ (putV b ++ (putV c ++ r))) = bodyS a b c r := by
  unfold unS; rw [head_put a b c ha hb hc]; simp

section
variable {s : List UInt8} {A : List Nat}
open Sx
theorem rks_ok (l : List UInt8) : (Fr.rks Fr.row0 l).all okRank = true ∧ Fr.txt Fr.row0 (Fr.rks Fr.row0 l) = l :=
  have h := Fr.txt_rks l Fr.row0 Fr.length_row0 Fr.row0_mem
  ⟨h.2, h.1⟩
theorem sy_ok : (sy s A).all okS = true := by
  have h := okSym_pk (Fr.rks Fr.row0 (Bw.lst s A)) 0 (rks_ok _).1
  refine List.all_eq_true.2 fun x hx => ?_
  have := List.all_eq_true.1 h x hx
  simp [okSym, okS] at *; omega
theorem sy_len (h : Sorted s A) : (sy s A).length ≤ s.length := by
  have := length_pk (Fr.rks Fr.row0 (Bw.lst s A)) 0
  rw [Fr.length_rks, Bw.length_lst h] at this
  unfold sy; omega
theorem pri_le (h : Sorted s A) : Bw.pri A ≤ s.length := by
  have := Bw.pri_lt h
  have := Bw.A_len h
  omega
theorem pri_may (h : Sorted s A) : may s.length (Bw.pri A) = true := by
  have hl := Bw.A_len h
  have hp := Bw.pri_lt h
  unfold may
  by_cases h0 : s.length = 0
  · rw [if_pos h0]; simp; omega
  · rw [if_neg h0]
    have h1 := Bw.row0 h (by omega)
    have h2 : Bw.pri A ≠ 0 := by
      intro e
      have := (Bw.zero_iff h 0 (by omega)).2 e.symm
      omega
    simp; omega
theorem txt_back (h : Sorted s A) (hs : s.length ≤ 20000) : txtS (sy s A) (Bw.pri A) s.length = some s := by
  have hl := Bw.A_len h
  have ho := (rks_ok (Bw.lst s A))
  have hu := unp_pk (Fr.rks Fr.row0 (Bw.lst s A)) 0 ho.1
  have hlen : (Fr.rks Fr.row0 (Bw.lst s A)).length = s.length := by rw [Fr.length_rks, Bw.length_lst h]
  simp only [List.replicate_zero, List.nil_append, Nat.zero_add] at hu
  have hE : unpackE (sy s A) (s.length : Int) = 0 := by
    have h1 := okSym_pk (Fr.rks Fr.row0 (Bw.lst s A)) 0 ho.1
    unfold unpackE sy
    rw [if_neg (by rw [h1]; simp), if_neg]
    unfold count
    rw [hu.2, hlen]; omega
  unfold txtS
  rw [if_neg (by omega), if_neg (by rw [hE]; simp)]
  unfold sy
  rw [hu.1, if_neg (by rw [hlen]; simp), if_pos (pri_may h), ho.2]
  have h1 := Bw.row0 h (by omega)
  exact Bw.inv_lst h _ (fun _ _ _ => rfl) s.length 0 [] (by omega) h1 (Nat.le_refl _) (by simp)

theorem back (h : Sorted s A) (hs : s.length ≤ 20000) : unS (packed s A) = some s := by
  have h1 := sy_len h
  have h2 := pri_le h
  unfold packed
  rw [unS_put _ _ _ (by omega) (by omega) (by omega)]
  unfold bodyS
  rw [if_neg (by omega), Hf.back (sy s A) sy_ok]
  exact txt_back h hs
theorem behind (h : Sorted s A) (hs : s.length ≤ 20000) (t : List UInt8) (ht : t ≠ []) : unS (packed s A ++ t) = none := by
  have h1 := sy_len h
  have h2 := pri_le h
  unfold packed
  rw [List.append_assoc, List.append_assoc, List.append_assoc, unS_put _ _ _ (by omega) (by omega) (by omega)]
  unfold bodyS
  rw [if_neg (by omega), Hf.behind (sy s A) sy_ok t ht]
theorem cut (h : Sorted s A) (hs : s.length ≤ 20000) : unS ((packed s A).take ((packed s A).length - 1)) = none := by
  have h1 := sy_len h
  have h2 := pri_le h
  have h3 := hbyt_pos (sy s A)
  obtain ⟨a, c, e⟩ : ∃ a c, a ++ [c] = hbyt (sy s A) := by
    refine ⟨(hbyt (sy s A)).dropLast, (hbyt (sy s A)).getLast (List.ne_nil_of_length_pos (by omega)), List.dropLast_concat_getLast _⟩
  have e2 : (packed s A).take ((packed s A).length - 1) = putV s.length ++ (putV (Bw.pri A) ++ (putV (sy s A).length ++ a)) := by
    unfold packed
    rw [← e, ← List.append_assoc (putV (sy s A).length), ← List.append_assoc (putV (Bw.pri A)), ← List.append_assoc (putV s.length), List.length_append, List.length_singleton, Nat.add_sub_cancel, List.take_left' rfl]
  rw [e2, unS_put _ _ _ (by omega) (by omega) (by omega)]
  unfold bodyS
  rw [if_neg (by omega), Hf.cut (sy s A) sy_ok a c e]
theorem packed_len (_h : Sorted s A) : 4 ≤ (packed s A).length := by
  have h3 := hbyt_pos (sy s A)
  have := length_putV_pos s.length
  have := length_putV_pos (Bw.pri A)
  have := length_putV_pos (sy s A).length
  unfold packed; simp only [List.length_append]; omega
end

/-- What is unpacked is not great. -/
theorem inv_len (l : List UInt8) (pr : Nat) (st : Nat → Nat) : ∀ (n row : Nat) (out r : List UInt8), Bw.inv l pr st n row out = some r → r.length = n + out.length
  | 0, row, out, r, h => by
    simp only [Bw.inv] at h
    split at h <;> simp at h
    subst h; omega
  | n + 1, row, out, r, h => by
    simp only [Bw.inv] at h
    split at h
    · simp at h
    · have := inv_len l pr st n _ _ r h
      simp at this; omega
theorem unS_len (b r : List UInt8) (h : unS b = some r) : r.length ≤ 20000 := by
  unfold unS at h
  split at h; · simp at h
  unfold bodyS at h
  split at h; · simp at h
  split at h; · simp at h
  unfold txtS at h
  split at h; · simp at h
  split at h; · simp at h
  split at h; · simp at h
  split at h
  · have := inv_len _ _ _ _ _ _ _ h
    simp at this; omega
  · simp at h
end Sq
end Go.Proofs.YtpbphhpldlckbaaGreat
namespace Go.Proofs.YtpbphhpldlckbaaGreat
namespace Rd
open Vi Sq

/-- May a record be? -/
def ok1 (r : Int × Int × ByteArray) : Bool := decide (1 ≤ r.1 ∧ r.1 ≤ 1000000000 ∧ 0 ≤ r.2.1 ∧ r.2.1 ≤ 1000000000 ∧ r.2.2.size ≤ 2000)
theorem ok1_iff (r : Int × Int × ByteArray) : ok1 r = true ↔ 1 ≤ r.1 ∧ r.1 ≤ 1000000000 ∧ 0 ≤ r.2.1 ∧ r.2.1 ≤ 1000000000 ∧ r.2.2.size ≤ 2000 := by simp [ok1]
/-- Does a record not go on behind the one ahead of it? -/
def off : Option (Int × Int × ByteArray) → Int × Int × ByteArray → Bool
  | none, _ => false
  | some p, r => decide (r.1 ≠ p.1 + 1 ∨ r.2.1 < p.2.1)
/-- What record.Row tells, behind a record. -/
def rowE : Option (Int × Int × ByteArray) → List (Int × Int × ByteArray) → Int
  | _, [] => 0
  | p, r :: l => if ok1 r = false then 150 else if off p r = true then 151 else rowE (some r) l
/-- A record's bytes. -/
def recB (r : Int × Int × ByteArray) : List UInt8 := putV r.1.toNat ++ (putV r.2.1.toNat ++ (putV r.2.2.size ++ r.2.2.data.toList))
def joinB (l : List (Int × Int × ByteArray)) : List UInt8 := l.flatMap recB
/-- What record.Join tells. -/
def jE (l : List (Int × Int × ByteArray)) : Int := if rowE none l ≠ 0 then rowE none l else if 20000 < (joinB l).length then 3 else 0
/-- k numbers, one behind the other. -/
def fin : Nat → List Nat → List UInt8 → Int × List Nat × List UInt8
  | 0, acc, b => (0, acc, b)
  | k + 1, acc, b => if (gv 0 0 b).2.2 ≠ 0 then ((gv 0 0 b).2.2, acc, []) else fin k (acc ++ [(gv 0 0 b).1]) (b.drop (gv 0 0 b).2.1)
/-- The record at the beginning of bytes, and what stands behind it. -/
def rec1 (b : List UInt8) : Option ((Int × Int × ByteArray) × List UInt8) := match fin 3 [] b with
  | (0, [q, t, n], r) => if q < 1 ∨ 1000000000 < q ∨ 1000000000 < t ∨ 2000 < n then none else if r.length < n then none else some (((q : Int), (t : Int), ⟨(r.take n).toArray⟩), r.drop n)
  | _ => none
def spl : Nat → List UInt8 → Option (List (Int × Int × ByteArray))
  | 0, b => if b = [] then some [] else none
  | n + 1, b => if b = [] then some [] else match rec1 b with
    | none => none
    | some x => (spl n x.2).map (x.1 :: ·)
/-- What record.Split tells. -/
def split (b : List UInt8) : Option (List (Int × Int × ByteArray)) := if 20000 < b.length then none else match spl b.length b with
  | none => none
  | some l => if rowE none l ≠ 0 then none else some l

theorem fin_put (n : Nat) (hn : n < 9223372036854775808) (k : Nat) (acc : List Nat) (r : List UInt8) : fin (k + 1) acc (putV n ++ r) = fin k (acc ++ [n]) r := by
  rw [fin, gv_put n hn, if_neg (by simp)]
  simp
theorem recB_length (r : Int × Int × ByteArray) : 3 ≤ (recB r).length := by
  have := length_putV_pos r.1.toNat
  have := length_putV_pos r.2.1.toNat
  have := length_putV_pos r.2.2.size
  unfold recB; simp only [List.length_append]; omega
theorem rec1_put (r : Int × Int × ByteArray) (h : ok1 r = true) (b : List UInt8) : rec1 (recB r ++ b) = some (r, b) := by
  obtain ⟨q, t, d⟩ := r
  rw [ok1_iff] at h
  simp only at h
  obtain ⟨q, rfl⟩ := Int.eq_ofNat_of_zero_le (show 0 ≤ q by omega)
  obtain ⟨t, rfl⟩ := Int.eq_ofNat_of_zero_le (show 0 ≤ t by omega)
  have hd : d.data.toList.length = d.size := rfl
  unfold rec1 recB
  simp only [List.append_assoc, Int.toNat_natCast]
  rw [fin_put q (by omega), fin_put t (by omega), fin_put d.size (by omega)]
  simp only [fin, List.nil_append, List.cons_append]
  rw [if_neg (by omega), if_neg (by simp only [List.length_append]; omega)]
  rw [List.take_left' hd, List.drop_left' hd]
theorem fin_some : ∀ (k : Nat) (acc : List Nat) (b : List UInt8) (ns : List Nat) (r : List UInt8), fin k acc b = (0, ns, r) → ∃ l : List Nat, l.length = k ∧ ns = acc ++ l ∧ b = l.flatMap putV ++ r ∧ ∀ n ∈ l, n < 9223372036854775808
  | 0, acc, b, ns, r, h => by
    simp only [fin, Prod.mk.injEq, true_and] at h
    exact ⟨[], rfl, by simp [h.1], by simp [h.2], by simp⟩
  | k + 1, acc, b, ns, r, h => by
    rw [fin] at h
    split at h
    · rename_i hc
      simp only [Prod.mk.injEq] at h
      exact absurd h.1 hc
    rename_i hc
    obtain ⟨l, hl, hns, hb, hlt⟩ := fin_some k _ _ _ _ h
    obtain ⟨n, rest, hb1, hv, hu, hn, -⟩ := gv_some b 0 0 (gv 0 0 b).1 (gv 0 0 b).2.1 (by
      have : (gv 0 0 b).2.2 = 0 := by simpa using hc
      rw [← this])
    simp only [Nat.pow_zero, Nat.mul_one, Nat.zero_add] at hv hu
    have hdr : b.drop (gv 0 0 b).2.1 = rest := by
      rw [hu]
      conv => lhs; rw [hb1]
      simp
    rw [hdr] at hb
    rw [hv] at hns
    refine ⟨n :: l, by simp [hl], by simp [hns], ?_, ?_⟩
    · rw [List.flatMap_cons, List.append_assoc, ← hb]; exact hb1
    · intro x hx
      rcases List.mem_cons.1 hx with rfl | hx
      · simpa using hn
      · exact hlt x hx
theorem rec1_some (b : List UInt8) (r : Int × Int × ByteArray) (b' : List UInt8) (h : rec1 b = some (r, b')) : ok1 r = true ∧ b = recB r ++ b' := by
  unfold rec1 at h
  split at h
  · rename_i q t n rr he
    obtain ⟨l, hl, hns, hb, -⟩ := fin_some 3 [] b _ _ he
    simp only [List.nil_append] at hns
    subst hns
    split at h
    · simp at h
    split at h
    · simp at h
    rename_i h1 h2
    simp only [Option.some.injEq, Prod.mk.injEq] at h
    obtain ⟨rfl, rfl⟩ := h
    have e : (⟨(rr.take n).toArray⟩ : ByteArray).size = n := by
      have : (⟨(rr.take n).toArray⟩ : ByteArray).size = (rr.take n).length := by simp [ByteArray.size]
      rw [this, List.length_take]; omega
    refine ⟨?_, ?_⟩
    · rw [ok1_iff]
      simp only [e]
      omega
    · rw [hb]
      unfold recB
      simp only [Int.toNat_natCast, e]
      simp [List.append_assoc]
  · simp at h
theorem spl_join : ∀ (l : List (Int × Int × ByteArray)) (n : Nat), (∀ r ∈ l, ok1 r = true) → (joinB l).length ≤ n → spl n (joinB l) = some l
  | [], n, _, _ => by cases n <;> simp [spl, joinB]
  | r :: l, n, h, hn => by
    have e : joinB (r :: l) = recB r ++ joinB l := List.flatMap_cons ..
    have h3 := recB_length r
    rw [e, List.length_append] at hn
    obtain ⟨n, rfl⟩ : ∃ m, n = m + 1 := ⟨n - 1, by omega⟩
    rw [e, spl, if_neg (by intro e2; have := congrArg List.length e2; simp at this; rw [this.1] at h3; simp at h3), rec1_put r (h r (List.mem_cons_self ..))]
    simp only
    rw [spl_join l n (fun x hx => h x (List.mem_cons_of_mem _ hx)) (by omega)]
    rfl
theorem spl_some : ∀ (n : Nat) (b : List UInt8) (l : List (Int × Int × ByteArray)), spl n b = some l → b = joinB l ∧ ∀ r ∈ l, ok1 r = true
  | 0, b, l, h => by
    rw [spl] at h
    split at h
    · simp only [Option.some.injEq] at h; subst h; rename_i hb; simp [hb, joinB]
    · simp at h
  | n + 1, b, l, h => by
    rw [spl] at h
    split at h
    · simp only [Option.some.injEq] at h; subst h; rename_i hb; simp [hb, joinB]
    split at h
    · simp at h
    rename_i x hx
    obtain ⟨l', hl', rfl⟩ := Option.map_eq_some_iff.1 h
    obtain ⟨h1, h2⟩ := spl_some n x.2 l' hl'
    obtain ⟨h3, h4⟩ := rec1_some b x.1 x.2 hx
    refine ⟨?_, ?_⟩
    · rw [h4, h1]; exact (List.flatMap_cons ..).symm
    · intro r hr
      rcases List.mem_cons.1 hr with rfl | hr
      · exact h3
      · exact h2 r hr
theorem rowE_ok : ∀ (l : List (Int × Int × ByteArray)) (p : Option (Int × Int × ByteArray)), rowE p l = 0 → ∀ r ∈ l, ok1 r = true
  | [], _, _ => by simp
  | r :: l, p, h => by
    rw [rowE] at h
    split at h; · simp at h
    split at h; · simp at h
    rename_i h1 _
    intro x hx
    rcases List.mem_cons.1 hx with rfl | hx
    · simpa using h1
    · exact rowE_ok l _ h x hx
theorem split_join (l : List (Int × Int × ByteArray)) (h : jE l = 0) : split (joinB l) = some l := by
  unfold jE at h
  split at h
  · rename_i h1; exact absurd h h1
  split at h; · simp at h
  rename_i h1 h2
  have h1 : rowE none l = 0 := by simpa using h1
  unfold split
  rw [if_neg h2, spl_join l _ (rowE_ok l _ h1) (Nat.le_refl _)]
  simp [h1]
theorem split_some (b : List UInt8) (l : List (Int × Int × ByteArray)) (h : split b = some l) : b = joinB l ∧ jE l = 0 := by
  unfold split at h
  split at h; · simp at h
  split at h; · simp at h
  rename_i h2 _ l' hl'
  split at h; · simp at h
  rename_i h3
  simp only [Option.some.injEq] at h
  subst h
  obtain ⟨h4, -⟩ := spl_some _ _ _ hl'
  refine ⟨h4, ?_⟩
  unfold jE
  rw [if_neg h3, if_neg (by rw [← h4]; exact h2)]
end Rd
end Go.Proofs.YtpbphhpldlckbaaGreat
namespace Go.Proofs.YtpbphhpldlckbaaGreat
namespace Vi
open Go.RowKit

set_option maxRecDepth 20000 in
theorem or128 (n : Nat) : bits .or .u8 ((n : Int) % 256) 128 = ((UInt8.ofNat (n % 128 + 128)).toNat : Int) := by
  have h : ∀ a : Fin 256, bits .or .u8 (a.val : Int) 128 = ((a.val % 128 + 128 : Nat) : Int) := by decide
  have := h ⟨n % 256, by omega⟩
  rw [toNat_ofNat _ (by omega)]
  rw [show (n : Int) % 256 = ((n % 256 : Nat) : Int) by omega, this]
  simp only
  omega
theorem low7 (n : Nat) (h : n < 128) : (n : Int) = ((UInt8.ofNat n).toNat : Int) := by
  rw [toNat_ofNat _ (by omega)]

set_option maxHeartbeats 1600000 in
set_option maxRecDepth 100000 in
theorem add_any (v : Value) (l : List UInt8) (B N : Nat) (w : World) (hown : OwnB w B v l) (hB : B ≤ w.heap.size) (hl : l.length ≤ 1000000) (hN : N < 9223372036854775808) (hput : (putV N).length ≤ 9) :
    Calls Tryz.prog 49 #[v, .int .i64 (N : Int)] w fun e w' => ∃ v', e = .returned v' ∧ OwnB w' B v' (l ++ putV N) ∧ Below B w w' := by
  go_enter Tryz.func49, Tryz.ntmps49
  go_wp2_with fail
  go_loopw [0, 1] (fun v1 m wr => ∃ (mk : Nat) (acc : List UInt8), m = .int .i64 mk ∧ mk < 9223372036854775808 ∧ Hid (acc ++ putV mk = l ++ putV N) ∧ acc.length ≤ 2000000 ∧ OwnB wr B v1 acc ∧ Below B w wr) (fun _ m _ => (intOf m).toNat)
  case atStart => exact ⟨N, l, by go_num, hN, rfl, by omega, hown, Below.refl _ _⟩
  case round =>
    obtain ⟨mk, acc, rfl, hm, heq, hacc, hown, hbw⟩ := hrel
    by_cases hlt : 128 ≤ mk
    · go_wp2_with (at_builtin; refine appendB (UInt8.ofNat (mk % 128 + 128)) (or128 mk) hown (by omega) (Nat.le_trans hB hbw.size) ?_; intro A1 n1 c1 w1 _ hown1 hb1 _ _)
      have hac : (acc ++ [UInt8.ofNat (mk % 128 + 128)]) ++ putV (mk / 128) = l ++ putV N := by
        have := heq.out; rw [putV_step (by omega)] at this; simpa using this
      have hll := congrArg List.length hac
      simp only [List.length_append, List.length_cons, List.length_nil] at hll
      exact ⟨⟨mk / 128, acc ++ [UInt8.ofNat (mk % 128 + 128)], by go_num, by omega, hac, by simp; omega, hown1, hbw.trans hb1⟩, by simp [intOf]; omega⟩
    · go_wp2_with (at_builtin; refine appendB (UInt8.ofNat mk) (low7 mk (by omega)) hown (by omega) (Nat.le_trans hB hbw.size) ?_; intro A1 n1 c1 w1 _ hown1 hb1 _ _)
      go_ret
      have hd : putV mk = [UInt8.ofNat mk] := putV_small (by omega)
      have he : acc ++ [UInt8.ofNat mk] = l ++ putV N := by have := heq.out; rwa [hd] at this
      exact ⟨_, rfl, he ▸ hown1, hbw.trans hb1⟩

/-- A number's bytes as a text. -/
def vtxt (n : Nat) : ByteArray := ⟨(putV n).toArray⟩

set_option maxHeartbeats 1600000 in
set_option maxRecDepth 100000 in
theorem put_any (N : Nat) (w : World) (hN : N < 9223372036854775808) :
    Calls Tryz.prog 27 #[.int .i64 (N : Int)] w fun e w' => e = .returned (.tuple #[.string (vtxt N), .int .i64 0]) ∧ Below w.heap.size w w' := by
  have hput : (putV N).length ≤ 9 := length_putV_le N 8 (by omega)
  go_enter Tryz.func27, Tryz.ntmps27
  go_wp2_with (at_make; (refine makeB0 (n := 9) (by omega) (Nat.le_refl w.heap.size) ?_); intro w1 hown1 hg1 hz1)
  refine (add_any _ [] w.heap.size N w1 hown1 (by omega) (by simp) hN hput).mono ?_
  rintro e w2 ⟨v', rfl, hown2, hb2⟩
  rw [List.nil_append] at hown2
  obtain ⟨A, c, rfl, _, _, hrd⟩ := hown2.rd
  have hs := run_str (c := c) hrd
  have hb1 : Below w.heap.size w w1 := (Below.refl _ _).grown hg1 (Nat.le_refl _) (by simp)
  go_wp2
  go_ret2
  exact ⟨rfl, hb1.trans hb2⟩
end Vi
end Go.Proofs.YtpbphhpldlckbaaGreat
