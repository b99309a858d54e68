/- What lens.Check, bits.Done and huff.Counts tell: plain lists, no program. Sorting that keeps the order of equals: merging two rows, and what Go's stable sort does with them: plain lists, no program. Lengths of a code's words by packages: what lens.Best computes, and that the code is whole: plain lists, no program. -/
import Derived.Test.YtpbphhpldlckbaaGreatSc08
import Derived.Test.YtpbphhpldlckbaaGreatSc01
namespace Go.Proofs.YtpbphhpldlckbaaGreat
namespace Cn
/-- What lens.Check tells. -/
def bad (x : Int) : Bool := decide (x < 0) || decide (15 < x)
def half (l : List Int) : Bool := decide (us l = 1) && decide ((l.map kr).sum = 16384)
def sumOk (l : List Int) : Bool := decide ((l.map kr).sum = 0) || decide ((l.map kr).sum = 32768) || half l
def checkE (l : List Int) : Int := if 257 < l.length then 3 else if l.any bad = true then 80 else if sumOk l = true then 0 else 80

end Cn
namespace Bt
/-- Is all read but for less than a byte of noughts? -/
def doneB (l : List Bool) : Bool := decide (l.length = 0) || (decide (l.length < 8) && decide (nz l = l.length))

end Bt
namespace Hf
/-- How often each symbol comes. -/
def incI (l : List Int) (s : Nat) : List Int := l.set s (l.getD s 0 + 1)
def cts (syms : List Int) : List Int := syms.foldl (fun l s => incI l s.toNat) (List.replicate 257 0)
def okS (s : Int) : Bool := decide (0 ≤ s) && decide (s < 257)
theorem length_incI (l : List Int) (s : Nat) : (incI l s).length = l.length := by simp [incI]
theorem length_foldl (syms : List Int) : ∀ (l : List Int), (syms.foldl (fun l s => incI l s.toNat) l).length = l.length := by
  induction syms with
  | nil => intro l; rfl
  | cons s r ih => intro l; rw [List.foldl_cons, ih, length_incI]
theorem length_cts (syms : List Int) : (cts syms).length = 257 := by unfold cts; rw [length_foldl, List.length_replicate]
theorem cts_take (syms : List Int) (k : Nat) (h : k < syms.length) : cts (syms.take (k + 1)) = incI (cts (syms.take k)) syms[k].toNat := by
  unfold cts
  rw [List.take_add_one, List.getElem?_eq_getElem h, List.foldl_append]; rfl
theorem foldl_bd (syms : List Int) : ∀ (l : List Int) (m : Int), 0 ≤ m → (∀ x ∈ l, 0 ≤ x ∧ x ≤ m) → ∀ x ∈ syms.foldl (fun l s => incI l s.toNat) l, 0 ≤ x ∧ x ≤ m + syms.length := by
  induction syms with
  | nil => intro l m _ h x hx; have := h x hx; simp; omega
  | cons s r ih =>
    intro l m hm h x hx
    rw [List.foldl_cons] at hx
    have h2 : ∀ x ∈ incI l s.toNat, 0 ≤ x ∧ x ≤ m + 1 := by
      intro y hy
      unfold incI at hy
      rcases List.mem_or_eq_of_mem_set hy with hy | rfl
      · have := h y hy; omega
      · rw [List.getD_eq_getElem?_getD]
        rcases hq : l[s.toNat]? with _ | z
        · simp; omega
        · have := h z (List.mem_of_getElem? hq); simp; omega
    have := ih _ (m + 1) (by omega) h2 x hx
    simp only [List.length_cons]; omega
theorem cts_bd (syms : List Int) : ∀ x ∈ cts syms, 0 ≤ x ∧ x ≤ syms.length := by
  intro x hx
  have := foldl_bd syms (List.replicate 257 0) 0 (by omega) (fun y hy => by rw [List.eq_of_mem_replicate hy]; omega) x hx
  omega

def ctsE (l : List Int) : Int := if l.all okS = true then 0 else 70
def ctsL (l : List Int) : List Int := if l.all okS = true then cts l else []
theorem ctsE_no (l : List Int) (h : l.all okS = false) : ctsE l = 70 ∧ ctsL l = [] := by unfold ctsE ctsL; rw [h]; exact ⟨rfl, rfl⟩
theorem ctsE_yes (l : List Int) (h : l.all okS = true) : ctsE l = 0 ∧ ctsL l = cts l := by unfold ctsE ctsL; rw [if_pos h, if_pos h]; exact ⟨rfl, rfl⟩
theorem all_take (l : List Int) (k : Nat) (h : k < l.length) (ha : (l.take k).all okS = true) (hp : okS l[k] = true) : (l.take (k + 1)).all okS = true := by
  rw [List.take_add_one, List.getElem?_eq_getElem h, List.all_append, ha]
  simp [hp]
theorem all_no (l : List Int) (k : Nat) (h : k < l.length) (hp : okS l[k] = false) : l.all okS = false := by
  rw [List.all_eq_false]; exact ⟨l[k], List.getElem_mem h, by simp [hp]⟩

end Hf
end Go.Proofs.YtpbphhpldlckbaaGreat
namespace Go.Proofs.YtpbphhpldlckbaaGreat
namespace St
variable {α : Type} (key : α → Int)

/-- Two rows merged: an element of the second one goes ahead only where it is less. -/
def mrg : List α → List α → List α
  | [], R => R
  | x :: L, [] => x :: L
  | x :: L, y :: R => if key y < key x then y :: mrg (x :: L) R else x :: mrg L (y :: R)
termination_by L R => L.length + R.length

theorem mrg_nil_left (R : List α) : mrg key [] R = R := by rw [mrg]
theorem mrg_nil_right (L : List α) : mrg key L [] = L := by cases L <;> rw [mrg]
theorem mrg_lt {x y : α} {L R : List α} (h : key y < key x) : mrg key (x :: L) (y :: R) = y :: mrg key (x :: L) R := by rw [mrg, if_pos h]
theorem mrg_ge {x y : α} {L R : List α} (h : ¬ key y < key x) : mrg key (x :: L) (y :: R) = x :: mrg key L (y :: R) := by rw [mrg, if_neg h]

/-- Rows that are cut fitly are merged part by part. -/
theorem mrg_split : ∀ (n : Nat) (L1 L2 R1 R2 : List α), L1.length + R1.length ≤ n → (∀ y ∈ R1, ∀ x ∈ L2, key y < key x) → (∀ x ∈ L1, ∀ y ∈ R2, ¬ key y < key x) →
    mrg key (L1 ++ L2) (R1 ++ R2) = mrg key L1 R1 ++ mrg key L2 R2 := by
  intro n
  induction n with
  | zero =>
    intro L1 L2 R1 R2 hn _ _
    have h1 : L1 = [] := List.eq_nil_of_length_eq_zero (by omega)
    have h2 : R1 = [] := List.eq_nil_of_length_eq_zero (by omega)
    subst h1; subst h2
    simp [mrg_nil_left]
  | succ n ih =>
    intro L1 L2 R1 R2 hn h1 h2
    rcases L1 with _ | ⟨x, L1⟩
    · rcases R1 with _ | ⟨y, R1⟩
      · simp [mrg_nil_left]
      · rcases L2 with _ | ⟨x, L2⟩
        · simp [mrg_nil_left]
        · rw [List.nil_append, List.cons_append, mrg_lt key (h1 y (by simp) x (by simp)), mrg_nil_left]
          have := ih [] (x :: L2) R1 R2 (by simp at hn ⊢; omega) (fun y hy => h1 y (by simp [hy])) (by simp)
          rw [List.nil_append, mrg_nil_left] at this
          rw [this]; rfl
    · rcases R1 with _ | ⟨y, R1⟩
      · rcases R2 with _ | ⟨y, R2⟩
        · simp [mrg_nil_right]
        · rw [List.nil_append, List.cons_append, mrg_ge key (h2 x (by simp) y (by simp)), mrg_nil_right]
          have := ih L1 L2 [] (y :: R2) (by simp at hn ⊢; omega) (by simp) (fun x hx => h2 x (by simp [hx]))
          rw [List.nil_append, mrg_nil_right] at this
          rw [this]; rfl
      · simp only [List.cons_append]
        by_cases h : key y < key x
        · rw [mrg_lt key h, mrg_lt key h]
          have := ih (x :: L1) L2 R1 R2 (by simp at hn ⊢; omega) (fun y hy => h1 y (by simp [hy])) h2
          rw [List.cons_append] at this
          rw [this]; rfl
        · rw [mrg_ge key h, mrg_ge key h]
          have := ih L1 L2 (y :: R1) R2 (by simp at hn ⊢; omega) h1 (fun x hx => h2 x (by simp [hx]))
          rw [List.cons_append] at this
          rw [this]; rfl

theorem mrg_split' (L1 L2 R1 R2 : List α) (h1 : ∀ y ∈ R1, ∀ x ∈ L2, key y < key x) (h2 : ∀ x ∈ L1, ∀ y ∈ R2, ¬ key y < key x) :
    mrg key (L1 ++ L2) (R1 ++ R2) = mrg key L1 R1 ++ mrg key L2 R2 := mrg_split key _ L1 L2 R1 R2 (Nat.le_refl _) h1 h2

theorem mrg_assoc : ∀ (n : Nat) (A B C : List α), A.length + B.length + C.length ≤ n → mrg key (mrg key A B) C = mrg key A (mrg key B C) := by
  intro n
  induction n with
  | zero =>
    intro A B C hn
    have h1 : A = [] := List.eq_nil_of_length_eq_zero (by omega)
    subst h1
    simp [mrg_nil_left]
  | succ n ih =>
    intro A B C hn
    rcases A with _ | ⟨a, A⟩
    · simp [mrg_nil_left]
    rcases B with _ | ⟨b, B⟩
    · simp [mrg_nil_left, mrg_nil_right]
    rcases C with _ | ⟨c, C⟩
    · simp [mrg_nil_right]
    simp only [List.length_cons] at hn
    by_cases hba : key b < key a
    · rw [mrg_lt key hba]
      by_cases hcb : key c < key b
      · rw [mrg_lt key hcb, mrg_lt key hcb, mrg_lt key (show key c < key a by omega), ← mrg_lt key hba, ih (a :: A) (b :: B) C (by simp; omega)]
      · rw [mrg_ge key hcb, mrg_ge key hcb, mrg_lt key hba, ih (a :: A) B (c :: C) (by simp; omega)]
    · rw [mrg_ge key hba]
      by_cases hca : key c < key a
      · rw [mrg_lt key hca, mrg_lt key (show key c < key b by omega), mrg_lt key hca, ← mrg_ge key hba, ih (a :: A) (b :: B) C (by simp; omega)]
      · rw [mrg_ge key hca, ih A (b :: B) (c :: C) (by simp; omega)]
        by_cases hcb : key c < key b
        · rw [mrg_lt key hcb, mrg_ge key hca]
        · rw [mrg_ge key hcb, mrg_ge key hba]

/-- Sorted, equals in their order. -/
def stab (l : List α) : List α := l.foldr (fun x acc => mrg key [x] acc) []
theorem stab_nil : stab key ([] : List α) = [] := rfl
theorem stab_cons (x : α) (l : List α) : stab key (x :: l) = mrg key [x] (stab key l) := rfl
theorem stab_one (x : α) : stab key [x] = [x] := by rw [stab_cons, stab_nil, mrg_nil_right]
theorem mrg_stab : ∀ (A B : List α), mrg key (stab key A) (stab key B) = stab key (A ++ B)
  | [], B => by rw [stab_nil, mrg_nil_left, List.nil_append]
  | x :: A, B => by rw [stab_cons, mrg_assoc key _ _ _ _ (Nat.le_refl _), mrg_stab A B, List.cons_append, stab_cons]

theorem mrg_perm : ∀ (n : Nat) (L R : List α), L.length + R.length ≤ n → (mrg key L R).Perm (L ++ R) := by
  intro n
  induction n with
  | zero =>
    intro L R hn
    have h1 : L = [] := List.eq_nil_of_length_eq_zero (by omega)
    subst h1
    rw [mrg_nil_left]; exact List.Perm.refl _
  | succ n ih =>
    intro L R hn
    rcases L with _ | ⟨x, L⟩
    · rw [mrg_nil_left]; exact List.Perm.refl _
    rcases R with _ | ⟨y, R⟩
    · rw [mrg_nil_right, List.append_nil]
    simp only [List.length_cons] at hn
    by_cases h : key y < key x
    · rw [mrg_lt key h]
      exact ((ih (x :: L) R (by simp; omega)).cons y).trans List.perm_middle.symm
    · rw [mrg_ge key h]
      exact (ih L (y :: R) (by simp; omega)).cons x
theorem mrg_perm' (L R : List α) : (mrg key L R).Perm (L ++ R) := mrg_perm key _ L R (Nat.le_refl _)
theorem length_mrg (L R : List α) : (mrg key L R).length = L.length + R.length := by rw [(mrg_perm' key L R).length_eq, List.length_append]

theorem stab_perm : ∀ (l : List α), (stab key l).Perm l
  | [] => List.Perm.refl _
  | x :: l => by
    rw [stab_cons]
    exact (mrg_perm' key [x] (stab key l)).trans ((stab_perm l).cons x)
theorem length_stab (l : List α) : (stab key l).length = l.length := (stab_perm key l).length_eq

/-- In order, equals beside each other. -/
def Srt (l : List α) : Prop := l.Pairwise fun a b => key a ≤ key b

theorem mrg_srt : ∀ (n : Nat) (L R : List α), L.length + R.length ≤ n → Srt key L → Srt key R → Srt key (mrg key L R) := by
  intro n
  induction n with
  | zero =>
    intro L R hn _ hR
    have h1 : L = [] := List.eq_nil_of_length_eq_zero (by omega)
    subst h1
    rw [mrg_nil_left]; exact hR
  | succ n ih =>
    intro L R hn hL hR
    rcases L with _ | ⟨x, L⟩
    · rw [mrg_nil_left]; exact hR
    rcases R with _ | ⟨y, R⟩
    · rw [mrg_nil_right]; exact hL
    simp only [List.length_cons] at hn
    have hL' := List.pairwise_cons.1 hL
    have hR' := List.pairwise_cons.1 hR
    by_cases h : key y < key x
    · rw [mrg_lt key h]
      refine List.pairwise_cons.2 ⟨fun z hz => ?_, ih (x :: L) R (by simp; omega) hL hR'.2⟩
      have hz' := (mrg_perm' key (x :: L) R).mem_iff.1 hz
      rcases List.mem_append.1 hz' with hz' | hz'
      · rcases List.mem_cons.1 hz' with rfl | hz'
        · omega
        · have := hL'.1 z hz'; omega
      · exact hR'.1 z hz'
    · rw [mrg_ge key h]
      refine List.pairwise_cons.2 ⟨fun z hz => ?_, ih L (y :: R) (by simp; omega) hL'.2 hR⟩
      have hz' := (mrg_perm' key L (y :: R)).mem_iff.1 hz
      rcases List.mem_append.1 hz' with hz' | hz'
      · exact hL'.1 z hz'
      · rcases List.mem_cons.1 hz' with rfl | hz'
        · omega
        · have := hR'.1 z hz'; omega
theorem mrg_srt' {L R : List α} (hL : Srt key L) (hR : Srt key R) : Srt key (mrg key L R) := mrg_srt key _ L R (Nat.le_refl _) hL hR

theorem stab_srt : ∀ (l : List α), Srt key (stab key l)
  | [] => List.Pairwise.nil
  | x :: l => by
    rw [stab_cons]
    exact mrg_srt' key (List.pairwise_singleton _ _) (stab_srt l)

/-- One more behind a row: it goes behind all that are not greater. -/
theorem mrg_one (S1 S2 : List α) (x : α) (h1 : ∀ s ∈ S1, key s ≤ key x) (h2 : ∀ s ∈ S2, key x < key s) : mrg key (S1 ++ S2) [x] = S1 ++ x :: S2 := by
  have h := mrg_split' key S1 S2 [] [x] (by simp) (by intro s hs y hy; simp at hy; subst hy; have := h1 s hs; omega)
  rw [List.nil_append, mrg_nil_right] at h
  rw [h]
  congr 1
  rcases S2 with _ | ⟨s, S2⟩
  · rw [mrg_nil_left]
  · rw [mrg_lt key (h2 s (by simp)), mrg_nil_right]
/-- One ahead of a row: it goes ahead of all that are not less. -/
theorem one_mrg (R1 R2 : List α) (x : α) (h1 : ∀ s ∈ R1, key s < key x) (h2 : ∀ s ∈ R2, key x ≤ key s) : mrg key [x] (R1 ++ R2) = R1 ++ x :: R2 := by
  have h := mrg_split' key [] [x] R1 R2 (by intro y hy z hz; simp at hz; subst hz; exact h1 y hy) (by simp)
  rw [List.nil_append, mrg_nil_left] at h
  rw [h]
  congr 1
  rcases R2 with _ | ⟨s, R2⟩
  · rw [mrg_nil_right]
  · rw [mrg_ge key (by have := h2 s (by simp); omega), mrg_nil_left]

end St
end Go.Proofs.YtpbphhpldlckbaaGreat
namespace Go.Proofs.YtpbphhpldlckbaaGreat
namespace Ln
open St

/-- A weight, and what it is: a symbol, or less than 0: a package. -/
abbrev Thing := Int × Int
def wt (x : Thing) : Int := x.1

/-- Pairs of things put together; i is the number of the first pair. -/
def packs : Nat → List Thing → List Thing
  | i, x :: y :: r => (x.1 + y.1, -1 - (i : Int)) :: packs (i + 1) r
  | _, _ => []

theorem length_packs : ∀ (i : Nat) (l : List Thing), (packs i l).length = l.length / 2
  | _, [] => by simp [packs]
  | _, [_] => by simp [packs]
  | i, x :: y :: r => by simp [packs, length_packs (i + 1) r]; omega

def rowsL (F : List Thing) : Nat → List Thing
  | 0 => F
  | i + 1 => mrg wt F (packs 0 (rowsL F i))

/-- How many of a row's things are packages. -/
def npk (l : List Thing) : Nat := (l.filter fun x => decide (x.2 < 0)).length

section
variable {F : List Thing}

theorem mrg_mem {x : Thing} (L R : List Thing) : x ∈ mrg wt L R ↔ x ∈ L ∨ x ∈ R := by
  rw [(mrg_perm' wt L R).mem_iff, List.mem_append]

theorem packs_neg : ∀ (i : Nat) (l : List Thing), ∀ x ∈ packs i l, x.2 < 0
  | _, [], x, h => by simp [packs] at h
  | _, [_], x, h => by simp [packs] at h
  | i, a :: b :: r, x, h => by
    simp only [packs, List.mem_cons] at h
    rcases h with rfl | h
    · show -1 - (i : Int) < 0; omega
    · exact packs_neg (i + 1) r x h

theorem packs_srt : ∀ (i : Nat) (l : List Thing), Srt wt l → Srt wt (packs i l)
  | _, [], _ => List.Pairwise.nil
  | _, [_], _ => List.Pairwise.nil
  | i, a :: b :: r, h => by
    have ih := packs_srt (i + 1) r
    unfold Srt at *
    rw [List.pairwise_cons, List.pairwise_cons] at h
    simp only [packs]
    rw [List.pairwise_cons]
    refine ⟨?_, ih h.2.2⟩
    intro x hx
    have : ∀ (j : Nat) (l : List Thing), (∀ z ∈ l, wt a ≤ wt z ∧ wt b ≤ wt z) → ∀ x ∈ packs j l, wt (a.1 + b.1, -1 - (i : Int)) ≤ wt x := by
      intro j l
      induction j, l using packs.induct with
      | case1 j p q r ih1 =>
        intro hz x hx
        simp only [packs, List.mem_cons] at hx
        rcases hx with rfl | hx
        · have h1 := hz p (by simp); have h2 := hz q (by simp)
          simp only [wt] at *; omega
        · exact ih1 (fun z hz' => hz z (by simp [hz'])) x hx
      | case2 l k hl =>
        intro _ x hx
        match l, hl, hx with
        | [], _, hx => simp [packs] at hx
        | [_], _, hx => simp [packs] at hx
        | p :: q :: r, hl, _ => exact (hl p q r rfl).elim
    exact this (i + 1) r (fun z hz => ⟨h.1 z (by simp [hz]), h.2.1 z hz⟩) x hx

/-- A package weighs more than each of its two. -/
theorem packs_gt : ∀ (i : Nat) (l : List Thing) (_ : ∀ x ∈ l, 0 < wt x) (m : Nat) (x : Thing), l[m]? = some x → m / 2 < (packs i l).length → ∃ y, (packs i l)[m / 2]? = some y ∧ wt x < wt y
  | _, [], _, m, x, h, _ => by simp at h
  | _, [_], _, m, x, h, h' => by simp [packs] at h'
  | i, a :: b :: r, hp, m, x, h, h' => by
    have ha := hp a (by simp)
    have hb := hp b (by simp)
    rcases m with _ | _ | m
    · simp at h; subst h
      exact ⟨_, by simp [packs]; rfl, by simp only [wt] at *; omega⟩
    · simp at h; subst h
      exact ⟨_, by simp [packs]; rfl, by simp only [wt] at *; omega⟩
    · have e : (m + 2) / 2 = m / 2 + 1 := by omega
      rw [e] at h' ⊢
      simp only [packs, List.length_cons, List.getElem?_cons_succ] at h' h ⊢
      exact packs_gt (i + 1) r (fun z hz => hp z (by simp [hz])) m x h (by omega)

theorem packs_pos : ∀ (i : Nat) (l : List Thing), (∀ x ∈ l, 0 < wt x) → ∀ x ∈ packs i l, 0 < wt x
  | _, [], _, x, h => by simp [packs] at h
  | _, [_], _, x, h => by simp [packs] at h
  | i, a :: b :: r, hp, x, h => by
    simp only [packs, List.mem_cons] at h
    have ha := hp a (by simp)
    have hb := hp b (by simp)
    rcases h with rfl | h
    · simp only [wt] at *; omega
    · exact packs_pos (i + 1) r (fun z hz => hp z (by simp [hz])) x h

/-- A beginning of two rows that were merged. -/
theorem mrg_take : ∀ (n : Nat) (F G : List Thing), Srt wt F → n ≤ F.length + G.length →
    ∃ a b, a + b = n ∧ a ≤ F.length ∧ b ≤ G.length ∧ (mrg wt F G).take n = mrg wt (F.take a) (G.take b) ∧ ∀ y ∈ G.take b, ∀ x ∈ F.drop a, wt y < wt x := by
  intro n
  induction n with
  | zero => intro F G _ _; exact ⟨0, 0, rfl, by omega, by omega, by simp [mrg_nil_left], by simp⟩
  | succ n ih =>
    intro F G hF hn
    rcases F with _ | ⟨x, F⟩
    · exact ⟨0, n + 1, by omega, by simp, by simpa using hn, by simp [mrg_nil_left], by simp⟩
    rcases G with _ | ⟨y, G⟩
    · exact ⟨n + 1, 0, by omega, by simpa using hn, by simp, by simp [mrg_nil_right], by simp⟩
    by_cases h : wt y < wt x
    · obtain ⟨a, b, hab, ha, hb, he, hc⟩ := ih (x :: F) G hF (by simp at hn ⊢; omega)
      refine ⟨a, b + 1, by omega, ha, by simp; omega, ?_, ?_⟩
      · rw [mrg_lt wt h, List.take_succ_cons, he, List.take_succ_cons]
        rcases a with _ | a
        · simp [mrg_nil_left]
        · rw [List.take_succ_cons, mrg_lt wt h]
      · intro z hz u hu
        rw [List.take_succ_cons, List.mem_cons] at hz
        rcases hz with rfl | hz
        · have hu' := List.mem_of_mem_drop hu
          unfold Srt at hF
          rw [List.pairwise_cons] at hF
          rcases List.mem_cons.1 hu' with rfl | hu'
          · exact h
          · have := hF.1 u hu'; omega
        · exact hc z hz u hu
    · unfold Srt at hF
      rw [List.pairwise_cons] at hF
      obtain ⟨a, b, hab, ha, hb, he, hc⟩ := ih F (y :: G) hF.2 (by simp at hn ⊢; omega)
      refine ⟨a + 1, b, by omega, by simp; omega, hb, ?_, fun z hz u hu => hc z hz u (by simpa using hu)⟩
      rw [mrg_ge wt h, List.take_succ_cons, he, List.take_succ_cons]
      rcases b with _ | b
      · simp [mrg_nil_right]
      · rw [List.take_succ_cons, mrg_ge wt h]

/-- The leaves F: sorted, each of some weight and a symbol. -/
structure Leaves (F : List Thing) : Prop where
  srt : Srt wt F
  pos : ∀ x ∈ F, 0 < wt x
  sym : ∀ x ∈ F, 0 ≤ x.2

theorem rows_srt (h : Leaves F) : ∀ i, Srt wt (rowsL F i)
  | 0 => h.srt
  | i + 1 => mrg_srt' wt h.srt (packs_srt 0 _ (rows_srt h i))
theorem rows_pos (h : Leaves F) : ∀ i, ∀ x ∈ rowsL F i, 0 < wt x
  | 0 => h.pos
  | i + 1 => by
    intro x hx
    rcases (mrg_mem _ _).1 hx with hx | hx
    · exact h.pos x hx
    · exact packs_pos 0 _ (rows_pos h i) x hx

/-- A row's beginning: how many leaves, how many packages. -/
theorem rows_take (h : Leaves F) (i n : Nat) (hn : n ≤ (rowsL F (i + 1)).length) :
    ∃ a b, a + b = n ∧ a ≤ F.length ∧ 2 * b ≤ (rowsL F i).length ∧ (rowsL F (i + 1)).take n = mrg wt (F.take a) ((packs 0 (rowsL F i)).take b) ∧
      ((rowsL F (i + 1)).take n).filter (fun x => decide (0 ≤ x.2)) = F.take a ∧ npk ((rowsL F (i + 1)).take n) = b ∧
      ∀ y ∈ (packs 0 (rowsL F i)).take b, ∀ x ∈ F.drop a, wt y < wt x := by
  rw [show (rowsL F (i + 1)).length = F.length + (packs 0 (rowsL F i)).length from length_mrg wt _ _] at hn
  obtain ⟨a, b, hab, ha, hb, he, hc⟩ := mrg_take n F (packs 0 (rowsL F i)) h.srt hn
  have he' : (rowsL F (i + 1)).take n = mrg wt (F.take a) ((packs 0 (rowsL F i)).take b) := he
  rw [length_packs] at hb
  have hfil : ∀ (p : Thing → Bool) (A B : List Thing), (∀ x ∈ A, p x = true) → (∀ x ∈ B, p x = false) → (mrg wt A B).filter p = A := by
    intro p A B
    induction A, B using mrg.induct (key := wt) with
    | case1 R => intro _ hB; rw [mrg_nil_left, List.filter_eq_nil_iff]; intro x hx; simp [hB x hx]
    | case2 x L => intro hA _; rw [mrg_nil_right, List.filter_eq_self]; exact hA
    | case3 x L y R hlt ih => intro hA hB; rw [mrg_lt wt hlt, List.filter_cons_of_neg (by simp [hB y (by simp)])]; exact ih hA (fun z hz => hB z (by simp [hz]))
    | case4 x L y R hlt ih => intro hA hB; rw [mrg_ge wt hlt, List.filter_cons_of_pos (hA x (by simp)), ih (fun z hz => hA z (by simp [hz])) hB]
  refine ⟨a, b, hab, ha, by omega, he', ?_, ?_, hc⟩
  · rw [he']
    refine hfil _ _ _ (fun x hx => by simp [h.sym x (List.mem_of_mem_take hx)]) (fun x hx => ?_)
    have := packs_neg 0 _ x (List.mem_of_mem_take hx)
    simp; omega
  · unfold npk
    have hp : (mrg wt (F.take a) ((packs 0 (rowsL F i)).take b)).Perm _ := mrg_perm' wt _ _
    rw [he', (hp.filter _).length_eq, List.filter_append, List.length_append, List.filter_eq_nil_iff.2 (fun x hx => by have := h.sym x (List.mem_of_mem_take hx); simp; omega),
      List.filter_eq_self.2 (fun x hx => by simp [packs_neg 0 _ x (List.mem_of_mem_take hx)]), List.length_take, length_packs]
    simp; omega

/-- The first row's beginning. -/
theorem rows_take0 (h : Leaves F) (n : Nat) : ((rowsL F 0).take n).filter (fun x => decide (0 ≤ x.2)) = F.take n ∧ npk ((rowsL F 0).take n) = 0 := by
  refine ⟨List.filter_eq_self.2 (fun x hx => by simp [h.sym x (List.mem_of_mem_take hx)]), ?_⟩
  unfold npk
  rw [List.filter_eq_nil_iff.2 (fun x hx => by have := h.sym x (List.mem_of_mem_take hx); simp; omega)]; rfl

/-- In a lower row, where just the packages' parts are taken, no more leaves are taken. -/
theorem leaves_down (h : Leaves F) (i a b : Nat) (hb : 2 * b ≤ (rowsL F i).length) (hc : ∀ y ∈ (packs 0 (rowsL F i)).take b, ∀ x ∈ F.drop a, wt y < wt x)
    (a' : Nat) (ha' : a' ≤ F.length) (hf : ((rowsL F i).take (2 * b)).filter (fun x => decide (0 ≤ x.2)) = F.take a') : a' ≤ a := by
  rcases Nat.lt_or_ge a a' with hlt | hge
  · exfalso
    have hx : F[a] ∈ F.take a' := by
      rw [List.mem_take_iff_getElem]; exact ⟨a, by omega, rfl⟩
    rw [← hf, List.mem_filter, List.mem_take_iff_getElem] at hx
    obtain ⟨⟨m, hm, he⟩, _⟩ := hx
    obtain ⟨y, hy, hlt'⟩ := packs_gt 0 (rowsL F i) (rows_pos h i) m F[a] (by rw [← he]; exact List.getElem?_eq_getElem (by omega)) (by rw [length_packs]; omega)
    have := hc y (List.mem_of_getElem? (i := m / 2) (by rw [List.getElem?_take, if_pos (by omega)]; exact hy)) F[a] (List.mem_of_getElem? (i := 0) (by rw [List.getElem?_drop]; exact List.getElem?_eq_getElem (by omega)))
    omega
  · exact hge

/-- How many things a row has. -/
theorem length_rows : ∀ (i : Nat), (rowsL F i).length + (F.length - 1) / 2 ^ i + 1 = 2 * F.length ∨ F.length = 0
  | 0 => by rcases F with _ | ⟨x, F⟩ <;> simp [rowsL]; omega
  | i + 1 => by
    rcases length_rows i with h | h
    · left
      rw [show (rowsL F (i + 1)).length = F.length + (packs 0 (rowsL F i)).length from length_mrg wt _ _, length_packs, Nat.pow_succ, ← Nat.div_div_eq_div_mul]
      generalize (F.length - 1) / 2 ^ i = q at *
      omega
    · right; exact h
end

/-- What is taken of the rows i, i - 1, .. 0: how many leaves of each. -/
def tk (F : List Thing) : Nat → Nat → List Nat
  | 0, n => [n]
  | i + 1, n => (n - npk ((rowsL F (i + 1)).take n)) :: tk F i (2 * npk ((rowsL F (i + 1)).take n))

def bump (ls : List Nat) (l : Nat) : List Nat := (ls.take l).map (· + 1) ++ ls.drop l
theorem length_bump (ls : List Nat) (l : Nat) : (bump ls l).length = ls.length := by simp [bump]; omega

/-- How much of the code's room the words take, in parts of 1 / 2^L. -/
def room (L : Nat) (ls : List Nat) : Nat := (ls.map fun x => 2 ^ (L - x)).sum

theorem room_append (L : Nat) (a b : List Nat) : room L (a ++ b) = room L a + room L b := by simp [room]
theorem room_const (L c : Nat) : ∀ (ls : List Nat), (∀ x ∈ ls, x = c) → room L ls = ls.length * 2 ^ (L - c)
  | [], _ => by simp [room]
  | x :: r, h => by
    have := room_const L c r (fun y hy => h y (by simp [hy]))
    have hx := h x (by simp)
    simp only [room, List.map_cons, List.sum_cons, List.length_cons] at *
    rw [hx, this, Nat.add_mul]; omega

theorem room_bump (L c l : Nat) (ls : List Nat) (hl : l ≤ ls.length) (hc : ∀ x ∈ ls.take l, x = c) (hL : c < L) : room L (bump ls l) + l * 2 ^ (L - c - 1) = room L ls := by
  have e1 : room L ls = room L (ls.take l) + room L (ls.drop l) := by rw [← room_append, List.take_append_drop]
  have e2 : room L ((ls.take l).map (· + 1)) = l * 2 ^ (L - (c + 1)) := by
    rw [room_const L (c + 1) _ (by intro x hx; obtain ⟨y, hy, rfl⟩ := List.mem_map.1 hx; rw [hc y hy]), List.length_map, List.length_take, Nat.min_eq_left hl]
  have e3 : room L (ls.take l) = l * 2 ^ (L - c) := by rw [room_const L c _ hc, List.length_take, Nat.min_eq_left hl]
  have e4 : 2 ^ (L - c) = 2 * 2 ^ (L - (c + 1)) := by rw [show L - c = (L - (c + 1)) + 1 by omega, Nat.pow_succ]; omega
  rw [bump, room_append, e1, e2, e3, e4, show L - c - 1 = L - (c + 1) by omega]
  generalize 2 ^ (L - (c + 1)) = q
  rw [Nat.mul_left_comm]
  omega

section
variable {F : List Thing}
theorem room_down (h : Leaves F) (L : Nat) : ∀ (i n c a : Nat) (ls : List Nat), ls.length = F.length → n ≤ (rowsL F i).length → c + i + 1 = L → a ≤ F.length → (∀ x ∈ ls.take a, x = c) →
    (∀ a', a' ≤ F.length → ((rowsL F i).take n).filter (fun x => decide (0 ≤ x.2)) = F.take a' → a' ≤ a) →
    room L ((tk F i n).foldl bump ls) + n * 2 ^ i = room L ls := by
  intro i
  induction i with
  | zero =>
    intro n c a ls hls hn hL ha hc hd
    have hna := hd n hn ((rows_take0 h n).1)
    simp only [tk, List.foldl_cons, List.foldl_nil]
    have hm : ∀ x ∈ ls.take n, x = c := fun x hx => hc x (by
      rw [List.mem_take_iff_getElem] at hx ⊢
      obtain ⟨j, hj, e⟩ := hx
      exact ⟨j, by omega, e⟩)
    have := room_bump L c n ls (by rw [hls]; exact hn) hm (by omega)
    rwa [show L - c - 1 = 0 by omega] at this
  | succ i ih =>
    intro n c a ls hls hn hL ha hc hd
    obtain ⟨l, b, hlb, hl, hb, he, hf, hk, hcmp⟩ := rows_take h i n hn
    have hla := hd l hl hf
    simp only [tk, List.foldl_cons, hk]
    rw [show n - b = l by omega]
    have hm : ∀ x ∈ ls.take l, x = c := fun x hx => hc x (by
      rw [List.mem_take_iff_getElem] at hx ⊢
      obtain ⟨j, hj, e⟩ := hx
      exact ⟨j, by omega, e⟩)
    have h1 := room_bump L c l ls (by omega) hm (by omega)
    have h2 := ih (2 * b) (c + 1) l (bump ls l) (by rw [length_bump, hls]) hb (by omega) hl (by
      intro x hx
      rw [bump, List.take_left' (by rw [List.length_map, List.length_take, hls, Nat.min_eq_left hl])] at hx
      obtain ⟨y, hy, rfl⟩ := List.mem_map.1 hx
      rw [hm y hy]) (fun a' ha' hf' => leaves_down h i l b hb hcmp a' ha' hf')
    rw [show L - c - 1 = i + 1 by omega] at h1
    have e1 : 2 * b * 2 ^ i = b * 2 ^ (i + 1) := by rw [Nat.pow_succ, Nat.mul_comm 2 b, Nat.mul_assoc, Nat.mul_comm 2]
    rw [e1] at h2
    rw [← hlb, Nat.add_mul]
    omega

theorem le_down : ∀ (ts ls : List Nat) (c : Nat), (∀ x ∈ ls, x ≤ c) → ∀ x ∈ ts.foldl bump ls, x ≤ c + ts.length
  | [], ls, c, h => by simpa using h
  | t :: ts, ls, c, h => by
    intro x hx
    have := le_down ts (bump ls t) (c + 1) (by
      intro y hy
      rw [bump, List.mem_append] at hy
      rcases hy with hy | hy
      · obtain ⟨z, hz, rfl⟩ := List.mem_map.1 hy
        have := h z (List.mem_of_mem_take hz); omega
      · have := h y (List.mem_of_mem_drop hy); omega) x hx
    simp only [List.length_cons]; omega
theorem length_tk : ∀ (i n : Nat), (tk F i n).length = i + 1
  | 0, _ => rfl
  | i + 1, n => by simp [tk, length_tk i]

/-- The words' lengths, leaf by leaf. -/
def lensOf (F : List Thing) (L : Nat) : List Nat := (tk F (L - 1) (2 * F.length - 2)).foldl bump (List.replicate F.length 0)

theorem length_foldl_bump : ∀ (ts ls : List Nat), (ts.foldl bump ls).length = ls.length
  | [], _ => rfl
  | t :: ts, ls => by rw [List.foldl_cons, length_foldl_bump ts, length_bump]
theorem length_lensOf (L : Nat) : (lensOf F L).length = F.length := by rw [lensOf, length_foldl_bump, List.length_replicate]

theorem room_le_of_mem (L : Nat) : ∀ (ls : List Nat), ∀ x ∈ ls, 2 ^ (L - x) ≤ room L ls
  | y :: r, x, hx => by
    simp only [room, List.map_cons, List.sum_cons]
    rcases List.mem_cons.1 hx with rfl | hx
    · omega
    · have := room_le_of_mem L r x hx
      simp only [room] at this
      exact Nat.le_trans this (Nat.le_add_left _ _)

/-- The code is whole. -/
theorem lens_whole (h : Leaves F) (L : Nat) (hL : 0 < L) (hn : 2 ≤ F.length) (hm : F.length ≤ 2 ^ L) : room L (lensOf F L) = 2 ^ L := by
  obtain ⟨i, rfl⟩ : ∃ i, L = i + 1 := ⟨L - 1, by omega⟩
  have hlen : 2 * F.length - 2 ≤ (rowsL F i).length := by
    rcases length_rows (F := F) i with h1 | h1
    · have : (F.length - 1) / 2 ^ i < 2 := by
        rw [Nat.div_lt_iff_lt_mul (Nat.two_pow_pos i)]
        rw [Nat.pow_succ] at hm; omega
      omega
    · omega
  have := room_down h (i + 1) i (2 * F.length - 2) 0 F.length (List.replicate F.length 0) (by simp) hlen (by omega) (by omega) (by intro x hx; exact List.eq_of_mem_replicate (List.mem_of_mem_take hx)) (fun _ h' _ => h')
  rw [room_const (i + 1) 0 (List.replicate F.length 0) (fun x hx => List.eq_of_mem_replicate hx), List.length_replicate] at this
  rw [lensOf, Nat.add_sub_cancel]
  have e : F.length * 2 ^ (i + 1 - 0) = (2 * F.length - 2) * 2 ^ i + 2 ^ (i + 1) := by
    rw [Nat.sub_zero, Nat.pow_succ, ← Nat.mul_comm 2, ← Nat.mul_assoc, ← Nat.add_mul]
    congr 1; omega
  omega

theorem lens_bounds (h : Leaves F) (L : Nat) (hL : 0 < L) (hn : 2 ≤ F.length) (hm : F.length ≤ 2 ^ L) : ∀ x ∈ lensOf F L, 1 ≤ x ∧ x ≤ L := by
  intro x hx
  refine ⟨?_, ?_⟩
  · rcases Nat.eq_zero_or_pos x with rfl | h0
    · exfalso
      have hw := lens_whole h L hL hn hm
      obtain ⟨a, b, e⟩ := List.append_of_mem hx
      have hl := length_lensOf (F := F) L
      rw [e] at hl hw
      rw [room_append] at hw
      have h1 : room L (0 :: b) = 2 ^ L + room L b := by simp [room]
      rw [h1] at hw
      simp at hl
      rcases a with _ | ⟨y, a⟩
      · rcases b with _ | ⟨y, b⟩
        · simp at hl; omega
        · have := room_le_of_mem L (y :: b) y (by simp)
          have := Nat.two_pow_pos (L - y); omega
      · have := room_le_of_mem L (y :: a) y (by simp)
        have := Nat.two_pow_pos (L - y); omega
    · exact h0
  · have := le_down (tk F (L - 1) (2 * F.length - 2)) (List.replicate F.length 0) 0 (by intro y hy; rw [List.eq_of_mem_replicate hy]; omega) x hx
    rw [length_tk] at this
    omega
end

end Ln
end Go.Proofs.YtpbphhpldlckbaaGreat
