/- The order of segments' names is that of their numbers, then of their generations: plain lists of bytes. -/
import Derived.Test.YtjapdfehkoijjaaNamePlain
namespace Go.Proofs.Ytjapdfehkoijjaa
namespace Nm

theorem isD_bd (c : UInt8) : isD c = true ↔ 48 ≤ c.toNat ∧ c.toNat ≤ 57 := by simp [isD]

theorem valTo_lt : ∀ (l l' : List UInt8) (m n : Int), l.length = l'.length → l.all isD = true → l'.all isD = true → m < n → valTo m l < valTo n l'
  | [], [], _, _, _, _, _, h => h
  | c :: l, d :: l', m, n, hl, h1, h2, h => by
    simp only [List.all_cons, Bool.and_eq_true, isD_bd] at h1 h2
    exact valTo_lt l l' _ _ (by simpa using hl) h1.2 h2.2 (by omega)
  | [], _ :: _, _, _, h, _, _, _ => by simp at h
  | _ :: _, [], _, _, h, _, _, _ => by simp at h

theorem less_val : ∀ (l l' : List UInt8) (n : Int), l.length = l'.length → l.all isD = true → l'.all isD = true → Op.bytesLess l l' = decide (valTo n l < valTo n l')
  | [], [], n, _, _, _ => by simp [Op.bytesLess, valTo]
  | c :: l, d :: l', n, hl, h1, h2 => by
    simp only [List.all_cons, Bool.and_eq_true] at h1 h2
    have hl' : l.length = l'.length := by simpa using hl
    simp only [Op.bytesLess, valTo]
    by_cases e : c = d
    · subst e
      have : ¬ c < c := by rw [UInt8.lt_iff_toNat_lt]; omega
      simp [this]
      exact less_val l l' (10 * n + ((c.toNat : Int) - 48)) hl' h1.2 h2.2
    · have hne : (c == d) = false := by simp [e]
      rw [hne]
      have hn : c.toNat ≠ d.toNat := fun h => e (UInt8.toNat_inj.1 h)
      by_cases hlt : c < d
      · have := UInt8.lt_iff_toNat_lt.1 hlt
        have := valTo_lt l l' (10 * n + ((c.toNat : Int) - 48)) (10 * n + ((d.toNat : Int) - 48)) hl' h1.2 h2.2 (by omega)
        simp [hlt, this]
      · have hh : ¬ c.toNat < d.toNat := fun h => hlt (UInt8.lt_iff_toNat_lt.2 h)
        have := valTo_lt l' l (10 * n + ((d.toNat : Int) - 48)) (10 * n + ((c.toNat : Int) - 48)) hl'.symm h2.2 h1.2 (by omega)
        have h3 : ¬ valTo (10 * n + ((c.toNat : Int) - 48)) l < valTo (10 * n + ((d.toNat : Int) - 48)) l' := by omega
        simp [hlt, h3]
  | [], _ :: _, _, h, _, _ => by simp at h
  | _ :: _, [], _, h, _, _ => by simp at h

theorem less_append : ∀ (l l' r r' : List UInt8), l.length = l'.length → Op.bytesLess (l ++ r) (l' ++ r') = (Op.bytesLess l l' || (l == l' && Op.bytesLess r r'))
  | [], [], r, r', _ => by simp [Op.bytesLess]
  | c :: l, d :: l', r, r', hl => by
    simp only [List.cons_append, Op.bytesLess]
    rw [less_append l l' r r' (by simpa using hl)]
    by_cases e : c = d
    · subst e
      have : ¬ c < c := by rw [UInt8.lt_iff_toNat_lt]; omega
      simp [this]
    · have hne : (c == d) = false := by simp [e]
      rw [hne, show (c :: l == d :: l') = false by simp [e]]
      simp
  | [], _ :: _, _, _, h => by simp at h
  | _ :: _, [], _, _, h => by simp at h

theorem less_refl (l : List UInt8) : Op.bytesLess l l = false := by
  induction l with
  | nil => rfl
  | cons c l ih =>
    have : ¬ c < c := by rw [UInt8.lt_iff_toNat_lt]; omega
    simp [Op.bytesLess, ih, this]

theorem less_num6 (m n : Int) (h0 : 0 ≤ m) (h1 : m ≤ 999999) (k0 : 0 ≤ n) (k1 : n ≤ 999999) : Op.bytesLess (num6 m) (num6 n) = decide (m < n) := by
  rw [less_val (num6 m) (num6 n) 0 rfl (num6_digits m) (num6_digits n), val_num6 m h0 h1, val_num6 n k0 k1]

theorem seg_parts (i g : Int) : seg i g = [115, 101, 103, 45] ++ (num6 i ++ ([45] ++ (num6 g ++ [46, 108, 111, 103]))) := by
  simp [seg]

/-- Names are in the order of their numbers, then of their generations. -/
theorem less_seg (a b c d : Int) (ha : 1 ≤ a ∧ a ≤ 999999) (hb : 1 ≤ b ∧ b ≤ 999999) (hc : 1 ≤ c ∧ c ≤ 999999) (hd : 1 ≤ d ∧ d ≤ 999999) :
    Op.bytesLess (seg a b) (seg c d) = (decide (a < c) || (decide (a = c) && decide (b < d))) := by
  rw [seg_parts, seg_parts, less_append _ _ _ _ rfl, less_refl, less_append _ _ _ _ (by rfl), less_append _ _ _ _ rfl, less_refl, less_append _ _ _ _ (by rfl), less_refl,
    less_num6 a c (by omega) (by omega) (by omega) (by omega), less_num6 b d (by omega) (by omega) (by omega) (by omega)]
  have e : (num6 a == num6 c) = decide (a = c) := by
    rw [Bool.eq_iff_iff, beq_iff_eq, decide_eq_true_eq]
    exact ⟨num6_inj (by omega) (by omega) (by omega) (by omega), fun h => by rw [h]⟩
  rw [e]
  simp

theorem eq_seg (a b c d : Int) (ha : 1 ≤ a ∧ a ≤ 999999) (hb : 1 ≤ b ∧ b ≤ 999999) (hc : 1 ≤ c ∧ c ≤ 999999) (hd : 1 ≤ d ∧ d ≤ 999999) :
    seg a b = seg c d ↔ a = c ∧ b = d := by
  refine ⟨fun h => ?_, fun h => by rw [h.1, h.2]⟩
  have h1 : num6 a = num6 c := by rw [← drop4_seg a b, h, drop4_seg]
  have h2 : num6 b = num6 d := by rw [← drop11_seg a b, h, drop11_seg]
  exact ⟨num6_inj (by omega) (by omega) (by omega) (by omega) h1, num6_inj (by omega) (by omega) (by omega) (by omega) h2⟩

theorem seg_ne_man (a b : Int) : seg a b ≠ [109, 97, 110, 105, 102, 101, 115, 116] := fun h => by
  have := congrArg List.length h
  rw [length_seg] at this
  simp at this
theorem seg_ne_tmp (a b : Int) : seg a b ≠ [109, 97, 110, 105, 102, 101, 115, 116, 46, 110, 101, 119] := fun h => by
  have := congrArg List.length h
  rw [length_seg] at this
  simp at this

end Nm
end Go.Proofs.Ytjapdfehkoijjaa
