/- Names of files: what the functions of package name, and of its reference, compute: plain lists of bytes, no program. -/
import Derived.Test.YtjapdfehkoijjaaKit
namespace Go.Proofs.Ytjapdfehkoijjaa
namespace Nm

/-- May a rune stand in a name? -/
def okRune (r : Int) : Bool := (decide (97 ≤ r) && decide (r ≤ 122)) || (decide (48 ≤ r) && decide (r ≤ 57)) || (r == 46) || (r == 45)
def okB (c : UInt8) : Bool := okRune c.toNat
/-- Check's error. -/
def check (l : List UInt8) : Int := if 1 ≤ l.length ∧ l.length ≤ 64 ∧ l.all okB = true then 0 else 180
/-- Six digits. -/
def num6 (n : Int) : List UInt8 := toU8 [48 + n / 10 / 10 / 10 / 10 / 10 % 10, 48 + n / 10 / 10 / 10 / 10 % 10, 48 + n / 10 / 10 / 10 % 10, 48 + n / 10 / 10 % 10, 48 + n / 10 % 10, 48 + n % 10]
def may (n : Int) : Bool := decide (1 ≤ n) && decide (n ≤ 999999)
def seg (i g : Int) : List UInt8 := [115, 101, 103, 45] ++ num6 i ++ [45] ++ num6 g ++ [46, 108, 111, 103]
def isD (c : UInt8) : Bool := decide (48 ≤ c.toNat) && decide (c.toNat ≤ 57)
/-- The number of digits so far. -/
def valTo (n : Int) : List UInt8 → Int
  | [] => n
  | c :: l => valTo (10 * n + ((c.toNat : Int) - 48)) l
/-- name.value. -/
def value (l : List UInt8) : Int := if l.all isD = true then valTo 0 l else 0
/-- the reference's. -/
def unsix (l : List UInt8) : Int := if l.all isD = true then valTo 0 l else -1

/-- name.Parse: the number, the generation, whether. -/
def parse (l : List UInt8) : Option (Int × Int) :=
  if l.length = 21 then
    let i := value ((l.drop 4).take 6)
    let g := value ((l.drop 11).take 6)
    if may i = true ∧ may g = true ∧ seg i g = l then some (i, g) else none
  else none
/-- The reference's. -/
def parseR (l : List UInt8) : Option (Int × Int) :=
  if l.length = 21 ∧ l.take 4 = [115, 101, 103, 45] ∧ l[10]? = some 45 ∧ l.drop 17 = [46, 108, 111, 103] then
    let i := unsix ((l.drop 4).take 6)
    let g := unsix ((l.drop 11).take 6)
    if i < 1 ∨ g < 1 then none else some (i, g)
  else none

theorem length_num6 (n : Int) : (num6 n).length = 6 := rfl
theorem length_seg (i g : Int) : (seg i g).length = 21 := rfl

theorem ofNat_toNat (c : UInt8) (z : Int) (h : z = c.toNat) : UInt8.ofNat z.toNat = c := by
  subst h; simp

theorem list6 {α : Type} (l : List α) (h : l.length = 6) : ∃ a b c d e f, l = [a, b, c, d, e, f] := by
  match l, h with
  | [a, b, c, d, e, f], _ => exact ⟨a, b, c, d, e, f, rfl⟩

theorem toNat_u8 (z : Int) (h0 : 0 ≤ z) (h1 : z < 256) : ((UInt8.ofNat z.toNat).toNat : Int) = z := by
  simp only [UInt8.toNat_ofNat']
  omega

/-- Six digits come back of their number. -/
theorem num6_val (l : List UInt8) (h : l.length = 6) (hd : l.all isD = true) : num6 (valTo 0 l) = l ∧ 0 ≤ valTo 0 l ∧ valTo 0 l ≤ 999999 := by
  obtain ⟨a, b, c, d, e, f, rfl⟩ := list6 l h
  simp only [List.all_cons, List.all_nil, isD, Bool.and_eq_true, decide_eq_true_eq, Bool.and_true] at hd
  simp only [valTo]
  refine ⟨?_, by omega, by omega⟩
  simp only [num6, toU8, List.map_cons, List.map_nil]
  congr 1
  · exact ofNat_toNat _ _ (by omega)
  congr 1
  · exact ofNat_toNat _ _ (by omega)
  congr 1
  · exact ofNat_toNat _ _ (by omega)
  congr 1
  · exact ofNat_toNat _ _ (by omega)
  congr 1
  · exact ofNat_toNat _ _ (by omega)
  congr 1
  · exact ofNat_toNat _ _ (by omega)

theorem dig_toNat (z : Int) : ((UInt8.ofNat (48 + z % 10).toNat).toNat : Int) = 48 + z % 10 := toNat_u8 _ (by omega) (by omega)

theorem num6_digits (n : Int) : (num6 n).all isD = true := by
  simp only [num6, toU8, List.map_cons, List.map_nil, List.all_cons, List.all_nil, isD, Bool.and_eq_true, decide_eq_true_eq, Bool.and_true]
  have h0 := dig_toNat n
  have h1 := dig_toNat (n / 10)
  have h2 := dig_toNat (n / 10 / 10)
  have h3 := dig_toNat (n / 10 / 10 / 10)
  have h4 := dig_toNat (n / 10 / 10 / 10 / 10)
  have h5 := dig_toNat (n / 10 / 10 / 10 / 10 / 10)
  omega

/-- A number comes back of its digits. -/
theorem val_num6 (n : Int) (h0 : 0 ≤ n) (h1 : n ≤ 999999) : valTo 0 (num6 n) = n := by
  simp only [num6, toU8, List.map_cons, List.map_nil, valTo, dig_toNat]
  omega

theorem num6_inj {m n : Int} (h0 : 0 ≤ m) (h1 : m ≤ 999999) (k0 : 0 ≤ n) (k1 : n ≤ 999999) (h : num6 m = num6 n) : m = n := by
  rw [← val_num6 m h0 h1, ← val_num6 n k0 k1, h]

theorem may_iff (n : Int) : may n = true ↔ 1 ≤ n ∧ n ≤ 999999 := by simp [may]

theorem drop4_seg (i g : Int) : ((seg i g).drop 4).take 6 = num6 i := rfl
theorem drop11_seg (i g : Int) : ((seg i g).drop 11).take 6 = num6 g := rfl

/-- What has the parts of a name is their join. -/
theorem join21 (l : List UInt8) (h : l.length = 21) (h4 : l.take 4 = [115, 101, 103, 45]) (h10 : l[10]? = some 45) (h17 : l.drop 17 = [46, 108, 111, 103]) :
    l = [115, 101, 103, 45] ++ (l.drop 4).take 6 ++ [45] ++ (l.drop 11).take 6 ++ [46, 108, 111, 103] := by
  match l, h with
  | [a0, a1, a2, a3, a4, a5, a6, a7, a8, a9, a10, a11, a12, a13, a14, a15, a16, a17, a18, a19, a20], _ =>
    simp at h4 h10 h17
    obtain ⟨rfl, rfl, rfl, rfl⟩ := h4
    obtain ⟨rfl, rfl, rfl, rfl⟩ := h17
    subst h10
    rfl

theorem parse_seg (i g : Int) (hi : may i = true) (hg : may g = true) : parse (seg i g) = some (i, g) := by
  have hi' := (may_iff i).1 hi
  have hg' := (may_iff g).1 hg
  unfold parse
  rw [if_pos (length_seg i g)]
  simp only [drop4_seg, drop11_seg, value, num6_digits, if_true]
  rw [val_num6 i (by omega) (by omega), val_num6 g (by omega) (by omega)]
  rw [if_pos ⟨hi, hg, rfl⟩]

theorem parse_some {l : List UInt8} {i g : Int} (h : parse l = some (i, g)) : may i = true ∧ may g = true ∧ seg i g = l := by
  unfold parse at h
  split at h
  · simp only at h
    split at h
    · rename_i hh
      simp only [Option.some.injEq, Prod.mk.injEq] at h
      obtain ⟨rfl, rfl⟩ := h
      exact hh
    · cases h
  · cases h

theorem parseR_seg (i g : Int) (hi : may i = true) (hg : may g = true) : parseR (seg i g) = some (i, g) := by
  have hi' := (may_iff i).1 hi
  have hg' := (may_iff g).1 hg
  unfold parseR
  rw [if_pos ⟨length_seg i g, rfl, rfl, rfl⟩]
  simp only [drop4_seg, drop11_seg, unsix, num6_digits, if_true]
  rw [val_num6 i (by omega) (by omega), val_num6 g (by omega) (by omega)]
  rw [if_neg (by omega)]

theorem parseR_some {l : List UInt8} {i g : Int} (h : parseR l = some (i, g)) : may i = true ∧ may g = true ∧ seg i g = l := by
  unfold parseR at h
  split at h
  · rename_i hl
    obtain ⟨hl, h4, h10, h17⟩ := hl
    simp only at h
    split at h
    · cases h
    · rename_i hn
      simp only [Option.some.injEq, Prod.mk.injEq] at h
      obtain ⟨rfl, rfl⟩ := h
      have e6 : ((l.drop 4).take 6).length = 6 := by simp; omega
      have g6 : ((l.drop 11).take 6).length = 6 := by simp; omega
      by_cases d1 : ((l.drop 4).take 6).all isD = true
      · by_cases d2 : ((l.drop 11).take 6).all isD = true
        · have a1 := num6_val _ e6 d1
          have a2 := num6_val _ g6 d2
          simp only [unsix, d1, d2, if_true] at hn ⊢
          refine ⟨(may_iff _).2 (by omega), (may_iff _).2 (by omega), ?_⟩
          unfold seg
          rw [a1.1, a2.1]
          exact (join21 l hl h4 h10 h17).symm
        · exfalso
          apply hn
          right
          unfold unsix
          rw [if_neg d2]
          decide
      · exfalso
        apply hn
        left
        unfold unsix
        rw [if_neg d1]
        decide
  · cases h

/-- The two tell the same of any text. -/
theorem parse_eq (l : List UInt8) : parse l = parseR l := by
  rcases h : parse l with _ | ⟨i, g⟩
  · rcases h' : parseR l with _ | ⟨i, g⟩
    · rfl
    · obtain ⟨a, b, rfl⟩ := parseR_some h'
      rw [parse_seg i g a b] at h
      cases h
  · obtain ⟨a, b, rfl⟩ := parse_some h
    exact (parseR_seg i g a b).symm

/-- Kind. -/
def kind (l : List UInt8) : Int :=
  if (parse l).isSome = true then 1 else if l = [109, 97, 110, 105, 102, 101, 115, 116] then 2 else if l = [109, 97, 110, 105, 102, 101, 115, 116, 46, 110, 101, 119] then 3 else 0

theorem okB_of_isD (c : UInt8) (h : isD c = true) : okB c = true := by
  simp [isD] at h
  simp [okB, okRune]
  omega

theorem check_seg (i g : Int) : check (seg i g) = 0 := by
  unfold check
  rw [if_pos]
  refine ⟨by rw [length_seg]; decide, by rw [length_seg]; decide, ?_⟩
  have h : ∀ n, (num6 n).all okB = true := fun n => List.all_eq_true.2 fun c hc => okB_of_isD c (List.all_eq_true.1 (num6_digits n) c hc)
  unfold seg
  simp only [List.all_append, h, Bool.and_eq_true]
  decide

end Nm
end Go.Proofs.Ytjapdfehkoijjaa
