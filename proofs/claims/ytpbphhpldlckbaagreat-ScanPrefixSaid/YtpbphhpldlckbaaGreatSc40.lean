/- block: Encode, Decode, Peek where they answer. scan: what holds of the blocks that are found; their records are a row; a block more. scan.Tail: what lies in memory in its loop. scan.Tail. -/
import Derived.Test.YtpbphhpldlckbaaGreatSc38
import Derived.Test.YtpbphhpldlckbaaGreatSc39
import Derived.Test.YtpbphhpldlckbaaGreatSc14
import Derived.Test.YtpbphhpldlckbaaGreatSc15
import Derived.Test.YtpbphhpldlckbaaGreatSc37
import Derived.WalkMore
namespace Go.Proofs.YtpbphhpldlckbaaGreat
namespace Bk
open Go.RowKit Tk Vi Sq Rd

/-- Encode, where there is a block. -/
theorem enc_dec (A : Option Addr) (n c : Nat) (l : List (Int × Int × ByteArray)) (w : World) (hrd : Rd w w.heap.size 3 A n (fl3 l)) (hn : n ≤ 100000) (h : encE l = 0) :
    Calls Tryz.prog 11 #[.slice A n c] w fun e w' => (∃ (S : ByteArray) (arr : List Nat), e = .returned (.tuple #[.string S, .int .i64 0]) ∧ Sx.Sorted (joinB l) arr ∧ S.data.toList = blk l arr ∧ S.size ≤ (joinB l).length + 26 ∧ S.size ≤ 20026 ∧ dec S.data.toList = some l) ∧ Below w.heap.size w w' := by
  refine (enc_any A n c l w hrd hn).mono ?_
  rintro e w' ⟨⟨S, rfl, -, h2⟩, hb⟩
  obtain ⟨arr, hso, rfl⟩ := h2 h
  obtain ⟨hj, hl⟩ := enc_ok h
  have h3 := blk_len (A := arr) hj hl
  have h4 := (jE_row hj).2
  have h5 : (⟨(blk l arr).toArray⟩ : ByteArray).size = (blk l arr).length := by simp [ByteArray.size]
  exact ⟨⟨_, arr, by rw [h], hso, rfl, by omega, by omega, dec_blk hj hl hso⟩, hb⟩
/-- Encode, where there is none. -/
theorem enc_not (A : Option Addr) (n c : Nat) (l : List (Int × Int × ByteArray)) (w : World) (hrd : Rd w w.heap.size 3 A n (fl3 l)) (hn : n ≤ 100000) (h : encE l ≠ 0) :
    Calls Tryz.prog 11 #[.slice A n c] w fun e w' => e = .returned (.tuple #[.string ⟨#[]⟩, .int .i64 (encE l)]) ∧ Below w.heap.size w w' := by
  refine (enc_any A n c l w hrd hn).mono ?_
  rintro e w' ⟨⟨S, rfl, h1, -⟩, hb⟩
  rw [h1 h]
  exact ⟨rfl, hb⟩
theorem dec_yes (s : ByteArray) (l : List (Int × Int × ByteArray)) (w : World) (hs : s.size ≤ 1000000) (h : dec s.data.toList = some l) :
    Calls Tryz.prog 22 #[.string s] w fun e w' => (∃ A c, e = .returned (.tuple #[.slice A l.length c, .int .i64 0]) ∧ Rd w' w'.heap.size 3 A l.length (fl3 l)) ∧ Below w.heap.size w w' := by
  refine (Decode_any s w hs).mono ?_
  rintro e w' ⟨⟨l', v, hl, rfl, hown⟩ | ⟨hl, -⟩, hb⟩
  · rw [h] at hl
    obtain rfl := Option.some.inj hl
    obtain ⟨A, c, rfl, -, -, hr⟩ := hown.rd
    exact ⟨⟨A, c, rfl, hr⟩, hb⟩
  · rw [h] at hl; cases hl

theorem peek_yes (s : ByteArray) {md raw count first early late : Nat} {r : List UInt8} (w : World) (hs : s.size ≤ 1000000) (h : peekB s.data.toList = some (md, raw, count, first, early, late, r)) :
    Calls Tryz.prog 39 #[.string s] w fun e w' => e = .returned (.tuple #[magg 0 0 raw count first early late, .int .i64 0]) ∧ Below w.heap.size w w' := by
  refine (Peek_any s w hs).mono ?_
  rintro e w' ⟨⟨md', raw', count', first', early', late', r', h', rfl⟩ | ⟨h', -⟩, hb⟩
  · rw [h] at h'
    simp only [Option.some.injEq, Prod.mk.injEq] at h'
    obtain ⟨-, rfl, rfl, rfl, rfl, rfl, -⟩ := h'
    exact ⟨rfl, hb⟩
  · rw [h] at h'; cases h'
/-- What holds of a row's records, all numbers as such. -/
theorem row_nats {l : List (Int × Int × ByteArray)} (h : jE l = 0) (hn : l ≠ []) : ∃ F E T : Nat, (at3 l 0).1 = F ∧ (at3 l 0).2.1 = E ∧ (at3 l (l.length - 1)).2.1 = T ∧ F + l.length ≤ 1000000001 ∧ (at3 l 0).1.toNat = F ∧ (at3 l 0).2.1.toNat = E ∧ (at3 l (l.length - 1)).2.1.toNat = T ∧
    ∀ (k : Nat) (r : Int × Int × ByteArray), l[k]? = some r → r.1 = (F : Int) + k ∧ (E : Int) ≤ r.2.1 ∧ r.2.1 ≤ (T : Int) := by
  obtain ⟨e1, e2, e3, e4, e5, e6⟩ := ends h hn
  obtain ⟨h1, h2⟩ := jE_row h
  have hp : 0 < l.length := List.length_pos_iff.2 hn
  refine ⟨(at3 l 0).1.toNat, (at3 l 0).2.1.toNat, (at3 l (l.length - 1)).2.1.toNat, by omega, by omega, by omega, by omega, rfl, rfl, rfl, fun k r hk => ?_⟩
  obtain ⟨a1, a2, -, a4⟩ := row_seq0 l h1 k r hk
  have hkl : k < l.length := (List.getElem?_eq_some_iff.1 hk).1
  have := a4 (l.length - 1) _ (by omega) (at3_get l (l.length - 1) (by omega))
  omega

end Bk
end Go.Proofs.YtpbphhpldlckbaaGreat
namespace Go.Proofs.YtpbphhpldlckbaaGreat
namespace Sn
open Go.RowKit Cr Fm Hd Bk Vi Rd

/-- What holds of the blocks that were found. -/
def St (e0 : Nat) (s : ByteArray) (l : List Mt) (e : Nat) : Prop :=
  rowM none l = true ∧ l.length ≤ 1000 ∧ (l = [] → e = e0) ∧ (∀ m, l.getLast? = some m → m.a + m.s = e) ∧ ∀ m ∈ l, GF s m.a ∧ metaF (fr s m.a) = some m ∧ ∃ r, dec (fbody s m.a).data.toList = some r
theorem St_nil (e0 : Nat) (s : ByteArray) : St e0 s [] e0 := ⟨rfl, by simp, fun _ => rfl, (fun m h => by cases h), (fun m h => by cases h)⟩
theorem metaF_some {x : Fr} {m : Mt} (h : metaF x = some m) : x.1 = 2 ∧ m.a = x.2.2.1 ∧ m.s = x.2.2.2 - x.2.2.1 ∧ ∃ md r, peekB x.2.1.data.toList = some (md, m.r, m.c, m.f, m.e, m.l, r) := by
  unfold metaF at h
  split at h
  · rename_i md raw count first early late r hp
    split at h
    · cases h
      exact ⟨‹_›, rfl, rfl, md, r, hp⟩
    · cases h
  · cases h
theorem goesB_iff (h1 : Nat) (l : List Mt) (m : Mt) : goesB h1 l m = true ↔ (l.length < 1000 ∧ m.f = nextM h1 l ∧ lateM l ≤ m.e) ∧ okM m = true := by
  unfold goesB; rw [Bool.and_eq_true, decide_eq_true_eq]
theorem St_step {h1 e0 : Nat} {s : ByteArray} {l : List Mt} {e : Nat} {m : Mt} (h : St e0 s l e) (hg : GF s e) (hm : good h1 l (fr s e) = some m) : St e0 s (l ++ [m]) (fto s e) := by
  obtain ⟨s1, s2, s3, s4, s5⟩ := h
  rw [good_iff, goesB_iff] at hm
  obtain ⟨hm, ⟨⟨g1, g2, g3⟩, g4⟩, r, hr⟩ := hm
  obtain ⟨m1, m2, m3, -⟩ := metaF_some hm
  have h9 := GF_to hg
  have ea : m.a = e := m2
  have es : m.s = fto s e - e := m3
  refine ⟨rowM_snoc l none m s1 g4 fun q hq => ?_, by rw [List.length_append, List.length_singleton]; omega, fun h => by simp at h, fun x hx => ?_, fun x hx => ?_⟩
  · rcases hl : l.getLast? with _ | y
    · rw [hl] at hq; cases hq
    · rw [hl] at hq
      cases hq
      have := s4 _ hl
      unfold nextM at g2
      unfold lateM at g3
      rw [hl] at g2 g3
      rw [folB_iff]
      exact ⟨by omega, g2, g3⟩
  · rw [List.getLast?_append] at hx
    obtain rfl : m = x := Option.some.inj hx
    omega
  · rw [List.mem_append, List.mem_singleton] at hx
    rcases hx with hx | rfl
    · exact s5 x hx
    · rw [ea]
      exact ⟨hg, hm, r, hr⟩
theorem St_rn (h1 e0 : Nat) (s : ByteArray) : ∀ l e, St e0 s l e → St e0 s (rn h1 s l e).1 (rn h1 s l e).2 := by
  refine rn_ind h1 s _ ?_ ?_
  · intro l e h hs
    rw [rn_stop h]; exact hs
  · intro l e m hg hm ih hs
    rw [rn_step hg hm]
    exact ih (St_step hs hg hm)
/-- The records of the blocks that were found. -/
def recs (s : ByteArray) (l : List Mt) : List (Int × Int × ByteArray) := l.flatMap fun m => (dec (fbody s m.a).data.toList).getD []
theorem recs_snoc (s : ByteArray) (l : List Mt) (m : Mt) : recs s (l ++ [m]) = recs s l ++ (dec (fbody s m.a).data.toList).getD [] := by
  unfold recs; rw [List.flatMap_append, List.flatMap_singleton]
def lastR (p : Option (Int × Int × ByteArray)) (l : List (Int × Int × ByteArray)) : Option (Int × Int × ByteArray) := match l.getLast? with | none => p | some r => some r
theorem rowE_app : ∀ (a : List (Int × Int × ByteArray)) (p : Option (Int × Int × ByteArray)) (b : List (Int × Int × ByteArray)), rowE p a = 0 → rowE (lastR p a) b = 0 → rowE p (a ++ b) = 0
  | [], _, _, _, h => h
  | x :: a, p, b, h, h2 => by
    rw [rowE] at h
    split at h; · simp at h
    rename_i ho
    split at h; · simp at h
    rename_i hf
    rw [List.cons_append, rowE, if_neg ho, if_neg hf]
    refine rowE_app a (some x) b h ?_
    have e : lastR p (x :: a) = lastR (some x) a := by
      unfold lastR
      rw [List.getLast?_cons]
      rcases a.getLast? with _ | y <;> rfl
    rw [← e]; exact h2
theorem row_behind {p x : Int × Int × ByteArray} {l : List (Int × Int × ByteArray)} (h : rowE none (x :: l) = 0) (hq : x.1 = p.1 + 1) (ht : p.2.1 ≤ x.2.1) : rowE (some p) (x :: l) = 0 := by
  rw [rowE] at h ⊢
  split at h; · simp at h
  rename_i ho
  rw [if_neg ho, if_neg (by simp [off]; omega)]
  simpa [off] using h
theorem dec_known {b r : List UInt8} {md raw count first early late : Nat} {l : List (Int × Int × ByteArray)} (h : dec b = some l) (hp : peekB b = some (md, raw, count, first, early, late, r)) :
    l.length = count ∧ (at3 l 0).1 = first ∧ (at3 l 0).2.1 = early ∧ (at3 l (l.length - 1)).2.1 = late := by
  rw [dec_at hp] at h
  split at h
  · cases h
  split at h
  · cases h
  split at h
  · cases h
    exact (fits_iff ..).1 ‹_›
  · cases h
theorem getLast_at3 {l : List (Int × Int × ByteArray)} (h : l ≠ []) : l.getLast? = some (at3 l (l.length - 1)) := by
  have : 0 < l.length := List.length_pos_iff.2 h
  rw [List.getLast?_eq_getElem?, at3_get l _ (by omega)]
/-- The records are a row. -/
def RowSt (h1 : Nat) (s : ByteArray) (l : List Mt) : Prop := rowE none (recs s l) = 0 ∧ ∀ r, (recs s l).getLast? = some r → r.1 + 1 = (nextM h1 l : Nat) ∧ r.2.1 = (lateM l : Nat)
theorem Row_nil (h1 : Nat) (s : ByteArray) : RowSt h1 s [] := ⟨rfl, fun r h => by cases h⟩
theorem Row_step {h1 : Nat} {s : ByteArray} {l : List Mt} {e : Nat} {m : Mt} (h : RowSt h1 s l) (hm : good h1 l (fr s e) = some m) : RowSt h1 s (l ++ [m]) := by
  obtain ⟨r1, r2⟩ := h
  rw [good_iff, goesB_iff] at hm
  obtain ⟨hm, ⟨⟨g1, g2, g3⟩, g4⟩, L, hr⟩ := hm
  obtain ⟨-, m2, -, md, rr, hp⟩ := metaF_some hm
  have ea : m.a = e := m2
  have hr' : dec (fbody s m.a).data.toList = some L := by rw [ea]; exact hr
  obtain ⟨d1, d2⟩ := dec_some hr
  obtain ⟨k1, k2, k3, k4⟩ := dec_known hr hp
  obtain ⟨j1, -⟩ := jE_row d1
  have hlen : 0 < L.length := List.length_pos_iff.2 d2
  have hz := row_seq0 L j1 (L.length - 1) _ (at3_get L (L.length - 1) (by omega))
  unfold RowSt
  rw [recs_snoc, hr', Option.getD_some]
  refine ⟨?_, fun r hl => ?_⟩
  · refine rowE_app _ _ _ r1 ?_
    rcases hq : (recs s l).getLast? with _ | p
    · unfold lastR; rw [hq]; exact j1
    · unfold lastR; rw [hq]
      obtain ⟨q1, q2⟩ := r2 p hq
      rcases L with _ | ⟨x, L⟩
      · exact absurd rfl d2
      · have e3 : at3 (x :: L) 0 = x := rfl
        rw [e3] at k2 k3
        exact row_behind j1 (by omega) (by omega)
  · rw [List.getLast?_append, getLast_at3 d2] at hl
    cases hl
    rw [nextM_snoc, lateM_snoc]
    omega
theorem Row_rn (h1 : Nat) (s : ByteArray) : ∀ l e, RowSt h1 s l → RowSt h1 s (rn h1 s l e).1 := by
  refine rn_ind h1 s _ ?_ ?_
  · intro l e h hs
    rw [rn_stop h]; exact hs
  · intro l e m hg hm ih hs
    rw [rn_step hg hm]
    exact ih (Row_step hs hm)
/-- A block more. -/
def mtOf (T : Nat) (B : ByteArray) (l : List (Int × Int × ByteArray)) (F E L : Nat) : Mt := ⟨T, B.size + 9, (joinB l).length, l.length, F, E, L⟩
theorem more_good {h1 T F E L : Nat} {B : ByteArray} {A : List Nat} {l : List Mt} {R : List (Int × Int × ByteArray)} (hB : B.data.toList = blk R A) (hj : jE R = 0) (hR : R ≠ []) (hA : Sx.Sorted (joinB R) A)
    (hT : T ≤ 1000000) (hF : (at3 R 0).1 = F) (hE : (at3 R 0).2.1 = E) (hL : (at3 R (R.length - 1)).2.1 = L) (hl : l.length < 1000) (hn : F = nextM h1 l) (ht : lateM l ≤ E) :
    good h1 l (2, B, T, T + (B.size + 9)) = some (mtOf T B R F E L) := by
  have hp := peek_blk A hj hR
  have hd := dec_blk hj hR hA
  have he := ends hj hR
  have hb := blk_len (A := A) hj hR
  have hbs : B.size = (blk R A).length := by rw [← hB]; rfl
  have h2 := (jE_row hj).2
  have h3 := joinB_ge R
  have hlen : 0 < R.length := List.length_pos_iff.2 hR
  have hbl : 1 ≤ (blk R A).length := by unfold blk; simp
  rw [hF, hE, hL] at hp he
  rw [good_iff, goesB_iff, okM_iff]
  refine ⟨?_, ⟨⟨hl, hn, ht⟩, ?_⟩, R, by rw [hB]; exact hd⟩
  · unfold metaF
    rw [hB, hp]
    simp only [if_true]
    unfold mtOf
    congr 2 <;> omega
  · unfold mtOf
    refine ⟨hT, ?_⟩
    simp only
    omega
theorem rn_more {h1 e0 F E L : Nat} {s B : ByteArray} {A : List Nat} {R : List (Int × Int × ByteArray)} (hs : s.size ≤ 1000000) (he : e0 ≤ s.size) (hB : B.data.toList = blk R A) (hj : jE R = 0) (hR : R ≠ []) (hA : Sx.Sorted (joinB R) A)
    (hF : (at3 R 0).1 = F) (hE : (at3 R 0).2.1 = E) (hL : (at3 R (R.length - 1)).2.1 = L) (hl : (rn h1 s [] e0).1.length < 1000) (hn : F = nextM h1 (rn h1 s [] e0).1) (ht : lateM (rn h1 s [] e0).1 ≤ E) :
    rn h1 (s.extract 0 (rn h1 s [] e0).2 ++ frB 2 B) [] e0 = ((rn h1 s [] e0).1 ++ [mtOf (rn h1 s [] e0).2 B R F E L], (rn h1 s [] e0).2 + (B.size + 9)) := by
  obtain ⟨l2, -, p2, p3⟩ := rn_pre h1 s [] e0
  have hT := p3 he
  rw [rn_to h1 s _ _ (agree_app s (frB 2 B) _ hT) [] e0 (Nat.le_refl _)]
  have hes : (s.extract 0 (rn h1 s [] e0).2).size = (rn h1 s [] e0).2 := by rw [ByteArray.size_extract]; omega
  have hbs : B.size ≤ 60000 := by
    have := blk_len (A := A) hj hR
    have := (jE_row hj).2
    have : B.size = (blk R A).length := by rw [← hB]; rfl
    omega
  obtain ⟨g1, g2⟩ := GF_put (s.extract 0 (rn h1 s [] e0).2) 2 B (by decide) hbs
  rw [hes] at g1 g2
  have hg := more_good (h1 := h1) (T := (rn h1 s [] e0).2) (l := (rn h1 s [] e0).1) hB hj hR hA (by omega) hF hE hL hl hn ht
  have hto : fto (s.extract 0 (rn h1 s [] e0).2 ++ frB 2 B) (rn h1 s [] e0).2 = (rn h1 s [] e0).2 + (B.size + 9) := congrArg (fun x : Fr => x.2.2.2) g2
  rw [rn_step g1 (by rw [g2]; exact hg), hto, rn_end]
  rw [ByteArray.size_append, size_frB, hes]
  omega
end Sn
end Go.Proofs.YtpbphhpldlckbaaGreat
namespace Go.Proofs.YtpbphhpldlckbaaGreat
namespace Sn
open Go.RowKit Hd Fm Bk

/-- The old memory stands, but for two blocks. -/
structure But2 (b4 b10 : Nat) (w w' : World) : Prop where
  os : w'.os = w.os
  tape : w'.tape = w.tape
  output : w'.output = w.output
  size : w.heap.size ≤ w'.heap.size
  block : ∀ k, k < w.heap.size → k ≠ b4 → k ≠ b10 → w'.heap[k]? = w.heap[k]?
section
variable {b4 b10 : Nat} {w w' w'' : World}
theorem But2.refl (b4 b10 : Nat) (w : World) : But2 b4 b10 w w := ⟨rfl, rfl, rfl, Nat.le_refl _, fun _ _ _ _ => rfl⟩
theorem But2.ext (h : But2 b4 b10 w w') (hb : Below w'.heap.size w' w'') : But2 b4 b10 w w'' :=
  ⟨hb.os.trans h.os, hb.tape.trans h.tape, hb.output.trans h.output, Nat.le_trans h.size hb.size, fun k hk h4 h10 => (hb.block k (Nat.lt_of_lt_of_le hk h.size)).trans (h.block k hk h4 h10)⟩
theorem But2.grown (h : But2 b4 b10 w w') {row : Option Nat} (hg : w'.grownBy w'' row) (hr : ∀ k, row = some k → w.heap.size ≤ k) : But2 b4 b10 w w'' :=
  ⟨hg.os.trans h.os, hg.tape.trans h.tape, hg.output.trans h.output, Nat.le_trans h.size hg.size, fun k hk h4 h10 => (hg.block k (Nat.lt_of_lt_of_le hk h.size) (fun e => by have := hr k e.symm; omega)).trans (h.block k hk h4 h10)⟩
theorem But2.set4 (h : But2 b4 b10 w w') (j : Nat) (v : Value) : But2 b4 b10 w (w'.setCell ⟨b4, j, none⟩ v) :=
  ⟨h.os, h.tape, h.output, by simpa using h.size, fun k hk h4 h10 => (Below.heap_setCell w' ⟨b4, j, none⟩ v k h4).trans (h.block k hk h4 h10)⟩
theorem But2.set10 (h : But2 b4 b10 w w') (j : Nat) (v : Value) : But2 b4 b10 w (w'.setCell ⟨b10, j, none⟩ v) :=
  ⟨h.os, h.tape, h.output, by simpa using h.size, fun k hk h4 h10 => (Below.heap_setCell w' ⟨b10, j, none⟩ v k h10).trans (h.block k hk h4 h10)⟩
theorem But2.drew (h : But2 b4 b10 w w') : But2 b4 b10 w w'.drew := ⟨h.os, h.tape, h.output, h.size, h.block⟩
theorem But2.below (h : But2 b4 b10 w w') {w0 : World} {B : Nat} (hb : Below B w0 w) (h4 : B ≤ b4) (h10 : B ≤ b10) (hB : B ≤ w.heap.size) : Below B w0 w' :=
  ⟨h.os.trans hb.os, h.tape.trans hb.tape, h.output.trans hb.output, Nat.le_trans hb.size h.size, fun k hk => (h.block k (Nat.lt_of_lt_of_le hk hB) (by omega) (by omega)).trans (hb.block k hk)⟩
theorem But2.cell (h : But2 b4 b10 w w') {a : Addr} {v : Value} (ha : a.block < w.heap.size) (h4 : a.block ≠ b4) (h10 : a.block ≠ b10) (hc : w.cell? a = some v) : w'.cell? a = some v := by
  have := h.block a.block ha h4 h10
  unfold World.cell? at hc ⊢
  rw [this]; exact hc
end
theorem length_flF (l : List Fr) : (flF l).length = l.length * 4 := by
  induction l with
  | nil => rfl
  | cons x l ih => show (clF x ++ flF l).length = _; rw [List.length_append, ih, List.length_cons]; show 4 + _ = _; omega
theorem flF_at : ∀ (l : List Fr) (k : Nat) (x : Fr), l[k]? = some x → ∀ j, j < 4 → (flF l)[k * 4 + j]? = (clF x)[j]?
  | [], k, x, h, _, _ => by simp at h
  | y :: l, 0, x, h, j, hj => by
    simp only [List.getElem?_cons_zero, Option.some.injEq] at h
    subst h
    show (clF y ++ flF l)[0 * 4 + j]? = _
    rw [Nat.zero_mul, Nat.zero_add, List.getElem?_append_left (by simpa [clF] using hj)]
  | y :: l, k + 1, x, h, j, hj => by
    have := flF_at l k x (by simpa using h) j hj
    show (clF y ++ flF l)[(k + 1) * 4 + j]? = _
    rw [List.getElem?_append_right (by simp [clF]; omega), ← this]
    congr 1
    simp [clF]; omega
/-- The frames lie where they lie, in whatever the loop makes of the memory. -/
theorem fr_at {w w' : World} {b4 b10 B n k : Nat} {A : Option Addr} {l : List Fr} {x : Fr} (h : Rd w B 4 A n (flF l)) (hk : l[k]? = some x) (hb : But2 b4 b10 w w') (hB : B ≤ w.heap.size) (hA : ∀ ad, A = some ad → ad.block ≠ b4 ∧ ad.block ≠ b10) :
    ∃ ad, A = some ad ∧ k < n ∧ w'.cell? (ad.add (k * 4)) = some (.int .i64 (x.1 : Int)) ∧ w'.cell? ⟨(ad.add (k * 4)).block, (ad.add (k * 4)).off + 1, none⟩ = some (.string x.2.1) ∧
      w'.cell? ⟨(ad.add (k * 4)).block, (ad.add (k * 4)).off + 2, none⟩ = some (.int .i64 (x.2.2.1 : Int)) ∧ w'.cell? ⟨(ad.add (k * 4)).block, (ad.add (k * 4)).off + 3, none⟩ = some (.int .i64 (x.2.2.2 : Int)) := by
  have hl : l.length = n := by have := h.len; rw [length_flF] at this; omega
  have hkn : k < n := by rw [← hl]; exact (List.getElem?_eq_some_iff.1 hk).1
  obtain ⟨ad, e, hbk, hc⟩ := h.cells (by omega)
  obtain ⟨h4, h10⟩ := hA ad e
  have hf := flF_at l k x hk
  have hg : ∀ j v, j < 4 → (clF x)[j]? = some v → w'.cell? (ad.add (k * 4 + j)) = some v := fun j v hj hv =>
    hb.cell (by rw [add_block]; omega) (by rw [add_block]; exact h4) (by rw [add_block]; exact h10) (hc _ _ ((hf j hj).trans hv))
  have ha : ∀ j, ad.add (k * 4 + (j + 1)) = ⟨(ad.add (k * 4)).block, (ad.add (k * 4)).off + (j + 1), none⟩ := fun j => by rw [← add_add]; rfl
  refine ⟨ad, e, hkn, hg 0 _ (by omega) rfl, ?_, ?_, ?_⟩
  · rw [← ha]; exact hg 1 _ (by omega) rfl
  · rw [← ha]; exact hg 2 _ (by omega) rfl
  · rw [← ha]; exact hg 3 _ (by omega) rfl
/-- What holds in the loop. -/
structure Lp (w wL wr : World) (b4 b3 b10 : Nat) (i g f : Int) (h1 e0 : Nat) (s : ByteArray) (A : Option Addr) (n c e k : Nat) (L : List Mt) : Prop where
  st : St e0 s L e
  rr : Sn.rn h1 s L e = Sn.rn h1 s [] e0
  fs : (frs s e0).drop k = frs s e
  row : Var wr b4 25 (.slice A n c)
  own : OwnM wr wL.heap.size (.slice A n c) L
  hd : wr.heap[b3]? = some (.cells #[.int .i64 i, .int .i64 g, .int .i64 f] 23 (0, 0))
  lt : Var wr b10 3 (.int .i64 (lateM L : Int))
  but : But2 b4 b10 wL wr
theorem Lp.kp {w wL wr : World} {b4 b3 b10 : Nat} {i g f : Int} {h1 e0 : Nat} {s : ByteArray} {A : Option Addr} {n c e k : Nat} {L : List Mt} (h : Lp w wL wr b4 b3 b10 i g f h1 e0 s A n c e k L) : Kp wr b4 b3 b10 i g f A n c (lateM L) L ∧ n = L.length := by
  obtain ⟨A', c', e1, -, -, hr⟩ := h.own.rd
  cases e1
  exact ⟨⟨h.row, h.hd, h.lt, hr⟩, rfl⟩
theorem Lp.ok {w wL wr : World} {b4 b3 b10 : Nat} {i g f : Int} {h1 e0 : Nat} {s : ByteArray} {A : Option Addr} {n c e k : Nat} {L : List Mt} (h : Lp w wL wr b4 b3 b10 i g f h1 e0 s A n c e k L) : okBl L = true := by
  unfold okBl; rw [h.st.1, decide_eq_true h.st.2.1]; rfl
theorem Lp.ext {w wL wr wr' : World} {b4 b3 b10 : Nat} {i g f : Int} {h1 e0 : Nat} {s : ByteArray} {A : Option Addr} {n c e k : Nat} {L : List Mt} (h : Lp w wL wr b4 b3 b10 i g f h1 e0 s A n c e k L) (hb : Below wr.heap.size wr wr') : Lp w wL wr' b4 b3 b10 i g f h1 e0 s A n c e k L :=
  ⟨h.st, h.rr, h.fs, h.row.below hb h.row.lt, h.own.below hb (Nat.le_refl _), (hb.block b3 (Array.getElem?_eq_some_iff.1 h.hd).1).trans h.hd, h.lt.below hb h.lt.lt, h.but.ext hb⟩
/-- The frame that comes up. -/
theorem Lp.next {w wL wr : World} {b4 b3 b10 : Nat} {i g f : Int} {h1 e0 : Nat} {s : ByteArray} {A : Option Addr} {n c e k : Nat} {L : List Mt} (h : Lp w wL wr b4 b3 b10 i g f h1 e0 s A n c e k L) (hk : k < (frs s e0).length) :
    GF s e ∧ (frs s e0)[k]? = some (fr s e) ∧ (frs s e0).drop (k + 1) = frs s (fto s e) := by
  have hd := List.drop_eq_getElem_cons hk
  have hfs := h.fs
  rw [hd] at hfs
  by_cases hg : GF s e
  · rw [frs_yes hg] at hfs
    injection hfs with h1 h2
    exact ⟨hg, by rw [List.getElem?_eq_getElem hk, h1], h2⟩
  · rw [frs_no hg] at hfs; cases hfs
theorem Lp.stop {w wL wr : World} {b4 b3 b10 : Nat} {i g f : Int} {h1 e0 : Nat} {s : ByteArray} {A : Option Addr} {n c e k : Nat} {L : List Mt} (h : Lp w wL wr b4 b3 b10 i g f h1 e0 s A n c e k L) (hn : GF s e → good h1 L (fr s e) = none) : rn h1 s [] e0 = (L, e) := by
  rw [← h.rr, rn_stop hn]
theorem Lp.done {w wL wr : World} {b4 b3 b10 : Nat} {i g f : Int} {h1 e0 : Nat} {s : ByteArray} {A : Option Addr} {n c e k : Nat} {L : List Mt} (h : Lp w wL wr b4 b3 b10 i g f h1 e0 s A n c e k L) (hk : ¬ k < (frs s e0).length) : rn h1 s [] e0 = (L, e) := by
  refine h.stop fun hg => ?_
  have := h.fs
  rw [List.drop_eq_nil_of_le (by omega), frs_yes hg] at this
  cases this
/-- Whatever a cell holds. -/
def cellV (w : World) (b : Nat) : Value := (w.cell? ⟨b, 0, none⟩).getD undef
theorem cellV_some {w : World} {b : Nat} {v : Value} (h : w.cell? ⟨b, 0, none⟩ = some v) : w.cell? ⟨b, 0, none⟩ = some (cellV w b) ∧ cellV w b = v := by unfold cellV; rw [h]; exact ⟨rfl, rfl⟩
/-- What scan.Tail tells. -/
def tl (s : ByteArray) (i g f : Int) : Option (List Mt × Nat) :=
  if okH i g f = true ∧ preB s (hdrB i.toNat g.toNat f.toNat) = true then some (rn f.toNat s [] (hdrB i.toNat g.toNat f.toNat).size) else none
def TlAns (s : ByteArray) (i g f : Int) (w : World) (e : Ending) (w' : World) : Prop :=
  (∃ L E v, tl s i g f = some (L, E) ∧ e = .returned (.tuple #[v, .int .i64 (E : Int), .int .i64 0]) ∧ OwnM w' w.heap.size v L) ∨
  (tl s i g f = none ∧ e = .returned (.tuple #[.slice none 0 0, .int .i64 0, .int .i64 210]))
end Sn
end Go.Proofs.YtpbphhpldlckbaaGreat
namespace Go.Proofs.YtpbphhpldlckbaaGreat
namespace Sn
open Go.RowKit Hd Fm Bk

set_option maxHeartbeats 3200000 in
set_option maxRecDepth 100000 in
theorem tail_no (s : ByteArray) (i g f : Int) (w : World) (h : tl s i g f = none) :
    Calls Tryz.prog 6 #[.string s, .agg #[.int .i64 i, .int .i64 g, .int .i64 f]] w fun e w' => TlAns s i g f w e w' ∧ Below w.heap.size w w' := by
  have mixed : Tryz.prog.follows .mixedOrders = true := by kernel_rfl
  have hb : ∀ wx, Calls Tryz.prog 17 #[.string s, .agg #[.int .i64 i, .int .i64 g, .int .i64 f]] wx fun e w' => e = .returned (.tuple #[.int .i64 0, .bool false]) ∧ Below wx.heap.size wx w' := by
    intro wx
    rcases hk : okH i g f with _ | _
    · exact begun_no s i g f wx hk
    · have hh : 1 ≤ i ∧ i ≤ 999999 ∧ 1 ≤ g ∧ g ≤ 999999 ∧ 1 ≤ f ∧ f ≤ 1000000000 := by simpa [okH] using hk
      obtain ⟨i', rfl⟩ : ∃ n : Nat, i = n := ⟨i.toNat, by omega⟩
      obtain ⟨g', rfl⟩ : ∃ n : Nat, g = n := ⟨g.toNat, by omega⟩
      obtain ⟨f', rfl⟩ : ∃ n : Nat, f = n := ⟨f.toNat, by omega⟩
      have hp : preB s (hdrB i' g' f') = false := by
        rcases hp : preB s (hdrB i' g' f') with _ | _
        · rfl
        · unfold tl at h
          rw [if_pos ⟨hk, by simpa using hp⟩] at h
          cases h
      exact begun_ok s i' g' f' wx (by omega) hp
  have HB := Lib.hid hb
  have HT := Lib.hid h
  have HW := Lib.hid ((ext_alloc w (.cells #[.int .i64 i, .int .i64 g, .int .i64 f] 23)).trans ((ext_alloc _ (.cells #[.slice none 0 0] 25)).mono (by simp)))
  have hv : Var ((w.alloc (.cells #[.int .i64 i, .int .i64 g, .int .i64 f] 23)).alloc (.cells #[.slice none 0 0] 25)) (w.heap.size + 1) 25 (.slice none 0 0) := by
    have := Var.new (w.alloc (.cells #[.int .i64 i, .int .i64 g, .int .i64 f] 23)) 25 (.slice none 0 0)
    rwa [show (w.alloc (.cells #[.int .i64 i, .int .i64 g, .int .i64 f] 23)).heap.size = w.heap.size + 1 by simp] at this
  have HV := Lib.hid hv
  clear hb h hv
  go_enter Tryz.func6, Tryz.ntmps6
  go_wp2_with fail
  go_step3
  go_wp2_with fail
  generalize (w.alloc (.cells #[.int .i64 i, .int .i64 g, .int .i64 f] 23)).alloc (.cells #[.slice none 0 0] 25) = w0 at *
  refine (HB.out _).mono ?_
  rintro e1 w1 ⟨rfl, hb1⟩
  have HV1 := Lib.hid (HV.out.below hb1 HV.out.lt)
  have HB1 := Lib.hid (HW.out.trans (hb1.mono HW.out.size))
  have hc := HV1.out.cell
  have hf := HV1.out.frozen
  clear hb1
  go_wp2_with fail
  try rw [Exit.noGoto_ret]
  refine bodyPost_ret (v := .tuple #[.slice none 0 0, .int .i64 0, .int .i64 210]) (by simp [results, go_sem, hc]) rfl ?_
  exact ⟨.inr ⟨HT.out, rfl⟩, HB1.out.setCell (p := ⟨w.heap.size + 1, 0, none⟩) (Nat.le_succ _) _⟩
end Sn
end Go.Proofs.YtpbphhpldlckbaaGreat
