/- block: Encode, Decode, Peek where they answer. scan: what holds of the blocks that are found; their records are a row; a block more. scan.Tail: what lies in memory in its loop. scan.Tail. scan.Tail, where the header stands. append of several numbers at once onto a slice of the call's own. head.PutFoot. scan.Load, where the block stands. scan: Tail at any header; Sealed. What is found of a beginning of bytes, plainly; Tail where it answers, where not. scan.Records, where the blocks stand. A block more, plainly. The probe of scan, plainly: a header, one block. The probes of scan. scan's probes: awake. varveref21.Same, at rows that are the same. ScanPrefix. -/
import Derived.Test.YtpbphhpldlckbaaGreatSc51
import Derived.Test.YtpbphhpldlckbaaGreatSc50
import Derived.WalkMore
import Derived.Deep.LoopGhost
import Derived.Deep.CutBlock
import Derived.Test.YtpbphhpldlckbaaGreatSc03
import Derived.Test.YtpbphhpldlckbaaGreatSc48
import Derived.Test.YtpbphhpldlckbaaGreatSc49
import Derived.Deep.Cut
import Derived.Deep.RegionHeld3
namespace Go.Proofs.YtpbphhpldlckbaaGreat
namespace Bk
open Go.RowKit Tk Vi Sq Rd

/-- Encode, where there is a block. -/
theorem enc_dec (A : Option Addr) (n c : Nat) (l : List (Int × Int × ByteArray)) (w : World) (hrd : Rd w w.heap.size 3 A n (fl3 l)) (hn : n ≤ 100000) (h : encE l = 0) :
    Calls Tryz.prog 11 #[.slice A n c] w fun e w' => (∃ (S : ByteArray) (arr : List Nat), e = .returned (.tuple #[.string S, .int .i64 0]) ∧ Sx.Sorted (joinB l) arr ∧ S.data.toList = blk l arr ∧ S.size ≤ (joinB l).length + 26 ∧ S.size ≤ 20026 ∧ dec S.data.toList = some l) ∧ Below w.heap.size w w' := by
  refine (enc_any A n c l w hrd hn).mono ?_
  rintro e w' ⟨⟨S, rfl, -, h2⟩, hb⟩
  obtain ⟨arr, hso, rfl⟩ := h2 h
  obtain ⟨hj, hl⟩ := enc_ok h
  have h3 := blk_len (A := arr) hj hl
  have h4 := (jE_row hj).2
  have h5 : (⟨(blk l arr).toArray⟩ : ByteArray).size = (blk l arr).length := by simp [ByteArray.size]
  exact ⟨⟨_, arr, by rw [h], hso, rfl, by omega, by omega, dec_blk hj hl hso⟩, hb⟩
/-- Encode, where there is none. -/
theorem enc_not (A : Option Addr) (n c : Nat) (l : List (Int × Int × ByteArray)) (w : World) (hrd : Rd w w.heap.size 3 A n (fl3 l)) (hn : n ≤ 100000) (h : encE l ≠ 0) :
    Calls Tryz.prog 11 #[.slice A n c] w fun e w' => e = .returned (.tuple #[.string ⟨#[]⟩, .int .i64 (encE l)]) ∧ Below w.heap.size w w' := by
  refine (enc_any A n c l w hrd hn).mono ?_
  rintro e w' ⟨⟨S, rfl, h1, -⟩, hb⟩
  rw [h1 h]
  exact ⟨rfl, hb⟩
theorem dec_yes (s : ByteArray) (l : List (Int × Int × ByteArray)) (w : World) (hs : s.size ≤ 1000000) (h : dec s.data.toList = some l) :
    Calls Tryz.prog 22 #[.string s] w fun e w' => (∃ A c, e = .returned (.tuple #[.slice A l.length c, .int .i64 0]) ∧ Rd w' w'.heap.size 3 A l.length (fl3 l)) ∧ Below w.heap.size w w' := by
  refine (Decode_any s w hs).mono ?_
  rintro e w' ⟨⟨l', v, hl, rfl, hown⟩ | ⟨hl, -⟩, hb⟩
  · rw [h] at hl
    obtain rfl := Option.some.inj hl
    obtain ⟨A, c, rfl, -, -, hr⟩ := hown.rd
    exact ⟨⟨A, c, rfl, hr⟩, hb⟩
  · rw [h] at hl; cases hl

theorem peek_yes (s : ByteArray) {md raw count first early late : Nat} {r : List UInt8} (w : World) (hs : s.size ≤ 1000000) (h : peekB s.data.toList = some (md, raw, count, first, early, late, r)) :
    Calls Tryz.prog 39 #[.string s] w fun e w' => e = .returned (.tuple #[magg 0 0 raw count first early late, .int .i64 0]) ∧ Below w.heap.size w w' := by
  refine (Peek_any s w hs).mono ?_
  rintro e w' ⟨⟨md', raw', count', first', early', late', r', h', rfl⟩ | ⟨h', -⟩, hb⟩
  · rw [h] at h'
    simp only [Option.some.injEq, Prod.mk.injEq] at h'
    obtain ⟨-, rfl, rfl, rfl, rfl, rfl, -⟩ := h'
    exact ⟨rfl, hb⟩
  · rw [h] at h'; cases h'
/-- What holds of a row's records, all numbers as such. -/
theorem row_nats {l : List (Int × Int × ByteArray)} (h : jE l = 0) (hn : l ≠ []) : ∃ F E T : Nat, (at3 l 0).1 = F ∧ (at3 l 0).2.1 = E ∧ (at3 l (l.length - 1)).2.1 = T ∧ F + l.length ≤ 1000000001 ∧ (at3 l 0).1.toNat = F ∧ (at3 l 0).2.1.toNat = E ∧ (at3 l (l.length - 1)).2.1.toNat = T ∧
    ∀ (k : Nat) (r : Int × Int × ByteArray), l[k]? = some r → r.1 = (F : Int) + k ∧ (E : Int) ≤ r.2.1 ∧ r.2.1 ≤ (T : Int) := by
  obtain ⟨e1, e2, e3, e4, e5, e6⟩ := ends h hn
  obtain ⟨h1, h2⟩ := jE_row h
  have hp : 0 < l.length := List.length_pos_iff.2 hn
  refine ⟨(at3 l 0).1.toNat, (at3 l 0).2.1.toNat, (at3 l (l.length - 1)).2.1.toNat, by omega, by omega, by omega, by omega, rfl, rfl, rfl, fun k r hk => ?_⟩
  obtain ⟨a1, a2, -, a4⟩ := row_seq0 l h1 k r hk
  have hkl : k < l.length := (List.getElem?_eq_some_iff.1 hk).1
  have := a4 (l.length - 1) _ (by omega) (at3_get l (l.length - 1) (by omega))
  omega

end Bk
end Go.Proofs.YtpbphhpldlckbaaGreat
namespace Go.Proofs.YtpbphhpldlckbaaGreat
namespace Sn
open Go.RowKit Cr Fm Hd Bk Vi Rd

/-- What holds of the blocks that were found. -/
def St (e0 : Nat) (s : ByteArray) (l : List Mt) (e : Nat) : Prop :=
  rowM none l = true ∧ l.length ≤ 1000 ∧ (l = [] → e = e0) ∧ (∀ m, l.getLast? = some m → m.a + m.s = e) ∧ ∀ m ∈ l, GF s m.a ∧ metaF (fr s m.a) = some m ∧ ∃ r, dec (fbody s m.a).data.toList = some r
theorem St_nil (e0 : Nat) (s : ByteArray) : St e0 s [] e0 := ⟨rfl, by simp, fun _ => rfl, (fun m h => by cases h), (fun m h => by cases h)⟩
theorem metaF_some {x : Fr} {m : Mt} (h : metaF x = some m) : x.1 = 2 ∧ m.a = x.2.2.1 ∧ m.s = x.2.2.2 - x.2.2.1 ∧ ∃ md r, peekB x.2.1.data.toList = some (md, m.r, m.c, m.f, m.e, m.l, r) := by
  unfold metaF at h
  split at h
  · rename_i md raw count first early late r hp
    split at h
    · cases h
      exact ⟨‹_›, rfl, rfl, md, r, hp⟩
    · cases h
  · cases h
theorem goesB_iff (h1 : Nat) (l : List Mt) (m : Mt) : goesB h1 l m = true ↔ (l.length < 1000 ∧ m.f = nextM h1 l ∧ lateM l ≤ m.e) ∧ okM m = true := by
  unfold goesB; rw [Bool.and_eq_true, decide_eq_true_eq]
theorem St_step {h1 e0 : Nat} {s : ByteArray} {l : List Mt} {e : Nat} {m : Mt} (h : St e0 s l e) (hg : GF s e) (hm : good h1 l (fr s e) = some m) : St e0 s (l ++ [m]) (fto s e) := by
  obtain ⟨s1, s2, s3, s4, s5⟩ := h
  rw [good_iff, goesB_iff] at hm
  obtain ⟨hm, ⟨⟨g1, g2, g3⟩, g4⟩, r, hr⟩ := hm
  obtain ⟨m1, m2, m3, -⟩ := metaF_some hm
  have h9 := GF_to hg
  have ea : m.a = e := m2
  have es : m.s = fto s e - e := m3
  refine ⟨rowM_snoc l none m s1 g4 fun q hq => ?_, by rw [List.length_append, List.length_singleton]; omega, fun h => by simp at h, fun x hx => ?_, fun x hx => ?_⟩
  · rcases hl : l.getLast? with _ | y
    · rw [hl] at hq; cases hq
    · rw [hl] at hq
      cases hq
      have := s4 _ hl
      unfold nextM at g2
      unfold lateM at g3
      rw [hl] at g2 g3
      rw [folB_iff]
      exact ⟨by omega, g2, g3⟩
  · rw [List.getLast?_append] at hx
    obtain rfl : m = x := Option.some.inj hx
    omega
  · rw [List.mem_append, List.mem_singleton] at hx
    rcases hx with hx | rfl
    · exact s5 x hx
    · rw [ea]
      exact ⟨hg, hm, r, hr⟩
theorem St_rn (h1 e0 : Nat) (s : ByteArray) : ∀ l e, St e0 s l e → St e0 s (rn h1 s l e).1 (rn h1 s l e).2 := by
  refine rn_ind h1 s _ ?_ ?_
  · intro l e h hs
    rw [rn_stop h]; exact hs
  · intro l e m hg hm ih hs
    rw [rn_step hg hm]
    exact ih (St_step hs hg hm)
/-- The records of the blocks that were found. -/
def recs (s : ByteArray) (l : List Mt) : List (Int × Int × ByteArray) := l.flatMap fun m => (dec (fbody s m.a).data.toList).getD []
theorem recs_snoc (s : ByteArray) (l : List Mt) (m : Mt) : recs s (l ++ [m]) = recs s l ++ (dec (fbody s m.a).data.toList).getD [] := by
  unfold recs; rw [List.flatMap_append, List.flatMap_singleton]
def lastR (p : Option (Int × Int × ByteArray)) (l : List (Int × Int × ByteArray)) : Option (Int × Int × ByteArray) := match l.getLast? with | none => p | some r => some r
theorem rowE_app : ∀ (a : List (Int × Int × ByteArray)) (p : Option (Int × Int × ByteArray)) (b : List (Int × Int × ByteArray)), rowE p a = 0 → rowE (lastR p a) b = 0 → rowE p (a ++ b) = 0
  | [], _, _, _, h => h
  | x :: a, p, b, h, h2 => by
    rw [rowE] at h
    split at h; · simp at h
    rename_i ho
    split at h; · simp at h
    rename_i hf
    rw [List.cons_append, rowE, if_neg ho, if_neg hf]
    refine rowE_app a (some x) b h ?_
    have e : lastR p (x :: a) = lastR (some x) a := by
      unfold lastR
      rw [List.getLast?_cons]
      rcases a.getLast? with _ | y <;> rfl
    rw [← e]; exact h2
theorem row_behind {p x : Int × Int × ByteArray} {l : List (Int × Int × ByteArray)} (h : rowE none (x :: l) = 0) (hq : x.1 = p.1 + 1) (ht : p.2.1 ≤ x.2.1) : rowE (some p) (x :: l) = 0 := by
  rw [rowE] at h ⊢
  split at h; · simp at h
  rename_i ho
  rw [if_neg ho, if_neg (by simp [off]; omega)]
  simpa [off] using h
theorem dec_known {b r : List UInt8} {md raw count first early late : Nat} {l : List (Int × Int × ByteArray)} (h : dec b = some l) (hp : peekB b = some (md, raw, count, first, early, late, r)) :
    l.length = count ∧ (at3 l 0).1 = first ∧ (at3 l 0).2.1 = early ∧ (at3 l (l.length - 1)).2.1 = late := by
  rw [dec_at hp] at h
  split at h
  · cases h
  split at h
  · cases h
  split at h
  · cases h
    exact (fits_iff ..).1 ‹_›
  · cases h
theorem getLast_at3 {l : List (Int × Int × ByteArray)} (h : l ≠ []) : l.getLast? = some (at3 l (l.length - 1)) := by
  have : 0 < l.length := List.length_pos_iff.2 h
  rw [List.getLast?_eq_getElem?, at3_get l _ (by omega)]
/-- The records are a row. -/
def RowSt (h1 : Nat) (s : ByteArray) (l : List Mt) : Prop := rowE none (recs s l) = 0 ∧ ∀ r, (recs s l).getLast? = some r → r.1 + 1 = (nextM h1 l : Nat) ∧ r.2.1 = (lateM l : Nat)
theorem Row_nil (h1 : Nat) (s : ByteArray) : RowSt h1 s [] := ⟨rfl, fun r h => by cases h⟩
theorem Row_step {h1 : Nat} {s : ByteArray} {l : List Mt} {e : Nat} {m : Mt} (h : RowSt h1 s l) (hm : good h1 l (fr s e) = some m) : RowSt h1 s (l ++ [m]) := by
  obtain ⟨r1, r2⟩ := h
  rw [good_iff, goesB_iff] at hm
  obtain ⟨hm, ⟨⟨g1, g2, g3⟩, g4⟩, L, hr⟩ := hm
  obtain ⟨-, m2, -, md, rr, hp⟩ := metaF_some hm
  have ea : m.a = e := m2
  have hr' : dec (fbody s m.a).data.toList = some L := by rw [ea]; exact hr
  obtain ⟨d1, d2⟩ := dec_some hr
  obtain ⟨k1, k2, k3, k4⟩ := dec_known hr hp
  obtain ⟨j1, -⟩ := jE_row d1
  have hlen : 0 < L.length := List.length_pos_iff.2 d2
  have hz := row_seq0 L j1 (L.length - 1) _ (at3_get L (L.length - 1) (by omega))
  unfold RowSt
  rw [recs_snoc, hr', Option.getD_some]
  refine ⟨?_, fun r hl => ?_⟩
  · refine rowE_app _ _ _ r1 ?_
    rcases hq : (recs s l).getLast? with _ | p
    · unfold lastR; rw [hq]; exact j1
    · unfold lastR; rw [hq]
      obtain ⟨q1, q2⟩ := r2 p hq
      rcases L with _ | ⟨x, L⟩
      · exact absurd rfl d2
      · have e3 : at3 (x :: L) 0 = x := rfl
        rw [e3] at k2 k3
        exact row_behind j1 (by omega) (by omega)
  · rw [List.getLast?_append, getLast_at3 d2] at hl
    cases hl
    rw [nextM_snoc, lateM_snoc]
    omega
theorem Row_rn (h1 : Nat) (s : ByteArray) : ∀ l e, RowSt h1 s l → RowSt h1 s (rn h1 s l e).1 := by
  refine rn_ind h1 s _ ?_ ?_
  · intro l e h hs
    rw [rn_stop h]; exact hs
  · intro l e m hg hm ih hs
    rw [rn_step hg hm]
    exact ih (Row_step hs hm)
/-- A block more. -/
def mtOf (T : Nat) (B : ByteArray) (l : List (Int × Int × ByteArray)) (F E L : Nat) : Mt := ⟨T, B.size + 9, (joinB l).length, l.length, F, E, L⟩
theorem more_good {h1 T F E L : Nat} {B : ByteArray} {A : List Nat} {l : List Mt} {R : List (Int × Int × ByteArray)} (hB : B.data.toList = blk R A) (hj : jE R = 0) (hR : R ≠ []) (hA : Sx.Sorted (joinB R) A)
    (hT : T ≤ 1000000) (hF : (at3 R 0).1 = F) (hE : (at3 R 0).2.1 = E) (hL : (at3 R (R.length - 1)).2.1 = L) (hl : l.length < 1000) (hn : F = nextM h1 l) (ht : lateM l ≤ E) :
    good h1 l (2, B, T, T + (B.size + 9)) = some (mtOf T B R F E L) := by
  have hp := peek_blk A hj hR
  have hd := dec_blk hj hR hA
  have he := ends hj hR
  have hb := blk_len (A := A) hj hR
  have hbs : B.size = (blk R A).length := by rw [← hB]; rfl
  have h2 := (jE_row hj).2
  have h3 := joinB_ge R
  have hlen : 0 < R.length := List.length_pos_iff.2 hR
  have hbl : 1 ≤ (blk R A).length := by unfold blk; simp
  rw [hF, hE, hL] at hp he
  rw [good_iff, goesB_iff, okM_iff]
  refine ⟨?_, ⟨⟨hl, hn, ht⟩, ?_⟩, R, by rw [hB]; exact hd⟩
  · unfold metaF
    rw [hB, hp]
    simp only [if_true]
    unfold mtOf
    congr 2 <;> omega
  · unfold mtOf
    refine ⟨hT, ?_⟩
    simp only
    omega
theorem rn_more {h1 e0 F E L : Nat} {s B : ByteArray} {A : List Nat} {R : List (Int × Int × ByteArray)} (hs : s.size ≤ 1000000) (he : e0 ≤ s.size) (hB : B.data.toList = blk R A) (hj : jE R = 0) (hR : R ≠ []) (hA : Sx.Sorted (joinB R) A)
    (hF : (at3 R 0).1 = F) (hE : (at3 R 0).2.1 = E) (hL : (at3 R (R.length - 1)).2.1 = L) (hl : (rn h1 s [] e0).1.length < 1000) (hn : F = nextM h1 (rn h1 s [] e0).1) (ht : lateM (rn h1 s [] e0).1 ≤ E) :
    rn h1 (s.extract 0 (rn h1 s [] e0).2 ++ frB 2 B) [] e0 = ((rn h1 s [] e0).1 ++ [mtOf (rn h1 s [] e0).2 B R F E L], (rn h1 s [] e0).2 + (B.size + 9)) := by
  obtain ⟨l2, -, p2, p3⟩ := rn_pre h1 s [] e0
  have hT := p3 he
  rw [rn_to h1 s _ _ (agree_app s (frB 2 B) _ hT) [] e0 (Nat.le_refl _)]
  have hes : (s.extract 0 (rn h1 s [] e0).2).size = (rn h1 s [] e0).2 := by rw [ByteArray.size_extract]; omega
  have hbs : B.size ≤ 60000 := by
    have := blk_len (A := A) hj hR
    have := (jE_row hj).2
    have : B.size = (blk R A).length := by rw [← hB]; rfl
    omega
  obtain ⟨g1, g2⟩ := GF_put (s.extract 0 (rn h1 s [] e0).2) 2 B (by decide) hbs
  rw [hes] at g1 g2
  have hg := more_good (h1 := h1) (T := (rn h1 s [] e0).2) (l := (rn h1 s [] e0).1) hB hj hR hA (by omega) hF hE hL hl hn ht
  have hto : fto (s.extract 0 (rn h1 s [] e0).2 ++ frB 2 B) (rn h1 s [] e0).2 = (rn h1 s [] e0).2 + (B.size + 9) := congrArg (fun x : Fr => x.2.2.2) g2
  rw [rn_step g1 (by rw [g2]; exact hg), hto, rn_end]
  rw [ByteArray.size_append, size_frB, hes]
  omega
end Sn
end Go.Proofs.YtpbphhpldlckbaaGreat
namespace Go.Proofs.YtpbphhpldlckbaaGreat
namespace Sn
open Go.RowKit Hd Fm Bk

/-- The old memory stands, but for two blocks. -/
structure But2 (b4 b10 : Nat) (w w' : World) : Prop where
  os : w'.os = w.os
  tape : w'.tape = w.tape
  output : w'.output = w.output
  size : w.heap.size ≤ w'.heap.size
  block : ∀ k, k < w.heap.size → k ≠ b4 → k ≠ b10 → w'.heap[k]? = w.heap[k]?
section
variable {b4 b10 : Nat} {w w' w'' : World}
theorem But2.refl (b4 b10 : Nat) (w : World) : But2 b4 b10 w w := ⟨rfl, rfl, rfl, Nat.le_refl _, fun _ _ _ _ => rfl⟩
theorem But2.ext (h : But2 b4 b10 w w') (hb : Below w'.heap.size w' w'') : But2 b4 b10 w w'' :=
  ⟨hb.os.trans h.os, hb.tape.trans h.tape, hb.output.trans h.output, Nat.le_trans h.size hb.size, fun k hk h4 h10 => (hb.block k (Nat.lt_of_lt_of_le hk h.size)).trans (h.block k hk h4 h10)⟩
theorem But2.grown (h : But2 b4 b10 w w') {row : Option Nat} (hg : w'.grownBy w'' row) (hr : ∀ k, row = some k → w.heap.size ≤ k) : But2 b4 b10 w w'' :=
  ⟨hg.os.trans h.os, hg.tape.trans h.tape, hg.output.trans h.output, Nat.le_trans h.size hg.size, fun k hk h4 h10 => (hg.block k (Nat.lt_of_lt_of_le hk h.size) (fun e => by have := hr k e.symm; omega)).trans (h.block k hk h4 h10)⟩
theorem But2.set4 (h : But2 b4 b10 w w') (j : Nat) (v : Value) : But2 b4 b10 w (w'.setCell ⟨b4, j, none⟩ v) :=
  ⟨h.os, h.tape, h.output, by simpa using h.size, fun k hk h4 h10 => (Below.heap_setCell w' ⟨b4, j, none⟩ v k h4).trans (h.block k hk h4 h10)⟩
theorem But2.set10 (h : But2 b4 b10 w w') (j : Nat) (v : Value) : But2 b4 b10 w (w'.setCell ⟨b10, j, none⟩ v) :=
  ⟨h.os, h.tape, h.output, by simpa using h.size, fun k hk h4 h10 => (Below.heap_setCell w' ⟨b10, j, none⟩ v k h10).trans (h.block k hk h4 h10)⟩
theorem But2.drew (h : But2 b4 b10 w w') : But2 b4 b10 w w'.drew := ⟨h.os, h.tape, h.output, h.size, h.block⟩
theorem But2.below (h : But2 b4 b10 w w') {w0 : World} {B : Nat} (hb : Below B w0 w) (h4 : B ≤ b4) (h10 : B ≤ b10) (hB : B ≤ w.heap.size) : Below B w0 w' :=
  ⟨h.os.trans hb.os, h.tape.trans hb.tape, h.output.trans hb.output, Nat.le_trans hb.size h.size, fun k hk => (h.block k (Nat.lt_of_lt_of_le hk hB) (by omega) (by omega)).trans (hb.block k hk)⟩
theorem But2.cell (h : But2 b4 b10 w w') {a : Addr} {v : Value} (ha : a.block < w.heap.size) (h4 : a.block ≠ b4) (h10 : a.block ≠ b10) (hc : w.cell? a = some v) : w'.cell? a = some v := by
  have := h.block a.block ha h4 h10
  unfold World.cell? at hc ⊢
  rw [this]; exact hc
end
theorem length_flF (l : List Fr) : (flF l).length = l.length * 4 := by
  induction l with
  | nil => rfl
  | cons x l ih => show (clF x ++ flF l).length = _; rw [List.length_append, ih, List.length_cons]; show 4 + _ = _; omega
theorem flF_at : ∀ (l : List Fr) (k : Nat) (x : Fr), l[k]? = some x → ∀ j, j < 4 → (flF l)[k * 4 + j]? = (clF x)[j]?
  | [], k, x, h, _, _ => by simp at h
  | y :: l, 0, x, h, j, hj => by
    simp only [List.getElem?_cons_zero, Option.some.injEq] at h
    subst h
    show (clF y ++ flF l)[0 * 4 + j]? = _
    rw [Nat.zero_mul, Nat.zero_add, List.getElem?_append_left (by simpa [clF] using hj)]
  | y :: l, k + 1, x, h, j, hj => by
    have := flF_at l k x (by simpa using h) j hj
    show (clF y ++ flF l)[(k + 1) * 4 + j]? = _
    rw [List.getElem?_append_right (by simp [clF]; omega), ← this]
    congr 1
    simp [clF]; omega
/-- The frames lie where they lie, in whatever the loop makes of the memory. -/
theorem fr_at {w w' : World} {b4 b10 B n k : Nat} {A : Option Addr} {l : List Fr} {x : Fr} (h : Rd w B 4 A n (flF l)) (hk : l[k]? = some x) (hb : But2 b4 b10 w w') (hB : B ≤ w.heap.size) (hA : ∀ ad, A = some ad → ad.block ≠ b4 ∧ ad.block ≠ b10) :
    ∃ ad, A = some ad ∧ k < n ∧ w'.cell? (ad.add (k * 4)) = some (.int .i64 (x.1 : Int)) ∧ w'.cell? ⟨(ad.add (k * 4)).block, (ad.add (k * 4)).off + 1, none⟩ = some (.string x.2.1) ∧
      w'.cell? ⟨(ad.add (k * 4)).block, (ad.add (k * 4)).off + 2, none⟩ = some (.int .i64 (x.2.2.1 : Int)) ∧ w'.cell? ⟨(ad.add (k * 4)).block, (ad.add (k * 4)).off + 3, none⟩ = some (.int .i64 (x.2.2.2 : Int)) := by
  have hl : l.length = n := by have := h.len; rw [length_flF] at this; omega
  have hkn : k < n := by rw [← hl]; exact (List.getElem?_eq_some_iff.1 hk).1
  obtain ⟨ad, e, hbk, hc⟩ := h.cells (by omega)
  obtain ⟨h4, h10⟩ := hA ad e
  have hf := flF_at l k x hk
  have hg : ∀ j v, j < 4 → (clF x)[j]? = some v → w'.cell? (ad.add (k * 4 + j)) = some v := fun j v hj hv =>
    hb.cell (by rw [add_block]; omega) (by rw [add_block]; exact h4) (by rw [add_block]; exact h10) (hc _ _ ((hf j hj).trans hv))
  have ha : ∀ j, ad.add (k * 4 + (j + 1)) = ⟨(ad.add (k * 4)).block, (ad.add (k * 4)).off + (j + 1), none⟩ := fun j => by rw [← add_add]; rfl
  refine ⟨ad, e, hkn, hg 0 _ (by omega) rfl, ?_, ?_, ?_⟩
  · rw [← ha]; exact hg 1 _ (by omega) rfl
  · rw [← ha]; exact hg 2 _ (by omega) rfl
  · rw [← ha]; exact hg 3 _ (by omega) rfl
/-- What holds in the loop. -/
structure Lp (w wL wr : World) (b4 b3 b10 : Nat) (i g f : Int) (h1 e0 : Nat) (s : ByteArray) (A : Option Addr) (n c e k : Nat) (L : List Mt) : Prop where
  st : St e0 s L e
  rr : Sn.rn h1 s L e = Sn.rn h1 s [] e0
  fs : (frs s e0).drop k = frs s e
  row : Var wr b4 25 (.slice A n c)
  own : OwnM wr wL.heap.size (.slice A n c) L
  hd : wr.heap[b3]? = some (.cells #[.int .i64 i, .int .i64 g, .int .i64 f] 23 (0, 0))
  lt : Var wr b10 3 (.int .i64 (lateM L : Int))
  but : But2 b4 b10 wL wr
theorem Lp.kp {w wL wr : World} {b4 b3 b10 : Nat} {i g f : Int} {h1 e0 : Nat} {s : ByteArray} {A : Option Addr} {n c e k : Nat} {L : List Mt} (h : Lp w wL wr b4 b3 b10 i g f h1 e0 s A n c e k L) : Kp wr b4 b3 b10 i g f A n c (lateM L) L ∧ n = L.length := by
  obtain ⟨A', c', e1, -, -, hr⟩ := h.own.rd
  cases e1
  exact ⟨⟨h.row, h.hd, h.lt, hr⟩, rfl⟩
theorem Lp.ok {w wL wr : World} {b4 b3 b10 : Nat} {i g f : Int} {h1 e0 : Nat} {s : ByteArray} {A : Option Addr} {n c e k : Nat} {L : List Mt} (h : Lp w wL wr b4 b3 b10 i g f h1 e0 s A n c e k L) : okBl L = true := by
  unfold okBl; rw [h.st.1, decide_eq_true h.st.2.1]; rfl
theorem Lp.ext {w wL wr wr' : World} {b4 b3 b10 : Nat} {i g f : Int} {h1 e0 : Nat} {s : ByteArray} {A : Option Addr} {n c e k : Nat} {L : List Mt} (h : Lp w wL wr b4 b3 b10 i g f h1 e0 s A n c e k L) (hb : Below wr.heap.size wr wr') : Lp w wL wr' b4 b3 b10 i g f h1 e0 s A n c e k L :=
  ⟨h.st, h.rr, h.fs, h.row.below hb h.row.lt, h.own.below hb (Nat.le_refl _), (hb.block b3 (Array.getElem?_eq_some_iff.1 h.hd).1).trans h.hd, h.lt.below hb h.lt.lt, h.but.ext hb⟩
/-- The frame that comes up. -/
theorem Lp.next {w wL wr : World} {b4 b3 b10 : Nat} {i g f : Int} {h1 e0 : Nat} {s : ByteArray} {A : Option Addr} {n c e k : Nat} {L : List Mt} (h : Lp w wL wr b4 b3 b10 i g f h1 e0 s A n c e k L) (hk : k < (frs s e0).length) :
    GF s e ∧ (frs s e0)[k]? = some (fr s e) ∧ (frs s e0).drop (k + 1) = frs s (fto s e) := by
  have hd := List.drop_eq_getElem_cons hk
  have hfs := h.fs
  rw [hd] at hfs
  by_cases hg : GF s e
  · rw [frs_yes hg] at hfs
    injection hfs with h1 h2
    exact ⟨hg, by rw [List.getElem?_eq_getElem hk, h1], h2⟩
  · rw [frs_no hg] at hfs; cases hfs
theorem Lp.stop {w wL wr : World} {b4 b3 b10 : Nat} {i g f : Int} {h1 e0 : Nat} {s : ByteArray} {A : Option Addr} {n c e k : Nat} {L : List Mt} (h : Lp w wL wr b4 b3 b10 i g f h1 e0 s A n c e k L) (hn : GF s e → good h1 L (fr s e) = none) : rn h1 s [] e0 = (L, e) := by
  rw [← h.rr, rn_stop hn]
theorem Lp.done {w wL wr : World} {b4 b3 b10 : Nat} {i g f : Int} {h1 e0 : Nat} {s : ByteArray} {A : Option Addr} {n c e k : Nat} {L : List Mt} (h : Lp w wL wr b4 b3 b10 i g f h1 e0 s A n c e k L) (hk : ¬ k < (frs s e0).length) : rn h1 s [] e0 = (L, e) := by
  refine h.stop fun hg => ?_
  have := h.fs
  rw [List.drop_eq_nil_of_le (by omega), frs_yes hg] at this
  cases this
/-- Whatever a cell holds. -/
def cellV (w : World) (b : Nat) : Value := (w.cell? ⟨b, 0, none⟩).getD undef
theorem cellV_some {w : World} {b : Nat} {v : Value} (h : w.cell? ⟨b, 0, none⟩ = some v) : w.cell? ⟨b, 0, none⟩ = some (cellV w b) ∧ cellV w b = v := by unfold cellV; rw [h]; exact ⟨rfl, rfl⟩
/-- What scan.Tail tells. -/
def tl (s : ByteArray) (i g f : Int) : Option (List Mt × Nat) :=
  if okH i g f = true ∧ preB s (hdrB i.toNat g.toNat f.toNat) = true then some (rn f.toNat s [] (hdrB i.toNat g.toNat f.toNat).size) else none
def TlAns (s : ByteArray) (i g f : Int) (w : World) (e : Ending) (w' : World) : Prop :=
  (∃ L E v, tl s i g f = some (L, E) ∧ e = .returned (.tuple #[v, .int .i64 (E : Int), .int .i64 0]) ∧ OwnM w' w.heap.size v L) ∨
  (tl s i g f = none ∧ e = .returned (.tuple #[.slice none 0 0, .int .i64 0, .int .i64 210]))
end Sn
end Go.Proofs.YtpbphhpldlckbaaGreat
namespace Go.Proofs.YtpbphhpldlckbaaGreat
namespace Sn
open Go.RowKit Hd Fm Bk

set_option maxHeartbeats 3200000 in
set_option maxRecDepth 100000 in
theorem tail_no (s : ByteArray) (i g f : Int) (w : World) (h : tl s i g f = none) :
    Calls Tryz.prog 6 #[.string s, .agg #[.int .i64 i, .int .i64 g, .int .i64 f]] w fun e w' => TlAns s i g f w e w' ∧ Below w.heap.size w w' := by
  have mixed : Tryz.prog.follows .mixedOrders = true := by kernel_rfl
  have hb : ∀ wx, Calls Tryz.prog 17 #[.string s, .agg #[.int .i64 i, .int .i64 g, .int .i64 f]] wx fun e w' => e = .returned (.tuple #[.int .i64 0, .bool false]) ∧ Below wx.heap.size wx w' := by
    intro wx
    rcases hk : okH i g f with _ | _
    · exact begun_no s i g f wx hk
    · have hh : 1 ≤ i ∧ i ≤ 999999 ∧ 1 ≤ g ∧ g ≤ 999999 ∧ 1 ≤ f ∧ f ≤ 1000000000 := by simpa [okH] using hk
      obtain ⟨i', rfl⟩ : ∃ n : Nat, i = n := ⟨i.toNat, by omega⟩
      obtain ⟨g', rfl⟩ : ∃ n : Nat, g = n := ⟨g.toNat, by omega⟩
      obtain ⟨f', rfl⟩ : ∃ n : Nat, f = n := ⟨f.toNat, by omega⟩
      have hp : preB s (hdrB i' g' f') = false := by
        rcases hp : preB s (hdrB i' g' f') with _ | _
        · rfl
        · unfold tl at h
          rw [if_pos ⟨hk, by simpa using hp⟩] at h
          cases h
      exact begun_ok s i' g' f' wx (by omega) hp
  have HB := Lib.hid hb
  have HT := Lib.hid h
  have HW := Lib.hid ((ext_alloc w (.cells #[.int .i64 i, .int .i64 g, .int .i64 f] 23)).trans ((ext_alloc _ (.cells #[.slice none 0 0] 25)).mono (by simp)))
  have hv : Var ((w.alloc (.cells #[.int .i64 i, .int .i64 g, .int .i64 f] 23)).alloc (.cells #[.slice none 0 0] 25)) (w.heap.size + 1) 25 (.slice none 0 0) := by
    have := Var.new (w.alloc (.cells #[.int .i64 i, .int .i64 g, .int .i64 f] 23)) 25 (.slice none 0 0)
    rwa [show (w.alloc (.cells #[.int .i64 i, .int .i64 g, .int .i64 f] 23)).heap.size = w.heap.size + 1 by simp] at this
  have HV := Lib.hid hv
  clear hb h hv
  go_enter Tryz.func6, Tryz.ntmps6
  go_wp2_with fail
  go_step3
  go_wp2_with fail
  generalize (w.alloc (.cells #[.int .i64 i, .int .i64 g, .int .i64 f] 23)).alloc (.cells #[.slice none 0 0] 25) = w0 at *
  refine (HB.out _).mono ?_
  rintro e1 w1 ⟨rfl, hb1⟩
  have HV1 := Lib.hid (HV.out.below hb1 HV.out.lt)
  have HB1 := Lib.hid (HW.out.trans (hb1.mono HW.out.size))
  have hc := HV1.out.cell
  have hf := HV1.out.frozen
  clear hb1
  go_wp2_with fail
  try rw [Exit.noGoto_ret]
  refine bodyPost_ret (v := .tuple #[.slice none 0 0, .int .i64 0, .int .i64 210]) (by simp [results, go_sem, hc]) rfl ?_
  exact ⟨.inr ⟨HT.out, rfl⟩, HB1.out.setCell (p := ⟨w.heap.size + 1, 0, none⟩) (Nat.le_succ _) _⟩
end Sn
end Go.Proofs.YtpbphhpldlckbaaGreat
namespace Go.Proofs.YtpbphhpldlckbaaGreat
namespace Sn
open Go.RowKit Hd Fm Bk

theorem tl_yes {s : ByteArray} {i g f : Nat} (h : 1 ≤ i ∧ i ≤ 999999 ∧ 1 ≤ g ∧ g ≤ 999999 ∧ 1 ≤ f ∧ f ≤ 1000000000) (hp : preB s (hdrB i g f) = true) : tl s i g f = some (rn f s [] (hdrB i g f).size) := by
  unfold tl
  rw [if_pos ⟨by unfold okH; rw [decide_eq_true_eq]; omega, by simpa using hp⟩]
  simp
theorem pre_size {s p : ByteArray} (h : preB s p = true) : p.size ≤ s.size := by
  have := congrArg ByteArray.size ((preB_iff s p).1 h)
  rw [ByteArray.size_extract] at this
  omega
theorem Lp.fin {w wL wx : World} {b4 b3 b10 : Nat} {i g f : Int} {h1 e0 : Nat} {s : ByteArray} {A : Option Addr} {n c e k : Nat} {L : List Mt} (h : Lp w wL wx b4 b3 b10 i g f h1 e0 s A n c e k L) (hr : Sn.rn h1 s [] e0 = (L, e)) (ht : tl s i g f = some (Sn.rn h1 s [] e0))
    (hB : Below w.heap.size w wL) (h4 : w.heap.size ≤ b4) (h4' : b4 < wL.heap.size) (h10 : w.heap.size ≤ b10) :
    TlAns s i g f w (.returned (.tuple #[.slice A n c, .int .i64 (e : Int), .int .i64 0])) (wx.setCell ⟨b4, 0, none⟩ (.slice A n c)) ∧ Below w.heap.size w (wx.setCell ⟨b4, 0, none⟩ (.slice A n c)) := by
  refine ⟨.inl ⟨L, e, _, by rw [ht, hr], rfl, ?_⟩, (h.but.set4 0 _).below hB h4 h10 hB.size⟩
  exact own_setCell_far (own_lower h.own hB.size) (fun e => by have := (World.ownsRow.lt h.own _ e).1; dsimp only at this; omega) _
set_option maxHeartbeats 6400000 in
set_option maxRecDepth 100000 in
theorem tail_yes (s : ByteArray) (i g f : Nat) (w : World) (hs : s.size ≤ 1000000) (h : 1 ≤ i ∧ i ≤ 999999 ∧ 1 ≤ g ∧ g ≤ 999999 ∧ 1 ≤ f ∧ f ≤ 1000000000) (hp : preB s (hdrB i g f) = true) :
    Calls Tryz.prog 6 #[.string s, .agg #[.int .i64 (i : Int), .int .i64 (g : Int), .int .i64 (f : Int)]] w fun e w' => TlAns s i g f w e w' ∧ Below w.heap.size w w' := by
  have mixed : Tryz.prog.follows .mixedOrders = true := by kernel_rfl
  have HT := Lib.hid (tl_yes h hp)
  have hse := pre_size hp
  have HBG := Lib.hid (fun wx => begun_ok s i g f wx h hp)
  simp only [if_true] at HBG
  obtain ⟨e0, he0⟩ : ∃ e0, (hdrB i g f).size = e0 := ⟨_, rfl⟩
  rw [he0] at HT hse HBG
  have HSC := Lib.hid (fun wx => scan_any s e0 wx hs (by omega))
  have HFL := Lib.hid (frs_len s e0 hs)
  have HW := Lib.hid ((ext_alloc w (.cells #[.int .i64 (i : Int), .int .i64 (g : Int), .int .i64 (f : Int)] 23)).trans ((ext_alloc _ (.cells #[.slice none 0 0] 25)).mono (by simp)))
  have hv : Var ((w.alloc (.cells #[.int .i64 (i : Int), .int .i64 (g : Int), .int .i64 (f : Int)] 23)).alloc (.cells #[.slice none 0 0] 25)) (w.heap.size + 1) 25 (.slice none 0 0) := by
    have := Var.new (w.alloc (.cells #[.int .i64 (i : Int), .int .i64 (g : Int), .int .i64 (f : Int)] 23)) 25 (.slice none 0 0)
    rwa [show (w.alloc (.cells #[.int .i64 (i : Int), .int .i64 (g : Int), .int .i64 (f : Int)] 23)).heap.size = w.heap.size + 1 by simp] at this
  have HV := Lib.hid hv
  have HH := Lib.hid (show Blk ((w.alloc (.cells #[.int .i64 (i : Int), .int .i64 (g : Int), .int .i64 (f : Int)] 23)).alloc (.cells #[.slice none 0 0] 25)) w.heap.size #[.int .i64 (i : Int), .int .i64 (g : Int), .int .i64 (f : Int)] 23 from Blk.alloc (Blk.new w _ _) _)
  clear hv hp he0
  go_enter Tryz.func6, Tryz.ntmps6
  go_wp2_with fail
  go_step3
  go_wp2_with fail
  generalize (w.alloc (.cells #[.int .i64 (i : Int), .int .i64 (g : Int), .int .i64 (f : Int)] 23)).alloc (.cells #[.slice none 0 0] 25) = w0 at *
  refine (HBG.out _).mono ?_
  rintro e1 w1 ⟨rfl, hb1⟩
  have HV1 := Lib.hid (HV.out.below hb1 HV.out.lt)
  have HH1 := Lib.hid (HH.out.ext hb1)
  have HB1 := Lib.hid (HW.out.trans (hb1.mono HW.out.size))
  clear hb1 HV HH HW
  go_wp2_with fail
  refine (HSC.out w1).mono ?_
  rintro e2 w2 ⟨⟨v2, rfl, hown2⟩, hb2⟩
  obtain ⟨AF, cF, rfl, -, -⟩ := own_slice hown2
  have HRF := Lib.hid (Rd.of_own hown2)
  have hob := World.ownsRow.lt hown2
  have HOB := Lib.hid (show ∀ ad, AF = some ad → ad.block ≠ w.heap.size + 1 ∧ ad.block ≠ w2.heap.size from fun ad e => by
    have h1 := hob ad.block (by rw [e]; rfl)
    have h2 := HV1.out.lt
    omega)
  have HV2 := Lib.hid ((HV1.out.below hb2 HV1.out.lt).alloc (.cells #[.int .i64 0] 3))
  have HH2 := Lib.hid ((HH1.out.ext hb2).alloc (.cells #[.int .i64 0] 3))
  have HL2 := Lib.hid (Var.new w2 3 (.int .i64 0))
  have HB2 := Lib.hid (HB1.out.trans (hb2.mono HB1.out.size))
  have HB3 := Lib.hid (HB2.out.trans ((ext_alloc w2 (.cells #[.int .i64 0] 3)).mono HB2.out.size))
  have HS3 := Lib.hid (show w2.heap.size ≤ (w2.alloc (.cells #[.int .i64 0] 3)).heap.size by simp)
  have HS4 := Lib.hid (show w.heap.size ≤ w2.heap.size from HB2.out.size)
  have hnF := HFL.out
  obtain ⟨nF, hnF2⟩ : ∃ nF, (frs s e0).length = nF := ⟨_, rfl⟩
  rw [hnF2] at HRF hnF ⊢
  have HNF := Lib.hid hnF2
  have HBB := Lib.hid (show w.heap.size + 1 < w2.heap.size from Nat.lt_of_lt_of_le HV1.out.lt hb2.size)
  clear hb2 hown2 hob hnF2 HV1 HH1 HFL
  go_wp2_with fail
  go_step3
  go_wp2_with fail
  have HRL := Lib.hid (HRF.out.alloc (Nat.le_refl _) (.cells #[.int .i64 0] 3))
  generalize w2.alloc (.cells #[.int .i64 0] 3) = wL at *
  generalize w2.heap.size = b10 at *
  have HQ := Lib.hid (show w.heap.size ≤ w.heap.size + 1 ∧ w.heap.size + 1 < wL.heap.size from ⟨Nat.le_succ _, HV2.out.lt⟩)
  have HLT := Lib.hid (show w.heap.size < w.heap.size + 1 from Nat.lt_succ_self _)
  have HQ10 := Lib.hid (show b10 < wL.heap.size from HL2.out.lt)
  generalize w.heap.size + 1 = b4 at *
  clear HRF HB2
  go_loopw [5, 35] (fun s5 s35 wr => ∃ (k e : Nat) (L : List Mt) (A : Option Addr) (n c : Nat), s35 = .int .i64 (k : Int) ∧ s5 = .int .i64 (e : Int) ∧ k ≤ nF ∧ Hid (Lp w wL wr b4 w.heap.size b10 i g f f e0 s A n c e k L)) (fun _ v _ => nF - (intOf v).toNat)
  case atStart => exact ⟨0, e0, [], none, 0, 0, by go_num, rfl, by omega, Lib.hid ⟨St_nil _ _, rfl, rfl, HV2.out, ownM_nil _ _, HH2.out, HL2.out, But2.refl _ _ _⟩⟩
  case round =>
    obtain ⟨k, e, L, A, n, c, rfl, rfl, hk, HX⟩ := hrel
    by_cases hkn : k < nF
    · obtain ⟨hg, hx, hdr⟩ := HX.out.next (by rw [HNF.out]; exact hkn)
      obtain ⟨ad, hA, -, c0, c1, c2, c3⟩ := fr_at HRL.out hx HX.out.but HS3.out HOB.out
      have hgt := GF_to hg
      have hbs : (fbody s e).size ≤ 1000000 := by unfold fbody; rw [ByteArray.size_extract]; omega
      have HME := Lib.hid (fun wx => meta_any (by4 s.data.toList e) (fbody s e) e (fto s e) wx hbs (by omega) (by omega))
      have HDE := Lib.hid (fun wx => Decode_any (fbody s e) wx hbs)
      have HFR := Lib.hid (show fr s e = (by4 s.data.toList e, fbody s e, e, fto s e) from rfl)
      have HNX := Lib.hid (And.intro hg (And.intro hdr (fun m => (good_iff f L (fr s e) m).2)))
      have HGN := Lib.hid (fun m => (good_iff f L (fr s e) m).1)
      rw [HFR.out] at HNX HGN
      unfold fr at c0 c1 c2 c3
      dsimp only at c0 c1 c2 c3
      subst hA
      have HAL := Lib.hid (ext_alloc wr (.cells #[.int .i64 (by4 s.data.toList e : Int), .string (fbody s e), .int .i64 (e : Int), .int .i64 (fto s e : Int)] 59))
      have HW1 := Lib.hid (HX.out.ext HAL.out)
      have HF1 := Lib.hid (show Fb (wr.alloc (.cells #[.int .i64 (by4 s.data.toList e : Int), .string (fbody s e), .int .i64 (e : Int), .int .i64 (fto s e : Int)] 59)) wr.heap.size (by4 s.data.toList e) (fbody s e) e (fto s e) from heap_alloc_new wr _)
      have HOW := Lib.hid (show ∀ k, (Value.slice A n c).ownBlock = some k → wL.heap.size ≤ k ∧ k < wr.heap.size from World.ownsRow.lt HX.out.own)
      have HBT := Lib.hid (show wL.heap.size ≤ wr.heap.size from HX.out.but.size)
      have HST := Lib.hid (show (GF s e → good f L (fr s e) = none) → Sn.rn f s [] e0 = (L, e) from HX.out.stop)
      rw [HFR.out] at HST
      generalize by4 s.data.toList e = K at *
      generalize fbody s e = BD at *
      generalize hTO : fto s e = T at *
      have HTO := Lib.hid hTO
      clear hTO
      clear hg hx hdr hgt hbs HX
      go_upto_block 1 with (fail)
      go_cut [5] from 36 to 67 (fun s5 wx => s5 = .int .i64 (T : Int) ∧ ∃ (L' : List Mt) (A' : Option Addr) (n' c' : Nat), Hid (Lp w wL wx b4 w.heap.size b10 i g f f e0 s A' n' c' T (k + 1) L'))
      case rest =>
        obtain ⟨rfl, L', A', n', c', HP⟩ := hcut
        clear HME HDE HFR HNX HGN c0 c1 c2 c3 HAL HW1 HF1 HOW HBT HST HTO
        go_wp2_with fail
        go_roundw
        case rel => exact ⟨k + 1, T, L', A', n', c', by go_num, rfl, by omega, HP⟩
        case measure => simp [intOf]; omega
      go_wp2_with fail
      generalize wr.alloc (.cells #[.int .i64 (K : Int), .string BD, .int .i64 (e : Int), .int .i64 (T : Int)] 59) = wA at *
      refine (HME.out _).mono ?_
      rintro e3 w3 ⟨ha, hb3⟩
      have HW3 := Lib.hid (HW1.out.ext hb3)
      have HF3 := Lib.hid (HF1.out.below hb3 HF1.out.lt)
      have HZ3 := Lib.hid (show wr.heap.size ≤ w3.heap.size from Nat.le_trans HAL.out.size hb3.size)
      clear HW1 HF1 hb3 HME c0 c1 c2 c3
      rcases ha with ⟨m, hm, rfl⟩ | ⟨hm, rfl⟩
      · obtain ⟨ma, ms, mr, mc, mf, me, ml⟩ := m
        have HAM := Lib.hid (ext_alloc w3 (.cells #[.int .i64 (ma : Int), .int .i64 (ms : Int), .int .i64 (mr : Int), .int .i64 (mc : Int), .int .i64 (mf : Int), .int .i64 (me : Int), .int .i64 (ml : Int)] 38))
        have HW4 := Lib.hid (HW3.out.ext HAM.out)
        have HF4 := Lib.hid (HF3.out.below HAM.out HF3.out.lt)
        have HM4 := Lib.hid (show Mb (w3.alloc (.cells #[.int .i64 (ma : Int), .int .i64 (ms : Int), .int .i64 (mr : Int), .int .i64 (mc : Int), .int .i64 (mf : Int), .int .i64 (me : Int), .int .i64 (ml : Int)] 38)) w3.heap.size ma ms mr mc mf me ml from heap_alloc_new w3 _)
        have HGO := Lib.hid (fun wx hk => goes_any ⟨ma, ms, mr, mc, mf, me, ml⟩ b4 w.heap.size b10 i g f f A n c L wx rfl HW3.out.ok hk)
        have HMM := Lib.hid hm
        unfold mv magg at HGO
        dsimp only at HGO
        unfold mv magg
        rcases hgo : goesB f L ⟨ma, ms, mr, mc, mf, me, ml⟩ with _ | _
        · rw [hgo] at HGO
          have HRN := Lib.hid (HST.out (fun _ => by
            rcases hgd : good f L (K, BD, e, T) with _ | m
            · rfl
            · obtain ⟨h1, h2, -⟩ := HGN.out m hgd
              rw [HMM.out] at h1
              obtain rfl := Option.some.inj h1
              rw [hgo] at h2; cases h2))
          have c0 := HM4.out.c0
          have c1 := HM4.out.c1
          have c2 := HM4.out.c2
          have c3 := HM4.out.c3
          have c4 := HM4.out.c4
          have c5 := HM4.out.c5
          have c6 := HM4.out.c6
          clear HW3 HF3 hm hgo HST HGN HNX
          go_wp2_with fail
          generalize w3.alloc (.cells #[.int .i64 (ma : Int), .int .i64 (ms : Int), .int .i64 (mr : Int), .int .i64 (mc : Int), .int .i64 (mf : Int), .int .i64 (me : Int), .int .i64 (ml : Int)] 38) = w4 at *
          refine (HGO.out _ HW4.out.kp.1).mono ?_
          rintro e5 w5 ⟨rfl, hb5⟩
          have HW := Lib.hid (HW4.out.ext hb5)
          clear hb5 c0 c1 c2 c3 c4 c5 c6
          have HF := Lib.hid (HW.out.fin HRN.out HT.out HB3.out HQ.out.1 HQ.out.2 HS4.out)
          have hc := HW.out.row.cell
          have hf := HW.out.row.frozen
          have hc2 := (HW.out.row.set_ (.slice A n c)).cell
          clear HW
          go_wp2_with fail
          try rw [Exit.noGoto_ret]
          refine bodyPost_ret (v := .tuple #[.slice A n c, .int .i64 (e : Int), .int .i64 0]) (by simp [results, go_sem, hc2]) rfl ?_
          exact HF.out
        · rw [hgo] at HGO
          have HGG := Lib.hid hgo
          clear HW3 HF3 hm hgo
          go_wp2_with fail
          generalize w3.alloc (.cells #[.int .i64 (ma : Int), .int .i64 (ms : Int), .int .i64 (mr : Int), .int .i64 (mc : Int), .int .i64 (mf : Int), .int .i64 (me : Int), .int .i64 (ml : Int)] 38) = w4 at *
          refine (HGO.out _ HW4.out.kp.1).mono ?_
          rintro e5 w5 ⟨rfl, hb5⟩
          have HW5 := Lib.hid (HW4.out.ext hb5)
          have HF5 := Lib.hid (HF4.out.below hb5 HF4.out.lt)
          have HM5 := Lib.hid (HM4.out.below hb5 HM4.out.lt)
          have c1 := HF5.out.c1
          clear hb5 HW4 HF4 HM4
          go_wp2_with fail
          refine (HDE.out _).mono ?_
          rintro e6 w6 ⟨hd, hb6⟩
          have HW6 := Lib.hid (HW5.out.ext hb6)
          have HF6 := Lib.hid (HF5.out.below hb6 HF5.out.lt)
          have HM6 := Lib.hid (HM5.out.below hb6 HM5.out.lt)
          clear hb6 HW5 HF5 HM5 c1
          rcases hd with ⟨l6, v6, hd, rfl, -⟩ | ⟨hd, x, rfl, hx⟩
          · have h0 := HW6.out
            have x4 := h0.row.cell
            have x4f := h0.row.frozen
            have x10 := h0.lt.cell
            have x10f := h0.lt.frozen
            have c0 := HM6.out.c0
            have c1 := HM6.out.c1
            have c2 := HM6.out.c2
            have c3 := HM6.out.c3
            have c4 := HM6.out.c4
            have c5 := HM6.out.c5
            have c6 := HM6.out.c6
            have d3 := HF6.out.c3
            have HLN := Lib.hid (show L.length ≤ 1000000 by have := h0.st.2.1; omega)
            have hgen := Lib.hid h0.own
            have HBS := Lib.hid h0.but.size
            have H7 := Lib.hid (show ∀ w7, w6.grownBy w7 (Value.slice A n c).ownBlock → Var w7 b4 25 (.slice A n c) ∧ Var w7 b10 3 (.int .i64 (lateM L : Int)) ∧ Fb w7 wr.heap.size K BD e T ∧ Mb w7 w3.heap.size ma ms mr mc mf me ml from fun w7 hg =>
              ⟨h0.row.grown hg (fun e => by have := HOW.out _ e; have := HQ.out.2; omega), h0.lt.grown hg (fun e => by have := HOW.out _ e; have := HQ10.out; omega), HF6.out.grown hg (fun e => by have := HOW.out _ e; omega), (hg.block w3.heap.size HM6.out.lt (fun e => by have := HOW.out _ e.symm; have := HZ3.out; omega)).trans HM6.out⟩)
            have hn1 : ¬ b4 = b10 := Nat.ne_of_lt HBB.out
            have hn2 : ¬ b10 = b4 := fun e => hn1 e.symm
            have l4 := h0.row.lt
            have l10 := h0.lt.lt
            have lf := HF6.out.lt
            have lm := HM6.out.lt
            have HDD := Lib.hid (show dec BD.data.toList = some l6 from hd)
            clear h0 hd
            have HFIN := Lib.hid (show ∀ w7 g7 cap, w6.grownBy w7 (Value.slice A n c).ownBlock → OwnM w7 wL.heap.size (.slice (some ⟨g7, 0, none⟩) (L.length + 1) cap) (L ++ [⟨ma, ms, mr, mc, mf, me, ml⟩]) →
              Lp w wL ((w7.setCell ⟨b4, 0, none⟩ (.slice (some ⟨g7, 0, none⟩) (L.length + 1) cap)).setCell ⟨b10, 0, none⟩ (.int .i64 (ml : Int))) b4 w.heap.size b10 i g f f e0 s (some ⟨g7, 0, none⟩) (L.length + 1) cap T (k + 1) (L ++ [⟨ma, ms, mr, mc, mf, me, ml⟩]) from fun w7 g7 cap hg hown => by
                obtain ⟨f4, f10, -, -⟩ := H7.out w7 hg
                have hgd := HNX.out.2.2 ⟨ma, ms, mr, mc, mf, me, ml⟩ ⟨HMM.out, HGG.out, l6, HDD.out⟩
                obtain ⟨hg1, hg2, -⟩ := HNX.out
                have hob := World.ownsRow.lt hown
                refine ⟨?_, ?_, hg2, ((f4.set_ _).far hn1 _), ?_, ?_, ?_, ?_⟩
                · have := St_step HW6.out.st hg1 (by rw [HFR.out]; exact hgd)
                  rwa [HTO.out] at this
                · rw [← HW6.out.rr, ← HTO.out]; exact (rn_step hg1 (by rw [HFR.out]; exact hgd)).symm
                · exact own_setCell_far (own_setCell_far hown (fun e => by have := (hob _ e).1; have := HQ.out.2; dsimp only at *; omega) _) (fun e => by have := (hob _ e).1; have := HQ10.out; dsimp only at *; omega) _
                · have h1 := hg.block w.heap.size (Array.getElem?_eq_some_iff.1 HW6.out.hd).1 (fun e => by have := (HOW.out _ e.symm).1; have := HB3.out.size; have := HQ.out.1; have := HQ.out.2; omega)
                  exact (Below.heap_setCell _ ⟨b10, 0, none⟩ _ _ (by have := HLT.out; have := HBB.out; dsimp only; omega)).trans ((Below.heap_setCell _ ⟨b4, 0, none⟩ _ _ (by have := HLT.out; dsimp only; omega)).trans (h1.trans HW6.out.hd))
                · rw [lateM_snoc]; exact (f10.far hn2 _).set_ _
                · exact ((HW6.out.but.grown hg (fun q e => (HOW.out q e).1)).set4 0 _).set10 0 _)
            have hLe : n = L.length := HW6.out.kp.2
            clear HW6 HF6 HM6 HNX HGN HST HMM HGG HGO HDE hLe HT HB1 HB3 HS3 HS4 HQ HQ10 HLT HBB HRL HOB HNF hs h hse HV2 HH2 HL2 HFR HTO HOW HBT HAL HZ3 HAM HDD HSC HBG hnF
            go_wp2_with fail
            go_region_law (refine step_append7 (.tmp 60) (.tmp 62) ⟨ma, ms, mr, mc, mf, me, ml⟩ rfl rfl hgen.out HLN.out HBS.out (by simp [Act.eval]) (by simp [Act.eval]) ?_; intro g7 cap w7 hown7 hg7 hat7; have h7 := H7.out w7 hg7; have y4 := h7.1.cell; have y4f := h7.1.frozen; have y10 := h7.2.1.cell; have y10f := h7.2.1.frozen; have z3 := h7.2.2.1.c3; have z6 := h7.2.2.2.c6)
            all_goals
              have HP := Lib.hid (HFIN.out w7 g7 cap hg7 hown7)
              clear h7 y4 y4f y10 y10f z3 z6 hown7 hg7 hat7 x4 x4f x10 x10f c0 c1 c2 c3 c4 c5 c6 d3 HFIN H7
              go_wp2_with fail
              go_meet
              case rel => exact ⟨rfl, _, _, _, _, HP⟩
          · have HRN := Lib.hid (HST.out (fun _ => by
              rcases hgd : good f L (K, BD, e, T) with _ | m
              · rfl
              · obtain ⟨-, -, r, h3⟩ := HGN.out m hgd
                have h4 : dec BD.data.toList = some r := h3
                rw [hd] at h4; cases h4))
            have HW := HW6
            clear HW6 hd
            have HF := Lib.hid (HW.out.fin HRN.out HT.out HB3.out HQ.out.1 HQ.out.2 HS4.out)
            have hc := HW.out.row.cell
            have hf := HW.out.row.frozen
            have hc2 := (HW.out.row.set_ (.slice A n c)).cell
            clear HW
            go_wp2_with fail
            try rw [Exit.noGoto_ret]
            refine bodyPost_ret (v := .tuple #[.slice A n c, .int .i64 (e : Int), .int .i64 0]) (by simp [results, go_sem, hc2]) rfl ?_
            exact HF.out
      · have HRN := Lib.hid (HST.out (fun _ => by
          rcases hgd : good f L (K, BD, e, T) with _ | m
          · rfl
          · have := (HGN.out m hgd).1
            rw [hm] at this; cases this))
        have HW := Lib.hid (HW3.out.ext (ext_alloc w3 (.cells #[.int .i64 0, .int .i64 0, .int .i64 0, .int .i64 0, .int .i64 0, .int .i64 0, .int .i64 0] 38)))
        clear HW3 HF3 hm HST HGN HNX
        unfold magg
        have HF := Lib.hid (HW.out.fin HRN.out HT.out HB3.out HQ.out.1 HQ.out.2 HS4.out)
        have hc := HW.out.row.cell
        have hf := HW.out.row.frozen
        have hc2 := (HW.out.row.set_ (.slice A n c)).cell
        clear HW
        go_wp2_with fail
        try rw [Exit.noGoto_ret]
        refine bodyPost_ret (v := .tuple #[.slice A n c, .int .i64 (e : Int), .int .i64 0]) (by simp [results, go_sem, hc2]) rfl ?_
        exact HF.out
    · have HRN := Lib.hid (HX.out.done (by rw [HNF.out]; exact hkn))
      have HW := HX
      clear HX
      have HF := Lib.hid (HW.out.fin HRN.out HT.out HB3.out HQ.out.1 HQ.out.2 HS4.out)
      have hc := HW.out.row.cell
      have hf := HW.out.row.frozen
      have hc2 := (HW.out.row.set_ (.slice A n c)).cell
      clear HW
      go_wp2_with fail
      try rw [Exit.noGoto_ret]
      refine bodyPost_ret (v := .tuple #[.slice A n c, .int .i64 (e : Int), .int .i64 0]) (by simp [results, go_sem, hc2]) rfl ?_
      exact HF.out
end Sn
end Go.Proofs.YtpbphhpldlckbaaGreat
namespace Go.Proofs.YtpbphhpldlckbaaGreat
open Go.RowKit
section
variable {ops : Array Oper} {rest : List Oper} {o : Oper} {a : Act} {Q : Exit → Act → World → Prop}
theorem cell_lit_new (w : World) (t : TypeId) (l : List Value) (j : Nat) (u : Value) (h : l[j]? = some u) : (w.alloc (.cells l.toArray t)).cell? ((⟨w.heap.size, 0, none⟩ : Addr).add j) = some u := by
  rw [Addr.add_lit, Nat.zero_add, World.cell?_alloc_new]
  simpa using h
/-- 'append(s, y0, y1, ..)' onto a slice of the call's own. -/
theorem appendL {s x : Operand} {B g m : Nat} {v : Value} {l : List Int} {w0 : World} (ys : List Int) (hgw : w0.heap.size = g) (hm : ys.length = m) (hown : Own w0 B v l) (hl : l.length ≤ 1099511627776) (hy : ys.length ≤ 1000) (hp : 0 < ys.length) (hB : B ≤ w0.heap.size)
    (h : ∀ A' n' c' w', Hid (n' = l.length + ys.length) → Own w' B (.slice A' n' c') (l ++ ys) → Below B w0 w' → w0.grownBy w' v.ownBlock → (Value.ownBlock (.slice A' n' c') = v.ownBlock ∨ ∃ g, Value.ownBlock (.slice A' n' c') = some g ∧ w0.heap.size ≤ g) → wpList Tryz.prog ops Q rest (a.put o.dst (.slice A' n' c')) w')
    (hgd : o.guard = none := by exact rfl) (ho : o.op = .call { callee := .builtin .append, args := #[s, x], argTypes := #[67, 67] } := by exact rfl)
    (hs : a.eval s = v := by exact rfl) (hx : a.eval x = .slice (some ⟨g, 0, none⟩) m m := by exact rfl) :
    wpList Tryz.prog ops Q (o :: rest) a (w0.alloc (.cells (ys.map (Value.int .i64)).toArray 3)) := by
  subst hgw hm
  obtain ⟨i0, hi, hz0, hz1, hz2⟩ := info_parts int_info
  refine wpList_append_own_at _ hgd s x 67 ho B 3 i0 (.int .i64 0) 1 8 Tryz.underlying67 hi hz0 hz1 hz2 rfl (by omega) v l.length (l.map (Value.int .i64)) hs (hown.alloc _)
    ⟨w0.heap.size, 0, none⟩ ys.length ys.length (ys.map (Value.int .i64)) hx (by simp) (fun j u hu => cell_lit_new w0 _ _ j u hu) (by intro u hu; rw [List.mem_map] at hu; obtain ⟨y, -, rfl⟩ := hu; rfl) (by simp only [maxLen]; omega) (by omega) (by simp; omega) ?_
  intro v' w' hown' hg _ hat
  have hg0 : w0.grownBy w' v.ownBlock := (World.grownBy_alloc w0 _ v.ownBlock).trans hg
  have hlt := World.ownsRow.lt hown
  obtain ⟨A', c', rfl, _, _⟩ := own_slice hown'
  refine h A' _ c' w' rfl (by unfold Own; simpa using hown') ((Below.refl _ _).grown hg0 hB (fun k hk => (hlt k hk).1)) hg0 ?_
  rcases hat with e | e
  · exact .inl e
  · exact .inr ⟨_, e, by simp⟩
end
end Go.Proofs.YtpbphhpldlckbaaGreat
namespace Go.Proofs.YtpbphhpldlckbaaGreat
namespace Sn
open Go.RowKit Hd Bk Vi Rd

/-- A footer's numbers; its bytes. -/
def nums (m : Mt) : List Nat := [m.a, m.s, m.r, m.c, m.f, m.e, m.l - m.e]
def ftN (l : List Mt) : List Nat := l.length :: l.flatMap nums
def ftB (l : List Mt) : ByteArray := ⟨((ftN l).flatMap putV).toArray⟩
def ints (l : List Nat) : List Int := l.map fun (n : Nat) => (n : Int)
theorem ints_nv (l : List Nat) : (ints l).map (Value.int .i64) = nv l := by unfold ints nv; rw [List.map_map]; rfl
theorem ints_append (a b : List Nat) : ints (a ++ b) = ints a ++ ints b := List.map_append ..
theorem length_ints (l : List Nat) : (ints l).length = l.length := List.length_map ..
theorem length_nums : ∀ (l : List Mt), (l.flatMap nums).length = l.length * 7
  | [] => rfl
  | m :: l => by rw [List.flatMap_cons, List.length_append, length_nums l, List.length_cons]; show 7 + _ = _; omega
theorem nums_take (l : List Mt) (k : Nat) (m : Mt) (h : l[k]? = some m) : (l.take (k + 1)).flatMap nums = (l.take k).flatMap nums ++ nums m := by
  rw [List.take_add_one, h, List.flatMap_append]; simp

set_option maxHeartbeats 6400000 in
set_option maxRecDepth 100000 in
theorem foot_any (A : Option Addr) (n c : Nat) (l : List Mt) (w : World) (hrd : Rd w w.heap.size 7 A n (fl7 l)) (hn : n ≤ 100000) (ho : okBl l = true) :
    Calls Tryz.prog 15 #[.slice A n c] w fun e w' => e = .returned (.tuple #[.string (ftB l), .int .i64 0]) ∧ Below w.heap.size w w' := by
  have mixed : Tryz.prog.follows .mixedOrders = true := by kernel_rfl
  have hln := mt_len hrd
  have hbl := blocks_any A n c l w hrd (by omega)
  rw [blE_yes ho] at hbl
  have HBL := Lib.hid hbl
  obtain ⟨hl0, hrow⟩ := okBl_row ho
  have HOK := Lib.hid (rowM_mem l none hrow)
  have hn1 : n ≤ 1000 := by omega
  have HLN := Lib.hid hln
  have HR := Lib.hid hrd
  clear hbl hrd hln hl0 hrow ho
  go_enter Tryz.func15, Tryz.ntmps15
  go_wp2_with fail
  refine HBL.out.mono ?_
  rintro e1 w1 ⟨rfl, hb1⟩
  have HB1 := Lib.hid hb1
  have HW := Lib.hid (World.ownsRow_lit (base := w.heap.size) (e := 3) (size := 1) w1 #[.int .i64 (n : Int)] 1 hb1.size (by simp [maxLen]) rfl)
  have HB2 := Lib.hid (hb1.trans ((ext_alloc w1 (.cells #[.int .i64 (n : Int)] 3)).mono hb1.size))
  clear hb1 HBL
  go_wp2_with fail
  go_loopw [5, 18] (fun s5 s18 wr => ∃ (k : Nat) (A1 : Option Addr) (n1 c1 : Nat), s18 = .int .i64 (k : Int) ∧ s5 = .slice A1 n1 c1 ∧ k ≤ n ∧ Hid (Own wr w.heap.size (.slice A1 n1 c1) (ints (n :: (l.take k).flatMap nums)) ∧ Below w.heap.size w wr)) (fun _ v _ => n - (intOf v).toNat)
  case atStart => exact ⟨0, _, _, _, by go_num, rfl, by omega, Lib.hid ⟨HW.out, HB2.out⟩⟩
  case round =>
    obtain ⟨k, A5, n5, c5, rfl, rfl, hk, HX⟩ := hrel
    by_cases hkn : k < n
    · obtain ⟨ad, m, hA, hbk, hx, hc0, hc1, hc2, hc3, hc4, hc5, hc6⟩ := mt_at (HR.out.below HX.out.2) hkn
      have hok := (okM_iff m).1 (HOK.out m (List.mem_of_getElem? hx))
      have HNT := Lib.hid (nums_take l k m hx)
      obtain ⟨ma, ms, mr, mc, mf, me, ml⟩ := m
      dsimp only at hok
      obtain ⟨d, hd⟩ : ∃ d, ml - me = d := ⟨_, rfl⟩
      have hs : IntKind.i64.wrap ((ml : Int) - (me : Int)) = (d : Int) := by rw [IntKind.wrap_i64]; omega
      have HD := Lib.hid (show nums ⟨ma, ms, mr, mc, mf, me, ml⟩ = [ma, ms, mr, mc, mf, me, d] by unfold nums; rw [hd])
      have hown : Own (wr.alloc (.cells #[.int .i64 (ma : Int), .int .i64 (ms : Int), .int .i64 (mr : Int), .int .i64 (mc : Int), .int .i64 (mf : Int), .int .i64 (me : Int), .int .i64 (ml : Int)] 38)) w.heap.size (.slice A5 n5 c5) (ints (n :: (l.take k).flatMap nums)) := HX.out.1.below (ext_alloc wr _) (Nat.le_refl _)
      have HO := Lib.hid hown
      have HLE := Lib.hid (show (ints (n :: (l.take k).flatMap nums)).length ≤ 1099511627776 by rw [length_ints, List.length_cons, length_nums, List.length_take]; omega)
      have HB3 := Lib.hid (HX.out.2.trans ((ext_alloc wr (.cells #[.int .i64 (ma : Int), .int .i64 (ms : Int), .int .i64 (mr : Int), .int .i64 (mc : Int), .int .i64 (mf : Int), .int .i64 (me : Int), .int .i64 (ml : Int)] 38)).mono HX.out.2.size))
      subst hA
      clear hown hx hd hok HX hbk
      go_wp2_with (at_builtin; go_loud (refine appendL (g := wr.heap.size + 1) [ma, ms, mr, mc, mf, me, d] (by simp) rfl HO.out HLE.out (by simp) (by simp) HB3.out.size ?_; intro A1 n1 c1 w3 hn1 hown1 hb1 hg1 hat1))
      have HF := Lib.hid (show ints (n :: (l.take (k + 1)).flatMap nums) = ints (n :: (l.take k).flatMap nums) ++ [(ma : Int), (ms : Int), (mr : Int), (mc : Int), (mf : Int), (me : Int), (d : Int)] by
        rw [HNT.out, HD.out, ← List.cons_append, ints_append]; rfl)
      go_roundw
      case rel => exact ⟨k + 1, A1, n1, c1, by go_num, rfl, by omega, Lib.hid ⟨by rw [HF.out]; exact hown1, HB3.out.trans hb1⟩⟩
      case measure => simp [intOf]; omega
    · obtain rfl : k = n := by omega
      have h9 := HX.out
      rw [List.take_of_length_le (by rw [HLN.out]; omega)] at h9
      have hrd : Rd wr wr.heap.size 1 A5 n5 (nv (ftN l)) := by
        obtain ⟨h, h2⟩ := h9.1.rd0
        rw [← h2, ints_nv, show k :: l.flatMap nums = ftN l by unfold ftN; rw [HLN.out]] at h
        exact h
      have hn5 : n5 ≤ 7001 := by
        obtain ⟨-, h2⟩ := h9.1.rd0
        rw [length_ints, List.length_cons, length_nums, HLN.out] at h2
        omega
      have hall : ∀ x ∈ ftN l, x < 9223372036854775808 := by
        intro x hx
        unfold ftN at hx
        rcases List.mem_cons.1 hx with rfl | hx
        · rw [HLN.out]; omega
        · obtain ⟨m, hm, hx⟩ := List.mem_flatMap.1 hx
          have := (okM_iff m).1 (HOK.out m hm)
          simp only [nums, List.mem_cons, List.not_mem_nil, or_false] at hx
          omega
      have HN := Lib.hid (numbers_any A5 n5 c5 (ftN l) wr hrd (by omega) hall)
      have HB2 := Lib.hid h9.2
      clear h9 HX hrd hall hn5
      go_wp2_with fail
      refine HN.out.mono ?_
      rintro e5 w5 ⟨rfl, hb5⟩
      have HB5 := Lib.hid (HB2.out.trans (hb5.mono HB2.out.size))
      clear hb5
      go_wp2_with fail
      go_ret2
      exact ⟨rfl, HB5.out⟩
end Sn
end Go.Proofs.YtpbphhpldlckbaaGreat
namespace Go.Proofs.YtpbphhpldlckbaaGreat
namespace Sn
open Go.RowKit Hd Fm Bk Rd

/-- A block stands where its Meta says. -/
def Stands (s : ByteArray) (m : Mt) (R : List (Int × Int × ByteArray)) : Prop := GF s m.a ∧ metaF (fr s m.a) = some m ∧ dec (fbody s m.a).data.toList = some R
theorem get_yes (s : ByteArray) (p : Nat) (w : World) (hs : s.size ≤ 1000000) (hp : p ≤ 2000000) (h : GF s p) :
    Calls Tryz.prog 33 #[.string s, .int .i64 (p : Int)] w fun e w' => e = .returned (.tuple #[fagg (by4 s.data.toList p) (fbody s p) p (fto s p), .int .i64 0]) ∧ Below w.heap.size w w' := by
  refine (Get_any s p w hs hp).mono ?_
  rintro e w' ⟨⟨-, rfl⟩ | ⟨hn, -⟩, hb⟩
  · exact ⟨rfl, hb⟩
  · exact absurd h hn
theorem meta_yes (k : Nat) (b : ByteArray) (p t : Nat) (m : Mt) (w : World) (hb : b.size ≤ 1000000) (hp : p ≤ t) (ht : t ≤ 1000000000) (h : metaF (k, b, p, t) = some m) :
    Calls Tryz.prog 21 #[fagg k b p t] w fun e w' => e = .returned (.tuple #[mv m, .bool true]) ∧ Below w.heap.size w w' := by
  refine (meta_any k b p t w hb hp ht).mono ?_
  rintro e w' ⟨⟨m', h', rfl⟩ | ⟨h', -⟩, hb⟩
  · rw [h] at h'; cases h'; exact ⟨rfl, hb⟩
  · rw [h] at h'; cases h'
theorem dec_own (s : ByteArray) (l : List (Int × Int × ByteArray)) (w : World) (hs : s.size ≤ 1000000) (h : dec s.data.toList = some l) :
    Calls Tryz.prog 22 #[.string s] w fun e w' => (∃ v, e = .returned (.tuple #[v, .int .i64 0]) ∧ Own3 w' w.heap.size v l) ∧ Below w.heap.size w w' := by
  refine (Decode_any s w hs).mono ?_
  rintro e w' ⟨⟨l', v, hl, rfl, hown⟩ | ⟨hl, -⟩, hb⟩
  · rw [h] at hl; cases hl; exact ⟨⟨v, rfl, hown⟩, hb⟩
  · rw [h] at hl; cases hl
set_option maxHeartbeats 6400000 in
set_option maxRecDepth 100000 in
theorem load_ok (s : ByteArray) (m : Mt) (R : List (Int × Int × ByteArray)) (w : World) (hs : s.size ≤ 1000000) (h : Stands s m R) :
    Calls Tryz.prog 16 #[.string s, mv m] w fun e w' => (∃ v, e = .returned (.tuple #[v, .int .i64 0]) ∧ Own3 w' w.heap.size v R) ∧ Below w.heap.size w w' := by
  have mixed : Tryz.prog.follows .mixedOrders = true := by kernel_rfl
  obtain ⟨hg, hm, hd⟩ := h
  have hgt := GF_to hg
  obtain ⟨k2, ka, ks, -⟩ := metaF_some hm
  have hbs : (fbody s m.a).size ≤ 1000000 := by unfold fbody; rw [ByteArray.size_extract]; omega
  have HGE := Lib.hid (fun w => get_yes s m.a w hs (by omega) hg)
  have HME := Lib.hid (fun w => meta_yes _ _ _ _ m w hbs (by omega) (by omega) hm)
  have HDE := Lib.hid (fun w => dec_own (fbody s m.a) R w hbs hd)
  have hk : by4 s.data.toList m.a = 2 := k2
  have hsz : m.s = fto s m.a - m.a := ks
  have hs2 : IntKind.i64.wrap ((fto s m.a : Int) - (m.a : Int)) = (m.s : Int) := by rw [IntKind.wrap_i64]; omega
  have HB := Lib.hid (ext_alloc w (.cells #[.int .i64 m.a, .int .i64 m.s, .int .i64 m.r, .int .i64 m.c, .int .i64 m.f, .int .i64 m.e, .int .i64 m.l] 38))
  have HM := Lib.hid (show Mb (w.alloc (.cells #[.int .i64 m.a, .int .i64 m.s, .int .i64 m.r, .int .i64 m.c, .int .i64 m.f, .int .i64 m.e, .int .i64 m.l] 38)) w.heap.size m.a m.s m.r m.c m.f m.e m.l from heap_alloc_new w _)
  rw [hk] at HGE
  unfold mv magg fagg at HME
  rw [hk] at HME
  unfold fagg at HGE
  generalize fto s m.a = T at *
  generalize fbody s m.a = BD at *
  obtain ⟨ma, ms, mr, mc, mf, me, ml⟩ := m
  dsimp only at *
  unfold mv magg
  dsimp only
  clear hg hm hd k2 ka ks hk hsz hgt
  go_enter Tryz.func16, Tryz.ntmps16
  go_wp2_with fail
  have a0 := HM.out.c0
  generalize w.alloc (.cells #[.int .i64 ma, .int .i64 ms, .int .i64 mr, .int .i64 mc, .int .i64 mf, .int .i64 me, .int .i64 ml] 38) = w0 at *
  go_wp2_with fail
  refine (HGE.out _).mono ?_
  rintro e1 w1 ⟨rfl, hb1⟩
  have HB1 := Lib.hid (HB.out.trans (hb1.mono HB.out.size))
  have HM1 := Lib.hid (HM.out.below hb1 HM.out.lt)
  have HB2 := Lib.hid (HB1.out.trans ((ext_alloc w1 (.cells #[.int .i64 2, .string BD, .int .i64 ma, .int .i64 T] 59)).mono HB1.out.size))
  have HM2 := Lib.hid (HM1.out.below (ext_alloc w1 (.cells #[.int .i64 2, .string BD, .int .i64 ma, .int .i64 T] 59)) HM1.out.lt)
  have HF2 := Lib.hid (show Fb (w1.alloc (.cells #[.int .i64 2, .string BD, .int .i64 ma, .int .i64 T] 59)) w1.heap.size 2 BD ma T from heap_alloc_new w1 _)
  clear hb1 a0
  go_upto_region 2 with (fail)
  generalize w1.alloc (.cells #[.int .i64 2, .string BD, .int .i64 ma, .int .i64 T] 59) = w2 at *
  have q0 := HF2.out.c0
  have q1 := HF2.out.c1
  have q2 := HF2.out.c2
  have q3 := HF2.out.c3
  have a1 := HM2.out.c1
  go_wp2_with fail
  refine (HDE.out _).mono ?_
  rintro e3 w3 ⟨⟨v3, rfl, hown3⟩, hb3⟩
  have HF3 := Lib.hid (HF2.out.below hb3 HF2.out.lt)
  have HM3 := Lib.hid (HM2.out.below hb3 HM2.out.lt)
  have HB3 := Lib.hid (HB2.out.trans (hb3.mono HB2.out.size))
  have HO3 := Lib.hid hown3
  have HZ := Lib.hid HB2.out.size
  clear hb3 q0 q1 q2 q3 a1 hown3
  have q0 := HF3.out.c0
  have q1 := HF3.out.c1
  have q2 := HF3.out.c2
  have q3 := HF3.out.c3
  go_wp2_with fail
  refine (HME.out _).mono ?_
  rintro e4 w4 ⟨rfl, hb4⟩
  have HM4 := Lib.hid ((HM3.out.below hb4 HM3.out.lt).below (ext_alloc w4 (.cells #[.int .i64 ma, .int .i64 ms, .int .i64 mr, .int .i64 mc, .int .i64 mf, .int .i64 me, .int .i64 ml] 38)) (Nat.lt_of_lt_of_le HM3.out.lt hb4.size))
  have HB4 := Lib.hid ((HB3.out.trans (hb4.mono HB3.out.size)).trans ((ext_alloc w4 (.cells #[.int .i64 ma, .int .i64 ms, .int .i64 mr, .int .i64 mc, .int .i64 mf, .int .i64 me, .int .i64 ml] 38)).mono (Nat.le_trans HB3.out.size hb4.size)))
  have HO4 := Lib.hid ((HO3.out.below hb4 (Nat.le_refl _)).below (ext_alloc w4 (.cells #[.int .i64 ma, .int .i64 ms, .int .i64 mr, .int .i64 mc, .int .i64 mf, .int .i64 me, .int .i64 ml] 38)) (Nat.le_refl _))
  have HN4 := Lib.hid (show Mb (w4.alloc (.cells #[.int .i64 ma, .int .i64 ms, .int .i64 mr, .int .i64 mc, .int .i64 mf, .int .i64 me, .int .i64 ml] 38)) w4.heap.size ma ms mr mc mf me ml from heap_alloc_new w4 _)
  clear hb4 q0 q1 q2 q3
  go_upto_region 10 with (fail)
  generalize w4.alloc (.cells #[.int .i64 ma, .int .i64 ms, .int .i64 mr, .int .i64 mc, .int .i64 mf, .int .i64 me, .int .i64 ml] 38) = w5 at *
  have q0 := HM4.out.c0
  have q1 := HM4.out.c1
  have q2 := HM4.out.c2
  have q3 := HM4.out.c3
  have q4 := HM4.out.c4
  have q5 := HM4.out.c5
  have q6 := HM4.out.c6
  have r0 := HN4.out.c0
  have r1 := HN4.out.c1
  have r2 := HN4.out.c2
  have r3 := HN4.out.c3
  have r4 := HN4.out.c4
  have r5 := HN4.out.c5
  have r6 := HN4.out.c6
  go_wp2_with fail
  go_ret2
  exact ⟨⟨v3, rfl, HO4.out.lower HZ.out⟩, HB4.out⟩
end Sn
end Go.Proofs.YtpbphhpldlckbaaGreat
namespace Go.Proofs.YtpbphhpldlckbaaGreat
namespace Sn
open Go.RowKit Hd Fm Bk

theorem tail_any (s : ByteArray) (i g f : Int) (w : World) (hs : s.size ≤ 1000000) :
    Calls Tryz.prog 6 #[.string s, .agg #[.int .i64 i, .int .i64 g, .int .i64 f]] w fun e w' => TlAns s i g f w e w' ∧ Below w.heap.size w w' := by
  by_cases h : okH i g f = true ∧ preB s (hdrB i.toNat g.toNat f.toNat) = true
  · obtain ⟨h1, h2⟩ := h
    have hh : 1 ≤ i ∧ i ≤ 999999 ∧ 1 ≤ g ∧ g ≤ 999999 ∧ 1 ≤ f ∧ f ≤ 1000000000 := by simpa [okH] using h1
    obtain ⟨i', rfl⟩ : ∃ n : Nat, i = n := ⟨i.toNat, by omega⟩
    obtain ⟨g', rfl⟩ : ∃ n : Nat, g = n := ⟨g.toNat, by omega⟩
    obtain ⟨f', rfl⟩ : ∃ n : Nat, f = n := ⟨f.toNat, by omega⟩
    exact tail_yes s i' g' f' w hs (by omega) (by simpa using h2)
  · exact tail_no s i g f w (by unfold tl; rw [if_neg h])
theorem tl_some {s : ByteArray} {i g f : Int} {L : List Mt} {E : Nat} (h : tl s i g f = some (L, E)) :
    ∃ f' e0 : Nat, f = f' ∧ 1 ≤ f' ∧ f' ≤ 1000000000 ∧ e0 = (hdrB i.toNat g.toNat f.toNat).size ∧ e0 ≤ s.size ∧ Sn.rn f' s [] e0 = (L, E) ∧ St e0 s L E ∧ RowSt f' s L ∧ E ≤ s.size ∧ okBl L = true := by
  unfold tl at h
  split at h
  · rename_i hc
    obtain ⟨h1, h2⟩ := hc
    have hh : 1 ≤ i ∧ i ≤ 999999 ∧ 1 ≤ g ∧ g ≤ 999999 ∧ 1 ≤ f ∧ f ≤ 1000000000 := by simpa [okH] using h1
    have hr := Option.some.inj h
    have hz := pre_size h2
    have s1 := St_rn f.toNat _ s [] _ (St_nil (hdrB i.toNat g.toNat f.toNat).size s)
    have s2 := Row_rn f.toNat s [] (hdrB i.toNat g.toNat f.toNat).size (Row_nil f.toNat s)
    obtain ⟨l2, -, -, p3⟩ := rn_pre f.toNat s [] (hdrB i.toNat g.toNat f.toNat).size
    rw [hr] at s1 s2 p3
    refine ⟨f.toNat, _, by omega, by omega, by omega, rfl, hz, hr, s1, s2, p3 hz, ?_⟩
    unfold okBl
    rw [s1.1, decide_eq_true s1.2.1]; rfl
  · cases h
/-- The blocks stand where they were found. -/
theorem St_stands {e0 E : Nat} {s : ByteArray} {L : List Mt} (h : St e0 s L E) : ∀ m ∈ L, ∃ R, Stands s m R := fun m hm => by
  obtain ⟨h1, h2, R, h3⟩ := h.2.2.2.2 m hm
  exact ⟨R, h1, h2, h3⟩
/-- A sealed segment. -/
def Slx (s : ByteArray) (L : List Mt) (E : Nat) : Prop := L ≠ [] ∧ GF s E ∧ fr s E = (3, ftB L, E, s.size)
def SlAns (s : ByteArray) (i g f : Int) (w : World) (e : Ending) (w' : World) : Prop :=
  (∃ L E v, tl s i g f = some (L, E) ∧ Slx s L E ∧ e = .returned (.tuple #[v, .int .i64 0]) ∧ OwnM w' w.heap.size v L) ∨
  (∃ L E, tl s i g f = some (L, E) ∧ ¬ Slx s L E ∧ e = .returned (.tuple #[.slice none 0 0, .int .i64 211])) ∨
  (tl s i g f = none ∧ e = .returned (.tuple #[.slice none 0 0, .int .i64 210]))
set_option maxHeartbeats 6400000 in
set_option maxRecDepth 100000 in
theorem sealed_any (s : ByteArray) (i g f : Int) (w : World) (hs : s.size ≤ 1000000) :
    Calls Tryz.prog 14 #[.string s, .agg #[.int .i64 i, .int .i64 g, .int .i64 f]] w fun e w' => SlAns s i g f w e w' ∧ Below w.heap.size w w' := by
  have mixed : Tryz.prog.follows .mixedOrders = true := by kernel_rfl
  have HT := Lib.hid (fun w => tail_any s i g f w hs)
  have HB := Lib.hid (ext_alloc w (.cells #[.int .i64 i, .int .i64 g, .int .i64 f] 23))
  go_enter Tryz.func14, Tryz.ntmps14
  go_wp2_with fail
  generalize w.alloc (.cells #[.int .i64 i, .int .i64 g, .int .i64 f] 23) = w0 at *
  refine (HT.out _).mono ?_
  rintro e1 w1 ⟨ha, hb1⟩
  have HB1 := Lib.hid (HB.out.trans (hb1.mono HB.out.size))
  rcases ha with ⟨L, E, v, hl, rfl, hown⟩ | ⟨hl, rfl⟩
  · obtain ⟨f', e0, rfl, -, -, -, -, -, hst, -, hE, hok⟩ := tl_some hl
    obtain ⟨A, c, rfl, -, -, hrd⟩ := hown.rd
    have HL := Lib.hid hl
    have HRD := Lib.hid hrd
    have hlen := (okBl_row hok).1
    have HFO := Lib.hid (foot_any A L.length c L w1 hrd (by omega) hok)
    have HGE := Lib.hid (fun w => Get_any s E w hs (by omega))
    have HOW := Lib.hid (hown.lower HB.out.size)
    obtain ⟨n, hn⟩ : ∃ n, L.length = n := ⟨_, rfl⟩
    rw [hn] at HFO HOW ⊢
    have HN := Lib.hid hn
    clear hb1 hl hown hrd hst hok hn hlen
    go_wp2_with fail
    refine HFO.out.mono ?_
    rintro e2 w2 ⟨rfl, hb2⟩
    have HB2 := Lib.hid (HB1.out.trans (hb2.mono HB1.out.size))
    have HO2 := Lib.hid (HOW.out.below hb2 (Nat.le_refl _))
    clear hb2 HFO HOW
    go_wp2_with fail
    refine (HGE.out _).mono ?_
    rintro e3 w3 ⟨ha3, hb3⟩
    have HB3 := Lib.hid (HB2.out.trans (hb3.mono HB2.out.size))
    rcases ha3 with ⟨hg, rfl⟩ | ⟨hg, x, hx, rfl⟩
    · have HFR := Lib.hid (show fr s E = (by4 s.data.toList E, fbody s E, E, fto s E) from rfl)
      have HG := Lib.hid hg
      generalize by4 s.data.toList E = K at *
      generalize fbody s E = BD at *
      generalize fto s E = T at *
      have HB4 := Lib.hid (HB3.out.trans ((ext_alloc w3 (.cells #[.int .i64 K, .string BD, .int .i64 E, .int .i64 T] 59)).mono HB3.out.size))
      have HO4 := Lib.hid ((HO2.out.below hb3 (Nat.le_refl _)).below (ext_alloc w3 (.cells #[.int .i64 K, .string BD, .int .i64 E, .int .i64 T] 59)) (Nat.le_refl _))
      have HF4 := Lib.hid (show Fb (w3.alloc (.cells #[.int .i64 K, .string BD, .int .i64 E, .int .i64 T] 59)) w3.heap.size K BD E T from heap_alloc_new w3 _)
      clear hb3 hg
      unfold fagg
      by_cases hn0 : n = 0
      · subst hn0
        have HNO := Lib.hid (show ¬ Slx s L E from fun h2 => h2.1 (List.length_eq_zero_iff.1 HN.out))
        go_wp2_with fail
        go_ret2
        exact ⟨.inr (.inl ⟨L, E, HL.out, HNO.out, rfl⟩), HB4.out⟩
      · go_upto_region 6 with (fail)
        generalize w3.alloc (.cells #[.int .i64 K, .string BD, .int .i64 E, .int .i64 T] 59) = w4 at *
        have q0 := HF4.out.c0
        have q1 := HF4.out.c1
        have q3 := HF4.out.c3
        by_cases hk : K = 3
        · by_cases hbd : BD = ftB L
          · by_cases hT : T = s.size
            · have HYE := Lib.hid (show Slx s L E from ⟨fun e => hn0 (by rw [← HN.out, e]; rfl), HG.out, by rw [HFR.out, hk, hbd, hT]⟩)
              subst hk hbd hT
              have hbe := beqL (ftB L) (ftB L) (r := true) (decide_eq_true rfl)
              go_wp2_with fail
              go_ret2
              exact ⟨.inl ⟨L, E, _, HL.out, HYE.out, rfl, HO4.out⟩, HB4.out⟩
            · subst hk hbd
              have hT1 : (T == s.size) = false := by rw [beq_eq_false_iff_ne]; exact hT
              have hT2 : (T != s.size) = true := by rw [bne_iff_ne]; exact hT
              have hT3 : ((T : Int) != (s.size : Int)) = true := by rw [bne_iff_ne]; omega
              have hT4 : ((T : Int) == (s.size : Int)) = false := by rw [beq_eq_false_iff_ne]; omega
              have hT5 : ¬ ((T : Int) = (s.size : Int)) := by omega
              have hbe := beqL (ftB L) (ftB L) (r := true) (decide_eq_true rfl)
              have HNO := Lib.hid (show ¬ Slx s L E from fun h2 => hT (by have := congrArg (fun x : Fr => x.2.2.2) (HFR.out.symm.trans h2.2.2); exact this))
              go_wp2_with fail
              go_ret2
              exact ⟨.inr (.inl ⟨L, E, HL.out, HNO.out, rfl⟩), HB4.out⟩
          · subst hk
            have hbe := beqL BD (ftB L) (r := false) (decide_eq_false hbd)
            have HNO := Lib.hid (show ¬ Slx s L E from fun h2 => hbd (by have := congrArg (fun x : Fr => x.2.1) (HFR.out.symm.trans h2.2.2); exact this))
            clear hbd
            go_wp2_with fail
            go_ret2
            exact ⟨.inr (.inl ⟨L, E, HL.out, HNO.out, rfl⟩), HB4.out⟩
        · skip
          have HNO := Lib.hid (show ¬ Slx s L E from fun h2 => hk (by have := congrArg (fun x : Fr => x.1) (HFR.out.symm.trans h2.2.2); exact this))
          go_wp2_with fail
          go_ret2
          exact ⟨.inr (.inl ⟨L, E, HL.out, HNO.out, rfl⟩), HB4.out⟩
    · have HNO := Lib.hid (show ¬ Slx s L E from fun h2 => hg h2.2.1)
      have HB4 := Lib.hid (HB3.out.trans ((ext_alloc w3 (.cells #[.int .i64 0, .string ⟨#[]⟩, .int .i64 0, .int .i64 0] 59)).mono HB3.out.size))
      clear hb3 hg
      unfold fagg
      by_cases hn0 : n = 0
      · subst hn0
        go_wp2_with fail
        go_ret2
        exact ⟨.inr (.inl ⟨L, E, HL.out, HNO.out, rfl⟩), HB4.out⟩
      · go_wp2_with fail
        go_ret2
        exact ⟨.inr (.inl ⟨L, E, HL.out, HNO.out, rfl⟩), HB4.out⟩
  · have HNO := Lib.hid hl
    clear hb1 hl
    go_wp2_with fail
    go_ret2
    exact ⟨.inr (.inr ⟨HNO.out, rfl⟩), HB1.out⟩
end Sn
end Go.Proofs.YtpbphhpldlckbaaGreat
namespace Go.Proofs.YtpbphhpldlckbaaGreat
namespace Sn
open Go.RowKit Hd Fm Bk

theorem tail_some {s : ByteArray} {i g f : Int} {L : List Mt} {E : Nat} (h : tl s i g f = some (L, E)) (w : World) (hs : s.size ≤ 1000000) :
    Calls Tryz.prog 6 #[.string s, .agg #[.int .i64 i, .int .i64 g, .int .i64 f]] w fun e w' => (∃ A c, e = .returned (.tuple #[.slice A L.length c, .int .i64 (E : Int), .int .i64 0]) ∧ L.length ≤ c ∧ Rd w' w'.heap.size 7 A L.length (fl7 L)) ∧ Below w.heap.size w w' := by
  refine (tail_any s i g f w hs).mono ?_
  rintro e w' ⟨⟨L', E', v, hl, rfl, hown⟩ | ⟨hl, -⟩, hb⟩
  · rw [h] at hl; cases hl
    obtain ⟨A, c, rfl, hc, -, hr⟩ := hown.rd
    exact ⟨⟨A, c, rfl, hc, hr⟩, hb⟩
  · rw [h] at hl; cases hl
theorem tail_none {s : ByteArray} {i g f : Int} (h : tl s i g f = none) (w : World) (hs : s.size ≤ 1000000) :
    Calls Tryz.prog 6 #[.string s, .agg #[.int .i64 i, .int .i64 g, .int .i64 f]] w fun e w' => e = .returned (.tuple #[.slice none 0 0, .int .i64 0, .int .i64 210]) ∧ Below w.heap.size w w' := by
  refine (tail_any s i g f w hs).mono ?_
  rintro e w' ⟨⟨L', E', v, hl, -⟩ | ⟨-, rfl⟩, hb⟩
  · rw [h] at hl; cases hl
  · exact ⟨rfl, hb⟩
theorem size_cut {s : ByteArray} {c : Nat} (hc : c ≤ s.size) : (s.extract 0 c).size = c := by rw [ByteArray.size_extract]; omega
theorem pre_cut {s p : ByteArray} {c : Nat} (hc : c ≤ s.size) : preB (s.extract 0 c) p = true ↔ preB s p = true ∧ p.size ≤ c := by
  constructor
  · intro h
    have h1 := pre_size h
    rw [size_cut hc] at h1
    refine ⟨?_, h1⟩
    rw [preB_iff] at h ⊢
    rw [(agree_cut s c hc).extract h1]; exact h
  · rintro ⟨h, h1⟩
    rw [preB_iff] at h ⊢
    rw [← (agree_cut s c hc).extract h1]; exact h
theorem cut_none {s : ByteArray} {i g f : Int} {c : Nat} (h : tl s i g f = none) (hc : c ≤ s.size) : tl (s.extract 0 c) i g f = none := by
  unfold tl at h ⊢
  split at h
  · cases h
  · rename_i hn
    rw [if_neg]
    rintro ⟨h1, h2⟩
    exact hn ⟨h1, ((pre_cut hc).1 h2).1⟩
theorem cut_some {s : ByteArray} {i g f : Int} {c : Nat} {L : List Mt} {E : Nat} (h : tl s i g f = some (L, E)) (hc : c ≤ s.size) :
    (tl (s.extract 0 c) i g f = none ∧ c < E) ∨ ∃ L' E' l2, tl (s.extract 0 c) i g f = some (L', E') ∧ L = L' ++ l2 ∧ E' ≤ E ∧ E' ≤ c ∧ (E ≤ c → l2 = [] ∧ E' = E) := by
  unfold tl at h
  split at h
  · rename_i hk
    have hr := Option.some.inj h
    by_cases hz : (hdrB i.toNat g.toNat f.toNat).size ≤ c
    · right
      have ha := agree_cut s c hc
      have ha2 : Agree s (s.extract 0 c) (s.extract 0 c).size := by rw [size_cut hc]; exact ha
      obtain ⟨⟨l2, c1⟩, c2, c3⟩ := rn_cut f.toNat s (s.extract 0 c) ha2 [] (hdrB i.toNat g.toNat f.toNat).size (by rw [size_cut hc]; exact hz)
      rw [hr] at c1 c2
      rw [size_cut hc] at c3
      refine ⟨_, _, l2, by unfold tl; rw [if_pos ⟨hk.1, (pre_cut hc).2 ⟨hk.2, hz⟩⟩], c1, c2, c3, fun hE => ?_⟩
      have ht := rn_to f.toNat s (s.extract 0 c) c ha [] (hdrB i.toNat g.toNat f.toNat).size (by rw [hr]; exact hE)
      rw [hr] at ht
      obtain ⟨l3, p1, p2, -⟩ := rn_pre f.toNat (s.extract 0 c) L E
      rw [ht] at c1 c2
      have e1 : L.length = (L ++ l3).length + l2.length := by
        have := congrArg List.length c1
        rw [p1, List.length_append] at this
        exact this
      rw [List.length_append] at e1
      refine ⟨List.length_eq_zero_iff.1 (by omega), ?_⟩
      rw [ht]
      exact Nat.le_antisymm c2 p2
    · left
      refine ⟨?_, ?_⟩
      · unfold tl
        rw [if_neg]
        rintro ⟨-, h2⟩
        exact hz ((pre_cut hc).1 h2).2
      · obtain ⟨l2, -, p2, -⟩ := rn_pre f.toNat s [] (hdrB i.toNat g.toNat f.toNat).size
        rw [hr] at p2
        dsimp only at p2
        omega
  · cases h
theorem cut_end {s : ByteArray} {i g f : Int} {L : List Mt} {E : Nat} (h : tl s i g f = some (L, E)) : E ≤ s.size ∧ L.length ≤ 1000 ∧ tl (s.extract 0 E) i g f = some (L, E) := by
  obtain ⟨_, _, -, -, -, -, -, -, -, -, hE, hok⟩ := tl_some h
  refine ⟨hE, (okBl_row hok).1, ?_⟩
  rcases cut_some h hE with ⟨-, h2⟩ | ⟨L', E', l2, h1, h2, -, -, h5⟩
  · omega
  · obtain ⟨rfl, rfl⟩ := h5 (Nat.le_refl _)
    rw [h1, h2, List.append_nil]
end Sn
end Go.Proofs.YtpbphhpldlckbaaGreat
namespace Go.Proofs.YtpbphhpldlckbaaGreat
namespace Sn
open Go.RowKit Hd Fm Bk Rd

section
variable {ops : Array Oper} {rest : List Oper} {o : Oper} {a : Act} {Q : Exit → Act → World → Prop}
/-- 'append(s, more..)' onto a slice of the call's own: some records. -/
theorem append3All {s x : Operand} {B m c : Nat} {A : Option Addr} {v : Value} {l k : List (Int × Int × ByteArray)} {w0 : World} (hown : Own3 w0 B v l) (hrd : Rd w0 w0.heap.size 3 A m (fl3 k)) (hm : 0 < m) (hl : l.length + m ≤ 1099511627776) (hB : B ≤ w0.heap.size)
    (h : ∀ A' n' c' w', Own3 w' B (.slice A' n' c') (l ++ k) → Below B w0 w' → wpList Tryz.prog ops Q rest (a.put o.dst (.slice A' n' c')) w')
    (hgd : o.guard = none := by exact rfl) (ho : o.op = .call { callee := .builtin .append, args := #[s, x], argTypes := #[32, 32] } := by exact rfl)
    (hs : a.eval s = v := by exact rfl) (hx : a.eval x = .slice A m c := by exact rfl) :
    wpList Tryz.prog ops Q (o :: rest) a w0 := by
  obtain ⟨i0, hi, hz0, hz1, hz2⟩ := info_parts rec_info
  obtain ⟨ad, rfl, -, hc⟩ := hrd.cells hm
  have hk := rd3_len hrd
  refine wpList_append_own_at _ hgd s x 32 ho B 40 i0 (.agg #[.int .i64 0, .int .i64 0, .string ⟨#[]⟩]) 3 32 Tryz.underlying32 hi hz0 hz1 hz2 rfl (by omega) v l.length (fl3 l) hs hown
    ad m c (fl3 k) hx hrd.len hc (fl3_one k) (by simp only [maxLen]; omega) (by omega) (by omega) ?_
  intro v' w' hown' hg _ hat
  have hlt := World.ownsRow.lt hown
  obtain ⟨A', c', rfl, _, _⟩ := own_slice hown'
  refine h A' _ c' w' (by unfold Own3; rw [List.length_append, fl3_append, hk]; exact hown') ((Below.refl _ _).grown hg hB (fun k hk => (hlt k hk).1))
end
theorem recs_take (s : ByteArray) (l : List Mt) (k : Nat) (m : Mt) (R : List (Int × Int × ByteArray)) (h : l[k]? = some m) (hd : dec (fbody s m.a).data.toList = some R) : recs s (l.take (k + 1)) = recs s (l.take k) ++ R := by
  rw [List.take_add_one, h]
  show recs s (l.take k ++ [m]) = _
  rw [recs_snoc, hd]; rfl
theorem recs_len (s : ByteArray) : ∀ (l : List Mt), (recs s l).length ≤ l.length * 6667
  | [] => Nat.zero_le _
  | m :: l => by
    have h := recs_len s l
    show ((dec (fbody s m.a).data.toList).getD [] ++ recs s l).length ≤ _
    rw [List.length_append, List.length_cons]
    rcases hd : dec (fbody s m.a).data.toList with _ | R
    · rw [Option.getD_none, List.length_nil]; omega
    · have h1 : R.length ≤ 6667 := by
        obtain ⟨d1, d2⟩ := dec_some hd
        exact (ends d1 d2).2.2.2.2.2
      rw [Option.getD_some]; omega
set_option maxHeartbeats 6400000 in
set_option maxRecDepth 100000 in
theorem records_ok (s : ByteArray) (A : Option Addr) (n c : Nat) (l : List Mt) (w : World) (hs : s.size ≤ 1000000) (hrd : Rd w w.heap.size 7 A n (fl7 l)) (hn : n ≤ 100000) (ho : okBl l = true) (h : ∀ m ∈ l, ∃ R, Stands s m R) :
    Calls Tryz.prog 8 #[.string s, .slice A n c] w fun e w' => (∃ v, e = .returned (.tuple #[v, .int .i64 0]) ∧ Own3 w' w.heap.size v (recs s l)) ∧ Below w.heap.size w w' := by
  have mixed : Tryz.prog.follows .mixedOrders = true := by kernel_rfl
  have hln := mt_len hrd
  have hbl := blocks_any A n c l w hrd (by omega)
  rw [blE_yes ho] at hbl
  have HBL := Lib.hid hbl
  have HLN := Lib.hid hln
  have HR := Lib.hid hrd
  have HST := Lib.hid h
  clear hbl hrd hln h ho
  go_enter Tryz.func8, Tryz.ntmps8
  go_wp2_with fail
  refine HBL.out.mono ?_
  rintro e1 w1 ⟨rfl, hb1⟩
  have HB1 := Lib.hid hb1
  clear hb1 HBL
  go_wp2_with fail
  go_loopw [7, 19] (fun s7 s19 wr => ∃ (k : Nat) (A1 : Option Addr) (n1 c1 : Nat), s19 = .int .i64 (k : Int) ∧ s7 = .slice A1 n1 c1 ∧ k ≤ n ∧ Hid (Own3 wr w.heap.size (.slice A1 n1 c1) (recs s (l.take k)) ∧ Below w.heap.size w wr)) (fun _ v _ => n - (intOf v).toNat)
  case atStart => exact ⟨0, none, 0, 0, by go_num, rfl, by omega, Lib.hid ⟨own3_nil _ _, HB1.out⟩⟩
  case round =>
    obtain ⟨k, A5, n5, c5, rfl, rfl, hk, HX⟩ := hrel
    by_cases hkn : k < n
    · obtain ⟨ad, m, hA, hbk, hx, hc0, hc1, hc2, hc3, hc4, hc5, hc6⟩ := mt_at (HR.out.below HX.out.2) hkn
      obtain ⟨R, hst⟩ := HST.out m (List.mem_of_getElem? hx)
      have HLO := Lib.hid (fun w => load_ok s m R w hs hst)
      have HTK := Lib.hid (recs_take s l k m R hx hst.2.2)
      have HRL := Lib.hid (show 0 < R.length ∧ (recs s (l.take k)).length + R.length ≤ 1099511627776 by
        obtain ⟨d1, d2⟩ := dec_some hst.2.2
        have h1 := (ends d1 d2).2.2.2.2.2
        have h2 := recs_len s (l.take k)
        rw [List.length_take] at h2
        have : 0 < R.length := List.length_pos_iff.2 d2
        omega)
      have HAL := Lib.hid (ext_alloc wr (.cells #[.int .i64 m.a, .int .i64 m.s, .int .i64 m.r, .int .i64 m.c, .int .i64 m.f, .int .i64 m.e, .int .i64 m.l] 38))
      have HO1 := Lib.hid (HX.out.1.below HAL.out (Nat.le_refl _))
      have HB2 := Lib.hid (HX.out.2.trans (HAL.out.mono HX.out.2.size))
      obtain ⟨ma, ms, mr, mc, mf, me, ml⟩ := m
      unfold mv magg at HLO
      dsimp only at *
      subst hA
      clear hx HX hbk hst
      go_wp2_with fail
      generalize wr.alloc (.cells #[.int .i64 (ma : Int), .int .i64 (ms : Int), .int .i64 (mr : Int), .int .i64 (mc : Int), .int .i64 (mf : Int), .int .i64 (me : Int), .int .i64 (ml : Int)] 38) = w2 at *
      refine (HLO.out _).mono ?_
      rintro e3 w3 ⟨⟨v3, rfl, hown3⟩, hb3⟩
      obtain ⟨A3, c3, rfl, -, -, hr3⟩ := hown3.rd
      have HR3 := Lib.hid hr3
      have HO3 := Lib.hid (HO1.out.below hb3 (Nat.le_refl _))
      have HB3 := Lib.hid (HB2.out.trans (hb3.mono HB2.out.size))
      obtain ⟨m3, hm3⟩ : ∃ m3, R.length = m3 := ⟨_, rfl⟩
      rw [hm3] at HR3 HRL ⊢
      clear hb3 hown3 hr3 hm3 HLO HO1
      go_wp2_with (at_builtin; refine append3All HO3.out HR3.out HRL.out.1 HRL.out.2 HB3.out.size ?_; intro A1 n1 c1 w4 hown4 hb4)
      have HP := Lib.hid (show Own3 w4 w.heap.size (.slice A1 n1 c1) (recs s (l.take (k + 1))) ∧ Below w.heap.size w w4 from ⟨by rw [HTK.out]; exact hown4, HB3.out.trans hb4⟩)
      clear hown4 hb4
      go_roundw
      case rel => exact ⟨k + 1, A1, n1, c1, by go_num, rfl, by omega, HP⟩
      case measure => simp [intOf]; omega
    · obtain rfl : k = n := by omega
      have h9 := HX.out
      rw [List.take_of_length_le (by rw [HLN.out]; omega)] at h9
      have H9 := Lib.hid h9
      clear h9 HX
      go_wp2_with fail
      go_ret2
      exact ⟨⟨_, rfl, H9.out.1⟩, H9.out.2⟩
end Sn
end Go.Proofs.YtpbphhpldlckbaaGreat
namespace Go.Proofs.YtpbphhpldlckbaaGreat
namespace Sn
open Go.RowKit Hd Fm Bk Vi Rd

/-- Records of one time, one number behind the other. -/
def mr (q t : Nat) : List ByteArray → List (Int × Int × ByteArray)
  | [] => []
  | d :: l => ((q : Int), (t : Int), d) :: mr (q + 1) t l
theorem length_mr (q t : Nat) : ∀ l, (mr q t l).length = l.length := by
  intro l
  induction l generalizing q with
  | nil => rfl
  | cons d l ih => rw [mr, List.length_cons, List.length_cons, ih]
theorem mr_snoc (t : Nat) : ∀ (l : List ByteArray) (q : Nat) (d : ByteArray), mr q t (l ++ [d]) = mr q t l ++ [(((q + l.length : Nat) : Int), (t : Int), d)]
  | [], q, d => rfl
  | x :: l, q, d => by
    rw [List.cons_append, mr, mr_snoc t l (q + 1) d, mr, List.cons_append, List.length_cons, show q + 1 + l.length = q + (l.length + 1) by omega]
theorem mr_take (q t : Nat) (l : List ByteArray) (k : Nat) (d : ByteArray) (h : l[k]? = some d) : mr q t (l.take (k + 1)) = mr q t (l.take k) ++ [(((q + k : Nat) : Int), (t : Int), d)] := by
  have hk : k < l.length := (List.getElem?_eq_some_iff.1 h).1
  rw [List.take_add_one, h]
  show mr q t (l.take k ++ [d]) = _
  rw [mr_snoc, List.length_take, Nat.min_eq_left (by omega)]
theorem mr_first (q t : Nat) (l : List ByteArray) (h : l ≠ []) : (at3 (mr q t l) 0).1 = (q : Int) ∧ (at3 (mr q t l) 0).2.1 = (t : Int) := by
  rcases l with _ | ⟨d, l⟩
  · exact absurd rfl h
  · exact ⟨rfl, rfl⟩
theorem mr_tick (t : Nat) : ∀ (l : List ByteArray) (q k : Nat), k < l.length → (at3 (mr q t l) k).2.1 = (t : Int)
  | [], _, _, h => by simp at h
  | d :: l, q, 0, _ => rfl
  | d :: l, q, k + 1, h => by
    have := mr_tick t l (q + 1) k (by simpa using h)
    exact this
theorem mr_ne {q t : Nat} {l : List ByteArray} (h : l ≠ []) : mr q t l ≠ [] := by
  intro e
  have := length_mr q t l
  rw [e] at this
  exact h (List.length_eq_zero_iff.1 this.symm)
/-- With a block more what is found has one more. -/
theorem grow_tl {s B : ByteArray} {i g f : Int} {L : List Mt} {E T : Nat} {A : List Nat} {l : List ByteArray} (h : tl s i g f = some (L, E)) (hs : s.size ≤ 1000000) (hL : L.length < 1000) (hl : l ≠ [])
    (hB : B.data.toList = blk (mr (nextM f.toNat L) T l) A) (hT : T = lateM L) (hj : jE (mr (nextM f.toNat L) T l) = 0) (hA : Sx.Sorted (joinB (mr (nextM f.toNat L) T l)) A) :
    tl (s.extract 0 E ++ frB 2 B) i g f = some (L ++ [mtOf E B (mr (nextM f.toNat L) T l) (nextM f.toNat L) T T], E + (B.size + 9)) := by
  have h0 := h
  unfold tl at h
  split at h
  · rename_i hk
    have hr := Option.some.inj h
    have hz := pre_size hk.2
    obtain ⟨l2, -, p2, -⟩ := rn_pre f.toNat s [] (hdrB i.toNat g.toNat f.toNat).size
    rw [hr] at p2
    dsimp only at p2
    have hEs := (cut_end h0).1
    have hp : preB (s.extract 0 E ++ frB 2 B) (hdrB i.toNat g.toNat f.toNat) = true := by
      rw [preB_iff, ← (agree_app s (frB 2 B) E hEs).extract p2]
      exact (preB_iff _ _).1 hk.2
    have hne := mr_ne (q := nextM f.toNat L) (t := T) hl
    have hlen := length_mr (nextM f.toNat L) T l
    have hpos : 0 < l.length := List.length_pos_iff.2 hl
    have hm := rn_more (h1 := f.toNat) (e0 := (hdrB i.toNat g.toNat f.toNat).size) (F := nextM f.toNat L) (E := T) (L := T) (s := s) (B := B) (A := A) hs hz hB hj hne hA (mr_first _ _ _ hl).1 (mr_first _ _ _ hl).2 (mr_tick _ _ _ _ (by rw [hlen]; omega))
      (by rw [hr]; exact hL) (by rw [hr]) (by rw [hr]; exact Nat.le_of_eq hT.symm)
    rw [hr] at hm
    unfold tl
    rw [if_pos ⟨hk.1, hp⟩, hm]
  · cases h
end Sn
end Go.Proofs.YtpbphhpldlckbaaGreat
namespace Go.Proofs.YtpbphhpldlckbaaGreat
namespace Sn
open Go.RowKit Hd Fm Bk Vi Rd

def r0 : List (Int × Int × ByteArray) := [(1, 5, hi)]
def c0 : ByteArray := ⟨#[0, 5, 1, 1, 5, 0, 1, 5, 2, 104, 105]⟩
theorem put5 : putV 5 = [5] := by rw [putV_small (by omega)]; rfl
theorem joinB_r0 : joinB r0 = [1, 5, 2, 104, 105] := by
  show recB (1, 5, hi) ++ [] = _
  unfold recB
  show (putV 1 ++ (putV 5 ++ (putV 2 ++ [104, 105]))) ++ [] = _
  rw [put1, put5, put2]; rfl
theorem row_r0 : rowE none r0 = 0 := by decide
theorem jE_r0 : jE r0 = 0 := by
  unfold jE
  rw [if_neg (by rw [row_r0]; decide), if_neg (by rw [joinB_r0]; decide)]
theorem encE_r0 : encE r0 = 0 := by unfold encE; rw [if_neg (by decide)]; exact jE_r0
theorem blk_r0 (A : List Nat) : blk r0 A = c0.data.toList := by
  have h1 : isP r0 A = false := isP_short A (by rw [joinB_r0]; decide)
  have h2 : (joinB r0).length = 5 := by rw [joinB_r0]; rfl
  have h3 : hd5 r0 = [5, 1, 1, 5, 0] := by unfold hd5; rw [h2]; rfl
  unfold blk mode body
  rw [if_neg (by rw [h1]; decide), if_neg (by rw [h1]; decide), h3, joinB_r0]
  show _ :: ((putV 5 ++ (putV 1 ++ (putV 1 ++ (putV 5 ++ (putV 0 ++ []))))) ++ _) = _
  rw [put5, put1, put0]; rfl
theorem sorted_r0 : Sx.Sorted (joinB r0) [5, 0, 2, 1, 3, 4] := by rw [joinB_r0]; exact ⟨by decide, by decide⟩
/-- The header's frame; the segment's bytes. -/
def h0B : ByteArray := hdrB 1 1 1
theorem hb111 : (hb 1 1 1).size = 3 := by
  unfold hb
  rw [put1]; rfl
theorem h0B_size : h0B.size = 12 := by unfold h0B hdrB; rw [size_frB, hb111]
def s0 : ByteArray := h0B ++ frB 2 c0
theorem s0_size : s0.size = 32 := by
  unfold s0
  rw [ByteArray.size_append, size_frB, h0B_size]; rfl
def mt0 : Mt := ⟨12, 20, 5, 1, 1, 5, 5⟩
theorem rn_s0 : Sn.rn 1 s0 [] 12 = ([mt0], 32) := by
  have hr : Sn.rn 1 h0B [] 12 = ([], 12) := rn_end 1 h0B [] 12 (by rw [h0B_size]; exact Nat.le_refl _)
  have h := rn_more (h1 := 1) (e0 := 12) (F := 1) (E := 5) (L := 5) (s := h0B) (B := c0) (A := [5, 0, 2, 1, 3, 4]) (R := r0) (by rw [h0B_size]; decide) (by rw [h0B_size]; exact Nat.le_refl _) (blk_r0 _).symm jE_r0 (by decide) sorted_r0 rfl rfl rfl
    (by rw [hr]; decide) (by rw [hr]; rfl) (by rw [hr]; decide)
  rw [hr] at h
  have he : h0B.extract 0 12 = h0B := ba_ext (by rw [ext_list, List.drop_zero, Nat.sub_zero, List.take_of_length_le (by rw [size_list, h0B_size]; exact Nat.le_refl _)])
  rw [he] at h
  rw [show (frB 2 c0) = frB 2 c0 from rfl] at h
  unfold s0
  rw [h]
  unfold mtOf mt0
  rw [joinB_r0]; rfl
/-- Whatever stands behind: if it is no block that goes on. -/
theorem rn_behind (x : ByteArray) (h : GF (s0 ++ x) 32 → good 1 [mt0] (fr (s0 ++ x) 32) = none) : Sn.rn 1 (s0 ++ x) [] 12 = ([mt0], 32) := by
  have he : s0.extract 0 32 = s0 := ba_ext (by rw [ext_list, List.drop_zero, Nat.sub_zero, List.take_of_length_le (by rw [size_list, s0_size]; exact Nat.le_refl _)])
  have ha := agree_app s0 x 32 (by rw [s0_size]; exact Nat.le_refl _)
  rw [he] at ha
  have hr := rn_to 1 s0 (s0 ++ x) 32 ha [] 12 (by rw [rn_s0]; exact Nat.le_refl _)
  rw [rn_s0] at hr
  rw [hr, rn_stop h]
theorem pre_s0 (x : ByteArray) : preB (s0 ++ x) (hdrB 1 1 1) = true := by
  rw [preB_iff]
  refine ba_ext ?_
  have h12 : (hdrB 1 1 1).size = 12 := h0B_size
  rw [ext_list, List.drop_zero, Nat.sub_zero, h12]
  unfold s0
  rw [ByteArray.data_append, Array.toList_append, ByteArray.data_append, Array.toList_append, List.append_assoc, List.take_append_of_le_length (by rw [size_list, h0B_size]; exact Nat.le_refl _), List.take_of_length_le (by rw [size_list, h0B_size]; exact Nat.le_refl _)]
  rfl
theorem tl_of_rn {s : ByteArray} (hp : preB s (hdrB 1 1 1) = true) : tl s 1 1 1 = some (Sn.rn 1 s [] 12) := by
  unfold tl
  rw [if_pos ⟨by decide, hp⟩]
  have h12 : (hdrB 1 1 1).size = 12 := h0B_size
  show some (Sn.rn 1 s [] (hdrB 1 1 1).size) = _
  rw [h12]
theorem tl_x : tl (s0 ++ ⟨#[120]⟩) 1 1 1 = some ([mt0], 32) := by
  rw [tl_of_rn (pre_s0 _), rn_behind]
  intro hg
  have := GF_to hg
  have h33 : (s0 ++ (⟨#[120]⟩ : ByteArray)).size = 33 := by rw [ByteArray.size_append, s0_size]; rfl
  omega
theorem s0_nil : s0 ++ (⟨#[]⟩ : ByteArray) = s0 := ba_ext (by rw [ByteArray.data_append, Array.toList_append]; exact List.append_nil _)
theorem tl_s0 : tl s0 1 1 1 = some ([mt0], 32) := by
  have := tl_of_rn (pre_s0 ⟨#[]⟩)
  rw [s0_nil, rn_s0] at this
  exact this
theorem sl_s0 : ¬ Slx s0 [mt0] 32 := fun h => by
  have := GF_to h.2.1
  rw [s0_size] at this
  omega
theorem ft_size : (ftB [mt0]).size ≤ 60000 := by
  have h := flat_len (ftN [mt0]) (by intro x hx; simp [ftN, nums, mt0] at hx; omega)
  show (List.toArray _).size ≤ _
  rw [List.size_toArray]
  have : (ftN [mt0]).length = 8 := rfl
  omega
def s1 : ByteArray := s0 ++ frB 3 (ftB [mt0])
theorem fr_s1 : GF s1 32 ∧ fr s1 32 = (3, ftB [mt0], 32, s1.size) := by
  have h := GF_put s0 3 (ftB [mt0]) (by decide) ft_size
  rw [s0_size] at h
  refine ⟨h.1, ?_⟩
  have hz : s1.size = 32 + ((ftB [mt0]).size + 9) := by unfold s1; rw [ByteArray.size_append, size_frB, s0_size]
  rw [hz]; exact h.2
theorem tl_s1 : tl s1 1 1 1 = some ([mt0], 32) := by
  have := tl_of_rn (pre_s0 (frB 3 (ftB [mt0])))
  rw [rn_behind] at this
  · exact this
  · intro hg
    rcases hgd : good 1 [mt0] (fr (s0 ++ frB 3 (ftB [mt0])) 32) with _ | m
    · rfl
    · rw [good_iff] at hgd
      have h1 := (metaF_some hgd.1).1
      have h2 : (fr (s0 ++ frB 3 (ftB [mt0])) 32).1 = 3 := congrArg (·.1) fr_s1.2
      omega
theorem sl_s1 : Slx s1 [mt0] 32 := ⟨by decide, fr_s1.1, fr_s1.2⟩
theorem tl_nil : tl ⟨#[]⟩ 1 1 1 = none := by
  unfold tl
  rw [if_neg]
  rintro ⟨-, h⟩
  have := pre_size h
  have h12 : (hdrB 1 1 1).size = 12 := h0B_size
  have : (hdrB 1 1 1).size ≤ 0 := this
  omega
theorem dec_c0 : dec c0.data.toList = some r0 := by
  have := dec_blk jE_r0 (by decide) sorted_r0
  rwa [blk_r0] at this
theorem stands_s0 : Stands s0 mt0 r0 := by
  obtain ⟨_, _, -, -, -, -, -, -, hst, -⟩ := tl_some tl_s0
  obtain ⟨g1, g2, R, g3⟩ := hst.2.2.2.2 mt0 (by simp)
  refine ⟨g1, g2, ?_⟩
  have h := GF_put h0B 2 c0 (by decide) (by decide)
  rw [h0B_size] at h
  have hb : fbody s0 12 = c0 := congrArg (fun x : Fr => x.2.1) h.2
  show dec (fbody s0 12).data.toList = _
  rw [hb]; exact dec_c0
end Sn
end Go.Proofs.YtpbphhpldlckbaaGreat
namespace Go.Proofs.YtpbphhpldlckbaaGreat
namespace Sn
open Go.RowKit Hd Fm Bk Vi Rd

theorem add0 (a : Addr) : a.add 0 = a := by
  obtain ⟨b, o, i⟩ := a
  unfold Addr.add
  split <;> simp_all
theorem rd_r0 (w : World) : Rd (w.alloc (.cells #[.int .i64 1, .int .i64 5, .string ⟨#[104, 105]⟩] 40)) (w.alloc (.cells #[.int .i64 1, .int .i64 5, .string ⟨#[104, 105]⟩] 40)).heap.size 3 (some ⟨w.heap.size, 0, none⟩) 1 (fl3 r0) :=
  Rd.of_own (World.ownsRow_lit (base := w.heap.size) (e := 40) (size := 3) w #[.int .i64 1, .int .i64 5, .string ⟨#[104, 105]⟩] 1 (Nat.le_refl _) (by simp [maxLen]) rfl)
theorem enc_r0 (w : World) : Calls Tryz.prog 11 #[.slice (some ⟨w.heap.size, 0, none⟩) 1 1] (w.alloc (.cells #[.int .i64 1, .int .i64 5, .string ⟨#[104, 105]⟩] 40)) fun e w' => e = .returned (.tuple #[.string c0, .int .i64 0]) ∧ Below w.heap.size w w' := by
  refine (enc_dec _ 1 1 r0 _ (rd_r0 w) (by omega) encE_r0).mono ?_
  rintro e w' ⟨⟨S, arr, rfl, -, hS, -⟩, hb⟩
  have : S = c0 := ba_ext (by rw [hS, blk_r0])
  rw [this]
  exact ⟨rfl, (ext_alloc w _).trans (hb.mono (ext_alloc w _).size)⟩
theorem hput_0 (w : World) : Calls Tryz.prog 32 #[.agg #[.int .i64 1, .int .i64 1, .int .i64 1]] w fun e w' => e = .returned (.tuple #[.string (hb 1 1 1), .int .i64 0]) ∧ Below w.heap.size w w' := hput_yes 1 1 1 w (by omega)
theorem fput_1 (b : ByteArray) (w : World) (h : b.size ≤ 60000) : Calls Tryz.prog 12 #[.int .i64 1, .string b] w fun e w' => e = .returned (.tuple #[.string (frB 1 b), .int .i64 0]) ∧ Below w.heap.size w w' := put_any 1 b w (by decide) h
theorem fput_2 (b : ByteArray) (w : World) (h : b.size ≤ 60000) : Calls Tryz.prog 12 #[.int .i64 2, .string b] w fun e w' => e = .returned (.tuple #[.string (frB 2 b), .int .i64 0]) ∧ Below w.heap.size w w' := put_any 2 b w (by decide) h
theorem fput_3 (b : ByteArray) (w : World) (h : b.size ≤ 60000) : Calls Tryz.prog 12 #[.int .i64 3, .string b] w fun e w' => e = .returned (.tuple #[.string (frB 3 b), .int .i64 0]) ∧ Below w.heap.size w w' := put_any 3 b w (by decide) h
set_option maxHeartbeats 3200000 in
set_option maxRecDepth 100000 in
theorem one_any (w : World) : Calls Tryz.prog 13 #[] w fun e w' => e = .returned (.tuple #[.agg #[.int .i64 1, .int .i64 1, .int .i64 1], .string s0]) ∧ Below w.heap.size w w' := by
  have mixed : Tryz.prog.follows .mixedOrders = true := by kernel_rfl
  have HI := Lib.hid (show (Tryz.prog.info? 23).map (·.size) = some 3 by kernel_rfl)
  have HB := Lib.hid ((ext_alloc w (.cells #[.int .i64 0, .int .i64 0, .int .i64 0] 23)).trans ((ext_alloc _ (.cells #[.int .i64 1, .int .i64 1, .int .i64 1] 23)).mono (by simp)))
  have HZ := Lib.hid (show Blk ((w.alloc (.cells #[.int .i64 0, .int .i64 0, .int .i64 0] 23)).alloc (.cells #[.int .i64 1, .int .i64 1, .int .i64 1] 23)) w.heap.size #[.int .i64 0, .int .i64 0, .int .i64 0] 23 from Blk.alloc (Blk.new w _ _) _)
  have hh : Blk ((w.alloc (.cells #[.int .i64 0, .int .i64 0, .int .i64 0] 23)).alloc (.cells #[.int .i64 1, .int .i64 1, .int .i64 1] 23)) (w.heap.size + 1) #[.int .i64 1, .int .i64 1, .int .i64 1] 23 := by
    have := Blk.new (w.alloc (.cells #[.int .i64 0, .int .i64 0, .int .i64 0] 23)) #[.int .i64 1, .int .i64 1, .int .i64 1] 23
    rwa [show (w.alloc (.cells #[.int .i64 0, .int .i64 0, .int .i64 0] 23)).heap.size = w.heap.size + 1 by simp] at this
  have HH := Lib.hid hh
  have HP := Lib.hid (fun w => hput_0 w)
  have HF1 := Lib.hid (fun w => fput_1 (hb 1 1 1) w (by rw [hb111]; omega))
  have HF2 := Lib.hid (fun w => fput_2 c0 w (by decide))
  have HS0 := Lib.hid (show frB 1 (hb 1 1 1) ++ frB 2 c0 = s0 from rfl)
  have HEN := Lib.hid (fun w => enc_r0 w)
  have hov : ¬ 9223372036854775807 < (frB 1 (hb 1 1 1)).size + (frB 2 c0).size := by rw [size_frB, size_frB, hb111]; decide
  generalize c0 = C at *
  generalize hb 1 1 1 = D at *
  clear hh
  go_enter Tryz.func13, Tryz.ntmps13
  go_wp2_with fail
  generalize (w.alloc (.cells #[.int .i64 0, .int .i64 0, .int .i64 0] 23)).alloc (.cells #[.int .i64 1, .int .i64 1, .int .i64 1] 23) = w0 at *
  refine (HP.out _).mono ?_
  rintro e1 w1 ⟨rfl, hb1⟩
  have HB1 := Lib.hid (HB.out.trans (hb1.mono HB.out.size))
  have HZ1 := Lib.hid (HZ.out.ext hb1)
  have HH1 := Lib.hid (HH.out.ext hb1)
  clear hb1
  go_wp2_with fail
  refine (HF1.out _).mono ?_
  rintro e2 w2 ⟨rfl, hb2⟩
  have HB2 := Lib.hid (HB1.out.trans (hb2.mono HB1.out.size))
  have HZ2 := Lib.hid (HZ1.out.ext hb2)
  have HH2 := Lib.hid (HH1.out.ext hb2)
  clear hb2
  go_wp2_with fail
  refine (HEN.out _).mono ?_
  rintro e3 w3 ⟨rfl, hb3⟩
  have HB3 := Lib.hid (HB2.out.trans (hb3.mono HB2.out.size))
  have HZ3 := Lib.hid (HZ2.out.ext hb3)
  have HH3 := Lib.hid (HH2.out.ext hb3)
  clear hb3
  go_wp2_with fail
  refine (HF2.out _).mono ?_
  rintro e4 w4 ⟨rfl, hb4⟩
  have HB4 := Lib.hid (HB3.out.trans (hb4.mono HB3.out.size))
  have HZ4 := Lib.hid (HZ3.out.ext hb4)
  have HH4 := Lib.hid (HH3.out.ext hb4)
  clear hb4
  have HG := Lib.hid (Nat.le_succ w.heap.size)
  go_wp2_with (first | (refine wpList_load_row rfl 23 (.tmp 2) rfl (w.heap.size + 1) #[.int .i64 1, .int .i64 1, .int .i64 1] _ (by simp [go_sem, Act.eval]) HH4.out Tryz.underlying23 rfl HI.out ?_) | (refine wpList_store_row rfl 23 (.tmp 0) (.tmp 33) rfl w.heap.size #[.int .i64 1, .int .i64 1, .int .i64 1] #[.int .i64 0, .int .i64 0, .int .i64 0] (by simp [go_sem, Act.eval]) (by simp [go_sem, Act.eval]) HZ4.out HI.out rfl (by simp [Value.oneCell']) ?_))
  refine bodyPost_ret (v := .tuple #[.agg #[.int .i64 1, .int .i64 1, .int .i64 1], .string s0]) (by rw [← HS0.out]; exact results_cell2 rfl rfl rfl (HZ4.out.set #[.int .i64 1, .int .i64 1, .int .i64 1]) Tryz.underlying23 rfl HI.out) rfl ?_
  exact ⟨rfl, ext_setRow HB4.out (Nat.le_refl _) _⟩
/-- What is told of the probe. -/
theorem tail_x (w : World) : Calls Tryz.prog 6 #[.string (s0 ++ ⟨#[120]⟩), .agg #[.int .i64 1, .int .i64 1, .int .i64 1]] w fun e w' =>
    (∃ A c, e = .returned (.tuple #[.slice A 1 c, .int .i64 32, .int .i64 0]) ∧ Rd w' w'.heap.size 7 A 1 (fl7 [mt0])) ∧ Below w.heap.size w w' := by
  refine (tail_any _ 1 1 1 w (by rw [ByteArray.size_append, s0_size]; decide)).mono ?_
  rintro e w' ⟨⟨L, E, v, hl, rfl, hown⟩ | ⟨hl, -⟩, hb⟩
  · rw [tl_x] at hl; cases hl
    obtain ⟨A, c, rfl, -, -, hr⟩ := hown.rd
    exact ⟨⟨A, c, rfl, hr⟩, hb⟩
  · rw [tl_x] at hl; cases hl
theorem sealed_0 (w : World) : Calls Tryz.prog 14 #[.string s0, .agg #[.int .i64 1, .int .i64 1, .int .i64 1]] w fun e w' =>
    e = .returned (.tuple #[.slice none 0 0, .int .i64 211]) ∧ Below w.heap.size w w' := by
  refine (sealed_any s0 1 1 1 w (by rw [s0_size]; decide)).mono ?_
  rintro e w' ⟨⟨L, E, v, hl, hx, -⟩ | ⟨L, E, hl, hx, rfl⟩ | ⟨hl, -⟩, hb⟩
  · rw [tl_s0] at hl; cases hl; exact absurd hx sl_s0
  · exact ⟨rfl, hb⟩
  · rw [tl_s0] at hl; cases hl
theorem s1_size : s1.size ≤ 70000 := by
  have := ft_size
  unfold s1; rw [ByteArray.size_append, size_frB, s0_size]; omega
theorem sealed_1 (w : World) : Calls Tryz.prog 14 #[.string s1, .agg #[.int .i64 1, .int .i64 1, .int .i64 1]] w fun e w' =>
    (∃ A c, e = .returned (.tuple #[.slice A 1 c, .int .i64 0])) ∧ Below w.heap.size w w' := by
  refine (sealed_any s1 1 1 1 w (by have := s1_size; omega)).mono ?_
  rintro e w' ⟨⟨L, E, v, hl, hx, rfl, hown⟩ | ⟨L, E, hl, hx, rfl⟩ | ⟨hl, -⟩, hb⟩
  · rw [tl_s1] at hl; cases hl
    obtain ⟨A, c, rfl, -, -, -⟩ := hown.rd
    exact ⟨⟨A, c, rfl⟩, hb⟩
  · rw [tl_s1] at hl; cases hl; exact absurd sl_s1 hx
  · rw [tl_s1] at hl; cases hl
theorem tail_e (w : World) : Calls Tryz.prog 6 #[.string ⟨#[]⟩, .agg #[.int .i64 1, .int .i64 1, .int .i64 1]] w fun e w' =>
    e = .returned (.tuple #[.slice none 0 0, .int .i64 0, .int .i64 210]) ∧ Below w.heap.size w w' := by
  refine (tail_any ⟨#[]⟩ 1 1 1 w (by decide)).mono ?_
  rintro e w' ⟨⟨L, E, v, hl, -⟩ | ⟨-, rfl⟩, hb⟩
  · rw [tl_nil] at hl; cases hl
  · exact ⟨rfl, hb⟩
theorem load_0 (w : World) : Calls Tryz.prog 16 #[.string s0, magg 12 20 5 1 1 5 5] w fun e w' =>
    (∃ A c, e = .returned (.tuple #[.slice A 1 c, .int .i64 0]) ∧ Rd w' w'.heap.size 3 A 1 (fl3 r0)) ∧ Below w.heap.size w w' := by
  refine (load_ok s0 mt0 r0 w (by rw [s0_size]; decide) stands_s0).mono ?_
  rintro e w' ⟨⟨v, rfl, hown⟩, hb⟩
  obtain ⟨A, c, rfl, -, -, hr⟩ := hown.rd
  exact ⟨⟨A, c, rfl, hr⟩, hb⟩
end Sn
end Go.Proofs.YtpbphhpldlckbaaGreat
namespace Go.Proofs.YtpbphhpldlckbaaGreat
namespace Sn
open Go.RowKit Hd Fm Bk Vi Rd

set_option maxHeartbeats 6400000 in
set_option maxRecDepth 100000 in
theorem sawake_any (w : World) : Calls Tryz.prog 5 #[] w fun e w' => e = .returned (.bool true) ∧ Below w.heap.size w w' := by
  have mixed : Tryz.prog.follows .mixedOrders = true := by kernel_rfl
  have HONE := Lib.hid (one_any w)
  have HTX := Lib.hid (fun w => tail_x w)
  have HS0 := Lib.hid (fun w => sealed_0 w)
  have HS1 := Lib.hid (fun w => sealed_1 w)
  have HTE := Lib.hid (fun w => tail_e w)
  have HLD := Lib.hid (fun w => load_0 w)
  unfold magg at HLD
  have HFT := Lib.hid (fun A c w hr => foot_any A 1 c [mt0] w hr (by omega) (by decide))
  have HP3 := Lib.hid (fun w => fput_3 (ftB [mt0]) w ft_size)
  have H1 := Lib.hid (show s0 ++ frB 3 (ftB [mt0]) = s1 from rfl)
  have hov1 : ¬ 9223372036854775807 < s0.size + 1 := by rw [s0_size]; decide
  have hov2 : ¬ 9223372036854775807 < s0.size + (frB 3 (ftB [mt0])).size := by
    have := ft_size
    rw [s0_size, size_frB]; omega
  have hz : s0.size = 32 := s0_size
  generalize frB 3 (ftB [mt0]) = U at *
  generalize ftB [mt0] = T at *
  generalize s1 = S1 at *
  generalize s0 = S0 at *
  go_enter Tryz.func5, Tryz.ntmps5
  go_wp2_with fail
  refine HONE.out.mono ?_
  rintro e1 w1 ⟨rfl, hb1⟩
  have HB1 := Lib.hid (hb1.trans ((ext_alloc w1 (.cells #[.int .i64 1, .int .i64 1, .int .i64 1] 23)).mono hb1.size))
  have HH1 := Lib.hid (Blk.new w1 #[.int .i64 1, .int .i64 1, .int .i64 1] 23)
  clear hb1 HONE
  go_upto_region 2 with (fail)
  generalize w1.alloc (.cells #[.int .i64 1, .int .i64 1, .int .i64 1] 23) = w2 at *
  have k0 := HH1.out.cell 0 rfl
  have k1 := HH1.out.cell 1 rfl
  have k2 := HH1.out.cell 2 rfl
  go_wp2_with fail
  refine (HTX.out _).mono ?_
  rintro e3 w3 ⟨⟨A, c, rfl, hr3⟩, hb3⟩
  have HB3 := Lib.hid (HB1.out.trans (hb3.mono HB1.out.size))
  have HH3 := Lib.hid (HH1.out.ext hb3)
  have HR3 := Lib.hid hr3
  clear hb3 hr3 k0 k1 k2 HTX
  have k0 := HH3.out.cell 0 rfl
  have k1 := HH3.out.cell 1 rfl
  have k2 := HH3.out.cell 2 rfl
  go_wp2_with fail
  refine (HS0.out _).mono ?_
  rintro e4 w4 ⟨rfl, hb4⟩
  have HB4 := Lib.hid (HB3.out.trans (hb4.mono HB3.out.size))
  have HH4 := Lib.hid (HH3.out.ext hb4)
  have HR4 := Lib.hid (HR3.out.ext hb4)
  clear hb4 k0 k1 k2 HS0
  go_wp2_with fail
  refine (HFT.out A c _ HR4.out).mono ?_
  rintro e5 w5 ⟨rfl, hb5⟩
  have HB5 := Lib.hid (HB4.out.trans (hb5.mono HB4.out.size))
  have HH5 := Lib.hid (HH4.out.ext hb5)
  have HR5 := Lib.hid (HR4.out.ext hb5)
  clear hb5 HFT
  go_wp2_with fail
  refine (HP3.out _).mono ?_
  rintro e6 w6 ⟨rfl, hb6⟩
  have HB6 := Lib.hid (HB5.out.trans (hb6.mono HB5.out.size))
  have HH6 := Lib.hid (HH5.out.ext hb6)
  have HR6 := Lib.hid (HR5.out.ext hb6)
  clear hb6 HP3
  have k0 := HH6.out.cell 0 rfl
  have k1 := HH6.out.cell 1 rfl
  have k2 := HH6.out.cell 2 rfl
  go_wp2_with fail
  rw [H1.out]
  refine (HS1.out _).mono ?_
  rintro e7 w7 ⟨⟨A7, c7, rfl⟩, hb7⟩
  have HB7 := Lib.hid (HB6.out.trans (hb7.mono HB6.out.size))
  have HH7 := Lib.hid (HH6.out.ext hb7)
  have HR7 := Lib.hid (HR6.out.ext hb7)
  clear hb7 HS1 k0 k1 k2
  obtain ⟨ad, m, hA, hbk, hx, c0, c1, c2, c3, c4, c5, c6⟩ := mt_at (k := 0) HR7.out (by omega)
  obtain rfl : mt0 = m := Option.some.inj hx
  rw [Nat.zero_mul, add0] at c0 c1 c2 c3 c4 c5 c6
  subst hA
  have HC7 := Lib.hid (And.intro c0 (And.intro c1 (And.intro c2 (And.intro c3 (And.intro c4 (And.intro c5 (And.intro c6 hbk)))))))
  unfold mt0 at c0 c1 c2 c3 c4 c5 c6 HC7
  dsimp only at c0 c1 c2 c3 c4 c5 c6 HC7
  clear hx hbk
  go_wp2_with fail
  refine (HLD.out _).mono ?_
  rintro e8 w8 ⟨⟨A8, c8, rfl, hr8⟩, hb8⟩
  have HB8 := Lib.hid (HB7.out.trans (hb8.mono HB7.out.size))
  have HH8 := Lib.hid (HH7.out.ext hb8)
  have HBK := Lib.hid (Nat.lt_of_lt_of_le HC7.out.2.2.2.2.2.2.2 hb8.size)
  have HC8 := Lib.hid (And.intro ((hb8.cell HC7.out.2.2.2.2.2.2.2).trans HC7.out.1) (And.intro ((hb8.cell (p := ⟨ad.block, ad.off + 1, none⟩) HC7.out.2.2.2.2.2.2.2).trans HC7.out.2.1) (And.intro ((hb8.cell (p := ⟨ad.block, ad.off + 2, none⟩) HC7.out.2.2.2.2.2.2.2).trans HC7.out.2.2.1) (And.intro ((hb8.cell (p := ⟨ad.block, ad.off + 3, none⟩) HC7.out.2.2.2.2.2.2.2).trans HC7.out.2.2.2.1)
    (And.intro ((hb8.cell (p := ⟨ad.block, ad.off + 4, none⟩) HC7.out.2.2.2.2.2.2.2).trans HC7.out.2.2.2.2.1) (And.intro ((hb8.cell (p := ⟨ad.block, ad.off + 5, none⟩) HC7.out.2.2.2.2.2.2.2).trans HC7.out.2.2.2.2.2.1) ((hb8.cell (p := ⟨ad.block, ad.off + 6, none⟩) HC7.out.2.2.2.2.2.2.2).trans HC7.out.2.2.2.2.2.2.1)))))))
  have HR8 := Lib.hid hr8
  clear hb8 hr8 HLD c0 c1 c2 c3 c4 c5 c6
  have k0 := HH8.out.cell 0 rfl
  have k1 := HH8.out.cell 1 rfl
  have k2 := HH8.out.cell 2 rfl
  go_wp2_with fail
  refine (HTE.out _).mono ?_
  rintro e9 w9 ⟨rfl, hb9⟩
  have HB9 := Lib.hid (HB8.out.trans (hb9.mono HB8.out.size))
  have hc0 := (hb9.cell HBK.out).trans HC8.out.1
  have hc1 := (hb9.cell (p := ⟨ad.block, ad.off + 1, none⟩) HBK.out).trans HC8.out.2.1
  have hc2 := (hb9.cell (p := ⟨ad.block, ad.off + 2, none⟩) HBK.out).trans HC8.out.2.2.1
  have hc3 := (hb9.cell (p := ⟨ad.block, ad.off + 3, none⟩) HBK.out).trans HC8.out.2.2.2.1
  have hc4 := (hb9.cell (p := ⟨ad.block, ad.off + 4, none⟩) HBK.out).trans HC8.out.2.2.2.2.1
  have hc5 := (hb9.cell (p := ⟨ad.block, ad.off + 5, none⟩) HBK.out).trans HC8.out.2.2.2.2.2.1
  have hc6 := (hb9.cell (p := ⟨ad.block, ad.off + 6, none⟩) HBK.out).trans HC8.out.2.2.2.2.2.2
  obtain ⟨a8, q, t, d, hA8, -, hx8, -, -, hd8⟩ := rec3 (k := 0) (HR8.out.ext hb9) (by omega)
  have he8 := Option.some.inj hx8
  cases he8
  rw [Nat.zero_mul, add0] at hd8
  subst hA8
  clear hb9 hx8 HTE k0 k1 k2
  unfold hi at hd8
  go_wp2_with fail
  go_ret
  exact ⟨rfl, HB9.out⟩
end Sn
end Go.Proofs.YtpbphhpldlckbaaGreat
namespace Go.Proofs.YtpbphhpldlckbaaGreat
namespace Sn
open Go.RowKit Hd Bk

set_option maxHeartbeats 3200000 in
set_option maxRecDepth 100000 in
theorem same_mt (A A' : Option Addr) (n c c' : Nat) (l : List Mt) (w : World) (h1 : Rd w w.heap.size 7 A n (fl7 l)) (h2 : Rd w w.heap.size 7 A' n (fl7 l)) (hn : n ≤ 1000000) :
    Calls Tryz.prog 7 #[.slice A n c, .slice A' n c'] w fun e w' => e = .returned (.bool true) ∧ Below w.heap.size w w' := by
  have mixed : Tryz.prog.follows .mixedOrders = true := by kernel_rfl
  have HR1 := Lib.hid h1
  have HR2 := Lib.hid h2
  have hb0 := (show ((n : Int) != (n : Int)) = false by simp)
  clear h1 h2
  go_enter Tryz.func7, Tryz.ntmps7
  go_wp2_with fail
  go_loopw [5] (fun v wr => ∃ k : Nat, v = .int .i64 k ∧ k ≤ n ∧ Hid (Below w.heap.size w wr)) (fun v _ => n - (intOf v).toNat)
  case atStart => exact ⟨0, by go_num, by omega, Lib.hid (Below.refl _ _)⟩
  case round =>
    obtain ⟨k, rfl, hk, HX⟩ := hrel
    by_cases hkn : k < n
    · obtain ⟨ad, m, rfl, hbk, hx, c0, c1, c2, c3, c4, c5, c6⟩ := mt_at (HR1.out.below HX.out) hkn
      obtain ⟨ad', m', rfl, hbk', hx', d0, d1, d2, d3, d4, d5, d6⟩ := mt_at (HR2.out.below HX.out) hkn
      obtain rfl : m = m' := by rw [hx] at hx'; exact Option.some.inj hx'
      clear hx hx'
      obtain ⟨ma, ms, mr, mc, mf, me, ml⟩ := m
      dsimp only at *
      go_wp2_with fail
      go_quiet (fail)
      have HP := Lib.hid (HX.out.trans (ext_drewN wr nq |>.mono HX.out.size))
      go_wp2_with fail
      go_roundw
      case rel => exact ⟨k + 1, by go_num, by omega, HP⟩
      case measure => simp [intOf]; omega
    · obtain rfl : k = n := by omega
      have HB := HX
      go_wp2_with fail
      go_ret
      exact ⟨rfl, HB.out⟩
end Sn
end Go.Proofs.YtpbphhpldlckbaaGreat
namespace Go.Proofs.YtpbphhpldlckbaaGreat
namespace Sn
open Go.RowKit Hd Fm Bk

theorem rd_take7 {w : World} {B n k : Nat} {A : Option Addr} {l : List Mt} (h : Rd w B 7 A n (fl7 l)) (hk : k ≤ n) : Rd w B 7 A k (fl7 (l.take k)) := by
  have h2 := h.take hk
  have e : (fl7 l).take (k * 7) = fl7 (l.take k) := by
    have hl := mt_len h
    have := fl7_append (l.take k) (l.drop k)
    rw [List.take_append_drop] at this
    rw [this, List.take_append_of_le_length (by rw [length_fl7, List.length_take]; omega), List.take_of_length_le (by rw [length_fl7, List.length_take]; omega)]
  rwa [e] at h2
set_option maxHeartbeats 6400000 in
set_option maxRecDepth 100000 in
theorem prefix_far (s : ByteArray) (i g f cut : Int) (w : World) (h : 3000 < s.size ∨ cut < 0 ∨ (s.size : Int) < cut) :
    Calls Tryz.prog 3 #[.string s, .agg #[.int .i64 i, .int .i64 g, .int .i64 f], .int .i64 cut] w fun e w' => e = .returned (.bool true) ∧ Below w.heap.size w w' := by
  have mixed : Tryz.prog.follows .mixedOrders = true := by kernel_rfl
  have HA := Lib.hid (fun w => sawake_any w)
  have HB := Lib.hid (ext_alloc w (.cells #[.int .i64 i, .int .i64 g, .int .i64 f] 23))
  by_cases h1 : (3000 : Int) < (s.size : Int)
  · clear h
    go_enter Tryz.func3, Tryz.ntmps3
    go_wp2_with fail
    refine (HA.out _).mono ?_
    rintro e1 w1 ⟨rfl, hb1⟩
    have HB1 := Lib.hid (HB.out.trans (hb1.mono HB.out.size))
    clear hb1
    go_wp2_with fail
    go_ret
    exact ⟨rfl, HB1.out⟩
  · by_cases h2 : cut < 0
    · clear h
      go_enter Tryz.func3, Tryz.ntmps3
      go_wp2_with fail
      refine (HA.out _).mono ?_
      rintro e1 w1 ⟨rfl, hb1⟩
      have HB1 := Lib.hid (HB.out.trans (hb1.mono HB.out.size))
      clear hb1
      go_wp2_with fail
      go_ret
      exact ⟨rfl, HB1.out⟩
    · have h3 : (s.size : Int) < cut := by omega
      clear h
      go_enter Tryz.func3, Tryz.ntmps3
      go_wp2_with fail
      refine (HA.out _).mono ?_
      rintro e1 w1 ⟨rfl, hb1⟩
      have HB1 := Lib.hid (HB.out.trans (hb1.mono HB.out.size))
      clear hb1
      go_wp2_with fail
      go_ret
      exact ⟨rfl, HB1.out⟩
set_option maxHeartbeats 6400000 in
set_option maxRecDepth 100000 in
theorem prefix_none (s : ByteArray) (i g f : Int) (c : Nat) (w : World) (hs : s.size ≤ 3000) (hc : c ≤ s.size) (h : tl s i g f = none) :
    Calls Tryz.prog 3 #[.string s, .agg #[.int .i64 i, .int .i64 g, .int .i64 f], .int .i64 (c : Int)] w fun e w' => e = .returned (.bool true) ∧ Below w.heap.size w w' := by
  have mixed : Tryz.prog.follows .mixedOrders = true := by kernel_rfl
  have HA := Lib.hid (fun w => sawake_any w)
  have HB := Lib.hid (ext_alloc w (.cells #[.int .i64 i, .int .i64 g, .int .i64 f] 23))
  have HH := Lib.hid (Blk.new w #[.int .i64 i, .int .i64 g, .int .i64 f] 23)
  have HT := Lib.hid (fun w => tail_none h w (by omega))
  have HTC := Lib.hid (fun w => tail_none (cut_none h hc) w (by rw [size_cut hc]; omega))
  have h1 : ¬ (3000 : Int) < (s.size : Int) := by omega
  have h3 : ¬ (s.size : Int) < (c : Int) := by omega
  have h4 : (0 : Int) ≤ (c : Int) := by omega
  have h5 : (c : Int) ≤ (s.size : Int) := by omega
  clear h
  go_enter Tryz.func3, Tryz.ntmps3
  go_wp2_with fail
  have k0 := HH.out.cell 0 rfl
  have k1 := HH.out.cell 1 rfl
  have k2 := HH.out.cell 2 rfl
  generalize w.alloc (.cells #[.int .i64 i, .int .i64 g, .int .i64 f] 23) = w0 at *
  refine (HT.out _).mono ?_
  rintro e1 w1 ⟨rfl, hb1⟩
  have HB1 := Lib.hid (HB.out.trans (hb1.mono HB.out.size))
  have HH1 := Lib.hid (HH.out.ext hb1)
  clear hb1 k0 k1 k2
  go_wp2_with fail
  have HSO := Lib.hid (show ∀ wx, Below w1.heap.size w1 wx → wx.cell? ⟨w.heap.size, 0, none⟩ = some (.int .i64 i) ∧ wx.cell? ⟨w.heap.size, 1, none⟩ = some (.int .i64 g) ∧ wx.cell? ⟨w.heap.size, 2, none⟩ = some (.int .i64 f) from fun wx hb => ⟨(HH1.out.ext hb).cell 0 rfl, (HH1.out.ext hb).cell 1 rfl, (HH1.out.ext hb).cell 2 rfl⟩)
  have HS := Lib.hid (And.intro (HH1.out.cell 0 rfl) (And.intro (HH1.out.cell 1 rfl) (HH1.out.cell 2 rfl)))
  go_region_held3 (fun wx => wx.cell? ⟨w.heap.size, 0, none⟩ = some (.int .i64 i) ∧ wx.cell? ⟨w.heap.size, 1, none⟩ = some (.int .i64 g) ∧ wx.cell? ⟨w.heap.size, 2, none⟩ = some (.int .i64 f)) (first | exact HS.out | exact hs2) (first
    | (go_at_call 6; refine (HTC.out _).mono ?_; rintro e2 w2 ⟨rfl, hb2⟩; have hs2 := HSO.out _ (ext_trans (ext_drew w1) hb2); have HB2 := Lib.hid (HB1.out.trans ((ext_trans (ext_drew w1) hb2).mono HB1.out.size))))
  clear hb2 hs2
  go_wp2_with fail
  refine (HA.out _).mono ?_
  rintro e3 w3 ⟨rfl, hb3⟩
  have HB3 := Lib.hid (HB2.out.trans (hb3.mono HB2.out.size))
  clear hb3
  go_wp2_with fail
  go_ret
  exact ⟨rfl, HB3.out⟩
end Sn
end Go.Proofs.YtpbphhpldlckbaaGreat
