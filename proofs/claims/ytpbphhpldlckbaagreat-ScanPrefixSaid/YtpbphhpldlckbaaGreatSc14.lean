/- head.Put. block: what its functions compute: plain lists, no program. scan: what its functions compute, plainly: texts that agree on a beginning, frames, the run over frames. Slices of api.Meta (seven cells) that the call itself makes: append. -/
import Derived.Test.YtpbphhpldlckbaaGreatSc13
import Derived.Test.YtpbphhpldlckbaaGreatSc12
import Derived.Test.YtpbphhpldlckbaaGreatSc07
import Derived.Test.YtpbphhpldlckbaaGreatSc02
import Derived.Deep.RegionLaw
namespace Go.Proofs.YtpbphhpldlckbaaGreat
namespace Hd
open Go.RowKit Vi Bd Rd

/-- A header's bytes. -/
def hb (i g f : Nat) : ByteArray := ⟨(putV i ++ (putV g ++ putV f)).toArray⟩

set_option maxHeartbeats 3200000 in
set_option maxRecDepth 100000 in
theorem hput_yes (i g f : Nat) (w : World) (h : 1 ≤ i ∧ i ≤ 999999 ∧ 1 ≤ g ∧ g ≤ 999999 ∧ 1 ≤ f ∧ f ≤ 1000000000) :
    Calls Tryz.prog 32 #[.agg #[.int .i64 (i : Int), .int .i64 (g : Int), .int .i64 (f : Int)]] w fun e w' => e = .returned (.tuple #[.string (hb i g f), .int .i64 0]) ∧ Below w.heap.size w w' := by
  have mixed : Tryz.prog.follows .mixedOrders = true := by kernel_rfl
  have HC := Lib.hid (check_yes i g f (w.alloc (.cells #[.int .i64 (i : Int), .int .i64 (g : Int), .int .i64 (f : Int)] 23)) (by omega))
  have HB := Lib.hid (ext_alloc w (.cells #[.int .i64 (i : Int), .int .i64 (g : Int), .int .i64 (f : Int)] 23))
  have HN := Lib.hid (show ∀ x ∈ [i, g, f], x < 9223372036854775808 by intro x hx; simp at hx; omega)
  have k0 : (w.alloc (.cells #[.int .i64 (i : Int), .int .i64 (g : Int), .int .i64 (f : Int)] 23)).cell? ⟨w.heap.size, 0, none⟩ = some (.int .i64 (i : Int)) := by rw [World.cell?_alloc_new]; rfl
  have k1 : (w.alloc (.cells #[.int .i64 (i : Int), .int .i64 (g : Int), .int .i64 (f : Int)] 23)).cell? ⟨w.heap.size, 1, none⟩ = some (.int .i64 (g : Int)) := by rw [World.cell?_alloc_new]; rfl
  have k2 : (w.alloc (.cells #[.int .i64 (i : Int), .int .i64 (g : Int), .int .i64 (f : Int)] 23)).cell? ⟨w.heap.size, 2, none⟩ = some (.int .i64 (f : Int)) := by rw [World.cell?_alloc_new]; rfl
  have hlt : w.heap.size < (w.alloc (.cells #[.int .i64 (i : Int), .int .i64 (g : Int), .int .i64 (f : Int)] 23)).heap.size := by simp
  have HK := Lib.hid (And.intro k0 (And.intro k1 (And.intro k2 hlt)))
  clear k0 k1 k2 hlt h
  go_enter Tryz.func32, Tryz.ntmps32
  go_wp2_with fail
  generalize w.alloc (.cells #[.int .i64 (i : Int), .int .i64 (g : Int), .int .i64 (f : Int)] 23) = w0 at *
  refine HC.out.mono ?_
  rintro e1 w1 ⟨rfl, hb1⟩
  have c0 := (hb1.cell (p := ⟨w.heap.size, 0, none⟩) HK.out.2.2.2).trans HK.out.1
  have c1 := (hb1.cell (p := ⟨w.heap.size, 1, none⟩) HK.out.2.2.2).trans HK.out.2.1
  have c2 := (hb1.cell (p := ⟨w.heap.size, 2, none⟩) HK.out.2.2.2).trans HK.out.2.2.1
  have hrd : Rd (w1.alloc (.cells #[.int .i64 (i : Int), .int .i64 (g : Int), .int .i64 (f : Int)] 3)) (w1.alloc (.cells #[.int .i64 (i : Int), .int .i64 (g : Int), .int .i64 (f : Int)] 3)).heap.size 1 (some ⟨w1.heap.size, 0, none⟩) 3 (nv [i, g, f]) :=
    Rd.of_own (World.ownsRow_lit (base := w1.heap.size) (e := 3) (size := 1) w1 #[.int .i64 (i : Int), .int .i64 (g : Int), .int .i64 (f : Int)] 3 (Nat.le_refl _) (by simp [maxLen]) rfl)
  have HNU := Lib.hid (numbers_any _ 3 3 [i, g, f] _ hrd (by omega) HN.out)
  have HB1 := Lib.hid (HB.out.trans (hb1.mono HB.out.size))
  have HB2 := Lib.hid (HB1.out.trans ((ext_alloc w1 (.cells #[.int .i64 (i : Int), .int .i64 (g : Int), .int .i64 (f : Int)] 3)).mono HB1.out.size))
  clear hb1 hrd HC
  go_wp2_with fail
  refine HNU.out.mono ?_
  rintro e2 w2 ⟨rfl, hb2⟩
  have HB3 := Lib.hid (HB2.out.trans (hb2.mono HB2.out.size))
  clear hb2
  go_wp2_with fail
  go_ret2
  exact ⟨rfl, HB3.out⟩

set_option maxHeartbeats 3200000 in
set_option maxRecDepth 100000 in
theorem hput_no (i g f : Int) (w : World) (h : okH i g f = false) :
    Calls Tryz.prog 32 #[.agg #[.int .i64 i, .int .i64 g, .int .i64 f]] w fun e w' => e = .returned (.tuple #[.string ⟨#[]⟩, .int .i64 210]) ∧ Below w.heap.size w w' := by
  have mixed : Tryz.prog.follows .mixedOrders = true := by kernel_rfl
  have hc := check_any i g f (w.alloc (.cells #[.int .i64 i, .int .i64 g, .int .i64 f] 23))
  rw [if_neg (by rw [h]; simp)] at hc
  have HC := Lib.hid hc
  have HB := Lib.hid (ext_alloc w (.cells #[.int .i64 i, .int .i64 g, .int .i64 f] 23))
  clear hc h
  go_enter Tryz.func32, Tryz.ntmps32
  go_wp2_with fail
  refine HC.out.mono ?_
  rintro e1 w1 ⟨rfl, hb1⟩
  have HB1 := Lib.hid (HB.out.trans (hb1.mono HB.out.size))
  clear hb1 HC
  go_wp2_with fail
  go_ret2
  exact ⟨rfl, HB1.out⟩
end Hd
end Go.Proofs.YtpbphhpldlckbaaGreat
namespace Go.Proofs.YtpbphhpldlckbaaGreat
namespace Bk
open Vi Sq Rd

/-- The record at a place, or nothing. -/
def at3 (l : List (Int × Int × ByteArray)) (k : Nat) : Int × Int × ByteArray := l.getD k (0, 0, ⟨#[]⟩)
/-- Are a row's bytes packed? -/
def isP (l : List (Int × Int × ByteArray)) (A : List Nat) : Bool := decide ((packed (joinB l) A).length < (joinB l).length)
def body (l : List (Int × Int × ByteArray)) (A : List Nat) : List UInt8 := if isP l A = true then packed (joinB l) A else joinB l
def mode (l : List (Int × Int × ByteArray)) (A : List Nat) : Nat := if isP l A = true then 1 else 0
/-- The five numbers of a head. -/
def hd5 (l : List (Int × Int × ByteArray)) : List Nat := [(joinB l).length, l.length, (at3 l 0).1.toNat, (at3 l 0).2.1.toNat, ((at3 l (l.length - 1)).2.1 - (at3 l 0).2.1).toNat]
/-- A row's block. -/
def blk (l : List (Int × Int × ByteArray)) (A : List Nat) : List UInt8 := UInt8.ofNat (mode l A) :: ((hd5 l).flatMap putV ++ body l A)
/-- What block.Encode tells. -/
def encE (l : List (Int × Int × ByteArray)) : Int := if l = [] then 2 else jE l
def lateOf (early more : Nat) : Nat := if more ≤ 1000000000 ∧ early ≤ 1000000000 then early + more else 9223372036854775807
def mayH (md raw count first early late : Nat) : Bool := decide (md ≤ 1 ∧ raw ≤ 20000 ∧ 1 ≤ count ∧ count ≤ raw ∧ 1 ≤ first ∧ first + count ≤ 1000000001 ∧ early ≤ 1000000000 ∧ late ≤ 1000000000)
/-- A block's head: the mode, the numbers, the body. -/
def peekB : List UInt8 → Option (Nat × Nat × Nat × Nat × Nat × Nat × List UInt8)
  | [] => none
  | m :: b => match fin 5 [] b with
    | (0, [raw, count, first, early, more], r) => if mayH m.toNat raw count first early (lateOf early more) = true then some (m.toNat, raw, count, first, early, lateOf early more, r) else none
    | _ => none
/-- The bytes of a block's records. -/
def rawB (md raw : Nat) (b : List UInt8) : Option (List UInt8) := match (if md = 1 then unS b else some b) with
  | none => none
  | some s => if s.length ≠ raw then none else some s
/-- Do records lie as a head says? -/
def fits (l : List (Int × Int × ByteArray)) (count first early late : Nat) : Bool := decide (l.length = count ∧ (at3 l 0).1 = first ∧ (at3 l 0).2.1 = early ∧ (at3 l (l.length - 1)).2.1 = late)
/-- What block.Decode tells. -/
def dec (b : List UInt8) : Option (List (Int × Int × ByteArray)) := match peekB b with
  | none => none
  | some (md, raw, count, first, early, late, r) => match rawB md raw r with
    | none => none
    | some s => match split s with
      | none => none
      | some l => if fits l count first early late = true then some l else none

/-- What a row is. -/
theorem row_seq : ∀ (l : List (Int × Int × ByteArray)) (p : Int × Int × ByteArray), rowE (some p) l = 0 → ∀ (k : Nat) (r : Int × Int × ByteArray), l[k]? = some r → r.1 = p.1 + (k : Int) + 1 ∧ p.2.1 ≤ r.2.1 ∧ ok1 r = true ∧ ∀ (j : Nat) (r' : Int × Int × ByteArray), k ≤ j → l[j]? = some r' → r.2.1 ≤ r'.2.1
  | [], _, _, k, r, h => by simp at h
  | x :: l, p, h, k, r, hk => by
    rw [rowE] at h
    split at h; · simp at h
    rename_i ho
    split at h; · simp at h
    rename_i hf
    have ho : ok1 x = true := by simpa using ho
    have hx : x.1 = p.1 + 1 ∧ p.2.1 ≤ x.2.1 := by
      simp only [off, decide_eq_true_eq] at hf
      omega
    have ih := row_seq l x h
    rcases k with _ | k
    · simp at hk; subst hk
      refine ⟨by simp; omega, hx.2, ho, ?_⟩
      intro j r' _ hj
      rcases j with _ | j
      · simp at hj; subst hj; exact Int.le_refl _
      · exact (ih j r' (by simpa using hj)).2.1
    · obtain ⟨h1, h2, h3, h4⟩ := ih k r (by simpa using hk)
      refine ⟨by rw [h1, hx.1]; push_cast; omega, by omega, h3, ?_⟩
      intro j r' hkj hj
      obtain ⟨j, rfl⟩ : ∃ i, j = i + 1 := ⟨j - 1, by omega⟩
      exact h4 j r' (by omega) (by simpa using hj)
theorem row_seq0 (l : List (Int × Int × ByteArray)) (h : rowE none l = 0) (k : Nat) (r : Int × Int × ByteArray) (hk : l[k]? = some r) :
    r.1 = (at3 l 0).1 + (k : Int) ∧ (at3 l 0).2.1 ≤ r.2.1 ∧ ok1 r = true ∧ ∀ (j : Nat) (r' : Int × Int × ByteArray), k ≤ j → l[j]? = some r' → r.2.1 ≤ r'.2.1 := by
  rcases l with _ | ⟨x, l⟩
  · simp at hk
  rw [rowE] at h
  split at h; · simp at h
  rename_i ho
  split at h; · simp at h
  have ho : ok1 x = true := by simpa using ho
  have e : at3 (x :: l) 0 = x := rfl
  rw [e]
  have ih := row_seq l x h
  rcases k with _ | k
  · simp at hk; subst hk
    refine ⟨by simp, Int.le_refl _, ho, ?_⟩
    intro j r' _ hj
    rcases j with _ | j
    · simp at hj; subst hj; exact Int.le_refl _
    · exact (ih j r' (by simpa using hj)).2.1
  · obtain ⟨h1, h2, h3, h4⟩ := ih k r (by simpa using hk)
    refine ⟨by rw [h1]; push_cast; omega, h2, h3, ?_⟩
    intro j r' hkj hj
    obtain ⟨j, rfl⟩ : ∃ i, j = i + 1 := ⟨j - 1, by omega⟩
    exact h4 j r' (by omega) (by simpa using hj)
theorem at3_get (l : List (Int × Int × ByteArray)) (k : Nat) (h : k < l.length) : l[k]? = some (at3 l k) := by
  unfold at3; rw [List.getD_eq_getElem?_getD, List.getElem?_eq_getElem h]; rfl
theorem joinB_ge : ∀ (l : List (Int × Int × ByteArray)), 3 * l.length ≤ (joinB l).length
  | [] => by simp
  | r :: l => by
    have e : joinB (r :: l) = recB r ++ joinB l := List.flatMap_cons ..
    have := recB_length r
    have := joinB_ge l
    rw [e, List.length_append, List.length_cons]; omega
theorem jE_row {l : List (Int × Int × ByteArray)} (h : jE l = 0) : rowE none l = 0 ∧ (joinB l).length ≤ 20000 := by
  unfold jE at h
  split at h
  · rename_i h1; exact absurd h h1
  split at h; · simp at h
  rename_i h1 h2
  exact ⟨by simpa using h1, by omega⟩
/-- What is known of a row's ends. -/
theorem ends {l : List (Int × Int × ByteArray)} (h : jE l = 0) (hn : l ≠ []) :
    1 ≤ (at3 l 0).1 ∧ (at3 l 0).1 + l.length ≤ 1000000001 ∧ 0 ≤ (at3 l 0).2.1 ∧ (at3 l 0).2.1 ≤ (at3 l (l.length - 1)).2.1 ∧ (at3 l (l.length - 1)).2.1 ≤ 1000000000 ∧ l.length ≤ 6667 := by
  obtain ⟨h1, h2⟩ := jE_row h
  have hp : 0 < l.length := List.length_pos_iff.2 hn
  have h3 := joinB_ge l
  obtain ⟨a1, a2, a3, a4⟩ := row_seq0 l h1 0 _ (at3_get l 0 hp)
  obtain ⟨b1, b2, b3, b4⟩ := row_seq0 l h1 (l.length - 1) _ (at3_get l (l.length - 1) (by omega))
  rw [ok1_iff] at a3 b3
  refine ⟨a3.1, ?_, a3.2.2.1, b2, b3.2.2.2.1, by omega⟩
  have := b3.2.1
  omega
theorem hd5_lt {l : List (Int × Int × ByteArray)} (h : jE l = 0) (hn : l ≠ []) : ∀ n ∈ hd5 l, n < 9223372036854775808 := by
  obtain ⟨e1, e2, e3, e4, e5, e6⟩ := ends h hn
  obtain ⟨h1, h2⟩ := jE_row h
  intro n hm
  simp only [hd5, List.mem_cons, List.not_mem_nil, or_false] at hm
  omega
theorem fin_flat : ∀ (l acc : List Nat) (r : List UInt8), (∀ n ∈ l, n < 9223372036854775808) → fin l.length acc (l.flatMap putV ++ r) = (0, acc ++ l, r)
  | [], acc, r, _ => by simp [fin]
  | n :: l, acc, r, h => by
    rw [List.flatMap_cons, List.append_assoc, List.length_cons, fin_put n (h n (List.mem_cons_self ..)), fin_flat l _ r (fun x hx => h x (List.mem_cons_of_mem _ hx))]
    simp
theorem mode_le (l : List (Int × Int × ByteArray)) (A : List Nat) : mode l A ≤ 1 := by unfold mode; split <;> omega
theorem peek_blk {l : List (Int × Int × ByteArray)} (A : List Nat) (h : jE l = 0) (hn : l ≠ []) :
    peekB (blk l A) = some (mode l A, (joinB l).length, l.length, (at3 l 0).1.toNat, (at3 l 0).2.1.toNat, (at3 l (l.length - 1)).2.1.toNat, body l A) := by
  obtain ⟨e1, e2, e3, e4, e5, e6⟩ := ends h hn
  obtain ⟨h1, h2⟩ := jE_row h
  have hp : 0 < l.length := List.length_pos_iff.2 hn
  have hm := mode_le l A
  have h3 := joinB_ge l
  have hf := fin_flat (hd5 l) [] (body l A) (hd5_lt h hn)
  have h5 : (hd5 l).length = 5 := rfl
  rw [h5, List.nil_append] at hf
  unfold blk
  simp only [peekB, hf]
  simp only [hd5]
  have hl : lateOf (at3 l 0).2.1.toNat ((at3 l (l.length - 1)).2.1 - (at3 l 0).2.1).toNat = (at3 l (l.length - 1)).2.1.toNat := by
    unfold lateOf; rw [if_pos (by omega)]; omega
  rw [hl, toNat_ofNat _ (by omega), if_pos]
  unfold mayH
  simp only [decide_eq_true_eq]
  omega
theorem raw_blk {l : List (Int × Int × ByteArray)} {A : List Nat} (h : jE l = 0) (hA : Sx.Sorted (joinB l) A) : rawB (mode l A) (joinB l).length (body l A) = some (joinB l) := by
  obtain ⟨h1, h2⟩ := jE_row h
  unfold rawB mode body
  by_cases hp : isP l A = true
  · rw [if_pos hp, if_pos hp, if_pos rfl, back hA h2]; simp
  · rw [if_neg hp, if_neg hp, if_neg (by decide)]; simp
theorem dec_blk {l : List (Int × Int × ByteArray)} {A : List Nat} (h : jE l = 0) (hn : l ≠ []) (hA : Sx.Sorted (joinB l) A) : dec (blk l A) = some l := by
  obtain ⟨e1, e2, e3, e4, e5, e6⟩ := ends h hn
  unfold dec
  rw [peek_blk A h hn]
  simp only
  rw [raw_blk h hA]
  simp only
  rw [split_join l h]
  simp only
  rw [if_pos]
  unfold fits
  simp only [decide_eq_true_eq]
  refine ⟨trivial, by omega, by omega, by omega⟩
theorem dec_some {b : List UInt8} {l : List (Int × Int × ByteArray)} (h : dec b = some l) : jE l = 0 ∧ l ≠ [] := by
  unfold dec at h
  split at h; · simp at h
  rename_i md raw count first early late r hp
  split at h; · simp at h
  split at h; · simp at h
  rename_i s hs l' hl'
  split at h
  · rename_i hf
    simp only [Option.some.injEq] at h
    subst h
    refine ⟨(split_some _ _ hl').2, ?_⟩
    rintro rfl
    simp only [fits, decide_eq_true_eq] at hf
    unfold peekB at hp
    split at hp; · simp at hp
    split at hp
    · split at hp
      · rename_i hm
        simp only [Option.some.injEq, Prod.mk.injEq] at hp
        simp only [mayH, decide_eq_true_eq] at hm
        have := hf.1
        simp at this
        omega
      · simp at hp
    · simp at hp
  · simp at h
theorem blk_len {l : List (Int × Int × ByteArray)} {A : List Nat} (h : jE l = 0) (hn : l ≠ []) : (blk l A).length ≤ (joinB l).length + 26 := by
  obtain ⟨e1, e2, e3, e4, e5, e6⟩ := ends h hn
  obtain ⟨h1, h2⟩ := jE_row h
  have l1 := length_putV_le (joinB l).length 2 (by omega)
  have l2 := length_putV_le l.length 2 (by omega)
  have l3 := length_putV_le (at3 l 0).1.toNat 4 (by omega)
  have l4 := length_putV_le (at3 l 0).2.1.toNat 4 (by omega)
  have l5 := length_putV_le ((at3 l (l.length - 1)).2.1 - (at3 l 0).2.1).toNat 4 (by omega)
  have hb : (body l A).length ≤ (joinB l).length := by
    unfold body
    split
    · rename_i hp
      simp only [isP, decide_eq_true_eq] at hp
      omega
    · exact Nat.le_refl _
  unfold blk hd5
  simp only [List.length_cons, List.length_append, List.flatMap_cons, List.flatMap_nil, List.length_nil]
  omega
theorem enc_ok {l : List (Int × Int × ByteArray)} (h : encE l = 0) : jE l = 0 ∧ l ≠ [] := by
  unfold encE at h
  split at h; · simp at h
  exact ⟨h, by assumption⟩
end Bk
end Go.Proofs.YtpbphhpldlckbaaGreat
namespace Go.Proofs.YtpbphhpldlckbaaGreat
namespace Sn
open Go.RowKit Cr Fm Hd Bk Vi Rd

/-- Two texts have the same first m bytes. -/
def Agree (s t : ByteArray) (m : Nat) : Prop := m ≤ s.size ∧ m ≤ t.size ∧ s.data.toList.take m = t.data.toList.take m
theorem ext_list (s : ByteArray) (a b : Nat) : (s.extract a b).data.toList = (s.data.toList.drop a).take (b - a) := by
  rw [ByteArray.data_extract, Array.toList_extract, List.extract_eq_take_drop]
theorem ba_ext {a b : ByteArray} (h : a.data.toList = b.data.toList) : a = b := by
  obtain ⟨⟨a⟩⟩ := a
  obtain ⟨⟨b⟩⟩ := b
  simp only at h
  rw [h]
theorem size_list (s : ByteArray) : s.data.toList.length = s.size := rfl
section
variable {s t : ByteArray} {m : Nat} (h : Agree s t m)
include h
theorem Agree.symm : Agree t s m := ⟨h.2.1, h.1, h.2.2.symm⟩
theorem Agree.mono {k : Nat} (hk : k ≤ m) : Agree s t k := by
  refine ⟨Nat.le_trans hk h.1, Nat.le_trans hk h.2.1, ?_⟩
  have := congrArg (List.take k) h.2.2
  rwa [List.take_take, List.take_take, Nat.min_eq_left hk] at this
theorem Agree.by4 {k : Nat} (hk : k < m) : by4 s.data.toList k = by4 t.data.toList k := by
  unfold Fm.by4
  have e : ∀ l : List UInt8, l.getD k 0 = (l.take m).getD k 0 := fun l => by
    rw [List.getD_eq_getElem?_getD, List.getD_eq_getElem?_getD, List.getElem?_take, if_pos hk]
  rw [e s.data.toList, e t.data.toList, h.2.2]
theorem Agree.u4 {k : Nat} (hk : k + 4 ≤ m) : u4 s.data.toList k = u4 t.data.toList k := by
  unfold Fm.u4
  rw [h.by4 (k := k) (by omega), h.by4 (k := k + 1) (by omega), h.by4 (k := k + 2) (by omega), h.by4 (k := k + 3) (by omega)]
theorem Agree.extract {a b : Nat} (hb : b ≤ m) : s.extract a b = t.extract a b := by
  refine ba_ext ?_
  rw [ext_list, ext_list]
  have e : ∀ l : List UInt8, (l.drop a).take (b - a) = ((l.take m).drop a).take (b - a) := fun l => by
    rw [List.drop_take, List.take_take, Nat.min_eq_left (by omega)]
  rw [e s.data.toList, e t.data.toList, h.2.2]
theorem Agree.frame {p : Nat} (hg : GF s p) (ht : fto s p ≤ m) : GF t p ∧ fr t p = fr s p ∧ fto t p = fto s p := by
  have h9 := GF_to hg
  have e0 := h.by4 (k := p) (by omega)
  have e1 := h.u4 (k := p + 1) (by omega)
  have hfn : fn t p = fn s p := by unfold fn; rw [e1]
  have hft : fto t p = fto s p := by unfold fto; rw [hfn]
  have e2 := h.u4 (k := p + 5 + Fm.u4 s.data.toList (p + 1)) (by unfold fto fn at ht; omega)
  have e3 := h.extract (a := p) (b := p + 5 + Fm.u4 s.data.toList (p + 1)) (by unfold fto fn at ht; omega)
  refine ⟨?_, ?_, hft⟩
  · obtain ⟨g1, g2, g3, g4, g5⟩ := hg
    have hm := h.2.1
    refine ⟨by omega, by rw [← e0]; exact g2, by rw [← e1]; exact g3, by rw [← e1]; unfold fto fn at ht; omega, ?_⟩
    rw [← e1, ← e2, ← e3]; exact g5
  · unfold fr fbody
    rw [hft, hfn, e0, h.extract (a := p + 5) (b := p + 5 + fn s p) (by unfold fto at ht; omega)]
end
theorem agree_cut (s : ByteArray) (c : Nat) (hc : c ≤ s.size) : Agree s (s.extract 0 c) c := by
  refine ⟨hc, by rw [ByteArray.size_extract]; omega, ?_⟩
  rw [ext_list, List.drop_zero, Nat.sub_zero, List.take_take, Nat.min_self]
theorem agree_app (s x : ByteArray) (c : Nat) (hc : c ≤ s.size) : Agree s (s.extract 0 c ++ x) c := by
  refine ⟨hc, by rw [ByteArray.size_append, ByteArray.size_extract]; omega, ?_⟩
  rw [ByteArray.data_append, Array.toList_append, ext_list, List.drop_zero, Nat.sub_zero, List.take_append_of_le_length (by rw [List.length_take, size_list]; omega), List.take_take, Nat.min_self]

/-- A frame's block; the one that goes on. -/
def metaF (x : Fr) : Option Mt := match peekB x.2.1.data.toList with
  | some (_, raw, count, first, early, late, _) => if x.1 = 2 then some ⟨x.2.2.1, x.2.2.2 - x.2.2.1, raw, count, first, early, late⟩ else none
  | none => none
def goesB (h1 : Nat) (l : List Mt) (m : Mt) : Bool := decide (l.length < 1000 ∧ m.f = nextM h1 l ∧ lateM l ≤ m.e) && okM m
def good (h1 : Nat) (l : List Mt) (x : Fr) : Option Mt := match metaF x with
  | none => none
  | some m => if goesB h1 l m = true then (match dec x.2.1.data.toList with | none => none | some _ => some m) else none
theorem good_iff (h1 : Nat) (l : List Mt) (x : Fr) (m : Mt) : good h1 l x = some m ↔ metaF x = some m ∧ goesB h1 l m = true ∧ ∃ r, dec x.2.1.data.toList = some r := by
  unfold good
  rcases metaF x with _ | k
  · simp
  · by_cases hg : goesB h1 l k = true
    · simp only [hg, if_true]
      rcases dec x.2.1.data.toList with _ | r
      · simp
      · simp only [Option.some.injEq]
        exact ⟨fun e => ⟨e, e ▸ hg, r, rfl⟩, fun e => e.1⟩
    · simp only [hg]
      constructor
      · intro e; cases e
      · rintro ⟨e, h2, -⟩
        cases e
        exact absurd h2 hg
def run (h1 : Nat) : List Fr → List Mt → Nat → List Mt × Nat
  | [], l, e => (l, e)
  | x :: xs, l, e => match good h1 l x with
    | none => (l, e)
    | some m => run h1 xs (l ++ [m]) x.2.2.2
def rn (h1 : Nat) (s : ByteArray) (l : List Mt) (e : Nat) : List Mt × Nat := run h1 (frs s e) l e
theorem rn_step {h1 : Nat} {s : ByteArray} {l : List Mt} {e : Nat} {m : Mt} (hg : GF s e) (h : good h1 l (fr s e) = some m) : rn h1 s l e = rn h1 s (l ++ [m]) (fto s e) := by
  unfold rn
  rw [frs_yes hg, run, h]
  rfl
theorem rn_stop {h1 : Nat} {s : ByteArray} {l : List Mt} {e : Nat} (h : GF s e → good h1 l (fr s e) = none) : rn h1 s l e = (l, e) := by
  unfold rn
  by_cases hg : GF s e
  · rw [frs_yes hg, run, h hg]
  · rw [frs_no hg, run]
theorem rn_ind (h1 : Nat) (s : ByteArray) (P : List Mt → Nat → Prop) (stop : ∀ l e, (GF s e → good h1 l (fr s e) = none) → P l e)
    (step : ∀ l e m, GF s e → good h1 l (fr s e) = some m → P (l ++ [m]) (fto s e) → P l e) : ∀ l e, P l e := by
  have key : ∀ (n : Nat) (l : List Mt) (e : Nat), s.size - e ≤ n → P l e := by
    intro n
    induction n with
    | zero =>
      intro l e he
      exact stop l e fun hg => by have := GF_to hg; omega
    | succ n ih =>
      intro l e he
      by_cases hg : GF s e
      · rcases hm : good h1 l (fr s e) with _ | m
        · exact stop l e fun _ => hm
        · have := GF_to hg
          exact step l e m hg hm (ih _ _ (by omega))
      · exact stop l e fun h => absurd h hg
  exact fun l e => key _ l e (Nat.le_refl _)
theorem rn_pre (h1 : Nat) (s : ByteArray) : ∀ l e, ∃ l2, (rn h1 s l e).1 = l ++ l2 ∧ e ≤ (rn h1 s l e).2 ∧ (e ≤ s.size → (rn h1 s l e).2 ≤ s.size) := by
  refine rn_ind h1 s _ ?_ ?_
  · intro l e h
    rw [rn_stop h]
    exact ⟨[], by simp, Nat.le_refl _, fun h => h⟩
  · intro l e m hg h ⟨l2, i1, i2, i3⟩
    have := GF_to hg
    rw [rn_step hg h]
    exact ⟨m :: l2, by rw [i1]; simp, by omega, fun _ => i3 (by omega)⟩
/-- Where texts agree beyond the run's end, it gets there. -/
theorem rn_to (h1 : Nat) (s t : ByteArray) (k : Nat) (h : Agree s t k) : ∀ l e, (rn h1 s l e).2 ≤ k → rn h1 t l e = rn h1 t (rn h1 s l e).1 (rn h1 s l e).2 := by
  refine rn_ind h1 s _ ?_ ?_
  · intro l e hs _
    rw [rn_stop hs]
  · intro l e m hg hm ih hk
    rw [rn_step hg hm] at hk ⊢
    obtain ⟨l2, -, h2, -⟩ := rn_pre h1 s (l ++ [m]) (fto s e)
    obtain ⟨g1, g2, g3⟩ := h.frame hg (by omega)
    rw [rn_step g1 (by rw [g2]; exact hm), g3]
    exact ih hk
/-- The run over a beginning. -/
theorem rn_cut (h1 : Nat) (s t : ByteArray) (h : Agree s t t.size) : ∀ l e, e ≤ t.size →
    (∃ l2, (rn h1 s l e).1 = (rn h1 t l e).1 ++ l2) ∧ (rn h1 t l e).2 ≤ (rn h1 s l e).2 ∧ (rn h1 t l e).2 ≤ t.size := by
  refine rn_ind h1 s _ ?_ ?_
  · intro l e hs he
    have ht : rn h1 t l e = (l, e) := by
      refine rn_stop fun hg => ?_
      obtain ⟨g1, g2, g3⟩ := h.symm.frame hg (GF_to hg).2
      rw [← g2]; exact hs g1
    rw [rn_stop hs, ht]
    exact ⟨⟨[], by simp⟩, Nat.le_refl _, he⟩
  · intro l e m hg hm ih he
    by_cases hf : fto s e ≤ t.size
    · obtain ⟨g1, g2, g3⟩ := h.frame hg hf
      rw [rn_step hg hm, rn_step g1 (by rw [g2]; exact hm), g3]
      exact ih hf
    · have ht : rn h1 t l e = (l, e) := by
        refine rn_stop fun hg' => ?_
        obtain ⟨g1, g2, g3⟩ := h.symm.frame hg' (GF_to hg').2
        exact absurd (GF_to hg').2 (by rw [← g3]; exact hf)
      obtain ⟨l2, i1, i2, -⟩ := rn_pre h1 s l e
      rw [ht]
      exact ⟨⟨l2, i1⟩, i2, he⟩
theorem rn_end (h1 : Nat) (t : ByteArray) (l : List Mt) (e : Nat) (h : t.size ≤ e) : rn h1 t l e = (l, e) := rn_stop fun hg => by have := GF_to hg; omega

/-- A frame that was put stands there. -/
theorem u4_le (n : Nat) (hn : n < 4294967296) (a b : List UInt8) : u4 (a ++ (le 4 n ++ b)) a.length = n := by
  have e : ∀ k (hk : k < 4), by4 (a ++ (le 4 n ++ b)) (a.length + k) = by4 (le 4 n) k := by
    intro k hk
    unfold by4
    rw [List.getD_eq_getElem?_getD, List.getD_eq_getElem?_getD, List.getElem?_append_right (by omega), Nat.add_sub_cancel_left, List.getElem?_append_left (by rw [length_le]; omega)]
  have e0 := e 0 (by omega)
  unfold u4
  rw [show a.length = a.length + 0 from rfl, e0, Nat.add_zero, e 1 (by omega), e 2 (by omega), e 3 (by omega)]
  simp only [le, by4, List.getD_cons_zero, List.getD_cons_succ, UInt8.toNat_ofNat']
  omega
theorem size_frB (k : UInt8) (b : ByteArray) : (frB k b).size = b.size + 9 := by
  unfold frB
  rw [ByteArray.size_append, size_frA]
  show _ + (le 4 _).toArray.size = _
  rw [List.size_toArray, length_le]
theorem GF_put (pre : ByteArray) (k : UInt8) (b : ByteArray) (hk : 1 ≤ k.toNat ∧ k.toNat ≤ 4) (hb : b.size ≤ 60000) :
    GF (pre ++ frB k b) pre.size ∧ fr (pre ++ frB k b) pre.size = (k.toNat, b, pre.size, pre.size + (b.size + 9)) := by
  have hl : (pre ++ frB k b).data.toList = pre.data.toList ++ ([k] ++ (le 4 b.size ++ (b.data.toList ++ le 4 (crc (frA k b).data.toList)))) := by
    unfold frB frA
    simp only [ByteArray.data_append, Array.toList_append, List.append_assoc]
  have hla : (frA k b).data.toList = [k] ++ (le 4 b.size ++ b.data.toList) := by
    unfold frA
    simp only [ByteArray.data_append, Array.toList_append, List.append_assoc]
  have hsz : (pre ++ frB k b).size = pre.size + (b.size + 9) := by rw [ByteArray.size_append, size_frB]
  have hb4 : by4 (pre ++ frB k b).data.toList pre.size = k.toNat := by
    rw [hl]; unfold by4
    rw [List.getD_eq_getElem?_getD, List.getElem?_append_right (by rw [size_list]; omega), size_list, Nat.sub_self]; rfl
  have hu4 : u4 (pre ++ frB k b).data.toList (pre.size + 1) = b.size := by
    rw [hl, ← List.append_assoc]
    have := u4_le b.size (by omega) (pre.data.toList ++ [k]) (b.data.toList ++ le 4 (crc (frA k b).data.toList))
    rwa [List.length_append, size_list] at this
  have hfn : fn (pre ++ frB k b) pre.size = b.size := hu4
  have hex : ((pre ++ frB k b).extract pre.size (pre.size + 5 + b.size)).data.toList = (frA k b).data.toList := by
    have hla2 : (frA k b).data.toList.length = b.size + 5 := by rw [size_list, size_frA]
    rw [ext_list, hl, hla, List.drop_append_of_le_length (by rw [size_list]; omega), List.drop_of_length_le (by rw [size_list]; omega), List.nil_append]
    rw [hla] at hla2
    rw [← List.append_assoc, ← List.append_assoc, List.append_assoc [k], List.take_append_of_le_length (by omega), List.take_of_length_le (by omega)]
  have hcr : u4 (pre ++ frB k b).data.toList (pre.size + 5 + b.size) = crc (frA k b).data.toList := by
    rw [hl]
    have := u4_le (crc (frA k b).data.toList) (crc_lt _) (pre.data.toList ++ ([k] ++ (le 4 b.size ++ b.data.toList))) []
    have e : (pre.data.toList ++ ([k] ++ (le 4 b.size ++ b.data.toList))).length = pre.size + 5 + b.size := by
      simp only [List.length_append, size_list, length_le, List.length_singleton]; omega
    rw [e] at this
    simp only [List.append_assoc, List.append_nil] at this ⊢
    exact this
  have hfb : fbody (pre ++ frB k b) pre.size = b := by
    refine ba_ext ?_
    unfold fbody
    rw [hfn, ext_list, hl]
    have e : pre.data.toList ++ ([k] ++ (le 4 b.size ++ (b.data.toList ++ le 4 (crc (frA k b).data.toList)))) = (pre.data.toList ++ ([k] ++ le 4 b.size)) ++ (b.data.toList ++ le 4 (crc (frA k b).data.toList)) := by simp only [List.append_assoc]
    have e2 : (pre.data.toList ++ ([k] ++ le 4 b.size)).length = pre.size + 5 := by
      rw [List.length_append, List.length_append, size_list, length_le]; rfl
    rw [e, ← e2, List.drop_append_of_le_length (Nat.le_refl _), List.drop_length, List.nil_append, List.take_append_of_le_length (by rw [size_list]; omega), List.take_of_length_le (by rw [size_list]; omega)]
  refine ⟨⟨by omega, by rw [hb4]; exact hk, by rw [hu4]; exact hb, by rw [hu4]; omega, by rw [hu4, hex, hcr]⟩, ?_⟩
  unfold fr fto
  rw [hb4, hfb, hfn]
  congr 3
  omega
end Sn
end Go.Proofs.YtpbphhpldlckbaaGreat
namespace Go.Proofs.YtpbphhpldlckbaaGreat
namespace Sn
open Go.RowKit Bk
theorem mt_info : (Tryz.prog.info? 38).map (fun i => (i.zero, i.size, i.bytes)) = some (some (magg 0 0 0 0 0 0 0), 7, 56) := by kernel_rfl
def OwnM (w : World) (B : Nat) (v : Value) (l : List Mt) : Prop := w.ownsRow B 38 7 v l.length (fl7 l)
section
variable {w w' : World} {B C : Nat} {v : Value} {l : List Mt}
theorem OwnM.below (h : OwnM w B v l) (hb : Below C w w') (hC : w.heap.size ≤ C) : OwnM w' B v l := own_below h hb hC
theorem OwnM.lower (h : OwnM w B v l) (hC : C ≤ B) : OwnM w C v l := own_lower h hC
theorem OwnM.rd (h : OwnM w B v l) : ∃ A c, v = .slice A l.length c ∧ l.length ≤ c ∧ c ≤ maxLen ∧ Rd w w.heap.size 7 A l.length (fl7 l) := by
  obtain ⟨A, c, rfl, h1, h2⟩ := own_slice h
  exact ⟨A, c, rfl, h1, h2, Rd.of_own h⟩
theorem ownM_nil (w : World) (B : Nat) : OwnM w B (.slice none 0 0) [] := World.ownsRow_nil _ _ _ _
end
theorem step_append7 {ops : Array Oper} {o : Oper} {a : Act} {K : Act → World → Prop} {Q : Exit → Act → World → Prop} {E : Prop} {w0 : World} {B : Nat} {v : Value} {l : List Mt} (s x : Operand) (m : Mt)
    (hgd : o.guard = none) (ho : o.op = .call { callee := .builtin .append, args := #[s, x], argTypes := #[25, 25] })
    (hown : OwnM w0 B v l) (hl : l.length ≤ 1000000) (hB : B ≤ w0.heap.size) (hs : a.eval s = v) (hx : a.eval x = .slice (some ⟨w0.heap.size, 0, none⟩) 1 1)
    (h : ∀ g cap w', OwnM w' B (.slice (some ⟨g, 0, none⟩) (l.length + 1) cap) (l ++ [m]) → w0.grownBy w' v.ownBlock → (v.ownBlock = some g ∨ w0.heap.size ≤ g) → K (a.put o.dst (.slice (some ⟨g, 0, none⟩) (l.length + 1) cap)) w') :
    if Region.wanted o (yielded ops a.tmps) = true then Oper.wp Tryz.prog o a ((w0.alloc (.cells #[.int .i64 (m.a : Int), .int .i64 (m.s : Int), .int .i64 (m.r : Int), .int .i64 (m.c : Int), .int .i64 (m.f : Int), .int .i64 (m.e : Int), .int .i64 (m.l : Int)] 38)).drew) K Q else E := by
  obtain ⟨i0, hi, hz0, hz1, hz2⟩ := info_parts mt_info
  refine step_append_lies ((w0.alloc (.cells #[.int .i64 (m.a : Int), .int .i64 (m.s : Int), .int .i64 (m.r : Int), .int .i64 (m.c : Int), .int .i64 (m.f : Int), .int .i64 (m.e : Int), .int .i64 (m.l : Int)] 38)).drew) hgd s x 25 ho B 38 i0 (magg 0 0 0 0 0 0 0) 7 56 Tryz.underlying25 hi hz0 hz1 hz2 rfl (by omega) v l.length (fl7 l) hs (World.ownsRow.alloc hown _)
    ⟨w0.heap.size, 0, none⟩ 1 1 (cl7 m) hx rfl ?_ (by intro u hu; exact fl7_one [m] u (by simpa [fl7] using hu)) (by omega) (by simp only [maxLen]; omega) (by omega) (Nat.le_trans hB (by simp)) _ rfl ?_
  · intro j u hu
    rw [Addr.add_lit, Nat.zero_add]
    show (w0.alloc _).cell? _ = _
    rw [World.cell?_alloc_new]
    simpa [cl7] using hu
  intro g cap w' hown' hg hat hlt
  have hg0 : w0.grownBy (w0.alloc (.cells #[.int .i64 (m.a : Int), .int .i64 (m.s : Int), .int .i64 (m.r : Int), .int .i64 (m.c : Int), .int .i64 (m.f : Int), .int .i64 (m.e : Int), .int .i64 (m.l : Int)] 38)).drew v.ownBlock := have h := World.grownBy_alloc w0 (.cells #[.int .i64 (m.a : Int), .int .i64 (m.s : Int), .int .i64 (m.r : Int), .int .i64 (m.c : Int), .int .i64 (m.f : Int), .int .i64 (m.e : Int), .int .i64 (m.l : Int)] 38) v.ownBlock; ⟨h.os, h.tape, h.output, h.size, h.block⟩
  refine h g cap w' ?_ (hg0.trans hg) ?_
  · unfold OwnM; rw [fl7_append, List.length_append, show fl7 [m] = cl7 m from List.append_nil _]; exact hown'
  · rcases hat with e | e
    · exact .inl e
    · exact .inr (by rw [e]; simp)
end Sn
end Go.Proofs.YtpbphhpldlckbaaGreat
