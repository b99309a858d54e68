/- head.Put. block: what its functions compute: plain lists, no program. scan: what its functions compute, plainly: texts that agree on a beginning, frames, the run over frames. Slices of api.Meta (seven cells) that the call itself makes: append. scan.Tail's closure: does a block go on? take.Caught at block.peek$1. take: the first byte. record.Join. record.Get. block.peek$1: what stands ahead of a block's records is taken. block.peek$1 is walked. -/
import Derived.Test.YtpbphhpldlckbaaGreatSc49
import Derived.Test.YtpbphhpldlckbaaGreatSc48
import Derived.Deep.RegionLaw
import Derived.Deep.RegionHeld3
import Derived.Test.YtpbphhpldlckbaaGreatSc43
import Derived.Test.YtpbphhpldlckbaaGreatSc41
namespace Go.Proofs.YtpbphhpldlckbaaGreat
namespace Hd
open Go.RowKit Vi Bd Rd

/-- A header's bytes. -/
def hb (i g f : Nat) : ByteArray := ⟨(putV i ++ (putV g ++ putV f)).toArray⟩

set_option maxHeartbeats 3200000 in
set_option maxRecDepth 100000 in
theorem hput_yes (i g f : Nat) (w : World) (h : 1 ≤ i ∧ i ≤ 999999 ∧ 1 ≤ g ∧ g ≤ 999999 ∧ 1 ≤ f ∧ f ≤ 1000000000) :
    Calls Tryz.prog 32 #[.agg #[.int .i64 (i : Int), .int .i64 (g : Int), .int .i64 (f : Int)]] w fun e w' => e = .returned (.tuple #[.string (hb i g f), .int .i64 0]) ∧ Below w.heap.size w w' := by
  have mixed : Tryz.prog.follows .mixedOrders = true := by kernel_rfl
  have HC := Lib.hid (check_yes i g f (w.alloc (.cells #[.int .i64 (i : Int), .int .i64 (g : Int), .int .i64 (f : Int)] 23)) (by omega))
  have HB := Lib.hid (ext_alloc w (.cells #[.int .i64 (i : Int), .int .i64 (g : Int), .int .i64 (f : Int)] 23))
  have HN := Lib.hid (show ∀ x ∈ [i, g, f], x < 9223372036854775808 by intro x hx; simp at hx; omega)
  have k0 : (w.alloc (.cells #[.int .i64 (i : Int), .int .i64 (g : Int), .int .i64 (f : Int)] 23)).cell? ⟨w.heap.size, 0, none⟩ = some (.int .i64 (i : Int)) := by rw [World.cell?_alloc_new]; rfl
  have k1 : (w.alloc (.cells #[.int .i64 (i : Int), .int .i64 (g : Int), .int .i64 (f : Int)] 23)).cell? ⟨w.heap.size, 1, none⟩ = some (.int .i64 (g : Int)) := by rw [World.cell?_alloc_new]; rfl
  have k2 : (w.alloc (.cells #[.int .i64 (i : Int), .int .i64 (g : Int), .int .i64 (f : Int)] 23)).cell? ⟨w.heap.size, 2, none⟩ = some (.int .i64 (f : Int)) := by rw [World.cell?_alloc_new]; rfl
  have hlt : w.heap.size < (w.alloc (.cells #[.int .i64 (i : Int), .int .i64 (g : Int), .int .i64 (f : Int)] 23)).heap.size := by simp
  have HK := Lib.hid (And.intro k0 (And.intro k1 (And.intro k2 hlt)))
  clear k0 k1 k2 hlt h
  go_enter Tryz.func32, Tryz.ntmps32
  go_wp2_with fail
  generalize w.alloc (.cells #[.int .i64 (i : Int), .int .i64 (g : Int), .int .i64 (f : Int)] 23) = w0 at *
  refine HC.out.mono ?_
  rintro e1 w1 ⟨rfl, hb1⟩
  have c0 := (hb1.cell (p := ⟨w.heap.size, 0, none⟩) HK.out.2.2.2).trans HK.out.1
  have c1 := (hb1.cell (p := ⟨w.heap.size, 1, none⟩) HK.out.2.2.2).trans HK.out.2.1
  have c2 := (hb1.cell (p := ⟨w.heap.size, 2, none⟩) HK.out.2.2.2).trans HK.out.2.2.1
  have hrd : Rd (w1.alloc (.cells #[.int .i64 (i : Int), .int .i64 (g : Int), .int .i64 (f : Int)] 3)) (w1.alloc (.cells #[.int .i64 (i : Int), .int .i64 (g : Int), .int .i64 (f : Int)] 3)).heap.size 1 (some ⟨w1.heap.size, 0, none⟩) 3 (nv [i, g, f]) :=
    Rd.of_own (World.ownsRow_lit (base := w1.heap.size) (e := 3) (size := 1) w1 #[.int .i64 (i : Int), .int .i64 (g : Int), .int .i64 (f : Int)] 3 (Nat.le_refl _) (by simp [maxLen]) rfl)
  have HNU := Lib.hid (numbers_any _ 3 3 [i, g, f] _ hrd (by omega) HN.out)
  have HB1 := Lib.hid (HB.out.trans (hb1.mono HB.out.size))
  have HB2 := Lib.hid (HB1.out.trans ((ext_alloc w1 (.cells #[.int .i64 (i : Int), .int .i64 (g : Int), .int .i64 (f : Int)] 3)).mono HB1.out.size))
  clear hb1 hrd HC
  go_wp2_with fail
  refine HNU.out.mono ?_
  rintro e2 w2 ⟨rfl, hb2⟩
  have HB3 := Lib.hid (HB2.out.trans (hb2.mono HB2.out.size))
  clear hb2
  go_wp2_with fail
  go_ret2
  exact ⟨rfl, HB3.out⟩

set_option maxHeartbeats 3200000 in
set_option maxRecDepth 100000 in
theorem hput_no (i g f : Int) (w : World) (h : okH i g f = false) :
    Calls Tryz.prog 32 #[.agg #[.int .i64 i, .int .i64 g, .int .i64 f]] w fun e w' => e = .returned (.tuple #[.string ⟨#[]⟩, .int .i64 210]) ∧ Below w.heap.size w w' := by
  have mixed : Tryz.prog.follows .mixedOrders = true := by kernel_rfl
  have hc := check_any i g f (w.alloc (.cells #[.int .i64 i, .int .i64 g, .int .i64 f] 23))
  rw [if_neg (by rw [h]; simp)] at hc
  have HC := Lib.hid hc
  have HB := Lib.hid (ext_alloc w (.cells #[.int .i64 i, .int .i64 g, .int .i64 f] 23))
  clear hc h
  go_enter Tryz.func32, Tryz.ntmps32
  go_wp2_with fail
  refine HC.out.mono ?_
  rintro e1 w1 ⟨rfl, hb1⟩
  have HB1 := Lib.hid (HB.out.trans (hb1.mono HB.out.size))
  clear hb1 HC
  go_wp2_with fail
  go_ret2
  exact ⟨rfl, HB1.out⟩
end Hd
end Go.Proofs.YtpbphhpldlckbaaGreat
namespace Go.Proofs.YtpbphhpldlckbaaGreat
namespace Bk
open Vi Sq Rd

/-- The record at a place, or nothing. -/
def at3 (l : List (Int × Int × ByteArray)) (k : Nat) : Int × Int × ByteArray := l.getD k (0, 0, ⟨#[]⟩)
/-- Are a row's bytes packed? -/
def isP (l : List (Int × Int × ByteArray)) (A : List Nat) : Bool := decide ((packed (joinB l) A).length < (joinB l).length)
def body (l : List (Int × Int × ByteArray)) (A : List Nat) : List UInt8 := if isP l A = true then packed (joinB l) A else joinB l
def mode (l : List (Int × Int × ByteArray)) (A : List Nat) : Nat := if isP l A = true then 1 else 0
/-- The five numbers of a head. -/
def hd5 (l : List (Int × Int × ByteArray)) : List Nat := [(joinB l).length, l.length, (at3 l 0).1.toNat, (at3 l 0).2.1.toNat, ((at3 l (l.length - 1)).2.1 - (at3 l 0).2.1).toNat]
/-- A row's block. -/
def blk (l : List (Int × Int × ByteArray)) (A : List Nat) : List UInt8 := UInt8.ofNat (mode l A) :: ((hd5 l).flatMap putV ++ body l A)
/-- What block.Encode tells. -/
def encE (l : List (Int × Int × ByteArray)) : Int := if l = [] then 2 else jE l
def lateOf (early more : Nat) : Nat := if more ≤ 1000000000 ∧ early ≤ 1000000000 then early + more else 9223372036854775807
def mayH (md raw count first early late : Nat) : Bool := decide (md ≤ 1 ∧ raw ≤ 20000 ∧ 1 ≤ count ∧ count ≤ raw ∧ 1 ≤ first ∧ first + count ≤ 1000000001 ∧ early ≤ 1000000000 ∧ late ≤ 1000000000)
/-- A block's head: the mode, the numbers, the body. -/
def peekB : List UInt8 → Option (Nat × Nat × Nat × Nat × Nat × Nat × List UInt8)
  | [] => none
  | m :: b => match fin 5 [] b with
    | (0, [raw, count, first, early, more], r) => if mayH m.toNat raw count first early (lateOf early more) = true then some (m.toNat, raw, count, first, early, lateOf early more, r) else none
    | _ => none
/-- The bytes of a block's records. -/
def rawB (md raw : Nat) (b : List UInt8) : Option (List UInt8) := match (if md = 1 then unS b else some b) with
  | none => none
  | some s => if s.length ≠ raw then none else some s
/-- Do records lie as a head says? -/
def fits (l : List (Int × Int × ByteArray)) (count first early late : Nat) : Bool := decide (l.length = count ∧ (at3 l 0).1 = first ∧ (at3 l 0).2.1 = early ∧ (at3 l (l.length - 1)).2.1 = late)
/-- What block.Decode tells. -/
def dec (b : List UInt8) : Option (List (Int × Int × ByteArray)) := match peekB b with
  | none => none
  | some (md, raw, count, first, early, late, r) => match rawB md raw r with
    | none => none
    | some s => match split s with
      | none => none
      | some l => if fits l count first early late = true then some l else none

/-- What a row is. -/
theorem row_seq : ∀ (l : List (Int × Int × ByteArray)) (p : Int × Int × ByteArray), rowE (some p) l = 0 → ∀ (k : Nat) (r : Int × Int × ByteArray), l[k]? = some r → r.1 = p.1 + (k : Int) + 1 ∧ p.2.1 ≤ r.2.1 ∧ ok1 r = true ∧ ∀ (j : Nat) (r' : Int × Int × ByteArray), k ≤ j → l[j]? = some r' → r.2.1 ≤ r'.2.1
  | [], _, _, k, r, h => by simp at h
  | x :: l, p, h, k, r, hk => by
    rw [rowE] at h
    split at h; · simp at h
    rename_i ho
    split at h; · simp at h
    rename_i hf
    have ho : ok1 x = true := by simpa using ho
    have hx : x.1 = p.1 + 1 ∧ p.2.1 ≤ x.2.1 := by
      simp only [off, decide_eq_true_eq] at hf
      omega
    have ih := row_seq l x h
    rcases k with _ | k
    · simp at hk; subst hk
      refine ⟨by simp; omega, hx.2, ho, ?_⟩
      intro j r' _ hj
      rcases j with _ | j
      · simp at hj; subst hj; exact Int.le_refl _
      · exact (ih j r' (by simpa using hj)).2.1
    · obtain ⟨h1, h2, h3, h4⟩ := ih k r (by simpa using hk)
      refine ⟨by rw [h1, hx.1]; push_cast; omega, by omega, h3, ?_⟩
      intro j r' hkj hj
      obtain ⟨j, rfl⟩ : ∃ i, j = i + 1 := ⟨j - 1, by omega⟩
      exact h4 j r' (by omega) (by simpa using hj)
theorem row_seq0 (l : List (Int × Int × ByteArray)) (h : rowE none l = 0) (k : Nat) (r : Int × Int × ByteArray) (hk : l[k]? = some r) :
    r.1 = (at3 l 0).1 + (k : Int) ∧ (at3 l 0).2.1 ≤ r.2.1 ∧ ok1 r = true ∧ ∀ (j : Nat) (r' : Int × Int × ByteArray), k ≤ j → l[j]? = some r' → r.2.1 ≤ r'.2.1 := by
  rcases l with _ | ⟨x, l⟩
  · simp at hk
  rw [rowE] at h
  split at h; · simp at h
  rename_i ho
  split at h; · simp at h
  have ho : ok1 x = true := by simpa using ho
  have e : at3 (x :: l) 0 = x := rfl
  rw [e]
  have ih := row_seq l x h
  rcases k with _ | k
  · simp at hk; subst hk
    refine ⟨by simp, Int.le_refl _, ho, ?_⟩
    intro j r' _ hj
    rcases j with _ | j
    · simp at hj; subst hj; exact Int.le_refl _
    · exact (ih j r' (by simpa using hj)).2.1
  · obtain ⟨h1, h2, h3, h4⟩ := ih k r (by simpa using hk)
    refine ⟨by rw [h1]; push_cast; omega, h2, h3, ?_⟩
    intro j r' hkj hj
    obtain ⟨j, rfl⟩ : ∃ i, j = i + 1 := ⟨j - 1, by omega⟩
    exact h4 j r' (by omega) (by simpa using hj)
theorem at3_get (l : List (Int × Int × ByteArray)) (k : Nat) (h : k < l.length) : l[k]? = some (at3 l k) := by
  unfold at3; rw [List.getD_eq_getElem?_getD, List.getElem?_eq_getElem h]; rfl
theorem joinB_ge : ∀ (l : List (Int × Int × ByteArray)), 3 * l.length ≤ (joinB l).length
  | [] => by simp
  | r :: l => by
    have e : joinB (r :: l) = recB r ++ joinB l := List.flatMap_cons ..
    have := recB_length r
    have := joinB_ge l
    rw [e, List.length_append, List.length_cons]; omega
theorem jE_row {l : List (Int × Int × ByteArray)} (h : jE l = 0) : rowE none l = 0 ∧ (joinB l).length ≤ 20000 := by
  unfold jE at h
  split at h
  · rename_i h1; exact absurd h h1
  split at h; · simp at h
  rename_i h1 h2
  exact ⟨by simpa using h1, by omega⟩
/-- What is known of a row's ends. -/
theorem ends {l : List (Int × Int × ByteArray)} (h : jE l = 0) (hn : l ≠ []) :
    1 ≤ (at3 l 0).1 ∧ (at3 l 0).1 + l.length ≤ 1000000001 ∧ 0 ≤ (at3 l 0).2.1 ∧ (at3 l 0).2.1 ≤ (at3 l (l.length - 1)).2.1 ∧ (at3 l (l.length - 1)).2.1 ≤ 1000000000 ∧ l.length ≤ 6667 := by
  obtain ⟨h1, h2⟩ := jE_row h
  have hp : 0 < l.length := List.length_pos_iff.2 hn
  have h3 := joinB_ge l
  obtain ⟨a1, a2, a3, a4⟩ := row_seq0 l h1 0 _ (at3_get l 0 hp)
  obtain ⟨b1, b2, b3, b4⟩ := row_seq0 l h1 (l.length - 1) _ (at3_get l (l.length - 1) (by omega))
  rw [ok1_iff] at a3 b3
  refine ⟨a3.1, ?_, a3.2.2.1, b2, b3.2.2.2.1, by omega⟩
  have := b3.2.1
  omega
theorem hd5_lt {l : List (Int × Int × ByteArray)} (h : jE l = 0) (hn : l ≠ []) : ∀ n ∈ hd5 l, n < 9223372036854775808 := by
  obtain ⟨e1, e2, e3, e4, e5, e6⟩ := ends h hn
  obtain ⟨h1, h2⟩ := jE_row h
  intro n hm
  simp only [hd5, List.mem_cons, List.not_mem_nil, or_false] at hm
  omega
theorem fin_flat : ∀ (l acc : List Nat) (r : List UInt8), (∀ n ∈ l, n < 9223372036854775808) → fin l.length acc (l.flatMap putV ++ r) = (0, acc ++ l, r)
  | [], acc, r, _ => by simp [fin]
  | n :: l, acc, r, h => by
    rw [List.flatMap_cons, List.append_assoc, List.length_cons, fin_put n (h n (List.mem_cons_self ..)), fin_flat l _ r (fun x hx => h x (List.mem_cons_of_mem _ hx))]
    simp
theorem mode_le (l : List (Int × Int × ByteArray)) (A : List Nat) : mode l A ≤ 1 := by unfold mode; split <;> omega
theorem peek_blk {l : List (Int × Int × ByteArray)} (A : List Nat) (h : jE l = 0) (hn : l ≠ []) :
    peekB (blk l A) = some (mode l A, (joinB l).length, l.length, (at3 l 0).1.toNat, (at3 l 0).2.1.toNat, (at3 l (l.length - 1)).2.1.toNat, body l A) := by
  obtain ⟨e1, e2, e3, e4, e5, e6⟩ := ends h hn
  obtain ⟨h1, h2⟩ := jE_row h
  have hp : 0 < l.length := List.length_pos_iff.2 hn
  have hm := mode_le l A
  have h3 := joinB_ge l
  have hf := fin_flat (hd5 l) [] (body l A) (hd5_lt h hn)
  have h5 : (hd5 l).length = 5 := rfl
  rw [h5, List.nil_append] at hf
  unfold blk
  simp only [peekB, hf]
  simp only [hd5]
  have hl : lateOf (at3 l 0).2.1.toNat ((at3 l (l.length - 1)).2.1 - (at3 l 0).2.1).toNat = (at3 l (l.length - 1)).2.1.toNat := by
    unfold lateOf; rw [if_pos (by omega)]; omega
  rw [hl, toNat_ofNat _ (by omega), if_pos]
  unfold mayH
  simp only [decide_eq_true_eq]
  omega
theorem raw_blk {l : List (Int × Int × ByteArray)} {A : List Nat} (h : jE l = 0) (hA : Sx.Sorted (joinB l) A) : rawB (mode l A) (joinB l).length (body l A) = some (joinB l) := by
  obtain ⟨h1, h2⟩ := jE_row h
  unfold rawB mode body
  by_cases hp : isP l A = true
  · rw [if_pos hp, if_pos hp, if_pos rfl, back hA h2]; simp
  · rw [if_neg hp, if_neg hp, if_neg (by decide)]; simp
theorem dec_blk {l : List (Int × Int × ByteArray)} {A : List Nat} (h : jE l = 0) (hn : l ≠ []) (hA : Sx.Sorted (joinB l) A) : dec (blk l A) = some l := by
  obtain ⟨e1, e2, e3, e4, e5, e6⟩ := ends h hn
  unfold dec
  rw [peek_blk A h hn]
  simp only
  rw [raw_blk h hA]
  simp only
  rw [split_join l h]
  simp only
  rw [if_pos]
  unfold fits
  simp only [decide_eq_true_eq]
  refine ⟨trivial, by omega, by omega, by omega⟩
theorem dec_some {b : List UInt8} {l : List (Int × Int × ByteArray)} (h : dec b = some l) : jE l = 0 ∧ l ≠ [] := by
  unfold dec at h
  split at h; · simp at h
  rename_i md raw count first early late r hp
  split at h; · simp at h
  split at h; · simp at h
  rename_i s hs l' hl'
  split at h
  · rename_i hf
    simp only [Option.some.injEq] at h
    subst h
    refine ⟨(split_some _ _ hl').2, ?_⟩
    rintro rfl
    simp only [fits, decide_eq_true_eq] at hf
    unfold peekB at hp
    split at hp; · simp at hp
    split at hp
    · split at hp
      · rename_i hm
        simp only [Option.some.injEq, Prod.mk.injEq] at hp
        simp only [mayH, decide_eq_true_eq] at hm
        have := hf.1
        simp at this
        omega
      · simp at hp
    · simp at hp
  · simp at h
theorem blk_len {l : List (Int × Int × ByteArray)} {A : List Nat} (h : jE l = 0) (hn : l ≠ []) : (blk l A).length ≤ (joinB l).length + 26 := by
  obtain ⟨e1, e2, e3, e4, e5, e6⟩ := ends h hn
  obtain ⟨h1, h2⟩ := jE_row h
  have l1 := length_putV_le (joinB l).length 2 (by omega)
  have l2 := length_putV_le l.length 2 (by omega)
  have l3 := length_putV_le (at3 l 0).1.toNat 4 (by omega)
  have l4 := length_putV_le (at3 l 0).2.1.toNat 4 (by omega)
  have l5 := length_putV_le ((at3 l (l.length - 1)).2.1 - (at3 l 0).2.1).toNat 4 (by omega)
  have hb : (body l A).length ≤ (joinB l).length := by
    unfold body
    split
    · rename_i hp
      simp only [isP, decide_eq_true_eq] at hp
      omega
    · exact Nat.le_refl _
  unfold blk hd5
  simp only [List.length_cons, List.length_append, List.flatMap_cons, List.flatMap_nil, List.length_nil]
  omega
theorem enc_ok {l : List (Int × Int × ByteArray)} (h : encE l = 0) : jE l = 0 ∧ l ≠ [] := by
  unfold encE at h
  split at h; · simp at h
  exact ⟨h, by assumption⟩
end Bk
end Go.Proofs.YtpbphhpldlckbaaGreat
namespace Go.Proofs.YtpbphhpldlckbaaGreat
namespace Sn
open Go.RowKit Cr Fm Hd Bk Vi Rd

/-- Two texts have the same first m bytes. -/
def Agree (s t : ByteArray) (m : Nat) : Prop := m ≤ s.size ∧ m ≤ t.size ∧ s.data.toList.take m = t.data.toList.take m
theorem ext_list (s : ByteArray) (a b : Nat) : (s.extract a b).data.toList = (s.data.toList.drop a).take (b - a) := by
  rw [ByteArray.data_extract, Array.toList_extract, List.extract_eq_take_drop]
theorem ba_ext {a b : ByteArray} (h : a.data.toList = b.data.toList) : a = b := by
  obtain ⟨⟨a⟩⟩ := a
  obtain ⟨⟨b⟩⟩ := b
  simp only at h
  rw [h]
theorem size_list (s : ByteArray) : s.data.toList.length = s.size := rfl
section
variable {s t : ByteArray} {m : Nat} (h : Agree s t m)
include h
theorem Agree.symm : Agree t s m := ⟨h.2.1, h.1, h.2.2.symm⟩
theorem Agree.mono {k : Nat} (hk : k ≤ m) : Agree s t k := by
  refine ⟨Nat.le_trans hk h.1, Nat.le_trans hk h.2.1, ?_⟩
  have := congrArg (List.take k) h.2.2
  rwa [List.take_take, List.take_take, Nat.min_eq_left hk] at this
theorem Agree.by4 {k : Nat} (hk : k < m) : by4 s.data.toList k = by4 t.data.toList k := by
  unfold Fm.by4
  have e : ∀ l : List UInt8, l.getD k 0 = (l.take m).getD k 0 := fun l => by
    rw [List.getD_eq_getElem?_getD, List.getD_eq_getElem?_getD, List.getElem?_take, if_pos hk]
  rw [e s.data.toList, e t.data.toList, h.2.2]
theorem Agree.u4 {k : Nat} (hk : k + 4 ≤ m) : u4 s.data.toList k = u4 t.data.toList k := by
  unfold Fm.u4
  rw [h.by4 (k := k) (by omega), h.by4 (k := k + 1) (by omega), h.by4 (k := k + 2) (by omega), h.by4 (k := k + 3) (by omega)]
theorem Agree.extract {a b : Nat} (hb : b ≤ m) : s.extract a b = t.extract a b := by
  refine ba_ext ?_
  rw [ext_list, ext_list]
  have e : ∀ l : List UInt8, (l.drop a).take (b - a) = ((l.take m).drop a).take (b - a) := fun l => by
    rw [List.drop_take, List.take_take, Nat.min_eq_left (by omega)]
  rw [e s.data.toList, e t.data.toList, h.2.2]
theorem Agree.frame {p : Nat} (hg : GF s p) (ht : fto s p ≤ m) : GF t p ∧ fr t p = fr s p ∧ fto t p = fto s p := by
  have h9 := GF_to hg
  have e0 := h.by4 (k := p) (by omega)
  have e1 := h.u4 (k := p + 1) (by omega)
  have hfn : fn t p = fn s p := by unfold fn; rw [e1]
  have hft : fto t p = fto s p := by unfold fto; rw [hfn]
  have e2 := h.u4 (k := p + 5 + Fm.u4 s.data.toList (p + 1)) (by unfold fto fn at ht; omega)
  have e3 := h.extract (a := p) (b := p + 5 + Fm.u4 s.data.toList (p + 1)) (by unfold fto fn at ht; omega)
  refine ⟨?_, ?_, hft⟩
  · obtain ⟨g1, g2, g3, g4, g5⟩ := hg
    have hm := h.2.1
    refine ⟨by omega, by rw [← e0]; exact g2, by rw [← e1]; exact g3, by rw [← e1]; unfold fto fn at ht; omega, ?_⟩
    rw [← e1, ← e2, ← e3]; exact g5
  · unfold fr fbody
    rw [hft, hfn, e0, h.extract (a := p + 5) (b := p + 5 + fn s p) (by unfold fto at ht; omega)]
end
theorem agree_cut (s : ByteArray) (c : Nat) (hc : c ≤ s.size) : Agree s (s.extract 0 c) c := by
  refine ⟨hc, by rw [ByteArray.size_extract]; omega, ?_⟩
  rw [ext_list, List.drop_zero, Nat.sub_zero, List.take_take, Nat.min_self]
theorem agree_app (s x : ByteArray) (c : Nat) (hc : c ≤ s.size) : Agree s (s.extract 0 c ++ x) c := by
  refine ⟨hc, by rw [ByteArray.size_append, ByteArray.size_extract]; omega, ?_⟩
  rw [ByteArray.data_append, Array.toList_append, ext_list, List.drop_zero, Nat.sub_zero, List.take_append_of_le_length (by rw [List.length_take, size_list]; omega), List.take_take, Nat.min_self]

/-- A frame's block; the one that goes on. -/
def metaF (x : Fr) : Option Mt := match peekB x.2.1.data.toList with
  | some (_, raw, count, first, early, late, _) => if x.1 = 2 then some ⟨x.2.2.1, x.2.2.2 - x.2.2.1, raw, count, first, early, late⟩ else none
  | none => none
def goesB (h1 : Nat) (l : List Mt) (m : Mt) : Bool := decide (l.length < 1000 ∧ m.f = nextM h1 l ∧ lateM l ≤ m.e) && okM m
def good (h1 : Nat) (l : List Mt) (x : Fr) : Option Mt := match metaF x with
  | none => none
  | some m => if goesB h1 l m = true then (match dec x.2.1.data.toList with | none => none | some _ => some m) else none
theorem good_iff (h1 : Nat) (l : List Mt) (x : Fr) (m : Mt) : good h1 l x = some m ↔ metaF x = some m ∧ goesB h1 l m = true ∧ ∃ r, dec x.2.1.data.toList = some r := by
  unfold good
  rcases metaF x with _ | k
  · simp
  · by_cases hg : goesB h1 l k = true
    · simp only [hg, if_true]
      rcases dec x.2.1.data.toList with _ | r
      · simp
      · simp only [Option.some.injEq]
        exact ⟨fun e => ⟨e, e ▸ hg, r, rfl⟩, fun e => e.1⟩
    · simp only [hg]
      constructor
      · intro e; cases e
      · rintro ⟨e, h2, -⟩
        cases e
        exact absurd h2 hg
def run (h1 : Nat) : List Fr → List Mt → Nat → List Mt × Nat
  | [], l, e => (l, e)
  | x :: xs, l, e => match good h1 l x with
    | none => (l, e)
    | some m => run h1 xs (l ++ [m]) x.2.2.2
def rn (h1 : Nat) (s : ByteArray) (l : List Mt) (e : Nat) : List Mt × Nat := run h1 (frs s e) l e
theorem rn_step {h1 : Nat} {s : ByteArray} {l : List Mt} {e : Nat} {m : Mt} (hg : GF s e) (h : good h1 l (fr s e) = some m) : rn h1 s l e = rn h1 s (l ++ [m]) (fto s e) := by
  unfold rn
  rw [frs_yes hg, run, h]
  rfl
theorem rn_stop {h1 : Nat} {s : ByteArray} {l : List Mt} {e : Nat} (h : GF s e → good h1 l (fr s e) = none) : rn h1 s l e = (l, e) := by
  unfold rn
  by_cases hg : GF s e
  · rw [frs_yes hg, run, h hg]
  · rw [frs_no hg, run]
theorem rn_ind (h1 : Nat) (s : ByteArray) (P : List Mt → Nat → Prop) (stop : ∀ l e, (GF s e → good h1 l (fr s e) = none) → P l e)
    (step : ∀ l e m, GF s e → good h1 l (fr s e) = some m → P (l ++ [m]) (fto s e) → P l e) : ∀ l e, P l e := by
  have key : ∀ (n : Nat) (l : List Mt) (e : Nat), s.size - e ≤ n → P l e := by
    intro n
    induction n with
    | zero =>
      intro l e he
      exact stop l e fun hg => by have := GF_to hg; omega
    | succ n ih =>
      intro l e he
      by_cases hg : GF s e
      · rcases hm : good h1 l (fr s e) with _ | m
        · exact stop l e fun _ => hm
        · have := GF_to hg
          exact step l e m hg hm (ih _ _ (by omega))
      · exact stop l e fun h => absurd h hg
  exact fun l e => key _ l e (Nat.le_refl _)
theorem rn_pre (h1 : Nat) (s : ByteArray) : ∀ l e, ∃ l2, (rn h1 s l e).1 = l ++ l2 ∧ e ≤ (rn h1 s l e).2 ∧ (e ≤ s.size → (rn h1 s l e).2 ≤ s.size) := by
  refine rn_ind h1 s _ ?_ ?_
  · intro l e h
    rw [rn_stop h]
    exact ⟨[], by simp, Nat.le_refl _, fun h => h⟩
  · intro l e m hg h ⟨l2, i1, i2, i3⟩
    have := GF_to hg
    rw [rn_step hg h]
    exact ⟨m :: l2, by rw [i1]; simp, by omega, fun _ => i3 (by omega)⟩
/-- Where texts agree beyond the run's end, it gets there. -/
theorem rn_to (h1 : Nat) (s t : ByteArray) (k : Nat) (h : Agree s t k) : ∀ l e, (rn h1 s l e).2 ≤ k → rn h1 t l e = rn h1 t (rn h1 s l e).1 (rn h1 s l e).2 := by
  refine rn_ind h1 s _ ?_ ?_
  · intro l e hs _
    rw [rn_stop hs]
  · intro l e m hg hm ih hk
    rw [rn_step hg hm] at hk ⊢
    obtain ⟨l2, -, h2, -⟩ := rn_pre h1 s (l ++ [m]) (fto s e)
    obtain ⟨g1, g2, g3⟩ := h.frame hg (by omega)
    rw [rn_step g1 (by rw [g2]; exact hm), g3]
    exact ih hk
/-- The run over a beginning. -/
theorem rn_cut (h1 : Nat) (s t : ByteArray) (h : Agree s t t.size) : ∀ l e, e ≤ t.size →
    (∃ l2, (rn h1 s l e).1 = (rn h1 t l e).1 ++ l2) ∧ (rn h1 t l e).2 ≤ (rn h1 s l e).2 ∧ (rn h1 t l e).2 ≤ t.size := by
  refine rn_ind h1 s _ ?_ ?_
  · intro l e hs he
    have ht : rn h1 t l e = (l, e) := by
      refine rn_stop fun hg => ?_
      obtain ⟨g1, g2, g3⟩ := h.symm.frame hg (GF_to hg).2
      rw [← g2]; exact hs g1
    rw [rn_stop hs, ht]
    exact ⟨⟨[], by simp⟩, Nat.le_refl _, he⟩
  · intro l e m hg hm ih he
    by_cases hf : fto s e ≤ t.size
    · obtain ⟨g1, g2, g3⟩ := h.frame hg hf
      rw [rn_step hg hm, rn_step g1 (by rw [g2]; exact hm), g3]
      exact ih hf
    · have ht : rn h1 t l e = (l, e) := by
        refine rn_stop fun hg' => ?_
        obtain ⟨g1, g2, g3⟩ := h.symm.frame hg' (GF_to hg').2
        exact absurd (GF_to hg').2 (by rw [← g3]; exact hf)
      obtain ⟨l2, i1, i2, -⟩ := rn_pre h1 s l e
      rw [ht]
      exact ⟨⟨l2, i1⟩, i2, he⟩
theorem rn_end (h1 : Nat) (t : ByteArray) (l : List Mt) (e : Nat) (h : t.size ≤ e) : rn h1 t l e = (l, e) := rn_stop fun hg => by have := GF_to hg; omega

/-- A frame that was put stands there. -/
theorem u4_le (n : Nat) (hn : n < 4294967296) (a b : List UInt8) : u4 (a ++ (le 4 n ++ b)) a.length = n := by
  have e : ∀ k (hk : k < 4), by4 (a ++ (le 4 n ++ b)) (a.length + k) = by4 (le 4 n) k := by
    intro k hk
    unfold by4
    rw [List.getD_eq_getElem?_getD, List.getD_eq_getElem?_getD, List.getElem?_append_right (by omega), Nat.add_sub_cancel_left, List.getElem?_append_left (by rw [length_le]; omega)]
  have e0 := e 0 (by omega)
  unfold u4
  rw [show a.length = a.length + 0 from rfl, e0, Nat.add_zero, e 1 (by omega), e 2 (by omega), e 3 (by omega)]
  simp only [le, by4, List.getD_cons_zero, List.getD_cons_succ, UInt8.toNat_ofNat']
  omega
theorem size_frB (k : UInt8) (b : ByteArray) : (frB k b).size = b.size + 9 := by
  unfold frB
  rw [ByteArray.size_append, size_frA]
  show _ + (le 4 _).toArray.size = _
  rw [List.size_toArray, length_le]
theorem GF_put (pre : ByteArray) (k : UInt8) (b : ByteArray) (hk : 1 ≤ k.toNat ∧ k.toNat ≤ 4) (hb : b.size ≤ 60000) :
    GF (pre ++ frB k b) pre.size ∧ fr (pre ++ frB k b) pre.size = (k.toNat, b, pre.size, pre.size + (b.size + 9)) := by
  have hl : (pre ++ frB k b).data.toList = pre.data.toList ++ ([k] ++ (le 4 b.size ++ (b.data.toList ++ le 4 (crc (frA k b).data.toList)))) := by
    unfold frB frA
    simp only [ByteArray.data_append, Array.toList_append, List.append_assoc]
  have hla : (frA k b).data.toList = [k] ++ (le 4 b.size ++ b.data.toList) := by
    unfold frA
    simp only [ByteArray.data_append, Array.toList_append, List.append_assoc]
  have hsz : (pre ++ frB k b).size = pre.size + (b.size + 9) := by rw [ByteArray.size_append, size_frB]
  have hb4 : by4 (pre ++ frB k b).data.toList pre.size = k.toNat := by
    rw [hl]; unfold by4
    rw [List.getD_eq_getElem?_getD, List.getElem?_append_right (by rw [size_list]; omega), size_list, Nat.sub_self]; rfl
  have hu4 : u4 (pre ++ frB k b).data.toList (pre.size + 1) = b.size := by
    rw [hl, ← List.append_assoc]
    have := u4_le b.size (by omega) (pre.data.toList ++ [k]) (b.data.toList ++ le 4 (crc (frA k b).data.toList))
    rwa [List.length_append, size_list] at this
  have hfn : fn (pre ++ frB k b) pre.size = b.size := hu4
  have hex : ((pre ++ frB k b).extract pre.size (pre.size + 5 + b.size)).data.toList = (frA k b).data.toList := by
    have hla2 : (frA k b).data.toList.length = b.size + 5 := by rw [size_list, size_frA]
    rw [ext_list, hl, hla, List.drop_append_of_le_length (by rw [size_list]; omega), List.drop_of_length_le (by rw [size_list]; omega), List.nil_append]
    rw [hla] at hla2
    rw [← List.append_assoc, ← List.append_assoc, List.append_assoc [k], List.take_append_of_le_length (by omega), List.take_of_length_le (by omega)]
  have hcr : u4 (pre ++ frB k b).data.toList (pre.size + 5 + b.size) = crc (frA k b).data.toList := by
    rw [hl]
    have := u4_le (crc (frA k b).data.toList) (crc_lt _) (pre.data.toList ++ ([k] ++ (le 4 b.size ++ b.data.toList))) []
    have e : (pre.data.toList ++ ([k] ++ (le 4 b.size ++ b.data.toList))).length = pre.size + 5 + b.size := by
      simp only [List.length_append, size_list, length_le, List.length_singleton]; omega
    rw [e] at this
    simp only [List.append_assoc, List.append_nil] at this ⊢
    exact this
  have hfb : fbody (pre ++ frB k b) pre.size = b := by
    refine ba_ext ?_
    unfold fbody
    rw [hfn, ext_list, hl]
    have e : pre.data.toList ++ ([k] ++ (le 4 b.size ++ (b.data.toList ++ le 4 (crc (frA k b).data.toList)))) = (pre.data.toList ++ ([k] ++ le 4 b.size)) ++ (b.data.toList ++ le 4 (crc (frA k b).data.toList)) := by simp only [List.append_assoc]
    have e2 : (pre.data.toList ++ ([k] ++ le 4 b.size)).length = pre.size + 5 := by
      rw [List.length_append, List.length_append, size_list, length_le]; rfl
    rw [e, ← e2, List.drop_append_of_le_length (Nat.le_refl _), List.drop_length, List.nil_append, List.take_append_of_le_length (by rw [size_list]; omega), List.take_of_length_le (by rw [size_list]; omega)]
  refine ⟨⟨by omega, by rw [hb4]; exact hk, by rw [hu4]; exact hb, by rw [hu4]; omega, by rw [hu4, hex, hcr]⟩, ?_⟩
  unfold fr fto
  rw [hb4, hfb, hfn]
  congr 3
  omega
end Sn
end Go.Proofs.YtpbphhpldlckbaaGreat
namespace Go.Proofs.YtpbphhpldlckbaaGreat
namespace Sn
open Go.RowKit Bk
theorem mt_info : (Tryz.prog.info? 38).map (fun i => (i.zero, i.size, i.bytes)) = some (some (magg 0 0 0 0 0 0 0), 7, 56) := by kernel_rfl
def OwnM (w : World) (B : Nat) (v : Value) (l : List Mt) : Prop := w.ownsRow B 38 7 v l.length (fl7 l)
section
variable {w w' : World} {B C : Nat} {v : Value} {l : List Mt}
theorem OwnM.below (h : OwnM w B v l) (hb : Below C w w') (hC : w.heap.size ≤ C) : OwnM w' B v l := own_below h hb hC
theorem OwnM.lower (h : OwnM w B v l) (hC : C ≤ B) : OwnM w C v l := own_lower h hC
theorem OwnM.rd (h : OwnM w B v l) : ∃ A c, v = .slice A l.length c ∧ l.length ≤ c ∧ c ≤ maxLen ∧ Rd w w.heap.size 7 A l.length (fl7 l) := by
  obtain ⟨A, c, rfl, h1, h2⟩ := own_slice h
  exact ⟨A, c, rfl, h1, h2, Rd.of_own h⟩
theorem ownM_nil (w : World) (B : Nat) : OwnM w B (.slice none 0 0) [] := World.ownsRow_nil _ _ _ _
end
theorem step_append7 {ops : Array Oper} {o : Oper} {a : Act} {K : Act → World → Prop} {Q : Exit → Act → World → Prop} {E : Prop} {w0 : World} {B : Nat} {v : Value} {l : List Mt} (s x : Operand) (m : Mt)
    (hgd : o.guard = none) (ho : o.op = .call { callee := .builtin .append, args := #[s, x], argTypes := #[25, 25] })
    (hown : OwnM w0 B v l) (hl : l.length ≤ 1000000) (hB : B ≤ w0.heap.size) (hs : a.eval s = v) (hx : a.eval x = .slice (some ⟨w0.heap.size, 0, none⟩) 1 1)
    (h : ∀ g cap w', OwnM w' B (.slice (some ⟨g, 0, none⟩) (l.length + 1) cap) (l ++ [m]) → w0.grownBy w' v.ownBlock → (v.ownBlock = some g ∨ w0.heap.size ≤ g) → K (a.put o.dst (.slice (some ⟨g, 0, none⟩) (l.length + 1) cap)) w') :
    if Region.wanted o (yielded ops a.tmps) = true then Oper.wp Tryz.prog o a ((w0.alloc (.cells #[.int .i64 (m.a : Int), .int .i64 (m.s : Int), .int .i64 (m.r : Int), .int .i64 (m.c : Int), .int .i64 (m.f : Int), .int .i64 (m.e : Int), .int .i64 (m.l : Int)] 38)).drew) K Q else E := by
  obtain ⟨i0, hi, hz0, hz1, hz2⟩ := info_parts mt_info
  refine step_append_lies ((w0.alloc (.cells #[.int .i64 (m.a : Int), .int .i64 (m.s : Int), .int .i64 (m.r : Int), .int .i64 (m.c : Int), .int .i64 (m.f : Int), .int .i64 (m.e : Int), .int .i64 (m.l : Int)] 38)).drew) hgd s x 25 ho B 38 i0 (magg 0 0 0 0 0 0 0) 7 56 Tryz.underlying25 hi hz0 hz1 hz2 rfl (by omega) v l.length (fl7 l) hs (World.ownsRow.alloc hown _)
    ⟨w0.heap.size, 0, none⟩ 1 1 (cl7 m) hx rfl ?_ (by intro u hu; exact fl7_one [m] u (by simpa [fl7] using hu)) (by omega) (by simp only [maxLen]; omega) (by omega) (Nat.le_trans hB (by simp)) _ rfl ?_
  · intro j u hu
    rw [Addr.add_lit, Nat.zero_add]
    show (w0.alloc _).cell? _ = _
    rw [World.cell?_alloc_new]
    simpa [cl7] using hu
  intro g cap w' hown' hg hat hlt
  have hg0 : w0.grownBy (w0.alloc (.cells #[.int .i64 (m.a : Int), .int .i64 (m.s : Int), .int .i64 (m.r : Int), .int .i64 (m.c : Int), .int .i64 (m.f : Int), .int .i64 (m.e : Int), .int .i64 (m.l : Int)] 38)).drew v.ownBlock := have h := World.grownBy_alloc w0 (.cells #[.int .i64 (m.a : Int), .int .i64 (m.s : Int), .int .i64 (m.r : Int), .int .i64 (m.c : Int), .int .i64 (m.f : Int), .int .i64 (m.e : Int), .int .i64 (m.l : Int)] 38) v.ownBlock; ⟨h.os, h.tape, h.output, h.size, h.block⟩
  refine h g cap w' ?_ (hg0.trans hg) ?_
  · unfold OwnM; rw [fl7_append, List.length_append, show fl7 [m] = cl7 m from List.append_nil _]; exact hown'
  · rcases hat with e | e
    · exact .inl e
    · exact .inr (by rw [e]; simp)
end Sn
end Go.Proofs.YtpbphhpldlckbaaGreat
namespace Go.Proofs.YtpbphhpldlckbaaGreat
namespace Sn
open Go.RowKit Hd Fm Bk

theorem blocks_one (m : Mt) (w : World) : Calls Tryz.prog 20 #[.slice (some ⟨w.heap.size, 0, none⟩) 1 1] (w.alloc (.cells #[.int .i64 (m.a : Int), .int .i64 (m.s : Int), .int .i64 (m.r : Int), .int .i64 (m.c : Int), .int .i64 (m.f : Int), .int .i64 (m.e : Int), .int .i64 (m.l : Int)] 38))
    fun e w' => e = .returned (.int .i64 (if okM m = true then 0 else 211)) ∧ Below w.heap.size w w' := by
  have hrd : Rd (w.alloc (.cells #[.int .i64 (m.a : Int), .int .i64 (m.s : Int), .int .i64 (m.r : Int), .int .i64 (m.c : Int), .int .i64 (m.f : Int), .int .i64 (m.e : Int), .int .i64 (m.l : Int)] 38)) (w.alloc (.cells #[.int .i64 (m.a : Int), .int .i64 (m.s : Int), .int .i64 (m.r : Int), .int .i64 (m.c : Int), .int .i64 (m.f : Int), .int .i64 (m.e : Int), .int .i64 (m.l : Int)] 38)).heap.size 7 (some ⟨w.heap.size, 0, none⟩) 1 (fl7 [m]) :=
    Rd.of_own (World.ownsRow_lit (base := w.heap.size) (e := 38) (size := 7) w #[.int .i64 (m.a : Int), .int .i64 (m.s : Int), .int .i64 (m.r : Int), .int .i64 (m.c : Int), .int .i64 (m.f : Int), .int .i64 (m.e : Int), .int .i64 (m.l : Int)] 1 (Nat.le_refl _) (by simp [maxLen]) rfl)
  refine (blocks_any _ 1 1 [m] _ hrd (by omega)).mono fun e w' ⟨he, hb⟩ => ⟨?_, (ext_alloc w _).trans (hb.mono (ext_alloc w _).size)⟩
  rw [he]
  unfold blE okBl
  simp [rowM]
/-- What lies where scan.Tail keeps it. -/
structure Kp (w : World) (b4 b3 b10 : Nat) (i g f : Int) (A : Option Addr) (n c late : Nat) (l : List Mt) : Prop where
  row : Var w b4 25 (.slice A n c)
  hd : w.heap[b3]? = some (.cells #[.int .i64 i, .int .i64 g, .int .i64 f] 23 (0, 0))
  lt : Var w b10 3 (.int .i64 (late : Int))
  rd : Rd w w.heap.size 7 A n (fl7 l)
section
variable {w : World} {b4 b3 b10 : Nat} {i g f : Int} {A : Option Addr} {n c late : Nat} {l : List Mt} (h : Kp w b4 b3 b10 i g f A n c late l)
include h
theorem Kp.h0 : w.cell? ⟨b3, 0, none⟩ = some (.int .i64 i) := by rw [cell_of_row w b3 0 _ _ (0, 0) h.hd]; rfl
theorem Kp.h1 : w.cell? ⟨b3, 1, none⟩ = some (.int .i64 g) := by rw [cell_of_row w b3 1 _ _ (0, 0) h.hd]; rfl
theorem Kp.h2 : w.cell? ⟨b3, 2, none⟩ = some (.int .i64 f) := by rw [cell_of_row w b3 2 _ _ (0, 0) h.hd]; rfl
theorem Kp.ht : b3 < w.heap.size := (Array.getElem?_eq_some_iff.1 h.hd).1
theorem Kp.ext {w' : World} (hb : Below w.heap.size w w') : Kp w' b4 b3 b10 i g f A n c late l :=
  ⟨h.row.below hb h.row.lt, (hb.block b3 h.ht).trans h.hd, h.lt.below hb h.lt.lt, h.rd.ext hb⟩
end
set_option maxHeartbeats 6400000 in
set_option maxRecDepth 100000 in
theorem goes_any (m : Mt) (b4 b3 b10 : Nat) (i g f : Int) (h1 : Nat) (A : Option Addr) (n c : Nat) (l : List Mt) (w : World) (hf : f = h1) (ho : okBl l = true) (hk : Kp w b4 b3 b10 i g f A n c (lateM l) l) :
    Calls Tryz.prog 19 #[mv m, .pointer (some ⟨b4, 0, none⟩), .pointer (some ⟨b3, 0, none⟩), .pointer (some ⟨b10, 0, none⟩)] w fun e w' => e = .returned (.bool (goesB h1 l m)) ∧ Below w.heap.size w w' := by
  have mixed : Tryz.prog.follows .mixedOrders = true := by kernel_rfl
  have hln := mt_len hk.rd
  obtain ⟨hl0, -⟩ := okBl_row ho
  have hgo : goesB h1 l m = true ↔ (l.length < 1000 ∧ m.f = nextM h1 l ∧ lateM l ≤ m.e) ∧ okM m = true := by unfold goesB; rw [Bool.and_eq_true, decide_eq_true_eq]
  have HB := Lib.hid (ext_alloc w (.cells #[.int .i64 m.a, .int .i64 m.s, .int .i64 m.r, .int .i64 m.c, .int .i64 m.f, .int .i64 m.e, .int .i64 m.l] 38))
  have HM := Lib.hid (show Mb (w.alloc (.cells #[.int .i64 m.a, .int .i64 m.s, .int .i64 m.r, .int .i64 m.c, .int .i64 m.f, .int .i64 m.e, .int .i64 m.l] 38)) w.heap.size m.a m.s m.r m.c m.f m.e m.l from heap_alloc_new w _)
  have HK := Lib.hid (hk.ext (ext_alloc w (.cells #[.int .i64 m.a, .int .i64 m.s, .int .i64 m.r, .int .i64 m.c, .int .i64 m.f, .int .i64 m.e, .int .i64 m.l] 38)))
  have HNX := Lib.hid (fun w hr => next_any A n c i g f h1 l w hr (by omega) ho hf)
  have HB1 := Lib.hid (fun w => blocks_one m w)
  unfold hv at HNX
  generalize hG : goesB h1 l m = r at *
  have HR := Lib.hid hgo
  generalize nextM h1 l = X at *
  generalize lateM l = T at *
  rw [hln] at HR hl0
  clear hgo hk ho hf hG hln
  obtain ⟨ma, ms, mr, mc, mf, me, ml⟩ := m
  unfold mv magg
  dsimp only at *
  go_enter Tryz.func19, Tryz.ntmps19
  go_wp2_with fail
  generalize w.alloc (.cells #[.int .i64 ma, .int .i64 ms, .int .i64 mr, .int .i64 mc, .int .i64 mf, .int .i64 me, .int .i64 ml] 38) = w2 at *
  have l2 := HM.out.lt
  have k0 : ∀ q : Bw w2, q.to.cell? ⟨b4, 0, none⟩ = some (.slice A n c) := fun q => q.cell HK.out.row.lt HK.out.row.cell
  have k1 : ∀ q : Bw w2, q.to.cell? ⟨b3, 0, none⟩ = some (.int .i64 i) := fun q => q.cell HK.out.ht HK.out.h0
  have k2 : ∀ q : Bw w2, q.to.cell? ⟨b3, 1, none⟩ = some (.int .i64 g) := fun q => q.cell HK.out.ht HK.out.h1
  have k3 : ∀ q : Bw w2, q.to.cell? ⟨b3, 2, none⟩ = some (.int .i64 f) := fun q => q.cell HK.out.ht HK.out.h2
  have k4 : ∀ q : Bw w2, q.to.cell? ⟨b10, 0, none⟩ = some (.int .i64 T) := fun q => q.cell HK.out.lt.lt HK.out.lt.cell
  have b4' : ∀ q : Bw w2, q.to.cell? ⟨w.heap.size, 4, none⟩ = some (.int .i64 mf) := fun q => q.cell l2 HM.out.c4
  have b5' : ∀ q : Bw w2, q.to.cell? ⟨w.heap.size, 5, none⟩ = some (.int .i64 me) := fun q => q.cell l2 HM.out.c5
  by_cases c1 : n < 1000
  · have t1 : (n : Int) < 1000 := by omega
    by_cases c2 : mf = X
    · have t2 : ((mf : Int) == (X : Int)) = true := by rw [beq_iff_eq]; omega
      by_cases c3 : T ≤ me
      · have t3 : (T : Int) ≤ (me : Int) := by omega
        have HSO := Lib.hid (show ∀ wx, Below w2.heap.size w2 wx → (fun wx => Below w2.heap.size w2 wx ∧ wx.cell? ⟨b4, 0, none⟩ = some (.slice A n c) ∧ wx.cell? ⟨b3, 0, none⟩ = some (.int .i64 i) ∧ wx.cell? ⟨b3, 1, none⟩ = some (.int .i64 g) ∧ wx.cell? ⟨b3, 2, none⟩ = some (.int .i64 f) ∧ wx.cell? ⟨b10, 0, none⟩ = some (.int .i64 T) ∧ wx.cell? ⟨w.heap.size, 0, none⟩ = some (.int .i64 ma) ∧ wx.cell? ⟨w.heap.size, 1, none⟩ = some (.int .i64 ms) ∧ wx.cell? ⟨w.heap.size, 2, none⟩ = some (.int .i64 mr) ∧ wx.cell? ⟨w.heap.size, 3, none⟩ = some (.int .i64 mc) ∧ wx.cell? ⟨w.heap.size, 4, none⟩ = some (.int .i64 mf) ∧ wx.cell? ⟨w.heap.size, 5, none⟩ = some (.int .i64 me) ∧ wx.cell? ⟨w.heap.size, 6, none⟩ = some (.int .i64 ml)) wx from fun wx hb =>
          have q : Bw w2 := ⟨wx, hb⟩
          ⟨hb, (⟨wx, hb⟩ : Bw w2).cell HK.out.row.lt HK.out.row.cell, (⟨wx, hb⟩ : Bw w2).cell HK.out.ht HK.out.h0, (⟨wx, hb⟩ : Bw w2).cell HK.out.ht HK.out.h1, (⟨wx, hb⟩ : Bw w2).cell HK.out.ht HK.out.h2, (⟨wx, hb⟩ : Bw w2).cell HK.out.lt.lt HK.out.lt.cell,
            (⟨wx, hb⟩ : Bw w2).cell l2 HM.out.c0, (⟨wx, hb⟩ : Bw w2).cell l2 HM.out.c1, (⟨wx, hb⟩ : Bw w2).cell l2 HM.out.c2, (⟨wx, hb⟩ : Bw w2).cell l2 HM.out.c3, (⟨wx, hb⟩ : Bw w2).cell l2 HM.out.c4, (⟨wx, hb⟩ : Bw w2).cell l2 HM.out.c5, (⟨wx, hb⟩ : Bw w2).cell l2 HM.out.c6⟩)
        have HS0 := Lib.hid (HSO.out w2.drew ⟨rfl, rfl, rfl, Nat.le_refl _, fun _ _ => rfl⟩)
        have HN0 := Lib.hid (HNX.out w2.drew (HK.out.rd.ext (w' := w2.drew) ⟨rfl, rfl, rfl, Nat.le_refl _, fun _ _ => rfl⟩))
        have HV := Lib.hid (show okM ⟨ma, ms, mr, mc, mf, me, ml⟩ = r from Bool.eq_iff_iff.2 ⟨fun h => HR.out.2 ⟨⟨c1, c2, c3⟩, h⟩, fun h => (HR.out.1 h).2⟩)
        rcases hok : okM ⟨ma, ms, mr, mc, mf, me, ml⟩ with _ | _
        all_goals
          rw [hok] at HV HB1
          simp only [Bool.false_eq_true, if_false, if_true] at HB1
          clear hok c1 c2 c3 k0 k1 k2 k3 k4 b4' b5' HR
          go_region_held3 (fun wx => Below w2.heap.size w2 wx ∧ wx.cell? ⟨b4, 0, none⟩ = some (.slice A n c) ∧ wx.cell? ⟨b3, 0, none⟩ = some (.int .i64 i) ∧ wx.cell? ⟨b3, 1, none⟩ = some (.int .i64 g) ∧ wx.cell? ⟨b3, 2, none⟩ = some (.int .i64 f) ∧ wx.cell? ⟨b10, 0, none⟩ = some (.int .i64 T) ∧ wx.cell? ⟨w.heap.size, 0, none⟩ = some (.int .i64 ma) ∧ wx.cell? ⟨w.heap.size, 1, none⟩ = some (.int .i64 ms) ∧ wx.cell? ⟨w.heap.size, 2, none⟩ = some (.int .i64 mr) ∧ wx.cell? ⟨w.heap.size, 3, none⟩ = some (.int .i64 mc) ∧ wx.cell? ⟨w.heap.size, 4, none⟩ = some (.int .i64 mf) ∧ wx.cell? ⟨w.heap.size, 5, none⟩ = some (.int .i64 me) ∧ wx.cell? ⟨w.heap.size, 6, none⟩ = some (.int .i64 ml)) (first | assumption | exact HS0.out | exact HSO.out _ (hS5.1.trans ((ext_alloc _ _).mono hS5.1.size))) (first
            | (go_at_call 10; refine HN0.out.mono ?_; rintro e5 w5 ⟨rfl, hb5⟩; have hS5 := HSO.out _ (HS0.out.1.trans (hb5.mono HS0.out.1.size)))
            | (go_at_call 20; refine (HB1.out _).mono ?_; rintro e6 w6 ⟨rfl, hb6⟩; have hS6 := HSO.out _ (hS5.1.trans (hb6.mono hS5.1.size))))
          go_wp2_with fail
          go_ret
          exact ⟨by rw [← HV.out]; rfl, HB.out.trans (hS6.1.mono HB.out.size)⟩
      · have t3 : ¬ (T : Int) ≤ (me : Int) := by omega
        have HF := Lib.hid (show false = r by rcases r with _ | _; rfl; exact absurd (HR.out.1 rfl).1.2.2 c3)
        clear c1 c2 c3
        refine wp_region_quiet_below (by assumption) (by kernel_rfl) ?_
        repeat (first | go_big_quiet_skip | quiet_step (first | (go_at_call 10; refine below_of (HNX.out _ (HK.out.rd.ext (Bw.h _))))))
        refine wpQuiet_nil ?_
        intro _ hw'
        obtain ⟨q, rfl⟩ := hw'
        go_wp2_with fail
        go_ret
        exact ⟨by rw [← HF.out]; rfl, HB.out.trans (q.h.mono HB.out.size)⟩
    · have t2 : ((mf : Int) == (X : Int)) = false := by rw [beq_eq_false_iff_ne]; omega
      have HF := Lib.hid (show false = r by rcases r with _ | _; rfl; exact absurd (HR.out.1 rfl).1.2.1 c2)
      clear c1 c2
      refine wp_region_quiet_below (by assumption) (by kernel_rfl) ?_
      repeat (first | go_big_quiet_skip | quiet_step (first | (go_at_call 10; refine below_of (HNX.out _ (HK.out.rd.ext (Bw.h _))))))
      refine wpQuiet_nil ?_
      intro _ hw'
      obtain ⟨q, rfl⟩ := hw'
      go_wp2_with fail
      go_ret
      exact ⟨by rw [← HF.out]; rfl, HB.out.trans (q.h.mono HB.out.size)⟩
  · have t1 : ¬ (n : Int) < 1000 := by omega
    have HF := Lib.hid (show false = r by rcases r with _ | _; rfl; exact absurd (HR.out.1 rfl).1.1 c1)
    clear c1
    refine wp_region_quiet_below (by assumption) (by kernel_rfl) ?_
    repeat (first | go_big_quiet_skip | quiet_step (fail))
    refine wpQuiet_nil ?_
    intro _ hw'
    obtain ⟨q, rfl⟩ := hw'
    go_wp2_with fail
    go_ret
    exact ⟨by rw [← HF.out]; rfl, HB.out.trans (q.h.mono HB.out.size)⟩
end Sn
end Go.Proofs.YtpbphhpldlckbaaGreat
namespace Go.Proofs.YtpbphhpldlckbaaGreat
namespace Tk
open Go.RowKit
open Bt (Frm)

set_option maxHeartbeats 6400000 in
set_option maxRecDepth 100000 in
theorem caughtB_ok (w : World) (caps : Array Value) (G : World → Prop) (hG : ∀ w', G w' → Var w' w.heap.size 26 (.int .i64 0) ∧ Var w' (w.heap.size + 1) 3 (.int .i64 0))
    (hf : Calls Tryz.prog 61 caps (wC w) fun e w' => e = .returned (.tuple #[]) ∧ G w') :
    Calls Tryz.prog 64 #[.func (.func 61) #[] caps] w fun e w' => e = .returned (.tuple #[.int .i64 0, .int .i64 0]) ∧ ∃ w2, G w2 ∧ Keep w2 w' [w.heap.size, w.heap.size + 1] := by
  have mixed : Tryz.prog.follows .mixedOrders = true := by kernel_rfl
  have hmf : ∀ (fn : Fn) (first cap : Array Value) (w : World), (Instr.makeFunc fn first cap).run Tryz.prog w = .ok (.func fn first cap) w := fun _ _ _ _ => rfl
  have HF := Lib.hid hf
  have HG := Lib.hid hG
  clear hf hG
  go_enter_defers Tryz.func64, Tryz.ntmps64
  go_wp2_with fail
  refine HF.out.mono ?_
  rintro e1 w1 ⟨rfl, h1⟩
  obtain ⟨v1, v2⟩ := HG.out w1 h1
  have c1 := v1.cell
  have f1 := v1.frozen
  have c2 := v2.cell
  have f2 := v2.frozen
  have HX := Lib.hid (And.intro h1 (And.intro v1 v2))
  clear h1 v1 v2 HF HG
  go_wp2_with fail
  refine leaves_cons (f := 85) (args := #[.pointer (some ⟨w.heap.size, 0, none⟩), .pointer (some ⟨w.heap.size + 1, 0, none⟩)]) (by simp) (by simp [go_sem]) ?_
  refine (catch_idle ⟨w.heap.size, 0, none⟩ ⟨w.heap.size + 1, 0, none⟩ _).mono ?_
  rintro e u' w'' ⟨rfl, rfl, rfl⟩
  have n1 : w.heap.size ≠ w.heap.size + 1 := by omega
  have u1 := (HX.out.2.1.set_ (.int .i64 0)).far (p := ⟨w.heap.size + 1, 0, none⟩) n1 (.int .i64 0)
  have u2 := (HX.out.2.2.far (p := ⟨w.heap.size, 0, none⟩) (Ne.symm n1) (.int .i64 0)).set_ (.int .i64 0)
  have hk : Keep w1 ((w1.setCell ⟨w.heap.size, 0, none⟩ (.int .i64 0)).setCell ⟨w.heap.size + 1, 0, none⟩ (.int .i64 0)) [w.heap.size, w.heap.size + 1] :=
    ((Keep.refl w1 _).set ⟨w.heap.size, 0, none⟩ (.inl (by simp)) _).set ⟨w.heap.size + 1, 0, none⟩ (.inl (by simp)) _
  have d1 := u1.cell
  have d2 := u2.cell
  simp [Leaves, settle, results, Tryz.results64, go_sem, d1, d2]
  exact ⟨w1, HX.out.1, hk⟩

set_option maxHeartbeats 6400000 in
set_option maxRecDepth 100000 in
theorem caughtB_no (w : World) (caps : Array Value) (x : Int) (G : World → Prop) (hG : ∀ w', G w' → Var w' w.heap.size 26 (.int .i64 0) ∧ Var w' (w.heap.size + 1) 3 (.int .i64 0))
    (hf : Calls Tryz.prog 61 caps (wC w) fun e w' => (∃ p, e = .panicked [fault x p]) ∧ G w') :
    Calls Tryz.prog 64 #[.func (.func 61) #[] caps] w fun e w' => (∃ p : Int, e = .returned (.tuple #[.int .i64 x, .int .i64 p])) ∧ ∃ w2, G w2 ∧ Keep w2 w' [w.heap.size, w.heap.size + 1] := by
  have mixed : Tryz.prog.follows .mixedOrders = true := by kernel_rfl
  have hmf : ∀ (fn : Fn) (first cap : Array Value) (w : World), (Instr.makeFunc fn first cap).run Tryz.prog w = .ok (.func fn first cap) w := fun _ _ _ _ => rfl
  have HF := Lib.hid hf
  have HG := Lib.hid hG
  clear hf hG
  go_enter_defers Tryz.func64, Tryz.ntmps64
  go_wp2_with fail
  refine HF.out.mono ?_
  rintro e1 w1 ⟨⟨p, rfl⟩, h1⟩
  obtain ⟨v1, v2⟩ := HG.out w1 h1
  have n1 : w.heap.size ≠ w.heap.size + 1 := by omega
  refine leaves_cons (f := 85) (args := #[.pointer (some ⟨w.heap.size, 0, none⟩), .pointer (some ⟨w.heap.size + 1, 0, none⟩)]) (by simp) (by simp [go_sem]) ?_
  refine (catch_fault w.heap.size (w.heap.size + 1) x p w1 _ _ v1 v2 n1).mono ?_
  rintro e u' w'' ⟨rfl, rfl, u1, u2, hk⟩
  have d1 := u1.cell
  have d2 := u2.cell
  simp [Leaves, settle, results, Tryz.results64, go_sem, d1, d2]
  exact ⟨w1, h1, hk⟩
end Tk
end Go.Proofs.YtpbphhpldlckbaaGreat
namespace Go.Proofs.YtpbphhpldlckbaaGreat
namespace Tk
open Go.RowKit
open Bt (Frm)

set_option maxHeartbeats 3200000 in
theorem ttext1_ok (w : World) (b : Nat) (s : ByteArray) (h : Ta w b s 0) (hs : s.size ≤ 1000000) (hd : 1 ≤ s.size) :
    Calls Tryz.prog 83 #[.pointer (some ⟨b, 0, none⟩), .int .i64 1] w fun e w' => e = .returned (.string (s.extract 0 1)) ∧ Ta w' b s 1 ∧ Keep w w' [b] := by
  have mixed : Tryz.prog.follows .mixedOrders = true := by kernel_rfl
  have hL := left_any w b 0 s h hs (by omega)
  rw [Nat.sub_zero] at hL
  have HL := Lib.hid hL
  have H : Aside (Ta w b s 0) := h
  have hdp : ¬ (s.size : Int) < 1 := by omega
  have hlp : 0 < s.size := hd
  clear hL h
  go_enter Tryz.func83, Tryz.ntmps83
  go_wp2_with fail
  refine HL.out.mono ?_
  rintro e1 w1 ⟨rfl, m, rfl⟩
  have hta : Ta (w.drewN m) b s 0 := H.out
  have hc1 := hta.c1
  have hf1 := hta.fz 1
  have hta2 : Ta ((w.drewN m).setCell ⟨b, 1, none⟩ (.int .i64 1)) b s 1 := hta.set1 1
  have hkp : Keep w ((w.drewN m).setCell ⟨b, 1, none⟩ (.int .i64 1)) [b] := ((Keep.refl w _).drewN m).set ⟨b, 1, none⟩ (.inl (by simp)) _
  have HF := Lib.hid (And.intro hta2 hkp)
  have d0 := hta2.c0
  have d1 : ((w.drewN m).setCell ⟨b, 1, none⟩ (.int .i64 1)).cell? ⟨b, 1, none⟩ = some (.int .i64 1) := hta2.c1
  clear hta hkp hta2
  have hc1' : (w.drewN m).cell? ⟨b, 1, none⟩ = some (.int .i64 0) := hc1
  clear hc1
  go_wp2_with fail
  generalize (w.drewN m).setCell ⟨b, 1, none⟩ (.int .i64 1) = w2 at *
  have i1 : (1 : Int) ≤ (s.size : Int) := by omega
  clear hc1' hf1
  go_quiet (fail)
  go_wp2_with fail
  go_ret
  exact ⟨rfl, HF.out.1, HF.out.2.drewN _⟩
set_option maxHeartbeats 3200000 in
theorem ttext1_no (w : World) (b : Nat) (s : ByteArray) (h : Ta w b s 0) (hs : s.size ≤ 1000000) (hd : s.size = 0) :
    Calls Tryz.prog 83 #[.pointer (some ⟨b, 0, none⟩), .int .i64 1] w fun e w' => e = .panicked [fault 4 0] ∧ Keep w w' [b] := by
  have mixed : Tryz.prog.follows .mixedOrders = true := by kernel_rfl
  have hL := left_any w b 0 s h hs (by omega)
  rw [hd] at hL
  have HL := Lib.hid hL
  have HC := Lib.hid (fun m => check_no (w.drewN m) b 0 s 4 h (by decide))
  clear hL h hd
  go_enter Tryz.func83, Tryz.ntmps83
  go_wp2_with fail
  refine HL.out.mono ?_
  rintro e1 w1 ⟨rfl, m, rfl⟩
  go_wp2_with fail
  refine (HC.out m).mono ?_
  rintro e1 w1 ⟨rfl, rfl⟩
  exact ⟨rfl, rfl, (Keep.refl w _).drewN m⟩
set_option maxHeartbeats 3200000 in
theorem byte_ok (w : World) (b : Nat) (s : ByteArray) (h : Ta w b s 0) (hs : s.size ≤ 1000000) (c : UInt8) (r : List UInt8) (hc : s.data.toList = c :: r) :
    Calls Tryz.prog 62 #[.pointer (some ⟨b, 0, none⟩)] w fun e w' => e = .returned (.int .i64 (c.toNat : Int)) ∧ Ta w' b s 1 ∧ Keep w w' [b] := by
  have mixed : Tryz.prog.follows .mixedOrders = true := by kernel_rfl
  have hd : 1 ≤ s.size := by
    have : s.data.toList.length = s.size := rfl
    rw [hc, List.length_cons] at this; omega
  have HT := Lib.hid (ttext1_ok w b s h hs hd)
  have hx : s.extract 0 1 = ⟨#[c]⟩ := by
    apply ByteArray.ext
    apply Array.ext'
    rw [ByteArray.data_extract, Array.toList_extract, hc]
    simp [List.extract_eq_take_drop]
  rw [hx] at HT
  have hcb := c.toNat_lt
  clear hx h hc hd
  go_enter Tryz.func62, Tryz.ntmps62
  go_wp2_with fail
  refine HT.out.mono ?_
  rintro e1 w1 ⟨rfl, hta, hk⟩
  have HX := Lib.hid (And.intro hta hk)
  clear hta hk
  go_wp2_with fail
  go_ret
  refine ⟨ret_int (k := .i64) ?_, HX.out⟩
  exact Vi.wrap64_nat c.toNat (by omega)
set_option maxHeartbeats 3200000 in
theorem byte_no (w : World) (b : Nat) (s : ByteArray) (h : Ta w b s 0) (hs : s.size ≤ 1000000) (hd : s.size = 0) :
    Calls Tryz.prog 62 #[.pointer (some ⟨b, 0, none⟩)] w fun e w' => e = .panicked [fault 4 0] ∧ Keep w w' [b] := by
  have mixed : Tryz.prog.follows .mixedOrders = true := by kernel_rfl
  have HT := Lib.hid (ttext1_no w b s h hs hd)
  clear h hd
  go_enter Tryz.func62, Tryz.ntmps62
  go_wp2_with fail
  refine HT.out.mono ?_
  rintro e1 w1 ⟨rfl, hk⟩
  exact ⟨rfl, rfl, hk⟩
end Tk
end Go.Proofs.YtpbphhpldlckbaaGreat
namespace Go.Proofs.YtpbphhpldlckbaaGreat
namespace Rd
open Go.RowKit Vi Bd

def jS (l : List (Int × Int × ByteArray)) : ByteArray := if jE l = 0 then ⟨(joinB l).toArray⟩ else ⟨#[]⟩
theorem jS_ok {l : List (Int × Int × ByteArray)} (h : jE l = 0) : jS l = ⟨(joinB l).toArray⟩ := if_pos h
theorem jS_no {l : List (Int × Int × ByteArray)} (h : jE l ≠ 0) : jS l = ⟨#[]⟩ := if_neg h
theorem recB_le (r : Int × Int × ByteArray) (h : ok1 r = true) : (recB r).length ≤ 2027 := by
  rw [ok1_iff] at h
  have l1 := length_putV_le r.1.toNat 8 (by omega)
  have l2 := length_putV_le r.2.1.toNat 8 (by omega)
  have l3 := length_putV_le r.2.2.size 8 (by omega)
  have : r.2.2.data.toList.length = r.2.2.size := rfl
  unfold recB; simp only [List.length_append]; omega
theorem joinB_append (a b : List (Int × Int × ByteArray)) : joinB (a ++ b) = joinB a ++ joinB b := List.flatMap_append ..
theorem joinB_take {l : List (Int × Int × ByteArray)} {k : Nat} {r : Int × Int × ByteArray} (h : l[k]? = some r) : joinB (l.take (k + 1)) = joinB (l.take k) ++ recB r := by
  have e : l.take (k + 1) = l.take k ++ [r] := by rw [List.take_add_one, h]; rfl
  rw [e, joinB_append]; simp [joinB]
theorem joinB_le (l : List (Int × Int × ByteArray)) (k : Nat) : (joinB (l.take k)).length ≤ (joinB l).length := by
  conv => rhs; rw [← List.take_append_drop k l, joinB_append, List.length_append]
  omega

set_option maxHeartbeats 6400000 in
set_option maxRecDepth 100000 in
theorem join_any (A : Option Addr) (n c : Nat) (l : List (Int × Int × ByteArray)) (w : World) (hrd : Rd w w.heap.size 3 A n (fl3 l)) (hn : n ≤ 1000000) :
    Calls Tryz.prog 25 #[.slice A n c] w fun e w' => e = .returned (.tuple #[.string (jS l), .int .i64 (jE l)]) ∧ Below w.heap.size w w' := by
  have mixed : Tryz.prog.follows .mixedOrders = true := by kernel_rfl
  have hln := rd3_len hrd
  have HR := Lib.hid hrd
  have HW := Lib.hid (row_any A n c l w hrd (by omega))
  clear hrd
  by_cases hr : rowE none l = 0
  · have hok := rowE_ok l none hr
    have HOK := Lib.hid hok
    have hje : 20000 < (joinB l).length → jE l = 3 := fun h => by unfold jE; rw [if_neg (by simp [hr]), if_pos h]
    have hje2 : ¬ 20000 < (joinB l).length → jE l = 0 := fun h => by unfold jE; rw [if_neg (by simp [hr]), if_neg h]
    have HJ := Lib.hid (And.intro hje hje2)
    rw [hr] at HW
    have P := Lib.hid (fun q t d w h => rput_any q t d w h)
    clear hok hje hje2 hr
    go_enter Tryz.func25, Tryz.ntmps25
    go_wp2_with fail
    refine HW.out.mono ?_
    rintro e1 w1 ⟨rfl, hb1⟩
    have HB := Lib.hid (show Below w.heap.size w (w1.alloc (.cells #[.pointer none, .slice none 0 0] 93)) from hb1.alloc hb1.size _)
    have HBB := Lib.hid (bb_new w1)
    have hlt := hb1.size
    clear HW hb1
    go_wp2_with fail
    generalize hB : w1.heap.size = B at *
    have hB2 : B ≤ (w1.alloc (.cells #[.pointer none, .slice none 0 0] 93)).heap.size := by simp; omega
    clear hB
    generalize w1.alloc (.cells #[.pointer none, .slice none 0 0] 93) = w4 at *
    go_loopw [17] (fun v wr => ∃ k : Nat, v = .int .i64 k ∧ k ≤ n ∧ Hid (Bb wr B B (joinB (l.take k)) ∧ Below B w4 wr ∧ B ≤ wr.heap.size ∧ (joinB (l.take k)).length ≤ 20000)) (fun v _ => n - (intOf v).toNat)
    case atStart => exact ⟨0, by go_num, by omega, HBB.out, Below.refl _ _, hB2, by simp [joinB]⟩
    case round =>
      obtain ⟨k, rfl, hk, HX⟩ := hrel
      by_cases hkn : k < n
      · have hbw := HB.out.trans (HX.out.2.1.mono hlt)
        obtain ⟨ad, q, t, d, rfl, hbk, hx, hc0, hc1, hc2⟩ := rec3 (HR.out.below hbw) hkn
        have ho : ok1 (q, t, d) = true := HOK.out _ (List.mem_of_getElem? hx)
        have hoo := ho
        rw [ok1_iff] at hoo
        obtain ⟨q, rfl⟩ := Int.eq_ofNat_of_zero_le (show 0 ≤ q by have := hoo.1; simp only at this; omega)
        obtain ⟨t, rfl⟩ := Int.eq_ofNat_of_zero_le (show 0 ≤ t by have := hoo.2.2.1; simp only at this; omega)
        clear hoo hbw
        have hle := recB_le _ ho
        have HT := Lib.hid (joinB_take hx)
        have hlen := HX.out.2.2.2
        have HL := Lib.hid (joinB_le l (k + 1))
        go_wp2_with fail
        refine (P.out q t d _ ho).mono ?_
        rintro e2 w2 ⟨rfl, hb2⟩
        obtain ⟨sb, hsb⟩ : ∃ sb : ByteArray, sb = ⟨(recB ((q : Int), (t : Int), d)).toArray⟩ := ⟨_, rfl⟩
        have hs1 : sb.size = (recB ((q : Int), (t : Int), d)).length := by rw [hsb]; simp [ByteArray.size]
        have hs2 : sb.data.toList = recB ((q : Int), (t : Int), d) := by rw [hsb]
        have hT2 := congrArg List.length HT.out
        rw [List.length_append] at hT2
        rw [← hsb]
        have HBB2 := Lib.hid (Bb_below (HX.out.1.keep (w' := wr.alloc (.cells #[.int .i64 (q : Int), .int .i64 (t : Int), .string d] 40)) (by simp) fun k _ hk => Below.heap_alloc wr _ k hk) hb2)
        have HB2 := Lib.hid (ext_trans (ext_alloc wr _) hb2)
        have hLen := Lib.hid (len_any B B _ w2 HBB2.out)
        have HB3 := Lib.hid (HX.out.2.1.trans (HB2.out.mono HX.out.2.2.1))
        have hB3 : B ≤ w2.heap.size := by have := HB2.out.size; have := HX.out.2.2.1; omega
        have HBW := Lib.hid (HB.out.trans (HB3.out.mono hlt))
        have HS := Lib.hid hs2
        generalize hjl : (joinB (l.take k)).length = jl at *
        have hjl2 : jl ≤ 20000 := HX.out.2.2.2
        have HJL := Lib.hid hjl
        have hbd : sb.size ≤ 2027 := by omega
        have HT2 := Lib.hid hT2
        have HS1 := Lib.hid hs1
        clear hsb hs1 hs2 hT2 hb2 hle hjl P HOK ho HX hc0 hc1 hc2
        go_wp2_with fail
        by_cases hbig : 20000 < jl + sb.size
        · have hj3 : jE l = 3 := HJ.out.1 (by have := HL.out; have := HT2.out; have := HS1.out; omega)
          have hcmp : (20000 : Int) - (jl : Int) < (sb.size : Int) := by omega
          go_wp2_with fail
          refine hLen.out.mono ?_
          rintro e3 w3 ⟨rfl, rfl⟩
          go_wp2_with fail
          go_ret2
          rw [jS_no (by rw [hj3]; decide), hj3]
          exact ⟨rfl, HBW.out⟩
        · have hcmp : ¬ (20000 : Int) - (jl : Int) < (sb.size : Int) := by omega
          have HWr := Lib.hid (write_any B B (joinB (l.take k)) sb w2 HBB2.out (by have := HJL.out; omega) hB3)
          go_wp2_with fail
          refine hLen.out.mono ?_
          rintro e3 w3 ⟨rfl, rfl⟩
          go_wp2_with fail
          refine HWr.out.mono ?_
          rintro e4 w5 ⟨rfl, hbb5, hb5⟩
          rw [HS.out, ← HT.out] at hbb5
          have HX5 := Lib.hid (show Bb w5 B B (joinB (l.take (k + 1))) ∧ Below B w4 w5 ∧ B ≤ w5.heap.size ∧ (joinB (l.take (k + 1))).length ≤ 20000 from
            ⟨hbb5, HB3.out.trans hb5, by have := hb5.size; omega, by have := HT2.out; have := HS1.out; omega⟩)
          clear hbb5 hb5 HWr HBB2 HB3 HB2 hLen HS HT HT2 HS1 HJL hx
          go_wp2_with fail
          exact ⟨⟨k + 1, by go_num, by omega, HX5.out⟩, by simp [intOf]; omega⟩
      · obtain rfl : k = n := by omega
        have ht : l.take k = l := List.take_of_length_le (by omega)
        have HX2 := Lib.hid HX.out
        rw [ht] at HX2
        have hj0 : jE l = 0 := HJ.out.2 (by have := HX2.out.2.2.2; omega)
        have HJ0 := Lib.hid hj0
        have HS := Lib.hid (string_any B B _ wr HX2.out.1 HX2.out.2.2.1)
        clear HX ht hj0 P HOK
        go_wp2_with fail
        refine HS.out.mono ?_
        rintro e2 w2 ⟨rfl, hb2⟩
        have HB5 := Lib.hid (HB.out.trans ((HX2.out.2.1.trans hb2).mono hlt))
        clear hb2 HS
        go_wp2_with fail
        go_ret2
        rw [jS_ok HJ0.out, HJ0.out]
        exact ⟨rfl, HB5.out⟩
  · have hje : jE l = rowE none l := by unfold jE; rw [if_pos hr]
    have hjs := jS_no (l := l) (by rw [hje]; exact hr)
    rw [hje, hjs]
    generalize rowE none l = x at *
    have hb1 : (x != 0) = true := by rw [bne_iff_ne]; exact hr
    have hb2 : (x == 0) = false := by rw [beq_eq_false_iff_ne]; exact hr
    clear hje hjs
    go_enter Tryz.func25, Tryz.ntmps25
    go_wp2_with fail
    refine HW.out.mono ?_
    rintro e1 w1 ⟨rfl, hb1⟩
    have HB1 := Lib.hid hb1
    clear hb1
    go_wp2_with fail
    go_ret2
    exact ⟨rfl, HB1.out⟩
end Rd
end Go.Proofs.YtpbphhpldlckbaaGreat
namespace Go.Proofs.YtpbphhpldlckbaaGreat
namespace Rd
open Go.RowKit Vi Bd

theorem vget_ok (w : World) (p n len : Nat) (s : ByteArray) (hs : s.size ≤ 1000000) (hp : p ≤ s.size) (hg : gv 0 0 (s.data.toList.drop p) = (n, len, 0)) :
    Calls Tryz.prog 79 #[.string s, .int .i64 (p : Int)] w fun e w' => e = .returned (.tuple #[.int .i64 (n : Int), .int .i64 ((p + len : Nat) : Int), .int .i64 0]) ∧ w = w' := by
  have hl : s.data.toList.length = s.size := rfl
  have hgv : getV s.data.toList (p : Int) = ((n : Int), ((p + len : Nat) : Int), 0) := by
    unfold getV
    rw [if_neg (by rw [hl]; omega), Int.toNat_natCast, hg]
    simp
  have hv := get_any s (p : Int) w hs
  rw [hgv] at hv
  exact hv
theorem vget_no (w : World) (p : Nat) (s : ByteArray) (hs : s.size ≤ 1000000) (hp : p ≤ s.size) (hg : (gv 0 0 (s.data.toList.drop p)).2.2 ≠ 0) :
    Calls Tryz.prog 79 #[.string s, .int .i64 (p : Int)] w fun e w' => e = .returned (.tuple #[.int .i64 0, .int .i64 0, .int .i64 (gv 0 0 (s.data.toList.drop p)).2.2]) ∧ w = w' := by
  have hl : s.data.toList.length = s.size := rfl
  have hgv : getV s.data.toList (p : Int) = (0, 0, (gv 0 0 (s.data.toList.drop p)).2.2) := by
    unfold getV
    rw [if_neg (by rw [hl]; omega), Int.toNat_natCast, if_neg hg]
  have hv := get_any s (p : Int) w hs
  rw [hgv] at hv
  exact hv
theorem gv_in (s : ByteArray) (p n len : Nat) (hp : p ≤ s.size) (hg : gv 0 0 (s.data.toList.drop p) = (n, len, 0)) : n < 9223372036854775808 ∧ p + len ≤ s.size := by
  obtain ⟨m, rest, h1, h2, h3, h4, -⟩ := gv_some _ 0 0 n len hg
  have := congrArg List.length h1
  rw [List.length_drop, List.length_append] at this
  have hl : s.data.toList.length = s.size := rfl
  simp only [Nat.pow_zero, Nat.mul_one, Nat.zero_add, Nat.sub_zero] at h2 h3 h4
  have e : (128 : Nat) ^ 9 = 9223372036854775808 := by decide
  omega
theorem extract_mid (s : ByteArray) (p z : Nat) : s.extract p (p + z) = ⟨((s.data.toList.drop p).take z).toArray⟩ := by
  apply ByteArray.ext
  apply Array.ext'
  rw [ByteArray.data_extract]
  rw [Array.toList_extract]
  simp [List.extract_eq_take_drop]
/-- A block of three numbers. -/
def Row3 (w : World) (b : Nat) (x y z : Nat) : Prop := w.heap[b]? = some (.cells #[.int .i64 (x : Int), .int .i64 (y : Int), .int .i64 (z : Int)] 123 (0, 0))
section
variable {w w' : World} {b x y z : Nat}
theorem Row3.c0 (h : Row3 w b x y z) : w.cell? ⟨b, 0, none⟩ = some (.int .i64 (x : Int)) := by rw [cell_of_row w b 0 _ _ (0, 0) h]; rfl
theorem Row3.c1 (h : Row3 w b x y z) : w.cell? ⟨b, 1, none⟩ = some (.int .i64 (y : Int)) := by rw [cell_of_row w b 1 _ _ (0, 0) h]; rfl
theorem Row3.c2 (h : Row3 w b x y z) : w.cell? ⟨b, 2, none⟩ = some (.int .i64 (z : Int)) := by rw [cell_of_row w b 2 _ _ (0, 0) h]; rfl
theorem Row3.fz (h : Row3 w b x y z) (j : Nat) : w.frozen? ⟨b, j, none⟩ = false := frozen_of_row w b j _ _ h
theorem Row3.set0 (h : Row3 w b x y z) (u : Nat) : Row3 (w.setCell ⟨b, 0, none⟩ (.int .i64 (u : Int))) b u y z := by
  unfold Row3 at *
  simp [World.setCell, Array.getElem?_modify, h]
theorem Row3.set1 (h : Row3 w b x y z) (u : Nat) : Row3 (w.setCell ⟨b, 1, none⟩ (.int .i64 (u : Int))) b x u z := by
  unfold Row3 at *
  simp [World.setCell, Array.getElem?_modify, h]
theorem Row3.set2 (h : Row3 w b x y z) (u : Nat) : Row3 (w.setCell ⟨b, 2, none⟩ (.int .i64 (u : Int))) b x y u := by
  unfold Row3 at *
  simp [World.setCell, Array.getElem?_modify, h]
end
/-- The result's block. -/
def Res (w : World) (b : Nat) : Prop := w.heap[b]? = some (.cells #[.int .i64 0, .int .i64 0, .string ⟨#[]⟩] 40 (0, 0))
section
variable {w w' : World} {b : Nat}
theorem Res.c0 (h : Res w b) : w.cell? ⟨b, 0, none⟩ = some (.int .i64 0) := by rw [cell_of_row w b 0 _ _ (0, 0) h]; rfl
theorem Res.c1 (h : Res w b) : w.cell? ⟨b, 1, none⟩ = some (.int .i64 0) := by rw [cell_of_row w b 1 _ _ (0, 0) h]; rfl
theorem Res.c2 (h : Res w b) : w.cell? ⟨b, 2, none⟩ = some (.string ⟨#[]⟩) := by rw [cell_of_row w b 2 _ _ (0, 0) h]; rfl
theorem Res.fz (h : Res w b) (j : Nat) : w.frozen? ⟨b, j, none⟩ = false := frozen_of_row w b j _ _ h
end
theorem rec1_at {b r : List UInt8} {x y z : Nat} (h : fin 3 [] b = (0, [x, y, z], r)) :
    rec1 b = if x < 1 ∨ 1000000000 < x ∨ 1000000000 < y ∨ 2000 < z then none else if r.length < z then none else some (((x : Int), (y : Int), ⟨(r.take z).toArray⟩), r.drop z) := by
  simp only [rec1, h]
theorem rec1_err {b : List UInt8} (h : (fin 3 [] b).1 ≠ 0) : rec1 b = none := by
  unfold rec1
  split
  · rename_i he; rw [he] at h; exact absurd rfl h
  · rfl
theorem Res.fill {w w' : World} {b : Nat} (h : Res w b) (q t : Int) (d : ByteArray) (hw : w' = ((w.setCell ⟨b, 0, none⟩ (.int .i64 q)).setCell ⟨b, 1, none⟩ (.int .i64 t)).setCell ⟨b, 2, none⟩ (.string d)) :
    w'.cell? ⟨b, 0, none⟩ = some (.int .i64 q) ∧ w'.cell? ⟨b, 1, none⟩ = some (.int .i64 t) ∧ w'.cell? ⟨b, 2, none⟩ = some (.string d) := by
  have hh : w'.heap[b]? = some (.cells #[.int .i64 q, .int .i64 t, .string d] 40 (0, 0)) := by
    rw [hw]
    unfold Res at h
    simp [World.setCell, Array.getElem?_modify, h]
  exact ⟨by rw [cell_of_row w' b 0 _ _ (0, 0) hh]; rfl, by rw [cell_of_row w' b 1 _ _ (0, 0) hh]; rfl, by rw [cell_of_row w' b 2 _ _ (0, 0) hh]; rfl⟩
theorem below_fill {w w' : World} {b B : Nat} {v0 v1 v2 : Value} (h : Below B w w') (hb : B ≤ b) : Below B w (((w'.setCell ⟨b, 0, none⟩ v0).setCell ⟨b, 1, none⟩ v1).setCell ⟨b, 2, none⟩ v2) :=
  ((h.setCell (p := ⟨b, 0, none⟩) hb v0).setCell (p := ⟨b, 1, none⟩) hb v1).setCell (p := ⟨b, 2, none⟩) hb v2
/-- What record.Get tells. -/
def getQ (b : List UInt8) (p : Nat) (e : Ending) : Prop := (∃ r b', rec1 b = some (r, b') ∧ e = .returned (.tuple #[rv r, .int .i64 ((p + (recB r).length : Nat) : Int), .int .i64 0])) ∨
  (rec1 b = none ∧ ∃ x, e = .returned (.tuple #[rv (0, 0, ⟨#[]⟩), .int .i64 0, .int .i64 x]) ∧ x ≠ 0)

set_option maxHeartbeats 6400000 in
set_option maxRecDepth 100000 in
theorem rget_any (s : ByteArray) (p : Nat) (w : World) (hs : s.size ≤ 1000000) (hp : p ≤ s.size) :
    Calls Tryz.prog 67 #[.string s, .int .i64 (p : Int)] w fun e w' => getQ (s.data.toList.drop p) p e ∧ Below w.heap.size w w' := by
  have mixed : Tryz.prog.follows .mixedOrders = true := by kernel_rfl
  obtain ⟨F, hF⟩ : ∃ F, F = fin 3 [] (s.data.toList.drop p) := ⟨_, rfl⟩
  have HF := Lib.hid hF
  clear hF
  go_enter Tryz.func67, Tryz.ntmps67
  go_wp2_with fail
  go_step3
  go_wp2_with fail
  go_step3
  go_wp2_with fail
  have hr3 : Row3 ((w.alloc (.cells #[.int .i64 0, .int .i64 0, .string ⟨#[]⟩] 40)).alloc (.cells #[.int .i64 0, .int .i64 0, .int .i64 0] 123)) (w.heap.size + 1) 0 0 0 := by
    have := heap_alloc_new (w.alloc (.cells #[.int .i64 0, .int .i64 0, .string ⟨#[]⟩] 40)) (.cells #[.int .i64 0, .int .i64 0, .int .i64 0] 123)
    rwa [show (w.alloc (.cells #[.int .i64 0, .int .i64 0, .string ⟨#[]⟩] 40)).heap.size = w.heap.size + 1 by simp] at this
  have hrs : Res ((w.alloc (.cells #[.int .i64 0, .int .i64 0, .string ⟨#[]⟩] 40)).alloc (.cells #[.int .i64 0, .int .i64 0, .int .i64 0] 123)) w.heap.size :=
    (Below.heap_alloc _ _ w.heap.size (by simp)).trans (heap_alloc_new w _)
  have hbw : Below w.heap.size w ((w.alloc (.cells #[.int .i64 0, .int .i64 0, .string ⟨#[]⟩] 40)).alloc (.cells #[.int .i64 0, .int .i64 0, .int .i64 0] 123)) := ((Below.refl _ _).alloc (Nat.le_refl _) _).alloc (by simp) _
  generalize (w.alloc (.cells #[.int .i64 0, .int .i64 0, .string ⟨#[]⟩] 40)).alloc (.cells #[.int .i64 0, .int .i64 0, .int .i64 0] 123) = w0 at *
  have H0 := Lib.hid (And.intro hr3 (And.intro hrs hbw))
  clear hr3 hrs hbw
  go_loopw [1, 9] (fun a i wr => ∃ (k x y z p' : Nat), a = .int .i64 (p' : Int) ∧ i = .int .i64 (k : Int) ∧ k ≤ 3 ∧ p' ≤ s.size ∧ x < 9223372036854775808 ∧ y < 9223372036854775808 ∧ z < 9223372036854775808 ∧
    Hid (F = fin (3 - k) ([x, y, z].take k) (s.data.toList.drop p') ∧ Row3 wr (w.heap.size + 1) x y z ∧ Res wr w.heap.size ∧ Below w.heap.size w wr)) (fun _ i _ => 3 - (intOf i).toNat)
  case atStart => exact ⟨0, 0, 0, 0, p, rfl, rfl, by omega, hp, by omega, by omega, by omega, HF.out, H0.out⟩
  case round =>
    obtain ⟨k, x, y, z, p', rfl, rfl, hk, hp', hx, hy, hz, HX⟩ := hrel
    by_cases hk3 : k < 3
    · by_cases hg : (gv 0 0 (s.data.toList.drop p')).2.2 = 0
      · obtain ⟨u, len, hgv⟩ : ∃ u len, gv 0 0 (s.data.toList.drop p') = (u, len, 0) := ⟨_, _, by rw [← hg]⟩
        obtain ⟨hu, hlen⟩ := gv_in s p' u len hp' hgv
        have HG := Lib.hid (vget_ok wr p' u len s hs hp' hgv)
        have hstep : fin (3 - k) ([x, y, z].take k) (s.data.toList.drop p') = fin (3 - (k + 1)) ([x, y, z].take k ++ [u]) (s.data.toList.drop (p' + len)) := by
          rw [show 3 - k = (3 - (k + 1)) + 1 by omega, fin, if_neg (by simp [hg]), hgv, List.drop_drop]
        have HST := Lib.hid (HX.out.1.trans hstep)
        clear hstep hg hgv
        obtain rfl | rfl | rfl : k = 0 ∨ k = 1 ∨ k = 2 := by omega
        · have hc := HX.out.2.1.c0
          have hf := HX.out.2.1.fz 0
          have HN := Lib.hid (show Row3 (wr.setCell ⟨w.heap.size + 1, 0, none⟩ (.int .i64 (u : Int))) (w.heap.size + 1) u y z ∧ Res (wr.setCell ⟨w.heap.size + 1, 0, none⟩ (.int .i64 (u : Int))) w.heap.size ∧ Below w.heap.size w (wr.setCell ⟨w.heap.size + 1, 0, none⟩ (.int .i64 (u : Int))) from
            ⟨HX.out.2.1.set0 u, (Below.heap_setCell wr ⟨w.heap.size + 1, 0, none⟩ _ w.heap.size (by simp)).trans HX.out.2.2.1, HX.out.2.2.2.setCell (p := ⟨w.heap.size + 1, 0, none⟩) (by simp) _⟩)
          have HST2 := Lib.hid (show F = fin (3 - 1) ([u, y, z].take 1) (s.data.toList.drop (p' + len)) from HST.out)
          clear HX HST
          go_wp2_with fail
          refine HG.out.mono ?_
          rintro e1 w1 ⟨rfl, rfl⟩
          clear HG
          go_wp2
          exact ⟨⟨1, u, y, z, p' + len, by go_num, rfl, by omega, by omega, by omega, by omega, by omega, HST2.out, HN.out⟩, by simp [intOf]⟩
        · have hc := HX.out.2.1.c1
          have hf := HX.out.2.1.fz 1
          have HN := Lib.hid (show Row3 (wr.setCell ⟨w.heap.size + 1, 1, none⟩ (.int .i64 (u : Int))) (w.heap.size + 1) x u z ∧ Res (wr.setCell ⟨w.heap.size + 1, 1, none⟩ (.int .i64 (u : Int))) w.heap.size ∧ Below w.heap.size w (wr.setCell ⟨w.heap.size + 1, 1, none⟩ (.int .i64 (u : Int))) from
            ⟨HX.out.2.1.set1 u, (Below.heap_setCell wr ⟨w.heap.size + 1, 1, none⟩ _ w.heap.size (by simp)).trans HX.out.2.2.1, HX.out.2.2.2.setCell (p := ⟨w.heap.size + 1, 1, none⟩) (by simp) _⟩)
          have HST2 := Lib.hid (show F = fin (3 - 2) ([x, u, z].take 2) (s.data.toList.drop (p' + len)) from HST.out)
          clear HX HST
          go_wp2_with fail
          refine HG.out.mono ?_
          rintro e1 w1 ⟨rfl, rfl⟩
          clear HG
          go_wp2
          exact ⟨⟨2, x, u, z, p' + len, by go_num, rfl, by omega, by omega, by omega, by omega, by omega, HST2.out, HN.out⟩, by simp [intOf]⟩
        · have hc := HX.out.2.1.c2
          have hf := HX.out.2.1.fz 2
          have HN := Lib.hid (show Row3 (wr.setCell ⟨w.heap.size + 1, 2, none⟩ (.int .i64 (u : Int))) (w.heap.size + 1) x y u ∧ Res (wr.setCell ⟨w.heap.size + 1, 2, none⟩ (.int .i64 (u : Int))) w.heap.size ∧ Below w.heap.size w (wr.setCell ⟨w.heap.size + 1, 2, none⟩ (.int .i64 (u : Int))) from
            ⟨HX.out.2.1.set2 u, (Below.heap_setCell wr ⟨w.heap.size + 1, 2, none⟩ _ w.heap.size (by simp)).trans HX.out.2.2.1, HX.out.2.2.2.setCell (p := ⟨w.heap.size + 1, 2, none⟩) (by simp) _⟩)
          have HST2 := Lib.hid (show F = fin (3 - 3) ([x, y, u].take 3) (s.data.toList.drop (p' + len)) from HST.out)
          clear HX HST
          go_wp2_with fail
          refine HG.out.mono ?_
          rintro e1 w1 ⟨rfl, rfl⟩
          clear HG
          go_wp2
          exact ⟨⟨3, x, y, u, p' + len, by go_num, rfl, by omega, by omega, by omega, by omega, by omega, HST2.out, HN.out⟩, by simp [intOf]⟩
      · have HG := Lib.hid (vget_no wr p' s hs hp' hg)
        have hstep : (fin (3 - k) ([x, y, z].take k) (s.data.toList.drop p')).1 = (gv 0 0 (s.data.toList.drop p')).2.2 := by
          rw [show 3 - k = (3 - (k + 1)) + 1 by omega, fin, if_pos hg]
        have hno : rec1 (s.data.toList.drop p) = none := rec1_err (by rw [← HF.out, HX.out.1, hstep]; exact hg)
        have HNO := Lib.hid hno
        generalize hxx : (gv 0 0 (s.data.toList.drop p')).2.2 = xx at *
        have hb0 : (xx == 0) = false := by rw [beq_eq_false_iff_ne]; exact hg
        clear hstep hno hxx
        have cr0 := HX.out.2.2.1.c0
        have cr1 := HX.out.2.2.1.c1
        have cr2 := HX.out.2.2.1.c2
        have fr0 := HX.out.2.2.1.fz 0
        have fr1 := HX.out.2.2.1.fz 1
        have fr2 := HX.out.2.2.1.fz 2
        obtain rfl | rfl | rfl : k = 0 ∨ k = 1 ∨ k = 2 := by omega
        · have hc := HX.out.2.1.c0
          have hf := HX.out.2.1.fz 0
          have HRS := Lib.hid ((Below.heap_setCell wr ⟨w.heap.size + 1, 0, none⟩ (.int .i64 0) w.heap.size (by simp)).trans HX.out.2.2.1)
          have HB := Lib.hid (HX.out.2.2.2.setCell (p := ⟨w.heap.size + 1, 0, none⟩) (by simp) (.int .i64 0))
          clear HX
          go_wp2_with fail
          refine HG.out.mono ?_
          rintro e1 w1 ⟨rfl, rfl⟩
          clear HG
          go_wp2
          obtain ⟨e0, e1, e2⟩ := Res.fill HRS.out 0 0 ⟨#[]⟩ rfl
          rw [Exit.noGoto_ret]
          change bodyPost _ _ _ _ _ _
          refine bodyPost_ret (v := .tuple #[rv (0, 0, ⟨#[]⟩), .int .i64 0, .int .i64 xx]) ?_ rfl ?_
          · simp [results, go_sem, e0, e1, e2, rv]
          · exact ⟨.inr ⟨HNO.out, xx, rfl, hg⟩, below_fill HB.out (Nat.le_refl _)⟩
        · have hc := HX.out.2.1.c1
          have hf := HX.out.2.1.fz 1
          have HRS := Lib.hid ((Below.heap_setCell wr ⟨w.heap.size + 1, 1, none⟩ (.int .i64 0) w.heap.size (by simp)).trans HX.out.2.2.1)
          have HB := Lib.hid (HX.out.2.2.2.setCell (p := ⟨w.heap.size + 1, 1, none⟩) (by simp) (.int .i64 0))
          clear HX
          go_wp2_with fail
          refine HG.out.mono ?_
          rintro e1 w1 ⟨rfl, rfl⟩
          clear HG
          go_wp2
          obtain ⟨e0, e1, e2⟩ := Res.fill HRS.out 0 0 ⟨#[]⟩ rfl
          rw [Exit.noGoto_ret]
          change bodyPost _ _ _ _ _ _
          refine bodyPost_ret (v := .tuple #[rv (0, 0, ⟨#[]⟩), .int .i64 0, .int .i64 xx]) ?_ rfl ?_
          · simp [results, go_sem, e0, e1, e2, rv]
          · exact ⟨.inr ⟨HNO.out, xx, rfl, hg⟩, below_fill HB.out (Nat.le_refl _)⟩
        · have hc := HX.out.2.1.c2
          have hf := HX.out.2.1.fz 2
          have HRS := Lib.hid ((Below.heap_setCell wr ⟨w.heap.size + 1, 2, none⟩ (.int .i64 0) w.heap.size (by simp)).trans HX.out.2.2.1)
          have HB := Lib.hid (HX.out.2.2.2.setCell (p := ⟨w.heap.size + 1, 2, none⟩) (by simp) (.int .i64 0))
          clear HX
          go_wp2_with fail
          refine HG.out.mono ?_
          rintro e1 w1 ⟨rfl, rfl⟩
          clear HG
          go_wp2
          obtain ⟨e0, e1, e2⟩ := Res.fill HRS.out 0 0 ⟨#[]⟩ rfl
          rw [Exit.noGoto_ret]
          change bodyPost _ _ _ _ _ _
          refine bodyPost_ret (v := .tuple #[rv (0, 0, ⟨#[]⟩), .int .i64 0, .int .i64 xx]) ?_ rfl ?_
          · simp [results, go_sem, e0, e1, e2, rv]
          · exact ⟨.inr ⟨HNO.out, xx, rfl, hg⟩, below_fill HB.out (Nat.le_refl _)⟩
    · obtain rfl : k = 3 := by omega
      have hfin : fin 3 [] (s.data.toList.drop p) = (0, [x, y, z], s.data.toList.drop p') := HF.out.symm.trans HX.out.1
      have hrec := rec1_at hfin
      have hl : s.data.toList.length = s.size := rfl
      rw [List.length_drop, hl] at hrec
      have HREC := Lib.hid hrec
      have HFIN := Lib.hid hfin
      have c0 := HX.out.2.1.c0
      have c1 := HX.out.2.1.c1
      have c2 := HX.out.2.1.c2
      have cr0 := HX.out.2.2.1.c0
      have cr1 := HX.out.2.2.1.c1
      have cr2 := HX.out.2.2.1.c2
      have fr0 := HX.out.2.2.1.fz 0
      have fr1 := HX.out.2.2.1.fz 1
      have fr2 := HX.out.2.2.1.fz 2
      clear hrec hfin hl
      by_cases hbad : x < 1 ∨ 1000000000 < x ∨ 1000000000 < y ∨ 2000 < z
      · have hno : rec1 (s.data.toList.drop p) = none := by rw [HREC.out, if_pos hbad]
        have HNO := Lib.hid hno
        obtain ⟨e0, e1, e2⟩ := Res.fill HX.out.2.2.1 0 0 ⟨#[]⟩ rfl
        have HB := Lib.hid (HX.out.2.2.2)
        clear HX hno HREC HFIN
        by_cases h1 : (x : Int) < 1
        · skip
          go_wp2
          try rw [Exit.noGoto_ret]
          change bodyPost _ _ _ _ _ _
          refine bodyPost_ret (v := .tuple #[rv (0, 0, ⟨#[]⟩), .int .i64 0, .int .i64 150]) ?_ rfl ?_
          · simp [results, go_sem, e0, e1, e2, rv]
          · exact ⟨.inr ⟨HNO.out, 150, rfl, by decide⟩, below_fill HB.out (Nat.le_refl _)⟩
        by_cases h2 : (1000000000 : Int) < (x : Int)
        · skip
          go_wp2
          try rw [Exit.noGoto_ret]
          change bodyPost _ _ _ _ _ _
          refine bodyPost_ret (v := .tuple #[rv (0, 0, ⟨#[]⟩), .int .i64 0, .int .i64 150]) ?_ rfl ?_
          · simp [results, go_sem, e0, e1, e2, rv]
          · exact ⟨.inr ⟨HNO.out, 150, rfl, by decide⟩, below_fill HB.out (Nat.le_refl _)⟩
        by_cases h3 : (1000000000 : Int) < (y : Int)
        · skip
          go_wp2
          try rw [Exit.noGoto_ret]
          change bodyPost _ _ _ _ _ _
          refine bodyPost_ret (v := .tuple #[rv (0, 0, ⟨#[]⟩), .int .i64 0, .int .i64 150]) ?_ rfl ?_
          · simp [results, go_sem, e0, e1, e2, rv]
          · exact ⟨.inr ⟨HNO.out, 150, rfl, by decide⟩, below_fill HB.out (Nat.le_refl _)⟩
        have h4 : (2000 : Int) < (z : Int) := by omega
        go_wp2
        try rw [Exit.noGoto_ret]
        change bodyPost _ _ _ _ _ _
        refine bodyPost_ret (v := .tuple #[rv (0, 0, ⟨#[]⟩), .int .i64 0, .int .i64 150]) ?_ rfl ?_
        · simp [results, go_sem, e0, e1, e2, rv]
        · exact ⟨.inr ⟨HNO.out, 150, rfl, by decide⟩, below_fill HB.out (Nat.le_refl _)⟩
      have h1 : ¬ (x : Int) < 1 := by omega
      have h2 : ¬ (1000000000 : Int) < (x : Int) := by omega
      have h3 : ¬ (1000000000 : Int) < (y : Int) := by omega
      have h4 : ¬ (2000 : Int) < (z : Int) := by omega
      by_cases hsh : s.size - p' < z
      · have hno : rec1 (s.data.toList.drop p) = none := by rw [HREC.out, if_neg hbad, if_pos hsh]
        have HNO := Lib.hid hno
        obtain ⟨e0, e1, e2⟩ := Res.fill HX.out.2.2.1 0 0 ⟨#[]⟩ rfl
        have HB := Lib.hid (HX.out.2.2.2)
        have h5 : (s.size : Int) - (p' : Int) < (z : Int) := by omega
        clear HX hno HREC HFIN
        go_wp2
        try rw [Exit.noGoto_ret]
        change bodyPost _ _ _ _ _ _
        refine bodyPost_ret (v := .tuple #[rv (0, 0, ⟨#[]⟩), .int .i64 0, .int .i64 4]) ?_ rfl ?_
        · simp [results, go_sem, e0, e1, e2, rv]
        · exact ⟨.inr ⟨HNO.out, 4, rfl, by decide⟩, below_fill HB.out (Nat.le_refl _)⟩
      · have hyes : rec1 (s.data.toList.drop p) = some (((x : Int), (y : Int), ⟨((s.data.toList.drop p').take z).toArray⟩), (s.data.toList.drop p').drop z) := by rw [HREC.out, if_neg hbad, if_neg hsh]
        have HYES := Lib.hid hyes
        have h5 : ¬ (s.size : Int) - (p' : Int) < (z : Int) := by omega
        clear hyes HREC
        go_wp2
        have i1 : (p' : Int) ≤ (p' : Int) + (z : Int) := by omega
        have i2 : (p' : Int) + (z : Int) ≤ (s.size : Int) := by omega
        have i3 : ((p' : Int) + (z : Int)).toNat = p' + z := by omega
        have i4 : (0 : Int) ≤ (p' : Int) := by omega
        have i5 : IntKind.i64.wrap ((p' : Int) + (z : Int)) = (p' : Int) + (z : Int) := by rw [IntKind.wrap_i64]; omega
        have i6 : ((p' : Int)).toNat = p' := by omega
        go_region
        all_goals
          obtain ⟨e0, e1, e2⟩ := Res.fill HX.out.2.2.1 (x : Int) (y : Int) (s.extract p' (p' + z)) rfl
          have HB := Lib.hid (HX.out.2.2.2)
          have hex := extract_mid s p' z
          obtain ⟨hok, happ⟩ := rec1_some _ _ _ HYES.out
          have hlen := congrArg List.length happ
          have hl : s.data.toList.length = s.size := rfl
          rw [List.length_append, List.length_drop, List.length_drop, List.length_drop, hl] at hlen
          have HL := Lib.hid hlen
          have HEX := Lib.hid hex
          clear HX hlen happ hok hex hl
          go_wp2
          try rw [Exit.noGoto_ret]
          change bodyPost _ _ _ _ _ _
          refine bodyPost_ret (v := .tuple #[.agg #[.int .i64 (x : Int), .int .i64 (y : Int), .string (s.extract p' (p' + z))], .int .i64 ((p' : Int) + (z : Int)), .int .i64 0]) ?_ rfl ?_
          · simp [results, go_sem, e0, e1, e2]
          · refine ⟨.inl ⟨_, _, HYES.out, ?_⟩, below_drewN (n := 1) (below_fill HB.out (Nat.le_refl _))⟩
            rw [HEX.out]
            have := HL.out
            have e9 : (p' : Int) + (z : Int) = ((p + (recB ((x : Int), (y : Int), ⟨((s.data.toList.drop p').take z).toArray⟩)).length : Nat) : Int) := by omega
            rw [e9]
            rfl
end Rd
end Go.Proofs.YtpbphhpldlckbaaGreat
namespace Go.Proofs.YtpbphhpldlckbaaGreat
namespace Bk
open Go.RowKit Tk Vi Sq Rd
open Bt (Frm)

/-- A block's head at block b. -/
def Hb (w : World) (b : Nat) (raw count first early late md : Int) (bd : ByteArray) : Prop :=
  w.heap[b]? = some (.cells #[.int .i64 0, .int .i64 0, .int .i64 raw, .int .i64 count, .int .i64 first, .int .i64 early, .int .i64 late, .int .i64 md, .string bd] 87 (0, 0))
section
variable {w w' : World} {b : Nat} {raw count first early late md : Int} {bd : ByteArray} (h : Hb w b raw count first early late md bd)
include h
theorem Hb.lt : b < w.heap.size := (Array.getElem?_eq_some_iff.1 h).1
theorem Hb.c0 : w.cell? ⟨b, 0, none⟩ = some (.int .i64 0) := by rw [cell_of_row w b 0 _ _ (0, 0) h]; rfl
theorem Hb.c1 : w.cell? ⟨b, 1, none⟩ = some (.int .i64 0) := by rw [cell_of_row w b 1 _ _ (0, 0) h]; rfl
theorem Hb.c2 : w.cell? ⟨b, 2, none⟩ = some (.int .i64 raw) := by rw [cell_of_row w b 2 _ _ (0, 0) h]; rfl
theorem Hb.c3 : w.cell? ⟨b, 3, none⟩ = some (.int .i64 count) := by rw [cell_of_row w b 3 _ _ (0, 0) h]; rfl
theorem Hb.c4 : w.cell? ⟨b, 4, none⟩ = some (.int .i64 first) := by rw [cell_of_row w b 4 _ _ (0, 0) h]; rfl
theorem Hb.c5 : w.cell? ⟨b, 5, none⟩ = some (.int .i64 early) := by rw [cell_of_row w b 5 _ _ (0, 0) h]; rfl
theorem Hb.c6 : w.cell? ⟨b, 6, none⟩ = some (.int .i64 late) := by rw [cell_of_row w b 6 _ _ (0, 0) h]; rfl
theorem Hb.c7 : w.cell? ⟨b, 7, none⟩ = some (.int .i64 md) := by rw [cell_of_row w b 7 _ _ (0, 0) h]; rfl
theorem Hb.c8 : w.cell? ⟨b, 8, none⟩ = some (.string bd) := by rw [cell_of_row w b 8 _ _ (0, 0) h]; rfl
theorem Hb.fz (j : Nat) : w.frozen? ⟨b, j, none⟩ = false := frozen_of_row w b j _ _ h
theorem Hb.set2 (x : Int) : Hb (w.setCell ⟨b, 2, none⟩ (.int .i64 x)) b x count first early late md bd := by
  unfold Hb at *; simp [World.setCell, Array.getElem?_modify, h]
theorem Hb.set3 (x : Int) : Hb (w.setCell ⟨b, 3, none⟩ (.int .i64 x)) b raw x first early late md bd := by
  unfold Hb at *; simp [World.setCell, Array.getElem?_modify, h]
theorem Hb.set4 (x : Int) : Hb (w.setCell ⟨b, 4, none⟩ (.int .i64 x)) b raw count x early late md bd := by
  unfold Hb at *; simp [World.setCell, Array.getElem?_modify, h]
theorem Hb.set5 (x : Int) : Hb (w.setCell ⟨b, 5, none⟩ (.int .i64 x)) b raw count first x late md bd := by
  unfold Hb at *; simp [World.setCell, Array.getElem?_modify, h]
theorem Hb.set6 (x : Int) : Hb (w.setCell ⟨b, 6, none⟩ (.int .i64 x)) b raw count first early x md bd := by
  unfold Hb at *; simp [World.setCell, Array.getElem?_modify, h]
theorem Hb.set7 (x : Int) : Hb (w.setCell ⟨b, 7, none⟩ (.int .i64 x)) b raw count first early late x bd := by
  unfold Hb at *; simp [World.setCell, Array.getElem?_modify, h]
theorem Hb.set8 (x : ByteArray) : Hb (w.setCell ⟨b, 8, none⟩ (.string x)) b raw count first early late md x := by
  unfold Hb at *; simp [World.setCell, Array.getElem?_modify, h]
theorem Hb.far {p : Addr} (hp : b ≠ p.block) (u : Value) : Hb (w.setCell p u) b raw count first early late md bd := (Below.heap_setCell w p u b hp).trans h
theorem Hb.keep {L : List Nat} (hk : Keep w w' L) (hb : b ∉ L) : Hb w' b raw count first early late md bd := (hk.blk b (Array.getElem?_eq_some_iff.1 h).1 hb).trans h
theorem Hb.below {B : Nat} (hk : Below B w w') (hb : b < B) : Hb w' b raw count first early late md bd := (hk.block b hb).trans h
end
theorem Hb.new (w : World) : Hb (w.alloc (.cells #[.int .i64 0, .int .i64 0, .int .i64 0, .int .i64 0, .int .i64 0, .int .i64 0, .int .i64 0, .int .i64 0, .string ⟨#[]⟩] 87)) w.heap.size 0 0 0 0 0 0 ⟨#[]⟩ := heap_alloc_new w _

/-- The variables of block.peek while it takes. -/
structure Vp (w : World) (bV bT bH bF : Nat) (s : ByteArray) (p : Nat) (raw count first early late md : Int) (bd : ByteArray) : Prop where
  vV : Var w bV 117 (.pointer (some ⟨bT, 0, none⟩))
  ta : Ta w bT s p
  vF : Var w bF 95 (.func (.func 60) #[.pointer (some ⟨bT, 0, none⟩)] #[])
  hb : Hb w bH raw count first early late md bd
  ne : bV ≠ bT ∧ bV ≠ bH ∧ bV ≠ bF ∧ bT ≠ bH ∧ bT ≠ bF ∧ bH ≠ bF
section
variable {w w' : World} {bV bT bH bF p : Nat} {s : ByteArray} {raw count first early late md : Int} {bd : ByteArray} (h : Vp w bV bT bH bF s p raw count first early late md bd)
include h
theorem Vp.drew : Vp w.drew bV bT bH bF s p raw count first early late md bd := ⟨h.vV, h.ta, h.vF, h.hb, h.ne⟩
theorem Vp.keep (hk : Keep w w' []) : Vp w' bV bT bH bF s p raw count first early late md bd :=
  ⟨hk.var h.vV (by simp), hk.ta h.ta (by simp), hk.var h.vF (by simp), h.hb.keep hk (by simp), h.ne⟩
theorem Vp.set_p (q : Nat) : Vp (w.setCell ⟨bT, 1, none⟩ (.int .i64 (q : Int))) bV bT bH bF s q raw count first early late md bd := by
  obtain ⟨n1, n2, n3, n4, n5, n6⟩ := h.ne
  exact ⟨h.vV.far (p := ⟨bT, 1, none⟩) n1 _, h.ta.set1 q, h.vF.far (p := ⟨bT, 1, none⟩) (Ne.symm n5) _, h.hb.far (p := ⟨bT, 1, none⟩) (Ne.symm n4) _, h.ne⟩
/-- The head is written. -/
theorem Vp.put {raw' count' first' early' late' md' : Int} {bd' : ByteArray} (hk : Keep w w' [bH]) (hH : Hb w' bH raw' count' first' early' late' md' bd') : Vp w' bV bT bH bF s p raw' count' first' early' late' md' bd' := by
  obtain ⟨n1, n2, n3, n4, n5, n6⟩ := h.ne
  exact ⟨hk.var h.vV (by simpa using n2), hk.ta h.ta (by simpa using n4), hk.var h.vF (by simpa using Ne.symm n6), hH, h.ne⟩
/-- The taker goes on. -/
theorem Vp.went {q : Nat} (hk : Keep w w' [bT]) (hT : Ta w' bT s q) : Vp w' bV bT bH bF s q raw count first early late md bd := by
  obtain ⟨n1, n2, n3, n4, n5, n6⟩ := h.ne
  exact ⟨hk.var h.vV (by simpa using n1), hT, hk.var h.vF (by simpa using Ne.symm n5), h.hb.keep hk (by simpa using Ne.symm n4), h.ne⟩
end

/-- Why a head is none; 0: it is one. -/
def perr : List UInt8 → Int
  | [] => 4
  | _ :: b => (fin 5 [] b).1
/-- What is taken. -/
def PkA (s : ByteArray) (bT bH : Nat) (w : World) (e : Ending) (w' : World) : Prop := Keep w w' [bT, bH] ∧
  ((∃ (m : UInt8) (b' : List UInt8) (n1 n2 n3 n4 n5 : Nat) (r : ByteArray), s.data.toList = m :: b' ∧ fin 5 [] b' = (0, [n1, n2, n3, n4, n5], r.data.toList) ∧ e = .returned (.tuple #[]) ∧ Hb w' bH n1 n2 n3 n4 (lateOf n4 n5) m.toNat r) ∨
   (perr s.data.toList ≠ 0 ∧ ∃ q, e = .panicked [fault (perr s.data.toList) q]))
theorem num_any (w : World) (b p : Nat) (s : ByteArray) (h : Ta w b s p) (hs : s.size ≤ 1000000) (hp : p ≤ s.size) :
    Calls Tryz.prog 60 #[.pointer (some ⟨b, 0, none⟩)] w fun e w' =>
      (∃ n k, gv 0 0 (s.data.toList.drop p) = (n, k, 0) ∧ p + k ≤ s.size ∧ n < 9223372036854775808 ∧ e = .returned (.int .i64 (n : Int)) ∧ w' = w.setCell ⟨b, 1, none⟩ (.int .i64 ((p + k : Nat) : Int))) ∨
      ((gv 0 0 (s.data.toList.drop p)).2.2 ≠ 0 ∧ e = .panicked [fault (gv 0 0 (s.data.toList.drop p)).2.2 p] ∧ w = w') := by
  by_cases hg : (gv 0 0 (s.data.toList.drop p)).2.2 = 0
  · obtain ⟨n, k, hgv⟩ : ∃ n k, gv 0 0 (s.data.toList.drop p) = (n, k, 0) := ⟨_, _, by rw [← hg]⟩
    obtain ⟨hn, hk⟩ := gv_in s p n k hp hgv
    refine (num_ok w b p n k s h hs hp hgv).mono ?_
    rintro e w' ⟨he, hw⟩
    exact .inl ⟨n, k, hgv, hk, hn, he, hw⟩
  · refine (num_no w b p s h hs hp hg).mono ?_
    rintro e w' ⟨he, hw⟩
    exact .inr ⟨hg, he, hw⟩
/-- One number more. -/
theorem fin_go {b : List UInt8} {k n u : Nat} {acc : List Nat} (h : gv 0 0 b = (n, u, 0)) : fin (k + 1) acc b = fin k (acc ++ [n]) (b.drop u) := by
  rw [fin, if_neg (by simp [h]), h]
theorem fin_stop {b : List UInt8} {k : Nat} {acc : List Nat} (h : (gv 0 0 b).2.2 ≠ 0) : (fin (k + 1) acc b).1 = (gv 0 0 b).2.2 := by
  rw [fin, if_pos h]
end Bk
end Go.Proofs.YtpbphhpldlckbaaGreat
namespace Go.Proofs.YtpbphhpldlckbaaGreat
namespace Bk
open Go.RowKit Tk Vi Sq Rd
open Bt (Frm)

/-- Where the taking stands: k numbers are left. -/
def Pn (w0 w : World) (bV bT bH bF : Nat) (s : ByteArray) (b' : List UInt8) (k : Nat) (acc : List Nat) (p : Nat) (raw count first early late md : Int) (bd : ByteArray) : Prop :=
  Vp w bV bT bH bF s p raw count first early late md bd ∧ Keep w0 w [bT, bH] ∧ p ≤ s.size ∧ fin 5 [] b' = fin k acc (s.data.toList.drop p)
theorem Pn.num {w0 w : World} {bV bT bH bF p k : Nat} {s : ByteArray} {b' : List UInt8} {acc : List Nat} {raw count first early late md : Int} {bd : ByteArray} (m : UInt8) (hb : s.data.toList = m :: b')
    (h : Pn w0 w bV bT bH bF s b' (k + 1) acc p raw count first early late md bd) (hs : s.size ≤ 1000000) :
    Calls Tryz.prog 60 #[.pointer (some ⟨bT, 0, none⟩)] w fun e w' =>
      (∃ n q : Nat, n < 9223372036854775808 ∧ e = .returned (.int .i64 (n : Int)) ∧ w'.cell? ⟨bF, 0, none⟩ = some (.func (.func 60) #[.pointer (some ⟨bT, 0, none⟩)] #[]) ∧ Hid (Pn w0 w' bV bT bH bF s b' k (acc ++ [(n : Nat)]) q raw count first early late md bd)) ∨
      (Keep w0 w' [bT, bH] ∧ perr s.data.toList ≠ 0 ∧ ∃ q, e = .panicked [fault (perr s.data.toList) q]) := by
  obtain ⟨hv, hk, hp, hf⟩ := h
  refine (num_any w bT p s hv.ta hs hp).mono ?_
  rintro e w' (⟨n, u, hg, hu, hn, he, hw⟩ | ⟨hg, he, hw⟩)
  · subst hw
    have h2 := hv.set_p (p + u)
    refine .inl ⟨n, p + u, hn, he, h2.vF.cell, h2, hk.set ⟨bT, 1, none⟩ (.inl (by simp)) _, hu, ?_⟩
    rw [hf, fin_go hg, List.drop_drop]
  · subst hw
    have hpe : perr s.data.toList = (gv 0 0 (s.data.toList.drop p)).2.2 := by
      have : perr s.data.toList = (fin 5 [] b').1 := by rw [hb]; rfl
      rw [this, hf, fin_stop hg]
    exact .inr ⟨hk, by rw [hpe]; exact hg, p, by rw [hpe]; exact he⟩

set_option maxHeartbeats 6400000 in
set_option maxRecDepth 100000 in
theorem peek1_any (w : World) (bV bT bH bF : Nat) (s : ByteArray) (hV : Vp w bV bT bH bF s 0 0 0 0 0 0 0 ⟨#[]⟩) (hs : s.size ≤ 1000000) :
    Calls Tryz.prog 61 #[.pointer (some ⟨bV, 0, none⟩), .pointer (some ⟨bH, 0, none⟩), .pointer (some ⟨bF, 0, none⟩)] w fun e w' => PkA s bT bH w e w' := by
  have mixed : Tryz.prog.follows .mixedOrders = true := by kernel_rfl
  rcases hb : s.data.toList with _ | ⟨m, b'⟩
  · have hd : s.size = 0 := by
      have : s.data.toList.length = s.size := rfl
      rw [hb] at this; simpa using this.symm
    have HB := Lib.hid (byte_no w bT s hV.ta hs hd)
    have hcV := hV.vV.cell
    have HE := Lib.hid hb
    clear hV hb hd
    go_enter Tryz.func61, Tryz.ntmps61
    go_wp2_with fail
    refine HB.out.mono ?_
    rintro e1 w1 ⟨rfl, hk⟩
    exact ⟨rfl, hk.more (by simp), .inr (by rw [HE.out]; exact ⟨by decide, 0, rfl⟩)⟩
  · have hsz : 1 ≤ s.size := by
      have : s.data.toList.length = s.size := rfl
      rw [hb, List.length_cons] at this; omega
    have HB := Lib.hid (byte_ok w bT s hV.ta hs m b' hb)
    have hcV := hV.vV.cell
    have HE := Lib.hid hb
    have HV := Lib.hid hV
    obtain ⟨nVT, nVH, nVF, nTH, nTF, nHF⟩ := hV.ne
    clear hV hb
    go_enter Tryz.func61, Tryz.ntmps61
    go_wp2_with fail
    refine HB.out.mono ?_
    rintro e1 w1 ⟨rfl, hta, hk⟩
    have hv1 := HV.out.went hk hta
    have hc7 := hv1.hb.c7
    have hf7 := hv1.hb.fz 7
    have hk2 : Keep w1 (w1.setCell ⟨bH, 7, none⟩ (.int .i64 (m.toNat : Int))) [bH] := (Keep.refl w1 _).set ⟨bH, 7, none⟩ (.inl (by simp)) _
    have hv2 := hv1.put hk2 (hv1.hb.set7 (m.toNat : Int))
    have hp2 : Pn w (w1.setCell ⟨bH, 7, none⟩ (.int .i64 (m.toNat : Int))) bV bT bH bF s b' 5 [] 1 0 0 0 0 0 m.toNat ⟨#[]⟩ :=
      ⟨hv2, (hk.more (by simp)).trans (hk2.more (by simp)), hsz, by rw [HE.out]; rfl⟩
    have HP2 := Lib.hid hp2
    have hcF := hv2.vF.cell
    clear hta hk hv1 hk2 hv2 hp2 HB hcV
    go_wp2_with fail
    clear hc7 hf7
    generalize w1.setCell ⟨bH, 7, none⟩ (.int .i64 (m.toNat : Int)) = w2 at *
    have hSd : w2.drew.cell? ⟨bF, 0, none⟩ = some (.func (.func 60) #[.pointer (some ⟨bT, 0, none⟩)] #[]) := hcF
    have HSd := Lib.hid hSd
    have HP2d := Lib.hid (show Pn w w2.drew bV bT bH bF s b' 5 [] 1 0 0 0 0 0 m.toNat ⟨#[]⟩ from ⟨HP2.out.1.drew, HP2.out.2.1.drew, HP2.out.2.2⟩)
    clear hSd hcF HP2
    refine wp_region_held (S := fun wx => wx.cell? ⟨bF, 0, none⟩ = some (.func (.func 60) #[.pointer (some ⟨bT, 0, none⟩)] #[])) (by kernel_rfl) ?_
    change wpAnyH _ _ _ _ _ _ _ _ (World.drew _)
    refine wpAnyH_take (i := 0) (v := (.func (.func 60) #[.pointer (some ⟨bT, 0, none⟩)] #[])) rfl (by kernel_rfl) (by kernel_rfl) (by kernel_rfl) (fun _ _ _ h => h) (Or.inl ⟨by rfl, fun w hS => ?_⟩) HSd.out ?_
    · go_simp
    refine wpAnyH_take (i := 2) (v := (.func (.func 60) #[.pointer (some ⟨bT, 0, none⟩)] #[])) rfl (by kernel_rfl) (by kernel_rfl) (by kernel_rfl) (fun _ _ _ h => h) (Or.inl ⟨by rfl, fun w hS => ?_⟩) HSd.out ?_
    · go_simp
    refine wpAnyH_take (i := 4) (v := (.func (.func 60) #[.pointer (some ⟨bT, 0, none⟩)] #[])) rfl (by kernel_rfl) (by kernel_rfl) (by kernel_rfl) (fun _ _ _ h => h) (Or.inl ⟨by rfl, fun w hS => ?_⟩) HSd.out ?_
    · go_simp
    refine wpAnyH_take (i := 6) (v := (.func (.func 60) #[.pointer (some ⟨bT, 0, none⟩)] #[])) rfl (by kernel_rfl) (by kernel_rfl) (by kernel_rfl) (fun _ _ _ h => h) (Or.inl ⟨by rfl, fun w hS => ?_⟩) HSd.out ?_
    · go_simp
    refine wpAnyH_all (rs := [1]) (by kernel_rfl) (by simp) ?_
    intro i hi
    obtain rfl : i = 1 := by simpa using hi
    clear hi
    unfold wpOp
    go_simp
    refine Or.inl ((Pn.num m HE.out HP2d.out hs).mono ?_)
    rintro e3 v3 (⟨n1, q1, hn1, rfl, hS1, hA1⟩ | ⟨hkx, hnx, q, rfl⟩)
    rotate_left
    · exact ⟨rfl, hkx, .inr ⟨hnx, q, rfl⟩⟩
    refine ⟨hS1, ?_⟩
    clear HP2d
    refine wpAnyH_take (i := 8) (v := .pointer (some ⟨bH, 0, none⟩)) rfl (by kernel_rfl) (by kernel_rfl) (by kernel_rfl) (fun _ _ _ h => h) (Or.inl ⟨by rfl, fun w hS => ?_⟩) hS1 ?_
    · go_simp
    refine wpAnyH_take (i := 9) (v := .pointer (some ⟨bH, 2, none⟩)) rfl (by kernel_rfl) (by kernel_rfl) (by kernel_rfl) (fun _ _ _ h => h) (Or.inl ⟨by rfl, fun w hS => ?_⟩) hS1 ?_
    · go_simp
    refine wpAnyH_all (rs := [3]) (by kernel_rfl) (by simp) ?_
    intro i hi
    obtain rfl : i = 3 := by simpa using hi
    clear hi
    unfold wpOp
    go_simp
    refine Or.inl ((Pn.num m HE.out hA1.out hs).mono ?_)
    rintro e4 v4 (⟨n2, q2, hn2, rfl, hS2, hA2⟩ | ⟨hkx, hnx, q, rfl⟩)
    rotate_left
    · exact ⟨rfl, hkx, .inr ⟨hnx, q, rfl⟩⟩
    refine ⟨hS2, ?_⟩
    clear hA1
    refine wpAnyH_all (rs := [5]) (by kernel_rfl) (by simp) ?_
    intro i hi
    obtain rfl : i = 5 := by simpa using hi
    clear hi
    unfold wpOp
    go_simp
    refine Or.inl ((Pn.num m HE.out hA2.out hs).mono ?_)
    rintro e5 v5 (⟨n3, q3, hn3, rfl, hS3, hA3⟩ | ⟨hkx, hnx, q, rfl⟩)
    rotate_left
    · exact ⟨rfl, hkx, .inr ⟨hnx, q, rfl⟩⟩
    refine ⟨hS3, ?_⟩
    clear hA2
    refine wpAnyH_all (rs := [7]) (by kernel_rfl) (by simp) ?_
    intro i hi
    obtain rfl : i = 7 := by simpa using hi
    clear hi
    unfold wpOp
    go_simp
    refine Or.inl ((Pn.num m HE.out hA3.out hs).mono ?_)
    rintro e6 v6 (⟨n4, q4, hn4, rfl, hS4, hA4⟩ | ⟨hkx, hnx, q, rfl⟩)
    rotate_left
    · exact ⟨rfl, hkx, .inr ⟨hnx, q, rfl⟩⟩
    refine ⟨hS4, ?_⟩
    clear hA3
    have b0 := hA4.out.1.hb
    have c0 := b0.c2
    have f0 := b0.fz 2
    refine wpAnyH_all (rs := [10]) (by kernel_rfl) (by simp) ?_
    intro i hi
    obtain rfl : i = 10 := by simpa using hi
    clear hi
    unfold wpOp
    go_simp
    have b1 := b0.set2 (n1 : Int)
    have s1 : (v6.setCell ⟨bH, 2, none⟩ (.int .i64 (n1 : Int))).cell? ⟨bF, 0, none⟩ = some (.func (.func 60) #[.pointer (some ⟨bT, 0, none⟩)] #[]) := (World.cell?_setCell_other v6 ⟨bH, 2, none⟩ ⟨bF, 0, none⟩ _ (by intro e; injection e with e; exact nHF e)).trans hS4
    refine Or.inl ?_
    clear c0 f0
    refine wpAnyH_take (i := 11) (v := .pointer (some ⟨bH, 0, none⟩)) rfl (by kernel_rfl) (by kernel_rfl) (by kernel_rfl) (fun _ _ _ h => h) (Or.inl ⟨by rfl, fun w hS => ?_⟩) s1 ?_
    · go_simp
    refine wpAnyH_take (i := 12) (v := .pointer (some ⟨bH, 3, none⟩)) rfl (by kernel_rfl) (by kernel_rfl) (by kernel_rfl) (fun _ _ _ h => h) (Or.inl ⟨by rfl, fun w hS => ?_⟩) s1 ?_
    · go_simp
    have c1 := b1.c3
    have f1 := b1.fz 3
    refine wpAnyH_all (rs := [13]) (by kernel_rfl) (by simp) ?_
    intro i hi
    obtain rfl : i = 13 := by simpa using hi
    clear hi
    unfold wpOp
    go_simp
    have b2 := b1.set3 (n2 : Int)
    have s2 : ((v6.setCell ⟨bH, 2, none⟩ (.int .i64 (n1 : Int))).setCell ⟨bH, 3, none⟩ (.int .i64 (n2 : Int))).cell? ⟨bF, 0, none⟩ = some (.func (.func 60) #[.pointer (some ⟨bT, 0, none⟩)] #[]) := (World.cell?_setCell_other (v6.setCell ⟨bH, 2, none⟩ (.int .i64 (n1 : Int))) ⟨bH, 3, none⟩ ⟨bF, 0, none⟩ _ (by intro e; injection e with e; exact nHF e)).trans s1
    refine Or.inl ?_
    clear c1 f1
    refine wpAnyH_take (i := 14) (v := .pointer (some ⟨bH, 0, none⟩)) rfl (by kernel_rfl) (by kernel_rfl) (by kernel_rfl) (fun _ _ _ h => h) (Or.inl ⟨by rfl, fun w hS => ?_⟩) s2 ?_
    · go_simp
    refine wpAnyH_take (i := 15) (v := .pointer (some ⟨bH, 4, none⟩)) rfl (by kernel_rfl) (by kernel_rfl) (by kernel_rfl) (fun _ _ _ h => h) (Or.inl ⟨by rfl, fun w hS => ?_⟩) s2 ?_
    · go_simp
    have c2 := b2.c4
    have f2 := b2.fz 4
    refine wpAnyH_all (rs := [16]) (by kernel_rfl) (by simp) ?_
    intro i hi
    obtain rfl : i = 16 := by simpa using hi
    clear hi
    unfold wpOp
    go_simp
    have b3 := b2.set4 (n3 : Int)
    have s3 : (((v6.setCell ⟨bH, 2, none⟩ (.int .i64 (n1 : Int))).setCell ⟨bH, 3, none⟩ (.int .i64 (n2 : Int))).setCell ⟨bH, 4, none⟩ (.int .i64 (n3 : Int))).cell? ⟨bF, 0, none⟩ = some (.func (.func 60) #[.pointer (some ⟨bT, 0, none⟩)] #[]) := (World.cell?_setCell_other ((v6.setCell ⟨bH, 2, none⟩ (.int .i64 (n1 : Int))).setCell ⟨bH, 3, none⟩ (.int .i64 (n2 : Int))) ⟨bH, 4, none⟩ ⟨bF, 0, none⟩ _ (by intro e; injection e with e; exact nHF e)).trans s2
    refine Or.inl ?_
    clear c2 f2
    refine wpAnyH_take (i := 17) (v := .pointer (some ⟨bH, 0, none⟩)) rfl (by kernel_rfl) (by kernel_rfl) (by kernel_rfl) (fun _ _ _ h => h) (Or.inl ⟨by rfl, fun w hS => ?_⟩) s3 ?_
    · go_simp
    refine wpAnyH_take (i := 18) (v := .pointer (some ⟨bH, 5, none⟩)) rfl (by kernel_rfl) (by kernel_rfl) (by kernel_rfl) (fun _ _ _ h => h) (Or.inl ⟨by rfl, fun w hS => ?_⟩) s3 ?_
    · go_simp
    have c3 := b3.c5
    have f3 := b3.fz 5
    refine wpAnyH_all (rs := [19]) (by kernel_rfl) (by simp) ?_
    intro i hi
    obtain rfl : i = 19 := by simpa using hi
    clear hi
    unfold wpOp
    go_simp
    have b4 := b3.set5 (n4 : Int)
    have s4 : ((((v6.setCell ⟨bH, 2, none⟩ (.int .i64 (n1 : Int))).setCell ⟨bH, 3, none⟩ (.int .i64 (n2 : Int))).setCell ⟨bH, 4, none⟩ (.int .i64 (n3 : Int))).setCell ⟨bH, 5, none⟩ (.int .i64 (n4 : Int))).cell? ⟨bF, 0, none⟩ = some (.func (.func 60) #[.pointer (some ⟨bT, 0, none⟩)] #[]) := (World.cell?_setCell_other (((v6.setCell ⟨bH, 2, none⟩ (.int .i64 (n1 : Int))).setCell ⟨bH, 3, none⟩ (.int .i64 (n2 : Int))).setCell ⟨bH, 4, none⟩ (.int .i64 (n3 : Int))) ⟨bH, 5, none⟩ ⟨bF, 0, none⟩ _ (by intro e; injection e with e; exact nHF e)).trans s3
    refine Or.inl ?_
    clear c3 f3
    refine wpAnyH_done (by kernel_rfl) ?_ _
    have hk4 : Keep v6 ((((v6.setCell ⟨bH, 2, none⟩ (.int .i64 (n1 : Int))).setCell ⟨bH, 3, none⟩ (.int .i64 (n2 : Int))).setCell ⟨bH, 4, none⟩ (.int .i64 (n3 : Int))).setCell ⟨bH, 5, none⟩ (.int .i64 (n4 : Int))) [bH] := ((((Keep.refl v6 _).set ⟨bH, 2, none⟩ (.inl (by simp)) _).set ⟨bH, 3, none⟩ (.inl (by simp)) _).set ⟨bH, 4, none⟩ (.inl (by simp)) _).set ⟨bH, 5, none⟩ (.inl (by simp)) _
    have HP7 := Lib.hid (show Pn w ((((v6.setCell ⟨bH, 2, none⟩ (.int .i64 (n1 : Int))).setCell ⟨bH, 3, none⟩ (.int .i64 (n2 : Int))).setCell ⟨bH, 4, none⟩ (.int .i64 (n3 : Int))).setCell ⟨bH, 5, none⟩ (.int .i64 (n4 : Int))) bV bT bH bF s b' 1 ([] ++ [n1] ++ [n2] ++ [n3] ++ [n4]) q4 n1 n2 n3 n4 0 m.toNat ⟨#[]⟩ from ⟨hA4.out.1.put hk4 b4, hA4.out.2.1.trans (hk4.more (by simp)), hA4.out.2.2⟩)
    clear b0 b1 b2 b3 b4 s1 s2 s3 hA4 hS1 hS2 hS3 hS4 hk4
    have hcF := HP7.out.1.vF.cell
    generalize ((((v6.setCell ⟨bH, 2, none⟩ (.int .i64 (n1 : Int))).setCell ⟨bH, 3, none⟩ (.int .i64 (n2 : Int))).setCell ⟨bH, 4, none⟩ (.int .i64 (n3 : Int))).setCell ⟨bH, 5, none⟩ (.int .i64 (n4 : Int))) = w7 at *
    go_wp2_with fail
    refine (Pn.num m HE.out HP7.out hs).mono ?_
    rintro e8 w8 (⟨n5, q5, hn5, rfl, hS8, hA8⟩ | ⟨hkx, hnx, q, rfl⟩)
    rotate_left
    · exact ⟨rfl, hkx, .inr ⟨hnx, q, rfl⟩⟩
    have hcV8 := hA8.out.1.vV.cell
    have b8 := hA8.out.1.hb
    have c5 := b8.c5
    have c6 := b8.c6
    have f6 := b8.fz 6
    have B8 := Lib.hid b8
    clear b8 hS8 hcF HP7
    by_cases h1 : n5 ≤ 1000000000
    · by_cases h2 : n4 ≤ 1000000000
      · have i1 : (n5 : Int) ≤ 1000000000 := by omega
        have i2 : (n4 : Int) ≤ 1000000000 := by omega
        have hlo : ((n4 : Int) + (n5 : Int)) = ((lateOf n4 n5 : Nat) : Int) := by unfold lateOf; rw [if_pos (by omega)]; push_cast; rfl
        have HLO := Lib.hid hlo
        have hkA : Keep w8 ((w8.setCell ⟨bH, 6, none⟩ (.int .i64 9223372036854775807)).setCell ⟨bH, 6, none⟩ (.int .i64 ((n4 : Int) + (n5 : Int)))) [bH] := ((Keep.refl w8 _).set ⟨bH, 6, none⟩ (.inl (by simp)) _).set ⟨bH, 6, none⟩ (.inl (by simp)) _
        have HA := Lib.hid (And.intro (hA8.out.1.put hkA ((B8.out.set6 9223372036854775807).set6 ((n4 : Int) + (n5 : Int)))) (And.intro (hA8.out.2.1.trans (hkA.more (L' := [bT, bH]) (by simp))) ((B8.out.set6 9223372036854775807).set6 ((n4 : Int) + (n5 : Int)))))
        have HR := Lib.hid (rest_any ((w8.setCell ⟨bH, 6, none⟩ (.int .i64 9223372036854775807)).setCell ⟨bH, 6, none⟩ (.int .i64 ((n4 : Int) + (n5 : Int)))) bT q5 s HA.out.1.ta hs hA8.out.2.2.1)
        have hff : fin 5 [] b' = (0, [n1, n2, n3, n4, n5], s.data.toList.drop q5) := hA8.out.2.2.2
        have HFF := Lib.hid hff
        have hcVA : ((w8.setCell ⟨bH, 6, none⟩ (.int .i64 9223372036854775807)).setCell ⟨bH, 6, none⟩ (.int .i64 ((n4 : Int) + (n5 : Int)))).cell? ⟨bV, 0, none⟩ = some (.pointer (some ⟨bT, 0, none⟩)) := HA.out.1.vV.cell
        clear hlo hkA hA8 hff
        go_wp2_with fail
        refine HR.out.mono ?_
        rintro e9 w9 ⟨rfl, hfr⟩
        have hk9 : Keep ((w8.setCell ⟨bH, 6, none⟩ (.int .i64 9223372036854775807)).setCell ⟨bH, 6, none⟩ (.int .i64 ((n4 : Int) + (n5 : Int)))) w9 [bT] := Keep.of_frm hfr (by simp)
        have b9 := HA.out.2.2.keep hk9 (by simpa using Ne.symm nTH)
        have c8 := b9.c8
        have f8 := b9.fz 8
        have HK9 := Lib.hid (HA.out.2.1.trans (hk9.more (by simp)))
        obtain ⟨r, hr⟩ : ∃ r : ByteArray, r = ⟨(s.data.toList.drop q5).toArray⟩ := ⟨_, rfl⟩
        have hr2 : r.data.toList = s.data.toList.drop q5 := by rw [hr]
        rw [← hr]
        rw [← hr2] at HFF
        have HB9 := Lib.hid (b9.set8 r)
        rw [HLO.out] at HB9
        clear hr hr2 hfr hk9 b9 HR HA HLO c5 c6 f6 hcVA
        go_wp2_with fail
        go_end0
        exact ⟨HK9.out.set ⟨bH, 8, none⟩ (.inl (by simp)) _, .inl ⟨m, b', n1, n2, n3, n4, n5, r, HE.out, HFF.out, rfl, HB9.out⟩⟩
      · have i1 : (n5 : Int) ≤ 1000000000 := by omega
        have i2 : ¬ (n4 : Int) ≤ 1000000000 := by omega
        have hlo : 9223372036854775807 = ((lateOf n4 n5 : Nat) : Int) := by unfold lateOf; rw [if_neg (by omega)]; rfl
        have HLO := Lib.hid hlo
        have hkA : Keep w8 (w8.setCell ⟨bH, 6, none⟩ (.int .i64 9223372036854775807)) [bH] := (Keep.refl w8 _).set ⟨bH, 6, none⟩ (.inl (by simp)) _
        have HA := Lib.hid (And.intro (hA8.out.1.put hkA (B8.out.set6 9223372036854775807)) (And.intro (hA8.out.2.1.trans (hkA.more (L' := [bT, bH]) (by simp))) (B8.out.set6 9223372036854775807)))
        have HR := Lib.hid (rest_any (w8.setCell ⟨bH, 6, none⟩ (.int .i64 9223372036854775807)) bT q5 s HA.out.1.ta hs hA8.out.2.2.1)
        have hff : fin 5 [] b' = (0, [n1, n2, n3, n4, n5], s.data.toList.drop q5) := hA8.out.2.2.2
        have HFF := Lib.hid hff
        have hcVA : (w8.setCell ⟨bH, 6, none⟩ (.int .i64 9223372036854775807)).cell? ⟨bV, 0, none⟩ = some (.pointer (some ⟨bT, 0, none⟩)) := HA.out.1.vV.cell
        clear hlo hkA hA8 hff
        go_wp2_with fail
        refine HR.out.mono ?_
        rintro e9 w9 ⟨rfl, hfr⟩
        have hk9 : Keep (w8.setCell ⟨bH, 6, none⟩ (.int .i64 9223372036854775807)) w9 [bT] := Keep.of_frm hfr (by simp)
        have b9 := HA.out.2.2.keep hk9 (by simpa using Ne.symm nTH)
        have c8 := b9.c8
        have f8 := b9.fz 8
        have HK9 := Lib.hid (HA.out.2.1.trans (hk9.more (by simp)))
        obtain ⟨r, hr⟩ : ∃ r : ByteArray, r = ⟨(s.data.toList.drop q5).toArray⟩ := ⟨_, rfl⟩
        have hr2 : r.data.toList = s.data.toList.drop q5 := by rw [hr]
        rw [← hr]
        rw [← hr2] at HFF
        have HB9 := Lib.hid (b9.set8 r)
        rw [HLO.out] at HB9
        clear hr hr2 hfr hk9 b9 HR HA HLO c5 c6 f6 hcVA
        go_wp2_with fail
        go_end0
        exact ⟨HK9.out.set ⟨bH, 8, none⟩ (.inl (by simp)) _, .inl ⟨m, b', n1, n2, n3, n4, n5, r, HE.out, HFF.out, rfl, HB9.out⟩⟩
    · have i1 : ¬ (n5 : Int) ≤ 1000000000 := by omega
      have hlo : 9223372036854775807 = ((lateOf n4 n5 : Nat) : Int) := by unfold lateOf; rw [if_neg (by omega)]; rfl
      have HLO := Lib.hid hlo
      have hkA : Keep w8 (w8.setCell ⟨bH, 6, none⟩ (.int .i64 9223372036854775807)) [bH] := (Keep.refl w8 _).set ⟨bH, 6, none⟩ (.inl (by simp)) _
      have HA := Lib.hid (And.intro (hA8.out.1.put hkA (B8.out.set6 9223372036854775807)) (And.intro (hA8.out.2.1.trans (hkA.more (L' := [bT, bH]) (by simp))) (B8.out.set6 9223372036854775807)))
      have HR := Lib.hid (rest_any (w8.setCell ⟨bH, 6, none⟩ (.int .i64 9223372036854775807)) bT q5 s HA.out.1.ta hs hA8.out.2.2.1)
      have hff : fin 5 [] b' = (0, [n1, n2, n3, n4, n5], s.data.toList.drop q5) := hA8.out.2.2.2
      have HFF := Lib.hid hff
      have hcVA : (w8.setCell ⟨bH, 6, none⟩ (.int .i64 9223372036854775807)).cell? ⟨bV, 0, none⟩ = some (.pointer (some ⟨bT, 0, none⟩)) := HA.out.1.vV.cell
      clear hlo hkA hA8 hff
      go_wp2_with fail
      refine HR.out.mono ?_
      rintro e9 w9 ⟨rfl, hfr⟩
      have hk9 : Keep (w8.setCell ⟨bH, 6, none⟩ (.int .i64 9223372036854775807)) w9 [bT] := Keep.of_frm hfr (by simp)
      have b9 := HA.out.2.2.keep hk9 (by simpa using Ne.symm nTH)
      have c8 := b9.c8
      have f8 := b9.fz 8
      have HK9 := Lib.hid (HA.out.2.1.trans (hk9.more (by simp)))
      obtain ⟨r, hr⟩ : ∃ r : ByteArray, r = ⟨(s.data.toList.drop q5).toArray⟩ := ⟨_, rfl⟩
      have hr2 : r.data.toList = s.data.toList.drop q5 := by rw [hr]
      rw [← hr]
      rw [← hr2] at HFF
      have HB9 := Lib.hid (b9.set8 r)
      rw [HLO.out] at HB9
      clear hr hr2 hfr hk9 b9 HR HA HLO c5 c6 f6 hcVA
      go_wp2_with fail
      go_end0
      exact ⟨HK9.out.set ⟨bH, 8, none⟩ (.inl (by simp)) _, .inl ⟨m, b', n1, n2, n3, n4, n5, r, HE.out, HFF.out, rfl, HB9.out⟩⟩
end Bk
end Go.Proofs.YtpbphhpldlckbaaGreat
