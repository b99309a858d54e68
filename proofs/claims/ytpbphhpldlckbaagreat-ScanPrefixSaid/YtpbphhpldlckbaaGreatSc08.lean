/- Slices of pairs of numbers (structs of two cells) that the call itself makes. strings.Builder: copyCheck, WriteString. Bits, the highest first: numbers as bits, bytes as bits: plain lists, no program. Words by their lengths: what package canon computes, and that words come back: plain lists, no program. -/
import Derived.Test.YtpbphhpldlckbaaGreatSc07
import Derived.Test.YtpbphhpldlckbaaGreatSc01
namespace Go.Proofs.YtpbphhpldlckbaaGreat
open Go.RowKit

/-- A pair's two cells. -/
def cl2 (x : Int × Int) : List Value := [.int .i64 x.1, .int .i64 x.2]
def fl2 (l : List (Int × Int)) : List Value := l.flatMap cl2
theorem length_fl2 (l : List (Int × Int)) : (fl2 l).length = l.length * 2 := by
  induction l with
  | nil => rfl
  | cons x l ih =>
    have e : fl2 (x :: l) = .int .i64 x.1 :: .int .i64 x.2 :: fl2 l := rfl
    rw [e, List.length_cons, List.length_cons, List.length_cons, ih]; omega
theorem fl2_append (a b : List (Int × Int)) : fl2 (a ++ b) = fl2 a ++ fl2 b := List.flatMap_append ..
theorem fl2_at (l : List (Int × Int)) (k : Nat) (x : Int × Int) (h : l[k]? = some x) : (fl2 l)[2 * k]? = some (.int .i64 x.1) ∧ (fl2 l)[2 * k + 1]? = some (.int .i64 x.2) := by
  induction l generalizing k with
  | nil => simp at h
  | cons y l ih =>
    have e : fl2 (y :: l) = .int .i64 y.1 :: .int .i64 y.2 :: fl2 l := rfl
    rw [e]
    rcases k with _ | k
    · simp at h; subst h; exact ⟨rfl, rfl⟩
    · have := ih k (by simpa using h)
      rw [show 2 * (k + 1) = 2 * k + 1 + 1 by omega]
      simpa using this

/-- A slice of pairs of the type t that the call owns from block B on. -/
def Own2 (w : World) (B : Nat) (t : TypeId) (v : Value) (l : List (Int × Int)) : Prop := w.ownsRow B t 2 v l.length (fl2 l)

/-- What is known of a type of two numbers. -/
structure Pair2 (t ts : TypeId) : Prop where
  sl : Tryz.prog.underlying ts = some (.slice t)
  info : (Tryz.prog.info? t).map (fun i => (i.zero, i.size, i.bytes)) = some (some (.agg #[.int .i64 0, .int .i64 0]), 2, 16)

section
variable {ops : Array Oper} {rest : List Oper} {o : Oper} {a : Act} {Q : Exit → Act → World → Prop} {t ts : TypeId}

theorem append2 {s x : Operand} {B : Nat} {v : Value} {l : List (Int × Int)} {w0 : World} {y z : Int} (hp : Pair2 t ts) (hown : Own2 w0 B t v l) (hl : l.length ≤ 1099511627776) (hB : B ≤ w0.heap.size)
    (h : ∀ A' n' c' w', Hid (n' = l.length + 1) → Own2 w' B t (.slice A' n' c') (l ++ [(y, z)]) → Below B w0 w' → w0.grownBy w' v.ownBlock → wpList Tryz.prog ops Q rest (a.put o.dst (.slice A' n' c')) w')
    (hgd : o.guard = none := by exact rfl) (ho : o.op = .call { callee := .builtin .append, args := #[s, x], argTypes := #[ts, ts] } := by exact rfl)
    (hs : a.eval s = v := by exact rfl) (hx : a.eval x = .slice (some ⟨w0.heap.size, 0, none⟩) 1 1 := by exact rfl) :
    wpList Tryz.prog ops Q (o :: rest) a (w0.alloc (.cells #[.int .i64 y, .int .i64 z] t)) := by
  obtain ⟨i0, hi, hz0, hz1, hz2⟩ := info_parts hp.info
  refine wpList_append_own_at _ hgd s x ts ho B t i0 (.agg #[.int .i64 0, .int .i64 0]) 2 16 hp.sl hi hz0 hz1 hz2 rfl (by omega) v l.length (fl2 l) hs (hown.alloc _)
    ⟨w0.heap.size, 0, none⟩ 1 1 [.int .i64 y, .int .i64 z] hx rfl ?_ (by intro u hu; simp at hu; rcases hu with rfl | rfl <;> rfl) (by simp only [maxLen]; omega) (by omega) (by simp; omega) ?_
  · intro j u hu
    rw [Addr.add_lit, Nat.zero_add, World.cell?_alloc_new]
    simpa using hu
  intro v' w' hown' hg _ hat
  have hg0 : w0.grownBy w' v.ownBlock := (World.grownBy_alloc w0 _ v.ownBlock).trans hg
  have hlt := World.ownsRow.lt hown
  obtain ⟨A', c', rfl, _, _⟩ := own_slice hown'
  refine h A' _ c' w' rfl ?_ ((Below.refl _ _).grown hg0 hB (fun k hk => (hlt k hk).1)) hg0
  unfold Own2
  rw [List.length_append, fl2_append]
  exact hown'
end
end Go.Proofs.YtpbphhpldlckbaaGreat
namespace Go.Proofs.YtpbphhpldlckbaaGreat
namespace Bd
open Go.RowKit

/-- A builder at block b that holds bytes. -/
def Bb (w : World) (B b : Nat) (l : List UInt8) : Prop := Lib.IsBuilder 93 5 B b (bv l) w
theorem bb_size : (Tryz.prog.info? 93).map (·.size) = some 2 := by kernel_rfl
theorem bb_lies : liesAt Tryz.prog Tryz.prog.depth 93 (2 / Tryz.prog.cellsOf 93) 0 93 1 = true := by kernel_rfl
theorem bb_ne : 93 ≠ 5 := by decide
theorem bb_u : Tryz.prog.underlying 91 = some (.pointer 93) := by kernel_rfl
theorem bb_p : Tryz.prog.underlying 154 = some .unsafePointer := by kernel_rfl

set_option maxHeartbeats 1600000 in
set_option maxRecDepth 100000 in
theorem copyCheck_used (b : Nat) (w : World) (h0 : w.cell? ⟨b, 0, none⟩ = some (.pointer (some ⟨b, 0, none⟩))) :
    Calls Tryz.prog 68 #[.pointer (some ⟨b, 0, none⟩)] w fun e w' => e = .returned (.tuple #[]) ∧ w' = w := by
  obtain ⟨j, hj, _⟩ := Option.map_eq_some_iff.1 bb_size
  go_enter Tryz.func68, Tryz.ntmps68
  go_wp2
  rw [Lib.run_neq_ptr_same w _ bb_u hj]
  go_wp2
  go_end0
  exact ⟨rfl, rfl⟩

set_option maxHeartbeats 1600000 in
set_option maxRecDepth 100000 in
theorem copyCheck_fresh (b : Nat) (w : World) (h0 : w.cell? ⟨b, 0, none⟩ = some (.pointer none)) (hsh : w.shape? b = some (93, 2)) (hfz : w.frozen? ⟨b, 0, none⟩ = false) :
    Calls Tryz.prog 68 #[.pointer (some ⟨b, 0, none⟩)] w fun e w' => e = .returned (.tuple #[]) ∧ w' = w.setCell ⟨b, 0, none⟩ (.pointer (some ⟨b, 0, none⟩)) := by
  obtain ⟨j, hj, hjs⟩ := Option.map_eq_some_iff.1 bb_size
  go_enter Tryz.func68, Tryz.ntmps68
  go_wp2
  rw [Lib.run_to_unsafe w ⟨b, 0, none⟩ bb_u bb_p hj (by rw [hjs]; decide) hsh (Nat.zero_lt_succ 1)]
  simp only [Result.andThen]
  rw [Oper.upon_value]
  go_wp2
  rw [run_callFunc_extern Tryz.func89 (by kernel_rfl) (by kernel_rfl) (by kernel_rfl) (e := Extern.AbiNoEscape.same) (by kernel_rfl)]
  rw [Lib.run_noEscape]
  simp only [Result.andThen]
  rw [Oper.upon_value]
  go_wp2
  rw [Lib.run_from_unsafe w ⟨b, 0, none⟩ bb_p bb_u hj hsh bb_lies]
  simp only [Result.andThen]
  rw [Oper.upon_value]
  go_wp2
  go_end0
  exact ⟨rfl, rfl⟩

theorem copyCheck_any (B b : Nat) (l : List UInt8) (w : World) (h : Bb w B b l) :
    Calls Tryz.prog 68 #[.pointer (some ⟨b, 0, none⟩)] w fun e w' => e = .returned (.tuple #[]) ∧ (Lib.BuilderAt 93 5 B b (.pointer (some ⟨b, 0, none⟩)) (bv l) w' ∧ Below B w w') := by
  rcases h with h | h
  · refine (copyCheck_fresh b w h.cell0 h.shape h.frozen0).mono ?_
    rintro e w' ⟨rfl, rfl⟩
    exact ⟨rfl, h.used _, (Below.refl B w).setCell (p := ⟨b, 0, none⟩) h.1 _⟩
  · refine (copyCheck_used b w h.cell0).mono ?_
    rintro e w' ⟨rfl, rfl⟩
    exact ⟨rfl, h, Below.refl B _⟩
theorem strCells_eq (s : ByteArray) : Lib.strCells s = bv s.data.toList := rfl

set_option maxHeartbeats 3200000 in
set_option maxRecDepth 100000 in
theorem write_any (B b : Nat) (l : List UInt8) (s : ByteArray) (w : World) (h : Bb w B b l) (hl : l.length + s.size ≤ 1099511627776) (hBw : B ≤ w.heap.size) :
    Calls Tryz.prog 45 #[.pointer (some ⟨b, 0, none⟩), .string s] w fun e w' => e = .returned (.tuple #[.int .i64 s.size, .nilIface]) ∧ Bb w' B b (l ++ s.data.toList) ∧ Below B w w' := by
  obtain ⟨i0, hi, hz0, hz1, hz2⟩ := info_parts byte_info
  have hbl : (bv l).length = l.length := bv_length l
  have HC := Lib.hid (copyCheck_any B b l w h)
  clear h
  go_enter Tryz.func45, Tryz.ntmps45
  go_wp2_with fail
  refine HC.out.mono ?_
  rintro e w1 ⟨rfl, h1, hb1⟩
  obtain ⟨hB, v, hbk, hown, hne⟩ := h1
  have c0 : w1.cell? ⟨b, 0, none⟩ = some (.pointer (some ⟨b, 0, none⟩)) := by rw [Lib.cell_of_heap hbk]; rfl
  have c1 : w1.cell? ⟨b, 1, none⟩ = some v := by rw [Lib.cell_of_heap hbk]; rfl
  clear HC
  go_wp2_with (at_builtin; refine Lib.wpList_append_own_string _ rfl _ _ 66 9 rfl B 5 i0 (by kernel_rfl) (by kernel_rfl) hi hz0 hz1 hz2 _ _ _ rfl hown s rfl ?c3 ?c4 ?c5 ?_)
  case c3 => unfold maxLen; omega
  case c4 => omega
  case c5 => have := hb1.size; omega
  intro v' w2 hown' hgrow _
  have hlt : b < w1.heap.size := by
    rcases Nat.lt_or_ge b w1.heap.size with h' | h'
    · exact h'
    · simp [Array.getElem?_eq_none h'] at hbk
  have hb2 : w2.heap[b]? = some (.cells #[.pointer (some ⟨b, 0, none⟩), v] 93 (0, 0)) := by
    rw [hgrow.block b hlt (fun e => hne e.symm)]
    exact hbk
  have d0 : w2.cell? ⟨b, 0, none⟩ = some (.pointer (some ⟨b, 0, none⟩)) := by rw [Lib.cell_of_heap hb2]; rfl
  have d1 : w2.cell? ⟨b, 1, none⟩ = some v := by rw [Lib.cell_of_heap hb2]; rfl
  have f1 : w2.frozen? ⟨b, 1, none⟩ = false := Lib.frozen_of_heap hb2 1
  obtain ⟨ao, n', cap, rfl⟩ : ∃ ao n' cap, v' = .slice ao n' cap := by
    rcases hown'.2 with ⟨hv, _⟩ | ⟨g, cap, cur, hv, _⟩
    · exact ⟨_, _, _, hv⟩
    · exact ⟨_, _, _, hv⟩
  have HX := Lib.hid (show Bb (w2.setCell ⟨b, 1, none⟩ (.slice ao n' cap)) B b (l ++ s.data.toList) ∧ Below B w (w2.setCell ⟨b, 1, none⟩ (.slice ao n' cap)) from by
    refine ⟨.inr ?_, ((hb1.grown hgrow (by have := hb1.size; omega) (fun k hk => (hown.lt k hk).1)).setCell (p := ⟨b, 1, none⟩) hB _)⟩
    refine Lib.BuilderAt.put (T := 93) (e := 5) hB hb2 (bs' := bv (l ++ s.data.toList)) ?_ bb_ne
    rw [bv_append, List.length_append, hbl, ← strCells_eq]
    simpa [Lib.strCells_length] using hown')
  clear hown hown' hgrow hb1 hbk hb2 hne hlt
  go_wp2_with fail
  go_ret2
  exact ⟨rfl, HX.out⟩

theorem byteCells_eq (l : List UInt8) : Lib.byteCells l = bv l := rfl
theorem len_any (B b : Nat) (l : List UInt8) (w : World) (h : Bb w B b l) :
    Calls Tryz.prog 44 #[.pointer (some ⟨b, 0, none⟩)] w fun e w' => e = .returned (.int .i64 (l.length : Int)) ∧ w = w' := by
  refine (Tryz.Builder_Len B b (bv l) w h).mono ?_
  rintro e w' ⟨rfl, rfl⟩
  exact ⟨by rw [bv_length], rfl⟩
theorem string_any (B b : Nat) (l : List UInt8) (w : World) (h : Bb w B b l) (hB : B ≤ w.heap.size) :
    Calls Tryz.prog 46 #[.pointer (some ⟨b, 0, none⟩)] w fun e w' => e = .returned (.string ⟨l.toArray⟩) ∧ Below B w w' :=
  Tryz.Builder_String_any B b l w h hB
theorem bb_new (w : World) : Bb (w.alloc (.cells #[.pointer none, .slice none 0 0] 93)) w.heap.size w.heap.size [] := Lib.fresh_isBuilder _ _ w
theorem Bb.lt {w : World} {B b : Nat} {l : List UInt8} (h : Bb w B b l) : b < w.heap.size := by
  rcases h with h | h
  · exact h.lt
  · exact h.lt
/-- What lies elsewhere leaves a builder as it is. -/
theorem Bb.keep {w w' : World} {B b : Nat} {l : List UInt8} (h : Bb w B b l) (_hs : w.heap.size ≤ w'.heap.size) (hb : ∀ k, B ≤ k → k < w.heap.size → w'.heap[k]? = w.heap[k]?) : Bb w' B b l := by
  have key : ∀ p, Lib.BuilderAt 93 5 B b p (bv l) w → Lib.BuilderAt 93 5 B b p (bv l) w' := by
    intro p hp
    have hlt := hp.lt
    obtain ⟨hB, v, hbk, hown, hne⟩ := hp
    refine ⟨hB, v, (hb b hB hlt).trans hbk, ?_, hne⟩
    rcases hown with ⟨h1, h2⟩
    refine ⟨h1, ?_⟩
    rcases h2 with h2 | ⟨g, cap, cur, hv, hg, hc, hr⟩
    · exact .inl h2
    · exact .inr ⟨g, cap, cur, hv, hg, (hb g hg (Array.getElem?_eq_some_iff.1 hc).1).trans hc, hr⟩
  rcases h with h | h
  · exact .inl (key _ h)
  · exact .inr (key _ h)
end Bd
end Go.Proofs.YtpbphhpldlckbaaGreat
namespace Go.Proofs.YtpbphhpldlckbaaGreat
namespace Bt

/-- A number's low w bits. -/
def toB : Nat → Nat → List Bool
  | 0, _ => []
  | w + 1, n => decide (n / 2 ^ w % 2 = 1) :: toB w n
def ofB : List Bool → Nat
  | [] => 0
  | b :: r => (if b then 2 ^ r.length else 0) + ofB r
/-- Bytes as bits. -/
def bits (l : List UInt8) : List Bool := l.flatMap fun c => toB 8 c.toNat

theorem length_toB : ∀ (w n : Nat), (toB w n).length = w
  | 0, _ => rfl
  | w + 1, n => by simp [toB, length_toB w n]
theorem toB_add : ∀ (a b n : Nat), toB (a + b) n = toB a (n / 2 ^ b) ++ toB b n
  | 0, b, n => by simp [toB]
  | a + 1, b, n => by
    rw [show a + 1 + b = (a + b) + 1 by omega]
    simp only [toB, List.cons_append, toB_add a b n]
    rw [Nat.div_div_eq_div_mul, ← Nat.pow_add, Nat.add_comm b a]
theorem toB_mod : ∀ (w b n : Nat), w ≤ b → toB w (n % 2 ^ b) = toB w n
  | 0, _, _, _ => rfl
  | w + 1, b, n, h => by
    simp only [toB]
    rw [toB_mod w b n (by omega)]
    congr 2
    have e : 2 ^ b = 2 ^ w * (2 * 2 ^ (b - w - 1)) := by
      rw [← Nat.mul_assoc, ← Nat.pow_succ, ← Nat.pow_add]; congr 1; omega
    rw [e, Nat.mod_mul_right_div_self, Nat.mod_mul_right_mod]
theorem toB_join (a b y x : Nat) (h : x < 2 ^ b) : toB (a + b) (y * 2 ^ b + x) = toB a y ++ toB b x := by
  rw [toB_add, Nat.add_comm (y * 2 ^ b), Nat.add_mul_div_right _ _ (Nat.two_pow_pos b), Nat.div_eq_of_lt h, Nat.zero_add, ← toB_mod b b (x + y * 2 ^ b) (Nat.le_refl _), Nat.add_mul_mod_self_right, toB_mod b b x (Nat.le_refl _)]
theorem ofB_lt : ∀ (l : List Bool), ofB l < 2 ^ l.length
  | [] => by simp [ofB]
  | b :: r => by
    have := ofB_lt r
    simp only [ofB, List.length_cons, Nat.pow_succ]
    split <;> omega
theorem ofB_append : ∀ (a b : List Bool), ofB (a ++ b) = ofB a * 2 ^ b.length + ofB b
  | [], b => by simp [ofB]
  | x :: a, b => by
    simp only [List.cons_append, ofB, List.length_append, ofB_append a b]
    rw [Nat.add_mul]
    split
    · rw [Nat.pow_add]; omega
    · omega
theorem ofB_toB : ∀ (w n : Nat), ofB (toB w n) = n % 2 ^ w
  | 0, n => by simp [toB, ofB]; omega
  | w + 1, n => by
    simp only [toB, ofB, ofB_toB w n, length_toB]
    rw [Nat.pow_succ, Nat.mod_mul]
    have : n / 2 ^ w % 2 = 0 ∨ n / 2 ^ w % 2 = 1 := by omega
    rcases this with h | h <;> rw [h] <;> simp <;> omega
theorem ofB_toB_lt (w n : Nat) (h : n < 2 ^ w) : ofB (toB w n) = n := by rw [ofB_toB, Nat.mod_eq_of_lt h]
theorem toB_ofB : ∀ (l : List Bool), toB l.length (ofB l) = l
  | [] => rfl
  | b :: r => by
    have hr := ofB_lt r
    have e : ofB (b :: r) = (if b then 1 else 0) * 2 ^ r.length + ofB r := by
      simp only [ofB]; split <;> simp
    rw [List.length_cons, Nat.add_comm, e, toB_join 1 r.length _ _ hr, toB_ofB r]
    cases b <;> simp [toB]
theorem ofB_replicate : ∀ (k : Nat), ofB (List.replicate k false) = 0
  | 0 => rfl
  | k + 1 => by simp [List.replicate_succ, ofB, ofB_replicate k]
theorem toB_zero : ∀ (k : Nat), toB k 0 = List.replicate k false
  | 0 => rfl
  | k + 1 => by simp [toB, List.replicate_succ, toB_zero k]
theorem ofB_zero : ∀ (l : List Bool), ofB l = 0 → l = List.replicate l.length false
  | [], _ => rfl
  | b :: r, h => by
    simp only [ofB] at h
    have h1 := ofB_zero r (by omega)
    have hp := Nat.two_pow_pos r.length
    cases b
    · rw [List.length_cons, List.replicate_succ, ← h1]
    · simp at h

theorem length_bits : ∀ (l : List UInt8), (bits l).length = 8 * l.length
  | [] => rfl
  | c :: l => by
    have := length_bits l
    simp only [bits, List.flatMap_cons, List.length_append, length_toB, List.length_cons] at *
    omega
theorem bits_cons (c : UInt8) (l : List UInt8) : bits (c :: l) = toB 8 c.toNat ++ bits l := rfl
theorem bits_append (a b : List UInt8) : bits (a ++ b) = bits a ++ bits b := List.flatMap_append ..
theorem bits_drop : ∀ (l : List UInt8) (j : Nat), (bits l).drop (8 * j) = bits (l.drop j)
  | l, 0 => by simp
  | [], j + 1 => by simp [bits]
  | c :: l, j + 1 => by
    rw [bits_cons, show 8 * (j + 1) = 8 + 8 * j by omega, ← List.drop_drop, List.drop_left' (length_toB 8 _), bits_drop l j]; rfl

/-- Some bits of one byte. -/
theorem byte_bits (l : List UInt8) (p k : Nat) (c : UInt8) (h : l[p / 8]? = some c) (hk : p % 8 + k ≤ 8) :
    ((bits l).drop p).take k = toB k (c.toNat / 2 ^ (8 - p % 8 - k)) := by
  have hlt := (List.getElem?_eq_some_iff.1 h).1
  have e : (bits l).drop p = ((bits l).drop (8 * (p / 8))).drop (p % 8) := by rw [List.drop_drop]; congr 1; omega
  have hd : l.drop (p / 8) = c :: l.drop (p / 8 + 1) := by
    rw [List.drop_eq_getElem_cons hlt]
    rw [List.getElem?_eq_getElem hlt] at h
    congr 1; exact Option.some.inj h
  rw [e, bits_drop, hd, bits_cons, show toB 8 c.toNat = toB (p % 8 + (k + (8 - p % 8 - k))) c.toNat by congr 1; omega, toB_add (p % 8), toB_add k, List.append_assoc, List.drop_left' (length_toB _ _), List.append_assoc, List.take_left' (length_toB _ _)]

theorem take_bits_succ (l : List UInt8) (p : Nat) (w k : Nat) : ((bits l).drop p).take (w + k) = ((bits l).drop p).take w ++ ((bits l).drop (p + w)).take k := by
  rw [List.take_add, List.drop_drop]

/-- Bytes of bits, the last one filled up with noughts. -/
def byt (l : List Bool) : List UInt8 :=
  if _h : l.length = 0 then [] else UInt8.ofNat (ofB (l.take 8 ++ List.replicate (8 - l.length) false)) :: byt (l.drop 8)
termination_by l.length
decreasing_by simp only [List.length_drop]; omega

theorem byt_nil : byt [] = [] := by rw [byt]; simp
theorem byt_whole : ∀ (l : List UInt8) (r : List Bool), byt (bits l ++ r) = l ++ byt r
  | [], r => rfl
  | c :: l, r => by
    rw [bits_cons, List.append_assoc, byt, dif_neg (by simp [length_toB])]
    have hl : 8 - (toB 8 c.toNat ++ (bits l ++ r)).length = 0 := by simp [length_toB]
    rw [hl, List.take_left' (length_toB _ _), List.drop_left' (length_toB _ _), byt_whole l r, List.replicate_zero, List.append_nil, ofB_toB_lt 8 _ c.toNat_lt]
    simp
theorem byt_part (r : List Bool) (h0 : 0 < r.length) (h : r.length < 8) : byt r = [UInt8.ofNat (ofB r * 2 ^ (8 - r.length))] := by
  rw [byt, dif_neg (by omega), List.take_of_length_le (by omega), List.drop_of_length_le (by omega), byt_nil, ofB_append, ofB_replicate, List.length_replicate]
  simp
theorem bits_byt : ∀ (n : Nat) (l : List Bool), l.length = n → bits (byt l) = l ++ List.replicate ((8 - l.length % 8) % 8) false := by
  intro n
  induction n using Nat.strongRecOn with
  | ind n ih =>
    intro l hl
    rw [byt]
    by_cases h : l.length = 0
    · rw [dif_pos h, List.eq_nil_of_length_eq_zero h]; rfl
    · rw [dif_neg h, bits_cons]
      have hlt := ofB_lt (l.take 8 ++ List.replicate (8 - l.length) false)
      have hlen : (l.take 8 ++ List.replicate (8 - l.length) false).length = 8 := by simp; omega
      rw [hlen] at hlt
      rw [UInt8.toNat_ofNat', Nat.mod_eq_of_lt hlt]
      have := toB_ofB (l.take 8 ++ List.replicate (8 - l.length) false)
      rw [hlen] at this
      rw [this, ih (l.drop 8).length (by simp; omega) _ rfl]
      by_cases h8 : 8 ≤ l.length
      · rw [show 8 - l.length = 0 by omega, List.replicate_zero, List.append_nil, ← List.append_assoc, List.take_append_drop, List.length_drop, show (l.length - 8) % 8 = l.length % 8 by omega]
      · rw [List.take_of_length_le (by omega), List.drop_of_length_le (by omega), List.nil_append, List.length_nil, show (8 - 0 % 8) % 8 = 0 by rfl, List.replicate_zero, List.append_nil, show (8 - l.length % 8) % 8 = 8 - l.length by omega]
theorem length_byt (l : List Bool) : (byt l).length = (l.length + 7) / 8 := by
  have := congrArg List.length (bits_byt _ l rfl)
  rw [length_bits, List.length_append, List.length_replicate] at this
  omega

/-- How many bits a number has. -/
def bl (n : Nat) : Nat := if n = 0 then 0 else Nat.log2 n + 1
theorem bl_spec (n : Nat) (h : 0 < n) : 2 ^ (bl n - 1) ≤ n ∧ n < 2 ^ bl n ∧ 0 < bl n := by
  unfold bl
  rw [if_neg (by omega), Nat.add_sub_cancel]
  exact ⟨Nat.log2_self_le (by omega), Nat.lt_log2_self, by omega⟩
/-- A number from 1 on, with as many noughts ahead as it has bits, less 1. -/
def gam (n : Nat) : List Bool := toB (bl n - 1) 0 ++ toB (bl n) n
theorem length_gam (n : Nat) (h : 0 < n) : (gam n).length = 2 * bl n - 1 := by
  have := (bl_spec n h).2.2
  simp [gam, length_toB]; omega

/-- How many noughts bits begin with. -/
def nz (l : List Bool) : Nat := (l.takeWhile fun b => !b).length
theorem nz_replicate (k : Nat) (r : List Bool) : nz (List.replicate k false ++ r) = k + nz r := by
  induction k with
  | zero => simp
  | succ k ih => rw [List.replicate_succ, List.cons_append]; unfold nz at *; rw [List.takeWhile_cons]; simp; omega
theorem nz_true (r : List Bool) : nz (true :: r) = 0 := by simp [nz]
theorem nz_le (l : List Bool) : nz l ≤ l.length := by
  unfold nz
  have := List.takeWhile_prefix (fun b : Bool => !b) (l := l)
  exact this.length_le

theorem toB_head (n : Nat) (h : 0 < n) : ∃ r, toB (bl n) n = true :: r := by
  obtain ⟨h1, h2, h3⟩ := bl_spec n h
  obtain ⟨w, hw⟩ : ∃ w, bl n = w + 1 := ⟨bl n - 1, by omega⟩
  rw [hw] at h1 h2 ⊢
  simp only [Nat.add_sub_cancel, Nat.pow_succ] at h1 h2
  have : n / 2 ^ w = 1 := by
    rw [Nat.div_eq_iff (Nat.two_pow_pos w)]; omega
  exact ⟨toB w n, by simp [toB, this]⟩

/-- A number taken: the error, the number, what is left. -/
def getGam (l : List Bool) : Int × Nat × List Bool :=
  if l.length = 0 then (4, 0, l)
  else if nz l = l.length then (4, 0, l)
  else if 32 ≤ nz l then (40, 0, l)
  else if l.length < 2 * nz l + 1 then (4, 0, l)
  else (0, ofB ((l.drop (nz l)).take (nz l + 1)), l.drop (2 * nz l + 1))

theorem getGam_gam (n : Nat) (h : 0 < n) (h32 : n < 2 ^ 32) (r : List Bool) : getGam (gam n ++ r) = (0, n, r) := by
  obtain ⟨h1, h2, h3⟩ := bl_spec n h
  obtain ⟨t, ht⟩ := toB_head n h
  have hz : nz (gam n ++ r) = bl n - 1 := by
    unfold gam
    rw [toB_zero, List.append_assoc, nz_replicate, ht, List.cons_append, nz_true, Nat.add_zero]
  have hl : (gam n ++ r).length = 2 * bl n - 1 + r.length := by rw [List.length_append, length_gam n h]
  have hb : bl n ≤ 32 := by
    rcases Nat.lt_or_ge 32 (bl n) with hlt | hge
    · have : 2 ^ 32 ≤ 2 ^ (bl n - 1) := Nat.pow_le_pow_right (by omega) (by omega)
      omega
    · exact hge
  unfold getGam
  rw [hz, hl, if_neg (by omega), if_neg (by omega), if_neg (by omega), if_neg (by omega)]
  have e1 : (gam n ++ r).drop (bl n - 1) = toB (bl n) n ++ r := by
    unfold gam; rw [List.append_assoc, List.drop_left' (length_toB _ _)]
  have e2 : (gam n ++ r).drop (2 * (bl n - 1) + 1) = r := by
    rw [List.drop_left' (by rw [length_gam n h]; omega)]
  rw [e1, e2, show bl n - 1 + 1 = bl n by omega, List.take_left' (length_toB _ _), ofB_toB_lt _ _ h2]

end Bt
end Go.Proofs.YtpbphhpldlckbaaGreat
namespace Go.Proofs.YtpbphhpldlckbaaGreat
namespace Cn
open Bt

/-- How many words have a length. -/
def cn (l : List Int) (n : Nat) : Nat := if n = 0 then 0 else l.countP fun x => decide (x = (n : Int))
/-- The first word of a length. -/
def fs (l : List Int) : Nat → Nat
  | 0 => 0
  | n + 1 => (fs l n + cn l n) * 2
/-- How many words are shorter. -/
def pl (l : List Int) : Nat → Nat
  | 0 => 0
  | n + 1 => pl l n + cn l n
/-- A symbol's place among those with words as long. -/
def rk (l : List Int) (s n : Nat) : Nat := cn (l.take s) n
/-- The symbols by their words, when k symbols have theirs. -/
def so (l : List Int) (N : Nat) : Nat → List Int
  | 0 => List.replicate N 0
  | k + 1 => if l.getD k 0 ≤ 0 then so l N k else (so l N k).set (pl l (l.getD k 0).toNat + rk l k (l.getD k 0).toNat) (k : Int)
def us (l : List Int) : Nat := l.countP fun x => decide (0 < x)

def kr (x : Int) : Nat := if 0 < x then 2 ^ (15 - x.toNat) else 0

/-- A symbol's word. -/
def wd (l : List Int) (s : Nat) : Nat := fs l (l.getD s 0).toNat + rk l s (l.getD s 0).toNat

structure Ok (l : List Int) : Prop where
  rng : ∀ x ∈ l, 0 ≤ x ∧ x ≤ 15
  room : (l.map kr).sum ≤ 32768

theorem cn_take_le (l : List Int) (s n : Nat) : cn (l.take s) n ≤ cn l n := by
  unfold cn
  split
  · omega
  · exact (List.take_sublist s l).countP_le

theorem rk_succ (l : List Int) (s n : Nat) (hs : s < l.length) : rk l (s + 1) n = rk l s n + if n ≠ 0 ∧ l[s] = (n : Int) then 1 else 0 := by
  unfold rk cn
  by_cases hn : n = 0
  · simp [hn]
  · rw [if_neg hn, if_neg hn, List.take_add_one, List.getElem?_eq_getElem hs, List.countP_append]
    simp only [Option.toList_some, List.countP_singleton, decide_eq_true_eq]
    simp [hn]

theorem rk_lt (l : List Int) (s n : Nat) (hs : s < l.length) (hn : n ≠ 0) (h : l[s] = (n : Int)) : rk l s n < cn l n := by
  have h1 := rk_succ l s n hs
  rw [if_pos ⟨hn, h⟩] at h1
  have := cn_take_le l (s + 1) n
  unfold rk at *
  omega

/-- A later symbol with a word as long has a greater place. -/
theorem rk_mono (l : List Int) (n : Nat) : ∀ (s t : Nat), s ≤ t → t ≤ l.length → rk l s n ≤ rk l t n := by
  intro s t h ht
  unfold rk
  have := cn_take_le (l.take t) s n
  rwa [List.take_take, Nat.min_eq_left h] at this

theorem fs_up (l : List Int) (w : Nat) : ∀ (d : Nat), (fs l w + cn l w) * 2 ^ d ≤ fs l (w + d) + cn l (w + d) ∧ (0 < d → (fs l w + cn l w) * 2 ^ d ≤ fs l (w + d))
  | 0 => by simp
  | d + 1 => by
    have ih := (fs_up l w d).1
    have e : fs l (w + (d + 1)) = (fs l (w + d) + cn l (w + d)) * 2 := rfl
    rw [e, Nat.pow_succ, ← Nat.mul_assoc]
    refine ⟨?_, fun _ => ?_⟩ <;> omega

/-- The parts of the room by lengths. -/
theorem room_split (l : List Int) (h : ∀ x ∈ l, 0 ≤ x ∧ x ≤ 15) : ∀ (m : Nat), m ≤ 15 → ((l.filter (fun x => decide (x ≤ (m : Int)))).map kr).sum = (fs l m + cn l m) * 2 ^ (15 - m)
  | 0, _ => by
    have : ∀ (l : List Int), ((l.filter (fun x => decide (x ≤ ((0 : Nat) : Int)))).map kr).sum = 0 := by
      intro l
      induction l with
      | nil => rfl
      | cons x r ih =>
        by_cases hx : x ≤ 0
        · rw [List.filter_cons_of_pos (by simpa using hx), List.map_cons, List.sum_cons, ih]; simp [kr]; omega
        · rw [List.filter_cons_of_neg (by simpa using hx), ih]
    rw [this]; simp [fs, cn]
  | m + 1, hm => by
    have ih := room_split l h m (by omega)
    have key : ∀ (l : List Int), ((l.filter (fun x => decide (x ≤ ((m + 1 : Nat) : Int)))).map kr).sum = ((l.filter (fun x => decide (x ≤ (m : Int)))).map kr).sum + l.countP (fun x => decide (x = ((m + 1 : Nat) : Int))) * 2 ^ (15 - (m + 1)) := by
      intro l
      induction l with
      | nil => simp
      | cons x r ih =>
        rw [List.countP_cons]
        by_cases h1 : x ≤ (m : Int)
        · rw [List.filter_cons_of_pos (by simp only [decide_eq_true_eq]; omega), List.filter_cons_of_pos (by simp only [decide_eq_true_eq]; omega), List.map_cons, List.sum_cons, List.map_cons, List.sum_cons, ih, if_neg (by simp only [decide_eq_true_eq]; omega)]; simp only [Nat.add_zero]; omega
        · rw [List.filter_cons_of_neg (a := x) (p := fun x => decide (x ≤ (m : Int))) (by simp only [decide_eq_true_eq]; omega)]
          by_cases h2 : x = ((m + 1 : Nat) : Int)
          · rw [List.filter_cons_of_pos (by simp only [decide_eq_true_eq]; omega), List.map_cons, List.sum_cons, ih, if_pos (by simp only [decide_eq_true_eq]; omega)]
            have : kr x = 2 ^ (15 - (m + 1)) := by unfold kr; rw [if_pos (by omega), h2, Int.toNat_natCast]
            rw [this, Nat.add_mul]; omega
          · rw [List.filter_cons_of_neg (by simp only [decide_eq_true_eq]; omega), ih, if_neg (by simp only [decide_eq_true_eq]; omega)]; simp only [Nat.add_zero]
    rw [key, ih]
    have e : fs l (m + 1) = (fs l m + cn l m) * 2 := rfl
    have e2 : cn l (m + 1) = l.countP (fun x => decide (x = ((m + 1 : Nat) : Int))) := by unfold cn; rw [if_neg (by omega)]
    rw [e, e2, show 15 - m = (15 - (m + 1)) + 1 by omega, Nat.pow_succ]
    generalize 2 ^ (15 - (m + 1)) = q
    generalize fs l m + cn l m = y
    rw [Nat.add_mul, Nat.mul_assoc, Nat.mul_comm 2]

/-- Words of a length fit. -/
theorem fits (l : List Int) (h : Ok l) (n : Nat) (hn : n ≤ 15) : fs l n + cn l n ≤ 2 ^ n := by
  have h1 := room_split l h.rng n hn
  have h2 : ((l.filter (fun x => decide (x ≤ (n : Int)))).map kr).sum ≤ (l.map kr).sum := by
    have : ∀ (l : List Int), ((l.filter (fun x => decide (x ≤ (n : Int)))).map kr).sum ≤ (l.map kr).sum := by
      intro l
      induction l with
      | nil => simp
      | cons x r ih =>
        rw [List.map_cons, List.sum_cons]
        by_cases hx : x ≤ (n : Int)
        · rw [List.filter_cons_of_pos (by simpa using hx), List.map_cons, List.sum_cons]; omega
        · rw [List.filter_cons_of_neg (by simpa using hx)]; omega
    exact this l
  rw [h1] at h2
  have h3 := Nat.le_trans h2 h.room
  have e : (32768 : Nat) = 2 ^ n * 2 ^ (15 - n) := by rw [← Nat.pow_add, show n + (15 - n) = 15 by omega]
  rw [e] at h3
  exact Nat.le_of_mul_le_mul_right h3 (Nat.two_pow_pos _)

theorem pl_le (l : List Int) (h : ∀ x ∈ l, 0 ≤ x ∧ x ≤ 15) : ∀ (m : Nat), pl l (m + 1) ≤ us l ∧ pl l (m + 1) = l.countP (fun x => decide (0 < x) && decide (x ≤ (m : Int)))
  | 0 => by
    have e : pl l (0 + 1) = 0 := by simp [pl, cn]
    rw [e]
    refine ⟨by omega, ?_⟩
    symm
    rw [List.countP_eq_zero]
    intro x _; simp <;> omega
  | m + 1 => by
    have ih := (pl_le l h m).2
    have e : pl l (m + 1 + 1) = l.countP (fun x => decide (0 < x) && decide (x ≤ ((m + 1 : Nat) : Int))) := by
      have e1 : pl l (m + 1 + 1) = pl l (m + 1) + cn l (m + 1) := rfl
      have key : ∀ l : List Int, List.countP (fun x => decide (0 < x) && decide (x ≤ (m : Int))) l + List.countP (fun x => decide (x = ((m + 1 : Nat) : Int))) l = List.countP (fun x => decide (0 < x) && decide (x ≤ ((m + 1 : Nat) : Int))) l := by
        intro l
        induction l with
        | nil => rfl
        | cons x r ih =>
          rw [List.countP_cons, List.countP_cons, List.countP_cons]
          have e3 : (if (decide (0 < x) && decide (x ≤ (m : Int))) = true then 1 else 0) + (if decide (x = ((m + 1 : Nat) : Int)) = true then 1 else 0) = if (decide (0 < x) && decide (x ≤ ((m + 1 : Nat) : Int))) = true then 1 else 0 := by
            simp only [Bool.and_eq_true, decide_eq_true_eq]
            split <;> split <;> split <;> omega
          omega
      rw [e1, ih, ← key l]
      unfold cn
      rw [if_neg (by omega)]
    refine ⟨?_, e⟩
    rw [e]
    refine List.countP_mono_left fun x _ hx => ?_
    simp at hx ⊢; exact hx.1

/-- Places of different lengths do not meet. -/
theorem pl_step (l : List Int) (n : Nat) : pl l (n + 1) = pl l n + cn l n := rfl
theorem pl_mono (l : List Int) (a : Nat) : ∀ (d : Nat), pl l a ≤ pl l (a + d)
  | 0 => Nat.le_refl _
  | d + 1 => by have := pl_mono l a d; rw [show a + (d + 1) = (a + d) + 1 by omega, pl_step]; omega

theorem place_lt (l : List Int) (h : ∀ x ∈ l, 0 ≤ x ∧ x ≤ 15) (s n : Nat) (hs : s < l.length) (hn : n ≠ 0) (e : l[s] = (n : Int)) : pl l n + rk l s n < us l := by
  have := rk_lt l s n hs hn e
  have h1 := (pl_le l h n).1
  rw [pl_step] at h1
  omega

theorem place_ne (l : List Int) (s t n m : Nat) (hst : s < t) (ht : t < l.length) (hn : n ≠ 0) (hm : m ≠ 0) (hs' : l[s]'(by omega) = (n : Int)) (ht' : l[t] = (m : Int)) : pl l n + rk l s n ≠ pl l m + rk l t m := by
  have h1 := rk_lt l s n (by omega) hn hs'
  have h2 := rk_lt l t m ht hm ht'
  intro e
  rcases Nat.lt_trichotomy n m with hlt | heq | hgt
  · have := pl_mono l (n + 1) (m - (n + 1))
    rw [show n + 1 + (m - (n + 1)) = m by omega, pl_step] at this
    omega
  · subst heq
    have h3 := rk_succ l s n (by omega)
    rw [if_pos ⟨hn, hs'⟩] at h3
    have := rk_mono l n (s + 1) t (by omega) (by omega)
    omega
  · have := pl_mono l (m + 1) (n - (m + 1))
    rw [show m + 1 + (n - (m + 1)) = n by omega, pl_step] at this
    omega

theorem length_so (l : List Int) (N : Nat) : ∀ k, (so l N k).length = N
  | 0 => by simp [so]
  | k + 1 => by
    simp only [so]
    split
    · exact length_so l N k
    · rw [List.length_set, length_so l N k]

theorem so_at (l : List Int) (h : ∀ x ∈ l, 0 ≤ x ∧ x ≤ 15) : ∀ (k s n : Nat), k ≤ l.length → s < k → (hs : s < l.length) → n ≠ 0 → l[s] = (n : Int) → (so l (us l) k)[pl l n + rk l s n]? = some (s : Int)
  | k + 1, s, n, hk, hsk, hs, hn, e => by
    have hkk : l.getD k 0 = l[k] := by rw [List.getD_eq_getElem?_getD, List.getElem?_eq_getElem (by omega)]; rfl
    simp only [so, hkk]
    by_cases hks : s = k
    · subst hks
      rw [if_neg (by omega), e, Int.toNat_natCast, List.getElem?_set_self (by rw [length_so]; exact place_lt l h s n hs hn e)]
    · split
      · exact so_at l h k s n (by omega) (by omega) hs hn e
      · rename_i hpos
        have hkn : l[k] = ((l[k].toNat : Nat) : Int) := by omega
        rw [List.getElem?_set_ne (fun e' => place_ne l s k n l[k].toNat (by omega) (by omega) hn (by omega) e hkn e'.symm)]
        exact so_at l h k s n (by omega) (by omega) hs hn e

/-- What canon.find tells. -/
def fnd (l : List Int) (n w : Nat) : Option Int := if n < fs l w ∨ fs l w + cn l w ≤ n then none else (so l (us l) l.length)[pl l w + (n - fs l w)]?

/-- What canon.Get tells: a symbol and what is left, or none. -/
def gw (l : List Int) : Nat → Nat → List Bool → Option (Int × List Bool)
  | _, _, [] => none
  | n, w, b :: r => if 15 < w then none else
    match fnd l (2 * n + b.toNat) w with
    | some s => some (s, r)
    | none => gw l (2 * n + b.toNat) (w + 1) r

theorem wd_lt (l : List Int) (h : Ok l) (s n : Nat) (hs : s < l.length) (hn : n ≠ 0) (e : l[s] = (n : Int)) : wd l s = fs l n + rk l s n ∧ wd l s < 2 ^ n ∧ n ≤ 15 := by
  have h0 := h.rng l[s] (List.getElem_mem _)
  have h1 : l.getD s 0 = (n : Int) := by rw [List.getD_eq_getElem?_getD, List.getElem?_eq_getElem hs]; exact e
  have h2 := rk_lt l s n hs hn e
  have h3 := fits l h n (by omega)
  unfold wd
  rw [h1, Int.toNat_natCast]
  exact ⟨rfl, by omega, by omega⟩

/-- A word comes back. -/
theorem gw_word (l : List Int) (h : Ok l) (s n : Nat) (hs : s < l.length) (hn : n ≠ 0) (e : l[s] = (n : Int)) (r : List Bool) :
    ∀ (d w : Nat), w + d = n → 0 < d → gw l (wd l s / 2 ^ d) (w + 1) (toB d (wd l s) ++ r) = some ((s : Int), r) := by
  obtain ⟨e1, e2, hn15⟩ := wd_lt l h s n hs hn e
  have h2 := rk_lt l s n hs hn e
  intro d
  induction d with
  | zero => intro w _ h0; omega
  | succ d ih =>
    intro w hw _
    have hbit : 2 * (wd l s / 2 ^ (d + 1)) + (decide (wd l s / 2 ^ d % 2 = 1)).toNat = wd l s / 2 ^ d := by
      rw [Nat.pow_succ, ← Nat.div_div_eq_div_mul]
      have : wd l s / 2 ^ d % 2 = 0 ∨ wd l s / 2 ^ d % 2 = 1 := by omega
      rcases this with h' | h' <;> simp [h'] <;> omega
    simp only [toB, List.cons_append, gw]
    rw [if_neg (by omega), hbit]
    rcases Nat.eq_zero_or_pos d with rfl | hd
    · have hwn : w + 1 = n := by omega
      have : fnd l (wd l s / 2 ^ 0) (w + 1) = some (s : Int) := by
        unfold fnd
        rw [Nat.pow_zero, Nat.div_one, hwn, if_neg (by omega), e1, Nat.add_sub_cancel_left]
        exact so_at l h.rng l.length s n (Nat.le_refl _) hs hs hn e
      rw [this]; rfl
    · have : fnd l (wd l s / 2 ^ d) (w + 1) = none := by
        unfold fnd
        rw [if_pos]
        right
        have := (fs_up l (w + 1) d).2 hd
        rw [show w + 1 + d = n by omega] at this
        rw [Nat.le_div_iff_mul_le (Nat.two_pow_pos d)]
        omega
      rw [this]
      exact ih (w + 1) (by omega) hd

/-- More bits behind change nothing. -/
theorem gw_more (l : List Int) : ∀ (b : List Bool) (n w : Nat) (s : Int) (r t : List Bool), gw l n w b = some (s, r) → gw l n w (b ++ t) = some (s, r ++ t)
  | [], n, w, s, r, t, h => by simp [gw] at h
  | x :: b, n, w, s, r, t, h => by
    simp only [List.cons_append, gw] at h ⊢
    split at h
    · simp at h
    · rename_i hw
      rw [if_neg hw]
      split at h
      · rename_i y hy
        simp at h
        obtain ⟨rfl, rfl⟩ := h
        simp
      · exact gw_more l b _ _ s r t h

/-- Symbols as words. -/
def enc (l : List Int) (syms : List Int) : List Bool := syms.flatMap fun s => toB (l.getD s.toNat 0).toNat (wd l s.toNat)
/-- Some symbols taken. -/
def getN (l : List Int) : Nat → List Bool → Option (List Int × List Bool)
  | 0, b => some ([], b)
  | k + 1, b => match gw l 0 1 b with
    | none => none
    | some (s, r) => match getN l k r with
      | none => none
      | some (t, r') => some (s :: t, r')

theorem getN_enc (l : List Int) (h : Ok l) : ∀ (syms : List Int) (r : List Bool), (∀ s ∈ syms, 0 ≤ s ∧ ∃ hs : s.toNat < l.length, 0 < l[s.toNat]) → getN l syms.length (enc l syms ++ r) = some (syms, r)
  | [], r, _ => rfl
  | s :: t, r, hs => by
    obtain ⟨h0, hl, hp⟩ := hs s (by simp)
    have hr := h.rng _ (List.getElem_mem hl)
    have e : l[s.toNat] = ((l[s.toNat].toNat : Nat) : Int) := by omega
    have e2 : l.getD s.toNat 0 = l[s.toNat] := by rw [List.getD_eq_getElem?_getD, List.getElem?_eq_getElem hl]; rfl
    obtain ⟨_, hlt, _⟩ := wd_lt l h s.toNat l[s.toNat].toNat hl (by omega) e
    have hg := gw_word l h s.toNat l[s.toNat].toNat hl (by omega) e (enc l t ++ r) l[s.toNat].toNat 0 (by omega) (by omega)
    rw [Nat.div_eq_of_lt hlt] at hg
    have hc : enc l (s :: t) ++ r = toB l[s.toNat].toNat (wd l s.toNat) ++ (enc l t ++ r) := by
      unfold enc; rw [List.flatMap_cons, e2, List.append_assoc]
    rw [List.length_cons, getN, hc, hg]
    simp only
    rw [getN_enc l h t r (fun x hx => hs x (by simp [hx]))]
    simp only
    rw [show ((s.toNat : Nat) : Int) = s by omega]
theorem getN_more (l : List Int) : ∀ (k : Nat) (b : List Bool) (s : List Int) (r t : List Bool), getN l k b = some (s, r) → getN l k (b ++ t) = some (s, r ++ t)
  | 0, b, s, r, t, h => by simp [getN] at h ⊢; simp [h]
  | k + 1, b, s, r, t, h => by
    simp only [getN] at h ⊢
    split at h
    · simp at h
    · rename_i x r1 h1
      rw [gw_more l b 0 1 x r1 t h1]
      simp only
      split at h
      · simp at h
      · rename_i y r2 h2
        simp at h
        obtain ⟨rfl, rfl⟩ := h
        rw [getN_more l k r1 y r2 t h2]
end Cn
end Go.Proofs.YtpbphhpldlckbaaGreat
