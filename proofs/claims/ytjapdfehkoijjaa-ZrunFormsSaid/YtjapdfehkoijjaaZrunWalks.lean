/- Runs of noughts as digits: each function of package zrun tells what the plain functions of ZrunPlain tell, in new memory; nothing that was there has turned. -/
import Derived.Test.YtjapdfehkoijjaaRows
import Derived.Test.YtjapdfehkoijjaaSlices
import Derived.Test.YtjapdfehkoijjaaZrunPlain2
namespace Go.Proofs.Ytjapdfehkoijjaa
namespace Zr
open Go.RowKit

theorem int_info : (Try.prog.info? 3).map (fun i => (i.zero, i.size, i.bytes)) = some (some (.int .i64 0), 1, 8) := by kernel_rfl

/-- A slice value that the call owns from block B on, which reads as the numbers l. -/
def Own (w : World) (B : Nat) (v : Value) (l : List Int) : Prop := w.ownsRow B 3 1 v l.length (l.map (Value.int .i64))

section
variable {ops : Array Oper} {rest : List Oper} {o : Oper} {a : Act} {Q : Exit → Act → World → Prop}

/-- 'append(s, y)' onto a slice of the call's own. -/
theorem append1 {s x : Operand} {B : Nat} {v : Value} {l : List Int} {w0 : World} {y : Int} (hown : Own w0 B v l) (hl : l.length ≤ 1099511627776) (hB : B ≤ w0.heap.size)
    (h : ∀ A' n' c' w', Hid (n' = l.length + 1) → Own w' B (.slice A' n' c') (l ++ [y]) → Below B w0 w' → w0.grownBy w' v.ownBlock → (Value.ownBlock (.slice A' n' c') = v.ownBlock ∨ ∃ g, Value.ownBlock (.slice A' n' c') = some g ∧ w0.heap.size ≤ g) → wpList Try.prog ops Q rest (a.put o.dst (.slice A' n' c')) w')
    (hgd : o.guard = none := by exact rfl) (ho : o.op = .call { callee := .builtin .append, args := #[s, x], argTypes := #[37, 37] } := by exact rfl)
    (hs : a.eval s = v := by exact rfl) (hx : a.eval x = .slice (some ⟨w0.heap.size, 0, none⟩) 1 1 := by exact rfl) :
    wpList Try.prog ops Q (o :: rest) a (w0.alloc (.cells #[.int .i64 y] 3)) := by
  obtain ⟨i0, hi, hz0, hz1, hz2⟩ := info_parts int_info
  refine wpList_append_own_at _ hgd s x 37 ho B 3 i0 (.int .i64 0) 1 8 Try.underlying37 hi hz0 hz1 hz2 rfl (by omega) v l.length (l.map (Value.int .i64)) hs (hown.alloc _)
    ⟨w0.heap.size, 0, none⟩ 1 1 [.int .i64 y] hx rfl (cell_one_new w0 _ _) (by intro u hu; simp at hu; subst hu; rfl) (by simp only [maxLen]; omega) (by omega) (by simp; omega) ?_
  intro v' w' hown' hg _ hat
  have hg0 : w0.grownBy w' v.ownBlock := (World.grownBy_alloc w0 _ v.ownBlock).trans hg
  have hlt := World.ownsRow.lt hown
  obtain ⟨A', c', rfl, _, _⟩ := own_slice hown'
  refine h A' _ c' w' rfl (by unfold Own; simpa using hown') ((Below.refl _ _).grown hg0 hB (fun k hk => (hlt k hk).1)) hg0 ?_
  rcases hat with e | e
  · exact .inl e
  · exact .inr ⟨_, e, by simp⟩

/-- 'append(s, make([]int, k)...)' onto a slice of the call's own. -/
theorem appendZ {s x : Operand} {B : Nat} {v : Value} {l : List Int} {w0 : World} {kI : Int} (k : Nat) (hkI : kI = (k : Int)) (hown : Own w0 B v l) (hl : l.length + k ≤ 1099511627776) (hB : B ≤ w0.heap.size)
    (h : ∀ A' n' c' w', Hid (n' = l.length + k) → Own w' B (.slice A' n' c') (l ++ List.replicate k 0) → Below B w0 w' → w0.grownBy w' v.ownBlock → (Value.ownBlock (.slice A' n' c') = v.ownBlock ∨ ∃ g, Value.ownBlock (.slice A' n' c') = some g ∧ w0.heap.size ≤ g) → wpList Try.prog ops Q rest (a.put o.dst (.slice A' n' c')) w')
    (hgd : o.guard = none := by exact rfl) (ho : o.op = .call { callee := .builtin .append, args := #[s, x], argTypes := #[37, 3] } := by exact rfl)
    (hs : a.eval s = v := by exact rfl) (hx : a.eval x = .int .i64 kI := by exact rfl) :
    wpList Try.prog ops Q (o :: rest) a w0 := by
  obtain ⟨i0, hi, hz0, hz1, hz2⟩ := info_parts int_info
  refine wpList_append_zeros w0 hgd s x 37 3 ho B 3 i0 (.int .i64 0) 8 .i64 .i64 Try.underlying37 Try.underlying3 hi hz0 hz1 hz2 rfl rfl v l.length (l.map (Value.int .i64)) hs hown
    kI k hx hkI (by simp only [maxLen]; omega) (by omega) hB ?_
  intro v' w' hown' hg hat
  have hlt := World.ownsRow.lt hown
  obtain ⟨A', c', rfl, _, _⟩ := own_slice hown'
  refine h A' _ c' w' rfl (by unfold Own; simpa using hown') ((Below.refl _ _).grown hg hB (fun k hk => (hlt k hk).1)) hg ?_
  rcases hat with e | e
  · exact .inl e
  · exact .inr ⟨_, e, Nat.le_refl _⟩

/-- 'make([]int, 0, n)'. -/
theorem make0 {lo co : Operand} {kl kc : IntKind} {n : Nat} {w : World} {B : Nat} (hn : n ≤ 1099511627776) (hB : B ≤ w.heap.size)
    (h : ∀ w', Own w' B (.slice (some ⟨w.heap.size, 0, none⟩) 0 n) [] → w.grownBy w' none → w.heap.size < w'.heap.size → wpList Try.prog ops Q rest (a.put o.dst (.slice (some ⟨w.heap.size, 0, none⟩) 0 n)) w')
    (hgd : o.guard = none := by exact rfl) (ho : o.op = Op.makeSlice 37 lo co := by exact rfl) (hl : a.eval lo = .int kl 0 := by exact rfl) (hc : a.eval co = .int kc (n : Int) := by exact rfl) :
    wpList Try.prog ops Q (o :: rest) a w := by
  obtain ⟨i0, hi, hz0, hz1, hz2⟩ := info_parts int_info
  refine wpList_make_own w hgd lo co 37 ho B 3 i0 (.int .i64 0) 1 Try.underlying37 hi hz0 hz1 kl kc n n hl hc rfl (by rw [hz2]; omega) (by simp only [maxLen]; omega) hB ?_
  intro w' hown hg
  exact h w' hown hg (World.ownsRow.lt hown w.heap.size rfl).2
end

theorem Own.below {w w' : World} {B C : Nat} {v : Value} {l : List Int} (h : Own w B v l) (hb : Below C w w') (hC : w.heap.size ≤ C) : Own w' B v l := own_below h hb hC
theorem Own.lower {w : World} {B C : Nat} {v : Value} {l : List Int} (h : Own w B v l) (hC : C ≤ B) : Own w C v l := own_lower h hC
theorem Own.rd {w : World} {B : Nat} {v : Value} {l : List Int} (h : Own w B v l) : ∃ A c, v = .slice A l.length c ∧ l.length ≤ c ∧ c ≤ maxLen ∧ Rd w w.heap.size 1 A l.length (l.map (Value.int .i64)) := by
  obtain ⟨A, c, rfl, hc, hm⟩ := own_slice h
  exact ⟨A, c, rfl, hc, hm, Rd.of_own h⟩

theorem pow_digTo : ∀ (m : Nat), 1 ≤ m → 2 ^ (digTo m).length ≤ m := by
  intro m
  induction m using Nat.strongRecOn with
  | ind m ih =>
    intro hm
    by_cases h : m ≤ 1
    · rw [digTo_small h]; simpa using hm
    · rw [digTo_step (by omega), List.length_cons, Nat.pow_succ]
      have := ih (m / 2) (by omega) (by omega)
      omega
theorem length_digTo (m : Nat) (h1 : 1 ≤ m) (h : m ≤ 9223372036854775808) : (digTo m).length ≤ 63 := by
  have := pow_digTo m h1
  rcases Nat.lt_or_ge 63 (digTo m).length with hl | hl
  · have h2 : (2 : Nat) ^ 64 ≤ 2 ^ (digTo m).length := Nat.pow_le_pow_right (by omega) hl
    omega
  · exact hl

set_option maxHeartbeats 800000 in
theorem digits_any (n : Int) (h0 : n ≤ 9223372036854775807) (w : World) :
    Calls Try.prog 25 #[.int .i64 n] w fun e w' => ∃ v, e = .returned v ∧ Own w' w.heap.size v (digits n) ∧ Below w.heap.size w w' := by
  by_cases h1 : n < 1
  · have hd : digits n = [] := if_pos h1
    rw [hd]
    clear hd
    go_enter Try.func25, Try.ntmps25
    go_wp2_with fail
    go_ret
    exact ⟨_, rfl, World.ownsRow_nil _ _ _ _, Below.refl _ _⟩
  · have hd : digits n = digTo (n.toNat + 1) := if_neg h1
    rw [hd]
    clear hd
    obtain ⟨N, rfl⟩ := Int.eq_ofNat_of_zero_le (show 0 ≤ n by omega)
    have hlen := length_digTo (N + 1) (by omega) (by omega)
    rw [Int.toNat_natCast]
    go_enter Try.func25, Try.ntmps25
    go_wp2_with fail
    go_loopw [3, 4] (fun v m wr => ∃ (mk : Nat) (acc : List Int), m = .int .u64 mk ∧ 1 ≤ mk ∧ mk ≤ 9223372036854775808 ∧ Hid (acc ++ digTo mk = digTo (N + 1)) ∧ acc.length ≤ 63 ∧ Own wr w.heap.size v acc ∧ Below w.heap.size w wr) (fun _ m _ => (intOf m).toNat)
    case atStart => exact ⟨N + 1, [], by go_num, by omega, by omega, rfl, by simp, World.ownsRow_nil _ _ _ _, Below.refl _ _⟩
    case round =>
      obtain ⟨mk, acc, rfl, hm1, hm2, heq, hacc, hown, hbw⟩ := hrel
      by_cases hlt : 1 < mk
      · go_wp2_with (at_builtin; refine append1 hown (by omega) hbw.size ?_; intro A1 n1 c1 w1 _ hown1 hb1 _ _)
        have hst := digTo_step hlt
        have hac : (acc ++ [((mk % 2 : Nat) + 1 : Int)]) ++ digTo (mk / 2) = digTo (N + 1) := by
          have := heq.out; rw [hst] at this; simpa using this
        have hll := congrArg List.length hac
        simp only [List.length_append, List.length_cons, List.length_nil] at hll
        refine ⟨⟨mk / 2, acc ++ [((mk % 2 : Nat) + 1 : Int)], by go_num, by omega, by omega, hac, by simp; omega, ?_, hbw.trans hb1⟩, by simp [intOf]; omega⟩
        have hy : wrap64 (wrap64 (bits .and .u64 (mk : Int) 1) + 1) = ((mk % 2 : Nat) + 1 : Int) := by
          rw [and_one_u64 _ (by omega) (by omega)]; unfold wrap64; omega
        rwa [hy] at hown1
      · go_wp2_with fail
        go_ret
        have hd : digTo mk = [] := digTo_small (by omega)
        have he : acc = digTo (N + 1) := by have := heq.out; rwa [hd, List.append_nil] at this
        exact ⟨_, rfl, he ▸ hown, hbw⟩
end Zr
end Go.Proofs.Ytjapdfehkoijjaa
