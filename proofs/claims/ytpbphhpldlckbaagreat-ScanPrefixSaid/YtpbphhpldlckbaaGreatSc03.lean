/- head.follows. Slices of numbers, and of bytes, that the call itself makes: append, make, string(b). No conditions. -/
import Derived.Test.YtpbphhpldlckbaaGreatSc02
import Derived.Test.YtpbphhpldlckbaaGreatRows
import Derived.Test.YtpbphhpldlckbaaGreatSc01
namespace Go.Proofs.YtpbphhpldlckbaaGreat
namespace Sn
open Go.RowKit Hd Bk

theorem seqs_mt (m : Mt) (w : World) (h : okM m = true) : Calls Tryz.prog 58 #[mv m] w fun e w' => e = .returned (rg m.f (m.f + (m.c - 1) : Nat)) ∧ Below w.heap.size w w' := by
  rw [okM_iff] at h
  have := seqs_at m.a m.s m.r (m.c - 1) m.f m.e m.l w (by omega)
  unfold mv
  rwa [show m.c - 1 + 1 = m.c by omega] at this
set_option maxHeartbeats 3200000 in
set_option maxRecDepth 100000 in
theorem follows_any (p m : Mt) (w : World) (hp : okM p = true) (hm : okM m = true) :
    Calls Tryz.prog 38 #[mv p, mv m] w fun e w' => e = .returned (.bool (folB p m)) ∧ Below w.heap.size w w' := by
  have mixed : Tryz.prog.follows .mixedOrders = true := by kernel_rfl
  have HS := Lib.hid (fun w => seqs_mt p w hp)
  rw [okM_iff] at hp hm
  have hfol := folB_iff p m
  have HB := Lib.hid ((ext_alloc w (.cells #[.int .i64 p.a, .int .i64 p.s, .int .i64 p.r, .int .i64 p.c, .int .i64 p.f, .int .i64 p.e, .int .i64 p.l] 38)).trans ((ext_alloc _ (.cells #[.int .i64 m.a, .int .i64 m.s, .int .i64 m.r, .int .i64 m.c, .int .i64 m.f, .int .i64 m.e, .int .i64 m.l] 38)).mono (by simp)))
  have hp' : (p.f + (p.c - 1) + 1 : Nat) = p.f + p.c := by omega
  have M1 := Lib.hid (show Mb ((w.alloc (.cells #[.int .i64 p.a, .int .i64 p.s, .int .i64 p.r, .int .i64 p.c, .int .i64 p.f, .int .i64 p.e, .int .i64 p.l] 38)).alloc (.cells #[.int .i64 m.a, .int .i64 m.s, .int .i64 m.r, .int .i64 m.c, .int .i64 m.f, .int .i64 m.e, .int .i64 m.l] 38)) w.heap.size p.a p.s p.r p.c p.f p.e p.l from
    (Below.heap_alloc _ _ _ (by simp)).trans (heap_alloc_new w _))
  have M2 := Lib.hid (show Mb ((w.alloc (.cells #[.int .i64 p.a, .int .i64 p.s, .int .i64 p.r, .int .i64 p.c, .int .i64 p.f, .int .i64 p.e, .int .i64 p.l] 38)).alloc (.cells #[.int .i64 m.a, .int .i64 m.s, .int .i64 m.r, .int .i64 m.c, .int .i64 m.f, .int .i64 m.e, .int .i64 m.l] 38)) (w.heap.size + 1) m.a m.s m.r m.c m.f m.e m.l from by
    have hh := heap_alloc_new (w.alloc (.cells #[.int .i64 p.a, .int .i64 p.s, .int .i64 p.r, .int .i64 p.c, .int .i64 p.f, .int .i64 p.e, .int .i64 p.l] 38)) (.cells #[.int .i64 m.a, .int .i64 m.s, .int .i64 m.r, .int .i64 m.c, .int .i64 m.f, .int .i64 m.e, .int .i64 m.l] 38)
    rw [show (w.alloc (.cells #[.int .i64 p.a, .int .i64 p.s, .int .i64 p.r, .int .i64 p.c, .int .i64 p.f, .int .i64 p.e, .int .i64 p.l] 38)).heap.size = w.heap.size + 1 by simp] at hh
    exact hh)
  unfold mv magg
  generalize folB p m = r at *
  obtain ⟨pa, ps, pr, pc, pf, pe, pl⟩ := p
  obtain ⟨ma, ms, mr, mc, mf, me, ml⟩ := m
  unfold mv magg rg at HS
  dsimp only at *
  have HF := Lib.hid hfol
  have HP := Lib.hid hp'
  have HK := Lib.hid (And.intro hp hm)
  clear hfol hp'
  go_enter Tryz.func38, Tryz.ntmps38
  go_wp2_with fail
  generalize (w.alloc (.cells #[.int .i64 pa, .int .i64 ps, .int .i64 pr, .int .i64 pc, .int .i64 pf, .int .i64 pe, .int .i64 pl] 38)).alloc (.cells #[.int .i64 ma, .int .i64 ms, .int .i64 mr, .int .i64 mc, .int .i64 mf, .int .i64 me, .int .i64 ml] 38) = w2 at *
  have l1 := M1.out.lt
  have l2 := M2.out.lt
  have a0 : ∀ q : Bw w2, q.to.cell? ⟨w.heap.size, 0, none⟩ = some (.int .i64 pa) := fun q => q.cell l1 M1.out.c0
  have a1 : ∀ q : Bw w2, q.to.cell? ⟨w.heap.size, 1, none⟩ = some (.int .i64 ps) := fun q => q.cell l1 M1.out.c1
  have a2 : ∀ q : Bw w2, q.to.cell? ⟨w.heap.size, 2, none⟩ = some (.int .i64 pr) := fun q => q.cell l1 M1.out.c2
  have a3 : ∀ q : Bw w2, q.to.cell? ⟨w.heap.size, 3, none⟩ = some (.int .i64 pc) := fun q => q.cell l1 M1.out.c3
  have a4 : ∀ q : Bw w2, q.to.cell? ⟨w.heap.size, 4, none⟩ = some (.int .i64 pf) := fun q => q.cell l1 M1.out.c4
  have a5 : ∀ q : Bw w2, q.to.cell? ⟨w.heap.size, 5, none⟩ = some (.int .i64 pe) := fun q => q.cell l1 M1.out.c5
  have a6 : ∀ q : Bw w2, q.to.cell? ⟨w.heap.size, 6, none⟩ = some (.int .i64 pl) := fun q => q.cell l1 M1.out.c6
  have b0 : ∀ q : Bw w2, q.to.cell? ⟨w.heap.size + 1, 0, none⟩ = some (.int .i64 ma) := fun q => q.cell l2 M2.out.c0
  have b4 : ∀ q : Bw w2, q.to.cell? ⟨w.heap.size + 1, 4, none⟩ = some (.int .i64 mf) := fun q => q.cell l2 M2.out.c4
  have b5 : ∀ q : Bw w2, q.to.cell? ⟨w.heap.size + 1, 5, none⟩ = some (.int .i64 me) := fun q => q.cell l2 M2.out.c5
  have s1 : IntKind.i64.wrap ((pa : Int) + (ps : Int)) = (pa : Int) + ps := by rw [IntKind.wrap_i64]; omega
  obtain ⟨hi, hhi⟩ : ∃ hi : Int, ((pf + (pc - 1) : Nat) : Int) = hi := ⟨_, rfl⟩
  rw [hhi] at HS
  have s2 : IntKind.i64.wrap (hi + 1) = hi + 1 := by rw [IntKind.wrap_i64]; omega
  have hh2 : hi + 1 = pf + pc := by omega
  clear hhi hp hm
  have hff : ∀ q : Bw w2, Sem.run Tryz.prog (Instr.field 115 (.agg #[.int .i64 (pf : Int), .int .i64 hi]) 1) q.to = .ok (.int .i64 hi) q.to := fun q => run_hi q.to _ _
  by_cases h1 : ma = pa + ps
  · have t1 : ((ma : Int) == (pa : Int) + ps) = true := by rw [beq_iff_eq]; omega
    by_cases h2 : mf = pf + pc
    · have t2 : ((mf : Int) == hi + 1) = true := by rw [beq_iff_eq]; omega
      by_cases h3 : pl ≤ me
      · have HR := Lib.hid (show true = r from (HF.out.2 ⟨h1, h2, h3⟩).symm)
        have t3 : (pl : Int) ≤ (me : Int) := by omega
        clear h1 h2 h3 hh2
        refine wp_region_quiet_below (by assumption) (by kernel_rfl) ?_
        repeat (first | go_big_quiet_skip | quiet_step (first | (go_at_call 58; refine below_of (HS.out _))))
        refine wpQuiet_nil ?_
        intro _ hw'
        obtain ⟨q, rfl⟩ := hw'
        go_wp2_with fail
        go_ret
        exact ⟨by rw [← HR.out]; rfl, HB.out.trans (q.h.mono HB.out.size)⟩
      · have HR := Lib.hid (show false = r by rcases r with _ | _; rfl; exact absurd (HF.out.1 rfl).2.2 h3)
        have t3 : ¬ (pl : Int) ≤ (me : Int) := by omega
        clear h1 h2 h3 hh2
        refine wp_region_quiet_below (by assumption) (by kernel_rfl) ?_
        repeat (first | go_big_quiet_skip | quiet_step (first | (go_at_call 58; refine below_of (HS.out _))))
        refine wpQuiet_nil ?_
        intro _ hw'
        obtain ⟨q, rfl⟩ := hw'
        go_wp2_with fail
        go_ret
        exact ⟨by rw [← HR.out]; rfl, HB.out.trans (q.h.mono HB.out.size)⟩
    · have t2 : ((mf : Int) == hi + 1) = false := by rw [beq_eq_false_iff_ne]; omega
      have HR := Lib.hid (show false = r by rcases r with _ | _; rfl; exact absurd (HF.out.1 rfl).2.1 h2)
      clear h1 h2 hh2
      refine wp_region_quiet_below (by assumption) (by kernel_rfl) ?_
      repeat (first | go_big_quiet_skip | quiet_step (first | (go_at_call 58; refine below_of (HS.out _))))
      refine wpQuiet_nil ?_
      intro _ hw'
      obtain ⟨q, rfl⟩ := hw'
      go_wp2_with fail
      go_ret
      exact ⟨by rw [← HR.out]; rfl, HB.out.trans (q.h.mono HB.out.size)⟩
  · have t1 : ((ma : Int) == (pa : Int) + ps) = false := by rw [beq_eq_false_iff_ne]; omega
    have HR := Lib.hid (show false = r by rcases r with _ | _; rfl; exact absurd (HF.out.1 rfl).1 h1)
    clear h1 hh2
    refine wp_region_quiet_below (by assumption) (by kernel_rfl) ?_
    repeat (first | go_big_quiet_skip | quiet_step (fail))
    refine wpQuiet_nil ?_
    intro _ hw'
    obtain ⟨q, rfl⟩ := hw'
    go_wp2_with fail
    go_ret
    exact ⟨by rw [← HR.out]; rfl, HB.out.trans (q.h.mono HB.out.size)⟩
end Sn
end Go.Proofs.YtpbphhpldlckbaaGreat
namespace Go.Proofs.YtpbphhpldlckbaaGreat
open Go.RowKit

theorem int_info : (Tryz.prog.info? 3).map (fun i => (i.zero, i.size, i.bytes)) = some (some (.int .i64 0), 1, 8) := by kernel_rfl

/-- A slice value that the call owns from block B on, which reads as the numbers l. -/
def Own (w : World) (B : Nat) (v : Value) (l : List Int) : Prop := w.ownsRow B 3 1 v l.length (l.map (Value.int .i64))

section
variable {ops : Array Oper} {rest : List Oper} {o : Oper} {a : Act} {Q : Exit → Act → World → Prop}

/-- 'append(s, y)' onto a slice of the call's own. -/
theorem append1 {s x : Operand} {B : Nat} {v : Value} {l : List Int} {w0 : World} {y : Int} (hown : Own w0 B v l) (hl : l.length ≤ 1099511627776) (hB : B ≤ w0.heap.size)
    (h : ∀ A' n' c' w', Hid (n' = l.length + 1) → Own w' B (.slice A' n' c') (l ++ [y]) → Below B w0 w' → w0.grownBy w' v.ownBlock → (Value.ownBlock (.slice A' n' c') = v.ownBlock ∨ ∃ g, Value.ownBlock (.slice A' n' c') = some g ∧ w0.heap.size ≤ g) → wpList Tryz.prog ops Q rest (a.put o.dst (.slice A' n' c')) w')
    (hgd : o.guard = none := by exact rfl) (ho : o.op = .call { callee := .builtin .append, args := #[s, x], argTypes := #[67, 67] } := by exact rfl)
    (hs : a.eval s = v := by exact rfl) (hx : a.eval x = .slice (some ⟨w0.heap.size, 0, none⟩) 1 1 := by exact rfl) :
    wpList Tryz.prog ops Q (o :: rest) a (w0.alloc (.cells #[.int .i64 y] 3)) := by
  obtain ⟨i0, hi, hz0, hz1, hz2⟩ := info_parts int_info
  refine wpList_append_own_at _ hgd s x 67 ho B 3 i0 (.int .i64 0) 1 8 Tryz.underlying67 hi hz0 hz1 hz2 rfl (by omega) v l.length (l.map (Value.int .i64)) hs (hown.alloc _)
    ⟨w0.heap.size, 0, none⟩ 1 1 [.int .i64 y] hx rfl (cell_one_new w0 _ _) (by intro u hu; simp at hu; subst hu; rfl) (by simp only [maxLen]; omega) (by omega) (by simp; omega) ?_
  intro v' w' hown' hg _ hat
  have hg0 : w0.grownBy w' v.ownBlock := (World.grownBy_alloc w0 _ v.ownBlock).trans hg
  have hlt := World.ownsRow.lt hown
  obtain ⟨A', c', rfl, _, _⟩ := own_slice hown'
  refine h A' _ c' w' rfl (by unfold Own; simpa using hown') ((Below.refl _ _).grown hg0 hB (fun k hk => (hlt k hk).1)) hg0 ?_
  rcases hat with e | e
  · exact .inl e
  · exact .inr ⟨_, e, by simp⟩

/-- 'append(s, make([]int, k)...)' onto a slice of the call's own. -/
theorem appendZ {s x : Operand} {B : Nat} {v : Value} {l : List Int} {w0 : World} {kI : Int} (k : Nat) (hkI : kI = (k : Int)) (hown : Own w0 B v l) (hl : l.length + k ≤ 1099511627776) (hB : B ≤ w0.heap.size)
    (h : ∀ A' n' c' w', Hid (n' = l.length + k) → Own w' B (.slice A' n' c') (l ++ List.replicate k 0) → Below B w0 w' → w0.grownBy w' v.ownBlock → (Value.ownBlock (.slice A' n' c') = v.ownBlock ∨ ∃ g, Value.ownBlock (.slice A' n' c') = some g ∧ w0.heap.size ≤ g) → wpList Tryz.prog ops Q rest (a.put o.dst (.slice A' n' c')) w')
    (hgd : o.guard = none := by exact rfl) (ho : o.op = .call { callee := .builtin .append, args := #[s, x], argTypes := #[67, 3] } := by exact rfl)
    (hs : a.eval s = v := by exact rfl) (hx : a.eval x = .int .i64 kI := by exact rfl) :
    wpList Tryz.prog ops Q (o :: rest) a w0 := by
  obtain ⟨i0, hi, hz0, hz1, hz2⟩ := info_parts int_info
  refine wpList_append_zeros w0 hgd s x 67 3 ho B 3 i0 (.int .i64 0) 8 .i64 .i64 Tryz.underlying67 Tryz.underlying3 hi hz0 hz1 hz2 rfl rfl v l.length (l.map (Value.int .i64)) hs hown
    kI k hx hkI (by simp only [maxLen]; omega) (by omega) hB ?_
  intro v' w' hown' hg hat
  have hlt := World.ownsRow.lt hown
  obtain ⟨A', c', rfl, _, _⟩ := own_slice hown'
  refine h A' _ c' w' rfl (by unfold Own; simpa using hown') ((Below.refl _ _).grown hg hB (fun k hk => (hlt k hk).1)) hg ?_
  rcases hat with e | e
  · exact .inl e
  · exact .inr ⟨_, e, Nat.le_refl _⟩

/-- 'make([]int, 0, n)'. -/
theorem make0 {lo co : Operand} {kl kc : IntKind} {n : Nat} {w : World} {B : Nat} (hn : n ≤ 1099511627776) (hB : B ≤ w.heap.size)
    (h : ∀ w', Own w' B (.slice (some ⟨w.heap.size, 0, none⟩) 0 n) [] → w.grownBy w' none → w.heap.size < w'.heap.size → wpList Tryz.prog ops Q rest (a.put o.dst (.slice (some ⟨w.heap.size, 0, none⟩) 0 n)) w')
    (hgd : o.guard = none := by exact rfl) (ho : o.op = Op.makeSlice 67 lo co := by exact rfl) (hl : a.eval lo = .int kl 0 := by exact rfl) (hc : a.eval co = .int kc (n : Int) := by exact rfl) :
    wpList Tryz.prog ops Q (o :: rest) a w := by
  obtain ⟨i0, hi, hz0, hz1, hz2⟩ := info_parts int_info
  refine wpList_make_own w hgd lo co 67 ho B 3 i0 (.int .i64 0) 1 Tryz.underlying67 hi hz0 hz1 kl kc n n hl hc rfl (by rw [hz2]; omega) (by simp only [maxLen]; omega) hB ?_
  intro w' hown hg
  exact h w' hown hg (World.ownsRow.lt hown w.heap.size rfl).2
end

theorem Own.below {w w' : World} {B C : Nat} {v : Value} {l : List Int} (h : Own w B v l) (hb : Below C w w') (hC : w.heap.size ≤ C) : Own w' B v l := own_below h hb hC
theorem Own.lower {w : World} {B C : Nat} {v : Value} {l : List Int} (h : Own w B v l) (hC : C ≤ B) : Own w C v l := own_lower h hC
theorem Own.rd {w : World} {B : Nat} {v : Value} {l : List Int} (h : Own w B v l) : ∃ A c, v = .slice A l.length c ∧ l.length ≤ c ∧ c ≤ maxLen ∧ Rd w w.heap.size 1 A l.length (l.map (Value.int .i64)) := by
  obtain ⟨A, c, rfl, hc, hm⟩ := own_slice h
  exact ⟨A, c, rfl, hc, hm, Rd.of_own h⟩

/-- A row that was just built. -/
theorem rd_lit (w : World) (t : TypeId) (l : List Int) : Rd (w.alloc (.cells (l.map (Value.int .i64)).toArray t)) (w.alloc (.cells (l.map (Value.int .i64)).toArray t)).heap.size 1 (some ⟨w.heap.size, 0, none⟩) l.length (l.map (Value.int .i64)) := by
  refine ⟨by simp, fun _ => ⟨_, rfl, by simp, fun j u hu => ?_⟩⟩
  rw [Addr.add_lit, Nat.zero_add]
  rw [World.cell?_alloc_new]
  simpa using hu

theorem Own.rd0 {w : World} {B n c : Nat} {A : Option Addr} {l : List Int} (h : Own w B (.slice A n c) l) : Rd w w.heap.size 1 A l.length (l.map (Value.int .i64)) ∧ n = l.length := by
  obtain ⟨A', c', e, _, _, r⟩ := h.rd
  simp only [Value.slice.injEq] at e
  obtain ⟨rfl, rfl, rfl⟩ := e
  exact ⟨r, rfl⟩

/-- 'make([]int, n)'. -/
theorem make1 {ops : Array Oper} {rest : List Oper} {o : Oper} {a : Act} {Q : Exit → Act → World → Prop} {lo co : Operand} {kl kc : IntKind} {n : Nat} {w : World} {B : Nat} (hn : n ≤ 1099511627776) (hB : B ≤ w.heap.size)
    (h : ∀ w', Own w' B (.slice (some ⟨w.heap.size, 0, none⟩) n n) (List.replicate n 0) → w.grownBy w' none → wpList Tryz.prog ops Q rest (a.put o.dst (.slice (some ⟨w.heap.size, 0, none⟩) n n)) w')
    (hgd : o.guard = none := by exact rfl) (ho : o.op = Op.makeSlice 67 lo co := by exact rfl) (hl : a.eval lo = .int kl (n : Int) := by exact rfl) (hc : a.eval co = .int kc (n : Int) := by exact rfl) :
    wpList Tryz.prog ops Q (o :: rest) a w := by
  obtain ⟨i0, hi, hz0, hz1, hz2⟩ := info_parts int_info
  refine wpList_make_full w hgd lo co 67 ho B 3 i0 (.int .i64 0) 1 Tryz.underlying67 hi hz0 hz1 kl kc n n n hl hc rfl rfl (by rw [hz2]; omega) (by simp only [maxLen]; omega) hB ?_
  intro w' hown hg
  refine h w' ?_ hg
  unfold Own
  rw [List.length_replicate, List.map_replicate]
  rwa [Nat.mul_one, show (Value.int .i64 0).cells = #[.int .i64 0] from rfl, toList_madeCells_one] at hown


/-- A slice of numbers that came in. -/
def InS (w : World) (A : Option Addr) (n c : Nat) (l : List Int) : Prop := Rd w w.heap.size 1 A n (l.map (Value.int .i64)) ∧ n ≤ c ∧ c ≤ maxLen ∧ l.length = n ∧ ∀ z ∈ l, (Lit.int .i64 z).wf = true

theorem take_snoc_int (l : List Int) (k : Nat) (u : Int) (h : l[k]? = some u) : l.take (k + 1) = l.take k ++ [u] := by
  rw [List.take_add_one, h]; rfl
theorem drop_at {α : Type} (l : List α) (k : Nat) (x : α) (h : l[k]? = some x) : l.drop k = x :: l.drop (k + 1) := by
  have hk : k < l.length := (List.getElem?_eq_some_iff.1 h).1
  rw [List.drop_eq_getElem_cons hk]
  rw [List.getElem?_eq_getElem hk] at h
  congr 1
  exact Option.some.inj h

/-- Bytes as values. -/
def bv (l : List UInt8) : List Value := l.map fun c => Value.int .u8 (c.toNat : Int)
theorem bv_length (l : List UInt8) : (bv l).length = l.length := List.length_map ..
theorem bv_append (l r : List UInt8) : bv (l ++ r) = bv l ++ bv r := List.map_append ..
theorem bv_ok (l : List UInt8) : ∀ u ∈ bv l, u.oneCell' = true := by
  intro u hu
  obtain ⟨_, _, rfl⟩ := List.mem_map.1 hu
  rfl

theorem byte_info : (Tryz.prog.info? 5).map (fun i => (i.zero, i.size, i.bytes)) = some (some (.int .u8 0), 1, 1) := by kernel_rfl

/-- A slice of bytes that the call owns from block B on. -/
def OwnB (w : World) (B : Nat) (v : Value) (l : List UInt8) : Prop := w.ownsRow B 5 1 v l.length (bv l)

section
variable {ops : Array Oper} {rest : List Oper} {o : Oper} {a : Act} {Q : Exit → Act → World → Prop}

/-- 'append(s, c)' of one byte. -/
theorem appendB {s x : Operand} {B : Nat} {v : Value} {l : List UInt8} {w0 : World} {z : Int} (y : UInt8) (hz : z = (y.toNat : Int)) (hown : OwnB w0 B v l) (hl : l.length ≤ 1099511627776) (hB : B ≤ w0.heap.size)
    (h : ∀ A' n' c' w', Hid (n' = l.length + 1) → OwnB w' B (.slice A' n' c') (l ++ [y]) → Below B w0 w' → w0.grownBy w' v.ownBlock → (Value.ownBlock (.slice A' n' c') = v.ownBlock ∨ ∃ g, Value.ownBlock (.slice A' n' c') = some g ∧ w0.heap.size ≤ g) → wpList Tryz.prog ops Q rest (a.put o.dst (.slice A' n' c')) w')
    (hgd : o.guard = none := by exact rfl) (ho : o.op = .call { callee := .builtin .append, args := #[s, x], argTypes := #[66, 66] } := by exact rfl)
    (hs : a.eval s = v := by exact rfl) (hx : a.eval x = .slice (some ⟨w0.heap.size, 0, none⟩) 1 1 := by exact rfl) :
    wpList Tryz.prog ops Q (o :: rest) a (w0.alloc (.cells #[.int .u8 z] 5)) := by
  subst hz
  obtain ⟨i0, hi, hz0, hz1, hz2⟩ := info_parts byte_info
  refine wpList_append_own_at _ hgd s x 66 ho B 5 i0 (.int .u8 0) 1 1 Tryz.underlying66 hi hz0 hz1 hz2 rfl (by omega) v l.length (bv l) hs (hown.alloc _)
    ⟨w0.heap.size, 0, none⟩ 1 1 [.int .u8 (y.toNat : Int)] hx rfl (cell_one_new w0 _ _) (by intro u hu; simp at hu; subst hu; rfl) (by simp only [maxLen]; omega) (by omega) (by simp; omega) ?_
  intro v' w' hown' hg _ hat
  have hg0 : w0.grownBy w' v.ownBlock := (World.grownBy_alloc w0 _ v.ownBlock).trans hg
  have hlt := World.ownsRow.lt hown
  obtain ⟨A', c', rfl, _, _⟩ := own_slice hown'
  refine h A' _ c' w' rfl (by unfold OwnB; rw [bv_append]; simpa [bv] using hown') ((Below.refl _ _).grown hg0 hB (fun k hk => (hlt k hk).1)) hg0 ?_
  rcases hat with e | e
  · exact .inl e
  · exact .inr ⟨_, e, by simp⟩

/-- 'make([]byte, 0, n)'. -/
theorem makeB0 {lo co : Operand} {kl kc : IntKind} {n : Nat} {w : World} {B : Nat} (hn : n ≤ 1099511627776) (hB : B ≤ w.heap.size)
    (h : ∀ w', OwnB w' B (.slice (some ⟨w.heap.size, 0, none⟩) 0 n) [] → w.grownBy w' none → w.heap.size < w'.heap.size → wpList Tryz.prog ops Q rest (a.put o.dst (.slice (some ⟨w.heap.size, 0, none⟩) 0 n)) w')
    (hgd : o.guard = none := by exact rfl) (ho : o.op = Op.makeSlice 66 lo co := by exact rfl) (hl : a.eval lo = .int kl 0 := by exact rfl) (hc : a.eval co = .int kc (n : Int) := by exact rfl) :
    wpList Tryz.prog ops Q (o :: rest) a w := by
  obtain ⟨i0, hi, hz0, hz1, hz2⟩ := info_parts byte_info
  refine wpList_make_own w hgd lo co 66 ho B 5 i0 (.int .u8 0) 1 Tryz.underlying66 hi hz0 hz1 kl kc n n hl hc rfl (by rw [hz2]; omega) (by simp only [maxLen]; omega) hB ?_
  intro w' hown hg
  exact h w' hown hg (World.ownsRow.lt hown w.heap.size rfl).2

/-- 'make([]byte, n)'. -/
theorem makeB1 {lo co : Operand} {kl kc : IntKind} {n : Nat} {w : World} {B : Nat} (hn : n ≤ 1099511627776) (hB : B ≤ w.heap.size)
    (h : ∀ w', OwnB w' B (.slice (some ⟨w.heap.size, 0, none⟩) n n) (List.replicate n 0) → w.grownBy w' none → wpList Tryz.prog ops Q rest (a.put o.dst (.slice (some ⟨w.heap.size, 0, none⟩) n n)) w')
    (hgd : o.guard = none := by exact rfl) (ho : o.op = Op.makeSlice 66 lo co := by exact rfl) (hl : a.eval lo = .int kl (n : Int) := by exact rfl) (hc : a.eval co = .int kc (n : Int) := by exact rfl) :
    wpList Tryz.prog ops Q (o :: rest) a w := by
  obtain ⟨i0, hi, hz0, hz1, hz2⟩ := info_parts byte_info
  refine wpList_make_full w hgd lo co 66 ho B 5 i0 (.int .u8 0) 1 Tryz.underlying66 hi hz0 hz1 kl kc n n n hl hc rfl rfl (by rw [hz2]; omega) (by simp only [maxLen]; omega) hB ?_
  intro w' hown hg
  refine h w' ?_ hg
  unfold OwnB bv
  rw [List.length_replicate, List.map_replicate]
  rwa [Nat.mul_one, show (Value.int .u8 0).cells = #[.int .u8 0] from rfl, toList_madeCells_one] at hown
end

theorem OwnB.below {w w' : World} {B C : Nat} {v : Value} {l : List UInt8} (h : OwnB w B v l) (hb : Below C w w') (hC : w.heap.size ≤ C) : OwnB w' B v l := own_below h hb hC
theorem OwnB.rd {w : World} {B : Nat} {v : Value} {l : List UInt8} (h : OwnB w B v l) : ∃ A c, v = .slice A l.length c ∧ l.length ≤ c ∧ c ≤ maxLen ∧ Rd w w.heap.size 1 A l.length (bv l) := by
  obtain ⟨A, c, rfl, hc, hm⟩ := own_slice h
  exact ⟨A, c, rfl, hc, hm, Rd.of_own h⟩

/-- 'string(b)' of bytes that read as l. -/
theorem run_str {w : World} {A : Option Addr} {n c B : Nat} {l : List UInt8} (h : Rd w B 1 A n (bv l)) :
    (convert 66 9 (.slice A n c)).run Tryz.prog w = .ok (.string ⟨l.toArray⟩) w := by
  have hl : l.length = n := by have := h.len; rw [bv_length] at this; omega
  subst hl
  rcases A with _ | ad
  · have h0 : l = [] := by
      rcases l with _ | ⟨x, r⟩
      · rfl
      · obtain ⟨_, e, _⟩ := h.cells (by simp)
        cases e
    subst h0
    exact run_convert_bytes_nil w 66 5 Tryz.underlying66 Tryz.underlying5 0 c 9 Tryz.underlying9
  · refine run_convert_bytes_back w 66 9 5 ad c l Tryz.underlying66 Tryz.underlying5 Tryz.underlying9 ?_
    intro j hj
    obtain ⟨ad', e, _, hc⟩ := h.cells (by omega)
    cases e
    exact hc j _ (by simp [bv, List.getElem?_eq_getElem hj])
end Go.Proofs.YtpbphhpldlckbaaGreat
