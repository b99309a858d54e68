/- A pair of two rows of buckets, as an argument. -/
import Derived.Test.YtaockieikcibdaaTq05
namespace Go.Proofs.Ytaockieikcibdaa
namespace Tm
open Go.RowKit Ta Rd
open Go.ChangeShapes Go.WideShapes Go.Deep

theorem flT_inv {l : List Bu} {j : Nat} {u : Value} (h : (flT l)[j]? = some u) : ∃ (k s : Nat) (x : Bu), j = k * 3 + s ∧ s < 3 ∧ l[k]? = some x ∧ (clT x)[s]? = some u := by
  have hj : j < l.length * 3 := by rw [← Ta.length_fl3]; exact (List.getElem?_eq_some_iff.1 h).1
  have hk : j / 3 < l.length := by omega
  obtain ⟨x, hx⟩ : ∃ x, l[j / 3]? = some x := ⟨_, List.getElem?_eq_getElem hk⟩
  obtain ⟨h1, h2, h3⟩ := flT_at l (j / 3) x hx
  have hs : j % 3 < 3 := Nat.mod_lt _ (by omega)
  refine ⟨j / 3, j % 3, x, by omega, hs, hx, ?_⟩
  rw [show j = j / 3 * 3 + j % 3 by omega] at h
  generalize j % 3 = s at *
  rcases s with _ | _ | _ | s
  · rw [Nat.add_zero] at h; exact h1.symm.trans h
  · exact h2.symm.trans h
  · exact h3.symm.trans h
  · omega
theorem open_buks {H : Type} {enc : TypeId × Value → H} {P : Program} {w : World} {t e : TypeId} {f0 f1 f2 : Field} {v : Value} {fuel : Nat} {y : DataW H × List MemPlace}
    (ht : P.underlying t = some (.slice e)) (he : P.underlying e = some (.struct #[f0, f1, f2])) (hone : oneCellFields P #[f0, f1, f2] = true) (hc : P.cellsOf e = 3)
    (t0 : P.underlying f0.type = some (.int .i64)) (t1 : P.underlying f1.type = some (.int .i64)) (t2 : P.underlying f2.type = some (.int .i64))
    (hf : DataW.trod enc P w 0 (fun _ => true) true fuel t [v] = some y) :
    ∃ (A : Option Addr) (n c : Nat) (l : List Bu), v = .slice A n c ∧ Arg w A n c l := by
  rcases Go.Deep.open_slice ht hf with ⟨hcs, -⟩ | ⟨a, len, cap, m, n, D, Pl, hcs, -, hl, hm, hmm, -, hx⟩
  · simp at hcs
    subst hcs
    exact ⟨none, 0, 0, [], rfl, ⟨Rd.nil, Nat.le_refl _, by simp [maxLen], fun _ => rfl⟩⟩
  · simp at hcs
    subst hcs
    rw [hc] at hx
    have hlm : len ≤ m := by rw [hmm, if_pos rfl]; exact hl
    have hex : ∀ i, i < len → ∃ x : Bu, ∀ s u, (clT x)[s]? = some u → w.cell? (a.add (i * 3 + s)) = some u := by
      intro i hi
      obtain ⟨cs', hcl, htr⟩ := hx i (by omega)
      obtain ⟨-, hlen, hat⟩ := World.cells?_some hcl
      obtain ⟨ys, k, -, -, -, hyl, hfl⟩ := DataW.trod_struct he htr
      match cs', hlen with
      | [c0, c1, c2], _ =>
        have g : ∀ (j : Nat) (f : Field), #[f0, f1, f2][j]? = some f → ∃ y, DataW.trod enc P w 0 (fun _ => true) true k f.type (([c0, c1, c2].drop j).take 1) = some y := by
          intro j f hj
          obtain ⟨o1, o2⟩ := Go.Deep.hone_of hone j f hj
          have := hfl j f hj
          rw [o1, o2] at this
          have hjl : j < ys.length := by rw [hyl]; exact (Array.getElem?_eq_some_iff.1 hj).1
          exact ⟨_, this.trans (List.getElem?_eq_getElem hjl)⟩
        obtain ⟨y0, g0⟩ := g 0 f0 rfl
        obtain ⟨y1, g1⟩ := g 1 f1 rfl
        obtain ⟨y2, g2⟩ := g 2 f2 rfl
        obtain ⟨q, hq, -, -⟩ := DataW.trod_int t0 g0
        obtain ⟨tk, htk, -, -⟩ := DataW.trod_int t1 g1
        obtain ⟨d, hd, -, -⟩ := DataW.trod_int t2 g2
        simp at hq htk hd
        subst hq; subst htk; subst hd
        refine ⟨(q, tk, d), fun s u hu => ?_⟩
        rw [← Go.Proofs.Ytaockieikcibdaa.add_add]
        have hs : s < 3 := (List.getElem?_eq_some_iff.1 hu).1
        rw [hat s hs]; exact hu
    obtain ⟨R, hR⟩ := Go.Deep.choose_lt hex
    refine ⟨some a, len, cap, (List.range len).map R, rfl, ⟨⟨by rw [Ta.length_fl3]; simp, fun hn => ⟨a, rfl, ?_, ?_⟩⟩, hl, hm, by simp⟩⟩
    · have h0 := World.block_lt_of_cell? w _ (hR 0 hn 0 _ rfl)
      rwa [add_block] at h0
    · intro j u hu
      obtain ⟨k, s, x, rfl, hs, hk, hc⟩ := flT_inv hu
      rw [List.getElem?_map] at hk
      rcases Nat.lt_or_ge k len with hkl | hkl
      · rw [List.getElem?_eq_getElem (by simpa using hkl)] at hk
        simp at hk
        subst hk
        exact hR k hkl s u hc
      · rw [List.getElem?_eq_none (by simpa using hkl)] at hk
        cases hk
/-- A struct of two such slices. -/
theorem open_bpair {H : Type} {enc : TypeId × Value → H} {P : Program} {w : World} {base : Nat} {r : Reach} {tp t e : TypeId} {p0 p1 f0 f1 f2 : Field} {v : Value} {d : DataW H} {p : List MemPlace}
    (htp : P.underlying tp = some (.struct #[p0, p1])) (hp : (p0.offset, P.cellsOf p0.type, p0.type, p1.offset, P.cellsOf p1.type, p1.type) = (0, 1, t, 1, 1, t)) (hcp : P.cellsOf tp = 2)
    (ht : P.underlying t = some (.slice e)) (he : P.underlying e = some (.struct #[f0, f1, f2])) (hone : oneCellFields P #[f0, f1, f2] = true) (hc : P.cellsOf e = 3)
    (t0 : P.underlying f0.type = some (.int .i64)) (t1 : P.underlying f1.type = some (.int .i64)) (t2 : P.underlying f2.type = some (.int .i64))
    (hv : Value.okWide P w r base tp v) (h : DataW.Trod enc P w 0 (fun _ => true) true tp v d p) :
    ∃ (A1 : Option Addr) (n1 c1 : Nat) (l1 : List Bu) (A2 : Option Addr) (n2 c2 : Nat) (l2 : List Bu), v = .agg #[.slice A1 n1 c1, .slice A2 n2 c2] ∧ Arg w A1 n1 c1 l1 ∧ Arg w A2 n2 c2 l2 := by
  obtain ⟨cs, rfl, hsz⟩ := okWide_struct htp hv
  rw [hcp] at hsz
  obtain ⟨u0, u1, rfl⟩ : ∃ u0 u1, cs = #[u0, u1] := by
    obtain ⟨cs⟩ := cs
    match cs, hsz with
    | [u0, u1], _ => exact ⟨u0, u1, rfl⟩
  obtain ⟨fuel, hf⟩ := h
  obtain ⟨y0, y1, n, -, -, g0, g1⟩ := trod_struct2 htp hf
  simp only [Prod.mk.injEq] at hp
  obtain ⟨o0, s0, e0, o1, s1, e1⟩ := hp
  rw [s0, e0, o0] at g0
  rw [s1, e1, o1] at g1
  obtain ⟨A1, n1, c1, l1, rfl, a1⟩ := open_buks ht he hone hc t0 t1 t2 (v := u0) g0
  obtain ⟨A2, n2, c2, l2, rfl, a2⟩ := open_buks ht he hone hc t0 t1 t2 (v := u1) g1
  exact ⟨A1, n1, c1, l1, A2, n2, c2, l2, rfl, a1, a2⟩
end Tm
end Go.Proofs.Ytaockieikcibdaa
