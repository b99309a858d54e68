/- suffix.Array. bwt.Forward. bwt.may, bwt.at. lens.Used, lens.Check. -/
import Derived.Test.YtpbphhpldlckbaaGreatSc20
import Derived.Test.YtpbphhpldlckbaaGreatSc12
import Derived.Test.YtpbphhpldlckbaaGreatSc07
import Derived.Test.YtpbphhpldlckbaaGreatSc09
import Derived.Deep.LoopGhost
import Derived.BigRegion
namespace Go.Proofs.YtpbphhpldlckbaaGreat
namespace Sx
open Go.RowKit

set_option maxHeartbeats 6400000 in
set_option maxRecDepth 100000 in
theorem array_any (s : ByteArray) (w : World) (hs : s.size ≤ 20000) :
    Calls Tryz.prog 90 #[.string s] w fun e w' => ∃ v arr, e = .returned (.tuple #[v, .int .i64 0]) ∧ Sorted s.data.toList arr ∧ Own w' w.heap.size v (ints arr) ∧ Below w.heap.size w w' := by
  have mixed : Tryz.prog.follows .mixedOrders = true := by kernel_rfl
  have e115 : ∀ args w, (callFunc 110 args).run Tryz.prog w = .ok (.enter 110 args) w := enters_of Tryz.func110 (by kernel_rfl) rfl
  have hsl : s.data.toList.length = s.size := rfl
  -- the world with the box
  obtain ⟨w0, hw0⟩ : ∃ w0, w0 = w.alloc (Obj.cells #[.string s] 9) := ⟨_, rfl⟩
  have hs0 : w0.heap.size = w.heap.size + 1 := by rw [hw0]; simp
  have v1 : Var w0 w.heap.size 9 (.string s) := by rw [hw0]; exact Var.new w _ _
  have hb0 : Below w.heap.size w w0 := by rw [hw0]; exact (Below.refl _ _).alloc (Nat.le_refl _) _
  have hk : ∀ w', Below w0.heap.size w0 w' → ∀ p, p ≤ s.size → Calls Tryz.prog 110 (#[.int .i64 (p : Int)] ++ #[.pointer (some ⟨w.heap.size, 0, none⟩)]) w' fun e w'' => e = .returned (.int .i64 (tl s.data.toList p : Int)) ∧ w' = w'' := by
    intro w' hb p hp
    exact letter_any w.heap.size s w' (v1.below hb (by omega)) p hp (by omega)
  obtain ⟨n, hn⟩ : ∃ n, n = s.size := ⟨_, rfl⟩
  obtain ⟨X, hX⟩ : ∃ X, X = ctd 257 (tl s.data.toList) (List.range (n + 1)) := ⟨_, rfl⟩
  have hXp : X.Perm (List.range (n + 1)) := by rw [hX]; exact ctd_perm _ _ _ (fun x _ => by have := tl_le s.data.toList x; omega)
  have C1 : ∀ wx v, Below w0.heap.size w0 wx → Own wx w.heap.size v (ints (List.range (n + 1))) → Calls Tryz.prog 111 #[v, .int .i64 256, .func (.func 110) #[] #[.pointer (some ⟨w.heap.size, 0, none⟩)]] wx fun e w' =>
      ∃ v, e = .returned v ∧ Own w' w.heap.size v (ints X) ∧ Below w0.heap.size w0 w' := by
    intro wx v hb ho
    obtain ⟨A, c, rfl, _, _, hr⟩ := ho.rd
    have hlen : (ints (List.range (n + 1))).length = n + 1 := by rw [length_ints, List.length_range]
    rw [hlen] at hr ⊢
    have := counted_any A (n + 1) c 256 (List.range (n + 1)) (tl s.data.toList) 110 _ wx (by omega) (by omega) hr (fun p _ => by have := tl_le s.data.toList p; omega) (fun p hp => by have := List.mem_range.1 hp; omega) e115 (fun p hp w' hb' => hk w' (ext_trans hb hb') p (by have := List.mem_range.1 hp; omega))
    refine this.mono ?_
    rintro e w' ⟨v, he, ho, hb'⟩
    rw [← hX] at ho
    exact ⟨v, he, ho.lower (by have := hb.size; omega), ext_trans hb hb'⟩
  have hwn : IntKind.i64.wrap ((n : Int) + 1) = ((n + 1 : Nat) : Int) := by rw [IntKind.wrap_i64]; omega
  have HW0 := Lib.hid hw0
  have HZ0 := Lib.hid hs0
  have HB0 := Lib.hid hb0
  have HK := Lib.hid hk
  have HC1 := Lib.hid C1
  have HX := Lib.hid hX
  have HXp := Lib.hid hXp
  have hnb : n ≤ 20000 := by omega
  have HV1 := Lib.hid v1
  have hc1 := v1.cell
  have HN := Lib.hid hn
  clear hw0 hs0 hb0 hk C1 hX hXp v1 hwn
  go_enter Tryz.func90, Tryz.ntmps90
  go_wp2_with fail
  rw [← HW0.out]
  have hup := upto_any (n + 1) w0 (by omega)
  rw [show ((n + 1 : Nat) : Int) = (s.size : Int) + 1 by have := HN.out; omega] at hup
  refine hup.mono ?_
  rintro e1 w1 ⟨v1, rfl, hown1, hb1⟩
  clear hup
  go_wp2_with fail
  refine (HC1.out w1 v1 hb1 (hown1.lower HB0.out.size)).mono ?_
  rintro e2 w2 ⟨v2, rfl, hown2, hb2⟩
  clear hown1 hb1 hc1
  have hXl : X.length = n + 1 := by rw [HXp.out.length_eq, List.length_range]
  obtain ⟨A, c, rfl, _, _, hr⟩ := hown2.rd
  obtain ⟨gA, rfl, _, _⟩ := hown2.form0 (by rw [length_ints, hXl]; omega)
  have hlen : (ints X).length = n + 1 := by rw [length_ints, hXl]
  rw [hlen] at hr
  have HO2 : Aside (Own w2 w.heap.size (.slice (some ⟨gA, 0, none⟩) (ints X).length c) (ints X)) := hown2
  have HB2 : Aside (Below w0.heap.size w0 w2 ∧ Below w.heap.size w w2) := ⟨hb2, ext_trans HB0.out hb2⟩
  have HRd : Aside (Rd w2 w2.heap.size 1 (some ⟨gA, 0, none⟩) (n + 1) ((ints X).map (Value.int .i64))) := hr
  have hX2 : ∀ p ∈ X, p < n + 1 := fun p hp => List.mem_range.1 (HXp.out.mem_iff.1 hp)
  have HX2 := Lib.hid hX2
  have HXl := Lib.hid hXl
  rw [hlen]
  obtain ⟨N, hNN⟩ : ∃ N, N = n + 1 := ⟨_, rfl⟩
  have HMI : Hid ((s.size : Int) + 1 = (N : Int)) := (by have := HN.out; omega : (s.size : Int) + 1 = (N : Int))
  have HNN := Lib.hid hNN
  have hNb : N ≤ 20001 := by omega
  have hN0 : 0 < N := by omega
  have hsb : s.size ≤ 20000 := hs
  rw [← hNN]
  rw [← hNN] at HRd HX2 HXl
  clear hown2 hb2 hr hX2 hXl hlen hNN
  rw [HMI.out]
  go_wp2_with (at_make; (refine make1 (n := N) (by omega) (Nat.le_refl w2.heap.size) ?_); intro w3 hown3 hg3)
  have hb3 : Below w2.heap.size w2 w3 := (Below.refl _ _).grown hg3 (Nat.le_refl _) (by simp)
  have H0 : Aside (Own w3 w2.heap.size (.slice (some ⟨w2.heap.size, 0, none⟩) N N) (ints (nx (difL s.data.toList) X N 0)) ∧ Below w2.heap.size w2 w3) := ⟨by rw [nx, ints_rep]; exact hown3, hb3⟩
  clear hown3 hg3 hb3
  go_loopg [8] N (fun kx s8 wr => ∃ (j : Nat), s8 = .int .i64 ((j + 1 : Nat) : Int) ∧ j + 1 ≤ N ∧ N - j ≤ kx ∧ Aside (Own wr w2.heap.size (.slice (some ⟨w2.heap.size, 0, none⟩) N N) (ints (nx (difL s.data.toList) X N j)) ∧ Below w2.heap.size w2 wr))
  case atStart => exact ⟨0, rfl, by omega, by omega, H0.out⟩
  case round =>
    clear H0
    obtain ⟨j, rfl, hj, hjx, H⟩ := hrel
    by_cases hlt : j + 1 < N
    · obtain ⟨hown, hb⟩ := H.out
      have hrd := HRd.out.below hb
      obtain ⟨ad, x, e1, had, hx, hcell1⟩ := hrd.int1 (k := j) (by omega)
      obtain ⟨ad2, x2, e2, had2, hx2, hcell2⟩ := hrd.int1 (k := j + 1) (by omega)
      cases e2
      cases e1
      rw [Addr.add_lit, Nat.zero_add] at hcell1 hcell2
      rw [ints_at X j (by have := HXl.out; omega), Option.some.injEq] at hx
      rw [ints_at X (j + 1) (by have := HXl.out; omega), Option.some.injEq] at hx2
      subst hx; subst hx2
      have ha : X.getD j 0 < N := HX2.out _ (by rw [List.getD_eq_getElem?_getD, List.getElem?_eq_getElem (by have := HXl.out; omega)]; exact List.getElem_mem _)
      have hbn : X.getD (j + 1) 0 < N := HX2.out _ (by rw [List.getD_eq_getElem?_getD, List.getElem?_eq_getElem (by have := HXl.out; omega)]; exact List.getElem_mem _)
      have hstep : nx (difL s.data.toList) X N (j + 1) = (nx (difL s.data.toList) X N j).set (X.getD (j + 1) 0) ((nx (difL s.data.toList) X N j).getD (X.getD j 0) 0 + if difL s.data.toList (X.getD j 0) (X.getD (j + 1) 0) = true then 1 else 0) := rfl
      generalize X.getD j 0 = a at *
      generalize X.getD (j + 1) 0 = b at *
      have hDv : difL s.data.toList a b = (tl s.data.toList a != tl s.data.toList b) := rfl
      generalize difL s.data.toList = D at *
      have hc := hown.cell (k := a) (x := (((nx D X N j).getD a 0 : Nat) : Int)) (ints_at _ _ (by rw [length_nx]; exact ha))
      have hf := hown.frozen (k := b)
      have hyb := nx_le D X N j a
      generalize (nx D X N j).getD a 0 = y at *
      have hcb := hown.cell (k := b) (x := (((nx D X N j).getD b 0 : Nat) : Int)) (ints_at _ _ (by rw [length_nx]; exact hbn))
      generalize (nx D X N j).getD b 0 = yb at hcb
      have hbw : ∀ n, Below w0.heap.size w0 ((wr.setCell ⟨w2.heap.size, b, none⟩ (.int .i64 (y : Int))).drewN (1 + n)) := fun n => below_drewN ((ext_trans HB2.out.1 hb).setCell (p := ⟨w2.heap.size, b, none⟩) HB2.out.1.size _) (1 + n)
      have HN1 := Own.put2 (k := b) ⟨hown, hb⟩ (y : Int)
      have HN2 := Own.put2 (k := b) HN1 ((y + 1 : Nat) : Int)
      have es : ((ints (nx D X N j)).set b (y : Int)).set b ((y + 1 : Nat) : Int) = ints ((nx D X N j).set b (y + 1)) := by rw [List.set_set, ints_set]
      rw [es] at HN2
      rw [ints_set] at HN1
      have hA1 := fun n => HK.out _ (hbw n) a (by have := HNN.out; have := HN.out; omega)
      have hA2 := fun n => HK.out _ (hbw n) b (by have := HNN.out; have := HN.out; omega)
      generalize tl s.data.toList a = fa at *
      generalize tl s.data.toList b = fb at *
      have hgne : ∀ k, (⟨w2.heap.size, b, none⟩ : Addr) ≠ ⟨gA, k, none⟩ := fun k e => by
        have h0 : w2.heap.size = gA := by injection e
        have : gA < w2.heap.size := had
        omega
      have hcell3 : (wr.setCell ⟨w2.heap.size, b, none⟩ (.int .i64 (y : Int))).cell? ⟨gA, j, none⟩ = some (.int .i64 (a : Int)) := (World.cell?_setCell_other _ _ _ _ (hgne j)).trans hcell1
      have hcell4 : (wr.setCell ⟨w2.heap.size, b, none⟩ (.int .i64 (y : Int))).cell? ⟨gA, j + 1, none⟩ = some (.int .i64 (b : Int)) := (World.cell?_setCell_other _ _ _ _ (hgne (j + 1))).trans hcell2
      clear hgne
      have p1 : (0 : Int) ≤ (j : Int) + 1 := by omega
      have p2 : (j : Int) + 1 < (N : Int) := by omega
      have p3 : ((j : Int) + 1).toNat = j + 1 := by omega
      have p4 : IntKind.i64.wrap ((j : Int) + 1 - 1) = (j : Int) := by rw [IntKind.wrap_i64]; omega
      have p5 : (0 : Int) ≤ (j : Int) := by omega
      have p6 : (j : Int) < (N : Int) := by omega
      have HA1 := Lib.hid hA1
      have HA2 := Lib.hid hA2
      by_cases h1 : fa = fb
      · have hd : D a b = false := by rw [hDv, h1]; simp
        rw [hd] at hstep
        have HNX : Aside (Own (wr.setCell ⟨w2.heap.size, b, none⟩ (.int .i64 (y : Int))) w2.heap.size (.slice (some ⟨w2.heap.size, 0, none⟩) N N) (ints (nx D X N (j + 1))) ∧ Below w2.heap.size w2 (wr.setCell ⟨w2.heap.size, b, none⟩ (.int .i64 (y : Int)))) := by
          rw [hstep]; exact HN1
        subst h1
        clear hstep hrd HN1 HN2 es hDv hd hown hb H hbw hA1 hA2
        go_wp2_with fail
        go_region
        go_wp2_with fail
        have tok : True := trivial
        go_quiet (first | (go_at_call_of 110 ((b : Nat) : Int); exact (HA2.out _).mono fun _ _ h => ⟨h.1, _, h.2.symm⟩) | (go_at_call_of 110 ((a : Nat) : Int); exact (HA1.out _).mono fun _ _ h => ⟨h.1, _, h.2.symm⟩))
        go_wp2_with fail
        go_roundg (N - (j + 1))
        case measure => omega
        case rel => exact ⟨j + 1, by go_num, by omega, by omega, by first | exact HNX.out | exact ⟨HNX.out.1, HNX.out.2.drew⟩ | exact ⟨HNX.out.1, below_drewN HNX.out.2 _⟩⟩
      · have hd : D a b = true := by rw [hDv, bne_iff_ne.2 h1]
        rw [hd, if_pos rfl] at hstep
        rw [← hstep] at HN2
        have HNX : Aside _ := HN2
        have b2 : ((fb : Int) != (fa : Int)) = true := by rw [bne_iff_ne]; omega
        have b2' : ((fb : Int) == (fa : Int)) = false := by rw [beq_eq_false_iff_ne]; omega
        clear hstep hrd HN1 HN2 es hDv hd hown hb H hbw hA1 hA2
        go_wp2_with fail
        go_region
        go_wp2_with fail
        go_quiet (first | (go_at_call_of 110 ((b : Nat) : Int); exact (HA2.out _).mono fun _ _ h => ⟨h.1, _, h.2.symm⟩) | (go_at_call_of 110 ((a : Nat) : Int); exact (HA1.out _).mono fun _ _ h => ⟨h.1, _, h.2.symm⟩))
        go_wp2_with fail
        go_roundg (N - (j + 1))
        case measure => omega
        case rel => exact ⟨j + 1, by go_num, by omega, by omega, by first | exact HNX.out | exact ⟨HNX.out.1, HNX.out.2.drew⟩ | exact ⟨HNX.out.1, below_drewN HNX.out.2 _⟩⟩
    · obtain ⟨M, rfl⟩ : ∃ M, N = M + 1 := ⟨N - 1, by omega⟩
      have hjN : j = M := by omega
      subst hjN
      have hjn : j = n := by have := HNN.out; omega
      obtain ⟨hown, hb⟩ := H.out
      have hrd := HRd.out.below hb
      obtain ⟨ad, x, e1, had, hx, hcell1⟩ := hrd.int1 (k := j) (by omega)
      cases e1
      rw [Addr.add_lit, Nat.zero_add] at hcell1
      rw [ints_at X j (by have := HXl.out; omega), Option.some.injEq] at hx
      subst hx
      have ha : X.getD j 0 < j + 1 := HX2.out _ (by rw [List.getD_eq_getElem?_getD, List.getElem?_eq_getElem (by have := HXl.out; omega)]; exact List.getElem_mem _)
      have hst := stt_first s.data.toList
      have hls : s.data.toList.length = n := HN.out.symm
      rw [hls, ← HX.out, ← hjn] at hst
      generalize difL s.data.toList = D at *
      have hc := hown.cell (k := X.getD j 0) (x := (((nx D X (j + 1) j).getD (X.getD j 0) 0 : Nat) : Int)) (ints_at _ _ (by rw [length_nx]; exact ha))
      have hqb := nx_le D X (j + 1) j (X.getD j 0)
      have hv1 : Own wr w.heap.size (.slice (some ⟨gA, 0, none⟩) (j + 1) c) (ints X) := by
        have := HO2.out.below hb (Nat.le_refl _)
        rwa [show (ints X).length = j + 1 by rw [length_ints, HXl.out]] at this
      have hv2 : Own wr w.heap.size (.slice (some ⟨w2.heap.size, 0, none⟩) (j + 1) (j + 1)) (ints (nx D X (j + 1) j)) := hown.lower HB2.out.2.size
      have hbN : Below w0.heap.size w0 wr := ext_trans HB2.out.1 hb
      obtain ⟨p, hp⟩ : ∃ p, p = X.getD j 0 := ⟨_, rfl⟩
      rw [← hp] at hc hcell1 hqb ha
      obtain ⟨q, hq⟩ : ∃ q, q = (nx D X (j + 1) j).getD p 0 := ⟨_, rfl⟩
      rw [← hq] at hc hqb
      have HQ : Hid (q = (nx D X (j + 1) j).getD (X.getD j 0) 0) := (by rw [hq, hp] : q = (nx D X (j + 1) j).getD (X.getD j 0) 0)
      have hbq : ((q : Int) == (j : Int)) = decide (q = j) := by
        by_cases hq : q = j
        · subst hq; simp
        · rw [decide_eq_false hq, beq_eq_false_iff_ne]; omega
      obtain ⟨R0, hR0⟩ : ∃ R0, R0 = nx D X (j + 1) j := ⟨_, rfl⟩
      rw [← hR0] at hv2 hst
      have HST : Aside (Stt s.data.toList 1 X R0 ∧ Own wr w.heap.size (.slice (some ⟨gA, 0, none⟩) (j + 1) c) (ints X) ∧ Own wr w.heap.size (.slice (some ⟨w2.heap.size, 0, none⟩) (j + 1) (j + 1)) (ints R0) ∧ Below w0.heap.size w0 wr ∧ q = R0.getD (X.getD j 0) 0) := ⟨hst, hv1, hv2, hbN, by rw [hR0]; exact HQ.out⟩
      have HLS := Lib.hid hls
      have HJN := Lib.hid hjn
      clear hown hb hrd hbN hv1 hv2 H hp hq hst hR0 hls hjn
      go_wp2_with fail
      clear hc hcell1 hqb ha
      go_loopg [6, 7, 9, 10] (j + 2) (fun kx s6 s7 s9 s10 wr => ∃ (L : Nat) (arr R : List Nat) (A1 A2 : Option Addr) (c1 c2 : Nat) (dn : Bool), s6 = .slice A1 (j + 1) c1 ∧ s7 = .slice A2 (j + 1) c2 ∧ s9 = .bool dn ∧ s10 = .int .i64 (L : Int) ∧ 1 ≤ L ∧ L ≤ 50000 ∧ j + 1 - L ≤ kx ∧
        Aside (Stt s.data.toList L arr R ∧ Own wr w.heap.size (.slice A1 (j + 1) c1) (ints arr) ∧ Own wr w.heap.size (.slice A2 (j + 1) c2) (ints R) ∧ Below w0.heap.size w0 wr ∧ dn = decide (R.getD (arr.getD j 0) 0 = j)))
      case atStart => exact ⟨1, X, R0, _, _, _, _, _, rfl, rfl, rfl, rfl, by omega, by omega, by omega, HST.out.1, HST.out.2.1, HST.out.2.2.1, HST.out.2.2.2.1, by rw [← HST.out.2.2.2.2]⟩
      case round =>
        clear HST
        obtain ⟨L, arr, R, A1, A2, c1, c2, dn, rfl, rfl, rfl, rfl, hL1, hL2, hLk, H⟩ := hrel
        obtain ⟨hst, hv1, hv2, hb, hdn⟩ := H.out
        have hsl : s.data.toList.length = j := by rw [HLS.out, HJN.out]
        have hbw : Below w.heap.size w wr := ext_trans HB0.out hb
        cases dn
        · have hLj : L ≤ j := by
            rcases Nat.lt_or_ge j L with hlt | hge
            · have := stt_far hst (by omega)
              rw [hsl] at this
              rw [decide_eq_true this] at hdn; simp at hdn
            · exact hge
          have hal : arr.length = j + 1 := by rw [hst.rank.perm.length_eq, List.length_range, hsl]
          have hRl : R.length = j + 1 := by rw [hst.len, hsl]
          have hr1 := hv1.rd0.1
          have hr2 := hv2.rd0.1
          rw [length_ints, hal] at hr1
          rw [length_ints, hRl] at hr2
          have hdb := doubled_any A1 c1 arr A2 c2 (j + 1) L R wr (by omega) hNb (by omega) hr1 hr2 (fun p hp => by have := List.mem_range.1 (hst.rank.perm.mem_iff.1 hp); omega) (fun p hp => by
            obtain ⟨i, hi, rfl⟩ := List.mem_iff_getElem.1 hp
            have := hst.le i
            rw [getD_lt _ _ hi] at this; omega)
          have hst2 := stt_step hst
          rw [hsl] at hst2
          have HS2 : Aside (Stt s.data.toList (L + L) (arr2 L (j + 1) R arr) (nx (dif L (j + 1) R) (arr2 L (j + 1) R arr) (j + 1) j)) := hst2
          have HBB : Aside (Below w0.heap.size w0 wr ∧ w.heap.size ≤ wr.heap.size) := ⟨hb, hbw.size⟩
          rw [Nat.add_sub_cancel] at hdb
          have hln1 : (ints (arr2 L (j + 1) R arr)).length = j + 1 := by rw [length_ints, hst2.rank.perm.length_eq, List.length_range, hsl]
          have hln2 : (ints (nx (dif L (j + 1) R) (arr2 L (j + 1) R arr) (j + 1) j)).length = j + 1 := by rw [length_ints, length_nx]
          generalize arr2 L (j + 1) R arr = arr' at *
          generalize nx (dif L (j + 1) R) arr' (j + 1) j = R' at *
          have HD := Lib.hid hdb
          clear hst hv1 hv2 hb hdn H hbw hr1 hr2 hst2 hdb hal hRl
          go_wp2_with fail
          refine HD.out.mono ?_
          rintro e4 w4 ⟨v1, v2, rfl, ho1, ho2, hb4⟩
          obtain ⟨A1', c1', rfl, _, _, _⟩ := ho1.rd
          obtain ⟨A2', c2', rfl, _, _, _⟩ := ho2.rd
          rw [hln1] at ho1 ⊢
          rw [hln2] at ho2 ⊢
          have HE : Aside (Stt s.data.toList (L + L) arr' R' ∧ Own w4 w.heap.size (.slice A1' (j + 1) c1') (ints arr') ∧ Own w4 w.heap.size (.slice A2' (j + 1) c2') (ints R') ∧ Below w0.heap.size w0 w4) := ⟨HS2.out, ho1.lower HBB.out.2, ho2.lower HBB.out.2, ext_trans HBB.out.1 hb4⟩
          clear ho1 ho2 hb4 HD hln1 hln2
          go_wp2_with fail
          go_roundg (j + 1 - (L + L))
          case measure => omega
          case rel => exact ⟨L + L, arr', R', A1', A2', c1', c2', _, rfl, rfl, rfl, by go_num, by omega, by omega, by omega, HE.out.1, HE.out.2.1, HE.out.2.2.1, HE.out.2.2.2, rfl⟩
        · have hd : R.getD (arr.getD j 0) 0 = j := of_decide_eq_true hdn.symm
          have hso := stt_done hst (by rw [hsl]; exact hd)
          have HE : Aside (Sorted s.data.toList arr ∧ Own wr w.heap.size (.slice A1 (j + 1) c1) (ints arr) ∧ Below w.heap.size w wr) := ⟨hso, hv1, hbw⟩
          clear hst hv1 hv2 hb hdn H hbw hd hso
          go_wp2_with fail
          go_ret2
          exact ⟨_, arr, rfl, HE.out⟩
end Sx
end Go.Proofs.YtpbphhpldlckbaaGreat
namespace Go.Proofs.YtpbphhpldlckbaaGreat
namespace Bw
open Go.RowKit Sx

set_option maxHeartbeats 1600000 in
set_option maxRecDepth 100000 in
theorem forward_any (s : ByteArray) (w : World) (hs : s.size ≤ 20000) :
    Calls Tryz.prog 69 #[.string s] w fun e w' => ∃ arr, Sorted s.data.toList arr ∧ e = .returned (.tuple #[.string ⟨(lst s.data.toList arr).toArray⟩, .int .i64 (pri arr : Int), .int .i64 0]) ∧ Below w.heap.size w w' := by
  have hcon := array_any s w hs
  have HC := Lib.hid hcon
  clear hcon
  go_enter Tryz.func69, Tryz.ntmps69
  go_wp2_with fail
  refine HC.out.mono ?_
  rintro e1 w1 ⟨v, arr, rfl, hso, hown, hb1⟩
  obtain ⟨A, c, rfl, _, _, hr⟩ := hown.rd
  have hal : arr.length = s.size + 1 := by rw [A_len hso]; rfl
  obtain ⟨gA, rfl, _, _⟩ := hown.form0 (by rw [length_ints, hal]; omega)
  rw [length_ints, hal] at hr
  rw [length_ints, hal]
  have HSo := Lib.hid hso
  have HRd : Aside (Rd w1 w1.heap.size 1 (some ⟨gA, 0, none⟩) (s.size + 1) ((ints arr).map (Value.int .i64))) := hr
  have HB1 : Aside (Below w.heap.size w w1) := hb1
  have HAl := Lib.hid hal
  have HLe : Hid (∀ p ∈ arr, p ≤ s.size) := fun p hp => (A_mem hso p).1 hp
  obtain ⟨n, hn⟩ : ∃ n, n = s.size := ⟨_, rfl⟩
  have HN := Lib.hid hn
  have hnb : n ≤ 20000 := by omega
  clear hown hr hb1 hso hal HC hn
  go_wp2_with (at_make; (refine makeB0 (n := s.size) (by omega) (Nat.le_refl w1.heap.size) ?_); intro w2 hown2 hg2 hz2)
  have H0 : Aside (OwnB w2 w1.heap.size (.slice (some ⟨w1.heap.size, 0, none⟩) 0 s.size) (lk s.data.toList arr 0) ∧ Below w1.heap.size w1 w2) := ⟨hown2, (Below.refl _ _).grown hg2 (Nat.le_refl _) (by simp)⟩
  clear hown2 hg2 hz2
  go_wp2_with fail
  go_loopg [3, 6, 22] (s.size + 1) (fun kx s3 s6 s22 wr => ∃ (k : Nat), s22 = .int .i64 (k : Int) ∧ s3 = .int .i64 (pk arr k : Int) ∧ k ≤ s.size + 1 ∧ s.size + 1 - k ≤ kx ∧ Aside (OwnB wr w1.heap.size s6 (lk s.data.toList arr k) ∧ Below w1.heap.size w1 wr))
  case atStart => exact ⟨0, rfl, rfl, by omega, by omega, H0.out⟩
  case round =>
    clear H0
    obtain ⟨k, rfl, rfl, hk, hkx, H⟩ := hrel
    by_cases hlt : k < s.size + 1
    · obtain ⟨hown, hb⟩ := H.out
      have hrd := HRd.out.below hb
      obtain ⟨ad, x, e1, had, hx, hcell⟩ := hrd.int1 (k := k) hlt
      cases e1
      rw [Addr.add_lit, Nat.zero_add] at hcell
      have hka : k < arr.length := by have := HAl.out; omega
      rw [Sx.ints_at arr k hka, Option.some.injEq, getD_lt arr k hka] at hx
      subst hx
      have hle := HLe.out arr[k] (List.getElem_mem _)
      have hst := lk_step (s := s.data.toList) (A := arr) k hka
      have hpk := pk_step HSo.out k hka
      have hll := length_lk_le (s := s.data.toList) (A := arr) k
      by_cases h0 : arr[k] = 0
      · rw [if_pos h0] at hst hpk
        rw [h0] at hcell
        have h9 := H.out
        rw [← hst] at h9
        have HNX : Aside _ := h9
        clear h9
        have HPK := Lib.hid hpk
        clear hown hb hrd hst hpk H h0
        go_wp2_with fail
        go_roundg (s.size + 1 - (k + 1))
        case measure => omega
        case rel => exact ⟨k + 1, by go_num, by rw [HPK.out], by omega, by omega, HNX.out⟩
      · rw [if_neg h0] at hst hpk
        obtain ⟨q, hq⟩ : ∃ q, arr[k] = q + 1 := ⟨arr[k] - 1, by omega⟩
        rw [hq] at hcell hle hst
        have hqs : q < s.size := by omega
        have hgd : s.data.toList.getD (q + 1 - 1) 0 = s[q] := by
          rw [Nat.add_sub_cancel, List.getD_eq_getElem?_getD, List.getElem?_eq_getElem (show q < s.data.toList.length from hqs)]; rfl
        rw [hgd] at hst
        have HST := Lib.hid hst
        have HPK := Lib.hid hpk
        have HBB : Aside (Below w1.heap.size w1 wr) := hb
        clear hb hrd hst hpk H h0 hq hgd
        go_wp2_with (at_builtin; refine appendB s[q] rfl hown (by omega) HBB.out.size ?_; intro A2 n2 c2 w3 hn2 hown2 hb2 hg2 hat2)
        have HNX : Aside (OwnB w3 w1.heap.size (.slice A2 n2 c2) (lk s.data.toList arr (k + 1)) ∧ Below w1.heap.size w1 w3) := by rw [HST.out]; exact ⟨hown2, HBB.out.trans hb2⟩
        clear hown hown2 hb2 hg2 hat2
        go_roundg (s.size + 1 - (k + 1))
        case measure => omega
        case rel => exact ⟨k + 1, by go_num, by rw [HPK.out], by omega, by omega, HNX.out⟩
    · have HE := H.out
      have e : k = arr.length := by have := HAl.out; omega
      rw [e, lk_all] at HE
      obtain ⟨A2, c2, rfl, _, _, hr2⟩ := HE.1.rd
      have hs2 := run_str (c := c2) hr2
      have HPK : Hid (pk arr k = pri arr) := (by rw [e]; exact pk_all HSo.out : pk arr k = pri arr)
      have HBB : Aside (Below w.heap.size w wr) := ext_trans HB1.out HE.2
      clear HE H e hr2
      go_wp2_with fail
      go_ret3
      refine ⟨arr, HSo.out, ?_, HBB.out⟩
      rw [← HPK.out]
      rfl
end Bw
end Go.Proofs.YtpbphhpldlckbaaGreat
namespace Go.Proofs.YtpbphhpldlckbaaGreat
namespace Bw
open Go.RowKit Sx

/-- May a row be the text's own? -/
def mayB (n : Nat) (pr : Int) : Bool := if n = 0 then decide (pr = 0) else decide (1 ≤ pr) && decide (pr ≤ n)

set_option maxHeartbeats 1600000 in
set_option maxRecDepth 100000 in
theorem at_any (s : ByteArray) (pr row : Nat) (w : World) (hs : s.size ≤ 1000000) (hpr : pr ≤ 1000000) (hr : row ≤ s.size) (h : (if pr < row then row - 1 else row) < s.size) :
    Calls Tryz.prog 137 #[.string s, .int .i64 (pr : Int), .int .i64 (row : Int)] w fun e w' => e = .returned (.int .u8 ((at_ s.data.toList pr row).toNat : Int)) ∧ w = w' := by
  by_cases hlt : pr < row
  · rw [if_pos hlt] at h
    obtain ⟨q, rfl⟩ : ∃ q, row = q + 1 := ⟨row - 1, by omega⟩
    rw [Nat.add_sub_cancel] at h
    have ha : at_ s.data.toList pr (q + 1) = s[q] := by
      unfold at_
      rw [if_pos hlt, Nat.add_sub_cancel, List.getD_eq_getElem?_getD, List.getElem?_eq_getElem (show q < s.data.toList.length from h)]; rfl
    have HA := Lib.hid ha
    clear ha
    go_enter Tryz.func137, Tryz.ntmps137
    go_wp2
    go_ret
    rw [HA.out]
    exact ⟨rfl, rfl⟩
  · rw [if_neg hlt] at h
    have ha : at_ s.data.toList pr row = s[row] := by
      unfold at_
      rw [if_neg hlt, List.getD_eq_getElem?_getD, List.getElem?_eq_getElem (show row < s.data.toList.length from h)]; rfl
    have HA := Lib.hid ha
    clear ha
    go_enter Tryz.func137, Tryz.ntmps137
    go_wp2
    go_ret
    rw [HA.out]
    exact ⟨rfl, rfl⟩

set_option maxHeartbeats 1600000 in
set_option maxRecDepth 100000 in
theorem may_any (s : ByteArray) (pr : Int) (w : World) (hs : s.size ≤ 1000000) :
    Calls Tryz.prog 147 #[.string s, .int .i64 pr] w fun e w' => e = .returned (.bool (mayB s.size pr)) ∧ w = w' := by
  by_cases h0 : s.size = 0
  · have hm : mayB s.size pr = decide (pr = 0) := if_pos h0
    have HM := Lib.hid hm
    have he : s = ⟨#[]⟩ := by
      apply ByteArray.ext
      exact Array.eq_empty_of_size_eq_zero h0
    subst he
    have hb : (pr == 0) = decide (pr = 0) := by
      by_cases h : pr = 0
      · subst h; rfl
      · rw [decide_eq_false h, beq_eq_false_iff_ne]; exact h
    clear hm
    go_enter Tryz.func147, Tryz.ntmps147
    go_wp2
    go_ret
    rw [HM.out]
    exact ⟨rfl, rfl⟩
  · have hm : mayB s.size pr = (decide (1 ≤ pr) && decide (pr ≤ (s.size : Int))) := if_neg h0
    have HM := Lib.hid hm
    have hne : s.toList.isEmpty = false := by
      rw [ByteArray.toList_eq]
      rcases hl : s.data.toList with _ | ⟨x, r⟩
      · exfalso
        have : s.data.toList.length = s.size := rfl
        rw [hl] at this
        exact h0 this.symm
      · rfl
    clear hm
    by_cases h1 : 1 ≤ pr
    · go_enter Tryz.func147, Tryz.ntmps147
      go_wp2
      go_ret
      rw [HM.out, decide_eq_true h1, Bool.true_and]
      exact ⟨rfl, rfl⟩
    · go_enter Tryz.func147, Tryz.ntmps147
      go_wp2
      go_ret
      rw [HM.out, decide_eq_false (by omega), Bool.false_and]
      exact ⟨rfl, rfl⟩
end Bw
end Go.Proofs.YtpbphhpldlckbaaGreat
namespace Go.Proofs.YtpbphhpldlckbaaGreat
namespace Cn
open Go.RowKit

theorem us_take (l : List Int) (k : Nat) (h : k < l.length) : us (l.take (k + 1)) = us (l.take k) + if 0 < l[k] then 1 else 0 := by
  unfold us
  rw [List.take_add_one, List.getElem?_eq_getElem h, List.countP_append]
  simp only [Option.toList_some, List.countP_singleton, decide_eq_true_eq]

set_option maxHeartbeats 1600000 in
set_option maxRecDepth 100000 in
theorem used_any (A : Option Addr) (n c : Nat) (l : List Int) (w : World) (hn : n ≤ 1000000) (hrd : Rd w w.heap.size 1 A n (l.map (Value.int .i64))) :
    Calls Tryz.prog 121 #[.slice A n c] w fun e w' => e = .returned (.int .i64 (us l : Int)) ∧ w = w' := by
  have hln : l.length = n := by simpa using hrd.len
  have HL := Lib.hid hln
  clear hln
  go_enter Tryz.func121, Tryz.ntmps121
  go_wp2_with fail
  go_loopg [3, 8] n (fun kx s3 s8 wr => ∃ (k : Nat), s8 = .int .i64 (k : Int) ∧ s3 = .int .i64 (us (l.take k) : Int) ∧ k ≤ n ∧ n - k ≤ kx ∧ w = wr)
  case atStart => exact ⟨0, rfl, rfl, by omega, by omega, rfl⟩
  case round =>
    obtain ⟨k, rfl, rfl, hk, hkx, rfl⟩ := hrel
    have hub : us (l.take k) ≤ 1000000 := by
      unfold us
      exact Nat.le_trans (List.countP_le_length) (by simp; omega)
    by_cases hlt : k < n
    · obtain ⟨ad, x, rfl, had, hx, hcell⟩ := hrd.int1 hlt
      have hkl : k < l.length := by have := HL.out; omega
      rw [List.getElem?_eq_getElem hkl, Option.some.injEq] at hx
      have hst := us_take l k hkl
      rw [hx] at hst
      have HST := Lib.hid hst
      clear hst hx hkl
      by_cases h0 : 0 < x
      · go_wp2_with fail
        go_roundg (n - (k + 1))
        case measure => omega
        case rel => exact ⟨k + 1, by go_num, by rw [HST.out, if_pos h0]; go_num, by omega, by omega, by first | rfl | trivial⟩
      · go_wp2_with fail
        go_roundg (n - (k + 1))
        case measure => omega
        case rel => exact ⟨k + 1, by go_num, by rw [HST.out, if_neg (by omega)]; rfl, by omega, by omega, by first | rfl | trivial⟩
    · have e : us (l.take k) = us l := by rw [List.take_of_length_le (by have := HL.out; omega)]
      have HE := Lib.hid e
      clear e
      go_wp2_with fail
      go_ret
      refine ⟨?_, rfl⟩
      rw [← HE.out]
      rfl

def sk (l : List Int) (k : Nat) : Nat := ((l.take k).map kr).sum
theorem kr_take (l : List Int) (k : Nat) (h : k < l.length) : sk l (k + 1) = sk l k + kr l[k] := by
  unfold sk
  rw [List.take_add_one, List.getElem?_eq_getElem h, List.map_append, List.sum_append_nat]
  simp
theorem kr_le (x : Int) : kr x ≤ 16384 := by
  unfold kr
  split
  · rename_i h
    exact Nat.le_trans (Nat.pow_le_pow_right (by omega) (show 15 - x.toNat ≤ 14 by omega)) (by decide)
  · omega
theorem kr_sum_le : ∀ (l : List Int), (l.map kr).sum ≤ 16384 * l.length
  | [] => by simp
  | x :: r => by
    have := kr_sum_le r
    have := kr_le x
    simp only [List.map_cons, List.sum_cons, List.length_cons]
    omega
theorem any_take (l : List Int) (k : Nat) (h : k < l.length) (ha : (l.take k).any bad = false) (hb : bad l[k] = false) : (l.take (k + 1)).any bad = false := by
  rw [List.take_add_one, List.getElem?_eq_getElem h, List.any_append, ha]
  simp [hb]
theorem addw (a b : Nat) (h : a + b < 4611686018427387904) : wrap64 ((a : Int) + (b : Int)) = ((a + b : Nat) : Int) := by unfold wrap64; omega
theorem pow15 (x : Int) (h0 : 0 < x) (h1 : x ≤ 15) : wrap64 (2 ^ (15 - x).toNat) = (kr x : Int) := by
  have : x = 1 ∨ x = 2 ∨ x = 3 ∨ x = 4 ∨ x = 5 ∨ x = 6 ∨ x = 7 ∨ x = 8 ∨ x = 9 ∨ x = 10 ∨ x = 11 ∨ x = 12 ∨ x = 13 ∨ x = 14 ∨ x = 15 := by omega
  rcases this with rfl | rfl | rfl | rfl | rfl | rfl | rfl | rfl | rfl | rfl | rfl | rfl | rfl | rfl | rfl <;> first | rfl | simp [wrap64, kr]

set_option maxHeartbeats 3200000 in
set_option maxRecDepth 100000 in
theorem check_any (A : Option Addr) (n c : Nat) (l : List Int) (w : World) (hn : n ≤ 1000000) (hrd : Rd w w.heap.size 1 A n (l.map (Value.int .i64))) :
    Calls Tryz.prog 97 #[.slice A n c] w fun e w' => e = .returned (.int .i64 (checkE l)) ∧ w = w' := by
  have hln : l.length = n := by simpa using hrd.len
  have hu := used_any A n c l w hn hrd
  have HU := Lib.hid hu
  have HL := Lib.hid hln
  by_cases hb : 257 < n
  · have he : checkE l = 3 := by unfold checkE; rw [if_pos (by omega)]
    rw [he]
    clear he hln hu
    go_enter Tryz.func97, Tryz.ntmps97
    go_wp2
    go_ret
    exact ⟨rfl, rfl⟩
  have he : checkE l = if l.any bad = true then 80 else if sumOk l = true then 0 else 80 := by unfold checkE; rw [if_neg (by omega)]
  have HE := Lib.hid he
  generalize checkE l = R at HE ⊢
  clear he hln hu
  go_enter Tryz.func97, Tryz.ntmps97
  go_wp2_with fail
  go_loopg [3, 12] n (fun kx s3 s12 wr => ∃ (k : Nat), s12 = .int .i64 (k : Int) ∧ s3 = .int .i64 (sk l k : Int) ∧ k ≤ n ∧ n - k ≤ kx ∧ Hid ((l.take k).any bad = false) ∧ w = wr)
  case atStart => exact ⟨0, rfl, rfl, by omega, by omega, rfl, rfl⟩
  case round =>
    obtain ⟨k, rfl, rfl, hk, hkx, hany, rfl⟩ := hrel
    have hsb : sk l k ≤ 4210688 := by
      have h1 := kr_sum_le (l.take k)
      have h2 : (l.take k).length ≤ 257 := by rw [List.length_take]; omega
      unfold sk; omega
    by_cases hlt : k < n
    · obtain ⟨ad, x, rfl, had, hx, hcell⟩ := hrd.int1 hlt
      have hkl : k < l.length := by have := HL.out; omega
      rw [List.getElem?_eq_getElem hkl, Option.some.injEq] at hx
      have hst := kr_take l k hkl
      have hat := fun h => any_take l k hkl hany.out h
      have hbd : bad l[k] = true → l.any bad = true := fun h => List.any_eq_true.2 ⟨_, List.getElem_mem hkl, h⟩
      rw [hx] at hst hat hbd
      have HST := Lib.hid hst
      have HAT := Lib.hid hat
      have HBD := Lib.hid hbd
      clear hst hx hkl hat hbd
      by_cases h1 : x < 0
      · have hl : l.any bad = true := HBD.out (by simp [bad, h1])
        have HLA := Lib.hid hl
        clear hl
        go_wp2_with fail
        go_ret
        rw [HE.out, if_pos HLA.out]
        exact ⟨rfl, rfl⟩
      by_cases h2 : 15 < x
      · have hl : l.any bad = true := HBD.out (by simp [bad, h2])
        have HLA := Lib.hid hl
        clear hl
        go_wp2_with fail
        go_ret
        rw [HE.out, if_pos HLA.out]
        exact ⟨rfl, rfl⟩
      have hnb : bad x = false := by simp [bad]; omega
      have HNB := Lib.hid hnb
      clear hnb
      by_cases h0 : 0 < x
      · have hp := pow15 x h0 (by omega)
        have HP := Lib.hid hp
        have hkb := kr_le x
        clear hp
        go_wp2_with fail
        go_roundg (n - (k + 1))
        case measure => omega
        case rel => exact ⟨k + 1, by go_num, by rw [HP.out, addw _ _ (by omega), HST.out], by omega, by omega, HAT.out HNB.out, by first | rfl | trivial⟩
      · go_wp2_with fail
        go_roundg (n - (k + 1))
        case measure => omega
        case rel => exact ⟨k + 1, by go_num, by rw [HST.out, show kr x = 0 from if_neg (by omega)]; rfl, by omega, by omega, HAT.out HNB.out, by first | rfl | trivial⟩
    · have hek : k = l.length := by have := HL.out; omega
      have hny : l.any bad = false := by have := hany.out; rwa [hek, List.take_length] at this
      have hsk : sk l k = (l.map kr).sum := by unfold sk; rw [hek, List.take_length]
      have hso : sumOk l = (decide (sk l k = 0) || decide (sk l k = 32768) || (decide (us l = 1) && decide (sk l k = 16384))) := by unfold sumOk half; rw [hsk]
      have hub : us l ≤ 257 := by
        unfold us
        exact Nat.le_trans (List.countP_le_length) (by omega)
      rw [if_neg (by rw [hny]; simp), hso] at HE
      generalize sk l k = q at *
      generalize us l = u at *
      clear hek hny hsk hso
      have HUU := HU.out
      by_cases u1 : u = 1
      · subst u1
        by_cases q0 : q = 0
        · subst q0
          go_wp2_with fail
          refine HU.out.mono ?_
          rintro e2 w2 ⟨rfl, rfl⟩
          go_wp2
          go_ret
          rw [HE.out]
          exact ⟨rfl, rfl⟩
        by_cases q1 : q = 32768
        · subst q1
          go_wp2_with fail
          refine HU.out.mono ?_
          rintro e2 w2 ⟨rfl, rfl⟩
          go_wp2
          go_ret
          rw [HE.out]
          exact ⟨rfl, rfl⟩
        by_cases q2 : q = 16384
        · subst q2
          go_wp2_with fail
          refine HU.out.mono ?_
          rintro e2 w2 ⟨rfl, rfl⟩
          go_wp2
          go_ret
          rw [HE.out]
          exact ⟨rfl, rfl⟩
        have c0 : ((q : Int) == 0) = false := by rw [beq_eq_false_iff_ne]; omega
        have d0 : ((q : Int) != 0) = true := by rw [bne_iff_ne]; omega
        have d1 : ((q : Int) != 32768) = true := by rw [bne_iff_ne]; omega
        have c1 : ((q : Int) == 32768) = false := by rw [beq_eq_false_iff_ne]; omega
        have c2 : ((q : Int) == 16384) = false := by rw [beq_eq_false_iff_ne]; omega
        have hd : (decide (q = 0) || decide (q = 32768) || (decide ((1 : Nat) = 1) && decide (q = 16384))) = false := by simp [q0, q1, q2]
        rw [hd] at HE
        clear hd
        go_wp2_with fail
        refine HU.out.mono ?_
        rintro e2 w2 ⟨rfl, rfl⟩
        go_wp2
        go_ret
        rw [HE.out]
        exact ⟨rfl, rfl⟩
      · have cu : ((u : Int) == 1) = false := by rw [beq_eq_false_iff_ne]; omega
        have hdu : decide (u = 1) = false := decide_eq_false u1
        rw [hdu, Bool.false_and, Bool.or_false] at HE
        clear hdu
        by_cases q0 : q = 0
        · subst q0
          go_wp2_with fail
          refine HU.out.mono ?_
          rintro e2 w2 ⟨rfl, rfl⟩
          go_wp2
          go_ret
          rw [HE.out]
          exact ⟨rfl, rfl⟩
        by_cases q1 : q = 32768
        · subst q1
          go_wp2_with fail
          refine HU.out.mono ?_
          rintro e2 w2 ⟨rfl, rfl⟩
          go_wp2
          go_ret
          rw [HE.out]
          exact ⟨rfl, rfl⟩
        have c0 : ((q : Int) == 0) = false := by rw [beq_eq_false_iff_ne]; omega
        have d0 : ((q : Int) != 0) = true := by rw [bne_iff_ne]; omega
        have d1 : ((q : Int) != 32768) = true := by rw [bne_iff_ne]; omega
        have c1 : ((q : Int) == 32768) = false := by rw [beq_eq_false_iff_ne]; omega
        have hd : (decide (q = 0) || decide (q = 32768)) = false := by simp [q0, q1]
        rw [hd] at HE
        clear hd
        go_wp2_with fail
        refine HU.out.mono ?_
        rintro e2 w2 ⟨rfl, rfl⟩
        go_wp2
        go_ret
        rw [HE.out]
        exact ⟨rfl, rfl⟩
end Cn
end Go.Proofs.YtpbphhpldlckbaaGreat
