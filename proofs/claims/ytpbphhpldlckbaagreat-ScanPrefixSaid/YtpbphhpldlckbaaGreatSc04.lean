/- head: Blocks. head: last, Next. -/
import Derived.Test.YtpbphhpldlckbaaGreatSc03
import Derived.Deep.LoopGhost
namespace Go.Proofs.YtpbphhpldlckbaaGreat
namespace Sn
open Go.RowKit Hd Bk

/-- What head.Blocks tells. -/
def blE (l : List Mt) : Int := if okBl l = true then 0 else 211
theorem blE_yes {l : List Mt} (h : okBl l = true) : blE l = 0 := if_pos h
theorem blE_no {l : List Mt} (h : okBl l = false) : blE l = 211 := if_neg (by rw [h]; simp)
def pvM (l : List Mt) (k : Nat) : Option Mt := if k = 0 then none else l[k - 1]?
theorem rowM_bad {l : List Mt} {k : Nat} {m : Mt} (h : l[k]? = some m) (ho : okM m = false) : rowM (pvM l k) (l.drop k) = false := by
  rw [drop_at l k m h]
  rcases pvM l k with _ | p <;> simp [rowM, ho]
theorem rowM_off {l : List Mt} {k : Nat} {p m : Mt} (hp : l[k]? = some p) (h : l[k + 1]? = some m) (ho : folB p m = false) : rowM (pvM l (k + 1)) (l.drop (k + 1)) = false := by
  have e : pvM l (k + 1) = some p := by unfold pvM; rw [if_neg (by omega), Nat.add_sub_cancel, hp]
  rw [drop_at l (k + 1) m h, e]
  simp [rowM, ho]
theorem rowM_on {l : List Mt} {k : Nat} {p m : Mt} (hp : l[k]? = some p) (h : l[k + 1]? = some m) (h1 : okM m = true) (ho : folB p m = true) : rowM (pvM l (k + 1)) (l.drop (k + 1)) = rowM (pvM l (k + 2)) (l.drop (k + 2)) := by
  have e : pvM l (k + 1) = some p := by unfold pvM; rw [if_neg (by omega), Nat.add_sub_cancel, hp]
  have e2 : pvM l (k + 2) = some m := by unfold pvM; rw [if_neg (by omega), show k + 2 - 1 = k + 1 by omega, h]
  rw [drop_at l (k + 1) m h, e, e2]
  simp [rowM, ho, h1]
theorem rowM_on0 {l : List Mt} {m : Mt} (h : l[0]? = some m) (h1 : okM m = true) : rowM (pvM l 0) (l.drop 0) = rowM (pvM l 1) (l.drop 1) := by
  have e2 : pvM l 1 = some m := by unfold pvM; rw [if_neg (by omega)]; exact h
  rw [drop_at l 0 m h, e2]
  simp [pvM, rowM, h1]
theorem rowM_end {l : List Mt} {k : Nat} (h : l.length ≤ k) : rowM (pvM l k) (l.drop k) = true := by
  rw [List.drop_eq_nil_of_le h]
  rcases pvM l k with _ | p <;> rfl
theorem alone_mt (m : Mt) (w : World) {b : Bool} (h : okM m = b) : Calls Tryz.prog 37 #[mv m] w fun e w' => e = .returned (.bool b) ∧ Below w.heap.size w w' := by
  have := alone_any m.a m.s m.r m.c m.f m.e m.l w
  subst h
  exact this
theorem follows_mt (p m : Mt) (w : World) (hp : okM p = true) (hm : okM m = true) {b : Bool} (h : folB p m = b) :
    Calls Tryz.prog 38 #[mv p, mv m] w fun e w' => e = .returned (.bool b) ∧ Below w.heap.size w w' := by
  subst h
  exact follows_any p m w hp hm

set_option maxHeartbeats 6400000 in
set_option maxRecDepth 100000 in
theorem blocks_any (A : Option Addr) (n c : Nat) (l : List Mt) (w : World) (hrd : Rd w w.heap.size 7 A n (fl7 l)) (hn : n ≤ 1000000) :
    Calls Tryz.prog 20 #[.slice A n c] w fun e w' => e = .returned (.int .i64 (blE l)) ∧ Below w.heap.size w w' := by
  have mixed : Tryz.prog.follows .mixedOrders = true := by kernel_rfl
  have hln := mt_len hrd
  by_cases hbig : 1000 < n
  · have HE := Lib.hid (blE_no (l := l) (by unfold okBl; rw [hln, Bool.and_eq_false_iff]; left; exact decide_eq_false (by omega)))
    have hb' : (1000 : Int) < (n : Int) := by omega
    clear hrd hln
    go_enter Tryz.func20, Tryz.ntmps20
    go_wp2_with fail
    go_ret
    exact ⟨by rw [HE.out]; rfl, Below.refl _ _⟩
  · have hb' : ¬ (1000 : Int) < (n : Int) := by omega
    have HOK := Lib.hid (show ∀ b, rowM none l = b → okBl l = b from fun b h => by unfold okBl; rw [h, hln, decide_eq_true (by omega)]; rfl)
    have HLN := Lib.hid hln
    have HR := Lib.hid hrd
    clear hrd hln hbig
    go_enter Tryz.func20, Tryz.ntmps20
    go_wp2_with fail
    go_loopw [10] (fun v wr => ∃ k : Nat, v = .int .i64 k ∧ k ≤ n ∧ Hid (rowM (pvM l k) (l.drop k) = rowM none l ∧ (∀ j r, j < k → l[j]? = some r → okM r = true) ∧ Below w.heap.size w wr)) (fun v _ => n - (intOf v).toNat)
    case atStart => exact ⟨0, by go_num, by omega, rfl, fun j r h => absurd h (by omega), Below.refl _ _⟩
    case round =>
      obtain ⟨k, rfl, hk, HX⟩ := hrel
      by_cases hkn : k < n
      · obtain ⟨ad, m, hA, hbk, hx, hc0, hc1, hc2, hc3, hc4, hc5, hc6⟩ := mt_at (HR.out.below HX.out.2.2) hkn
        have hbr : (ad.add (k * 7)).block < wr.heap.size := by rw [add_block]; exact Nat.lt_of_lt_of_le hbk HX.out.2.2.size
        have HBR := Lib.hid hbr
        have HBN := Lib.hid (HX.out.2.2.trans ((ext_alloc wr (.cells #[.int .i64 m.a, .int .i64 m.s, .int .i64 m.r, .int .i64 m.c, .int .i64 m.f, .int .i64 m.e, .int .i64 m.l] 38)).mono HX.out.2.2.size))
        have HM0 := Lib.hid (show Mb (wr.alloc (.cells #[.int .i64 m.a, .int .i64 m.s, .int .i64 m.r, .int .i64 m.c, .int .i64 m.f, .int .i64 m.e, .int .i64 m.l] 38)) wr.heap.size m.a m.s m.r m.c m.f m.e m.l from heap_alloc_new wr _)
        have HSZ := Lib.hid HX.out.2.2.size
        clear hbr
        by_cases ho : okM m = true
        · have HA := Lib.hid (fun w => alone_mt m w ho)
          by_cases hk0 : k = 0
          · have HN := Lib.hid (show rowM (pvM l (k + 1)) (l.drop (k + 1)) = rowM none l ∧ ∀ j r, j < k + 1 → l[j]? = some r → okM r = true from by
              subst hk0
              refine ⟨(rowM_on0 hx ho).symm.trans HX.out.1, fun j r hj hr => ?_⟩
              obtain rfl : j = 0 := by omega
              rw [hx] at hr; cases hr; exact ho)
            have hk1 : decide (0 < k) = false := decide_eq_false (by omega)
            obtain ⟨ma, ms, mr, mc, mf, me, ml⟩ := m
            unfold mv magg at HA
            dsimp only at *
            subst hA
            clear ho hx HX hbk hk0
            go_wp2_with fail
            generalize wr.alloc (.cells #[.int .i64 (ma : Int), .int .i64 (ms : Int), .int .i64 (mr : Int), .int .i64 (mc : Int), .int .i64 (mf : Int), .int .i64 (me : Int), .int .i64 (ml : Int)] 38) = w2 at *
            have l2 := HM0.out.lt
            have b0 : ∀ q : Bw w2, q.to.cell? ⟨wr.heap.size, 0, none⟩ = some (.int .i64 ma) := fun q => q.cell l2 HM0.out.c0
            have b1 : ∀ q : Bw w2, q.to.cell? ⟨wr.heap.size, 1, none⟩ = some (.int .i64 ms) := fun q => q.cell l2 HM0.out.c1
            have b2 : ∀ q : Bw w2, q.to.cell? ⟨wr.heap.size, 2, none⟩ = some (.int .i64 mr) := fun q => q.cell l2 HM0.out.c2
            have b3 : ∀ q : Bw w2, q.to.cell? ⟨wr.heap.size, 3, none⟩ = some (.int .i64 mc) := fun q => q.cell l2 HM0.out.c3
            have b4 : ∀ q : Bw w2, q.to.cell? ⟨wr.heap.size, 4, none⟩ = some (.int .i64 mf) := fun q => q.cell l2 HM0.out.c4
            have b5 : ∀ q : Bw w2, q.to.cell? ⟨wr.heap.size, 5, none⟩ = some (.int .i64 me) := fun q => q.cell l2 HM0.out.c5
            have b6 : ∀ q : Bw w2, q.to.cell? ⟨wr.heap.size, 6, none⟩ = some (.int .i64 ml) := fun q => q.cell l2 HM0.out.c6
            refine wp_region_quiet_below (by assumption) (by kernel_rfl) ?_
            repeat (first | go_big_quiet_skip | quiet_step (first | (go_at_call 37; refine below_of (HA.out _))))
            refine wpQuiet_nil ?_
            intro _ hw'
            obtain ⟨q, rfl⟩ := hw'
            go_wp2_with fail
            go_roundw
            case rel => exact ⟨k + 1, by go_num, by omega, HN.out.1, HN.out.2, HBN.out.trans (q.h.mono HBN.out.size)⟩
            case measure => simp [intOf]; omega
          · obtain ⟨j, hj⟩ : ∃ j, k = j + 1 := ⟨k - 1, by omega⟩
            have hX : Rd w w.heap.size 7 A n (fl7 l) := HR.out
            obtain ⟨ad', p, hA', hbk', hxp, pc0, pc1, pc2, pc3, pc4, pc5, pc6⟩ := mt_at (k := j) (hX.below HX.out.2.2) (by omega)
            obtain rfl : ad = ad' := Option.some.inj (hA.symm.trans hA')
            have hop : okM p = true := HX.out.2.1 j p (by omega) hxp
            have PB := Lib.hid (show (ad.add (j * 7)).block < (wr.alloc (.cells #[.int .i64 m.a, .int .i64 m.s, .int .i64 m.r, .int .i64 m.c, .int .i64 m.f, .int .i64 m.e, .int .i64 m.l] 38)).heap.size from by rw [add_block]; have := HSZ.out; simp; omega)
            have hlt : (ad.add (j * 7)).block < wr.heap.size := by rw [add_block]; exact Nat.lt_of_lt_of_le hbk HSZ.out
            have PC := Lib.hid (And.intro ((World.cell?_alloc_lt wr (.cells #[.int .i64 m.a, .int .i64 m.s, .int .i64 m.r, .int .i64 m.c, .int .i64 m.f, .int .i64 m.e, .int .i64 m.l] 38) _ hlt).trans pc0) (And.intro ((World.cell?_alloc_lt wr (.cells #[.int .i64 m.a, .int .i64 m.s, .int .i64 m.r, .int .i64 m.c, .int .i64 m.f, .int .i64 m.e, .int .i64 m.l] 38) ⟨(ad.add (j * 7)).block, (ad.add (j * 7)).off + 1, none⟩ hlt).trans pc1)
              (And.intro ((World.cell?_alloc_lt wr (.cells #[.int .i64 m.a, .int .i64 m.s, .int .i64 m.r, .int .i64 m.c, .int .i64 m.f, .int .i64 m.e, .int .i64 m.l] 38) ⟨(ad.add (j * 7)).block, (ad.add (j * 7)).off + 2, none⟩ hlt).trans pc2) (And.intro ((World.cell?_alloc_lt wr (.cells #[.int .i64 m.a, .int .i64 m.s, .int .i64 m.r, .int .i64 m.c, .int .i64 m.f, .int .i64 m.e, .int .i64 m.l] 38) ⟨(ad.add (j * 7)).block, (ad.add (j * 7)).off + 3, none⟩ hlt).trans pc3)
              (And.intro ((World.cell?_alloc_lt wr (.cells #[.int .i64 m.a, .int .i64 m.s, .int .i64 m.r, .int .i64 m.c, .int .i64 m.f, .int .i64 m.e, .int .i64 m.l] 38) ⟨(ad.add (j * 7)).block, (ad.add (j * 7)).off + 4, none⟩ hlt).trans pc4) (And.intro ((World.cell?_alloc_lt wr (.cells #[.int .i64 m.a, .int .i64 m.s, .int .i64 m.r, .int .i64 m.c, .int .i64 m.f, .int .i64 m.e, .int .i64 m.l] 38) ⟨(ad.add (j * 7)).block, (ad.add (j * 7)).off + 5, none⟩ hlt).trans pc5)
                ((World.cell?_alloc_lt wr (.cells #[.int .i64 m.a, .int .i64 m.s, .int .i64 m.r, .int .i64 m.c, .int .i64 m.f, .int .i64 m.e, .int .i64 m.l] 38) ⟨(ad.add (j * 7)).block, (ad.add (j * 7)).off + 6, none⟩ hlt).trans pc6)))))))
            have hk1 : decide (0 < k) = true := decide_eq_true (by omega)
            have w1 : IntKind.i64.wrap ((k : Int) - 1) = (j : Int) := by rw [IntKind.wrap_i64]; omega
            have hjn : (j : Int) < (n : Int) := by omega
            by_cases hf : folB p m = true
            · have HFO := Lib.hid (fun w => follows_mt p m w hop ho hf)
              have HN := Lib.hid (show rowM (pvM l (k + 1)) (l.drop (k + 1)) = rowM none l ∧ ∀ j r, j < k + 1 → l[j]? = some r → okM r = true from by
                subst hj
                refine ⟨(rowM_on hxp hx ho hf).symm.trans HX.out.1, fun i r hi hr => ?_⟩
                rcases Nat.lt_or_ge i (j + 1) with h | h
                · exact HX.out.2.1 i r h hr
                · obtain rfl : i = j + 1 := by omega
                  rw [hx] at hr; cases hr; exact ho)
              obtain ⟨ma, ms, mr, mc, mf, me, ml⟩ := m
              obtain ⟨pa, ps, pr, pc, pf, pe, pl⟩ := p
              unfold mv magg at HA HFO
              dsimp only at *
              subst hA
              clear ho hx HX hbk hk0 hj hX hA' hbk' hxp pc0 pc1 pc2 pc3 pc4 pc5 pc6 hop hlt hf
              go_wp2_with fail
              generalize wr.alloc (.cells #[.int .i64 (ma : Int), .int .i64 (ms : Int), .int .i64 (mr : Int), .int .i64 (mc : Int), .int .i64 (mf : Int), .int .i64 (me : Int), .int .i64 (ml : Int)] 38) = w2 at *
              have l2 := HM0.out.lt
              have b0 : ∀ q : Bw w2, q.to.cell? ⟨wr.heap.size, 0, none⟩ = some (.int .i64 ma) := fun q => q.cell l2 HM0.out.c0
              have b1 : ∀ q : Bw w2, q.to.cell? ⟨wr.heap.size, 1, none⟩ = some (.int .i64 ms) := fun q => q.cell l2 HM0.out.c1
              have b2 : ∀ q : Bw w2, q.to.cell? ⟨wr.heap.size, 2, none⟩ = some (.int .i64 mr) := fun q => q.cell l2 HM0.out.c2
              have b3 : ∀ q : Bw w2, q.to.cell? ⟨wr.heap.size, 3, none⟩ = some (.int .i64 mc) := fun q => q.cell l2 HM0.out.c3
              have b4 : ∀ q : Bw w2, q.to.cell? ⟨wr.heap.size, 4, none⟩ = some (.int .i64 mf) := fun q => q.cell l2 HM0.out.c4
              have b5 : ∀ q : Bw w2, q.to.cell? ⟨wr.heap.size, 5, none⟩ = some (.int .i64 me) := fun q => q.cell l2 HM0.out.c5
              have b6 : ∀ q : Bw w2, q.to.cell? ⟨wr.heap.size, 6, none⟩ = some (.int .i64 ml) := fun q => q.cell l2 HM0.out.c6
              have p0 : ∀ q : Bw w2, q.to.cell? (ad.add (j * 7)) = some (.int .i64 pa) := fun q => q.cellAt PB.out PC.out.1
              have p1 : ∀ q : Bw w2, q.to.cell? ⟨(ad.add (j * 7)).block, (ad.add (j * 7)).off + 1, none⟩ = some (.int .i64 ps) := fun q => q.cellAt PB.out PC.out.2.1
              have p2 : ∀ q : Bw w2, q.to.cell? ⟨(ad.add (j * 7)).block, (ad.add (j * 7)).off + 2, none⟩ = some (.int .i64 pr) := fun q => q.cellAt PB.out PC.out.2.2.1
              have p3 : ∀ q : Bw w2, q.to.cell? ⟨(ad.add (j * 7)).block, (ad.add (j * 7)).off + 3, none⟩ = some (.int .i64 pc) := fun q => q.cellAt PB.out PC.out.2.2.2.1
              have p4 : ∀ q : Bw w2, q.to.cell? ⟨(ad.add (j * 7)).block, (ad.add (j * 7)).off + 4, none⟩ = some (.int .i64 pf) := fun q => q.cellAt PB.out PC.out.2.2.2.2.1
              have p5 : ∀ q : Bw w2, q.to.cell? ⟨(ad.add (j * 7)).block, (ad.add (j * 7)).off + 5, none⟩ = some (.int .i64 pe) := fun q => q.cellAt PB.out PC.out.2.2.2.2.2.1
              have p6 : ∀ q : Bw w2, q.to.cell? ⟨(ad.add (j * 7)).block, (ad.add (j * 7)).off + 6, none⟩ = some (.int .i64 pl) := fun q => q.cellAt PB.out PC.out.2.2.2.2.2.2
              refine wp_region_quiet_below (by assumption) (by kernel_rfl) ?_
              repeat (first | go_big_quiet_skip | quiet_step (first | (go_at_call 37; refine below_of (HA.out _)) | (go_at_call 38; refine below_of (HFO.out _))))
              refine wpQuiet_nil ?_
              intro _ hw'
              obtain ⟨q, rfl⟩ := hw'
              go_wp2_with fail
              go_roundw
              case rel => exact ⟨k + 1, by go_num, by omega, HN.out.1, HN.out.2, HBN.out.trans (q.h.mono HBN.out.size)⟩
              case measure => simp [intOf]; omega
            · have hf' : folB p m = false := by simpa using hf
              have HFO := Lib.hid (fun w => follows_mt p m w hop ho hf')
              have HE := Lib.hid (blE_no (HOK.out false (by
                subst hj
                rw [← HX.out.1]; exact rowM_off hxp hx hf')))
              obtain ⟨ma, ms, mr, mc, mf, me, ml⟩ := m
              obtain ⟨pa, ps, pr, pc, pf, pe, pl⟩ := p
              unfold mv magg at HA HFO
              dsimp only at *
              subst hA
              clear ho hx HX hbk hk0 hj hX hA' hbk' hxp pc0 pc1 pc2 pc3 pc4 pc5 pc6 hop hlt hf hf'
              go_wp2_with fail
              generalize wr.alloc (.cells #[.int .i64 (ma : Int), .int .i64 (ms : Int), .int .i64 (mr : Int), .int .i64 (mc : Int), .int .i64 (mf : Int), .int .i64 (me : Int), .int .i64 (ml : Int)] 38) = w2 at *
              have l2 := HM0.out.lt
              have b0 : ∀ q : Bw w2, q.to.cell? ⟨wr.heap.size, 0, none⟩ = some (.int .i64 ma) := fun q => q.cell l2 HM0.out.c0
              have b1 : ∀ q : Bw w2, q.to.cell? ⟨wr.heap.size, 1, none⟩ = some (.int .i64 ms) := fun q => q.cell l2 HM0.out.c1
              have b2 : ∀ q : Bw w2, q.to.cell? ⟨wr.heap.size, 2, none⟩ = some (.int .i64 mr) := fun q => q.cell l2 HM0.out.c2
              have b3 : ∀ q : Bw w2, q.to.cell? ⟨wr.heap.size, 3, none⟩ = some (.int .i64 mc) := fun q => q.cell l2 HM0.out.c3
              have b4 : ∀ q : Bw w2, q.to.cell? ⟨wr.heap.size, 4, none⟩ = some (.int .i64 mf) := fun q => q.cell l2 HM0.out.c4
              have b5 : ∀ q : Bw w2, q.to.cell? ⟨wr.heap.size, 5, none⟩ = some (.int .i64 me) := fun q => q.cell l2 HM0.out.c5
              have b6 : ∀ q : Bw w2, q.to.cell? ⟨wr.heap.size, 6, none⟩ = some (.int .i64 ml) := fun q => q.cell l2 HM0.out.c6
              have p0 : ∀ q : Bw w2, q.to.cell? (ad.add (j * 7)) = some (.int .i64 pa) := fun q => q.cellAt PB.out PC.out.1
              have p1 : ∀ q : Bw w2, q.to.cell? ⟨(ad.add (j * 7)).block, (ad.add (j * 7)).off + 1, none⟩ = some (.int .i64 ps) := fun q => q.cellAt PB.out PC.out.2.1
              have p2 : ∀ q : Bw w2, q.to.cell? ⟨(ad.add (j * 7)).block, (ad.add (j * 7)).off + 2, none⟩ = some (.int .i64 pr) := fun q => q.cellAt PB.out PC.out.2.2.1
              have p3 : ∀ q : Bw w2, q.to.cell? ⟨(ad.add (j * 7)).block, (ad.add (j * 7)).off + 3, none⟩ = some (.int .i64 pc) := fun q => q.cellAt PB.out PC.out.2.2.2.1
              have p4 : ∀ q : Bw w2, q.to.cell? ⟨(ad.add (j * 7)).block, (ad.add (j * 7)).off + 4, none⟩ = some (.int .i64 pf) := fun q => q.cellAt PB.out PC.out.2.2.2.2.1
              have p5 : ∀ q : Bw w2, q.to.cell? ⟨(ad.add (j * 7)).block, (ad.add (j * 7)).off + 5, none⟩ = some (.int .i64 pe) := fun q => q.cellAt PB.out PC.out.2.2.2.2.2.1
              have p6 : ∀ q : Bw w2, q.to.cell? ⟨(ad.add (j * 7)).block, (ad.add (j * 7)).off + 6, none⟩ = some (.int .i64 pl) := fun q => q.cellAt PB.out PC.out.2.2.2.2.2.2
              refine wp_region_quiet_below (by assumption) (by kernel_rfl) ?_
              repeat (first | go_big_quiet_skip | quiet_step (first | (go_at_call 37; refine below_of (HA.out _)) | (go_at_call 38; refine below_of (HFO.out _))))
              refine wpQuiet_nil ?_
              intro _ hw'
              obtain ⟨q, rfl⟩ := hw'
              go_wp2_with fail
              go_ret
              exact ⟨by rw [HE.out]; rfl, HBN.out.trans (q.h.mono HBN.out.size)⟩
        · have ho' : okM m = false := by simpa using ho
          have HA := Lib.hid (fun w => alone_mt m w ho')
          have HE := Lib.hid (blE_no (HOK.out false (by rw [← HX.out.1]; exact rowM_bad hx ho')))
          obtain ⟨ma, ms, mr, mc, mf, me, ml⟩ := m
          unfold mv magg at HA
          dsimp only at *
          subst hA
          clear ho ho' hx HX hbk
          go_wp2_with fail
          generalize wr.alloc (.cells #[.int .i64 (ma : Int), .int .i64 (ms : Int), .int .i64 (mr : Int), .int .i64 (mc : Int), .int .i64 (mf : Int), .int .i64 (me : Int), .int .i64 (ml : Int)] 38) = w2 at *
          have l2 := HM0.out.lt
          have b0 : ∀ q : Bw w2, q.to.cell? ⟨wr.heap.size, 0, none⟩ = some (.int .i64 ma) := fun q => q.cell l2 HM0.out.c0
          have b1 : ∀ q : Bw w2, q.to.cell? ⟨wr.heap.size, 1, none⟩ = some (.int .i64 ms) := fun q => q.cell l2 HM0.out.c1
          have b2 : ∀ q : Bw w2, q.to.cell? ⟨wr.heap.size, 2, none⟩ = some (.int .i64 mr) := fun q => q.cell l2 HM0.out.c2
          have b3 : ∀ q : Bw w2, q.to.cell? ⟨wr.heap.size, 3, none⟩ = some (.int .i64 mc) := fun q => q.cell l2 HM0.out.c3
          have b4 : ∀ q : Bw w2, q.to.cell? ⟨wr.heap.size, 4, none⟩ = some (.int .i64 mf) := fun q => q.cell l2 HM0.out.c4
          have b5 : ∀ q : Bw w2, q.to.cell? ⟨wr.heap.size, 5, none⟩ = some (.int .i64 me) := fun q => q.cell l2 HM0.out.c5
          have b6 : ∀ q : Bw w2, q.to.cell? ⟨wr.heap.size, 6, none⟩ = some (.int .i64 ml) := fun q => q.cell l2 HM0.out.c6
          refine wp_region_quiet_below (by assumption) (by kernel_rfl) ?_
          repeat (first | go_big_quiet_skip | quiet_step (first | (go_at_call 37; refine below_of (HA.out _))))
          refine wpQuiet_nil ?_
          intro _ hw'
          obtain ⟨q, rfl⟩ := hw'
          go_wp2_with fail
          go_ret
          exact ⟨by rw [HE.out]; rfl, HBN.out.trans (q.h.mono HBN.out.size)⟩
      · obtain rfl : k = n := by omega
        have HE := Lib.hid (blE_yes (HOK.out true (by rw [← HX.out.1]; exact rowM_end (by rw [HLN.out]; omega))))
        have HB := Lib.hid HX.out.2.2
        clear HX
        go_wp2_with fail
        go_ret
        exact ⟨by rw [HE.out]; rfl, HB.out⟩
end Sn
end Go.Proofs.YtpbphhpldlckbaaGreat
namespace Go.Proofs.YtpbphhpldlckbaaGreat
namespace Sn
open Go.RowKit Hd Bk

def m0 : Mt := ⟨0, 0, 0, 0, 0, 0, 0⟩
set_option maxHeartbeats 3200000 in
set_option maxRecDepth 100000 in
theorem last_nil (A : Option Addr) (c : Nat) (w : World) :
    Calls Tryz.prog 24 #[.slice A 0 c] w fun e w' => e = .returned (.tuple #[magg 0 0 0 0 0 0 0, .bool false]) ∧ Below w.heap.size w w' := by
  have mixed : Tryz.prog.follows .mixedOrders = true := by kernel_rfl
  have HB := Lib.hid (ext_alloc w (.cells #[.int .i64 0, .int .i64 0, .int .i64 0, .int .i64 0, .int .i64 0, .int .i64 0, .int .i64 0] 38))
  have HI := Lib.hid (show (Tryz.prog.info? 38).map (·.size) = some 7 by kernel_rfl)
  unfold magg
  go_enter Tryz.func24, Tryz.ntmps24
  go_wp2_with (first | (refine wpList_store_new w #[.int .i64 0, .int .i64 0, .int .i64 0, .int .i64 0, .int .i64 0, .int .i64 0, .int .i64 0] rfl 38 (.tmp 2) (.tmp 12) rfl #[.int .i64 0, .int .i64 0, .int .i64 0, .int .i64 0, .int .i64 0, .int .i64 0, .int .i64 0] (by simp [go_sem, Act.eval]) (by simp [go_sem, Act.eval]) HI.out rfl rfl ?_))
  refine bodyPost_ret (v := .tuple #[.agg #[.int .i64 0, .int .i64 0, .int .i64 0, .int .i64 0, .int .i64 0, .int .i64 0, .int .i64 0], .bool false]) (by simp [results, go_sem]) rfl ?_
  exact ⟨rfl, HB.out⟩
set_option maxHeartbeats 3200000 in
set_option maxRecDepth 100000 in
theorem last_ok (A : Option Addr) (n c : Nat) (l : List Mt) (m : Mt) (w : World) (hrd : Rd w w.heap.size 7 A n (fl7 l)) (hn0 : 0 < n) (hn : n ≤ 100000) (hl : l.getLast? = some m) (ho : okBl l = true) :
    Calls Tryz.prog 24 #[.slice A n c] w fun e w' => e = .returned (.tuple #[mv m, .bool true]) ∧ Below w.heap.size w w' := by
  have mixed : Tryz.prog.follows .mixedOrders = true := by kernel_rfl
  have HB := Lib.hid (ext_alloc w (.cells #[.int .i64 0, .int .i64 0, .int .i64 0, .int .i64 0, .int .i64 0, .int .i64 0, .int .i64 0] 38))
  have HM := Lib.hid (Mb.new w)
  have hln := mt_len hrd
  have hbl := blocks_any A n c l (w.alloc (.cells #[.int .i64 0, .int .i64 0, .int .i64 0, .int .i64 0, .int .i64 0, .int .i64 0, .int .i64 0] 38)) (hrd.ext HB.out) (by omega)
  rw [blE_yes ho] at hbl
  have HBL := Lib.hid hbl
  obtain ⟨j, hj⟩ : ∃ j, n = j + 1 := ⟨n - 1, by omega⟩
  obtain ⟨ad, m', hA, hbk, hx, pc0, pc1, pc2, pc3, pc4, pc5, pc6⟩ := mt_at (k := j) hrd (by omega)
  rw [List.getLast?_eq_getElem?, hln, hj, Nat.add_sub_cancel, hx] at hl
  obtain rfl := Option.some.inj hl
  have HC := Lib.hid (And.intro pc0 (And.intro pc1 (And.intro pc2 (And.intro pc3 (And.intro pc4 (And.intro pc5 pc6))))))
  have HAB := Lib.hid (show (ad.add (j * 7)).block < w.heap.size by rw [add_block]; exact hbk)
  have b1 : ((n : Int) == 0) = false := by rw [beq_eq_false_iff_ne]; omega
  have b2 : IntKind.i64.wrap ((n : Int) - 1) = (j : Int) := by rw [IntKind.wrap_i64]; omega
  have b3 : (j : Int) < (n : Int) := by omega
  obtain ⟨ma, ms, mr, mc, mf, me, ml⟩ := m'
  subst hA
  clear hbl hrd hl hx hln pc0 pc1 pc2 pc3 pc4 pc5 pc6 ho hj hn0
  unfold mv magg
  dsimp only at *
  have b4 : ¬ (j + 1 = 0) := by omega
  go_enter Tryz.func24, Tryz.ntmps24
  go_wp2_with fail
  generalize w.alloc (.cells #[.int .i64 0, .int .i64 0, .int .i64 0, .int .i64 0, .int .i64 0, .int .i64 0, .int .i64 0] 38) = w0 at *
  refine HBL.out.mono ?_
  rintro e1 w1 ⟨rfl, hb1⟩
  have hb := HB.out.trans (hb1.mono HB.out.size)
  have HB1 := Lib.hid hb
  have hM := HM.out.below hb1 HM.out.lt
  have f0 := hM.fz
  have c0 := (hb.cell HAB.out).trans HC.out.1
  have c1 := (hb.cell (p := ⟨(ad.add (j * 7)).block, (ad.add (j * 7)).off + 1, none⟩) HAB.out).trans HC.out.2.1
  have c2 := (hb.cell (p := ⟨(ad.add (j * 7)).block, (ad.add (j * 7)).off + 2, none⟩) HAB.out).trans HC.out.2.2.1
  have c3 := (hb.cell (p := ⟨(ad.add (j * 7)).block, (ad.add (j * 7)).off + 3, none⟩) HAB.out).trans HC.out.2.2.2.1
  have c4 := (hb.cell (p := ⟨(ad.add (j * 7)).block, (ad.add (j * 7)).off + 4, none⟩) HAB.out).trans HC.out.2.2.2.2.1
  have c5 := (hb.cell (p := ⟨(ad.add (j * 7)).block, (ad.add (j * 7)).off + 5, none⟩) HAB.out).trans HC.out.2.2.2.2.2.1
  have c6 := (hb.cell (p := ⟨(ad.add (j * 7)).block, (ad.add (j * 7)).off + 6, none⟩) HAB.out).trans HC.out.2.2.2.2.2.2
  have q0 := hM.c0
  have q1 := hM.c1
  have q2 := hM.c2
  have q3 := hM.c3
  have q4 := hM.c4
  have q5 := hM.c5
  have q6 := hM.c6
  clear hb hb1 hM
  go_wp2_with fail
  refine bodyPost_ret (v := .tuple #[.agg #[.int .i64 (ma : Int), .int .i64 (ms : Int), .int .i64 (mr : Int), .int .i64 (mc : Int), .int .i64 (mf : Int), .int .i64 (me : Int), .int .i64 (ml : Int)], .bool true]) (by simp [results, go_sem, q0, q1, q2, q3, q4, q5, q6]) rfl ?_
  exact ⟨rfl, below_fill7 HB1.out (Nat.le_refl _)⟩
/-- A header as a value. -/
def hv (i g f : Int) : Value := .agg #[.int .i64 i, .int .i64 g, .int .i64 f]
set_option maxHeartbeats 3200000 in
set_option maxRecDepth 100000 in
theorem next_any (A : Option Addr) (n c : Nat) (i g f : Int) (h1 : Nat) (l : List Mt) (w : World) (hrd : Rd w w.heap.size 7 A n (fl7 l)) (hn : n ≤ 100000) (ho : okBl l = true) (hf : f = h1) :
    Calls Tryz.prog 10 #[hv i g f, .slice A n c] w fun e w' => e = .returned (.int .i64 (nextM h1 l : Nat)) ∧ Below w.heap.size w w' := by
  have mixed : Tryz.prog.follows .mixedOrders = true := by kernel_rfl
  have HB := Lib.hid (ext_alloc w (.cells #[.int .i64 i, .int .i64 g, .int .i64 f] 23))
  have k2 : (w.alloc (.cells #[.int .i64 i, .int .i64 g, .int .i64 f] 23)).cell? ⟨w.heap.size, 2, none⟩ = some (.int .i64 f) := by rw [World.cell?_alloc_new]; rfl
  have hlt : w.heap.size < (w.alloc (.cells #[.int .i64 i, .int .i64 g, .int .i64 f] 23)).heap.size := by simp
  have HK := Lib.hid (And.intro k2 hlt)
  have hln := mt_len hrd
  unfold hv
  rcases hl : l.getLast? with _ | m
  · have hl0 : l = [] := by simpa using hl
    have hn0 : n = 0 := by rw [← hln, hl0]; rfl
    have HN := Lib.hid (show (nextM h1 l : Int) = f by unfold nextM; rw [hl]; exact hf.symm)
    subst hn0
    have HL := Lib.hid (last_nil A c (w.alloc (.cells #[.int .i64 i, .int .i64 g, .int .i64 f] 23)))
    unfold magg at HL
    clear hl hl0 hln hrd k2 hlt hf
    go_enter Tryz.func10, Tryz.ntmps10
    go_wp2_with fail
    generalize w.alloc (.cells #[.int .i64 i, .int .i64 g, .int .i64 f] 23) = w0 at *
    refine HL.out.mono ?_
    rintro e1 w1 ⟨rfl, hb1⟩
    have c2 := (hb1.cell (p := ⟨w.heap.size, 2, none⟩) HK.out.2).trans HK.out.1
    have HB1 := Lib.hid ((HB.out.trans (hb1.mono HB.out.size)).trans ((ext_alloc w1 (.cells #[.int .i64 0, .int .i64 0, .int .i64 0, .int .i64 0, .int .i64 0, .int .i64 0, .int .i64 0] 38)).mono (Nat.le_trans HB.out.size hb1.size)))
    have hlt1 : w.heap.size < w1.heap.size := Nat.lt_of_lt_of_le HK.out.2 hb1.size
    clear hb1
    go_wp2_with fail
    go_ret
    exact ⟨by rw [HN.out]; rfl, HB1.out⟩
  · have hn0 : 0 < n := by
      rcases n with _ | n
      · rw [List.length_eq_zero_iff] at hln; rw [hln] at hl; cases hl
      · omega
    have hmem : m ∈ l := List.mem_of_getLast? hl
    have hok : m.f + m.c ≤ 1000000001 := by
      have := (okM_iff m).1 (rowM_mem l none (okBl_row ho).2 m hmem)
      omega
    have HN := Lib.hid (show (nextM h1 l : Int) = (m.f : Int) + (m.c : Int) by unfold nextM; rw [hl]; push_cast; rfl)
    have HL := Lib.hid (last_ok A n c l m (w.alloc (.cells #[.int .i64 i, .int .i64 g, .int .i64 f] 23)) (hrd.ext HB.out) hn0 (by omega) hl ho)
    unfold mv magg at HL
    obtain ⟨ma, ms, mr, mc, mf, me, ml⟩ := m
    dsimp only at *
    clear hl hln hrd k2 hlt hf hmem
    go_enter Tryz.func10, Tryz.ntmps10
    go_wp2_with fail
    generalize w.alloc (.cells #[.int .i64 i, .int .i64 g, .int .i64 f] 23) = w0 at *
    refine HL.out.mono ?_
    rintro e1 w1 ⟨rfl, hb1⟩
    have HB1 := Lib.hid ((HB.out.trans (hb1.mono HB.out.size)).trans ((ext_alloc w1 (.cells #[.int .i64 ma, .int .i64 ms, .int .i64 mr, .int .i64 mc, .int .i64 mf, .int .i64 me, .int .i64 ml] 38)).mono (Nat.le_trans HB.out.size hb1.size)))
    clear hb1
    go_wp2_with fail
    go_ret
    exact ⟨by rw [HN.out]; rfl, HB1.out⟩
end Sn
end Go.Proofs.YtpbphhpldlckbaaGreat
