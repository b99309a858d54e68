/- scan.meta. strings.HasPrefix; scan.begun. Slices of records that the call itself makes. record.Split. -/
import Derived.Test.YtpbphhpldlckbaaGreatSc14
import Derived.Test.YtpbphhpldlckbaaGreatSc04
import Derived.Test.YtpbphhpldlckbaaGreatSc36
import Derived.Deep.Cut
import Derived.Test.YtpbphhpldlckbaaGreatSc06
import Derived.Test.YtpbphhpldlckbaaGreatSc13
import Derived.Test.YtpbphhpldlckbaaGreatSc08
import Derived.Test.YtpbphhpldlckbaaGreatSc17
namespace Go.Proofs.YtpbphhpldlckbaaGreat
namespace Sn
open Go.RowKit Hd Fm Bk

/-- What scan.meta gives. -/
def MfAns (x : Fr) (e : Ending) : Prop := (∃ m, metaF x = some m ∧ e = .returned (.tuple #[mv m, .bool true])) ∨ (metaF x = none ∧ e = .returned (.tuple #[magg 0 0 0 0 0 0 0, .bool false]))
set_option maxHeartbeats 6400000 in
set_option maxRecDepth 100000 in
theorem meta_any (k : Nat) (b : ByteArray) (p t : Nat) (w : World) (hb : b.size ≤ 1000000) (hp : p ≤ t) (ht : t ≤ 1000000000) :
    Calls Tryz.prog 21 #[fagg k b p t] w fun e w' => MfAns (k, b, p, t) e ∧ Below w.heap.size w w' := by
  have mixed : Tryz.prog.follows .mixedOrders = true := by kernel_rfl
  have HI := Lib.hid (show (Tryz.prog.info? 38).map (·.size) = some 7 by kernel_rfl)
  have HB := Lib.hid ((ext_alloc w (.cells #[.int .i64 k, .string b, .int .i64 p, .int .i64 t] 59)).trans ((ext_alloc _ (.cells #[.int .i64 0, .int .i64 0, .int .i64 0, .int .i64 0, .int .i64 0, .int .i64 0, .int .i64 0] 38)).mono (by simp)))
  have M1 := Lib.hid (show Fb ((w.alloc (.cells #[.int .i64 k, .string b, .int .i64 p, .int .i64 t] 59)).alloc (.cells #[.int .i64 0, .int .i64 0, .int .i64 0, .int .i64 0, .int .i64 0, .int .i64 0, .int .i64 0] 38)) w.heap.size k b p t from
    (Below.heap_alloc _ _ _ (by simp)).trans (heap_alloc_new w _))
  have M2 := Lib.hid (show Mb ((w.alloc (.cells #[.int .i64 k, .string b, .int .i64 p, .int .i64 t] 59)).alloc (.cells #[.int .i64 0, .int .i64 0, .int .i64 0, .int .i64 0, .int .i64 0, .int .i64 0, .int .i64 0] 38)) (w.heap.size + 1) 0 0 0 0 0 0 0 from by
    have hh := Mb.new (w.alloc (.cells #[.int .i64 k, .string b, .int .i64 p, .int .i64 t] 59))
    rw [show (w.alloc (.cells #[.int .i64 k, .string b, .int .i64 p, .int .i64 t] 59)).heap.size = w.heap.size + 1 by simp] at hh
    exact hh)
  have HP := Lib.hid (fun w => Peek_any b w hb)
  unfold fagg
  go_enter Tryz.func21, Tryz.ntmps21
  go_wp2_with fail
  generalize (w.alloc (.cells #[.int .i64 k, .string b, .int .i64 p, .int .i64 t] 59)).alloc (.cells #[.int .i64 0, .int .i64 0, .int .i64 0, .int .i64 0, .int .i64 0, .int .i64 0, .int .i64 0] 38) = w0 at *
  refine (HP.out _).mono ?_
  rintro e1 w1 ⟨ha, hb1⟩
  have F1 := M1.out.below hb1 M1.out.lt
  have G1 := M2.out.below hb1 M2.out.lt
  have HB1 := Lib.hid (HB.out.trans (hb1.mono HB.out.size))
  have HL1 := Lib.hid (Nat.lt_of_lt_of_le M2.out.lt hb1.size)
  have l1 : w.heap.size < w1.heap.size := Nat.lt_of_lt_of_le M1.out.lt hb1.size
  have l2 : w.heap.size + 1 < w1.heap.size := Nat.lt_of_lt_of_le M2.out.lt hb1.size
  clear hb1
  rcases ha with ⟨md, raw, count, first, early, late, r, hpk, rfl⟩ | ⟨hpk, x, rfl, hx⟩
  · by_cases hk : k = 2
    · subst hk
      have HM := Lib.hid (show metaF (2, b, p, t) = some ⟨p, t - p, raw, count, first, early, late⟩ by unfold metaF; rw [hpk]; exact if_pos rfl)
      obtain ⟨d, hd⟩ : ∃ d : Nat, t - p = d := ⟨_, rfl⟩
      have b2 : IntKind.i64.wrap ((t : Int) - (p : Int)) = (d : Int) := by rw [IntKind.wrap_i64]; omega
      rw [hd] at HM
      clear hd
      have F2 : Fb (w1.alloc (.cells #[.int .i64 0, .int .i64 0, .int .i64 raw, .int .i64 count, .int .i64 first, .int .i64 early, .int .i64 late] 38)) w.heap.size 2 b p t := F1.below (ext_alloc w1 _) l1
      have G2 : Mb (w1.alloc (.cells #[.int .i64 0, .int .i64 0, .int .i64 raw, .int .i64 count, .int .i64 first, .int .i64 early, .int .i64 late] 38)) (w.heap.size + 1) 0 0 0 0 0 0 0 := G1.below (ext_alloc w1 _) l2
      have HB2 := Lib.hid (HB1.out.trans ((ext_alloc w1 (.cells #[.int .i64 0, .int .i64 0, .int .i64 raw, .int .i64 count, .int .i64 first, .int .i64 early, .int .i64 late] 38)).mono HB1.out.size))
      have HL2 := Lib.hid (Nat.lt_of_lt_of_le l2 (ext_alloc w1 (.cells #[.int .i64 0, .int .i64 0, .int .i64 raw, .int .i64 count, .int .i64 first, .int .i64 early, .int .i64 late] 38)).size)
      have HW2 := Lib.hid (show Mb (w1.alloc (.cells #[.int .i64 0, .int .i64 0, .int .i64 raw, .int .i64 count, .int .i64 first, .int .i64 early, .int .i64 late] 38)) w1.heap.size 0 0 raw count first early late from heap_alloc_new w1 _)
      clear hpk HP F1 G1
      unfold magg
      go_upto_region 2 with (fail)
      generalize w1.alloc (.cells #[.int .i64 0, .int .i64 0, .int .i64 raw, .int .i64 count, .int .i64 first, .int .i64 early, .int .i64 late] 38) = w2 at *
      have HG2 := Lib.hid (show w.heap.size ≤ w.heap.size + 1 from Nat.le_succ _)
      generalize w.heap.size + 1 = g2 at *
      have c0 := F2.c0
      have c2 := F2.c2
      have c3 := F2.c3
      have s0 := HW2.out.c0
      have s1 := HW2.out.c1
      have y0 := HW2.out.fz 0
      have y1 := HW2.out.fz 1
      have HG := Lib.hid (show Blk w2 g2 #[.int .i64 0, .int .i64 0, .int .i64 0, .int .i64 0, .int .i64 0, .int .i64 0, .int .i64 0] 38 from G2)
      have HL1 := Lib.hid (show w.heap.size ≤ w1.heap.size ∧ g2 ≠ w1.heap.size from ⟨Nat.le_of_lt l1, Nat.ne_of_lt l2⟩)
      clear F2 G2 l1 l2
      go_wp2_with fail
      go_region
      have HX := Lib.hid (show Blk (((w2.setCell ⟨w1.heap.size, 0, none⟩ (.int .i64 (p : Int))).setCell ⟨w1.heap.size, 1, none⟩ (.int .i64 (d : Int))).drew) w1.heap.size #[.int .i64 p, .int .i64 d, .int .i64 raw, .int .i64 count, .int .i64 first, .int .i64 early, .int .i64 late] 38 from (HW2.out.set0 p).set1 d)
      have HY := Lib.hid (show Blk (((w2.setCell ⟨w1.heap.size, 0, none⟩ (.int .i64 (p : Int))).setCell ⟨w1.heap.size, 1, none⟩ (.int .i64 (d : Int))).drew) g2 #[.int .i64 0, .int .i64 0, .int .i64 0, .int .i64 0, .int .i64 0, .int .i64 0, .int .i64 0] 38 from (HG.out.setCell HL1.out.2 _).setCell HL1.out.2 _)
      have HB4 := Lib.hid (show Below w.heap.size w (((w2.setCell ⟨w1.heap.size, 0, none⟩ (.int .i64 (p : Int))).setCell ⟨w1.heap.size, 1, none⟩ (.int .i64 (d : Int))).drew) from ((HB2.out.setCell (p := ⟨w1.heap.size, 0, none⟩) HL1.out.1 _).setCell (p := ⟨w1.heap.size, 1, none⟩) HL1.out.1 _).drew)
      generalize ((w2.setCell ⟨w1.heap.size, 0, none⟩ (.int .i64 (p : Int))).setCell ⟨w1.heap.size, 1, none⟩ (.int .i64 (d : Int))).drew = w4 at *
      go_wp2_with (first | (refine wpList_load_row rfl 38 (.tmp 4) rfl w1.heap.size #[.int .i64 p, .int .i64 d, .int .i64 raw, .int .i64 count, .int .i64 first, .int .i64 early, .int .i64 late] _ (by simp [go_sem, Act.eval]) HX.out Tryz.underlying38 rfl HI.out ?_) | (refine wpList_store_row rfl 38 (.tmp 2) (.tmp 29) rfl g2 #[.int .i64 p, .int .i64 d, .int .i64 raw, .int .i64 count, .int .i64 first, .int .i64 early, .int .i64 late] #[.int .i64 0, .int .i64 0, .int .i64 0, .int .i64 0, .int .i64 0, .int .i64 0, .int .i64 0] (by simp [go_sem, Act.eval]) (by simp [go_sem, Act.eval]) HY.out HI.out rfl (by simp [Value.oneCell']) ?_))
      refine bodyPost_ret (v := .tuple #[mv ⟨p, d, raw, count, first, early, late⟩, .bool true]) (by exact results_cell2 rfl rfl rfl (HY.out.set #[.int .i64 p, .int .i64 d, .int .i64 raw, .int .i64 count, .int .i64 first, .int .i64 early, .int .i64 late]) Tryz.underlying38 rfl HI.out) (by exact rfl) ?_
      exact ⟨.inl ⟨_, HM.out, rfl⟩, ext_setRow HB4.out HG2.out _⟩
    · have HM := Lib.hid (show metaF (k, b, p, t) = none by unfold metaF; rw [hpk]; exact if_neg hk)
      have F2 : Fb (w1.alloc (.cells #[.int .i64 0, .int .i64 0, .int .i64 raw, .int .i64 count, .int .i64 first, .int .i64 early, .int .i64 late] 38)) w.heap.size k b p t := F1.below (ext_alloc w1 _) l1
      have G2 : Mb (w1.alloc (.cells #[.int .i64 0, .int .i64 0, .int .i64 raw, .int .i64 count, .int .i64 first, .int .i64 early, .int .i64 late] 38)) (w.heap.size + 1) 0 0 0 0 0 0 0 := G1.below (ext_alloc w1 _) l2
      have HB2 := Lib.hid (HB1.out.trans ((ext_alloc w1 (.cells #[.int .i64 0, .int .i64 0, .int .i64 raw, .int .i64 count, .int .i64 first, .int .i64 early, .int .i64 late] 38)).mono HB1.out.size))
      have HL2 := Lib.hid (Nat.lt_of_lt_of_le l2 (ext_alloc w1 (.cells #[.int .i64 0, .int .i64 0, .int .i64 raw, .int .i64 count, .int .i64 first, .int .i64 early, .int .i64 late] 38)).size)
      clear hpk HP F1 G1
      unfold magg
      go_upto_region 2 with (fail)
      generalize w1.alloc (.cells #[.int .i64 0, .int .i64 0, .int .i64 raw, .int .i64 count, .int .i64 first, .int .i64 early, .int .i64 late] 38) = w2 at *
      have HG2 := Lib.hid (show w.heap.size ≤ w.heap.size + 1 from Nat.le_succ _)
      generalize w.heap.size + 1 = g2 at *
      have c0 := F2.c0
      have c2 := F2.c2
      have c3 := F2.c3
      have HG := Lib.hid (show Blk w2 g2 #[.int .i64 0, .int .i64 0, .int .i64 0, .int .i64 0, .int .i64 0, .int .i64 0, .int .i64 0] 38 from G2)
      clear F2 G2 l1 l2
      go_wp2_with (first | (refine wpList_store_row rfl 38 (.tmp 2) (.tmp 19) rfl g2 #[.int .i64 0, .int .i64 0, .int .i64 0, .int .i64 0, .int .i64 0, .int .i64 0, .int .i64 0] #[.int .i64 0, .int .i64 0, .int .i64 0, .int .i64 0, .int .i64 0, .int .i64 0, .int .i64 0] (by simp [go_sem, Act.eval]) (by simp [go_sem, Act.eval]) HG.out HI.out rfl (by simp [Value.oneCell']) ?_))
      refine bodyPost_ret (v := .tuple #[magg 0 0 0 0 0 0 0, .bool false]) (by exact results_cell2 rfl rfl rfl (HG.out.set #[.int .i64 0, .int .i64 0, .int .i64 0, .int .i64 0, .int .i64 0, .int .i64 0, .int .i64 0]) Tryz.underlying38 rfl HI.out) (by exact rfl) ?_
      exact ⟨.inr ⟨HM.out, rfl⟩, ext_setRow HB2.out HG2.out _⟩
  · have HM := Lib.hid (show metaF (k, b, p, t) = none by unfold metaF; rw [hpk])
    by_cases hk : k = 2
    · subst hk
      have F2 : Fb (w1.alloc (.cells #[.int .i64 0, .int .i64 0, .int .i64 0, .int .i64 0, .int .i64 0, .int .i64 0, .int .i64 0] 38)) w.heap.size 2 b p t := F1.below (ext_alloc w1 _) l1
      have G2 : Mb (w1.alloc (.cells #[.int .i64 0, .int .i64 0, .int .i64 0, .int .i64 0, .int .i64 0, .int .i64 0, .int .i64 0] 38)) (w.heap.size + 1) 0 0 0 0 0 0 0 := G1.below (ext_alloc w1 _) l2
      have HB2 := Lib.hid (HB1.out.trans ((ext_alloc w1 (.cells #[.int .i64 0, .int .i64 0, .int .i64 0, .int .i64 0, .int .i64 0, .int .i64 0, .int .i64 0] 38)).mono HB1.out.size))
      have HL2 := Lib.hid (Nat.lt_of_lt_of_le l2 (ext_alloc w1 (.cells #[.int .i64 0, .int .i64 0, .int .i64 0, .int .i64 0, .int .i64 0, .int .i64 0, .int .i64 0] 38)).size)
      clear hpk HP F1 G1
      unfold magg
      go_upto_region 2 with (fail)
      generalize w1.alloc (.cells #[.int .i64 0, .int .i64 0, .int .i64 0, .int .i64 0, .int .i64 0, .int .i64 0, .int .i64 0] 38) = w2 at *
      have HG2 := Lib.hid (show w.heap.size ≤ w.heap.size + 1 from Nat.le_succ _)
      generalize w.heap.size + 1 = g2 at *
      have c0 := F2.c0
      have c2 := F2.c2
      have c3 := F2.c3
      have HG := Lib.hid (show Blk w2 g2 #[.int .i64 0, .int .i64 0, .int .i64 0, .int .i64 0, .int .i64 0, .int .i64 0, .int .i64 0] 38 from G2)
      clear F2 G2 l1 l2
      go_wp2_with (first | (refine wpList_store_row rfl 38 (.tmp 2) (.tmp 19) rfl g2 #[.int .i64 0, .int .i64 0, .int .i64 0, .int .i64 0, .int .i64 0, .int .i64 0, .int .i64 0] #[.int .i64 0, .int .i64 0, .int .i64 0, .int .i64 0, .int .i64 0, .int .i64 0, .int .i64 0] (by simp [go_sem, Act.eval]) (by simp [go_sem, Act.eval]) HG.out HI.out rfl (by simp [Value.oneCell']) ?_))
      refine bodyPost_ret (v := .tuple #[magg 0 0 0 0 0 0 0, .bool false]) (by exact results_cell2 rfl rfl rfl (HG.out.set #[.int .i64 0, .int .i64 0, .int .i64 0, .int .i64 0, .int .i64 0, .int .i64 0, .int .i64 0]) Tryz.underlying38 rfl HI.out) (by exact rfl) ?_
      exact ⟨.inr ⟨HM.out, rfl⟩, ext_setRow HB2.out HG2.out _⟩
    · skip
      have F2 : Fb (w1.alloc (.cells #[.int .i64 0, .int .i64 0, .int .i64 0, .int .i64 0, .int .i64 0, .int .i64 0, .int .i64 0] 38)) w.heap.size k b p t := F1.below (ext_alloc w1 _) l1
      have G2 : Mb (w1.alloc (.cells #[.int .i64 0, .int .i64 0, .int .i64 0, .int .i64 0, .int .i64 0, .int .i64 0, .int .i64 0] 38)) (w.heap.size + 1) 0 0 0 0 0 0 0 := G1.below (ext_alloc w1 _) l2
      have HB2 := Lib.hid (HB1.out.trans ((ext_alloc w1 (.cells #[.int .i64 0, .int .i64 0, .int .i64 0, .int .i64 0, .int .i64 0, .int .i64 0, .int .i64 0] 38)).mono HB1.out.size))
      have HL2 := Lib.hid (Nat.lt_of_lt_of_le l2 (ext_alloc w1 (.cells #[.int .i64 0, .int .i64 0, .int .i64 0, .int .i64 0, .int .i64 0, .int .i64 0, .int .i64 0] 38)).size)
      clear hpk HP F1 G1
      unfold magg
      go_upto_region 2 with (fail)
      generalize w1.alloc (.cells #[.int .i64 0, .int .i64 0, .int .i64 0, .int .i64 0, .int .i64 0, .int .i64 0, .int .i64 0] 38) = w2 at *
      have HG2 := Lib.hid (show w.heap.size ≤ w.heap.size + 1 from Nat.le_succ _)
      generalize w.heap.size + 1 = g2 at *
      have c0 := F2.c0
      have c2 := F2.c2
      have c3 := F2.c3
      have HG := Lib.hid (show Blk w2 g2 #[.int .i64 0, .int .i64 0, .int .i64 0, .int .i64 0, .int .i64 0, .int .i64 0, .int .i64 0] 38 from G2)
      clear F2 G2 l1 l2
      go_wp2_with (first | (refine wpList_store_row rfl 38 (.tmp 2) (.tmp 19) rfl g2 #[.int .i64 0, .int .i64 0, .int .i64 0, .int .i64 0, .int .i64 0, .int .i64 0, .int .i64 0] #[.int .i64 0, .int .i64 0, .int .i64 0, .int .i64 0, .int .i64 0, .int .i64 0, .int .i64 0] (by simp [go_sem, Act.eval]) (by simp [go_sem, Act.eval]) HG.out HI.out rfl (by simp [Value.oneCell']) ?_))
      refine bodyPost_ret (v := .tuple #[magg 0 0 0 0 0 0 0, .bool false]) (by exact results_cell2 rfl rfl rfl (HG.out.set #[.int .i64 0, .int .i64 0, .int .i64 0, .int .i64 0, .int .i64 0, .int .i64 0, .int .i64 0]) Tryz.underlying38 rfl HI.out) (by exact rfl) ?_
      exact ⟨.inr ⟨HM.out, rfl⟩, ext_setRow HB2.out HG2.out _⟩
end Sn
end Go.Proofs.YtpbphhpldlckbaaGreat
namespace Go.Proofs.YtpbphhpldlckbaaGreat
namespace Sn
open Go.RowKit Hd Fm

/-- Does a text begin with another one? -/
def preB (s p : ByteArray) : Bool := decide (s.extract 0 p.size = p)
theorem preB_iff (s p : ByteArray) : preB s p = true ↔ s.extract 0 p.size = p := by unfold preB; rw [decide_eq_true_eq]
set_option maxHeartbeats 1600000 in
set_option maxRecDepth 100000 in
theorem beqL (a b : ByteArray) {r : Bool} (h : decide (a = b) = r) : (a.toList == b.toList) = r := by
  rw [ByteArray.toList_eq, ByteArray.toList_eq]
  subst h
  by_cases hq : a = b
  · subst hq; simp
  · rw [decide_eq_false hq, beq_eq_false_iff_ne]
    intro e
    obtain ⟨⟨a⟩⟩ := a
    obtain ⟨⟨b⟩⟩ := b
    exact hq (by simp only at e; rw [e])
theorem hp1 (s p : ByteArray) (w : World) {b : Bool} (h : preB s p = b) : Calls Tryz.prog 55 #[.string s, .string p] w fun e w' => e = .returned (.bool b) ∧ w = w' := by
  have mixed : Tryz.prog.follows .mixedOrders = true := by kernel_rfl
  by_cases hs : p.size ≤ s.size
  · have h1 : decide (p.size ≤ s.size) = true := decide_eq_true hs
    have hb := Lib.hid (beqL (s.extract 0 p.size) p h)
    clear h
    go_enter Tryz.func55, Tryz.ntmps55
    go_wp2_with fail
    go_ret
    exact ⟨ret_bool hb.out, rfl⟩
  · have h1 : decide (p.size ≤ s.size) = false := decide_eq_false hs
    have hb := Lib.hid (show false = b by
      subst h
      rcases hq : preB s p with _ | _
      · rfl
      · have := congrArg ByteArray.size ((preB_iff s p).1 hq)
        rw [ByteArray.size_extract] at this
        omega)
    clear h
    go_enter Tryz.func55, Tryz.ntmps55
    go_wp2_with fail
    go_ret
    exact ⟨ret_bool hb.out, rfl⟩
theorem hp2 (s p : ByteArray) (w : World) {b : Bool} (h : preB s p = b) : Calls Tryz.prog 35 #[.string s, .string p] w fun e w' => e = .returned (.bool b) ∧ w = w' := by
  have mixed : Tryz.prog.follows .mixedOrders = true := by kernel_rfl
  have H := Lib.hid (fun w => hp1 s p w h)
  clear h
  go_enter Tryz.func35, Tryz.ntmps35
  go_wp2_with fail
  refine (H.out _).mono ?_
  rintro e1 w1 ⟨rfl, rfl⟩
  go_wp2_with fail
  go_ret
  exact ⟨rfl, rfl⟩
/-- A header's frame. -/
def hdrB (i g f : Nat) : ByteArray := frB 1 (hb i g f)
theorem hb_size (i g f : Nat) (h : 1 ≤ i ∧ i ≤ 999999 ∧ 1 ≤ g ∧ g ≤ 999999 ∧ 1 ≤ f ∧ f ≤ 1000000000) : (hb i g f).size ≤ 27 := by
  have h3 := flat_len [i, g, f] (by intro x hx; simp at hx; omega)
  simp only [List.flatMap_cons, List.flatMap_nil, List.append_nil, List.length_cons, List.length_nil] at h3
  unfold hb
  show (List.toArray _).size ≤ 27
  rw [List.size_toArray]
  omega
set_option maxHeartbeats 1600000 in
set_option maxRecDepth 100000 in
theorem begun_ok (s : ByteArray) (i g f : Nat) (w : World) (h : 1 ≤ i ∧ i ≤ 999999 ∧ 1 ≤ g ∧ g ≤ 999999 ∧ 1 ≤ f ∧ f ≤ 1000000000) {b : Bool} (hp : preB s (hdrB i g f) = b) :
    Calls Tryz.prog 17 #[.string s, .agg #[.int .i64 (i : Int), .int .i64 (g : Int), .int .i64 (f : Int)]] w fun e w' => e = .returned (.tuple #[.int .i64 (if b = true then ((hdrB i g f).size : Int) else 0), .bool b]) ∧ Below w.heap.size w w' := by
  have mixed : Tryz.prog.follows .mixedOrders = true := by kernel_rfl
  have HH := Lib.hid (hput_yes i g f (w.alloc (.cells #[.int .i64 (i : Int), .int .i64 (g : Int), .int .i64 (f : Int)] 23)) h)
  have HB := Lib.hid (ext_alloc w (.cells #[.int .i64 (i : Int), .int .i64 (g : Int), .int .i64 (f : Int)] 23))
  have HP := Lib.hid (fun w => put_any 1 (hb i g f) w (by decide) (by have := hb_size i g f h; omega))
  have hsz := hb_size i g f h
  have HX := Lib.hid (fun w => hp2 s (hdrB i g f) w hp)
  have HE := Lib.hid (show frB 1 (hb i g f) = hdrB i g f from rfl)
  rw [HE.out] at HP
  generalize hdrB i g f = D at *
  generalize hb i g f = E at *
  clear h hp
  rcases b with _ | _
  all_goals
    go_enter Tryz.func17, Tryz.ntmps17
    go_wp2_with fail
    refine HH.out.mono ?_
    rintro e1 w1 ⟨rfl, hb1⟩
    have HB1 := Lib.hid (HB.out.trans (hb1.mono HB.out.size))
    clear hb1
    go_wp2_with fail
    refine (HP.out _).mono ?_
    rintro e2 w2 ⟨rfl, hb2⟩
    have HB2 := Lib.hid (HB1.out.trans (hb2.mono HB1.out.size))
    clear hb2
    go_wp2_with fail
    refine (HX.out _).mono ?_
    rintro e3 w3 ⟨rfl, rfl⟩
    go_wp2_with fail
    go_ret2
    exact ⟨rfl, HB2.out⟩
set_option maxHeartbeats 1600000 in
set_option maxRecDepth 100000 in
theorem begun_no (s : ByteArray) (i g f : Int) (w : World) (h : okH i g f = false) :
    Calls Tryz.prog 17 #[.string s, .agg #[.int .i64 i, .int .i64 g, .int .i64 f]] w fun e w' => e = .returned (.tuple #[.int .i64 0, .bool false]) ∧ Below w.heap.size w w' := by
  have mixed : Tryz.prog.follows .mixedOrders = true := by kernel_rfl
  have HH := Lib.hid (hput_no i g f (w.alloc (.cells #[.int .i64 i, .int .i64 g, .int .i64 f] 23)) h)
  have HB := Lib.hid (ext_alloc w (.cells #[.int .i64 i, .int .i64 g, .int .i64 f] 23))
  clear h
  go_enter Tryz.func17, Tryz.ntmps17
  go_wp2_with fail
  refine HH.out.mono ?_
  rintro e1 w1 ⟨rfl, hb1⟩
  have HB1 := Lib.hid (HB.out.trans (hb1.mono HB.out.size))
  clear hb1
  go_wp2_with fail
  go_ret2
  exact ⟨rfl, HB1.out⟩
end Sn
end Go.Proofs.YtpbphhpldlckbaaGreat
namespace Go.Proofs.YtpbphhpldlckbaaGreat
namespace Rd
open Go.RowKit

/-- A slice of records that the call owns from block B on. -/
def Own3 (w : World) (B : Nat) (v : Value) (l : List (Int × Int × ByteArray)) : Prop := w.ownsRow B 40 3 v l.length (fl3 l)
theorem rec_info : (Tryz.prog.info? 40).map (fun i => (i.zero, i.size, i.bytes)) = some (some (.agg #[.int .i64 0, .int .i64 0, .string ⟨#[]⟩]), 3, 32) := by kernel_rfl
theorem fl3_one (l : List (Int × Int × ByteArray)) : ∀ u ∈ fl3 l, u.oneCell' = true := by
  induction l with
  | nil => simp [fl3]
  | cons x l ih =>
    intro u hu
    rw [fl3_cons] at hu
    simp only [List.mem_cons] at hu
    rcases hu with rfl | rfl | rfl | hu
    · rfl
    · rfl
    · rfl
    · exact ih u hu

section
variable {ops : Array Oper} {rest : List Oper} {o : Oper} {a : Act} {Q : Exit → Act → World → Prop}
theorem append3 {s x : Operand} {B : Nat} {v : Value} {l : List (Int × Int × ByteArray)} {w0 : World} {y z : Int} {d : ByteArray} (hown : Own3 w0 B v l) (hl : l.length ≤ 1099511627776) (hB : B ≤ w0.heap.size)
    (h : ∀ A' n' c' w', Hid (n' = l.length + 1) → Own3 w' B (.slice A' n' c') (l ++ [(y, z, d)]) → Below B w0 w' → wpList Tryz.prog ops Q rest (a.put o.dst (.slice A' n' c')) w')
    (hgd : o.guard = none := by exact rfl) (ho : o.op = .call { callee := .builtin .append, args := #[s, x], argTypes := #[32, 32] } := by exact rfl)
    (hs : a.eval s = v := by exact rfl) (hx : a.eval x = .slice (some ⟨w0.heap.size, 0, none⟩) 1 1 := by exact rfl) :
    wpList Tryz.prog ops Q (o :: rest) a (w0.alloc (.cells #[.int .i64 y, .int .i64 z, .string d] 40)) := by
  obtain ⟨i0, hi, hz0, hz1, hz2⟩ := info_parts rec_info
  refine wpList_append_own_at _ hgd s x 32 ho B 40 i0 (.agg #[.int .i64 0, .int .i64 0, .string ⟨#[]⟩]) 3 32 Tryz.underlying32 hi hz0 hz1 hz2 rfl (by omega) v l.length (fl3 l) hs (hown.alloc _)
    ⟨w0.heap.size, 0, none⟩ 1 1 [.int .i64 y, .int .i64 z, .string d] hx rfl ?_ (by intro u hu; simp at hu; rcases hu with rfl | rfl | rfl <;> rfl) (by simp only [maxLen]; omega) (by omega) (by simp; omega) ?_
  · intro j u hu
    rw [Addr.add_lit, Nat.zero_add, World.cell?_alloc_new]
    simpa using hu
  intro v' w' hown' hg _ hat
  have hg0 : w0.grownBy w' v.ownBlock := (World.grownBy_alloc w0 _ v.ownBlock).trans hg
  have hlt := World.ownsRow.lt hown
  obtain ⟨A', c', rfl, _, _⟩ := own_slice hown'
  refine h A' _ c' w' rfl ?_ ((Below.refl _ _).grown hg0 hB (fun k hk => (hlt k hk).1))
  unfold Own3
  rw [List.length_append, fl3_append]
  exact hown'
end
section
variable {w w' : World} {B C : Nat} {v : Value} {l : List (Int × Int × ByteArray)}
theorem Own3.below (h : Own3 w B v l) (hb : Below C w w') (hC : w.heap.size ≤ C) : Own3 w' B v l := own_below h hb hC
theorem Own3.lower (h : Own3 w B v l) (hC : C ≤ B) : Own3 w C v l := own_lower h hC
theorem Own3.rd (h : Own3 w B v l) : ∃ A c, v = .slice A l.length c ∧ l.length ≤ c ∧ c ≤ maxLen ∧ Rd w w.heap.size 3 A l.length (fl3 l) := by
  have h0 := h
  obtain ⟨A, c, rfl, h1, h2⟩ := own_slice h0
  exact ⟨A, c, rfl, h1, h2, Rd.of_own h⟩
theorem own3_nil (w : World) (B : Nat) : Own3 w B (.slice none 0 0) [] := World.ownsRow_nil _ _ _ _
end
end Rd
end Go.Proofs.YtpbphhpldlckbaaGreat
namespace Go.Proofs.YtpbphhpldlckbaaGreat
namespace Rd
open Go.RowKit Vi Bd

theorem rec1_lt {b b' : List UInt8} {r : Int × Int × ByteArray} (h : rec1 b = some (r, b')) : b = recB r ++ b' ∧ b'.length + 3 ≤ b.length := by
  obtain ⟨-, h2⟩ := rec1_some b r b' h
  refine ⟨h2, ?_⟩
  have := congrArg List.length h2
  rw [List.length_append] at this
  have := recB_length r
  omega
theorem spl_fuel : ∀ (n m : Nat) (b : List UInt8), b.length ≤ n → b.length ≤ m → spl n b = spl m b
  | 0, m, b, hn, _ => by
    have hb : b = [] := List.length_eq_zero_iff.1 (by omega)
    subst hb
    cases m <;> simp [spl]
  | n + 1, m, b, hn, hm => by
    by_cases hb : b = []
    · subst hb; cases m <;> simp [spl]
    · have h0 : 0 < b.length := List.length_pos_iff.2 hb
      obtain ⟨m, rfl⟩ : ∃ k, m = k + 1 := ⟨m - 1, by omega⟩
      rw [spl, spl, if_neg hb, if_neg hb]
      rcases hr : rec1 b with _ | ⟨r, b'⟩
      · rfl
      · have := (rec1_lt hr).2
        simp only
        rw [spl_fuel n m b' (by omega) (by omega)]
/-- A row that is split up to a place. -/
def Sp (b : List UInt8) (l : List (Int × Int × ByteArray)) (rest : List UInt8) : Prop := (spl rest.length rest).map (l ++ ·) = spl b.length b
theorem sp_start (b : List UInt8) : Sp b [] b := by unfold Sp; simp
theorem sp_end {b : List UInt8} {l : List (Int × Int × ByteArray)} (h : Sp b l []) : spl b.length b = some l := by unfold Sp at h; rw [← h]; simp [spl]
theorem sp_none {b rest : List UInt8} {l : List (Int × Int × ByteArray)} (h : Sp b l rest) (hr : rest ≠ []) (h1 : rec1 rest = none) : spl b.length b = none := by
  unfold Sp at h
  rw [← h]
  obtain ⟨n, hn⟩ : ∃ n, rest.length = n + 1 := ⟨rest.length - 1, by have := List.length_pos_iff.2 hr; omega⟩
  rw [hn, spl, if_neg hr, h1]; rfl
theorem sp_step {b rest rest' : List UInt8} {l : List (Int × Int × ByteArray)} {r : Int × Int × ByteArray} (h : Sp b l rest) (hr : rest ≠ []) (h1 : rec1 rest = some (r, rest')) : Sp b (l ++ [r]) rest' := by
  unfold Sp at *
  rw [← h]
  obtain ⟨n, hn⟩ : ∃ n, rest.length = n + 1 := ⟨rest.length - 1, by have := List.length_pos_iff.2 hr; omega⟩
  have := (rec1_lt h1).2
  rw [hn, spl, if_neg hr, h1]
  simp only
  rw [spl_fuel n rest'.length rest' (by omega) (Nat.le_refl _), Option.map_map]
  congr 1
  funext x
  simp
theorem split_none {b : List UInt8} (h : spl b.length b = none) : split b = none := by unfold split; rw [h]; split <;> rfl
theorem split_big {b : List UInt8} (h : 20000 < b.length) : split b = none := if_pos h
theorem split_row {b : List UInt8} {l : List (Int × Int × ByteArray)} (h : spl b.length b = some l) (hr : rowE none l ≠ 0) : split b = none := by
  unfold split; rw [h]; simp only; rw [if_pos hr]; split <;> rfl
theorem split_yes {b : List UInt8} {l : List (Int × Int × ByteArray)} (h0 : ¬ 20000 < b.length) (h : spl b.length b = some l) (hr : rowE none l = 0) : split b = some l := by
  unfold split; rw [if_neg h0, h]; simp only; rw [if_neg (by simp [hr])]

set_option maxHeartbeats 6400000 in
set_option maxRecDepth 100000 in
theorem split_any (s : ByteArray) (w : World) (hs : s.size ≤ 1000000) :
    Calls Tryz.prog 42 #[.string s] w fun e w' => ((∃ l, split s.data.toList = some l ∧ ∃ v, e = .returned (.tuple #[v, .int .i64 0]) ∧ Own3 w' w.heap.size v l) ∨
      (split s.data.toList = none ∧ ∃ x, e = .returned (.tuple #[.slice none 0 0, .int .i64 x]) ∧ x ≠ 0)) ∧ Below w.heap.size w w' := by
  have mixed : Tryz.prog.follows .mixedOrders = true := by kernel_rfl
  have hl : s.data.toList.length = s.size := rfl
  by_cases hb : 20000 < s.size
  · have HN := Lib.hid (split_big (b := s.data.toList) (by omega))
    have hb1 : (20000 : Int) < (s.size : Int) := by omega
    go_enter Tryz.func42, Tryz.ntmps42
    go_wp2_with fail
    go_ret2
    exact ⟨.inr ⟨HN.out, 3, rfl, by decide⟩, Below.refl _ _⟩
  · have hb1 : ¬ (20000 : Int) < (s.size : Int) := by omega
    have HL := Lib.hid hl
    clear hl
    go_enter Tryz.func42, Tryz.ntmps42
    go_wp2_with fail
    go_loopw [4, 5] (fun v a wr => ∃ (p : Nat) (l : List (Int × Int × ByteArray)) (v0 : Value), v0 = v ∧ a = .int .i64 (p : Int) ∧ p ≤ s.size ∧ l.length ≤ p ∧ Hid (Sp s.data.toList l (s.data.toList.drop p) ∧ Own3 wr w.heap.size v l ∧ Below w.heap.size w wr)) (fun _ a _ => s.size - (intOf a).toNat)
    case atStart => exact ⟨0, [], .slice none 0 0, rfl, rfl, by omega, by simp, by rw [List.drop_zero]; exact sp_start _, own3_nil _ _, Below.refl _ _⟩
    case round =>
      obtain ⟨p, l, v, hv, rfl, hp, hlp, HX⟩ := hrel
      subst hv
      by_cases hps : p < s.size
      · have hrest : s.data.toList.drop p ≠ [] := by
          intro e
          have := congrArg List.length e
          rw [List.length_drop, HL.out] at this
          simp at this; omega
        have HG := Lib.hid (rget_any s p wr hs hp)
        have HRE := Lib.hid hrest
        have hi : (p : Int) < (s.size : Int) := by omega
        clear hrest
        go_wp2_with fail
        refine HG.out.mono ?_
        rintro e1 w1 ⟨⟨r, b', hr, rfl⟩ | ⟨hr, x, rfl, hx⟩, hb2⟩
        · obtain ⟨q, t, d⟩ := r
          obtain ⟨h1, h2⟩ := rec1_lt hr
          have h3 := congrArg List.length h1
          have h4 := recB_length (q, t, d)
          rw [List.length_append, List.length_drop, HL.out] at h3
          have hdr : b' = s.data.toList.drop (p + (recB (q, t, d)).length) := by
            rw [← List.drop_drop, h1]; simp
          have HST := Lib.hid (sp_step HX.out.1 HRE.out hr)
          rw [hdr] at HST
          generalize (recB (q, t, d)).length = m at *
          have hown := HX.out.2.1.below hb2 (Nat.le_refl _)
          have hB := HX.out.2.2.trans (hb2.mono HX.out.2.2.size)
          have HO := Lib.hid (And.intro hown hB)
          have hle := hB.size
          clear hdr h1 h2 HG HX HRE hr hown hB hb2
          unfold rv
          have ho2 : Own3 (w1.alloc (.cells #[.int .i64 q, .int .i64 t, .string d] 40)) w.heap.size v l := HO.out.1.below ((Below.refl _ _).alloc (Nat.le_refl _) _) (Nat.le_refl _)
          have hll : l.length ≤ 1099511627776 := by omega
          have hB3 : w.heap.size ≤ (w1.alloc (.cells #[.int .i64 q, .int .i64 t, .string d] 40)).heap.size := by simp; omega
          have HO2 := Lib.hid (And.intro ho2 (And.intro hll hB3))
          clear ho2 hll hB3
          go_wp2_with (at_builtin; refine append3 HO2.out.1 HO2.out.2.1 HO2.out.2.2 ?_ (hx := by simp [go_sem, Act.eval]); intro A1 n1 c1 w3 hn1 hown3 hb3)
          exact ⟨⟨p + m, l ++ [(q, t, d)], _, rfl, by go_num, by omega, by simp; omega, HST.out, hown3, (HO.out.2.alloc hle _).trans hb3⟩, by simp [intOf]; omega⟩
        · have HN := Lib.hid (split_none (sp_none HX.out.1 HRE.out hr))
          have HB := Lib.hid (HX.out.2.2.trans (hb2.mono HX.out.2.2.size))
          have hx1 : (x != 0) = true := by rw [bne_iff_ne]; exact hx
          have hx2 : (x == 0) = false := by rw [beq_eq_false_iff_ne]; exact hx
          have hle := HB.out.size
          clear HG HX HRE hr hb2
          unfold rv
          go_wp2_with fail
          go_ret2
          exact ⟨.inr ⟨HN.out, x, rfl, hx⟩, HB.out.alloc hle _⟩
      · obtain rfl : p = s.size := by omega
        have hnil : s.data.toList.drop s.size = [] := List.drop_eq_nil_of_le (by rw [HL.out]; exact Nat.le_refl _)
        have hsp := HX.out.1
        rw [hnil] at hsp
        have HE := Lib.hid (sp_end hsp)
        obtain ⟨A, c, rfl, hc1, hc2, hrd⟩ := HX.out.2.1.rd
        have HW := Lib.hid (row_any A l.length c l wr hrd (by omega))
        clear hnil hsp hrd
        by_cases hr : rowE none l = 0
        · have HY := Lib.hid (split_yes (by rw [HL.out]; exact hb) HE.out hr)
          rw [hr] at HW
          clear HE hr
          go_wp2_with fail
          refine HW.out.mono ?_
          rintro e2 w2 ⟨rfl, hb2⟩
          have HB := Lib.hid (HX.out.2.2.trans (hb2.mono HX.out.2.2.size))
          have HO := Lib.hid (HX.out.2.1.below hb2 (Nat.le_refl _))
          clear HX hb2 HW
          go_wp2_with fail
          go_ret2
          exact ⟨.inl ⟨l, HY.out, _, rfl, HO.out⟩, HB.out⟩
        · have HN := Lib.hid (split_row HE.out hr)
          generalize rowE none l = x at *
          have hx1 : (x != 0) = true := by rw [bne_iff_ne]; exact hr
          have hx2 : (x == 0) = false := by rw [beq_eq_false_iff_ne]; exact hr
          go_wp2_with fail
          refine HW.out.mono ?_
          rintro e2 w2 ⟨rfl, hb2⟩
          have HB := Lib.hid (HX.out.2.2.trans (hb2.mono HX.out.2.2.size))
          clear HX hb2 HW
          go_wp2_with fail
          go_ret2
          exact ⟨.inr ⟨HN.out, x, rfl, hr⟩, HB.out⟩
end Rd
end Go.Proofs.YtpbphhpldlckbaaGreat
