/- head: within, Check. head.alone. api.Meta as a value, and in a block. What is known of blocks, plainly: which may be, which are a row. block.Seqs. A region that draws its order, whose operations only read and whose callees may make memory of their own: walked once. head.follows. head: Blocks. head: last, Next. crc: a table of sums, and the sum of bytes. varint.fits, Fix, Unfix: four bytes. -/
import Derived.Test.YtpbphhpldlckbaaGreatRows
import Derived.Test.YtpbphhpldlckbaaGreatSc02
import Derived.Test.YtpbphhpldlckbaaGreatSc01
import Derived.Test.YtpbphhpldlckbaaGreatSc06
import Derived.Deep.QuietTactic
import Derived.BigQuiet
import Derived.Test.YtpbphhpldlckbaaGreatSc03
import Derived.Deep.LoopGhost
import Derived.Laws.BitsAllLaws
namespace Go.Proofs.YtpbphhpldlckbaaGreat
namespace Hd
open Go.RowKit

/-- Within two bounds. -/
def inB (n a b : Int) : Bool := decide (a ≤ n) && decide (n ≤ b)
theorem inB_iff (n a b : Int) : inB n a b = true ↔ a ≤ n ∧ n ≤ b := by simp [inB]
theorem within_any (n a b : Int) (w : World) : Calls Tryz.prog 57 #[.int .i64 n, .int .i64 a, .int .i64 b] w fun e w' => e = .returned (.bool (inB n a b)) ∧ w = w' := by
  have e1 : ∀ {x y : Bool}, decide (a ≤ n) = x → decide (n ≤ b) = y → inB n a b = (x && y) := fun hx hy => by unfold inB; rw [hx, hy]
  by_cases h1 : a ≤ n
  · by_cases h2 : n ≤ b
    · have hd := e1 (decide_eq_true h1) (decide_eq_true h2)
      generalize inB n a b = r at *
      have HD := Lib.hid hd
      clear hd e1
      go_enter Tryz.func57, Tryz.ntmps57
      go_wp2_with fail
      go_ret
      exact ⟨by rw [HD.out]; rfl, rfl⟩
    · have hd := e1 (decide_eq_true h1) (decide_eq_false h2)
      generalize inB n a b = r at *
      have HD := Lib.hid hd
      clear hd e1
      go_enter Tryz.func57, Tryz.ntmps57
      go_wp2_with fail
      go_ret
      exact ⟨by rw [HD.out]; rfl, rfl⟩
  · have hd : inB n a b = false := by unfold inB; rw [decide_eq_false h1]; rfl
    generalize inB n a b = r at *
    have HD := Lib.hid hd
    clear hd e1
    go_enter Tryz.func57, Tryz.ntmps57
    go_wp2_with fail
    go_ret
    exact ⟨by rw [HD.out]; rfl, rfl⟩
/-- May a header be? -/
def okH (i g f : Int) : Bool := decide (1 ≤ i ∧ i ≤ 999999 ∧ 1 ≤ g ∧ g ≤ 999999 ∧ 1 ≤ f ∧ f ≤ 1000000000)

theorem inB_no {n a b : Int} (h : ¬ (a ≤ n ∧ n ≤ b)) : inB n a b = false := by
  cases h2 : inB n a b with
  | false => rfl
  | true => exact absurd ((inB_iff ..).1 h2) h

set_option maxHeartbeats 1600000 in
set_option maxRecDepth 100000 in
theorem check_yes (i g f : Int) (w : World) (h : 1 ≤ i ∧ i ≤ 999999 ∧ 1 ≤ g ∧ g ≤ 999999 ∧ 1 ≤ f ∧ f ≤ 1000000000) :
    Calls Tryz.prog 53 #[.agg #[.int .i64 i, .int .i64 g, .int .i64 f]] w fun e w' => e = .returned (.int .i64 0) ∧ Below w.heap.size w w' := by
  have mixed : Tryz.prog.follows .mixedOrders = true := by kernel_rfl
  have H1 := Lib.hid (fun (wx : World) => (within_any i 1 999999 wx).mono (R' := fun e w' => e = .returned (.bool true) ∧ wx = w') (fun e w' hh => ⟨by rw [hh.1, (inB_iff ..).2 (by omega)], hh.2⟩))
  have H2 := Lib.hid (fun (wx : World) => (within_any g 1 999999 wx).mono (R' := fun e w' => e = .returned (.bool true) ∧ wx = w') (fun e w' hh => ⟨by rw [hh.1, (inB_iff ..).2 (by omega)], hh.2⟩))
  have H3 := Lib.hid (fun (wx : World) => (within_any f 1 1000000000 wx).mono (R' := fun e w' => e = .returned (.bool true) ∧ wx = w') (fun e w' hh => ⟨by rw [hh.1, (inB_iff ..).2 (by omega)], hh.2⟩))
  clear h
  have HB := Lib.hid (ext_alloc w (.cells #[.int .i64 i, .int .i64 g, .int .i64 f] 23))
  go_enter Tryz.func53, Tryz.ntmps53
  go_wp2_with fail
  refine (H1.out _).mono ?_
  rintro e1 w1 ⟨rfl, rfl⟩
  go_wp2_with fail
  refine (H2.out _).mono ?_
  rintro e2 w2 ⟨rfl, rfl⟩
  go_wp2_with fail
  refine (H3.out _).mono ?_
  rintro e3 w3 ⟨rfl, rfl⟩
  go_wp2_with fail
  go_ret
  exact ⟨rfl, HB.out⟩

set_option maxHeartbeats 1600000 in
set_option maxRecDepth 100000 in
theorem check_no1 (i g f : Int) (w : World) (h : ¬ (1 ≤ i ∧ i ≤ 999999)) :
    Calls Tryz.prog 53 #[.agg #[.int .i64 i, .int .i64 g, .int .i64 f]] w fun e w' => e = .returned (.int .i64 210) ∧ Below w.heap.size w w' := by
  have mixed : Tryz.prog.follows .mixedOrders = true := by kernel_rfl
  have H1 := Lib.hid (fun (wx : World) => (within_any i 1 999999 wx).mono (R' := fun e w' => e = .returned (.bool false) ∧ wx = w') (fun e w' hh => ⟨by rw [hh.1, inB_no (by omega)], hh.2⟩))
  clear h
  have HB := Lib.hid (ext_alloc w (.cells #[.int .i64 i, .int .i64 g, .int .i64 f] 23))
  go_enter Tryz.func53, Tryz.ntmps53
  go_wp2_with fail
  refine (H1.out _).mono ?_
  rintro e1 w1 ⟨rfl, rfl⟩
  go_wp2_with fail
  go_ret
  exact ⟨rfl, HB.out⟩

set_option maxHeartbeats 1600000 in
set_option maxRecDepth 100000 in
theorem check_no2 (i g f : Int) (w : World) (h1 : 1 ≤ i ∧ i ≤ 999999) (h : ¬ (1 ≤ g ∧ g ≤ 999999)) :
    Calls Tryz.prog 53 #[.agg #[.int .i64 i, .int .i64 g, .int .i64 f]] w fun e w' => e = .returned (.int .i64 210) ∧ Below w.heap.size w w' := by
  have mixed : Tryz.prog.follows .mixedOrders = true := by kernel_rfl
  have H1 := Lib.hid (fun (wx : World) => (within_any i 1 999999 wx).mono (R' := fun e w' => e = .returned (.bool true) ∧ wx = w') (fun e w' hh => ⟨by rw [hh.1, (inB_iff ..).2 (by omega)], hh.2⟩))
  have H2 := Lib.hid (fun (wx : World) => (within_any g 1 999999 wx).mono (R' := fun e w' => e = .returned (.bool false) ∧ wx = w') (fun e w' hh => ⟨by rw [hh.1, inB_no (by omega)], hh.2⟩))
  clear h h1
  have HB := Lib.hid (ext_alloc w (.cells #[.int .i64 i, .int .i64 g, .int .i64 f] 23))
  go_enter Tryz.func53, Tryz.ntmps53
  go_wp2_with fail
  refine (H1.out _).mono ?_
  rintro e1 w1 ⟨rfl, rfl⟩
  go_wp2_with fail
  refine (H2.out _).mono ?_
  rintro e2 w2 ⟨rfl, rfl⟩
  go_wp2_with fail
  go_ret
  exact ⟨rfl, HB.out⟩

set_option maxHeartbeats 1600000 in
set_option maxRecDepth 100000 in
theorem check_no3 (i g f : Int) (w : World) (h1 : 1 ≤ i ∧ i ≤ 999999) (h2 : 1 ≤ g ∧ g ≤ 999999) (h : ¬ (1 ≤ f ∧ f ≤ 1000000000)) :
    Calls Tryz.prog 53 #[.agg #[.int .i64 i, .int .i64 g, .int .i64 f]] w fun e w' => e = .returned (.int .i64 210) ∧ Below w.heap.size w w' := by
  have mixed : Tryz.prog.follows .mixedOrders = true := by kernel_rfl
  have H1 := Lib.hid (fun (wx : World) => (within_any i 1 999999 wx).mono (R' := fun e w' => e = .returned (.bool true) ∧ wx = w') (fun e w' hh => ⟨by rw [hh.1, (inB_iff ..).2 (by omega)], hh.2⟩))
  have H2 := Lib.hid (fun (wx : World) => (within_any g 1 999999 wx).mono (R' := fun e w' => e = .returned (.bool true) ∧ wx = w') (fun e w' hh => ⟨by rw [hh.1, (inB_iff ..).2 (by omega)], hh.2⟩))
  have H3 := Lib.hid (fun (wx : World) => (within_any f 1 1000000000 wx).mono (R' := fun e w' => e = .returned (.bool false) ∧ wx = w') (fun e w' hh => ⟨by rw [hh.1, inB_no (by omega)], hh.2⟩))
  clear h h1 h2
  have HB := Lib.hid (ext_alloc w (.cells #[.int .i64 i, .int .i64 g, .int .i64 f] 23))
  go_enter Tryz.func53, Tryz.ntmps53
  go_wp2_with fail
  refine (H1.out _).mono ?_
  rintro e1 w1 ⟨rfl, rfl⟩
  go_wp2_with fail
  refine (H2.out _).mono ?_
  rintro e2 w2 ⟨rfl, rfl⟩
  go_wp2_with fail
  refine (H3.out _).mono ?_
  rintro e3 w3 ⟨rfl, rfl⟩
  go_wp2_with fail
  go_ret
  exact ⟨rfl, HB.out⟩

theorem check_any (i g f : Int) (w : World) :
    Calls Tryz.prog 53 #[.agg #[.int .i64 i, .int .i64 g, .int .i64 f]] w fun e w' => e = .returned (.int .i64 (if okH i g f = true then 0 else 210)) ∧ Below w.heap.size w w' := by
  have hk : okH i g f = true ↔ 1 ≤ i ∧ i ≤ 999999 ∧ 1 ≤ g ∧ g ≤ 999999 ∧ 1 ≤ f ∧ f ≤ 1000000000 := by simp [okH]
  by_cases h : okH i g f = true
  · rw [if_pos h]
    exact check_yes i g f w (hk.1 h)
  · rw [if_neg h]
    rw [hk] at h
    by_cases h1 : 1 ≤ i ∧ i ≤ 999999
    · by_cases h2 : 1 ≤ g ∧ g ≤ 999999
      · exact check_no3 i g f w h1 h2 (by omega)
      · exact check_no2 i g f w h1 h2
    · exact check_no1 i g f w h1
end Hd
end Go.Proofs.YtpbphhpldlckbaaGreat
namespace Go.Proofs.YtpbphhpldlckbaaGreat
namespace Hd
open Go.RowKit

/-- May a block be? -/
def aloneB (a s r c f e l : Int) : Bool := decide ((0 ≤ a ∧ a ≤ 1000000) ∧ (10 ≤ s ∧ s ≤ 60009) ∧ (1 ≤ r ∧ r ≤ 20000) ∧ (1 ≤ c ∧ c ≤ r) ∧ (1 ≤ f ∧ f ≤ 1000000001 - c) ∧ 0 ≤ e ∧ (e ≤ l ∧ l ≤ 1000000000))

set_option maxHeartbeats 3200000 in
set_option maxRecDepth 100000 in
theorem alone_no0 (a s r c f e l : Int) (w : World) (h0 : ¬ (0 ≤ a ∧ a ≤ 1000000)) :
    Calls Tryz.prog 37 #[.agg #[.int .i64 a, .int .i64 s, .int .i64 r, .int .i64 c, .int .i64 f, .int .i64 e, .int .i64 l]] w fun e' w' => e' = .returned (.bool false) ∧ Below w.heap.size w w' := by
  have mixed : Tryz.prog.follows .mixedOrders = true := by kernel_rfl
  have H0 := Lib.hid (fun (wx : World) => (within_any a 0 1000000 wx).mono (R' := fun e w' => e = .returned (.bool false) ∧ wx = w') (fun e w' hh => ⟨by rw [hh.1, inB_no (by omega)], hh.2⟩))
  have HB := Lib.hid (ext_alloc w (.cells #[.int .i64 a, .int .i64 s, .int .i64 r, .int .i64 c, .int .i64 f, .int .i64 e, .int .i64 l] 38))
  clear h0
  go_enter Tryz.func37, Tryz.ntmps37
  go_wp2_with fail
  refine (H0.out _).mono ?_
  rintro e0 w0 ⟨rfl, rfl⟩
  go_wp2_with fail
  go_ret
  exact ⟨rfl, HB.out⟩

set_option maxHeartbeats 3200000 in
set_option maxRecDepth 100000 in
theorem alone_no1 (a s r c f e l : Int) (w : World) (h0 : 0 ≤ a ∧ a ≤ 1000000) (h1 : ¬ (10 ≤ s ∧ s ≤ 60009)) :
    Calls Tryz.prog 37 #[.agg #[.int .i64 a, .int .i64 s, .int .i64 r, .int .i64 c, .int .i64 f, .int .i64 e, .int .i64 l]] w fun e' w' => e' = .returned (.bool false) ∧ Below w.heap.size w w' := by
  have mixed : Tryz.prog.follows .mixedOrders = true := by kernel_rfl
  have H0 := Lib.hid (fun (wx : World) => (within_any a 0 1000000 wx).mono (R' := fun e w' => e = .returned (.bool true) ∧ wx = w') (fun e w' hh => ⟨by rw [hh.1, (inB_iff ..).2 (by omega)], hh.2⟩))
  have H1 := Lib.hid (fun (wx : World) => (within_any s 10 60009 wx).mono (R' := fun e w' => e = .returned (.bool false) ∧ wx = w') (fun e w' hh => ⟨by rw [hh.1, inB_no (by omega)], hh.2⟩))
  have HB := Lib.hid (ext_alloc w (.cells #[.int .i64 a, .int .i64 s, .int .i64 r, .int .i64 c, .int .i64 f, .int .i64 e, .int .i64 l] 38))
  clear h0 h1
  go_enter Tryz.func37, Tryz.ntmps37
  go_wp2_with fail
  refine (H0.out _).mono ?_
  rintro e0 w0 ⟨rfl, rfl⟩
  go_wp2_with fail
  refine (H1.out _).mono ?_
  rintro e1 w1 ⟨rfl, rfl⟩
  go_wp2_with fail
  go_ret
  exact ⟨rfl, HB.out⟩

set_option maxHeartbeats 3200000 in
set_option maxRecDepth 100000 in
theorem alone_no2 (a s r c f e l : Int) (w : World) (h0 : 0 ≤ a ∧ a ≤ 1000000) (h1 : 10 ≤ s ∧ s ≤ 60009) (h2 : ¬ (1 ≤ r ∧ r ≤ 20000)) :
    Calls Tryz.prog 37 #[.agg #[.int .i64 a, .int .i64 s, .int .i64 r, .int .i64 c, .int .i64 f, .int .i64 e, .int .i64 l]] w fun e' w' => e' = .returned (.bool false) ∧ Below w.heap.size w w' := by
  have mixed : Tryz.prog.follows .mixedOrders = true := by kernel_rfl
  have H0 := Lib.hid (fun (wx : World) => (within_any a 0 1000000 wx).mono (R' := fun e w' => e = .returned (.bool true) ∧ wx = w') (fun e w' hh => ⟨by rw [hh.1, (inB_iff ..).2 (by omega)], hh.2⟩))
  have H1 := Lib.hid (fun (wx : World) => (within_any s 10 60009 wx).mono (R' := fun e w' => e = .returned (.bool true) ∧ wx = w') (fun e w' hh => ⟨by rw [hh.1, (inB_iff ..).2 (by omega)], hh.2⟩))
  have H2 := Lib.hid (fun (wx : World) => (within_any r 1 20000 wx).mono (R' := fun e w' => e = .returned (.bool false) ∧ wx = w') (fun e w' hh => ⟨by rw [hh.1, inB_no (by omega)], hh.2⟩))
  have HB := Lib.hid (ext_alloc w (.cells #[.int .i64 a, .int .i64 s, .int .i64 r, .int .i64 c, .int .i64 f, .int .i64 e, .int .i64 l] 38))
  clear h0 h1 h2
  go_enter Tryz.func37, Tryz.ntmps37
  go_wp2_with fail
  refine (H0.out _).mono ?_
  rintro e0 w0 ⟨rfl, rfl⟩
  go_wp2_with fail
  refine (H1.out _).mono ?_
  rintro e1 w1 ⟨rfl, rfl⟩
  go_wp2_with fail
  refine (H2.out _).mono ?_
  rintro e2 w2 ⟨rfl, rfl⟩
  go_wp2_with fail
  go_ret
  exact ⟨rfl, HB.out⟩

set_option maxHeartbeats 3200000 in
set_option maxRecDepth 100000 in
theorem alone_no3 (a s r c f e l : Int) (w : World) (h0 : 0 ≤ a ∧ a ≤ 1000000) (h1 : 10 ≤ s ∧ s ≤ 60009) (h2 : 1 ≤ r ∧ r ≤ 20000) (h3 : ¬ (1 ≤ c ∧ c ≤ r)) :
    Calls Tryz.prog 37 #[.agg #[.int .i64 a, .int .i64 s, .int .i64 r, .int .i64 c, .int .i64 f, .int .i64 e, .int .i64 l]] w fun e' w' => e' = .returned (.bool false) ∧ Below w.heap.size w w' := by
  have mixed : Tryz.prog.follows .mixedOrders = true := by kernel_rfl
  have H0 := Lib.hid (fun (wx : World) => (within_any a 0 1000000 wx).mono (R' := fun e w' => e = .returned (.bool true) ∧ wx = w') (fun e w' hh => ⟨by rw [hh.1, (inB_iff ..).2 (by omega)], hh.2⟩))
  have H1 := Lib.hid (fun (wx : World) => (within_any s 10 60009 wx).mono (R' := fun e w' => e = .returned (.bool true) ∧ wx = w') (fun e w' hh => ⟨by rw [hh.1, (inB_iff ..).2 (by omega)], hh.2⟩))
  have H2 := Lib.hid (fun (wx : World) => (within_any r 1 20000 wx).mono (R' := fun e w' => e = .returned (.bool true) ∧ wx = w') (fun e w' hh => ⟨by rw [hh.1, (inB_iff ..).2 (by omega)], hh.2⟩))
  have H3 := Lib.hid (fun (wx : World) => (within_any c 1 r wx).mono (R' := fun e w' => e = .returned (.bool false) ∧ wx = w') (fun e w' hh => ⟨by rw [hh.1, inB_no (by omega)], hh.2⟩))
  have HB := Lib.hid (ext_alloc w (.cells #[.int .i64 a, .int .i64 s, .int .i64 r, .int .i64 c, .int .i64 f, .int .i64 e, .int .i64 l] 38))
  clear h0 h1 h2 h3
  go_enter Tryz.func37, Tryz.ntmps37
  go_wp2_with fail
  refine (H0.out _).mono ?_
  rintro e0 w0 ⟨rfl, rfl⟩
  go_wp2_with fail
  refine (H1.out _).mono ?_
  rintro e1 w1 ⟨rfl, rfl⟩
  go_wp2_with fail
  refine (H2.out _).mono ?_
  rintro e2 w2 ⟨rfl, rfl⟩
  go_wp2_with fail
  refine (H3.out _).mono ?_
  rintro e3 w3 ⟨rfl, rfl⟩
  go_wp2_with fail
  go_ret
  exact ⟨rfl, HB.out⟩

set_option maxHeartbeats 3200000 in
set_option maxRecDepth 100000 in
theorem alone_no4 (a s r c f e l : Int) (w : World) (h0 : 0 ≤ a ∧ a ≤ 1000000) (h1 : 10 ≤ s ∧ s ≤ 60009) (h2 : 1 ≤ r ∧ r ≤ 20000) (h3 : 1 ≤ c ∧ c ≤ r) (h4 : ¬ (1 ≤ f ∧ f ≤ (1000000001 - c))) :
    Calls Tryz.prog 37 #[.agg #[.int .i64 a, .int .i64 s, .int .i64 r, .int .i64 c, .int .i64 f, .int .i64 e, .int .i64 l]] w fun e' w' => e' = .returned (.bool false) ∧ Below w.heap.size w w' := by
  have mixed : Tryz.prog.follows .mixedOrders = true := by kernel_rfl
  have H0 := Lib.hid (fun (wx : World) => (within_any a 0 1000000 wx).mono (R' := fun e w' => e = .returned (.bool true) ∧ wx = w') (fun e w' hh => ⟨by rw [hh.1, (inB_iff ..).2 (by omega)], hh.2⟩))
  have H1 := Lib.hid (fun (wx : World) => (within_any s 10 60009 wx).mono (R' := fun e w' => e = .returned (.bool true) ∧ wx = w') (fun e w' hh => ⟨by rw [hh.1, (inB_iff ..).2 (by omega)], hh.2⟩))
  have H2 := Lib.hid (fun (wx : World) => (within_any r 1 20000 wx).mono (R' := fun e w' => e = .returned (.bool true) ∧ wx = w') (fun e w' hh => ⟨by rw [hh.1, (inB_iff ..).2 (by omega)], hh.2⟩))
  have H3 := Lib.hid (fun (wx : World) => (within_any c 1 r wx).mono (R' := fun e w' => e = .returned (.bool true) ∧ wx = w') (fun e w' hh => ⟨by rw [hh.1, (inB_iff ..).2 (by omega)], hh.2⟩))
  have H4 := Lib.hid (fun (wx : World) => (within_any f 1 (1000000001 - c) wx).mono (R' := fun e w' => e = .returned (.bool false) ∧ wx = w') (fun e w' hh => ⟨by rw [hh.1, inB_no (by omega)], hh.2⟩))
  have q1 : IntKind.i64.wrap (1000000001 - c) = 1000000001 - c := by rw [IntKind.wrap_i64]; omega
  have HB := Lib.hid (ext_alloc w (.cells #[.int .i64 a, .int .i64 s, .int .i64 r, .int .i64 c, .int .i64 f, .int .i64 e, .int .i64 l] 38))
  clear h0 h1 h2 h3 h4
  go_enter Tryz.func37, Tryz.ntmps37
  go_wp2_with fail
  refine (H0.out _).mono ?_
  rintro e0 w0 ⟨rfl, rfl⟩
  go_wp2_with fail
  refine (H1.out _).mono ?_
  rintro e1 w1 ⟨rfl, rfl⟩
  go_wp2_with fail
  refine (H2.out _).mono ?_
  rintro e2 w2 ⟨rfl, rfl⟩
  go_wp2_with fail
  refine (H3.out _).mono ?_
  rintro e3 w3 ⟨rfl, rfl⟩
  go_wp2_with fail
  refine (H4.out _).mono ?_
  rintro e4 w4 ⟨rfl, rfl⟩
  go_wp2_with fail
  go_ret
  exact ⟨rfl, HB.out⟩

set_option maxHeartbeats 3200000 in
set_option maxRecDepth 100000 in
theorem alone_no5 (a s r c f e l : Int) (w : World) (h0 : 0 ≤ a ∧ a ≤ 1000000) (h1 : 10 ≤ s ∧ s ≤ 60009) (h2 : 1 ≤ r ∧ r ≤ 20000) (h3 : 1 ≤ c ∧ c ≤ r) (h4 : 1 ≤ f ∧ f ≤ (1000000001 - c)) (h5 : ¬ 0 ≤ e) :
    Calls Tryz.prog 37 #[.agg #[.int .i64 a, .int .i64 s, .int .i64 r, .int .i64 c, .int .i64 f, .int .i64 e, .int .i64 l]] w fun e' w' => e' = .returned (.bool false) ∧ Below w.heap.size w w' := by
  have mixed : Tryz.prog.follows .mixedOrders = true := by kernel_rfl
  have H0 := Lib.hid (fun (wx : World) => (within_any a 0 1000000 wx).mono (R' := fun e w' => e = .returned (.bool true) ∧ wx = w') (fun e w' hh => ⟨by rw [hh.1, (inB_iff ..).2 (by omega)], hh.2⟩))
  have H1 := Lib.hid (fun (wx : World) => (within_any s 10 60009 wx).mono (R' := fun e w' => e = .returned (.bool true) ∧ wx = w') (fun e w' hh => ⟨by rw [hh.1, (inB_iff ..).2 (by omega)], hh.2⟩))
  have H2 := Lib.hid (fun (wx : World) => (within_any r 1 20000 wx).mono (R' := fun e w' => e = .returned (.bool true) ∧ wx = w') (fun e w' hh => ⟨by rw [hh.1, (inB_iff ..).2 (by omega)], hh.2⟩))
  have H3 := Lib.hid (fun (wx : World) => (within_any c 1 r wx).mono (R' := fun e w' => e = .returned (.bool true) ∧ wx = w') (fun e w' hh => ⟨by rw [hh.1, (inB_iff ..).2 (by omega)], hh.2⟩))
  have H4 := Lib.hid (fun (wx : World) => (within_any f 1 (1000000001 - c) wx).mono (R' := fun e w' => e = .returned (.bool true) ∧ wx = w') (fun e w' hh => ⟨by rw [hh.1, (inB_iff ..).2 (by omega)], hh.2⟩))
  have q1 : IntKind.i64.wrap (1000000001 - c) = 1000000001 - c := by rw [IntKind.wrap_i64]; omega
  have HB := Lib.hid (ext_alloc w (.cells #[.int .i64 a, .int .i64 s, .int .i64 r, .int .i64 c, .int .i64 f, .int .i64 e, .int .i64 l] 38))
  clear h0 h1 h2 h3 h4
  go_enter Tryz.func37, Tryz.ntmps37
  go_wp2_with fail
  refine (H0.out _).mono ?_
  rintro e0 w0 ⟨rfl, rfl⟩
  go_wp2_with fail
  refine (H1.out _).mono ?_
  rintro e1 w1 ⟨rfl, rfl⟩
  go_wp2_with fail
  refine (H2.out _).mono ?_
  rintro e2 w2 ⟨rfl, rfl⟩
  go_wp2_with fail
  refine (H3.out _).mono ?_
  rintro e3 w3 ⟨rfl, rfl⟩
  go_wp2_with fail
  refine (H4.out _).mono ?_
  rintro e4 w4 ⟨rfl, rfl⟩
  go_wp2_with fail
  go_ret
  exact ⟨rfl, HB.out⟩

set_option maxHeartbeats 3200000 in
set_option maxRecDepth 100000 in
theorem alone_no6 (a s r c f e l : Int) (w : World) (h0 : 0 ≤ a ∧ a ≤ 1000000) (h1 : 10 ≤ s ∧ s ≤ 60009) (h2 : 1 ≤ r ∧ r ≤ 20000) (h3 : 1 ≤ c ∧ c ≤ r) (h4 : 1 ≤ f ∧ f ≤ (1000000001 - c)) (h5 : 0 ≤ e) (h6 : ¬ (e ≤ l ∧ l ≤ 1000000000)) :
    Calls Tryz.prog 37 #[.agg #[.int .i64 a, .int .i64 s, .int .i64 r, .int .i64 c, .int .i64 f, .int .i64 e, .int .i64 l]] w fun e' w' => e' = .returned (.bool false) ∧ Below w.heap.size w w' := by
  have mixed : Tryz.prog.follows .mixedOrders = true := by kernel_rfl
  have H0 := Lib.hid (fun (wx : World) => (within_any a 0 1000000 wx).mono (R' := fun e w' => e = .returned (.bool true) ∧ wx = w') (fun e w' hh => ⟨by rw [hh.1, (inB_iff ..).2 (by omega)], hh.2⟩))
  have H1 := Lib.hid (fun (wx : World) => (within_any s 10 60009 wx).mono (R' := fun e w' => e = .returned (.bool true) ∧ wx = w') (fun e w' hh => ⟨by rw [hh.1, (inB_iff ..).2 (by omega)], hh.2⟩))
  have H2 := Lib.hid (fun (wx : World) => (within_any r 1 20000 wx).mono (R' := fun e w' => e = .returned (.bool true) ∧ wx = w') (fun e w' hh => ⟨by rw [hh.1, (inB_iff ..).2 (by omega)], hh.2⟩))
  have H3 := Lib.hid (fun (wx : World) => (within_any c 1 r wx).mono (R' := fun e w' => e = .returned (.bool true) ∧ wx = w') (fun e w' hh => ⟨by rw [hh.1, (inB_iff ..).2 (by omega)], hh.2⟩))
  have H4 := Lib.hid (fun (wx : World) => (within_any f 1 (1000000001 - c) wx).mono (R' := fun e w' => e = .returned (.bool true) ∧ wx = w') (fun e w' hh => ⟨by rw [hh.1, (inB_iff ..).2 (by omega)], hh.2⟩))
  have H5 := Lib.hid (fun (wx : World) => (within_any l e 1000000000 wx).mono (R' := fun e w' => e = .returned (.bool false) ∧ wx = w') (fun e w' hh => ⟨by rw [hh.1, inB_no (by omega)], hh.2⟩))
  have q1 : IntKind.i64.wrap (1000000001 - c) = 1000000001 - c := by rw [IntKind.wrap_i64]; omega
  have HB := Lib.hid (ext_alloc w (.cells #[.int .i64 a, .int .i64 s, .int .i64 r, .int .i64 c, .int .i64 f, .int .i64 e, .int .i64 l] 38))
  clear h0 h1 h2 h3 h4 h6
  go_enter Tryz.func37, Tryz.ntmps37
  go_wp2_with fail
  refine (H0.out _).mono ?_
  rintro e0 w0 ⟨rfl, rfl⟩
  go_wp2_with fail
  refine (H1.out _).mono ?_
  rintro e1 w1 ⟨rfl, rfl⟩
  go_wp2_with fail
  refine (H2.out _).mono ?_
  rintro e2 w2 ⟨rfl, rfl⟩
  go_wp2_with fail
  refine (H3.out _).mono ?_
  rintro e3 w3 ⟨rfl, rfl⟩
  go_wp2_with fail
  refine (H4.out _).mono ?_
  rintro e4 w4 ⟨rfl, rfl⟩
  go_wp2_with fail
  refine (H5.out _).mono ?_
  rintro e5 w5 ⟨rfl, rfl⟩
  go_wp2_with fail
  go_ret
  exact ⟨rfl, HB.out⟩

set_option maxHeartbeats 3200000 in
set_option maxRecDepth 100000 in
theorem alone_yes (a s r c f e l : Int) (w : World) (h0 : 0 ≤ a ∧ a ≤ 1000000) (h1 : 10 ≤ s ∧ s ≤ 60009) (h2 : 1 ≤ r ∧ r ≤ 20000) (h3 : 1 ≤ c ∧ c ≤ r) (h4 : 1 ≤ f ∧ f ≤ (1000000001 - c)) (h5 : 0 ≤ e) (h6 : e ≤ l ∧ l ≤ 1000000000) :
    Calls Tryz.prog 37 #[.agg #[.int .i64 a, .int .i64 s, .int .i64 r, .int .i64 c, .int .i64 f, .int .i64 e, .int .i64 l]] w fun e' w' => e' = .returned (.bool true) ∧ Below w.heap.size w w' := by
  have mixed : Tryz.prog.follows .mixedOrders = true := by kernel_rfl
  have H0 := Lib.hid (fun (wx : World) => (within_any a 0 1000000 wx).mono (R' := fun e w' => e = .returned (.bool true) ∧ wx = w') (fun e w' hh => ⟨by rw [hh.1, (inB_iff ..).2 (by omega)], hh.2⟩))
  have H1 := Lib.hid (fun (wx : World) => (within_any s 10 60009 wx).mono (R' := fun e w' => e = .returned (.bool true) ∧ wx = w') (fun e w' hh => ⟨by rw [hh.1, (inB_iff ..).2 (by omega)], hh.2⟩))
  have H2 := Lib.hid (fun (wx : World) => (within_any r 1 20000 wx).mono (R' := fun e w' => e = .returned (.bool true) ∧ wx = w') (fun e w' hh => ⟨by rw [hh.1, (inB_iff ..).2 (by omega)], hh.2⟩))
  have H3 := Lib.hid (fun (wx : World) => (within_any c 1 r wx).mono (R' := fun e w' => e = .returned (.bool true) ∧ wx = w') (fun e w' hh => ⟨by rw [hh.1, (inB_iff ..).2 (by omega)], hh.2⟩))
  have H4 := Lib.hid (fun (wx : World) => (within_any f 1 (1000000001 - c) wx).mono (R' := fun e w' => e = .returned (.bool true) ∧ wx = w') (fun e w' hh => ⟨by rw [hh.1, (inB_iff ..).2 (by omega)], hh.2⟩))
  have H5 := Lib.hid (fun (wx : World) => (within_any l e 1000000000 wx).mono (R' := fun e w' => e = .returned (.bool true) ∧ wx = w') (fun e w' hh => ⟨by rw [hh.1, (inB_iff ..).2 (by omega)], hh.2⟩))
  have q1 : IntKind.i64.wrap (1000000001 - c) = 1000000001 - c := by rw [IntKind.wrap_i64]; omega
  have HB := Lib.hid (ext_alloc w (.cells #[.int .i64 a, .int .i64 s, .int .i64 r, .int .i64 c, .int .i64 f, .int .i64 e, .int .i64 l] 38))
  clear h0 h1 h2 h3 h4 h6
  go_enter Tryz.func37, Tryz.ntmps37
  go_wp2_with fail
  refine (H0.out _).mono ?_
  rintro e0 w0 ⟨rfl, rfl⟩
  go_wp2_with fail
  refine (H1.out _).mono ?_
  rintro e1 w1 ⟨rfl, rfl⟩
  go_wp2_with fail
  refine (H2.out _).mono ?_
  rintro e2 w2 ⟨rfl, rfl⟩
  go_wp2_with fail
  refine (H3.out _).mono ?_
  rintro e3 w3 ⟨rfl, rfl⟩
  go_wp2_with fail
  refine (H4.out _).mono ?_
  rintro e4 w4 ⟨rfl, rfl⟩
  go_wp2_with fail
  refine (H5.out _).mono ?_
  rintro e5 w5 ⟨rfl, rfl⟩
  go_wp2_with fail
  go_ret
  exact ⟨rfl, HB.out⟩

theorem alone_any (a s r c f e l : Int) (w : World) :
    Calls Tryz.prog 37 #[.agg #[.int .i64 a, .int .i64 s, .int .i64 r, .int .i64 c, .int .i64 f, .int .i64 e, .int .i64 l]] w fun e' w' => e' = .returned (.bool (aloneB a s r c f e l)) ∧ Below w.heap.size w w' := by
  by_cases h0 : 0 ≤ a ∧ a ≤ 1000000
  · by_cases h1 : 10 ≤ s ∧ s ≤ 60009
    · by_cases h2 : 1 ≤ r ∧ r ≤ 20000
      · by_cases h3 : 1 ≤ c ∧ c ≤ r
        · by_cases h4 : 1 ≤ f ∧ f ≤ 1000000001 - c
          · by_cases h5 : 0 ≤ e
            · by_cases h6 : e ≤ l ∧ l ≤ 1000000000
              · rw [show aloneB a s r c f e l = true from decide_eq_true ⟨h0, h1, h2, h3, h4, h5, h6⟩]
                exact alone_yes a s r c f e l w h0 h1 h2 h3 h4 h5 h6
              · rw [show aloneB a s r c f e l = false from decide_eq_false (fun h => h6 h.2.2.2.2.2.2)]
                exact alone_no6 a s r c f e l w h0 h1 h2 h3 h4 h5 h6
            · rw [show aloneB a s r c f e l = false from decide_eq_false (fun h => h5 h.2.2.2.2.2.1)]
              exact alone_no5 a s r c f e l w h0 h1 h2 h3 h4 h5
          · rw [show aloneB a s r c f e l = false from decide_eq_false (fun h => h4 h.2.2.2.2.1)]
            exact alone_no4 a s r c f e l w h0 h1 h2 h3 h4
        · rw [show aloneB a s r c f e l = false from decide_eq_false (fun h => h3 h.2.2.2.1)]
          exact alone_no3 a s r c f e l w h0 h1 h2 h3
      · rw [show aloneB a s r c f e l = false from decide_eq_false (fun h => h2 h.2.2.1)]
        exact alone_no2 a s r c f e l w h0 h1 h2
    · rw [show aloneB a s r c f e l = false from decide_eq_false (fun h => h1 h.2.1)]
      exact alone_no1 a s r c f e l w h0 h1
  · rw [show aloneB a s r c f e l = false from decide_eq_false (fun h => h0 h.1)]
    exact alone_no0 a s r c f e l w h0
end Hd
end Go.Proofs.YtpbphhpldlckbaaGreat
namespace Go.Proofs.YtpbphhpldlckbaaGreat
namespace Bk
open Go.RowKit

/-- What is known of a block as a value. -/
def magg (at_ size raw count first early late : Int) : Value := .agg #[.int .i64 at_, .int .i64 size, .int .i64 raw, .int .i64 count, .int .i64 first, .int .i64 early, .int .i64 late]
/-- It lies at block b. -/
def Mb (w : World) (b : Nat) (at_ size raw count first early late : Int) : Prop :=
  w.heap[b]? = some (.cells #[.int .i64 at_, .int .i64 size, .int .i64 raw, .int .i64 count, .int .i64 first, .int .i64 early, .int .i64 late] 38 (0, 0))
section
variable {w w' : World} {b : Nat} {at_ size raw count first early late : Int} (h : Mb w b at_ size raw count first early late)
include h
theorem Mb.lt : b < w.heap.size := (Array.getElem?_eq_some_iff.1 h).1
theorem Mb.c0 : w.cell? ⟨b, 0, none⟩ = some (.int .i64 at_) := by rw [cell_of_row w b 0 _ _ (0, 0) h]; rfl
theorem Mb.c1 : w.cell? ⟨b, 1, none⟩ = some (.int .i64 size) := by rw [cell_of_row w b 1 _ _ (0, 0) h]; rfl
theorem Mb.c2 : w.cell? ⟨b, 2, none⟩ = some (.int .i64 raw) := by rw [cell_of_row w b 2 _ _ (0, 0) h]; rfl
theorem Mb.c3 : w.cell? ⟨b, 3, none⟩ = some (.int .i64 count) := by rw [cell_of_row w b 3 _ _ (0, 0) h]; rfl
theorem Mb.c4 : w.cell? ⟨b, 4, none⟩ = some (.int .i64 first) := by rw [cell_of_row w b 4 _ _ (0, 0) h]; rfl
theorem Mb.c5 : w.cell? ⟨b, 5, none⟩ = some (.int .i64 early) := by rw [cell_of_row w b 5 _ _ (0, 0) h]; rfl
theorem Mb.c6 : w.cell? ⟨b, 6, none⟩ = some (.int .i64 late) := by rw [cell_of_row w b 6 _ _ (0, 0) h]; rfl
theorem Mb.fz (j : Nat) : w.frozen? ⟨b, j, none⟩ = false := frozen_of_row w b j _ _ h
theorem Mb.below {B : Nat} (hk : Below B w w') (hb : b < B) : Mb w' b at_ size raw count first early late := (hk.block b hb).trans h
theorem Mb.set0 (x : Int) : Mb (w.setCell ⟨b, 0, none⟩ (.int .i64 x)) b x size raw count first early late := by
  unfold Mb at *; simp [World.setCell, Array.getElem?_modify, h]
theorem Mb.set1 (x : Int) : Mb (w.setCell ⟨b, 1, none⟩ (.int .i64 x)) b at_ x raw count first early late := by
  unfold Mb at *; simp [World.setCell, Array.getElem?_modify, h]
theorem Mb.set2 (x : Int) : Mb (w.setCell ⟨b, 2, none⟩ (.int .i64 x)) b at_ size x count first early late := by
  unfold Mb at *; simp [World.setCell, Array.getElem?_modify, h]
theorem Mb.set3 (x : Int) : Mb (w.setCell ⟨b, 3, none⟩ (.int .i64 x)) b at_ size raw x first early late := by
  unfold Mb at *; simp [World.setCell, Array.getElem?_modify, h]
theorem Mb.set4 (x : Int) : Mb (w.setCell ⟨b, 4, none⟩ (.int .i64 x)) b at_ size raw count x early late := by
  unfold Mb at *; simp [World.setCell, Array.getElem?_modify, h]
theorem Mb.set5 (x : Int) : Mb (w.setCell ⟨b, 5, none⟩ (.int .i64 x)) b at_ size raw count first x late := by
  unfold Mb at *; simp [World.setCell, Array.getElem?_modify, h]
theorem Mb.set6 (x : Int) : Mb (w.setCell ⟨b, 6, none⟩ (.int .i64 x)) b at_ size raw count first early x := by
  unfold Mb at *; simp [World.setCell, Array.getElem?_modify, h]
/-- It is written whole. -/
theorem Mb.fill (a s r c f e l : Int) :
    Mb (((((((w.setCell ⟨b, 0, none⟩ (.int .i64 a)).setCell ⟨b, 1, none⟩ (.int .i64 s)).setCell ⟨b, 2, none⟩ (.int .i64 r)).setCell ⟨b, 3, none⟩ (.int .i64 c)).setCell ⟨b, 4, none⟩ (.int .i64 f)).setCell ⟨b, 5, none⟩ (.int .i64 e)).setCell ⟨b, 6, none⟩ (.int .i64 l)) b a s r c f e l :=
  ((((((h.set0 a).set1 s).set2 r).set3 c).set4 f).set5 e).set6 l
end
theorem Mb.new (w : World) : Mb (w.alloc (.cells #[.int .i64 0, .int .i64 0, .int .i64 0, .int .i64 0, .int .i64 0, .int .i64 0, .int .i64 0] 38)) w.heap.size 0 0 0 0 0 0 0 := heap_alloc_new w _
theorem below_put {w w' : World} {b B : Nat} (h : Below B w w') (hb : B ≤ b) (k : Nat) (v : Value) : Below B w (w'.setCell ⟨b, k, none⟩ v) := h.setCell (p := ⟨b, k, none⟩) hb v
theorem below_fill7 {w w' : World} {b B : Nat} {v0 v1 v2 v3 v4 v5 v6 : Value} (h : Below B w w') (hb : B ≤ b) : Below B w (((((((w'.setCell ⟨b, 0, none⟩ v0).setCell ⟨b, 1, none⟩ v1).setCell ⟨b, 2, none⟩ v2).setCell ⟨b, 3, none⟩ v3).setCell ⟨b, 4, none⟩ v4).setCell ⟨b, 5, none⟩ v5).setCell ⟨b, 6, none⟩ v6) :=
  below_put (below_put (below_put (below_put (below_put (below_put (below_put h hb 0 v0) hb 1 v1) hb 2 v2) hb 3 v3) hb 4 v4) hb 5 v5) hb 6 v6

end Bk
end Go.Proofs.YtpbphhpldlckbaaGreat
namespace Go.Proofs.YtpbphhpldlckbaaGreat
namespace Sn
open Go.RowKit Hd Bk

/-- What is known of a block. -/
structure Mt where
  a : Nat
  s : Nat
  r : Nat
  c : Nat
  f : Nat
  e : Nat
  l : Nat
def cl7 (m : Mt) : List Value := [.int .i64 (m.a : Int), .int .i64 (m.s : Int), .int .i64 (m.r : Int), .int .i64 (m.c : Int), .int .i64 (m.f : Int), .int .i64 (m.e : Int), .int .i64 (m.l : Int)]
def mv (m : Mt) : Value := magg m.a m.s m.r m.c m.f m.e m.l
def okM (m : Mt) : Bool := aloneB m.a m.s m.r m.c m.f m.e m.l
theorem okM_iff (m : Mt) : okM m = true ↔ m.a ≤ 1000000 ∧ 10 ≤ m.s ∧ m.s ≤ 60009 ∧ 1 ≤ m.r ∧ m.r ≤ 20000 ∧ 1 ≤ m.c ∧ m.c ≤ m.r ∧ 1 ≤ m.f ∧ m.f + m.c ≤ 1000000001 ∧ m.e ≤ m.l ∧ m.l ≤ 1000000000 := by
  unfold okM aloneB
  rw [decide_eq_true_eq]
  omega
def folB (p m : Mt) : Bool := decide (m.a = p.a + p.s ∧ m.f = p.f + p.c ∧ p.l ≤ m.e)
theorem folB_iff (p m : Mt) : folB p m = true ↔ m.a = p.a + p.s ∧ m.f = p.f + p.c ∧ p.l ≤ m.e := by unfold folB; rw [decide_eq_true_eq]
/-- Are blocks a row, behind one? -/
def rowM : Option Mt → List Mt → Bool
  | _, [] => true
  | none, m :: l => okM m && rowM (some m) l
  | some p, m :: l => okM m && folB p m && rowM (some m) l
def okBl (l : List Mt) : Bool := decide (l.length ≤ 1000) && rowM none l
theorem rowM_snoc : ∀ (l : List Mt) (p : Option Mt) (m : Mt), rowM p l = true → okM m = true → (∀ q, (match l.getLast? with | none => p | some x => some x) = some q → folB q m = true) → rowM p (l ++ [m]) = true
  | [], none, m, _, ho, _ => by simp [rowM, ho]
  | [], some p, m, _, ho, hf => by simp [rowM, ho, hf p rfl]
  | x :: l, p, m, h, ho, hf => by
    have hx : rowM (some x) l = true ∧ ∀ l', rowM (some x) l' = true → rowM p (x :: l') = true := by
      rcases p with _ | p
      · simp only [rowM, Bool.and_eq_true] at h ⊢
        exact ⟨h.2, fun l' hl => ⟨h.1, hl⟩⟩
      · simp only [rowM, Bool.and_eq_true] at h ⊢
        exact ⟨h.2, fun l' hl => ⟨h.1, hl⟩⟩
    rw [List.cons_append]
    refine hx.2 _ (rowM_snoc l (some x) m hx.1 ho fun q hq => hf q ?_)
    rw [List.getLast?_cons]
    rcases hl : l.getLast? with _ | y
    · rw [hl] at hq; exact hq
    · rw [hl] at hq; exact hq
theorem rowM_cons {p : Option Mt} {m : Mt} {l : List Mt} (h : rowM p (m :: l) = true) : okM m = true ∧ rowM (some m) l = true := by
  rcases p with _ | p <;> simp only [rowM, Bool.and_eq_true] at h
  · exact h
  · exact ⟨h.1.1, h.2⟩
theorem rowM_mem : ∀ (l : List Mt) (p : Option Mt), rowM p l = true → ∀ m ∈ l, okM m = true
  | [], _, _, m, h => by cases h
  | x :: l, p, h, m, hm => by
    rcases List.mem_cons.1 hm with rfl | hm
    · exact (rowM_cons h).1
    · exact rowM_mem l (some x) (rowM_cons h).2 m hm
theorem okBl_row {l : List Mt} (h : okBl l = true) : l.length ≤ 1000 ∧ rowM none l = true := by
  unfold okBl at h
  rw [Bool.and_eq_true, decide_eq_true_eq] at h
  exact h
/-- The number that comes next; the last time. -/
def nextM (h1 : Nat) (l : List Mt) : Nat := match l.getLast? with | none => h1 | some m => m.f + m.c
def lateM (l : List Mt) : Nat := match l.getLast? with | none => 0 | some m => m.l
theorem nextM_snoc (h1 : Nat) (l : List Mt) (m : Mt) : nextM h1 (l ++ [m]) = m.f + m.c := by unfold nextM; rw [List.getLast?_append]; rfl
theorem lateM_snoc (l : List Mt) (m : Mt) : lateM (l ++ [m]) = m.l := by unfold lateM; rw [List.getLast?_append]; rfl
def fl7 (l : List Mt) : List Value := l.flatMap cl7
theorem fl7_cons (m : Mt) (l : List Mt) : fl7 (m :: l) = .int .i64 (m.a : Int) :: .int .i64 (m.s : Int) :: .int .i64 (m.r : Int) :: .int .i64 (m.c : Int) :: .int .i64 (m.f : Int) :: .int .i64 (m.e : Int) :: .int .i64 (m.l : Int) :: fl7 l := rfl
theorem length_fl7 (l : List Mt) : (fl7 l).length = l.length * 7 := by
  induction l with
  | nil => rfl
  | cons x l ih => rw [fl7_cons]; simp only [List.length_cons, ih]; omega
theorem fl7_append (a b : List Mt) : fl7 (a ++ b) = fl7 a ++ fl7 b := List.flatMap_append ..
theorem fl7_at : ∀ (l : List Mt) (k : Nat) (x : Mt), l[k]? = some x → ∀ j, j < 7 → (fl7 l)[k * 7 + j]? = (cl7 x)[j]?
  | [], k, x, h, _, _ => by simp at h
  | y :: l, 0, x, h, j, hj => by
    simp only [List.getElem?_cons_zero, Option.some.injEq] at h
    subst h
    show (cl7 y ++ fl7 l)[0 * 7 + j]? = _
    rw [Nat.zero_mul, Nat.zero_add, List.getElem?_append_left (by simpa [cl7] using hj)]
  | y :: l, k + 1, x, h, j, hj => by
    have := fl7_at l k x (by simpa using h) j hj
    show (cl7 y ++ fl7 l)[(k + 1) * 7 + j]? = _
    rw [List.getElem?_append_right (by simp [cl7]; omega), ← this]
    congr 1
    simp [cl7]; omega
theorem fl7_one (l : List Mt) : ∀ u ∈ fl7 l, u.oneCell' = true := by
  intro u hu
  unfold fl7 at hu
  rw [List.mem_flatMap] at hu
  obtain ⟨m, -, hm⟩ := hu
  simp only [cl7, List.mem_cons, List.not_mem_nil, or_false] at hm
  rcases hm with rfl | rfl | rfl | rfl | rfl | rfl | rfl <;> rfl
/-- A slice that reads as blocks: one of them. -/
theorem mt_at {w : World} {B n k : Nat} {A : Option Addr} {l : List Mt} (h : Rd w B 7 A n (fl7 l)) (hk : k < n) :
    ∃ ad m, A = some ad ∧ ad.block < B ∧ l[k]? = some m ∧ w.cell? (ad.add (k * 7)) = some (.int .i64 (m.a : Int)) ∧
      w.cell? ⟨(ad.add (k * 7)).block, (ad.add (k * 7)).off + 1, none⟩ = some (.int .i64 (m.s : Int)) ∧ w.cell? ⟨(ad.add (k * 7)).block, (ad.add (k * 7)).off + 2, none⟩ = some (.int .i64 (m.r : Int)) ∧
      w.cell? ⟨(ad.add (k * 7)).block, (ad.add (k * 7)).off + 3, none⟩ = some (.int .i64 (m.c : Int)) ∧ w.cell? ⟨(ad.add (k * 7)).block, (ad.add (k * 7)).off + 4, none⟩ = some (.int .i64 (m.f : Int)) ∧
      w.cell? ⟨(ad.add (k * 7)).block, (ad.add (k * 7)).off + 5, none⟩ = some (.int .i64 (m.e : Int)) ∧ w.cell? ⟨(ad.add (k * 7)).block, (ad.add (k * 7)).off + 6, none⟩ = some (.int .i64 (m.l : Int)) := by
  obtain ⟨ad, e, hb, hc⟩ := h.cells (by omega)
  have hl : l.length = n := by have := h.len; rw [length_fl7] at this; omega
  have hx : l[k]? = some (l[k]'(by omega)) := List.getElem?_eq_getElem (by omega)
  have hf := fl7_at l k _ hx
  have hg : ∀ j v, j < 7 → (cl7 (l[k]'(by omega)))[j]? = some v → w.cell? (ad.add (k * 7 + j)) = some v := fun j v hj hv => hc _ _ ((hf j hj).trans hv)
  have ha : ∀ j, ad.add (k * 7 + (j + 1)) = ⟨(ad.add (k * 7)).block, (ad.add (k * 7)).off + (j + 1), none⟩ := fun j => by rw [← add_add]; rfl
  refine ⟨ad, _, e, hb, hx, hg 0 _ (by omega) rfl, ?_, ?_, ?_, ?_, ?_, ?_⟩
  · rw [← ha]; exact hg 1 _ (by omega) rfl
  · rw [← ha]; exact hg 2 _ (by omega) rfl
  · rw [← ha]; exact hg 3 _ (by omega) rfl
  · rw [← ha]; exact hg 4 _ (by omega) rfl
  · rw [← ha]; exact hg 5 _ (by omega) rfl
  · rw [← ha]; exact hg 6 _ (by omega) rfl
theorem mt_len {w : World} {B n : Nat} {A : Option Addr} {l : List Mt} (h : Rd w B 7 A n (fl7 l)) : l.length = n := by
  have := h.len; rw [length_fl7] at this; omega
end Sn
end Go.Proofs.YtpbphhpldlckbaaGreat
namespace Go.Proofs.YtpbphhpldlckbaaGreat
namespace Bk
open Go.RowKit

/-- A range as a value. -/
def rg (lo hi : Int) : Value := .agg #[.int .i64 lo, .int .i64 hi]
set_option maxHeartbeats 6400000 in
set_option maxRecDepth 100000 in
theorem seqs_at (a s : Int) (raw c first early late : Nat) (w : World) (h : first + c ≤ 1000000000) :
    Calls Tryz.prog 58 #[magg a s raw (c + 1 : Nat) first early late] w fun e w' => e = .returned (rg first (first + c : Nat)) ∧ Below w.heap.size w w' := by
  have mixed : Tryz.prog.follows .mixedOrders = true := by kernel_rfl
  have h1 : ¬ (((c + 1 : Nat) : Int) < 1) := by omega
  have h2 : IntKind.i64.wrap (((c + 1 : Nat) : Int) - 1) = (c : Int) := by rw [IntKind.wrap_i64]; omega
  have h3 : IntKind.i64.wrap (9223372036854775807 - (c : Int)) = 9223372036854775807 - (c : Int) := by rw [IntKind.wrap_i64]; omega
  have h4 : ¬ (9223372036854775807 - (c : Int) < (first : Int)) := by omega
  have h5 : IntKind.i64.wrap ((first : Int) + (c : Int)) = ((first + c : Nat) : Int) := by rw [IntKind.wrap_i64]; omega
  have HB := Lib.hid h
  clear h
  unfold magg rg
  generalize ((c + 1 : Nat) : Int) = C at *
  go_enter Tryz.func58, Tryz.ntmps58
  go_wp2_with fail
  refine bodyPost_ret (v := .agg #[.int .i64 first, .int .i64 ((first : Int) + c)]) (by simp [results, go_sem]) rfl ?_
  exact ⟨by simp, (ext_alloc w _).trans ((ext_alloc _ _).mono (by simp))⟩
theorem seqs_any (raw c first early late : Nat) (w : World) (h : first + c ≤ 1000000000) :
    Calls Tryz.prog 58 #[magg 0 0 raw (c + 1 : Nat) first early late] w fun e w' => e = .returned (rg first (first + c : Nat)) ∧ Below w.heap.size w w' := seqs_at 0 0 raw c first early late w h
/-- The ends of a range by value. -/
theorem run_lo (w : World) (x y : Int) : Sem.run Tryz.prog (Instr.field 115 (.agg #[.int .i64 x, .int .i64 y]) 0) w = .ok (.int .i64 x) w := by
  have hu := Tryz.underlying115
  have h3 := Tryz.underlying3
  simp [Instr.field, hu, h3, asAgg, part, isAgg, go_sem]
theorem run_hi (w : World) (x y : Int) : Sem.run Tryz.prog (Instr.field 115 (.agg #[.int .i64 x, .int .i64 y]) 1) w = .ok (.int .i64 y) w := by
  have hu := Tryz.underlying115
  have h3 := Tryz.underlying3
  simp [Instr.field, hu, h3, asAgg, part, isAgg, go_sem]
end Bk
end Go.Proofs.YtpbphhpldlckbaaGreat
namespace Go.Proofs.YtpbphhpldlckbaaGreat
open Go.RowKit

/-- A world that grew of w. -/
structure Bw (w : World) where
  to : World
  h : Below w.heap.size w to
instance (w : World) : Inhabited (Bw w) := ⟨⟨w, Below.refl _ _⟩⟩
theorem Bw.cell {w : World} (p : Bw w) {b k : Nat} {v : Value} (hb : b < w.heap.size) (h : w.cell? ⟨b, k, none⟩ = some v) : p.to.cell? ⟨b, k, none⟩ = some v := (p.h.cell (p := ⟨b, k, none⟩) hb).trans h
theorem Bw.cellAt {w : World} (p : Bw w) {a : Addr} {v : Value} (hb : a.block < w.heap.size) (h : w.cell? a = some v) : p.to.cell? a = some v := (p.h.cell hb).trans h
theorem wp_region_quiet_below {P : Program} {id : Nat} {Q : Exit → Act → World → Prop} {a : Act} {w : World} {l : List Oper} (hm : P.follows .mixedOrders = true) (hB : Region.lexB .any l.toArray = true)
    (h : wpQuiet P l.toArray (fun w' => ∃ p : Bw w, w' = p.to) (fun a' => ∀ w', (∃ p : Bw w, w' = p.to) → Q .normal a' w') l a) : (Code.region id l.toArray true).wp P Q a w :=
  wp_region_quiet (C := fun w' => ∃ p : Bw w, w' = p.to) hm hB ⟨⟨{ w with drawn := w.drawn + 1 }, ⟨rfl, rfl, rfl, Nat.le_refl _, fun _ _ => rfl⟩⟩, rfl⟩ (by simpa using h)
theorem below_of {P : Program} {f : FuncId} {args : Array Value} {w : World} {p : Bw w} {v : Value} (h : Calls P f args p.to fun e w' => e = .returned v ∧ Below p.to.heap.size p.to w') :
    Calls P f args p.to fun e w' => e = .returned v ∧ ∃ q : Bw w, w' = q.to :=
  h.mono fun _ w' ⟨he, hb⟩ => ⟨he, ⟨w', p.h.trans (hb.mono p.h.size)⟩, rfl⟩
theorem same_of {P : Program} {f : FuncId} {args : Array Value} {w : World} {p : Bw w} {v : Value} (h : Calls P f args p.to fun e w' => e = .returned v ∧ p.to = w') :
    Calls P f args p.to fun e w' => e = .returned v ∧ ∃ q : Bw w, w' = q.to :=
  h.mono fun _ _ ⟨he, hb⟩ => ⟨he, p, hb.symm⟩
end Go.Proofs.YtpbphhpldlckbaaGreat
namespace Go.Proofs.YtpbphhpldlckbaaGreat
namespace Sn
open Go.RowKit Hd Bk

theorem seqs_mt (m : Mt) (w : World) (h : okM m = true) : Calls Tryz.prog 58 #[mv m] w fun e w' => e = .returned (rg m.f (m.f + (m.c - 1) : Nat)) ∧ Below w.heap.size w w' := by
  rw [okM_iff] at h
  have := seqs_at m.a m.s m.r (m.c - 1) m.f m.e m.l w (by omega)
  unfold mv
  rwa [show m.c - 1 + 1 = m.c by omega] at this
set_option maxHeartbeats 3200000 in
set_option maxRecDepth 100000 in
theorem follows_any (p m : Mt) (w : World) (hp : okM p = true) (hm : okM m = true) :
    Calls Tryz.prog 38 #[mv p, mv m] w fun e w' => e = .returned (.bool (folB p m)) ∧ Below w.heap.size w w' := by
  have mixed : Tryz.prog.follows .mixedOrders = true := by kernel_rfl
  have HS := Lib.hid (fun w => seqs_mt p w hp)
  rw [okM_iff] at hp hm
  have hfol := folB_iff p m
  have HB := Lib.hid ((ext_alloc w (.cells #[.int .i64 p.a, .int .i64 p.s, .int .i64 p.r, .int .i64 p.c, .int .i64 p.f, .int .i64 p.e, .int .i64 p.l] 38)).trans ((ext_alloc _ (.cells #[.int .i64 m.a, .int .i64 m.s, .int .i64 m.r, .int .i64 m.c, .int .i64 m.f, .int .i64 m.e, .int .i64 m.l] 38)).mono (by simp)))
  have hp' : (p.f + (p.c - 1) + 1 : Nat) = p.f + p.c := by omega
  have M1 := Lib.hid (show Mb ((w.alloc (.cells #[.int .i64 p.a, .int .i64 p.s, .int .i64 p.r, .int .i64 p.c, .int .i64 p.f, .int .i64 p.e, .int .i64 p.l] 38)).alloc (.cells #[.int .i64 m.a, .int .i64 m.s, .int .i64 m.r, .int .i64 m.c, .int .i64 m.f, .int .i64 m.e, .int .i64 m.l] 38)) w.heap.size p.a p.s p.r p.c p.f p.e p.l from
    (Below.heap_alloc _ _ _ (by simp)).trans (heap_alloc_new w _))
  have M2 := Lib.hid (show Mb ((w.alloc (.cells #[.int .i64 p.a, .int .i64 p.s, .int .i64 p.r, .int .i64 p.c, .int .i64 p.f, .int .i64 p.e, .int .i64 p.l] 38)).alloc (.cells #[.int .i64 m.a, .int .i64 m.s, .int .i64 m.r, .int .i64 m.c, .int .i64 m.f, .int .i64 m.e, .int .i64 m.l] 38)) (w.heap.size + 1) m.a m.s m.r m.c m.f m.e m.l from by
    have hh := heap_alloc_new (w.alloc (.cells #[.int .i64 p.a, .int .i64 p.s, .int .i64 p.r, .int .i64 p.c, .int .i64 p.f, .int .i64 p.e, .int .i64 p.l] 38)) (.cells #[.int .i64 m.a, .int .i64 m.s, .int .i64 m.r, .int .i64 m.c, .int .i64 m.f, .int .i64 m.e, .int .i64 m.l] 38)
    rw [show (w.alloc (.cells #[.int .i64 p.a, .int .i64 p.s, .int .i64 p.r, .int .i64 p.c, .int .i64 p.f, .int .i64 p.e, .int .i64 p.l] 38)).heap.size = w.heap.size + 1 by simp] at hh
    exact hh)
  unfold mv magg
  generalize folB p m = r at *
  obtain ⟨pa, ps, pr, pc, pf, pe, pl⟩ := p
  obtain ⟨ma, ms, mr, mc, mf, me, ml⟩ := m
  unfold mv magg rg at HS
  dsimp only at *
  have HF := Lib.hid hfol
  have HP := Lib.hid hp'
  have HK := Lib.hid (And.intro hp hm)
  clear hfol hp'
  go_enter Tryz.func38, Tryz.ntmps38
  go_wp2_with fail
  generalize (w.alloc (.cells #[.int .i64 pa, .int .i64 ps, .int .i64 pr, .int .i64 pc, .int .i64 pf, .int .i64 pe, .int .i64 pl] 38)).alloc (.cells #[.int .i64 ma, .int .i64 ms, .int .i64 mr, .int .i64 mc, .int .i64 mf, .int .i64 me, .int .i64 ml] 38) = w2 at *
  have l1 := M1.out.lt
  have l2 := M2.out.lt
  have a0 : ∀ q : Bw w2, q.to.cell? ⟨w.heap.size, 0, none⟩ = some (.int .i64 pa) := fun q => q.cell l1 M1.out.c0
  have a1 : ∀ q : Bw w2, q.to.cell? ⟨w.heap.size, 1, none⟩ = some (.int .i64 ps) := fun q => q.cell l1 M1.out.c1
  have a2 : ∀ q : Bw w2, q.to.cell? ⟨w.heap.size, 2, none⟩ = some (.int .i64 pr) := fun q => q.cell l1 M1.out.c2
  have a3 : ∀ q : Bw w2, q.to.cell? ⟨w.heap.size, 3, none⟩ = some (.int .i64 pc) := fun q => q.cell l1 M1.out.c3
  have a4 : ∀ q : Bw w2, q.to.cell? ⟨w.heap.size, 4, none⟩ = some (.int .i64 pf) := fun q => q.cell l1 M1.out.c4
  have a5 : ∀ q : Bw w2, q.to.cell? ⟨w.heap.size, 5, none⟩ = some (.int .i64 pe) := fun q => q.cell l1 M1.out.c5
  have a6 : ∀ q : Bw w2, q.to.cell? ⟨w.heap.size, 6, none⟩ = some (.int .i64 pl) := fun q => q.cell l1 M1.out.c6
  have b0 : ∀ q : Bw w2, q.to.cell? ⟨w.heap.size + 1, 0, none⟩ = some (.int .i64 ma) := fun q => q.cell l2 M2.out.c0
  have b4 : ∀ q : Bw w2, q.to.cell? ⟨w.heap.size + 1, 4, none⟩ = some (.int .i64 mf) := fun q => q.cell l2 M2.out.c4
  have b5 : ∀ q : Bw w2, q.to.cell? ⟨w.heap.size + 1, 5, none⟩ = some (.int .i64 me) := fun q => q.cell l2 M2.out.c5
  have s1 : IntKind.i64.wrap ((pa : Int) + (ps : Int)) = (pa : Int) + ps := by rw [IntKind.wrap_i64]; omega
  obtain ⟨hi, hhi⟩ : ∃ hi : Int, ((pf + (pc - 1) : Nat) : Int) = hi := ⟨_, rfl⟩
  rw [hhi] at HS
  have s2 : IntKind.i64.wrap (hi + 1) = hi + 1 := by rw [IntKind.wrap_i64]; omega
  have hh2 : hi + 1 = pf + pc := by omega
  clear hhi hp hm
  have hff : ∀ q : Bw w2, Sem.run Tryz.prog (Instr.field 115 (.agg #[.int .i64 (pf : Int), .int .i64 hi]) 1) q.to = .ok (.int .i64 hi) q.to := fun q => run_hi q.to _ _
  by_cases h1 : ma = pa + ps
  · have t1 : ((ma : Int) == (pa : Int) + ps) = true := by rw [beq_iff_eq]; omega
    by_cases h2 : mf = pf + pc
    · have t2 : ((mf : Int) == hi + 1) = true := by rw [beq_iff_eq]; omega
      by_cases h3 : pl ≤ me
      · have HR := Lib.hid (show true = r from (HF.out.2 ⟨h1, h2, h3⟩).symm)
        have t3 : (pl : Int) ≤ (me : Int) := by omega
        clear h1 h2 h3 hh2
        refine wp_region_quiet_below (by assumption) (by kernel_rfl) ?_
        repeat (first | go_big_quiet_skip | quiet_step (first | (go_at_call 58; refine below_of (HS.out _))))
        refine wpQuiet_nil ?_
        intro _ hw'
        obtain ⟨q, rfl⟩ := hw'
        go_wp2_with fail
        go_ret
        exact ⟨by rw [← HR.out]; rfl, HB.out.trans (q.h.mono HB.out.size)⟩
      · have HR := Lib.hid (show false = r by rcases r with _ | _; rfl; exact absurd (HF.out.1 rfl).2.2 h3)
        have t3 : ¬ (pl : Int) ≤ (me : Int) := by omega
        clear h1 h2 h3 hh2
        refine wp_region_quiet_below (by assumption) (by kernel_rfl) ?_
        repeat (first | go_big_quiet_skip | quiet_step (first | (go_at_call 58; refine below_of (HS.out _))))
        refine wpQuiet_nil ?_
        intro _ hw'
        obtain ⟨q, rfl⟩ := hw'
        go_wp2_with fail
        go_ret
        exact ⟨by rw [← HR.out]; rfl, HB.out.trans (q.h.mono HB.out.size)⟩
    · have t2 : ((mf : Int) == hi + 1) = false := by rw [beq_eq_false_iff_ne]; omega
      have HR := Lib.hid (show false = r by rcases r with _ | _; rfl; exact absurd (HF.out.1 rfl).2.1 h2)
      clear h1 h2 hh2
      refine wp_region_quiet_below (by assumption) (by kernel_rfl) ?_
      repeat (first | go_big_quiet_skip | quiet_step (first | (go_at_call 58; refine below_of (HS.out _))))
      refine wpQuiet_nil ?_
      intro _ hw'
      obtain ⟨q, rfl⟩ := hw'
      go_wp2_with fail
      go_ret
      exact ⟨by rw [← HR.out]; rfl, HB.out.trans (q.h.mono HB.out.size)⟩
  · have t1 : ((ma : Int) == (pa : Int) + ps) = false := by rw [beq_eq_false_iff_ne]; omega
    have HR := Lib.hid (show false = r by rcases r with _ | _; rfl; exact absurd (HF.out.1 rfl).1 h1)
    clear h1 hh2
    refine wp_region_quiet_below (by assumption) (by kernel_rfl) ?_
    repeat (first | go_big_quiet_skip | quiet_step (fail))
    refine wpQuiet_nil ?_
    intro _ hw'
    obtain ⟨q, rfl⟩ := hw'
    go_wp2_with fail
    go_ret
    exact ⟨by rw [← HR.out]; rfl, HB.out.trans (q.h.mono HB.out.size)⟩
end Sn
end Go.Proofs.YtpbphhpldlckbaaGreat
namespace Go.Proofs.YtpbphhpldlckbaaGreat
namespace Sn
open Go.RowKit Hd Bk

/-- What head.Blocks tells. -/
def blE (l : List Mt) : Int := if okBl l = true then 0 else 211
theorem blE_yes {l : List Mt} (h : okBl l = true) : blE l = 0 := if_pos h
theorem blE_no {l : List Mt} (h : okBl l = false) : blE l = 211 := if_neg (by rw [h]; simp)
def pvM (l : List Mt) (k : Nat) : Option Mt := if k = 0 then none else l[k - 1]?
theorem rowM_bad {l : List Mt} {k : Nat} {m : Mt} (h : l[k]? = some m) (ho : okM m = false) : rowM (pvM l k) (l.drop k) = false := by
  rw [drop_at l k m h]
  rcases pvM l k with _ | p <;> simp [rowM, ho]
theorem rowM_off {l : List Mt} {k : Nat} {p m : Mt} (hp : l[k]? = some p) (h : l[k + 1]? = some m) (ho : folB p m = false) : rowM (pvM l (k + 1)) (l.drop (k + 1)) = false := by
  have e : pvM l (k + 1) = some p := by unfold pvM; rw [if_neg (by omega), Nat.add_sub_cancel, hp]
  rw [drop_at l (k + 1) m h, e]
  simp [rowM, ho]
theorem rowM_on {l : List Mt} {k : Nat} {p m : Mt} (hp : l[k]? = some p) (h : l[k + 1]? = some m) (h1 : okM m = true) (ho : folB p m = true) : rowM (pvM l (k + 1)) (l.drop (k + 1)) = rowM (pvM l (k + 2)) (l.drop (k + 2)) := by
  have e : pvM l (k + 1) = some p := by unfold pvM; rw [if_neg (by omega), Nat.add_sub_cancel, hp]
  have e2 : pvM l (k + 2) = some m := by unfold pvM; rw [if_neg (by omega), show k + 2 - 1 = k + 1 by omega, h]
  rw [drop_at l (k + 1) m h, e, e2]
  simp [rowM, ho, h1]
theorem rowM_on0 {l : List Mt} {m : Mt} (h : l[0]? = some m) (h1 : okM m = true) : rowM (pvM l 0) (l.drop 0) = rowM (pvM l 1) (l.drop 1) := by
  have e2 : pvM l 1 = some m := by unfold pvM; rw [if_neg (by omega)]; exact h
  rw [drop_at l 0 m h, e2]
  simp [pvM, rowM, h1]
theorem rowM_end {l : List Mt} {k : Nat} (h : l.length ≤ k) : rowM (pvM l k) (l.drop k) = true := by
  rw [List.drop_eq_nil_of_le h]
  rcases pvM l k with _ | p <;> rfl
theorem alone_mt (m : Mt) (w : World) {b : Bool} (h : okM m = b) : Calls Tryz.prog 37 #[mv m] w fun e w' => e = .returned (.bool b) ∧ Below w.heap.size w w' := by
  have := alone_any m.a m.s m.r m.c m.f m.e m.l w
  subst h
  exact this
theorem follows_mt (p m : Mt) (w : World) (hp : okM p = true) (hm : okM m = true) {b : Bool} (h : folB p m = b) :
    Calls Tryz.prog 38 #[mv p, mv m] w fun e w' => e = .returned (.bool b) ∧ Below w.heap.size w w' := by
  subst h
  exact follows_any p m w hp hm

set_option maxHeartbeats 6400000 in
set_option maxRecDepth 100000 in
theorem blocks_any (A : Option Addr) (n c : Nat) (l : List Mt) (w : World) (hrd : Rd w w.heap.size 7 A n (fl7 l)) (hn : n ≤ 1000000) :
    Calls Tryz.prog 20 #[.slice A n c] w fun e w' => e = .returned (.int .i64 (blE l)) ∧ Below w.heap.size w w' := by
  have mixed : Tryz.prog.follows .mixedOrders = true := by kernel_rfl
  have hln := mt_len hrd
  by_cases hbig : 1000 < n
  · have HE := Lib.hid (blE_no (l := l) (by unfold okBl; rw [hln, Bool.and_eq_false_iff]; left; exact decide_eq_false (by omega)))
    have hb' : (1000 : Int) < (n : Int) := by omega
    clear hrd hln
    go_enter Tryz.func20, Tryz.ntmps20
    go_wp2_with fail
    go_ret
    exact ⟨by rw [HE.out]; rfl, Below.refl _ _⟩
  · have hb' : ¬ (1000 : Int) < (n : Int) := by omega
    have HOK := Lib.hid (show ∀ b, rowM none l = b → okBl l = b from fun b h => by unfold okBl; rw [h, hln, decide_eq_true (by omega)]; rfl)
    have HLN := Lib.hid hln
    have HR := Lib.hid hrd
    clear hrd hln hbig
    go_enter Tryz.func20, Tryz.ntmps20
    go_wp2_with fail
    go_loopw [10] (fun v wr => ∃ k : Nat, v = .int .i64 k ∧ k ≤ n ∧ Hid (rowM (pvM l k) (l.drop k) = rowM none l ∧ (∀ j r, j < k → l[j]? = some r → okM r = true) ∧ Below w.heap.size w wr)) (fun v _ => n - (intOf v).toNat)
    case atStart => exact ⟨0, by go_num, by omega, rfl, fun j r h => absurd h (by omega), Below.refl _ _⟩
    case round =>
      obtain ⟨k, rfl, hk, HX⟩ := hrel
      by_cases hkn : k < n
      · obtain ⟨ad, m, hA, hbk, hx, hc0, hc1, hc2, hc3, hc4, hc5, hc6⟩ := mt_at (HR.out.below HX.out.2.2) hkn
        have hbr : (ad.add (k * 7)).block < wr.heap.size := by rw [add_block]; exact Nat.lt_of_lt_of_le hbk HX.out.2.2.size
        have HBR := Lib.hid hbr
        have HBN := Lib.hid (HX.out.2.2.trans ((ext_alloc wr (.cells #[.int .i64 m.a, .int .i64 m.s, .int .i64 m.r, .int .i64 m.c, .int .i64 m.f, .int .i64 m.e, .int .i64 m.l] 38)).mono HX.out.2.2.size))
        have HM0 := Lib.hid (show Mb (wr.alloc (.cells #[.int .i64 m.a, .int .i64 m.s, .int .i64 m.r, .int .i64 m.c, .int .i64 m.f, .int .i64 m.e, .int .i64 m.l] 38)) wr.heap.size m.a m.s m.r m.c m.f m.e m.l from heap_alloc_new wr _)
        have HSZ := Lib.hid HX.out.2.2.size
        clear hbr
        by_cases ho : okM m = true
        · have HA := Lib.hid (fun w => alone_mt m w ho)
          by_cases hk0 : k = 0
          · have HN := Lib.hid (show rowM (pvM l (k + 1)) (l.drop (k + 1)) = rowM none l ∧ ∀ j r, j < k + 1 → l[j]? = some r → okM r = true from by
              subst hk0
              refine ⟨(rowM_on0 hx ho).symm.trans HX.out.1, fun j r hj hr => ?_⟩
              obtain rfl : j = 0 := by omega
              rw [hx] at hr; cases hr; exact ho)
            have hk1 : decide (0 < k) = false := decide_eq_false (by omega)
            obtain ⟨ma, ms, mr, mc, mf, me, ml⟩ := m
            unfold mv magg at HA
            dsimp only at *
            subst hA
            clear ho hx HX hbk hk0
            go_wp2_with fail
            generalize wr.alloc (.cells #[.int .i64 (ma : Int), .int .i64 (ms : Int), .int .i64 (mr : Int), .int .i64 (mc : Int), .int .i64 (mf : Int), .int .i64 (me : Int), .int .i64 (ml : Int)] 38) = w2 at *
            have l2 := HM0.out.lt
            have b0 : ∀ q : Bw w2, q.to.cell? ⟨wr.heap.size, 0, none⟩ = some (.int .i64 ma) := fun q => q.cell l2 HM0.out.c0
            have b1 : ∀ q : Bw w2, q.to.cell? ⟨wr.heap.size, 1, none⟩ = some (.int .i64 ms) := fun q => q.cell l2 HM0.out.c1
            have b2 : ∀ q : Bw w2, q.to.cell? ⟨wr.heap.size, 2, none⟩ = some (.int .i64 mr) := fun q => q.cell l2 HM0.out.c2
            have b3 : ∀ q : Bw w2, q.to.cell? ⟨wr.heap.size, 3, none⟩ = some (.int .i64 mc) := fun q => q.cell l2 HM0.out.c3
            have b4 : ∀ q : Bw w2, q.to.cell? ⟨wr.heap.size, 4, none⟩ = some (.int .i64 mf) := fun q => q.cell l2 HM0.out.c4
            have b5 : ∀ q : Bw w2, q.to.cell? ⟨wr.heap.size, 5, none⟩ = some (.int .i64 me) := fun q => q.cell l2 HM0.out.c5
            have b6 : ∀ q : Bw w2, q.to.cell? ⟨wr.heap.size, 6, none⟩ = some (.int .i64 ml) := fun q => q.cell l2 HM0.out.c6
            refine wp_region_quiet_below (by assumption) (by kernel_rfl) ?_
            repeat (first | go_big_quiet_skip | quiet_step (first | (go_at_call 37; refine below_of (HA.out _))))
            refine wpQuiet_nil ?_
            intro _ hw'
            obtain ⟨q, rfl⟩ := hw'
            go_wp2_with fail
            go_roundw
            case rel => exact ⟨k + 1, by go_num, by omega, HN.out.1, HN.out.2, HBN.out.trans (q.h.mono HBN.out.size)⟩
            case measure => simp [intOf]; omega
          · obtain ⟨j, hj⟩ : ∃ j, k = j + 1 := ⟨k - 1, by omega⟩
            have hX : Rd w w.heap.size 7 A n (fl7 l) := HR.out
            obtain ⟨ad', p, hA', hbk', hxp, pc0, pc1, pc2, pc3, pc4, pc5, pc6⟩ := mt_at (k := j) (hX.below HX.out.2.2) (by omega)
            obtain rfl : ad = ad' := Option.some.inj (hA.symm.trans hA')
            have hop : okM p = true := HX.out.2.1 j p (by omega) hxp
            have PB := Lib.hid (show (ad.add (j * 7)).block < (wr.alloc (.cells #[.int .i64 m.a, .int .i64 m.s, .int .i64 m.r, .int .i64 m.c, .int .i64 m.f, .int .i64 m.e, .int .i64 m.l] 38)).heap.size from by rw [add_block]; have := HSZ.out; simp; omega)
            have hlt : (ad.add (j * 7)).block < wr.heap.size := by rw [add_block]; exact Nat.lt_of_lt_of_le hbk HSZ.out
            have PC := Lib.hid (And.intro ((World.cell?_alloc_lt wr (.cells #[.int .i64 m.a, .int .i64 m.s, .int .i64 m.r, .int .i64 m.c, .int .i64 m.f, .int .i64 m.e, .int .i64 m.l] 38) _ hlt).trans pc0) (And.intro ((World.cell?_alloc_lt wr (.cells #[.int .i64 m.a, .int .i64 m.s, .int .i64 m.r, .int .i64 m.c, .int .i64 m.f, .int .i64 m.e, .int .i64 m.l] 38) ⟨(ad.add (j * 7)).block, (ad.add (j * 7)).off + 1, none⟩ hlt).trans pc1)
              (And.intro ((World.cell?_alloc_lt wr (.cells #[.int .i64 m.a, .int .i64 m.s, .int .i64 m.r, .int .i64 m.c, .int .i64 m.f, .int .i64 m.e, .int .i64 m.l] 38) ⟨(ad.add (j * 7)).block, (ad.add (j * 7)).off + 2, none⟩ hlt).trans pc2) (And.intro ((World.cell?_alloc_lt wr (.cells #[.int .i64 m.a, .int .i64 m.s, .int .i64 m.r, .int .i64 m.c, .int .i64 m.f, .int .i64 m.e, .int .i64 m.l] 38) ⟨(ad.add (j * 7)).block, (ad.add (j * 7)).off + 3, none⟩ hlt).trans pc3)
              (And.intro ((World.cell?_alloc_lt wr (.cells #[.int .i64 m.a, .int .i64 m.s, .int .i64 m.r, .int .i64 m.c, .int .i64 m.f, .int .i64 m.e, .int .i64 m.l] 38) ⟨(ad.add (j * 7)).block, (ad.add (j * 7)).off + 4, none⟩ hlt).trans pc4) (And.intro ((World.cell?_alloc_lt wr (.cells #[.int .i64 m.a, .int .i64 m.s, .int .i64 m.r, .int .i64 m.c, .int .i64 m.f, .int .i64 m.e, .int .i64 m.l] 38) ⟨(ad.add (j * 7)).block, (ad.add (j * 7)).off + 5, none⟩ hlt).trans pc5)
                ((World.cell?_alloc_lt wr (.cells #[.int .i64 m.a, .int .i64 m.s, .int .i64 m.r, .int .i64 m.c, .int .i64 m.f, .int .i64 m.e, .int .i64 m.l] 38) ⟨(ad.add (j * 7)).block, (ad.add (j * 7)).off + 6, none⟩ hlt).trans pc6)))))))
            have hk1 : decide (0 < k) = true := decide_eq_true (by omega)
            have w1 : IntKind.i64.wrap ((k : Int) - 1) = (j : Int) := by rw [IntKind.wrap_i64]; omega
            have hjn : (j : Int) < (n : Int) := by omega
            by_cases hf : folB p m = true
            · have HFO := Lib.hid (fun w => follows_mt p m w hop ho hf)
              have HN := Lib.hid (show rowM (pvM l (k + 1)) (l.drop (k + 1)) = rowM none l ∧ ∀ j r, j < k + 1 → l[j]? = some r → okM r = true from by
                subst hj
                refine ⟨(rowM_on hxp hx ho hf).symm.trans HX.out.1, fun i r hi hr => ?_⟩
                rcases Nat.lt_or_ge i (j + 1) with h | h
                · exact HX.out.2.1 i r h hr
                · obtain rfl : i = j + 1 := by omega
                  rw [hx] at hr; cases hr; exact ho)
              obtain ⟨ma, ms, mr, mc, mf, me, ml⟩ := m
              obtain ⟨pa, ps, pr, pc, pf, pe, pl⟩ := p
              unfold mv magg at HA HFO
              dsimp only at *
              subst hA
              clear ho hx HX hbk hk0 hj hX hA' hbk' hxp pc0 pc1 pc2 pc3 pc4 pc5 pc6 hop hlt hf
              go_wp2_with fail
              generalize wr.alloc (.cells #[.int .i64 (ma : Int), .int .i64 (ms : Int), .int .i64 (mr : Int), .int .i64 (mc : Int), .int .i64 (mf : Int), .int .i64 (me : Int), .int .i64 (ml : Int)] 38) = w2 at *
              have l2 := HM0.out.lt
              have b0 : ∀ q : Bw w2, q.to.cell? ⟨wr.heap.size, 0, none⟩ = some (.int .i64 ma) := fun q => q.cell l2 HM0.out.c0
              have b1 : ∀ q : Bw w2, q.to.cell? ⟨wr.heap.size, 1, none⟩ = some (.int .i64 ms) := fun q => q.cell l2 HM0.out.c1
              have b2 : ∀ q : Bw w2, q.to.cell? ⟨wr.heap.size, 2, none⟩ = some (.int .i64 mr) := fun q => q.cell l2 HM0.out.c2
              have b3 : ∀ q : Bw w2, q.to.cell? ⟨wr.heap.size, 3, none⟩ = some (.int .i64 mc) := fun q => q.cell l2 HM0.out.c3
              have b4 : ∀ q : Bw w2, q.to.cell? ⟨wr.heap.size, 4, none⟩ = some (.int .i64 mf) := fun q => q.cell l2 HM0.out.c4
              have b5 : ∀ q : Bw w2, q.to.cell? ⟨wr.heap.size, 5, none⟩ = some (.int .i64 me) := fun q => q.cell l2 HM0.out.c5
              have b6 : ∀ q : Bw w2, q.to.cell? ⟨wr.heap.size, 6, none⟩ = some (.int .i64 ml) := fun q => q.cell l2 HM0.out.c6
              have p0 : ∀ q : Bw w2, q.to.cell? (ad.add (j * 7)) = some (.int .i64 pa) := fun q => q.cellAt PB.out PC.out.1
              have p1 : ∀ q : Bw w2, q.to.cell? ⟨(ad.add (j * 7)).block, (ad.add (j * 7)).off + 1, none⟩ = some (.int .i64 ps) := fun q => q.cellAt PB.out PC.out.2.1
              have p2 : ∀ q : Bw w2, q.to.cell? ⟨(ad.add (j * 7)).block, (ad.add (j * 7)).off + 2, none⟩ = some (.int .i64 pr) := fun q => q.cellAt PB.out PC.out.2.2.1
              have p3 : ∀ q : Bw w2, q.to.cell? ⟨(ad.add (j * 7)).block, (ad.add (j * 7)).off + 3, none⟩ = some (.int .i64 pc) := fun q => q.cellAt PB.out PC.out.2.2.2.1
              have p4 : ∀ q : Bw w2, q.to.cell? ⟨(ad.add (j * 7)).block, (ad.add (j * 7)).off + 4, none⟩ = some (.int .i64 pf) := fun q => q.cellAt PB.out PC.out.2.2.2.2.1
              have p5 : ∀ q : Bw w2, q.to.cell? ⟨(ad.add (j * 7)).block, (ad.add (j * 7)).off + 5, none⟩ = some (.int .i64 pe) := fun q => q.cellAt PB.out PC.out.2.2.2.2.2.1
              have p6 : ∀ q : Bw w2, q.to.cell? ⟨(ad.add (j * 7)).block, (ad.add (j * 7)).off + 6, none⟩ = some (.int .i64 pl) := fun q => q.cellAt PB.out PC.out.2.2.2.2.2.2
              refine wp_region_quiet_below (by assumption) (by kernel_rfl) ?_
              repeat (first | go_big_quiet_skip | quiet_step (first | (go_at_call 37; refine below_of (HA.out _)) | (go_at_call 38; refine below_of (HFO.out _))))
              refine wpQuiet_nil ?_
              intro _ hw'
              obtain ⟨q, rfl⟩ := hw'
              go_wp2_with fail
              go_roundw
              case rel => exact ⟨k + 1, by go_num, by omega, HN.out.1, HN.out.2, HBN.out.trans (q.h.mono HBN.out.size)⟩
              case measure => simp [intOf]; omega
            · have hf' : folB p m = false := by simpa using hf
              have HFO := Lib.hid (fun w => follows_mt p m w hop ho hf')
              have HE := Lib.hid (blE_no (HOK.out false (by
                subst hj
                rw [← HX.out.1]; exact rowM_off hxp hx hf')))
              obtain ⟨ma, ms, mr, mc, mf, me, ml⟩ := m
              obtain ⟨pa, ps, pr, pc, pf, pe, pl⟩ := p
              unfold mv magg at HA HFO
              dsimp only at *
              subst hA
              clear ho hx HX hbk hk0 hj hX hA' hbk' hxp pc0 pc1 pc2 pc3 pc4 pc5 pc6 hop hlt hf hf'
              go_wp2_with fail
              generalize wr.alloc (.cells #[.int .i64 (ma : Int), .int .i64 (ms : Int), .int .i64 (mr : Int), .int .i64 (mc : Int), .int .i64 (mf : Int), .int .i64 (me : Int), .int .i64 (ml : Int)] 38) = w2 at *
              have l2 := HM0.out.lt
              have b0 : ∀ q : Bw w2, q.to.cell? ⟨wr.heap.size, 0, none⟩ = some (.int .i64 ma) := fun q => q.cell l2 HM0.out.c0
              have b1 : ∀ q : Bw w2, q.to.cell? ⟨wr.heap.size, 1, none⟩ = some (.int .i64 ms) := fun q => q.cell l2 HM0.out.c1
              have b2 : ∀ q : Bw w2, q.to.cell? ⟨wr.heap.size, 2, none⟩ = some (.int .i64 mr) := fun q => q.cell l2 HM0.out.c2
              have b3 : ∀ q : Bw w2, q.to.cell? ⟨wr.heap.size, 3, none⟩ = some (.int .i64 mc) := fun q => q.cell l2 HM0.out.c3
              have b4 : ∀ q : Bw w2, q.to.cell? ⟨wr.heap.size, 4, none⟩ = some (.int .i64 mf) := fun q => q.cell l2 HM0.out.c4
              have b5 : ∀ q : Bw w2, q.to.cell? ⟨wr.heap.size, 5, none⟩ = some (.int .i64 me) := fun q => q.cell l2 HM0.out.c5
              have b6 : ∀ q : Bw w2, q.to.cell? ⟨wr.heap.size, 6, none⟩ = some (.int .i64 ml) := fun q => q.cell l2 HM0.out.c6
              have p0 : ∀ q : Bw w2, q.to.cell? (ad.add (j * 7)) = some (.int .i64 pa) := fun q => q.cellAt PB.out PC.out.1
              have p1 : ∀ q : Bw w2, q.to.cell? ⟨(ad.add (j * 7)).block, (ad.add (j * 7)).off + 1, none⟩ = some (.int .i64 ps) := fun q => q.cellAt PB.out PC.out.2.1
              have p2 : ∀ q : Bw w2, q.to.cell? ⟨(ad.add (j * 7)).block, (ad.add (j * 7)).off + 2, none⟩ = some (.int .i64 pr) := fun q => q.cellAt PB.out PC.out.2.2.1
              have p3 : ∀ q : Bw w2, q.to.cell? ⟨(ad.add (j * 7)).block, (ad.add (j * 7)).off + 3, none⟩ = some (.int .i64 pc) := fun q => q.cellAt PB.out PC.out.2.2.2.1
              have p4 : ∀ q : Bw w2, q.to.cell? ⟨(ad.add (j * 7)).block, (ad.add (j * 7)).off + 4, none⟩ = some (.int .i64 pf) := fun q => q.cellAt PB.out PC.out.2.2.2.2.1
              have p5 : ∀ q : Bw w2, q.to.cell? ⟨(ad.add (j * 7)).block, (ad.add (j * 7)).off + 5, none⟩ = some (.int .i64 pe) := fun q => q.cellAt PB.out PC.out.2.2.2.2.2.1
              have p6 : ∀ q : Bw w2, q.to.cell? ⟨(ad.add (j * 7)).block, (ad.add (j * 7)).off + 6, none⟩ = some (.int .i64 pl) := fun q => q.cellAt PB.out PC.out.2.2.2.2.2.2
              refine wp_region_quiet_below (by assumption) (by kernel_rfl) ?_
              repeat (first | go_big_quiet_skip | quiet_step (first | (go_at_call 37; refine below_of (HA.out _)) | (go_at_call 38; refine below_of (HFO.out _))))
              refine wpQuiet_nil ?_
              intro _ hw'
              obtain ⟨q, rfl⟩ := hw'
              go_wp2_with fail
              go_ret
              exact ⟨by rw [HE.out]; rfl, HBN.out.trans (q.h.mono HBN.out.size)⟩
        · have ho' : okM m = false := by simpa using ho
          have HA := Lib.hid (fun w => alone_mt m w ho')
          have HE := Lib.hid (blE_no (HOK.out false (by rw [← HX.out.1]; exact rowM_bad hx ho')))
          obtain ⟨ma, ms, mr, mc, mf, me, ml⟩ := m
          unfold mv magg at HA
          dsimp only at *
          subst hA
          clear ho ho' hx HX hbk
          go_wp2_with fail
          generalize wr.alloc (.cells #[.int .i64 (ma : Int), .int .i64 (ms : Int), .int .i64 (mr : Int), .int .i64 (mc : Int), .int .i64 (mf : Int), .int .i64 (me : Int), .int .i64 (ml : Int)] 38) = w2 at *
          have l2 := HM0.out.lt
          have b0 : ∀ q : Bw w2, q.to.cell? ⟨wr.heap.size, 0, none⟩ = some (.int .i64 ma) := fun q => q.cell l2 HM0.out.c0
          have b1 : ∀ q : Bw w2, q.to.cell? ⟨wr.heap.size, 1, none⟩ = some (.int .i64 ms) := fun q => q.cell l2 HM0.out.c1
          have b2 : ∀ q : Bw w2, q.to.cell? ⟨wr.heap.size, 2, none⟩ = some (.int .i64 mr) := fun q => q.cell l2 HM0.out.c2
          have b3 : ∀ q : Bw w2, q.to.cell? ⟨wr.heap.size, 3, none⟩ = some (.int .i64 mc) := fun q => q.cell l2 HM0.out.c3
          have b4 : ∀ q : Bw w2, q.to.cell? ⟨wr.heap.size, 4, none⟩ = some (.int .i64 mf) := fun q => q.cell l2 HM0.out.c4
          have b5 : ∀ q : Bw w2, q.to.cell? ⟨wr.heap.size, 5, none⟩ = some (.int .i64 me) := fun q => q.cell l2 HM0.out.c5
          have b6 : ∀ q : Bw w2, q.to.cell? ⟨wr.heap.size, 6, none⟩ = some (.int .i64 ml) := fun q => q.cell l2 HM0.out.c6
          refine wp_region_quiet_below (by assumption) (by kernel_rfl) ?_
          repeat (first | go_big_quiet_skip | quiet_step (first | (go_at_call 37; refine below_of (HA.out _))))
          refine wpQuiet_nil ?_
          intro _ hw'
          obtain ⟨q, rfl⟩ := hw'
          go_wp2_with fail
          go_ret
          exact ⟨by rw [HE.out]; rfl, HBN.out.trans (q.h.mono HBN.out.size)⟩
      · obtain rfl : k = n := by omega
        have HE := Lib.hid (blE_yes (HOK.out true (by rw [← HX.out.1]; exact rowM_end (by rw [HLN.out]; omega))))
        have HB := Lib.hid HX.out.2.2
        clear HX
        go_wp2_with fail
        go_ret
        exact ⟨by rw [HE.out]; rfl, HB.out⟩
end Sn
end Go.Proofs.YtpbphhpldlckbaaGreat
namespace Go.Proofs.YtpbphhpldlckbaaGreat
namespace Sn
open Go.RowKit Hd Bk

def m0 : Mt := ⟨0, 0, 0, 0, 0, 0, 0⟩
set_option maxHeartbeats 3200000 in
set_option maxRecDepth 100000 in
theorem last_nil (A : Option Addr) (c : Nat) (w : World) :
    Calls Tryz.prog 24 #[.slice A 0 c] w fun e w' => e = .returned (.tuple #[magg 0 0 0 0 0 0 0, .bool false]) ∧ Below w.heap.size w w' := by
  have mixed : Tryz.prog.follows .mixedOrders = true := by kernel_rfl
  have HB := Lib.hid (ext_alloc w (.cells #[.int .i64 0, .int .i64 0, .int .i64 0, .int .i64 0, .int .i64 0, .int .i64 0, .int .i64 0] 38))
  have HI := Lib.hid (show (Tryz.prog.info? 38).map (·.size) = some 7 by kernel_rfl)
  unfold magg
  go_enter Tryz.func24, Tryz.ntmps24
  go_wp2_with (first | (refine wpList_store_new w #[.int .i64 0, .int .i64 0, .int .i64 0, .int .i64 0, .int .i64 0, .int .i64 0, .int .i64 0] rfl 38 (.tmp 2) (.tmp 12) rfl #[.int .i64 0, .int .i64 0, .int .i64 0, .int .i64 0, .int .i64 0, .int .i64 0, .int .i64 0] (by simp [go_sem, Act.eval]) (by simp [go_sem, Act.eval]) HI.out rfl rfl ?_))
  refine bodyPost_ret (v := .tuple #[.agg #[.int .i64 0, .int .i64 0, .int .i64 0, .int .i64 0, .int .i64 0, .int .i64 0, .int .i64 0], .bool false]) (by simp [results, go_sem]) rfl ?_
  exact ⟨rfl, HB.out⟩
set_option maxHeartbeats 3200000 in
set_option maxRecDepth 100000 in
theorem last_ok (A : Option Addr) (n c : Nat) (l : List Mt) (m : Mt) (w : World) (hrd : Rd w w.heap.size 7 A n (fl7 l)) (hn0 : 0 < n) (hn : n ≤ 100000) (hl : l.getLast? = some m) (ho : okBl l = true) :
    Calls Tryz.prog 24 #[.slice A n c] w fun e w' => e = .returned (.tuple #[mv m, .bool true]) ∧ Below w.heap.size w w' := by
  have mixed : Tryz.prog.follows .mixedOrders = true := by kernel_rfl
  have HB := Lib.hid (ext_alloc w (.cells #[.int .i64 0, .int .i64 0, .int .i64 0, .int .i64 0, .int .i64 0, .int .i64 0, .int .i64 0] 38))
  have HM := Lib.hid (Mb.new w)
  have hln := mt_len hrd
  have hbl := blocks_any A n c l (w.alloc (.cells #[.int .i64 0, .int .i64 0, .int .i64 0, .int .i64 0, .int .i64 0, .int .i64 0, .int .i64 0] 38)) (hrd.ext HB.out) (by omega)
  rw [blE_yes ho] at hbl
  have HBL := Lib.hid hbl
  obtain ⟨j, hj⟩ : ∃ j, n = j + 1 := ⟨n - 1, by omega⟩
  obtain ⟨ad, m', hA, hbk, hx, pc0, pc1, pc2, pc3, pc4, pc5, pc6⟩ := mt_at (k := j) hrd (by omega)
  rw [List.getLast?_eq_getElem?, hln, hj, Nat.add_sub_cancel, hx] at hl
  obtain rfl := Option.some.inj hl
  have HC := Lib.hid (And.intro pc0 (And.intro pc1 (And.intro pc2 (And.intro pc3 (And.intro pc4 (And.intro pc5 pc6))))))
  have HAB := Lib.hid (show (ad.add (j * 7)).block < w.heap.size by rw [add_block]; exact hbk)
  have b1 : ((n : Int) == 0) = false := by rw [beq_eq_false_iff_ne]; omega
  have b2 : IntKind.i64.wrap ((n : Int) - 1) = (j : Int) := by rw [IntKind.wrap_i64]; omega
  have b3 : (j : Int) < (n : Int) := by omega
  obtain ⟨ma, ms, mr, mc, mf, me, ml⟩ := m'
  subst hA
  clear hbl hrd hl hx hln pc0 pc1 pc2 pc3 pc4 pc5 pc6 ho hj hn0
  unfold mv magg
  dsimp only at *
  have b4 : ¬ (j + 1 = 0) := by omega
  go_enter Tryz.func24, Tryz.ntmps24
  go_wp2_with fail
  generalize w.alloc (.cells #[.int .i64 0, .int .i64 0, .int .i64 0, .int .i64 0, .int .i64 0, .int .i64 0, .int .i64 0] 38) = w0 at *
  refine HBL.out.mono ?_
  rintro e1 w1 ⟨rfl, hb1⟩
  have hb := HB.out.trans (hb1.mono HB.out.size)
  have HB1 := Lib.hid hb
  have hM := HM.out.below hb1 HM.out.lt
  have f0 := hM.fz
  have c0 := (hb.cell HAB.out).trans HC.out.1
  have c1 := (hb.cell (p := ⟨(ad.add (j * 7)).block, (ad.add (j * 7)).off + 1, none⟩) HAB.out).trans HC.out.2.1
  have c2 := (hb.cell (p := ⟨(ad.add (j * 7)).block, (ad.add (j * 7)).off + 2, none⟩) HAB.out).trans HC.out.2.2.1
  have c3 := (hb.cell (p := ⟨(ad.add (j * 7)).block, (ad.add (j * 7)).off + 3, none⟩) HAB.out).trans HC.out.2.2.2.1
  have c4 := (hb.cell (p := ⟨(ad.add (j * 7)).block, (ad.add (j * 7)).off + 4, none⟩) HAB.out).trans HC.out.2.2.2.2.1
  have c5 := (hb.cell (p := ⟨(ad.add (j * 7)).block, (ad.add (j * 7)).off + 5, none⟩) HAB.out).trans HC.out.2.2.2.2.2.1
  have c6 := (hb.cell (p := ⟨(ad.add (j * 7)).block, (ad.add (j * 7)).off + 6, none⟩) HAB.out).trans HC.out.2.2.2.2.2.2
  have q0 := hM.c0
  have q1 := hM.c1
  have q2 := hM.c2
  have q3 := hM.c3
  have q4 := hM.c4
  have q5 := hM.c5
  have q6 := hM.c6
  clear hb hb1 hM
  go_wp2_with fail
  refine bodyPost_ret (v := .tuple #[.agg #[.int .i64 (ma : Int), .int .i64 (ms : Int), .int .i64 (mr : Int), .int .i64 (mc : Int), .int .i64 (mf : Int), .int .i64 (me : Int), .int .i64 (ml : Int)], .bool true]) (by simp [results, go_sem, q0, q1, q2, q3, q4, q5, q6]) rfl ?_
  exact ⟨rfl, below_fill7 HB1.out (Nat.le_refl _)⟩
/-- A header as a value. -/
def hv (i g f : Int) : Value := .agg #[.int .i64 i, .int .i64 g, .int .i64 f]
set_option maxHeartbeats 3200000 in
set_option maxRecDepth 100000 in
theorem next_any (A : Option Addr) (n c : Nat) (i g f : Int) (h1 : Nat) (l : List Mt) (w : World) (hrd : Rd w w.heap.size 7 A n (fl7 l)) (hn : n ≤ 100000) (ho : okBl l = true) (hf : f = h1) :
    Calls Tryz.prog 10 #[hv i g f, .slice A n c] w fun e w' => e = .returned (.int .i64 (nextM h1 l : Nat)) ∧ Below w.heap.size w w' := by
  have mixed : Tryz.prog.follows .mixedOrders = true := by kernel_rfl
  have HB := Lib.hid (ext_alloc w (.cells #[.int .i64 i, .int .i64 g, .int .i64 f] 23))
  have k2 : (w.alloc (.cells #[.int .i64 i, .int .i64 g, .int .i64 f] 23)).cell? ⟨w.heap.size, 2, none⟩ = some (.int .i64 f) := by rw [World.cell?_alloc_new]; rfl
  have hlt : w.heap.size < (w.alloc (.cells #[.int .i64 i, .int .i64 g, .int .i64 f] 23)).heap.size := by simp
  have HK := Lib.hid (And.intro k2 hlt)
  have hln := mt_len hrd
  unfold hv
  rcases hl : l.getLast? with _ | m
  · have hl0 : l = [] := by simpa using hl
    have hn0 : n = 0 := by rw [← hln, hl0]; rfl
    have HN := Lib.hid (show (nextM h1 l : Int) = f by unfold nextM; rw [hl]; exact hf.symm)
    subst hn0
    have HL := Lib.hid (last_nil A c (w.alloc (.cells #[.int .i64 i, .int .i64 g, .int .i64 f] 23)))
    unfold magg at HL
    clear hl hl0 hln hrd k2 hlt hf
    go_enter Tryz.func10, Tryz.ntmps10
    go_wp2_with fail
    generalize w.alloc (.cells #[.int .i64 i, .int .i64 g, .int .i64 f] 23) = w0 at *
    refine HL.out.mono ?_
    rintro e1 w1 ⟨rfl, hb1⟩
    have c2 := (hb1.cell (p := ⟨w.heap.size, 2, none⟩) HK.out.2).trans HK.out.1
    have HB1 := Lib.hid ((HB.out.trans (hb1.mono HB.out.size)).trans ((ext_alloc w1 (.cells #[.int .i64 0, .int .i64 0, .int .i64 0, .int .i64 0, .int .i64 0, .int .i64 0, .int .i64 0] 38)).mono (Nat.le_trans HB.out.size hb1.size)))
    have hlt1 : w.heap.size < w1.heap.size := Nat.lt_of_lt_of_le HK.out.2 hb1.size
    clear hb1
    go_wp2_with fail
    go_ret
    exact ⟨by rw [HN.out]; rfl, HB1.out⟩
  · have hn0 : 0 < n := by
      rcases n with _ | n
      · rw [List.length_eq_zero_iff] at hln; rw [hln] at hl; cases hl
      · omega
    have hmem : m ∈ l := List.mem_of_getLast? hl
    have hok : m.f + m.c ≤ 1000000001 := by
      have := (okM_iff m).1 (rowM_mem l none (okBl_row ho).2 m hmem)
      omega
    have HN := Lib.hid (show (nextM h1 l : Int) = (m.f : Int) + (m.c : Int) by unfold nextM; rw [hl]; push_cast; rfl)
    have HL := Lib.hid (last_ok A n c l m (w.alloc (.cells #[.int .i64 i, .int .i64 g, .int .i64 f] 23)) (hrd.ext HB.out) hn0 (by omega) hl ho)
    unfold mv magg at HL
    obtain ⟨ma, ms, mr, mc, mf, me, ml⟩ := m
    dsimp only at *
    clear hl hln hrd k2 hlt hf hmem
    go_enter Tryz.func10, Tryz.ntmps10
    go_wp2_with fail
    generalize w.alloc (.cells #[.int .i64 i, .int .i64 g, .int .i64 f] 23) = w0 at *
    refine HL.out.mono ?_
    rintro e1 w1 ⟨rfl, hb1⟩
    have HB1 := Lib.hid ((HB.out.trans (hb1.mono HB.out.size)).trans ((ext_alloc w1 (.cells #[.int .i64 ma, .int .i64 ms, .int .i64 mr, .int .i64 mc, .int .i64 mf, .int .i64 me, .int .i64 ml] 38)).mono (Nat.le_trans HB.out.size hb1.size)))
    clear hb1
    go_wp2_with fail
    go_ret
    exact ⟨by rw [HN.out]; rfl, HB1.out⟩
end Sn
end Go.Proofs.YtpbphhpldlckbaaGreat
namespace Go.Proofs.YtpbphhpldlckbaaGreat
namespace Cr
open Go.RowKit

def hlf (c : Nat) : Nat := if c % 2 = 1 then c / 2 ^^^ 3988292384 else c / 2
theorem hlf_lt {c : Nat} (h : c < 4294967296) : hlf c < 4294967296 := by
  unfold hlf
  split
  · exact Nat.xor_lt_two_pow (n := 32) (by omega) (by decide)
  · omega
def hlfs : Nat → Nat → Nat
  | 0, c => c
  | n + 1, c => hlf (hlfs n c)
theorem hlfs_lt {c : Nat} (h : c < 4294967296) : ∀ n, hlfs n c < 4294967296
  | 0 => h
  | n + 1 => hlf_lt (hlfs_lt h n)
def tb (i : Nat) : Nat := hlfs 8 i
theorem tb_lt {i : Nat} (h : i < 256) : tb i < 4294967296 := hlfs_lt (by omega) 8
def rst (c b : Nat) : Nat := (c / 256) ^^^ tb ((c % 256) ^^^ b)
theorem x8_lt {c b : Nat} (hb : b < 256) : (c % 256) ^^^ b < 256 := Nat.xor_lt_two_pow (n := 8) (by omega) (by omega)
theorem rst_lt {c b : Nat} (h : c < 4294967296) (hb : b < 256) : rst c b < 4294967296 := Nat.xor_lt_two_pow (n := 32) (by omega) (tb_lt (x8_lt hb))
def fold (l : List UInt8) (c : Nat) : Nat := l.foldl (fun c b => rst c b.toNat) c
theorem fold_lt : ∀ (l : List UInt8) (c : Nat), c < 4294967296 → fold l c < 4294967296
  | [], _, h => h
  | x :: l, c, h => by
    have := fold_lt l (rst c x.toNat) (rst_lt h x.toNat_lt)
    exact this
theorem fold_take (l : List UInt8) (k c : Nat) (x : UInt8) (h : l[k]? = some x) : fold (l.take (k + 1)) c = rst (fold (l.take k) c) x.toNat := by
  unfold fold
  rw [List.take_add_one, h, List.foldl_append]; rfl
/-- The sum of bytes. -/
def crc (l : List UInt8) : Nat := 4294967295 ^^^ fold l 4294967295
theorem crc_lt (l : List UInt8) : crc l < 4294967296 := Nat.xor_lt_two_pow (n := 32) (by decide) (fold_lt l _ (by decide))

set_option maxRecDepth 100000 in
theorem half_any (c : Nat) (w : World) (h : c < 4294967296) :
    Calls Tryz.prog 52 #[.int .u32 (c : Int)] w fun e w' => e = .returned (.int .u32 (hlf c : Int)) ∧ w = w' := by
  have e1 : bits .and .u32 (c : Int) 1 = ((c &&& 1 : Nat) : Int) := u32_and_nat c 1 h (by decide)
  rw [Nat.and_one_is_mod] at e1
  by_cases hc : c % 2 = 1
  · have e2 : hlf c = c / 2 ^^^ 3988292384 := if_pos hc
    have e3 : bits .xor .u32 ((c / 2 : Nat) : Int) 3988292384 = ((c / 2 ^^^ 3988292384 : Nat) : Int) := u32_xor_nat (c / 2) 3988292384 (by omega) (by decide)
    rw [hc] at e1
    have HE := Lib.hid (And.intro e2 e3)
    clear e2 e3 hc
    go_enter Tryz.func52, Tryz.ntmps52
    go_wp2_with fail
    go_ret
    rw [HE.out.1, ← HE.out.2]
    exact ⟨rfl, rfl⟩
  · have e2 : hlf c = c / 2 := if_neg hc
    have hc2 : c % 2 = 0 := by omega
    rw [hc2] at e1
    have HE := Lib.hid e2
    clear e2 hc hc2
    go_enter Tryz.func52, Tryz.ntmps52
    go_wp2_with fail
    go_ret
    rw [HE.out]
    exact ⟨rfl, rfl⟩

/-- Numbers of 32 bits as values. -/
def vu (l : List Nat) : List Value := l.map fun (n : Nat) => Value.int .u32 (n : Int)
theorem length_vu (l : List Nat) : (vu l).length = l.length := List.length_map ..
theorem vu_at (l : List Nat) (k : Nat) (h : k < l.length) : (vu l)[k]? = some (.int .u32 ((l.getD k 0 : Nat) : Int)) := by
  unfold vu; rw [List.getElem?_map, List.getD_eq_getElem?_getD, List.getElem?_eq_getElem h]; rfl
theorem vu_set (l : List Nat) (k x : Nat) : (vu l).set k (.int .u32 (x : Int)) = vu (l.set k x) := by
  unfold vu; rw [List.map_set]
theorem vu_one (l : List Nat) : ∀ v ∈ vu l, v.oneCell' = true := by
  intro v hv; obtain ⟨_, _, rfl⟩ := List.mem_map.1 hv; rfl
def n256 (g : Nat → Nat) : List Nat := (List.range 256).map g
theorem length_n256 (g : Nat → Nat) : (n256 g).length = 256 := by simp [n256]
theorem n256_at (g : Nat → Nat) (k : Nat) (h : k < 256) : (n256 g).getD k 0 = g k := by
  unfold n256
  rw [List.getD_eq_getElem?_getD, List.getElem?_map, List.getElem?_range (by omega)]; rfl
theorem n256_congr {g h : Nat → Nat} (e : ∀ k, k < 256 → g k = h k) : n256 g = n256 h := by
  unfold n256
  apply List.map_congr_left
  intro k hk
  exact e k (by simpa using hk)
theorem n256_set (g : Nat → Nat) (k x : Nat) : (n256 g).set k x = n256 fun j => if j = k then x else g j := by
  apply List.ext_getElem?
  intro j
  unfold n256
  rw [List.getElem?_set, List.getElem?_map, List.getElem?_map, List.length_map, List.length_range]
  by_cases hj : j < 256
  · rw [List.getElem?_range hj]
    by_cases he : k = j
    · subst he; simp [hj]
    · rw [if_neg he]; simp [Ne.symm he]
  · rw [List.getElem?_eq_none (by simp; omega)]
    by_cases he : k = j
    · subst he; simp [hj]
    · rw [if_neg he]; rfl
theorem zeros_u : Array.replicate 256 (Value.int .u32 0) = (vu (n256 fun _ => 0)).toArray := by
  have e : vu (n256 fun _ => 0) = List.replicate 256 (Value.int .u32 0) := by
    unfold vu n256
    rw [List.map_map]
    apply List.ext_getElem?
    intro j
    rw [List.getElem?_map, List.getElem?_replicate]
    by_cases hj : j < 256
    · rw [List.getElem?_range hj, if_pos hj]; rfl
    · rw [List.getElem?_eq_none (by simp; omega), if_neg hj]; rfl
  rw [e, List.toArray_replicate]
theorem row_setU {t : TypeId} {w : World} {b k : Nat} {l : List Value} {u : Value} (h : w.heap[b]? = some (.cells l.toArray t (0, 0))) : (w.setCell ⟨b, k, none⟩ u).heap[b]? = some (.cells (l.set k u).toArray t (0, 0)) := by
  simp [World.setCell, Array.getElem?_modify, h]
/-- A block of 256 such numbers. -/
def Au (w : World) (b : Nat) (l : List Nat) : Prop := w.heap[b]? = some (.cells (vu l).toArray 73 (0, 0)) ∧ l.length = 256
section
variable {w : World} {b : Nat} {l : List Nat} (h : Au w b l)
include h
theorem Au.lt : b < w.heap.size := (Array.getElem?_eq_some_iff.1 h.1).1
theorem Au.cell (k : Nat) (hk : k < 256) : w.cell? ⟨b, k, none⟩ = some (.int .u32 ((l.getD k 0 : Nat) : Int)) := by
  rw [cell_of_row w b k _ _ (0, 0) h.1]
  simpa using vu_at l k (by rw [h.2]; exact hk)
theorem Au.fz (k : Nat) : w.frozen? ⟨b, k, none⟩ = false := frozen_of_row w b k _ _ h.1
theorem Au.set (k x : Nat) : Au (w.setCell ⟨b, k, none⟩ (.int .u32 (x : Int))) b (l.set k x) := ⟨by rw [row_setU h.1, vu_set], by rw [List.length_set]; exact h.2⟩
theorem Au.below {w' : World} {B : Nat} (hb : Below B w w') (hB : b < B) : Au w' b l := ⟨(hb.block b hB).trans h.1, h.2⟩
theorem Au.range : w.rangeAt b 0 (vu l) := by
  intro j v hv
  have hj : j < 256 := by have := (List.getElem?_eq_some_iff.1 hv).1; rwa [length_vu, h.2] at this
  rw [Nat.zero_add, h.cell j hj, ← hv, vu_at l j (by rw [h.2]; exact hj)]
end
theorem below_setU {B b : Nat} {w0 : World} : ∀ (vs : List Value) (o : Nat) (w : World), Below B w0 w → B ≤ b → Below B w0 (w.setCells b o vs)
  | [], _, _, h, _ => h
  | v :: r, o, _, h, hb => below_setU r (o + 1) _ (h.setCell (p := ⟨b, o, none⟩) hb v) hb
/-- The table, as cells. -/
def TB : Array Value := (vu (n256 tb)).toArray
theorem half_step (n c : Nat) : hlfs (n + 1) c = hlf (hlfs n c) := rfl

set_option maxHeartbeats 6400000 in
set_option maxRecDepth 100000 in
theorem table_any (w : World) :
    Calls Tryz.prog 31 #[] w fun e w' => e = .returned (.agg TB) ∧ Below w.heap.size w w' := by
  have mixed : Tryz.prog.follows .mixedOrders = true := by kernel_rfl
  have hz : (Tryz.prog.info? 73).map (fun i => (i.zero, i.size)) = some (some (.agg (Array.replicate 256 (.int .u32 0))), 256) := by kernel_rfl
  have HZ := Lib.hid hz
  clear hz
  go_enter Tryz.func31, Tryz.ntmps31
  go_wp2_with (refine wpList_alloc_zero rfl 73 rfl _ _ HZ.out ?_)
  rw [zeros_u]
  have h1 : Au ((w.alloc (.cells (vu (n256 fun _ => 0)).toArray 73)).alloc (.cells (vu (n256 fun _ => 0)).toArray 73)) w.heap.size (n256 fun _ => 0) :=
    ⟨(Below.heap_alloc _ _ _ (by simp)).trans (heap_alloc_new w _), length_n256 _⟩
  have h2 : Au ((w.alloc (.cells (vu (n256 fun _ => 0)).toArray 73)).alloc (.cells (vu (n256 fun _ => 0)).toArray 73)) (w.heap.size + 1) (n256 fun j => if j < 0 then tb j else 0) := by
    have := heap_alloc_new (w.alloc (.cells (vu (n256 fun _ => 0)).toArray 73)) (.cells (vu (n256 fun _ => 0)).toArray 73)
    rw [show (w.alloc (.cells (vu (n256 fun _ => 0)).toArray 73)).heap.size = w.heap.size + 1 by simp] at this
    have e : (n256 fun j => if j < 0 then tb j else 0) = n256 fun _ => 0 := n256_congr fun j _ => if_neg (by omega)
    rw [e]
    exact ⟨this, length_n256 _⟩
  have h3 : Below w.heap.size w ((w.alloc (.cells (vu (n256 fun _ => 0)).toArray 73)).alloc (.cells (vu (n256 fun _ => 0)).toArray 73)) := ((Below.refl _ _).alloc (Nat.le_refl _) _).alloc (by simp) _
  have H0 : Aside _ := And.intro h1 (And.intro h2 h3)
  clear h1 h2 h3
  generalize (w.alloc (.cells (vu (n256 fun _ => 0)).toArray 73)).alloc (.cells (vu (n256 fun _ => 0)).toArray 73) = w1 at *
  obtain ⟨g0, hg0⟩ : ∃ g0, g0 = w.heap.size := ⟨_, rfl⟩
  obtain ⟨g1, hg1⟩ : ∃ g1, g1 = w.heap.size + 1 := ⟨_, rfl⟩
  rw [← hg1, ← hg0] at H0
  rw [← hg1, ← hg0]
  have HG := Lib.hid (And.intro hg0 hg1)
  clear hg0 hg1
  go_loopg [5] 256 (fun kx s5 wr => ∃ (i : Nat), s5 = .int .i64 (i : Int) ∧ i ≤ 256 ∧ 256 - i ≤ kx ∧ Aside (Au wr g0 (n256 fun _ => 0) ∧ Au wr g1 (n256 fun j => if j < i then tb j else 0) ∧ Below g0 w wr))
  case atStart => exact ⟨0, rfl, by omega, by omega, H0.out⟩
  case round =>
    clear H0
    obtain ⟨i, rfl, hi, hix, H⟩ := hrel
    by_cases hlt : i < 256
    · have hu : IntKind.u32.wrap (i : Int) = (i : Int) := by rw [IntKind.wrap_u32]; omega
      have hdec : decide ((i : Int) < 256) = true := decide_eq_true (by omega)
      go_wp2_with fail
      generalize wr = wo at *
      have hi0 := hlfs_lt (c := i) (by omega) 0
      go_loopg [4, 10] 8 (fun kj s4 s10 wx => ∃ (j c : Nat), s10 = .int .i64 (j : Int) ∧ s4 = .int .u32 (c : Int) ∧ c < 4294967296 ∧ Hid (c = hlfs j i) ∧ j ≤ 8 ∧ 8 - j ≤ kj ∧ wo = wx)
      case atStart => exact ⟨0, i, rfl, rfl, by omega, Lib.hid rfl, by omega, by omega, rfl⟩
      case round =>
        obtain ⟨j, c, rfl, rfl, hc, HCJ, hj, hjx, rfl⟩ := hrel
        by_cases hlt2 : j < 8
        · have HF := Lib.hid (half_any c wo hc)
          have hlt3 := hlf_lt hc
          have HC2 := Lib.hid (show hlf c = hlfs (j + 1) i by rw [half_step, ← HCJ.out])
          go_wp2_with fail
          refine HF.out.mono ?_
          rintro e w2 ⟨rfl, rfl⟩
          go_wp2_with fail
          go_roundg (8 - (j + 1))
          case measure => omega
          case rel => exact ⟨j + 1, hlf c, by go_num, rfl, hlt3, HC2, by omega, by omega, rfl⟩
        · obtain rfl : j = 8 := by omega
          have hcell := H.out.2.1.cell i hlt
          have hfz := H.out.2.1.fz i
          have hset := H.out.2.1.set i c
          rw [n256_set] at hset
          have e1 : (n256 fun j => if j = i then c else if j < i then tb j else 0) = n256 fun j => if j < i + 1 then tb j else 0 := n256_congr fun j _ => by
            by_cases he : j = i
            · subst he; rw [if_pos rfl, if_pos (by omega)]; exact HCJ.out
            · rw [if_neg he]
              by_cases h3 : j < i
              · rw [if_pos h3, if_pos (by omega)]
              · rw [if_neg h3, if_neg (by omega)]
          rw [e1] at hset
          have hne : g0 ≠ g1 := by have := HG.out; omega
          have ha : Au (wo.setCell ⟨g1, i, none⟩ (.int .u32 (c : Int))) g0 (n256 fun _ => 0) := ⟨(Below.heap_setCell wo ⟨g1, _, none⟩ _ g0 hne).trans H.out.1.1, length_n256 _⟩
          have hbb := H.out.2.2.setCell (p := ⟨g1, i, none⟩) (show g0 ≤ g1 by have := HG.out; omega) (.int .u32 (c : Int))
          have HX : Aside _ := And.intro ha (And.intro hset hbb)
          clear e1 hset ha hbb H
          go_wp2_with fail
          go_roundg (256 - (i + 1))
          case measure => omega
          case rel => exact ⟨i + 1, by go_num, by omega, by omega, HX.out⟩
    · obtain rfl : i = 256 := by omega
      have e1 : (n256 fun j => if j < 256 then tb j else 0) = n256 tb := n256_congr fun j hj => if_pos hj
      have h9 := H.out
      rw [e1] at h9
      have hrg := h9.2.1.range
      have HRG2 := Lib.hid hrg
      obtain ⟨Z, hZ⟩ : ∃ Z, Z = vu (n256 tb) := ⟨_, rfl⟩
      have hZl : Z.length = 256 := by rw [hZ, length_vu, length_n256]
      have hth : wr.there g0 0 Z.toArray.size := by
        intro j hj
        have hj' : j < 256 := by rw [List.size_toArray, hZl] at hj; exact hj
        rw [Nat.zero_add]
        exact ⟨by rw [h9.1.cell j hj']; rfl, h9.1.fz j⟩
      have h1c : Z.toArray.all (·.oneCell') = true := all_oneCell_toArray (by rw [hZ]; exact vu_one _)
      have hrs : (wr.setCells g0 0 Z).rangeAt g0 0 Z := World.rangeAt_setCells_same wr g0 0 Z (by intro j hj; exact hth j (by simpa using hj))
      have hbs : Below g0 w (wr.setCells g0 0 Z) := below_setU Z 0 wr h9.2.2 (Nat.le_refl _)
      have HTH := Lib.hid hth
      have H1C := Lib.hid h1c
      have HZL := Lib.hid hZl
      have hszZ : Z.toArray.size = 256 := by rw [List.size_toArray, hZl]
      have HSZ := Lib.hid hszZ
      have HRS := Lib.hid hrs
      have HBS := Lib.hid hbs
      have HZ := Lib.hid hZ
      rw [← hZ] at HRG2
      clear h9 e1 H hrg hth h1c hZl hrs hbs hszZ hZ
      go_wp2_with (first | (refine wpList_load_mid rfl 73 (.tmp 2) rfl g1 0 (by simp [go_sem, Act.eval]) Z _ HRG2.out Tryz.underlying73 rfl (by rw [HZL.out]; kernel_rfl) ?_) | (refine wpList_store_mid rfl 73 (.tmp 0) (.tmp 20) rfl g0 0 Z.toArray (by simp [go_sem, Act.eval]) (by simp [go_sem, Act.eval]) HTH.out (by rw [HSZ.out]; kernel_rfl) H1C.out ?_))
      refine bodyPost_ret (v := .agg Z.toArray) ?_ rfl ?_
      · have hl := run_loadVar_mid (P := Tryz.prog) (wr.setCells g0 0 Z) g0 0 73 Z _ HRS.out Tryz.underlying73 rfl (by rw [HZL.out]; kernel_rfl)
        exact results_cell (a := 0) (t := 73) (ad := ⟨g0, 0, none⟩) (by rfl) (by simp [Act.put]) hl
      · exact ⟨by rw [HZ.out]; rfl, HBS.out.mono (by have := HG.out; omega)⟩

set_option maxHeartbeats 1600000 in
set_option maxRecDepth 100000 in
theorem rest_any (g c : Nat) (b : UInt8) (w : World) (h : Au w g (n256 tb)) (hc : c < 4294967296) :
    Calls Tryz.prog 77 #[.pointer (some ⟨g, 0, none⟩), .int .u32 (c : Int), .int .u8 (b.toNat : Int)] w fun e w' => e = .returned (.int .u32 (rst c b.toNat : Int)) ∧ w = w' := by
  have hb := b.toNat_lt
  have hk := x8_lt (c := c) hb
  have e1 : bits .xor .u8 ((c : Int) % 256) (b.toNat : Int) = (((c % 256) ^^^ b.toNat : Nat) : Int) := by
    have := u8_xor_nat (c % 256) b.toNat (by omega) hb
    rw [← this]; rfl
  have hcell := h.cell _ hk
  rw [n256_at _ _ hk] at hcell
  have e2 : bits .xor .u32 ((c : Int) / 256) ((tb ((c % 256) ^^^ b.toNat) : Nat) : Int) = ((rst c b.toNat : Nat) : Int) := by
    have := u32_xor_nat (c / 256) (tb ((c % 256) ^^^ b.toNat)) (by omega) (tb_lt hk)
    unfold rst
    rw [← this]; rfl
  have HE := Lib.hid e2
  clear e2
  generalize (c % 256) ^^^ b.toNat = k at *
  generalize tb k = T at *
  have hk2 : (k : Int) < 256 := by omega
  go_enter Tryz.func77, Tryz.ntmps77
  go_wp2_with fail
  go_ret
  exact ⟨by rw [← HE.out]; rfl, rfl⟩

/-- The sum of bytes, from the table. -/
theorem tb_row (w : World) : Au (w.alloc (.cells TB 73)) w.heap.size (n256 tb) := ⟨heap_alloc_new w _, length_n256 _⟩

set_option maxHeartbeats 3200000 in
set_option maxRecDepth 100000 in
theorem more_any (s : ByteArray) (w : World) (hs : s.size ≤ 1000000000) :
    Calls Tryz.prog 51 #[.agg TB, .int .u32 0, .string s] w fun e w' => e = .returned (.int .u32 (crc s.data.toList : Int)) ∧ Below w.heap.size w w' := by
  have mixed : Tryz.prog.follows .mixedOrders = true := by kernel_rfl
  have e0 : bits .xor .u32 4294967295 0 = 4294967295 := by decide
  have hrow := Lib.hid (tb_row w)
  have hbel := Lib.hid (ext_alloc w (.cells TB 73))
  obtain ⟨Z, hZ⟩ : ∃ Z, Z = TB := ⟨_, rfl⟩
  rw [← hZ] at hrow hbel
  rw [← hZ]
  clear hZ
  go_enter Tryz.func51, Tryz.ntmps51
  go_wp2_with (refine wpList_box_new rfl 73 (.tmp 0) rfl Z (by simp [go_sem, Act.eval]) ?_)
  generalize w.alloc (.cells Z 73) = w1 at *
  go_loopg [7, 8] s.size (fun kx s7 s8 wr => ∃ (k c : Nat), s8 = .int .i64 (k : Int) ∧ s7 = .int .u32 (c : Int) ∧ k ≤ s.size ∧ s.size - k ≤ kx ∧ c < 4294967296 ∧ Hid (c = fold (s.data.toList.take k) 4294967295) ∧ w1 = wr)
  case atStart => exact ⟨0, 4294967295, rfl, by first | rfl | (rw [e0]; rfl), by omega, by omega, by omega, Lib.hid rfl, rfl⟩
  case round =>
    obtain ⟨k, c, rfl, rfl, hk, hkx, hc, HC, rfl⟩ := hrel
    by_cases hlt : k < s.size
    · have HF := Lib.hid (rest_any w.heap.size c s[k] w1 hrow.out hc)
      have hcn := rst_lt hc s[k].toNat_lt
      have HC2 := Lib.hid (show rst c s[k].toNat = fold (s.data.toList.take (k + 1)) 4294967295 by
        rw [fold_take _ k _ s[k] (by rw [List.getElem?_eq_getElem (show k < s.data.toList.length from hlt)]; rfl), ← HC.out])
      go_wp2_with fail
      refine HF.out.mono ?_
      rintro e w2 ⟨rfl, rfl⟩
      go_wp2_with fail
      go_roundg (s.size - (k + 1))
      case measure => omega
      case rel => exact ⟨k + 1, rst c s[k].toNat, by go_num, rfl, by omega, by omega, hcn, HC2, rfl⟩
    · obtain rfl : k = s.size := by omega
      have e1 : bits .xor .u32 4294967295 (c : Int) = ((4294967295 ^^^ c : Nat) : Int) := u32_xor_nat 4294967295 c (by decide) hc
      have HE := Lib.hid e1
      clear e1
      go_wp2_with fail
      go_ret
      refine ⟨?_, hbel.out⟩
      have h5 : s.data.toList.take s.size = s.data.toList := List.take_of_length_le (Nat.le_refl _)
      have h6 := HC.out
      rw [h5] at h6
      unfold crc
      rw [← h6, ← HE.out]; rfl

set_option maxHeartbeats 3200000 in
set_option maxRecDepth 100000 in
theorem of_any (s : ByteArray) (w : World) (hs : s.size ≤ 1000000000) :
    Calls Tryz.prog 30 #[.agg TB, .string s] w fun e w' => e = .returned (.int .u32 (crc s.data.toList : Int)) ∧ Below w.heap.size w w' := by
  have mixed : Tryz.prog.follows .mixedOrders = true := by kernel_rfl
  have hrow := (tb_row w).range
  have hlen : (vu (n256 tb)).length = 256 := by rw [length_vu, length_n256]
  have hbel := ext_alloc w (.cells TB 73)
  have HM := Lib.hid (more_any s (w.alloc (.cells TB 73)) hs)
  have HT : TB = (vu (n256 tb)).toArray := rfl
  rw [HT] at HM hrow hbel ⊢
  have HBL := Lib.hid hbel
  have HR := Lib.hid hrow
  have HL := Lib.hid hlen
  clear hrow hlen hbel HT
  generalize vu (n256 tb) = Z at *
  go_enter Tryz.func30, Tryz.ntmps30
  go_wp2_with (first | (refine wpList_box_new rfl 73 (.tmp 0) rfl Z.toArray (by simp [go_sem, Act.eval]) ?_) | (refine wpList_load_mid rfl 73 (.tmp 2) rfl w.heap.size 0 (by simp [go_sem, Act.eval]) Z _ HR.out Tryz.underlying73 rfl (by rw [HL.out]; kernel_rfl) ?_))
  generalize w.alloc (.cells Z.toArray 73) = w1 at *
  refine HM.out.mono ?_
  rintro e w2 ⟨rfl, hb⟩
  have HB2 := Lib.hid (HBL.out.trans (hb.mono HBL.out.size))
  clear hb
  go_wp2_with fail
  go_ret
  exact ⟨rfl, HB2.out⟩
end Cr
end Go.Proofs.YtpbphhpldlckbaaGreat
namespace Go.Proofs.YtpbphhpldlckbaaGreat
namespace Fm
open Go.RowKit

/-- A number's bytes, the lowest first. -/
def le : Nat → Nat → List UInt8
  | 0, _ => []
  | k + 1, n => UInt8.ofNat (n % 256) :: le k (n / 256)
theorem length_le : ∀ k n, (le k n).length = k
  | 0, _ => rfl
  | k + 1, n => by rw [le, List.length_cons, length_le k]
theorem low8 (n : Nat) : (n : Int) % 256 = ((UInt8.ofNat (n % 256)).toNat : Int) := by
  rw [UInt8.toNat_ofNat']; omega

theorem fits_any (n : Nat) (w : World) (h : n < 4294967296) :
    Calls Tryz.prog 50 #[.int .i64 (n : Int), .int .i64 4] w fun e w' => e = .returned (.bool true) ∧ w = w' := by
  have h1 : (n : Int) / 4294967296 = 0 := by omega
  have h2 : (0 : Int) ≤ (n : Int) := by omega
  go_enter Tryz.func50, Tryz.ntmps50
  go_wp2_with fail
  go_ret
  exact ⟨rfl, rfl⟩

set_option maxHeartbeats 3200000 in
set_option maxRecDepth 100000 in
theorem fix_any (n : Nat) (w : World) (h : n < 4294967296) :
    Calls Tryz.prog 29 #[.int .i64 (n : Int), .int .i64 4] w fun e w' => e = .returned (.tuple #[.string ⟨(le 4 n).toArray⟩, .int .i64 0]) ∧ Below w.heap.size w w' := by
  have mixed : Tryz.prog.follows .mixedOrders = true := by kernel_rfl
  have HF := Lib.hid (fits_any n w h)
  go_enter Tryz.func29, Tryz.ntmps29
  go_wp2_with fail
  refine HF.out.mono ?_
  rintro e w0 ⟨rfl, rfl⟩
  go_wp2_with (at_make; (refine makeB0 (n := 8) (by omega) (Nat.le_refl w.heap.size) ?_); intro w1 hown1 hg1 hz1)
  have hb1 : Below w.heap.size w w1 := (Below.refl _ _).grown hg1 (Nat.le_refl _) (by simp)
  have HO := Lib.hid (And.intro hown1 hb1)
  clear hown1 hg1 hb1
  go_loopg [0, 6, 21] 4 (fun kx s0 s6 s21 wr => ∃ (j m : Nat) (acc : List UInt8), s21 = .int .i64 (j : Int) ∧ s0 = .int .i64 (m : Int) ∧ j ≤ 4 ∧ 4 - j ≤ kx ∧ m < 4294967296 ∧ acc.length ≤ 10 ∧ Hid (acc ++ le (4 - j) m = le 4 n ∧ OwnB wr w.heap.size s6 acc ∧ Below w.heap.size w wr))
  case atStart => exact ⟨0, n, [], rfl, rfl, by omega, by omega, h, by simp, Lib.hid ⟨rfl, HO.out.1, HO.out.2⟩⟩
  case round =>
    clear HO
    obtain ⟨j, m, acc, rfl, rfl, hj, hjx, hm, hacc, H⟩ := hrel
    by_cases hlt : j < 4
    · have hown := H.out.2.1
      have hsz := H.out.2.2.size
      go_wp2_with (at_builtin; refine appendB (UInt8.ofNat (m % 256)) (low8 m) hown (by omega) hsz ?_; intro A1 n1 c1 w2 _ hown2 hb2 _ _)
      go_roundg (4 - (j + 1))
      case measure => omega
      case rel =>
        refine ⟨j + 1, m / 256, acc ++ [UInt8.ofNat (m % 256)], by go_num, by go_num, by omega, by omega, by omega, ?_, Lib.hid ⟨?_, hown2, H.out.2.2.trans hb2⟩⟩
        · have := congrArg List.length H.out.1
          rw [List.length_append, length_le, length_le] at this
          rw [List.length_append]; simp; omega
        · have h2 := H.out.1
          rw [show 4 - j = (4 - (j + 1)) + 1 by omega, le] at h2
          rw [← h2, List.append_assoc]; rfl
    · obtain rfl : j = 4 := by omega
      have h3 := H.out
      rw [Nat.sub_self, le, List.append_nil] at h3
      obtain ⟨e3, o3, b3⟩ := h3
      subst e3
      obtain ⟨A, c, rfl, _, _, hrd⟩ := o3.rd
      have hs := run_str (c := c) hrd
      have HB := Lib.hid b3
      clear H b3 o3 hrd
      go_wp2_with fail
      go_ret2
      exact ⟨rfl, HB.out⟩

/-- The number of four bytes. -/
def by4 (l : List UInt8) (p : Nat) : Nat := (l.getD p 0).toNat
def u4 (l : List UInt8) (p : Nat) : Nat := by4 l p + 256 * (by4 l (p + 1) + 256 * (by4 l (p + 2) + 256 * by4 l (p + 3)))
def upto (l : List UInt8) (p : Nat) : Nat → Nat
  | 0 => 0
  | k + 1 => upto l p k * 256 + by4 l (p + (3 - k))
theorem by4_lt (l : List UInt8) (p : Nat) : by4 l p < 256 := (l.getD p 0).toNat_lt
theorem upto_4 (l : List UInt8) (p : Nat) : upto l p 4 = u4 l p := by
  simp only [upto, u4, Nat.sub_zero, Nat.reduceSub, Nat.add_zero]
  omega
theorem u4_lt (l : List UInt8) (p : Nat) : u4 l p < 4294967296 := by
  have h0 := by4_lt l p; have h1 := by4_lt l (p + 1); have h2 := by4_lt l (p + 2); have h3 := by4_lt l (p + 3)
  unfold u4; omega
theorem upto_lt (l : List UInt8) (p : Nat) : ∀ k, k ≤ 4 → upto l p k < 4294967296 ∧ (k < 4 → upto l p k < 16777216) := by
  intro k hk
  have h0 := by4_lt l p; have h1 := by4_lt l (p + 1); have h2 := by4_lt l (p + 2); have h3 := by4_lt l (p + 3)
  rcases k with _ | _ | _ | _ | _ | k <;> simp only [upto, Nat.sub_zero, Nat.reduceSub, Nat.add_zero, Nat.reduceAdd] <;> omega
theorem shl8 (a b : Nat) (ha : a < 16777216) (hb : b < 256) : bits .or .u64 ((a : Int) * 256) (b : Int) = ((a * 256 + b : Nat) : Int) := by
  have h1 := u64_or_nat (a * 256) b (by omega) (by omega)
  have h2 : (a * 256 ||| b) = a * 256 + b := by
    have := Nat.shiftLeft_add_eq_or_of_lt (i := 8) (b := b) (by omega) a
    rw [Nat.shiftLeft_eq] at this
    exact this.symm
  rw [h2] at h1
  rw [← h1, Int.natCast_mul]; rfl

theorem by4_get (s : ByteArray) (q : Nat) (h : q < s.size) : by4 s.data.toList q = s[q].toNat := by
  unfold by4
  rw [List.getD_eq_getElem?_getD, List.getElem?_eq_getElem (show q < s.data.toList.length from h)]; rfl

set_option maxHeartbeats 3200000 in
set_option maxRecDepth 100000 in
theorem unfix_any (s : ByteArray) (p : Nat) (w : World) (h : p + 4 ≤ s.size) (hs : s.size ≤ 1000000000) :
    Calls Tryz.prog 78 #[.string s, .int .i64 (p : Int), .int .i64 4] w fun e w' => e = .returned (.tuple #[.int .i64 (u4 s.data.toList p : Int), .int .i64 ((p + 4 : Nat) : Int), .int .i64 0]) ∧ w = w' := by
  have mixed : Tryz.prog.follows .mixedOrders = true := by kernel_rfl
  have h1 : ¬ (p : Int) < 0 := by omega
  have h2 : ¬ (s.size : Int) < (p : Int) := by omega
  have h3 : ¬ (s.size : Int) - (p : Int) < 4 := by omega
  have h4 : IntKind.i64.wrap ((s.size : Int) - (p : Int)) = (s.size : Int) - (p : Int) := by rw [IntKind.wrap_i64]; omega
  have hu4 := u4_lt s.data.toList p
  go_enter Tryz.func78, Tryz.ntmps78
  go_wp2_with fail
  clear h1 h2 h3 h4
  go_loopg [9, 10] 4 (fun kx s9 s10 wr => ∃ (i u : Nat), s10 = .int .i64 ((i : Int) - 1) ∧ s9 = .int .u64 (u : Int) ∧ i ≤ 4 ∧ i ≤ kx ∧ Hid (u = upto s.data.toList p (4 - i)) ∧ w = wr)
  case atStart => exact ⟨4, 0, rfl, rfl, by omega, by omega, Lib.hid rfl, rfl⟩
  case round =>
    obtain ⟨i, u, rfl, rfl, hi, hix, HU, rfl⟩ := hrel
    rcases i with _ | j
    · have hU := HU.out
      rw [Nat.sub_zero, upto_4] at hU
      subst hU
      have h5 : (u4 s.data.toList p : Int) / 9223372036854775808 = 0 := by omega
      have h6 : IntKind.i64.wrap (u4 s.data.toList p : Int) = (u4 s.data.toList p : Int) := by rw [IntKind.wrap_i64]; omega
      have h7 : IntKind.i64.wrap ((p : Int) + 4) = (p : Int) + 4 := by rw [IntKind.wrap_i64]; omega
      clear HU
      go_wp2_with fail
      go_ret3
      exact ⟨by go_num, rfl⟩
    · have hlo := (upto_lt s.data.toList p (4 - (j + 1)) (by omega)).2 (by omega)
      rw [← HU.out] at hlo
      have hq : p + j < s.size := by omega
      have hb := by4_get s (p + j) hq
      have hor := shl8 u (by4 s.data.toList (p + j)) hlo (by4_lt _ _)
      have HU2 := Lib.hid (show u * 256 + by4 s.data.toList (p + j) = upto s.data.toList p (4 - j) by
        rw [show 4 - j = (4 - (j + 1)) + 1 by omega, upto, ← HU.out, show p + (3 - (4 - (j + 1))) = p + j by omega])
      rw [hb] at hor HU2
      have e1 : ((j + 1 : Nat) : Int) - 1 = (j : Int) := by omega
      rw [e1]
      have e2 : IntKind.i64.wrap ((p : Int) + (j : Int)) = ((p + j : Nat) : Int) := by rw [IntKind.wrap_i64]; omega
      have e3 : IntKind.u64.wrap ((u : Int) * 256) = (u : Int) * 256 := by rw [IntKind.wrap_u64]; omega
      have e7 : IntKind.u64.wrap (s[p + j].toNat : Int) = (s[p + j].toNat : Int) := by rw [IntKind.wrap_u64]; have := s[p + j].toNat_lt; omega
      have e4 : ((p + j : Nat) : Int) < (s.size : Int) := by omega
      have e5 : 0 ≤ (p : Int) + (j : Int) := by omega
      have e6 : (p : Int) + (j : Int) < (s.size : Int) := by omega
      clear e1 hb HU
      go_wp2_with fail
      go_roundg j
      case measure => omega
      case rel => exact ⟨j, u * 256 + s[p + j].toNat, by go_num, by go_num, by omega, by omega, HU2, rfl⟩
end Fm
end Go.Proofs.YtpbphhpldlckbaaGreat
