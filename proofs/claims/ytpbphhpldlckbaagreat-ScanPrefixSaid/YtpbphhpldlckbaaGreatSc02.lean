/- head.alone. Whole arrays: made, built, boxed, stored, as laws for a walk: no cell is opened. api.Meta as a value, and in a block. What is known of blocks, plainly: which may be, which are a row. block.Seqs. A region that draws its order, whose operations only read and whose callees may make memory of their own: walked once. -/
import Derived.Test.YtpbphhpldlckbaaGreatSc01
import Derived.Deep.WholeRow
import Derived.Deep.MidRow
import Derived.Test.YtpbphhpldlckbaaGreatRows
import Derived.Deep.QuietTactic
import Derived.BigQuiet
namespace Go.Proofs.YtpbphhpldlckbaaGreat
namespace Hd
open Go.RowKit

/-- May a block be? -/
def aloneB (a s r c f e l : Int) : Bool := decide ((0 ≤ a ∧ a ≤ 1000000) ∧ (10 ≤ s ∧ s ≤ 60009) ∧ (1 ≤ r ∧ r ≤ 20000) ∧ (1 ≤ c ∧ c ≤ r) ∧ (1 ≤ f ∧ f ≤ 1000000001 - c) ∧ 0 ≤ e ∧ (e ≤ l ∧ l ≤ 1000000000))

set_option maxHeartbeats 3200000 in
set_option maxRecDepth 100000 in
theorem alone_no0 (a s r c f e l : Int) (w : World) (h0 : ¬ (0 ≤ a ∧ a ≤ 1000000)) :
    Calls Tryz.prog 37 #[.agg #[.int .i64 a, .int .i64 s, .int .i64 r, .int .i64 c, .int .i64 f, .int .i64 e, .int .i64 l]] w fun e' w' => e' = .returned (.bool false) ∧ Below w.heap.size w w' := by
  have mixed : Tryz.prog.follows .mixedOrders = true := by kernel_rfl
  have H0 := Lib.hid (fun (wx : World) => (within_any a 0 1000000 wx).mono (R' := fun e w' => e = .returned (.bool false) ∧ wx = w') (fun e w' hh => ⟨by rw [hh.1, inB_no (by omega)], hh.2⟩))
  have HB := Lib.hid (ext_alloc w (.cells #[.int .i64 a, .int .i64 s, .int .i64 r, .int .i64 c, .int .i64 f, .int .i64 e, .int .i64 l] 38))
  clear h0
  go_enter Tryz.func37, Tryz.ntmps37
  go_wp2_with fail
  refine (H0.out _).mono ?_
  rintro e0 w0 ⟨rfl, rfl⟩
  go_wp2_with fail
  go_ret
  exact ⟨rfl, HB.out⟩

set_option maxHeartbeats 3200000 in
set_option maxRecDepth 100000 in
theorem alone_no1 (a s r c f e l : Int) (w : World) (h0 : 0 ≤ a ∧ a ≤ 1000000) (h1 : ¬ (10 ≤ s ∧ s ≤ 60009)) :
    Calls Tryz.prog 37 #[.agg #[.int .i64 a, .int .i64 s, .int .i64 r, .int .i64 c, .int .i64 f, .int .i64 e, .int .i64 l]] w fun e' w' => e' = .returned (.bool false) ∧ Below w.heap.size w w' := by
  have mixed : Tryz.prog.follows .mixedOrders = true := by kernel_rfl
  have H0 := Lib.hid (fun (wx : World) => (within_any a 0 1000000 wx).mono (R' := fun e w' => e = .returned (.bool true) ∧ wx = w') (fun e w' hh => ⟨by rw [hh.1, (inB_iff ..).2 (by omega)], hh.2⟩))
  have H1 := Lib.hid (fun (wx : World) => (within_any s 10 60009 wx).mono (R' := fun e w' => e = .returned (.bool false) ∧ wx = w') (fun e w' hh => ⟨by rw [hh.1, inB_no (by omega)], hh.2⟩))
  have HB := Lib.hid (ext_alloc w (.cells #[.int .i64 a, .int .i64 s, .int .i64 r, .int .i64 c, .int .i64 f, .int .i64 e, .int .i64 l] 38))
  clear h0 h1
  go_enter Tryz.func37, Tryz.ntmps37
  go_wp2_with fail
  refine (H0.out _).mono ?_
  rintro e0 w0 ⟨rfl, rfl⟩
  go_wp2_with fail
  refine (H1.out _).mono ?_
  rintro e1 w1 ⟨rfl, rfl⟩
  go_wp2_with fail
  go_ret
  exact ⟨rfl, HB.out⟩

set_option maxHeartbeats 3200000 in
set_option maxRecDepth 100000 in
theorem alone_no2 (a s r c f e l : Int) (w : World) (h0 : 0 ≤ a ∧ a ≤ 1000000) (h1 : 10 ≤ s ∧ s ≤ 60009) (h2 : ¬ (1 ≤ r ∧ r ≤ 20000)) :
    Calls Tryz.prog 37 #[.agg #[.int .i64 a, .int .i64 s, .int .i64 r, .int .i64 c, .int .i64 f, .int .i64 e, .int .i64 l]] w fun e' w' => e' = .returned (.bool false) ∧ Below w.heap.size w w' := by
  have mixed : Tryz.prog.follows .mixedOrders = true := by kernel_rfl
  have H0 := Lib.hid (fun (wx : World) => (within_any a 0 1000000 wx).mono (R' := fun e w' => e = .returned (.bool true) ∧ wx = w') (fun e w' hh => ⟨by rw [hh.1, (inB_iff ..).2 (by omega)], hh.2⟩))
  have H1 := Lib.hid (fun (wx : World) => (within_any s 10 60009 wx).mono (R' := fun e w' => e = .returned (.bool true) ∧ wx = w') (fun e w' hh => ⟨by rw [hh.1, (inB_iff ..).2 (by omega)], hh.2⟩))
  have H2 := Lib.hid (fun (wx : World) => (within_any r 1 20000 wx).mono (R' := fun e w' => e = .returned (.bool false) ∧ wx = w') (fun e w' hh => ⟨by rw [hh.1, inB_no (by omega)], hh.2⟩))
  have HB := Lib.hid (ext_alloc w (.cells #[.int .i64 a, .int .i64 s, .int .i64 r, .int .i64 c, .int .i64 f, .int .i64 e, .int .i64 l] 38))
  clear h0 h1 h2
  go_enter Tryz.func37, Tryz.ntmps37
  go_wp2_with fail
  refine (H0.out _).mono ?_
  rintro e0 w0 ⟨rfl, rfl⟩
  go_wp2_with fail
  refine (H1.out _).mono ?_
  rintro e1 w1 ⟨rfl, rfl⟩
  go_wp2_with fail
  refine (H2.out _).mono ?_
  rintro e2 w2 ⟨rfl, rfl⟩
  go_wp2_with fail
  go_ret
  exact ⟨rfl, HB.out⟩

set_option maxHeartbeats 3200000 in
set_option maxRecDepth 100000 in
theorem alone_no3 (a s r c f e l : Int) (w : World) (h0 : 0 ≤ a ∧ a ≤ 1000000) (h1 : 10 ≤ s ∧ s ≤ 60009) (h2 : 1 ≤ r ∧ r ≤ 20000) (h3 : ¬ (1 ≤ c ∧ c ≤ r)) :
    Calls Tryz.prog 37 #[.agg #[.int .i64 a, .int .i64 s, .int .i64 r, .int .i64 c, .int .i64 f, .int .i64 e, .int .i64 l]] w fun e' w' => e' = .returned (.bool false) ∧ Below w.heap.size w w' := by
  have mixed : Tryz.prog.follows .mixedOrders = true := by kernel_rfl
  have H0 := Lib.hid (fun (wx : World) => (within_any a 0 1000000 wx).mono (R' := fun e w' => e = .returned (.bool true) ∧ wx = w') (fun e w' hh => ⟨by rw [hh.1, (inB_iff ..).2 (by omega)], hh.2⟩))
  have H1 := Lib.hid (fun (wx : World) => (within_any s 10 60009 wx).mono (R' := fun e w' => e = .returned (.bool true) ∧ wx = w') (fun e w' hh => ⟨by rw [hh.1, (inB_iff ..).2 (by omega)], hh.2⟩))
  have H2 := Lib.hid (fun (wx : World) => (within_any r 1 20000 wx).mono (R' := fun e w' => e = .returned (.bool true) ∧ wx = w') (fun e w' hh => ⟨by rw [hh.1, (inB_iff ..).2 (by omega)], hh.2⟩))
  have H3 := Lib.hid (fun (wx : World) => (within_any c 1 r wx).mono (R' := fun e w' => e = .returned (.bool false) ∧ wx = w') (fun e w' hh => ⟨by rw [hh.1, inB_no (by omega)], hh.2⟩))
  have HB := Lib.hid (ext_alloc w (.cells #[.int .i64 a, .int .i64 s, .int .i64 r, .int .i64 c, .int .i64 f, .int .i64 e, .int .i64 l] 38))
  clear h0 h1 h2 h3
  go_enter Tryz.func37, Tryz.ntmps37
  go_wp2_with fail
  refine (H0.out _).mono ?_
  rintro e0 w0 ⟨rfl, rfl⟩
  go_wp2_with fail
  refine (H1.out _).mono ?_
  rintro e1 w1 ⟨rfl, rfl⟩
  go_wp2_with fail
  refine (H2.out _).mono ?_
  rintro e2 w2 ⟨rfl, rfl⟩
  go_wp2_with fail
  refine (H3.out _).mono ?_
  rintro e3 w3 ⟨rfl, rfl⟩
  go_wp2_with fail
  go_ret
  exact ⟨rfl, HB.out⟩

set_option maxHeartbeats 3200000 in
set_option maxRecDepth 100000 in
theorem alone_no4 (a s r c f e l : Int) (w : World) (h0 : 0 ≤ a ∧ a ≤ 1000000) (h1 : 10 ≤ s ∧ s ≤ 60009) (h2 : 1 ≤ r ∧ r ≤ 20000) (h3 : 1 ≤ c ∧ c ≤ r) (h4 : ¬ (1 ≤ f ∧ f ≤ (1000000001 - c))) :
    Calls Tryz.prog 37 #[.agg #[.int .i64 a, .int .i64 s, .int .i64 r, .int .i64 c, .int .i64 f, .int .i64 e, .int .i64 l]] w fun e' w' => e' = .returned (.bool false) ∧ Below w.heap.size w w' := by
  have mixed : Tryz.prog.follows .mixedOrders = true := by kernel_rfl
  have H0 := Lib.hid (fun (wx : World) => (within_any a 0 1000000 wx).mono (R' := fun e w' => e = .returned (.bool true) ∧ wx = w') (fun e w' hh => ⟨by rw [hh.1, (inB_iff ..).2 (by omega)], hh.2⟩))
  have H1 := Lib.hid (fun (wx : World) => (within_any s 10 60009 wx).mono (R' := fun e w' => e = .returned (.bool true) ∧ wx = w') (fun e w' hh => ⟨by rw [hh.1, (inB_iff ..).2 (by omega)], hh.2⟩))
  have H2 := Lib.hid (fun (wx : World) => (within_any r 1 20000 wx).mono (R' := fun e w' => e = .returned (.bool true) ∧ wx = w') (fun e w' hh => ⟨by rw [hh.1, (inB_iff ..).2 (by omega)], hh.2⟩))
  have H3 := Lib.hid (fun (wx : World) => (within_any c 1 r wx).mono (R' := fun e w' => e = .returned (.bool true) ∧ wx = w') (fun e w' hh => ⟨by rw [hh.1, (inB_iff ..).2 (by omega)], hh.2⟩))
  have H4 := Lib.hid (fun (wx : World) => (within_any f 1 (1000000001 - c) wx).mono (R' := fun e w' => e = .returned (.bool false) ∧ wx = w') (fun e w' hh => ⟨by rw [hh.1, inB_no (by omega)], hh.2⟩))
  have q1 : IntKind.i64.wrap (1000000001 - c) = 1000000001 - c := by rw [IntKind.wrap_i64]; omega
  have HB := Lib.hid (ext_alloc w (.cells #[.int .i64 a, .int .i64 s, .int .i64 r, .int .i64 c, .int .i64 f, .int .i64 e, .int .i64 l] 38))
  clear h0 h1 h2 h3 h4
  go_enter Tryz.func37, Tryz.ntmps37
  go_wp2_with fail
  refine (H0.out _).mono ?_
  rintro e0 w0 ⟨rfl, rfl⟩
  go_wp2_with fail
  refine (H1.out _).mono ?_
  rintro e1 w1 ⟨rfl, rfl⟩
  go_wp2_with fail
  refine (H2.out _).mono ?_
  rintro e2 w2 ⟨rfl, rfl⟩
  go_wp2_with fail
  refine (H3.out _).mono ?_
  rintro e3 w3 ⟨rfl, rfl⟩
  go_wp2_with fail
  refine (H4.out _).mono ?_
  rintro e4 w4 ⟨rfl, rfl⟩
  go_wp2_with fail
  go_ret
  exact ⟨rfl, HB.out⟩

set_option maxHeartbeats 3200000 in
set_option maxRecDepth 100000 in
theorem alone_no5 (a s r c f e l : Int) (w : World) (h0 : 0 ≤ a ∧ a ≤ 1000000) (h1 : 10 ≤ s ∧ s ≤ 60009) (h2 : 1 ≤ r ∧ r ≤ 20000) (h3 : 1 ≤ c ∧ c ≤ r) (h4 : 1 ≤ f ∧ f ≤ (1000000001 - c)) (h5 : ¬ 0 ≤ e) :
    Calls Tryz.prog 37 #[.agg #[.int .i64 a, .int .i64 s, .int .i64 r, .int .i64 c, .int .i64 f, .int .i64 e, .int .i64 l]] w fun e' w' => e' = .returned (.bool false) ∧ Below w.heap.size w w' := by
  have mixed : Tryz.prog.follows .mixedOrders = true := by kernel_rfl
  have H0 := Lib.hid (fun (wx : World) => (within_any a 0 1000000 wx).mono (R' := fun e w' => e = .returned (.bool true) ∧ wx = w') (fun e w' hh => ⟨by rw [hh.1, (inB_iff ..).2 (by omega)], hh.2⟩))
  have H1 := Lib.hid (fun (wx : World) => (within_any s 10 60009 wx).mono (R' := fun e w' => e = .returned (.bool true) ∧ wx = w') (fun e w' hh => ⟨by rw [hh.1, (inB_iff ..).2 (by omega)], hh.2⟩))
  have H2 := Lib.hid (fun (wx : World) => (within_any r 1 20000 wx).mono (R' := fun e w' => e = .returned (.bool true) ∧ wx = w') (fun e w' hh => ⟨by rw [hh.1, (inB_iff ..).2 (by omega)], hh.2⟩))
  have H3 := Lib.hid (fun (wx : World) => (within_any c 1 r wx).mono (R' := fun e w' => e = .returned (.bool true) ∧ wx = w') (fun e w' hh => ⟨by rw [hh.1, (inB_iff ..).2 (by omega)], hh.2⟩))
  have H4 := Lib.hid (fun (wx : World) => (within_any f 1 (1000000001 - c) wx).mono (R' := fun e w' => e = .returned (.bool true) ∧ wx = w') (fun e w' hh => ⟨by rw [hh.1, (inB_iff ..).2 (by omega)], hh.2⟩))
  have q1 : IntKind.i64.wrap (1000000001 - c) = 1000000001 - c := by rw [IntKind.wrap_i64]; omega
  have HB := Lib.hid (ext_alloc w (.cells #[.int .i64 a, .int .i64 s, .int .i64 r, .int .i64 c, .int .i64 f, .int .i64 e, .int .i64 l] 38))
  clear h0 h1 h2 h3 h4
  go_enter Tryz.func37, Tryz.ntmps37
  go_wp2_with fail
  refine (H0.out _).mono ?_
  rintro e0 w0 ⟨rfl, rfl⟩
  go_wp2_with fail
  refine (H1.out _).mono ?_
  rintro e1 w1 ⟨rfl, rfl⟩
  go_wp2_with fail
  refine (H2.out _).mono ?_
  rintro e2 w2 ⟨rfl, rfl⟩
  go_wp2_with fail
  refine (H3.out _).mono ?_
  rintro e3 w3 ⟨rfl, rfl⟩
  go_wp2_with fail
  refine (H4.out _).mono ?_
  rintro e4 w4 ⟨rfl, rfl⟩
  go_wp2_with fail
  go_ret
  exact ⟨rfl, HB.out⟩

set_option maxHeartbeats 3200000 in
set_option maxRecDepth 100000 in
theorem alone_no6 (a s r c f e l : Int) (w : World) (h0 : 0 ≤ a ∧ a ≤ 1000000) (h1 : 10 ≤ s ∧ s ≤ 60009) (h2 : 1 ≤ r ∧ r ≤ 20000) (h3 : 1 ≤ c ∧ c ≤ r) (h4 : 1 ≤ f ∧ f ≤ (1000000001 - c)) (h5 : 0 ≤ e) (h6 : ¬ (e ≤ l ∧ l ≤ 1000000000)) :
    Calls Tryz.prog 37 #[.agg #[.int .i64 a, .int .i64 s, .int .i64 r, .int .i64 c, .int .i64 f, .int .i64 e, .int .i64 l]] w fun e' w' => e' = .returned (.bool false) ∧ Below w.heap.size w w' := by
  have mixed : Tryz.prog.follows .mixedOrders = true := by kernel_rfl
  have H0 := Lib.hid (fun (wx : World) => (within_any a 0 1000000 wx).mono (R' := fun e w' => e = .returned (.bool true) ∧ wx = w') (fun e w' hh => ⟨by rw [hh.1, (inB_iff ..).2 (by omega)], hh.2⟩))
  have H1 := Lib.hid (fun (wx : World) => (within_any s 10 60009 wx).mono (R' := fun e w' => e = .returned (.bool true) ∧ wx = w') (fun e w' hh => ⟨by rw [hh.1, (inB_iff ..).2 (by omega)], hh.2⟩))
  have H2 := Lib.hid (fun (wx : World) => (within_any r 1 20000 wx).mono (R' := fun e w' => e = .returned (.bool true) ∧ wx = w') (fun e w' hh => ⟨by rw [hh.1, (inB_iff ..).2 (by omega)], hh.2⟩))
  have H3 := Lib.hid (fun (wx : World) => (within_any c 1 r wx).mono (R' := fun e w' => e = .returned (.bool true) ∧ wx = w') (fun e w' hh => ⟨by rw [hh.1, (inB_iff ..).2 (by omega)], hh.2⟩))
  have H4 := Lib.hid (fun (wx : World) => (within_any f 1 (1000000001 - c) wx).mono (R' := fun e w' => e = .returned (.bool true) ∧ wx = w') (fun e w' hh => ⟨by rw [hh.1, (inB_iff ..).2 (by omega)], hh.2⟩))
  have H5 := Lib.hid (fun (wx : World) => (within_any l e 1000000000 wx).mono (R' := fun e w' => e = .returned (.bool false) ∧ wx = w') (fun e w' hh => ⟨by rw [hh.1, inB_no (by omega)], hh.2⟩))
  have q1 : IntKind.i64.wrap (1000000001 - c) = 1000000001 - c := by rw [IntKind.wrap_i64]; omega
  have HB := Lib.hid (ext_alloc w (.cells #[.int .i64 a, .int .i64 s, .int .i64 r, .int .i64 c, .int .i64 f, .int .i64 e, .int .i64 l] 38))
  clear h0 h1 h2 h3 h4 h6
  go_enter Tryz.func37, Tryz.ntmps37
  go_wp2_with fail
  refine (H0.out _).mono ?_
  rintro e0 w0 ⟨rfl, rfl⟩
  go_wp2_with fail
  refine (H1.out _).mono ?_
  rintro e1 w1 ⟨rfl, rfl⟩
  go_wp2_with fail
  refine (H2.out _).mono ?_
  rintro e2 w2 ⟨rfl, rfl⟩
  go_wp2_with fail
  refine (H3.out _).mono ?_
  rintro e3 w3 ⟨rfl, rfl⟩
  go_wp2_with fail
  refine (H4.out _).mono ?_
  rintro e4 w4 ⟨rfl, rfl⟩
  go_wp2_with fail
  refine (H5.out _).mono ?_
  rintro e5 w5 ⟨rfl, rfl⟩
  go_wp2_with fail
  go_ret
  exact ⟨rfl, HB.out⟩

set_option maxHeartbeats 3200000 in
set_option maxRecDepth 100000 in
theorem alone_yes (a s r c f e l : Int) (w : World) (h0 : 0 ≤ a ∧ a ≤ 1000000) (h1 : 10 ≤ s ∧ s ≤ 60009) (h2 : 1 ≤ r ∧ r ≤ 20000) (h3 : 1 ≤ c ∧ c ≤ r) (h4 : 1 ≤ f ∧ f ≤ (1000000001 - c)) (h5 : 0 ≤ e) (h6 : e ≤ l ∧ l ≤ 1000000000) :
    Calls Tryz.prog 37 #[.agg #[.int .i64 a, .int .i64 s, .int .i64 r, .int .i64 c, .int .i64 f, .int .i64 e, .int .i64 l]] w fun e' w' => e' = .returned (.bool true) ∧ Below w.heap.size w w' := by
  have mixed : Tryz.prog.follows .mixedOrders = true := by kernel_rfl
  have H0 := Lib.hid (fun (wx : World) => (within_any a 0 1000000 wx).mono (R' := fun e w' => e = .returned (.bool true) ∧ wx = w') (fun e w' hh => ⟨by rw [hh.1, (inB_iff ..).2 (by omega)], hh.2⟩))
  have H1 := Lib.hid (fun (wx : World) => (within_any s 10 60009 wx).mono (R' := fun e w' => e = .returned (.bool true) ∧ wx = w') (fun e w' hh => ⟨by rw [hh.1, (inB_iff ..).2 (by omega)], hh.2⟩))
  have H2 := Lib.hid (fun (wx : World) => (within_any r 1 20000 wx).mono (R' := fun e w' => e = .returned (.bool true) ∧ wx = w') (fun e w' hh => ⟨by rw [hh.1, (inB_iff ..).2 (by omega)], hh.2⟩))
  have H3 := Lib.hid (fun (wx : World) => (within_any c 1 r wx).mono (R' := fun e w' => e = .returned (.bool true) ∧ wx = w') (fun e w' hh => ⟨by rw [hh.1, (inB_iff ..).2 (by omega)], hh.2⟩))
  have H4 := Lib.hid (fun (wx : World) => (within_any f 1 (1000000001 - c) wx).mono (R' := fun e w' => e = .returned (.bool true) ∧ wx = w') (fun e w' hh => ⟨by rw [hh.1, (inB_iff ..).2 (by omega)], hh.2⟩))
  have H5 := Lib.hid (fun (wx : World) => (within_any l e 1000000000 wx).mono (R' := fun e w' => e = .returned (.bool true) ∧ wx = w') (fun e w' hh => ⟨by rw [hh.1, (inB_iff ..).2 (by omega)], hh.2⟩))
  have q1 : IntKind.i64.wrap (1000000001 - c) = 1000000001 - c := by rw [IntKind.wrap_i64]; omega
  have HB := Lib.hid (ext_alloc w (.cells #[.int .i64 a, .int .i64 s, .int .i64 r, .int .i64 c, .int .i64 f, .int .i64 e, .int .i64 l] 38))
  clear h0 h1 h2 h3 h4 h6
  go_enter Tryz.func37, Tryz.ntmps37
  go_wp2_with fail
  refine (H0.out _).mono ?_
  rintro e0 w0 ⟨rfl, rfl⟩
  go_wp2_with fail
  refine (H1.out _).mono ?_
  rintro e1 w1 ⟨rfl, rfl⟩
  go_wp2_with fail
  refine (H2.out _).mono ?_
  rintro e2 w2 ⟨rfl, rfl⟩
  go_wp2_with fail
  refine (H3.out _).mono ?_
  rintro e3 w3 ⟨rfl, rfl⟩
  go_wp2_with fail
  refine (H4.out _).mono ?_
  rintro e4 w4 ⟨rfl, rfl⟩
  go_wp2_with fail
  refine (H5.out _).mono ?_
  rintro e5 w5 ⟨rfl, rfl⟩
  go_wp2_with fail
  go_ret
  exact ⟨rfl, HB.out⟩

theorem alone_any (a s r c f e l : Int) (w : World) :
    Calls Tryz.prog 37 #[.agg #[.int .i64 a, .int .i64 s, .int .i64 r, .int .i64 c, .int .i64 f, .int .i64 e, .int .i64 l]] w fun e' w' => e' = .returned (.bool (aloneB a s r c f e l)) ∧ Below w.heap.size w w' := by
  by_cases h0 : 0 ≤ a ∧ a ≤ 1000000
  · by_cases h1 : 10 ≤ s ∧ s ≤ 60009
    · by_cases h2 : 1 ≤ r ∧ r ≤ 20000
      · by_cases h3 : 1 ≤ c ∧ c ≤ r
        · by_cases h4 : 1 ≤ f ∧ f ≤ 1000000001 - c
          · by_cases h5 : 0 ≤ e
            · by_cases h6 : e ≤ l ∧ l ≤ 1000000000
              · rw [show aloneB a s r c f e l = true from decide_eq_true ⟨h0, h1, h2, h3, h4, h5, h6⟩]
                exact alone_yes a s r c f e l w h0 h1 h2 h3 h4 h5 h6
              · rw [show aloneB a s r c f e l = false from decide_eq_false (fun h => h6 h.2.2.2.2.2.2)]
                exact alone_no6 a s r c f e l w h0 h1 h2 h3 h4 h5 h6
            · rw [show aloneB a s r c f e l = false from decide_eq_false (fun h => h5 h.2.2.2.2.2.1)]
              exact alone_no5 a s r c f e l w h0 h1 h2 h3 h4 h5
          · rw [show aloneB a s r c f e l = false from decide_eq_false (fun h => h4 h.2.2.2.2.1)]
            exact alone_no4 a s r c f e l w h0 h1 h2 h3 h4
        · rw [show aloneB a s r c f e l = false from decide_eq_false (fun h => h3 h.2.2.2.1)]
          exact alone_no3 a s r c f e l w h0 h1 h2 h3
      · rw [show aloneB a s r c f e l = false from decide_eq_false (fun h => h2 h.2.2.1)]
        exact alone_no2 a s r c f e l w h0 h1 h2
    · rw [show aloneB a s r c f e l = false from decide_eq_false (fun h => h1 h.2.1)]
      exact alone_no1 a s r c f e l w h0 h1
  · rw [show aloneB a s r c f e l = false from decide_eq_false (fun h => h0 h.1)]
    exact alone_no0 a s r c f e l w h0
end Hd
end Go.Proofs.YtpbphhpldlckbaaGreat
namespace Go.Proofs.YtpbphhpldlckbaaGreat
open Go.RowKit

section
variable {P : Program} {ops : Array Oper} {rest : List Oper} {op : Oper} {a : Act} {w : World} {Q : Exit → Act → World → Prop}
theorem wpList_alloc_zero (hgd : op.guard = none) (t : TypeId) (ho : op.op = .alloc t) (z : Value) (n : Nat) (hz : (P.info? t).map (fun i => (i.zero, i.size)) = some (some z, n))
    (h : wpList P ops Q rest (a.put op.dst (.pointer (some ⟨w.heap.size, 0, none⟩))) (w.alloc (.cells z.cells t))) : wpList P ops Q (op :: rest) a w := by
  refine wpList_plain hgd fun _ hK => ?_
  have hz1 := (zero_of_info hz).1 w
  unfold Oper.wp execOp
  simp only [ho, Instr.alloc, Sem.run_bind, hz1, Result.andThen_ok]
  exact hK _ _ h
theorem wpList_build_zero (hgd : op.guard = none) (t : TypeId) (ho : op.op = .build t #[]) (z : Array Value) (hz : (Instr.build t #[]).run P w = .ok (.agg z) w)
    (h : wpList P ops Q rest (a.put op.dst (.agg z)) w) : wpList P ops Q (op :: rest) a w := by
  refine wpList_plain hgd fun _ hK => ?_
  unfold Oper.wp execOp
  simp only [ho, List.map_toArray, List.map_nil, Sem.run_bind, hz, Result.andThen_ok]
  exact hK _ _ h
theorem wpList_box_new (hgd : op.guard = none) (t : TypeId) (x : Operand) (ho : op.op = .box t x) (z : Array Value) (hx : a.eval x = .agg z)
    (h : wpList P ops Q rest (a.put op.dst (.pointer (some ⟨w.heap.size, 0, none⟩))) (w.alloc (.cells z t))) : wpList P ops Q (op :: rest) a w := by
  refine wpList_plain hgd fun _ hK => ?_
  unfold Oper.wp execOp
  simp only [ho, hx, Instr.box, Sem.run_bind]
  exact hK _ _ h
theorem wpList_store_new (w0 : World) (c : Array Value) (hgd : op.guard = none) (t : TypeId) (x y : Operand) (ho : op.op = .store t x y) (z : Array Value) (hx : a.eval x = .pointer (some ⟨w0.heap.size, 0, none⟩)) (hy : a.eval y = .agg z)
    (hi : (P.info? t).map (·.size) = some z.size) (hc : c.size = z.size) (h1 : z.all (·.oneCell') = true)
    (h : wpList P ops Q rest (a.put op.dst undef) (w0.alloc (.cells z t))) : wpList P ops Q (op :: rest) a (w0.alloc (.cells c t)) := by
  refine wpList_plain hgd fun _ hK => ?_
  unfold Oper.wp execOp
  simp only [ho, hx, hy, Instr.storeAt, Instr.sureAddr, Sem.run_bind, Sem.run_pure, Result.andThen_ok, run_storeVar_new w0 t c z hi hc h1]
  exact hK _ _ h
end
/-- A function's one result that lies in a variable. -/
theorem results_cell {P : Program} {fn : Func} {tmps : Array Value} {w : World} {a : Nat} {t : TypeId} {ad : Addr} {v : Value} (hr : fn.results = #[.cell a t]) (ht : tmps.getD a undef = .pointer (some ad)) (hl : (loadVar t ad).run P w = .ok v w) :
    (results fn tmps).run P w = .ok v w := by
  unfold results
  rw [hr]
  have ht2 : tmps[a]?.getD undef = .pointer (some ad) := by rw [← ht]; simp [Array.getD_eq_getD_getElem?]
  simp [ht2, asAddr, hl]
end Go.Proofs.YtpbphhpldlckbaaGreat
namespace Go.Proofs.YtpbphhpldlckbaaGreat
namespace Bk
open Go.RowKit

/-- What is known of a block as a value. -/
def magg (at_ size raw count first early late : Int) : Value := .agg #[.int .i64 at_, .int .i64 size, .int .i64 raw, .int .i64 count, .int .i64 first, .int .i64 early, .int .i64 late]
/-- It lies at block b. -/
def Mb (w : World) (b : Nat) (at_ size raw count first early late : Int) : Prop :=
  w.heap[b]? = some (.cells #[.int .i64 at_, .int .i64 size, .int .i64 raw, .int .i64 count, .int .i64 first, .int .i64 early, .int .i64 late] 38 (0, 0))
section
variable {w w' : World} {b : Nat} {at_ size raw count first early late : Int} (h : Mb w b at_ size raw count first early late)
include h
theorem Mb.lt : b < w.heap.size := (Array.getElem?_eq_some_iff.1 h).1
theorem Mb.c0 : w.cell? ⟨b, 0, none⟩ = some (.int .i64 at_) := by rw [cell_of_row w b 0 _ _ (0, 0) h]; rfl
theorem Mb.c1 : w.cell? ⟨b, 1, none⟩ = some (.int .i64 size) := by rw [cell_of_row w b 1 _ _ (0, 0) h]; rfl
theorem Mb.c2 : w.cell? ⟨b, 2, none⟩ = some (.int .i64 raw) := by rw [cell_of_row w b 2 _ _ (0, 0) h]; rfl
theorem Mb.c3 : w.cell? ⟨b, 3, none⟩ = some (.int .i64 count) := by rw [cell_of_row w b 3 _ _ (0, 0) h]; rfl
theorem Mb.c4 : w.cell? ⟨b, 4, none⟩ = some (.int .i64 first) := by rw [cell_of_row w b 4 _ _ (0, 0) h]; rfl
theorem Mb.c5 : w.cell? ⟨b, 5, none⟩ = some (.int .i64 early) := by rw [cell_of_row w b 5 _ _ (0, 0) h]; rfl
theorem Mb.c6 : w.cell? ⟨b, 6, none⟩ = some (.int .i64 late) := by rw [cell_of_row w b 6 _ _ (0, 0) h]; rfl
theorem Mb.fz (j : Nat) : w.frozen? ⟨b, j, none⟩ = false := frozen_of_row w b j _ _ h
theorem Mb.below {B : Nat} (hk : Below B w w') (hb : b < B) : Mb w' b at_ size raw count first early late := (hk.block b hb).trans h
theorem Mb.set0 (x : Int) : Mb (w.setCell ⟨b, 0, none⟩ (.int .i64 x)) b x size raw count first early late := by
  unfold Mb at *; simp [World.setCell, Array.getElem?_modify, h]
theorem Mb.set1 (x : Int) : Mb (w.setCell ⟨b, 1, none⟩ (.int .i64 x)) b at_ x raw count first early late := by
  unfold Mb at *; simp [World.setCell, Array.getElem?_modify, h]
theorem Mb.set2 (x : Int) : Mb (w.setCell ⟨b, 2, none⟩ (.int .i64 x)) b at_ size x count first early late := by
  unfold Mb at *; simp [World.setCell, Array.getElem?_modify, h]
theorem Mb.set3 (x : Int) : Mb (w.setCell ⟨b, 3, none⟩ (.int .i64 x)) b at_ size raw x first early late := by
  unfold Mb at *; simp [World.setCell, Array.getElem?_modify, h]
theorem Mb.set4 (x : Int) : Mb (w.setCell ⟨b, 4, none⟩ (.int .i64 x)) b at_ size raw count x early late := by
  unfold Mb at *; simp [World.setCell, Array.getElem?_modify, h]
theorem Mb.set5 (x : Int) : Mb (w.setCell ⟨b, 5, none⟩ (.int .i64 x)) b at_ size raw count first x late := by
  unfold Mb at *; simp [World.setCell, Array.getElem?_modify, h]
theorem Mb.set6 (x : Int) : Mb (w.setCell ⟨b, 6, none⟩ (.int .i64 x)) b at_ size raw count first early x := by
  unfold Mb at *; simp [World.setCell, Array.getElem?_modify, h]
/-- It is written whole. -/
theorem Mb.fill (a s r c f e l : Int) :
    Mb (((((((w.setCell ⟨b, 0, none⟩ (.int .i64 a)).setCell ⟨b, 1, none⟩ (.int .i64 s)).setCell ⟨b, 2, none⟩ (.int .i64 r)).setCell ⟨b, 3, none⟩ (.int .i64 c)).setCell ⟨b, 4, none⟩ (.int .i64 f)).setCell ⟨b, 5, none⟩ (.int .i64 e)).setCell ⟨b, 6, none⟩ (.int .i64 l)) b a s r c f e l :=
  ((((((h.set0 a).set1 s).set2 r).set3 c).set4 f).set5 e).set6 l
end
theorem Mb.new (w : World) : Mb (w.alloc (.cells #[.int .i64 0, .int .i64 0, .int .i64 0, .int .i64 0, .int .i64 0, .int .i64 0, .int .i64 0] 38)) w.heap.size 0 0 0 0 0 0 0 := heap_alloc_new w _
theorem below_put {w w' : World} {b B : Nat} (h : Below B w w') (hb : B ≤ b) (k : Nat) (v : Value) : Below B w (w'.setCell ⟨b, k, none⟩ v) := h.setCell (p := ⟨b, k, none⟩) hb v
theorem below_fill7 {w w' : World} {b B : Nat} {v0 v1 v2 v3 v4 v5 v6 : Value} (h : Below B w w') (hb : B ≤ b) : Below B w (((((((w'.setCell ⟨b, 0, none⟩ v0).setCell ⟨b, 1, none⟩ v1).setCell ⟨b, 2, none⟩ v2).setCell ⟨b, 3, none⟩ v3).setCell ⟨b, 4, none⟩ v4).setCell ⟨b, 5, none⟩ v5).setCell ⟨b, 6, none⟩ v6) :=
  below_put (below_put (below_put (below_put (below_put (below_put (below_put h hb 0 v0) hb 1 v1) hb 2 v2) hb 3 v3) hb 4 v4) hb 5 v5) hb 6 v6

end Bk
end Go.Proofs.YtpbphhpldlckbaaGreat
namespace Go.Proofs.YtpbphhpldlckbaaGreat
namespace Sn
open Go.RowKit Hd Bk

/-- What is known of a block. -/
structure Mt where
  a : Nat
  s : Nat
  r : Nat
  c : Nat
  f : Nat
  e : Nat
  l : Nat
def cl7 (m : Mt) : List Value := [.int .i64 (m.a : Int), .int .i64 (m.s : Int), .int .i64 (m.r : Int), .int .i64 (m.c : Int), .int .i64 (m.f : Int), .int .i64 (m.e : Int), .int .i64 (m.l : Int)]
def mv (m : Mt) : Value := magg m.a m.s m.r m.c m.f m.e m.l
def okM (m : Mt) : Bool := aloneB m.a m.s m.r m.c m.f m.e m.l
theorem okM_iff (m : Mt) : okM m = true ↔ m.a ≤ 1000000 ∧ 10 ≤ m.s ∧ m.s ≤ 60009 ∧ 1 ≤ m.r ∧ m.r ≤ 20000 ∧ 1 ≤ m.c ∧ m.c ≤ m.r ∧ 1 ≤ m.f ∧ m.f + m.c ≤ 1000000001 ∧ m.e ≤ m.l ∧ m.l ≤ 1000000000 := by
  unfold okM aloneB
  rw [decide_eq_true_eq]
  omega
def folB (p m : Mt) : Bool := decide (m.a = p.a + p.s ∧ m.f = p.f + p.c ∧ p.l ≤ m.e)
theorem folB_iff (p m : Mt) : folB p m = true ↔ m.a = p.a + p.s ∧ m.f = p.f + p.c ∧ p.l ≤ m.e := by unfold folB; rw [decide_eq_true_eq]
/-- Are blocks a row, behind one? -/
def rowM : Option Mt → List Mt → Bool
  | _, [] => true
  | none, m :: l => okM m && rowM (some m) l
  | some p, m :: l => okM m && folB p m && rowM (some m) l
def okBl (l : List Mt) : Bool := decide (l.length ≤ 1000) && rowM none l
theorem rowM_snoc : ∀ (l : List Mt) (p : Option Mt) (m : Mt), rowM p l = true → okM m = true → (∀ q, (match l.getLast? with | none => p | some x => some x) = some q → folB q m = true) → rowM p (l ++ [m]) = true
  | [], none, m, _, ho, _ => by simp [rowM, ho]
  | [], some p, m, _, ho, hf => by simp [rowM, ho, hf p rfl]
  | x :: l, p, m, h, ho, hf => by
    have hx : rowM (some x) l = true ∧ ∀ l', rowM (some x) l' = true → rowM p (x :: l') = true := by
      rcases p with _ | p
      · simp only [rowM, Bool.and_eq_true] at h ⊢
        exact ⟨h.2, fun l' hl => ⟨h.1, hl⟩⟩
      · simp only [rowM, Bool.and_eq_true] at h ⊢
        exact ⟨h.2, fun l' hl => ⟨h.1, hl⟩⟩
    rw [List.cons_append]
    refine hx.2 _ (rowM_snoc l (some x) m hx.1 ho fun q hq => hf q ?_)
    rw [List.getLast?_cons]
    rcases hl : l.getLast? with _ | y
    · rw [hl] at hq; exact hq
    · rw [hl] at hq; exact hq
theorem rowM_cons {p : Option Mt} {m : Mt} {l : List Mt} (h : rowM p (m :: l) = true) : okM m = true ∧ rowM (some m) l = true := by
  rcases p with _ | p <;> simp only [rowM, Bool.and_eq_true] at h
  · exact h
  · exact ⟨h.1.1, h.2⟩
theorem rowM_mem : ∀ (l : List Mt) (p : Option Mt), rowM p l = true → ∀ m ∈ l, okM m = true
  | [], _, _, m, h => by cases h
  | x :: l, p, h, m, hm => by
    rcases List.mem_cons.1 hm with rfl | hm
    · exact (rowM_cons h).1
    · exact rowM_mem l (some x) (rowM_cons h).2 m hm
theorem okBl_row {l : List Mt} (h : okBl l = true) : l.length ≤ 1000 ∧ rowM none l = true := by
  unfold okBl at h
  rw [Bool.and_eq_true, decide_eq_true_eq] at h
  exact h
/-- The number that comes next; the last time. -/
def nextM (h1 : Nat) (l : List Mt) : Nat := match l.getLast? with | none => h1 | some m => m.f + m.c
def lateM (l : List Mt) : Nat := match l.getLast? with | none => 0 | some m => m.l
theorem nextM_snoc (h1 : Nat) (l : List Mt) (m : Mt) : nextM h1 (l ++ [m]) = m.f + m.c := by unfold nextM; rw [List.getLast?_append]; rfl
theorem lateM_snoc (l : List Mt) (m : Mt) : lateM (l ++ [m]) = m.l := by unfold lateM; rw [List.getLast?_append]; rfl
def fl7 (l : List Mt) : List Value := l.flatMap cl7
theorem fl7_cons (m : Mt) (l : List Mt) : fl7 (m :: l) = .int .i64 (m.a : Int) :: .int .i64 (m.s : Int) :: .int .i64 (m.r : Int) :: .int .i64 (m.c : Int) :: .int .i64 (m.f : Int) :: .int .i64 (m.e : Int) :: .int .i64 (m.l : Int) :: fl7 l := rfl
theorem length_fl7 (l : List Mt) : (fl7 l).length = l.length * 7 := by
  induction l with
  | nil => rfl
  | cons x l ih => rw [fl7_cons]; simp only [List.length_cons, ih]; omega
theorem fl7_append (a b : List Mt) : fl7 (a ++ b) = fl7 a ++ fl7 b := List.flatMap_append ..
theorem fl7_at : ∀ (l : List Mt) (k : Nat) (x : Mt), l[k]? = some x → ∀ j, j < 7 → (fl7 l)[k * 7 + j]? = (cl7 x)[j]?
  | [], k, x, h, _, _ => by simp at h
  | y :: l, 0, x, h, j, hj => by
    simp only [List.getElem?_cons_zero, Option.some.injEq] at h
    subst h
    show (cl7 y ++ fl7 l)[0 * 7 + j]? = _
    rw [Nat.zero_mul, Nat.zero_add, List.getElem?_append_left (by simpa [cl7] using hj)]
  | y :: l, k + 1, x, h, j, hj => by
    have := fl7_at l k x (by simpa using h) j hj
    show (cl7 y ++ fl7 l)[(k + 1) * 7 + j]? = _
    rw [List.getElem?_append_right (by simp [cl7]; omega), ← this]
    congr 1
    simp [cl7]; omega
theorem fl7_one (l : List Mt) : ∀ u ∈ fl7 l, u.oneCell' = true := by
  intro u hu
  unfold fl7 at hu
  rw [List.mem_flatMap] at hu
  obtain ⟨m, -, hm⟩ := hu
  simp only [cl7, List.mem_cons, List.not_mem_nil, or_false] at hm
  rcases hm with rfl | rfl | rfl | rfl | rfl | rfl | rfl <;> rfl
/-- A slice that reads as blocks: one of them. -/
theorem mt_at {w : World} {B n k : Nat} {A : Option Addr} {l : List Mt} (h : Rd w B 7 A n (fl7 l)) (hk : k < n) :
    ∃ ad m, A = some ad ∧ ad.block < B ∧ l[k]? = some m ∧ w.cell? (ad.add (k * 7)) = some (.int .i64 (m.a : Int)) ∧
      w.cell? ⟨(ad.add (k * 7)).block, (ad.add (k * 7)).off + 1, none⟩ = some (.int .i64 (m.s : Int)) ∧ w.cell? ⟨(ad.add (k * 7)).block, (ad.add (k * 7)).off + 2, none⟩ = some (.int .i64 (m.r : Int)) ∧
      w.cell? ⟨(ad.add (k * 7)).block, (ad.add (k * 7)).off + 3, none⟩ = some (.int .i64 (m.c : Int)) ∧ w.cell? ⟨(ad.add (k * 7)).block, (ad.add (k * 7)).off + 4, none⟩ = some (.int .i64 (m.f : Int)) ∧
      w.cell? ⟨(ad.add (k * 7)).block, (ad.add (k * 7)).off + 5, none⟩ = some (.int .i64 (m.e : Int)) ∧ w.cell? ⟨(ad.add (k * 7)).block, (ad.add (k * 7)).off + 6, none⟩ = some (.int .i64 (m.l : Int)) := by
  obtain ⟨ad, e, hb, hc⟩ := h.cells (by omega)
  have hl : l.length = n := by have := h.len; rw [length_fl7] at this; omega
  have hx : l[k]? = some (l[k]'(by omega)) := List.getElem?_eq_getElem (by omega)
  have hf := fl7_at l k _ hx
  have hg : ∀ j v, j < 7 → (cl7 (l[k]'(by omega)))[j]? = some v → w.cell? (ad.add (k * 7 + j)) = some v := fun j v hj hv => hc _ _ ((hf j hj).trans hv)
  have ha : ∀ j, ad.add (k * 7 + (j + 1)) = ⟨(ad.add (k * 7)).block, (ad.add (k * 7)).off + (j + 1), none⟩ := fun j => by rw [← add_add]; rfl
  refine ⟨ad, _, e, hb, hx, hg 0 _ (by omega) rfl, ?_, ?_, ?_, ?_, ?_, ?_⟩
  · rw [← ha]; exact hg 1 _ (by omega) rfl
  · rw [← ha]; exact hg 2 _ (by omega) rfl
  · rw [← ha]; exact hg 3 _ (by omega) rfl
  · rw [← ha]; exact hg 4 _ (by omega) rfl
  · rw [← ha]; exact hg 5 _ (by omega) rfl
  · rw [← ha]; exact hg 6 _ (by omega) rfl
theorem mt_len {w : World} {B n : Nat} {A : Option Addr} {l : List Mt} (h : Rd w B 7 A n (fl7 l)) : l.length = n := by
  have := h.len; rw [length_fl7] at this; omega
end Sn
end Go.Proofs.YtpbphhpldlckbaaGreat
namespace Go.Proofs.YtpbphhpldlckbaaGreat
namespace Bk
open Go.RowKit

/-- A range as a value. -/
def rg (lo hi : Int) : Value := .agg #[.int .i64 lo, .int .i64 hi]
set_option maxHeartbeats 6400000 in
set_option maxRecDepth 100000 in
theorem seqs_at (a s : Int) (raw c first early late : Nat) (w : World) (h : first + c ≤ 1000000000) :
    Calls Tryz.prog 58 #[magg a s raw (c + 1 : Nat) first early late] w fun e w' => e = .returned (rg first (first + c : Nat)) ∧ Below w.heap.size w w' := by
  have mixed : Tryz.prog.follows .mixedOrders = true := by kernel_rfl
  have h1 : ¬ (((c + 1 : Nat) : Int) < 1) := by omega
  have h2 : IntKind.i64.wrap (((c + 1 : Nat) : Int) - 1) = (c : Int) := by rw [IntKind.wrap_i64]; omega
  have h3 : IntKind.i64.wrap (9223372036854775807 - (c : Int)) = 9223372036854775807 - (c : Int) := by rw [IntKind.wrap_i64]; omega
  have h4 : ¬ (9223372036854775807 - (c : Int) < (first : Int)) := by omega
  have h5 : IntKind.i64.wrap ((first : Int) + (c : Int)) = ((first + c : Nat) : Int) := by rw [IntKind.wrap_i64]; omega
  have HB := Lib.hid h
  clear h
  unfold magg rg
  generalize ((c + 1 : Nat) : Int) = C at *
  go_enter Tryz.func58, Tryz.ntmps58
  go_wp2_with fail
  refine bodyPost_ret (v := .agg #[.int .i64 first, .int .i64 ((first : Int) + c)]) (by simp [results, go_sem]) rfl ?_
  exact ⟨by simp, (ext_alloc w _).trans ((ext_alloc _ _).mono (by simp))⟩
theorem seqs_any (raw c first early late : Nat) (w : World) (h : first + c ≤ 1000000000) :
    Calls Tryz.prog 58 #[magg 0 0 raw (c + 1 : Nat) first early late] w fun e w' => e = .returned (rg first (first + c : Nat)) ∧ Below w.heap.size w w' := seqs_at 0 0 raw c first early late w h
/-- The ends of a range by value. -/
theorem run_lo (w : World) (x y : Int) : Sem.run Tryz.prog (Instr.field 115 (.agg #[.int .i64 x, .int .i64 y]) 0) w = .ok (.int .i64 x) w := by
  have hu := Tryz.underlying115
  have h3 := Tryz.underlying3
  simp [Instr.field, hu, h3, asAgg, part, isAgg, go_sem]
theorem run_hi (w : World) (x y : Int) : Sem.run Tryz.prog (Instr.field 115 (.agg #[.int .i64 x, .int .i64 y]) 1) w = .ok (.int .i64 y) w := by
  have hu := Tryz.underlying115
  have h3 := Tryz.underlying3
  simp [Instr.field, hu, h3, asAgg, part, isAgg, go_sem]
end Bk
end Go.Proofs.YtpbphhpldlckbaaGreat
namespace Go.Proofs.YtpbphhpldlckbaaGreat
open Go.RowKit

/-- A world that grew of w. -/
structure Bw (w : World) where
  to : World
  h : Below w.heap.size w to
instance (w : World) : Inhabited (Bw w) := ⟨⟨w, Below.refl _ _⟩⟩
theorem Bw.cell {w : World} (p : Bw w) {b k : Nat} {v : Value} (hb : b < w.heap.size) (h : w.cell? ⟨b, k, none⟩ = some v) : p.to.cell? ⟨b, k, none⟩ = some v := (p.h.cell (p := ⟨b, k, none⟩) hb).trans h
theorem Bw.cellAt {w : World} (p : Bw w) {a : Addr} {v : Value} (hb : a.block < w.heap.size) (h : w.cell? a = some v) : p.to.cell? a = some v := (p.h.cell hb).trans h
theorem wp_region_quiet_below {P : Program} {id : Nat} {Q : Exit → Act → World → Prop} {a : Act} {w : World} {l : List Oper} (hm : P.follows .mixedOrders = true) (hB : Region.lexB .any l.toArray = true)
    (h : wpQuiet P l.toArray (fun w' => ∃ p : Bw w, w' = p.to) (fun a' => ∀ w', (∃ p : Bw w, w' = p.to) → Q .normal a' w') l a) : (Code.region id l.toArray true).wp P Q a w :=
  wp_region_quiet (C := fun w' => ∃ p : Bw w, w' = p.to) hm hB ⟨⟨{ w with drawn := w.drawn + 1 }, ⟨rfl, rfl, rfl, Nat.le_refl _, fun _ _ => rfl⟩⟩, rfl⟩ (by simpa using h)
theorem below_of {P : Program} {f : FuncId} {args : Array Value} {w : World} {p : Bw w} {v : Value} (h : Calls P f args p.to fun e w' => e = .returned v ∧ Below p.to.heap.size p.to w') :
    Calls P f args p.to fun e w' => e = .returned v ∧ ∃ q : Bw w, w' = q.to :=
  h.mono fun _ w' ⟨he, hb⟩ => ⟨he, ⟨w', p.h.trans (hb.mono p.h.size)⟩, rfl⟩
theorem same_of {P : Program} {f : FuncId} {args : Array Value} {w : World} {p : Bw w} {v : Value} (h : Calls P f args p.to fun e w' => e = .returned v ∧ p.to = w') :
    Calls P f args p.to fun e w' => e = .returned v ∧ ∃ q : Bw w, w' = q.to :=
  h.mono fun _ _ ⟨he, hb⟩ => ⟨he, p, hb.symm⟩
end Go.Proofs.YtpbphhpldlckbaaGreat
