/- take.Caught$1, Caught. take.Caught at squash.Unpack$1. take.Caught at block.peek$1. take: the first byte. record.Join. -/
import Derived.Test.YtpbphhpldlckbaaGreatSc15
import Derived.Test.YtpbphhpldlckbaaGreatSc13
namespace Go.Proofs.YtpbphhpldlckbaaGreat
namespace Tk
open Go.RowKit
open Bt (Frm)

/-- Of the old blocks just those of a list may have turned. -/
structure Keep (w w' : World) (L : List Nat) : Prop where
  os : w'.os = w.os
  tape : w'.tape = w.tape
  output : w'.output = w.output
  size : w.heap.size ≤ w'.heap.size
  blk : ∀ k, k < w.heap.size → k ∉ L → w'.heap[k]? = w.heap[k]?
section
variable {w w' w2 : World} {L L' : List Nat}
theorem Keep.refl (w : World) (L : List Nat) : Keep w w L := ⟨rfl, rfl, rfl, Nat.le_refl _, fun _ _ _ => rfl⟩
theorem Keep.trans (h : Keep w w' L) (k : Keep w' w2 L) : Keep w w2 L :=
  ⟨k.os.trans h.os, k.tape.trans h.tape, k.output.trans h.output, Nat.le_trans h.size k.size, fun i hi hl => (k.blk i (Nat.lt_of_lt_of_le hi h.size) hl).trans (h.blk i hi hl)⟩
theorem Keep.more (h : Keep w w' L) (hl : ∀ k ∈ L, k ∈ L') : Keep w w' L' := ⟨h.os, h.tape, h.output, h.size, fun k hk hn => h.blk k hk (fun e => hn (hl k e))⟩
theorem Keep.set (h : Keep w w' L) (p : Addr) (hp : p.block ∈ L ∨ w.heap.size ≤ p.block) (u : Value) : Keep w (w'.setCell p u) L :=
  ⟨h.os, h.tape, h.output, by simpa [World.setCell] using h.size, fun k hk hl => (Below.heap_setCell w' p u k (by
    intro e
    rcases hp with hp | hp
    · rw [← e] at hp; exact hl hp
    · omega)).trans (h.blk k hk hl)⟩
theorem Keep.alloc (h : Keep w w' L) (o : Obj) : Keep w (w'.alloc o) L :=
  ⟨h.os, h.tape, h.output, by have := h.size; simp; omega, fun k hk hl => (Below.heap_alloc w' o k (by have := h.size; omega)).trans (h.blk k hk hl)⟩
theorem Keep.drew (h : Keep w w' L) : Keep w w'.drew L := ⟨h.os, h.tape, h.output, h.size, h.blk⟩
theorem Keep.drewN (h : Keep w w' L) (n : Nat) : Keep w (w'.drewN n) L := ⟨h.os, h.tape, h.output, h.size, h.blk⟩
theorem Keep.of_frm {b : Nat} (h : Frm w w' b none) (hb : b ∈ L) : Keep w w' L := ⟨h.os, h.tape, h.output, h.size, fun k hk hl => h.blk k hk (fun e => hl (by rw [e]; exact hb)) (by simp)⟩
theorem Keep.of_below (h : Below w.heap.size w w') : Keep w w' L := ⟨h.os, h.tape, h.output, h.size, fun k hk _ => h.block k hk⟩
theorem Keep.below {B : Nat} (h : Keep w w' L) (hB : B ≤ w.heap.size) (hl : ∀ k ∈ L, B ≤ k) : Below B w w' := ⟨h.os, h.tape, h.output, h.size, fun k hk => h.blk k (by omega) (fun e => by have := hl k e; omega)⟩
theorem Keep.var {b : Nat} {t : TypeId} {v : Value} (h : Keep w w' L) (hv : Var w b t v) (hb : b ∉ L) : Var w' b t v := (h.blk b hv.lt hb).trans hv
theorem Keep.ta {b p : Nat} {s : ByteArray} (h : Keep w w' L) (hv : Ta w b s p) (hb : b ∉ L) : Ta w' b s p := (h.blk b hv.lt hb).trans hv
end

theorem tmps_idle (a b : Addr) (v : Value) : #[Value.pointer (some a), Value.pointer (some b)] ++ ((Array.replicate 18 undef).setIfInBounds 3 v).setIfInBounds 0 v = #[.pointer (some a), .pointer (some b), v, undef, undef, v, undef, undef, undef, undef, undef, undef, undef, undef, undef, undef, undef, undef, undef, undef] := by kernel_rfl
set_option maxHeartbeats 3200000 in
theorem catch_idle (a b : Addr) (w : World) :
    CallsD Tryz.prog 85 #[.pointer (some a), .pointer (some b)] .returning w fun e u' w' => e = .returned (.tuple #[]) ∧ u' = .returning ∧ w' = w := by
  refine callsD_of_wpS Tryz.func85 rfl fun c₀ cs hu => ?_
  apply wpS_seq
  apply wpS_region
  simp [wpOpsS, go_sem, recoverD, hu, Tryz.ntmps85, Exit.thenS]
  rw [tmps_idle]
  refine wpS_of_wp ?_
  go_wp2_with fail
  cases c₀
  simp_all [bodyPostS, results, Tryz.results85]
theorem assert_ok (t : TypeId) (v : Value) (w : World) : (Instr.typeAssert (.iface 150 v) t 150 true).run Tryz.prog w = .ok (.tuple #[v, .bool true]) w := by
  simp [Instr.typeAssert, run_underlying Tryz.underlying150]
set_option maxHeartbeats 3200000 in
set_option maxRecDepth 100000 in
theorem catch_fault (ba bb : Nat) (x : Int) (p : Nat) (w : World) (u1 u2 : Value) (h1 : Var w ba 26 u1) (h2 : Var w bb 3 u2) (hne : ba ≠ bb) :
    CallsD Tryz.prog 85 #[.pointer (some ⟨ba, 0, none⟩), .pointer (some ⟨bb, 0, none⟩)] (.panicking [fault x p]) w fun e u' w' => e = .returned (.tuple #[]) ∧ u' = .panicking [{ fault x p with recovered := true }] ∧
      Var w' ba 26 (.int .i64 x) ∧ Var w' bb 3 (.int .i64 (p : Int)) ∧ Keep w w' [ba, bb] := by
  have mixed : Tryz.prog.follows .mixedOrders = true := by kernel_rfl
  refine callsD_of_wpS Tryz.func85 rfl fun c₀ cs hu => ?_
  apply wpS_seq
  apply wpS_region
  simp [wpOpsS, go_sem, recoverD, hu, Tryz.ntmps85, Exit.thenS, fault]
  rw [tmps_idle]
  refine wpS_of_wp ?_
  have hta := fun (t : TypeId) (w : World) => assert_ok t (.agg #[.int .i64 x, .int .i64 (p : Int)]) w
  have hc1 := h1.cell
  have hf1 := h1.frozen
  have hc2 := h2.cell
  have hf2 := h2.frozen
  have hl1 := h1.lt
  have hl2 := h2.lt
  have HX := Lib.hid (And.intro h1 h2)
  clear h1 h2
  go_wp2_with fail
  go_region
  all_goals
    go_wp2_with fail
    cases c₀
    simp [bodyPostS, results, Tryz.results85]
    exact ⟨(((HX.out.1.set_ _).far (p := ⟨bb, 0, none⟩) hne _).alloc _).drew, (((HX.out.2.far (p := ⟨ba, 0, none⟩) (Ne.symm hne) _).set_ _).alloc _).drew,
      ((((Keep.refl w [ba, bb]).set ⟨ba, 0, none⟩ (.inl (by simp)) _).set ⟨bb, 0, none⟩ (.inl (by simp)) _).alloc _).drew⟩
end Tk
end Go.Proofs.YtpbphhpldlckbaaGreat
namespace Go.Proofs.YtpbphhpldlckbaaGreat
namespace Tk
open Go.RowKit
open Bt (Frm)

/-- The world in which a caught function begins. -/
def wC (w : World) : World := (w.alloc (.cells #[.int .i64 0] 26)).alloc (.cells #[.int .i64 0] 3)
theorem wC_keep (w : World) : Below w.heap.size w (wC w) := ((Below.refl _ _).alloc (Nat.le_refl _) _).alloc (by simp) _
theorem wC_vars (w : World) : Var (wC w) w.heap.size 26 (.int .i64 0) ∧ Var (wC w) (w.heap.size + 1) 3 (.int .i64 0) := by
  constructor
  · exact (Var.new w _ _).alloc _
  · have := Var.new (w.alloc (.cells #[.int .i64 0] 26)) 3 (.int .i64 0)
    rwa [show (w.alloc (.cells #[.int .i64 0] 26)).heap.size = w.heap.size + 1 by simp] at this

set_option maxHeartbeats 6400000 in
set_option maxRecDepth 100000 in
theorem caught_ok (w : World) (caps : Array Value) (G : World → Prop) (hG : ∀ w', G w' → Var w' w.heap.size 26 (.int .i64 0) ∧ Var w' (w.heap.size + 1) 3 (.int .i64 0))
    (hf : Calls Tryz.prog 86 caps (wC w) fun e w' => e = .returned (.tuple #[]) ∧ G w') :
    Calls Tryz.prog 64 #[.func (.func 86) #[] caps] w fun e w' => e = .returned (.tuple #[.int .i64 0, .int .i64 0]) ∧ ∃ w2, G w2 ∧ Keep w2 w' [w.heap.size, w.heap.size + 1] := by
  have mixed : Tryz.prog.follows .mixedOrders = true := by kernel_rfl
  have hmf : ∀ (fn : Fn) (first cap : Array Value) (w : World), (Instr.makeFunc fn first cap).run Tryz.prog w = .ok (.func fn first cap) w := fun _ _ _ _ => rfl
  have HF := Lib.hid hf
  have HG := Lib.hid hG
  clear hf hG
  go_enter_defers Tryz.func64, Tryz.ntmps64
  go_wp2_with fail
  refine HF.out.mono ?_
  rintro e1 w1 ⟨rfl, h1⟩
  obtain ⟨v1, v2⟩ := HG.out w1 h1
  have c1 := v1.cell
  have f1 := v1.frozen
  have c2 := v2.cell
  have f2 := v2.frozen
  have HX := Lib.hid (And.intro h1 (And.intro v1 v2))
  clear h1 v1 v2 HF HG
  go_wp2_with fail
  refine leaves_cons (f := 85) (args := #[.pointer (some ⟨w.heap.size, 0, none⟩), .pointer (some ⟨w.heap.size + 1, 0, none⟩)]) (by simp) (by simp [go_sem]) ?_
  refine (catch_idle ⟨w.heap.size, 0, none⟩ ⟨w.heap.size + 1, 0, none⟩ _).mono ?_
  rintro e u' w'' ⟨rfl, rfl, rfl⟩
  have n1 : w.heap.size ≠ w.heap.size + 1 := by omega
  have u1 := (HX.out.2.1.set_ (.int .i64 0)).far (p := ⟨w.heap.size + 1, 0, none⟩) n1 (.int .i64 0)
  have u2 := (HX.out.2.2.far (p := ⟨w.heap.size, 0, none⟩) (Ne.symm n1) (.int .i64 0)).set_ (.int .i64 0)
  have hk : Keep w1 ((w1.setCell ⟨w.heap.size, 0, none⟩ (.int .i64 0)).setCell ⟨w.heap.size + 1, 0, none⟩ (.int .i64 0)) [w.heap.size, w.heap.size + 1] :=
    ((Keep.refl w1 _).set ⟨w.heap.size, 0, none⟩ (.inl (by simp)) _).set ⟨w.heap.size + 1, 0, none⟩ (.inl (by simp)) _
  have d1 := u1.cell
  have d2 := u2.cell
  simp [Leaves, settle, results, Tryz.results64, go_sem, d1, d2]
  exact ⟨w1, HX.out.1, hk⟩

set_option maxHeartbeats 6400000 in
set_option maxRecDepth 100000 in
theorem caught_no (w : World) (caps : Array Value) (x : Int) (G : World → Prop) (hG : ∀ w', G w' → Var w' w.heap.size 26 (.int .i64 0) ∧ Var w' (w.heap.size + 1) 3 (.int .i64 0))
    (hf : Calls Tryz.prog 86 caps (wC w) fun e w' => (∃ p, e = .panicked [fault x p]) ∧ G w') :
    Calls Tryz.prog 64 #[.func (.func 86) #[] caps] w fun e w' => (∃ p : Int, e = .returned (.tuple #[.int .i64 x, .int .i64 p])) ∧ ∃ w2, G w2 ∧ Keep w2 w' [w.heap.size, w.heap.size + 1] := by
  have mixed : Tryz.prog.follows .mixedOrders = true := by kernel_rfl
  have hmf : ∀ (fn : Fn) (first cap : Array Value) (w : World), (Instr.makeFunc fn first cap).run Tryz.prog w = .ok (.func fn first cap) w := fun _ _ _ _ => rfl
  have HF := Lib.hid hf
  have HG := Lib.hid hG
  clear hf hG
  go_enter_defers Tryz.func64, Tryz.ntmps64
  go_wp2_with fail
  refine HF.out.mono ?_
  rintro e1 w1 ⟨⟨p, rfl⟩, h1⟩
  obtain ⟨v1, v2⟩ := HG.out w1 h1
  have n1 : w.heap.size ≠ w.heap.size + 1 := by omega
  refine leaves_cons (f := 85) (args := #[.pointer (some ⟨w.heap.size, 0, none⟩), .pointer (some ⟨w.heap.size + 1, 0, none⟩)]) (by simp) (by simp [go_sem]) ?_
  refine (catch_fault w.heap.size (w.heap.size + 1) x p w1 _ _ v1 v2 n1).mono ?_
  rintro e u' w'' ⟨rfl, rfl, u1, u2, hk⟩
  have d1 := u1.cell
  have d2 := u2.cell
  simp [Leaves, settle, results, Tryz.results64, go_sem, d1, d2]
  exact ⟨w1, h1, hk⟩
end Tk
end Go.Proofs.YtpbphhpldlckbaaGreat
namespace Go.Proofs.YtpbphhpldlckbaaGreat
namespace Tk
open Go.RowKit
open Bt (Frm)

set_option maxHeartbeats 6400000 in
set_option maxRecDepth 100000 in
theorem caughtB_ok (w : World) (caps : Array Value) (G : World → Prop) (hG : ∀ w', G w' → Var w' w.heap.size 26 (.int .i64 0) ∧ Var w' (w.heap.size + 1) 3 (.int .i64 0))
    (hf : Calls Tryz.prog 61 caps (wC w) fun e w' => e = .returned (.tuple #[]) ∧ G w') :
    Calls Tryz.prog 64 #[.func (.func 61) #[] caps] w fun e w' => e = .returned (.tuple #[.int .i64 0, .int .i64 0]) ∧ ∃ w2, G w2 ∧ Keep w2 w' [w.heap.size, w.heap.size + 1] := by
  have mixed : Tryz.prog.follows .mixedOrders = true := by kernel_rfl
  have hmf : ∀ (fn : Fn) (first cap : Array Value) (w : World), (Instr.makeFunc fn first cap).run Tryz.prog w = .ok (.func fn first cap) w := fun _ _ _ _ => rfl
  have HF := Lib.hid hf
  have HG := Lib.hid hG
  clear hf hG
  go_enter_defers Tryz.func64, Tryz.ntmps64
  go_wp2_with fail
  refine HF.out.mono ?_
  rintro e1 w1 ⟨rfl, h1⟩
  obtain ⟨v1, v2⟩ := HG.out w1 h1
  have c1 := v1.cell
  have f1 := v1.frozen
  have c2 := v2.cell
  have f2 := v2.frozen
  have HX := Lib.hid (And.intro h1 (And.intro v1 v2))
  clear h1 v1 v2 HF HG
  go_wp2_with fail
  refine leaves_cons (f := 85) (args := #[.pointer (some ⟨w.heap.size, 0, none⟩), .pointer (some ⟨w.heap.size + 1, 0, none⟩)]) (by simp) (by simp [go_sem]) ?_
  refine (catch_idle ⟨w.heap.size, 0, none⟩ ⟨w.heap.size + 1, 0, none⟩ _).mono ?_
  rintro e u' w'' ⟨rfl, rfl, rfl⟩
  have n1 : w.heap.size ≠ w.heap.size + 1 := by omega
  have u1 := (HX.out.2.1.set_ (.int .i64 0)).far (p := ⟨w.heap.size + 1, 0, none⟩) n1 (.int .i64 0)
  have u2 := (HX.out.2.2.far (p := ⟨w.heap.size, 0, none⟩) (Ne.symm n1) (.int .i64 0)).set_ (.int .i64 0)
  have hk : Keep w1 ((w1.setCell ⟨w.heap.size, 0, none⟩ (.int .i64 0)).setCell ⟨w.heap.size + 1, 0, none⟩ (.int .i64 0)) [w.heap.size, w.heap.size + 1] :=
    ((Keep.refl w1 _).set ⟨w.heap.size, 0, none⟩ (.inl (by simp)) _).set ⟨w.heap.size + 1, 0, none⟩ (.inl (by simp)) _
  have d1 := u1.cell
  have d2 := u2.cell
  simp [Leaves, settle, results, Tryz.results64, go_sem, d1, d2]
  exact ⟨w1, HX.out.1, hk⟩

set_option maxHeartbeats 6400000 in
set_option maxRecDepth 100000 in
theorem caughtB_no (w : World) (caps : Array Value) (x : Int) (G : World → Prop) (hG : ∀ w', G w' → Var w' w.heap.size 26 (.int .i64 0) ∧ Var w' (w.heap.size + 1) 3 (.int .i64 0))
    (hf : Calls Tryz.prog 61 caps (wC w) fun e w' => (∃ p, e = .panicked [fault x p]) ∧ G w') :
    Calls Tryz.prog 64 #[.func (.func 61) #[] caps] w fun e w' => (∃ p : Int, e = .returned (.tuple #[.int .i64 x, .int .i64 p])) ∧ ∃ w2, G w2 ∧ Keep w2 w' [w.heap.size, w.heap.size + 1] := by
  have mixed : Tryz.prog.follows .mixedOrders = true := by kernel_rfl
  have hmf : ∀ (fn : Fn) (first cap : Array Value) (w : World), (Instr.makeFunc fn first cap).run Tryz.prog w = .ok (.func fn first cap) w := fun _ _ _ _ => rfl
  have HF := Lib.hid hf
  have HG := Lib.hid hG
  clear hf hG
  go_enter_defers Tryz.func64, Tryz.ntmps64
  go_wp2_with fail
  refine HF.out.mono ?_
  rintro e1 w1 ⟨⟨p, rfl⟩, h1⟩
  obtain ⟨v1, v2⟩ := HG.out w1 h1
  have n1 : w.heap.size ≠ w.heap.size + 1 := by omega
  refine leaves_cons (f := 85) (args := #[.pointer (some ⟨w.heap.size, 0, none⟩), .pointer (some ⟨w.heap.size + 1, 0, none⟩)]) (by simp) (by simp [go_sem]) ?_
  refine (catch_fault w.heap.size (w.heap.size + 1) x p w1 _ _ v1 v2 n1).mono ?_
  rintro e u' w'' ⟨rfl, rfl, u1, u2, hk⟩
  have d1 := u1.cell
  have d2 := u2.cell
  simp [Leaves, settle, results, Tryz.results64, go_sem, d1, d2]
  exact ⟨w1, h1, hk⟩
end Tk
end Go.Proofs.YtpbphhpldlckbaaGreat
namespace Go.Proofs.YtpbphhpldlckbaaGreat
namespace Tk
open Go.RowKit
open Bt (Frm)

set_option maxHeartbeats 3200000 in
theorem ttext1_ok (w : World) (b : Nat) (s : ByteArray) (h : Ta w b s 0) (hs : s.size ≤ 1000000) (hd : 1 ≤ s.size) :
    Calls Tryz.prog 83 #[.pointer (some ⟨b, 0, none⟩), .int .i64 1] w fun e w' => e = .returned (.string (s.extract 0 1)) ∧ Ta w' b s 1 ∧ Keep w w' [b] := by
  have mixed : Tryz.prog.follows .mixedOrders = true := by kernel_rfl
  have hL := left_any w b 0 s h hs (by omega)
  rw [Nat.sub_zero] at hL
  have HL := Lib.hid hL
  have H : Aside (Ta w b s 0) := h
  have hdp : ¬ (s.size : Int) < 1 := by omega
  have hlp : 0 < s.size := hd
  clear hL h
  go_enter Tryz.func83, Tryz.ntmps83
  go_wp2_with fail
  refine HL.out.mono ?_
  rintro e1 w1 ⟨rfl, m, rfl⟩
  have hta : Ta (w.drewN m) b s 0 := H.out
  have hc1 := hta.c1
  have hf1 := hta.fz 1
  have hta2 : Ta ((w.drewN m).setCell ⟨b, 1, none⟩ (.int .i64 1)) b s 1 := hta.set1 1
  have hkp : Keep w ((w.drewN m).setCell ⟨b, 1, none⟩ (.int .i64 1)) [b] := ((Keep.refl w _).drewN m).set ⟨b, 1, none⟩ (.inl (by simp)) _
  have HF := Lib.hid (And.intro hta2 hkp)
  have d0 := hta2.c0
  have d1 : ((w.drewN m).setCell ⟨b, 1, none⟩ (.int .i64 1)).cell? ⟨b, 1, none⟩ = some (.int .i64 1) := hta2.c1
  clear hta hkp hta2
  have hc1' : (w.drewN m).cell? ⟨b, 1, none⟩ = some (.int .i64 0) := hc1
  clear hc1
  go_wp2_with fail
  generalize (w.drewN m).setCell ⟨b, 1, none⟩ (.int .i64 1) = w2 at *
  have i1 : (1 : Int) ≤ (s.size : Int) := by omega
  clear hc1' hf1
  go_quiet (fail)
  go_wp2_with fail
  go_ret
  exact ⟨rfl, HF.out.1, HF.out.2.drewN _⟩
set_option maxHeartbeats 3200000 in
theorem ttext1_no (w : World) (b : Nat) (s : ByteArray) (h : Ta w b s 0) (hs : s.size ≤ 1000000) (hd : s.size = 0) :
    Calls Tryz.prog 83 #[.pointer (some ⟨b, 0, none⟩), .int .i64 1] w fun e w' => e = .panicked [fault 4 0] ∧ Keep w w' [b] := by
  have mixed : Tryz.prog.follows .mixedOrders = true := by kernel_rfl
  have hL := left_any w b 0 s h hs (by omega)
  rw [hd] at hL
  have HL := Lib.hid hL
  have HC := Lib.hid (fun m => check_no (w.drewN m) b 0 s 4 h (by decide))
  clear hL h hd
  go_enter Tryz.func83, Tryz.ntmps83
  go_wp2_with fail
  refine HL.out.mono ?_
  rintro e1 w1 ⟨rfl, m, rfl⟩
  go_wp2_with fail
  refine (HC.out m).mono ?_
  rintro e1 w1 ⟨rfl, rfl⟩
  exact ⟨rfl, rfl, (Keep.refl w _).drewN m⟩
set_option maxHeartbeats 3200000 in
theorem byte_ok (w : World) (b : Nat) (s : ByteArray) (h : Ta w b s 0) (hs : s.size ≤ 1000000) (c : UInt8) (r : List UInt8) (hc : s.data.toList = c :: r) :
    Calls Tryz.prog 62 #[.pointer (some ⟨b, 0, none⟩)] w fun e w' => e = .returned (.int .i64 (c.toNat : Int)) ∧ Ta w' b s 1 ∧ Keep w w' [b] := by
  have mixed : Tryz.prog.follows .mixedOrders = true := by kernel_rfl
  have hd : 1 ≤ s.size := by
    have : s.data.toList.length = s.size := rfl
    rw [hc, List.length_cons] at this; omega
  have HT := Lib.hid (ttext1_ok w b s h hs hd)
  have hx : s.extract 0 1 = ⟨#[c]⟩ := by
    apply ByteArray.ext
    apply Array.ext'
    rw [ByteArray.data_extract, Array.toList_extract, hc]
    simp [List.extract_eq_take_drop]
  rw [hx] at HT
  have hcb := c.toNat_lt
  clear hx h hc hd
  go_enter Tryz.func62, Tryz.ntmps62
  go_wp2_with fail
  refine HT.out.mono ?_
  rintro e1 w1 ⟨rfl, hta, hk⟩
  have HX := Lib.hid (And.intro hta hk)
  clear hta hk
  go_wp2_with fail
  go_ret
  refine ⟨ret_int (k := .i64) ?_, HX.out⟩
  exact Vi.wrap64_nat c.toNat (by omega)
set_option maxHeartbeats 3200000 in
theorem byte_no (w : World) (b : Nat) (s : ByteArray) (h : Ta w b s 0) (hs : s.size ≤ 1000000) (hd : s.size = 0) :
    Calls Tryz.prog 62 #[.pointer (some ⟨b, 0, none⟩)] w fun e w' => e = .panicked [fault 4 0] ∧ Keep w w' [b] := by
  have mixed : Tryz.prog.follows .mixedOrders = true := by kernel_rfl
  have HT := Lib.hid (ttext1_no w b s h hs hd)
  clear h hd
  go_enter Tryz.func62, Tryz.ntmps62
  go_wp2_with fail
  refine HT.out.mono ?_
  rintro e1 w1 ⟨rfl, hk⟩
  exact ⟨rfl, rfl, hk⟩
end Tk
end Go.Proofs.YtpbphhpldlckbaaGreat
namespace Go.Proofs.YtpbphhpldlckbaaGreat
namespace Rd
open Go.RowKit Vi Bd

def jS (l : List (Int × Int × ByteArray)) : ByteArray := if jE l = 0 then ⟨(joinB l).toArray⟩ else ⟨#[]⟩
theorem jS_ok {l : List (Int × Int × ByteArray)} (h : jE l = 0) : jS l = ⟨(joinB l).toArray⟩ := if_pos h
theorem jS_no {l : List (Int × Int × ByteArray)} (h : jE l ≠ 0) : jS l = ⟨#[]⟩ := if_neg h
theorem recB_le (r : Int × Int × ByteArray) (h : ok1 r = true) : (recB r).length ≤ 2027 := by
  rw [ok1_iff] at h
  have l1 := length_putV_le r.1.toNat 8 (by omega)
  have l2 := length_putV_le r.2.1.toNat 8 (by omega)
  have l3 := length_putV_le r.2.2.size 8 (by omega)
  have : r.2.2.data.toList.length = r.2.2.size := rfl
  unfold recB; simp only [List.length_append]; omega
theorem joinB_append (a b : List (Int × Int × ByteArray)) : joinB (a ++ b) = joinB a ++ joinB b := List.flatMap_append ..
theorem joinB_take {l : List (Int × Int × ByteArray)} {k : Nat} {r : Int × Int × ByteArray} (h : l[k]? = some r) : joinB (l.take (k + 1)) = joinB (l.take k) ++ recB r := by
  have e : l.take (k + 1) = l.take k ++ [r] := by rw [List.take_add_one, h]; rfl
  rw [e, joinB_append]; simp [joinB]
theorem joinB_le (l : List (Int × Int × ByteArray)) (k : Nat) : (joinB (l.take k)).length ≤ (joinB l).length := by
  conv => rhs; rw [← List.take_append_drop k l, joinB_append, List.length_append]
  omega

set_option maxHeartbeats 6400000 in
set_option maxRecDepth 100000 in
theorem join_any (A : Option Addr) (n c : Nat) (l : List (Int × Int × ByteArray)) (w : World) (hrd : Rd w w.heap.size 3 A n (fl3 l)) (hn : n ≤ 1000000) :
    Calls Tryz.prog 25 #[.slice A n c] w fun e w' => e = .returned (.tuple #[.string (jS l), .int .i64 (jE l)]) ∧ Below w.heap.size w w' := by
  have mixed : Tryz.prog.follows .mixedOrders = true := by kernel_rfl
  have hln := rd3_len hrd
  have HR := Lib.hid hrd
  have HW := Lib.hid (row_any A n c l w hrd (by omega))
  clear hrd
  by_cases hr : rowE none l = 0
  · have hok := rowE_ok l none hr
    have HOK := Lib.hid hok
    have hje : 20000 < (joinB l).length → jE l = 3 := fun h => by unfold jE; rw [if_neg (by simp [hr]), if_pos h]
    have hje2 : ¬ 20000 < (joinB l).length → jE l = 0 := fun h => by unfold jE; rw [if_neg (by simp [hr]), if_neg h]
    have HJ := Lib.hid (And.intro hje hje2)
    rw [hr] at HW
    have P := Lib.hid (fun q t d w h => rput_any q t d w h)
    clear hok hje hje2 hr
    go_enter Tryz.func25, Tryz.ntmps25
    go_wp2_with fail
    refine HW.out.mono ?_
    rintro e1 w1 ⟨rfl, hb1⟩
    have HB := Lib.hid (show Below w.heap.size w (w1.alloc (.cells #[.pointer none, .slice none 0 0] 93)) from hb1.alloc hb1.size _)
    have HBB := Lib.hid (bb_new w1)
    have hlt := hb1.size
    clear HW hb1
    go_wp2_with fail
    generalize hB : w1.heap.size = B at *
    have hB2 : B ≤ (w1.alloc (.cells #[.pointer none, .slice none 0 0] 93)).heap.size := by simp; omega
    clear hB
    generalize w1.alloc (.cells #[.pointer none, .slice none 0 0] 93) = w4 at *
    go_loopw [17] (fun v wr => ∃ k : Nat, v = .int .i64 k ∧ k ≤ n ∧ Hid (Bb wr B B (joinB (l.take k)) ∧ Below B w4 wr ∧ B ≤ wr.heap.size ∧ (joinB (l.take k)).length ≤ 20000)) (fun v _ => n - (intOf v).toNat)
    case atStart => exact ⟨0, by go_num, by omega, HBB.out, Below.refl _ _, hB2, by simp [joinB]⟩
    case round =>
      obtain ⟨k, rfl, hk, HX⟩ := hrel
      by_cases hkn : k < n
      · have hbw := HB.out.trans (HX.out.2.1.mono hlt)
        obtain ⟨ad, q, t, d, rfl, hbk, hx, hc0, hc1, hc2⟩ := rec3 (HR.out.below hbw) hkn
        have ho : ok1 (q, t, d) = true := HOK.out _ (List.mem_of_getElem? hx)
        have hoo := ho
        rw [ok1_iff] at hoo
        obtain ⟨q, rfl⟩ := Int.eq_ofNat_of_zero_le (show 0 ≤ q by have := hoo.1; simp only at this; omega)
        obtain ⟨t, rfl⟩ := Int.eq_ofNat_of_zero_le (show 0 ≤ t by have := hoo.2.2.1; simp only at this; omega)
        clear hoo hbw
        have hle := recB_le _ ho
        have HT := Lib.hid (joinB_take hx)
        have hlen := HX.out.2.2.2
        have HL := Lib.hid (joinB_le l (k + 1))
        go_wp2_with fail
        refine (P.out q t d _ ho).mono ?_
        rintro e2 w2 ⟨rfl, hb2⟩
        obtain ⟨sb, hsb⟩ : ∃ sb : ByteArray, sb = ⟨(recB ((q : Int), (t : Int), d)).toArray⟩ := ⟨_, rfl⟩
        have hs1 : sb.size = (recB ((q : Int), (t : Int), d)).length := by rw [hsb]; simp [ByteArray.size]
        have hs2 : sb.data.toList = recB ((q : Int), (t : Int), d) := by rw [hsb]
        have hT2 := congrArg List.length HT.out
        rw [List.length_append] at hT2
        rw [← hsb]
        have HBB2 := Lib.hid (Bb_below (HX.out.1.keep (w' := wr.alloc (.cells #[.int .i64 (q : Int), .int .i64 (t : Int), .string d] 40)) (by simp) fun k _ hk => Below.heap_alloc wr _ k hk) hb2)
        have HB2 := Lib.hid (ext_trans (ext_alloc wr _) hb2)
        have hLen := Lib.hid (len_any B B _ w2 HBB2.out)
        have HB3 := Lib.hid (HX.out.2.1.trans (HB2.out.mono HX.out.2.2.1))
        have hB3 : B ≤ w2.heap.size := by have := HB2.out.size; have := HX.out.2.2.1; omega
        have HBW := Lib.hid (HB.out.trans (HB3.out.mono hlt))
        have HS := Lib.hid hs2
        generalize hjl : (joinB (l.take k)).length = jl at *
        have hjl2 : jl ≤ 20000 := HX.out.2.2.2
        have HJL := Lib.hid hjl
        have hbd : sb.size ≤ 2027 := by omega
        have HT2 := Lib.hid hT2
        have HS1 := Lib.hid hs1
        clear hsb hs1 hs2 hT2 hb2 hle hjl P HOK ho HX hc0 hc1 hc2
        go_wp2_with fail
        by_cases hbig : 20000 < jl + sb.size
        · have hj3 : jE l = 3 := HJ.out.1 (by have := HL.out; have := HT2.out; have := HS1.out; omega)
          have hcmp : (20000 : Int) - (jl : Int) < (sb.size : Int) := by omega
          go_wp2_with fail
          refine hLen.out.mono ?_
          rintro e3 w3 ⟨rfl, rfl⟩
          go_wp2_with fail
          go_ret2
          rw [jS_no (by rw [hj3]; decide), hj3]
          exact ⟨rfl, HBW.out⟩
        · have hcmp : ¬ (20000 : Int) - (jl : Int) < (sb.size : Int) := by omega
          have HWr := Lib.hid (write_any B B (joinB (l.take k)) sb w2 HBB2.out (by have := HJL.out; omega) hB3)
          go_wp2_with fail
          refine hLen.out.mono ?_
          rintro e3 w3 ⟨rfl, rfl⟩
          go_wp2_with fail
          refine HWr.out.mono ?_
          rintro e4 w5 ⟨rfl, hbb5, hb5⟩
          rw [HS.out, ← HT.out] at hbb5
          have HX5 := Lib.hid (show Bb w5 B B (joinB (l.take (k + 1))) ∧ Below B w4 w5 ∧ B ≤ w5.heap.size ∧ (joinB (l.take (k + 1))).length ≤ 20000 from
            ⟨hbb5, HB3.out.trans hb5, by have := hb5.size; omega, by have := HT2.out; have := HS1.out; omega⟩)
          clear hbb5 hb5 HWr HBB2 HB3 HB2 hLen HS HT HT2 HS1 HJL hx
          go_wp2_with fail
          exact ⟨⟨k + 1, by go_num, by omega, HX5.out⟩, by simp [intOf]; omega⟩
      · obtain rfl : k = n := by omega
        have ht : l.take k = l := List.take_of_length_le (by omega)
        have HX2 := Lib.hid HX.out
        rw [ht] at HX2
        have hj0 : jE l = 0 := HJ.out.2 (by have := HX2.out.2.2.2; omega)
        have HJ0 := Lib.hid hj0
        have HS := Lib.hid (string_any B B _ wr HX2.out.1 HX2.out.2.2.1)
        clear HX ht hj0 P HOK
        go_wp2_with fail
        refine HS.out.mono ?_
        rintro e2 w2 ⟨rfl, hb2⟩
        have HB5 := Lib.hid (HB.out.trans ((HX2.out.2.1.trans hb2).mono hlt))
        clear hb2 HS
        go_wp2_with fail
        go_ret2
        rw [jS_ok HJ0.out, HJ0.out]
        exact ⟨rfl, HB5.out⟩
  · have hje : jE l = rowE none l := by unfold jE; rw [if_pos hr]
    have hjs := jS_no (l := l) (by rw [hje]; exact hr)
    rw [hje, hjs]
    generalize rowE none l = x at *
    have hb1 : (x != 0) = true := by rw [bne_iff_ne]; exact hr
    have hb2 : (x == 0) = false := by rw [beq_eq_false_iff_ne]; exact hr
    clear hje hjs
    go_enter Tryz.func25, Tryz.ntmps25
    go_wp2_with fail
    refine HW.out.mono ?_
    rintro e1 w1 ⟨rfl, hb1⟩
    have HB1 := Lib.hid hb1
    clear hb1
    go_wp2_with fail
    go_ret2
    exact ⟨rfl, HB1.out⟩
end Rd
end Go.Proofs.YtpbphhpldlckbaaGreat
