/- varvelaw45: three, equal, awake. varvelaw45.equal. varvelaw45.TallySums. -/
import Derived.Test.YtaockieikcibdaaTm06
import Derived.Test.YtaockieikcibdaaTm09
import Derived.Test.YtaockieikcibdaaTm02
import Derived.Test.YtaockieikcibdaaTm04
namespace Go.Proofs.Ytaockieikcibdaa
namespace Ta
open Go.RowKit Go.Maps Go.Sort Rd

theorem buk_inv {S : List Bu} (h : bukE S = 0) : S.length ≤ 1000 ∧ S.all okB = true := by
  unfold bukE at h
  split at h
  · cases h
  · split at h
    · rename_i h1 h2; exact ⟨by omega, h2⟩
    · cases h
theorem chk_of {S : List Bu} (hl : S.length ≤ 1000) (ho : S.all okB = true) (ha : Asc S) : chk S = 0 :=
  chk_yes ⟨hl, fun _ x _ hx => List.all_eq_true.1 ho x (List.mem_of_getElem? hx), fun j x y _ hx hy => asc_at ha j x y hx hy⟩
theorem chk_buk {L : List Bu} (h : bukE (gat L) = 0) : chk (gat L) = 0 := by
  obtain ⟨h1, h2⟩ := buk_inv h
  exact chk_of h1 h2 (gat_asc L)

/-- Three records. -/
def L3 : List (Int × Int × ByteArray) := [(1, 3, ⟨#[97]⟩), (2, 4, ⟨#[98, 99]⟩), (3, 11, ⟨#[100]⟩)]
def B2 : List Bu := [(0, 2, 3), (10, 1, 1)]
set_option maxHeartbeats 1600000 in
theorem three_any (w : World) : Calls Try.prog 23 #[] w fun e w' => (∃ A c, e = .returned (.slice A 3 c) ∧ Rd w' w'.heap.size 3 A 3 (fl3 L3)) ∧ Below w.heap.size w w' := by
  have mixed : Try.prog.follows .mixedOrders = true := by kernel_rfl
  go_enter Try.func23, Try.ntmps23
  go_wp2_with fail
  go_ret
  refine ⟨⟨_, 3, rfl, ?_⟩, ext_alloc w _⟩
  have h := Rd.of_own (World.ownsRow_lit (base := w.heap.size) (e := 51) (size := 3) w #[.int .i64 1, .int .i64 3, .string ⟨#[97]⟩, .int .i64 2, .int .i64 4, .string ⟨#[98, 99]⟩, .int .i64 3, .int .i64 11, .string ⟨#[100]⟩] 3 (Nat.le_refl _) (by simp [maxLen]) rfl)
  exact h
theorem of_three : ofE L3 10 = 0 ∧ ofL L3 10 = B2 := by decide +kernel
theorem of_three0 : ofE L3 0 = 2 ∧ ofL L3 0 = [] := by decide +kernel
theorem chk_B2 : chk B2 = 0 := chk_of (by decide) (by decide +kernel) (by unfold Asc; decide +kernel)
theorem mrg_B2 : mrgE B2 B2 = 0 ∧ mrgL B2 B2 = [(0, 4, 6), (10, 2, 2)] := by
  obtain ⟨h1, h2⟩ := mrg_yes ⟨chk_B2, chk_B2⟩
  rw [h1, h2]
  decide +kernel
theorem crs_B2 : crsE B2 100 = 0 ∧ crsL B2 100 = [(0, 3, 4)] := by
  obtain ⟨h1, h2⟩ := crs_yes (S := B2) (width := 100) ⟨chk_B2, by decide +kernel⟩
  rw [h1, h2]
  decide +kernel
theorem top_B2 : topN B2 1 = 1 ∧ (St.stab cKey B2).take 1 = [(0, 2, 3)] := by decide +kernel
theorem sum_B2 : sumB B2 = (0, 3, 4) := by
  rw [sumB_yes (x := (0, 2, 3)) chk_B2 rfl]
  decide +kernel
theorem cells3 {w : World} {B n k : Nat} {A : Option Addr} {l : List Bu} {x : Bu} (h : Rd w B 3 A n (flT l)) (hx : l[k]? = some x) :
    ∃ ad, A = some ad ∧ ad.block < B ∧ w.cell? (ad.add (k * 3)) = some (.int .i64 x.1) ∧ w.cell? ⟨(ad.add (k * 3)).block, (ad.add (k * 3)).off + 1, none⟩ = some (.int .i64 x.2.1) ∧ w.cell? ⟨(ad.add (k * 3)).block, (ad.add (k * 3)).off + 2, none⟩ = some (.int .i64 x.2.2) := by
  have hl := rdT_len h
  obtain ⟨ad, q, t, d, e, hb, hx', h0, h1, h2⟩ := recT h (show k < n by rw [← hl]; exact (List.getElem?_eq_some_iff.1 hx).1)
  rw [hx] at hx'
  cases hx'
  exact ⟨ad, e, hb, h0, h1, h2⟩
theorem ownT_some {w : World} {B n : Nat} {v : Value} {l : List Bu} (h : OwnT w B v l) (hn : l.length = n) (hl : 0 < n) : ∃ g c, v = .slice (some ⟨g, 0, none⟩) n c := by
  subst hn
  rcases h.2 with ⟨_, h0⟩ | ⟨g, cap, cur, hv, _⟩
  · omega
  · exact ⟨g, cap, hv⟩
theorem cellT {w : World} {B g n c j : Nat} {l : List Bu} {u : Value} (h : OwnT w B (.slice (some ⟨g, 0, none⟩) n c) l) (hj : (flT l)[j]? = some u) : w.cell? ⟨g, j, none⟩ = some u := by
  have hn : n = l.length := by
    rcases h.2 with ⟨hv, _⟩ | ⟨g', cap, cur, hv, _⟩
    · cases hv
    · cases hv; rfl
  subst hn
  have := World.ownsRow.cells (g := g) h rfl j _ hj
  rwa [Addr.add_lit, Nat.zero_add] at this
set_option maxHeartbeats 6400000 in
set_option maxRecDepth 100000 in
theorem awake_any (w : World) : Calls Try.prog 7 #[] w fun e w' => e = .returned (.bool true) ∧ RowKit.Below w.heap.size w w' := by
  have mixed : Try.prog.follows .mixedOrders = true := by kernel_rfl
  go_enter Try.func7, Try.ntmps7
  go_wp2_with fail
  refine (three_any _).mono ?_
  rintro e1 w1 ⟨⟨A1, c1, rfl, hr1⟩, hb1⟩
  have H1 := Lib.hid (of_any A1 3 c1 L3 10 w1 hr1 (by omega))
  rw [of_three.1, of_three.2] at H1
  have HB1 := Lib.hid hb1
  clear hr1 hb1
  go_wp2_with fail
  refine H1.out.mono ?_
  rintro e2 w2 ⟨⟨vl, rfl, ol⟩, hb2⟩
  obtain ⟨gl, cl, rfl⟩ := ownT_some ol (n := 2) rfl (by decide)
  have HB2 := Lib.hid (HB1.out.trans (hb2.mono HB1.out.size))
  have HL := Lib.hid ol
  clear ol hb2 H1
  go_wp2_with fail
  refine (three_any _).mono ?_
  rintro e3 w3 ⟨⟨A3, c3, rfl, hr3⟩, hb3⟩
  have H3 := Lib.hid (of_any A3 3 c3 L3 0 w3 hr3 (by omega))
  rw [of_three0.1, of_three0.2] at H3
  have HB3 := Lib.hid hb3
  clear hr3 hb3
  go_wp2_with fail
  refine H3.out.mono ?_
  rintro e4 w4 ⟨⟨v4, rfl, -⟩, hb4⟩
  have HB4 := Lib.hid (HB3.out.trans (hb4.mono HB3.out.size))
  have HL4 := Lib.hid (OwnT.below HL.out HB4.out (Nat.le_refl _))
  have hrl := Rd.of_own HL4.out
  have HM := Lib.hid (merge_any (some ⟨gl, 0, none⟩) 2 cl B2 (some ⟨gl, 0, none⟩) 2 cl B2 w4 hrl (by omega) hrl (by omega))
  rw [mrg_B2.1, mrg_B2.2] at HM
  have HB0 := Lib.hid (HB2.out.trans (HB4.out.mono HB2.out.size))
  clear hb4 hrl H3
  go_wp2_with fail
  refine HM.out.mono ?_
  rintro e5 w5 ⟨⟨vm, rfl, om⟩, hb5⟩
  obtain ⟨gm, cm, rfl⟩ := ownT_some om (n := 2) rfl (by decide)
  have HOM := Lib.hid om
  have HL5 := Lib.hid (OwnT.below HL4.out hb5 (Nat.le_refl _))
  have hrl5 := Rd.of_own HL5.out
  have HC := Lib.hid (coarse_any (some ⟨gl, 0, none⟩) 2 cl B2 100 w5 hrl5 (by omega))
  rw [crs_B2.1, crs_B2.2] at HC
  have HB5 := Lib.hid (HB0.out.trans (hb5.mono HB0.out.size))
  clear om hb5 hrl5 HM
  go_wp2_with fail
  refine HC.out.mono ?_
  rintro e6 w6 ⟨⟨vc, rfl, oc⟩, hb6⟩
  obtain ⟨gc, cc, rfl⟩ := ownT_some oc (n := 1) rfl (by decide)
  have HOC := Lib.hid oc
  have HL6 := Lib.hid (OwnT.below HL5.out hb6 (Nat.le_refl _))
  have HOM6 := Lib.hid (OwnT.below HOM.out hb6 (Nat.le_refl _))
  have HB6 := Lib.hid (HB5.out.trans (hb6.mono HB5.out.size))
  have HT := Lib.hid (top_any _ _ B2 1 w6 HL6.out (by decide))
  rw [top_B2.1, top_B2.2] at HT
  clear oc hb6 HC
  go_wp2_with fail
  refine HT.out.mono ?_
  rintro e7 w7 ⟨⟨At, ct, rfl, hrt⟩, hb7⟩
  obtain ⟨ad, rfl, hbt, t0, t1, t2⟩ := cells3 (k := 0) (x := (0, 2, 3)) hrt rfl
  have hL7 := OwnT.below HL6.out hb7 (Nat.le_refl _)
  have hM7 := OwnT.below HOM6.out hb7 (Nat.le_refl _)
  have hC7 := OwnT.below HOC.out hb7 (Nat.le_refl _)
  have hrl := Rd.of_own hL7
  have hcs : (w7.cell? ⟨gl, 0, none⟩ = some (.int .i64 0) ∧ w7.cell? ⟨gl, 1, none⟩ = some (.int .i64 2) ∧ w7.cell? ⟨gl, 2, none⟩ = some (.int .i64 3) ∧ w7.cell? ⟨gl, 3, none⟩ = some (.int .i64 10) ∧ w7.cell? ⟨gl, 4, none⟩ = some (.int .i64 1) ∧ w7.cell? ⟨gl, 5, none⟩ = some (.int .i64 1) ∧ w7.cell? ⟨gm, 1, none⟩ = some (.int .i64 4) ∧ w7.cell? ⟨gc, 1, none⟩ = some (.int .i64 3) ∧ w7.cell? ad = some (.int .i64 0) ∧ w7.cell? ⟨ad.block, ad.off + 1, none⟩ = some (.int .i64 2) ∧ w7.cell? ⟨ad.block, ad.off + 2, none⟩ = some (.int .i64 3)) :=
    ⟨cellT hL7 rfl, cellT hL7 rfl, cellT hL7 rfl, cellT hL7 rfl, cellT hL7 rfl, cellT hL7 rfl, cellT hM7 rfl, cellT hC7 rfl, t0, t1, t2⟩
  have hll : gl < w7.heap.size := (World.ownsRow.lt hL7 gl rfl).2
  have hlm : gm < w7.heap.size := (World.ownsRow.lt hM7 gm rfl).2
  have hlc : gc < w7.heap.size := (World.ownsRow.lt hC7 gc rfl).2
  have hC : ∀ wx, RowKit.Below w7.heap.size w7 wx → (wx.cell? ⟨gl, 0, none⟩ = some (.int .i64 0) ∧ wx.cell? ⟨gl, 1, none⟩ = some (.int .i64 2) ∧ wx.cell? ⟨gl, 2, none⟩ = some (.int .i64 3) ∧ wx.cell? ⟨gl, 3, none⟩ = some (.int .i64 10) ∧ wx.cell? ⟨gl, 4, none⟩ = some (.int .i64 1) ∧ wx.cell? ⟨gl, 5, none⟩ = some (.int .i64 1) ∧ wx.cell? ⟨gm, 1, none⟩ = some (.int .i64 4) ∧ wx.cell? ⟨gc, 1, none⟩ = some (.int .i64 3) ∧ wx.cell? ad = some (.int .i64 0) ∧ wx.cell? ⟨ad.block, ad.off + 1, none⟩ = some (.int .i64 2) ∧ wx.cell? ⟨ad.block, ad.off + 2, none⟩ = some (.int .i64 3)) ∧ RowKit.Below w7.heap.size w7 wx := fun wx hb =>
    ⟨⟨(hb.cell (p := ⟨gl, 0, none⟩) hll).trans hcs.1, (hb.cell (p := ⟨gl, 1, none⟩) hll).trans hcs.2.1, (hb.cell (p := ⟨gl, 2, none⟩) hll).trans hcs.2.2.1, (hb.cell (p := ⟨gl, 3, none⟩) hll).trans hcs.2.2.2.1, (hb.cell (p := ⟨gl, 4, none⟩) hll).trans hcs.2.2.2.2.1, (hb.cell (p := ⟨gl, 5, none⟩) hll).trans hcs.2.2.2.2.2.1,
      (hb.cell (p := ⟨gm, 1, none⟩) hlm).trans hcs.2.2.2.2.2.2.1, (hb.cell (p := ⟨gc, 1, none⟩) hlc).trans hcs.2.2.2.2.2.2.2.1, (hb.cell (p := ad) hbt).trans hcs.2.2.2.2.2.2.2.2.1, (hb.cell (p := ⟨ad.block, ad.off + 1, none⟩) hbt).trans hcs.2.2.2.2.2.2.2.2.2.1, (hb.cell (p := ⟨ad.block, ad.off + 2, none⟩) hbt).trans hcs.2.2.2.2.2.2.2.2.2.2⟩, hb⟩
  have HSd := Lib.hid (hC w7.drew ⟨rfl, rfl, rfl, Nat.le_refl _, fun _ _ => rfl⟩)
  have hS1 : ∀ wx, ((wx.cell? ⟨gl, 0, none⟩ = some (.int .i64 0) ∧ wx.cell? ⟨gl, 1, none⟩ = some (.int .i64 2) ∧ wx.cell? ⟨gl, 2, none⟩ = some (.int .i64 3) ∧ wx.cell? ⟨gl, 3, none⟩ = some (.int .i64 10) ∧ wx.cell? ⟨gl, 4, none⟩ = some (.int .i64 1) ∧ wx.cell? ⟨gl, 5, none⟩ = some (.int .i64 1) ∧ wx.cell? ⟨gm, 1, none⟩ = some (.int .i64 4) ∧ wx.cell? ⟨gc, 1, none⟩ = some (.int .i64 3) ∧ wx.cell? ad = some (.int .i64 0) ∧ wx.cell? ⟨ad.block, ad.off + 1, none⟩ = some (.int .i64 2) ∧ wx.cell? ⟨ad.block, ad.off + 2, none⟩ = some (.int .i64 3)) ∧ RowKit.Below w7.heap.size w7 wx) → Calls Try.prog 15 #[.slice (some ⟨gl, 0, none⟩) 2 cl] wx fun e w' => e = .returned (.agg #[.int .i64 0, .int .i64 3, .int .i64 4]) ∧ (w'.cell? ⟨gl, 0, none⟩ = some (.int .i64 0) ∧ w'.cell? ⟨gl, 1, none⟩ = some (.int .i64 2) ∧ w'.cell? ⟨gl, 2, none⟩ = some (.int .i64 3) ∧ w'.cell? ⟨gl, 3, none⟩ = some (.int .i64 10) ∧ w'.cell? ⟨gl, 4, none⟩ = some (.int .i64 1) ∧ w'.cell? ⟨gl, 5, none⟩ = some (.int .i64 1) ∧ w'.cell? ⟨gm, 1, none⟩ = some (.int .i64 4) ∧ w'.cell? ⟨gc, 1, none⟩ = some (.int .i64 3) ∧ w'.cell? ad = some (.int .i64 0) ∧ w'.cell? ⟨ad.block, ad.off + 1, none⟩ = some (.int .i64 2) ∧ w'.cell? ⟨ad.block, ad.off + 2, none⟩ = some (.int .i64 3)) ∧ RowKit.Below w7.heap.size w7 w' := by
    intro wx ⟨_, hb⟩
    have h := sum_any (some ⟨gl, 0, none⟩) 2 cl B2 wx (hrl.ext hb) (by omega)
    rw [sum_B2] at h
    refine h.mono ?_
    rintro e w' ⟨rfl, hb2⟩
    exact ⟨rfl, hC _ (hb.trans (hb2.mono hb.size))⟩
  have hS2 : ∀ wx, ((wx.cell? ⟨gl, 0, none⟩ = some (.int .i64 0) ∧ wx.cell? ⟨gl, 1, none⟩ = some (.int .i64 2) ∧ wx.cell? ⟨gl, 2, none⟩ = some (.int .i64 3) ∧ wx.cell? ⟨gl, 3, none⟩ = some (.int .i64 10) ∧ wx.cell? ⟨gl, 4, none⟩ = some (.int .i64 1) ∧ wx.cell? ⟨gl, 5, none⟩ = some (.int .i64 1) ∧ wx.cell? ⟨gm, 1, none⟩ = some (.int .i64 4) ∧ wx.cell? ⟨gc, 1, none⟩ = some (.int .i64 3) ∧ wx.cell? ad = some (.int .i64 0) ∧ wx.cell? ⟨ad.block, ad.off + 1, none⟩ = some (.int .i64 2) ∧ wx.cell? ⟨ad.block, ad.off + 2, none⟩ = some (.int .i64 3)) ∧ RowKit.Below w7.heap.size w7 wx) → Calls Try.prog 20 #[.slice (some ⟨gl, 0, none⟩) 2 cl] wx fun e w' => e = .returned (.int .i64 0) ∧ (w'.cell? ⟨gl, 0, none⟩ = some (.int .i64 0) ∧ w'.cell? ⟨gl, 1, none⟩ = some (.int .i64 2) ∧ w'.cell? ⟨gl, 2, none⟩ = some (.int .i64 3) ∧ w'.cell? ⟨gl, 3, none⟩ = some (.int .i64 10) ∧ w'.cell? ⟨gl, 4, none⟩ = some (.int .i64 1) ∧ w'.cell? ⟨gl, 5, none⟩ = some (.int .i64 1) ∧ w'.cell? ⟨gm, 1, none⟩ = some (.int .i64 4) ∧ w'.cell? ⟨gc, 1, none⟩ = some (.int .i64 3) ∧ w'.cell? ad = some (.int .i64 0) ∧ w'.cell? ⟨ad.block, ad.off + 1, none⟩ = some (.int .i64 2) ∧ w'.cell? ⟨ad.block, ad.off + 2, none⟩ = some (.int .i64 3)) ∧ RowKit.Below w7.heap.size w7 w' := by
    intro wx ⟨_, hb⟩
    have h := check_any (some ⟨gl, 0, none⟩) 2 cl B2 wx (hrl.ext hb) (by omega)
    rw [chk_B2] at h
    refine h.mono ?_
    rintro e w' ⟨rfl, hb2⟩
    exact ⟨rfl, hC _ (hb.trans (hb2.mono hb.size))⟩
  have HS1 := Lib.hid hS1
  have HS2 := Lib.hid hS2
  have HB7 := Lib.hid (HB6.out.trans (hb7.mono HB6.out.size))
  clear hC hS1 hS2 hcs hL7 hM7 hC7 hrl hll hlm hlc t0 t1 t2 hrt hb7 hbt HT
  go_wp2_with fail
  go_region_held3 (fun wx => (wx.cell? ⟨gl, 0, none⟩ = some (.int .i64 0) ∧ wx.cell? ⟨gl, 1, none⟩ = some (.int .i64 2) ∧ wx.cell? ⟨gl, 2, none⟩ = some (.int .i64 3) ∧ wx.cell? ⟨gl, 3, none⟩ = some (.int .i64 10) ∧ wx.cell? ⟨gl, 4, none⟩ = some (.int .i64 1) ∧ wx.cell? ⟨gl, 5, none⟩ = some (.int .i64 1) ∧ wx.cell? ⟨gm, 1, none⟩ = some (.int .i64 4) ∧ wx.cell? ⟨gc, 1, none⟩ = some (.int .i64 3) ∧ wx.cell? ad = some (.int .i64 0) ∧ wx.cell? ⟨ad.block, ad.off + 1, none⟩ = some (.int .i64 2) ∧ wx.cell? ⟨ad.block, ad.off + 2, none⟩ = some (.int .i64 3)) ∧ RowKit.Below w7.heap.size w7 wx) (first | exact HSd.out | assumption) (first | (go_at_call 15; refine (HS1.out _ (by first | exact HSd.out | assumption)).mono ?_; rintro e8 w8 ⟨rfl, hS8⟩) | (go_at_call 20; refine (HS2.out _ (by first | exact HSd.out | assumption)).mono ?_; rintro e9 w9 ⟨rfl, hS9⟩))
  have HB9 := Lib.hid (HB7.out.trans (hS9.2.mono HB7.out.size))
  clear hS8 hS9 HSd HS1 HS2
  go_wp2_with fail
  go_ret
  exact ⟨rfl, HB9.out⟩
end Ta
end Go.Proofs.Ytaockieikcibdaa
namespace Go.Proofs.Ytaockieikcibdaa
namespace Ta
open Go.RowKit

set_option maxHeartbeats 3200000 in
set_option maxRecDepth 100000 in
theorem equal_same (A1 : Option Addr) (n c1 : Nat) (A2 : Option Addr) (c2 : Nat) (S : List Bu) (w : World) (h1 : Rd w w.heap.size 3 A1 n (flT S)) (h2 : Rd w w.heap.size 3 A2 n (flT S)) (hn : n ≤ 1000000) :
    Calls Try.prog 22 #[.slice A1 n c1, .slice A2 n c2] w fun e w' => e = .returned (.bool true) ∧ RowKit.Below w.heap.size w w' := by
  have mixed : Try.prog.follows .mixedOrders = true := by kernel_rfl
  have HR := Lib.hid (And.intro h1 h2)
  clear h1 h2
  go_enter Try.func22, Try.ntmps22
  go_wp2_with fail
  go_loopw [5] (fun i wr => ∃ k : Nat, i = .int .i64 (k : Int) ∧ k ≤ n ∧ Hid (RowKit.Below w.heap.size w wr)) (fun i _ => n - (intOf i).toNat)
  case atStart => exact ⟨0, by go_num, by omega, RowKit.Below.refl _ _⟩
  case round =>
    obtain ⟨k, rfl, hk, HX⟩ := hrel
    by_cases hkn : k < n
    · obtain ⟨ad, a, b, c, rfl, -, hx, a0, a1, a2⟩ := recT (HR.out.1.below HX.out) hkn
      obtain ⟨ad', a', b', c', rfl, -, hx', b0, b1, b2⟩ := recT (HR.out.2.below HX.out) hkn
      rw [hx] at hx'
      cases hx'
      have HB := Lib.hid (below_drewN HX.out)
      clear hx HX
      go_wp2_with fail
      go_quiet (fail)
      go_wp2_with fail
      exact ⟨⟨k + 1, by go_num, by omega, HB.out _⟩, by simp [intOf]; omega⟩
    · obtain rfl : k = n := by omega
      go_wp2_with fail
      go_ret
      exact ⟨rfl, HX.out⟩
end Ta
end Go.Proofs.Ytaockieikcibdaa
namespace Go.Proofs.Ytaockieikcibdaa
namespace Ta
open Go.RowKit Go.Maps Rd

theorem of_inv {l : List (Int × Int × ByteArray)} {width : Int} (h : ofE l width = 0) : wideB width = true ∧ (∀ r ∈ l, ok1 r = true) ∧ ofL l width = gat (items l width) ∧ chk (gat (items l width)) = 0 := by
  have h0 := h
  unfold ofE at h
  split at h
  · cases h
  · rename_i hw
    split at h
    · cases h
    · rename_i ha
      have hwt : wideB width = true := by simpa using hw
      have hat : l.all ok1 = true := by simpa using ha
      exact ⟨hwt, fun r hr => List.all_eq_true.1 hat r hr, by unfold ofL; rw [if_pos h0], chk_buk h⟩
theorem sumB_eq {S : List Bu} (h : chk S = 0) : (sumB S).2.1 = sumC S ∧ (sumB S).2.2 = sumY S := by
  cases S with
  | nil => rw [sumB_nil rfl]; exact ⟨rfl, rfl⟩
  | cons x l => rw [sumB_yes h rfl]; exact ⟨rfl, rfl⟩
theorem few_size {l : List (Int × Int × ByteArray)} (h : few l = true) {k : Nat} {r : Int × Int × ByteArray} (hr : l[k]? = some r) : r.2.2.size ≤ 3000 := by
  unfold few at h
  rw [Bool.and_eq_true] at h
  have := List.all_eq_true.1 h.2 r (List.mem_of_getElem? hr)
  exact of_decide_eq_true this
theorem bytes_take {l : List (Int × Int × ByteArray)} {k : Nat} {r : Int × Int × ByteArray} (h : l[k]? = some r) : bytesR (l.take (k + 1)) = bytesR (l.take k) + (r.2.2.size : Int) := by
  unfold bytesR
  rw [List.take_add_one, h]; simp
theorem bytes_bd {l : List (Int × Int × ByteArray)} (h : few l = true) : ∀ k, k ≤ l.length → 0 ≤ bytesR (l.take k) ∧ bytesR (l.take k) ≤ k * 3000
  | 0, _ => by simp [bytesR]
  | k + 1, hk => by
    have ih := bytes_bd h k (by omega)
    have hx := List.getElem?_eq_getElem (show k < l.length by omega)
    have h1 := few_size h hx
    rw [bytes_take hx]
    push_cast
    omega

theorem cnt_yes {l : List (Int × Int × ByteArray)} {t width : Int} {k : Nat} {r : Int × Int × ByteArray} (h : l[k]? = some r) (h1 : t ≤ r.2.1) (h2 : r.2.1 - t < width) : cntB (l.take (k + 1)) t width = cntB (l.take k) t width + 1 := by
  rw [cnt_take h, if_pos (by unfold inB; exact decide_eq_true ⟨h1, h2⟩)]
theorem cnt_no {l : List (Int × Int × ByteArray)} {t width : Int} {k : Nat} {r : Int × Int × ByteArray} (h : l[k]? = some r) (h1 : ¬ (t ≤ r.2.1 ∧ r.2.1 - t < width)) : cntB (l.take (k + 1)) t width = cntB (l.take k) t width := by
  rw [cnt_take h, if_neg (by unfold inB; simpa using h1), Nat.add_zero]
theorem cnt_le (l : List (Int × Int × ByteArray)) (t width : Int) (k : Nat) : cntB (l.take k) t width ≤ k := by
  unfold cntB
  have h1 := List.length_filter_le (inB t width) (l.take k)
  have h2 := List.length_take_le k l
  omega
set_option maxHeartbeats 6400000 in
set_option maxRecDepth 100000 in
theorem sums_any (A : Option Addr) (n c : Nat) (l : List (Int × Int × ByteArray)) (width : Int) (w : World) (hrd : Rd w w.heap.size 3 A n (fl3 l)) (hn : n ≤ c) (hc : c ≤ maxLen) :
    Calls Try.prog 4 #[.slice A n c, .int .i64 width] w fun e w' => e = .returned (.bool true) ∧ RowKit.Below w.heap.size w w' := by
  have mixed : Try.prog.follows .mixedOrders = true := by kernel_rfl
  have hln := rd3_len hrd
  have HF := Lib.hid (few_any A n c l w hrd hn hc)
  have HR := Lib.hid hrd
  have HLN := Lib.hid hln
  by_cases hf : few l = true
  · have hn200 := few_len hf
    rw [hln] at hn200
    have HO := Lib.hid (of_any A n c l width w hrd (by omega))
    have HFW := Lib.hid hf
    rw [hf] at HF
    clear hrd hln hn hc hf
    by_cases he : ofE l width = 0
    · obtain ⟨hw, hok, hL, hck⟩ := of_inv he
      rw [he, hL] at HO
      have hw1 := (wideB_iff width).1 hw
      have HOK := Lib.hid hok
      have HCK := Lib.hid hck
      have HCNT := Lib.hid (fun x hx => cnt_gat (l := l) hw1.1 (x := x) hx)
      have hs1 := sumB_eq hck
      have hs2 := gat_sums (items l width)
      have hs3 := items_sums l width
      have hs4 : (sumB (gat (items l width))).2.1 = (n : Int) ∧ (sumB (gat (items l width))).2.2 = bytesR l := by
        rw [hs1.1, hs1.2, hs2.1, hs2.2, hs3.1, hs3.2, HLN.out]; exact ⟨rfl, rfl⟩
      have HS4 := Lib.hid hs4
      have hol := ok_chk hck
      have HOL := Lib.hid hol
      clear hw hok hL hck hs1 hs2 hs3 hs4 hol he
      generalize gat (items l width) = S at *
      go_enter Try.func4, Try.ntmps4
      go_wp2_with fail
      refine HF.out.mono ?_
      rintro e1 w1 ⟨rfl, rfl⟩
      go_wp2_with fail
      refine HO.out.mono ?_
      rintro e2 w2 ⟨⟨v, rfl, hown⟩, hb2⟩
      obtain ⟨Ab, cb, rfl, -, -, hrb⟩ := OwnT.rd hown
      generalize hM : S.length = m at *
      have HM := Lib.hid hM
      have hm1 : m ≤ 1000 := HOL.out.2
      have HRB := Lib.hid hrb
      have HB2 := Lib.hid hb2
      clear hown hM hb2 hrb HO HF
      go_wp2_with fail
      go_loopw [7, 8] (fun s i wr => ∃ k : Nat, i = .int .i64 (k : Int) ∧ s = .int .i64 (bytesR (l.take k)) ∧ k ≤ n ∧ Hid (RowKit.Below w2.heap.size w2 wr)) (fun _ i _ => n - (intOf i).toNat)
      case atStart => exact ⟨0, by go_num, rfl, by omega, RowKit.Below.refl _ _⟩
      case round =>
        obtain ⟨k, rfl, rfl, hk, HX⟩ := hrel
        have hbd := bytes_bd HFW.out k (by rw [HLN.out]; exact hk)
        have hbr : RowKit.Below w.heap.size w wr := HB2.out.trans (HX.out.mono HB2.out.size)
        by_cases hkn : k < n
        · obtain ⟨ad, q, t, d, rfl, hbk, hx, hc0, hc1, hc2⟩ := rec3 (HR.out.below hbr) hkn
          have hd := few_size HFW.out hx
          have HBT := Lib.hid (bytes_take hx)
          generalize bytesR (l.take k) = s at *
          have u1 : IntKind.i64.wrap (s + (d.size : Int)) = s + (d.size : Int) := by rw [IntKind.wrap_i64]; simp only at hd; omega
          clear hbd hd hx hbk hbr
          go_wp2_with fail
          exact ⟨⟨k + 1, by go_num, by rw [HBT.out], by omega, HX.out⟩, by simp [intOf]; omega⟩
        · obtain rfl : n = k := by omega
          have htk : l.take n = l := List.take_of_length_le (by have := HLN.out; omega)
          rw [htk] at hbd ⊢
          have HSUM := Lib.hid (sum_any Ab m cb S wr (HRB.out.ext HX.out) (by omega))
          have hbb := hbd
          generalize sumB S = sb at *
          obtain ⟨sb0, sb1, sb2⟩ := sb
          have hq1 : sb1 = (n : Int) := HS4.out.1
          have hq2 : sb2 = bytesR l := HS4.out.2
          subst hq1 hq2
          clear htk hbd hbr hbb
          go_wp2_with fail
          refine HSUM.out.mono ?_
          rintro e3 w3 ⟨rfl, hb3⟩
          have hbx := HX.out.trans (hb3.mono HX.out.size)
          have hby := hbx.trans ((ext_alloc w3 (.cells #[.int .i64 sb0, .int .i64 (n : Int), .int .i64 (bytesR l)] 40)).mono hbx.size)
          have HB4 := Lib.hid hby
          have HCHK := Lib.hid (check_any Ab m cb S _ (HRB.out.ext hby) (by omega))
          rw [HCK.out] at HCHK
          clear hb3 hbx hby HSUM HX
          go_wp2_with fail
          refine HCHK.out.mono ?_
          rintro e5 w5 ⟨rfl, hb5⟩
          have HB5 := Lib.hid (HB4.out.trans (hb5.mono HB4.out.size))
          clear hb5 HCHK
          go_wp2_with fail
          go_loopw [10] (fun i wr => ∃ k : Nat, i = .int .i64 (k : Int) ∧ k ≤ m ∧ Hid (RowKit.Below w2.heap.size w2 wr)) (fun i _ => m - (intOf i).toNat)
          case atStart => exact ⟨0, by go_num, by omega, HB5.out⟩
          case round =>
            obtain ⟨i, rfl, hi, HX⟩ := hrel
            by_cases him : i < m
            · obtain ⟨bd, t, cc, y, rfl, hbk, hx, hc0, hc1, hc2⟩ := recT (HRB.out.below HX.out) him
              have hcn := HCNT.out _ (List.mem_of_getElem? hx)
              have hob := (okB_iff _).1 (HOL.out.1 _ (List.mem_of_getElem? hx))
              simp only at hcn hob
              have ht0 : 0 ≤ t := hob.1
              have ht1 : t ≤ 1000000000 := hob.2.1
              have HCN := Lib.hid hcn
              have HXI := Lib.hid hx
              clear hcn hob hx hbk
              go_wp2_with fail
              go_loopw [11, 12] (fun s j wi => ∃ j' : Nat, j = .int .i64 (j' : Int) ∧ s = .int .i64 (cntB (l.take j') t width : Int) ∧ j' ≤ n ∧ Hid (RowKit.Below w2.heap.size w2 wi)) (fun _ j _ => n - (intOf j).toNat)
              case atStart => exact ⟨0, by go_num, rfl, by omega, HX.out⟩
              case round =>
                obtain ⟨j, rfl, rfl, hj, HY⟩ := hrel
                have hcl := cnt_le l t width j
                by_cases hjn : j < n
                · obtain ⟨ad, q, tk, d, rfl, -, hx, a0, a1, -⟩ := rec3 (HR.out.below (HB2.out.trans (HY.out.mono HB2.out.size))) hjn
                  obtain ⟨bd', t', cc', y', hbd, -, hx2, b0, -, -⟩ := recT (HRB.out.below HY.out) him
                  obtain rfl : bd = bd' := by simpa using hbd
                  rw [HXI.out] at hx2
                  cases hx2
                  have hok := (ok1_iff _).1 (HOK.out _ (List.mem_of_getElem? hx))
                  simp only at hok
                  have u2 : IntKind.i64.wrap (tk - t) = tk - t := by rw [IntKind.wrap_i64]; omega
                  have HYD := Lib.hid (below_drewN HY.out)
                  by_cases h1 : t ≤ tk
                  · by_cases h2 : tk - t < width
                    · have HCT := Lib.hid (cnt_yes hx h1 h2)
                      generalize cntB (l.take j) t width = cn at *
                      clear hok hx hbd a0 HY
                      go_wp2_with fail
                      go_quiet (fail)
                      go_wp2_with fail
                      exact ⟨⟨j + 1, by go_num, by rw [HCT.out]; go_num, by omega, HYD.out _⟩, by simp [intOf]; omega⟩
                    · have HCT := Lib.hid (cnt_no (width := width) hx (fun h => h2 h.2))
                      generalize cntB (l.take j) t width = cn at *
                      have h3 : width ≤ tk - t := by omega
                      clear hok hx hbd a0 HY
                      go_wp2_with fail
                      go_quiet (fail)
                      go_wp2_with fail
                      exact ⟨⟨j + 1, by go_num, by rw [HCT.out], by omega, HYD.out _⟩, by simp [intOf]; omega⟩
                  · have HCT := Lib.hid (cnt_no (width := width) hx (fun h => h1 h.1))
                    generalize cntB (l.take j) t width = cn at *
                    have hd : decide (t ≤ tk) = false := decide_eq_false h1
                    clear hok hx hbd a0 HY u2 h1
                    go_wp2_with fail
                    go_quiet (fail)
                    go_wp2_with fail
                    exact ⟨⟨j + 1, by go_num, by rw [HCT.out], by omega, HYD.out _⟩, by simp [intOf]; omega⟩
                · obtain rfl : n = j := by omega
                  obtain ⟨bd', t', cc', y', hbd, -, hx2, b0, b1, -⟩ := recT (HRB.out.below HY.out) him
                  obtain rfl : bd = bd' := by simpa using hbd
                  rw [HXI.out] at hx2
                  cases hx2
                  have htk : l.take n = l := List.take_of_length_le (by have := HLN.out; omega)
                  rw [htk] at hcl ⊢
                  have hq := HCN.out
                  generalize cntB l t width = cn at *
                  obtain ⟨e0, rfl⟩ := hq
                  have e1 : t.tmod width = 0 := by rw [Int.tmod_eq_emod_of_nonneg ht0]; exact e0
                  have e5 : IntKind.i64.wrap (0 : Int) = 0 := rfl
                  have e6 : ¬ width = 0 := by omega
                  have e7 : (width == 0) = false := by rw [beq_eq_false_iff_ne]; omega
                  clear htk hbd
                  go_wp2_with fail
                  exact ⟨⟨i + 1, by go_num, by omega, HY.out⟩, by simp [intOf]; omega⟩
            · obtain rfl : m = i := by omega
              go_wp2_with fail
              refine (awake_any _).mono ?_
              rintro e6 w6 ⟨rfl, hb6⟩
              have HB6 := Lib.hid (HB2.out.trans (HX.out.trans (hb6.mono HX.out.size) |>.mono HB2.out.size))
              clear hb6
              go_wp2_with fail
              go_ret
              exact ⟨rfl, HB6.out⟩
    · have hL : ofL l width = [] := by unfold ofL; rw [if_neg he]
      rw [hL] at HO
      have hne : (ofE l width == 0) = false := by rw [beq_eq_false_iff_ne]; exact he
      have hne2 : ¬ ofE l width = 0 := he
      generalize ofE l width = x at *
      clear hL he
      go_enter Try.func4, Try.ntmps4
      go_wp2_with fail
      refine HF.out.mono ?_
      rintro e1 w1 ⟨rfl, rfl⟩
      go_wp2_with fail
      refine HO.out.mono ?_
      rintro e2 w2 ⟨⟨v, rfl, hown⟩, hb2⟩
      obtain ⟨Ab, cb, rfl, -, -, -⟩ := OwnT.rd hown
      have HB2 := Lib.hid hb2
      clear hb2 hown
      go_wp2_with fail
      refine (awake_any _).mono ?_
      rintro e3 w3 ⟨rfl, hb3⟩
      have HB3 := Lib.hid (HB2.out.trans (hb3.mono HB2.out.size))
      clear hb3
      go_wp2_with fail
      go_ret
      exact ⟨rfl, HB3.out⟩
  · have HF2 : few l = false := by simpa using hf
    rw [HF2] at HF
    clear hf HF2 hrd hln
    go_enter Try.func4, Try.ntmps4
    go_wp2_with fail
    refine HF.out.mono ?_
    rintro e1 w1 ⟨rfl, rfl⟩
    go_wp2_with fail
    refine (awake_any _).mono ?_
    rintro e2 w2 ⟨rfl, hb2⟩
    have HB := Lib.hid hb2
    clear hb2
    go_wp2_with fail
    go_ret
    exact ⟨rfl, HB.out⟩
end Ta
end Go.Proofs.Ytaockieikcibdaa
