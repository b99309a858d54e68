/- varvelaw45: three, equal, awake. -/
import Derived.Test.YtaockieikcibdaaTq07
import Derived.Test.YtaockieikcibdaaTq11
namespace Go.Proofs.Ytaockieikcibdaa
namespace Ta
open Go.RowKit Go.Maps Go.Sort Rd

theorem buk_inv {S : List Bu} (h : bukE S = 0) : S.length ≤ 1000 ∧ S.all okB = true := by
  unfold bukE at h
  split at h
  · cases h
  · split at h
    · rename_i h1 h2; exact ⟨by omega, h2⟩
    · cases h
theorem chk_of {S : List Bu} (hl : S.length ≤ 1000) (ho : S.all okB = true) (ha : Asc S) : chk S = 0 :=
  chk_yes ⟨hl, fun _ x _ hx => List.all_eq_true.1 ho x (List.mem_of_getElem? hx), fun j x y _ hx hy => asc_at ha j x y hx hy⟩
theorem chk_buk {L : List Bu} (h : bukE (gat L) = 0) : chk (gat L) = 0 := by
  obtain ⟨h1, h2⟩ := buk_inv h
  exact chk_of h1 h2 (gat_asc L)

/-- Three records. -/
def L3 : List (Int × Int × ByteArray) := [(1, 3, ⟨#[97]⟩), (2, 4, ⟨#[98, 99]⟩), (3, 11, ⟨#[100]⟩)]
def B2 : List Bu := [(0, 2, 3), (10, 1, 1)]
set_option maxHeartbeats 1600000 in
theorem three_any (w : World) : Calls Try.prog 23 #[] w fun e w' => (∃ A c, e = .returned (.slice A 3 c) ∧ Rd w' w'.heap.size 3 A 3 (fl3 L3)) ∧ Below w.heap.size w w' := by
  have mixed : Try.prog.follows .mixedOrders = true := by kernel_rfl
  go_enter Try.func23, Try.ntmps23
  go_wp2_with fail
  go_ret
  refine ⟨⟨_, 3, rfl, ?_⟩, ext_alloc w _⟩
  have h := Rd.of_own (World.ownsRow_lit (base := w.heap.size) (e := 51) (size := 3) w #[.int .i64 1, .int .i64 3, .string ⟨#[97]⟩, .int .i64 2, .int .i64 4, .string ⟨#[98, 99]⟩, .int .i64 3, .int .i64 11, .string ⟨#[100]⟩] 3 (Nat.le_refl _) (by simp [maxLen]) rfl)
  exact h
theorem of_three : ofE L3 10 = 0 ∧ ofL L3 10 = B2 := by decide +kernel
theorem of_three0 : ofE L3 0 = 2 ∧ ofL L3 0 = [] := by decide +kernel
theorem chk_B2 : chk B2 = 0 := chk_of (by decide) (by decide +kernel) (by unfold Asc; decide +kernel)
theorem mrg_B2 : mrgE B2 B2 = 0 ∧ mrgL B2 B2 = [(0, 4, 6), (10, 2, 2)] := by
  obtain ⟨h1, h2⟩ := mrg_yes ⟨chk_B2, chk_B2⟩
  rw [h1, h2]
  decide +kernel
theorem crs_B2 : crsE B2 100 = 0 ∧ crsL B2 100 = [(0, 3, 4)] := by
  obtain ⟨h1, h2⟩ := crs_yes (S := B2) (width := 100) ⟨chk_B2, by decide +kernel⟩
  rw [h1, h2]
  decide +kernel
theorem top_B2 : topN B2 1 = 1 ∧ (St.stab cKey B2).take 1 = [(0, 2, 3)] := by decide +kernel
theorem sum_B2 : sumB B2 = (0, 3, 4) := by
  rw [sumB_yes (x := (0, 2, 3)) chk_B2 rfl]
  decide +kernel
theorem cells3 {w : World} {B n k : Nat} {A : Option Addr} {l : List Bu} {x : Bu} (h : Rd w B 3 A n (flT l)) (hx : l[k]? = some x) :
    ∃ ad, A = some ad ∧ ad.block < B ∧ w.cell? (ad.add (k * 3)) = some (.int .i64 x.1) ∧ w.cell? ⟨(ad.add (k * 3)).block, (ad.add (k * 3)).off + 1, none⟩ = some (.int .i64 x.2.1) ∧ w.cell? ⟨(ad.add (k * 3)).block, (ad.add (k * 3)).off + 2, none⟩ = some (.int .i64 x.2.2) := by
  have hl := rdT_len h
  obtain ⟨ad, q, t, d, e, hb, hx', h0, h1, h2⟩ := recT h (show k < n by rw [← hl]; exact (List.getElem?_eq_some_iff.1 hx).1)
  rw [hx] at hx'
  cases hx'
  exact ⟨ad, e, hb, h0, h1, h2⟩
theorem ownT_some {w : World} {B n : Nat} {v : Value} {l : List Bu} (h : OwnT w B v l) (hn : l.length = n) (hl : 0 < n) : ∃ g c, v = .slice (some ⟨g, 0, none⟩) n c := by
  subst hn
  rcases h.2 with ⟨_, h0⟩ | ⟨g, cap, cur, hv, _⟩
  · omega
  · exact ⟨g, cap, hv⟩
theorem cellT {w : World} {B g n c j : Nat} {l : List Bu} {u : Value} (h : OwnT w B (.slice (some ⟨g, 0, none⟩) n c) l) (hj : (flT l)[j]? = some u) : w.cell? ⟨g, j, none⟩ = some u := by
  have hn : n = l.length := by
    rcases h.2 with ⟨hv, _⟩ | ⟨g', cap, cur, hv, _⟩
    · cases hv
    · cases hv; rfl
  subst hn
  have := World.ownsRow.cells (g := g) h rfl j _ hj
  rwa [Addr.add_lit, Nat.zero_add] at this
set_option maxHeartbeats 6400000 in
set_option maxRecDepth 100000 in
theorem awake_any (w : World) : Calls Try.prog 7 #[] w fun e w' => e = .returned (.bool true) ∧ RowKit.Below w.heap.size w w' := by
  have mixed : Try.prog.follows .mixedOrders = true := by kernel_rfl
  go_enter Try.func7, Try.ntmps7
  go_wp2_with fail
  refine (three_any _).mono ?_
  rintro e1 w1 ⟨⟨A1, c1, rfl, hr1⟩, hb1⟩
  have H1 := Lib.hid (of_any A1 3 c1 L3 10 w1 hr1 (by omega))
  rw [of_three.1, of_three.2] at H1
  have HB1 := Lib.hid hb1
  clear hr1 hb1
  go_wp2_with fail
  refine H1.out.mono ?_
  rintro e2 w2 ⟨⟨vl, rfl, ol⟩, hb2⟩
  obtain ⟨gl, cl, rfl⟩ := ownT_some ol (n := 2) rfl (by decide)
  have HB2 := Lib.hid (HB1.out.trans (hb2.mono HB1.out.size))
  have HL := Lib.hid ol
  clear ol hb2 H1
  go_wp2_with fail
  refine (three_any _).mono ?_
  rintro e3 w3 ⟨⟨A3, c3, rfl, hr3⟩, hb3⟩
  have H3 := Lib.hid (of_any A3 3 c3 L3 0 w3 hr3 (by omega))
  rw [of_three0.1, of_three0.2] at H3
  have HB3 := Lib.hid hb3
  clear hr3 hb3
  go_wp2_with fail
  refine H3.out.mono ?_
  rintro e4 w4 ⟨⟨v4, rfl, -⟩, hb4⟩
  have HB4 := Lib.hid (HB3.out.trans (hb4.mono HB3.out.size))
  have HL4 := Lib.hid (OwnT.below HL.out HB4.out (Nat.le_refl _))
  have hrl := Rd.of_own HL4.out
  have HM := Lib.hid (merge_any (some ⟨gl, 0, none⟩) 2 cl B2 (some ⟨gl, 0, none⟩) 2 cl B2 w4 hrl (by omega) hrl (by omega))
  rw [mrg_B2.1, mrg_B2.2] at HM
  have HB0 := Lib.hid (HB2.out.trans (HB4.out.mono HB2.out.size))
  clear hb4 hrl H3
  go_wp2_with fail
  refine HM.out.mono ?_
  rintro e5 w5 ⟨⟨vm, rfl, om⟩, hb5⟩
  obtain ⟨gm, cm, rfl⟩ := ownT_some om (n := 2) rfl (by decide)
  have HOM := Lib.hid om
  have HL5 := Lib.hid (OwnT.below HL4.out hb5 (Nat.le_refl _))
  have hrl5 := Rd.of_own HL5.out
  have HC := Lib.hid (coarse_any (some ⟨gl, 0, none⟩) 2 cl B2 100 w5 hrl5 (by omega))
  rw [crs_B2.1, crs_B2.2] at HC
  have HB5 := Lib.hid (HB0.out.trans (hb5.mono HB0.out.size))
  clear om hb5 hrl5 HM
  go_wp2_with fail
  refine HC.out.mono ?_
  rintro e6 w6 ⟨⟨vc, rfl, oc⟩, hb6⟩
  obtain ⟨gc, cc, rfl⟩ := ownT_some oc (n := 1) rfl (by decide)
  have HOC := Lib.hid oc
  have HL6 := Lib.hid (OwnT.below HL5.out hb6 (Nat.le_refl _))
  have HOM6 := Lib.hid (OwnT.below HOM.out hb6 (Nat.le_refl _))
  have HB6 := Lib.hid (HB5.out.trans (hb6.mono HB5.out.size))
  have HT := Lib.hid (top_any _ _ B2 1 w6 HL6.out (by decide))
  rw [top_B2.1, top_B2.2] at HT
  clear oc hb6 HC
  go_wp2_with fail
  refine HT.out.mono ?_
  rintro e7 w7 ⟨⟨At, ct, rfl, hrt⟩, hb7⟩
  obtain ⟨ad, rfl, hbt, t0, t1, t2⟩ := cells3 (k := 0) (x := (0, 2, 3)) hrt rfl
  have hL7 := OwnT.below HL6.out hb7 (Nat.le_refl _)
  have hM7 := OwnT.below HOM6.out hb7 (Nat.le_refl _)
  have hC7 := OwnT.below HOC.out hb7 (Nat.le_refl _)
  have hrl := Rd.of_own hL7
  have hcs : (w7.cell? ⟨gl, 0, none⟩ = some (.int .i64 0) ∧ w7.cell? ⟨gl, 1, none⟩ = some (.int .i64 2) ∧ w7.cell? ⟨gl, 2, none⟩ = some (.int .i64 3) ∧ w7.cell? ⟨gl, 3, none⟩ = some (.int .i64 10) ∧ w7.cell? ⟨gl, 4, none⟩ = some (.int .i64 1) ∧ w7.cell? ⟨gl, 5, none⟩ = some (.int .i64 1) ∧ w7.cell? ⟨gm, 1, none⟩ = some (.int .i64 4) ∧ w7.cell? ⟨gc, 1, none⟩ = some (.int .i64 3) ∧ w7.cell? ad = some (.int .i64 0) ∧ w7.cell? ⟨ad.block, ad.off + 1, none⟩ = some (.int .i64 2) ∧ w7.cell? ⟨ad.block, ad.off + 2, none⟩ = some (.int .i64 3)) :=
    ⟨cellT hL7 rfl, cellT hL7 rfl, cellT hL7 rfl, cellT hL7 rfl, cellT hL7 rfl, cellT hL7 rfl, cellT hM7 rfl, cellT hC7 rfl, t0, t1, t2⟩
  have hll : gl < w7.heap.size := (World.ownsRow.lt hL7 gl rfl).2
  have hlm : gm < w7.heap.size := (World.ownsRow.lt hM7 gm rfl).2
  have hlc : gc < w7.heap.size := (World.ownsRow.lt hC7 gc rfl).2
  have hC : ∀ wx, RowKit.Below w7.heap.size w7 wx → (wx.cell? ⟨gl, 0, none⟩ = some (.int .i64 0) ∧ wx.cell? ⟨gl, 1, none⟩ = some (.int .i64 2) ∧ wx.cell? ⟨gl, 2, none⟩ = some (.int .i64 3) ∧ wx.cell? ⟨gl, 3, none⟩ = some (.int .i64 10) ∧ wx.cell? ⟨gl, 4, none⟩ = some (.int .i64 1) ∧ wx.cell? ⟨gl, 5, none⟩ = some (.int .i64 1) ∧ wx.cell? ⟨gm, 1, none⟩ = some (.int .i64 4) ∧ wx.cell? ⟨gc, 1, none⟩ = some (.int .i64 3) ∧ wx.cell? ad = some (.int .i64 0) ∧ wx.cell? ⟨ad.block, ad.off + 1, none⟩ = some (.int .i64 2) ∧ wx.cell? ⟨ad.block, ad.off + 2, none⟩ = some (.int .i64 3)) ∧ RowKit.Below w7.heap.size w7 wx := fun wx hb =>
    ⟨⟨(hb.cell (p := ⟨gl, 0, none⟩) hll).trans hcs.1, (hb.cell (p := ⟨gl, 1, none⟩) hll).trans hcs.2.1, (hb.cell (p := ⟨gl, 2, none⟩) hll).trans hcs.2.2.1, (hb.cell (p := ⟨gl, 3, none⟩) hll).trans hcs.2.2.2.1, (hb.cell (p := ⟨gl, 4, none⟩) hll).trans hcs.2.2.2.2.1, (hb.cell (p := ⟨gl, 5, none⟩) hll).trans hcs.2.2.2.2.2.1,
      (hb.cell (p := ⟨gm, 1, none⟩) hlm).trans hcs.2.2.2.2.2.2.1, (hb.cell (p := ⟨gc, 1, none⟩) hlc).trans hcs.2.2.2.2.2.2.2.1, (hb.cell (p := ad) hbt).trans hcs.2.2.2.2.2.2.2.2.1, (hb.cell (p := ⟨ad.block, ad.off + 1, none⟩) hbt).trans hcs.2.2.2.2.2.2.2.2.2.1, (hb.cell (p := ⟨ad.block, ad.off + 2, none⟩) hbt).trans hcs.2.2.2.2.2.2.2.2.2.2⟩, hb⟩
  have HSd := Lib.hid (hC w7.drew ⟨rfl, rfl, rfl, Nat.le_refl _, fun _ _ => rfl⟩)
  have hS1 : ∀ wx, ((wx.cell? ⟨gl, 0, none⟩ = some (.int .i64 0) ∧ wx.cell? ⟨gl, 1, none⟩ = some (.int .i64 2) ∧ wx.cell? ⟨gl, 2, none⟩ = some (.int .i64 3) ∧ wx.cell? ⟨gl, 3, none⟩ = some (.int .i64 10) ∧ wx.cell? ⟨gl, 4, none⟩ = some (.int .i64 1) ∧ wx.cell? ⟨gl, 5, none⟩ = some (.int .i64 1) ∧ wx.cell? ⟨gm, 1, none⟩ = some (.int .i64 4) ∧ wx.cell? ⟨gc, 1, none⟩ = some (.int .i64 3) ∧ wx.cell? ad = some (.int .i64 0) ∧ wx.cell? ⟨ad.block, ad.off + 1, none⟩ = some (.int .i64 2) ∧ wx.cell? ⟨ad.block, ad.off + 2, none⟩ = some (.int .i64 3)) ∧ RowKit.Below w7.heap.size w7 wx) → Calls Try.prog 15 #[.slice (some ⟨gl, 0, none⟩) 2 cl] wx fun e w' => e = .returned (.agg #[.int .i64 0, .int .i64 3, .int .i64 4]) ∧ (w'.cell? ⟨gl, 0, none⟩ = some (.int .i64 0) ∧ w'.cell? ⟨gl, 1, none⟩ = some (.int .i64 2) ∧ w'.cell? ⟨gl, 2, none⟩ = some (.int .i64 3) ∧ w'.cell? ⟨gl, 3, none⟩ = some (.int .i64 10) ∧ w'.cell? ⟨gl, 4, none⟩ = some (.int .i64 1) ∧ w'.cell? ⟨gl, 5, none⟩ = some (.int .i64 1) ∧ w'.cell? ⟨gm, 1, none⟩ = some (.int .i64 4) ∧ w'.cell? ⟨gc, 1, none⟩ = some (.int .i64 3) ∧ w'.cell? ad = some (.int .i64 0) ∧ w'.cell? ⟨ad.block, ad.off + 1, none⟩ = some (.int .i64 2) ∧ w'.cell? ⟨ad.block, ad.off + 2, none⟩ = some (.int .i64 3)) ∧ RowKit.Below w7.heap.size w7 w' := by
    intro wx ⟨_, hb⟩
    have h := sum_any (some ⟨gl, 0, none⟩) 2 cl B2 wx (hrl.ext hb) (by omega)
    rw [sum_B2] at h
    refine h.mono ?_
    rintro e w' ⟨rfl, hb2⟩
    exact ⟨rfl, hC _ (hb.trans (hb2.mono hb.size))⟩
  have hS2 : ∀ wx, ((wx.cell? ⟨gl, 0, none⟩ = some (.int .i64 0) ∧ wx.cell? ⟨gl, 1, none⟩ = some (.int .i64 2) ∧ wx.cell? ⟨gl, 2, none⟩ = some (.int .i64 3) ∧ wx.cell? ⟨gl, 3, none⟩ = some (.int .i64 10) ∧ wx.cell? ⟨gl, 4, none⟩ = some (.int .i64 1) ∧ wx.cell? ⟨gl, 5, none⟩ = some (.int .i64 1) ∧ wx.cell? ⟨gm, 1, none⟩ = some (.int .i64 4) ∧ wx.cell? ⟨gc, 1, none⟩ = some (.int .i64 3) ∧ wx.cell? ad = some (.int .i64 0) ∧ wx.cell? ⟨ad.block, ad.off + 1, none⟩ = some (.int .i64 2) ∧ wx.cell? ⟨ad.block, ad.off + 2, none⟩ = some (.int .i64 3)) ∧ RowKit.Below w7.heap.size w7 wx) → Calls Try.prog 20 #[.slice (some ⟨gl, 0, none⟩) 2 cl] wx fun e w' => e = .returned (.int .i64 0) ∧ (w'.cell? ⟨gl, 0, none⟩ = some (.int .i64 0) ∧ w'.cell? ⟨gl, 1, none⟩ = some (.int .i64 2) ∧ w'.cell? ⟨gl, 2, none⟩ = some (.int .i64 3) ∧ w'.cell? ⟨gl, 3, none⟩ = some (.int .i64 10) ∧ w'.cell? ⟨gl, 4, none⟩ = some (.int .i64 1) ∧ w'.cell? ⟨gl, 5, none⟩ = some (.int .i64 1) ∧ w'.cell? ⟨gm, 1, none⟩ = some (.int .i64 4) ∧ w'.cell? ⟨gc, 1, none⟩ = some (.int .i64 3) ∧ w'.cell? ad = some (.int .i64 0) ∧ w'.cell? ⟨ad.block, ad.off + 1, none⟩ = some (.int .i64 2) ∧ w'.cell? ⟨ad.block, ad.off + 2, none⟩ = some (.int .i64 3)) ∧ RowKit.Below w7.heap.size w7 w' := by
    intro wx ⟨_, hb⟩
    have h := check_any (some ⟨gl, 0, none⟩) 2 cl B2 wx (hrl.ext hb) (by omega)
    rw [chk_B2] at h
    refine h.mono ?_
    rintro e w' ⟨rfl, hb2⟩
    exact ⟨rfl, hC _ (hb.trans (hb2.mono hb.size))⟩
  have HS1 := Lib.hid hS1
  have HS2 := Lib.hid hS2
  have HB7 := Lib.hid (HB6.out.trans (hb7.mono HB6.out.size))
  clear hC hS1 hS2 hcs hL7 hM7 hC7 hrl hll hlm hlc t0 t1 t2 hrt hb7 hbt HT
  go_wp2_with fail
  go_region_held3 (fun wx => (wx.cell? ⟨gl, 0, none⟩ = some (.int .i64 0) ∧ wx.cell? ⟨gl, 1, none⟩ = some (.int .i64 2) ∧ wx.cell? ⟨gl, 2, none⟩ = some (.int .i64 3) ∧ wx.cell? ⟨gl, 3, none⟩ = some (.int .i64 10) ∧ wx.cell? ⟨gl, 4, none⟩ = some (.int .i64 1) ∧ wx.cell? ⟨gl, 5, none⟩ = some (.int .i64 1) ∧ wx.cell? ⟨gm, 1, none⟩ = some (.int .i64 4) ∧ wx.cell? ⟨gc, 1, none⟩ = some (.int .i64 3) ∧ wx.cell? ad = some (.int .i64 0) ∧ wx.cell? ⟨ad.block, ad.off + 1, none⟩ = some (.int .i64 2) ∧ wx.cell? ⟨ad.block, ad.off + 2, none⟩ = some (.int .i64 3)) ∧ RowKit.Below w7.heap.size w7 wx) (first | exact HSd.out | assumption) (first | (go_at_call 15; refine (HS1.out _ (by first | exact HSd.out | assumption)).mono ?_; rintro e8 w8 ⟨rfl, hS8⟩) | (go_at_call 20; refine (HS2.out _ (by first | exact HSd.out | assumption)).mono ?_; rintro e9 w9 ⟨rfl, hS9⟩))
  have HB9 := Lib.hid (HB7.out.trans (hS9.2.mono HB7.out.size))
  clear hS8 hS9 HSd HS1 HS2
  go_wp2_with fail
  go_ret
  exact ⟨rfl, HB9.out⟩
end Ta
end Go.Proofs.Ytaockieikcibdaa
