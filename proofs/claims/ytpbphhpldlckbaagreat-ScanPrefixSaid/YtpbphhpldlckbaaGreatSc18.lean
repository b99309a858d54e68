/- block.peek$1 is walked. front: begun, at, rank. front.begun, rank; slices.Index. front: rank, Ranks, Text; slices.Index. front: Ranks, Text. -/
import Derived.Test.YtpbphhpldlckbaaGreatSc17
import Derived.Deep.RegionHeld3
import Derived.Test.YtpbphhpldlckbaaGreatSc11
import Derived.Test.YtpbphhpldlckbaaGreatSc15
import Derived.Test.YtpbphhpldlckbaaGreatSc03
import Derived.Laws.CopyOwn
import Derived.Test.YtpbphhpldlckbaaGreatSc02
namespace Go.Proofs.YtpbphhpldlckbaaGreat
namespace Bk
open Go.RowKit Tk Vi Sq Rd
open Bt (Frm)

/-- Where the taking stands: k numbers are left. -/
def Pn (w0 w : World) (bV bT bH bF : Nat) (s : ByteArray) (b' : List UInt8) (k : Nat) (acc : List Nat) (p : Nat) (raw count first early late md : Int) (bd : ByteArray) : Prop :=
  Vp w bV bT bH bF s p raw count first early late md bd ∧ Keep w0 w [bT, bH] ∧ p ≤ s.size ∧ fin 5 [] b' = fin k acc (s.data.toList.drop p)
theorem Pn.num {w0 w : World} {bV bT bH bF p k : Nat} {s : ByteArray} {b' : List UInt8} {acc : List Nat} {raw count first early late md : Int} {bd : ByteArray} (m : UInt8) (hb : s.data.toList = m :: b')
    (h : Pn w0 w bV bT bH bF s b' (k + 1) acc p raw count first early late md bd) (hs : s.size ≤ 1000000) :
    Calls Tryz.prog 60 #[.pointer (some ⟨bT, 0, none⟩)] w fun e w' =>
      (∃ n q : Nat, n < 9223372036854775808 ∧ e = .returned (.int .i64 (n : Int)) ∧ w'.cell? ⟨bF, 0, none⟩ = some (.func (.func 60) #[.pointer (some ⟨bT, 0, none⟩)] #[]) ∧ Hid (Pn w0 w' bV bT bH bF s b' k (acc ++ [(n : Nat)]) q raw count first early late md bd)) ∨
      (Keep w0 w' [bT, bH] ∧ perr s.data.toList ≠ 0 ∧ ∃ q, e = .panicked [fault (perr s.data.toList) q]) := by
  obtain ⟨hv, hk, hp, hf⟩ := h
  refine (num_any w bT p s hv.ta hs hp).mono ?_
  rintro e w' (⟨n, u, hg, hu, hn, he, hw⟩ | ⟨hg, he, hw⟩)
  · subst hw
    have h2 := hv.set_p (p + u)
    refine .inl ⟨n, p + u, hn, he, h2.vF.cell, h2, hk.set ⟨bT, 1, none⟩ (.inl (by simp)) _, hu, ?_⟩
    rw [hf, fin_go hg, List.drop_drop]
  · subst hw
    have hpe : perr s.data.toList = (gv 0 0 (s.data.toList.drop p)).2.2 := by
      have : perr s.data.toList = (fin 5 [] b').1 := by rw [hb]; rfl
      rw [this, hf, fin_stop hg]
    exact .inr ⟨hk, by rw [hpe]; exact hg, p, by rw [hpe]; exact he⟩

set_option maxHeartbeats 6400000 in
set_option maxRecDepth 100000 in
theorem peek1_any (w : World) (bV bT bH bF : Nat) (s : ByteArray) (hV : Vp w bV bT bH bF s 0 0 0 0 0 0 0 ⟨#[]⟩) (hs : s.size ≤ 1000000) :
    Calls Tryz.prog 61 #[.pointer (some ⟨bV, 0, none⟩), .pointer (some ⟨bH, 0, none⟩), .pointer (some ⟨bF, 0, none⟩)] w fun e w' => PkA s bT bH w e w' := by
  have mixed : Tryz.prog.follows .mixedOrders = true := by kernel_rfl
  rcases hb : s.data.toList with _ | ⟨m, b'⟩
  · have hd : s.size = 0 := by
      have : s.data.toList.length = s.size := rfl
      rw [hb] at this; simpa using this.symm
    have HB := Lib.hid (byte_no w bT s hV.ta hs hd)
    have hcV := hV.vV.cell
    have HE := Lib.hid hb
    clear hV hb hd
    go_enter Tryz.func61, Tryz.ntmps61
    go_wp2_with fail
    refine HB.out.mono ?_
    rintro e1 w1 ⟨rfl, hk⟩
    exact ⟨rfl, hk.more (by simp), .inr (by rw [HE.out]; exact ⟨by decide, 0, rfl⟩)⟩
  · have hsz : 1 ≤ s.size := by
      have : s.data.toList.length = s.size := rfl
      rw [hb, List.length_cons] at this; omega
    have HB := Lib.hid (byte_ok w bT s hV.ta hs m b' hb)
    have hcV := hV.vV.cell
    have HE := Lib.hid hb
    have HV := Lib.hid hV
    obtain ⟨nVT, nVH, nVF, nTH, nTF, nHF⟩ := hV.ne
    clear hV hb
    go_enter Tryz.func61, Tryz.ntmps61
    go_wp2_with fail
    refine HB.out.mono ?_
    rintro e1 w1 ⟨rfl, hta, hk⟩
    have hv1 := HV.out.went hk hta
    have hc7 := hv1.hb.c7
    have hf7 := hv1.hb.fz 7
    have hk2 : Keep w1 (w1.setCell ⟨bH, 7, none⟩ (.int .i64 (m.toNat : Int))) [bH] := (Keep.refl w1 _).set ⟨bH, 7, none⟩ (.inl (by simp)) _
    have hv2 := hv1.put hk2 (hv1.hb.set7 (m.toNat : Int))
    have hp2 : Pn w (w1.setCell ⟨bH, 7, none⟩ (.int .i64 (m.toNat : Int))) bV bT bH bF s b' 5 [] 1 0 0 0 0 0 m.toNat ⟨#[]⟩ :=
      ⟨hv2, (hk.more (by simp)).trans (hk2.more (by simp)), hsz, by rw [HE.out]; rfl⟩
    have HP2 := Lib.hid hp2
    have hcF := hv2.vF.cell
    clear hta hk hv1 hk2 hv2 hp2 HB hcV
    go_wp2_with fail
    clear hc7 hf7
    generalize w1.setCell ⟨bH, 7, none⟩ (.int .i64 (m.toNat : Int)) = w2 at *
    have hSd : w2.drew.cell? ⟨bF, 0, none⟩ = some (.func (.func 60) #[.pointer (some ⟨bT, 0, none⟩)] #[]) := hcF
    have HSd := Lib.hid hSd
    have HP2d := Lib.hid (show Pn w w2.drew bV bT bH bF s b' 5 [] 1 0 0 0 0 0 m.toNat ⟨#[]⟩ from ⟨HP2.out.1.drew, HP2.out.2.1.drew, HP2.out.2.2⟩)
    clear hSd hcF HP2
    refine wp_region_held (S := fun wx => wx.cell? ⟨bF, 0, none⟩ = some (.func (.func 60) #[.pointer (some ⟨bT, 0, none⟩)] #[])) (by kernel_rfl) ?_
    change wpAnyH _ _ _ _ _ _ _ _ (World.drew _)
    refine wpAnyH_take (i := 0) (v := (.func (.func 60) #[.pointer (some ⟨bT, 0, none⟩)] #[])) rfl (by kernel_rfl) (by kernel_rfl) (by kernel_rfl) (fun _ _ _ h => h) (Or.inl ⟨by rfl, fun w hS => ?_⟩) HSd.out ?_
    · go_simp
    refine wpAnyH_take (i := 2) (v := (.func (.func 60) #[.pointer (some ⟨bT, 0, none⟩)] #[])) rfl (by kernel_rfl) (by kernel_rfl) (by kernel_rfl) (fun _ _ _ h => h) (Or.inl ⟨by rfl, fun w hS => ?_⟩) HSd.out ?_
    · go_simp
    refine wpAnyH_take (i := 4) (v := (.func (.func 60) #[.pointer (some ⟨bT, 0, none⟩)] #[])) rfl (by kernel_rfl) (by kernel_rfl) (by kernel_rfl) (fun _ _ _ h => h) (Or.inl ⟨by rfl, fun w hS => ?_⟩) HSd.out ?_
    · go_simp
    refine wpAnyH_take (i := 6) (v := (.func (.func 60) #[.pointer (some ⟨bT, 0, none⟩)] #[])) rfl (by kernel_rfl) (by kernel_rfl) (by kernel_rfl) (fun _ _ _ h => h) (Or.inl ⟨by rfl, fun w hS => ?_⟩) HSd.out ?_
    · go_simp
    refine wpAnyH_all (rs := [1]) (by kernel_rfl) (by simp) ?_
    intro i hi
    obtain rfl : i = 1 := by simpa using hi
    clear hi
    unfold wpOp
    go_simp
    refine Or.inl ((Pn.num m HE.out HP2d.out hs).mono ?_)
    rintro e3 v3 (⟨n1, q1, hn1, rfl, hS1, hA1⟩ | ⟨hkx, hnx, q, rfl⟩)
    rotate_left
    · exact ⟨rfl, hkx, .inr ⟨hnx, q, rfl⟩⟩
    refine ⟨hS1, ?_⟩
    clear HP2d
    refine wpAnyH_take (i := 8) (v := .pointer (some ⟨bH, 0, none⟩)) rfl (by kernel_rfl) (by kernel_rfl) (by kernel_rfl) (fun _ _ _ h => h) (Or.inl ⟨by rfl, fun w hS => ?_⟩) hS1 ?_
    · go_simp
    refine wpAnyH_take (i := 9) (v := .pointer (some ⟨bH, 2, none⟩)) rfl (by kernel_rfl) (by kernel_rfl) (by kernel_rfl) (fun _ _ _ h => h) (Or.inl ⟨by rfl, fun w hS => ?_⟩) hS1 ?_
    · go_simp
    refine wpAnyH_all (rs := [3]) (by kernel_rfl) (by simp) ?_
    intro i hi
    obtain rfl : i = 3 := by simpa using hi
    clear hi
    unfold wpOp
    go_simp
    refine Or.inl ((Pn.num m HE.out hA1.out hs).mono ?_)
    rintro e4 v4 (⟨n2, q2, hn2, rfl, hS2, hA2⟩ | ⟨hkx, hnx, q, rfl⟩)
    rotate_left
    · exact ⟨rfl, hkx, .inr ⟨hnx, q, rfl⟩⟩
    refine ⟨hS2, ?_⟩
    clear hA1
    refine wpAnyH_all (rs := [5]) (by kernel_rfl) (by simp) ?_
    intro i hi
    obtain rfl : i = 5 := by simpa using hi
    clear hi
    unfold wpOp
    go_simp
    refine Or.inl ((Pn.num m HE.out hA2.out hs).mono ?_)
    rintro e5 v5 (⟨n3, q3, hn3, rfl, hS3, hA3⟩ | ⟨hkx, hnx, q, rfl⟩)
    rotate_left
    · exact ⟨rfl, hkx, .inr ⟨hnx, q, rfl⟩⟩
    refine ⟨hS3, ?_⟩
    clear hA2
    refine wpAnyH_all (rs := [7]) (by kernel_rfl) (by simp) ?_
    intro i hi
    obtain rfl : i = 7 := by simpa using hi
    clear hi
    unfold wpOp
    go_simp
    refine Or.inl ((Pn.num m HE.out hA3.out hs).mono ?_)
    rintro e6 v6 (⟨n4, q4, hn4, rfl, hS4, hA4⟩ | ⟨hkx, hnx, q, rfl⟩)
    rotate_left
    · exact ⟨rfl, hkx, .inr ⟨hnx, q, rfl⟩⟩
    refine ⟨hS4, ?_⟩
    clear hA3
    have b0 := hA4.out.1.hb
    have c0 := b0.c2
    have f0 := b0.fz 2
    refine wpAnyH_all (rs := [10]) (by kernel_rfl) (by simp) ?_
    intro i hi
    obtain rfl : i = 10 := by simpa using hi
    clear hi
    unfold wpOp
    go_simp
    have b1 := b0.set2 (n1 : Int)
    have s1 : (v6.setCell ⟨bH, 2, none⟩ (.int .i64 (n1 : Int))).cell? ⟨bF, 0, none⟩ = some (.func (.func 60) #[.pointer (some ⟨bT, 0, none⟩)] #[]) := (World.cell?_setCell_other v6 ⟨bH, 2, none⟩ ⟨bF, 0, none⟩ _ (by intro e; injection e with e; exact nHF e)).trans hS4
    refine Or.inl ?_
    clear c0 f0
    refine wpAnyH_take (i := 11) (v := .pointer (some ⟨bH, 0, none⟩)) rfl (by kernel_rfl) (by kernel_rfl) (by kernel_rfl) (fun _ _ _ h => h) (Or.inl ⟨by rfl, fun w hS => ?_⟩) s1 ?_
    · go_simp
    refine wpAnyH_take (i := 12) (v := .pointer (some ⟨bH, 3, none⟩)) rfl (by kernel_rfl) (by kernel_rfl) (by kernel_rfl) (fun _ _ _ h => h) (Or.inl ⟨by rfl, fun w hS => ?_⟩) s1 ?_
    · go_simp
    have c1 := b1.c3
    have f1 := b1.fz 3
    refine wpAnyH_all (rs := [13]) (by kernel_rfl) (by simp) ?_
    intro i hi
    obtain rfl : i = 13 := by simpa using hi
    clear hi
    unfold wpOp
    go_simp
    have b2 := b1.set3 (n2 : Int)
    have s2 : ((v6.setCell ⟨bH, 2, none⟩ (.int .i64 (n1 : Int))).setCell ⟨bH, 3, none⟩ (.int .i64 (n2 : Int))).cell? ⟨bF, 0, none⟩ = some (.func (.func 60) #[.pointer (some ⟨bT, 0, none⟩)] #[]) := (World.cell?_setCell_other (v6.setCell ⟨bH, 2, none⟩ (.int .i64 (n1 : Int))) ⟨bH, 3, none⟩ ⟨bF, 0, none⟩ _ (by intro e; injection e with e; exact nHF e)).trans s1
    refine Or.inl ?_
    clear c1 f1
    refine wpAnyH_take (i := 14) (v := .pointer (some ⟨bH, 0, none⟩)) rfl (by kernel_rfl) (by kernel_rfl) (by kernel_rfl) (fun _ _ _ h => h) (Or.inl ⟨by rfl, fun w hS => ?_⟩) s2 ?_
    · go_simp
    refine wpAnyH_take (i := 15) (v := .pointer (some ⟨bH, 4, none⟩)) rfl (by kernel_rfl) (by kernel_rfl) (by kernel_rfl) (fun _ _ _ h => h) (Or.inl ⟨by rfl, fun w hS => ?_⟩) s2 ?_
    · go_simp
    have c2 := b2.c4
    have f2 := b2.fz 4
    refine wpAnyH_all (rs := [16]) (by kernel_rfl) (by simp) ?_
    intro i hi
    obtain rfl : i = 16 := by simpa using hi
    clear hi
    unfold wpOp
    go_simp
    have b3 := b2.set4 (n3 : Int)
    have s3 : (((v6.setCell ⟨bH, 2, none⟩ (.int .i64 (n1 : Int))).setCell ⟨bH, 3, none⟩ (.int .i64 (n2 : Int))).setCell ⟨bH, 4, none⟩ (.int .i64 (n3 : Int))).cell? ⟨bF, 0, none⟩ = some (.func (.func 60) #[.pointer (some ⟨bT, 0, none⟩)] #[]) := (World.cell?_setCell_other ((v6.setCell ⟨bH, 2, none⟩ (.int .i64 (n1 : Int))).setCell ⟨bH, 3, none⟩ (.int .i64 (n2 : Int))) ⟨bH, 4, none⟩ ⟨bF, 0, none⟩ _ (by intro e; injection e with e; exact nHF e)).trans s2
    refine Or.inl ?_
    clear c2 f2
    refine wpAnyH_take (i := 17) (v := .pointer (some ⟨bH, 0, none⟩)) rfl (by kernel_rfl) (by kernel_rfl) (by kernel_rfl) (fun _ _ _ h => h) (Or.inl ⟨by rfl, fun w hS => ?_⟩) s3 ?_
    · go_simp
    refine wpAnyH_take (i := 18) (v := .pointer (some ⟨bH, 5, none⟩)) rfl (by kernel_rfl) (by kernel_rfl) (by kernel_rfl) (fun _ _ _ h => h) (Or.inl ⟨by rfl, fun w hS => ?_⟩) s3 ?_
    · go_simp
    have c3 := b3.c5
    have f3 := b3.fz 5
    refine wpAnyH_all (rs := [19]) (by kernel_rfl) (by simp) ?_
    intro i hi
    obtain rfl : i = 19 := by simpa using hi
    clear hi
    unfold wpOp
    go_simp
    have b4 := b3.set5 (n4 : Int)
    have s4 : ((((v6.setCell ⟨bH, 2, none⟩ (.int .i64 (n1 : Int))).setCell ⟨bH, 3, none⟩ (.int .i64 (n2 : Int))).setCell ⟨bH, 4, none⟩ (.int .i64 (n3 : Int))).setCell ⟨bH, 5, none⟩ (.int .i64 (n4 : Int))).cell? ⟨bF, 0, none⟩ = some (.func (.func 60) #[.pointer (some ⟨bT, 0, none⟩)] #[]) := (World.cell?_setCell_other (((v6.setCell ⟨bH, 2, none⟩ (.int .i64 (n1 : Int))).setCell ⟨bH, 3, none⟩ (.int .i64 (n2 : Int))).setCell ⟨bH, 4, none⟩ (.int .i64 (n3 : Int))) ⟨bH, 5, none⟩ ⟨bF, 0, none⟩ _ (by intro e; injection e with e; exact nHF e)).trans s3
    refine Or.inl ?_
    clear c3 f3
    refine wpAnyH_done (by kernel_rfl) ?_ _
    have hk4 : Keep v6 ((((v6.setCell ⟨bH, 2, none⟩ (.int .i64 (n1 : Int))).setCell ⟨bH, 3, none⟩ (.int .i64 (n2 : Int))).setCell ⟨bH, 4, none⟩ (.int .i64 (n3 : Int))).setCell ⟨bH, 5, none⟩ (.int .i64 (n4 : Int))) [bH] := ((((Keep.refl v6 _).set ⟨bH, 2, none⟩ (.inl (by simp)) _).set ⟨bH, 3, none⟩ (.inl (by simp)) _).set ⟨bH, 4, none⟩ (.inl (by simp)) _).set ⟨bH, 5, none⟩ (.inl (by simp)) _
    have HP7 := Lib.hid (show Pn w ((((v6.setCell ⟨bH, 2, none⟩ (.int .i64 (n1 : Int))).setCell ⟨bH, 3, none⟩ (.int .i64 (n2 : Int))).setCell ⟨bH, 4, none⟩ (.int .i64 (n3 : Int))).setCell ⟨bH, 5, none⟩ (.int .i64 (n4 : Int))) bV bT bH bF s b' 1 ([] ++ [n1] ++ [n2] ++ [n3] ++ [n4]) q4 n1 n2 n3 n4 0 m.toNat ⟨#[]⟩ from ⟨hA4.out.1.put hk4 b4, hA4.out.2.1.trans (hk4.more (by simp)), hA4.out.2.2⟩)
    clear b0 b1 b2 b3 b4 s1 s2 s3 hA4 hS1 hS2 hS3 hS4 hk4
    have hcF := HP7.out.1.vF.cell
    generalize ((((v6.setCell ⟨bH, 2, none⟩ (.int .i64 (n1 : Int))).setCell ⟨bH, 3, none⟩ (.int .i64 (n2 : Int))).setCell ⟨bH, 4, none⟩ (.int .i64 (n3 : Int))).setCell ⟨bH, 5, none⟩ (.int .i64 (n4 : Int))) = w7 at *
    go_wp2_with fail
    refine (Pn.num m HE.out HP7.out hs).mono ?_
    rintro e8 w8 (⟨n5, q5, hn5, rfl, hS8, hA8⟩ | ⟨hkx, hnx, q, rfl⟩)
    rotate_left
    · exact ⟨rfl, hkx, .inr ⟨hnx, q, rfl⟩⟩
    have hcV8 := hA8.out.1.vV.cell
    have b8 := hA8.out.1.hb
    have c5 := b8.c5
    have c6 := b8.c6
    have f6 := b8.fz 6
    have B8 := Lib.hid b8
    clear b8 hS8 hcF HP7
    by_cases h1 : n5 ≤ 1000000000
    · by_cases h2 : n4 ≤ 1000000000
      · have i1 : (n5 : Int) ≤ 1000000000 := by omega
        have i2 : (n4 : Int) ≤ 1000000000 := by omega
        have hlo : ((n4 : Int) + (n5 : Int)) = ((lateOf n4 n5 : Nat) : Int) := by unfold lateOf; rw [if_pos (by omega)]; push_cast; rfl
        have HLO := Lib.hid hlo
        have hkA : Keep w8 ((w8.setCell ⟨bH, 6, none⟩ (.int .i64 9223372036854775807)).setCell ⟨bH, 6, none⟩ (.int .i64 ((n4 : Int) + (n5 : Int)))) [bH] := ((Keep.refl w8 _).set ⟨bH, 6, none⟩ (.inl (by simp)) _).set ⟨bH, 6, none⟩ (.inl (by simp)) _
        have HA := Lib.hid (And.intro (hA8.out.1.put hkA ((B8.out.set6 9223372036854775807).set6 ((n4 : Int) + (n5 : Int)))) (And.intro (hA8.out.2.1.trans (hkA.more (L' := [bT, bH]) (by simp))) ((B8.out.set6 9223372036854775807).set6 ((n4 : Int) + (n5 : Int)))))
        have HR := Lib.hid (rest_any ((w8.setCell ⟨bH, 6, none⟩ (.int .i64 9223372036854775807)).setCell ⟨bH, 6, none⟩ (.int .i64 ((n4 : Int) + (n5 : Int)))) bT q5 s HA.out.1.ta hs hA8.out.2.2.1)
        have hff : fin 5 [] b' = (0, [n1, n2, n3, n4, n5], s.data.toList.drop q5) := hA8.out.2.2.2
        have HFF := Lib.hid hff
        have hcVA : ((w8.setCell ⟨bH, 6, none⟩ (.int .i64 9223372036854775807)).setCell ⟨bH, 6, none⟩ (.int .i64 ((n4 : Int) + (n5 : Int)))).cell? ⟨bV, 0, none⟩ = some (.pointer (some ⟨bT, 0, none⟩)) := HA.out.1.vV.cell
        clear hlo hkA hA8 hff
        go_wp2_with fail
        refine HR.out.mono ?_
        rintro e9 w9 ⟨rfl, hfr⟩
        have hk9 : Keep ((w8.setCell ⟨bH, 6, none⟩ (.int .i64 9223372036854775807)).setCell ⟨bH, 6, none⟩ (.int .i64 ((n4 : Int) + (n5 : Int)))) w9 [bT] := Keep.of_frm hfr (by simp)
        have b9 := HA.out.2.2.keep hk9 (by simpa using Ne.symm nTH)
        have c8 := b9.c8
        have f8 := b9.fz 8
        have HK9 := Lib.hid (HA.out.2.1.trans (hk9.more (by simp)))
        obtain ⟨r, hr⟩ : ∃ r : ByteArray, r = ⟨(s.data.toList.drop q5).toArray⟩ := ⟨_, rfl⟩
        have hr2 : r.data.toList = s.data.toList.drop q5 := by rw [hr]
        rw [← hr]
        rw [← hr2] at HFF
        have HB9 := Lib.hid (b9.set8 r)
        rw [HLO.out] at HB9
        clear hr hr2 hfr hk9 b9 HR HA HLO c5 c6 f6 hcVA
        go_wp2_with fail
        go_end0
        exact ⟨HK9.out.set ⟨bH, 8, none⟩ (.inl (by simp)) _, .inl ⟨m, b', n1, n2, n3, n4, n5, r, HE.out, HFF.out, rfl, HB9.out⟩⟩
      · have i1 : (n5 : Int) ≤ 1000000000 := by omega
        have i2 : ¬ (n4 : Int) ≤ 1000000000 := by omega
        have hlo : 9223372036854775807 = ((lateOf n4 n5 : Nat) : Int) := by unfold lateOf; rw [if_neg (by omega)]; rfl
        have HLO := Lib.hid hlo
        have hkA : Keep w8 (w8.setCell ⟨bH, 6, none⟩ (.int .i64 9223372036854775807)) [bH] := (Keep.refl w8 _).set ⟨bH, 6, none⟩ (.inl (by simp)) _
        have HA := Lib.hid (And.intro (hA8.out.1.put hkA (B8.out.set6 9223372036854775807)) (And.intro (hA8.out.2.1.trans (hkA.more (L' := [bT, bH]) (by simp))) (B8.out.set6 9223372036854775807)))
        have HR := Lib.hid (rest_any (w8.setCell ⟨bH, 6, none⟩ (.int .i64 9223372036854775807)) bT q5 s HA.out.1.ta hs hA8.out.2.2.1)
        have hff : fin 5 [] b' = (0, [n1, n2, n3, n4, n5], s.data.toList.drop q5) := hA8.out.2.2.2
        have HFF := Lib.hid hff
        have hcVA : (w8.setCell ⟨bH, 6, none⟩ (.int .i64 9223372036854775807)).cell? ⟨bV, 0, none⟩ = some (.pointer (some ⟨bT, 0, none⟩)) := HA.out.1.vV.cell
        clear hlo hkA hA8 hff
        go_wp2_with fail
        refine HR.out.mono ?_
        rintro e9 w9 ⟨rfl, hfr⟩
        have hk9 : Keep (w8.setCell ⟨bH, 6, none⟩ (.int .i64 9223372036854775807)) w9 [bT] := Keep.of_frm hfr (by simp)
        have b9 := HA.out.2.2.keep hk9 (by simpa using Ne.symm nTH)
        have c8 := b9.c8
        have f8 := b9.fz 8
        have HK9 := Lib.hid (HA.out.2.1.trans (hk9.more (by simp)))
        obtain ⟨r, hr⟩ : ∃ r : ByteArray, r = ⟨(s.data.toList.drop q5).toArray⟩ := ⟨_, rfl⟩
        have hr2 : r.data.toList = s.data.toList.drop q5 := by rw [hr]
        rw [← hr]
        rw [← hr2] at HFF
        have HB9 := Lib.hid (b9.set8 r)
        rw [HLO.out] at HB9
        clear hr hr2 hfr hk9 b9 HR HA HLO c5 c6 f6 hcVA
        go_wp2_with fail
        go_end0
        exact ⟨HK9.out.set ⟨bH, 8, none⟩ (.inl (by simp)) _, .inl ⟨m, b', n1, n2, n3, n4, n5, r, HE.out, HFF.out, rfl, HB9.out⟩⟩
    · have i1 : ¬ (n5 : Int) ≤ 1000000000 := by omega
      have hlo : 9223372036854775807 = ((lateOf n4 n5 : Nat) : Int) := by unfold lateOf; rw [if_neg (by omega)]; rfl
      have HLO := Lib.hid hlo
      have hkA : Keep w8 (w8.setCell ⟨bH, 6, none⟩ (.int .i64 9223372036854775807)) [bH] := (Keep.refl w8 _).set ⟨bH, 6, none⟩ (.inl (by simp)) _
      have HA := Lib.hid (And.intro (hA8.out.1.put hkA (B8.out.set6 9223372036854775807)) (And.intro (hA8.out.2.1.trans (hkA.more (L' := [bT, bH]) (by simp))) (B8.out.set6 9223372036854775807)))
      have HR := Lib.hid (rest_any (w8.setCell ⟨bH, 6, none⟩ (.int .i64 9223372036854775807)) bT q5 s HA.out.1.ta hs hA8.out.2.2.1)
      have hff : fin 5 [] b' = (0, [n1, n2, n3, n4, n5], s.data.toList.drop q5) := hA8.out.2.2.2
      have HFF := Lib.hid hff
      have hcVA : (w8.setCell ⟨bH, 6, none⟩ (.int .i64 9223372036854775807)).cell? ⟨bV, 0, none⟩ = some (.pointer (some ⟨bT, 0, none⟩)) := HA.out.1.vV.cell
      clear hlo hkA hA8 hff
      go_wp2_with fail
      refine HR.out.mono ?_
      rintro e9 w9 ⟨rfl, hfr⟩
      have hk9 : Keep (w8.setCell ⟨bH, 6, none⟩ (.int .i64 9223372036854775807)) w9 [bT] := Keep.of_frm hfr (by simp)
      have b9 := HA.out.2.2.keep hk9 (by simpa using Ne.symm nTH)
      have c8 := b9.c8
      have f8 := b9.fz 8
      have HK9 := Lib.hid (HA.out.2.1.trans (hk9.more (by simp)))
      obtain ⟨r, hr⟩ : ∃ r : ByteArray, r = ⟨(s.data.toList.drop q5).toArray⟩ := ⟨_, rfl⟩
      have hr2 : r.data.toList = s.data.toList.drop q5 := by rw [hr]
      rw [← hr]
      rw [← hr2] at HFF
      have HB9 := Lib.hid (b9.set8 r)
      rw [HLO.out] at HB9
      clear hr hr2 hfr hk9 b9 HR HA HLO c5 c6 f6 hcVA
      go_wp2_with fail
      go_end0
      exact ⟨HK9.out.set ⟨bH, 8, none⟩ (.inl (by simp)) _, .inl ⟨m, b', n1, n2, n3, n4, n5, r, HE.out, HFF.out, rfl, HB9.out⟩⟩
end Bk
end Go.Proofs.YtpbphhpldlckbaaGreat
namespace Go.Proofs.YtpbphhpldlckbaaGreat
namespace Fr
open Go.RowKit
open Bt (Frm)

/-- A row of bytes at block g. -/
def RowB (w : World) (g : Nat) (l : List UInt8) : Prop := w.heap[g]? = some (.cells (bv l).toArray 190 (0, 0))
section
variable {w w' : World} {g : Nat} {l : List UInt8} (h : RowB w g l)
include h
theorem RowB.lt : g < w.heap.size := (Array.getElem?_eq_some_iff.1 h).1
theorem RowB.cell (k : Nat) (c : UInt8) (hc : l[k]? = some c) : w.cell? ⟨g, k, none⟩ = some (.int .u8 (c.toNat : Int)) := by
  rw [cell_of_row w g k _ _ (0, 0) h]
  simp [bv, hc]
theorem RowB.fz (k : Nat) : w.frozen? ⟨g, k, none⟩ = false := frozen_of_row w g k _ _ h
theorem RowB.set (k : Nat) (c : UInt8) : RowB (w.setCell ⟨g, k, none⟩ (.int .u8 (c.toNat : Int))) g (l.set k c) := by
  unfold RowB
  have hh : w.heap[g]? = _ := h
  simp only [World.setCell, Array.getElem?_modify, if_true, hh, Option.map_some]
  congr 2
  simp [bv, List.map_set]
theorem RowB.drew : RowB w.drew g l := h
end

/-- 'copy' within rows, the row written known whole: no other block turns. -/
theorem step_copy_here {P : Program} {ops : Array Oper} {o : Oper} {a : Act} {w : World} {K : Act → World → Prop} {Q : Exit → Act → World → Prop} {E : Prop} (hgd : o.guard = none) (d s : Operand) (dT sT : TypeId)
    (ho : o.op = .call { callee := .builtin .copy, args := #[d, s], argTypes := #[dT, sT] }) (elem : TypeId) (hu : P.underlying dT = some (.slice elem)) (hsz : (P.info? elem).map (·.size) = some 1)
    (dp sp : Option Addr) (dLen dCap sLen sCap : Nat) (hd : a.eval d = .slice dp dLen dCap) (hs : a.eval s = .slice sp sLen sCap)
    (g off : Nat) (cur : List Value) (t : TypeId) (hg : w.heap[g]? = some (.cells cur.toArray t (0, 0))) (cs : List Value) (hn : cs.length = Nat.min sLen dLen)
    (hpos : 0 < cs.length → dp = some ⟨g, off, none⟩ ∧ ∃ ad, sp = some ad ∧ ∀ j v, cs[j]? = some v → w.cell? (ad.add j) = some v)
    (hfit : off + cs.length ≤ cur.length) (h1 : ∀ v ∈ cs, v.oneCell' = true)
    (h : ∀ w', Hid (w'.heap[g]? = some (.cells (splice cur off cs).toArray t (0, 0))) → Frm w w' g none → K (a.put o.dst (goInt cs.length)) w') :
    if Region.wanted o (yielded ops a.tmps) = true then Oper.wp P o a w K Q else E := by
  have hw : Region.wanted o (yielded ops a.tmps) = true := by simp [Region.wanted, hgd]
  rw [if_pos hw]
  by_cases h0 : cs.length = 0
  · have hcs : cs = [] := List.eq_nil_of_length_eq_zero h0
    subst hcs
    have hrun := run_copy_none (P := P) w dT sT o.type elem dp sp dLen dCap sLen sCap hu hsz (by simpa using hn.symm)
    unfold Oper.wp
    simp [execOp, ho, resolve, invoke, builtin, hd, hs, hrun, Result.andThen]
    exact h w (show _ = _ by simpa [splice] using hg) (Frm.refl _ _ _)
  · obtain ⟨rfl, ad, rfl, hsrc⟩ := hpos (by omega)
    have hrun := run_copy_row (P := P) w dT sT o.type elem g off dLen dCap ad sLen sCap cur.toArray t cs hu hsz hg hn hsrc (by simpa using hfit) h1
    unfold Oper.wp
    simp [execOp, ho, resolve, invoke, builtin, hd, hs, hrun, Result.andThen]
    refine h _ (show _ = _ by simpa [splice] using setRow_heap w g _ _ t _ hg) ⟨rfl, rfl, rfl, by simp [World.setRow], fun k _ hk _ => setRow_other w g k _ hk⟩

set_option maxHeartbeats 3200000 in
set_option maxRecDepth 100000 in
theorem at_any (w : World) (g i : Nat) (c : UInt8) (l : List UInt8) (hl : l.length = 256) (hi : i < 256) (hc : l[i]? = some c) (h : RowB w g l) :
    Calls Tryz.prog 115 #[.pointer (some ⟨g, 0, none⟩), .int .i64 (i : Int)] w fun e w' => e = .returned (.int .u8 (c.toNat : Int)) ∧ RowB w' g (mv l i) ∧ Frm w w' g none := by
  have mixed : Tryz.prog.follows .mixedOrders = true := by kernel_rfl
  have hcell := h.cell i c hc
  have hcsl : (bv (l.take i)).length = i := by rw [bv_length, List.length_take]; omega
  have hsrc : ∀ j v, (bv (l.take i))[j]? = some v → w.drew.cell? ((⟨g, 0, none⟩ : Addr).add j) = some v := by
    intro j v hv
    rw [Addr.add_lit, Nat.zero_add]
    show w.cell? _ = _
    rw [cell_of_row w g j _ _ (0, 0) h]
    have hj : j < i := by have := (List.getElem?_eq_some_iff.1 hv).1; omega
    rw [← hv]
    simp [bv, hj]
  have hfin : ((splice (bv l) 1 (bv (l.take i))).set 0 (.int .u8 (c.toNat : Int))) = bv (mv l i) := by
    rw [mv_some hc]
    rcases l with _ | ⟨y, r⟩
    · simp at hl
    · unfold splice
      rw [hcsl]
      simp [bv, List.map_take, Nat.add_comm 1 i]
  obtain ⟨L2, hL2⟩ : ∃ L2, L2 = splice (bv l) 1 (bv (l.take i)) := ⟨_, rfl⟩
  rw [← hL2] at hfin
  obtain ⟨cs, hcs⟩ : ∃ cs, cs = bv (l.take i) := ⟨_, rfl⟩
  rw [← hcs] at hcsl hsrc hL2
  have h1 : ∀ v ∈ cs, v.oneCell' = true := by rw [hcs]; exact bv_ok _
  have H : Aside (RowB w g l) := h
  have HS := Lib.hid hsrc
  have HF := Lib.hid hfin
  have HL2 := Lib.hid hL2
  have H1 := Lib.hid h1
  have hbl : (bv l).length = 256 := by rw [bv_length, hl]
  have HBL := Lib.hid hbl
  have i1 : (i : Int) < 256 := by omega
  have f1 : IntKind.i64.wrap ((i : Int) + 1) = (i : Int) + 1 := by rw [IntKind.wrap_i64]; omega
  have f2 : (1 : Int) ≤ (i : Int) + 1 := by omega
  have f3 : (i : Int) + 1 ≤ 256 := by omega
  have f4 : ((i : Int) + 1).toNat = i + 1 := by omega
  have f5 : (i : Int) ≤ 256 := by omega
  have f6 : (0 : Int) ≤ (i : Int) + 1 := by omega
  clear h hsrc hfin hL2 hcs h1 hc hl hbl
  go_enter Tryz.func115, Tryz.ntmps115
  go_wp2_with fail
  go_region_law (refine step_copy_here rfl (.tmp 17) (.tmp 22) 66 66 rfl 5 Tryz.underlying66 (by kernel_rfl) (some ⟨g, 1, none⟩) (some ⟨g, 0, none⟩) i 255 i 256 (by simp [go_sem, Act.eval]) (by simp [go_sem, Act.eval]) g 1 (bv l) 190 H.out cs (by rw [hcsl]; exact (Nat.min_self i).symm) (fun _ => ⟨rfl, _, rfl, HS.out⟩) (by rw [hcsl, HBL.out]; omega) H1.out ?_; intro w4 hg4 hb4)
  have hg4' : w4.heap[g]? = some (.cells L2.toArray 190 (0, 0)) := by rw [HL2.out]; exact hg4.out
  have hL2l : L2.length = 256 := by rw [HL2.out, length_splice _ _ _ (by rw [hcsl, HBL.out]; omega), HBL.out]
  have hc40 : (w4.cell? ⟨g, 0, none⟩).isSome = true := by
    rw [cell_of_row w4 g 0 _ _ (0, 0) hg4']; simp; omega
  have hfz4 : w4.frozen? ⟨g, 0, none⟩ = false := frozen_of_row w4 g 0 _ _ hg4'
  obtain ⟨u4, hu4⟩ := Option.isSome_iff_exists.1 hc40
  have hrow : RowB (w4.setCell ⟨g, 0, none⟩ (.int .u8 (c.toNat : Int))) g (mv l i) := by
    unfold RowB
    rw [← HF.out]
    simp [World.setCell, Array.getElem?_modify, hg4']
  have hfr : Frm w (w4.setCell ⟨g, 0, none⟩ (.int .u8 (c.toNat : Int))) g none :=
    ⟨hb4.os, hb4.tape, hb4.output, by simpa [World.setCell] using hb4.size, fun k hk hb hg => (Below.heap_setCell w4 ⟨g, 0, none⟩ _ k hb).trans (hb4.blk k hk hb hg)⟩
  have HX : Aside _ := And.intro hrow hfr
  clear hrow hfr hg4' hL2l hc40 hg4 hb4 f1 f2 f3 f4 f5 f6
  go_wp2_with fail
  go_ret
  exact ⟨rfl, HX.out.1, HX.out.2⟩
end Fr
end Go.Proofs.YtpbphhpldlckbaaGreat
namespace Go.Proofs.YtpbphhpldlckbaaGreat
namespace Fr
open Go.RowKit
open Bt (Frm)

/-- The row as far as it is filled. -/
def rowK (k : Nat) : List UInt8 := (List.range 256).map fun i => if i < k then UInt8.ofNat i else 0
theorem length_rowK (k : Nat) : (rowK k).length = 256 := by simp [rowK]
theorem rowK_zero : bv (rowK 0) = List.replicate 256 (.int .u8 0) := by
  unfold bv rowK
  simp only [Nat.not_lt_zero, if_false, List.map_const', List.length_range, List.map_replicate]
  rfl
theorem rowK_all : rowK 256 = row0 := by
  unfold rowK row0
  apply List.map_congr_left
  intro i hi
  rw [List.mem_range] at hi
  rw [if_pos hi]
theorem rowK_set (k : Nat) (_h : k < 256) : (rowK k).set k (UInt8.ofNat k) = rowK (k + 1) := by
  apply List.ext_getElem?
  intro j
  unfold rowK
  rw [List.getElem?_set, List.getElem?_map, List.getElem?_map, List.length_map, List.length_range]
  by_cases hj : j < 256
  · rw [List.getElem?_range hj]
    by_cases he : k = j
    · subst he; simp [hj]
    · rw [if_neg he]
      simp only [Option.map_some, Option.some.injEq]
      by_cases hlt : j < k
      · rw [if_pos hlt, if_pos (by omega)]
      · rw [if_neg hlt, if_neg (by omega)]
  · rw [List.getElem?_eq_none (by simp; omega)]
    by_cases he : k = j
    · subst he; simp [hj]
    · rw [if_neg he]; rfl

set_option maxHeartbeats 3200000 in
set_option maxRecDepth 100000 in
theorem begun_any (w : World) :
    Calls Tryz.prog 93 #[] w fun e w' => ∃ g, e = .returned (.pointer (some ⟨g, 0, none⟩)) ∧ RowB w' g row0 ∧ w.heap.size ≤ g ∧ Below w.heap.size w w' := by
  have mixed : Tryz.prog.follows .mixedOrders = true := by kernel_rfl
  have hbz : (Instr.build 190 #[]).run Tryz.prog w = .ok (.agg (Array.replicate 256 (.int .u8 0))) w := by kernel_rfl
  have HBZ := Lib.hid hbz
  clear hbz
  go_enter Tryz.func93, Tryz.ntmps93
  go_wp2_with (refine wpList_build_zero rfl 190 rfl (Array.replicate 256 (.int .u8 0)) HBZ.out ?_)
  have hr0 : RowB (w.alloc (.cells (Array.replicate 256 (.int .u8 0)) 190)) w.heap.size (rowK 0) := by
    unfold RowB
    rw [heap_alloc_new, rowK_zero, List.toArray_replicate]
  have hb0 : Below w.heap.size w (w.alloc (.cells (Array.replicate 256 (.int .u8 0)) 190)) := (Below.refl _ _).alloc (Nat.le_refl _) _
  have H0 : Aside _ := And.intro hr0 hb0
  clear hr0 hb0
  generalize w.alloc (.cells (Array.replicate 256 (.int .u8 0)) 190) = w1 at *
  go_loopg [5] 256 (fun kx s5 wr => ∃ (k : Nat), s5 = .int .i64 (k : Int) ∧ k ≤ 256 ∧ 256 - k ≤ kx ∧ Aside (RowB wr w.heap.size (rowK k) ∧ Below w.heap.size w wr))
  case atStart => exact ⟨0, rfl, by omega, by omega, H0.out⟩
  case round =>
    clear H0
    obtain ⟨k, rfl, hk, hkx, H⟩ := hrel
    by_cases hlt : k < 256
    · have hcell := H.out.1.cell k ((rowK k)[k]'(by rw [length_rowK]; exact hlt)) (List.getElem?_eq_getElem _)
      have hfz := H.out.1.fz k
      have hu8 : (k : Int) = ((UInt8.ofNat k).toNat : Int) := by
        rw [UInt8.toNat_ofNat']; omega
      have hset := H.out.1.set k (UInt8.ofNat k)
      rw [rowK_set k hlt] at hset
      have hb := H.out.2.setCell (p := ⟨w.heap.size, k, none⟩) (Nat.le_refl _) (.int .u8 ((UInt8.ofNat k).toNat : Int))
      have HX := And.intro hset hb
      rw [← hu8] at HX
      have HX2 : Aside _ := HX
      generalize (((rowK k)[k]'(by rw [length_rowK]; exact hlt)).toNat : Int) = y at *
      clear hu8 hset hb HX
      go_wp2_with fail
      go_roundg (256 - (k + 1))
      case measure => omega
      case rel => exact ⟨k + 1, by go_num, by omega, by omega, HX2.out⟩
    · obtain rfl : k = 256 := by omega
      have hres := H.out.1
      rw [rowK_all] at hres
      have HX : Aside _ := And.intro hres H.out.2
      clear hres
      go_wp2_with fail
      go_ret
      exact ⟨_, rfl, HX.out.1, Nat.le_refl _, HX.out.2⟩
end Fr
end Go.Proofs.YtpbphhpldlckbaaGreat
namespace Go.Proofs.YtpbphhpldlckbaaGreat
namespace Fr
open Go.RowKit
open Bt (Frm)

theorem plc_ne (c : UInt8) : ∀ (l : List UInt8) (k : Nat) (d : UInt8), l[k]? = some d → k < plc c l → d ≠ c
  | [], k, d, h, _ => by simp at h
  | e :: l, 0, d, h, hk => by
    simp only [plc] at hk
    split at hk
    · omega
    · rename_i hne
      simp at h
      subst h
      exact hne
  | e :: l, k + 1, d, h, hk => by
    simp only [plc] at hk
    split at hk
    · omega
    · exact plc_ne c l k d (by simpa using h) (by omega)

set_option maxHeartbeats 3200000 in
set_option maxRecDepth 100000 in
theorem index_any (g cap : Nat) (l : List UInt8) (c : UInt8) (w : World) (hl : l.length = 256) (hc : c ∈ l) (h : RowB w g l) :
    Calls Tryz.prog 114 #[.slice (some ⟨g, 0, none⟩) 256 cap, .int .u8 (c.toNat : Int)] w fun e w' => e = .returned (.int .i64 (plc c l : Int)) ∧ w = w' := by
  have mixed : Tryz.prog.follows .mixedOrders = true := by kernel_rfl
  have H : Aside (RowB w g l) := h
  have hpl := (plc_lt c l hc).1
  have HC := Lib.hid hc
  clear h hc
  go_enter Tryz.func114, Tryz.ntmps114
  go_wp2_with fail
  go_loopg [8] 256 (fun kx s8 wr => ∃ (k : Nat), s8 = .int .i64 (k : Int) ∧ k ≤ plc c l ∧ 256 - k ≤ kx ∧ w = wr)
  case atStart => exact ⟨0, rfl, by omega, by omega, rfl⟩
  case round =>
    obtain ⟨k, rfl, hk, hkx, rfl⟩ := hrel
    have hlt : k < 256 := by omega
    obtain ⟨d, hd⟩ : ∃ d, l[k]? = some d := ⟨_, List.getElem?_eq_getElem (by omega)⟩
    have hcell := H.out.cell k d hd
    by_cases he : k = plc c l
    · have hdc : d = c := by
        have := (plc_lt c l HC.out).2
        rw [← he, hd] at this
        exact Option.some.inj this
      have HE := Lib.hid he
      rw [hdc] at hcell
      clear hd he hdc
      go_wp2_with fail
      go_ret
      exact ⟨by rw [← HE.out]; rfl, rfl⟩
    · have hne : d ≠ c := plc_ne c l k d hd (by omega)
      have hnn : ((c.toNat : Int) == (d.toNat : Int)) = false := by
        rw [beq_eq_false_iff_ne]
        intro e
        exact hne (UInt8.toNat_inj.1 (by omega))
      have hk1 : k + 1 ≤ plc c l := by omega
      clear hd hne he
      go_wp2_with fail
      go_roundg (256 - (k + 1))
      case measure => omega
      case rel => exact ⟨k + 1, by go_num, hk1, by omega, by first | rfl | trivial⟩

set_option maxHeartbeats 3200000 in
set_option maxRecDepth 100000 in
theorem rank_any (g : Nat) (l : List UInt8) (c : UInt8) (w : World) (hl : l.length = 256) (hc : c ∈ l) (h : RowB w g l) :
    Calls Tryz.prog 94 #[.pointer (some ⟨g, 0, none⟩), .int .u8 (c.toNat : Int)] w fun e w' => e = .returned (.int .i64 (plc c l : Int)) ∧ RowB w' g (mv l (plc c l)) ∧ Frm w w' g none := by
  have mixed : Tryz.prog.follows .mixedOrders = true := by kernel_rfl
  obtain ⟨h1, h2⟩ := plc_lt c l hc
  have HI := Lib.hid (index_any g 256 l c w hl hc h)
  have HA := Lib.hid (at_any w g (plc c l) c l hl (by omega) h2 h)
  generalize plc c l = p at *
  clear h2 hc h
  go_enter Tryz.func94, Tryz.ntmps94
  go_wp2_with fail
  refine HI.out.mono ?_
  rintro e1 w1 ⟨rfl, rfl⟩
  go_wp2_with fail
  refine HA.out.mono ?_
  rintro e1 w1 ⟨rfl, hr, hf⟩
  have HX : Aside _ := And.intro hr hf
  clear hr hf
  go_wp2_with fail
  go_ret
  exact ⟨rfl, HX.out.1, HX.out.2⟩
end Fr
end Go.Proofs.YtpbphhpldlckbaaGreat
namespace Go.Proofs.YtpbphhpldlckbaaGreat
namespace Fr
open Go.RowKit
open Bt (Frm)

theorem own_frm {w w' : World} {base : Nat} {e : TypeId} {size n b : Nat} {v : Value} {g : Option Nat} {xs : List Value} (h : w.ownsRow base e size v n xs) (hf : Frm w w' b g) (h1 : v.ownBlock ≠ some b) (h2 : ∀ k, v.ownBlock = some k → some k ≠ g) : w'.ownsRow base e size v n xs := by
  refine ⟨h.1, ?_⟩
  rcases h.2 with ⟨hv, h0⟩ | ⟨g', cap, cur, hv, hg, hh, hr⟩
  · exact .inl ⟨hv, h0⟩
  · subst hv
    exact .inr ⟨g', cap, cur, rfl, hg, (hf.blk g' (Array.getElem?_eq_some_iff.1 hh).1 (fun e => h1 (by rw [← e]; rfl)) (h2 g' rfl)).trans hh, hr⟩

set_option maxHeartbeats 3200000 in
set_option maxRecDepth 100000 in
theorem ranks_any (s : ByteArray) (w : World) (hs : s.size ≤ 20000) :
    Calls Tryz.prog 71 #[.string s] w fun e w' => ∃ v, e = .returned v ∧ Own w' w.heap.size v (rks row0 s.data.toList) ∧ Below w.heap.size w w' := by
  have mixed : Tryz.prog.follows .mixedOrders = true := by kernel_rfl
  go_enter Tryz.func71, Tryz.ntmps71
  go_wp2_with fail
  refine (begun_any w).mono ?_
  rintro e1 w1 ⟨g, rfl, hr1, hg1, hb1⟩
  have hg1l := hr1.lt
  have HR1 := Lib.hid hr1
  have HB1 := Lib.hid hb1
  have hs1 := hb1.size
  clear hr1 hb1
  go_wp2_with (at_make; (refine make0 (n := s.size) (by omega) (Nat.le_refl w1.heap.size) ?_); intro w2 hown2 hg2 hz2)
  have hr2 : RowB w2 g row0 := (hg2.block g hg1l (by simp)).trans HR1.out
  have hb2 : Below w.heap.size w w2 := HB1.out.grown hg2 hs1 (by simp)
  have H0 : Aside (Own w2 w1.heap.size (.slice (some ⟨w1.heap.size, 0, none⟩) 0 s.size) [] ∧ RowB w2 g row0 ∧ Below w.heap.size w w2 ∧ w1.heap.size ≤ w2.heap.size) := ⟨hown2, hr2, hb2, by omega⟩
  clear hown2 hr2 hb2 hg2 hz2
  go_wp2_with fail
  go_loopg [4, 5] s.size (fun kx s4 s5 wr => ∃ (k : Nat) (acc : List Int) (row : List UInt8) (v : Value), v = s4 ∧ s5 = .int .i64 (k : Int) ∧ k ≤ s.size ∧ s.size - k ≤ kx ∧ Hid (acc ++ rks row (s.data.toList.drop k) = rks row0 s.data.toList) ∧
    Aside (Own wr w1.heap.size v acc ∧ RowB wr g row ∧ Below w.heap.size w wr ∧ w1.heap.size ≤ wr.heap.size) ∧ Aside (acc.length = k ∧ row.length = 256 ∧ ∀ c, c ∈ row))
  case atStart => exact ⟨0, [], row0, _, rfl, rfl, by omega, by omega, (show Hid _ from rfl), H0.out, ⟨rfl, length_row0, row0_mem⟩⟩
  case round =>
    clear H0
    obtain ⟨k, acc, row, v, hv, rfl, hk, hkx, heq, H, HL⟩ := hrel
    subst hv
    by_cases hlt : k < s.size
    · have hdr : s.data.toList.drop k = s[k] :: s.data.toList.drop (k + 1) := List.drop_eq_getElem_cons (show k < s.data.toList.length from hlt)
      have HRK := Lib.hid (rank_any g row s[k] wr HL.out.2.1 (HL.out.2.2 _) H.out.2.1)
      have hst : (acc ++ [(plc s[k] row : Int)]) ++ rks (mv row (plc s[k] row)) (s.data.toList.drop (k + 1)) = rks row0 s.data.toList := by
        rw [← heq.out, hdr, List.append_assoc]; rfl
      have HST := Lib.hid hst
      have hown := H.out.1
      have hne : v.ownBlock ≠ some g := by
        intro e
        have := (World.ownsRow.lt hown g e).1
        omega
      have hmv : (mv row (plc s[k] row)).length = 256 := by rw [length_mv]; exact HL.out.2.1
      have hmm : ∀ c, c ∈ mv row (plc s[k] row) := fun c => (mv_perm row _).mem_iff.2 (HL.out.2.2 c)
      have HMV := Lib.hid hmv
      have HMM := Lib.hid hmm
      generalize plc s[k] row = p at *
      clear hdr hst hmv hmm hown
      go_wp2_with fail
      refine HRK.out.mono ?_
      rintro e3 w3 ⟨rfl, hr3, hf3⟩
      have hown3 : Own w3 w1.heap.size v acc := own_frm H.out.1 hf3 hne (by simp)
      have hb3 : Below w.heap.size w w3 := H.out.2.2.1.trans (hf3.below (by omega) (by have := H.out.2.2.2; omega) (by simp))
      have hs3 : w1.heap.size ≤ w3.heap.size := Nat.le_trans H.out.2.2.2 hf3.size
      have hal : acc.length ≤ 1099511627776 := by have := HL.out.1; omega
      have H3 : Aside _ := And.intro hr3 hb3
      have HAL := Lib.hid hal
      have HO3 := Lib.hid hown3
      clear hr3 hf3 hb3 hal HRK hown3
      go_wp2_with (at_builtin; refine append1 HO3.out HAL.out hs3 ?_; intro A4 n4 c4 w4 hn4 hown4 hb4 hg4 hat4)
      have hr4 : RowB w4 g (mv row p) := (hg4.block g (by omega) (fun e => hne e.symm)).trans H3.out.1
      have hb5 : Below w.heap.size w w4 := H3.out.2.trans (hb4.mono (by omega))
      have HN : Aside _ := And.intro hown4 (And.intro hr4 (And.intro hb5 (Nat.le_trans hs3 hb4.size)))
      clear hown4 hr4 hb5 hb4 hg4 hat4 hn4 HO3
      go_wp2_with fail
      go_roundg (s.size - (k + 1))
      case measure => omega
      case rel => exact ⟨k + 1, _, mv row p, _, rfl, by go_num, by omega, by omega, HST.out, HN.out, ⟨by rw [List.length_append, HL.out.1]; rfl, HMV.out, HMM.out⟩⟩
    · have hd : s.data.toList.drop k = [] := List.drop_eq_nil_of_le (by show s.size ≤ k; omega)
      have hres := heq.out
      rw [hd] at hres
      have hr2 : acc = rks row0 s.data.toList := by rw [← hres]; simp [rks]
      have HX : Aside (Own wr w.heap.size v (rks row0 s.data.toList) ∧ Below w.heap.size w wr) := ⟨by rw [← hr2]; exact (H.out.1).lower (by omega), H.out.2.2.1⟩
      clear hd hres hr2
      go_wp2_with fail
      go_ret
      exact ⟨_, rfl, HX.out.1, HX.out.2⟩
end Fr
end Go.Proofs.YtpbphhpldlckbaaGreat
