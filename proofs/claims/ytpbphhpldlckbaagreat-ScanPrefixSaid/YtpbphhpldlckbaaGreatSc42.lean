/- scan: Tail at any header; Sealed. What is found of a beginning of bytes, plainly; Tail where it answers, where not. The probe of scan, plainly: a header, one block. scan.Records, where the blocks stand. The probes of scan. -/
import Derived.Test.YtpbphhpldlckbaaGreatSc41
import Derived.Deep.Cut
import Derived.Test.YtpbphhpldlckbaaGreatSc04
import Derived.Deep.LoopGhost
namespace Go.Proofs.YtpbphhpldlckbaaGreat
namespace Sn
open Go.RowKit Hd Fm Bk

theorem tail_any (s : ByteArray) (i g f : Int) (w : World) (hs : s.size ≤ 1000000) :
    Calls Tryz.prog 6 #[.string s, .agg #[.int .i64 i, .int .i64 g, .int .i64 f]] w fun e w' => TlAns s i g f w e w' ∧ Below w.heap.size w w' := by
  by_cases h : okH i g f = true ∧ preB s (hdrB i.toNat g.toNat f.toNat) = true
  · obtain ⟨h1, h2⟩ := h
    have hh : 1 ≤ i ∧ i ≤ 999999 ∧ 1 ≤ g ∧ g ≤ 999999 ∧ 1 ≤ f ∧ f ≤ 1000000000 := by simpa [okH] using h1
    obtain ⟨i', rfl⟩ : ∃ n : Nat, i = n := ⟨i.toNat, by omega⟩
    obtain ⟨g', rfl⟩ : ∃ n : Nat, g = n := ⟨g.toNat, by omega⟩
    obtain ⟨f', rfl⟩ : ∃ n : Nat, f = n := ⟨f.toNat, by omega⟩
    exact tail_yes s i' g' f' w hs (by omega) (by simpa using h2)
  · exact tail_no s i g f w (by unfold tl; rw [if_neg h])
theorem tl_some {s : ByteArray} {i g f : Int} {L : List Mt} {E : Nat} (h : tl s i g f = some (L, E)) :
    ∃ f' e0 : Nat, f = f' ∧ 1 ≤ f' ∧ f' ≤ 1000000000 ∧ e0 = (hdrB i.toNat g.toNat f.toNat).size ∧ e0 ≤ s.size ∧ Sn.rn f' s [] e0 = (L, E) ∧ St e0 s L E ∧ RowSt f' s L ∧ E ≤ s.size ∧ okBl L = true := by
  unfold tl at h
  split at h
  · rename_i hc
    obtain ⟨h1, h2⟩ := hc
    have hh : 1 ≤ i ∧ i ≤ 999999 ∧ 1 ≤ g ∧ g ≤ 999999 ∧ 1 ≤ f ∧ f ≤ 1000000000 := by simpa [okH] using h1
    have hr := Option.some.inj h
    have hz := pre_size h2
    have s1 := St_rn f.toNat _ s [] _ (St_nil (hdrB i.toNat g.toNat f.toNat).size s)
    have s2 := Row_rn f.toNat s [] (hdrB i.toNat g.toNat f.toNat).size (Row_nil f.toNat s)
    obtain ⟨l2, -, -, p3⟩ := rn_pre f.toNat s [] (hdrB i.toNat g.toNat f.toNat).size
    rw [hr] at s1 s2 p3
    refine ⟨f.toNat, _, by omega, by omega, by omega, rfl, hz, hr, s1, s2, p3 hz, ?_⟩
    unfold okBl
    rw [s1.1, decide_eq_true s1.2.1]; rfl
  · cases h
/-- The blocks stand where they were found. -/
theorem St_stands {e0 E : Nat} {s : ByteArray} {L : List Mt} (h : St e0 s L E) : ∀ m ∈ L, ∃ R, Stands s m R := fun m hm => by
  obtain ⟨h1, h2, R, h3⟩ := h.2.2.2.2 m hm
  exact ⟨R, h1, h2, h3⟩
/-- A sealed segment. -/
def Slx (s : ByteArray) (L : List Mt) (E : Nat) : Prop := L ≠ [] ∧ GF s E ∧ fr s E = (3, ftB L, E, s.size)
def SlAns (s : ByteArray) (i g f : Int) (w : World) (e : Ending) (w' : World) : Prop :=
  (∃ L E v, tl s i g f = some (L, E) ∧ Slx s L E ∧ e = .returned (.tuple #[v, .int .i64 0]) ∧ OwnM w' w.heap.size v L) ∨
  (∃ L E, tl s i g f = some (L, E) ∧ ¬ Slx s L E ∧ e = .returned (.tuple #[.slice none 0 0, .int .i64 211])) ∨
  (tl s i g f = none ∧ e = .returned (.tuple #[.slice none 0 0, .int .i64 210]))
set_option maxHeartbeats 6400000 in
set_option maxRecDepth 100000 in
theorem sealed_any (s : ByteArray) (i g f : Int) (w : World) (hs : s.size ≤ 1000000) :
    Calls Tryz.prog 14 #[.string s, .agg #[.int .i64 i, .int .i64 g, .int .i64 f]] w fun e w' => SlAns s i g f w e w' ∧ Below w.heap.size w w' := by
  have mixed : Tryz.prog.follows .mixedOrders = true := by kernel_rfl
  have HT := Lib.hid (fun w => tail_any s i g f w hs)
  have HB := Lib.hid (ext_alloc w (.cells #[.int .i64 i, .int .i64 g, .int .i64 f] 23))
  go_enter Tryz.func14, Tryz.ntmps14
  go_wp2_with fail
  generalize w.alloc (.cells #[.int .i64 i, .int .i64 g, .int .i64 f] 23) = w0 at *
  refine (HT.out _).mono ?_
  rintro e1 w1 ⟨ha, hb1⟩
  have HB1 := Lib.hid (HB.out.trans (hb1.mono HB.out.size))
  rcases ha with ⟨L, E, v, hl, rfl, hown⟩ | ⟨hl, rfl⟩
  · obtain ⟨f', e0, rfl, -, -, -, -, -, hst, -, hE, hok⟩ := tl_some hl
    obtain ⟨A, c, rfl, -, -, hrd⟩ := hown.rd
    have HL := Lib.hid hl
    have HRD := Lib.hid hrd
    have hlen := (okBl_row hok).1
    have HFO := Lib.hid (foot_any A L.length c L w1 hrd (by omega) hok)
    have HGE := Lib.hid (fun w => Get_any s E w hs (by omega))
    have HOW := Lib.hid (hown.lower HB.out.size)
    obtain ⟨n, hn⟩ : ∃ n, L.length = n := ⟨_, rfl⟩
    rw [hn] at HFO HOW ⊢
    have HN := Lib.hid hn
    clear hb1 hl hown hrd hst hok hn hlen
    go_wp2_with fail
    refine HFO.out.mono ?_
    rintro e2 w2 ⟨rfl, hb2⟩
    have HB2 := Lib.hid (HB1.out.trans (hb2.mono HB1.out.size))
    have HO2 := Lib.hid (HOW.out.below hb2 (Nat.le_refl _))
    clear hb2 HFO HOW
    go_wp2_with fail
    refine (HGE.out _).mono ?_
    rintro e3 w3 ⟨ha3, hb3⟩
    have HB3 := Lib.hid (HB2.out.trans (hb3.mono HB2.out.size))
    rcases ha3 with ⟨hg, rfl⟩ | ⟨hg, x, hx, rfl⟩
    · have HFR := Lib.hid (show fr s E = (by4 s.data.toList E, fbody s E, E, fto s E) from rfl)
      have HG := Lib.hid hg
      generalize by4 s.data.toList E = K at *
      generalize fbody s E = BD at *
      generalize fto s E = T at *
      have HB4 := Lib.hid (HB3.out.trans ((ext_alloc w3 (.cells #[.int .i64 K, .string BD, .int .i64 E, .int .i64 T] 59)).mono HB3.out.size))
      have HO4 := Lib.hid ((HO2.out.below hb3 (Nat.le_refl _)).below (ext_alloc w3 (.cells #[.int .i64 K, .string BD, .int .i64 E, .int .i64 T] 59)) (Nat.le_refl _))
      have HF4 := Lib.hid (show Fb (w3.alloc (.cells #[.int .i64 K, .string BD, .int .i64 E, .int .i64 T] 59)) w3.heap.size K BD E T from heap_alloc_new w3 _)
      clear hb3 hg
      unfold fagg
      by_cases hn0 : n = 0
      · subst hn0
        have HNO := Lib.hid (show ¬ Slx s L E from fun h2 => h2.1 (List.length_eq_zero_iff.1 HN.out))
        go_wp2_with fail
        go_ret2
        exact ⟨.inr (.inl ⟨L, E, HL.out, HNO.out, rfl⟩), HB4.out⟩
      · go_upto_region 6 with (fail)
        generalize w3.alloc (.cells #[.int .i64 K, .string BD, .int .i64 E, .int .i64 T] 59) = w4 at *
        have q0 := HF4.out.c0
        have q1 := HF4.out.c1
        have q3 := HF4.out.c3
        by_cases hk : K = 3
        · by_cases hbd : BD = ftB L
          · by_cases hT : T = s.size
            · have HYE := Lib.hid (show Slx s L E from ⟨fun e => hn0 (by rw [← HN.out, e]; rfl), HG.out, by rw [HFR.out, hk, hbd, hT]⟩)
              subst hk hbd hT
              have hbe := beqL (ftB L) (ftB L) (r := true) (decide_eq_true rfl)
              go_wp2_with fail
              go_ret2
              exact ⟨.inl ⟨L, E, _, HL.out, HYE.out, rfl, HO4.out⟩, HB4.out⟩
            · subst hk hbd
              have hT1 : (T == s.size) = false := by rw [beq_eq_false_iff_ne]; exact hT
              have hT2 : (T != s.size) = true := by rw [bne_iff_ne]; exact hT
              have hT3 : ((T : Int) != (s.size : Int)) = true := by rw [bne_iff_ne]; omega
              have hT4 : ((T : Int) == (s.size : Int)) = false := by rw [beq_eq_false_iff_ne]; omega
              have hT5 : ¬ ((T : Int) = (s.size : Int)) := by omega
              have hbe := beqL (ftB L) (ftB L) (r := true) (decide_eq_true rfl)
              have HNO := Lib.hid (show ¬ Slx s L E from fun h2 => hT (by have := congrArg (fun x : Fr => x.2.2.2) (HFR.out.symm.trans h2.2.2); exact this))
              go_wp2_with fail
              go_ret2
              exact ⟨.inr (.inl ⟨L, E, HL.out, HNO.out, rfl⟩), HB4.out⟩
          · subst hk
            have hbe := beqL BD (ftB L) (r := false) (decide_eq_false hbd)
            have HNO := Lib.hid (show ¬ Slx s L E from fun h2 => hbd (by have := congrArg (fun x : Fr => x.2.1) (HFR.out.symm.trans h2.2.2); exact this))
            clear hbd
            go_wp2_with fail
            go_ret2
            exact ⟨.inr (.inl ⟨L, E, HL.out, HNO.out, rfl⟩), HB4.out⟩
        · skip
          have HNO := Lib.hid (show ¬ Slx s L E from fun h2 => hk (by have := congrArg (fun x : Fr => x.1) (HFR.out.symm.trans h2.2.2); exact this))
          go_wp2_with fail
          go_ret2
          exact ⟨.inr (.inl ⟨L, E, HL.out, HNO.out, rfl⟩), HB4.out⟩
    · have HNO := Lib.hid (show ¬ Slx s L E from fun h2 => hg h2.2.1)
      have HB4 := Lib.hid (HB3.out.trans ((ext_alloc w3 (.cells #[.int .i64 0, .string ⟨#[]⟩, .int .i64 0, .int .i64 0] 59)).mono HB3.out.size))
      clear hb3 hg
      unfold fagg
      by_cases hn0 : n = 0
      · subst hn0
        go_wp2_with fail
        go_ret2
        exact ⟨.inr (.inl ⟨L, E, HL.out, HNO.out, rfl⟩), HB4.out⟩
      · go_wp2_with fail
        go_ret2
        exact ⟨.inr (.inl ⟨L, E, HL.out, HNO.out, rfl⟩), HB4.out⟩
  · have HNO := Lib.hid hl
    clear hb1 hl
    go_wp2_with fail
    go_ret2
    exact ⟨.inr (.inr ⟨HNO.out, rfl⟩), HB1.out⟩
end Sn
end Go.Proofs.YtpbphhpldlckbaaGreat
namespace Go.Proofs.YtpbphhpldlckbaaGreat
namespace Sn
open Go.RowKit Hd Fm Bk

theorem tail_some {s : ByteArray} {i g f : Int} {L : List Mt} {E : Nat} (h : tl s i g f = some (L, E)) (w : World) (hs : s.size ≤ 1000000) :
    Calls Tryz.prog 6 #[.string s, .agg #[.int .i64 i, .int .i64 g, .int .i64 f]] w fun e w' => (∃ A c, e = .returned (.tuple #[.slice A L.length c, .int .i64 (E : Int), .int .i64 0]) ∧ L.length ≤ c ∧ Rd w' w'.heap.size 7 A L.length (fl7 L)) ∧ Below w.heap.size w w' := by
  refine (tail_any s i g f w hs).mono ?_
  rintro e w' ⟨⟨L', E', v, hl, rfl, hown⟩ | ⟨hl, -⟩, hb⟩
  · rw [h] at hl; cases hl
    obtain ⟨A, c, rfl, hc, -, hr⟩ := hown.rd
    exact ⟨⟨A, c, rfl, hc, hr⟩, hb⟩
  · rw [h] at hl; cases hl
theorem tail_none {s : ByteArray} {i g f : Int} (h : tl s i g f = none) (w : World) (hs : s.size ≤ 1000000) :
    Calls Tryz.prog 6 #[.string s, .agg #[.int .i64 i, .int .i64 g, .int .i64 f]] w fun e w' => e = .returned (.tuple #[.slice none 0 0, .int .i64 0, .int .i64 210]) ∧ Below w.heap.size w w' := by
  refine (tail_any s i g f w hs).mono ?_
  rintro e w' ⟨⟨L', E', v, hl, -⟩ | ⟨-, rfl⟩, hb⟩
  · rw [h] at hl; cases hl
  · exact ⟨rfl, hb⟩
theorem size_cut {s : ByteArray} {c : Nat} (hc : c ≤ s.size) : (s.extract 0 c).size = c := by rw [ByteArray.size_extract]; omega
theorem pre_cut {s p : ByteArray} {c : Nat} (hc : c ≤ s.size) : preB (s.extract 0 c) p = true ↔ preB s p = true ∧ p.size ≤ c := by
  constructor
  · intro h
    have h1 := pre_size h
    rw [size_cut hc] at h1
    refine ⟨?_, h1⟩
    rw [preB_iff] at h ⊢
    rw [(agree_cut s c hc).extract h1]; exact h
  · rintro ⟨h, h1⟩
    rw [preB_iff] at h ⊢
    rw [← (agree_cut s c hc).extract h1]; exact h
theorem cut_none {s : ByteArray} {i g f : Int} {c : Nat} (h : tl s i g f = none) (hc : c ≤ s.size) : tl (s.extract 0 c) i g f = none := by
  unfold tl at h ⊢
  split at h
  · cases h
  · rename_i hn
    rw [if_neg]
    rintro ⟨h1, h2⟩
    exact hn ⟨h1, ((pre_cut hc).1 h2).1⟩
theorem cut_some {s : ByteArray} {i g f : Int} {c : Nat} {L : List Mt} {E : Nat} (h : tl s i g f = some (L, E)) (hc : c ≤ s.size) :
    (tl (s.extract 0 c) i g f = none ∧ c < E) ∨ ∃ L' E' l2, tl (s.extract 0 c) i g f = some (L', E') ∧ L = L' ++ l2 ∧ E' ≤ E ∧ E' ≤ c ∧ (E ≤ c → l2 = [] ∧ E' = E) := by
  unfold tl at h
  split at h
  · rename_i hk
    have hr := Option.some.inj h
    by_cases hz : (hdrB i.toNat g.toNat f.toNat).size ≤ c
    · right
      have ha := agree_cut s c hc
      have ha2 : Agree s (s.extract 0 c) (s.extract 0 c).size := by rw [size_cut hc]; exact ha
      obtain ⟨⟨l2, c1⟩, c2, c3⟩ := rn_cut f.toNat s (s.extract 0 c) ha2 [] (hdrB i.toNat g.toNat f.toNat).size (by rw [size_cut hc]; exact hz)
      rw [hr] at c1 c2
      rw [size_cut hc] at c3
      refine ⟨_, _, l2, by unfold tl; rw [if_pos ⟨hk.1, (pre_cut hc).2 ⟨hk.2, hz⟩⟩], c1, c2, c3, fun hE => ?_⟩
      have ht := rn_to f.toNat s (s.extract 0 c) c ha [] (hdrB i.toNat g.toNat f.toNat).size (by rw [hr]; exact hE)
      rw [hr] at ht
      obtain ⟨l3, p1, p2, -⟩ := rn_pre f.toNat (s.extract 0 c) L E
      rw [ht] at c1 c2
      have e1 : L.length = (L ++ l3).length + l2.length := by
        have := congrArg List.length c1
        rw [p1, List.length_append] at this
        exact this
      rw [List.length_append] at e1
      refine ⟨List.length_eq_zero_iff.1 (by omega), ?_⟩
      rw [ht]
      exact Nat.le_antisymm c2 p2
    · left
      refine ⟨?_, ?_⟩
      · unfold tl
        rw [if_neg]
        rintro ⟨-, h2⟩
        exact hz ((pre_cut hc).1 h2).2
      · obtain ⟨l2, -, p2, -⟩ := rn_pre f.toNat s [] (hdrB i.toNat g.toNat f.toNat).size
        rw [hr] at p2
        dsimp only at p2
        omega
  · cases h
theorem cut_end {s : ByteArray} {i g f : Int} {L : List Mt} {E : Nat} (h : tl s i g f = some (L, E)) : E ≤ s.size ∧ L.length ≤ 1000 ∧ tl (s.extract 0 E) i g f = some (L, E) := by
  obtain ⟨_, _, -, -, -, -, -, -, -, -, hE, hok⟩ := tl_some h
  refine ⟨hE, (okBl_row hok).1, ?_⟩
  rcases cut_some h hE with ⟨-, h2⟩ | ⟨L', E', l2, h1, h2, -, -, h5⟩
  · omega
  · obtain ⟨rfl, rfl⟩ := h5 (Nat.le_refl _)
    rw [h1, h2, List.append_nil]
end Sn
end Go.Proofs.YtpbphhpldlckbaaGreat
namespace Go.Proofs.YtpbphhpldlckbaaGreat
namespace Sn
open Go.RowKit Hd Fm Bk Vi Rd

def r0 : List (Int × Int × ByteArray) := [(1, 5, hi)]
def c0 : ByteArray := ⟨#[0, 5, 1, 1, 5, 0, 1, 5, 2, 104, 105]⟩
theorem put5 : putV 5 = [5] := by rw [putV_small (by omega)]; rfl
theorem joinB_r0 : joinB r0 = [1, 5, 2, 104, 105] := by
  show recB (1, 5, hi) ++ [] = _
  unfold recB
  show (putV 1 ++ (putV 5 ++ (putV 2 ++ [104, 105]))) ++ [] = _
  rw [put1, put5, put2]; rfl
theorem row_r0 : rowE none r0 = 0 := by decide
theorem jE_r0 : jE r0 = 0 := by
  unfold jE
  rw [if_neg (by rw [row_r0]; decide), if_neg (by rw [joinB_r0]; decide)]
theorem encE_r0 : encE r0 = 0 := by unfold encE; rw [if_neg (by decide)]; exact jE_r0
theorem blk_r0 (A : List Nat) : blk r0 A = c0.data.toList := by
  have h1 : isP r0 A = false := isP_short A (by rw [joinB_r0]; decide)
  have h2 : (joinB r0).length = 5 := by rw [joinB_r0]; rfl
  have h3 : hd5 r0 = [5, 1, 1, 5, 0] := by unfold hd5; rw [h2]; rfl
  unfold blk mode body
  rw [if_neg (by rw [h1]; decide), if_neg (by rw [h1]; decide), h3, joinB_r0]
  show _ :: ((putV 5 ++ (putV 1 ++ (putV 1 ++ (putV 5 ++ (putV 0 ++ []))))) ++ _) = _
  rw [put5, put1, put0]; rfl
theorem sorted_r0 : Sx.Sorted (joinB r0) [5, 0, 2, 1, 3, 4] := by rw [joinB_r0]; exact ⟨by decide, by decide⟩
/-- The header's frame; the segment's bytes. -/
def h0B : ByteArray := hdrB 1 1 1
theorem hb111 : (hb 1 1 1).size = 3 := by
  unfold hb
  rw [put1]; rfl
theorem h0B_size : h0B.size = 12 := by unfold h0B hdrB; rw [size_frB, hb111]
def s0 : ByteArray := h0B ++ frB 2 c0
theorem s0_size : s0.size = 32 := by
  unfold s0
  rw [ByteArray.size_append, size_frB, h0B_size]; rfl
def mt0 : Mt := ⟨12, 20, 5, 1, 1, 5, 5⟩
theorem rn_s0 : Sn.rn 1 s0 [] 12 = ([mt0], 32) := by
  have hr : Sn.rn 1 h0B [] 12 = ([], 12) := rn_end 1 h0B [] 12 (by rw [h0B_size]; exact Nat.le_refl _)
  have h := rn_more (h1 := 1) (e0 := 12) (F := 1) (E := 5) (L := 5) (s := h0B) (B := c0) (A := [5, 0, 2, 1, 3, 4]) (R := r0) (by rw [h0B_size]; decide) (by rw [h0B_size]; exact Nat.le_refl _) (blk_r0 _).symm jE_r0 (by decide) sorted_r0 rfl rfl rfl
    (by rw [hr]; decide) (by rw [hr]; rfl) (by rw [hr]; decide)
  rw [hr] at h
  have he : h0B.extract 0 12 = h0B := ba_ext (by rw [ext_list, List.drop_zero, Nat.sub_zero, List.take_of_length_le (by rw [size_list, h0B_size]; exact Nat.le_refl _)])
  rw [he] at h
  rw [show (frB 2 c0) = frB 2 c0 from rfl] at h
  unfold s0
  rw [h]
  unfold mtOf mt0
  rw [joinB_r0]; rfl
/-- Whatever stands behind: if it is no block that goes on. -/
theorem rn_behind (x : ByteArray) (h : GF (s0 ++ x) 32 → good 1 [mt0] (fr (s0 ++ x) 32) = none) : Sn.rn 1 (s0 ++ x) [] 12 = ([mt0], 32) := by
  have he : s0.extract 0 32 = s0 := ba_ext (by rw [ext_list, List.drop_zero, Nat.sub_zero, List.take_of_length_le (by rw [size_list, s0_size]; exact Nat.le_refl _)])
  have ha := agree_app s0 x 32 (by rw [s0_size]; exact Nat.le_refl _)
  rw [he] at ha
  have hr := rn_to 1 s0 (s0 ++ x) 32 ha [] 12 (by rw [rn_s0]; exact Nat.le_refl _)
  rw [rn_s0] at hr
  rw [hr, rn_stop h]
theorem pre_s0 (x : ByteArray) : preB (s0 ++ x) (hdrB 1 1 1) = true := by
  rw [preB_iff]
  refine ba_ext ?_
  have h12 : (hdrB 1 1 1).size = 12 := h0B_size
  rw [ext_list, List.drop_zero, Nat.sub_zero, h12]
  unfold s0
  rw [ByteArray.data_append, Array.toList_append, ByteArray.data_append, Array.toList_append, List.append_assoc, List.take_append_of_le_length (by rw [size_list, h0B_size]; exact Nat.le_refl _), List.take_of_length_le (by rw [size_list, h0B_size]; exact Nat.le_refl _)]
  rfl
theorem tl_of_rn {s : ByteArray} (hp : preB s (hdrB 1 1 1) = true) : tl s 1 1 1 = some (Sn.rn 1 s [] 12) := by
  unfold tl
  rw [if_pos ⟨by decide, hp⟩]
  have h12 : (hdrB 1 1 1).size = 12 := h0B_size
  show some (Sn.rn 1 s [] (hdrB 1 1 1).size) = _
  rw [h12]
theorem tl_x : tl (s0 ++ ⟨#[120]⟩) 1 1 1 = some ([mt0], 32) := by
  rw [tl_of_rn (pre_s0 _), rn_behind]
  intro hg
  have := GF_to hg
  have h33 : (s0 ++ (⟨#[120]⟩ : ByteArray)).size = 33 := by rw [ByteArray.size_append, s0_size]; rfl
  omega
theorem s0_nil : s0 ++ (⟨#[]⟩ : ByteArray) = s0 := ba_ext (by rw [ByteArray.data_append, Array.toList_append]; exact List.append_nil _)
theorem tl_s0 : tl s0 1 1 1 = some ([mt0], 32) := by
  have := tl_of_rn (pre_s0 ⟨#[]⟩)
  rw [s0_nil, rn_s0] at this
  exact this
theorem sl_s0 : ¬ Slx s0 [mt0] 32 := fun h => by
  have := GF_to h.2.1
  rw [s0_size] at this
  omega
theorem ft_size : (ftB [mt0]).size ≤ 60000 := by
  have h := flat_len (ftN [mt0]) (by intro x hx; simp [ftN, nums, mt0] at hx; omega)
  show (List.toArray _).size ≤ _
  rw [List.size_toArray]
  have : (ftN [mt0]).length = 8 := rfl
  omega
def s1 : ByteArray := s0 ++ frB 3 (ftB [mt0])
theorem fr_s1 : GF s1 32 ∧ fr s1 32 = (3, ftB [mt0], 32, s1.size) := by
  have h := GF_put s0 3 (ftB [mt0]) (by decide) ft_size
  rw [s0_size] at h
  refine ⟨h.1, ?_⟩
  have hz : s1.size = 32 + ((ftB [mt0]).size + 9) := by unfold s1; rw [ByteArray.size_append, size_frB, s0_size]
  rw [hz]; exact h.2
theorem tl_s1 : tl s1 1 1 1 = some ([mt0], 32) := by
  have := tl_of_rn (pre_s0 (frB 3 (ftB [mt0])))
  rw [rn_behind] at this
  · exact this
  · intro hg
    rcases hgd : good 1 [mt0] (fr (s0 ++ frB 3 (ftB [mt0])) 32) with _ | m
    · rfl
    · rw [good_iff] at hgd
      have h1 := (metaF_some hgd.1).1
      have h2 : (fr (s0 ++ frB 3 (ftB [mt0])) 32).1 = 3 := congrArg (·.1) fr_s1.2
      omega
theorem sl_s1 : Slx s1 [mt0] 32 := ⟨by decide, fr_s1.1, fr_s1.2⟩
theorem tl_nil : tl ⟨#[]⟩ 1 1 1 = none := by
  unfold tl
  rw [if_neg]
  rintro ⟨-, h⟩
  have := pre_size h
  have h12 : (hdrB 1 1 1).size = 12 := h0B_size
  have : (hdrB 1 1 1).size ≤ 0 := this
  omega
theorem dec_c0 : dec c0.data.toList = some r0 := by
  have := dec_blk jE_r0 (by decide) sorted_r0
  rwa [blk_r0] at this
theorem stands_s0 : Stands s0 mt0 r0 := by
  obtain ⟨_, _, -, -, -, -, -, -, hst, -⟩ := tl_some tl_s0
  obtain ⟨g1, g2, R, g3⟩ := hst.2.2.2.2 mt0 (by simp)
  refine ⟨g1, g2, ?_⟩
  have h := GF_put h0B 2 c0 (by decide) (by decide)
  rw [h0B_size] at h
  have hb : fbody s0 12 = c0 := congrArg (fun x : Fr => x.2.1) h.2
  show dec (fbody s0 12).data.toList = _
  rw [hb]; exact dec_c0
end Sn
end Go.Proofs.YtpbphhpldlckbaaGreat
namespace Go.Proofs.YtpbphhpldlckbaaGreat
namespace Sn
open Go.RowKit Hd Fm Bk Rd

section
variable {ops : Array Oper} {rest : List Oper} {o : Oper} {a : Act} {Q : Exit → Act → World → Prop}
/-- 'append(s, more..)' onto a slice of the call's own: some records. -/
theorem append3All {s x : Operand} {B m c : Nat} {A : Option Addr} {v : Value} {l k : List (Int × Int × ByteArray)} {w0 : World} (hown : Own3 w0 B v l) (hrd : Rd w0 w0.heap.size 3 A m (fl3 k)) (hm : 0 < m) (hl : l.length + m ≤ 1099511627776) (hB : B ≤ w0.heap.size)
    (h : ∀ A' n' c' w', Own3 w' B (.slice A' n' c') (l ++ k) → Below B w0 w' → wpList Tryz.prog ops Q rest (a.put o.dst (.slice A' n' c')) w')
    (hgd : o.guard = none := by exact rfl) (ho : o.op = .call { callee := .builtin .append, args := #[s, x], argTypes := #[32, 32] } := by exact rfl)
    (hs : a.eval s = v := by exact rfl) (hx : a.eval x = .slice A m c := by exact rfl) :
    wpList Tryz.prog ops Q (o :: rest) a w0 := by
  obtain ⟨i0, hi, hz0, hz1, hz2⟩ := info_parts rec_info
  obtain ⟨ad, rfl, -, hc⟩ := hrd.cells hm
  have hk := rd3_len hrd
  refine wpList_append_own_at _ hgd s x 32 ho B 40 i0 (.agg #[.int .i64 0, .int .i64 0, .string ⟨#[]⟩]) 3 32 Tryz.underlying32 hi hz0 hz1 hz2 rfl (by omega) v l.length (fl3 l) hs hown
    ad m c (fl3 k) hx hrd.len hc (fl3_one k) (by simp only [maxLen]; omega) (by omega) (by omega) ?_
  intro v' w' hown' hg _ hat
  have hlt := World.ownsRow.lt hown
  obtain ⟨A', c', rfl, _, _⟩ := own_slice hown'
  refine h A' _ c' w' (by unfold Own3; rw [List.length_append, fl3_append, hk]; exact hown') ((Below.refl _ _).grown hg hB (fun k hk => (hlt k hk).1))
end
theorem recs_take (s : ByteArray) (l : List Mt) (k : Nat) (m : Mt) (R : List (Int × Int × ByteArray)) (h : l[k]? = some m) (hd : dec (fbody s m.a).data.toList = some R) : recs s (l.take (k + 1)) = recs s (l.take k) ++ R := by
  rw [List.take_add_one, h]
  show recs s (l.take k ++ [m]) = _
  rw [recs_snoc, hd]; rfl
theorem recs_len (s : ByteArray) : ∀ (l : List Mt), (recs s l).length ≤ l.length * 6667
  | [] => Nat.zero_le _
  | m :: l => by
    have h := recs_len s l
    show ((dec (fbody s m.a).data.toList).getD [] ++ recs s l).length ≤ _
    rw [List.length_append, List.length_cons]
    rcases hd : dec (fbody s m.a).data.toList with _ | R
    · rw [Option.getD_none, List.length_nil]; omega
    · have h1 : R.length ≤ 6667 := by
        obtain ⟨d1, d2⟩ := dec_some hd
        exact (ends d1 d2).2.2.2.2.2
      rw [Option.getD_some]; omega
set_option maxHeartbeats 6400000 in
set_option maxRecDepth 100000 in
theorem records_ok (s : ByteArray) (A : Option Addr) (n c : Nat) (l : List Mt) (w : World) (hs : s.size ≤ 1000000) (hrd : Rd w w.heap.size 7 A n (fl7 l)) (hn : n ≤ 100000) (ho : okBl l = true) (h : ∀ m ∈ l, ∃ R, Stands s m R) :
    Calls Tryz.prog 8 #[.string s, .slice A n c] w fun e w' => (∃ v, e = .returned (.tuple #[v, .int .i64 0]) ∧ Own3 w' w.heap.size v (recs s l)) ∧ Below w.heap.size w w' := by
  have mixed : Tryz.prog.follows .mixedOrders = true := by kernel_rfl
  have hln := mt_len hrd
  have hbl := blocks_any A n c l w hrd (by omega)
  rw [blE_yes ho] at hbl
  have HBL := Lib.hid hbl
  have HLN := Lib.hid hln
  have HR := Lib.hid hrd
  have HST := Lib.hid h
  clear hbl hrd hln h ho
  go_enter Tryz.func8, Tryz.ntmps8
  go_wp2_with fail
  refine HBL.out.mono ?_
  rintro e1 w1 ⟨rfl, hb1⟩
  have HB1 := Lib.hid hb1
  clear hb1 HBL
  go_wp2_with fail
  go_loopw [7, 19] (fun s7 s19 wr => ∃ (k : Nat) (A1 : Option Addr) (n1 c1 : Nat), s19 = .int .i64 (k : Int) ∧ s7 = .slice A1 n1 c1 ∧ k ≤ n ∧ Hid (Own3 wr w.heap.size (.slice A1 n1 c1) (recs s (l.take k)) ∧ Below w.heap.size w wr)) (fun _ v _ => n - (intOf v).toNat)
  case atStart => exact ⟨0, none, 0, 0, by go_num, rfl, by omega, Lib.hid ⟨own3_nil _ _, HB1.out⟩⟩
  case round =>
    obtain ⟨k, A5, n5, c5, rfl, rfl, hk, HX⟩ := hrel
    by_cases hkn : k < n
    · obtain ⟨ad, m, hA, hbk, hx, hc0, hc1, hc2, hc3, hc4, hc5, hc6⟩ := mt_at (HR.out.below HX.out.2) hkn
      obtain ⟨R, hst⟩ := HST.out m (List.mem_of_getElem? hx)
      have HLO := Lib.hid (fun w => load_ok s m R w hs hst)
      have HTK := Lib.hid (recs_take s l k m R hx hst.2.2)
      have HRL := Lib.hid (show 0 < R.length ∧ (recs s (l.take k)).length + R.length ≤ 1099511627776 by
        obtain ⟨d1, d2⟩ := dec_some hst.2.2
        have h1 := (ends d1 d2).2.2.2.2.2
        have h2 := recs_len s (l.take k)
        rw [List.length_take] at h2
        have : 0 < R.length := List.length_pos_iff.2 d2
        omega)
      have HAL := Lib.hid (ext_alloc wr (.cells #[.int .i64 m.a, .int .i64 m.s, .int .i64 m.r, .int .i64 m.c, .int .i64 m.f, .int .i64 m.e, .int .i64 m.l] 38))
      have HO1 := Lib.hid (HX.out.1.below HAL.out (Nat.le_refl _))
      have HB2 := Lib.hid (HX.out.2.trans (HAL.out.mono HX.out.2.size))
      obtain ⟨ma, ms, mr, mc, mf, me, ml⟩ := m
      unfold mv magg at HLO
      dsimp only at *
      subst hA
      clear hx HX hbk hst
      go_wp2_with fail
      generalize wr.alloc (.cells #[.int .i64 (ma : Int), .int .i64 (ms : Int), .int .i64 (mr : Int), .int .i64 (mc : Int), .int .i64 (mf : Int), .int .i64 (me : Int), .int .i64 (ml : Int)] 38) = w2 at *
      refine (HLO.out _).mono ?_
      rintro e3 w3 ⟨⟨v3, rfl, hown3⟩, hb3⟩
      obtain ⟨A3, c3, rfl, -, -, hr3⟩ := hown3.rd
      have HR3 := Lib.hid hr3
      have HO3 := Lib.hid (HO1.out.below hb3 (Nat.le_refl _))
      have HB3 := Lib.hid (HB2.out.trans (hb3.mono HB2.out.size))
      obtain ⟨m3, hm3⟩ : ∃ m3, R.length = m3 := ⟨_, rfl⟩
      rw [hm3] at HR3 HRL ⊢
      clear hb3 hown3 hr3 hm3 HLO HO1
      go_wp2_with (at_builtin; refine append3All HO3.out HR3.out HRL.out.1 HRL.out.2 HB3.out.size ?_; intro A1 n1 c1 w4 hown4 hb4)
      have HP := Lib.hid (show Own3 w4 w.heap.size (.slice A1 n1 c1) (recs s (l.take (k + 1))) ∧ Below w.heap.size w w4 from ⟨by rw [HTK.out]; exact hown4, HB3.out.trans hb4⟩)
      clear hown4 hb4
      go_roundw
      case rel => exact ⟨k + 1, A1, n1, c1, by go_num, rfl, by omega, HP⟩
      case measure => simp [intOf]; omega
    · obtain rfl : k = n := by omega
      have h9 := HX.out
      rw [List.take_of_length_le (by rw [HLN.out]; omega)] at h9
      have H9 := Lib.hid h9
      clear h9 HX
      go_wp2_with fail
      go_ret2
      exact ⟨⟨_, rfl, H9.out.1⟩, H9.out.2⟩
end Sn
end Go.Proofs.YtpbphhpldlckbaaGreat
namespace Go.Proofs.YtpbphhpldlckbaaGreat
namespace Sn
open Go.RowKit Hd Fm Bk Vi Rd

theorem add0 (a : Addr) : a.add 0 = a := by
  obtain ⟨b, o, i⟩ := a
  unfold Addr.add
  split <;> simp_all
theorem rd_r0 (w : World) : Rd (w.alloc (.cells #[.int .i64 1, .int .i64 5, .string ⟨#[104, 105]⟩] 40)) (w.alloc (.cells #[.int .i64 1, .int .i64 5, .string ⟨#[104, 105]⟩] 40)).heap.size 3 (some ⟨w.heap.size, 0, none⟩) 1 (fl3 r0) :=
  Rd.of_own (World.ownsRow_lit (base := w.heap.size) (e := 40) (size := 3) w #[.int .i64 1, .int .i64 5, .string ⟨#[104, 105]⟩] 1 (Nat.le_refl _) (by simp [maxLen]) rfl)
theorem enc_r0 (w : World) : Calls Tryz.prog 11 #[.slice (some ⟨w.heap.size, 0, none⟩) 1 1] (w.alloc (.cells #[.int .i64 1, .int .i64 5, .string ⟨#[104, 105]⟩] 40)) fun e w' => e = .returned (.tuple #[.string c0, .int .i64 0]) ∧ Below w.heap.size w w' := by
  refine (enc_dec _ 1 1 r0 _ (rd_r0 w) (by omega) encE_r0).mono ?_
  rintro e w' ⟨⟨S, arr, rfl, -, hS, -⟩, hb⟩
  have : S = c0 := ba_ext (by rw [hS, blk_r0])
  rw [this]
  exact ⟨rfl, (ext_alloc w _).trans (hb.mono (ext_alloc w _).size)⟩
theorem hput_0 (w : World) : Calls Tryz.prog 32 #[.agg #[.int .i64 1, .int .i64 1, .int .i64 1]] w fun e w' => e = .returned (.tuple #[.string (hb 1 1 1), .int .i64 0]) ∧ Below w.heap.size w w' := hput_yes 1 1 1 w (by omega)
theorem fput_1 (b : ByteArray) (w : World) (h : b.size ≤ 60000) : Calls Tryz.prog 12 #[.int .i64 1, .string b] w fun e w' => e = .returned (.tuple #[.string (frB 1 b), .int .i64 0]) ∧ Below w.heap.size w w' := put_any 1 b w (by decide) h
theorem fput_2 (b : ByteArray) (w : World) (h : b.size ≤ 60000) : Calls Tryz.prog 12 #[.int .i64 2, .string b] w fun e w' => e = .returned (.tuple #[.string (frB 2 b), .int .i64 0]) ∧ Below w.heap.size w w' := put_any 2 b w (by decide) h
theorem fput_3 (b : ByteArray) (w : World) (h : b.size ≤ 60000) : Calls Tryz.prog 12 #[.int .i64 3, .string b] w fun e w' => e = .returned (.tuple #[.string (frB 3 b), .int .i64 0]) ∧ Below w.heap.size w w' := put_any 3 b w (by decide) h
set_option maxHeartbeats 3200000 in
set_option maxRecDepth 100000 in
theorem one_any (w : World) : Calls Tryz.prog 13 #[] w fun e w' => e = .returned (.tuple #[.agg #[.int .i64 1, .int .i64 1, .int .i64 1], .string s0]) ∧ Below w.heap.size w w' := by
  have mixed : Tryz.prog.follows .mixedOrders = true := by kernel_rfl
  have HI := Lib.hid (show (Tryz.prog.info? 23).map (·.size) = some 3 by kernel_rfl)
  have HB := Lib.hid ((ext_alloc w (.cells #[.int .i64 0, .int .i64 0, .int .i64 0] 23)).trans ((ext_alloc _ (.cells #[.int .i64 1, .int .i64 1, .int .i64 1] 23)).mono (by simp)))
  have HZ := Lib.hid (show Blk ((w.alloc (.cells #[.int .i64 0, .int .i64 0, .int .i64 0] 23)).alloc (.cells #[.int .i64 1, .int .i64 1, .int .i64 1] 23)) w.heap.size #[.int .i64 0, .int .i64 0, .int .i64 0] 23 from Blk.alloc (Blk.new w _ _) _)
  have hh : Blk ((w.alloc (.cells #[.int .i64 0, .int .i64 0, .int .i64 0] 23)).alloc (.cells #[.int .i64 1, .int .i64 1, .int .i64 1] 23)) (w.heap.size + 1) #[.int .i64 1, .int .i64 1, .int .i64 1] 23 := by
    have := Blk.new (w.alloc (.cells #[.int .i64 0, .int .i64 0, .int .i64 0] 23)) #[.int .i64 1, .int .i64 1, .int .i64 1] 23
    rwa [show (w.alloc (.cells #[.int .i64 0, .int .i64 0, .int .i64 0] 23)).heap.size = w.heap.size + 1 by simp] at this
  have HH := Lib.hid hh
  have HP := Lib.hid (fun w => hput_0 w)
  have HF1 := Lib.hid (fun w => fput_1 (hb 1 1 1) w (by rw [hb111]; omega))
  have HF2 := Lib.hid (fun w => fput_2 c0 w (by decide))
  have HS0 := Lib.hid (show frB 1 (hb 1 1 1) ++ frB 2 c0 = s0 from rfl)
  have HEN := Lib.hid (fun w => enc_r0 w)
  have hov : ¬ 9223372036854775807 < (frB 1 (hb 1 1 1)).size + (frB 2 c0).size := by rw [size_frB, size_frB, hb111]; decide
  generalize c0 = C at *
  generalize hb 1 1 1 = D at *
  clear hh
  go_enter Tryz.func13, Tryz.ntmps13
  go_wp2_with fail
  generalize (w.alloc (.cells #[.int .i64 0, .int .i64 0, .int .i64 0] 23)).alloc (.cells #[.int .i64 1, .int .i64 1, .int .i64 1] 23) = w0 at *
  refine (HP.out _).mono ?_
  rintro e1 w1 ⟨rfl, hb1⟩
  have HB1 := Lib.hid (HB.out.trans (hb1.mono HB.out.size))
  have HZ1 := Lib.hid (HZ.out.ext hb1)
  have HH1 := Lib.hid (HH.out.ext hb1)
  clear hb1
  go_wp2_with fail
  refine (HF1.out _).mono ?_
  rintro e2 w2 ⟨rfl, hb2⟩
  have HB2 := Lib.hid (HB1.out.trans (hb2.mono HB1.out.size))
  have HZ2 := Lib.hid (HZ1.out.ext hb2)
  have HH2 := Lib.hid (HH1.out.ext hb2)
  clear hb2
  go_wp2_with fail
  refine (HEN.out _).mono ?_
  rintro e3 w3 ⟨rfl, hb3⟩
  have HB3 := Lib.hid (HB2.out.trans (hb3.mono HB2.out.size))
  have HZ3 := Lib.hid (HZ2.out.ext hb3)
  have HH3 := Lib.hid (HH2.out.ext hb3)
  clear hb3
  go_wp2_with fail
  refine (HF2.out _).mono ?_
  rintro e4 w4 ⟨rfl, hb4⟩
  have HB4 := Lib.hid (HB3.out.trans (hb4.mono HB3.out.size))
  have HZ4 := Lib.hid (HZ3.out.ext hb4)
  have HH4 := Lib.hid (HH3.out.ext hb4)
  clear hb4
  have HG := Lib.hid (Nat.le_succ w.heap.size)
  go_wp2_with (first | (refine wpList_load_row rfl 23 (.tmp 2) rfl (w.heap.size + 1) #[.int .i64 1, .int .i64 1, .int .i64 1] _ (by simp [go_sem, Act.eval]) HH4.out Tryz.underlying23 rfl HI.out ?_) | (refine wpList_store_row rfl 23 (.tmp 0) (.tmp 33) rfl w.heap.size #[.int .i64 1, .int .i64 1, .int .i64 1] #[.int .i64 0, .int .i64 0, .int .i64 0] (by simp [go_sem, Act.eval]) (by simp [go_sem, Act.eval]) HZ4.out HI.out rfl (by simp [Value.oneCell']) ?_))
  refine bodyPost_ret (v := .tuple #[.agg #[.int .i64 1, .int .i64 1, .int .i64 1], .string s0]) (by rw [← HS0.out]; exact results_cell2 rfl rfl rfl (HZ4.out.set #[.int .i64 1, .int .i64 1, .int .i64 1]) Tryz.underlying23 rfl HI.out) rfl ?_
  exact ⟨rfl, ext_setRow HB4.out (Nat.le_refl _) _⟩
/-- What is told of the probe. -/
theorem tail_x (w : World) : Calls Tryz.prog 6 #[.string (s0 ++ ⟨#[120]⟩), .agg #[.int .i64 1, .int .i64 1, .int .i64 1]] w fun e w' =>
    (∃ A c, e = .returned (.tuple #[.slice A 1 c, .int .i64 32, .int .i64 0]) ∧ Rd w' w'.heap.size 7 A 1 (fl7 [mt0])) ∧ Below w.heap.size w w' := by
  refine (tail_any _ 1 1 1 w (by rw [ByteArray.size_append, s0_size]; decide)).mono ?_
  rintro e w' ⟨⟨L, E, v, hl, rfl, hown⟩ | ⟨hl, -⟩, hb⟩
  · rw [tl_x] at hl; cases hl
    obtain ⟨A, c, rfl, -, -, hr⟩ := hown.rd
    exact ⟨⟨A, c, rfl, hr⟩, hb⟩
  · rw [tl_x] at hl; cases hl
theorem sealed_0 (w : World) : Calls Tryz.prog 14 #[.string s0, .agg #[.int .i64 1, .int .i64 1, .int .i64 1]] w fun e w' =>
    e = .returned (.tuple #[.slice none 0 0, .int .i64 211]) ∧ Below w.heap.size w w' := by
  refine (sealed_any s0 1 1 1 w (by rw [s0_size]; decide)).mono ?_
  rintro e w' ⟨⟨L, E, v, hl, hx, -⟩ | ⟨L, E, hl, hx, rfl⟩ | ⟨hl, -⟩, hb⟩
  · rw [tl_s0] at hl; cases hl; exact absurd hx sl_s0
  · exact ⟨rfl, hb⟩
  · rw [tl_s0] at hl; cases hl
theorem s1_size : s1.size ≤ 70000 := by
  have := ft_size
  unfold s1; rw [ByteArray.size_append, size_frB, s0_size]; omega
theorem sealed_1 (w : World) : Calls Tryz.prog 14 #[.string s1, .agg #[.int .i64 1, .int .i64 1, .int .i64 1]] w fun e w' =>
    (∃ A c, e = .returned (.tuple #[.slice A 1 c, .int .i64 0])) ∧ Below w.heap.size w w' := by
  refine (sealed_any s1 1 1 1 w (by have := s1_size; omega)).mono ?_
  rintro e w' ⟨⟨L, E, v, hl, hx, rfl, hown⟩ | ⟨L, E, hl, hx, rfl⟩ | ⟨hl, -⟩, hb⟩
  · rw [tl_s1] at hl; cases hl
    obtain ⟨A, c, rfl, -, -, -⟩ := hown.rd
    exact ⟨⟨A, c, rfl⟩, hb⟩
  · rw [tl_s1] at hl; cases hl; exact absurd sl_s1 hx
  · rw [tl_s1] at hl; cases hl
theorem tail_e (w : World) : Calls Tryz.prog 6 #[.string ⟨#[]⟩, .agg #[.int .i64 1, .int .i64 1, .int .i64 1]] w fun e w' =>
    e = .returned (.tuple #[.slice none 0 0, .int .i64 0, .int .i64 210]) ∧ Below w.heap.size w w' := by
  refine (tail_any ⟨#[]⟩ 1 1 1 w (by decide)).mono ?_
  rintro e w' ⟨⟨L, E, v, hl, -⟩ | ⟨-, rfl⟩, hb⟩
  · rw [tl_nil] at hl; cases hl
  · exact ⟨rfl, hb⟩
theorem load_0 (w : World) : Calls Tryz.prog 16 #[.string s0, magg 12 20 5 1 1 5 5] w fun e w' =>
    (∃ A c, e = .returned (.tuple #[.slice A 1 c, .int .i64 0]) ∧ Rd w' w'.heap.size 3 A 1 (fl3 r0)) ∧ Below w.heap.size w w' := by
  refine (load_ok s0 mt0 r0 w (by rw [s0_size]; decide) stands_s0).mono ?_
  rintro e w' ⟨⟨v, rfl, hown⟩, hb⟩
  obtain ⟨A, c, rfl, -, -, hr⟩ := hown.rd
  exact ⟨⟨A, c, rfl, hr⟩, hb⟩
end Sn
end Go.Proofs.YtpbphhpldlckbaaGreat
