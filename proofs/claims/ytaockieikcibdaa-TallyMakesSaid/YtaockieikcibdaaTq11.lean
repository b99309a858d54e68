/- slices.SortStableFunc at structs: the whole. slices.SortStableFunc at tally.Bucket, by count. slices.Clone, tally.Top. varveref45.Top. -/
import Derived.Test.YtaockieikcibdaaTq10
import Derived.Test.YtaockieikcibdaaTq02
import Derived.Test.YtaockieikcibdaaTq05
import Derived.ArgAppend
import Derived.Laws.Cover3
import Derived.Laws.AppendOwnNone
import Derived.Laws.OwnMore
import Derived.Test.YtaockieikcibdaaTq06
namespace Go.Proofs.Ytaockieikcibdaa
open Go.Shelf Go.RowKit Go.Lib Go.Sort St

section
variable {P : Program} {k : Nat} {α : Type} [Inhabited α] {enc : α → List Value} {blk off : Nat} {w0 : World} {d0 : Array α}

/-- Two sorted ranges beside each other are merged, equals in their order. -/
theorem symMerge_is (L : SwLays P k) (key : α → Int) (cf : α → α → Int) (hcf : ∀ x y, cf x y < 0 ↔ key x < key y) (g : Nat) (cb : Array Value) (eg : ∀ args w, (callFunc g args).run P w = .ok (.enter g args) w) (cap : Nat)
    (hC : CmpLays P g cb enc k cf blk off d0.size w0) (R : RowK enc k w0 blk off d0) (hsz : d0.size < 4611686018427387904) : ∀ (N : Nat) (d : Array α) (w : World) (_ : d0.size = d.size) (_ : SWK enc k w0 blk off d w) (A X Y Z : List α) (_ : d.toList = A ++ (X ++ (Y ++ Z))) (_ : Srt key X) (_ : Srt key Y) (a m b : Nat) (_ : a = A.length) (_ : m = a + X.length) (_ : b = m + Y.length) (_ : 0 < X.length) (_ : 0 < Y.length) (_ : X.length + Y.length ≤ N),
      Calls P 43 #[.slice (some ⟨blk, off, none⟩) d.size cap, .int .i64 (a : Int), .int .i64 (m : Int), .int .i64 (b : Int), .func (.func g) #[] cb] w fun e w' =>
        e = .returned (.tuple #[]) ∧ ∃ d', SWK enc k w0 blk off d' w' ∧ d'.toList = A ++ (mrg key X Y ++ Z) := by
  intro N
  induction N with
  | zero => intro d w hs S A X Y Z hd hX hY a m b ha hm hb h1 h2 hN; omega
  | succ N ih =>
    intro d w hs S A X Y Z hd hX hY a m b ha hm hb h1 h2 hN
    by_cases hx1 : X.length = 1
    · obtain ⟨x, rfl⟩ := List.length_eq_one_iff.1 hx1
      exact symMerge_one L key cf hcf g cb eg cap hC R d w hs S (by omega) A Y Z x (by rw [hd]; rfl) hY a m b ha (by simpa using hm) hb
    · by_cases hy1 : Y.length = 1
      · obtain ⟨y, rfl⟩ := List.length_eq_one_iff.1 hy1
        exact symMerge_last L key cf hcf g cb eg cap hC R d w hs S (by omega) A X Z y (by rw [hd]; rfl) hX a m b ha hm (by simpa using hb) (by omega)
      · exact symMerge_step L key cf hcf g cb eg cap hC R hsz N ih d w hs S A X Y Z hd hX hY a m b ha hm hb (by omega) (by omega) hN
omit [Inhabited α] in
theorem swk_size {dk d : Array α} {l : List α} (h : dk.toList = l) (h' : l.length = d.size) : dk.size = d.size := by rw [← Array.length_toList, h, h']

set_option maxHeartbeats 2000000 in
set_option maxRecDepth 1000000 in
/-- The row is sorted, equals in their order. -/
theorem stable_is (L : SwLays P k) (key : α → Int) (cf : α → α → Int) (hcf : ∀ x y, cf x y < 0 ↔ key x < key y) (g : Nat) (cb : Array Value) (eg : ∀ args w, (callFunc g args).run P w = .ok (.enter g args) w) (cap : Nat)
    (hC : CmpLays P g cb enc k cf blk off d0.size w0) (R : RowK enc k w0 blk off d0) (hsz : d0.size < 1152921504606846976) (e169 : ∀ args w, (callFunc 42 args).run P w = .ok (.enter 42 args) w)
    (hIns : ∀ (d : Array α) (w : World) (_ : d0.size = d.size) (_ : SWK enc k w0 blk off d w) (A M B : List α) (_ : d.toList = A ++ (M ++ B)) (a b : Nat) (_ : a = A.length) (_ : b = a + M.length),
      Calls P 42 #[.slice (some ⟨blk, off, none⟩) d.size cap, .int .i64 (a : Int), .int .i64 (b : Int), .func (.func g) #[] cb] w fun e w' =>
        e = .returned (.tuple #[]) ∧ ∃ d', SWK enc k w0 blk off d' w' ∧ d'.toList = A ++ (stab key M ++ B))
    (d : Array α) (w : World) (hs : d0.size = d.size) (S : SWK enc k w0 blk off d w) :
    Calls P 38 #[.slice (some ⟨blk, off, none⟩) d.size cap, .int .i64 (d.size : Int), .func (.func g) #[] cb] w fun e w' =>
      e = .returned (.tuple #[]) ∧ ∃ d', SWK enc k w0 blk off d' w' ∧ d'.toList = stab key d.toList := by
  have mixed := L.mixed
  have tu := L.tu
  have au := L.au
  have zu := L.zu
  have vu := L.vu
  have ti := L.ti
  have ai := L.ai
  have zi := L.zi
  have vi := L.vi
  have tb := L.tb
  have ab := L.ab
  have zb := L.zb
  have vb := L.vb
  have tn := L.tn
  have an := L.an
  have zn := L.zn
  have vn := L.vn
  have ts := L.ts
  have aS := L.aS
  have zs := L.zs
  have vs := L.vs
  have tf := L.tf
  have af := L.af
  have zf := L.zf
  have vf := L.vf
  have aE := L.aE
  have zE := L.zE
  have us := run_underlying L.ts
  have eM : ∀ args w, (callFunc 43 args).run P w = .ok (.enter 43 args) w := enters_of L.sym (by kernel_rfl) rfl
  have hM := symMerge_is L key cf hcf g cb eg cap hC R (by omega)
  have HM : Aside _ := hM
  have HI : Aside _ := hIns
  have HL : Aside (SwLays P k) := L
  obtain ⟨l, hl⟩ : ∃ l, l = d.toList := ⟨_, rfl⟩
  have hll : l.length = d.size := by rw [hl]; simp
  rw [← hl]
  have S0 : Aside (SWK enc k w0 blk off d w ∧ d.toList = l) := ⟨S, hl.symm⟩
  have HLL : Aside (l.length = d.size) := hll
  have bd : d.size < 1152921504606846976 := by omega
  clear hC hcf hM hIns L S hl hll
  go_enter HL.out.stb, Try.ntmps38
  go_wp2_with fail
  go_loopg [7, 8] d.size (fun kx s7 s8 wr => ∃ (a : Nat) (dk : Array α), s7 = .int .i64 (a : Int) ∧ s8 = .int .i64 ((a + 20 : Nat) : Int) ∧ a ≤ d.size ∧ d.size - a ≤ kx ∧ dk.size = d.size ∧
    Aside (SWK enc k w0 blk off dk wr ∧ ∃ D, D.length = a ∧ dk.toList = D ++ l.drop a ∧ D ++ cs key 20 (l.drop a) = cs key 20 l))
  case atStart => exact ⟨0, d, rfl, rfl, by omega, by omega, rfl, S0.out.1, [], rfl, by rw [S0.out.2]; rfl, rfl⟩
  case round =>
    clear S0
    obtain ⟨a, dk, rfl, rfl, ha, hkx, hds, H⟩ := hrel
    by_cases hle : ((a + 20 : Nat) : Int) ≤ (d.size : Int)
    · obtain ⟨S1, D, hD, hdk, hcs⟩ := H.out
      have hlen := HLL.out
      have hc := HI.out dk wr (by omega) S1 D ((l.drop a).take 20) (l.drop (a + 20)) (by rw [hdk, ← List.drop_drop, List.take_append_drop]) a (a + 20) hD.symm (by simp; omega)
      rw [hds] at hc
      have hnx : ∀ d' : Array α, d'.toList = D ++ (stab key ((l.drop a).take 20) ++ l.drop (a + 20)) → d'.size = d.size ∧ ∃ D, D.length = a + 20 ∧ d'.toList = D ++ l.drop (a + 20) ∧ D ++ cs key 20 (l.drop (a + 20)) = cs key 20 l := by
        intro d' h
        refine ⟨swk_size h (by simp [length_stab]; omega), D ++ stab key ((l.drop a).take 20), by simp [length_stab]; omega, by rw [h]; simp, ?_⟩
        rw [← hcs, cs_ge key (by omega) (show 20 ≤ (l.drop a).length by simp; omega), List.drop_drop]; simp
      have HX := Lib.hid hnx
      clear hnx S1 hD hdk hcs H hlen
      obtain ⟨b, hb⟩ : ∃ b, b = a + 20 := ⟨_, rfl⟩
      rw [← hb] at hc hle HX ⊢
      have hb2 : b + 20 < 9223372036854775807 := by omega
      have HB : Aside (b = a + 20) := hb
      have hab : a < b := by omega
      clear hb
      go_wp2_with (go_at_fn 42; refine hc.mono ?_; rintro e2 w2 ⟨rfl, d2, S2, h2⟩)
      have h3 := HX.out d2 h2
      clear h2 hc HX
      have S3 : Aside _ := And.intro S2 h3.2
      have h4 := h3.1
      clear S2 h3
      go_wp2
      go_roundg (d.size - b)
      case measure => omega
      case rel => exact ⟨b, d2, rfl, by first | rfl | go_num, by omega, by omega, h4, S3⟩
    · obtain ⟨S1, D, hD, hdk, hcs⟩ := H.out
      have hlen := HLL.out
      have hc := HI.out dk wr (by omega) S1 D (l.drop a) [] (by rw [hdk, List.append_nil]) a d.size hD.symm (by simp; omega)
      rw [hds] at hc
      have hnx : ∀ d' : Array α, d'.toList = D ++ (stab key (l.drop a) ++ []) → d'.size = d.size ∧ d'.toList = cs key 20 l := by
        intro d' h
        refine ⟨swk_size h (by simp [length_stab]; omega), ?_⟩
        rw [h, ← hcs, cs_small key (by simp; omega)]; simp
      have HX := Lib.hid hnx
      clear hnx S1 hD hdk hcs H hlen HI
      go_wp2_with (go_at_fn 42; refine hc.mono ?_; rintro e2 w2 ⟨rfl, d2, S2, h2⟩)
      have h3 := HX.out d2 h2
      clear h2 hc HX
      have S3 : Aside (SWK enc k w0 blk off d2 w2 ∧ d2.toList = cs key 20 l) := And.intro S2 h3.2
      have h4 := h3.1
      clear S2 h3
      go_wp2_with fail
      go_loopg [6] d.size (fun kx s6 wr => ∃ (bs : Nat) (dk : Array α), s6 = .int .i64 (bs : Int) ∧ 0 < bs ∧ bs ≤ 2 * d.size + 40 ∧ d.size - bs ≤ kx ∧ dk.size = d.size ∧ Aside (SWK enc k w0 blk off dk wr ∧ dk.toList = cs key bs l))
      case atStart => exact ⟨20, d2, rfl, by omega, by omega, by omega, h4, S3⟩
      case round =>
        clear S3 h4
        obtain ⟨bs, dk, rfl, hbs, hbs2, hkx, hds, H⟩ := hrel
        by_cases hlt : (bs : Int) < (d.size : Int)
        · have bB : bs < d.size := by omega
          go_wp2_with fail
          go_loopg [7, 8] d.size (fun kx s7 s8 wr => ∃ (a b : Nat) (dk : Array α), s7 = .int .i64 (a : Int) ∧ s8 = .int .i64 (b : Int) ∧ b = a + 2 * bs ∧ a ≤ d.size ∧ d.size - a ≤ kx ∧ dk.size = d.size ∧
            Aside (SWK enc k w0 blk off dk wr ∧ ∃ D, D.length = a ∧ dk.toList = D ++ cs key bs (l.drop a) ∧ D ++ cs key (2 * bs) (l.drop a) = cs key (2 * bs) l))
          case atStart => exact ⟨0, 2 * bs, dk, rfl, by first | rfl | go_num, by omega, by omega, by omega, hds, H.out.1, [], rfl, by rw [H.out.2]; rfl, rfl⟩
          case round =>
            clear H
            obtain ⟨a, b, dk, rfl, rfl, hab, ha, hkx, hds, H⟩ := hrel
            by_cases hle : (b : Int) ≤ (d.size : Int)
            · obtain ⟨S1, D, hD, hdk, hcs⟩ := H.out
              have hlen := HLL.out
              have ht := cs_twice key hbs (show 2 * bs ≤ (l.drop a).length by simp; omega)
              have hc := HM.out (2 * bs) dk wr (by omega) S1 D (stab key ((l.drop a).take bs)) (stab key (((l.drop a).drop bs).take bs)) (cs key bs ((l.drop a).drop (2 * bs))) (by rw [hdk, ht.1]) (stab_srt key _) (stab_srt key _) a (a + bs) b hD.symm (by simp [length_stab]; omega) (by simp [length_stab]; omega) (by simp [length_stab]; omega) (by simp [length_stab]; omega) (by simp [length_stab]; omega)
              rw [hds] at hc
              have hnx : ∀ d' : Array α, d'.toList = D ++ (mrg key (stab key ((l.drop a).take bs)) (stab key (((l.drop a).drop bs).take bs)) ++ cs key bs ((l.drop a).drop (2 * bs))) → d'.size = d.size ∧ ∃ D, D.length = b ∧ d'.toList = D ++ cs key bs (l.drop b) ∧ D ++ cs key (2 * bs) (l.drop b) = cs key (2 * bs) l := by
                intro d' h
                have e1 : (l.drop a).drop (2 * bs) = l.drop b := by rw [List.drop_drop, hab]
                refine ⟨?_, D ++ mrg key (stab key ((l.drop a).take bs)) (stab key (((l.drop a).drop bs).take bs)), by simp [length_stab, length_mrg]; omega, by rw [h, e1]; simp, ?_⟩
                · rw [← hds, ← Array.length_toList, ← Array.length_toList (xs := dk), h, hdk, ht.1]; simp [length_mrg]; omega
                · rw [← hcs, ht.2, e1]; simp
              have HX := Lib.hid hnx
              clear hnx S1 hD hdk hcs H hlen ht
              rw [Int.natCast_add] at hc
              have HAB : Hid (b = a + 2 * bs) := hab
              have hab1 : a < b := by omega
              clear hab
              go_wp2_with (go_at_fn 43; refine hc.mono ?_; rintro e2 w2 ⟨rfl, d3, S5, h5⟩)
              have h6 := HX.out d3 h5
              clear h5 hc HX
              have S6 : Aside _ := And.intro S5 h6.2
              have h7 := h6.1
              clear S5 h6
              go_wp2
              go_roundg (d.size - b)
              case measure => omega
              case rel => exact ⟨b, b + 2 * bs, d3, rfl, by first | rfl | go_num, by omega, by omega, by omega, h7, S6.out⟩
            · obtain ⟨S1, D, hD, hdk, hcs⟩ := H.out
              have hlen := HLL.out
              have HAB : Hid (b = a + 2 * bs) := hab
              by_cases hmn : (a : Int) + (bs : Int) < (d.size : Int)
              · have ht := cs_last key hbs (show bs ≤ (l.drop a).length by simp; omega) (show (l.drop a).length < 2 * bs by simp; omega)
                have hc := HM.out (2 * bs) dk wr (by omega) S1 D (stab key ((l.drop a).take bs)) (stab key ((l.drop a).drop bs)) [] (by rw [hdk, ht.1, List.append_nil]) (stab_srt key _) (stab_srt key _) a (a + bs) d.size hD.symm (by simp [length_stab]; omega) (by simp [length_stab]; omega) (by simp [length_stab]; omega) (by simp [length_stab]; omega) (by simp [length_stab]; omega)
                rw [hds, Int.natCast_add] at hc
                have hnx : ∀ d' : Array α, d'.toList = D ++ (mrg key (stab key ((l.drop a).take bs)) (stab key ((l.drop a).drop bs)) ++ []) → d'.size = d.size ∧ d'.toList = cs key (2 * bs) l := by
                  intro d' h
                  refine ⟨?_, ?_⟩
                  · rw [← hds, ← Array.length_toList, ← Array.length_toList (xs := dk), h, hdk, ht.1]; simp [length_mrg]
                  · rw [h, ← hcs, ht.2]; simp
                have HX := Lib.hid hnx
                clear hnx S1 hD hdk hcs H hlen ht hab
                go_wp2_with (go_at_fn 43; refine hc.mono ?_; rintro e2 w2 ⟨rfl, d3, S5, h5⟩)
                have h6 := HX.out d3 h5
                clear h5 hc HX
                have S6 : Aside (SWK enc k w0 blk off d3 _ ∧ d3.toList = cs key (2 * bs) l) := And.intro S5 h6.2
                have h7 := h6.1
                clear S5 h6
                go_wp2
                go_roundg (d.size - 2 * bs)
                case measure => omega
                case rel => exact ⟨2 * bs, d3, by first | rfl | go_num, by omega, by omega, by omega, h7, S6⟩
              · have hcs2 : dk.toList = cs key (2 * bs) l := by
                  rw [hdk, ← hcs, cs_small key (by simp; omega), cs_small key (by simp; omega)]
                have S6 : Aside (SWK enc k w0 blk off dk wr ∧ dk.toList = cs key (2 * bs) l) := And.intro S1 hcs2
                clear S1 hD hdk hcs H hlen hcs2 hab
                go_wp2
                go_roundg (d.size - 2 * bs)
                case measure => omega
                case rel => exact ⟨2 * bs, dk, by first | rfl | go_num, by omega, by omega, by omega, hds, S6⟩
        · obtain ⟨S1, h1⟩ := H.out
          have hlen := HLL.out
          have h2 : dk.toList = stab key l := by rw [h1, cs_small key (by omega)]
          have S6 : Aside (SWK enc k w0 blk off dk wr ∧ dk.toList = stab key l) := And.intro S1 h2
          clear S1 h1 H hlen h2
          go_wp2
          go_end0
          exact ⟨rfl, dk, S6.out⟩
end
end Go.Proofs.Ytaockieikcibdaa
namespace Go.Proofs.Ytaockieikcibdaa
open Go.Shelf Go.RowKit Go.Lib Go.Sort St

shelf_lay_g SlLaysF0.n20 Slsf 20 at Try 42 as SwIns

/-- By count, the greatest first. -/
def cKey (x : Ta.Bu) : Int := - x.2.1

set_option maxHeartbeats 1000000 in
theorem top1_any (x y : Ta.Bu) (W : World) : Calls Try.prog 33 #[.agg #[.int .i64 x.1, .int .i64 x.2.1, .int .i64 x.2.2], .agg #[.int .i64 y.1, .int .i64 y.2.1, .int .i64 y.2.2]] W fun e w' => e = .returned (.int .i64 (Lib.compareInt y.2.1 x.2.1)) ∧ ∃ q os', w' = grow (W.drewN q) os' := by
  have hcon := fun W' => Try.cmp_Compare_int y.2.1 x.2.1 W'
  generalize Lib.compareInt y.2.1 x.2.1 = r at hcon ⊢
  go_enter Try.func33, Try.ntmps33
  go_wp2_with (go_at_call 34; refine (hcon _).mono ?_; rintro e w' ⟨rfl, rfl⟩)
  go_ret
  exact ⟨rfl, 0, _, by rw [alloc_eq_grow, alloc_eq_grow, grow_grow]; rfl⟩

theorem top1_lays (blk off size : Nat) (w : World) : CmpLays Try.prog 33 #[] Ta.clT 3 (fun x y => Lib.compareInt y.2.1 x.2.1) blk off size w :=
  fun _ _ _ _ x y => top1_any x y _

theorem cKey_neg (x y : Ta.Bu) : Lib.compareInt y.2.1 x.2.1 < 0 ↔ cKey x < cKey y := by
  unfold Lib.compareInt cKey
  split
  · rename_i h; simp; omega
  · split
    · rename_i h1 h; simp; omega
    · rename_i h1 h; simp; omega

set_option maxHeartbeats 1000000 in
theorem sortStable_any (blk cap : Nat) (d : Array Ta.Bu) (w : World) (hH : HoldsK Ta.clT 3 w blk 0 d) (hblk : blk < w.heap.size) (hsz : d.size < 1152921504606846976) :
    Calls Try.prog 32 #[.slice (some ⟨blk, 0, none⟩) d.size cap, .func (.func 33) #[] #[]] w fun e w' =>
      e = .returned (.tuple #[]) ∧ ∃ d', SWK Ta.clT 3 w blk 0 d' w' ∧ d'.toList = stab cKey d.toList := by
  have eg : ∀ args w, (callFunc 33 args).run Try.prog w = .ok (.enter 33 args) w := enters_of Try.func33 (by kernel_rfl) rfl
  have e169 : ∀ args w, (callFunc 42 args).run Try.prog w = .ok (.enter 42 args) w := enters_of Try.func42 (by kernel_rfl) rfl
  have R : RowK Ta.clT 3 w blk 0 d := ⟨fun _ => rfl, fun x v hv => by simp [Ta.clT] at hv; rcases hv with rfl | rfl | rfl <;> rfl, hH, hblk⟩
  have hIns : ∀ (d1 : Array Ta.Bu) (w1 : World) (_ : d.size = d1.size) (_ : SWK Ta.clT 3 w blk 0 d1 w1) (A M B : List Ta.Bu) (_ : d1.toList = A ++ (M ++ B)) (a b : Nat) (_ : a = A.length) (_ : b = a + M.length),
      Calls Try.prog 42 #[.slice (some ⟨blk, 0, none⟩) d1.size cap, .int .i64 (a : Int), .int .i64 (b : Int), .func (.func 33) #[] #[]] w1 fun e w' =>
        e = .returned (.tuple #[]) ∧ ∃ d', SWK Ta.clT 3 w blk 0 d' w' ∧ d'.toList = A ++ (stab cKey M ++ B) := by
    intro d1 w1 hs S A M B hd a b ha hb
    have hl : d1.size = A.length + M.length + B.length := by rw [← Array.length_toList, hd]; simp; omega
    have h := AnyQ.insertionSortCmpFunc SwIns 3 Try.isAgg40 Try.sizeOf40 Ta.clT (fun _ => rfl) R.h1 (fun x y => Lib.compareInt y.2.1 x.2.1) 33 #[] blk 0 cap a b d1 w1 eg (top1_lays blk 0 d1.size w1) (S.holds hblk hH hs.symm) (S.lt hblk) (by omega) (by omega) (by omega)
    refine h.mono ?_
    rintro e w' ⟨he, n, os, rfl⟩
    refine ⟨he, _, S.on hblk n _ os ?_, ?_⟩
    · have h2 := insertionSort_list cKey (lt := ltOf fun x y => Lib.compareInt y.2.1 x.2.1) (fun x y => decide_eq_decide.2 (cKey_neg x y)) A M B d1 hd
      rw [ha, hb, ha, ← Array.length_toList, h2, hl]
      simp [length_stab]; omega
    · rw [hb, ha]
      exact insertionSort_list cKey (lt := ltOf fun x y => Lib.compareInt y.2.1 x.2.1) (fun x y => decide_eq_decide.2 (cKey_neg x y)) A M B d1 hd
  have hcon := stable_is swLays cKey (fun x y => Lib.compareInt y.2.1 x.2.1) cKey_neg 33 #[] eg cap (top1_lays blk 0 d.size w) R hsz e169 hIns d w rfl (SWK.start hH)
  have HH := Lib.hid hcon
  clear hIns R hcon hH
  go_enter Try.func32, Try.ntmps32
  go_wp2_with (go_at_call 38; refine HH.out.mono ?_; rintro e w' ⟨rfl, h⟩)
  go_end0
  exact ⟨rfl, h⟩
end Go.Proofs.Ytaockieikcibdaa
namespace Go.Proofs.Ytaockieikcibdaa
namespace Ta
open Go.Shelf Go.RowKit Go.Lib Go.Sort St

theorem swk_row {α : Type} [Inhabited α] {enc : α → List Value} {k g : Nat} {w w' : World} {d : Array α} {cur : Array Value} {t : TypeId} (h : SWK enc k w g 0 d w') (hr : w.heap[g]? = some (.cells cur t (0, 0))) :
    w'.heap[g]? = some (.cells (putCells id 0 (flatK enc k d) cur) t (0, 0)) := by
  obtain ⟨n, os, rfl⟩ := h
  have hlt : g < w.heap.size := (Array.getElem?_eq_some_iff.1 hr).1
  unfold sortWorldK putRowK putRow
  rw [heap_grow_old _ _ (by simpa [mapBlock, Sort.ahead] using hlt)]
  simp [mapBlock, Sort.ahead, Array.getElem?_modify, hr]
  rfl
theorem swk_below {α : Type} [Inhabited α] {enc : α → List Value} {k g B : Nat} {w w' : World} {d : Array α} (h : SWK enc k w g 0 d w') (hB : B ≤ g) (hg : g < w.heap.size) : RowKit.Below B w w' := by
  obtain ⟨n, os, rfl⟩ := h
  refine ⟨rfl, rfl, rfl, by simp [sortWorldK, putRowK, Sort.ahead], fun j hj => ?_⟩
  unfold sortWorldK putRowK putRow
  rw [heap_grow_old _ _ (by simp [mapBlock, Sort.ahead]; omega)]
  simp [mapBlock, Sort.ahead, Array.getElem?_modify]
  omega
theorem flat_at (d : Array Bu) (j : Nat) (h : j < d.size * 3) : (flT d.toList)[j]? = some (flatK clT 3 d)[j]! := by
  rw [get_flatK clT 3 d j h]
  have hk : j / 3 < d.size := by omega
  have hx : d.toList[j / 3]? = some d[j / 3]! := by
    rw [Array.getElem?_toList, getElem!_def]
    rw [Array.getElem?_eq_getElem hk]
  obtain ⟨h1, h2, h3⟩ := flT_at d.toList (j / 3) _ hx
  have hm : j % 3 = 0 ∨ j % 3 = 1 ∨ j % 3 = 2 := by omega
  rcases hm with e | e | e
  · rw [e]
    have ej : j = j / 3 * 3 := by omega
    conv => lhs; rw [ej]
    rw [h1]; rfl
  · rw [e]
    have ej : j = j / 3 * 3 + 1 := by omega
    conv => lhs; rw [ej]
    rw [h2]; rfl
  · rw [e]
    have ej : j = j / 3 * 3 + 2 := by omega
    conv => lhs; rw [ej]
    rw [h3]; rfl
theorem ownT_sorted {w w' : World} {B g n c : Nat} {l : List Bu} {d : Array Bu} (h : OwnT w B (.slice (some ⟨g, 0, none⟩) n c) l) (S : SWK clT 3 w g 0 d w') (hd : d.size = l.length) : OwnT w' B (.slice (some ⟨g, 0, none⟩) n c) d.toList := by
  obtain ⟨h1, h2⟩ := h
  unfold OwnT
  refine ⟨by rw [length_fl3], ?_⟩
  rcases h2 with ⟨hv, _⟩ | ⟨g', cap, cur, hv, hg, hh, hnc, hcm, hcs, htake⟩
  · cases hv
  · simp only [Value.slice.injEq, Option.some.injEq, Addr.mk.injEq, and_true] at hv
    obtain ⟨rfl, rfl, rfl⟩ := hv
    have hdl : l.length = d.toList.length := hd.symm.trans (Array.length_toList (xs := d)).symm
    refine .inr ⟨g, c, _, congrArg (fun n => Value.slice (some ⟨g, 0, none⟩) n c) hdl, hg, swk_row S hh, by rw [← hdl]; exact hnc, hcm, by simp [putCells, hcs], ?_⟩
    refine List.ext_getElem? fun j => ?_
    rw [Array.length_toList]
    by_cases hj : j < d.size * 3
    · rw [List.getElem?_take, if_pos hj, flat_at d j hj, Array.getElem?_toList]
      have hjc : j < cur.size := by omega
      simp only [putCells, Array.getElem?_mapIdx, Array.getElem?_eq_getElem hjc, Option.map_some]
      rw [if_pos ⟨Nat.zero_le _, by simp; omega⟩]
      rfl
    · rw [List.getElem?_take, if_neg hj, List.getElem?_eq_none]
      rw [length_fl3, Array.length_toList]; omega
theorem ownT_holds {w : World} {B g n c : Nat} {l : List Bu} (h : OwnT w B (.slice (some ⟨g, 0, none⟩) n c) l) : HoldsK clT 3 w g 0 l.toArray := by
  have hn : n = l.length := by
    rcases h.2 with ⟨hv, _⟩ | ⟨g', cap, cur, hv, _⟩
    · cases hv
    · cases hv; rfl
  subst hn
  intro j hj
  rw [size_flatK] at hj
  have hs : l.toArray.size = l.length := by simp
  rw [Nat.zero_add]
  have hf := flat_at l.toArray j hj
  refine ⟨?_, World.ownsRow.frozenAt h j⟩
  have := World.ownsRow.cells (g := g) h rfl j _ hf
  rwa [Addr.add_lit, Nat.zero_add] at this

section
variable {ops : Array Oper} {rest : List Oper} {o : Oper} {a : Act} {Q : Exit → Act → World → Prop}
/-- append(b, x...), b of the call's own. -/
theorem appendsT {s x : Operand} {B : Nat} {v : Value} {l l2 : List Bu} {w0 : World} {ad : Addr} {n c : Nat} (hown : OwnT w0 B v l) (hrd : Rd w0 w0.heap.size 3 (some ad) n (flT l2)) (hl : l.length ≤ 1099511627776) (hn : n ≤ 1099511627776) (hB : B ≤ w0.heap.size)
    (h : ∀ A' n' c' w', Hid (n' = l.length + n) → OwnT w' B (.slice A' n' c') (l ++ l2) → Below B w0 w' → wpList Try.prog ops Q rest (a.put o.dst (.slice A' n' c')) w')
    (hgd : o.guard = none := by exact rfl) (ho : o.op = .call { callee := .builtin .append, args := #[s, x], argTypes := #[28, 28] } := by exact rfl)
    (hs : a.eval s = v := by exact rfl) (hx : a.eval x = .slice (some ad) n c := by exact rfl) :
    wpList Try.prog ops Q (o :: rest) a w0 := by
  obtain ⟨i0, hi, hz0, hz1, hz2⟩ := info_parts bu_info
  have hln := rdT_len hrd
  refine wpList_append_own_at _ hgd s x 28 ho B 40 i0 (.agg #[.int .i64 0, .int .i64 0, .int .i64 0]) 3 24 Try.underlying28 hi hz0 hz1 hz2 rfl (by omega) v l.length (flT l) hs hown
    ad n c (flT l2) hx (by rw [length_fl3, hln]) ?_ (flT_one l2) (by simp only [maxLen]; omega) (by omega) hB ?_
  · intro j u hu
    have hj : j < n * 3 := by
      have := (List.getElem?_eq_some_iff.1 hu).1
      rw [length_fl3, hln] at this; exact this
    obtain ⟨ad', e, _, hc⟩ := hrd.cells (by omega)
    cases e
    exact hc j u hu
  · intro v' w' hown' hg _ hat
    have hlt := World.ownsRow.lt hown
    have hown2 : w'.ownsRow B 40 3 v' (l ++ l2).length (flT (l ++ l2)) := by
      rw [List.length_append, flT_append, hln]; exact hown'
    obtain ⟨A', c', rfl, _, _⟩ := own_slice hown2
    exact h A' _ c' w' (by rw [List.length_append, hln]; rfl) hown2 ((Below.refl _ _).grown hg hB (fun k hk => (hlt k hk).1))
end
theorem eql_nil (ad : Addr) (n c : Nat) (w : World) : (binOp .eql 28 (.slice (some ad) n c) (.slice none 0 0)).run Try.prog w = .ok (.bool false) w := by
  have h := run_equal_slice_nil (P := Try.prog) (w := w) 28 40 (some ad) n c Try.underlying28
  simp only [binOp, Sem.run_bind, h, Result.andThen_ok]
  rfl
theorem ownT_empty (w : World) : OwnT (w.alloc (.cells #[] 40)) w.heap.size (.slice (some ⟨w.heap.size, 0, none⟩) 0 0) [] :=
  World.ownsRow_lit w #[] 0 (Nat.le_refl _) (by simp [maxLen]) rfl

set_option maxHeartbeats 3200000 in
set_option maxRecDepth 100000 in
theorem clone_any (ad : Addr) (n c : Nat) (l : List Bu) (w : World) (hrd : Rd w w.heap.size 3 (some ad) n (flT l)) (hn : n ≤ 1000000) :
    Calls Try.prog 31 #[.slice (some ad) n c] w fun e w' => (∃ A' c', e = .returned (.slice A' n c') ∧ OwnT w' w.heap.size (.slice A' n c') l) ∧ Below w.heap.size w w' := by
  have mixed : Try.prog.follows .mixedOrders = true := by kernel_rfl
  have HO := Lib.hid (ownT_empty w)
  have HR := Lib.hid ((hrd.below (ext_alloc w (.cells #[] 40))).more (show w.heap.size ≤ (w.alloc (.cells #[] 40)).heap.size by simp))
  have HN := Lib.hid hn
  have hq := eql_nil ad n c w
  clear hrd hn
  go_enter Try.func31, Try.ntmps31
  go_wp2_with (at_builtin; refine appendsT HO.out HR.out (by simp) (by have := HN.out; omega) (by simp) ?_; intro A1 n1 c1 w1 hn1 hown1 hb1)
  have e1 : n1 = n := by have := hn1.out; simpa using this
  subst e1
  go_ret
  exact ⟨⟨A1, c1, rfl, by simpa using hown1⟩, (ext_alloc w _).trans (hb1.mono (by simp))⟩
set_option maxHeartbeats 3200000 in
theorem clone_nil (w : World) : Calls Try.prog 31 #[.slice none 0 0] w fun e w' => e = .returned (.slice none 0 0) ∧ w = w' := by
  have hq := run_equal_slice_nil (P := Try.prog) (w := w) 28 40 none 0 0 Try.underlying28
  have hq2 : (binOp .eql 28 (.slice none 0 0) (.slice none 0 0)).run Try.prog w = .ok (.bool true) w := by
    simp only [binOp, Sem.run_bind, hq, Result.andThen_ok]
    rfl
  clear hq
  go_enter Try.func31, Try.ntmps31
  go_wp2_with fail
  go_ret
  exact ⟨rfl, rfl⟩
set_option maxHeartbeats 800000 in
theorem ins_nil (w : World) (f : Value) : Calls Try.prog 42 #[.slice none 0 0, .int .i64 0, .int .i64 0, f] w fun e w' => e = .returned (.tuple #[]) ∧ w = w' := by
  go_enter Try.func42, Try.ntmps42
  go_wp2
  go_rounds 1
  go_wp2
  go_end0
  exact ⟨rfl, rfl⟩
set_option maxHeartbeats 800000 in
theorem stable_nil (w : World) (f : Value) : Calls Try.prog 38 #[.slice none 0 0, .int .i64 0, f] w fun e w' => e = .returned (.tuple #[]) ∧ w = w' := by
  have hi := ins_nil w f
  go_enter Try.func38, Try.ntmps38
  go_wp2_with (go_at_call 42; refine hi.mono ?_; rintro e1 w1 ⟨rfl, rfl⟩)
  go_rounds 1
  go_wp2_with (go_at_call 42; refine hi.mono ?_; rintro e1 w1 ⟨rfl, rfl⟩)
  go_rounds 1
  go_wp2_with fail
  go_rounds 1
  go_wp2
  go_end0
  exact ⟨rfl, rfl⟩
set_option maxHeartbeats 800000 in
theorem sortStable_nil (w : World) (f : Value) : Calls Try.prog 32 #[.slice none 0 0, f] w fun e w' => e = .returned (.tuple #[]) ∧ w = w' := by
  have hi := stable_nil w f
  go_enter Try.func32, Try.ntmps32
  go_wp2_with fail
  refine hi.mono ?_
  rintro e1 w1 ⟨rfl, rfl⟩
  go_wp2
  go_end0
  exact ⟨rfl, rfl⟩

theorem sort_ownT (w : World) (B : Nat) (v : Value) (l : List Bu) (h : OwnT w B v l) (hl : l.length ≤ 1099511627776) :
    Calls Try.prog 32 #[v, .func (.func 33) #[] #[]] w fun e w' => e = .returned (.tuple #[]) ∧ OwnT w' B v (stab cKey l) ∧ Below B w w' := by
  have h2 := h.2
  rcases h2 with ⟨rfl, h0⟩ | ⟨g, cap, cur, rfl, hg, hh, _⟩
  · have : l = [] := List.eq_nil_of_length_eq_zero h0
    subst this
    refine (sortStable_nil w _).mono ?_
    rintro e w' ⟨rfl, rfl⟩
    exact ⟨rfl, h, Below.refl _ _⟩
  · have hlt : g < w.heap.size := (Array.getElem?_eq_some_iff.1 hh).1
    have hc := sortStable_any g cap l.toArray w (ownT_holds h) hlt (by simp; omega)
    rw [show l.toArray.size = l.length by simp] at hc
    refine hc.mono ?_
    rintro e w' ⟨rfl, d', S, hd⟩
    have hd2 : d'.toList = stab cKey l := by rw [hd]
    have hsz : d'.size = l.length := by rw [← Array.length_toList, hd2, length_stab]
    refine ⟨rfl, ?_, swk_below S hg hlt⟩
    have := ownT_sorted h S hsz
    rwa [hd2] at this
/-- slices.Clone of a slice of the call's own. -/
theorem clone_own (v : Value) (B : Nat) (l : List Bu) (w : World) (h : OwnT w B v l) (hn : l.length ≤ 1000000) :
    Calls Try.prog 31 #[v] w fun e w' => (∃ A' c', e = .returned (.slice A' l.length c') ∧ OwnT w' w.heap.size (.slice A' l.length c') l) ∧ Below w.heap.size w w' := by
  obtain ⟨A, c, rfl, -, -, hrd⟩ := h.rd
  cases A with
  | none =>
    rcases h.2 with ⟨hv, h0⟩ | ⟨g, cap, cur, hv, _⟩
    · simp only [Value.slice.injEq] at hv
      obtain ⟨-, -, rfl⟩ := hv
      have : l = [] := List.eq_nil_of_length_eq_zero h0
      subst this
      refine (clone_nil w).mono ?_
      rintro e w' ⟨rfl, rfl⟩
      exact ⟨⟨none, 0, rfl, ownT_nil _ _⟩, Below.refl _ _⟩
    · cases hv
  | some ad => exact clone_any ad _ c l w hrd hn
theorem flT_take (l : List Bu) (k : Nat) : (flT l).take (k * 3) = flT (l.take k) := by
  induction l generalizing k with
  | nil => simp [flT]
  | cons x l ih =>
    rcases k with _ | k
    · simp [flT]
    · rw [flT_cons, List.take_succ_cons, flT_cons, show (k + 1) * 3 = k * 3 + 1 + 1 + 1 by omega, List.take_succ_cons, List.take_succ_cons, List.take_succ_cons, ih]
/-- How many tally.Top picks. -/
def topN (l : List Bu) (k : Int) : Nat := (min (max k 0) (l.length : Int)).toNat
set_option maxHeartbeats 3200000 in
set_option maxRecDepth 100000 in
theorem top_any (v : Value) (B : Nat) (l : List Bu) (k : Int) (w : World) (h : OwnT w B v l) (hn : l.length ≤ 1000000) :
    Calls Try.prog 18 #[v, .int .i64 k] w fun e w' => (∃ A' c', e = .returned (.slice A' (topN l k) c') ∧ Rd w' w'.heap.size 3 A' (topN l k) (flT ((stab cKey l).take (topN l k)))) ∧ Below w.heap.size w w' := by
  have mixed : Try.prog.follows .mixedOrders = true := by kernel_rfl
  have HC := Lib.hid (clone_own v B l w h hn)
  have HN := Lib.hid hn
  clear h hn
  go_enter Try.func18, Try.ntmps18
  go_wp2_with fail
  refine HC.out.mono ?_
  rintro e1 w1 ⟨⟨A1, c1, rfl, hown⟩, hb1⟩
  have HS := Lib.hid (sort_ownT w1 w.heap.size _ l hown (by have := HN.out; omega))
  have HB1 := Lib.hid hb1
  clear hown hb1 HC
  go_wp2_with fail
  refine HS.out.mono ?_
  rintro e2 w2 ⟨rfl, hown2, hb2⟩
  obtain ⟨A', c', e', hnc, hcm, hrd⟩ := hown2.rd
  simp only [Value.slice.injEq] at e'
  obtain ⟨rfl, -, rfl⟩ := e'
  have HR := Lib.hid hrd
  have HB2 := Lib.hid (HB1.out.trans hb2)
  rw [length_stab] at hnc
  clear hown2 hb2 hrd HS
  go_wp2_with fail
  go_ret
  have hm : topN l k ≤ l.length := by unfold topN; omega
  have ht := HR.out.take (k := topN l k) (by rw [length_stab]; exact hm)
  rw [flT_take] at ht
  exact ⟨⟨A1, c1, rfl, ht⟩, HB2.out⟩
end Ta
end Go.Proofs.Ytaockieikcibdaa
namespace Go.Proofs.Ytaockieikcibdaa
namespace Tm
open Go.RowKit Go.Maps Go.Sort Ta

section
variable {w w' : World} {B C : Nat} {v : Value} {l : List Bu}
/-- append(s, x...), as the builtin runs. -/
theorem run_appG {w0 : World} {l2 : List Bu} {A : Option Addr} {n c : Nat} (ty : TypeId) (hown : OwnF w0 B v l) (hrd : Rd w0 w0.heap.size 3 A n (flT l2)) (hA : A = none → c = 0) (hl : l.length ≤ 1000000000) (hn : n ≤ 1000000000) (hB : B ≤ w0.heap.size) :
    ∃ v' w', (Builtin.append_ #[23, 23] ty #[v, .slice A n c]).run Try.prog w0 = .ok v' w' ∧ OwnF w' B v' (l ++ l2) ∧ Below B w0 w' ∧ w0.grownBy w' v.ownBlock := by
  obtain ⟨i0, hi, hz0, hz1, hz2⟩ := info_parts bf_info
  have hln := rdT_len hrd
  cases A with
  | none =>
    have hn0 : n = 0 := by
      rcases Nat.eq_zero_or_pos n with h0 | h0
      · exact h0
      · obtain ⟨ad, e, _⟩ := hrd.cells (by omega)
        cases e
    have hc0 := hA rfl
    subst hn0 hc0
    have hl2 : l2 = [] := List.eq_nil_of_length_eq_zero hln
    subst hl2
    exact ⟨v, w0, run_append_owned_none (P := Try.prog) (w := w0) B 23 ty 42 i0 3 Try.underlying23 hi v l.length (flT l) hown, by rw [List.append_nil]; exact hown, Below.refl _ _, ⟨rfl, rfl, rfl, Nat.le_refl _, fun _ _ _ => rfl⟩⟩
  | some ad =>
    obtain ⟨v', w', hr, h2, h3, -, -⟩ := run_append_own_at (P := Try.prog) w0 B 23 ty 42 i0 (.agg #[.int .i64 0, .int .i64 0, .int .i64 0]) 3 24 Try.underlying23 hi hz0 hz1 hz2 rfl (by omega) v l.length (flT l) hown
      ad n c (flT l2) (by rw [length_fl3, hln]) (by
        intro j u hu
        have hj : j < n * 3 := by
          have := (List.getElem?_eq_some_iff.1 hu).1
          rw [length_fl3, hln] at this; exact this
        obtain ⟨ad', e, _, hc⟩ := hrd.cells (by omega)
        cases e
        exact hc j u hu) (flT_one l2) (by simp only [maxLen]; omega) (by omega) hB
    have hlt := World.ownsRow.lt hown
    refine ⟨v', w', hr, ?_, ((Below.refl _ _).grown h3 hB (fun k hk => (hlt k hk).1)), h3⟩
    unfold OwnF
    rw [List.length_append, flT_append, hln]; exact h2
end
section
variable {ops : Array Oper} {rest : List Oper} {o : Oper} {a : Act} {K : Act → World → Prop} {Q : Exit → Act → World → Prop} {E : Prop}
/-- .. in a region that draws. -/
theorem step_appG (s x : Operand) {w0 : World} {B : Nat} {v : Value} {l l2 : List Bu} {A : Option Addr} {n c : Nat}
    (hgd : o.guard = none) (ho : o.op = .call { callee := .builtin .append, args := #[s, x], argTypes := #[23, 23] })
    (hown : OwnF w0 B v l) (hrd : Rd w0 w0.heap.size 3 A n (flT l2)) (hA : A = none → c = 0) (hl : l.length ≤ 1000000000) (hn : n ≤ 1000000000) (hB : B ≤ w0.heap.size) (hs : a.eval s = v) (hx : a.eval x = .slice A n c)
    (h : ∀ v' w', OwnF w' B v' (l ++ l2) → Below B w0 w' → w0.grownBy w' v.ownBlock → K (a.put o.dst v') w') :
    if Region.wanted o (yielded ops a.tmps) = true then Oper.wp Try.prog o a w0 K Q else E := by
  have hw : Region.wanted o (yielded ops a.tmps) = true := by simp [Region.wanted, hgd]
  rw [if_pos hw]
  obtain ⟨v', w', hr, h1, h2, h3⟩ := run_appG o.type hown hrd hA hl hn hB
  unfold Oper.wp execOp
  simp only [ho, resolve, invoke, builtin, Sem.run_bind, Sem.run_pure, Result.andThen_ok, List.map_toArray, List.map_cons, List.map_nil, hs, hx, hr]
  exact h v' w' h1 h2 h3
end
theorem mrg_at (x : Bu) : ∀ (S : List Bu) (k : Nat), (∀ j y, j < k → S[j]? = some y → x.2.1 ≤ y.2.1) → k ≤ S.length → (∀ y, S[k]? = some y → y.2.1 < x.2.1) → St.mrg cKey S [x] = S.take k ++ [x] ++ S.drop k
  | [], 0, _, _, _ => by rw [St.mrg_nil_left]; rfl
  | [], k + 1, _, hk, _ => by simp at hk
  | y :: S, 0, _, _, h => by
    have := h y rfl
    rw [St.mrg_lt cKey (by unfold cKey; omega), St.mrg_nil_right]; rfl
  | y :: S, k + 1, h, hk, h' => by
    have h0 := h 0 y (by omega) rfl
    have ih := mrg_at x S k (fun j z hj hz => h (j + 1) z (by omega) (by simpa using hz)) (by simpa using hk) (fun z hz => h' z (by simpa using hz))
    rw [St.mrg_ge cKey (by unfold cKey; omega), ih]; simp
theorem stab_snoc (l : List Bu) (x : Bu) (k : Nat) (h : ∀ j y, j < k → (St.stab cKey l)[j]? = some y → x.2.1 ≤ y.2.1) (hk : k ≤ l.length) (h' : ∀ y, (St.stab cKey l)[k]? = some y → y.2.1 < x.2.1) :
    St.stab cKey (l ++ [x]) = (St.stab cKey l).take k ++ [x] ++ (St.stab cKey l).drop k := by
  rw [← St.mrg_stab, St.stab_one]
  exact mrg_at x _ k h (by rw [St.length_stab]; exact hk) h'
/-- A new block stays as it is where another one grows. -/
theorem rd_far {w w' : World} {g : Nat} {x : Bu} {t : TypeId} (h : (w.alloc (.cells #[.int .i64 x.1, .int .i64 x.2.1, .int .i64 x.2.2] t)).grownBy w' (some g)) (hg : g ≠ w.heap.size) : Rd w' w'.heap.size 3 (some ⟨w.heap.size, 0, none⟩) 1 (flT [x]) := by
  have hr := rd_new w x t
  refine ⟨hr.len, fun hn => ?_⟩
  obtain ⟨ad, e, hb, hc⟩ := hr.cells hn
  cases e
  refine ⟨_, rfl, Nat.lt_of_lt_of_le hb h.size, fun j u hu => ?_⟩
  have := hc j u hu
  rw [Addr.add_lit] at this ⊢
  rw [World.grownBy.cell_far h ⟨w.heap.size, 0 + j, none⟩ (by simp) (by intro e; cases e; exact hg rfl)]
  exact this
end Tm
end Go.Proofs.Ytaockieikcibdaa
