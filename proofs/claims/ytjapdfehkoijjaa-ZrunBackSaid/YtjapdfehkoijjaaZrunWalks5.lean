/- zrun.Unpack. -/
import Derived.Test.YtjapdfehkoijjaaZrunWalks4
namespace Go.Proofs.Ytjapdfehkoijjaa
namespace Zr
open Go.RowKit

set_option maxHeartbeats 1600000 in
/-- The second loop's round, and what follows. -/
theorem unpack_any (A : Option Addr) (n c : Nat) (l : List Int) (limit : Int) (w : World) (hc : n ≤ c) (hcm : c ≤ maxLen) (hrd : Rd w w.heap.size 1 A n (l.map (Value.int .i64))) :
    Calls Try.prog 27 #[.slice A n c, .int .i64 limit] w fun e w' => ∃ v, e = .returned (.tuple #[v, .int .i64 (unpackE l limit)]) ∧ Own w' w.heap.size v (unpack l limit) ∧ Below w.heap.size w w' := by
  have hln : l.length = n := by simpa using hrd.len
  have Hln := Lib.hid hln
  clear hln
  have hcm2 : n ≤ 9223372036854775807 := by unfold maxLen at hcm; omega
  go_enter Try.func27, Try.ntmps27
  go_wp2_with fail
  go_loop [14] (fun i => ∃ k : Nat, i = .int .i64 k ∧ k ≤ n ∧ Hid ((l.take k).all okSym = true)) (fun i => n - (intOf i).toNat)
  case atStart => exact ⟨0, rfl, by omega, rfl⟩
  case round =>
    obtain ⟨k, rfl, hk, hall⟩ := hrel
    by_cases hlt : k < n
    · obtain ⟨ad, x, rfl, had, hx, hcell⟩ := hrd.int1 hlt
      have Hx := Lib.hid hx
      clear hx
      by_cases hs : okSym x = true
      · have Hs := Lib.hid hs
        clear hs
        go_wp2_with fail
        refine (symbol_any x _).mono ?_
        rintro e w4 ⟨rfl, rfl⟩
        rw [Hs.out]
        go_wp2_with fail
        go_round
        case rel => exact ⟨k + 1, by go_num, by omega, all_take_int l okSym k x Hx.out hall.out Hs.out⟩
        case measure => simp [intOf]; omega
      · have Hs := Lib.hid (Bool.eq_false_iff.2 hs)
        clear hs
        go_wp2_with fail
        refine (symbol_any x _).mono ?_
        rintro e w4 ⟨rfl, rfl⟩
        rw [Hs.out]
        go_wp2_with fail
        go_ret2
        have hno := all_false_int l okSym k x Hx.out Hs.out
        have he : unpackE l limit = 70 := by unfold unpackE; rw [if_pos hno]
        refine ⟨_, by rw [he]; rfl, ?_, Below.refl _ _⟩
        unfold unpack
        rw [if_neg (by rw [he]; decide)]
        exact World.ownsRow_nil _ _ _ _
    · have hall' : l.all okSym = true := by
        have := hall.out; rwa [List.take_of_length_le (by have := Hln.out; omega)] at this
      have Hall := Lib.hid hall'
      have he0 : unpackE l limit = if count l > min limit 100000 then 3 else 0 := by unfold unpackE; rw [if_neg (by rw [hall']; decide)]
      have hcnt : count l = ((min (cnt [] l) 100001 : Nat) : Int) := rfl
      have hlen := length_unp l [] hall'
      clear hall'
      obtain ⟨M, hM, hMm⟩ : ∃ M : Int, (if (100000 : Int) < limit then 100000 else limit) = M ∧ min limit 100000 = M := ⟨_, rfl, by split <;> omega⟩
      rw [hMm] at he0
      have He0 := Lib.hid he0
      have HMm := Lib.hid hMm
      clear hMm he0
      rcases hcd : decide (count l > M) with _ | _
      · have hle : ¬ (count l > M) := by simpa using hcd
        clear hcd
        have hu : unpackE l limit = 0 := by rw [He0.out, if_neg hle]
        have hun : unpack l limit = unp [] l := by unfold unpack; rw [if_pos hu]
        rw [hcnt] at hle
        have hK : cnt [] l ≤ 100000 := by have := HMm.out; omega
        have hqM : ((cnt [] l : Nat) : Int) ≤ M := by omega
        have hmin : ((min (cnt [] l) 100001 : Nat) : Int) = (cnt [] l : Nat) := by omega
        have Hmin := Lib.hid hmin
        have Hu := Lib.hid hu; have Hun := Lib.hid hun; have Hlen := Lib.hid hlen; have Hcnt := Lib.hid hcnt
        clear hu hun hlen hcnt hmin hle
        go_wp2_with fail
        refine (count_any A n c l _ w.heap.size (Nat.le_refl _) hc hcm hrd).mono ?_
        rintro e w5 ⟨rfl, m, rfl⟩
        rw [Hcnt.out, Hmin.out]
        clear Hcnt Hmin
        generalize hq : cnt [] l = q at *
        clear hq
        go_wp2_with (at_make; (refine make0 (n := q) (by omega) (Nat.le_refl w.heap.size) ?_); intro w1 hown1 hg1 hz1)
        have hb1 : Below w.heap.size w w1 := (below_drewN (Below.refl _ _) m).grown hg1 (Nat.le_refl _) (by simp)
        clear hg1 hz1
        go_loopw [0, 9] (fun s o wr => ∃ (A' : Option Addr) (n' c' : Nat) (l' : List Int) (acc : List Int), s = .slice A' n' c' ∧ n' ≤ c' ∧ c' ≤ maxLen ∧ Rd wr w.heap.size 1 A' n' (l'.map (Value.int .i64)) ∧
          Own wr w.heap.size o acc ∧ Below w.heap.size w wr ∧ Hid (acc ++ unp [] l' = unp [] l) ∧ Hid (l'.all okSym = true)) (fun s _ _ => lenV s)
        case atStart => exact ⟨A, n, c, l, [], rfl, hc, hcm, hrd.below hb1, hown1, hb1, rfl, Hall⟩
        case round =>
          obtain ⟨A', n', c', l', acc, rfl, hc', hcm', hrd', gown, gb, htot, hsy⟩ := hrel
          have hln' : l'.length = n' := by simpa using hrd'.len
          have Hln' := Lib.hid hln'
          clear hln'
          have hB := gb.size
          have hal : acc.length ≤ q := by
            have := congrArg List.length htot.out
            rw [List.length_append, Hlen.out] at this
            omega
          by_cases hlt' : 0 < n'
          · have hrl := rl_le l'
            rw [Hln'.out] at hrl
            go_wp2_with fail
            refine (run_any A' n' c' l' _ w.heap.size hc' hcm' hrd').mono ?_
            rintro e w2 ⟨A1, A2, m2, rfl, rfl, r1, r2⟩
            have hur := unp_run l'
            have hdl : (l'.dropWhile isDig).length = n' - rl l' := by simpa using r2.len
            have htw : (l'.takeWhile isDig).all isDig = true := List.all_takeWhile ..
            generalize l'.takeWhile isDig = d at *
            have hvd : acc.length + val d ≤ q := by
              have := congrArg List.length htot.out
              rw [List.length_append, Hlen.out, hur, List.length_append, List.length_replicate] at this
              omega
            have hmv : ((min (val d) 100001 : Nat) : Int) = (val d : Nat) := by omega
            have Hur := Lib.hid hur; have Htw := Lib.hid htw; have Hmv := Lib.hid hmv
            clear hur htw hmv
            have gdn : Own (wr.drewN m2) w.heap.size _ acc := gown
            have gbn : Below w.heap.size w (wr.drewN m2) := below_drewN gb m2
            have hszn : (wr.drewN m2).heap.size = wr.heap.size := rfl
            rcases hrest : l'.dropWhile isDig with _ | ⟨x, rest⟩
            · rw [hrest] at hdl Hur r2
              have hn0 : n' - rl l' = 0 := by simpa using hdl.symm
              have Hdl := Lib.hid hdl; have Hn0 := Lib.hid hn0
              clear hrest hdl hn0 hszn
              go_wp2_with fail
              refine (value_any A1 _ _ d _ w.heap.size (by unfold maxLen at hcm' ⊢; omega) Htw.out r1).mono ?_
              rintro e w3 ⟨rfl, rfl⟩
              rw [Hmv.out]
              have hn0 := Hn0.out
              go_wp2_with (at_builtin; (refine appendZ (val d) rfl gdn (by omega) gbn.size ?_); intro A3 n3 c3 w3 hn3 hown3 hb3 hg3 _)
              refine ⟨⟨A2, 0, c' - rl l', [], acc ++ List.replicate (val d) 0, rfl, by omega, by omega, Rd.nil, hown3, gbn.trans hb3, ?_, rfl⟩, by simp [lenV]; omega⟩
              have h1 := htot.out
              rw [Hur.out] at h1
              show (acc ++ List.replicate (val d) 0) ++ unp [] [] = _
              rw [← h1]
              simp [unp, unpTail, val]
            · rw [hrest] at hdl Hur r2
              have hn0 : rl l' < n' := by
                have : 0 < n' - rl l' := by rw [← hdl]; simp
                omega
              have hre : rest.length = n' - rl l' - 1 := by rw [← hdl]; simp
              have hxr : okSym x = true ∧ rest.all okSym = true := by
                have h2 : (x :: rest).all okSym = true := by
                  rw [← hrest, List.all_eq_true]
                  exact fun y hy => List.all_eq_true.1 hsy.out y ((List.dropWhile_sublist isDig).mem hy)
                simpa using h2
              have hxb : 0 ≤ x ∧ x ≤ 256 := by simpa [okSym] using hxr.1
              have Hsr := Lib.hid hxr.2
              clear hxr
              obtain ⟨ad2, x', rfl, had2, hx', hcell⟩ := r2.int1 (k := 0) (by omega)
              simp at hx'
              subst hx'
              have hcell0 := hcell
              rw [show ad2.add 0 = ad2 by simp [Addr.add]] at hcell0
              have Hdl := Lib.hid hdl; have Hre := Lib.hid hre
              clear hrest hdl hre hszn
              go_wp2_with fail
              refine (value_any A1 _ _ d _ w.heap.size (by unfold maxLen at hcm' ⊢; omega) Htw.out r1).mono ?_
              rintro e w3 ⟨rfl, rfl⟩
              rw [Hmv.out]
              have htl : acc.length + val d + 1 ≤ q := by
                have := congrArg List.length htot.out
                rw [List.length_append, Hlen.out, Hur.out, List.length_append, List.length_replicate, unpTail, List.length_cons] at this
                omega
              have r3 := r2.drop (k := 1) (cap := c' - rl l') (by omega) (by omega)
              go_wp2_with (first
                | (at_builtin; (refine appendZ (val d) rfl gdn (by omega) gbn.size ?_); intro A3 n3 c3 w3 hn3 hown3 hb3 hg3 _; have hc3 := (hb3.cell (p := ad2) had2).trans hcell0)
                | (at_builtin; (refine append1 hown3 (by simp; omega) (Nat.le_trans gbn.size hb3.size) ?_); intro A4 n4 c4 w4 hn4 hown4 hb4 hg4 _))
              refine ⟨⟨_, n' - rl l' - 1, c' - rl l' - 1, rest, _, rfl, by omega, by omega, ?_, hown4, (gbn.trans hb3).trans hb4, ?_, Hsr⟩, by simp [lenV]; omega⟩
              · have r4 := (r3.below hb3).below hb4
                simpa [Addr.add] using r4
              · have h1 := htot.out
                rw [Hur.out] at h1
                show ((acc ++ List.replicate (val d) 0) ++ [x - 1]) ++ unp [] rest = _
                rw [← h1]
                simp [unpTail]
          · have hl' : l' = [] := List.eq_nil_of_length_eq_zero (by rw [Hln'.out]; omega)
            have h1 := htot.out
            rw [hl'] at h1
            have H1 := Lib.hid h1
            clear h1 hl'
            go_wp2_with fail
            go_ret2
            rw [Hu.out, Hun.out, ← H1.out]
            refine ⟨_, rfl, ?_, gb⟩
            simpa [unp, val] using gown
      · have hle : count l > M := by simpa using hcd
        clear hcd
        have hu : unpackE l limit = 3 := by rw [He0.out, if_pos hle]
        have hun : unpack l limit = [] := by unfold unpack; rw [if_neg (by rw [hu]; decide)]
        have Hu := Lib.hid hu; have Hun := Lib.hid hun
        clear hu hun hcnt hlen
        go_wp2_with fail
        refine (count_any A n c l _ w.heap.size (Nat.le_refl _) hc hcm hrd).mono ?_
        rintro e w5 ⟨rfl, m, rfl⟩
        go_wp2_with fail
        go_ret2
        rw [Hu.out, Hun.out]
        exact ⟨_, rfl, World.ownsRow_nil _ _ _ _, below_drewN (Below.refl _ _) m⟩
end Zr
end Go.Proofs.Ytjapdfehkoijjaa
