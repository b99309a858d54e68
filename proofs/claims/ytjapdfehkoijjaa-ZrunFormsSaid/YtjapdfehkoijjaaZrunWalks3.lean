/- zrun.Pack, zrun.run, zrun.value. -/
import Derived.Test.YtjapdfehkoijjaaZrunWalks2
import Derived.Deep.LoopGhost
namespace Go.Proofs.Ytjapdfehkoijjaa
namespace Zr
open Go.RowKit

def packE (l : List Int) : Int := if l.all okRank = true then 0 else 60
def packL (l : List Int) : List Int := if l.all okRank = true then pk 0 l else []

theorem all_take_int (l : List Int) (p : Int → Bool) (k : Nat) (x : Int) (h : l[k]? = some x) (ha : (l.take k).all p = true) (hp : p x = true) : (l.take (k + 1)).all p = true := by
  rw [take_snoc_int l k x h]; simp only [List.all_append, ha, List.all_cons, hp, List.all_nil]; rfl
theorem all_false_int (l : List Int) (p : Int → Bool) (k : Nat) (x : Int) (h : l[k]? = some x) (hp : p x = false) : l.all p = false := by
  rw [List.all_eq_false]; exact ⟨x, List.mem_of_getElem? h, by simp [hp]⟩
theorem drop_at (l : List Int) (k : Nat) (x : Int) (h : l[k]? = some x) : l.drop k = x :: l.drop (k + 1) := by
  have hk : k < l.length := (List.getElem?_eq_some_iff.1 h).1
  rw [List.drop_eq_getElem_cons hk]
  rw [List.getElem?_eq_getElem hk] at h
  congr 1
  exact Option.some.inj h

/-- What Pack's loop keeps. -/
structure PackRel (w : World) (O n : Nat) (l : List Int) (i : Value) (wr : World) (k r : Nat) (u : Value) (acc : List Int) : Prop where
  hi : i = .int .i64 k
  hk : k ≤ n
  hr : r ≤ k
  vO : Var wr O 37 u
  vR : Var wr (O + 1) 3 (.int .i64 r)
  uO : u.ownBlock ≠ some O
  uR : u.ownBlock ≠ some (O + 1)
  own : Own wr w.heap.size u acc
  below : Below w.heap.size w wr
  hacc : acc ++ pk r (l.drop k) = pk 0 l
  hall : (l.take k).all okRank = true

set_option maxHeartbeats 1600000 in
theorem pack_any (A : Option Addr) (n c : Nat) (l : List Int) (w : World) (hn : n ≤ 5000000) (hrd : Rd w w.heap.size 1 A n (l.map (Value.int .i64))) :
    Calls Try.prog 22 #[.slice A n c] w fun e w' => ∃ v, e = .returned (.tuple #[v, .int .i64 (packE l)]) ∧ Own w' w.heap.size v (packL l) ∧ Below w.heap.size w w' := by
  have hln : l.length = n := by simpa using hrd.len
  have hpl := length_pk l 0
  have Hln := Lib.hid hln
  rw [hln] at hpl
  clear hln
  go_enter Try.func22, Try.ntmps22
  go_wp2_with fail
  go_step3
  go_wp2_with (at_make; (refine make0 (n := n) (by omega) (Nat.le_refl w.heap.size) ?_); intro w1 hown1 hg1 hz1)
  go_step3
  go_wp2_with fail
  have hb1 : Below w.heap.size w w1 := (Below.refl _ _).grown hg1 (Nat.le_refl _) (by simp)
  have hO0 := (Var.new w1 37 (.slice (some ⟨w.heap.size, 0, none⟩) 0 n)).alloc (.cells #[.int .i64 0] 3)
  have hR0 := Var.new (w1.alloc (.cells #[.slice (some ⟨w.heap.size, 0, none⟩) 0 n] 37)) 3 (.int .i64 0)
  rw [World.size_alloc] at hR0
  have hw2 : Own ((w1.alloc (.cells #[.slice (some ⟨w.heap.size, 0, none⟩) 0 n] 37)).alloc (.cells #[.int .i64 0] 3)) w.heap.size (.slice (some ⟨w.heap.size, 0, none⟩) 0 n) [] := (World.ownsRow.alloc hown1 _).alloc _
  have hb2 : Below w.heap.size w ((w1.alloc (.cells #[.slice (some ⟨w.heap.size, 0, none⟩) 0 n] 37)).alloc (.cells #[.int .i64 0] 3)) := (hb1.alloc (by omega) _).alloc (by simp; omega) _
  have hO' : w.heap.size < w1.heap.size := hz1
  generalize hOO : w1.heap.size = O at *
  go_loopw [15] (fun i wr => ∃ (k r : Nat) (u : Value) (acc : List Int), PackRel w O n l i wr k r u acc) (fun i _ => n - (intOf i).toNat)
  case atStart => exact ⟨0, 0, _, [], ⟨rfl, by omega, by omega, hO0, hR0, by simp [Value.ownBlock]; omega, by simp [Value.ownBlock]; omega, hw2, hb2, by simp, by simp⟩⟩
  case round =>
    obtain ⟨k, r, u, acc, rfl, hk, hr, gO, gR, guO, guR, gown, gb, gacc, gall⟩ := hrel
    have hll := congrArg List.length gacc
    rw [List.length_append] at hll
    have Hacc := Lib.hid gacc; have Hall := Lib.hid gall
    clear gacc gall hOO
    have hal : acc.length ≤ n := by omega
    clear hll
    have hR1 := gR.cell
    have hR3 := gR.frozen
    have grd := (hrd.below gb)
    by_cases hlt : k < n
    · obtain ⟨ad, x, rfl, had, hx, hcell⟩ := grd.int1 hlt
      have Hx := Lib.hid hx
      clear hx
      by_cases hx0 : x < 0
      · go_wp2_with fail
        try rw [Exit.noGoto_ret]
        go_ret2
        have hno : l.all okRank = false := all_false_int l okRank k x Hx.out (by simp [okRank]; omega)
        unfold packE packL
        rw [if_neg (by rw [hno]; simp), if_neg (by rw [hno]; simp)]
        exact ⟨_, rfl, World.ownsRow_nil _ _ _ _, gb⟩
      by_cases hx1 : 255 < x
      · go_wp2_with fail
        try rw [Exit.noGoto_ret]
        go_ret2
        have hno : l.all okRank = false := all_false_int l okRank k x Hx.out (by simp [okRank]; omega)
        unfold packE packL
        rw [if_neg (by rw [hno]; simp), if_neg (by rw [hno]; simp)]
        exact ⟨_, rfl, World.ownsRow_nil _ _ _ _, gb⟩
      have hok : okRank x = true := by simp [okRank]; omega
      have Hall' := Lib.hid (all_take_int l okRank k x Hx.out Hall.out hok)
      clear hok
      by_cases hx2 : x = 0
      · have hac : acc ++ pk (r + 1) (l.drop (k + 1)) = pk 0 l := by
          rw [← Hacc.out, drop_at l k x Hx.out, pk, if_pos hx2]
        have Hac := Lib.hid hac
        clear hac
        subst hx2
        go_wp2_with fail
        go_roundw
        case rel => exact ⟨k + 1, r + 1, u, acc, ⟨by go_num, by omega, by omega, gO.far (by simp) _, gR.set_ _, guO, guR, own_setCell_far gown guR _, gb.setCell (by show _ ≤ O + 1; omega) _, Hac.out, Hall'.out⟩⟩
        case measure => simp [intOf]; omega
      · have hxb : (x == 0) = false := by rw [beq_eq_false_iff_ne]; exact hx2
        have hac : (acc ++ low r ++ [x + 1]) ++ pk 0 (l.drop (k + 1)) = pk 0 l := by
          rw [← Hacc.out, drop_at l k x Hx.out]
          conv => rhs; rw [pk, if_neg hx2]
          simp
        have Hac := Lib.hid hac
        have hlow := length_low r
        clear hac
        go_wp2_with fail
        refine (flush_any (O + 1) O r w.heap.size u acc wr gb.size (by omega) (by omega) gR gO (by omega) guR guO (by omega) (by omega) gown).mono ?_
        rintro e w2 ⟨rfl, hb2, u2, qR, qO, quR, quO, qown⟩
        have qO1 := qO.cell
        have qO3 := qO.frozen
        clear hR1 hR3
        go_wp2_with (at_builtin; (refine append1 qown (by simp; omega) (Nat.le_trans gb.size hb2.size) ?_); intro A1 n1 c1 w3 hn1 hown1 hb3 hg3 hat; have gO2 := qO.grown hg3 quO; have hO1' := gO2.cell; have hO3' := gO2.frozen)
        have rO := qO.lt
        have rR := qR.lt
        have gvO : Value.ownBlock (.slice A1 n1 c1) ≠ some O := by
          rcases hat with e | ⟨g, e, hg⟩
          · rw [e]; exact quO
          · rw [e]; intro h; simp at h; omega
        have gvR : Value.ownBlock (.slice A1 n1 c1) ≠ some (O + 1) := by
          rcases hat with e | ⟨g, e, hg⟩
          · rw [e]; exact quR
          · rw [e]; intro h; simp at h; omega
        go_roundw
        case rel => exact ⟨k + 1, 0, _, _, ⟨by go_num, by omega, by omega, gO2.set_ _, (qR.grown hg3 quR).far (by simp) _, gvO, gvR, own_setCell_far (a := ⟨O, 0, none⟩) hown1 gvO _, ((gb.trans hb2).trans hb3).setCell (by show _ ≤ O; omega) _, Hac.out, Hall'.out⟩⟩
        case measure => simp [intOf]; omega
    · have hac : acc ++ low r = pk 0 l := by
        rw [← Hacc.out, List.drop_of_length_le (by have := Hln.out; omega)]; rfl
      have hlow := length_low r
      have Hac := Lib.hid hac
      clear hac
      go_wp2_with fail
      refine (flush_any (O + 1) O r w.heap.size u acc wr gb.size (by omega) (by omega) gR gO (by omega) guR guO (by omega) (by omega) gown).mono ?_
      rintro e w2 ⟨rfl, hb2, u2, qR, qO, quR, quO, qown⟩
      have qO1 := qO.cell
      clear hR1 hR3
      go_wp2_with fail
      try rw [Exit.noGoto_ret]
      go_ret2
      have hall : l.all okRank = true := by
        have := Hall.out; rwa [List.take_of_length_le (by have := Hln.out; omega)] at this
      unfold packE packL
      rw [if_pos hall, if_pos hall, ← Hac.out]
      exact ⟨_, rfl, qown, gb.trans hb2⟩
end Zr
end Go.Proofs.Ytjapdfehkoijjaa
