/- zrun.Pack, zrun.run, zrun.value. zrun.run, zrun.value, zrun.symbol, zrun.Count, zrun.Unpack. zrun.Unpack. -/
import Derived.Test.YtpbphhpldlckbaaGreatSc23
import Derived.Deep.LoopGhost
namespace Go.Proofs.YtpbphhpldlckbaaGreat
namespace Zr
open Go.RowKit

def packE (l : List Int) : Int := if l.all okRank = true then 0 else 60
def packL (l : List Int) : List Int := if l.all okRank = true then pk 0 l else []

theorem all_take_int (l : List Int) (p : Int → Bool) (k : Nat) (x : Int) (h : l[k]? = some x) (ha : (l.take k).all p = true) (hp : p x = true) : (l.take (k + 1)).all p = true := by
  rw [take_snoc_int l k x h]; simp only [List.all_append, ha, List.all_cons, hp, List.all_nil]; rfl
theorem all_false_int (l : List Int) (p : Int → Bool) (k : Nat) (x : Int) (h : l[k]? = some x) (hp : p x = false) : l.all p = false := by
  rw [List.all_eq_false]; exact ⟨x, List.mem_of_getElem? h, by simp [hp]⟩
/-- What Pack's loop keeps. -/
structure PackRel (w : World) (O n : Nat) (l : List Int) (i : Value) (wr : World) (k r : Nat) (u : Value) (acc : List Int) : Prop where
  hi : i = .int .i64 k
  hk : k ≤ n
  hr : r ≤ k
  vO : Var wr O 67 u
  vR : Var wr (O + 1) 3 (.int .i64 r)
  uO : u.ownBlock ≠ some O
  uR : u.ownBlock ≠ some (O + 1)
  own : Own wr w.heap.size u acc
  below : Below w.heap.size w wr
  hacc : acc ++ pk r (l.drop k) = pk 0 l
  hall : (l.take k).all okRank = true

set_option maxHeartbeats 1600000 in
theorem pack_any (A : Option Addr) (n c : Nat) (l : List Int) (w : World) (hn : n ≤ 5000000) (hrd : Rd w w.heap.size 1 A n (l.map (Value.int .i64))) :
    Calls Tryz.prog 70 #[.slice A n c] w fun e w' => ∃ v, e = .returned (.tuple #[v, .int .i64 (packE l)]) ∧ Own w' w.heap.size v (packL l) ∧ Below w.heap.size w w' := by
  have hln : l.length = n := by simpa using hrd.len
  have hpl := length_pk l 0
  have Hln := Lib.hid hln
  rw [hln] at hpl
  clear hln
  go_enter Tryz.func70, Tryz.ntmps70
  go_wp2_with fail
  go_step3
  go_wp2_with (at_make; (refine make0 (n := n) (by omega) (Nat.le_refl w.heap.size) ?_); intro w1 hown1 hg1 hz1)
  go_step3
  go_wp2_with fail
  have hb1 : Below w.heap.size w w1 := (Below.refl _ _).grown hg1 (Nat.le_refl _) (by simp)
  have hO0 := (Var.new w1 67 (.slice (some ⟨w.heap.size, 0, none⟩) 0 n)).alloc (.cells #[.int .i64 0] 3)
  have hR0 := Var.new (w1.alloc (.cells #[.slice (some ⟨w.heap.size, 0, none⟩) 0 n] 67)) 3 (.int .i64 0)
  rw [World.size_alloc] at hR0
  have hw2 : Own ((w1.alloc (.cells #[.slice (some ⟨w.heap.size, 0, none⟩) 0 n] 67)).alloc (.cells #[.int .i64 0] 3)) w.heap.size (.slice (some ⟨w.heap.size, 0, none⟩) 0 n) [] := (World.ownsRow.alloc hown1 _).alloc _
  have hb2 : Below w.heap.size w ((w1.alloc (.cells #[.slice (some ⟨w.heap.size, 0, none⟩) 0 n] 67)).alloc (.cells #[.int .i64 0] 3)) := (hb1.alloc (by omega) _).alloc (by simp; omega) _
  have hO' : w.heap.size < w1.heap.size := hz1
  generalize hOO : w1.heap.size = O at *
  go_loopw [15] (fun i wr => ∃ (k r : Nat) (u : Value) (acc : List Int), PackRel w O n l i wr k r u acc) (fun i _ => n - (intOf i).toNat)
  case atStart => exact ⟨0, 0, _, [], ⟨rfl, by omega, by omega, hO0, hR0, by simp [Value.ownBlock]; omega, by simp [Value.ownBlock]; omega, hw2, hb2, by simp, by simp⟩⟩
  case round =>
    obtain ⟨k, r, u, acc, rfl, hk, hr, gO, gR, guO, guR, gown, gb, gacc, gall⟩ := hrel
    have hll := congrArg List.length gacc
    rw [List.length_append] at hll
    have Hacc := Lib.hid gacc; have Hall := Lib.hid gall
    clear gacc gall hOO
    have hal : acc.length ≤ n := by omega
    clear hll
    have hR1 := gR.cell
    have hR3 := gR.frozen
    have grd := (hrd.below gb)
    by_cases hlt : k < n
    · obtain ⟨ad, x, rfl, had, hx, hcell⟩ := grd.int1 hlt
      have Hx := Lib.hid hx
      clear hx
      by_cases hx0 : x < 0
      · go_wp2_with fail
        try rw [Exit.noGoto_ret]
        go_ret2
        have hno : l.all okRank = false := all_false_int l okRank k x Hx.out (by simp [okRank]; omega)
        unfold packE packL
        rw [if_neg (by rw [hno]; simp), if_neg (by rw [hno]; simp)]
        exact ⟨_, rfl, World.ownsRow_nil _ _ _ _, gb⟩
      by_cases hx1 : 255 < x
      · go_wp2_with fail
        try rw [Exit.noGoto_ret]
        go_ret2
        have hno : l.all okRank = false := all_false_int l okRank k x Hx.out (by simp [okRank]; omega)
        unfold packE packL
        rw [if_neg (by rw [hno]; simp), if_neg (by rw [hno]; simp)]
        exact ⟨_, rfl, World.ownsRow_nil _ _ _ _, gb⟩
      have hok : okRank x = true := by simp [okRank]; omega
      have Hall' := Lib.hid (all_take_int l okRank k x Hx.out Hall.out hok)
      clear hok
      by_cases hx2 : x = 0
      · have hac : acc ++ pk (r + 1) (l.drop (k + 1)) = pk 0 l := by
          rw [← Hacc.out, drop_at l k x Hx.out, pk, if_pos hx2]
        have Hac := Lib.hid hac
        clear hac
        subst hx2
        go_wp2_with fail
        go_roundw
        case rel => exact ⟨k + 1, r + 1, u, acc, ⟨by go_num, by omega, by omega, gO.far (by simp) _, gR.set_ _, guO, guR, own_setCell_far gown guR _, gb.setCell (by show _ ≤ O + 1; omega) _, Hac.out, Hall'.out⟩⟩
        case measure => simp [intOf]; omega
      · have hxb : (x == 0) = false := by rw [beq_eq_false_iff_ne]; exact hx2
        have hac : (acc ++ low r ++ [x + 1]) ++ pk 0 (l.drop (k + 1)) = pk 0 l := by
          rw [← Hacc.out, drop_at l k x Hx.out]
          conv => rhs; rw [pk, if_neg hx2]
          simp
        have Hac := Lib.hid hac
        have hlow := length_low r
        clear hac
        go_wp2_with fail
        refine (flush_any (O + 1) O r w.heap.size u acc wr gb.size (by omega) (by omega) gR gO (by omega) guR guO (by omega) (by omega) gown).mono ?_
        rintro e w2 ⟨rfl, hb2, u2, qR, qO, quR, quO, qown⟩
        have qO1 := qO.cell
        have qO3 := qO.frozen
        clear hR1 hR3
        go_wp2_with (at_builtin; (refine append1 qown (by simp; omega) (Nat.le_trans gb.size hb2.size) ?_); intro A1 n1 c1 w3 hn1 hown1 hb3 hg3 hat; have gO2 := qO.grown hg3 quO; have hO1' := gO2.cell; have hO3' := gO2.frozen)
        have rO := qO.lt
        have rR := qR.lt
        have gvO : Value.ownBlock (.slice A1 n1 c1) ≠ some O := by
          rcases hat with e | ⟨g, e, hg⟩
          · rw [e]; exact quO
          · rw [e]; intro h; simp at h; omega
        have gvR : Value.ownBlock (.slice A1 n1 c1) ≠ some (O + 1) := by
          rcases hat with e | ⟨g, e, hg⟩
          · rw [e]; exact quR
          · rw [e]; intro h; simp at h; omega
        go_roundw
        case rel => exact ⟨k + 1, 0, _, _, ⟨by go_num, by omega, by omega, gO2.set_ _, (qR.grown hg3 quR).far (by simp) _, gvO, gvR, own_setCell_far (a := ⟨O, 0, none⟩) hown1 gvO _, ((gb.trans hb2).trans hb3).setCell (by show _ ≤ O; omega) _, Hac.out, Hall'.out⟩⟩
        case measure => simp [intOf]; omega
    · have hac : acc ++ low r = pk 0 l := by
        rw [← Hacc.out, List.drop_of_length_le (by have := Hln.out; omega)]; rfl
      have hlow := length_low r
      have Hac := Lib.hid hac
      clear hac
      go_wp2_with fail
      refine (flush_any (O + 1) O r w.heap.size u acc wr gb.size (by omega) (by omega) gR gO (by omega) guR guO (by omega) (by omega) gown).mono ?_
      rintro e w2 ⟨rfl, hb2, u2, qR, qO, quR, quO, qown⟩
      have qO1 := qO.cell
      clear hR1 hR3
      go_wp2_with fail
      try rw [Exit.noGoto_ret]
      go_ret2
      have hall : l.all okRank = true := by
        have := Hall.out; rwa [List.take_of_length_le (by have := Hln.out; omega)] at this
      unfold packE packL
      rw [if_pos hall, if_pos hall, ← Hac.out]
      exact ⟨_, rfl, qown, gb.trans hb2⟩
end Zr
end Go.Proofs.YtpbphhpldlckbaaGreat
namespace Go.Proofs.YtpbphhpldlckbaaGreat
namespace Zr
open Go.RowKit

/-- With how many digits symbols begin. -/
def rl (l : List Int) : Nat := (l.takeWhile isDig).length
theorem rl_le (l : List Int) : rl l ≤ l.length := by
  have h := congrArg List.length (List.takeWhile_append_dropWhile (p := isDig) (l := l))
  rw [List.length_append] at h
  unfold rl; omega
theorem rl_take (l : List Int) : l.take (rl l) = l.takeWhile isDig := by
  have h := List.takeWhile_append_dropWhile (p := isDig) (l := l)
  unfold rl
  conv => lhs; arg 2; rw [← h]
  rw [List.take_left' rfl]
theorem rl_drop (l : List Int) : l.drop (rl l) = l.dropWhile isDig := by
  have h := List.takeWhile_append_dropWhile (p := isDig) (l := l)
  unfold rl
  conv => lhs; arg 2; rw [← h]
  rw [List.drop_left' rfl]
theorem rl_stop : ∀ (l : List Int) (k : Nat), (l.take k).all isDig = true → (∀ x, l[k]? = some x → isDig x = false) → k ≤ l.length → rl l = k
  | [], k, _, _, hk => by simp at hk; subst hk; rfl
  | x :: l, 0, _, h, _ => by
    have := h x rfl
    simp [rl, this]
  | x :: l, k + 1, ha, h, hk => by
    simp only [List.take_succ_cons, List.all_cons, Bool.and_eq_true] at ha
    have ih := rl_stop l k ha.2 (fun y hy => h y (by simpa using hy)) (by simpa using hk)
    unfold rl at ih ⊢
    rw [List.takeWhile_cons_of_pos ha.1, List.length_cons, ih]

/-- What run tells: the digits ahead, and the others. -/
def RunPost (w : World) (B n c : Nat) (l : List Int) (e : Ending) (w' : World) : Prop :=
  ∃ A1 A2 m, e = .returned (.tuple #[.slice A1 (rl l) (rl l), .slice A2 (n - rl l) (c - rl l)]) ∧ w' = w.drewN m ∧
      Rd w' B 1 A1 (rl l) ((l.takeWhile isDig).map (Value.int .i64)) ∧ Rd w' B 1 A2 (n - rl l) ((l.dropWhile isDig).map (Value.int .i64))

set_option maxHeartbeats 1600000 in
theorem run_any (A : Option Addr) (n c : Nat) (l : List Int) (w : World) (B : Nat) (hc : n ≤ c) (hcm : c ≤ maxLen) (hrd : Rd w B 1 A n (l.map (Value.int .i64))) :
    Calls Tryz.prog 134 #[.slice A n c] w (RunPost w B n c l) := by
  have hln : l.length = n := by simpa using hrd.len
  have Hln := Lib.hid hln
  clear hln
  unfold maxLen at hcm
  go_enter Tryz.func134, Tryz.ntmps134
  go_wp2_with fail
  go_loop [4] (fun i => ∃ k : Nat, i = .int .i64 k ∧ k ≤ n ∧ Hid ((l.take k).all isDig = true)) (fun i => n - (intOf i).toNat)
  case atStart => exact ⟨0, rfl, by omega, rfl⟩
  case round =>
    obtain ⟨k, rfl, hk, hall⟩ := hrel
    by_cases hlt : k < n
    · obtain ⟨ad, x, rfl, had, hx, hcell⟩ := hrd.int1 hlt
      have Hx := Lib.hid hx
      clear hx
      by_cases h0 : x = 0
      · subst h0
        go_wp2_with fail
        go_round
        case rel => exact ⟨k + 1, by go_num, by omega, all_take_int l isDig k 0 Hx.out hall.out rfl⟩
        case measure => simp [intOf]; omega
      by_cases h1 : x = 1
      · subst h1
        go_wp2_with fail
        go_round
        case rel => exact ⟨k + 1, by go_num, by omega, all_take_int l isDig k 1 Hx.out hall.out rfl⟩
        case measure => simp [intOf]; omega
      have b0 : (x == 0) = false := by rw [beq_eq_false_iff_ne]; exact h0
      have b1 : (x == 1) = false := by rw [beq_eq_false_iff_ne]; exact h1
      go_wp2_with fail
      go_quiet (fail)
      go_wp2_with fail
      go_ret2
      have hrl : rl l = k := rl_stop l k hall.out (fun y hy => by rw [Hx.out] at hy; cases hy; simp [isDig, b0, b1]) (by have := Hln.out; omega)
      have ht := rl_take l; have hd := rl_drop l
      unfold RunPost
      rw [hrl] at ht hd ⊢
      refine ⟨_, _, nq, rfl, rfl, ?_, ?_⟩
      · rw [← ht]
        have := (hrd.drewN nq).take (k := k) (by omega)
        simpa [List.map_take] using this
      · rw [← hd]
        have := (hrd.drewN nq).drop (k := k) (by omega) hc
        rw [if_neg (by omega)] at this
        simpa [List.map_drop] using this
    · have hkn : k = n := by omega
      have hrl : rl l = n := rl_stop l n (by rw [← hkn]; exact hall.out) (fun y hy => by rw [List.getElem?_eq_none (by have := Hln.out; omega)] at hy; cases hy) (by have := Hln.out; omega)
      subst hkn
      have Hrl := Lib.hid hrl
      clear hrl
      go_wp2_with fail
      go_quiet (fail)
      go_wp2_with fail
      all_goals
        go_ret2
        have hrl := Hrl.out
        have ht := rl_take l; have hd := rl_drop l
        unfold RunPost
        rw [hrl] at ht hd ⊢
        simp only [Nat.sub_self]
      · refine ⟨_, _, nq, rfl, rfl, ?_, ?_⟩
        · rw [← ht]
          have := (hrd.drewN nq).take (k := k) (by omega)
          simpa [List.map_take] using this
        · rw [← hd, List.drop_of_length_le (by have := Hln.out; omega)]
          exact Rd.nil
      · refine ⟨_, _, nq, rfl, rfl, ?_, ?_⟩
        · rw [← ht]
          have := (hrd.drewN nq).take (k := k) (by omega)
          simpa [List.map_take] using this
        · rw [← hd, List.drop_of_length_le (by have := Hln.out; omega)]
          exact Rd.nil

theorem symbol_any (x : Int) (w : World) : Calls Tryz.prog 132 #[.int .i64 x] w fun e w' => e = .returned (.bool (okSym x)) ∧ w = w' := by
  go_enter Tryz.func132, Tryz.ntmps132
  go_wp2
  all_goals
    go_ret
    refine ⟨ret_bool ?_, rfl⟩
    unfold okSym
    rw [Bool.eq_iff_iff]
    simp
    try omega

set_option maxHeartbeats 800000 in
theorem value_any (A : Option Addr) (n c : Nat) (l : List Int) (w : World) (B : Nat) (hm : n ≤ maxLen) (hd : l.all isDig = true) (hrd : Rd w B 1 A n (l.map (Value.int .i64))) :
    Calls Tryz.prog 135 #[.slice A n c] w fun e w' => e = .returned (.int .i64 (min (val l) 100001 : Nat)) ∧ w = w' := by
  have hln : l.length = n := by simpa using hrd.len
  have Hln := Lib.hid hln
  have Hd := Lib.hid hd
  clear hln hd
  unfold maxLen at hm
  go_enter Tryz.func135, Tryz.ntmps135
  go_wp2_with fail
  go_loop [3, 4] (fun v i => ∃ k : Nat, i = .int .i64 ((k : Int) - 1) ∧ k ≤ n ∧ v = .int .i64 (min (val (l.drop k)) 100001 : Nat)) (fun _ i => (intOf i + 1).toNat)
  case atStart => exact ⟨n, rfl, by omega, by rw [List.drop_of_length_le (by have := Hln.out; omega)]; rfl⟩
  case round =>
    obtain ⟨k, rfl, hk, rfl⟩ := hrel
    rcases k with _ | k
    · go_wp2_with fail
      go_ret
      exact ⟨rfl, rfl⟩
    · obtain ⟨ad, x, rfl, had, hx, hcell⟩ := hrd.int1 (show k < n by omega)
      have hx01 : x = 0 ∨ x = 1 := by
        have := List.all_eq_true.1 Hd.out x (List.mem_of_getElem? hx)
        simpa [isDig] using this
      have Hx := Lib.hid (drop_at l k x hx)
      clear hx
      have Hv : Hid (val (l.drop k) = 2 * val (l.drop (k + 1)) + x.toNat + 1) := by rw [Hx.out]; rfl
      generalize val (l.drop (k + 1)) = t at *
      have ht : min t 100001 ≤ 100001 := by omega
      go_wp2_with fail
      refine ⟨⟨k, rfl, by omega, ?_⟩, by simp [intOf]⟩
      rw [Hv.out]
      congr 1
      split <;> omega

/-- How many ranks behind the digits ahead. -/
def cntTail : List Int → Nat
  | [] => 0
  | x :: r => (if okSym x = true then 1 else 0) + cnt [] r
theorem cnt_run (l : List Int) : cnt [] l = val (l.takeWhile isDig) + cntTail (l.dropWhile isDig) := by
  have h := cnt_digs (l.takeWhile isDig) [] (l.dropWhile isDig) (List.all_takeWhile ..)
  rw [List.takeWhile_append_dropWhile, List.nil_append] at h
  rw [h]
  rcases hd : l.dropWhile isDig with _ | ⟨x, r⟩
  · simp [cnt, cntTail]
  · have hx : isDig x = false := by
      have := List.head_dropWhile_not (p := isDig) (l := l) (by rw [hd]; simp)
      simpa [hd] using this
    simp [cnt, cntTail, hx]; omega
def unpTail : List Int → List Int
  | [] => []
  | x :: r => (x - 1) :: unp [] r
theorem unp_run (l : List Int) : unp [] l = List.replicate (val (l.takeWhile isDig)) 0 ++ unpTail (l.dropWhile isDig) := by
  have h := unp_digs (l.takeWhile isDig) [] (l.dropWhile isDig) (List.all_takeWhile ..)
  rw [List.takeWhile_append_dropWhile, List.nil_append] at h
  rw [h]
  rcases hd : l.dropWhile isDig with _ | ⟨x, r⟩
  · simp [unp, unpTail]
  · have hx : isDig x = false := by
      have := List.head_dropWhile_not (p := isDig) (l := l) (by rw [hd]; simp)
      simpa [hd] using this
    simp [unp, unpTail, hx]

theorem cap_add (a b : Nat) : (if (100001 : Int) < ((min a 100001 : Nat) : Int) + ((min b 100001 : Nat) : Int) then 100001 else ((min a 100001 : Nat) : Int) + ((min b 100001 : Nat) : Int)) = ((min (a + b) 100001 : Nat) : Int) := by
  split <;> omega
theorem cap_one (a : Nat) : (if (100001 : Int) < ((min a 100001 : Nat) : Int) + 1 then 100001 else ((min a 100001 : Nat) : Int) + 1) = ((min (a + 1) 100001 : Nat) : Int) := by
  split <;> omega

/-- A slice's length, for a loop's measure. -/
def lenV : Value → Nat | .slice _ n _ => n | _ => 0

set_option maxHeartbeats 1600000 in
theorem count_any (A : Option Addr) (n c : Nat) (l : List Int) (w : World) (B : Nat) (_hB : B ≤ w.heap.size) (hc : n ≤ c) (hcm : c ≤ maxLen) (hrd : Rd w B 1 A n (l.map (Value.int .i64))) :
    Calls Tryz.prog 133 #[.slice A n c] w fun e w' => e = .returned (.int .i64 (count l)) ∧ ∃ m, w' = w.drewN m := by
  unfold count
  go_enter Tryz.func133, Tryz.ntmps133
  go_wp2_with fail
  go_loopw [0, 3] (fun s v wr => ∃ (A' : Option Addr) (n' c' m : Nat) (l' : List Int) (t : Nat), s = .slice A' n' c' ∧ wr = w.drewN m ∧ n' ≤ c' ∧ c' ≤ maxLen ∧ Rd wr B 1 A' n' (l'.map (Value.int .i64)) ∧ v = .int .i64 (min t 100001 : Nat) ∧ Hid (t + cnt [] l' = cnt [] l)) (fun s _ _ => lenV s)
  case atStart => exact ⟨A, n, c, 0, l, 0, rfl, rfl, hc, hcm, hrd, rfl, Nat.zero_add _⟩
  case round =>
    obtain ⟨A', n', c', m, l', t, rfl, rfl, hc', hcm', hrd', rfl, htot⟩ := hrel
    have hln' : l'.length = n' := by simpa using hrd'.len
    have Hln := Lib.hid hln'
    clear hln'
    have ht : min t 100001 ≤ 100001 := by omega
    by_cases hlt : 0 < n'
    · have hrl := rl_le l'
      rw [Hln.out] at hrl
      go_wp2_with fail
      refine (run_any A' n' c' l' _ B hc' hcm' hrd').mono ?_
      rintro e w2 ⟨A1, A2, m2, rfl, rfl, r1, r2⟩
      rw [World.drewN_drewN] at r1 r2
      have Hcr := Lib.hid (cnt_run l')
      have hdl : (l'.dropWhile isDig).length = n' - rl l' := by simpa using r2.len
      have htw : (l'.takeWhile isDig).all isDig = true := List.all_takeWhile ..
      generalize l'.takeWhile isDig = d at *
      rcases hrest : l'.dropWhile isDig with _ | ⟨x, rest⟩
      · rw [hrest] at hdl Hcr r2
        have hn0 : n' - rl l' = 0 := by simpa using hdl.symm
        have Hdl := Lib.hid hdl; have Htw := Lib.hid htw
        clear hrest hdl htw
        go_wp2_with fail
        refine (value_any A1 _ _ d _ B (by omega) Htw.out r1).mono ?_
        rintro e w3 ⟨rfl, rfl⟩
        have hv : min (val d) 100001 ≤ 100001 := by omega
        rw [hn0] at r2
        go_wp2_with fail
        refine ⟨⟨A2, 0, c' - rl l', m + m2, [], t + val d, rfl, rfl, by omega, by omega, r2, ?_, ?_⟩, by simp [lenV]; omega⟩
        · refine congrArg (Value.int .i64) ?_
          split <;> omega
        · have h1 := htot.out
          rw [Hcr.out] at h1
          show t + val d + cnt [] [] = _
          simp [cntTail] at h1
          simp [cnt, val]; omega
      · rw [hrest] at hdl Hcr r2
        have hn0 : rl l' < n' := by have : 0 < n' - rl l' := by rw [← hdl]; simp
                                    omega
        have hre : rest.length = n' - rl l' - 1 := by rw [← hdl]; simp
        obtain ⟨ad2, x', rfl, had2, hx', hcell⟩ := r2.int1 (k := 0) (by omega)
        simp at hx'
        subst hx'
        have hcell0 := hcell
        rw [show ad2.add 0 = ad2 by simp [Addr.add]] at hcell0
        have Hdl := Lib.hid hdl; have Htw := Lib.hid htw; have Hre := Lib.hid hre
        clear hrest hdl htw hre
        go_wp2_with fail
        refine (value_any A1 _ _ d _ B (by omega) Htw.out r1).mono ?_
        rintro e w3 ⟨rfl, rfl⟩
        have hv : min (val d) 100001 ≤ 100001 := by omega
        have hmin := cap_add t (val d)
        have hv2 : min (t + val d) 100001 ≤ 100001 := by omega
        have r3 := r2.drop (k := 1) (cap := c' - rl l') (by omega) (by omega)
        by_cases hs : okSym x = true
        · have Hs := Lib.hid hs
          clear hs
          go_wp2_with fail
          refine (symbol_any x _).mono ?_
          rintro e w4 ⟨rfl, rfl⟩
          rw [Hs.out]
          go_wp2_with fail
          refine ⟨⟨_, n' - rl l' - 1, c' - rl l' - 1, m + m2, rest, t + val d + 1, rfl, rfl, by omega, by omega, ?_, ?_, ?_⟩, by simp [lenV]; omega⟩
          · simpa [Addr.add] using r3
          · exact congrArg (Value.int .i64) (cap_one (t + val d))
          · have h1 := htot.out
            rw [Hcr.out] at h1
            show t + val d + 1 + cnt [] rest = _
            simp [cntTail, Hs.out] at h1
            omega
        · have Hs := Lib.hid (Bool.eq_false_iff.2 hs)
          clear hs
          go_wp2_with fail
          refine (symbol_any x _).mono ?_
          rintro e w4 ⟨rfl, rfl⟩
          rw [Hs.out]
          go_wp2_with fail
          refine ⟨⟨_, n' - rl l' - 1, c' - rl l' - 1, m + m2, rest, t + val d, rfl, rfl, by omega, by omega, ?_, ?_, ?_⟩, by simp [lenV]; omega⟩
          · simpa [Addr.add] using r3
          · rfl
          · have h1 := htot.out
            rw [Hcr.out] at h1
            show t + val d + cnt [] rest = _
            simp [cntTail, Hs.out] at h1
            omega
    · have hn' : n' = 0 := by omega
      have hl' : l' = [] := List.eq_nil_of_length_eq_zero (by rw [Hln.out, hn'])
      have h1 := htot.out
      rw [hl'] at h1
      have H1 := Lib.hid h1
      clear h1 hn' hl'
      go_wp2_with fail
      go_ret
      refine ⟨ret_int ?_, m, rfl⟩
      rw [← H1.out]
      simp [cnt, val]
end Zr
end Go.Proofs.YtpbphhpldlckbaaGreat
namespace Go.Proofs.YtpbphhpldlckbaaGreat
namespace Zr
open Go.RowKit

set_option maxHeartbeats 1600000 in
/-- The second loop's round, and what follows. -/
theorem unpack_any (A : Option Addr) (n c : Nat) (l : List Int) (limit : Int) (w : World) (hc : n ≤ c) (hcm : c ≤ maxLen) (hrd : Rd w w.heap.size 1 A n (l.map (Value.int .i64))) :
    Calls Tryz.prog 107 #[.slice A n c, .int .i64 limit] w fun e w' => ∃ v, e = .returned (.tuple #[v, .int .i64 (unpackE l limit)]) ∧ Own w' w.heap.size v (unpack l limit) ∧ Below w.heap.size w w' := by
  have hln : l.length = n := by simpa using hrd.len
  have Hln := Lib.hid hln
  clear hln
  have hcm2 : n ≤ 9223372036854775807 := by unfold maxLen at hcm; omega
  go_enter Tryz.func107, Tryz.ntmps107
  go_wp2_with fail
  go_loop [14] (fun i => ∃ k : Nat, i = .int .i64 k ∧ k ≤ n ∧ Hid ((l.take k).all okSym = true)) (fun i => n - (intOf i).toNat)
  case atStart => exact ⟨0, rfl, by omega, rfl⟩
  case round =>
    obtain ⟨k, rfl, hk, hall⟩ := hrel
    by_cases hlt : k < n
    · obtain ⟨ad, x, rfl, had, hx, hcell⟩ := hrd.int1 hlt
      have Hx := Lib.hid hx
      clear hx
      by_cases hs : okSym x = true
      · have Hs := Lib.hid hs
        clear hs
        go_wp2_with fail
        refine (symbol_any x _).mono ?_
        rintro e w4 ⟨rfl, rfl⟩
        rw [Hs.out]
        go_wp2_with fail
        go_round
        case rel => exact ⟨k + 1, by go_num, by omega, all_take_int l okSym k x Hx.out hall.out Hs.out⟩
        case measure => simp [intOf]; omega
      · have Hs := Lib.hid (Bool.eq_false_iff.2 hs)
        clear hs
        go_wp2_with fail
        refine (symbol_any x _).mono ?_
        rintro e w4 ⟨rfl, rfl⟩
        rw [Hs.out]
        go_wp2_with fail
        go_ret2
        have hno := all_false_int l okSym k x Hx.out Hs.out
        have he : unpackE l limit = 70 := by unfold unpackE; rw [if_pos hno]
        refine ⟨_, by rw [he]; rfl, ?_, Below.refl _ _⟩
        unfold unpack
        rw [if_neg (by rw [he]; decide)]
        exact World.ownsRow_nil _ _ _ _
    · have hall' : l.all okSym = true := by
        have := hall.out; rwa [List.take_of_length_le (by have := Hln.out; omega)] at this
      have Hall := Lib.hid hall'
      have he0 : unpackE l limit = if count l > min limit 100000 then 3 else 0 := by unfold unpackE; rw [if_neg (by rw [hall']; decide)]
      have hcnt : count l = ((min (cnt [] l) 100001 : Nat) : Int) := rfl
      have hlen := length_unp l [] hall'
      clear hall'
      obtain ⟨M, hM, hMm⟩ : ∃ M : Int, (if (100000 : Int) < limit then 100000 else limit) = M ∧ min limit 100000 = M := ⟨_, rfl, by split <;> omega⟩
      rw [hMm] at he0
      have He0 := Lib.hid he0
      have HMm := Lib.hid hMm
      clear hMm he0
      rcases hcd : decide (count l > M) with _ | _
      · have hle : ¬ (count l > M) := by simpa using hcd
        clear hcd
        have hu : unpackE l limit = 0 := by rw [He0.out, if_neg hle]
        have hun : unpack l limit = unp [] l := by unfold unpack; rw [if_pos hu]
        rw [hcnt] at hle
        have hK : cnt [] l ≤ 100000 := by have := HMm.out; omega
        have hqM : ((cnt [] l : Nat) : Int) ≤ M := by omega
        have hmin : ((min (cnt [] l) 100001 : Nat) : Int) = (cnt [] l : Nat) := by omega
        have Hmin := Lib.hid hmin
        have Hu := Lib.hid hu; have Hun := Lib.hid hun; have Hlen := Lib.hid hlen; have Hcnt := Lib.hid hcnt
        clear hu hun hlen hcnt hmin hle
        go_wp2_with fail
        refine (count_any A n c l _ w.heap.size (Nat.le_refl _) hc hcm hrd).mono ?_
        rintro e w5 ⟨rfl, m, rfl⟩
        rw [Hcnt.out, Hmin.out]
        clear Hcnt Hmin
        generalize hq : cnt [] l = q at *
        clear hq
        go_wp2_with (at_make; (refine make0 (n := q) (by omega) (Nat.le_refl w.heap.size) ?_); intro w1 hown1 hg1 hz1)
        have hb1 : Below w.heap.size w w1 := (below_drewN (Below.refl _ _) m).grown hg1 (Nat.le_refl _) (by simp)
        clear hg1 hz1
        go_loopw [0, 9] (fun s o wr => ∃ (A' : Option Addr) (n' c' : Nat) (l' : List Int) (acc : List Int), s = .slice A' n' c' ∧ n' ≤ c' ∧ c' ≤ maxLen ∧ Rd wr w.heap.size 1 A' n' (l'.map (Value.int .i64)) ∧
          Own wr w.heap.size o acc ∧ Below w.heap.size w wr ∧ Hid (acc ++ unp [] l' = unp [] l) ∧ Hid (l'.all okSym = true)) (fun s _ _ => lenV s)
        case atStart => exact ⟨A, n, c, l, [], rfl, hc, hcm, hrd.below hb1, hown1, hb1, rfl, Hall⟩
        case round =>
          obtain ⟨A', n', c', l', acc, rfl, hc', hcm', hrd', gown, gb, htot, hsy⟩ := hrel
          have hln' : l'.length = n' := by simpa using hrd'.len
          have Hln' := Lib.hid hln'
          clear hln'
          have hB := gb.size
          have hal : acc.length ≤ q := by
            have := congrArg List.length htot.out
            rw [List.length_append, Hlen.out] at this
            omega
          by_cases hlt' : 0 < n'
          · have hrl := rl_le l'
            rw [Hln'.out] at hrl
            go_wp2_with fail
            refine (run_any A' n' c' l' _ w.heap.size hc' hcm' hrd').mono ?_
            rintro e w2 ⟨A1, A2, m2, rfl, rfl, r1, r2⟩
            have hur := unp_run l'
            have hdl : (l'.dropWhile isDig).length = n' - rl l' := by simpa using r2.len
            have htw : (l'.takeWhile isDig).all isDig = true := List.all_takeWhile ..
            generalize l'.takeWhile isDig = d at *
            have hvd : acc.length + val d ≤ q := by
              have := congrArg List.length htot.out
              rw [List.length_append, Hlen.out, hur, List.length_append, List.length_replicate] at this
              omega
            have hmv : ((min (val d) 100001 : Nat) : Int) = (val d : Nat) := by omega
            have Hur := Lib.hid hur; have Htw := Lib.hid htw; have Hmv := Lib.hid hmv
            clear hur htw hmv
            have gdn : Own (wr.drewN m2) w.heap.size _ acc := gown
            have gbn : Below w.heap.size w (wr.drewN m2) := below_drewN gb m2
            have hszn : (wr.drewN m2).heap.size = wr.heap.size := rfl
            rcases hrest : l'.dropWhile isDig with _ | ⟨x, rest⟩
            · rw [hrest] at hdl Hur r2
              have hn0 : n' - rl l' = 0 := by simpa using hdl.symm
              have Hdl := Lib.hid hdl; have Hn0 := Lib.hid hn0
              clear hrest hdl hn0 hszn
              go_wp2_with fail
              refine (value_any A1 _ _ d _ w.heap.size (by unfold maxLen at hcm' ⊢; omega) Htw.out r1).mono ?_
              rintro e w3 ⟨rfl, rfl⟩
              rw [Hmv.out]
              have hn0 := Hn0.out
              go_wp2_with (at_builtin; (refine appendZ (val d) rfl gdn (by omega) gbn.size ?_); intro A3 n3 c3 w3 hn3 hown3 hb3 hg3 _)
              refine ⟨⟨A2, 0, c' - rl l', [], acc ++ List.replicate (val d) 0, rfl, by omega, by omega, Rd.nil, hown3, gbn.trans hb3, ?_, rfl⟩, by simp [lenV]; omega⟩
              have h1 := htot.out
              rw [Hur.out] at h1
              show (acc ++ List.replicate (val d) 0) ++ unp [] [] = _
              rw [← h1]
              simp [unp, unpTail, val]
            · rw [hrest] at hdl Hur r2
              have hn0 : rl l' < n' := by
                have : 0 < n' - rl l' := by rw [← hdl]; simp
                omega
              have hre : rest.length = n' - rl l' - 1 := by rw [← hdl]; simp
              have hxr : okSym x = true ∧ rest.all okSym = true := by
                have h2 : (x :: rest).all okSym = true := by
                  rw [← hrest, List.all_eq_true]
                  exact fun y hy => List.all_eq_true.1 hsy.out y ((List.dropWhile_sublist isDig).mem hy)
                simpa using h2
              have hxb : 0 ≤ x ∧ x ≤ 256 := by simpa [okSym] using hxr.1
              have Hsr := Lib.hid hxr.2
              clear hxr
              obtain ⟨ad2, x', rfl, had2, hx', hcell⟩ := r2.int1 (k := 0) (by omega)
              simp at hx'
              subst hx'
              have hcell0 := hcell
              rw [show ad2.add 0 = ad2 by simp [Addr.add]] at hcell0
              have Hdl := Lib.hid hdl; have Hre := Lib.hid hre
              clear hrest hdl hre hszn
              go_wp2_with fail
              refine (value_any A1 _ _ d _ w.heap.size (by unfold maxLen at hcm' ⊢; omega) Htw.out r1).mono ?_
              rintro e w3 ⟨rfl, rfl⟩
              rw [Hmv.out]
              have htl : acc.length + val d + 1 ≤ q := by
                have := congrArg List.length htot.out
                rw [List.length_append, Hlen.out, Hur.out, List.length_append, List.length_replicate, unpTail, List.length_cons] at this
                omega
              have r3 := r2.drop (k := 1) (cap := c' - rl l') (by omega) (by omega)
              go_wp2_with (first
                | (at_builtin; (refine appendZ (val d) rfl gdn (by omega) gbn.size ?_); intro A3 n3 c3 w3 hn3 hown3 hb3 hg3 _; have hc3 := (hb3.cell (p := ad2) had2).trans hcell0)
                | (at_builtin; (refine append1 hown3 (by simp; omega) (Nat.le_trans gbn.size hb3.size) ?_); intro A4 n4 c4 w4 hn4 hown4 hb4 hg4 _))
              refine ⟨⟨_, n' - rl l' - 1, c' - rl l' - 1, rest, _, rfl, by omega, by omega, ?_, hown4, (gbn.trans hb3).trans hb4, ?_, Hsr⟩, by simp [lenV]; omega⟩
              · have r4 := (r3.below hb3).below hb4
                simpa [Addr.add] using r4
              · have h1 := htot.out
                rw [Hur.out] at h1
                show ((acc ++ List.replicate (val d) 0) ++ [x - 1]) ++ unp [] rest = _
                rw [← h1]
                simp [unpTail]
          · have hl' : l' = [] := List.eq_nil_of_length_eq_zero (by rw [Hln'.out]; omega)
            have h1 := htot.out
            rw [hl'] at h1
            have H1 := Lib.hid h1
            clear h1 hl'
            go_wp2_with fail
            go_ret2
            rw [Hu.out, Hun.out, ← H1.out]
            refine ⟨_, rfl, ?_, gb⟩
            simpa [unp, val] using gown
      · have hle : count l > M := by simpa using hcd
        clear hcd
        have hu : unpackE l limit = 3 := by rw [He0.out, if_pos hle]
        have hun : unpack l limit = [] := by unfold unpack; rw [if_neg (by rw [hu]; decide)]
        have Hu := Lib.hid hu; have Hun := Lib.hid hun
        clear hu hun hcnt hlen
        go_wp2_with fail
        refine (count_any A n c l _ w.heap.size (Nat.le_refl _) hc hcm hrd).mono ?_
        rintro e w5 ⟨rfl, m, rfl⟩
        go_wp2_with fail
        go_ret2
        rw [Hu.out, Hun.out]
        exact ⟨_, rfl, World.ownsRow_nil _ _ _ _, below_drewN (Below.refl _ _) m⟩
end Zr
end Go.Proofs.YtpbphhpldlckbaaGreat
