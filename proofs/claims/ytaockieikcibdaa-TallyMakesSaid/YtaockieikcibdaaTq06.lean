/- varveref45: may, Check, done. varveref45.put. -/
import Derived.Test.YtaockieikcibdaaTq05
import Derived.StillTailTactics
namespace Go.Proofs.Ytaockieikcibdaa
namespace Tm
open Go.RowKit Go.Maps Go.Sort Ta

set_option maxHeartbeats 3200000 in
theorem rmay_al (a c y : Int) (w : World) :
    Calls Try.prog 36 #[.agg #[.int .i64 a, .int .i64 c, .int .i64 y]] w fun e w' => e = .returned (.bool (okB (a, c, y))) ∧ w' = w.alloc (.cells #[.int .i64 a, .int .i64 c, .int .i64 y] 42) := by
  have mixed : Try.prog.follows .mixedOrders = true := by kernel_rfl
  by_cases h : okB (a, c, y) = true
  · rw [h]
    rw [okB_iff] at h
    simp only at h
    have h1 : 0 ≤ a := h.1
    have h2 : a ≤ 1000000000 := h.2.1
    have h3 : 1 ≤ c := h.2.2.1
    have h4 : c ≤ 1000000000000 := h.2.2.2.1
    have h5 : 0 ≤ y := h.2.2.2.2.1
    have h6 : y ≤ 1000000000000000 := h.2.2.2.2.2
    clear h
    go_enter Try.func36, Try.ntmps36
    go_wp2_with fail
    go_ret
    exact ⟨rfl, rfl⟩
  · have hf : okB (a, c, y) = false := by simpa using h
    rw [hf]
    rw [okB_iff] at h
    simp only at h
    clear hf
    by_cases h1 : 0 ≤ a
    · by_cases h2 : a ≤ 1000000000
      · by_cases h3 : 1 ≤ c
        · by_cases h4 : c ≤ 1000000000000
          · by_cases h5 : 0 ≤ y
            · have h6 : ¬ y ≤ 1000000000000000 := by omega
              clear h
              go_enter Try.func36, Try.ntmps36
              go_wp2_with fail
              go_ret
              exact ⟨rfl, rfl⟩
            · clear h
              go_enter Try.func36, Try.ntmps36
              go_wp2_with fail
              go_ret
              exact ⟨rfl, rfl⟩
          · clear h
            go_enter Try.func36, Try.ntmps36
            go_wp2_with fail
            go_ret
            exact ⟨rfl, rfl⟩
        · clear h
          go_enter Try.func36, Try.ntmps36
          go_wp2_with fail
          go_ret
          exact ⟨rfl, rfl⟩
      · clear h
        go_enter Try.func36, Try.ntmps36
        go_wp2_with fail
        go_ret
        exact ⟨rfl, rfl⟩
    · clear h
      go_enter Try.func36, Try.ntmps36
      go_wp2_with fail
      go_ret
      exact ⟨rfl, rfl⟩
theorem asc_snoc' {S : List Bu} {k m : Nat} (hk : k = m + 1) (h : ascAt S k) {x y : Bu} (hx : S[m]? = some x) (hy : S[k]? = some y) (hxy : x.1 < y.1) : ascAt S (k + 1) := by
  subst hk
  exact asc_snoc h hx hy hxy
theorem rmay_grow {a c y : Int} {v : Bool} (h : okB (a, c, y) = v) (w : World) :
    Calls Try.prog 36 #[.agg #[.int .i64 a, .int .i64 c, .int .i64 y]] w fun e w' => e = .returned (.bool v) ∧ ∃ q os', w' = grow (w.drewN q) os' :=
  (rmay_al a c y w).mono fun _ _ h2 => ⟨by rw [h2.1, h], 0, #[.cells #[.int .i64 a, .int .i64 c, .int .i64 y] 42], by rw [h2.2, alloc_eq_grow]; rfl⟩
set_option maxHeartbeats 6400000 in
set_option maxRecDepth 100000 in
theorem rcheck_any (A : Option Addr) (n c : Nat) (S : List Bu) (w : World) (hrd : Rd w w.heap.size 3 A n (flT S)) (hn : n ≤ 1000000) :
    Calls Try.prog 21 #[.slice A n c] w fun e w' => e = .returned (.int .i64 (chk S)) ∧ Below w.heap.size w w' := by
  have mixed : Try.prog.follows .mixedOrders = true := by kernel_rfl
  have hln := rdT_len hrd
  by_cases hb : 1000 < n
  · have HF := Lib.hid (chk_no (S := S) (fun h => by have := h.1; omega))
    have hb2 : (1000 : Int) < (n : Int) := by omega
    clear hb hrd hln
    go_enter Try.func21, Try.ntmps21
    go_wp2_with fail
    go_ret
    exact ⟨by rw [HF.out]; rfl, Below.refl _ _⟩
  · have HR := Lib.hid hrd
    have HLN := Lib.hid hln
    have hb2 : ¬ (1000 : Int) < (n : Int) := by omega
    have hnm : n ≤ 1000 := by omega
    clear hrd hln hb hn
    go_enter Try.func21, Try.ntmps21
    go_wp2_with fail
    clear hb2
    go_loopw [3] (fun i wr => ∃ k : Nat, i = .int .i64 (k : Int) ∧ k ≤ n ∧ Hid (Below w.heap.size w wr ∧ (∀ j x, j < k → S[j]? = some x → okB x = true) ∧ ascAt S k)) (fun i _ => n - (intOf i).toNat)
    case atStart => exact ⟨0, by go_num, by omega, Below.refl _ _, fun j r h => absurd h (by omega), fun j x y h => absurd h (by omega)⟩
    case round =>
      obtain ⟨k, rfl, hk, HX⟩ := hrel
      by_cases hkn : k < n
      · obtain ⟨ad, t, cc, y, rfl, hbk, hx, hc0, hc1, hc2⟩ := recT (HR.out.below HX.out.1) hkn
        have HX2 := Lib.hid HX.out
        have HXK := Lib.hid hx
        have hbw : ad.block < wr.heap.size := by have := HX.out.1.size; omega
        have HBK := Lib.hid hbw
        clear hx
        have hall : okB (t, cc, y) = true → ∀ j x, j < k + 1 → S[j]? = some x → okB x = true := by
          intro hok j x hj hx
          rcases Nat.lt_or_ge j k with h | h
          · exact HX2.out.2.1 j x h hx
          · obtain rfl : j = k := by omega
            rw [HXK.out] at hx; cases hx; exact hok
        have HALL := Lib.hid hall
        have HBQ := Lib.hid (fun nq osq => below_grow w wr nq osq HX2.out.1)
        have m0 : ∀ n' os', (grow (wr.drewN n') os').cell? (ad.add (k * 3)) = some (.int .i64 t) := cell_grown (by rw [Ta.add_block]; exact HBK.out) hc0
        have m1 : ∀ n' os', (grow (wr.drewN n') os').cell? ⟨(ad.add (k * 3)).block, (ad.add (k * 3)).off + 1, none⟩ = some (.int .i64 cc) := cell_grown (by show (ad.add (k * 3)).block < _; rw [Ta.add_block]; exact HBK.out) hc1
        have m2 : ∀ n' os', (grow (wr.drewN n') os').cell? ⟨(ad.add (k * 3)).block, (ad.add (k * 3)).off + 2, none⟩ = some (.int .i64 y) := cell_grown (by show (ad.add (k * 3)).block < _; rw [Ta.add_block]; exact HBK.out) hc2
        clear hall hbk hbw HX hc0 hc1 hc2
        by_cases hk0 : ¬ 0 < k
        · have hz : decide (0 < k) = false := decide_eq_false hk0
          have HK0 := Lib.hid hk0
          clear hk0
          by_cases hok : okB (t, cc, y) = true
          · have HS1 := Lib.hid (fun w => rmay_grow (hok) w)
            have HAL := Lib.hid (HALL.out hok)
            clear hok HALL
            go_wp2_with fail
            refine wp_region_quiet_grown (by assumption) (by kernel_rfl) ?_
            iterate 9 (first | go_big_quiet_skip | quiet_step (first | (go_at_call 36; refine Calls.grown_of (HS1.out _))))
            clear hz
            repeat (first | go_big_quiet_skip | quiet_step (fail))
            refine wpQuiet_nil ?_
            intro _ hw'
            obtain ⟨⟨nq, osq⟩, hw''⟩ := hw'
            subst hw''
            go_wp2_with fail
            refine ⟨?_, by simp [intOf]; omega⟩
            exact ⟨k + 1, by go_num, by omega, HBQ.out _ _, HAL.out, fun j x y h => absurd h (by have := HK0.out; omega)⟩
          · have hf : okB (t, cc, y) = false := by simpa using hok
            have HS1 := Lib.hid (fun w => rmay_grow hf w)
            have HE := Lib.hid (chk_bad HXK.out hf)
            clear hf hok
            go_wp2_with fail
            refine wp_region_quiet_grown (by assumption) (by kernel_rfl) ?_
            iterate 9 (first | go_big_quiet_skip | quiet_step (first | (go_at_call 36; refine Calls.grown_of (HS1.out _))))
            clear hz
            repeat (first | go_big_quiet_skip | quiet_step (fail))
            refine wpQuiet_nil ?_
            intro _ hw'
            obtain ⟨⟨nq, osq⟩, hw''⟩ := hw'
            subst hw''
            go_wp2_with fail
            go_ret
            exact ⟨by rw [HE.out]; rfl, HBQ.out _ _⟩
        · obtain ⟨m, hm⟩ : ∃ m, k = m + 1 := ⟨k - 1, by omega⟩
          have HKM := Lib.hid hm
          have hk1 : 0 < k := by omega
          clear hk0
          obtain ⟨ad', t', cc', y', hA', -, hx', hd0, -, -⟩ := recT (HR.out.below HX2.out.1) (show m < n by omega)
          obtain rfl : ad = ad' := by simpa using hA'
          have HXM := Lib.hid hx'
          have m3 : ∀ n' os', (grow (wr.drewN n') os').cell? (ad.add (m * 3)) = some (.int .i64 t') := cell_grown (by rw [Ta.add_block]; exact HBK.out) hd0
          clear hA' hx' hd0
          have i1 : (0 : Int) ≤ (m : Int) := by omega
          have i2 : (m : Int) < (n : Int) := by omega
          have i3 : IntKind.i64.wrap ((k : Int) - 1) = (m : Int) := by rw [IntKind.wrap_i64]; omega
          have i4 : ((m : Int)).toNat = m := by omega
          clear hm
          by_cases hok : okB (t, cc, y) = true
          · by_cases hlt : t' < t
            · have HS1 := Lib.hid (fun w => rmay_grow hok w)
              have HAL := Lib.hid (HALL.out hok)
              have HSN := Lib.hid (asc_snoc' HKM.out HX2.out.2.2 HXM.out HXK.out hlt)
              have hlt2 : decide (t ≤ t') = false := decide_eq_false (by omega)
              clear hok HALL hlt
              go_wp2_with fail
              refine wp_region_quiet_grown (by assumption) (by kernel_rfl) ?_
              repeat (first | go_big_quiet_skip | quiet_step (first | (go_at_call 36; refine Calls.grown_of (HS1.out _))))
              refine wpQuiet_nil ?_
              intro _ hw'
              obtain ⟨⟨nq, osq⟩, hw''⟩ := hw'
              subst hw''
              go_wp2_with fail
              refine ⟨?_, by simp [intOf]; omega⟩
              exact ⟨k + 1, by go_num, by omega, HBQ.out _ _, HAL.out, HSN.out⟩
            · have HS1 := Lib.hid (fun w => rmay_grow hok w)
              have HE := Lib.hid (chk_asc HXM.out (by rw [← HKM.out]; exact HXK.out) hlt)
              have hlt2 : t ≤ t' := by omega
              clear hok HALL hlt
              go_wp2_with fail
              refine wp_region_quiet_grown (by assumption) (by kernel_rfl) ?_
              repeat (first | go_big_quiet_skip | quiet_step (first | (go_at_call 36; refine Calls.grown_of (HS1.out _))))
              refine wpQuiet_nil ?_
              intro _ hw'
              obtain ⟨⟨nq, osq⟩, hw''⟩ := hw'
              subst hw''
              go_wp2_with fail
              go_ret
              exact ⟨by rw [HE.out]; rfl, HBQ.out _ _⟩
          · have hf : okB (t, cc, y) = false := by simpa using hok
            have HS1 := Lib.hid (fun w => rmay_grow hf w)
            have HE := Lib.hid (chk_bad HXK.out hf)
            clear hf hok
            go_wp2_with fail
            refine wp_region_quiet_grown (by assumption) (by kernel_rfl) ?_
            repeat (first | go_big_quiet_skip | quiet_step (first | (go_at_call 36; refine Calls.grown_of (HS1.out _))))
            refine wpQuiet_nil ?_
            intro _ hw'
            obtain ⟨⟨nq, osq⟩, hw''⟩ := hw'
            subst hw''
            go_wp2_with fail
            go_ret
            exact ⟨by rw [HE.out]; rfl, HBQ.out _ _⟩
      · obtain rfl : k = n := by omega
        have HE := Lib.hid (chk_yes (S := S) ⟨by rw [HLN.out]; exact hnm, by rw [HLN.out]; exact HX.out.2.1, by rw [HLN.out]; exact HX.out.2.2⟩)
        have HB := Lib.hid HX.out.1
        clear HX
        go_wp2_with fail
        go_ret
        exact ⟨by rw [HE.out]; rfl, HB.out⟩
/-- What varveref45.done tells. -/
noncomputable def doneE (S : List Bu) : Int := if chk S = 0 then 0 else 3
noncomputable def doneL (S : List Bu) : List Bu := if chk S = 0 then S else []
/-- A result that reads as buckets. -/
def Res (w : World) (v : Value) (S : List Bu) : Prop := ∃ A c, v = .slice A S.length c ∧ Arg w A S.length c S
theorem Res.ext {w w' : World} {v : Value} {S : List Bu} (h : Res w v S) (hb : Below w.heap.size w w') : Res w' v S := by
  obtain ⟨A, c, e, ha⟩ := h
  exact ⟨A, c, e, ha.ext hb⟩
theorem Res.drew {w : World} {v : Value} {S : List Bu} (h : Res w v S) (n : Nat) : Res (w.drewN n) v S := h.ext (below_drewN (Below.refl _ _) n)
theorem OwnF.res {w : World} {B : Nat} {v : Value} {l : List Bu} (h : OwnF w B v l) : Res w v l := h.arg
theorem res_nil (w : World) : Res w (.slice none 0 0) [] := (ownF_nil w 0).arg
set_option maxHeartbeats 3200000 in
theorem done_any (v : Value) (S : List Bu) (w : World) (hr : Res w v S) (hn : S.length ≤ 1000000) :
    Calls Try.prog 30 #[v] w fun e w' => (∃ v, e = .returned (.tuple #[v, .int .i64 (doneE S)]) ∧ Res w' v (doneL S)) ∧ Below w.heap.size w w' := by
  have mixed : Try.prog.follows .mixedOrders = true := by kernel_rfl
  have HO := Lib.hid hr
  obtain ⟨A, c, rfl, ha⟩ := hr
  have HC := Lib.hid (rcheck_any A S.length c S w ha.rd hn)
  clear ha
  by_cases h : chk S = 0
  · have e1 : doneE S = 0 := if_pos h
    have e2 : doneL S = S := if_pos h
    rw [e1, e2]
    rw [h] at HC
    clear h e1 e2
    go_enter Try.func30, Try.ntmps30
    go_wp2_with fail
    refine HC.out.mono ?_
    rintro e1 w1 ⟨rfl, hb1⟩
    have HB := Lib.hid hb1
    clear hb1
    go_wp2_with fail
    go_ret2
    exact ⟨⟨_, rfl, HO.out.ext HB.out⟩, HB.out⟩
  · have e1 : doneE S = 3 := if_neg h
    have e2 : doneL S = [] := if_neg h
    rw [e1, e2]
    rw [chk_two h] at HC
    clear h e1 e2
    go_enter Try.func30, Try.ntmps30
    go_wp2_with fail
    refine HC.out.mono ?_
    rintro e1 w1 ⟨rfl, hb1⟩
    have HB := Lib.hid hb1
    clear hb1
    go_wp2_with fail
    go_ret2
    exact ⟨⟨.slice none 0 0, rfl, res_nil _⟩, HB.out⟩
/-- What was gathered may be, as the program and as the document look at it. -/
theorem done_gat (L : List Bu) : doneE (gat L) = bukE (gat L) ∧ doneL (gat L) = bukL (gat L) := by
  by_cases h : chk (gat L) = 0
  · have hp := chk_inv h
    have hb := bukE_yes hp.1 hp.2.1
    have e1 : doneE (gat L) = 0 := if_pos h
    have e2 : doneL (gat L) = gat L := if_pos h
    rw [e1, e2, hb, bukL_yes hb]
    exact ⟨rfl, rfl⟩
  · have e1 : doneE (gat L) = 3 := if_neg h
    have e2 : doneL (gat L) = [] := if_neg h
    have hb : bukE (gat L) = 3 := by
      unfold bukE
      split
      · rfl
      · rename_i h1
        rw [if_neg]
        intro h2
        exact h (chk_yes ⟨by omega, fun j x hj hx => List.all_eq_true.1 h2 x (List.mem_of_getElem? hx), fun j x y _ hx hy => asc_at (gat_asc L) j x y hx hy⟩)
    rw [e1, e2, hb, bukL_no hb]
    exact ⟨rfl, rfl⟩
end Tm
end Go.Proofs.Ytaockieikcibdaa
namespace Go.Proofs.Ytaockieikcibdaa
namespace Tm
open Go.RowKit Go.Maps Go.Sort Ta

theorem dropAt {α : Type} (l : List α) (k : Nat) (x : α) (h : l[k]? = some x) : l.drop k = x :: l.drop (k + 1) := by
  have hk : k < l.length := (List.getElem?_eq_some_iff.1 h).1
  rw [List.drop_eq_getElem_cons hk]
  rw [List.getElem?_eq_getElem hk] at h
  congr 1
  exact Option.some.inj h
theorem putB_at (b : Bu) : ∀ (l : List Bu) (k : Nat), (∀ j x, j < k → l[j]? = some x → x.1 < b.1) → k ≤ l.length → putB l b = l.take k ++ putB (l.drop k) b
  | l, 0, _, _ => by simp
  | [], k + 1, _, hk => by simp at hk
  | x :: l, k + 1, h, hk => by
    have h0 := h 0 x (by omega) rfl
    have ih := putB_at b l k (fun j y hj hy => h (j + 1) y (by omega) (by simpa using hy)) (by simpa using hk)
    rw [putB, if_pos h0, ih, List.take_succ_cons, List.drop_succ_cons, List.cons_append]
theorem putB_end {b : Bu} {l : List Bu} {k : Nat} (h : ∀ j x, j < k → l[j]? = some x → x.1 < b.1) (hk : k = l.length) : putB l b = l.take k ++ [b] ++ l.drop k := by
  have e : l.drop k = [] := List.drop_of_length_le (by omega)
  rw [putB_at b l k h (by omega), e, List.append_nil]; rfl
theorem putB_new {b x : Bu} {l : List Bu} {k : Nat} (h : ∀ j x, j < k → l[j]? = some x → x.1 < b.1) (hx : l[k]? = some x) (h1 : b.1 < x.1) : putB l b = l.take k ++ [b] ++ l.drop k := by
  have hk := (List.getElem?_eq_some_iff.1 hx).1
  rw [putB_at b l k h (by omega), dropAt l k x hx, putB, if_neg (by omega), if_neg (by omega), List.append_assoc]; rfl
theorem putB_old {b x : Bu} {l : List Bu} {k : Nat} (h : ∀ j x, j < k → l[j]? = some x → x.1 < b.1) (hx : l[k]? = some x) (h1 : x.1 = b.1) : putB l b = l.take k ++ [(b.1, x.2.1 + b.2.1, x.2.2 + b.2.2)] ++ l.drop (k + 1) := by
  have hk := (List.getElem?_eq_some_iff.1 hx).1
  rw [putB_at b l k h (by omega), dropAt l k x hx, putB, if_neg (by omega), if_pos h1, List.append_assoc]; rfl

theorem drop_rd {w w' : World} {A : Option Addr} {n c k : Nat} {l : List Bu} (h : Arg w A n c l) (hb : Below w.heap.size w w') (hk : k ≤ n) :
    Rd w' w'.heap.size 3 (if c = k then A else A.map (·.add (k * 3))) (n - k) (flT (l.drop k)) := by
  have h1 := (h.rd.ext hb).drop (k := k) hk h.nc
  rwa [flT_drop] at h1
theorem drop_rd0 {w w' : World} {A : Option Addr} {n c : Nat} {l : List Bu} (h : Arg w A n c l) (hb : Below w.heap.size w w') :
    Rd w' w'.heap.size 3 (if c = n then A else A.map (·.add (n * 3))) 0 (flT (l.drop n)) := by
  have h1 := drop_rd h hb (Nat.le_refl n)
  rwa [Nat.sub_self] at h1
theorem tk_len {l : List Bu} {k : Nat} (h : k ≤ 1000000) : (l.take k).length ≤ 1000000000 := by rw [List.length_take]; omega
theorem tk_len1 {l : List Bu} {k : Nat} {b : Bu} (h : k ≤ 1000000) : (l.take k ++ [b]).length ≤ 1000000000 := by
  rw [List.length_append, List.length_take, List.length_cons, List.length_nil]; omega
theorem drop_no {w : World} {A : Option Addr} {n c k : Nat} {l : List Bu} (h : Arg w A n c l) : (if c = k then A else A.map (·.add (k * 3))) = none → c - k = 0 := by
  intro hh
  split at hh
  · omega
  · cases A with
    | none => have := h.no rfl; omega
    | some ad => cases hh
set_option maxHeartbeats 6400000 in
set_option maxRecDepth 100000 in
theorem put_any (A : Option Addr) (n c : Nat) (l : List Bu) (t cc y : Int) (w : World) (ha : Arg w A n c l) (hn : n ≤ 1000000) (hb : ∀ x ∈ l, (0 ≤ x.2.1 + cc ∧ x.2.1 + cc ≤ 4000000000000000000) ∧ 0 ≤ x.2.2 + y ∧ x.2.2 + y ≤ 4000000000000000000) :
    Calls Try.prog 29 #[.slice A n c, .agg #[.int .i64 t, .int .i64 cc, .int .i64 y]] w fun e w' => (∃ v, e = .returned v ∧ OwnF w' w.heap.size v (putB l (t, cc, y))) ∧ Below w.heap.size w w' := by
  have mixed : Try.prog.follows .mixedOrders = true := by kernel_rfl
  have HA := Lib.hid ha
  have HBD := Lib.hid hb
  have HLN := Lib.hid ha.len
  have hnc := ha.nc
  have hcm : c ≤ 9223372036854775807 := by have := ha.cm; unfold maxLen at this; omega
  clear ha hb
  go_enter Try.func29, Try.ntmps29
  go_wp2_with fail
  have hb0 := ext_alloc w (.cells #[.int .i64 t, .int .i64 cc, .int .i64 y] 42)
  have m0 : (w.alloc (.cells #[.int .i64 t, .int .i64 cc, .int .i64 y] 42)).cell? ⟨w.heap.size, 0, none⟩ = some (.int .i64 t) := by rw [World.cell?_alloc_new]; rfl
  have m1 : (w.alloc (.cells #[.int .i64 t, .int .i64 cc, .int .i64 y] 42)).cell? ⟨w.heap.size, 1, none⟩ = some (.int .i64 cc) := by rw [World.cell?_alloc_new]; rfl
  have m2 : (w.alloc (.cells #[.int .i64 t, .int .i64 cc, .int .i64 y] 42)).cell? ⟨w.heap.size, 2, none⟩ = some (.int .i64 y) := by rw [World.cell?_alloc_new]; rfl
  have hsz : (w.alloc (.cells #[.int .i64 t, .int .i64 cc, .int .i64 y] 42)).heap.size = w.heap.size + 1 := by simp
  generalize w.alloc (.cells #[.int .i64 t, .int .i64 cc, .int .i64 y] 42) = w0 at *
  have H0 := Lib.hid (And.intro hb0 (And.intro hsz (And.intro m0 (And.intro m1 m2))))
  clear hb0 hsz m0 m1 m2
  go_loopw [5] (fun i wr => ∃ k : Nat, i = .int .i64 (k : Int) ∧ k ≤ n ∧ Hid (Below w0.heap.size w0 wr ∧ (∀ j x, j < k → l[j]? = some x → x.1 < t))) (fun i _ => n - (intOf i).toNat)
  case atStart => exact ⟨0, by go_num, by omega, Below.refl _ _, fun j x h => absurd h (by omega)⟩
  case round =>
    obtain ⟨k, rfl, hk, HX⟩ := hrel
    have hbr : Below w.heap.size w wr := H0.out.1.trans (HX.out.1.mono H0.out.1.size)
    have HBR := Lib.hid hbr
    have d0 := (HX.out.1.cell (p := ⟨w.heap.size, 0, none⟩) (by rw [H0.out.2.1]; exact Nat.lt_succ_self _)).trans H0.out.2.2.1
    have d1 := (HX.out.1.cell (p := ⟨w.heap.size, 1, none⟩) (by rw [H0.out.2.1]; exact Nat.lt_succ_self _)).trans H0.out.2.2.2.1
    have d2 := (HX.out.1.cell (p := ⟨w.heap.size, 2, none⟩) (by rw [H0.out.2.1]; exact Nat.lt_succ_self _)).trans H0.out.2.2.2.2
    have HD := Lib.hid (And.intro d0 (And.intro d1 d2))
    have HX2 := Lib.hid HX.out
    have hgs : w.heap.size < wr.heap.size := by have := HX.out.1.size; rw [H0.out.2.1] at this; omega
    have HGS := Lib.hid hgs
    clear hgs HX d1 d2
    by_cases hkn : k < n
    · obtain ⟨ad, a0, a1, a2, rfl, hbk, hx, hc0, hc1, hc2⟩ := recT (HA.out.rd.below hbr) hkn
      have HXK := Lib.hid hx
      have HBK := Lib.hid hbk
      clear hx hbk hbr
      by_cases hlt : a0 < t
      · have hall : ∀ j x, j < k + 1 → l[j]? = some x → x.1 < t := by
          intro j x hj hx
          rcases Nat.lt_or_ge j k with h | h
          · exact HX2.out.2 j x h hx
          · obtain rfl : j = k := by omega
            rw [HXK.out] at hx; cases hx; exact hlt
        have HALL := Lib.hid (And.intro (below_drewN HX2.out.1) hall)
        clear hall hc1 hc2
        go_wp2_with fail
        go_quiet (fail)
        go_wp2_with fail
        exact ⟨⟨k + 1, by go_num, by omega, HALL.out.1 _, HALL.out.2⟩, by simp [intOf]; omega⟩
      · have hlt2 : decide (a0 < t) = false := decide_eq_false hlt
        go_wp2_with fail
        go_quiet (fail)
        have hbn := below_drewN HX2.out.1 nq
        clear d0
        generalize wr.drewN nq = w1 at *
        have hbw1 : Below w.heap.size w w1 := H0.out.1.trans (hbn.mono H0.out.1.size)
        have HN1 := Lib.hid hbn
        have HW1 := Lib.hid hbw1
        have HOE := Lib.hid (ownF_empty w1)
        have hrt := ((HA.out.rd.ext (hbw1.trans ((ext_alloc w1 (.cells #[] 42)).mono hbw1.size))).take (k := k) hk)
        rw [flT_take] at hrt
        have HRT := Lib.hid hrt
        have hkc : k ≤ c := by omega
        clear hbn hbw1 hrt
        go_wp2_with (at_builtin; refine list_app HOE.out HRT.out HA.out.no (by simp) (by omega) (by simp) ?_; intro v1 w2 hown1 hb1)
        rw [List.nil_append] at hown1
        have HO1 := Lib.hid hown1
        have hb2 := (ext_alloc w1 (.cells #[] 42)).trans (hb1.mono (Nat.le_refl _))
        have HB2 := Lib.hid hb2
        have hn2 := HN1.out.trans (hb2.mono HN1.out.size)
        have e0 := (hn2.cell (p := ⟨w.heap.size, 0, none⟩) (by rw [H0.out.2.1]; exact Nat.lt_succ_self _)).trans H0.out.2.2.1
        have e1 := (hn2.cell (p := ⟨w.heap.size, 1, none⟩) (by rw [H0.out.2.1]; exact Nat.lt_succ_self _)).trans H0.out.2.2.2.1
        have e2 := (hn2.cell (p := ⟨w.heap.size, 2, none⟩) (by rw [H0.out.2.1]; exact Nat.lt_succ_self _)).trans H0.out.2.2.2.2
        have HN2 := Lib.hid hn2
        have HW2 := Lib.hid (H0.out.1.trans (hn2.mono H0.out.1.size))
        have HGL := Lib.hid (show w.heap.size < w2.heap.size by have := hn2.size; rw [H0.out.2.1] at this; omega)
        clear hown1 hb1 hb2 hn2 HOE HRT
        obtain ⟨ad', b0, b1, b2, hA', -, hx', g0, g1, g2⟩ := recT (HA.out.rd.below HW2.out) hkn
        obtain rfl : ad = ad' := by simpa using hA'
        rw [HXK.out] at hx'
        cases hx'
        clear hA'
        by_cases heq : a0 = t
        · subst heq
          have HPB := Lib.hid (putB_old (b := (a0, cc, y)) HX2.out.2 HXK.out rfl)
          have hbd := HBD.out _ (List.mem_of_getElem? HXK.out)
          simp only at hbd
          have u1 : IntKind.i64.wrap (a1 + cc) = a1 + cc := by rw [IntKind.wrap_i64]; omega
          have u2 : IntKind.i64.wrap (a2 + y) = a2 + y := by rw [IntKind.wrap_i64]; omega
          clear hbd hc0 hc1 hc2
          go_quiet (fail)
          have hd2 : Below w2.heap.size w2 (w2.drewN nq) := below_drewN (Below.refl _ _) nq
          have HD2 := Lib.hid hd2
          have HW3 := Lib.hid (HW2.out.trans (hd2.mono HW2.out.size))
          have HL1 := Lib.hid (show w.heap.size < w1.heap.size by have := HN1.out.size; rw [H0.out.2.1] at this; omega)
          have HL13 := Lib.hid (show w1.heap.size ≤ (w2.drewN nq).heap.size by have := HB2.out.size; exact this)
          replace g1 : (w2.drewN nq).cell? ⟨(ad.add (k * 3)).block, (ad.add (k * 3)).off + 1, none⟩ = some (.int .i64 a1) := g1
          replace g2 : (w2.drewN nq).cell? ⟨(ad.add (k * 3)).block, (ad.add (k * 3)).off + 2, none⟩ = some (.int .i64 a2) := g2
          replace g0 : (w2.drewN nq).cell? (ad.add (k * 3)) = some (.int .i64 a0) := g0
          replace e0 : (w2.drewN nq).cell? ⟨w.heap.size, 0, none⟩ = some (.int .i64 a0) := e0
          replace e1 : (w2.drewN nq).cell? ⟨w.heap.size, 1, none⟩ = some (.int .i64 cc) := e1
          replace e2 : (w2.drewN nq).cell? ⟨w.heap.size, 2, none⟩ = some (.int .i64 y) := e2
          clear hd2
          generalize w2.drewN nq = w3 at *
          go_wp2_with fail
          have hbl : (ad.add (k * 3)).block < w1.heap.size := by rw [Ta.add_block]; have := HBK.out; have := HL1.out; omega
          have hC : ∀ wx, Below w1.heap.size w3 wx → (wx.cell? ⟨w.heap.size, 0, none⟩ = some (.int .i64 a0) ∧ wx.cell? ⟨w.heap.size, 1, none⟩ = some (.int .i64 cc) ∧ wx.cell? ⟨w.heap.size, 2, none⟩ = some (.int .i64 y) ∧ wx.cell? ⟨(ad.add (k * 3)).block, (ad.add (k * 3)).off + 1, none⟩ = some (.int .i64 a1) ∧ wx.cell? ⟨(ad.add (k * 3)).block, (ad.add (k * 3)).off + 2, none⟩ = some (.int .i64 a2)) ∧ Below w1.heap.size w3 wx := fun wx hb =>
            ⟨⟨(hb.cell (p := ⟨w.heap.size, 0, none⟩) HL1.out).trans e0, (hb.cell (p := ⟨w.heap.size, 1, none⟩) HL1.out).trans e1, (hb.cell (p := ⟨w.heap.size, 2, none⟩) HL1.out).trans e2,
              (hb.cell (p := ⟨(ad.add (k * 3)).block, (ad.add (k * 3)).off + 1, none⟩) hbl).trans g1, (hb.cell (p := ⟨(ad.add (k * 3)).block, (ad.add (k * 3)).off + 2, none⟩) hbl).trans g2⟩, hb⟩
          have HC := Lib.hid hC
          have hdr : Below w3.heap.size w3 w3.drew := ⟨rfl, rfl, rfl, Nat.le_refl _, fun _ _ => rfl⟩
          have hbs : Below w3.heap.size w3 (w3.drew.alloc (.cells #[.int .i64 a0, .int .i64 (a1 + cc), .int .i64 (a2 + y)] 42)) := hdr.trans (ext_alloc w3.drew _)
          have HSd := Lib.hid (HC.out _ (hdr.mono HL13.out))
          have HSe := Lib.hid (HC.out _ (hbs.mono HL13.out))
          have HO3 := Lib.hid (HO1.out.below (show Below w2.heap.size w2 _ from HD2.out.trans (hbs.mono HD2.out.size)) (Nat.le_refl _))
          have HSz := Lib.hid (Nat.le_trans HL13.out HSe.out.2.size)
          have HNW := Lib.hid (rd_new w3.drew (a0, a1 + cc, a2 + y) 42)
          have HDR := Lib.hid (fun (wx : World) (hb : Below w1.heap.size w3 wx) => drop_rd HA.out (show Below w.heap.size w wx from HW3.out.trans (hb.mono (Nat.le_of_lt HL1.out))) (show k + 1 ≤ n by omega))
          clear hC hdr hbs e0 e1 e2 g0 g1 g2 hbl
          go_region_held3 (fun wx => (wx.cell? ⟨w.heap.size, 0, none⟩ = some (.int .i64 a0) ∧ wx.cell? ⟨w.heap.size, 1, none⟩ = some (.int .i64 cc) ∧ wx.cell? ⟨w.heap.size, 2, none⟩ = some (.int .i64 y) ∧ wx.cell? ⟨(ad.add (k * 3)).block, (ad.add (k * 3)).off + 1, none⟩ = some (.int .i64 a1) ∧ wx.cell? ⟨(ad.add (k * 3)).block, (ad.add (k * 3)).off + 2, none⟩ = some (.int .i64 a2)) ∧ Below w1.heap.size w3 wx) (first | exact HSd.out | exact HSe.out | assumption) (first
            | (refine step_app (c := 1) (.tmp 42) (.tmp 62) rfl rfl HO3.out HNW.out (fun h => by cases h) (tk_len (by omega)) (by omega) HSz.out (by rfl) (by rfl) ?_; intro v4 w4 hown4 hb4; have hS4 := HC.out w4 (HSe.out.2.trans hb4)))
          have HO4 := Lib.hid hown4
          have HS4 := Lib.hid hS4.2
          clear HSd HSe hS4 hb4 hown4 u1 u2
          go_wp2_with (at_builtin; refine list_app (A := if c = k + 1 then some ad else (some ad).map (·.add ((k + 1) * 3))) (n := n - (k + 1)) (c := c - (k + 1)) HO4.out (HDR.out _ HS4.out) (drop_no HA.out) (tk_len1 (by omega)) (by omega) (Nat.le_trans HL13.out HS4.out.size) ?_; intro v5 w5 hown5 hb5)
          all_goals (
            go_ret
            rw [HPB.out]
            exact ⟨⟨v5, rfl, hown5.lower (Nat.le_of_lt HL1.out)⟩, HW3.out.trans ((HS4.out.trans hb5).mono (Nat.le_of_lt HL1.out))⟩)
        · have hq : (a0 == t) = false := by rw [beq_eq_false_iff_ne]; exact heq
          have HPB := Lib.hid (putB_new (b := (t, cc, y)) HX2.out.2 HXK.out (by simp only; omega))
          clear heq g1 g2 hc0 hc1 hc2
          go_quiet (fail)
          have hd2 : Below w2.heap.size w2 (w2.drewN nq) := below_drewN (Below.refl _ _) nq
          have HD2 := Lib.hid hd2
          have HW3 := Lib.hid (HW2.out.trans (hd2.mono HW2.out.size))
          have HL1 := Lib.hid (show w.heap.size < w1.heap.size by have := HN1.out.size; rw [H0.out.2.1] at this; omega)
          have HL13 := Lib.hid (show w1.heap.size ≤ (w2.drewN nq).heap.size by have := HB2.out.size; exact this)
          replace e0 : (w2.drewN nq).cell? ⟨w.heap.size, 0, none⟩ = some (.int .i64 t) := e0
          replace e1 : (w2.drewN nq).cell? ⟨w.heap.size, 1, none⟩ = some (.int .i64 cc) := e1
          replace e2 : (w2.drewN nq).cell? ⟨w.heap.size, 2, none⟩ = some (.int .i64 y) := e2
          clear hd2
          generalize w2.drewN nq = w3 at *
          go_wp2_with fail
          have hC : ∀ wx, Below w1.heap.size w3 wx → (wx.cell? ⟨w.heap.size, 0, none⟩ = some (.int .i64 t) ∧ wx.cell? ⟨w.heap.size, 1, none⟩ = some (.int .i64 cc) ∧ wx.cell? ⟨w.heap.size, 2, none⟩ = some (.int .i64 y)) ∧ Below w1.heap.size w3 wx := fun wx hb =>
            ⟨⟨(hb.cell (p := ⟨w.heap.size, 0, none⟩) HL1.out).trans e0, (hb.cell (p := ⟨w.heap.size, 1, none⟩) HL1.out).trans e1, (hb.cell (p := ⟨w.heap.size, 2, none⟩) HL1.out).trans e2⟩, hb⟩
          have HC := Lib.hid hC
          have hdr : Below w3.heap.size w3 w3.drew := ⟨rfl, rfl, rfl, Nat.le_refl _, fun _ _ => rfl⟩
          have hbs : Below w3.heap.size w3 (w3.drew.alloc (.cells #[.int .i64 t, .int .i64 cc, .int .i64 y] 42)) := hdr.trans (ext_alloc w3.drew _)
          have HSd := Lib.hid (HC.out _ (hdr.mono HL13.out))
          have HSe := Lib.hid (HC.out _ (hbs.mono HL13.out))
          have HO3 := Lib.hid (HO1.out.below (show Below w2.heap.size w2 _ from HD2.out.trans (hbs.mono HD2.out.size)) (Nat.le_refl _))
          have HSz := Lib.hid (Nat.le_trans HL13.out HSe.out.2.size)
          have HNW := Lib.hid (rd_new w3.drew (t, cc, y) 42)
          have HDR := Lib.hid (fun (wx : World) (hb : Below w1.heap.size w3 wx) => drop_rd HA.out (show Below w.heap.size w wx from HW3.out.trans (hb.mono (Nat.le_of_lt HL1.out))) hk)
          clear hC hdr hbs e0 e1 e2
          go_region_held3 (fun wx => (wx.cell? ⟨w.heap.size, 0, none⟩ = some (.int .i64 t) ∧ wx.cell? ⟨w.heap.size, 1, none⟩ = some (.int .i64 cc) ∧ wx.cell? ⟨w.heap.size, 2, none⟩ = some (.int .i64 y)) ∧ Below w1.heap.size w3 wx) (first | exact HSd.out | exact HSe.out | assumption) (first
            | (refine step_app (c := 1) (.tmp 70) (.tmp 72) rfl rfl HO3.out HNW.out (fun h => by cases h) (tk_len (by omega)) (by omega) HSz.out (by rfl) (by rfl) ?_; intro v4 w4 hown4 hb4; have hS4 := HC.out w4 (HSe.out.2.trans hb4))
            | (refine step_app (.tmp 73) (.tmp 76) rfl rfl hown4 (HDR.out _ hS4.2) (drop_no HA.out) (tk_len1 (by omega)) (by omega) (Nat.le_trans HL13.out hS4.2.size) (by rfl) (by rfl) ?_; intro v5 w5 hown5 hb5; have hS5 := HC.out w5 (hS4.2.trans hb5)))
          clear HSd HSe hS4 hb4 hb5 hown4
          go_wp2_with fail
          go_ret
          rw [HPB.out]
          exact ⟨⟨v5, rfl, hown5.lower (Nat.le_of_lt HL1.out)⟩, HW3.out.trans (hS5.2.mono (Nat.le_of_lt HL1.out))⟩
    · obtain rfl : n = k := by omega
      go_wp2_with fail
      go_quiet (fail)
      have hbn := below_drewN HX2.out.1 nq
      clear d0
      generalize wr.drewN nq = w1 at *
      have hbw1 : Below w.heap.size w w1 := H0.out.1.trans (hbn.mono H0.out.1.size)
      have HN1 := Lib.hid hbn
      have HW1 := Lib.hid hbw1
      have HOE := Lib.hid (ownF_empty w1)
      have hrt := ((HA.out.rd.ext (hbw1.trans ((ext_alloc w1 (.cells #[] 42)).mono hbw1.size))).take (k := n) hk)
      rw [flT_take] at hrt
      have HRT := Lib.hid hrt
      have hkc : n ≤ c := by omega
      clear hbn hbw1 hrt
      go_wp2_with (at_builtin; refine list_app HOE.out HRT.out HA.out.no (by simp) (by omega) (by simp) ?_; intro v1 w2 hown1 hb1)
      rw [List.nil_append] at hown1
      have HO1 := Lib.hid hown1
      have hb2 := (ext_alloc w1 (.cells #[] 42)).trans (hb1.mono (Nat.le_refl _))
      have HB2 := Lib.hid hb2
      have hn2 := HN1.out.trans (hb2.mono HN1.out.size)
      have e0 := (hn2.cell (p := ⟨w.heap.size, 0, none⟩) (by rw [H0.out.2.1]; exact Nat.lt_succ_self _)).trans H0.out.2.2.1
      have e1 := (hn2.cell (p := ⟨w.heap.size, 1, none⟩) (by rw [H0.out.2.1]; exact Nat.lt_succ_self _)).trans H0.out.2.2.2.1
      have e2 := (hn2.cell (p := ⟨w.heap.size, 2, none⟩) (by rw [H0.out.2.1]; exact Nat.lt_succ_self _)).trans H0.out.2.2.2.2
      have HN2 := Lib.hid hn2
      have HW2 := Lib.hid (H0.out.1.trans (hn2.mono H0.out.1.size))
      have HGL := Lib.hid (show w.heap.size < w2.heap.size by have := hn2.size; rw [H0.out.2.1] at this; omega)
      clear hown1 hb1 hb2 hn2 HOE HRT
      have HPB := Lib.hid (putB_end (b := (t, cc, y)) HX2.out.2 HLN.out.symm)
      clear hkn
      go_quiet (fail)
      have hd2 : Below w2.heap.size w2 (w2.drewN nq) := below_drewN (Below.refl _ _) nq
      have HD2 := Lib.hid hd2
      have HW3 := Lib.hid (HW2.out.trans (hd2.mono HW2.out.size))
      have HL1 := Lib.hid (show w.heap.size < w1.heap.size by have := HN1.out.size; rw [H0.out.2.1] at this; omega)
      have HL13 := Lib.hid (show w1.heap.size ≤ (w2.drewN nq).heap.size by have := HB2.out.size; exact this)
      replace e0 : (w2.drewN nq).cell? ⟨w.heap.size, 0, none⟩ = some (.int .i64 t) := e0
      replace e1 : (w2.drewN nq).cell? ⟨w.heap.size, 1, none⟩ = some (.int .i64 cc) := e1
      replace e2 : (w2.drewN nq).cell? ⟨w.heap.size, 2, none⟩ = some (.int .i64 y) := e2
      clear hd2
      generalize w2.drewN nq = w3 at *
      go_wp2_with fail
      have hC : ∀ wx, Below w1.heap.size w3 wx → (wx.cell? ⟨w.heap.size, 0, none⟩ = some (.int .i64 t) ∧ wx.cell? ⟨w.heap.size, 1, none⟩ = some (.int .i64 cc) ∧ wx.cell? ⟨w.heap.size, 2, none⟩ = some (.int .i64 y)) ∧ Below w1.heap.size w3 wx := fun wx hb =>
        ⟨⟨(hb.cell (p := ⟨w.heap.size, 0, none⟩) HL1.out).trans e0, (hb.cell (p := ⟨w.heap.size, 1, none⟩) HL1.out).trans e1, (hb.cell (p := ⟨w.heap.size, 2, none⟩) HL1.out).trans e2⟩, hb⟩
      have HC := Lib.hid hC
      have hdr : Below w3.heap.size w3 w3.drew := ⟨rfl, rfl, rfl, Nat.le_refl _, fun _ _ => rfl⟩
      have hbs : Below w3.heap.size w3 (w3.drew.alloc (.cells #[.int .i64 t, .int .i64 cc, .int .i64 y] 42)) := hdr.trans (ext_alloc w3.drew _)
      have HSd := Lib.hid (HC.out _ (hdr.mono HL13.out))
      have HSe := Lib.hid (HC.out _ (hbs.mono HL13.out))
      have HO3 := Lib.hid (HO1.out.below (show Below w2.heap.size w2 _ from HD2.out.trans (hbs.mono HD2.out.size)) (Nat.le_refl _))
      have HSz := Lib.hid (Nat.le_trans HL13.out HSe.out.2.size)
      have HNW := Lib.hid (rd_new w3.drew (t, cc, y) 42)
      have HDR := Lib.hid (fun (wx : World) (hb : Below w1.heap.size w3 wx) => drop_rd0 HA.out (show Below w.heap.size w wx from HW3.out.trans (hb.mono (Nat.le_of_lt HL1.out))))
      clear hC hdr hbs e0 e1 e2
      go_region_held3 (fun wx => (wx.cell? ⟨w.heap.size, 0, none⟩ = some (.int .i64 t) ∧ wx.cell? ⟨w.heap.size, 1, none⟩ = some (.int .i64 cc) ∧ wx.cell? ⟨w.heap.size, 2, none⟩ = some (.int .i64 y)) ∧ Below w1.heap.size w3 wx) (first | exact HSd.out | exact HSe.out | assumption) (first
        | (refine step_app (c := 1) (.tmp 70) (.tmp 72) rfl rfl HO3.out HNW.out (fun h => by cases h) (tk_len (by omega)) (by omega) HSz.out (by rfl) (by rfl) ?_; intro v4 w4 hown4 hb4; have hS4 := HC.out w4 (HSe.out.2.trans hb4))
        | (refine step_app (.tmp 73) (.tmp 76) rfl rfl hown4 (HDR.out _ hS4.2) (drop_no HA.out) (tk_len1 (by omega)) (by omega) (Nat.le_trans HL13.out hS4.2.size) (by rfl) (by rfl) ?_; intro v5 w5 hown5 hb5; have hS5 := HC.out w5 (hS4.2.trans hb5)))
      clear HSd HSe hS4 hb4 hb5 hown4
      go_wp2_with fail
      all_goals (
        go_ret
        rw [HPB.out]
        exact ⟨⟨v5, rfl, hown5.lower (Nat.le_of_lt HL1.out)⟩, HW3.out.trans (hS5.2.mono (Nat.le_of_lt HL1.out))⟩)
end Tm
end Go.Proofs.Ytaockieikcibdaa
