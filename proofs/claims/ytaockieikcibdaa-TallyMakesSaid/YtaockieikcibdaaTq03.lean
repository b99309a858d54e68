/- A function that defers one call of a builtin. A law over any program. tally.Bucket.may, tally.gatherer.buckets. tally.Of, Merge, Coarse: what they compute: plain lists, no program. tally: Check, Sum, Merge, Coarse: what they compute; what the laws say: plain lists, no program. tally.Check. -/
import Derived.Defers
import Derived.Test.YtaockieikcibdaaTq02
import Derived.Shelf.SlSortCmp.QuietGrown
import Derived.BigQuiet
namespace Go.Proofs.Ytaockieikcibdaa
section
variable {P : Program}

theorem step_builtin {fr : Frame} {cs : List Frame} {w w1 : World} {b : Builtin} {ats : Array TypeId} {ty : TypeId} {co : Array Bool} {args : Array Value} {ds : List Deferred} {v : Value} (hm : fr.mode = .returning)
    (hd : fr.defers = ⟨.builtin b ats ty co, args⟩ :: ds) (hi : (invoke (.builtin b ats ty co) args).run P w = .ok (.value v) w1) :
    step P (lone fr cs w) = .next (lone { fr with defers := ds } cs w1) := by
  refine step_lone_go ?_
  simp [stepG, unwind, callDeferred, hm, hd, hi]
/-- What holds at the door. -/
def bodyPostB (P : Program) (fn : Func) (R : Ending → World → Prop) : Exit → Act → World → Prop
  | .normal, a, w | .ret, a, w => ∃ b ats ty co args v0 w1 v, a.defers = [⟨.builtin b ats ty co, args⟩] ∧ (invoke (.builtin b ats ty co) args).run P w = .ok (.value v0) w1 ∧ (results fn a.tmps).run P w1 = .ok v w1 ∧ R (.returned v) w1
  | _, _, _ => False
theorem leaves_builtin {fn : Func} {R : Ending → World → Prop} {a : Act} {w : World} {fr : Frame} {cs : List Frame} (hm : fr.mode = .returning) (hd : fr.defers = a.defers) (ht : fr.tmps = a.tmps) (hf : P.funcs[fr.fn]? = some fn) (hk : fr.kind = .normal)
    (h : bodyPostB P fn R .ret a w) : ∃ e w' fr', R e w' ∧ Comes P (lone fr cs w) (lone fr' cs w') e ∧ fr'.fn = fr.fn ∧ fr'.leaving P w' e := by
  obtain ⟨b, ats, ty, co, args, v0, w1, v, hds, hi, hr, hR⟩ := h
  have h1 := step_builtin (cs := cs) hm (hd.trans hds) hi
  exact ⟨.returned v, w1, { fr with defers := [] }, hR, Comes.of_steps (.one h1) (Steps.refl P _), rfl, hm, rfl, hk, fn, hf, by rw [show ({ fr with defers := [] } : Frame).tmps = a.tmps from ht]; exact hr⟩
theorem calls_of_wp_builtin {f : FuncId} {fn : Func} {c : Code} {args : Array Value} {w : World} {R : Ending → World → Prop} (hf : P.funcs[f]? = some fn) (hb : fn.body = some c)
    (h : c.wp P (bodyPostB P fn R) { tmps := args ++ Array.replicate (fn.ntmps - args.size) undef, defers := [] } w) : Calls P f args w R := by
  intro cs
  let b : Frame := { (default : Frame) with fn := f, kind := .normal }
  have henter : Frame.enter P f args .normal = b.at { tmps := args ++ Array.replicate (fn.ntmps - args.size) undef, defers := [] } [.code c] := by
    simp [Frame.enter, Frame.at, hf, hb, b]
  obtain ⟨e, a', w', hq, harr⟩ := h b [] cs
  rw [← henter] at harr
  cases e with
  | normal =>
    obtain ⟨e', w'', fr', hR, hs, hfn, hl⟩ := leaves_builtin (fr := { b.at a' [] with mode := .returning }) (cs := cs) rfl rfl rfl hf rfl hq
    exact ⟨e', w'', fr', hR, Comes.of_steps (Steps.trans harr (.one step_end)) hs, hfn, hl⟩
  | ret =>
    obtain ⟨todo, hs₀⟩ := harr
    obtain ⟨e', w'', fr', hR, hs, hfn, hl⟩ := leaves_builtin (fr := { b.at a' todo with mode := .returning }) (cs := cs) rfl rfl rfl hf rfl hq
    exact ⟨e', w'', fr', hR, Comes.of_steps hs₀ hs, hfn, hl⟩
  | panic chain => exact hq.elim
  | exit id => exact hq.elim
  | goto l => exact hq.elim
  | outgrown => exact hq.elim
end
end Go.Proofs.Ytaockieikcibdaa
namespace Go.Proofs.Ytaockieikcibdaa
namespace Ta
open Go.RowKit Go.Maps

/-- May a bucket be? -/
def okB (x : Bu) : Bool := decide (0 ≤ x.1 ∧ x.1 ≤ 1000000000 ∧ 1 ≤ x.2.1 ∧ x.2.1 ≤ 1000000000000 ∧ 0 ≤ x.2.2 ∧ x.2.2 ≤ 1000000000000000)
theorem okB_iff (x : Bu) : okB x = true ↔ 0 ≤ x.1 ∧ x.1 ≤ 1000000000 ∧ 1 ≤ x.2.1 ∧ x.2.1 ≤ 1000000000000 ∧ 0 ≤ x.2.2 ∧ x.2.2 ≤ 1000000000000000 := by simp [okB]
set_option maxHeartbeats 3200000 in
theorem may_al (a c y : Int) (w : World) :
    Calls Try.prog 35 #[.agg #[.int .i64 a, .int .i64 c, .int .i64 y]] w fun e w' => e = .returned (.bool (okB (a, c, y))) ∧ w' = w.alloc (.cells #[.int .i64 a, .int .i64 c, .int .i64 y] 40) := by
  have mixed : Try.prog.follows .mixedOrders = true := by kernel_rfl
  by_cases h : okB (a, c, y) = true
  · rw [h]
    rw [okB_iff] at h
    simp only at h
    have h1 : 0 ≤ a := h.1
    have h2 : a ≤ 1000000000 := h.2.1
    have h3 : 1 ≤ c := h.2.2.1
    have h4 : c ≤ 1000000000000 := h.2.2.2.1
    have h5 : 0 ≤ y := h.2.2.2.2.1
    have h6 : y ≤ 1000000000000000 := h.2.2.2.2.2
    clear h
    go_enter Try.func35, Try.ntmps35
    go_wp2_with fail
    go_ret
    exact ⟨rfl, rfl⟩
  · have hf : okB (a, c, y) = false := by simpa using h
    rw [hf]
    rw [okB_iff] at h
    simp only at h
    clear hf
    by_cases h1 : 0 ≤ a
    · by_cases h2 : a ≤ 1000000000
      · by_cases h3 : 1 ≤ c
        · by_cases h4 : c ≤ 1000000000000
          · by_cases h5 : 0 ≤ y
            · have h6 : ¬ y ≤ 1000000000000000 := by omega
              clear h
              go_enter Try.func35, Try.ntmps35
              go_wp2_with fail
              go_ret
              exact ⟨rfl, rfl⟩
            · clear h
              go_enter Try.func35, Try.ntmps35
              go_wp2_with fail
              go_ret
              exact ⟨rfl, rfl⟩
          · clear h
            go_enter Try.func35, Try.ntmps35
            go_wp2_with fail
            go_ret
            exact ⟨rfl, rfl⟩
        · clear h
          go_enter Try.func35, Try.ntmps35
          go_wp2_with fail
          go_ret
          exact ⟨rfl, rfl⟩
      · clear h
        go_enter Try.func35, Try.ntmps35
        go_wp2_with fail
        go_ret
        exact ⟨rfl, rfl⟩
    · clear h
      go_enter Try.func35, Try.ntmps35
      go_wp2_with fail
      go_ret
      exact ⟨rfl, rfl⟩
theorem may_any (a c y : Int) (w : World) :
    Calls Try.prog 35 #[.agg #[.int .i64 a, .int .i64 c, .int .i64 y]] w fun e w' => e = .returned (.bool (okB (a, c, y))) ∧ Below w.heap.size w w' :=
  (may_al a c y w).mono fun _ _ ⟨h1, h2⟩ => ⟨h1, by rw [h2]; exact ext_alloc w _⟩

/-- What gatherer.buckets tells. -/
def bukE (S : List Bu) : Int := if 1000 < S.length then 3 else if S.all okB = true then 0 else 3
def bukL (S : List Bu) : List Bu := if bukE S = 0 then S else []
theorem bukE_big {S : List Bu} (h : 1000 < S.length) : bukE S = 3 := if_pos h
theorem bukE_no {S : List Bu} {k : Nat} {x : Bu} (h : S[k]? = some x) (hx : okB x = false) : bukE S = 3 := by
  unfold bukE
  split
  · rfl
  · rw [if_neg]
    intro hh
    have := List.all_eq_true.1 hh x (List.mem_of_getElem? h)
    rw [hx] at this; cases this
theorem bukE_yes {S : List Bu} (h : S.length ≤ 1000) (hx : ∀ k x, k < S.length → S[k]? = some x → okB x = true) : bukE S = 0 := by
  unfold bukE
  rw [if_neg (by omega), if_pos]
  rw [List.all_eq_true]
  intro x hm
  obtain ⟨k, hk, rfl⟩ := List.getElem_of_mem hm
  exact hx k _ hk (List.getElem?_eq_getElem hk)
theorem bukL_no {S : List Bu} (h : bukE S = 3) : bukL S = [] := by unfold bukL; rw [h]; rfl
theorem bukL_yes {S : List Bu} (h : bukE S = 0) : bukL S = S := by unfold bukL; rw [h]; rfl

/-- The keys of a map of buckets, in order. -/
theorem keys_sorted {S : List Bu} (ha : Asc S) {ss : List Int} (h : ss.Perm (intKeys (mD S))) : ss.mergeSort (fun x y => decide (x ≤ y)) = S.map (·.1) := by
  have e : intKeys (mD S) = S.map (·.1) := by
    show (S.map bD).map (fun p => Go.intOf p.1) = _
    rw [List.map_map]; rfl
  rw [e] at h
  refine List.Perm.eq_of_pairwise (le := fun x y => x ≤ y) (fun x y _ _ h1 h2 => Int.le_antisymm h1 h2) ?_ ?_ ((List.mergeSort_perm ss _).trans h)
  · have := List.pairwise_mergeSort (le := fun x y : Int => decide (x ≤ y)) (fun a b c h1 h2 => by simp only [decide_eq_true_eq] at *; omega) (fun a b => by simp only [Bool.or_eq_true, decide_eq_true_eq]; omega) ss
    exact this.imp fun h => by simpa using h
  · rw [List.pairwise_map]
    exact ha.imp fun h => Int.le_of_lt h
theorem lok_at : ∀ (S : List Bu) (k : Nat) (x : Bu), Asc S → S[k]? = some x → lokB S x.1 = x
  | [], k, x, _, h => by simp at h
  | y :: l, 0, x, _, h => by
    simp at h; subst h
    rw [lokB, if_pos rfl]
  | y :: l, k + 1, x, ha, h => by
    have hl := List.pairwise_cons.1 ha
    have hx : l[k]? = some x := by simpa using h
    have := hl.1 x (List.mem_of_getElem? hx)
    rw [lokB, if_neg (by omega)]
    exact lok_at l k x hl.2 hx
theorem own_kept {w w' : World} {b B : Nat} {v : Value} {l : List Bu} (h : OwnT w B v l) (hb : b < B) (hg : w.grownBy w' (some b)) : OwnT w' B v l := by
  refine ⟨h.1, ?_⟩
  rcases h.2 with h2 | ⟨g, cap, cur, e1, h3, h4, h5⟩
  · exact .inl h2
  · refine .inr ⟨g, cap, cur, e1, h3, ?_, h5⟩
    rw [hg.block g (Array.getElem?_eq_some_iff.1 h4).1 (by intro e; cases e; omega)]
    exact h4
/-- The door: the map is made empty. -/
theorem clear_run {w : World} {b : Nat} {es : Array MapEntry} {clock : Nat} (hb : w.heap[b]? = some (.map es clock)) (ty : TypeId) (co : Array Bool) :
    (invoke (.builtin .clear #[58] ty co) #[.map (some b)]).run Try.prog w = .ok (.value (.tuple #[])) (ChangeMaps.setBlock w b (.map #[] clock)) := by
  have hu := run_underlying (P := Try.prog) Try.underlying58
  simp [invoke, builtin, Builtin.clear_, hu, MapKept.run_getObj_map hb, MapKept.run_setObj_map _ hb, Result.andThen, ChangeMaps.setBlock]
theorem clear_grown {w : World} {b : Nat} {es : Array MapEntry} {clock : Nat} (hb : w.heap[b]? = some (.map es clock)) : w.grownBy (ChangeMaps.setBlock w b (.map #[] clock)) (some b) :=
  ⟨rfl, rfl, rfl, by simp [ChangeMaps.setBlock], fun i _ hi => ChangeMaps.heap_setBlock_other hb _ (fun e => hi (by rw [e]))⟩
end Ta
end Go.Proofs.Ytaockieikcibdaa
namespace Go.Proofs.Ytaockieikcibdaa
namespace Ta

theorem gat_snoc (L : List Bu) (b : Bu) : gat (L ++ [b]) = putB (gat L) b := by unfold gat; rw [List.foldl_append]; rfl
def nn (x : Bu) : Prop := 0 ≤ x.2.1 ∧ 0 ≤ x.2.2
theorem sum_nn : ∀ S : List Bu, (∀ x ∈ S, nn x) → 0 ≤ sumC S ∧ 0 ≤ sumY S
  | [], _ => by simp [sumC, sumY]
  | y :: l, h => by
    have h1 := h y (List.mem_cons_self ..)
    have h2 := sum_nn l fun x hx => h x (List.mem_cons_of_mem _ hx)
    unfold sumC sumY nn at *
    simp only [List.map_cons, List.sum_cons]
    omega
theorem gat_nn {L : List Bu} (h : ∀ x ∈ L, nn x) : ∀ x ∈ gat L, nn x := fun x hx =>
  (gat_all (fun _ => True) (fun a b => 0 ≤ a ∧ 0 ≤ b) (fun a b c d h1 h2 => by omega) L (fun y hy => ⟨trivial, h y hy⟩) x hx).2
theorem gat_time {L : List Bu} (h : ∀ x ∈ L, 0 ≤ x.1 ∧ x.1 ≤ 1000000000) : ∀ x ∈ gat L, 0 ≤ x.1 ∧ x.1 ≤ 1000000000 := fun x hx =>
  (gat_all (fun t => 0 ≤ t ∧ t ≤ 1000000000) (fun _ _ => True) (fun _ _ _ _ _ _ => trivial) L (fun y hy => ⟨h y hy, trivial⟩) x hx).1
theorem sum_le {S : List Bu} (C Y : Nat) (h : ∀ x ∈ S, x.2.1 ≤ C ∧ x.2.2 ≤ Y) : sumC S ≤ S.length * C ∧ sumY S ≤ S.length * Y := by
  induction S with
  | nil => simp [sumC, sumY]
  | cons y l ih =>
    have h1 := h y (List.mem_cons_self ..)
    have h2 := ih fun x hx => h x (List.mem_cons_of_mem _ hx)
    unfold sumC sumY at *
    simp only [List.map_cons, List.sum_cons, List.length_cons]
    have e1 : ((l.length + 1 : Nat) : Int) * (C : Int) = l.length * C + C := by push_cast; rw [Int.add_mul, Int.one_mul]
    have e2 : ((l.length + 1 : Nat) : Int) * (Y : Int) = l.length * Y + Y := by push_cast; rw [Int.add_mul, Int.one_mul]
    omega
/-- A record's bucket. -/
def item (width : Int) (r : Int × Int × ByteArray) : Bu := (r.2.1 - r.2.1 % width, 1, (r.2.2.size : Int))
def items (l : List (Int × Int × ByteArray)) (width : Int) : List Bu := l.map (item width)
theorem items_take {l : List (Int × Int × ByteArray)} {width : Int} {k : Nat} {r : Int × Int × ByteArray} (h : l[k]? = some r) : items (l.take (k + 1)) width = items (l.take k) width ++ [item width r] := by
  unfold items
  rw [List.take_add_one, h]; simp
def wideB (n : Int) : Bool := decide (1 ≤ n ∧ n ≤ 1000000000)
theorem wideB_iff (n : Int) : wideB n = true ↔ 1 ≤ n ∧ n ≤ 1000000000 := by simp [wideB]
/-- A time, made less to a multiple of a width. -/
def down (width t : Int) : Int := t - t % width
theorem down_bd {width t : Int} (h : 1 ≤ width) (h0 : 0 ≤ t) (h1 : t ≤ 1000000000) : 0 ≤ down width t ∧ down width t ≤ 1000000000 ∧ down width t ≤ t ∧ t - down width t < width := by
  unfold down
  have e1 := Int.emod_nonneg t (show width ≠ 0 by omega)
  have e2 := Int.emod_lt_of_pos t (show 0 < width by omega)
  have e3 := Int.mul_ediv_add_emod t width
  have e4 : 0 ≤ t / width := Int.ediv_nonneg h0 (by omega)
  have e5 : 0 ≤ width * (t / width) := Int.mul_nonneg (by omega) e4
  omega
theorem item_wid (width : Int) (r : Int × Int × ByteArray) : item width r = wid (down width) (r.2.1, 1, (r.2.2.size : Int)) := rfl
end Ta
end Go.Proofs.Ytaockieikcibdaa
namespace Go.Proofs.Ytaockieikcibdaa
namespace Ta

/-- Are times in order, as a loop looks at them? -/
def ascAt (S : List Bu) (k : Nat) : Prop := ∀ j x y, j + 1 < k → S[j]? = some x → S[j + 1]? = some y → x.1 < y.1
theorem asc_of_at : ∀ (S : List Bu), ascAt S S.length → Asc S
  | [], _ => List.Pairwise.nil
  | [x], _ => by simp [Asc]
  | x :: y :: l, h => by
    have ih := asc_of_at (y :: l) (fun j a b hj ha hb => h (j + 1) a b (by simp only [List.length_cons] at *; omega) (by simpa using ha) (by simpa using hb))
    have h1 := h 0 x y (by simp) rfl rfl
    unfold Asc at ih ⊢
    rw [List.pairwise_cons]
    refine ⟨fun z hz => ?_, ih⟩
    rcases List.mem_cons.1 hz with rfl | hz
    · exact h1
    · have := (List.pairwise_cons.1 ih).1 z hz; omega
theorem asc_at {S : List Bu} (h : Asc S) (j : Nat) (x y : Bu) (hx : S[j]? = some x) (hy : S[j + 1]? = some y) : x.1 < y.1 := by
  obtain ⟨h1, rfl⟩ := List.getElem?_eq_some_iff.1 hx
  obtain ⟨h2, rfl⟩ := List.getElem?_eq_some_iff.1 hy
  exact List.pairwise_iff_getElem.1 h j (j + 1) h1 h2 (by omega)

theorem down_down {a b t : Int} (ha : 1 ≤ a) (_hb : 1 ≤ b) (_ht : 0 ≤ t) : down (a * b) (down a t) = down (a * b) t := by
  unfold down
  have e1 := Int.mul_ediv_add_emod t a
  have hd : t - t % a = a * (t / a) := by omega
  rw [hd]
  have e2 := Int.mul_ediv_add_emod (t / a) b
  have e3 : a * (t / a) % (a * b) = a * (t / a % b) := Int.mul_emod_mul_of_pos _ _ (by omega)
  have e4 := Int.mul_ediv_add_emod t (a * b)
  have e5 : t / (a * b) = t / a / b := by rw [Int.ediv_ediv_of_nonneg (by omega)]
  have e6 : a * (t / a) = a * (b * (t / a / b)) + a * (t / a % b) := by rw [← Int.mul_add, e2]
  have e7 : a * b * (t / (a * b)) = a * (b * (t / a / b)) := by rw [e5, Int.mul_assoc]
  omega
theorem down_mod {w t : Int} (_hw : 1 ≤ w) : down w t % w = 0 := by
  unfold down
  have e1 := Int.mul_ediv_add_emod t w
  have hd : t - t % w = w * (t / w) := by omega
  rw [hd, Int.mul_emod_right]
/-- What lies within a bucket. -/
theorem down_iff {w t s : Int} (hw : 1 ≤ w) (hs : s % w = 0) : down w t = s ↔ s ≤ t ∧ t - s < w := by
  have e1 := Int.emod_nonneg t (show w ≠ 0 by omega)
  have e2 := Int.emod_lt_of_pos t (show 0 < w by omega)
  unfold down
  constructor
  · intro h; omega
  · intro ⟨h1, h2⟩
    have h3 : t % w = (t - s) % w := by
      rw [Int.sub_emod, hs, Int.sub_zero, Int.emod_emod_of_dvd _ (Int.dvd_refl w)]
    rw [h3, Int.emod_eq_of_lt (by omega) h2]; omega

/-- Does a record's time lie within? -/
def inB (t width : Int) (r : Int × Int × ByteArray) : Bool := decide (t ≤ r.2.1 ∧ r.2.1 - t < width)
def cntB (l : List (Int × Int × ByteArray)) (t width : Int) : Nat := (l.filter (inB t width)).length
theorem cnt_take {l : List (Int × Int × ByteArray)} {t width : Int} {k : Nat} {r : Int × Int × ByteArray} (h : l[k]? = some r) : cntB (l.take (k + 1)) t width = cntB (l.take k) t width + (if inB t width r = true then 1 else 0) := by
  unfold cntB
  rw [List.take_add_one, h, List.filter_append, List.length_append]
  congr 1
  show (List.filter _ [r]).length = _
  rw [List.filter_cons]
  split <;> rfl
theorem tot_items {width t : Int} (hw : 1 ≤ width) (ht : t % width = 0) : ∀ l : List (Int × Int × ByteArray), (tot (items l width) t = none ∧ cntB l t width = 0) ∨ ∃ y, tot (items l width) t = some ((cntB l t width : Int), y)
  | [] => .inl ⟨rfl, rfl⟩
  | r :: l => by
    have e : cntB (r :: l) t width = (if inB t width r = true then 1 else 0) + cntB l t width := by
      unfold cntB
      rw [List.filter_cons]
      split
      · rw [List.length_cons]; omega
      · omega
    have e2 : tot (items (r :: l) width) t = addO (one (down width r.2.1) (1, (r.2.2.size : Int)) t) (tot (items l width) t) := rfl
    rw [e, e2]
    by_cases h : inB t width r = true
    · have hd : down width r.2.1 = t := (down_iff hw ht).2 (of_decide_eq_true h)
      rw [if_pos h, hd, one_yes]
      right
      rcases tot_items hw ht l with ⟨h1, h2⟩ | ⟨y, h1⟩
      · rw [h1, h2]; exact ⟨_, rfl⟩
      · rw [h1]; exact ⟨_, by rw [Int.natCast_add]; rfl⟩
    · have hd : down width r.2.1 ≠ t := fun hh => h (decide_eq_true ((down_iff hw ht).1 hh))
      rw [if_neg h, one_no hd, Nat.zero_add, none_addO]
      exact tot_items hw ht l
/-- A bucket of records has as many as lie within. -/
theorem cnt_gat {width : Int} (hw : 1 ≤ width) {l : List (Int × Int × ByteArray)} {x : Bu} (hx : x ∈ gat (items l width)) : x.1 % width = 0 ∧ x.2.1 = (cntB l x.1 width : Int) := by
  have h1 : x.1 % width = 0 := (gat_all (fun t => t % width = 0) (fun _ _ => True) (fun _ _ _ _ _ _ => trivial) (items l width) (fun y hy => by
    obtain ⟨r, -, rfl⟩ := List.mem_map.1 hy
    exact ⟨down_mod hw, trivial⟩) x hx).1
  have h2 := mem_gat hx
  refine ⟨h1, ?_⟩
  rcases tot_items hw h1 l with ⟨h3, -⟩ | ⟨y, h3⟩
  · rw [h3] at h2; cases h2
  · rw [h3] at h2; exact (congrArg Prod.fst (Option.some.inj h2)).symm
def bytesR (l : List (Int × Int × ByteArray)) : Int := (l.map fun r => (r.2.2.size : Int)).sum
theorem items_sums (l : List (Int × Int × ByteArray)) (width : Int) : sumC (items l width) = (l.length : Int) ∧ sumY (items l width) = bytesR l := by
  induction l with
  | nil => simp [items, sumC, sumY, bytesR]
  | cons r l ih =>
    unfold items sumC sumY bytesR at *
    simp only [List.map_cons, List.sum_cons, List.length_cons, ih.1, ih.2, item]
    exact ⟨by push_cast; omega, trivial⟩
theorem items_wide {a b : Int} (ha : 1 ≤ a) (hb : 1 ≤ b) {l : List (Int × Int × ByteArray)} (h : ∀ r ∈ l, 0 ≤ r.2.1) : (items l a).map (wid (down (a * b))) = items l (a * b) := by
  unfold items
  rw [List.map_map]
  refine List.map_congr_left fun r hr => ?_
  show (down (a * b) (down a r.2.1), _) = _
  rw [down_down ha hb (h r hr)]; rfl
theorem items_append (a b : List (Int × Int × ByteArray)) (w : Int) : items (a ++ b) w = items a w ++ items b w := List.map_append
/-- Each bucket's numbers are no greater than their sums. -/
theorem mem_sum {S : List Bu} (h : ∀ x ∈ S, nn x) {x : Bu} (hx : x ∈ S) : x.2.1 ≤ sumC S ∧ x.2.2 ≤ sumY S := by
  induction S with
  | nil => cases hx
  | cons y l ih =>
    have hl := fun x hx => h x (List.mem_cons_of_mem y hx)
    have h1 := h y (List.mem_cons_self ..)
    have h2 := sum_nn l hl
    rcases List.mem_cons.1 hx with rfl | hx
    · unfold sumC sumY nn at *
      simp only [List.map_cons, List.sum_cons]; omega
    · have := ih hl hx
      unfold sumC sumY nn at *
      simp only [List.map_cons, List.sum_cons]; omega
end Ta
end Go.Proofs.Ytaockieikcibdaa
namespace Go.Proofs.Ytaockieikcibdaa
namespace Ta
open Go.RowKit Go.Maps Go.Sort

theorem add_block (a : Addr) (n : Nat) : (a.add n).block = a.block := by unfold Addr.add; split <;> rfl
theorem may_grow {a c y : Int} {v : Bool} (h : okB (a, c, y) = v) (w : World) :
    Calls Try.prog 35 #[.agg #[.int .i64 a, .int .i64 c, .int .i64 y]] w fun e w' => e = .returned (.bool v) ∧ ∃ q os', w' = grow (w.drewN q) os' :=
  (may_al a c y w).mono fun _ _ h2 => ⟨by rw [h2.1, h], 0, #[.cells #[.int .i64 a, .int .i64 c, .int .i64 y] 40], by rw [h2.2, alloc_eq_grow]; rfl⟩
theorem below_grow (w w1 : World) (n : Nat) (os : Array Obj) (h : Below w.heap.size w w1) : Below w.heap.size w (grow (w1.drewN n) os) := by
  refine h.trans ((⟨rfl, rfl, rfl, ?_, fun k hk => ?_⟩ : Below w1.heap.size w1 (grow (w1.drewN n) os)).mono h.size)
  · simp [grow]
  · simp [grow, Array.getElem?_append, hk]

/-- May buckets be? -/
def ckP (S : List Bu) : Prop := S.length ≤ 1000 ∧ (∀ j x, j < S.length → S[j]? = some x → okB x = true) ∧ ascAt S S.length
open Classical in
noncomputable def chk (S : List Bu) : Int := if ckP S then 0 else 2
theorem chk_yes {S : List Bu} (h : ckP S) : chk S = 0 := by unfold chk; exact if_pos h
theorem chk_no {S : List Bu} (h : ¬ ckP S) : chk S = 2 := by unfold chk; exact if_neg h
theorem chk_bad {S : List Bu} {k : Nat} {x : Bu} (h : S[k]? = some x) (hx : okB x = false) : chk S = 2 := by
  refine chk_no fun ⟨_, h1, _⟩ => ?_
  have := h1 k x (List.getElem?_eq_some_iff.1 h).1 h
  rw [hx] at this; cases this
theorem chk_asc {S : List Bu} {k : Nat} {x y : Bu} (h : S[k]? = some x) (h' : S[k + 1]? = some y) (hx : ¬ x.1 < y.1) : chk S = 2 :=
  chk_no fun ⟨_, _, h1⟩ => hx (h1 k x y (List.getElem?_eq_some_iff.1 h').1 h h')
theorem asc_snoc {S : List Bu} {k : Nat} (h : ascAt S (k + 1)) {x y : Bu} (hx : S[k]? = some x) (hy : S[k + 1]? = some y) (hxy : x.1 < y.1) : ascAt S (k + 1 + 1) := by
  intro j a b hj ha hb
  rcases Nat.lt_or_ge (j + 1) (k + 1) with h1 | h1
  · exact h j a b h1 ha hb
  · obtain rfl : j = k := by omega
    rw [hx] at ha; cases ha
    rw [hy] at hb; cases hb
    exact hxy
set_option maxHeartbeats 6400000 in
set_option maxRecDepth 100000 in
theorem check_any (A : Option Addr) (n c : Nat) (S : List Bu) (w : World) (hrd : Rd w w.heap.size 3 A n (flT S)) (hn : n ≤ 1000000) :
    Calls Try.prog 20 #[.slice A n c] w fun e w' => e = .returned (.int .i64 (chk S)) ∧ Below w.heap.size w w' := by
  have mixed : Try.prog.follows .mixedOrders = true := by kernel_rfl
  have hln := rdT_len hrd
  by_cases hb : 1000 < n
  · have HF := Lib.hid (chk_no (S := S) (fun h => by have := h.1; omega))
    have hb2 : (1000 : Int) < (n : Int) := by omega
    clear hb hrd hln
    go_enter Try.func20, Try.ntmps20
    go_wp2_with fail
    go_ret
    exact ⟨by rw [HF.out]; rfl, Below.refl _ _⟩
  · have HR := Lib.hid hrd
    have HLN := Lib.hid hln
    have hb2 : ¬ (1000 : Int) < (n : Int) := by omega
    have hnm : n ≤ 1000 := by omega
    clear hrd hln hb hn
    go_enter Try.func20, Try.ntmps20
    go_wp2_with fail
    clear hb2
    go_loopw [10] (fun i wr => ∃ k : Nat, i = .int .i64 (k : Int) ∧ k ≤ n ∧ Hid (Below w.heap.size w wr ∧ (∀ j x, j < k → S[j]? = some x → okB x = true) ∧ ascAt S k)) (fun i _ => n - (intOf i).toNat)
    case atStart => exact ⟨0, by go_num, by omega, Below.refl _ _, fun j r h => absurd h (by omega), fun j x y h => absurd h (by omega)⟩
    case round =>
      obtain ⟨k, rfl, hk, HX⟩ := hrel
      by_cases hkn : k < n
      · obtain ⟨ad, t, cc, y, rfl, hbk, hx, hc0, hc1, hc2⟩ := recT (HR.out.below HX.out.1) hkn
        have HX2 := Lib.hid HX.out
        have HXK := Lib.hid hx
        have HBK := Lib.hid hbk
        clear hx hbk HX
        have hall : okB (t, cc, y) = true → ∀ j x, j < k + 1 → S[j]? = some x → okB x = true := by
          intro hok j x hj hx
          rcases Nat.lt_or_ge j k with h | h
          · exact HX2.out.2.1 j x h hx
          · obtain rfl : j = k := by omega
            rw [HXK.out] at hx; cases hx; exact hok
        have HALL := Lib.hid hall
        clear hall
        by_cases hk0 : ¬ 0 < k
        · have hz : decide (0 < k) = false := decide_eq_false hk0
          have HK0 := Lib.hid hk0
          clear hk0
          go_wp2_with fail
          generalize hW1 : wr.alloc (.cells #[.int .i64 t, .int .i64 cc, .int .i64 y] 40) = w1
          have HW1 := Lib.hid hW1
          clear hW1 hc0 hc1 hc2
          generalize hG : wr.heap.size = G
          have HG := Lib.hid hG
          clear hG
          have hgs : w1.heap.size = G + 1 := by rw [← HW1.out, ← HG.out]; simp
          have m0 : ∀ n' os', (grow (w1.drewN n') os').cell? ⟨G, 0, none⟩ = some (.int .i64 t) := cell_grown (by rw [hgs]; exact Nat.lt_succ_self _) (by rw [← HW1.out, ← HG.out, World.cell?_alloc_new]; rfl)
          have m1 : ∀ n' os', (grow (w1.drewN n') os').cell? ⟨G, 1, none⟩ = some (.int .i64 cc) := cell_grown (by rw [hgs]; exact Nat.lt_succ_self _) (by rw [← HW1.out, ← HG.out, World.cell?_alloc_new]; rfl)
          have m2 : ∀ n' os', (grow (w1.drewN n') os').cell? ⟨G, 2, none⟩ = some (.int .i64 y) := cell_grown (by rw [hgs]; exact Nat.lt_succ_self _) (by rw [← HW1.out, ← HG.out, World.cell?_alloc_new]; rfl)
          have HBQ := Lib.hid (fun nq osq => below_grow w w1 nq osq (by rw [← HW1.out]; exact HX2.out.1.trans ((ext_alloc wr _).mono HX2.out.1.size)))
          clear hgs
          by_cases hok : okB (t, cc, y) = true
          · have HS1 := Lib.hid (fun w => may_grow (hok) w)
            have HAL := Lib.hid (HALL.out hok)
            clear hok HALL
            refine wp_region_quiet_grown (by assumption) (by kernel_rfl) ?_
            iterate 6 (first | go_big_quiet_skip | quiet_step (first | (go_at_call 35; refine Calls.grown_of (HS1.out _))))
            clear hz
            repeat (first | go_big_quiet_skip | quiet_step (fail))
            refine wpQuiet_nil ?_
            intro _ hw'
            obtain ⟨⟨nq, osq⟩, hw''⟩ := hw'
            subst hw''
            go_wp2_with fail
            refine ⟨?_, by simp [intOf]; omega⟩
            exact ⟨k + 1, by go_num, by omega, HBQ.out _ _, HAL.out, fun j x y h => absurd h (by have := HK0.out; omega)⟩
          · have hf : okB (t, cc, y) = false := by simpa using hok
            have HS1 := Lib.hid (fun w => may_grow hf w)
            have HE := Lib.hid (chk_bad HXK.out hf)
            clear hf hok
            refine wp_region_quiet_grown (by assumption) (by kernel_rfl) ?_
            iterate 6 (first | go_big_quiet_skip | quiet_step (first | (go_at_call 35; refine Calls.grown_of (HS1.out _))))
            clear hz
            repeat (first | go_big_quiet_skip | quiet_step (fail))
            refine wpQuiet_nil ?_
            intro _ hw'
            obtain ⟨⟨nq, osq⟩, hw''⟩ := hw'
            subst hw''
            go_wp2_with fail
            go_ret
            exact ⟨by rw [HE.out]; rfl, HBQ.out _ _⟩
        · obtain ⟨m, rfl⟩ : ∃ m, k = m + 1 := ⟨k - 1, by omega⟩
          clear hk0
          obtain ⟨ad', t', cc', y', hA', -, hx', hd0, -, -⟩ := recT (HR.out.below HX2.out.1) (show m < n by omega)
          obtain rfl : ad = ad' := by simpa using hA'
          have HXM := Lib.hid hx'
          clear hA' hx'
          have i1 : (0 : Int) ≤ (m : Int) := by omega
          have i2 : (m : Int) < (n : Int) := by omega
          have i3 : IntKind.i64.wrap (m : Int) = (m : Int) := by rw [IntKind.wrap_i64]; omega
          have i4 : ((m : Int)).toNat = m := by omega
          go_wp2_with fail
          generalize hW1 : wr.alloc (.cells #[.int .i64 t, .int .i64 cc, .int .i64 y] 40) = w1
          have HW1 := Lib.hid hW1
          clear hW1 hc0 hc1 hc2
          generalize hG : wr.heap.size = G
          have HG := Lib.hid hG
          clear hG
          have hgs : w1.heap.size = G + 1 := by rw [← HW1.out, ← HG.out]; simp
          have m0 : ∀ n' os', (grow (w1.drewN n') os').cell? ⟨G, 0, none⟩ = some (.int .i64 t) := cell_grown (by rw [hgs]; exact Nat.lt_succ_self _) (by rw [← HW1.out, ← HG.out, World.cell?_alloc_new]; rfl)
          have m1 : ∀ n' os', (grow (w1.drewN n') os').cell? ⟨G, 1, none⟩ = some (.int .i64 cc) := cell_grown (by rw [hgs]; exact Nat.lt_succ_self _) (by rw [← HW1.out, ← HG.out, World.cell?_alloc_new]; rfl)
          have m2 : ∀ n' os', (grow (w1.drewN n') os').cell? ⟨G, 2, none⟩ = some (.int .i64 y) := cell_grown (by rw [hgs]; exact Nat.lt_succ_self _) (by rw [← HW1.out, ← HG.out, World.cell?_alloc_new]; rfl)
          have m3 : ∀ n' os', (grow (w1.drewN n') os').cell? (ad.add (m * 3)) = some (.int .i64 t') := cell_grown (by rw [hgs, add_block]; have := HBK.out; have := HX2.out.1.size; have := HG.out; omega) (by rw [← HW1.out, World.cell?_alloc_lt _ _ _ (by rw [add_block]; have := HBK.out; have := HX2.out.1.size; omega)]; exact hd0)
          have HBQ := Lib.hid (fun nq osq => below_grow w w1 nq osq (by rw [← HW1.out]; exact HX2.out.1.trans ((ext_alloc wr _).mono HX2.out.1.size)))
          clear hgs hd0
          by_cases hok : okB (t, cc, y) = true
          · by_cases hlt : t' < t
            · have HS1 := Lib.hid (fun w => may_grow hok w)
              have HAL := Lib.hid (HALL.out hok)
              have HSN := Lib.hid (asc_snoc HX2.out.2.2 HXM.out HXK.out hlt)
              have hlt2 : decide (t ≤ t') = false := decide_eq_false (by omega)
              clear hok HALL hlt
              refine wp_region_quiet_grown (by assumption) (by kernel_rfl) ?_
              repeat (first | go_big_quiet_skip | quiet_step (first | (go_at_call 35; refine Calls.grown_of (HS1.out _))))
              refine wpQuiet_nil ?_
              intro _ hw'
              obtain ⟨⟨nq, osq⟩, hw''⟩ := hw'
              subst hw''
              go_wp2_with fail
              refine ⟨?_, by simp [intOf]; omega⟩
              exact ⟨m + 1 + 1, by go_num, by omega, HBQ.out _ _, HAL.out, HSN.out⟩
            · have HS1 := Lib.hid (fun w => may_grow hok w)
              have HE := Lib.hid (chk_asc HXM.out HXK.out hlt)
              have hlt2 : t ≤ t' := by omega
              clear hok HALL hlt
              refine wp_region_quiet_grown (by assumption) (by kernel_rfl) ?_
              repeat (first | go_big_quiet_skip | quiet_step (first | (go_at_call 35; refine Calls.grown_of (HS1.out _))))
              refine wpQuiet_nil ?_
              intro _ hw'
              obtain ⟨⟨nq, osq⟩, hw''⟩ := hw'
              subst hw''
              go_wp2_with fail
              go_ret
              exact ⟨by rw [HE.out]; rfl, HBQ.out _ _⟩
          · have hf : okB (t, cc, y) = false := by simpa using hok
            have HS1 := Lib.hid (fun w => may_grow hf w)
            have HE := Lib.hid (chk_bad HXK.out hf)
            clear hf hok
            refine wp_region_quiet_grown (by assumption) (by kernel_rfl) ?_
            repeat (first | go_big_quiet_skip | quiet_step (first | (go_at_call 35; refine Calls.grown_of (HS1.out _))))
            refine wpQuiet_nil ?_
            intro _ hw'
            obtain ⟨⟨nq, osq⟩, hw''⟩ := hw'
            subst hw''
            go_wp2_with fail
            go_ret
            exact ⟨by rw [HE.out]; rfl, HBQ.out _ _⟩
      · obtain rfl : k = n := by omega
        have HE := Lib.hid (chk_yes (S := S) ⟨by rw [HLN.out]; exact hnm, by rw [HLN.out]; exact HX.out.2.1, by rw [HLN.out]; exact HX.out.2.2⟩)
        have HB := Lib.hid HX.out.1
        clear HX
        go_wp2_with fail
        go_ret
        exact ⟨by rw [HE.out]; rfl, HB.out⟩
end Ta
end Go.Proofs.Ytaockieikcibdaa
