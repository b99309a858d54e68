/- tally: what its functions compute: plain lists, no program. tally.gatherer: a map of buckets: what it holds; add. tally.gatherer.add. Slices of buckets. slices.Sorted of maps.Keys, cmp.Compare: the shelf's contracts at this dump (written by the kit's lay-plain.mjs); tally.sorted. -/
import Derived.Test.YtaockieikcibdaaTq01
import Derived.Test.YtaockieikcibdaaRows
import Derived.Maps.OwnOps
import Derived.Shelf.SlIterI.Nil
import Derived.Shelf.SortM.Plain
import Derived.Shelf.SortM.SortNone
import Derived.Ground.GgzProg
import Derived.Ground.SlgmProg
import Derived.Shelf.SlicesG.Cmp
import Derived.Ground.SlgcProg
namespace Go.Proofs.Ytaockieikcibdaa
namespace Ta

/-- A bucket: its time, its count, its bytes. -/
abbrev Bu := Int × Int × Int
/-- Buckets with one more. -/
def putB : List Bu → Bu → List Bu
  | [], b => [b]
  | y :: l, b => if y.1 < b.1 then y :: putB l b else if y.1 = b.1 then (b.1, y.2.1 + b.2.1, y.2.2 + b.2.2) :: l else b :: y :: l
def gat (L : List Bu) : List Bu := L.foldl putB []
def Asc (S : List Bu) : Prop := S.Pairwise fun x y => x.1 < y.1
def addO : Option (Int × Int) → Option (Int × Int) → Option (Int × Int)
  | none, y => y
  | some x, none => some x
  | some x, some y => some (x.1 + y.1, x.2 + y.2)
def one (a : Int) (v : Int × Int) (t : Int) : Option (Int × Int) := if a = t then some v else none
theorem one_yes (a : Int) (v : Int × Int) : one a v a = some v := if_pos rfl
theorem one_no {a t : Int} (h : a ≠ t) (v : Int × Int) : one a v t = none := if_neg h
/-- What buckets of a time come to. -/
def tot : List Bu → Int → Option (Int × Int)
  | [], _ => none
  | x :: l, t => addO (one x.1 x.2 t) (tot l t)

theorem addO_none (x : Option (Int × Int)) : addO x none = x := by cases x <;> rfl
theorem none_addO (x : Option (Int × Int)) : addO none x = x := rfl
theorem addO_comm (x y : Option (Int × Int)) : addO x y = addO y x := by
  rcases x with _ | x <;> rcases y with _ | y <;> simp [addO, Int.add_comm]
theorem addO_assoc (x y z : Option (Int × Int)) : addO (addO x y) z = addO x (addO y z) := by
  rcases x with _ | x <;> rcases y with _ | y <;> rcases z with _ | z <;> simp [addO, Int.add_assoc]
theorem addO_left (x y z : Option (Int × Int)) : addO x (addO y z) = addO y (addO x z) := by
  rw [← addO_assoc, addO_comm x y, addO_assoc]
theorem tot_append (a b : List Bu) (t : Int) : tot (a ++ b) t = addO (tot a t) (tot b t) := by
  induction a with
  | nil => rfl
  | cons x a ih => rw [List.cons_append, tot, tot, ih, addO_assoc]

/-- A time made another one. -/
def wid (f : Int → Int) (b : Bu) : Bu := (f b.1, b.2)
theorem tot_put (f : Int → Int) (b : Bu) (t : Int) : ∀ S : List Bu, tot ((putB S b).map (wid f)) t = addO (tot (S.map (wid f)) t) (tot [wid f b] t)
  | [] => rfl
  | y :: l => by
    rw [putB]
    split
    · rw [List.map_cons, List.map_cons, tot, tot, tot_put f b t l, addO_assoc]
    · split
      · rename_i h1 h2
        show addO (one (f b.1) (y.2.1 + b.2.1, y.2.2 + b.2.2) t) (tot (l.map (wid f)) t) = addO (addO (one (f y.1) y.2 t) (tot (l.map (wid f)) t)) (addO (one (f b.1) b.2 t) none)
        rw [h2, addO_none, addO_assoc, addO_comm (tot _ t), ← addO_assoc]
        congr 1
        by_cases h : f b.1 = t
        · subst h
          rw [one_yes, one_yes, one_yes]; rfl
        · rw [one_no h, one_no h, one_no h]; rfl
      · rw [List.map_cons, tot, addO_comm]
        simp only [tot, addO_none]
theorem wid_id (b : Bu) : wid id b = b := rfl
theorem map_wid_id (S : List Bu) : S.map (wid id) = S := by
  induction S with
  | nil => rfl
  | cons x l ih => rw [List.map_cons, ih, wid_id]
theorem tot_fold (f : Int → Int) (t : Int) : ∀ (L S : List Bu), tot ((L.foldl putB S).map (wid f)) t = addO (tot (S.map (wid f)) t) (tot (L.map (wid f)) t)
  | [], S => by rw [List.foldl_nil, List.map_nil, tot, addO_none]
  | b :: L, S => by
    rw [List.foldl_cons, tot_fold f t L, tot_put, addO_assoc, List.map_cons]
    congr 1
    simp only [tot, addO_none]
theorem tot_gat_map (f : Int → Int) (t : Int) (L : List Bu) : tot ((gat L).map (wid f)) t = tot (L.map (wid f)) t := by
  unfold gat; rw [tot_fold]; rfl
theorem tot_gat (t : Int) (L : List Bu) : tot (gat L) t = tot L t := by
  have := tot_gat_map id t L
  rwa [map_wid_id, map_wid_id] at this

theorem put_ge (b : Bu) (k : Int) : ∀ S : List Bu, (∀ x ∈ S, k < x.1) → k < b.1 → ∀ x ∈ putB S b, k < x.1
  | [], _, hb, x, hx => by simp [putB] at hx; subst hx; exact hb
  | y :: l, hS, hb, x, hx => by
    rw [putB] at hx
    split at hx
    · rcases List.mem_cons.1 hx with rfl | hx
      · exact hS _ (List.mem_cons_self ..)
      · exact put_ge b k l (fun z hz => hS z (List.mem_cons_of_mem _ hz)) hb x hx
    · split at hx
      · rcases List.mem_cons.1 hx with rfl | hx
        · exact hb
        · exact hS _ (List.mem_cons_of_mem _ hx)
      · rcases List.mem_cons.1 hx with rfl | hx
        · exact hb
        · exact hS _ hx
theorem put_asc (b : Bu) : ∀ S : List Bu, Asc S → Asc (putB S b)
  | [], _ => by simp [putB, Asc]
  | y :: l, h => by
    unfold Asc at h ⊢
    rw [List.pairwise_cons] at h
    rw [putB]
    split
    · rename_i h1
      rw [List.pairwise_cons]
      exact ⟨put_ge b y.1 l h.1 h1, put_asc b l h.2⟩
    · split
      · rename_i h1 h2
        rw [List.pairwise_cons]
        exact ⟨fun x hx => by have := h.1 x hx; simp only; omega, h.2⟩
      · rename_i h1 h2
        rw [List.pairwise_cons, List.pairwise_cons]
        refine ⟨fun x hx => ?_, h⟩
        rcases List.mem_cons.1 hx with rfl | hx
        · omega
        · have := h.1 x hx; omega
theorem fold_asc : ∀ (L S : List Bu), Asc S → Asc (L.foldl putB S)
  | [], _, h => h
  | b :: L, S, h => fold_asc L _ (put_asc b S h)
theorem gat_asc (L : List Bu) : Asc (gat L) := fold_asc L [] List.Pairwise.nil
theorem tot_none {S : List Bu} {t : Int} (h : ∀ x ∈ S, t < x.1) : tot S t = none := by
  induction S with
  | nil => rfl
  | cons x l ih =>
    rw [tot, one_no (by have := h x (List.mem_cons_self ..); omega), ih (fun y hy => h y (List.mem_cons_of_mem _ hy))]; rfl
theorem tot_head {x : Bu} {l : List Bu} (h : Asc (x :: l)) : tot (x :: l) x.1 = some x.2 := by
  rw [tot, one_yes, tot_none (List.pairwise_cons.1 h).1]; rfl
/-- Buckets in order are known by what they come to. -/
theorem asc_ext : ∀ (S S' : List Bu), Asc S → Asc S' → (∀ t, tot S t = tot S' t) → S = S'
  | [], [], _, _, _ => rfl
  | [], y :: l, _, h', h => by have := h y.1; rw [tot_head h'] at this; simp [tot] at this
  | x :: l, [], h', _, h => by have := h x.1; rw [tot_head h'] at this; simp [tot] at this
  | x :: l, y :: m, hx, hy, h => by
    have e : x.1 = y.1 := by
      rcases Int.lt_trichotomy x.1 y.1 with h1 | h1 | h1
      · have := h x.1
        rw [tot_head hx, tot_none] at this
        · simp at this
        · intro z hz
          rcases List.mem_cons.1 hz with rfl | hz
          · exact h1
          · have := (List.pairwise_cons.1 hy).1 z hz; omega
      · exact h1
      · have := h y.1
        rw [tot_head hy, tot_none] at this
        · simp at this
        · intro z hz
          rcases List.mem_cons.1 hz with rfl | hz
          · exact h1
          · have := (List.pairwise_cons.1 hx).1 z hz; omega
    have h2 := h x.1
    rw [tot_head hx, e, tot_head hy] at h2
    have hxy : x = y := Prod.ext e (Option.some.inj h2)
    subst hxy
    rw [asc_ext l m (List.pairwise_cons.1 hx).2 (List.pairwise_cons.1 hy).2]
    intro t
    by_cases ht : x.1 = t
    · subst ht
      rw [tot_none (List.pairwise_cons.1 hx).1, tot_none (List.pairwise_cons.1 hy).1]
    · have := h t
      rw [tot, tot, one_no ht] at this
      exact this
theorem gat_ext {L M : List Bu} (h : ∀ t, tot L t = tot M t) : gat L = gat M := asc_ext _ _ (gat_asc L) (gat_asc M) fun t => by rw [tot_gat, tot_gat, h]
/-- What was gathered is gathered again, as it is. -/
theorem gat_asc_id {S : List Bu} (h : Asc S) : gat S = S := asc_ext _ _ (gat_asc S) h fun t => tot_gat t S
theorem fold_gat (L S : List Bu) (h : Asc S) : L.foldl putB S = gat (S ++ L) := by
  unfold gat
  rw [List.foldl_append]
  have := gat_asc_id h
  unfold gat at this
  rw [this]
/-- Buckets of both, put together. -/
theorem gat_merge (L M : List Bu) : gat (gat L ++ gat M) = gat (L ++ M) := gat_ext fun t => by rw [tot_append, tot_append, tot_gat, tot_gat]
theorem gat_comm (L M : List Bu) : gat (L ++ M) = gat (M ++ L) := gat_ext fun t => by rw [tot_append, tot_append, addO_comm]
theorem gat_wid (f : Int → Int) (L : List Bu) : gat ((gat L).map (wid f)) = gat (L.map (wid f)) := gat_ext fun t => by rw [tot_gat_map]

/-! Sums. -/
def sumC (L : List Bu) : Int := (L.map (·.2.1)).sum
def sumY (L : List Bu) : Int := (L.map (·.2.2)).sum
theorem put_sums (b : Bu) : ∀ S : List Bu, sumC (putB S b) = sumC S + b.2.1 ∧ sumY (putB S b) = sumY S + b.2.2
  | [] => by simp [putB, sumC, sumY]
  | y :: l => by
    obtain ⟨h1, h2⟩ := put_sums b l
    rw [putB]
    unfold sumC sumY at *
    split
    · simp only [List.map_cons, List.sum_cons, h1, h2]; omega
    · split <;> (simp only [List.map_cons, List.sum_cons]; omega)
theorem fold_sums : ∀ (L S : List Bu), sumC (L.foldl putB S) = sumC S + sumC L ∧ sumY (L.foldl putB S) = sumY S + sumY L
  | [], S => by simp [sumC, sumY]
  | b :: L, S => by
    obtain ⟨h1, h2⟩ := fold_sums L (putB S b)
    obtain ⟨h3, h4⟩ := put_sums b S
    rw [List.foldl_cons, h1, h2, h3, h4]
    unfold sumC sumY
    simp only [List.map_cons, List.sum_cons]
    omega
theorem gat_sums (L : List Bu) : sumC (gat L) = sumC L ∧ sumY (gat L) = sumY L := by
  have := fold_sums L []
  simpa [sumC, sumY, gat] using this
theorem put_len (b : Bu) : ∀ S : List Bu, (putB S b).length ≤ S.length + 1
  | [] => by simp [putB]
  | y :: l => by
    have := put_len b l
    rw [putB]
    split
    · simp only [List.length_cons]; omega
    · split <;> simp only [List.length_cons] <;> omega
theorem fold_len : ∀ (L S : List Bu), (L.foldl putB S).length ≤ S.length + L.length
  | [], S => by simp
  | b :: L, S => by
    have h1 := fold_len L (putB S b)
    have h2 := put_len b S
    rw [List.foldl_cons, List.length_cons]; omega
theorem gat_len (L : List Bu) : (gat L).length ≤ L.length := by
  have := fold_len L []
  simpa [gat] using this
/-- What holds of all buckets' times holds of those that are put together; so does what holds of numbers and of their sums. -/
theorem put_all (p : Int → Prop) (q : Int → Int → Prop) (hq : ∀ a b c d, q a b → q c d → q (a + c) (b + d)) (b : Bu) (hb : p b.1 ∧ q b.2.1 b.2.2) : ∀ S : List Bu, (∀ x ∈ S, p x.1 ∧ q x.2.1 x.2.2) → ∀ x ∈ putB S b, p x.1 ∧ q x.2.1 x.2.2
  | [], _, x, hx => by simp [putB] at hx; subst hx; exact hb
  | y :: l, hS, x, hx => by
    have hy := hS y (List.mem_cons_self ..)
    have hl := fun z hz => hS z (List.mem_cons_of_mem y hz)
    rw [putB] at hx
    split at hx
    · rcases List.mem_cons.1 hx with rfl | hx
      · exact hy
      · exact put_all p q hq b hb l hl x hx
    · split at hx
      · rcases List.mem_cons.1 hx with rfl | hx
        · exact ⟨hb.1, hq _ _ _ _ hy.2 hb.2⟩
        · exact hl x hx
      · rcases List.mem_cons.1 hx with rfl | hx
        · exact hb
        · exact hS x hx
theorem gat_all (p : Int → Prop) (q : Int → Int → Prop) (hq : ∀ a b c d, q a b → q c d → q (a + c) (b + d)) (L : List Bu) (h : ∀ x ∈ L, p x.1 ∧ q x.2.1 x.2.2) : ∀ x ∈ gat L, p x.1 ∧ q x.2.1 x.2.2 := by
  have : ∀ (L S : List Bu), (∀ x ∈ L, p x.1 ∧ q x.2.1 x.2.2) → (∀ x ∈ S, p x.1 ∧ q x.2.1 x.2.2) → ∀ x ∈ L.foldl putB S, p x.1 ∧ q x.2.1 x.2.2 := by
    intro L
    induction L with
    | nil => intro S _ hS; exact hS
    | cons b L ih =>
      intro S hL hS
      exact ih _ (fun x hx => hL x (List.mem_cons_of_mem _ hx)) (put_all p q hq b (hL b (List.mem_cons_self ..)) S hS)
  exact this L [] h (by simp)
/-- A bucket's numbers are what comes to its time. -/
theorem mem_gat {L : List Bu} {x : Bu} (h : x ∈ gat L) : tot L x.1 = some x.2 := by
  have : ∀ S : List Bu, Asc S → x ∈ S → tot S x.1 = some x.2 := by
    intro S
    induction S with
    | nil => intro _ h; cases h
    | cons y l ih =>
      intro ha hx
      rcases List.mem_cons.1 hx with rfl | hx
      · exact tot_head ha
      · have h1 := (List.pairwise_cons.1 ha).1 x hx
        rw [tot, one_no (by omega), none_addO]
        exact ih (List.pairwise_cons.1 ha).2 hx
  rw [← tot_gat]
  exact this _ (gat_asc L) h
end Ta
end Go.Proofs.Ytaockieikcibdaa
namespace Go.Proofs.Ytaockieikcibdaa
namespace Ta
open Go.RowKit Go.Maps

/-- A bucket as a value. -/
def bv3 (x : Bu) : Value := .agg #[.int .i64 x.1, .int .i64 x.2.1, .int .i64 x.2.2]
def bW (x : Bu) : DataW Unit := .agg [.lit (.int .i64 x.1), .lit (.int .i64 x.2.1), .lit (.int .i64 x.2.2)]
def bD (x : Bu) : Lit × DataW Unit := (.int .i64 x.1, bW x)
def mD (S : List Bu) : DataW Unit := .map (S.map bD)
def bR (v : Value) : Option (DataW Unit × List MemPlace) := match v with
  | .agg ⟨[.int .i64 a, .int .i64 b, .int .i64 c]⟩ => some (bW (a, b, c), [])
  | _ => none
theorem bR_mk (x : Bu) : bR (bv3 x) = some (bW x, []) := rfl
theorem bR_inv {v : Value} {x : Bu} {ps : List MemPlace} (h : bR v = some (bW x, ps)) : v = bv3 x := by
  unfold bR at h
  split at h
  · simp only [Option.some.injEq, Prod.mk.injEq, bW, DataW.agg.injEq, List.cons.injEq, DataW.lit.injEq, Lit.int.injEq, true_and, and_true] at h
    obtain ⟨⟨h1, h2, h3⟩, -⟩ := h
    rw [h1, h2, h3]; rfl
  · cases h
/-- What stands at a time. -/
def getB : List Bu → Int → Int × Int
  | [], _ => (0, 0)
  | y :: l, t => if y.1 = t then y.2 else getB l t
/-- The bucket that a look-up gives. -/
def lokB : List Bu → Int → Bu
  | [], _ => (0, 0, 0)
  | y :: l, t => if y.1 = t then y else lokB l t
theorem lok_snd : ∀ (S : List Bu) (t : Int), (lokB S t).2 = getB S t
  | [], _ => rfl
  | y :: l, t => by
    rw [lokB, getB]
    split
    · rfl
    · exact lok_snd l t
theorem get_none {S : List Bu} {t : Int} (h : ∀ x ∈ S, t < x.1) : getB S t = (0, 0) := by
  induction S with
  | nil => rfl
  | cons y l ih =>
    rw [getB, if_neg (by have := h y (List.mem_cons_self ..); omega)]
    exact ih fun x hx => h x (List.mem_cons_of_mem _ hx)
theorem same_key (a b : Int) : (Lit.int .i64 a).sameKey (.int .i64 b) = decide (a = b) := by simp [Lit.sameKey]
theorem mD_at (t : Int) : ∀ S : List Bu, (mD S).atKey (.int .i64 t) (bW (0, 0, 0)) = bW (lokB S t)
  | [] => rfl
  | y :: l => by
    have ih := mD_at t l
    unfold mD DataW.atKey at ih ⊢
    simp only [List.map_cons, List.find?_cons, bD, same_key] at ih ⊢
    rw [lokB]
    by_cases h : y.1 = t
    · rw [decide_eq_true h, if_pos h]
    · rw [decide_eq_false h, if_neg h]
      exact ih
theorem filter_all {S : List Bu} {t : Int} (h : ∀ x ∈ S, x.1 ≠ t) : (S.map bD).filter (ChangeMaps.notKey (.int .i64 t)) = S.map bD := by
  rw [List.filter_eq_self]
  intro p hp
  obtain ⟨x, hx, rfl⟩ := List.mem_map.1 hp
  unfold ChangeMaps.notKey bD
  simp only [same_key, decide_eq_false (h x hx)]; rfl
theorem put_lt {S : List Bu} {b : Bu} (h : ∀ x ∈ S, b.1 < x.1) : DataW.insert (bD b) (S.map bD) = (b :: S).map bD := by
  rcases S with _ | ⟨y, l⟩
  · rfl
  · have h1 : ((bD b).1.before (bD y).1) = true := by
      show decide (b.1 < y.1) = true
      exact decide_eq_true (h y (List.mem_cons_self ..))
    rw [List.map_cons, DataW.insert, if_pos h1]; rfl
/-- A store of what stood there and more: one bucket more. -/
theorem mD_put : ∀ (S : List Bu) (b : Bu), Asc S → (mD S).put (.int .i64 b.1) (bW (b.1, (getB S b.1).1 + b.2.1, (getB S b.1).2 + b.2.2)) = mD (putB S b)
  | [], b, _ => by
    show DataW.map [(Lit.int .i64 b.1, bW (b.1, 0 + b.2.1, 0 + b.2.2))] = _
    rw [Int.zero_add, Int.zero_add]; rfl
  | y :: l, b, h => by
    have hl := List.pairwise_cons.1 h
    rw [putB, getB]
    unfold mD
    rw [DataW.put_eq]
    unfold ChangeMaps.putKey
    rcases Int.lt_trichotomy y.1 b.1 with h1 | h1 | h1
    · have ih := mD_put l b hl.2
      unfold mD at ih
      rw [DataW.put_eq] at ih
      unfold ChangeMaps.putKey at ih
      have ih := DataW.map.inj ih
      rw [if_pos h1, if_neg (show ¬ y.1 = b.1 by omega), List.map_cons, List.filter_cons]
      have hn : ChangeMaps.notKey (.int .i64 b.1) (bD y) = true := by
        unfold ChangeMaps.notKey bD
        simp only [same_key, decide_eq_false (show ¬ y.1 = b.1 by omega)]; rfl
      rw [if_pos hn]
      have hb : ((Lit.int .i64 b.1).before (bD y).1) = false := by
        show decide (b.1 < y.1) = false
        exact decide_eq_false (by omega)
      rw [DataW.insert, if_neg (by rw [hb]; decide), ih]; rfl
    · rw [if_neg (show ¬ y.1 < b.1 by omega), if_pos h1, if_pos h1, List.map_cons, List.filter_cons]
      have hn : ChangeMaps.notKey (.int .i64 b.1) (bD y) = false := by
        unfold ChangeMaps.notKey bD
        simp only [same_key, decide_eq_true h1]; rfl
      rw [if_neg (by rw [hn]; decide), filter_all (fun x hx => by have := hl.1 x hx; omega)]
      have := put_lt (S := l) (b := (b.1, y.2.1 + b.2.1, y.2.2 + b.2.2)) (fun x hx => by have := hl.1 x hx; simp only; omega)
      exact congrArg DataW.map this
    · rw [if_neg (show ¬ y.1 < b.1 by omega), if_neg (show ¬ y.1 = b.1 by omega), if_neg (show ¬ y.1 = b.1 by omega), filter_all (fun x hx => by
        rcases List.mem_cons.1 hx with rfl | hx
        · omega
        · have := hl.1 x hx; omega), get_none (fun x hx => by have := hl.1 x hx; omega), Int.zero_add, Int.zero_add]
      exact congrArg DataW.map (put_lt (S := y :: l) (b := b) (fun x hx => by
        rcases List.mem_cons.1 hx with rfl | hx
        · exact h1
        · have := hl.1 x hx; omega))
/-- Block b is a map that holds the buckets S. -/
def GM (w : World) (b n : Nat) (S : List Bu) : Prop := w.ownsMap Try.prog 3 bR b n (mD S)
theorem GM.len {w : World} {b n : Nat} {S : List Bu} (h : GM w b n S) : ∃ es clock, w.heap[b]? = some (.map es clock) ∧ es.size = S.length := by
  obtain ⟨es, clock, hb, -, -, hD⟩ := h
  refine ⟨es, clock, hb, ?_⟩
  have := congrArg List.length (DataW.map.inj hD)
  rw [length_sorted] at this
  simpa using this.symm
theorem wf64 {x : Int} (h0 : 0 ≤ x) (h1 : x ≤ 9223372036854775807) : (Lit.int .i64 x).wf = true := by
  simp only [Lit.wf, Bool.and_eq_true, decide_eq_true_eq]
  exact ⟨Int.le_trans (by decide) h0, h1⟩
theorem bucket_zero (w : World) : (zeroValue 40).run Try.prog w = .ok (bv3 (0, 0, 0)) w := Try.zeroValue40 w
/-- A look-up. -/
theorem GM.look {w : World} {b n : Nat} {S : List Bu} (h : GM w b n S) {t : Int} (h0 : 0 ≤ t) (h1 : t ≤ 9223372036854775807) :
    (Instr.lookup 58 (.map (some b)) (.int .i64 t) false).run Try.prog w = .ok (bv3 (lokB S t)) w := by
  obtain ⟨v, ps, hrun, hv⟩ := World.ownsMap.lookup h (int_keyed Try.underlying3) Try.underlying58 (bucket_zero w) (bR_mk (0, 0, 0)) (keyOf_int_mk Try.underlying3 (wf64 h0 h1))
  rw [mD_at] at hv
  rw [hrun, bR_inv hv]
end Ta
end Go.Proofs.Ytaockieikcibdaa
namespace Go.Proofs.Ytaockieikcibdaa
namespace Ta
open Go.RowKit Go.Maps

theorem GM.kept {w w' : World} {b n : Nat} {S : List Bu} {row : Option Nat} (h : GM w b n S) (hg : w.grownBy w' row) (hne : some b ≠ row) : GM w' b n S := World.ownsMap.kept h hg hne
theorem GM.alloc {w : World} {b n : Nat} {S : List Bu} (h : GM w b n S) (o : Obj) : GM (w.alloc o) b n S := World.ownsMap.alloc h o
theorem GM.below {w w' : World} {b n B : Nat} {S : List Bu} (h : GM w b n S) (hb : Below B w w') (hB : b < B) : GM w' b n S := by
  obtain ⟨es, clock, hx, F, hs, hD⟩ := h
  exact ⟨es, clock, (hb.block b hB).trans hx, F, hs, hD⟩
theorem GM.lt {w : World} {b n : Nat} {S : List Bu} (h : GM w b n S) : b < w.heap.size := World.ownsMap.lt h
set_option maxHeartbeats 6400000 in
set_option maxRecDepth 100000 in
theorem add_any (t c y : Int) (S : List Bu) (b n : Nat) (w : World) (h : GM w b n S) (ha : Asc S) (hn : n < 1099511627776) (ht : 0 ≤ t ∧ t ≤ 1000000000)
    (h1 : 0 ≤ (getB S t).1 + c ∧ (getB S t).1 + c ≤ 4000000000000000000) (h2 : 0 ≤ (getB S t).2 + y ∧ (getB S t).2 + y ≤ 4000000000000000000) :
    Calls Try.prog 26 #[.agg #[.map (some b)], .agg #[.int .i64 t, .int .i64 c, .int .i64 y]] w fun e w' => e = .returned undef ∧ GM w' b (n + 1) (putB S (t, c, y)) ∧ w.grownBy w' (some b) := by
  have mixed : Try.prog.follows .mixedOrders = true := by kernel_rfl
  have hlk := ((h.alloc (.cells #[.map (some b)] 60)).alloc (.cells #[.int .i64 t, .int .i64 c, .int .i64 y] 40)).look ht.1 (by omega)
  have hp := mD_put S (t, c, y) ha
  have hs := lok_snd S t
  generalize lokB S t = L at *
  obtain ⟨lt, lc, ly⟩ := L
  have hs1 : getB S t = (lc, ly) := hs.symm
  rw [hs1] at h1 h2
  have hp2 : (mD S).put (.int .i64 t) (bW (t, lc + c, ly + y)) = mD (putB S (t, c, y)) := by rw [← hp, hs1]
  have h3 := h1.1
  have h4 := h1.2
  have h5 := h2.1
  have h6 := h2.2
  have u1 : IntKind.i64.wrap (lc + c) = lc + c := by rw [IntKind.wrap_i64]; simp only at h3 h4; omega
  have u2 : IntKind.i64.wrap (ly + y) = ly + y := by rw [IntKind.wrap_i64]; simp only at h5 h6; omega
  have h3' := (((h.alloc (.cells #[.map (some b)] 60)).alloc (.cells #[.int .i64 t, .int .i64 c, .int .i64 y] 40)).alloc (.cells #[.int .i64 lt, .int .i64 lc, .int .i64 ly] 40))
  obtain ⟨w4, hrun, hgm, hg⟩ := World.ownsMap.update h3' (int_keyed Try.underlying3) Try.underlying58 (by simp only [maxLen]; omega) (keyOf_int_mk (a := t) Try.underlying3 (wf64 ht.1 (by omega))) (bR_mk (t, lc + c, ly + y))
  rw [hp2] at hgm
  have HG := Lib.hid (show GM w4 b (n + 1) (putB S (t, c, y)) from hgm)
  have HB := Lib.hid ((World.grownBy_alloc w (.cells #[.map (some b)] 60) (some b)).trans ((World.grownBy_alloc _ (.cells #[.int .i64 t, .int .i64 c, .int .i64 y] 40) (some b)).trans ((World.grownBy_alloc _ (.cells #[.int .i64 lt, .int .i64 lc, .int .i64 ly] 40) (some b)).trans hg)))
  clear h hp hp2 hs hs1 h1 h2 h3 h4 h5 h6 ha h3' hgm hg
  unfold bv3 at hlk hrun
  go_enter Try.func26, Try.ntmps26
  go_wp2_with fail
  refine ⟨rfl, _, by simp [results, go_sem]; rfl, ?_⟩
  exact ⟨rfl, HG.out, HB.out⟩
end Ta
end Go.Proofs.Ytaockieikcibdaa
namespace Go.Proofs.Ytaockieikcibdaa
namespace Ta
open Go.RowKit

/-- A record's cells. -/
def clT (r : Bu) : List Value := [.int .i64 r.1, .int .i64 r.2.1, .int .i64 r.2.2]
def flT (l : List Bu) : List Value := l.flatMap clT
theorem flT_cons (r : Bu) (l : List Bu) : flT (r :: l) = .int .i64 r.1 :: .int .i64 r.2.1 :: .int .i64 r.2.2 :: flT l := rfl
theorem length_fl3 (l : List Bu) : (flT l).length = l.length * 3 := by
  induction l with
  | nil => rfl
  | cons x l ih => rw [flT_cons, List.length_cons, List.length_cons, List.length_cons, List.length_cons, ih]; omega
theorem flT_append (a b : List Bu) : flT (a ++ b) = flT a ++ flT b := List.flatMap_append ..
theorem flT_at (l : List Bu) (k : Nat) (x : Bu) (h : l[k]? = some x) :
    (flT l)[k * 3]? = some (.int .i64 x.1) ∧ (flT l)[k * 3 + 1]? = some (.int .i64 x.2.1) ∧ (flT l)[k * 3 + 2]? = some (.int .i64 x.2.2) := by
  induction l generalizing k with
  | nil => simp at h
  | cons y l ih =>
    rw [flT_cons]
    rcases k with _ | k
    · simp at h; subst h; exact ⟨rfl, rfl, rfl⟩
    · have := ih k (by simpa using h)
      rw [show (k + 1) * 3 = k * 3 + 1 + 1 + 1 by omega]
      simpa using this
/-- A slice that reads as records, inside a round. -/
theorem recT {w : World} {B n k : Nat} {A : Option Addr} {l : List Bu} (h : Rd w B 3 A n (flT l)) (hk : k < n) :
    ∃ ad q t d, A = some ad ∧ ad.block < B ∧ l[k]? = some (q, t, d) ∧ w.cell? (ad.add (k * 3)) = some (.int .i64 q) ∧ w.cell? ⟨(ad.add (k * 3)).block, (ad.add (k * 3)).off + 1, none⟩ = some (.int .i64 t) ∧ w.cell? ⟨(ad.add (k * 3)).block, (ad.add (k * 3)).off + 2, none⟩ = some (.int .i64 d) := by
  obtain ⟨ad, e, hb, hc⟩ := h.cells (by omega)
  have hl : l.length = n := by have := h.len; rw [length_fl3] at this; omega
  obtain ⟨⟨q, t, d⟩, hx⟩ : ∃ x, l[k]? = some x := ⟨l[k]'(by omega), List.getElem?_eq_getElem (by omega)⟩
  obtain ⟨h1, h2, h3⟩ := flT_at l k _ hx
  exact ⟨ad, q, t, d, e, hb, hx, hc _ _ h1, by have := hc _ _ h2; rw [← add_add] at this; exact this, by have := hc _ _ h3; rw [← add_add] at this; exact this⟩
theorem rdT_len {w : World} {B n : Nat} {A : Option Addr} {l : List Bu} (h : Rd w B 3 A n (flT l)) : l.length = n := by
  have := h.len; rw [length_fl3] at this; omega
/-- A slice of records that the call owns from block B on. -/
def OwnT (w : World) (B : Nat) (v : Value) (l : List Bu) : Prop := w.ownsRow B 40 3 v l.length (flT l)
theorem bu_info : (Try.prog.info? 40).map (fun i => (i.zero, i.size, i.bytes)) = some (some (.agg #[.int .i64 0, .int .i64 0, .int .i64 0]), 3, 24) := by kernel_rfl
theorem flT_one (l : List Bu) : ∀ u ∈ flT l, u.oneCell' = true := by
  induction l with
  | nil => simp [flT]
  | cons x l ih =>
    intro u hu
    rw [flT_cons] at hu
    simp only [List.mem_cons] at hu
    rcases hu with rfl | rfl | rfl | hu
    · rfl
    · rfl
    · rfl
    · exact ih u hu

section
variable {ops : Array Oper} {rest : List Oper} {o : Oper} {a : Act} {Q : Exit → Act → World → Prop}
theorem appendT {s x : Operand} {B : Nat} {v : Value} {l : List Bu} {w0 : World} {y z : Int} {d : Int} (hown : OwnT w0 B v l) (hl : l.length ≤ 1099511627776) (hB : B ≤ w0.heap.size)
    (h : ∀ A' n' c' w', Hid (n' = l.length + 1) → OwnT w' B (.slice A' n' c') (l ++ [(y, z, d)]) → Below B w0 w' → wpList Try.prog ops Q rest (a.put o.dst (.slice A' n' c')) w')
    (hgd : o.guard = none := by exact rfl) (ho : o.op = .call { callee := .builtin .append, args := #[s, x], argTypes := #[28, 28] } := by exact rfl)
    (hs : a.eval s = v := by exact rfl) (hx : a.eval x = .slice (some ⟨w0.heap.size, 0, none⟩) 1 1 := by exact rfl) :
    wpList Try.prog ops Q (o :: rest) a (w0.alloc (.cells #[.int .i64 y, .int .i64 z, .int .i64 d] 40)) := by
  obtain ⟨i0, hi, hz0, hz1, hz2⟩ := info_parts bu_info
  refine wpList_append_own_at _ hgd s x 28 ho B 40 i0 (.agg #[.int .i64 0, .int .i64 0, .int .i64 0]) 3 24 Try.underlying28 hi hz0 hz1 hz2 rfl (by omega) v l.length (flT l) hs (hown.alloc _)
    ⟨w0.heap.size, 0, none⟩ 1 1 [.int .i64 y, .int .i64 z, .int .i64 d] hx rfl ?_ (by intro u hu; simp at hu; rcases hu with rfl | rfl | rfl <;> rfl) (by simp only [maxLen]; omega) (by omega) (by simp; omega) ?_
  · intro j u hu
    rw [Addr.add_lit, Nat.zero_add, World.cell?_alloc_new]
    simpa using hu
  intro v' w' hown' hg _ hat
  have hg0 : w0.grownBy w' v.ownBlock := (World.grownBy_alloc w0 _ v.ownBlock).trans hg
  have hlt := World.ownsRow.lt hown
  obtain ⟨A', c', rfl, _, _⟩ := own_slice hown'
  refine h A' _ c' w' rfl ?_ ((Below.refl _ _).grown hg0 hB (fun k hk => (hlt k hk).1))
  unfold OwnT
  rw [List.length_append, flT_append]
  exact hown'
end
section
variable {w w' : World} {B C : Nat} {v : Value} {l : List Bu}
theorem OwnT.below (h : OwnT w B v l) (hb : Below C w w') (hC : w.heap.size ≤ C) : OwnT w' B v l := own_below h hb hC
theorem OwnT.lower (h : OwnT w B v l) (hC : C ≤ B) : OwnT w C v l := own_lower h hC
theorem OwnT.rd (h : OwnT w B v l) : ∃ A c, v = .slice A l.length c ∧ l.length ≤ c ∧ c ≤ maxLen ∧ Rd w w.heap.size 3 A l.length (flT l) := by
  have h0 := h
  obtain ⟨A, c, rfl, h1, h2⟩ := own_slice h0
  exact ⟨A, c, rfl, h1, h2, Rd.of_own h⟩
theorem ownT_nil (w : World) (B : Nat) : OwnT w B (.slice none 0 0) [] := World.ownsRow_nil _ _ _ _
end
end Ta
end Go.Proofs.Ytaockieikcibdaa
namespace Go.Proofs
open Go.Shelf
def Try.keysA_ren : Go.Shelf.Ren := ⟨fun | 7 => 41 | 10 => 46 | n => n, fun | 23 => 58 | 26 => 3 | 3 => 40 | 28 => 78 | 0 => 0 | 27 => 77 | 33 => 57 | 4 => 4 | n => n, fun | n => n⟩
theorem Try.keysA : Go.Proofs.SlLaysZI.n7 Try.prog Try.keysA_ren := {
  mixed := by kernel_rfl
  f7 := ⟨Try.f41.name, by decide, Try.func41.trans (congrArg some (by kernel_rfl))⟩
  f10 := ⟨Try.f46.name, by decide, Try.func46.trans (congrArg some (by kernel_rfl))⟩
  t0 := Try.underlying0
  a0 := Try.isAgg0
  z0 := Try.sizeOf0
  v0 := Try.zeroValue0
  t4 := Try.underlying4
  a4 := Try.isAgg4
  z4 := Try.sizeOf4
  v4 := Try.zeroValue4
  t23 := Try.underlying58
  a23 := Try.isAgg58
  z23 := Try.sizeOf58
  v23 := Try.zeroValue58
  t26 := Try.underlying3
  a26 := Try.isAgg3
  z26 := Try.sizeOf3
  v26 := Try.zeroValue3
  t27 := Try.underlying77
  a27 := Try.isAgg77
  z27 := Try.sizeOf77
  v27 := Try.zeroValue77
  t28 := Try.underlying78
  a28 := Try.isAgg78
  z28 := Try.sizeOf78
  v28 := Try.zeroValue78
  t33 := Try.underlying57
  a33 := Try.isAgg57
  z33 := Try.sizeOf57
  v33 := Try.zeroValue57 }
def Try.sortedA_ren : Go.Shelf.Ren := ⟨fun | 6 => 40 | 8 => 44 | 9 => 45 | 11 => 48 | 13 => 50 | 12 => 49 | 23 => 61 | 24 => 62 | 14 => 52 | 15 => 53 | 16 => 54 | 17 => 55 | 18 => 56 | 19 => 57 | 20 => 58 | 21 => 59 | 22 => 60 | 25 => 63 | 26 => 64 | 27 => 65 | 28 => 66 | 29 => 67 | 30 => 39 | 31 => 68 | n => n, fun | 26 => 3 | 28 => 78 | 24 => 73 | 0 => 0 | 3 => 3 | 37 => 83 | 48 => 97 | 50 => 99 | 4 => 4 | 40 => 89 | 39 => 88 | 45 => 94 | 5 => 5 | 9 => 9 | 51 => 100 | 55 => 104 | 57 => 106 | 58 => 107 | 33 => 57 | n => n, fun | n => n⟩
theorem Try.sortedA : Go.Proofs.SlLaysZI.n6 Try.prog Try.sortedA_ren := {
  mixed := by kernel_rfl
  f6 := ⟨Try.f40.name, by decide, Try.func40.trans (congrArg some (by kernel_rfl))⟩
  f8 := ⟨Try.f44.name, by decide, Try.func44.trans (congrArg some (by kernel_rfl))⟩
  f11 := ⟨Try.f48.name, by decide, Try.func48.trans (congrArg some (by kernel_rfl))⟩
  t0 := Try.underlying0
  a0 := Try.isAgg0
  z0 := Try.sizeOf0
  v0 := Try.zeroValue0
  t24 := Try.underlying73
  a24 := Try.isAgg73
  z24 := Try.sizeOf73
  v24 := Try.zeroValue73
  t26 := Try.underlying3
  a26 := Try.isAgg3
  z26 := Try.sizeOf3
  v26 := Try.zeroValue3
  t28 := Try.underlying78
  a28 := Try.isAgg78
  z28 := Try.sizeOf78
  v28 := Try.zeroValue78
  i26 := by kernel_rfl }
def Try.sortA_ren : Go.Shelf.Ren := ⟨fun | 5 => 45 | 8 => 50 | 7 => 49 | 19 => 61 | 20 => 62 | 10 => 52 | 11 => 53 | 12 => 54 | 13 => 55 | 14 => 56 | 15 => 57 | 16 => 58 | 17 => 59 | 18 => 60 | 30 => 63 | 31 => 64 | 32 => 65 | 33 => 66 | 34 => 67 | 35 => 39 | 40 => 68 | n => n, fun | 23 => 73 | 25 => 3 | 3 => 3 | 32 => 83 | 22 => 73 | 0 => 0 | 44 => 97 | 46 => 99 | 4 => 4 | 36 => 89 | 35 => 88 | 41 => 94 | 5 => 5 | 9 => 9 | 53 => 100 | 57 => 104 | 63 => 106 | 64 => 107 | n => n, fun | n => n⟩
theorem Try.sortA : Go.Proofs.SlLaysM.n5 Try.prog Try.sortA_ren := {
  mixed := by kernel_rfl
  f5 := ⟨Try.f45.name, by decide, Try.func45.trans (congrArg some (by kernel_rfl))⟩
  f7 := ⟨Try.f49.name, by decide, Try.func49.trans (congrArg some (by kernel_rfl))⟩
  f8 := Try.func50.trans (congrArg some (by kernel_rfl))
  f10 := ⟨Try.f52.name, by decide, Try.func52.trans (congrArg some (by kernel_rfl))⟩
  f11 := ⟨Try.f53.name, by decide, Try.func53.trans (congrArg some (by kernel_rfl))⟩
  f12 := ⟨Try.f54.name, by decide, Try.func54.trans (congrArg some (by kernel_rfl))⟩
  f13 := ⟨Try.f55.name, by decide, Try.func55.trans (congrArg some (by kernel_rfl))⟩
  f14 := ⟨Try.f56.name, by decide, Try.func56.trans (congrArg some (by kernel_rfl))⟩
  f15 := ⟨Try.f57.name, by decide, Try.func57.trans (congrArg some (by kernel_rfl))⟩
  f16 := ⟨Try.f58.name, by decide, Try.func58.trans (congrArg some (by kernel_rfl))⟩
  f17 := ⟨Try.f59.name, by decide, Try.func59.trans (congrArg some (by kernel_rfl))⟩
  f18 := ⟨Try.f60.name, by decide, Try.func60.trans (congrArg some (by kernel_rfl))⟩
  f19 := Try.func61.trans (congrArg some (by kernel_rfl))
  f20 := Try.func62.trans (congrArg some (by kernel_rfl))
  f30 := ⟨Try.f63.name, by decide, Try.func63.trans (congrArg some (by kernel_rfl))⟩
  f31 := Try.func64.trans (congrArg some (by kernel_rfl))
  f32 := Try.func65.trans (congrArg some (by kernel_rfl))
  f33 := ⟨Try.f66.name, by decide, Try.func66.trans (congrArg some (by kernel_rfl))⟩
  f34 := ⟨Try.f67.name, by decide, Try.func67.trans (congrArg some (by kernel_rfl))⟩
  f35 := ⟨Try.f39.name, by decide, Try.func39.trans (congrArg some (by kernel_rfl))⟩
  f40 := ⟨Try.f68.name, by decide, Try.func68.trans (congrArg some (by kernel_rfl))⟩
  t0 := Try.underlying0
  a0 := Try.isAgg0
  z0 := Try.sizeOf0
  v0 := Try.zeroValue0
  t3 := Try.underlying3
  a3 := Try.isAgg3
  z3 := Try.sizeOf3
  v3 := Try.zeroValue3
  t4 := Try.underlying4
  a4 := Try.isAgg4
  z4 := Try.sizeOf4
  v4 := Try.zeroValue4
  t5 := Try.underlying5
  a5 := Try.isAgg5
  z5 := Try.sizeOf5
  v5 := Try.zeroValue5
  t9 := Try.underlying9
  a9 := Try.isAgg9
  z9 := Try.sizeOf9
  v9 := Try.zeroValue9
  t22 := Try.underlying73
  a22 := Try.isAgg73
  z22 := Try.sizeOf73
  v22 := Try.zeroValue73
  t23 := Try.underlying73
  a23 := Try.isAgg73
  z23 := Try.sizeOf73
  v23 := Try.zeroValue73
  t25 := Try.underlying3
  a25 := Try.isAgg3
  z25 := Try.sizeOf3
  v25 := Try.zeroValue3
  t32 := Try.underlying83
  a32 := Try.isAgg83
  z32 := Try.sizeOf83
  v32 := Try.zeroValue83
  t35 := Try.underlying88
  a35 := Try.isAgg88
  z35 := Try.sizeOf88
  v35 := Try.zeroValue88
  t36 := Try.underlying89
  a36 := Try.isAgg89
  z36 := Try.sizeOf89
  v36 := Try.zeroValue89
  t41 := Try.underlying94
  a41 := Try.isAgg94
  z41 := Try.sizeOf94
  v41 := Try.zeroValue94
  t44 := Try.underlying97
  a44 := Try.isAgg97
  z44 := Try.sizeOf97
  v44 := Try.zeroValue97
  t46 := Try.underlying99
  a46 := Try.isAgg99
  z46 := Try.sizeOf99
  v46 := Try.zeroValue99
  t53 := Try.underlying100
  a53 := Try.isAgg100
  z53 := Try.sizeOf100
  v53 := Try.zeroValue100
  t57 := Try.underlying104
  a57 := Try.isAgg104
  z57 := Try.sizeOf104
  v57 := Try.zeroValue104
  t63 := Try.underlying106
  a63 := Try.isAgg106
  z63 := Try.sizeOf106
  v63 := Try.zeroValue106
  t64 := Try.underlying107
  a64 := Try.isAgg107
  z64 := Try.sizeOf107
  v64 := Try.zeroValue107 }
def Try.laysCmp_ren : Go.Shelf.Ren := ⟨fun | 5 => 34 | 7 => 39 | n => n, fun | 22 => 3 | 3 => 3 | 4 => 4 | n => n, fun | n => n⟩
theorem Try.laysCmp : Go.Proofs.SlLaysC2.n5 Try.prog Try.laysCmp_ren := {
  mixed := by kernel_rfl
  f5 := ⟨Try.f34.name, by decide, Try.func34.trans (congrArg some (by kernel_rfl))⟩
  f7 := ⟨Try.f39.name, by decide, Try.func39.trans (congrArg some (by kernel_rfl))⟩
  t3 := Try.underlying3
  a3 := Try.isAgg3
  z3 := Try.sizeOf3
  v3 := Try.zeroValue3
  t4 := Try.underlying4
  a4 := Try.isAgg4
  z4 := Try.sizeOf4
  v4 := Try.zeroValue4
  t22 := Try.underlying3
  a22 := Try.isAgg3
  z22 := Try.sizeOf3
  v22 := Try.zeroValue3 }
open Go.Lib in
/-- cmp.Compare -/
theorem Try.cmp_Compare_int (x y : Int) (w : World) :
    Calls Try.prog 34 #[.int .i64 x, .int .i64 y] w fun e w' => e = .returned (.int .i64 (Lib.compareInt x y)) ∧ w' = w := AnyG.cmp_Compare_int Try.laysCmp x y w
namespace Ytaockieikcibdaa
namespace Ta
open Go.RowKit Go.Maps Go.Sort Go.Shelf

theorem sorts_in (m : Nat) : AnyZI.SortsIn Try.prog Try.sortedA_ren Fence.wide m :=
  ⟨fun blk off cap ss W hH hblk hsz => callsIn_wide.2 (AnyM.slices_Sort_int Try.sortA blk off cap ss W hH hblk hsz),
   fun p cap W => callsIn_wide.2 (AnyM.slices_Sort_int_none Try.sortA p cap W)⟩
set_option maxHeartbeats 1000000 in
theorem keys_any {H : Type} (b nn : Nat) (D0 : DataW H) (R : Value → Option (DataW H × List MemPlace)) (w : World) (hown : w.ownsMap Try.prog 3 R b nn D0) (hmax : Maps.size D0 ≤ maxLen) (hbytes : Maps.size D0 * 8 ≤ 140737488355328) :
    Calls Try.prog 37 #[.map (some b)] w fun e w' => ∃ (v : Value) (ss : List Int), e = .returned v ∧ ss.Perm (intKeys D0) ∧
      w'.ownsRow w.heap.size 3 1 v ss.length ((ss.mergeSort (fun x y => decide (x ≤ y))).map encZ) ∧ Below w.heap.size w w' := by
  refine (callsIn_wide (n := 6)).1 ?_
  have hbl := hown.lt
  have hseq : SeqGives Fence.wide 2 Try.prog 46 #[.pointer (some ⟨w.heap.size, 0, none⟩)] encZ (fun ss => ss.Perm (intKeys D0)) (Maps.size D0) (w.alloc (.cells #[.map (some b)] 58)) :=
    AnyZI.keys_gives (ρ := Try.keysA_ren) { Try.keysA with } Fence.wide _ trivial rfl (by omega) w.heap.size b nn D0 _ (by simp) (by simp) (by
      obtain ⟨es, clock, hb, Ft, hs, hD⟩ := hown
      exact ⟨es, clock, (Below.heap_alloc _ _ b hbl).trans hb, Ft, hs, hD⟩)
  have cK : ∀ mb W, CallsIn Fence.wide 5 Try.prog 41 #[.map mb] W fun e w' => e = .returned (.func (.func 46) #[] #[.pointer (some ⟨W.heap.size, 0, none⟩)]) ∧ w' = W.alloc (.cells #[.map mb] 58) := fun mb W => AnyZI.keys_in Try.keysA Fence.wide 5 trivial rfl mb W
  have cS := AnyZI.sorted_in Try.sortedA Fence.wide 5 trivial trivial trivial trivial rfl (by omega) (sorts_in _) (enters_of Try.func45 (by kernel_rfl) rfl) 46 #[.pointer (some ⟨w.heap.size, 0, none⟩)] trivial (enters_of Try.func46 (by kernel_rfl) rfl) _ _ hmax hbytes _ hseq
  change CallsIn _ _ Try.prog 40 _ _ _ at cS
  have hfK : Fence.wide.fn 41 := trivial
  have hfS : Fence.wide.fn 40 := trivial
  refine callsIn_of_wp Try.func37 rfl trivial ?_ rfl
  simp only [Try.ntmps37, List.size_toArray, List.length_cons, List.length_nil, Nat.reduceAdd, Nat.reduceSub, Array.replicate_succ, Array.replicate_zero, List.push_toArray, List.append_toArray, List.nil_append, List.cons_append]
  gi_wp2_with (first | (gi_at_call 41; refine (cK _ _).mono ?_; rintro e w' ⟨rfl, rfl⟩) | (gi_at_call 40; refine cS.mono ?_; rintro e w' ⟨v, ss, rfl, hS, hrow, hnil, hb⟩))
  go_ret
  exact ⟨v, ss, rfl, hS, ownsRow_base_a hrow (by simp), ((Below.refl _ w).alloc (Nat.le_refl _) _).trans (hb.mono (by simp))⟩
end Ta
end Ytaockieikcibdaa
end Go.Proofs
