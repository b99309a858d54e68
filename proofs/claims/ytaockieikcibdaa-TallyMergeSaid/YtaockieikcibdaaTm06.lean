/- tally.Merge. Sorting that keeps the order of equals: merging two rows, and what Go's stable sort does with them: plain lists, no program. Go's stable sort, as lists: what exchanging, inserting and chunks of a fixed length come to: no program. -/
import Derived.Test.YtaockieikcibdaaTm05
import Derived.Test.YtaockieikcibdaaTm01
import Derived.Sort.Defs
namespace Go.Proofs.Ytaockieikcibdaa
namespace Ta
open Go.RowKit Go.Maps Go.Sort

/-- What tally.Merge tells. -/
noncomputable def mrgE (a b : List Bu) : Int := if chk a = 0 ∧ chk b = 0 then bukE (gat (a ++ b)) else 2
noncomputable def mrgL (a b : List Bu) : List Bu := if mrgE a b = 0 then gat (a ++ b) else []
theorem mrg_no {a b : List Bu} (h : ¬ (chk a = 0 ∧ chk b = 0)) : mrgE a b = 2 ∧ mrgL a b = [] := by
  have : mrgE a b = 2 := if_neg h
  exact ⟨this, by unfold mrgL; rw [this]; rfl⟩
theorem mrg_yes {a b : List Bu} (h : chk a = 0 ∧ chk b = 0) : mrgE a b = bukE (gat (a ++ b)) ∧ mrgL a b = bukL (gat (a ++ b)) := by
  have : mrgE a b = bukE (gat (a ++ b)) := if_pos h
  exact ⟨this, by unfold mrgL bukL; rw [this]⟩
/-- What was put together ahead of a round. -/
def pre (a b : List Bu) : Nat → List Bu
  | 0 => []
  | 1 => a
  | _ => a ++ b
theorem ok_pre {a b : List Bu} {j : Nat} (ha : 1 ≤ j → chk a = 0) (hb : 2 ≤ j → chk b = 0) : okL (pre a b j) ∧ (pre a b j).length ≤ 1000 * j := by
  rcases j with _ | _ | j
  · exact ⟨fun x hx => by simp [pre] at hx, by simp [pre]⟩
  · have h1 := ok_chk (ha (by omega))
    exact ⟨h1.1, by show a.length ≤ _; omega⟩
  · have h1 := ok_chk (ha (by omega))
    have h2 := ok_chk (hb (by omega))
    refine ⟨fun x hx => ?_, ?_⟩
    · rcases List.mem_append.1 hx with hx | hx
      · exact h1.1 x hx
      · exact h2.1 x hx
    · show (a ++ b).length ≤ _
      rw [List.length_append]; omega
theorem pre_step {a b : List Bu} {j : Nat} (hj : j < 2) : pre a b (j + 1) = pre a b j ++ (if j = 0 then a else b) := by
  rcases j with _ | _ | j
  · simp [pre]
  · simp [pre]
  · omega

set_option maxHeartbeats 6400000 in
set_option maxRecDepth 100000 in
theorem merge_any (A1 : Option Addr) (n1 c1 : Nat) (a : List Bu) (A2 : Option Addr) (n2 c2 : Nat) (b : List Bu) (w : World) (hrd1 : Rd w w.heap.size 3 A1 n1 (flT a)) (hn1 : n1 ≤ 1000000) (hrd2 : Rd w w.heap.size 3 A2 n2 (flT b)) (hn2 : n2 ≤ 1000000) :
    Calls Try.prog 10 #[.slice A1 n1 c1, .slice A2 n2 c2] w fun e w' => (∃ v, e = .returned (.tuple #[v, .int .i64 (mrgE a b)]) ∧ OwnT w' w.heap.size v (mrgL a b)) ∧ Below w.heap.size w w' := by
  have mixed : Try.prog.follows .mixedOrders = true := by kernel_rfl
  have HR1 := Lib.hid (And.intro hrd1 hn1)
  have HR2 := Lib.hid (And.intro hrd2 hn2)
  have hmk := run_makeMap (P := Try.prog) 58 w
  clear hrd1 hrd2 hn1 hn2
  go_enter Try.func10, Try.ntmps10
  go_wp2_with fail
  have hg0 : GM (w.alloc (.map #[] 0)) w.heap.size 0 [] := World.ownsMap_made w _ _ _
  have hg1 := (hg0.alloc (.cells #[.map (some w.heap.size)] 60)).alloc (.cells #[.slice A1 n1 c1, .slice A2 n2 c2] 28)
  have hb0 := (ext_alloc w (.map #[] 0)).trans (((ext_alloc (w.alloc (.map #[] 0)) (.cells #[.map (some w.heap.size)] 60)).mono (by simp)).trans ((ext_alloc ((w.alloc (.map #[] 0)).alloc (.cells #[.map (some w.heap.size)] 60)) (.cells #[.slice A1 n1 c1, .slice A2 n2 c2] 28)).mono (by simp; omega)))
  have hc0 : (((w.alloc (.map #[] 0)).alloc (.cells #[.map (some w.heap.size)] 60)).alloc (.cells #[.slice A1 n1 c1, .slice A2 n2 c2] 28)).cell? ⟨w.heap.size + 1, 0, none⟩ = some (.map (some w.heap.size)) := by simp [go_sem]
  have hc1 : (((w.alloc (.map #[] 0)).alloc (.cells #[.map (some w.heap.size)] 60)).alloc (.cells #[.slice A1 n1 c1, .slice A2 n2 c2] 28)).cell? ⟨w.heap.size + 1 + 1, 0, none⟩ = some (.slice A1 n1 c1) := by
    have := World.cell?_alloc_new (w := (w.alloc (.map #[] 0)).alloc (.cells #[.map (some w.heap.size)] 60)) #[.slice A1 n1 c1, .slice A2 n2 c2] 28 0
    simpa using this
  have hc2 : (((w.alloc (.map #[] 0)).alloc (.cells #[.map (some w.heap.size)] 60)).alloc (.cells #[.slice A1 n1 c1, .slice A2 n2 c2] 28)).cell? ⟨w.heap.size + 1 + 1, 1, none⟩ = some (.slice A2 n2 c2) := by
    have := World.cell?_alloc_new (w := (w.alloc (.map #[] 0)).alloc (.cells #[.map (some w.heap.size)] 60)) #[.slice A1 n1 c1, .slice A2 n2 c2] 28 1
    simpa using this
  have hs0 : w.heap.size + 3 = (((w.alloc (.map #[] 0)).alloc (.cells #[.map (some w.heap.size)] 60)).alloc (.cells #[.slice A1 n1 c1, .slice A2 n2 c2] 28)).heap.size := by simp
  clear hg0 hmk
  generalize ((w.alloc (.map #[] 0)).alloc (.cells #[.map (some w.heap.size)] 60)).alloc (.cells #[.slice A1 n1 c1, .slice A2 n2 c2] 28) = w2 at *
  have H0 := Lib.hid (And.intro hg1 hb0)
  have HC := Lib.hid (And.intro hc0 (And.intro hc1 hc2))
  have HS0 := Lib.hid hs0
  clear hg1 hb0 hc0 hc1 hc2 hs0
  generalize hB : w.heap.size = g at *
  have HBS := Lib.hid hB
  clear hB
  go_loopw [18] (fun i wr => ∃ j : Nat, i = .int .i64 (j : Int) ∧ j ≤ 2 ∧ Hid (GM wr g (pre a b j).length (gat (pre a b j)) ∧ w2.grownBy wr (some g) ∧ (1 ≤ j → chk a = 0) ∧ (2 ≤ j → chk b = 0))) (fun i _ => 2 - (intOf i).toNat)
  case atStart => exact ⟨0, by go_num, by omega, H0.out.1, ⟨rfl, rfl, rfl, Nat.le_refl _, fun _ _ _ => rfl⟩, fun h => absurd h (by omega), fun h => absurd h (by omega)⟩
  case round =>
    obtain ⟨j, rfl, hj, HX⟩ := hrel
    have hbr : Below g w wr := H0.out.2.grown HX.out.2.1 (by rw [← HS0.out]; omega) (fun g hg => by cases hg; exact Nat.le_refl _)
    have HBR := Lib.hid hbr
    have hbw : g + 3 ≤ wr.heap.size := by rw [HS0.out]; exact HX.out.2.1.size
    have HBW := Lib.hid hbw
    have hcg : wr.cell? ⟨g + 1, 0, none⟩ = some (.map (some g)) := (World.grownBy.cell_far HX.out.2.1 ⟨g + 1, 0, none⟩ (by rw [← HS0.out]; show g + 1 < g + 3; omega) (by simp)).trans HC.out.1
    have HX2 := Lib.hid HX.out
    by_cases hj2 : j < 2
    · have hcase : ∃ An nn cn l, wr.cell? ⟨g + 1 + 1, j, none⟩ = some (.slice An nn cn) ∧ Rd w g 3 An nn (flT l) ∧ nn ≤ 1000000 ∧ pre a b (j + 1) = pre a b j ++ l ∧ (chk l ≠ 0 → ¬ (chk a = 0 ∧ chk b = 0)) ∧ (chk l = 0 → (1 ≤ j + 1 → chk a = 0) ∧ (2 ≤ j + 1 → chk b = 0)) := by
        have hst := pre_step (a := a) (b := b) hj2
        have hfar : ∀ j', wr.cell? ⟨g + 1 + 1, j', none⟩ = w2.cell? ⟨g + 1 + 1, j', none⟩ := fun j' => World.grownBy.cell_far HX.out.2.1 ⟨g + 1 + 1, j', none⟩ (by rw [← HS0.out]; show g + 1 + 1 < g + 3; omega) (by simp; omega)
        have h1 := HX.out.2.2.1
        by_cases hz : j = 0
        · subst hz
          rw [if_pos rfl] at hst
          exact ⟨A1, n1, c1, a, (hfar 0).trans HC.out.2.1, HR1.out.1, HR1.out.2, hst, fun h hh => h hh.1, fun h => ⟨fun _ => h, fun hh => absurd hh (by omega)⟩⟩
        · obtain rfl : j = 1 := by omega
          rw [if_neg (by omega)] at hst
          exact ⟨A2, n2, c2, b, (hfar 1).trans HC.out.2.2, HR2.out.1, HR2.out.2, hst, fun h hh => h hh.2, fun h => ⟨fun _ => h1 (by omega), fun _ => h⟩⟩
      obtain ⟨An, nn, cn, l, hcl, hrl, hnl, hps, hbad, hgood⟩ := hcase
      have HPS := Lib.hid hps
      have HRL := Lib.hid hrl
      have HCK := Lib.hid (check_any An nn cn l wr ((hrl.below hbr).more (by omega)) hnl)
      have hln := rdT_len hrl
      have HLN := Lib.hid hln
      have j1 : (0 : Int) ≤ (j : Int) := by omega
      have j2 : (j : Int) < 2 := by omega
      clear hrl hps hln hbr hbw HX
      by_cases hs : chk l = 0
      · have HGD := Lib.hid (hgood hs)
        have HOL := Lib.hid (ok_chk hs)
        rw [hs] at HCK
        clear hbad hgood hs
        go_wp2_with fail
        refine HCK.out.mono ?_
        rintro e1 w1 ⟨rfl, hb1⟩
        have hb1b := hb1.mono (show g ≤ wr.heap.size by have := HBW.out; omega)
        have hcg1 : w1.cell? ⟨g + 1, 0, none⟩ = some (.map (some g)) := (hb1.cell (p := ⟨g + 1, 0, none⟩) (by have := HBW.out; show g + 1 < _; omega)).trans hcg
        have hgm1 := HX2.out.1.below hb1 (show g < wr.heap.size by have := HBW.out; omega)
        have hgr1 := below_grown hb1 (show g < wr.heap.size by have := HBW.out; omega)
        have HG1 := Lib.hid (And.intro hgm1 (And.intro (HX2.out.2.1.trans hgr1) (Nat.le_trans HBW.out hb1.size)))
        have HCG1 := Lib.hid hcg1
        have HOP := Lib.hid (ok_pre (j := j) HX2.out.2.2.1 HX2.out.2.2.2)
        clear hb1 hb1b hcg1 hgm1 hgr1 hcg hcl HCK
        go_wp2_with fail
        go_loopw [29] (fun i wi => ∃ k : Nat, i = .int .i64 (k : Int) ∧ k ≤ nn ∧ Hid (GM wi g ((pre a b j).length + k) (gat (pre a b j ++ l.take k)) ∧ w1.grownBy wi (some g))) (fun i _ => nn - (intOf i).toNat)
        case atStart => exact ⟨0, by go_num, by omega, by rw [List.take_zero, List.append_nil]; exact HG1.out.1, ⟨rfl, rfl, rfl, Nat.le_refl _, fun _ _ _ => rfl⟩⟩
        case round =>
          obtain ⟨k, rfl, hk, HY⟩ := hrel
          have HY2 := Lib.hid HY.out
          have hbw : g + 3 ≤ wr.heap.size := Nat.le_trans HG1.out.2.2 HY.out.2.size
          have HBW1 := Lib.hid hbw
          have hgr2 : w2.grownBy wr (some g) := HG1.out.2.1.trans HY.out.2
          have HGR2 := Lib.hid hgr2
          have hcg : wr.cell? ⟨g + 1, 0, none⟩ = some (.map (some g)) := (World.grownBy.cell_far HY.out.2 ⟨g + 1, 0, none⟩ (by have := HG1.out.2.2; show g + 1 < _; omega) (by simp)).trans HCG1.out
          have hbr : Below g w wr := H0.out.2.grown hgr2 (by rw [← HS0.out]; omega) (fun g hg => by cases hg; exact Nat.le_refl _)
          clear HY
          by_cases hkn : k < nn
          · obtain ⟨ad, t, cc, y, rfl, hbk, hx, hc0, hc1, hc2⟩ := recT (HRL.out.below hbr) hkn
            have hADD := add_step t cc y (pre a b j ++ l.take k) g ((pre a b j).length + k) (wr.alloc (.cells #[.int .i64 t, .int .i64 cc, .int .i64 y] 40)) (HY2.out.1.alloc _) (fun x hx => by
                rcases List.mem_append.1 hx with hx | hx
                · exact HOP.out.1 x hx
                · exact ok_take HOL.out.1 k x hx) (by rw [List.length_append, List.length_take]; have := HOP.out.2; have := HOL.out.2; omega) (HOL.out.1 _ (List.mem_of_getElem? hx)) (by have := HOP.out.2; have := HOL.out.2; have := HLN.out; omega)
            rw [List.append_assoc, ← take_one l k _ hx] at hADD
            have HADD := Lib.hid hADD
            have HGR := Lib.hid (HY2.out.2.trans (World.grownBy_alloc wr (.cells #[.int .i64 t, .int .i64 cc, .int .i64 y] 40) (some g)))
            have hlt : g + 1 < wr.heap.size := by omega
            clear hADD hx hbk hbr hbw hgr2
            go_wp2_with fail
            refine HADD.out.mono ?_
            rintro e5 w5 ⟨rfl, hgm, hg⟩
            have HX5 := Lib.hid (And.intro hgm (HGR.out.trans hg))
            clear hgm hg HADD HGR hc0 hc1 hc2 hcg
            go_wp2_with fail
            exact ⟨⟨k + 1, by go_num, by omega, HX5.out⟩, by simp [intOf]; omega⟩
          · obtain rfl : k = nn := by omega
            have htk : l.take k = l := List.take_of_length_le (by have := HLN.out; omega)
            have hg := HY2.out.1
            rw [htk, ← HPS.out, show (pre a b j).length + k = (pre a b (j + 1)).length by rw [HPS.out, List.length_append, HLN.out]] at hg
            have HZ := Lib.hid (And.intro hg (And.intro HGR2.out HGD.out))
            clear htk hg hbr hbw hgr2 hcg HY2
            go_wp2_with fail
            exact ⟨⟨j + 1, by go_num, by omega, HZ.out⟩, by simp [intOf]; omega⟩
      · have HE := Lib.hid (mrg_no (hbad hs))
        rw [chk_two hs] at HCK
        clear hbad hgood hs
        go_wp2_with fail
        refine HCK.out.mono ?_
        rintro e1 w1 ⟨rfl, hb1⟩
        have HB1 := Lib.hid (HBR.out.trans (hb1.mono (by have := HBW.out; omega)))
        clear hb1 HCK hcl hcg
        go_wp2_with fail
        go_ret2
        exact ⟨⟨.slice none 0 0, by rw [HE.out.1]; rfl, by rw [HE.out.2]; exact ownT_nil _ _⟩, by rw [HBS.out]; exact HB1.out⟩
    · obtain rfl : j = 2 := by omega
      have hab : chk a = 0 ∧ chk b = 0 := ⟨HX.out.2.2.1 (by omega), HX.out.2.2.2 (by omega)⟩
      have HE := Lib.hid (mrg_yes hab)
      have hok := ok_pre (a := a) (b := b) (j := 2) (fun _ => hab.1) (fun _ => hab.2)
      have hgl := gat_len (a ++ b)
      have hg : GM wr g (pre a b 2).length (gat (a ++ b)) := HX.out.1
      have hl2 : (a ++ b).length ≤ 1000 * 2 := hok.2
      have HBK := Lib.hid (buckets_any (gat (a ++ b)) g (pre a b 2).length wr hg (gat_asc _) (by omega) (ok_time hok.1))
      clear hab hok hgl hg hl2 hbr hbw HX HX2
      go_wp2_with fail
      refine HBK.out.mono ?_
      rintro e3 w3 ⟨⟨v, rfl, hown⟩, hg3⟩
      have HOW := Lib.hid (OwnT.lower hown (show g ≤ wr.heap.size by have := HBW.out; omega))
      have HB3 := Lib.hid (HBR.out.grown hg3 (by have := HBW.out; omega) (fun g hg => by cases hg; exact Nat.le_refl _))
      clear hown hg3 HBK hcg
      go_wp2_with fail
      go_ret2
      exact ⟨⟨v, by rw [HE.out.1]; rfl, by rw [HE.out.2, HBS.out]; exact HOW.out⟩, by rw [HBS.out]; exact HB3.out⟩
end Ta
end Go.Proofs.Ytaockieikcibdaa
namespace Go.Proofs.Ytaockieikcibdaa
namespace St
variable {α : Type} (key : α → Int)

/-- Two rows merged: an element of the second one goes ahead only where it is less. -/
def mrg : List α → List α → List α
  | [], R => R
  | x :: L, [] => x :: L
  | x :: L, y :: R => if key y < key x then y :: mrg (x :: L) R else x :: mrg L (y :: R)
termination_by L R => L.length + R.length

theorem mrg_nil_left (R : List α) : mrg key [] R = R := by rw [mrg]
theorem mrg_nil_right (L : List α) : mrg key L [] = L := by cases L <;> rw [mrg]
theorem mrg_lt {x y : α} {L R : List α} (h : key y < key x) : mrg key (x :: L) (y :: R) = y :: mrg key (x :: L) R := by rw [mrg, if_pos h]
theorem mrg_ge {x y : α} {L R : List α} (h : ¬ key y < key x) : mrg key (x :: L) (y :: R) = x :: mrg key L (y :: R) := by rw [mrg, if_neg h]

/-- Rows that are cut fitly are merged part by part. -/
theorem mrg_split : ∀ (n : Nat) (L1 L2 R1 R2 : List α), L1.length + R1.length ≤ n → (∀ y ∈ R1, ∀ x ∈ L2, key y < key x) → (∀ x ∈ L1, ∀ y ∈ R2, ¬ key y < key x) →
    mrg key (L1 ++ L2) (R1 ++ R2) = mrg key L1 R1 ++ mrg key L2 R2 := by
  intro n
  induction n with
  | zero =>
    intro L1 L2 R1 R2 hn _ _
    have h1 : L1 = [] := List.eq_nil_of_length_eq_zero (by omega)
    have h2 : R1 = [] := List.eq_nil_of_length_eq_zero (by omega)
    subst h1; subst h2
    simp [mrg_nil_left]
  | succ n ih =>
    intro L1 L2 R1 R2 hn h1 h2
    rcases L1 with _ | ⟨x, L1⟩
    · rcases R1 with _ | ⟨y, R1⟩
      · simp [mrg_nil_left]
      · rcases L2 with _ | ⟨x, L2⟩
        · simp [mrg_nil_left]
        · rw [List.nil_append, List.cons_append, mrg_lt key (h1 y (by simp) x (by simp)), mrg_nil_left]
          have := ih [] (x :: L2) R1 R2 (by simp at hn ⊢; omega) (fun y hy => h1 y (by simp [hy])) (by simp)
          rw [List.nil_append, mrg_nil_left] at this
          rw [this]; rfl
    · rcases R1 with _ | ⟨y, R1⟩
      · rcases R2 with _ | ⟨y, R2⟩
        · simp [mrg_nil_right]
        · rw [List.nil_append, List.cons_append, mrg_ge key (h2 x (by simp) y (by simp)), mrg_nil_right]
          have := ih L1 L2 [] (y :: R2) (by simp at hn ⊢; omega) (by simp) (fun x hx => h2 x (by simp [hx]))
          rw [List.nil_append, mrg_nil_right] at this
          rw [this]; rfl
      · simp only [List.cons_append]
        by_cases h : key y < key x
        · rw [mrg_lt key h, mrg_lt key h]
          have := ih (x :: L1) L2 R1 R2 (by simp at hn ⊢; omega) (fun y hy => h1 y (by simp [hy])) h2
          rw [List.cons_append] at this
          rw [this]; rfl
        · rw [mrg_ge key h, mrg_ge key h]
          have := ih L1 L2 (y :: R1) R2 (by simp at hn ⊢; omega) h1 (fun x hx => h2 x (by simp [hx]))
          rw [List.cons_append] at this
          rw [this]; rfl

theorem mrg_split' (L1 L2 R1 R2 : List α) (h1 : ∀ y ∈ R1, ∀ x ∈ L2, key y < key x) (h2 : ∀ x ∈ L1, ∀ y ∈ R2, ¬ key y < key x) :
    mrg key (L1 ++ L2) (R1 ++ R2) = mrg key L1 R1 ++ mrg key L2 R2 := mrg_split key _ L1 L2 R1 R2 (Nat.le_refl _) h1 h2

theorem mrg_assoc : ∀ (n : Nat) (A B C : List α), A.length + B.length + C.length ≤ n → mrg key (mrg key A B) C = mrg key A (mrg key B C) := by
  intro n
  induction n with
  | zero =>
    intro A B C hn
    have h1 : A = [] := List.eq_nil_of_length_eq_zero (by omega)
    subst h1
    simp [mrg_nil_left]
  | succ n ih =>
    intro A B C hn
    rcases A with _ | ⟨a, A⟩
    · simp [mrg_nil_left]
    rcases B with _ | ⟨b, B⟩
    · simp [mrg_nil_left, mrg_nil_right]
    rcases C with _ | ⟨c, C⟩
    · simp [mrg_nil_right]
    simp only [List.length_cons] at hn
    by_cases hba : key b < key a
    · rw [mrg_lt key hba]
      by_cases hcb : key c < key b
      · rw [mrg_lt key hcb, mrg_lt key hcb, mrg_lt key (show key c < key a by omega), ← mrg_lt key hba, ih (a :: A) (b :: B) C (by simp; omega)]
      · rw [mrg_ge key hcb, mrg_ge key hcb, mrg_lt key hba, ih (a :: A) B (c :: C) (by simp; omega)]
    · rw [mrg_ge key hba]
      by_cases hca : key c < key a
      · rw [mrg_lt key hca, mrg_lt key (show key c < key b by omega), mrg_lt key hca, ← mrg_ge key hba, ih (a :: A) (b :: B) C (by simp; omega)]
      · rw [mrg_ge key hca, ih A (b :: B) (c :: C) (by simp; omega)]
        by_cases hcb : key c < key b
        · rw [mrg_lt key hcb, mrg_ge key hca]
        · rw [mrg_ge key hcb, mrg_ge key hba]

/-- Sorted, equals in their order. -/
def stab (l : List α) : List α := l.foldr (fun x acc => mrg key [x] acc) []
theorem stab_nil : stab key ([] : List α) = [] := rfl
theorem stab_cons (x : α) (l : List α) : stab key (x :: l) = mrg key [x] (stab key l) := rfl
theorem stab_one (x : α) : stab key [x] = [x] := by rw [stab_cons, stab_nil, mrg_nil_right]
theorem mrg_stab : ∀ (A B : List α), mrg key (stab key A) (stab key B) = stab key (A ++ B)
  | [], B => by rw [stab_nil, mrg_nil_left, List.nil_append]
  | x :: A, B => by rw [stab_cons, mrg_assoc key _ _ _ _ (Nat.le_refl _), mrg_stab A B, List.cons_append, stab_cons]

theorem mrg_perm : ∀ (n : Nat) (L R : List α), L.length + R.length ≤ n → (mrg key L R).Perm (L ++ R) := by
  intro n
  induction n with
  | zero =>
    intro L R hn
    have h1 : L = [] := List.eq_nil_of_length_eq_zero (by omega)
    subst h1
    rw [mrg_nil_left]; exact List.Perm.refl _
  | succ n ih =>
    intro L R hn
    rcases L with _ | ⟨x, L⟩
    · rw [mrg_nil_left]; exact List.Perm.refl _
    rcases R with _ | ⟨y, R⟩
    · rw [mrg_nil_right, List.append_nil]
    simp only [List.length_cons] at hn
    by_cases h : key y < key x
    · rw [mrg_lt key h]
      exact ((ih (x :: L) R (by simp; omega)).cons y).trans List.perm_middle.symm
    · rw [mrg_ge key h]
      exact (ih L (y :: R) (by simp; omega)).cons x
theorem mrg_perm' (L R : List α) : (mrg key L R).Perm (L ++ R) := mrg_perm key _ L R (Nat.le_refl _)
theorem length_mrg (L R : List α) : (mrg key L R).length = L.length + R.length := by rw [(mrg_perm' key L R).length_eq, List.length_append]

theorem stab_perm : ∀ (l : List α), (stab key l).Perm l
  | [] => List.Perm.refl _
  | x :: l => by
    rw [stab_cons]
    exact (mrg_perm' key [x] (stab key l)).trans ((stab_perm l).cons x)
theorem length_stab (l : List α) : (stab key l).length = l.length := (stab_perm key l).length_eq

/-- In order, equals beside each other. -/
def Srt (l : List α) : Prop := l.Pairwise fun a b => key a ≤ key b

theorem mrg_srt : ∀ (n : Nat) (L R : List α), L.length + R.length ≤ n → Srt key L → Srt key R → Srt key (mrg key L R) := by
  intro n
  induction n with
  | zero =>
    intro L R hn _ hR
    have h1 : L = [] := List.eq_nil_of_length_eq_zero (by omega)
    subst h1
    rw [mrg_nil_left]; exact hR
  | succ n ih =>
    intro L R hn hL hR
    rcases L with _ | ⟨x, L⟩
    · rw [mrg_nil_left]; exact hR
    rcases R with _ | ⟨y, R⟩
    · rw [mrg_nil_right]; exact hL
    simp only [List.length_cons] at hn
    have hL' := List.pairwise_cons.1 hL
    have hR' := List.pairwise_cons.1 hR
    by_cases h : key y < key x
    · rw [mrg_lt key h]
      refine List.pairwise_cons.2 ⟨fun z hz => ?_, ih (x :: L) R (by simp; omega) hL hR'.2⟩
      have hz' := (mrg_perm' key (x :: L) R).mem_iff.1 hz
      rcases List.mem_append.1 hz' with hz' | hz'
      · rcases List.mem_cons.1 hz' with rfl | hz'
        · omega
        · have := hL'.1 z hz'; omega
      · exact hR'.1 z hz'
    · rw [mrg_ge key h]
      refine List.pairwise_cons.2 ⟨fun z hz => ?_, ih L (y :: R) (by simp; omega) hL'.2 hR⟩
      have hz' := (mrg_perm' key L (y :: R)).mem_iff.1 hz
      rcases List.mem_append.1 hz' with hz' | hz'
      · exact hL'.1 z hz'
      · rcases List.mem_cons.1 hz' with rfl | hz'
        · omega
        · have := hR'.1 z hz'; omega
theorem mrg_srt' {L R : List α} (hL : Srt key L) (hR : Srt key R) : Srt key (mrg key L R) := mrg_srt key _ L R (Nat.le_refl _) hL hR

theorem stab_srt : ∀ (l : List α), Srt key (stab key l)
  | [] => List.Pairwise.nil
  | x :: l => by
    rw [stab_cons]
    exact mrg_srt' key (List.pairwise_singleton _ _) (stab_srt l)

/-- One more behind a row: it goes behind all that are not greater. -/
theorem mrg_one (S1 S2 : List α) (x : α) (h1 : ∀ s ∈ S1, key s ≤ key x) (h2 : ∀ s ∈ S2, key x < key s) : mrg key (S1 ++ S2) [x] = S1 ++ x :: S2 := by
  have h := mrg_split' key S1 S2 [] [x] (by simp) (by intro s hs y hy; simp at hy; subst hy; have := h1 s hs; omega)
  rw [List.nil_append, mrg_nil_right] at h
  rw [h]
  congr 1
  rcases S2 with _ | ⟨s, S2⟩
  · rw [mrg_nil_left]
  · rw [mrg_lt key (h2 s (by simp)), mrg_nil_right]
/-- One ahead of a row: it goes ahead of all that are not less. -/
theorem one_mrg (R1 R2 : List α) (x : α) (h1 : ∀ s ∈ R1, key s < key x) (h2 : ∀ s ∈ R2, key x ≤ key s) : mrg key [x] (R1 ++ R2) = R1 ++ x :: R2 := by
  have h := mrg_split' key [] [x] R1 R2 (by intro y hy z hz; simp at hz; subst hz; exact h1 y hy) (by simp)
  rw [List.nil_append, mrg_nil_left] at h
  rw [h]
  congr 1
  rcases R2 with _ | ⟨s, R2⟩
  · rw [mrg_nil_right]
  · rw [mrg_ge key (by have := h2 s (by simp); omega), mrg_nil_left]

end St
end Go.Proofs.Ytaockieikcibdaa
namespace Go.Proofs.Ytaockieikcibdaa
namespace St
open Go.Sort
variable {α : Type} (key : α → Int)

theorem set_mid (A B : List α) (x z : α) : (A ++ x :: B).set A.length z = A ++ z :: B := by
  rw [List.set_append_right _ _ (Nat.le_refl _), Nat.sub_self]; rfl
theorem get_mid (A B : List α) (x : α) : (A ++ x :: B)[A.length]? = some x := by
  rw [List.getElem?_append_right (Nat.le_refl _), Nat.sub_self]; rfl

section
variable [Inhabited α]
theorem arr_at {d : Array α} {A B : List α} {x : α} {i : Nat} (h : d.toList = A ++ x :: B) (hi : i = A.length) : d[i]! = x := by
  have h1 : d[i]? = some x := by rw [← Array.getElem?_toList, h, hi, get_mid]
  rw [getElem!_def, h1]

theorem swp_list {d : Array α} {A B C : List α} {x y : α} {i j : Nat} (h : d.toList = A ++ x :: (B ++ y :: C)) (hi : i = A.length) (hj : j = A.length + 1 + B.length) : (swp d i j).toList = A ++ y :: (B ++ x :: C) := by
  have e1 : d[i]! = x := arr_at h hi
  have e2 : d[j]! = y := arr_at (A := A ++ x :: B) (B := C) (by rw [h]; simp) (by simp; omega)
  unfold swp
  rw [e1, e2, Array.toList_setIfInBounds, Array.toList_setIfInBounds, h, hi, set_mid]
  have := set_mid (A ++ y :: B) C y x
  rw [show (A ++ y :: B).length = j by simp; omega] at this
  simpa using this

theorem swp_list' {d : Array α} {A B C : List α} {x y : α} {i j : Nat} (h : d.toList = A ++ x :: (B ++ y :: C)) (hi : i = A.length) (hj : j = A.length + 1 + B.length) : (swp d j i).toList = A ++ y :: (B ++ x :: C) := by
  have e1 : d[i]! = x := arr_at h hi
  have e2 : d[j]! = y := arr_at (A := A ++ x :: B) (B := C) (by rw [h]; simp) (by simp; omega)
  unfold swp
  have s1 := set_mid (A ++ x :: B) C y x
  rw [show (A ++ x :: B).length = j by simp; omega] at s1
  rw [e1, e2, Array.toList_setIfInBounds, Array.toList_setIfInBounds, h, show A ++ x :: (B ++ y :: C) = (A ++ x :: B) ++ y :: C by simp, s1, hi]
  simp

variable {lt : α → α → Bool} (hlt : ∀ x y, lt x y = decide (key x < key y))
include hlt

theorem insInner_list (A : List α) (x : α) : ∀ (n : Nat) (S B : List α) (d : Array α), S.length = n → Srt key S → d.toList = A ++ (S ++ x :: B) → (insInner lt A.length (A.length + S.length) d).toList = A ++ (mrg key S [x] ++ B) := by
  intro n
  induction n with
  | zero =>
    intro S B d hn _ h
    have : S = [] := List.eq_nil_of_length_eq_zero hn
    subst this
    rw [mrg_nil_left]
    have : insInner lt A.length (A.length + ([] : List α).length) d = d := by
      rw [List.length_nil, Nat.add_zero]
      rcases hA : A.length with _ | k
      · rw [insInner]
      · rw [insInner, if_neg (by simp)]
    rw [this, h]; rfl
  | succ n ih =>
    intro S B d hn hS h
    obtain ⟨S', s, rfl⟩ : ∃ S' s, S = S' ++ [s] := ⟨S.dropLast, S.getLast (by intro e; simp [e] at hn), (List.dropLast_concat_getLast _).symm⟩
    have hn' : S'.length = n := by simpa using hn
    have hx : d[A.length + S'.length + 1]! = x := arr_at (A := A ++ (S' ++ [s])) (B := B) (by rw [h]; simp) (by simp; omega)
    have hs : d[A.length + S'.length]! = s := arr_at (A := A ++ S') (B := x :: B) (by rw [h]; simp) (by simp)
    have hS' : Srt key S' ∧ ∀ z ∈ S', key z ≤ key s := by
      have := List.pairwise_append.1 hS
      exact ⟨this.1, fun z hz => this.2.2 z hz s (by simp)⟩
    rw [show A.length + (S' ++ [s]).length = (A.length + S'.length) + 1 by simp; omega, insInner, hx, hs, hlt]
    by_cases hlt' : key x < key s
    · rw [if_pos (by simp only [hlt', decide_true, Bool.and_true, decide_eq_true_eq]; omega)]
      have e := swp_list' (d := d) (A := A ++ S') (B := []) (C := B) (x := s) (y := x) (i := A.length + S'.length) (j := A.length + S'.length + 1) (by rw [h]; simp) (by simp) (by simp)
      rw [ih S' (s :: B) _ hn' hS'.1 (by rw [e]; simp)]
      have := mrg_split' key S' [s] [x] [] (by intro y hy z hz; simp at hy hz; subst hy; subst hz; exact hlt') (by simp)
      rw [List.append_nil, mrg_nil_right] at this
      rw [this]; simp
    · rw [if_neg (by simp [hlt'])]
      have := mrg_one key (S' ++ [s]) [] x (by intro z hz; rcases List.mem_append.1 hz with hz | hz; (have := hS'.2 z hz; omega); (simp at hz; subst hz; omega)) (by simp)
      rw [List.append_nil] at this
      rw [this, h]; simp

theorem insOuter_list (A B : List α) : ∀ (M2 M1 : List α) (d : Array α), d.toList = A ++ (stab key M1 ++ (M2 ++ B)) → (insOuter lt A.length (A.length + M1.length + M2.length) (A.length + M1.length) d).toList = A ++ (stab key (M1 ++ M2) ++ B) := by
  intro M2
  induction M2 with
  | nil =>
    intro M1 d h
    rw [insOuter, if_neg (by simp), List.append_nil, h]; rfl
  | cons x M2 ih =>
    intro M1 d h
    rw [insOuter, if_pos (by simp)]
    have e := insInner_list key hlt A x _ (stab key M1) (M2 ++ B) d rfl (stab_srt key M1) (by rw [h]; simp)
    rw [length_stab] at e
    have h1 : mrg key (stab key M1) [x] = stab key (M1 ++ [x]) := by rw [← mrg_stab, stab_one]
    have := ih (M1 ++ [x]) (insInner lt A.length (A.length + M1.length) d) (by rw [e, h1])
    rw [show M1 ++ x :: M2 = (M1 ++ [x]) ++ M2 by simp, ← this]
    congr 2
    · simp; omega
    · simp; omega

theorem insertionSort_list (A M B : List α) (d : Array α) (h : d.toList = A ++ (M ++ B)) : (insertionSort lt d A.length (A.length + M.length)).toList = A ++ (stab key M ++ B) := by
  unfold insertionSort
  rcases M with _ | ⟨x, M⟩
  · rw [insOuter, if_neg (by simp), h]; rfl
  · have := insOuter_list key hlt A B M [x] d (by rw [stab_one, h]; rfl)
    rw [show [x] ++ M = x :: M from rfl] at this
    rw [← this]
    congr 2
    simp; omega
end

/-- Chunks of bs elements, each sorted. -/
def cs (bs : Nat) (l : List α) : List α := if _h : bs = 0 ∨ l.length ≤ bs then stab key l else stab key (l.take bs) ++ cs bs (l.drop bs)
termination_by l.length
decreasing_by simp only [List.length_drop]; omega

theorem cs_small {bs : Nat} {l : List α} (h : l.length ≤ bs) : cs key bs l = stab key l := by rw [cs, dif_pos (Or.inr h)]
theorem cs_ge {bs : Nat} {l : List α} (h0 : 0 < bs) (h : bs ≤ l.length) : cs key bs l = stab key (l.take bs) ++ cs key bs (l.drop bs) := by
  by_cases h' : l.length ≤ bs
  · have e : l.length = bs := by omega
    rw [cs_small key h', List.take_of_length_le h', List.drop_of_length_le h', cs_small key (by simp), stab_nil, List.append_nil]
  · rw [cs, dif_neg (by omega)]
theorem cs_twice {bs : Nat} {l : List α} (h0 : 0 < bs) (h : 2 * bs ≤ l.length) : cs key bs l = stab key (l.take bs) ++ (stab key ((l.drop bs).take bs) ++ cs key bs (l.drop (2 * bs))) ∧
    cs key (2 * bs) l = mrg key (stab key (l.take bs)) (stab key ((l.drop bs).take bs)) ++ cs key (2 * bs) (l.drop (2 * bs)) := by
  refine ⟨?_, ?_⟩
  · rw [cs_ge key h0 (by omega), cs_ge key h0 (by simp; omega), List.drop_drop, show bs + bs = 2 * bs by omega]
  · rw [cs_ge key (by omega) h, mrg_stab]
    congr 2
    rw [show 2 * bs = bs + bs by omega, List.take_add]
theorem cs_last {bs : Nat} {l : List α} (h0 : 0 < bs) (h : bs ≤ l.length) (h2 : l.length < 2 * bs) : cs key bs l = stab key (l.take bs) ++ stab key (l.drop bs) ∧ cs key (2 * bs) l = mrg key (stab key (l.take bs)) (stab key (l.drop bs)) := by
  refine ⟨?_, ?_⟩
  · rw [cs_ge key h0 h, cs_small key (by simp; omega)]
  · rw [cs_small key (by omega), mrg_stab, List.take_append_drop]

end St
end Go.Proofs.Ytaockieikcibdaa
