/- varvelaw45.TallyMerge. -/
import Derived.Test.YtaockieikcibdaaTm10
namespace Go.Proofs.Ytaockieikcibdaa
namespace Ta
open Go.RowKit Go.Maps Rd

/-- A slice of records of the call's own. -/
def OwnR (w : World) (B : Nat) (v : Value) (l : List (Int × Int × ByteArray)) : Prop := w.ownsRow B 51 3 v l.length (fl3 l)
theorem fl3_app (a b : List (Int × Int × ByteArray)) : fl3 (a ++ b) = fl3 a ++ fl3 b := List.flatMap_append ..
theorem fl3_one' (l : List (Int × Int × ByteArray)) : ∀ u ∈ fl3 l, u.oneCell' = true := by
  induction l with
  | nil => simp [fl3]
  | cons x l ih =>
    intro u hu
    rw [fl3_cons] at hu
    simp only [List.mem_cons] at hu
    rcases hu with rfl | rfl | rfl | hu
    · rfl
    · rfl
    · rfl
    · exact ih u hu
theorem rr_info : (Try.prog.info? 51).map (fun i => (i.zero, i.size, i.bytes)) = some (some (.agg #[.int .i64 0, .int .i64 0, .string ⟨#[]⟩]), 3, 32) := by kernel_rfl
theorem ownR_empty (w : World) : OwnR (w.alloc (.cells #[] 51)) w.heap.size (.slice (some ⟨w.heap.size, 0, none⟩) 0 0) [] :=
  World.ownsRow_lit w #[] 0 (Nat.le_refl _) (by simp [maxLen]) rfl
/-- append(s, x...) in a region that draws. -/
theorem step_recs {ops : Array Oper} {o : Oper} {a : Act} {K : Act → World → Prop} {Q : Exit → Act → World → Prop} {E : Prop} (s x : Operand) {w0 : World} {B : Nat} {v : Value} {l l2 : List (Int × Int × ByteArray)} {A : Option Addr} {n c : Nat}
    (hgd : o.guard = none) (ho : o.op = .call { callee := .builtin .append, args := #[s, x], argTypes := #[22, 22] })
    (hown : OwnR w0 B v l) (hrd : Rd w0 w0.heap.size 3 A n (fl3 l2)) (hA : A = none → c = 0) (hl : l.length ≤ 1000000) (hn : n ≤ 1000000) (hB : B ≤ w0.heap.size) (hs : a.eval s = v) (hx : a.eval x = .slice A n c)
    (h : ∀ v' w', OwnR w' B v' (l ++ l2) → RowKit.Below B w0 w' → K (a.put o.dst v') w') :
    if Region.wanted o (yielded ops a.tmps) = true then Oper.wp Try.prog o a w0 K Q else E := by
  have hw : Region.wanted o (yielded ops a.tmps) = true := by simp [Region.wanted, hgd]
  rw [if_pos hw]
  obtain ⟨i0, hi, hz0, hz1, hz2⟩ := info_parts rr_info
  have hln := rd3_len hrd
  cases A with
  | none =>
    have hn0 : n = 0 := by
      rcases Nat.eq_zero_or_pos n with h0 | h0
      · exact h0
      · obtain ⟨ad, e, _⟩ := hrd.cells (by omega)
        cases e
    have hc0 := hA rfl
    subst hn0 hc0
    have hl2 : l2 = [] := List.eq_nil_of_length_eq_zero hln
    subst hl2
    have hr := run_append_owned_none (P := Try.prog) (w := w0) B 22 o.type 51 i0 3 Try.underlying22 hi v l.length (fl3 l) hown
    unfold Oper.wp execOp
    simp only [ho, resolve, invoke, builtin, Sem.run_bind, Sem.run_pure, Result.andThen_ok, List.map_toArray, List.map_cons, List.map_nil, hs, hx, hr]
    exact h v w0 (by rw [List.append_nil]; exact hown) (RowKit.Below.refl _ _)
  | some ad =>
    obtain ⟨v', w', hr, h2, h3, -, -⟩ := run_append_own_at (P := Try.prog) w0 B 22 o.type 51 i0 (.agg #[.int .i64 0, .int .i64 0, .string ⟨#[]⟩]) 3 32 Try.underlying22 hi hz0 hz1 hz2 rfl (by omega) v l.length (fl3 l) hown
      ad n c (fl3 l2) (by rw [Rd.length_fl3, hln]) (by
        intro j u hu
        have hj : j < n * 3 := by
          have := (List.getElem?_eq_some_iff.1 hu).1
          rw [Rd.length_fl3, hln] at this; exact this
        obtain ⟨ad', e, _, hc⟩ := hrd.cells (by omega)
        cases e
        exact hc j u hu) (fl3_one' l2) (by simp only [maxLen]; omega) (by omega) hB
    unfold Oper.wp execOp
    simp only [ho, resolve, invoke, builtin, Sem.run_bind, Sem.run_pure, Result.andThen_ok, List.map_toArray, List.map_cons, List.map_nil, hs, hx, hr]
    have hlt := World.ownsRow.lt hown
    refine h v' w' ?_ ((RowKit.Below.refl _ _).grown h3 hB (fun k hk => (hlt k hk).1))
    unfold OwnR
    rw [List.length_append, fl3_app, hln]; exact h2
theorem OwnR.rd {w : World} {B : Nat} {v : Value} {l : List (Int × Int × ByteArray)} (h : OwnR w B v l) : ∃ A c, v = .slice A l.length c ∧ Rd w w.heap.size 3 A l.length (fl3 l) := by
  have h0 := h
  obtain ⟨A, c, rfl, _, _⟩ := own_slice h0
  exact ⟨A, c, rfl, Rd.of_own h⟩

open Go.ChangeShapes Go.WideShapes Go.Deep in
theorem recs_none {H : Type} {enc : TypeId × Value → H} {P : Program} {w : World} {t e : TypeId} {A : Option Addr} {n c : Nat} {d : DataW H} {p : List MemPlace}
    (ht : P.underlying t = some (.slice e)) (h : DataW.Trod enc P w 0 (fun _ => true) true t (.slice A n c) d p) : A = none → c = 0 := by
  rintro rfl
  obtain ⟨fuel, hf⟩ := h
  rcases Go.Deep.open_slice ht hf with ⟨hcs, -⟩ | ⟨a, len', cap', m, n, D, Pl, hcs, -⟩
  · simp [Value.cells] at hcs
    exact hcs.2
  · simp [Value.cells] at hcs

/-! What the law says. -/
theorem buk_small {l : List (Int × Int × ByteArray)} {x : Int} (hw : 1 ≤ x) (hok : ∀ r ∈ l, ok1 r = true) (hl : l.length ≤ 1000) : bukE (gat (items l x)) = 0 := by
  have hit := items_ok hw hok
  have hlen : (items l x).length = l.length := List.length_map ..
  have hnn : ∀ b ∈ items l x, nn b := fun b hb => by have := hit b hb; unfold nn; omega
  have hg := gat_sums (items l x)
  have hs := sum_le (S := items l x) 1 2000 (fun b hb => by have := hit b hb; omega)
  have ht := gat_time (L := items l x) fun b hb => (hit b hb).1
  have hc : ∀ b ∈ gat (items l x), 1 ≤ b.2.1 ∧ 0 ≤ b.2.2 := fun b hb => (gat_all (fun _ => True) (fun a b => 1 ≤ a ∧ 0 ≤ b) (fun a b c d h1 h2 => by omega) (items l x) (fun y hy => ⟨trivial, by have := hit y hy; omega⟩) b hb).2
  have hgl := gat_len (items l x)
  rw [hlen] at hs hgl
  refine bukE_yes (by omega) fun k b _ hb => ?_
  have hm := List.mem_of_getElem? hb
  have h1 := ht b hm
  have h2 := hc b hm
  have h3 := mem_sum (gat_nn hnn) hm
  rw [okB_iff]
  omega
theorem of_join {a b : List (Int × Int × ByteArray)} {x : Int} (ha : few a = true) (hb : few b = true) (h1 : ofE a x = 0) (h2 : ofE b x = 0) :
    ofE (a ++ b) x = 0 ∧ ofL (a ++ b) x = gat (items a x ++ items b x) := by
  obtain ⟨hw, oka, -, -⟩ := of_inv h1
  obtain ⟨-, okb, -, -⟩ := of_inv h2
  have hw1 := (wideB_iff x).1 hw
  have hok : ∀ r ∈ a ++ b, ok1 r = true := fun r hr => by
    rcases List.mem_append.1 hr with hr | hr
    · exact oka r hr
    · exact okb r hr
  have hla := few_len ha
  have hlb := few_len hb
  obtain ⟨e1, e2⟩ := ofE_ok (l := a ++ b) hw (fun k r _ hr => hok r (List.mem_of_getElem? hr))
  have hbk : bukE (gat (items (a ++ b) x)) = 0 := buk_small hw1.1 hok (by rw [List.length_append]; omega)
  rw [e1, e2, bukL_yes hbk, hbk, items_append]
  exact ⟨rfl, rfl⟩
theorem mrg_of {a b : List (Int × Int × ByteArray)} {x : Int} (ha : few a = true) (hb : few b = true) (h1 : ofE a x = 0) (h2 : ofE b x = 0) :
    mrgE (ofL a x) (ofL b x) = 0 ∧ mrgL (ofL a x) (ofL b x) = gat (items a x ++ items b x) := by
  obtain ⟨hw, oka, hLa, hca⟩ := of_inv h1
  obtain ⟨-, okb, hLb, hcb⟩ := of_inv h2
  rw [hLa, hLb]
  have hw1 := (wideB_iff x).1 hw
  obtain ⟨e1, e2⟩ := mrg_yes ⟨hca, hcb⟩
  have hla := few_len ha
  have hlb := few_len hb
  have hok : ∀ r ∈ a ++ b, ok1 r = true := fun r hr => by
    rcases List.mem_append.1 hr with hr | hr
    · exact oka r hr
    · exact okb r hr
  have hbk : bukE (gat (items (a ++ b) x)) = 0 := buk_small hw1.1 hok (by rw [List.length_append]; omega)
  rw [items_append] at hbk
  rw [e1, e2, gat_merge, bukL_yes hbk, hbk]
  exact ⟨rfl, rfl⟩
theorem of_wide {a : List (Int × Int × ByteArray)} {x y : Int} (ha : few a = true) (hy : 1 ≤ y) (hx : 1 ≤ x) (hxy : x * y ≤ 1000000000) (h1 : ofE a x = 0) :
    ofE a (x * y) = 0 ∧ ofL a (x * y) = gat (items a (x * y)) ∧ crsE (ofL a x) (x * y) = 0 ∧ crsL (ofL a x) (x * y) = gat (items a (x * y)) := by
  obtain ⟨hw, oka, hLa, hca⟩ := of_inv h1
  have hla := few_len ha
  have hxy1 : 1 ≤ x * y := by
    have := Int.mul_le_mul hx hy (by omega) (by omega)
    omega
  have hwb : wideB (x * y) = true := (wideB_iff _).2 ⟨hxy1, hxy⟩
  obtain ⟨e1, e2⟩ := ofE_ok (l := a) hwb (fun k r _ hr => oka r (List.mem_of_getElem? hr))
  have hbk : bukE (gat (items a (x * y))) = 0 := buk_small hxy1 oka (by omega)
  have hwd : gat (widL (ofL a x) (x * y)) = gat (items a (x * y)) := by
    rw [hLa]
    unfold widL
    rw [gat_wid, items_wide hx hy (fun r hr => by have := (ok1_iff r).1 (oka r hr); omega)]
  obtain ⟨e3, e4⟩ := crs_yes (S := ofL a x) (width := x * y) ⟨by rw [hLa]; exact hca, hwb⟩
  rw [e3, e4, hwd, e1, e2, bukL_yes hbk, hbk]
  exact ⟨rfl, rfl, rfl, rfl⟩
theorem small_gat {a b : List (Int × Int × ByteArray)} (ha : few a = true) (hb : few b = true) (x : Int) : (gat (items a x ++ items b x)).length ≤ 1000 := by
  have h1 := few_len ha
  have h2 := few_len hb
  have h3 := gat_len (items a x ++ items b x)
  rw [← items_append] at h3 ⊢
  have h4 : (items (a ++ b) x).length = (a ++ b).length := List.length_map ..
  rw [List.length_append] at h4
  omega

/-- May the widths be? -/
def wd2 (x y : Int) : Bool := decide (1 ≤ x ∧ 1 ≤ y ∧ x ≤ 10000 ∧ y ≤ 10000)
set_option maxHeartbeats 6400000 in
set_option maxRecDepth 100000 in
theorem mergeL_any (A1 : Option Addr) (n1 c1 : Nat) (a : List (Int × Int × ByteArray)) (A2 : Option Addr) (n2 c2 : Nat) (b : List (Int × Int × ByteArray)) (x y : Int) (w : World)
    (hrd1 : Rd w w.heap.size 3 A1 n1 (fl3 a)) (hn1 : n1 ≤ c1) (hc1 : c1 ≤ maxLen) (hz1 : A1 = none → c1 = 0) (hrd2 : Rd w w.heap.size 3 A2 n2 (fl3 b)) (hn2 : n2 ≤ c2) (hc2 : c2 ≤ maxLen) (hz2 : A2 = none → c2 = 0) :
    Calls Try.prog 5 #[.slice A1 n1 c1, .slice A2 n2 c2, .agg #[.int .i64 x, .int .i64 y]] w fun e w' => e = .returned (.bool true) ∧ RowKit.Below w.heap.size w w' := by
  have mixed : Try.prog.follows .mixedOrders = true := by kernel_rfl
  have hln1 := rd3_len hrd1
  have hln2 := rd3_len hrd2
  have hrb1 := hrd1.below (ext_alloc w (.cells #[.int .i64 x, .int .i64 y] 53))
  have hrb2 := hrd2.below (ext_alloc w (.cells #[.int .i64 x, .int .i64 y] 53))
  have hsz : w.heap.size ≤ (w.alloc (.cells #[.int .i64 x, .int .i64 y] 53)).heap.size := by simp
  have HF1 := Lib.hid (few_any A1 n1 c1 a _ (hrb1.more hsz) hn1 hc1)
  have HF2 := Lib.hid (few_any A2 n2 c2 b _ (hrb2.more hsz) hn2 hc2)
  have HR1 := Lib.hid (And.intro hrd1 hz1)
  have HR2 := Lib.hid (And.intro hrd2 hz2)
  have HL1 := Lib.hid hln1
  have HL2 := Lib.hid hln2
  have hx0 : (w.alloc (.cells #[.int .i64 x, .int .i64 y] 53)).cell? ⟨w.heap.size, 0, none⟩ = some (.int .i64 x) := by rw [World.cell?_alloc_new]; rfl
  have hx1 : (w.alloc (.cells #[.int .i64 x, .int .i64 y] 53)).cell? ⟨w.heap.size, 1, none⟩ = some (.int .i64 y) := by rw [World.cell?_alloc_new]; rfl
  have HX := Lib.hid (And.intro hx0 hx1)
  have HB0 := Lib.hid (ext_alloc w (.cells #[.int .i64 x, .int .i64 y] 53))
  clear hrd1 hrd2 hrb1 hrb2 hln1 hln2 hx0 hx1 hsz hn1 hn2 hc1 hc2 hz1 hz2
  by_cases ha : few a = true
  · by_cases hb : few b = true
    · rw [ha] at HF1
      rw [hb] at HF2
      have HA := Lib.hid ha
      have HBf := Lib.hid hb
      have hn1 := few_len ha
      have hn2 := few_len hb
      rw [HL1.out] at hn1
      rw [HL2.out] at hn2
      clear ha hb
      by_cases hw : wd2 x y = true
      · have hw2 : 1 ≤ x ∧ 1 ≤ y ∧ x ≤ 10000 ∧ y ≤ 10000 := of_decide_eq_true hw
        obtain ⟨hx1, hy1, hx2, hy2⟩ := hw2
        have g1 : ¬ x < 1 := by omega
        have g2 : ¬ y < 1 := by omega
        have g3 : ¬ 10000 < x := by omega
        have g4 : ¬ 10000 < y := by omega
        clear hw
        have hlt : w.heap.size < (w.alloc (.cells #[.int .i64 x, .int .i64 y] 53)).heap.size := by simp
        have HLT := Lib.hid hlt
        clear hlt
        have HO1 := Lib.hid (of_any A1 n1 c1 a x _ (HR1.out.1.ext HB0.out) (by omega))
        have d0 := HX.out.1
        have d1 := HX.out.2
        by_cases h1 : ofE a x = 0
        · rw [h1] at HO1
          by_cases h2 : ofE b x = 0
          · have hj := of_join HA.out HBf.out h1 h2
            have hm1 := mrg_of HA.out HBf.out h1 h2
            have hm2 := mrg_of HBf.out HA.out h2 h1
            rw [gat_comm] at hm2
            have hxy : x * y ≤ 100000000 := by
              have := Int.mul_le_mul hx2 hy2 (by omega) (by omega)
              omega
            have hxy0 : 0 ≤ x * y := Int.mul_nonneg (by omega) (by omega)
            have hwd := of_wide HA.out hy1 hx1 (by omega) h1
            have u1 : IntKind.i64.wrap (x * y) = x * y := by rw [IntKind.wrap_i64]; omega
            have hsg := small_gat HA.out HBf.out x
            have hga := gat_len (items a (x * y))
            have hia : (items a (x * y)).length = a.length := List.length_map ..
            have hla : (ofL a x).length ≤ 1000 := by
              rw [(of_inv h1).2.2.1]; exact (ok_chk (of_inv h1).2.2.2).2
            have hlb : (ofL b x).length ≤ 1000 := by
              rw [(of_inv h2).2.2.1]; exact (ok_chk (of_inv h2).2.2.2).2
            rw [hia, HL1.out] at hga
            have HE2 := Lib.hid h2
            generalize gat (items a x ++ items b x) = GG at *
            generalize gat (items a (x * y)) = WW at *
            have HJ := Lib.hid hj
            have HM1 := Lib.hid hm1
            have HM2 := Lib.hid hm2
            have HWD := Lib.hid hwd
            have HSM := Lib.hid (And.intro hsg (And.intro hga (And.intro hla hlb)))
            clear hj hm1 hm2 hxy hxy0 hwd hsg hga hia hla hlb h1 h2
            go_enter Try.func5, Try.ntmps5
            go_wp2_with fail
            generalize w.alloc (.cells #[.int .i64 x, .int .i64 y] 53) = w0 at *
            refine HF1.out.mono ?_
            rintro e1 w1 ⟨rfl, rfl⟩
            go_wp2_with fail
            refine HF2.out.mono ?_
            rintro e1 w1 ⟨rfl, rfl⟩
            go_wp2_with fail
            refine HO1.out.mono ?_
            rintro e1 w1 ⟨⟨vx, rfl, ox⟩, hb1⟩
            obtain ⟨Ax, cx, rfl, -, -, -⟩ := OwnT.rd ox
            have HOX := Lib.hid ox
            have HW1 := Lib.hid hb1
            have hd1 := hb1.cell (p := ⟨w.heap.size, 0, none⟩) HLT.out
            rw [d0] at hd1
            have HB1 := Lib.hid (HB0.out.trans (hb1.mono HB0.out.size))
            have HO2 := Lib.hid (of_any A2 n2 c2 b x w1 (HR2.out.1.ext HB1.out) (by omega))
            rw [HE2.out] at HO2
            clear ox hb1 HO1 HF1 HF2 d0 d1
            go_wp2_with fail
            refine HO2.out.mono ?_
            rintro e2 w2 ⟨⟨vy, rfl, oy⟩, hb2⟩
            obtain ⟨Ay, cy, rfl, -, -, -⟩ := OwnT.rd oy
            have HOY := Lib.hid oy
            have HOX2 := Lib.hid (OwnT.below HOX.out hb2 (Nat.le_refl _))
            have HW2 := Lib.hid (HW1.out.trans (hb2.mono HW1.out.size))
            have HB2 := Lib.hid (HB0.out.trans (HW2.out.mono HB0.out.size))
            clear oy hb2 HO2 hd1
            go_wp2_with fail
            have hcc : ∀ wx, RowKit.Below w2.heap.size w2 wx → (wx.cell? ⟨w.heap.size, 0, none⟩ = some (.int .i64 x)) ∧ RowKit.Below w2.heap.size w2 wx := fun wx hb =>
              ⟨((HW2.out.trans (hb.mono HW2.out.size)).cell (p := ⟨w.heap.size, 0, none⟩) HLT.out).trans HX.out.1, hb⟩
            have HC := Lib.hid hcc
            have hdr : RowKit.Below w2.heap.size w2 w2.drew := ⟨rfl, rfl, rfl, Nat.le_refl _, fun _ _ => rfl⟩
            have HSd := Lib.hid (HC.out _ hdr)
            have hbs : RowKit.Below w2.heap.size w2 (w2.drew.alloc (.cells #[] 51)) := hdr.trans (ext_alloc w2.drew _)
            have HSe := Lib.hid (HC.out _ hbs)
            have HOE := Lib.hid (ownR_empty w2.drew)
            have HRA := Lib.hid (HR1.out.1.ext (HB2.out.trans (hbs.mono HB2.out.size)))
            clear hcc hdr hbs
            go_region_held3 (fun wx => (wx.cell? ⟨w.heap.size, 0, none⟩ = some (.int .i64 x)) ∧ RowKit.Below w2.heap.size w2 wx) (first | exact HSd.out | exact HSe.out | assumption) (first
              | (refine step_recs (.tmp 72) (.tmp 73) rfl rfl HOE.out HRA.out HR1.out.2 (by simp) (by omega) (by simp) (by simp [Act.eval]) (by simp [Act.eval]) ?_; intro v4 w4 hown4 hb4; have hS4 := HC.out w4 (HSe.out.2.trans hb4))
              | (refine step_recs (.tmp 74) (.tmp 75) rfl rfl hown4 (HR2.out.1.ext (HB2.out.trans (hS4.2.mono HB2.out.size))) HR2.out.2 (by simp; have := HL1.out; omega) (by omega) (by have := hS4.2.size; exact this) (by simp [Act.eval]) (by simp [Act.eval]) ?_; intro v5 w5 hown5 hb5; have hS5 := HC.out w5 (hS4.2.trans (hb5.mono (Nat.le_refl _))); rw [List.nil_append] at hown5; obtain ⟨A5, c5, rfl, hr5⟩ := OwnR.rd hown5)
              | (go_at_call 8; have h5 := of_any A5 _ c5 (a ++ b) x w5 hr5 (by rw [List.length_append]; have := HL1.out; have := HL2.out; omega); rw [HJ.out.1, HJ.out.2, List.length_append] at h5; refine h5.mono ?_; rintro e6 w6 ⟨⟨va, rfl, oa⟩, hb6⟩; have hS6 := HC.out w6 (hS5.2.trans (hb6.mono hS5.2.size))))
            obtain ⟨Aa, ca, rfl, -, -, -⟩ := OwnT.rd oa
            have HOA := Lib.hid oa
            have HB6 := Lib.hid hS6.2
            have HOX6 := Lib.hid (OwnT.below HOX2.out hS6.2 (Nat.le_refl _))
            have HOY6 := Lib.hid (OwnT.below HOY.out hS6.2 (Nat.le_refl _))
            have HMG := Lib.hid (merge_any Ax _ cx (ofL a x) Ay _ cy (ofL b x) w6 (Rd.of_own HOX6.out) (by have := HSM.out.2.2.1; omega) (Rd.of_own HOY6.out) (by have := HSM.out.2.2.2; omega))
            rw [HM1.out.1, HM1.out.2] at HMG
            clear oa hS6 hS5 hS4 hown4 hown5 hr5 hb4 hb5 hb6 h5 HOE HRA HSd HSe
            go_wp2_with fail
            refine HMG.out.mono ?_
            rintro e7 w7 ⟨⟨vm, rfl, om⟩, hb7⟩
            obtain ⟨Am, cm, rfl, -, -, -⟩ := OwnT.rd om
            have HOM := Lib.hid om
            have HB7 := Lib.hid (HB6.out.trans (hb7.mono HB6.out.size))
            have HOX7 := Lib.hid (OwnT.below HOX6.out hb7 (Nat.le_refl _))
            have HOY7 := Lib.hid (OwnT.below HOY6.out hb7 (Nat.le_refl _))
            have HOA7 := Lib.hid (OwnT.below HOA.out hb7 (Nat.le_refl _))
            have HMH := Lib.hid (merge_any Ay _ cy (ofL b x) Ax _ cx (ofL a x) w7 (Rd.of_own HOY7.out) (by have := HSM.out.2.2.2; omega) (Rd.of_own HOX7.out) (by have := HSM.out.2.2.1; omega))
            rw [HM2.out.1, HM2.out.2] at HMH
            clear om hb7 HMG
            go_wp2_with fail
            refine HMH.out.mono ?_
            rintro e8 w8 ⟨⟨vk, rfl, ok⟩, hb8⟩
            obtain ⟨Ak, ck, rfl, -, -, -⟩ := OwnT.rd ok
            have HOK8 := Lib.hid ok
            have HB8 := Lib.hid (HB7.out.trans (hb8.mono HB7.out.size))
            have HOX8 := Lib.hid (OwnT.below HOX7.out hb8 (Nat.le_refl _))
            have HOA8 := Lib.hid (OwnT.below HOA7.out hb8 (Nat.le_refl _))
            have HOM8 := Lib.hid (OwnT.below HOM.out hb8 (Nat.le_refl _))
            have HW8 := Lib.hid (HW2.out.trans (HB8.out.mono HW2.out.size))
            have d0 := (HW8.out.cell (p := ⟨w.heap.size, 0, none⟩) HLT.out).trans HX.out.1
            have d1 := (HW8.out.cell (p := ⟨w.heap.size, 1, none⟩) HLT.out).trans HX.out.2
            have HD := Lib.hid (And.intro d0 d1)
            have HO3 := Lib.hid (of_any A1 n1 c1 a (x * y) w8 (HR1.out.1.ext (HB0.out.trans (HW8.out.mono HB0.out.size))) (by omega))
            rw [HWD.out.1, HWD.out.2.1] at HO3
            clear ok hb8 HMH
            go_wp2_with fail
            refine HO3.out.mono ?_
            rintro e9 w9 ⟨⟨vw, rfl, ow⟩, hb9⟩
            obtain ⟨Aw, cw, rfl, -, -, -⟩ := OwnT.rd ow
            have HOW := Lib.hid ow
            have HW9 := Lib.hid (HW8.out.trans (hb9.mono HW8.out.size))
            have HOX9 := Lib.hid (OwnT.below HOX8.out hb9 (Nat.le_refl _))
            have HOA9 := Lib.hid (OwnT.below HOA8.out hb9 (Nat.le_refl _))
            have HOM9 := Lib.hid (OwnT.below HOM8.out hb9 (Nat.le_refl _))
            have HOK9 := Lib.hid (OwnT.below HOK8.out hb9 (Nat.le_refl _))
            clear d0 d1 hb9 ow HO3
            have d0 := (HW9.out.cell (p := ⟨w.heap.size, 0, none⟩) HLT.out).trans HX.out.1
            have d1 := (HW9.out.cell (p := ⟨w.heap.size, 1, none⟩) HLT.out).trans HX.out.2
            have HCR := Lib.hid (coarse_any Ax _ cx (ofL a x) (x * y) w9 (Rd.of_own HOX9.out) (by have := HSM.out.2.2.1; omega))
            rw [HWD.out.2.2.1, HWD.out.2.2.2] at HCR
            go_wp2_with fail
            refine HCR.out.mono ?_
            rintro e10 w10 ⟨⟨vc, rfl, oc⟩, hb10⟩
            obtain ⟨Ac, cc, rfl, -, -, -⟩ := OwnT.rd oc
            have HW10 := Lib.hid (HW9.out.trans (hb10.mono HW9.out.size))
            have rc := Rd.of_own oc
            have rw' := Rd.of_own (OwnT.below HOW.out hb10 (Nat.le_refl _))
            have ra := Rd.of_own (OwnT.below HOA9.out hb10 (Nat.le_refl _))
            have rm := Rd.of_own (OwnT.below HOM9.out hb10 (Nat.le_refl _))
            have rk := Rd.of_own (OwnT.below HOK9.out hb10 (Nat.le_refl _))
            have HRS := Lib.hid (And.intro rc (And.intro rw' (And.intro ra (And.intro rm rk))))
            clear rc rw' ra rm rk oc hb10 HCR d0 d1
            go_wp2_with fail
            refine (equal_same Aa _ ca Am cm GG w10 HRS.out.2.2.1 HRS.out.2.2.2.1 (by have := HSM.out.1; omega)).mono ?_
            rintro e11 w11 ⟨rfl, hb11⟩
            have HE11 := Lib.hid hb11
            clear hb11
            go_wp2_with fail
            refine (equal_same Am _ cm Ak ck GG w11 (HRS.out.2.2.2.1.ext HE11.out) (HRS.out.2.2.2.2.ext HE11.out) (by have := HSM.out.1; omega)).mono ?_
            rintro e12 w12 ⟨rfl, hb12⟩
            have HE12 := Lib.hid (HE11.out.trans (hb12.mono HE11.out.size))
            clear hb12
            go_wp2_with fail
            refine (equal_same Aw _ cw Ac cc WW w12 (HRS.out.2.1.ext HE12.out) (HRS.out.1.ext HE12.out) (by have := HSM.out.2.1; omega)).mono ?_
            rintro e13 w13 ⟨rfl, hb13⟩
            have HE13 := Lib.hid (HB0.out.trans ((HW10.out.trans ((HE12.out.trans (hb13.mono HE12.out.size)).mono HW10.out.size)).mono HB0.out.size))
            clear hb13
            go_wp2_with fail
            refine (awake_any _).mono ?_
            rintro e20 w20 ⟨rfl, hb20⟩
            have HBZ := Lib.hid (HE13.out.trans (hb20.mono HE13.out.size))
            clear hb20
            go_wp2_with fail
            go_ret
            exact ⟨rfl, HBZ.out⟩
          · go_enter Try.func5, Try.ntmps5
            go_wp2_with fail
            generalize w.alloc (.cells #[.int .i64 x, .int .i64 y] 53) = w0 at *
            refine HF1.out.mono ?_
            rintro e1 w1 ⟨rfl, rfl⟩
            go_wp2_with fail
            refine HF2.out.mono ?_
            rintro e1 w1 ⟨rfl, rfl⟩
            go_wp2_with fail
            refine HO1.out.mono ?_
            rintro e1 w1 ⟨⟨vx, rfl, -⟩, hb1⟩
            have hd1 := hb1.cell (p := ⟨w.heap.size, 0, none⟩) HLT.out
            rw [d0] at hd1
            have HB1 := Lib.hid (HB0.out.trans (hb1.mono HB0.out.size))
            have HO2 := Lib.hid (of_any A2 n2 c2 b x w1 (HR2.out.1.ext HB1.out) (by omega))
            clear hb1 HO1 HF1 HF2 d0 d1
            have hne : (ofE b x == 0) = false := by rw [beq_eq_false_iff_ne]; exact h2
            have hne2 : ¬ ofE b x = 0 := h2
            generalize ofE b x = q at *
            clear h2
            go_wp2_with fail
            refine HO2.out.mono ?_
            rintro e2 w2 ⟨⟨vy, rfl, -⟩, hb2⟩
            have HB2 := Lib.hid (HB1.out.trans (hb2.mono HB1.out.size))
            clear hb2 HO2 hd1
            go_wp2_with fail
            refine (awake_any _).mono ?_
            rintro e20 w20 ⟨rfl, hb20⟩
            have HBZ := Lib.hid (HB2.out.trans (hb20.mono HB2.out.size))
            clear hb20
            go_wp2_with fail
            go_ret
            exact ⟨rfl, HBZ.out⟩
        · have hne : (ofE a x == 0) = false := by rw [beq_eq_false_iff_ne]; exact h1
          have hne2 : ¬ ofE a x = 0 := h1
          generalize ofE a x = q at *
          clear h1
          go_enter Try.func5, Try.ntmps5
          go_wp2_with fail
          generalize w.alloc (.cells #[.int .i64 x, .int .i64 y] 53) = w0 at *
          refine HF1.out.mono ?_
          rintro e1 w1 ⟨rfl, rfl⟩
          go_wp2_with fail
          refine HF2.out.mono ?_
          rintro e1 w1 ⟨rfl, rfl⟩
          go_wp2_with fail
          refine HO1.out.mono ?_
          rintro e1 w1 ⟨⟨vx, rfl, -⟩, hb1⟩
          have hd1 := hb1.cell (p := ⟨w.heap.size, 0, none⟩) HLT.out
          rw [d0] at hd1
          have HB1 := Lib.hid (HB0.out.trans (hb1.mono HB0.out.size))
          have HO2 := Lib.hid (of_any A2 n2 c2 b x w1 (HR2.out.1.ext HB1.out) (by omega))
          clear hb1 HO1 HF1 HF2 d0 d1
          go_wp2_with fail
          refine HO2.out.mono ?_
          rintro e2 w2 ⟨⟨vy, rfl, -⟩, hb2⟩
          have HB2 := Lib.hid (HB1.out.trans (hb2.mono HB1.out.size))
          clear hb2 HO2 hd1
          go_wp2_with fail
          refine (awake_any _).mono ?_
          rintro e20 w20 ⟨rfl, hb20⟩
          have HBZ := Lib.hid (HB2.out.trans (hb20.mono HB2.out.size))
          clear hb20
          go_wp2_with fail
          go_ret
          exact ⟨rfl, HBZ.out⟩
      · have hw2 : ¬ (1 ≤ x ∧ 1 ≤ y ∧ x ≤ 10000 ∧ y ≤ 10000) := fun h => hw (decide_eq_true h)
        have d0 := HX.out.1
        have d1 := HX.out.2
        clear hw
        by_cases g1 : x < 1
        · clear hw2
          go_enter Try.func5, Try.ntmps5
          go_wp2_with fail
          generalize w.alloc (.cells #[.int .i64 x, .int .i64 y] 53) = w0 at *
          refine HF1.out.mono ?_
          rintro e1 w1 ⟨rfl, rfl⟩
          go_wp2_with fail
          refine HF2.out.mono ?_
          rintro e1 w1 ⟨rfl, rfl⟩
          go_wp2_with fail
          refine (awake_any _).mono ?_
          rintro e20 w20 ⟨rfl, hb20⟩
          have HBZ := Lib.hid (HB0.out.trans (hb20.mono HB0.out.size))
          clear hb20
          go_wp2_with fail
          go_ret
          exact ⟨rfl, HBZ.out⟩
        by_cases g2 : y < 1
        · clear hw2
          go_enter Try.func5, Try.ntmps5
          go_wp2_with fail
          generalize w.alloc (.cells #[.int .i64 x, .int .i64 y] 53) = w0 at *
          refine HF1.out.mono ?_
          rintro e1 w1 ⟨rfl, rfl⟩
          go_wp2_with fail
          refine HF2.out.mono ?_
          rintro e1 w1 ⟨rfl, rfl⟩
          go_wp2_with fail
          refine (awake_any _).mono ?_
          rintro e20 w20 ⟨rfl, hb20⟩
          have HBZ := Lib.hid (HB0.out.trans (hb20.mono HB0.out.size))
          clear hb20
          go_wp2_with fail
          go_ret
          exact ⟨rfl, HBZ.out⟩
        by_cases g3 : 10000 < x
        · clear hw2
          go_enter Try.func5, Try.ntmps5
          go_wp2_with fail
          generalize w.alloc (.cells #[.int .i64 x, .int .i64 y] 53) = w0 at *
          refine HF1.out.mono ?_
          rintro e1 w1 ⟨rfl, rfl⟩
          go_wp2_with fail
          refine HF2.out.mono ?_
          rintro e1 w1 ⟨rfl, rfl⟩
          go_wp2_with fail
          refine (awake_any _).mono ?_
          rintro e20 w20 ⟨rfl, hb20⟩
          have HBZ := Lib.hid (HB0.out.trans (hb20.mono HB0.out.size))
          clear hb20
          go_wp2_with fail
          go_ret
          exact ⟨rfl, HBZ.out⟩
        have g4 : 10000 < y := by omega
        clear hw2
        go_enter Try.func5, Try.ntmps5
        go_wp2_with fail
        generalize w.alloc (.cells #[.int .i64 x, .int .i64 y] 53) = w0 at *
        refine HF1.out.mono ?_
        rintro e1 w1 ⟨rfl, rfl⟩
        go_wp2_with fail
        refine HF2.out.mono ?_
        rintro e1 w1 ⟨rfl, rfl⟩
        go_wp2_with fail
        refine (awake_any _).mono ?_
        rintro e20 w20 ⟨rfl, hb20⟩
        have HBZ := Lib.hid (HB0.out.trans (hb20.mono HB0.out.size))
        clear hb20
        go_wp2_with fail
        go_ret
        exact ⟨rfl, HBZ.out⟩
    · have hf : few b = false := by simpa using hb
      rw [ha] at HF1
      rw [hf] at HF2
      clear ha hb hf
      go_enter Try.func5, Try.ntmps5
      go_wp2_with fail
      generalize w.alloc (.cells #[.int .i64 x, .int .i64 y] 53) = w0 at *
      refine HF1.out.mono ?_
      rintro e1 w1 ⟨rfl, rfl⟩
      go_wp2_with fail
      refine HF2.out.mono ?_
      rintro e1 w1 ⟨rfl, rfl⟩
      go_wp2_with fail
      refine (awake_any _).mono ?_
      rintro e20 w20 ⟨rfl, hb20⟩
      have HBZ := Lib.hid (HB0.out.trans (hb20.mono HB0.out.size))
      clear hb20
      go_wp2_with fail
      go_ret
      exact ⟨rfl, HBZ.out⟩
  · have hf : few a = false := by simpa using ha
    rw [hf] at HF1
    clear ha hf
    go_enter Try.func5, Try.ntmps5
    go_wp2_with fail
    generalize w.alloc (.cells #[.int .i64 x, .int .i64 y] 53) = w0 at *
    refine HF1.out.mono ?_
    rintro e1 w1 ⟨rfl, rfl⟩
    go_wp2_with fail
    refine (awake_any _).mono ?_
    rintro e20 w20 ⟨rfl, hb20⟩
    have HBZ := Lib.hid (HB0.out.trans (hb20.mono HB0.out.size))
    clear hb20
    go_wp2_with fail
    go_ret
    exact ⟨rfl, HBZ.out⟩
end Ta
end Go.Proofs.Ytaockieikcibdaa
