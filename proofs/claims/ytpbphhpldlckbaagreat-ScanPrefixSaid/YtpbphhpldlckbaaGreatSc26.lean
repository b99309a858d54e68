/- Go's stable sort, as lists: what exchanging, inserting and chunks of a fixed length come to: no program. slices.SortStableFunc at structs: exchanging of ranges, turning. slices.SortStableFunc at structs: two ranges beside each other change places. slices.SortStableFunc at structs: two sorted ranges beside each other are merged. -/
import Derived.Test.YtpbphhpldlckbaaGreatSc09
import Derived.Sort.Defs
import Derived.Test.YtpbphhpldlckbaaGreatRows
import Derived.Test.YtpbphhpldlckbaaGreatSc01
import Derived.Test.YtpbphhpldlckbaaGreatSc03
import Derived.Shelf.SlSortCmp.KitK
import Derived.Shelf.Lay
import Derived.Ground.SlsfProg
import Derived.Deep.LoopGhost
namespace Go.Proofs.YtpbphhpldlckbaaGreat
namespace St
open Go.Sort
variable {α : Type} (key : α → Int)

theorem set_mid (A B : List α) (x z : α) : (A ++ x :: B).set A.length z = A ++ z :: B := by
  rw [List.set_append_right _ _ (Nat.le_refl _), Nat.sub_self]; rfl
theorem get_mid (A B : List α) (x : α) : (A ++ x :: B)[A.length]? = some x := by
  rw [List.getElem?_append_right (Nat.le_refl _), Nat.sub_self]; rfl

section
variable [Inhabited α]
theorem arr_at {d : Array α} {A B : List α} {x : α} {i : Nat} (h : d.toList = A ++ x :: B) (hi : i = A.length) : d[i]! = x := by
  have h1 : d[i]? = some x := by rw [← Array.getElem?_toList, h, hi, get_mid]
  rw [getElem!_def, h1]

theorem swp_list {d : Array α} {A B C : List α} {x y : α} {i j : Nat} (h : d.toList = A ++ x :: (B ++ y :: C)) (hi : i = A.length) (hj : j = A.length + 1 + B.length) : (swp d i j).toList = A ++ y :: (B ++ x :: C) := by
  have e1 : d[i]! = x := arr_at h hi
  have e2 : d[j]! = y := arr_at (A := A ++ x :: B) (B := C) (by rw [h]; simp) (by simp; omega)
  unfold swp
  rw [e1, e2, Array.toList_setIfInBounds, Array.toList_setIfInBounds, h, hi, set_mid]
  have := set_mid (A ++ y :: B) C y x
  rw [show (A ++ y :: B).length = j by simp; omega] at this
  simpa using this

theorem swp_list' {d : Array α} {A B C : List α} {x y : α} {i j : Nat} (h : d.toList = A ++ x :: (B ++ y :: C)) (hi : i = A.length) (hj : j = A.length + 1 + B.length) : (swp d j i).toList = A ++ y :: (B ++ x :: C) := by
  have e1 : d[i]! = x := arr_at h hi
  have e2 : d[j]! = y := arr_at (A := A ++ x :: B) (B := C) (by rw [h]; simp) (by simp; omega)
  unfold swp
  have s1 := set_mid (A ++ x :: B) C y x
  rw [show (A ++ x :: B).length = j by simp; omega] at s1
  rw [e1, e2, Array.toList_setIfInBounds, Array.toList_setIfInBounds, h, show A ++ x :: (B ++ y :: C) = (A ++ x :: B) ++ y :: C by simp, s1, hi]
  simp

variable {lt : α → α → Bool} (hlt : ∀ x y, lt x y = decide (key x < key y))
include hlt

theorem insInner_list (A : List α) (x : α) : ∀ (n : Nat) (S B : List α) (d : Array α), S.length = n → Srt key S → d.toList = A ++ (S ++ x :: B) → (insInner lt A.length (A.length + S.length) d).toList = A ++ (mrg key S [x] ++ B) := by
  intro n
  induction n with
  | zero =>
    intro S B d hn _ h
    have : S = [] := List.eq_nil_of_length_eq_zero hn
    subst this
    rw [mrg_nil_left]
    have : insInner lt A.length (A.length + ([] : List α).length) d = d := by
      rw [List.length_nil, Nat.add_zero]
      rcases hA : A.length with _ | k
      · rw [insInner]
      · rw [insInner, if_neg (by simp)]
    rw [this, h]; rfl
  | succ n ih =>
    intro S B d hn hS h
    obtain ⟨S', s, rfl⟩ : ∃ S' s, S = S' ++ [s] := ⟨S.dropLast, S.getLast (by intro e; simp [e] at hn), (List.dropLast_concat_getLast _).symm⟩
    have hn' : S'.length = n := by simpa using hn
    have hx : d[A.length + S'.length + 1]! = x := arr_at (A := A ++ (S' ++ [s])) (B := B) (by rw [h]; simp) (by simp; omega)
    have hs : d[A.length + S'.length]! = s := arr_at (A := A ++ S') (B := x :: B) (by rw [h]; simp) (by simp)
    have hS' : Srt key S' ∧ ∀ z ∈ S', key z ≤ key s := by
      have := List.pairwise_append.1 hS
      exact ⟨this.1, fun z hz => this.2.2 z hz s (by simp)⟩
    rw [show A.length + (S' ++ [s]).length = (A.length + S'.length) + 1 by simp; omega, insInner, hx, hs, hlt]
    by_cases hlt' : key x < key s
    · rw [if_pos (by simp only [hlt', decide_true, Bool.and_true, decide_eq_true_eq]; omega)]
      have e := swp_list' (d := d) (A := A ++ S') (B := []) (C := B) (x := s) (y := x) (i := A.length + S'.length) (j := A.length + S'.length + 1) (by rw [h]; simp) (by simp) (by simp)
      rw [ih S' (s :: B) _ hn' hS'.1 (by rw [e]; simp)]
      have := mrg_split' key S' [s] [x] [] (by intro y hy z hz; simp at hy hz; subst hy; subst hz; exact hlt') (by simp)
      rw [List.append_nil, mrg_nil_right] at this
      rw [this]; simp
    · rw [if_neg (by simp [hlt'])]
      have := mrg_one key (S' ++ [s]) [] x (by intro z hz; rcases List.mem_append.1 hz with hz | hz; (have := hS'.2 z hz; omega); (simp at hz; subst hz; omega)) (by simp)
      rw [List.append_nil] at this
      rw [this, h]; simp

theorem insOuter_list (A B : List α) : ∀ (M2 M1 : List α) (d : Array α), d.toList = A ++ (stab key M1 ++ (M2 ++ B)) → (insOuter lt A.length (A.length + M1.length + M2.length) (A.length + M1.length) d).toList = A ++ (stab key (M1 ++ M2) ++ B) := by
  intro M2
  induction M2 with
  | nil =>
    intro M1 d h
    rw [insOuter, if_neg (by simp), List.append_nil, h]; rfl
  | cons x M2 ih =>
    intro M1 d h
    rw [insOuter, if_pos (by simp)]
    have e := insInner_list key hlt A x _ (stab key M1) (M2 ++ B) d rfl (stab_srt key M1) (by rw [h]; simp)
    rw [length_stab] at e
    have h1 : mrg key (stab key M1) [x] = stab key (M1 ++ [x]) := by rw [← mrg_stab, stab_one]
    have := ih (M1 ++ [x]) (insInner lt A.length (A.length + M1.length) d) (by rw [e, h1])
    rw [show M1 ++ x :: M2 = (M1 ++ [x]) ++ M2 by simp, ← this]
    congr 2
    · simp; omega
    · simp; omega

theorem insertionSort_list (A M B : List α) (d : Array α) (h : d.toList = A ++ (M ++ B)) : (insertionSort lt d A.length (A.length + M.length)).toList = A ++ (stab key M ++ B) := by
  unfold insertionSort
  rcases M with _ | ⟨x, M⟩
  · rw [insOuter, if_neg (by simp), h]; rfl
  · have := insOuter_list key hlt A B M [x] d (by rw [stab_one, h]; rfl)
    rw [show [x] ++ M = x :: M from rfl] at this
    rw [← this]
    congr 2
    simp; omega
end

/-- Chunks of bs elements, each sorted. -/
def cs (bs : Nat) (l : List α) : List α := if _h : bs = 0 ∨ l.length ≤ bs then stab key l else stab key (l.take bs) ++ cs bs (l.drop bs)
termination_by l.length
decreasing_by simp only [List.length_drop]; omega

theorem cs_small {bs : Nat} {l : List α} (h : l.length ≤ bs) : cs key bs l = stab key l := by rw [cs, dif_pos (Or.inr h)]
theorem cs_ge {bs : Nat} {l : List α} (h0 : 0 < bs) (h : bs ≤ l.length) : cs key bs l = stab key (l.take bs) ++ cs key bs (l.drop bs) := by
  by_cases h' : l.length ≤ bs
  · have e : l.length = bs := by omega
    rw [cs_small key h', List.take_of_length_le h', List.drop_of_length_le h', cs_small key (by simp), stab_nil, List.append_nil]
  · rw [cs, dif_neg (by omega)]
theorem cs_twice {bs : Nat} {l : List α} (h0 : 0 < bs) (h : 2 * bs ≤ l.length) : cs key bs l = stab key (l.take bs) ++ (stab key ((l.drop bs).take bs) ++ cs key bs (l.drop (2 * bs))) ∧
    cs key (2 * bs) l = mrg key (stab key (l.take bs)) (stab key ((l.drop bs).take bs)) ++ cs key (2 * bs) (l.drop (2 * bs)) := by
  refine ⟨?_, ?_⟩
  · rw [cs_ge key h0 (by omega), cs_ge key h0 (by simp; omega), List.drop_drop, show bs + bs = 2 * bs by omega]
  · rw [cs_ge key (by omega) h, mrg_stab]
    congr 2
    rw [show 2 * bs = bs + bs by omega, List.take_add]
theorem cs_last {bs : Nat} {l : List α} (h0 : 0 < bs) (h : bs ≤ l.length) (h2 : l.length < 2 * bs) : cs key bs l = stab key (l.take bs) ++ stab key (l.drop bs) ∧ cs key (2 * bs) l = mrg key (stab key (l.take bs)) (stab key (l.drop bs)) := by
  refine ⟨?_, ?_⟩
  · rw [cs_ge key h0 h, cs_small key (by simp; omega)]
  · rw [cs_small key (by omega), mrg_stab, List.take_append_drop]

end St
end Go.Proofs.YtpbphhpldlckbaaGreat
namespace Go.Proofs.YtpbphhpldlckbaaGreat
open Go.Shelf Go.RowKit Go.Lib Go.Sort St

/-- What the walks lean on: the bodies and types of the stable sort at one element type; how many cells an element has is left open. -/
structure SwLays (P : Program) (k : Nat) : Prop where
  mixed : P.follows .mixedOrders = true
  swap : P.funcs[157]? = some Tryz.f157
  rot : P.funcs[156]? = some Tryz.f156
  sym : P.funcs[154]? = some Tryz.f154
  stb : P.funcs[151]? = some Tryz.f151
  tu : P.underlying 0 = some (TypeDesc.tuple #[])
  au : ∀ w, (isAgg 0).run P w = .ok false w
  zu : ∀ w, (Go.sizeOf 0).run P w = .ok 1 w
  vu : ∀ w, (zeroValue 0).run P w = .ok (Value.tuple #[]) w
  ti : P.underlying 3 = some (TypeDesc.int IntKind.i64)
  ai : ∀ w, (isAgg 3).run P w = .ok false w
  zi : ∀ w, (Go.sizeOf 3).run P w = .ok 1 w
  vi : ∀ w, (zeroValue 3).run P w = .ok (Value.int IntKind.i64 0) w
  tb : P.underlying 4 = some (TypeDesc.bool)
  ab : ∀ w, (isAgg 4).run P w = .ok false w
  zb : ∀ w, (Go.sizeOf 4).run P w = .ok 1 w
  vb : ∀ w, (zeroValue 4).run P w = .ok (Value.bool false) w
  tn : P.underlying 106 = some (TypeDesc.int IntKind.u64)
  an : ∀ w, (isAgg 106).run P w = .ok false w
  zn : ∀ w, (Go.sizeOf 106).run P w = .ok 1 w
  vn : ∀ w, (zeroValue 106).run P w = .ok (Value.int IntKind.u64 0) w
  ts : P.underlying 194 = some (TypeDesc.slice 197)
  aS : ∀ w, (isAgg 194).run P w = .ok false w
  zs : ∀ w, (Go.sizeOf 194).run P w = .ok 1 w
  vs : ∀ w, (zeroValue 194).run P w = .ok (Value.slice none 0 0) w
  tf : P.underlying 216 = some (TypeDesc.func #[197, 197] #[3] false)
  af : ∀ w, (isAgg 216).run P w = .ok false w
  zf : ∀ w, (Go.sizeOf 216).run P w = .ok 1 w
  vf : ∀ w, (zeroValue 216).run P w = .ok (Value.nilFunc) w
  aE : ∀ w, (isAgg 197).run P w = .ok true w
  zE : ∀ w, (Go.sizeOf 197).run P w = .ok k w
theorem swLays : SwLays Tryz.prog 2 where
  mixed := by kernel_rfl
  swap := Tryz.func157
  rot := Tryz.func156
  sym := Tryz.func154
  stb := Tryz.func151
  tu := Tryz.underlying0
  au := Tryz.isAgg0
  zu := Tryz.sizeOf0
  vu := Tryz.zeroValue0
  ti := Tryz.underlying3
  ai := Tryz.isAgg3
  zi := Tryz.sizeOf3
  vi := Tryz.zeroValue3
  tb := Tryz.underlying4
  ab := Tryz.isAgg4
  zb := Tryz.sizeOf4
  vb := Tryz.zeroValue4
  tn := Tryz.underlying106
  an := Tryz.isAgg106
  zn := Tryz.sizeOf106
  vn := Tryz.zeroValue106
  ts := Tryz.underlying194
  aS := Tryz.isAgg194
  zs := Tryz.sizeOf194
  vs := Tryz.zeroValue194
  tf := Tryz.underlying216
  af := Tryz.isAgg216
  zf := Tryz.sizeOf216
  vf := Tryz.zeroValue216
  aE := Tryz.isAgg197
  zE := Tryz.sizeOf197


section
variable {P : Program} {k : Nat} {α : Type} [Inhabited α] {enc : α → List Value} {blk off : Nat} {w0 : World} {d0 : Array α}

set_option maxHeartbeats 4000000 in
set_option maxRecDepth 1000000 in
/-- Two ranges that do not overlap are exchanged. -/
theorem swapRange_is (L : SwLays P k) (fv : Value) (cap : Nat) (d : Array α) (w : World) (R : RowK enc k w0 blk off d0) (hs : d0.size = d.size) (S : SWK enc k w0 blk off d w) (hsz : d.size < 4611686018427387904)
    (A X M Y Z : List α) (hd : d.toList = A ++ (X ++ (M ++ (Y ++ Z)))) (hXY : X.length = Y.length) (a b n : Nat) (ha : a = A.length) (hb : b = A.length + X.length + M.length) (hn : n = X.length) :
    Calls P 157 #[.slice (some ⟨blk, off, none⟩) d.size cap, .int .i64 (a : Int), .int .i64 (b : Int), .int .i64 (n : Int), fv] w fun e w' =>
      e = .returned (.tuple #[]) ∧ ∃ d', SWK enc k w0 blk off d' w' ∧ d'.toList = A ++ (Y ++ (M ++ (X ++ Z))) := by
  have mixed := L.mixed
  have tu := L.tu
  have au := L.au
  have zu := L.zu
  have vu := L.vu
  have ti := L.ti
  have ai := L.ai
  have zi := L.zi
  have vi := L.vi
  have tb := L.tb
  have ab := L.ab
  have zb := L.zb
  have vb := L.vb
  have tn := L.tn
  have an := L.an
  have zn := L.zn
  have vn := L.vn
  have ts := L.ts
  have aS := L.aS
  have zs := L.zs
  have vs := L.vs
  have tf := L.tf
  have af := L.af
  have zf := L.zf
  have vf := L.vf
  have aE := L.aE
  have zE := L.zE
  have us := run_underlying L.ts
  have S0 : Aside (SWK enc k w0 blk off d w) := S
  clear S
  have hdl : d.size = A.length + X.length + M.length + Y.length + Z.length := by rw [← Array.length_toList, hd]; simp; omega
  have HD := Lib.hid hd
  have bY : b + n ≤ d.size := by omega
  have aY : a + n ≤ d.size := by omega
  have HA : Aside (a = A.length ∧ b = A.length + X.length + M.length ∧ n = X.length ∧ n = Y.length) := ⟨ha, hb, hn, by omega⟩
  clear hd ha hb hn hdl hXY
  go_enter L.swap, Tryz.ntmps157
  go_wp2
  go_loopg [10] n (fun kx s10 wr => ∃ (i : Nat) (dk : Array α), s10 = .int .i64 (i : Int) ∧ i ≤ n ∧ n - i ≤ kx ∧ dk.size = d.size ∧ Aside (SWK enc k w0 blk off dk wr) ∧ Hid (dk.toList = A ++ ((Y.take i ++ X.drop i) ++ (M ++ ((X.take i ++ Y.drop i) ++ Z)))))
  case atStart => exact ⟨0, d, rfl, by omega, by omega, rfl, S0, (by show _ = _; rw [HD.out]; simp)⟩
  case round =>
    clear S0
    obtain ⟨i, dk, rfl, hin, hkx, hds, S1, heq⟩ := hrel
    by_cases hlt : (i : Int) < (n : Int)
    · go_wp2_with fail
      obtain ⟨x, hx⟩ : ∃ x, X[i]? = some x := ⟨X[i]'(by have := HA.out; omega), List.getElem?_eq_getElem _⟩
      obtain ⟨y, hy⟩ : ∃ y, Y[i]? = some y := ⟨Y[i]'(by have := HA.out; omega), List.getElem?_eq_getElem _⟩
      have HX := Lib.hid hx
      have HY := Lib.hid hy
      clear hx hy
      obtain ⟨ia, hia⟩ : ∃ ia, ia = a + i := ⟨_, rfl⟩
      obtain ⟨ib, hib⟩ : ∃ ib, ib = b + i := ⟨_, rfl⟩
      have wa : IntKind.i64.wrap ((a : Int) + (i : Int)) = (ia : Int) := by rw [IntKind.wrap_i64]; omega
      have wb : IntKind.i64.wrap ((b : Int) + (i : Int)) = (ib : Int) := by rw [IntKind.wrap_i64]; omega
      have pa : (0 : Int) ≤ (ia : Int) := by omega
      have pb : (0 : Int) ≤ (ib : Int) := by omega
      have ba : (ia : Int) < (d.size : Int) := by omega
      have bb : (ib : Int) < (d.size : Int) := by omega
      have ta : (ia : Int).toNat = ia := by omega
      have tb : (ib : Int).toNat = ib := by omega
      have S2 : Aside (SWK enc k w0 blk off (swp dk ia ib) _) := S1.out.swapped R ia ib (by omega) (by omega)
      have la := S1.out.ld1 R (by omega) P ia (by omega)
      have lb := S1.out.ld1 R (by omega) P ib (by omega)
      have sa := S1.out.st1 R (by omega) P ia (by omega) dk[ib]!
      have sb := S1.out.st2 R (by omega) P ia ib (by omega) (by omega) dk[ib]! dk[ia]!
      have na : (enc dk[ia]!).length = k := R.hk _
      have nb : (enc dk[ib]!).length = k := R.hk _
      generalize enc dk[ia]! = cA at S2 la sb na
      generalize enc dk[ib]! = cB at S2 lb sa sb nb
      have HI : Aside (ia = a + i ∧ ib = b + i) := ⟨hia, hib⟩
      clear S1 hia hib
      go_wp2_with fail
      go_big_region_o
      clear la lb sa sb
      go_wp2
      go_roundg (n - (i + 1))
      case measure => omega
      case rel =>
        refine ⟨i + 1, _, by go_num, by omega, by omega, by rw [size_swp]; exact hds, S2, ?_⟩
        obtain ⟨rfl, rfl⟩ := HI.out
        obtain ⟨ea, eb, enX, enY⟩ := HA.out
        have h1 := drop_at X i x HX.out
        have h2 := drop_at Y i y HY.out
        have h3 : X.take (i + 1) = X.take i ++ [x] := by rw [List.take_add_one, HX.out]; rfl
        have h4 : Y.take (i + 1) = Y.take i ++ [y] := by rw [List.take_add_one, HY.out]; rfl
        show _ = _
        have := swp_list (d := dk) (A := A ++ Y.take i) (B := X.drop (i + 1) ++ (M ++ X.take i)) (C := Y.drop (i + 1) ++ Z) (x := x) (y := y) (i := a + i) (j := b + i) (by rw [heq.out, h1, h2]; simp) (by simp; omega) (by simp; omega)
        rw [this, h3, h4]
        simp
    · go_wp2
      go_end0
      have hi : i = n := by omega
      obtain ⟨_, _, hnX, hnY⟩ := HA.out
      refine ⟨rfl, dk, S1.out, ?_⟩
      rw [heq.out, hi, List.take_of_length_le (by omega), List.take_of_length_le (by omega), List.drop_of_length_le (by omega), List.drop_of_length_le (by omega)]
      simp
end
end Go.Proofs.YtpbphhpldlckbaaGreat
namespace Go.Proofs.YtpbphhpldlckbaaGreat
open Go.Shelf Go.RowKit Go.Lib Go.Sort St

section
variable {P : Program} {k : Nat} {α : Type} [Inhabited α] {enc : α → List Value} {blk off : Nat} {w0 : World} {d0 : Array α}

set_option maxHeartbeats 4000000 in
set_option maxRecDepth 1000000 in
theorem rotate_is (L : SwLays P k) (fv : Value) (cap : Nat) (d : Array α) (w : World) (R : RowK enc k w0 blk off d0) (hs : d0.size = d.size) (S : SWK enc k w0 blk off d w) (hsz : d.size < 4611686018427387904)
    (A U V Z : List α) (hd : d.toList = A ++ (U ++ (V ++ Z))) (a m b : Nat) (ha : a = A.length) (hm : m = A.length + U.length) (hb : b = A.length + U.length + V.length) (hU : 0 < U.length) (hV : 0 < V.length) :
    Calls P 156 #[.slice (some ⟨blk, off, none⟩) d.size cap, .int .i64 (a : Int), .int .i64 (m : Int), .int .i64 (b : Int), fv] w fun e w' =>
      e = .returned (.tuple #[]) ∧ ∃ d', SWK enc k w0 blk off d' w' ∧ d'.toList = A ++ (V ++ (U ++ Z)) := by
  have mixed := L.mixed
  have tu := L.tu
  have au := L.au
  have zu := L.zu
  have vu := L.vu
  have ti := L.ti
  have ai := L.ai
  have zi := L.zi
  have vi := L.vi
  have tb := L.tb
  have ab := L.ab
  have zb := L.zb
  have vb := L.vb
  have tn := L.tn
  have an := L.an
  have zn := L.zn
  have vn := L.vn
  have ts := L.ts
  have aS := L.aS
  have zs := L.zs
  have vs := L.vs
  have tf := L.tf
  have af := L.af
  have zf := L.zf
  have vf := L.vf
  have aE := L.aE
  have zE := L.zE
  have us := run_underlying L.ts
  have eS : ∀ args w, (callFunc 157 args).run P w = .ok (.enter 157 args) w := enters_of L.swap (by kernel_rfl) rfl
  have hdl : d.size = A.length + U.length + V.length + Z.length := by rw [← Array.length_toList, hd]; simp; omega
  have S0 : Aside (SWK enc k w0 blk off d w ∧ d.toList = A ++ (U ++ (V ++ Z))) := ⟨S, hd⟩
  have HA : Aside (a = A.length ∧ m = A.length + U.length ∧ b = A.length + U.length + V.length ∧ 0 < U.length ∧ 0 < V.length) := ⟨ha, hm, hb, hU, hV⟩
  have HL : Aside (SwLays P k) := L
  have b1 : a ≤ m := by omega
  have b2 : m ≤ b := by omega
  have b3 : b ≤ d.size := by omega
  clear S hd ha hm hb hU hV hdl L
  go_enter HL.out.rot, Tryz.ntmps156
  go_wp2
  go_loopg [10, 11] (b - a) (fun kx s10 s11 wr => ∃ (i j : Nat) (dk : Array α), s10 = .int .i64 (i : Int) ∧ s11 = .int .i64 (j : Int) ∧ 0 < i ∧ 0 < j ∧ i + j ≤ kx ∧ i ≤ m ∧ m + j ≤ b ∧ dk.size = d.size ∧
    Aside (SWK enc k w0 blk off dk wr ∧ ∃ A' U' V' Z', A'.length = m - i ∧ U'.length = i ∧ V'.length = j ∧ dk.toList = A' ++ (U' ++ (V' ++ Z')) ∧ A' ++ (V' ++ (U' ++ Z')) = A ++ (V ++ (U ++ Z))))
  case atStart =>
    obtain ⟨ea, em, eb, hU, hV⟩ := HA.out
    exact ⟨m - a, b - m, d, by go_num, by go_num, by omega, by omega, by omega, by omega, by omega, rfl, ⟨S0.out.1, A, U, V, Z, by omega, by omega, by omega, S0.out.2, rfl⟩⟩
  case round =>
    clear S0
    obtain ⟨i, j, dk, rfl, rfl, hi, hj, hkx, him, hjb, hds, H⟩ := hrel
    by_cases hne : (i : Int) = (j : Int)
    · have hij : i = j := by omega
      subst hij
      obtain ⟨S1, A', U', V', Z', lA, lU, lV, e1, e2⟩ := H.out
      have hc := swapRange_is HL.out fv cap dk wr R (by omega) S1 (by omega) A' U' [] V' Z' (by rw [e1]; simp) (by omega) (m - i) m i (by omega) (by simp; omega) (by omega)
      rw [hds, show ((m - i : Nat) : Int) = (m : Int) - (i : Int) by omega] at hc
      have hfin : ∀ d' : Array α, d'.toList = A' ++ (V' ++ ([] ++ (U' ++ Z'))) → d'.toList = A ++ (V ++ (U ++ Z)) := by intro d' h; rw [h, ← e2]; simp
      have HF := Lib.hid hfin
      clear hfin S1 e1 e2 lA lU lV H
      go_wp2_with (go_at_fn 157; refine hc.mono ?_; rintro e w2 ⟨rfl, d2, S2, h2⟩)
      go_end0
      exact ⟨rfl, d2, S2, HF.out d2 h2⟩
    · by_cases hgt : (j : Int) < (i : Int)
      · obtain ⟨S1, A', U', V', Z', lA, lU, lV, e1, e2⟩ := H.out
        have hc := swapRange_is HL.out fv cap dk wr R (by omega) S1 (by omega) A' (U'.take j) (U'.drop j) V' Z' (by rw [e1, ← List.append_assoc (U'.take j), List.take_append_drop]) (by simp; omega) (m - i) m j (by omega) (by simp; omega) (by simp; omega)
        rw [hds, show ((m - i : Nat) : Int) = (m : Int) - (i : Int) by omega] at hc
        have hfin : ∀ d' : Array α, d'.toList = A' ++ (V' ++ (U'.drop j ++ (U'.take j ++ Z'))) → d'.size = d.size ∧ ∃ A' U' V' Z', A'.length = m - (i - j) ∧ U'.length = i - j ∧ V'.length = j ∧ d'.toList = A' ++ (U' ++ (V' ++ Z')) ∧ A' ++ (V' ++ (U' ++ Z')) = A ++ (V ++ (U ++ Z)) := by
          intro d' h
          refine ⟨?_, A' ++ V', U'.drop j, U'.take j, Z', by simp; omega, by simp; omega, by simp; omega, by rw [h]; simp, ?_⟩
          · rw [← hds, ← Array.length_toList, ← Array.length_toList, h, e1]; simp; omega
          · rw [← e2, ← List.append_assoc (U'.take j), List.take_append_drop]; simp
        have HF := Lib.hid hfin
        clear hfin S1 e1 e2 lA lU lV H
        go_wp2_with (go_at_fn 157; refine hc.mono ?_; rintro e w2 ⟨rfl, d2, S2, h2⟩)
        have h2' := HF.out d2 h2
        clear h2 hc HF
        have S3 : Aside _ := And.intro S2 h2'.2
        have h2s := h2'.1
        clear S2 h2'
        go_wp2
        go_roundg (i - j + j)
        case measure => omega
        case rel => exact ⟨i - j, j, d2, by go_num, rfl, by omega, by omega, by omega, by omega, by omega, h2s, S3⟩
      · obtain ⟨S1, A', U', V', Z', lA, lU, lV, e1, e2⟩ := H.out
        have hc := swapRange_is HL.out fv cap dk wr R (by omega) S1 (by omega) A' U' (V'.take (j - i)) (V'.drop (j - i)) Z' (by rw [e1, ← List.append_assoc (V'.take (j - i)), List.take_append_drop]) (by simp; omega) (m - i) (m + j - i) i (by omega) (by simp; omega) (by omega)
        rw [hds, show ((m - i : Nat) : Int) = (m : Int) - (i : Int) by omega, show ((m + j - i : Nat) : Int) = (m : Int) + (j : Int) - (i : Int) by omega] at hc
        have hfin : ∀ d' : Array α, d'.toList = A' ++ (V'.drop (j - i) ++ (V'.take (j - i) ++ (U' ++ Z'))) → d'.size = d.size ∧ ∃ A' U' V' Z', A'.length = m - i ∧ U'.length = i ∧ V'.length = j - i ∧ d'.toList = A' ++ (U' ++ (V' ++ Z')) ∧ A' ++ (V' ++ (U' ++ Z')) = A ++ (V ++ (U ++ Z)) := by
          intro d' h
          refine ⟨?_, A', V'.drop (j - i), V'.take (j - i), U' ++ Z', by omega, by simp; omega, by simp; omega, by rw [h], ?_⟩
          · rw [← hds, ← Array.length_toList, ← Array.length_toList, h, e1]; simp; omega
          · rw [← e2, ← List.append_assoc (V'.take (j - i)), List.take_append_drop]
        have HF := Lib.hid hfin
        clear hfin S1 e1 e2 lA lU lV H
        go_wp2_with (go_at_fn 157; refine hc.mono ?_; rintro e w2 ⟨rfl, d2, S2, h2⟩)
        have h2' := HF.out d2 h2
        clear h2 hc HF
        have S3 : Aside _ := And.intro S2 h2'.2
        have h2s := h2'.1
        clear S2 h2'
        go_wp2
        go_roundg (i + (j - i))
        case measure => omega
        case rel => exact ⟨i, j - i, d2, rfl, by go_num, by omega, by omega, by omega, by omega, by omega, h2s, S3⟩
end
end Go.Proofs.YtpbphhpldlckbaaGreat
namespace Go.Proofs.YtpbphhpldlckbaaGreat
open Go.Shelf Go.RowKit Go.Lib Go.Sort St

section
variable {P : Program} {k : Nat} {α : Type} [Inhabited α] {enc : α → List Value} {blk off : Nat} {w0 : World} {d0 : Array α}

set_option maxHeartbeats 8000000 in
set_option maxRecDepth 1000000 in
/-- One element ahead of a sorted range. -/
theorem symMerge_one (L : SwLays P k) (key : α → Int) (cf : α → α → Int) (hcf : ∀ x y, cf x y < 0 ↔ key x < key y) (g : Nat) (cb : Array Value) (eg : ∀ args w, (callFunc g args).run P w = .ok (.enter g args) w) (cap : Nat)
    (hC : CmpLays P g cb enc k cf blk off d0.size w0) (R : RowK enc k w0 blk off d0) (d : Array α) (w : World) (hs : d0.size = d.size) (S : SWK enc k w0 blk off d w) (hsz : d.size < 4611686018427387904)
    (A Y Z : List α) (x : α) (hd : d.toList = A ++ (x :: (Y ++ Z))) (hY : Srt key Y) (a m b : Nat) (ha : a = A.length) (hm : m = a + 1) (hb : b = m + Y.length) :
    Calls P 154 #[.slice (some ⟨blk, off, none⟩) d.size cap, .int .i64 (a : Int), .int .i64 (m : Int), .int .i64 (b : Int), .func (.func g) #[] cb] w fun e w' =>
      e = .returned (.tuple #[]) ∧ ∃ d', SWK enc k w0 blk off d' w' ∧ d'.toList = A ++ (mrg key [x] Y ++ Z) := by
  have mixed := L.mixed
  have tu := L.tu
  have au := L.au
  have zu := L.zu
  have vu := L.vu
  have ti := L.ti
  have ai := L.ai
  have zi := L.zi
  have vi := L.vi
  have tb := L.tb
  have ab := L.ab
  have zb := L.zb
  have vb := L.vb
  have tn := L.tn
  have an := L.an
  have zn := L.zn
  have vn := L.vn
  have ts := L.ts
  have aS := L.aS
  have zs := L.zs
  have vs := L.vs
  have tf := L.tf
  have af := L.af
  have zf := L.zf
  have vf := L.vf
  have aE := L.aE
  have zE := L.zE
  have us := run_underlying L.ts
  have hdl : d.size = A.length + 1 + Y.length + Z.length := by rw [← Array.length_toList, hd]; simp; omega
  have hx : d[a]! = x := arr_at hd ha
  have hyt : ∀ t, m ≤ t → t < b → Y[t - m]? = some d[t]! := by
    intro t h1 h2
    have h3 : d[t]? = Y[t - m]? := by
      rw [← Array.getElem?_toList, hd, List.getElem?_append_right (by omega), show t - A.length = (t - m) + 1 by omega, List.getElem?_cons_succ, List.getElem?_append_left (by omega)]
    rw [← h3, Array.getElem?_eq_getElem (show t < d.size by omega), getElem!_pos d t (by omega)]
  have S0 : Aside (SWK enc k w0 blk off d w) := S
  have HD : Aside (d.toList = A ++ (x :: (Y ++ Z))) := hd
  have HA : Aside (a = A.length ∧ b = m + Y.length ∧ d.size = A.length + 1 + Y.length + Z.length) := ⟨ha, hb, hdl⟩
  have HC : Aside _ := hC
  have HYT : Aside _ := hyt
  have HX : Aside (d[a]! = x) := hx
  have HF : Aside _ := hcf
  have HL : Aside (SwLays P k) := L
  have bm : b ≤ d.size := by omega
  have mb : m ≤ b := by omega
  have am : a < d.size := by omega
  have HM : Aside (m = a + 1) := hm
  have hm1 : (m : Int) - (a : Int) = 1 := by omega
  have am1 : a < m := by omega
  clear S hd ha hb hdl hC hyt hx hcf L hm
  go_enter HL.out.sym, Tryz.ntmps154
  go_wp2_with fail
  go_loopg [10, 11] (b - m) (fun kx s10 s11 wr => ∃ (i j : Nat), s10 = .int .i64 (i : Int) ∧ s11 = .int .i64 (j : Int) ∧ m ≤ i ∧ i ≤ j ∧ j ≤ b ∧ j - i ≤ kx ∧
    Aside (SWK enc k w0 blk off d wr ∧ (∀ t, m ≤ t → t < i → key d[t]! < key x) ∧ (∀ t, j ≤ t → t < b → ¬ key d[t]! < key x)))
  case atStart => exact ⟨m, b, rfl, rfl, by omega, by omega, by omega, by omega, S0.out, fun t h1 h2 => by omega, fun t h1 h2 => by omega⟩
  case round =>
    clear S0
    obtain ⟨i, j, rfl, rfl, hi, hij, hj, hkx, H⟩ := hrel
    by_cases hlt : (i : Int) < (j : Int)
    · go_wp2_with fail
      obtain ⟨h, he⟩ : ∃ h, h = (i + j) / 2 := ⟨_, rfl⟩
      have hh : ((i : Int) + (j : Int)) / 2 = (h : Int) := by omega
      have h1 : i ≤ h := by omega
      have h2 : h < j := by omega
      simp only [hh]
      clear hh he
      have ph : (0 : Int) ≤ (h : Int) := by omega
      have pa : (0 : Int) ≤ (a : Int) := by omega
      have bh : (h : Int) < (d.size : Int) := by omega
      have ba : (a : Int) < (d.size : Int) := by omega
      have th : (h : Int).toNat = h := by omega
      have ta : (a : Int).toNat = a := by omega
      have lh := fun n' os' => H.out.1.ld R hs.symm P h (by omega) n' os'
      have la := fun n' os' => H.out.1.ld R hs.symm P a (by omega) n' os'
      have hcg := fun n' os' => H.out.1.cmp HC.out hs.symm d[h]! d[a]! n' os'
      have HQ : Aside (∀ n' os', SWK enc k w0 blk off d (grow (wr.drewN n') os')) := fun n' os' => H.out.1.grown n' os'
      obtain ⟨xh, hxh⟩ : ∃ y, y = d[h]! := ⟨_, rfl⟩
      obtain ⟨xa, hxa⟩ : ∃ y, y = d[a]! := ⟨_, rfl⟩
      rw [← hxh] at lh hcg
      rw [← hxa] at la hcg
      have HXH : Aside (xh = d[h]! ∧ xa = x) := ⟨hxh, hxa.trans HX.out⟩
      clear hxh hxa
      have hord : ∀ s t, m ≤ s → s ≤ t → t < b → key d[s]! ≤ key d[t]! := by
        intro s t q1 q2 q3
        have e1 := HYT.out s q1 (by omega)
        have e2 := HYT.out t (by omega) q3
        rcases Nat.eq_or_lt_of_le q2 with rfl | q4
        · exact Int.le_refl _
        · obtain ⟨r1, s1⟩ := List.getElem?_eq_some_iff.1 e1
          obtain ⟨r2, s2⟩ := List.getElem?_eq_some_iff.1 e2
          have := List.pairwise_iff_getElem.1 hY _ _ r1 r2 (by omega)
          rwa [s1, s2] at this
      have HO : Aside _ := hord
      clear hord
      by_cases hlv : cf xh xa < 0
      · go_wp2_with fail
        go_quiet_grown (first | (go_at_fn g; refine Calls.grown_of (hcg _ _)))
        clear lh la hcg
        go_wp2
        go_roundg (j - (h + 1))
        case measure => omega
        case rel =>
          refine ⟨h + 1, j, by go_num, rfl, by omega, by omega, by omega, by omega, HQ.out _ _, fun t q1 q2 => ?_, H.out.2.2⟩
          obtain ⟨e1, e2⟩ := HXH.out
          have h3 := (HF.out _ _).1 hlv
          rw [e1, e2] at h3
          have := HO.out t h q1 (by omega) (by omega)
          omega
      · go_wp2_with fail
        go_quiet_grown (first | (go_at_fn g; refine Calls.grown_of (hcg _ _)))
        clear lh la hcg
        go_wp2
        go_roundg (h - i)
        case measure => omega
        case rel =>
          refine ⟨i, h, rfl, rfl, by omega, by omega, by omega, by omega, HQ.out _ _, H.out.2.1, fun t q1 q2 => ?_⟩
          obtain ⟨e1, e2⟩ := HXH.out
          have h3 : ¬ key xh < key xa := fun q => by have := (HF.out _ _).2 q; omega
          rw [e1, e2] at h3
          have := HO.out h t (by omega) q1 q2
          omega
    · have hij' : j = i := by omega
      subst hij'
      have hres : mrg key [x] Y = Y.take (j - m) ++ x :: Y.drop (j - m) := by
        have := one_mrg key (Y.take (j - m)) (Y.drop (j - m)) x ?_ ?_
        · rwa [List.take_append_drop] at this
        · intro s hs'
          obtain ⟨t, ht⟩ := List.mem_iff_getElem?.1 hs'
          rw [List.getElem?_take] at ht
          split at ht
          · rename_i hl
            have h1 := HYT.out (m + t) (by omega) (by omega)
            rw [show m + t - m = t by omega, ht] at h1
            rw [Option.some.inj h1]
            exact H.out.2.1 _ (by omega) (by omega)
          · cases ht
        · intro s hs'
          obtain ⟨t, ht⟩ := List.mem_iff_getElem?.1 hs'
          rw [List.getElem?_drop] at ht
          have hl : j - m + t < Y.length := (List.getElem?_eq_some_iff.1 ht).1
          have h1 := HYT.out (j + t) (by omega) (by have := HA.out; omega)
          rw [show j + t - m = j - m + t by omega, ht] at h1
          rw [Option.some.inj h1]
          have := H.out.2.2 (j + t) (by omega) (by have := HA.out; omega)
          omega
      have HR := Lib.hid hres
      have S1 : Aside _ := H.out.1
      clear hres H
      go_wp2_with fail
      go_loopg [13] (j - m) (fun kx s13 wr => ∃ (i : Nat) (dk : Array α), s13 = .int .i64 (i : Int) ∧ a ≤ i ∧ i + 1 ≤ j ∧ j - (i + 1) ≤ kx ∧ dk.size = d.size ∧ Aside (SWK enc k w0 blk off dk wr) ∧ Hid (dk.toList = A ++ (Y.take (i - a) ++ x :: (Y.drop (i - a) ++ Z))))
      case atStart => exact ⟨a, d, rfl, by omega, by omega, by omega, rfl, S1, (by show _ = _; rw [HD.out]; simp)⟩
      case round =>
        clear S1
        obtain ⟨i, dk, rfl, hai, hij, hkx, hds, S1, heq⟩ := hrel
        by_cases hlt : (i : Int) < (j : Int) - 1
        · go_wp2_with fail
          obtain ⟨y, hy⟩ : ∃ y, Y[i - a]? = some y := ⟨Y[i - a]'(by have := HA.out; omega), List.getElem?_eq_getElem _⟩
          have HY := Lib.hid hy
          clear hy
          obtain ⟨ia, hia⟩ : ∃ ia, ia = i := ⟨_, rfl⟩
          obtain ⟨ib, hib⟩ : ∃ ib, ib = i + 1 := ⟨_, rfl⟩
          have wb : IntKind.i64.wrap ((i : Int) + 1) = (ib : Int) := by rw [IntKind.wrap_i64]; omega
          have pa : (0 : Int) ≤ (i : Int) := by omega
          have pb : (0 : Int) ≤ (ib : Int) := by omega
          have ba : (i : Int) < (d.size : Int) := by omega
          have bb : (ib : Int) < (d.size : Int) := by omega
          have ta : (i : Int).toNat = i := by omega
          have tb : (ib : Int).toNat = ib := by omega
          have S2 : Aside (SWK enc k w0 blk off (swp dk i ib) _) := S1.out.swapped R i ib (by omega) (by omega)
          have la := S1.out.ld1 R (by omega) P i (by omega)
          have lb := S1.out.ld1 R (by omega) P ib (by omega)
          have sa := S1.out.st1 R (by omega) P i (by omega) dk[ib]!
          have sb := S1.out.st2 R (by omega) P i ib (by omega) (by omega) dk[ib]! dk[i]!
          have na : (enc dk[i]!).length = k := R.hk _
          have nb : (enc dk[ib]!).length = k := R.hk _
          generalize enc dk[i]! = cA at S2 la sb na
          generalize enc dk[ib]! = cB at S2 lb sa sb nb
          have HI : Aside (ib = i + 1) := hib
          clear S1 hia hib
          go_wp2_with fail
          go_big_region_o
          clear la lb sa sb
          go_wp2
          go_roundg (j - (i + 2))
          case measure => omega
          case rel =>
            refine ⟨i + 1, _, by first | rfl | go_num | rw [HI.out], by omega, by omega, by omega, by rw [size_swp]; exact hds, S2, ?_⟩
            have hib := HI.out
            subst hib
            obtain ⟨ea, eb, ed⟩ := HA.out
            have h1 := drop_at Y (i - a) y HY.out
            have h2 : Y.take (i - a + 1) = Y.take (i - a) ++ [y] := by rw [List.take_add_one, HY.out]; rfl
            show _ = _
            have := swp_list (d := dk) (A := A ++ Y.take (i - a)) (B := []) (C := Y.drop (i - a + 1) ++ Z) (x := x) (y := y) (i := i) (j := i + 1) (by rw [heq.out, h1]; simp) (by simp; omega) (by simp; omega)
            rw [this, show i + 1 - a = i - a + 1 by omega, h2]
            simp
        · go_wp2
          refine bodyPost_ret (results_none rfl _ _ _) rfl ?_
          have e : i - a = j - m := by have := HM.out; omega
          refine ⟨rfl, dk, S1.out, ?_⟩
          rw [heq.out, HR.out, e]
          simp
end
end Go.Proofs.YtpbphhpldlckbaaGreat
