/- The reference's Unpack. -/
import Derived.Test.YtjapdfehkoijjaaZrunWalks9
namespace Go.Proofs.Ytjapdfehkoijjaa
namespace Zr
open Go.RowKit

/-- Two slices' rows are not one. -/
def Disj (u v : Value) : Prop := ∀ g, u.ownBlock = some g → v.ownBlock ≠ some g
theorem Disj.symm {u v : Value} (h : Disj u v) : Disj v u := fun g hg hu => h g hu hg
theorem Disj.kept {u v : Value} (h : Disj u v) : u.ownBlock = none ∨ u.ownBlock ≠ v.ownBlock := by
  rcases hu : u.ownBlock with _ | g
  · exact .inl rfl
  · exact .inr fun e => h g hu e.symm
theorem Disj.app {w : World} {B : Nat} {u v v' : Value} {l : List Int} (h : Disj u v) (hu : Own w B u l) (ha : v'.ownBlock = v.ownBlock ∨ ∃ g, v'.ownBlock = some g ∧ w.heap.size ≤ g) : Disj u v' := by
  intro g hg
  have hlt := (World.ownsRow.lt hu g hg).2
  rcases ha with e | ⟨g', e, hg'⟩
  · rw [e]; exact h g hg
  · rw [e]; intro h; simp at h; omega
theorem Disj.none (u : Value) (n c : Nat) : Disj u (.slice .none n c) := fun g _ h => by simp [Value.ownBlock] at h

/-- What the reference's Unpack keeps. -/
def invU (l : List Int) (k : Nat) (dg acc : List Int) : Prop := if k ≤ l.length then acc ++ unp dg (l.drop k) = unp [] l else acc = unp [] l
theorem invU_dig {l : List Int} {k : Nat} {dg acc : List Int} {x : Int} (h : invU l k dg acc) (hx : l[k]? = some x) (hd : isDig x = true) : invU l (k + 1) (dg ++ [x]) acc := by
  have hk : k < l.length := (List.getElem?_eq_some_iff.1 hx).1
  unfold invU at h ⊢
  rw [if_pos (by omega)] at h ⊢
  rw [drop_at l k x hx, unp, if_pos hd] at h
  exact h
theorem invU_sym {l : List Int} {k : Nat} {dg acc : List Int} {x : Int} (h : invU l k dg acc) (hx : l[k]? = some x) (hd : isDig x = false) : invU l (k + 1) [] (acc ++ List.replicate (val dg) 0 ++ [x - 1]) := by
  have hk : k < l.length := (List.getElem?_eq_some_iff.1 hx).1
  unfold invU at h ⊢
  rw [if_pos (by omega)] at h ⊢
  rw [drop_at l k x hx, unp, if_neg (by rw [hd]; simp)] at h
  rw [← h]; simp
theorem invU_end {l : List Int} {dg acc : List Int} (h : invU l l.length dg acc) : invU l (l.length + 1) [] (acc ++ List.replicate (val dg) 0) := by
  unfold invU at h ⊢
  rw [if_pos (by omega)] at h
  rw [if_neg (by omega)]
  rw [List.drop_length, unp] at h
  exact h
theorem invU_len {l : List Int} {k : Nat} {dg acc : List Int} (h : invU l k dg acc) : acc.length ≤ (unp [] l).length := by
  unfold invU at h
  split at h
  · rw [← h, List.length_append]; omega
  · rw [h]; omega

set_option maxRecDepth 100000 in
set_option maxHeartbeats 3200000 in
theorem unpackR_any (A : Option Addr) (n c : Nat) (l : List Int) (limit : Int) (w : World) (hn : n ≤ 5000000) (hrd : Rd w w.heap.size 1 A n (l.map (Value.int .i64))) :
    Calls Try.prog 28 #[.slice A n c, .int .i64 limit] w fun e w' => ∃ v, e = .returned (.tuple #[v, .int .i64 (unpackE l limit)]) ∧ Own w' w.heap.size v (unpack l limit) ∧ Below w.heap.size w w' := by
  have hln : l.length = n := by simpa using hrd.len
  have Hln := Lib.hid hln
  clear hln
  go_enter Try.func28, Try.ntmps28
  go_wp2_with fail
  go_loop [6] (fun i => ∃ k : Nat, i = .int .i64 k ∧ k ≤ n ∧ Hid ((l.take k).all okSym = true)) (fun i => n - (intOf i).toNat)
  case atStart => exact ⟨0, rfl, by omega, rfl⟩
  case round =>
    obtain ⟨k, rfl, hk, hall⟩ := hrel
    by_cases hlt : k < n
    · obtain ⟨ad, x, rfl, had, hx, hcell⟩ := hrd.int1 hlt
      have Hx := Lib.hid hx
      clear hx
      have bad : okSym x = false → unpackE l limit = 70 ∧ unpack l limit = [] := fun hs => by
        have hno := all_false_int l okSym k x Hx.out hs
        have he : unpackE l limit = 70 := by unfold unpackE; rw [if_pos hno]
        exact ⟨he, by unfold unpack; rw [if_neg (by rw [he]; decide)]⟩
      have Bad := Lib.hid bad
      clear bad
      by_cases h1 : x < 0
      · go_wp2_with fail
        go_ret2
        obtain ⟨e1, e2⟩ := Bad.out (by simp [okSym]; omega)
        rw [e1, e2]
        exact ⟨_, rfl, World.ownsRow_nil _ _ _ _, Below.refl _ _⟩
      by_cases h2 : 256 < x
      · go_wp2_with fail
        go_ret2
        obtain ⟨e1, e2⟩ := Bad.out (by simp [okSym]; omega)
        rw [e1, e2]
        exact ⟨_, rfl, World.ownsRow_nil _ _ _ _, Below.refl _ _⟩
      go_wp2_with fail
      go_round
      case rel => exact ⟨k + 1, by go_num, by omega, all_take_int l okSym k x Hx.out hall.out (by simp [okSym]; omega)⟩
      case measure => simp [intOf]; omega
    · have hall' : l.all okSym = true := by
        have := hall.out; rwa [List.take_of_length_le (by have := Hln.out; omega)] at this
      have Hall := Lib.hid hall'
      have he0 : unpackE l limit = if count l > min limit 100000 then 3 else 0 := by unfold unpackE; rw [if_neg (by rw [hall']; decide)]
      have hcnt : count l = ((min (cnt [] l) 100001 : Nat) : Int) := rfl
      have hlen := length_unp l [] hall'
      have He0 := Lib.hid he0; have Hcnt := Lib.hid hcnt; have Hlen := Lib.hid hlen
      have hcb : 0 ≤ count l ∧ count l ≤ 100001 := by rw [hcnt]; omega
      clear hall' he0 hcnt hlen hall
      have bad : (limit < count l ∨ 100000 < count l) → unpackE l limit = 3 ∧ unpack l limit = [] := fun hb => by
        have he : unpackE l limit = 3 := by rw [He0.out, if_pos (by omega)]
        exact ⟨he, by unfold unpack; rw [if_neg (by rw [he]; decide)]⟩
      have Bad := Lib.hid bad
      clear bad
      by_cases h1 : limit < count l
      · go_wp2_with fail
        refine (countR_any A n c l _ hn hrd).mono ?_
        rintro e w5 ⟨rfl, hb5⟩
        go_wp2_with fail
        go_ret2
        obtain ⟨e1, e2⟩ := Bad.out (.inl h1)
        rw [e1, e2]
        exact ⟨_, rfl, World.ownsRow_nil _ _ _ _, hb5⟩
      by_cases h2 : 100000 < count l
      · go_wp2_with fail
        refine (countR_any A n c l _ hn hrd).mono ?_
        rintro e w5 ⟨rfl, hb5⟩
        go_wp2_with fail
        go_ret2
        obtain ⟨e1, e2⟩ := Bad.out (.inr h2)
        rw [e1, e2]
        exact ⟨_, rfl, World.ownsRow_nil _ _ _ _, hb5⟩
      have hu : unpackE l limit = 0 := by rw [He0.out, if_neg (by omega)]
      have hun : unpack l limit = unp [] l := by unfold unpack; rw [if_pos hu]
      have hq : (unp [] l).length ≤ 100000 := by
        have := Hcnt.out; rw [Hlen.out]; omega
      have Hu := Lib.hid hu; have Hun := Lib.hid hun; have Hq := Lib.hid hq
      clear hu hun hq
      go_wp2_with fail
      refine (countR_any A n c l _ hn hrd).mono ?_
      rintro e w5 ⟨rfl, hb5⟩
      have hz5 := hb5.size
      go_wp2_with fail
      go_loopw [8, 9, 10] (fun u d i wr => ∃ (k : Nat) (dg acc : List Int), i = .int .i64 k ∧ k ≤ n + 1 ∧ Own wr w.heap.size u acc ∧ Own wr w.heap.size d (dg.map (· + 1)) ∧ Disj u d ∧ Hid (dg.all isDig = true) ∧ dg.length ≤ k ∧ Below w.heap.size w wr ∧ Hid (invU l k dg acc)) (fun _ _ i _ => n + 1 - (intOf i).toNat)
      case atStart => exact ⟨0, [], [], rfl, by omega, World.ownsRow_nil _ _ _ _, World.ownsRow_nil _ _ _ _, Disj.none _ _ _, rfl, by simp, hb5, (show invU l 0 [] [] from by unfold invU; rw [if_pos (Nat.zero_le _)]; simp)⟩
      case round =>
        obtain ⟨k, dg, acc, rfl, hk, gown, gdo, gdis, gdig, gdl, gb, ginv⟩ := hrel
        have hal := invU_len ginv.out
        have hal2 : acc.length ≤ 100000 := Nat.le_trans hal Hq.out
        clear hal
        have grd := hrd.below gb
        have hB := gb.size
        have hdlen : (dg.map (· + 1)).length = dg.length := List.length_map ..
        have Hdlen := Lib.hid hdlen
        clear hdlen
        by_cases hlt : k < n
        · obtain ⟨ad, x, rfl, had, hx, hcell⟩ := grd.int1 hlt
          have hxo : okSym x = true := List.all_eq_true.1 Hall.out x (List.mem_of_getElem? hx)
          have hxb : 0 ≤ x ∧ x ≤ 256 := by simpa [okSym] using hxo
          have Hx := Lib.hid hx
          clear hx hxo
          by_cases hx2 : x < 2
          · have hd : isDig x = true := by simp [isDig]; omega
            have Hd := Lib.hid hd
            clear hd
            go_wp2_with (at_builtin; (refine append1 gdo (by rw [Hdlen.out]; omega) hB ?_); intro A1 n1 c1 w1 hn1 hown1 hb1 hg1 hat1)
            go_roundw
            case rel => exact ⟨k + 1, dg ++ [x], acc, by go_num, by omega, World.ownsRow.kept gown hg1 gdis.kept, by simpa using hown1, gdis.app gown hat1, Lib.hid (show (dg ++ [x]).all isDig = true by rw [List.all_append, gdig.out]; simp [Hd.out]), by simp; omega, gb.trans hb1, invU_dig ginv.out Hx.out Hd.out⟩
            case measure => simp [intOf]; omega
          · have hd : isDig x = false := by simp [isDig]; omega
            have Hinv := Lib.hid (invU_sym ginv.out Hx.out hd)
            have hcw : w.cell? (ad.add k) = some (.int .i64 x) := ((gb.cell (p := ad.add k) (by rw [add_block]; omega)).symm).trans hcell
            have htl := invU_len Hinv.out
            rw [List.length_append, List.length_append, List.length_replicate] at htl
            have htl2 := Nat.le_trans htl Hq.out
            clear hd htl
            have hvm : ((min (num (dg.map (· + 1))) 100001 : Nat) : Int) = (val dg : Nat) := by rw [num_val dg gdig.out]; omega
            have Hvm := Lib.hid hvm
            clear hvm
            obtain ⟨A2, c2, hue, hc2, hm2, r2⟩ := gdo.rd
            subst hue
            rw [Hdlen.out] at r2 hc2 ⊢
            go_wp2_with fail
            refine (valueR_any A2 _ c2 (dg.map (· + 1)) _ wr.heap.size (by unfold maxLen; omega) (map_one_12 dg gdig.out) r2).mono ?_
            rintro e w3 ⟨rfl, rfl⟩
            rw [Hvm.out]
            go_wp2_with fail
            obtain ⟨wo, hwo⟩ : ∃ wo : World, wo = wr := ⟨_, rfl⟩
            subst hwo
            go_loopw [8, 11] (fun u j w2 => ∃ jj kk : Nat, j = .int .i64 jj ∧ Hid (jj + kk = val dg) ∧ jj ≤ val dg ∧ kk ≤ val dg ∧ Own w2 w.heap.size u (acc ++ List.replicate kk 0) ∧ Below w.heap.size w w2) (fun _ j _ => (intOf j).toNat)
            case atStart => exact ⟨val dg, 0, rfl, rfl, by omega, by omega, by simpa using gown, gb⟩
            case round =>
              obtain ⟨jj, kk, rfl, hjk, hjj, hkk, qown, qb⟩ := hrel
              have hB2 := qb.size
              by_cases hlt2 : 0 < jj
              · have hkv : kk < val dg := by have := hjk.out; omega
                go_wp2_with (at_builtin; (refine append1 qown (by simp; omega) hB2 ?_); intro A3 n3 c3 w3 hn3 hown3 hb3 hg3 hat3)
                go_roundw
                case rel =>
                  refine ⟨jj - 1, kk + 1, by go_num, Lib.hid (show jj - 1 + (kk + 1) = val dg by have := hjk.out; omega), by omega, by omega, ?_, qb.trans hb3⟩
                  rw [List.replicate_succ', ← List.append_assoc]; exact hown3
                case measure => simp [intOf]; omega
              · have hkv : kk = val dg := by have := hjk.out; omega
                subst hkv
                have hcz := (qb.cell (p := ad.add k) (by rw [add_block]; omega)).trans hcw
                go_wp2_with (at_builtin; (refine append1 qown (by simp; omega) hB2 ?_); intro A4 n4 c4 w4 hn4 hown4 hb4 hg4 hat4)
                go_roundw
                case rel => exact ⟨k + 1, [], _, by go_num, by omega, hown4, World.ownsRow_nil _ _ _ _, Disj.none _ _ _, rfl, by simp, qb.trans hb4, Hinv.out⟩
                case measure => simp [intOf]; omega
        · by_cases hke : k = n
          · subst hke
            have hin := ginv.out
            rw [← Hln.out] at hin
            have hin2 := invU_end hin
            rw [Hln.out] at hin2
            have Hinv := Lib.hid hin2
            have htl := invU_len hin2
            rw [List.length_append, List.length_replicate] at htl
            have htl2 := Nat.le_trans htl Hq.out
            clear hin hin2 htl
            have hvm : ((min (num (dg.map (· + 1))) 100001 : Nat) : Int) = (val dg : Nat) := by rw [num_val dg gdig.out]; omega
            have Hvm := Lib.hid hvm
            clear hvm
            obtain ⟨A2, c2, hue, hc2, hm2, r2⟩ := gdo.rd
            subst hue
            rw [Hdlen.out] at r2 hc2 ⊢
            go_wp2_with fail
            refine (valueR_any A2 _ c2 (dg.map (· + 1)) _ wr.heap.size (by unfold maxLen; omega) (map_one_12 dg gdig.out) r2).mono ?_
            rintro e w3 ⟨rfl, rfl⟩
            rw [Hvm.out]
            go_wp2_with fail
            obtain ⟨wo, hwo⟩ : ∃ wo : World, wo = wr := ⟨_, rfl⟩
            subst hwo
            go_loopw [8, 11] (fun u j w2 => ∃ jj kk : Nat, j = .int .i64 jj ∧ Hid (jj + kk = val dg) ∧ jj ≤ val dg ∧ kk ≤ val dg ∧ Own w2 w.heap.size u (acc ++ List.replicate kk 0) ∧ Below w.heap.size w w2) (fun _ j _ => (intOf j).toNat)
            case atStart => exact ⟨val dg, 0, rfl, rfl, by omega, by omega, by simpa using gown, gb⟩
            case round =>
              obtain ⟨jj, kk, rfl, hjk, hjj, hkk, qown, qb⟩ := hrel
              have hB2 := qb.size
              by_cases hlt2 : 0 < jj
              · have hkv : kk < val dg := by have := hjk.out; omega
                go_wp2_with (at_builtin; (refine append1 qown (by simp; omega) hB2 ?_); intro A3 n3 c3 w3 hn3 hown3 hb3 hg3 hat3)
                go_roundw
                case rel =>
                  refine ⟨jj - 1, kk + 1, by go_num, Lib.hid (show jj - 1 + (kk + 1) = val dg by have := hjk.out; omega), by omega, by omega, ?_, qb.trans hb3⟩
                  rw [List.replicate_succ', ← List.append_assoc]; exact hown3
                case measure => simp [intOf]; omega
              · have hkv : kk = val dg := by have := hjk.out; omega
                subst hkv
                go_wp2_with fail
                go_roundw
                case rel => exact ⟨k + 1, [], _, by go_num, by omega, qown, World.ownsRow_nil _ _ _ _, Disj.none _ _ _, rfl, by simp, qb, Hinv.out⟩
                case measure => simp [intOf]
          · have hinv := ginv.out
            unfold invU at hinv
            rw [if_neg (by have := Hln.out; omega)] at hinv
            have Hi := Lib.hid hinv
            clear hinv
            go_wp2_with fail
            go_ret2
            rw [Hu.out, Hun.out, ← Hi.out]
            exact ⟨_, rfl, gown, gb⟩
end Zr
end Go.Proofs.Ytjapdfehkoijjaa
