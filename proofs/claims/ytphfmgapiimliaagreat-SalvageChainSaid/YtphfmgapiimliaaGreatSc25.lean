/- append in a region that draws, elements of whatever size: putting one element into a row. slices.Clone of entries, blocks, records. open.Head, open.Copy; varveref33.Head. -/
import Derived.Test.YtphfmgapiimliaaGreatSc02
import Derived.Laws.OwnMore
import Derived.Maps.AppendAt
import Derived.Test.YtphfmgapiimliaaGreatSc06
import Derived.Laws.Cover3
import Derived.Test.YtphfmgapiimliaaGreatSc24
namespace Go.Proofs.YtphfmgapiimliaaGreat
namespace Rf
open Go.RowKit Go.Maps
structure El (t ts:TypeId) (z:Value) (sz bt:Nat):Prop where
 info:(Tryz.prog.info? t).map (fun i=>(i.zero,i.size,i.bytes))=some (some z,sz,bt)
 sl:Tryz.prog.underlying ts=some (.slice t)
 zc:z.cells.size=sz
 pos:0<sz
 small:bt<=128
theorem intEl:El 3 121 (.int .i64 0) 1 8:=⟨int_info,Tryz.underlying121,rfl,by decide,by decide⟩
structure ArgV (w:World) (sz:Nat) (A:Option Addr) (n c:Nat) (V:List Value):Prop where
 rd:Rd w w.heap.size sz A n V
 nc:n<=c
 cm:c<=maxLen
 no:A=none->c=0
section
variable {w w':World} {B sz n c k:Nat} {A:Option Addr} {t ts:TypeId} {z:Value} {bt:Nat} {v:Value} {V X:List Value}
theorem ArgV.ext (h:ArgV w sz A n c V) (hb:Below w.heap.size w w'):ArgV w' sz A n c V:=⟨h.rd.ext hb,h.nc,h.cm,h.no⟩
theorem argV_of_own (h:w.ownsRow B t sz v n V):∃A c,v=.slice A n c/\ArgV w sz A n c V:=by
 have h0:=h;obtain⟨A,c,rfl,h1,h2⟩:=own_slice h0;refine⟨A,c,rfl,Rd.of_own h,h1,h2,?_⟩;rintro rfl;rcases h.2 with ⟨hv,_⟩|⟨g,cap,cur,hv,_⟩
 ·simp only[Value.slice.injEq] at hv;exact hv.2.2
 ·cases hv
theorem ArgV.take (h:ArgV w sz A n c V) (hb:Below w.heap.size w w') (hk:k<=n):Rd w' w'.heap.size sz A k (V.take (k*sz)):=(h.rd.ext hb).take hk
theorem ArgV.drop0 (h:ArgV w sz A n c V) (hb:Below w.heap.size w w'):Rd w' w'.heap.size sz (if c=n then A else A.map (·.add (n*sz))) 0 (V.drop (n*sz)):=by
 have h1:=(h.rd.ext hb).drop (k:=n) (Nat.le_refl _) h.nc
 rwa [Nat.sub_self] at h1
theorem ArgV.drop0_no (h:ArgV w sz A n c V):(if c=n then A else A.map (·.add (n*sz)))=none->c-n=0:=by
 intro hh;split at hh
 ·omega
 ·cases A with
  |none=>have:=h.no rfl;omega
  |some ad=>cases hh
theorem ArgV.drop {ad:Addr} (h:ArgV w sz (some ad) n c V) (hb:Below w.heap.size w w') (hk:k<n):Rd w' w'.heap.size sz (some (ad.add (k*sz))) (n-k) (V.drop (k*sz)):=by
 have h1:=(h.rd.ext hb).drop (k:=k) (Nat.le_of_lt hk) h.nc;rw[if_neg (by have:=h.nc;omega)] at h1;exact h1
theorem ArgV.some (h:ArgV w sz A n c V) (hn:0<n):∃ad,A=.some ad:=by
 obtain⟨ad,e,_⟩:=h.rd.cells hn;exact⟨ad,e⟩
theorem ownV_empty (t:TypeId) (w:World):(w.alloc (.cells #[] t)).ownsRow w.heap.size t sz (.slice (.some ⟨w.heap.size,0,none⟩) 0 0) 0 [] :=
 World.ownsRow_lit w #[] 0 (Nat.le_refl _) (by simp[maxLen]) (by simp)
theorem rdV_new (t:TypeId) (w:World) (X:List Value) (hX:X.length=sz):Rd (w.alloc (.cells X.toArray t)) (w.alloc (.cells X.toArray t)).heap.size sz (.some ⟨w.heap.size,0,none⟩) 1 X:=by
 have:=Rd.of_own (World.ownsRow_lit (base:=w.heap.size) (e:=t) (size:=sz) w X.toArray 1 (Nat.le_refl _) (by simp[maxLen]) (by simp[hX]));simpa using this
theorem ownV_empty2 (t t':TypeId) (w w1:World) (X:Array Value) (h:w1.heap.size=w.heap.size):((w1.alloc (.cells X t')).alloc (.cells #[] t)).ownsRow w.heap.size t sz (.slice (.some ⟨w.heap.size+1,0,none⟩) 0 0) 0 []:=by
 have hh:=ownV_empty (sz:=sz) t (w1.alloc (.cells X t'));have e:(w1.alloc (.cells X t')).heap.size=w.heap.size+1:=by simp[h]
 rw[e] at hh;exact own_lower hh (Nat.le_succ _)
theorem rdV_far {g b:Nat} (hX:X.length=sz) (hb:w.heap.size=b) (h:(w.alloc (.cells X.toArray t)).grownBy w' (.some g)) (hg:g≠w.heap.size):Rd w' w'.heap.size sz (.some ⟨b,0,none⟩) 1 X:=by
 subst hb;have hr:=rdV_new (sz:=sz) t w X hX;refine⟨hr.len,fun hn=>?_⟩;obtain⟨ad,e,hb,hc⟩:=hr.cells hn;cases e
 refine⟨_,rfl,Nat.lt_of_lt_of_le hb h.size,fun j u hu=>?_⟩;have:=hc j u hu;rw[Addr.add_lit] at this ⊢;rw[World.grownBy.cell_far h ⟨w.heap.size,0+j,none⟩ (by simp) (by intro e;cases e;exact hg rfl)];exact this
theorem run_appV {w0:World} {n0:Nat} (he:El t ts z sz bt) (ty:TypeId) (hown:w0.ownsRow B t sz v n0 V) (hrd:Rd w0 w0.heap.size sz A n X) (hA:A=none->c=0) (h1:∀u∈X,u.oneCell'=true) (hl:n0<=1000000000) (hn:n<=1000000000) (hB:B<=w0.heap.size) :
  ∃v' w',(Builtin.append_ #[ts,ts] ty #[v,.slice A n c]).run Tryz.prog w0=.ok v' w'/\w'.ownsRow B t sz v' (n0+n) (V++X)/\Below B w0 w'/\w0.grownBy w' v.ownBlock:=by
 obtain⟨i0,hi,hz0,hz1,hz2⟩:=info_parts he.info;have hs:=he.small;cases A with
 |none =>
  have hn0:n=0:=by
   rcases Nat.eq_zero_or_pos n with h0|h0
   ·exact h0
   ·obtain⟨ad,e,_⟩:=hrd.cells (by omega)
    cases e
  have hc0:=hA rfl;subst hn0 hc0;have hX:X=[]:=List.eq_nil_of_length_eq_zero (by rw[hrd.len];simp);subst hX;exact⟨v,w0,run_append_owned_none (P:=Tryz.prog) (w:=w0) B ts ty t i0 sz he.sl hi v n0 V hown,by rw[List.append_nil];exact hown,Below.refl _ _,⟨rfl,rfl,rfl,Nat.le_refl _,fun _ _ _=>rfl⟩⟩
 |some ad =>
  obtain⟨v',w',hr,h2,h3,-,-⟩:=run_append_own_at (P:=Tryz.prog) w0 B ts ty t i0 z sz bt he.sl hi hz0 hz1 hz2 he.zc he.pos v n0 V hown
   ad n c X hrd.len (by
    intro j u hu;have hj:=(List.getElem?_eq_some_iff.1 hu).1;rw[hrd.len] at hj;have hn0:0<n:=by
     rcases Nat.eq_zero_or_pos n with h0|h0
     ·subst h0;simp at hj
     ·exact h0
    obtain⟨ad',e,_,hc⟩:=hrd.cells hn0;cases e
    exact hc j u hu) h1 (by simp only[maxLen];omega) (Nat.le_trans (Nat.mul_le_mul_left _ hs) (by omega)) hB
  have hlt:=World.ownsRow.lt hown;exact⟨v',w',hr,h2,((Below.refl _ _).grown h3 hB (fun k hk=>(hlt k hk).1)),h3⟩
end
section
variable {ops:Array Oper} {rest:List Oper} {o:Oper} {a:Act} {K:Act->World->Prop} {Q:Exit->Act->World->Prop} {E:Prop}
theorem step_appV {t ts:TypeId} {z:Value} {sz bt:Nat} (he:El t ts z sz bt) (s x:Operand) {w0:World} {B n0:Nat} {v:Value} {V X:List Value} {A:Option Addr} {n c:Nat}
  (hgd:o.guard=none) (ho:o.op=.call { callee:=.builtin .append,args:=#[s,x],argTypes:=#[ts,ts] })
  (hown:w0.ownsRow B t sz v n0 V) (hrd:Rd w0 w0.heap.size sz A n X) (hA:A=none->c=0) (h1:∀u∈X,u.oneCell'=true) (hl:n0<=1000000000) (hn:n<=1000000000) (hB:B<=w0.heap.size) (hs:a.eval s=v) (hx:a.eval x=.slice A n c)
  (h:∀v' w',w'.ownsRow B t sz v' (n0+n) (V++X)->Below B w0 w'->w0.grownBy w' v.ownBlock->K (a.put o.dst v') w') :
  if Region.wanted o (yielded ops a.tmps)=true then Oper.wp Tryz.prog o a w0 K Q else E:=by
 have hw:Region.wanted o (yielded ops a.tmps)=true:=by simp[Region.wanted,hgd]
 rw[if_pos hw];obtain⟨v',w',hr,h3,h4,h5⟩:=run_appV he o.type hown hrd hA h1 hl hn hB;unfold Oper.wp execOp;simp only[ho,resolve,invoke,builtin,Sem.run_bind,Sem.run_pure,Result.andThen_ok,List.map_toArray,List.map_cons,List.map_nil,hs,hx,hr];exact h v' w' h3 h4 h5
end
end Rf
end Go.Proofs.YtphfmgapiimliaaGreat
namespace Go.Proofs.YtphfmgapiimliaaGreat
namespace Op
open Go.RowKit Rf Rd
theorem enEl:El 48 24 (.agg #[.int .i64 0,.int .i64 0,.int .i64 0,.bool false,.int .i64 0,.int .i64 0,.int .i64 0,.int .i64 0,.int .i64 0]) 9 72:=⟨by kernel_rfl,Tryz.underlying24,rfl,by decide,by decide⟩
theorem miEl:El 66 27 (.agg #[.int .i64 0,.int .i64 0,.int .i64 0,.int .i64 0,.int .i64 0,.int .i64 0,.int .i64 0]) 7 56:=⟨by kernel_rfl,Tryz.underlying27,rfl,by decide,by decide⟩
theorem rcEl:El 33 28 (.agg #[.int .i64 0,.int .i64 0,.string ⟨#[]⟩]) 3 32:=⟨by kernel_rfl,Tryz.underlying28,rfl,by decide,by decide⟩
theorem one_en (x:En):∀u∈Sh.cl x,u.oneCell'=true:=by
 intro u hu;simp only[Sh.cl,cl9,List.mem_cons,List.not_mem_nil,or_false] at hu;rcases hu with rfl|rfl|rfl|rfl|rfl|rfl|rfl|rfl|rfl<;>rfl
theorem one_mi (x:Mi):∀u∈Sh.cl x,u.oneCell'=true:=by
 intro u hu;simp only[Sh.cl,cl7i,List.mem_cons,List.not_mem_nil,or_false] at hu;rcases hu with rfl|rfl|rfl|rfl|rfl|rfl|rfl<;>rfl
theorem one_rc (x:Rc):∀u∈Sh.cl x,u.oneCell'=true:=by
 intro u hu;simp only[Sh.cl,cl3,List.mem_cons,List.not_mem_nil,or_false] at hu;rcases hu with rfl|rfl|rfl<;>rfl
theorem wpList_appV {ops:Array Oper} {rest:List Oper} {o:Oper} {a:Act} {Q:Exit->Act->World->Prop} {s x:Operand} {t ts:TypeId} {z:Value} {sz bt:Nat} {w0:World} {B n0:Nat} {v:Value} {V X:List Value} {A:Option Addr} {n c:Nat} (he:El t ts z sz bt)
  (hown:w0.ownsRow B t sz v n0 V) (hrd:Rd w0 w0.heap.size sz A n X) (hA:A=none->c=0) (h1:∀u∈X,u.oneCell'=true) (hl:n0<=1000000000) (hn:n<=1000000000) (hB:B<=w0.heap.size)
  (h:∀v' w',w'.ownsRow B t sz v' (n0+n) (V++X)->Below B w0 w'->w0.grownBy w' v.ownBlock->wpList Tryz.prog ops Q rest (a.put o.dst v') w')
  (hgd:o.guard=none:=by exact rfl) (ho:o.op=.call { callee:=.builtin .append,args:=#[s,x],argTypes:=#[ts,ts] }:=by exact rfl) (hs:a.eval s=v:=by exact rfl) (hx:a.eval x=.slice A n c:=by exact rfl):wpList Tryz.prog ops Q (o::rest) a w0:=by
 refine wpList_plain hgd fun K hK=>?_
 obtain⟨v',w',hr,h3,h4,h5⟩:=run_appV he o.type hown hrd hA h1 hl hn hB;unfold Oper.wp execOp;simp only[ho,resolve,invoke,builtin,Sem.run_bind,Sem.run_pure,Result.andThen_ok,List.map_toArray,List.map_cons,List.map_nil,hs,hx,hr];exact hK _ _ (h v' w' h3 h4 h5)
theorem eqlNil {t ts:TypeId} (hu:Tryz.prog.underlying ts=some (.slice t)) (ad:Addr) (n c:Nat) (w:World):(binOp .eql ts (.slice (some ad) n c) (.slice none 0 0)).run Tryz.prog w=.ok (.bool false) w:=by
 have h:=run_equal_slice_nil (P:=Tryz.prog) (w:=w) ts t (some ad) n c hu;simp only[binOp,Sem.run_bind,h,Result.andThen_ok];rfl
theorem eqlNil0 {t ts:TypeId} (hu:Tryz.prog.underlying ts=some (.slice t)) (w:World):(binOp .eql ts (.slice none 0 0) (.slice none 0 0)).run Tryz.prog w=.ok (.bool true) w:=by
 have h:=run_equal_slice_nil (P:=Tryz.prog) (w:=w) ts t none 0 0 hu;simp only[binOp,Sem.run_bind,h,Result.andThen_ok];rfl
set_option maxHeartbeats 3200000 in
set_option maxRecDepth 100000 in
theorem clone_en (A:Option Addr) (n c:Nat) (l:List En) (w:World) (hrd:Rd w w.heap.size 9 A n (flS l)) (hn:n<=1000000) (hA:A=none->c=0) :
  Calls Tryz.prog 41 #[.slice A n c] w fun e w'=>(∃A' c',e=.returned (.slice A' n c')/\w'.ownsRow w.heap.size 48 9 (.slice A' n c') n (flS l)/\(A'=none->c'=0))/\Below w.heap.size w w':=by
 have mixed:Tryz.prog.follows .mixedOrders=true:=by kernel_rfl
 cases A with
 |none =>
  have hn0:n=0:=by
   rcases Nat.eq_zero_or_pos n with h|h
   ·exact h
   ·obtain⟨ad,e,-⟩:=hrd.cells h;cases e
  have hc0:=hA rfl;subst hn0 hc0;have hl:l=[]:=by have:=rdS_len hrd;exact List.length_eq_zero_iff.1 this
  subst hl;have hq:=fun w=>eqlNil0 Tryz.underlying24 w
  clear hrd hA hn
  go_enter Tryz.func41, Tryz.ntmps41
  go_wp2_with fail
  go_ret
  exact⟨⟨none,0,rfl,World.ownsRow_nil _ _ _ _,fun _=>rfl⟩,Below.refl _ _⟩
 |some ad =>
  have HO:=Lib.hid (show(w.alloc (.cells #[] 48)).ownsRow w.heap.size 48 9 (.slice (some ⟨w.heap.size,0,none⟩) 0 0) 0 [] from ownV_empty 48 w);have HR:=Lib.hid ((hrd.below (ext_alloc w (.cells #[] 48))).more (show w.heap.size<=(w.alloc (.cells #[] 48)).heap.size by simp));have HN:=Lib.hid hn;have HB:=Lib.hid (ext_alloc w (.cells #[] 48));have hq:=fun w=>eqlNil Tryz.underlying24 ad n c w
  clear hrd hn hA
  go_enter Tryz.func41, Tryz.ntmps41
  go_wp2_with (at_builtin;(refine wpList_appV enEl HO.out HR.out (by simp) (flS_one one_en l) (by omega) (by have:=HN.out;omega) HB.out.size ?_);intro v1 w1 hown1 hb1 hg1;have HW:=Lib.hid (And.intro hown1 (HB.out.trans hb1));clear hown1 hb1 hg1)
  go_ret
  obtain⟨A',c',rfl,-,-⟩:=own_slice HW.out.1;have h1:=HW.out.1;rw[Nat.zero_add,List.nil_append] at h1;refine⟨⟨A',c',by rw[Nat.zero_add];rfl,h1,?_⟩,HW.out.2⟩;rintro rfl;rcases h1.2 with ⟨hv,-⟩|⟨g,cap,cur,hv,-⟩
  ·simp only[Value.slice.injEq] at hv;exact hv.2.2
  ·cases hv
set_option maxHeartbeats 3200000 in
set_option maxRecDepth 100000 in
theorem clone_mi (A:Option Addr) (n c:Nat) (l:List Mi) (w:World) (hrd:Rd w w.heap.size 7 A n (flS l)) (hn:n<=1000000) (hA:A=none->c=0) :
  Calls Tryz.prog 42 #[.slice A n c] w fun e w'=>(∃A' c',e=.returned (.slice A' n c')/\w'.ownsRow w.heap.size 66 7 (.slice A' n c') n (flS l)/\(A'=none->c'=0))/\Below w.heap.size w w':=by
 have mixed:Tryz.prog.follows .mixedOrders=true:=by kernel_rfl
 cases A with
 |none =>
  have hn0:n=0:=by
   rcases Nat.eq_zero_or_pos n with h|h
   ·exact h
   ·obtain⟨ad,e,-⟩:=hrd.cells h;cases e
  have hc0:=hA rfl;subst hn0 hc0;have hl:l=[]:=by have:=rdS_len hrd;exact List.length_eq_zero_iff.1 this
  subst hl;have hq:=fun w=>eqlNil0 Tryz.underlying27 w
  clear hrd hA hn
  go_enter Tryz.func42, Tryz.ntmps42
  go_wp2_with fail
  go_ret
  exact⟨⟨none,0,rfl,World.ownsRow_nil _ _ _ _,fun _=>rfl⟩,Below.refl _ _⟩
 |some ad =>
  have HO:=Lib.hid (show(w.alloc (.cells #[] 66)).ownsRow w.heap.size 66 7 (.slice (some ⟨w.heap.size,0,none⟩) 0 0) 0 [] from ownV_empty 66 w);have HR:=Lib.hid ((hrd.below (ext_alloc w (.cells #[] 66))).more (show w.heap.size<=(w.alloc (.cells #[] 66)).heap.size by simp));have HN:=Lib.hid hn;have HB:=Lib.hid (ext_alloc w (.cells #[] 66));have hq:=fun w=>eqlNil Tryz.underlying27 ad n c w
  clear hrd hn hA
  go_enter Tryz.func42, Tryz.ntmps42
  go_wp2_with (at_builtin;(refine wpList_appV miEl HO.out HR.out (by simp) (flS_one one_mi l) (by omega) (by have:=HN.out;omega) HB.out.size ?_);intro v1 w1 hown1 hb1 hg1;have HW:=Lib.hid (And.intro hown1 (HB.out.trans hb1));clear hown1 hb1 hg1)
  go_ret
  obtain⟨A',c',rfl,-,-⟩:=own_slice HW.out.1;have h1:=HW.out.1;rw[Nat.zero_add,List.nil_append] at h1;refine⟨⟨A',c',by rw[Nat.zero_add];rfl,h1,?_⟩,HW.out.2⟩;rintro rfl;rcases h1.2 with ⟨hv,-⟩|⟨g,cap,cur,hv,-⟩
  ·simp only[Value.slice.injEq] at hv;exact hv.2.2
  ·cases hv
set_option maxHeartbeats 3200000 in
set_option maxRecDepth 100000 in
theorem clone_rc (A:Option Addr) (n c:Nat) (l:List Rc) (w:World) (hrd:Rd w w.heap.size 3 A n (flS l)) (hn:n<=1000000) (hA:A=none->c=0) :
  Calls Tryz.prog 43 #[.slice A n c] w fun e w'=>(∃A' c',e=.returned (.slice A' n c')/\w'.ownsRow w.heap.size 33 3 (.slice A' n c') n (flS l)/\(A'=none->c'=0))/\Below w.heap.size w w':=by
 have mixed:Tryz.prog.follows .mixedOrders=true:=by kernel_rfl
 cases A with
 |none =>
  have hn0:n=0:=by
   rcases Nat.eq_zero_or_pos n with h|h
   ·exact h
   ·obtain⟨ad,e,-⟩:=hrd.cells h;cases e
  have hc0:=hA rfl;subst hn0 hc0;have hl:l=[]:=by have:=rdS_len hrd;exact List.length_eq_zero_iff.1 this
  subst hl;have hq:=fun w=>eqlNil0 Tryz.underlying28 w
  clear hrd hA hn
  go_enter Tryz.func43, Tryz.ntmps43
  go_wp2_with fail
  go_ret
  exact⟨⟨none,0,rfl,World.ownsRow_nil _ _ _ _,fun _=>rfl⟩,Below.refl _ _⟩
 |some ad =>
  have HO:=Lib.hid (show(w.alloc (.cells #[] 33)).ownsRow w.heap.size 33 3 (.slice (some ⟨w.heap.size,0,none⟩) 0 0) 0 [] from ownV_empty 33 w);have HR:=Lib.hid ((hrd.below (ext_alloc w (.cells #[] 33))).more (show w.heap.size<=(w.alloc (.cells #[] 33)).heap.size by simp));have HN:=Lib.hid hn;have HB:=Lib.hid (ext_alloc w (.cells #[] 33));have hq:=fun w=>eqlNil Tryz.underlying28 ad n c w
  clear hrd hn hA
  go_enter Tryz.func43, Tryz.ntmps43
  go_wp2_with (at_builtin;(refine wpList_appV rcEl HO.out HR.out (by simp) (flS_one one_rc l) (by omega) (by have:=HN.out;omega) HB.out.size ?_);intro v1 w1 hown1 hb1 hg1;have HW:=Lib.hid (And.intro hown1 (HB.out.trans hb1));clear hown1 hb1 hg1)
  go_ret
  obtain⟨A',c',rfl,-,-⟩:=own_slice HW.out.1;have h1:=HW.out.1;rw[Nat.zero_add,List.nil_append] at h1;refine⟨⟨A',c',by rw[Nat.zero_add];rfl,h1,?_⟩,HW.out.2⟩;rintro rfl;rcases h1.2 with ⟨hv,-⟩|⟨g,cap,cur,hv,-⟩
  ·simp only[Value.slice.injEq] at hv;exact hv.2.2
  ·cases hv
end Op
end Go.Proofs.YtphfmgapiimliaaGreat
namespace Go.Proofs.YtphfmgapiimliaaGreat
namespace Op
open Go.RowKit Hd Rd Vi Dk
def hd0:Array Value:=#[.int .i64 0,.int .i64 0,.int .i64 0]
theorem hd_info:(Tryz.prog.info? 35).map (·.size)=some 3:=by kernel_rfl
set_option maxHeartbeats 6400000 in
set_option maxRecDepth 100000 in
theorem ohead_x {cs:Array Value} {w:World} (hcs:cs.size=18) (K:Bool) (xi xg xf:Int)
  (HC:Hid (∀wx,Below w.heap.size w wx->Calls Tryz.prog 10 #[.agg cs] wx fun e w'=>e=.returned (.int .i64 (if K=true then 0 else 330))/\Below wx.heap.size wx w'))
  (HH:Hid (K=true-> ∀wx,Below w.heap.size w wx->Calls Tryz.prog 23 #[.agg cs] wx fun e w'=>e=.returned (.agg #[.int .i64 xi,.int .i64 xg,.int .i64 xf])/\Below wx.heap.size wx w')) :
  Calls Tryz.prog 7 #[.agg cs] w fun e w'=>e=.returned (.tuple #[.agg (if K=true then #[.int .i64 xi,.int .i64 xg,.int .i64 xf] else #[.int .i64 0,.int .i64 0,.int .i64 0]),.int .i64 (if K=true then 0 else 330)])/\Below w.heap.size w w':=by
 have HK:=Lib.hid ((Blk.new w cs 30).alloc (.cells #[.int .i64 0,.int .i64 0,.int .i64 0] 35));have HN:=Lib.hid (blk_second w (.cells cs 30) #[.int .i64 0,.int .i64 0,.int .i64 0] 35);have HB:=Lib.hid (ext_second w (.cells cs 30) (.cells #[.int .i64 0,.int .i64 0,.int .i64 0] 35));rcases K with _|_
 all_goals simp only[Bool.false_eq_true,if_false,if_true] at *
 ·go_enter Tryz.func7, Tryz.ntmps7
  go_wp2_with (first
   |(refine wpList_load_row rfl 30 (.tmp 1) rfl w.heap.size cs _ (by simp[go_sem,Act.eval]) HK.out Tryz.underlying30 rfl (by rw[hcs];exact st_info) ?_)
   |(go_at_call 10;refine(HC.out _ HB.out).mono ?_;rintro e1 w1 ⟨rfl,hb1⟩;have HB:=Lib.hid (HB.out.trans (hb1.mono HB.out.size));have HN:=Lib.hid (HN.out.ext hb1);clear hb1)
   |(refine wpList_store_row rfl 35 (.tmp 2) (.tmp 9) rfl (w.heap.size+1) #[.int .i64 0,.int .i64 0,.int .i64 0] #[.int .i64 0,.int .i64 0,.int .i64 0] (by simp[go_sem,Act.eval]) (by simp[go_sem,Act.eval]) HN.out hd_info rfl (by simp[Value.oneCell']) ?_))
  refine bodyPost_ret (v:=.tuple #[.agg #[.int .i64 0,.int .i64 0,.int .i64 0],.int .i64 330]) (by exact results_cell2 rfl rfl rfl (HN.out.set #[.int .i64 0,.int .i64 0,.int .i64 0]) Tryz.underlying35 rfl hd_info) (by exact rfl) ?_;exact⟨rfl,ext_setRow HB.out (Nat.le_succ _) _⟩
 ·go_enter Tryz.func7, Tryz.ntmps7
  go_wp2_with (first
   |(refine wpList_load_row rfl 30 (.tmp 1) rfl w.heap.size cs _ (by simp[go_sem,Act.eval]) HK.out Tryz.underlying30 rfl (by rw[hcs];exact st_info) ?_)
   |(refine wpList_build1 rfl 59 (.tmp 11) rfl cs (by simp[go_sem,Act.eval]) (fun w=>build_lg _ hcs w) ?_)
   |(go_at_call 10;refine(HC.out _ HB.out).mono ?_;rintro e1 w1 ⟨rfl,hb1⟩;have HB:=Lib.hid (HB.out.trans (hb1.mono HB.out.size));have HN:=Lib.hid (HN.out.ext hb1);have HK:=Lib.hid (HK.out.ext hb1);clear hb1)
   |(go_at_call 23;refine(HH.out (by first|rfl|trivial) _ HB.out).mono ?_;rintro e2 w2 ⟨rfl,hb2⟩;have HB:=Lib.hid (HB.out.trans (hb2.mono HB.out.size));have HN:=Lib.hid (HN.out.ext hb2);clear hb2)
   |(refine wpList_store_row rfl 35 (.tmp 2) (.tmp 13) rfl (w.heap.size+1) #[.int .i64 xi,.int .i64 xg,.int .i64 xf] #[.int .i64 0,.int .i64 0,.int .i64 0] (by simp[go_sem,Act.eval]) (by simp[go_sem,Act.eval]) HN.out hd_info rfl (by simp[Value.oneCell']) ?_))
  refine bodyPost_ret (v:=.tuple #[.agg #[.int .i64 xi,.int .i64 xg,.int .i64 xf],.int .i64 0]) (by exact results_cell2 rfl rfl rfl (HN.out.set #[.int .i64 xi,.int .i64 xg,.int .i64 xf]) Tryz.underlying35 rfl hd_info) (by exact rfl) ?_;exact⟨rfl,ext_setRow HB.out (Nat.le_succ _) _⟩
theorem okSt_kept {s:St} (h:okSt s=true):keptB s=true:=by
 unfold okSt at h;rw[Bool.and_eq_true] at h;exact h.1
theorem ohead_any (s:St) (x y z:Sl) (w:World) (h:Str w w.heap.size s x y z) (hx1:x.n<=1000000) (hy1:y.n<=100000) (hz1:z.n<=1000000) :
  Calls Tryz.prog 7 #[sagg s x y z] w fun e w'=>e=.returned (.tuple #[.agg (if okSt s=true then #[.int .i64 (hdOf s).i,.int .i64 (hdOf s).g,.int .i64 (hdOf s).f] else #[.int .i64 0,.int .i64 0,.int .i64 0]),.int .i64 (if okSt s=true then 0 else 330)])/\Below w.heap.size w w' :=
 ohead_x (cs:=stc s x y z) rfl (okSt s) (hdOf s).i (hdOf s).g (hdOf s).f (fun wx hb=>ocheck_any s x y z wx (h.ext hb) hx1 hy1 hz1)
  (fun hk wx hb=>lhead_any s x y z wx (h.ext hb) (hd_ok (okSt_kept hk)).2.1 hx1)
end Op
end Go.Proofs.YtphfmgapiimliaaGreat
