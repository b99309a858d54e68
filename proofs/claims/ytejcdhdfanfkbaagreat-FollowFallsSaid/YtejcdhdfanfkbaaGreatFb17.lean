/- slices.Clone of entries, blocks, records. follow.Done of none, and with a bad name. disk: op, whatever it does. disk: a change of the directory. -/
import Derived.Test.YtejcdhdfanfkbaaGreatFb07
import Derived.Test.YtejcdhdfanfkbaaGreatFb12
import Derived.Laws.Cover3
import Derived.Test.YtejcdhdfanfkbaaGreatFb16
import Derived.Test.YtejcdhdfanfkbaaGreatFb15
import Derived.Laws.OwnMore
import Derived.Test.YtejcdhdfanfkbaaGreatFb09
import Derived.Shelf.Abstract
import Derived.Deep.RegionLaw
namespace Go.Proofs.YtejcdhdfanfkbaaGreat
namespace Op
open Go.RowKit Rf Rd
theorem enEl:El 217 68 (.agg #[.int .i64 0,.int .i64 0,.int .i64 0,.bool false,.int .i64 0,.int .i64 0,.int .i64 0,.int .i64 0,.int .i64 0]) 9 72:=⟨by kernel_rfl,Tryz.underlying68,rfl,by decide,by decide⟩
theorem miEl:El 154 71 (.agg #[.int .i64 0,.int .i64 0,.int .i64 0,.int .i64 0,.int .i64 0,.int .i64 0,.int .i64 0]) 7 56:=⟨by kernel_rfl,Tryz.underlying71,rfl,by decide,by decide⟩
theorem rcEl:El 84 72 (.agg #[.int .i64 0,.int .i64 0,.string ⟨#[]⟩]) 3 32:=⟨by kernel_rfl,Tryz.underlying72,rfl,by decide,by decide⟩
theorem one_en (x:En):∀u∈Sh.cl x,u.oneCell'=true:=by
 intro u hu;simp only[Sh.cl,cl9,List.mem_cons,List.not_mem_nil,or_false] at hu;rcases hu with rfl|rfl|rfl|rfl|rfl|rfl|rfl|rfl|rfl<;>rfl
theorem one_mi (x:Mi):∀u∈Sh.cl x,u.oneCell'=true:=by
 intro u hu;simp only[Sh.cl,cl7i,List.mem_cons,List.not_mem_nil,or_false] at hu;rcases hu with rfl|rfl|rfl|rfl|rfl|rfl|rfl<;>rfl
theorem one_rc (x:Rc):∀u∈Sh.cl x,u.oneCell'=true:=by
 intro u hu;simp only[Sh.cl,cl3,List.mem_cons,List.not_mem_nil,or_false] at hu;rcases hu with rfl|rfl|rfl<;>rfl
theorem wpList_appV {ops:Array Oper} {rest:List Oper} {o:Oper} {a:Act} {Q:Exit->Act->World->Prop} {s x:Operand} {t ts:TypeId} {z:Value} {sz bt:Nat} {w0:World} {B n0:Nat} {v:Value} {V X:List Value} {A:Option Addr} {n c:Nat} (he:El t ts z sz bt)
  (hown:w0.ownsRow B t sz v n0 V) (hrd:Rd w0 w0.heap.size sz A n X) (hA:A=none->c=0) (h1:∀u∈X,u.oneCell'=true) (hl:n0<=1000000000) (hn:n<=1000000000) (hB:B<=w0.heap.size)
  (h:∀v' w',w'.ownsRow B t sz v' (n0+n) (V++X)->Below B w0 w'->w0.grownBy w' v.ownBlock->wpList Tryz.prog ops Q rest (a.put o.dst v') w')
  (hgd:o.guard=none:=by exact rfl) (ho:o.op=.call { callee:=.builtin .append,args:=#[s,x],argTypes:=#[ts,ts] }:=by exact rfl) (hs:a.eval s=v:=by exact rfl) (hx:a.eval x=.slice A n c:=by exact rfl):wpList Tryz.prog ops Q (o::rest) a w0:=by
 refine wpList_plain hgd fun K hK=>?_
 obtain⟨v',w',hr,h3,h4,h5⟩:=run_appV he o.type hown hrd hA h1 hl hn hB;unfold Oper.wp execOp;simp only[ho,resolve,invoke,builtin,Sem.run_bind,Sem.run_pure,Result.andThen_ok,List.map_toArray,List.map_cons,List.map_nil,hs,hx,hr];exact hK _ _ (h v' w' h3 h4 h5)
theorem eqlNil {t ts:TypeId} (hu:Tryz.prog.underlying ts=some (.slice t)) (ad:Addr) (n c:Nat) (w:World):(binOp .eql ts (.slice (some ad) n c) (.slice none 0 0)).run Tryz.prog w=.ok (.bool false) w:=by
 have h:=run_equal_slice_nil (P:=Tryz.prog) (w:=w) ts t (some ad) n c hu;simp only[binOp,Sem.run_bind,h,Result.andThen_ok];rfl
theorem eqlNil0 {t ts:TypeId} (hu:Tryz.prog.underlying ts=some (.slice t)) (w:World):(binOp .eql ts (.slice none 0 0) (.slice none 0 0)).run Tryz.prog w=.ok (.bool true) w:=by
 have h:=run_equal_slice_nil (P:=Tryz.prog) (w:=w) ts t none 0 0 hu;simp only[binOp,Sem.run_bind,h,Result.andThen_ok];rfl
set_option maxHeartbeats 3200000 in
set_option maxRecDepth 100000 in
theorem clone_en (A:Option Addr) (n c:Nat) (l:List En) (w:World) (hrd:Rd w w.heap.size 9 A n (flS l)) (hn:n<=1000000) (hA:A=none->c=0) :
  Calls Tryz.prog 181 #[.slice A n c] w fun e w'=>(∃A' c',e=.returned (.slice A' n c')/\w'.ownsRow w.heap.size 217 9 (.slice A' n c') n (flS l)/\(A'=none->c'=0))/\Below w.heap.size w w':=by
 have mixed:Tryz.prog.follows .mixedOrders=true:=by kernel_rfl
 cases A with
 |none =>
  have hn0:n=0:=by
   rcases Nat.eq_zero_or_pos n with h|h
   ·exact h
   ·obtain⟨ad,e,-⟩:=hrd.cells h;cases e
  have hc0:=hA rfl;subst hn0 hc0;have hl:l=[]:=by have:=rdS_len hrd;exact List.length_eq_zero_iff.1 this
  subst hl;have hq:=fun w=>eqlNil0 Tryz.underlying68 w
  clear hrd hA hn
  go_enter Tryz.func181, Tryz.ntmps181
  go_wp2_with fail
  go_ret
  exact⟨⟨none,0,rfl,World.ownsRow_nil _ _ _ _,fun _=>rfl⟩,Below.refl _ _⟩
 |some ad =>
  have HO:=Lib.hid (show(w.alloc (.cells #[] 217)).ownsRow w.heap.size 217 9 (.slice (some ⟨w.heap.size,0,none⟩) 0 0) 0 [] from ownV_empty 217 w);have HR:=Lib.hid ((hrd.below (ext_alloc w (.cells #[] 217))).more (show w.heap.size<=(w.alloc (.cells #[] 217)).heap.size by simp));have HN:=Lib.hid hn;have HB:=Lib.hid (ext_alloc w (.cells #[] 217));have hq:=fun w=>eqlNil Tryz.underlying68 ad n c w
  clear hrd hn hA
  go_enter Tryz.func181, Tryz.ntmps181
  go_wp2_with (at_builtin;(refine wpList_appV enEl HO.out HR.out (by simp) (flS_one one_en l) (by omega) (by have:=HN.out;omega) HB.out.size ?_);intro v1 w1 hown1 hb1 hg1;have HW:=Lib.hid (And.intro hown1 (HB.out.trans hb1));clear hown1 hb1 hg1)
  go_ret
  obtain⟨A',c',rfl,-,-⟩:=own_slice HW.out.1;have h1:=HW.out.1;rw[Nat.zero_add,List.nil_append] at h1;refine⟨⟨A',c',by rw[Nat.zero_add];rfl,h1,?_⟩,HW.out.2⟩;rintro rfl;rcases h1.2 with ⟨hv,-⟩|⟨g,cap,cur,hv,-⟩
  ·simp only[Value.slice.injEq] at hv;exact hv.2.2
  ·cases hv
set_option maxHeartbeats 3200000 in
set_option maxRecDepth 100000 in
theorem clone_mi (A:Option Addr) (n c:Nat) (l:List Mi) (w:World) (hrd:Rd w w.heap.size 7 A n (flS l)) (hn:n<=1000000) (hA:A=none->c=0) :
  Calls Tryz.prog 182 #[.slice A n c] w fun e w'=>(∃A' c',e=.returned (.slice A' n c')/\w'.ownsRow w.heap.size 154 7 (.slice A' n c') n (flS l)/\(A'=none->c'=0))/\Below w.heap.size w w':=by
 have mixed:Tryz.prog.follows .mixedOrders=true:=by kernel_rfl
 cases A with
 |none =>
  have hn0:n=0:=by
   rcases Nat.eq_zero_or_pos n with h|h
   ·exact h
   ·obtain⟨ad,e,-⟩:=hrd.cells h;cases e
  have hc0:=hA rfl;subst hn0 hc0;have hl:l=[]:=by have:=rdS_len hrd;exact List.length_eq_zero_iff.1 this
  subst hl;have hq:=fun w=>eqlNil0 Tryz.underlying71 w
  clear hrd hA hn
  go_enter Tryz.func182, Tryz.ntmps182
  go_wp2_with fail
  go_ret
  exact⟨⟨none,0,rfl,World.ownsRow_nil _ _ _ _,fun _=>rfl⟩,Below.refl _ _⟩
 |some ad =>
  have HO:=Lib.hid (show(w.alloc (.cells #[] 154)).ownsRow w.heap.size 154 7 (.slice (some ⟨w.heap.size,0,none⟩) 0 0) 0 [] from ownV_empty 154 w);have HR:=Lib.hid ((hrd.below (ext_alloc w (.cells #[] 154))).more (show w.heap.size<=(w.alloc (.cells #[] 154)).heap.size by simp));have HN:=Lib.hid hn;have HB:=Lib.hid (ext_alloc w (.cells #[] 154));have hq:=fun w=>eqlNil Tryz.underlying71 ad n c w
  clear hrd hn hA
  go_enter Tryz.func182, Tryz.ntmps182
  go_wp2_with (at_builtin;(refine wpList_appV miEl HO.out HR.out (by simp) (flS_one one_mi l) (by omega) (by have:=HN.out;omega) HB.out.size ?_);intro v1 w1 hown1 hb1 hg1;have HW:=Lib.hid (And.intro hown1 (HB.out.trans hb1));clear hown1 hb1 hg1)
  go_ret
  obtain⟨A',c',rfl,-,-⟩:=own_slice HW.out.1;have h1:=HW.out.1;rw[Nat.zero_add,List.nil_append] at h1;refine⟨⟨A',c',by rw[Nat.zero_add];rfl,h1,?_⟩,HW.out.2⟩;rintro rfl;rcases h1.2 with ⟨hv,-⟩|⟨g,cap,cur,hv,-⟩
  ·simp only[Value.slice.injEq] at hv;exact hv.2.2
  ·cases hv
set_option maxHeartbeats 3200000 in
set_option maxRecDepth 100000 in
theorem clone_rc (A:Option Addr) (n c:Nat) (l:List Rc) (w:World) (hrd:Rd w w.heap.size 3 A n (flS l)) (hn:n<=1000000) (hA:A=none->c=0) :
  Calls Tryz.prog 183 #[.slice A n c] w fun e w'=>(∃A' c',e=.returned (.slice A' n c')/\w'.ownsRow w.heap.size 84 3 (.slice A' n c') n (flS l)/\(A'=none->c'=0))/\Below w.heap.size w w':=by
 have mixed:Tryz.prog.follows .mixedOrders=true:=by kernel_rfl
 cases A with
 |none =>
  have hn0:n=0:=by
   rcases Nat.eq_zero_or_pos n with h|h
   ·exact h
   ·obtain⟨ad,e,-⟩:=hrd.cells h;cases e
  have hc0:=hA rfl;subst hn0 hc0;have hl:l=[]:=by have:=rdS_len hrd;exact List.length_eq_zero_iff.1 this
  subst hl;have hq:=fun w=>eqlNil0 Tryz.underlying72 w
  clear hrd hA hn
  go_enter Tryz.func183, Tryz.ntmps183
  go_wp2_with fail
  go_ret
  exact⟨⟨none,0,rfl,World.ownsRow_nil _ _ _ _,fun _=>rfl⟩,Below.refl _ _⟩
 |some ad =>
  have HO:=Lib.hid (show(w.alloc (.cells #[] 84)).ownsRow w.heap.size 84 3 (.slice (some ⟨w.heap.size,0,none⟩) 0 0) 0 [] from ownV_empty 84 w);have HR:=Lib.hid ((hrd.below (ext_alloc w (.cells #[] 84))).more (show w.heap.size<=(w.alloc (.cells #[] 84)).heap.size by simp));have HN:=Lib.hid hn;have HB:=Lib.hid (ext_alloc w (.cells #[] 84));have hq:=fun w=>eqlNil Tryz.underlying72 ad n c w
  clear hrd hn hA
  go_enter Tryz.func183, Tryz.ntmps183
  go_wp2_with (at_builtin;(refine wpList_appV rcEl HO.out HR.out (by simp) (flS_one one_rc l) (by omega) (by have:=HN.out;omega) HB.out.size ?_);intro v1 w1 hown1 hb1 hg1;have HW:=Lib.hid (And.intro hown1 (HB.out.trans hb1));clear hown1 hb1 hg1)
  go_ret
  obtain⟨A',c',rfl,-,-⟩:=own_slice HW.out.1;have h1:=HW.out.1;rw[Nat.zero_add,List.nil_append] at h1;refine⟨⟨A',c',by rw[Nat.zero_add];rfl,h1,?_⟩,HW.out.2⟩;rintro rfl;rcases h1.2 with ⟨hv,-⟩|⟨g,cap,cur,hv,-⟩
  ·simp only[Value.slice.injEq] at hv;exact hv.2.2
  ·cases hv
end Op
end Go.Proofs.YtejcdhdfanfkbaaGreat
namespace Go.Proofs.YtejcdhdfanfkbaaGreat
namespace Fo
open Go.RowKit Rd Dk Vi
open Go.Proofs.YtejcdhdfanfkbaaGreat.Op
open Go.Proofs.YtejcdhdfanfkbaaGreat.Rf
def p6:Pl:=⟨⟨#[97]⟩,6⟩
set_option maxHeartbeats 3200000 in
set_option maxRecDepth 100000 in
theorem clone_plnil (w:World):Calls Tryz.prog 45 #[.slice none 0 0] w fun e w'=>e=.returned (.slice none 0 0)/\w'=w:=by
 have mixed:Tryz.prog.follows .mixedOrders=true:=by kernel_rfl
 have hq:=fun w=>eqlNil0 Tryz.underlying28 w
 go_enter Tryz.func45, Tryz.ntmps45
 go_wp2_with fail
 go_ret
 exact⟨rfl,rfl⟩
theorem one_pl (x:Pl):∀u∈Sh.cl x,u.oneCell'=true:=by
 intro u hu;have e:Sh.cl x=[.string x.s,.int .i64 x.n]:=rfl;rw[e] at hu;simp only[List.mem_cons,List.not_mem_nil,or_false] at hu;rcases hu with rfl|rfl<;>rfl
set_option maxHeartbeats 3200000 in
set_option maxRecDepth 100000 in
theorem ins_one (p:Pl) (ad:Addr) (w:World) (hrd:Rd w w.heap.size 2 (some ad) 1 (flS [p])) :
  Calls Tryz.prog 46 #[.slice none 0 0,.int .i64 0,.slice (some ad) 1 1] w fun e w'=>(∃g c,e=.returned (.slice (some ⟨g,0,none⟩) 1 c)/\w'.ownsRow w.heap.size 82 2 (.slice (some ⟨g,0,none⟩) 1 c) 1 (flS [p]))/\Below w.heap.size w w':=by
 have mixed:Tryz.prog.follows .mixedOrders=true:=by kernel_rfl
 have HR:=Lib.hid hrd;have HO:=Lib.hid (World.ownsRow_nil w w.heap.size 82 2);clear hrd
 go_enter Tryz.func46, Tryz.ntmps46
 go_wp2_with (at_builtin;(refine wpList_appV plEl HO.out HR.out (by simp) (flS_one one_pl [p]) (by omega) (by omega) (Nat.le_refl _) ?_);intro v1 w1 hown1 hb1 hg1;have HW:=Lib.hid (And.intro hown1 hb1);clear hown1 hb1 hg1)
 go_ret
 have h1:=HW.out.1;rw[Nat.zero_add,List.nil_append] at h1;obtain⟨g,c,rfl,-⟩:=h1.form (by omega);exact⟨⟨g,c,rfl,h1⟩,HW.out.2⟩
set_option maxHeartbeats 3200000 in
set_option maxRecDepth 100000 in
theorem done_new (w:World) :
  Calls Tryz.prog 13 #[.slice none 0 0,.string ⟨#[97]⟩,.int .i64 5] w fun e w'=>(∃g c,e=.returned (.tuple #[.slice (some ⟨g,0,none⟩) 1 c,.int .i64 0])/\w'.ownsRow w.heap.size 82 2 (.slice (some ⟨g,0,none⟩) 1 c) 1 (flS [p6]))/\Below w.heap.size w w':=by
 have mixed:Tryz.prog.follows .mixedOrders=true:=by kernel_rfl
 have HCK:=Lib.hid (fun wx=>show Calls Tryz.prog 15 #[.slice none 0 0] wx fun e w'=>e=.returned (.int .i64 0)/\Below wx.heap.size wx w' from fcheck_any none 0 0 [] wx Rd.nil (by omega));have HFI:=Lib.hid (fun wx=>show Calls Tryz.prog 43 #[.slice none 0 0,.string ⟨#[97]⟩] wx fun e w'=>e=.returned (.tuple #[.int .i64 0,.bool false])/\Below wx.heap.size wx w' from find_any none 0 0 [] ⟨#[97]⟩ wx Rd.nil (by omega) List.Pairwise.nil);have HNC:=Lib.hid (fun wx=>show Calls Tryz.prog 44 #[.string ⟨#[97]⟩] wx fun e w'=>e=.returned (.int .i64 0)/\Below wx.heap.size wx w' from Nm.check_any ⟨#[97]⟩ wx);have HCL:=Lib.hid (fun wx=>clone_plnil wx);have HIN:=Lib.hid (fun(wx:World)=>show Calls Tryz.prog 46 #[.slice none 0 0,.int .i64 0,.slice (some ⟨wx.heap.size,0,none⟩) 1 1] (wx.alloc (.cells #[.string ⟨#[97]⟩,.int .i64 1] 82)) fun e w'=>(∃g c,e=.returned (.slice (some ⟨g,0,none⟩) 1 c)/\w'.ownsRow wx.heap.size 82 2 (.slice (some ⟨g,0,none⟩) 1 c) 1 (flS [(⟨⟨#[97]⟩,1⟩:Pl)]))/\Below wx.heap.size wx w' from by
  refine(ins_one ⟨⟨#[97]⟩,1⟩ ⟨wx.heap.size,0,none⟩ _ (rdV_new (sz:=2) 82 wx [.string ⟨#[97]⟩,.int .i64 1] rfl)).mono ?_;rintro e w' ⟨⟨g,c,rfl,ho⟩,hb⟩;exact⟨⟨g,c,rfl,own_lower ho (by simp)⟩,(ext_alloc wx _).trans (hb.mono (by simp))⟩)
 go_enter Tryz.func13, Tryz.ntmps13
 go_wp2_with (first
  |(go_at_call 15;refine(HCK.out _).mono ?_;rintro e1 w1 ⟨rfl,hb1⟩;have HB1:=Lib.hid hb1;clear hb1)
  |(go_at_call 43;refine(HFI.out _).mono ?_;rintro e2 w2 ⟨rfl,hb2⟩;have HB2:=Lib.hid (HB1.out.trans (hb2.mono HB1.out.size));clear hb2)
  |(go_at_call 44;refine(HNC.out _).mono ?_;rintro e3 w3 ⟨rfl,hb3⟩;have HB3:=Lib.hid (HB2.out.trans (hb3.mono HB2.out.size));clear hb3)
  |(go_at_call 45;refine(HCL.out _).mono ?_;rintro e4 w4 ⟨rfl,rfl⟩)
  |(go_at_call 46;refine(HIN.out _).mono ?_;rintro e5 w5 ⟨⟨g,c,rfl,ho⟩,hb5⟩;have c0:w5.cell? ⟨g,1,none⟩=some (.int .i64 1):=ho.cellAt 1 (by decide);have f0:=ho.frozenAt 1;have HO:=Lib.hid (own_lower ho HB3.out.size);have HB5:=Lib.hid (HB3.out.trans (hb5.mono HB3.out.size));clear ho hb5))
 go_ret2
 have h5:=(HO.out.stored 1 (.int .i64 6)).1;refine⟨⟨g,c,by rfl,h5⟩,HB5.out.setCell ?_ _⟩;exact(World.ownsRow.lt HO.out g rfl).1
set_option maxHeartbeats 3200000 in
set_option maxRecDepth 100000 in
theorem done_bad (A:Option Addr) (c:Nat) (w:World) (hrd:Rd w w.heap.size 2 A 1 (flS [p6])) :
  Calls Tryz.prog 13 #[.slice A 1 c,.string ⟨#[65]⟩,.int .i64 5] w fun e w'=>e=.returned (.tuple #[.slice none 0 0,.int .i64 180])/\Below w.heap.size w w':=by
 have mixed:Tryz.prog.follows .mixedOrders=true:=by kernel_rfl
 have HCK:=Lib.hid (show Calls Tryz.prog 15 #[.slice A 1 c] w fun e w'=>e=.returned (.int .i64 0)/\Below w.heap.size w w' from fcheck_any A 1 c [p6] w hrd (by omega));have HFI:=Lib.hid (fun wx (hb:Below w.heap.size w wx)=>find_any A 1 c [p6] ⟨#[65]⟩ wx ((hrd.below hb).more hb.size) (by omega) (List.pairwise_singleton _ _));have HNC:=Lib.hid (fun wx=>show Calls Tryz.prog 44 #[.string ⟨#[65]⟩] wx fun e w'=>e=.returned (.int .i64 180)/\Below wx.heap.size wx w' from Nm.check_any ⟨#[65]⟩ wx)
 go_enter Tryz.func13, Tryz.ntmps13
 go_wp2_with (first
  |(go_at_call 15;refine HCK.out.mono ?_;rintro e1 w1 ⟨rfl,hb1⟩;have HB1:=Lib.hid hb1;clear hb1)
  |(go_at_call 43;refine(HFI.out _ HB1.out).mono ?_;rintro e2 w2 ⟨rfl,hb2⟩;have HB2:=Lib.hid (HB1.out.trans (hb2.mono HB1.out.size));clear hb2)
  |(go_at_call 44;refine(HNC.out _).mono ?_;rintro e3 w3 ⟨rfl,hb3⟩;have HB3:=Lib.hid (HB2.out.trans (hb3.mono HB2.out.size));clear hb3))
 go_ret2
 exact⟨rfl,HB3.out⟩
end Fo
end Go.Proofs.YtejcdhdfanfkbaaGreat
namespace Go.Proofs.YtejcdhdfanfkbaaGreat
namespace Dk
open Go.RowKit
section
variable {w w':World} {S:Nat->Prop} {bd gN gS:Nat} {v:Value} {D:DS}
theorem Dat.setTick (h:Dat w S bd gN gS v D) (x:Int) (hx:x=max (D.armed-1) 0):Dat ((w.setCell ⟨bd,4,none⟩ (.int .i64 (IntKind.i64.wrap (D.ops+1)))).setCell ⟨bd,5,none⟩ (.int .i64 x)) S bd gN gS v (tick D):=by
 subst hx;refine h.turn (by simp) (fun k _ hk=>?_) ?_ rfl rfl rfl rfl h.fit.tick
 ·rw[Below.heap_setCell _ ⟨bd,5,none⟩ _ k hk,Below.heap_setCell _ ⟨bd,4,none⟩ _ k hk]
 ·exact(h.box.put 4 _).put 5 _
theorem Dat.setOff (h:Dat w S bd gN gS v D):Dat (w.setCell ⟨bd,6,none⟩ (.bool true)) S bd gN gS v { D with off:=true }:=by
 refine h.turn (by simp) (fun k _ hk=>?_) ?_ rfl rfl rfl rfl h.fit.off
 ·rw[Below.heap_setCell _ ⟨bd,6,none⟩ _ k hk]
 ·exact h.box.put 6 _
set_option maxHeartbeats 3200000 in
set_option maxRecDepth 100000 in
theorem op_dat (syncs:Bool) (fid:FuncId) (first caps:Array Value) (act:DS->DS) (h:Dat w S bd gN gS v D) (hen:∀args w,(callFunc fid args).run Tryz.prog w=.ok (.enter fid args) w)
  (hdo:∀w1,Dat w1 S bd gN gS v (tick D)->Gr S w S w1->Calls Tryz.prog fid (first++caps) w1 fun e w2=>e=.returned (.tuple #[])/\ ∃S2,DiskAt w2 S2 bd (act (tick D))/\Gr S w1 S2 w2) :
  Calls Tryz.prog 109 #[.pointer (some ⟨bd,0,none⟩),.bool syncs,.func (.func fid) first caps] w fun e w'=>e=.returned (.int .i64 (opE D))/\ ∃S',DiskAt w' S' bd (opS syncs act D)/\Gr S w S' w':=by
 have c4:=h.c4;have c5:=h.c5;have c6:=h.c6;have f4:=h.fz 4;have f5:=h.fz 5;have f6:=h.fz 6;have sB:=h.sB;have HT:=Lib.hid (fun x (hx:x=max (D.armed-1) 0)=>show Dat ((w.setCell ⟨bd,4,none⟩ (.int .i64 (wrap64 (D.ops+1)))).setCell ⟨bd,5,none⟩ (.int .i64 x)) S bd gN gS v (tick D) from by have:=h.setTick x hx;rwa [show IntKind.i64.wrap (D.ops+1)=wrap64 (D.ops+1) from by unfold wrap64;exact IntKind.wrap_i64 _] at this);have HG:=Lib.hid (show ∀x,Gr S w S ((w.setCell ⟨bd,4,none⟩ (.int .i64 (wrap64 (D.ops+1)))).setCell ⟨bd,5,none⟩ x) from fun x=>(Gr.setCell h.sB 4 _).trans (Gr.setCell h.sB 5 _));have hr:=h.fit.arm0;have hr1:=h.fit.arm1;clear h;unfold opE opS;generalize tick D=T at *
 generalize D.ops=O at *
 generalize D.armed=A at *
 generalize D.off=F at *
 by_cases ha:A=1
 ·subst ha
  simp only[if_true];rcases syncs with _|_
  ·simp only[Bool.false_eq_true,if_false]
   go_enter Tryz.func109, Tryz.ntmps109
   go_wp2_with (go_at_fn fid;refine(hdo _ (HT.out 0 (by omega)) (HG.out _)).mono ?_;rintro e1 w1 ⟨rfl,S2,⟨gN2,gS2,v2,hD2⟩,hG2⟩;have c62:=hD2.c6;have f62:=hD2.fz 6;have HD2:=Lib.hid hD2;have HG2:=Lib.hid hG2;clear hD2 hG2)
   go_ret
   exact⟨rfl,S2,⟨gN2,gS2,v2,HD2.out.setOff⟩,((HG.out _).trans HG2.out).trans (Gr.setCell HD2.out.sB 6 _)⟩
  ·go_enter Tryz.func109, Tryz.ntmps109
   go_wp2_with fail
   go_ret
   exact⟨rfl,S,⟨gN,gS,v,(HT.out 0 (by omega)).setOff⟩,(HG.out _).trans (Gr.setCell sB 6 _)⟩
 ·simp only[if_neg ha]
  have hA:A=0∨2<=A:=by omega
  have tt:(A==1)=false:=by rw[beq_eq_false_iff_ne];exact ha
  rcases hA with rfl|hA
  all_goals
   go_enter Tryz.func109, Tryz.ntmps109
   go_wp2_with (go_at_fn fid;refine(hdo _ (HT.out _ (by first|omega|(simp only[wrap64];omega))) (HG.out _)).mono ?_;rintro e1 w1 ⟨rfl,S2,hD2,hG2⟩;have HD2:=Lib.hid hD2;have HG2:=Lib.hid hG2;clear hD2 hG2)
   go_ret
   exact⟨rfl,S2,HD2.out,(HG.out _).trans HG2.out⟩
theorem op_any (syncs:Bool) (fid:FuncId) (first caps:Array Value) (act:DS->DS) (h:DiskAt w S bd D) (hen:∀args w,(callFunc fid args).run Tryz.prog w=.ok (.enter fid args) w)
  (hdo:∀w1,DiskAt w1 S bd (tick D)->Gr S w S w1->Calls Tryz.prog fid (first++caps) w1 fun e w2=>e=.returned (.tuple #[])/\ ∃S2,DiskAt w2 S2 bd (act (tick D))/\Gr S w1 S2 w2) :
  Calls Tryz.prog 109 #[.pointer (some ⟨bd,0,none⟩),.bool syncs,.func (.func fid) first caps] w fun e w'=>e=.returned (.int .i64 (opE D))/\ ∃S',DiskAt w' S' bd (opS syncs act D)/\Gr S w S' w':=by
 obtain⟨gN,gS,v,h⟩:=h;exact op_dat syncs fid first caps act h hen fun w1 h1=>hdo w1 ⟨gN,gS,v,h1⟩
end
end Dk
end Go.Proofs.YtejcdhdfanfkbaaGreat
namespace Go.Proofs.YtejcdhdfanfkbaaGreat
namespace Dk
open Go.RowKit
theorem chg_info:(Tryz.prog.info? 129).map (fun i=>(i.zero,i.size,i.bytes))=some (some (.agg #[.string ⟨#[]⟩,.string ⟨#[]⟩,.pointer none]),3,40):=by kernel_rfl
def cagg (c:ByteArray×ByteArray×Option Nat):Value:=.agg #[.string c.1,.string c.2.1,chv c.2.2]
section
variable {w w':World} {S:Nat->Prop} {bd gN gS:Nat} {v:Value} {D:DS}
set_option maxHeartbeats 1600000 in
set_option maxRecDepth 100000 in
theorem apply_any {g:Nat} {l:List (ByteArray×Nat)} (hm:Mp w g (vs l)) (c:ByteArray×ByteArray×Option Nat) :
  Calls Tryz.prog 63 #[.map (some g),cagg c] w fun e w'=>e=.returned (.tuple #[])/\Mp w' g (vs (app c l))/\w.grownBy w' (some g):=by
 obtain⟨to,fr,f⟩:=c;have hlt:=hm.lt;have HM:=Lib.hid (show ∀o,Mp (w.alloc o) g (vs l) from fun o=>hm.same (Below.heap_alloc w o g hlt));have HG:=Lib.hid (show ∀o,w.grownBy (w.alloc o) (some g) from fun o=>World.grownBy_alloc w o (some g));unfold cagg chv app;clear hm;by_cases hf:fr=⟨#[]⟩
 ·subst hf
  simp only[if_true];rcases f with _|b
  ·go_enter Tryz.func63, Tryz.ntmps63
   go_wp2_with fail
   go_end0
   exact⟨rfl,HM.out _,HG.out _⟩
  ·have HV:=Lib.hid (vs_put to b l)
   unfold ptr at *
   go_enter Tryz.func63, Tryz.ntmps63
   go_wp2_with (at_mapUpdate;refine wpList_updateS Tryz.underlying117 Tryz.underlying9 (HM.out _) to (.pointer (some ⟨b,0,none⟩)) _ _ _ ?_;intro w2 hm2 hg2 hs2;rw[HV.out] at hm2;have HX:=Lib.hid (And.intro hm2 hg2);clear hm2 hg2 hs2)
   go_end0
   exact⟨rfl,HX.out.1,(HG.out _).trans HX.out.2⟩
 ·simp only[if_neg hf]
  have HD:=Lib.hid (vs_del fr l);have hfe:fr.toList.isEmpty=false:=by
   rw[<-decide_eq_emptyBytes];exact decide_eq_false hf
  have hne:(some g:Option Nat)≠some w.heap.size:=by intro e;cases e;omega
  rcases f with _|b
  ·have HB:=Lib.hid (fun w2 hg=>(Blk.new w #[.string to,.string fr,.pointer none] 129).grown (w':=w2) (row:=some g) hg hne)
   go_enter Tryz.func63, Tryz.ntmps63
   go_wp2_with (at_delete;refine wpList_deleteS Tryz.underlying117 Tryz.underlying9 (HM.out _) fr _ _ _ ?_;intro w2 hm2 hg2 hs2;rw[HD.out] at hm2;have k2:=(HB.out w2 hg2).cell 2 (v:=.pointer none) rfl;have HX:=Lib.hid (And.intro hm2 hg2);clear hm2 hg2 hs2)
   go_end0
   exact⟨rfl,HX.out.1,(HG.out _).trans HX.out.2⟩
  ·have HV:=Lib.hid (vs_put to b (dl fr l))
   unfold ptr at *
   have HB:=Lib.hid (fun w2 hg=>(Blk.new w #[.string to,.string fr,.pointer (some ⟨b,0,none⟩)] 129).grown (w':=w2) (row:=some g) hg hne)
   go_enter Tryz.func63, Tryz.ntmps63
   go_wp2_with (first
    |(at_delete;refine wpList_deleteS Tryz.underlying117 Tryz.underlying9 (HM.out _) fr _ _ _ ?_;intro w2 hm2 hg2 hs2;rw[HD.out] at hm2;have k2:=(HB.out w2 hg2).cell 2 (v:=.pointer (some ⟨b,0,none⟩)) rfl;have k0:=(HB.out w2 hg2).cell 0 (v:=.string to) rfl;have HX:=Lib.hid (And.intro hm2 hg2);clear hm2 hg2 hs2)
    |(at_mapUpdate;refine wpList_updateS Tryz.underlying117 Tryz.underlying9 HX.out.1 to (.pointer (some ⟨b,0,none⟩)) _ _ _ ?_;intro w3 hm3 hg3 hs3;rw[HV.out] at hm3;have HY:=Lib.hid (And.intro hm3 hg3);clear hm3 hg3 hs3))
   go_end0
   exact⟨rfl,HY.out.1,((HG.out _).trans HX.out.2).trans HY.out.2⟩
end
end Dk
end Go.Proofs.YtejcdhdfanfkbaaGreat
