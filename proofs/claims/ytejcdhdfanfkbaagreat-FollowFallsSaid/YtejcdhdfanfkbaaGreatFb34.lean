/- open.Head, open.Copy; varveref33.Head. entry.Open, mani.New. append of several numbers at once onto a slice of the call's own. head.PutFoot. -/
import Derived.Test.YtejcdhdfanfkbaaGreatFb33
import Derived.Test.YtejcdhdfanfkbaaGreatFb17
import Derived.Test.YtejcdhdfanfkbaaGreatFb29
import Derived.Test.YtejcdhdfanfkbaaGreatFb03
import Derived.Test.YtejcdhdfanfkbaaGreatFb25
import Derived.Test.YtejcdhdfanfkbaaGreatFb19
namespace Go.Proofs.YtejcdhdfanfkbaaGreat
namespace Op
open Go.RowKit Hd Rd Vi Dk
def hd0:Array Value:=#[.int .i64 0,.int .i64 0,.int .i64 0]
theorem hd_info:(Tryz.prog.info? 148).map (·.size)=some 3:=by kernel_rfl
set_option maxHeartbeats 6400000 in
set_option maxRecDepth 100000 in
theorem ohead_x {cs:Array Value} {w:World} (hcs:cs.size=18) (K:Bool) (xi xg xf:Int)
  (HC:Hid (∀wx,Below w.heap.size w wx->Calls Tryz.prog 77 #[.agg cs] wx fun e w'=>e=.returned (.int .i64 (if K=true then 0 else 330))/\Below wx.heap.size wx w'))
  (HH:Hid (K=true-> ∀wx,Below w.heap.size w wx->Calls Tryz.prog 74 #[.agg cs] wx fun e w'=>e=.returned (.agg #[.int .i64 xi,.int .i64 xg,.int .i64 xf])/\Below wx.heap.size wx w')) :
  Calls Tryz.prog 134 #[.agg cs] w fun e w'=>e=.returned (.tuple #[.agg (if K=true then #[.int .i64 xi,.int .i64 xg,.int .i64 xf] else #[.int .i64 0,.int .i64 0,.int .i64 0]),.int .i64 (if K=true then 0 else 330)])/\Below w.heap.size w w':=by
 have HK:=Lib.hid ((Blk.new w cs 74).alloc (.cells #[.int .i64 0,.int .i64 0,.int .i64 0] 148));have HN:=Lib.hid (blk_second w (.cells cs 74) #[.int .i64 0,.int .i64 0,.int .i64 0] 148);have HB:=Lib.hid (ext_second w (.cells cs 74) (.cells #[.int .i64 0,.int .i64 0,.int .i64 0] 148));rcases K with _|_
 all_goals simp only[Bool.false_eq_true,if_false,if_true] at *
 ·go_enter Tryz.func134, Tryz.ntmps134
  go_wp2_with (first
   |(refine wpList_load_row rfl 74 (.tmp 1) rfl w.heap.size cs _ (by simp[go_sem,Act.eval]) HK.out Tryz.underlying74 rfl (by rw[hcs];exact st_info) ?_)
   |(go_at_call 77;refine(HC.out _ HB.out).mono ?_;rintro e1 w1 ⟨rfl,hb1⟩;have HB:=Lib.hid (HB.out.trans (hb1.mono HB.out.size));have HN:=Lib.hid (HN.out.ext hb1);clear hb1)
   |(refine wpList_store_row rfl 148 (.tmp 2) (.tmp 9) rfl (w.heap.size+1) #[.int .i64 0,.int .i64 0,.int .i64 0] #[.int .i64 0,.int .i64 0,.int .i64 0] (by simp[go_sem,Act.eval]) (by simp[go_sem,Act.eval]) HN.out hd_info rfl (by simp[Value.oneCell']) ?_))
  refine bodyPost_ret (v:=.tuple #[.agg #[.int .i64 0,.int .i64 0,.int .i64 0],.int .i64 330]) (by exact results_cell2 rfl rfl rfl (HN.out.set #[.int .i64 0,.int .i64 0,.int .i64 0]) Tryz.underlying148 rfl hd_info) (by exact rfl) ?_;exact⟨rfl,ext_setRow HB.out (Nat.le_succ _) _⟩
 ·go_enter Tryz.func134, Tryz.ntmps134
  go_wp2_with (first
   |(refine wpList_load_row rfl 74 (.tmp 1) rfl w.heap.size cs _ (by simp[go_sem,Act.eval]) HK.out Tryz.underlying74 rfl (by rw[hcs];exact st_info) ?_)
   |(refine wpList_build1 rfl 146 (.tmp 11) rfl cs (by simp[go_sem,Act.eval]) (fun w=>build_lg _ hcs w) ?_)
   |(go_at_call 77;refine(HC.out _ HB.out).mono ?_;rintro e1 w1 ⟨rfl,hb1⟩;have HB:=Lib.hid (HB.out.trans (hb1.mono HB.out.size));have HN:=Lib.hid (HN.out.ext hb1);have HK:=Lib.hid (HK.out.ext hb1);clear hb1)
   |(go_at_call 74;refine(HH.out (by first|rfl|trivial) _ HB.out).mono ?_;rintro e2 w2 ⟨rfl,hb2⟩;have HB:=Lib.hid (HB.out.trans (hb2.mono HB.out.size));have HN:=Lib.hid (HN.out.ext hb2);clear hb2)
   |(refine wpList_store_row rfl 148 (.tmp 2) (.tmp 13) rfl (w.heap.size+1) #[.int .i64 xi,.int .i64 xg,.int .i64 xf] #[.int .i64 0,.int .i64 0,.int .i64 0] (by simp[go_sem,Act.eval]) (by simp[go_sem,Act.eval]) HN.out hd_info rfl (by simp[Value.oneCell']) ?_))
  refine bodyPost_ret (v:=.tuple #[.agg #[.int .i64 xi,.int .i64 xg,.int .i64 xf],.int .i64 0]) (by exact results_cell2 rfl rfl rfl (HN.out.set #[.int .i64 xi,.int .i64 xg,.int .i64 xf]) Tryz.underlying148 rfl hd_info) (by exact rfl) ?_;exact⟨rfl,ext_setRow HB.out (Nat.le_succ _) _⟩
theorem okSt_kept {s:St} (h:okSt s=true):keptB s=true:=by
 unfold okSt at h;rw[Bool.and_eq_true] at h;exact h.1
theorem ohead_any (s:St) (x y z:Sl) (w:World) (h:Str w w.heap.size s x y z) (hx1:x.n<=1000000) (hy1:y.n<=100000) (hz1:z.n<=1000000) :
  Calls Tryz.prog 134 #[sagg s x y z] w fun e w'=>e=.returned (.tuple #[.agg (if okSt s=true then #[.int .i64 (hdOf s).i,.int .i64 (hdOf s).g,.int .i64 (hdOf s).f] else #[.int .i64 0,.int .i64 0,.int .i64 0]),.int .i64 (if okSt s=true then 0 else 330)])/\Below w.heap.size w w' :=
 ohead_x (cs:=stc s x y z) rfl (okSt s) (hdOf s).i (hdOf s).g (hdOf s).f (fun wx hb=>ocheck_any s x y z wx (h.ext hb) hx1 hy1 hz1)
  (fun hk wx hb=>lhead_any s x y z wx (h.ext hb) (hd_ok (okSt_kept hk)).2.1 hx1)
end Op
end Go.Proofs.YtejcdhdfanfkbaaGreat
namespace Go.Proofs.YtejcdhdfanfkbaaGreat
namespace Op
open Go.RowKit Hd Rd Vi Dk
theorem en_info:(Tryz.prog.info? 217).map (·.size)=some 9:=by kernel_rfl
theorem mf_info:(Tryz.prog.info? 70).map (·.size)=some 5:=by kernel_rfl
def enO (i g f:Int):En:=⟨i,g,f,false,0,0,0,0,0⟩
theorem rdK_blk {w:World} {g n K:Nat} {cs:Array Value} {t:TypeId} (h:Blk w g cs t) (hs:cs.size=n*K):Rd w w.heap.size K (some ⟨g,0,none⟩) n cs.toList :=
 ⟨by rw[Array.length_toList,hs],fun _=>⟨⟨g,0,none⟩,rfl,h.lt,fun j u hu=>by
  rw[Addr.add_lit,Nat.zero_add];exact h.cell j (by rwa [Array.getElem?_toList] at hu)⟩⟩
set_option maxHeartbeats 3200000 in
set_option maxRecDepth 100000 in
theorem eopen_go (i g f:Int) (w:World) (h:okH i g f=true) :
  Calls Tryz.prog 212 #[.agg #[.int .i64 i,.int .i64 g,.int .i64 f]] w fun e w'=>e=.returned (.tuple #[.agg #[.int .i64 i,.int .i64 g,.int .i64 f,.bool false,.int .i64 0,.int .i64 0,.int .i64 0,.int .i64 0,.int .i64 0],.int .i64 0])/\Below w.heap.size w w':=by
 have HC:=Lib.hid (fun w=>check_any i g f w);rw[h] at HC;simp only[if_true] at HC;clear h;have HK:=Lib.hid ((Blk.new w #[.int .i64 i,.int .i64 g,.int .i64 f] 148).alloc (.cells #[.int .i64 0,.int .i64 0,.int .i64 0,.bool false,.int .i64 0,.int .i64 0,.int .i64 0,.int .i64 0,.int .i64 0] 217));have HN:=Lib.hid (blk_second w (.cells #[.int .i64 i,.int .i64 g,.int .i64 f] 148) #[.int .i64 0,.int .i64 0,.int .i64 0,.bool false,.int .i64 0,.int .i64 0,.int .i64 0,.int .i64 0,.int .i64 0] 217);have HB:=Lib.hid (ext_second w (.cells #[.int .i64 i,.int .i64 g,.int .i64 f] 148) (.cells #[.int .i64 0,.int .i64 0,.int .i64 0,.bool false,.int .i64 0,.int .i64 0,.int .i64 0,.int .i64 0,.int .i64 0] 217))
 go_enter Tryz.func212, Tryz.ntmps212
 go_wp2_with (first
  |(refine wpList_load_row rfl 148 (.tmp 1) rfl w.heap.size #[.int .i64 i,.int .i64 g,.int .i64 f] _ (by simp[go_sem,Act.eval]) HK.out Tryz.underlying148 rfl hd_info ?_)
  |(go_at_call 169;refine(HC.out _).mono ?_;rintro e1 w1 ⟨rfl,hb1⟩;have HB:=Lib.hid (HB.out.trans (hb1.mono HB.out.size));have HN:=Lib.hid (HN.out.ext hb1);have HK:=Lib.hid (HK.out.ext hb1);clear hb1)
  |(refine wpList_store_row rfl 217 (.tmp 2) (.tmp 12) rfl (w.heap.size+1) #[.int .i64 i,.int .i64 g,.int .i64 f,.bool false,.int .i64 0,.int .i64 0,.int .i64 0,.int .i64 0,.int .i64 0] #[.int .i64 0,.int .i64 0,.int .i64 0,.bool false,.int .i64 0,.int .i64 0,.int .i64 0,.int .i64 0,.int .i64 0] (by simp[go_sem,Act.eval]) (by simp[go_sem,Act.eval]) HN.out en_info rfl (by simp[Value.oneCell']) ?_))
 refine bodyPost_ret (v:=.tuple #[.agg #[.int .i64 i,.int .i64 g,.int .i64 f,.bool false,.int .i64 0,.int .i64 0,.int .i64 0,.int .i64 0,.int .i64 0],.int .i64 0]) (by exact results_cell2 rfl rfl rfl (HN.out.set #[.int .i64 i,.int .i64 g,.int .i64 f,.bool false,.int .i64 0,.int .i64 0,.int .i64 0,.int .i64 0,.int .i64 0]) Tryz.underlying217 rfl en_info) (by exact rfl) ?_;exact⟨rfl,ext_setRow HB.out (Nat.le_succ _) _⟩
set_option maxHeartbeats 6400000 in
set_option maxRecDepth 100000 in
theorem mnew_go (i g f:Int) (w:World) (h:okH i g f=true) (hi:i≠999999) :
  Calls Tryz.prog 165 #[.agg #[.int .i64 i,.int .i64 g,.int .i64 f]] w fun e w'=>∃G:Nat,e=.returned (.tuple #[.agg #[.int .i64 1,.int .i64 (i+1),.int .i64 0,.int .i64 f,.slice (some ⟨G,0,none⟩) 1 1],.int .i64 0])/\Blk w' G #[.int .i64 i,.int .i64 g,.int .i64 f,.bool false,.int .i64 0,.int .i64 0,.int .i64 0,.int .i64 0,.int .i64 0] 217/\w.heap.size<=G/\Below w.heap.size w w':=by
 have HO:=Lib.hid (fun w=>eopen_go i g f w h);have hb:1<=i/\i<=999999:=by
  simp only[okH,decide_eq_true_eq] at h;omega
 have hw:IntKind.i64.wrap (i+1)=i+1:=by rw[IntKind.wrap_i64];omega
 have hne:(i==999999)=false:=by rw[beq_eq_false_iff_ne];exact hi
 clear h hb hi;have HK:=Lib.hid ((Blk.new w #[.int .i64 i,.int .i64 g,.int .i64 f] 148).alloc (.cells #[.int .i64 0,.int .i64 0,.int .i64 0,.int .i64 0,.slice none 0 0] 70));have HN:=Lib.hid (blk_second w (.cells #[.int .i64 i,.int .i64 g,.int .i64 f] 148) #[.int .i64 0,.int .i64 0,.int .i64 0,.int .i64 0,.slice none 0 0] 70);have HB:=Lib.hid (ext_second w (.cells #[.int .i64 i,.int .i64 g,.int .i64 f] 148) (.cells #[.int .i64 0,.int .i64 0,.int .i64 0,.int .i64 0,.slice none 0 0] 70))
 go_enter Tryz.func165, Tryz.ntmps165
 go_wp2_with (first
  |(refine wpList_load_row rfl 148 (.tmp 1) rfl w.heap.size #[.int .i64 i,.int .i64 g,.int .i64 f] _ (by simp[go_sem,Act.eval]) HK.out Tryz.underlying148 rfl hd_info ?_)
  |(go_at_call 212;refine(HO.out _).mono ?_;rintro e1 w1 ⟨rfl,hb1⟩;have HE:=Lib.hid (Blk.new w1 #[.int .i64 i,.int .i64 g,.int .i64 f,.bool false,.int .i64 0,.int .i64 0,.int .i64 0,.int .i64 0,.int .i64 0] 217);have HB:=Lib.hid ((HB.out.trans (hb1.mono HB.out.size)).trans ((ext_alloc w1 (.cells #[.int .i64 i,.int .i64 g,.int .i64 f,.bool false,.int .i64 0,.int .i64 0,.int .i64 0,.int .i64 0,.int .i64 0] 217)).mono (HB.out.trans (hb1.mono HB.out.size)).size));have HN:=Lib.hid ((HN.out.ext hb1).alloc (.cells #[.int .i64 i,.int .i64 g,.int .i64 f,.bool false,.int .i64 0,.int .i64 0,.int .i64 0,.int .i64 0,.int .i64 0] 217));have HK:=Lib.hid ((HK.out.ext hb1).alloc (.cells #[.int .i64 i,.int .i64 g,.int .i64 f,.bool false,.int .i64 0,.int .i64 0,.int .i64 0,.int .i64 0,.int .i64 0] 217));clear hb1;have k0:=HK.out.cell 0 (v:=.int .i64 i) rfl;have k2:=HK.out.cell 2 (v:=.int .i64 f) rfl)
  |(refine wpList_load_row rfl 217 (.tmp 4) rfl w1.heap.size #[.int .i64 i,.int .i64 g,.int .i64 f,.bool false,.int .i64 0,.int .i64 0,.int .i64 0,.int .i64 0,.int .i64 0] _ (by simp[go_sem,Act.eval]) HE.out Tryz.underlying217 rfl en_info ?_)
  |(refine wpList_store_row rfl 70 (.tmp 2) (.tmp 26) rfl (w.heap.size+1) #[.int .i64 1,.int .i64 (i+1),.int .i64 0,.int .i64 f,.slice (some ⟨w1.heap.size+1,0,none⟩) 1 1] #[.int .i64 0,.int .i64 0,.int .i64 0,.int .i64 0,.slice none 0 0] (by simp[go_sem,Act.eval]) (by simp[go_sem,Act.eval]) (HN.out.alloc _) mf_info rfl (by simp[Value.oneCell']) ?_))
 refine bodyPost_ret (v:=.tuple #[.agg #[.int .i64 1,.int .i64 (i+1),.int .i64 0,.int .i64 f,.slice (some ⟨w1.heap.size+1,0,none⟩) 1 1],.int .i64 0]) (by exact results_cell2 rfl rfl rfl ((HN.out.alloc _).set #[.int .i64 1,.int .i64 (i+1),.int .i64 0,.int .i64 f,.slice (some ⟨w1.heap.size+1,0,none⟩) 1 1]) Tryz.underlying70 rfl mf_info) (by exact rfl) ?_;have HX:=Lib.hid ((Blk.new (w1.alloc (.cells #[.int .i64 i,.int .i64 g,.int .i64 f,.bool false,.int .i64 0,.int .i64 0,.int .i64 0,.int .i64 0,.int .i64 0] 217)) #[.int .i64 i,.int .i64 g,.int .i64 f,.bool false,.int .i64 0,.int .i64 0,.int .i64 0,.int .i64 0,.int .i64 0] 217).setOther (k:=w.heap.size+1) (by have:=HB.out.size;have:=HN.out.lt;omega) #[.int .i64 1,.int .i64 (i+1),.int .i64 0,.int .i64 f,.slice (some ⟨w1.heap.size+1,0,none⟩) 1 1]);have hsz:(w1.alloc (.cells #[.int .i64 i,.int .i64 g,.int .i64 f,.bool false,.int .i64 0,.int .i64 0,.int .i64 0,.int .i64 0,.int .i64 0] 217)).heap.size=w1.heap.size+1:=by simp
 rw[hsz] at HX;exact⟨w1.heap.size+1,rfl,HX.out,by have:=HN.out.lt;have:=HB.out.size;omega,ext_setRow (HB.out.trans ((ext_alloc _ _).mono HB.out.size)) (Nat.le_succ _) _⟩
end Op
end Go.Proofs.YtejcdhdfanfkbaaGreat
namespace Go.Proofs.YtejcdhdfanfkbaaGreat
open Go.RowKit
section
variable {ops:Array Oper} {rest:List Oper} {o:Oper} {a:Act} {Q:Exit->Act->World->Prop}
theorem cell_lit_new (w:World) (t:TypeId) (l:List Value) (j:Nat) (u:Value) (h:l[j]? =some u):(w.alloc (.cells l.toArray t)).cell? ((⟨w.heap.size,0,none⟩:Addr).add j)=some u:=by
 rw[Addr.add_lit,Nat.zero_add,World.cell?_alloc_new];simpa using h
theorem appendL {s x:Operand} {B g m:Nat} {v:Value} {l:List Int} {w0:World} (ys:List Int) (hgw:w0.heap.size=g) (hm:ys.length=m) (hown:Own w0 B v l) (hl:l.length<=1099511627776) (hy:ys.length<=1000) (hp:0<ys.length) (hB:B<=w0.heap.size)
  (h:∀A' n' c' w',Hid (n'=l.length+ys.length)->Own w' B (.slice A' n' c') (l++ys)->Below B w0 w'->w0.grownBy w' v.ownBlock->(Value.ownBlock (.slice A' n' c')=v.ownBlock∨ ∃g,Value.ownBlock (.slice A' n' c')=some g/\w0.heap.size<=g)->wpList Tryz.prog ops Q rest (a.put o.dst (.slice A' n' c')) w')
  (hgd:o.guard=none:=by exact rfl) (ho:o.op=.call { callee:=.builtin .append,args:=#[s,x],argTypes:=#[47,47] }:=by exact rfl)
  (hs:a.eval s=v:=by exact rfl) (hx:a.eval x=.slice (some ⟨g,0,none⟩) m m:=by exact rfl) :
  wpList Tryz.prog ops Q (o::rest) a (w0.alloc (.cells (ys.map (Value.int .i64)).toArray 3)):=by
 subst hgw hm;obtain⟨i0,hi,hz0,hz1,hz2⟩:=info_parts int_info;refine wpList_append_own_at _ hgd s x 47 ho B 3 i0 (.int .i64 0) 1 8 Tryz.underlying47 hi hz0 hz1 hz2 rfl (by omega) v l.length (l.map (Value.int .i64)) hs (hown.alloc _)
  ⟨w0.heap.size,0,none⟩ ys.length ys.length (ys.map (Value.int .i64)) hx (by simp) (fun j u hu=>cell_lit_new w0 _ _ j u hu) (by intro u hu;rw[List.mem_map] at hu;obtain⟨y,-,rfl⟩:=hu;rfl) (by simp only[maxLen];omega) (by omega) (by simp;omega) ?_
 intro v' w' hown' hg _ hat;have hg0:w0.grownBy w' v.ownBlock:=(World.grownBy_alloc w0 _ v.ownBlock).trans hg;have hlt:=World.ownsRow.lt hown;obtain⟨A',c',rfl,_,_⟩:=own_slice hown';refine h A' _ c' w' rfl (by unfold Own;simpa using hown') ((Below.refl _ _).grown hg0 hB (fun k hk=>(hlt k hk).1)) hg0 ?_;rcases hat with e|e
 ·exact .inl e
 ·exact .inr ⟨_,e,by simp⟩
end
end Go.Proofs.YtejcdhdfanfkbaaGreat
namespace Go.Proofs.YtejcdhdfanfkbaaGreat
namespace Sn
open Go.RowKit Hd Bk Vi Rd
def nums (m:Mt):List Nat:=[m.a,m.s,m.r,m.c,m.f,m.e,m.l-m.e]
def ftN (l:List Mt):List Nat:=l.length::l.flatMap nums
def ftB (l:List Mt):ByteArray:=⟨((ftN l).flatMap putV).toArray⟩
def ints (l:List Nat):List Int:=l.map fun(n:Nat)=>(n:Int)
theorem ints_nv (l:List Nat):(ints l).map (Value.int .i64)=nv l:=by unfold ints nv;rw[List.map_map];rfl
theorem ints_append (a b:List Nat):ints (a++b)=ints a++ints b:=List.map_append ..
theorem length_ints (l:List Nat):(ints l).length=l.length:=List.length_map ..
theorem length_nums:∀(l:List Mt),(l.flatMap nums).length=l.length*7
 | []=>rfl
 |m::l=>by rw[List.flatMap_cons,List.length_append,length_nums l,List.length_cons];show 7+_=_;omega
theorem nums_take (l:List Mt) (k:Nat) (m:Mt) (h:l[k]? =some m):(l.take (k+1)).flatMap nums=(l.take k).flatMap nums++nums m:=by
 rw[List.take_add_one,h,List.flatMap_append];simp
set_option maxHeartbeats 6400000 in
set_option maxRecDepth 100000 in
theorem foot_any (A:Option Addr) (n c:Nat) (l:List Mt) (w:World) (hrd:Rd w w.heap.size 7 A n (fl7 l)) (hn:n<=100000) (ho:okBl l=true) :
  Calls Tryz.prog 234 #[.slice A n c] w fun e w'=>e=.returned (.tuple #[.string (ftB l),.int .i64 0])/\Below w.heap.size w w':=by
 have mixed:Tryz.prog.follows .mixedOrders=true:=by kernel_rfl
 have hln:=mt_len hrd;have hbl:=blocks_any A n c l w hrd (by omega);rw[blE_yes ho] at hbl;have HBL:=Lib.hid hbl;obtain⟨hl0,hrow⟩:=okBl_row ho;have HOK:=Lib.hid (rowM_mem l none hrow);have hn1:n<=1000:=by omega
 have HLN:=Lib.hid hln;have HR:=Lib.hid hrd;clear hbl hrd hln hl0 hrow ho
 go_enter Tryz.func234, Tryz.ntmps234
 go_wp2_with fail
 refine HBL.out.mono ?_;rintro e1 w1 ⟨rfl,hb1⟩;have HB1:=Lib.hid hb1;have HW:=Lib.hid (World.ownsRow_lit (base:=w.heap.size) (e:=3) (size:=1) w1 #[.int .i64 (n:Int)] 1 hb1.size (by simp[maxLen]) rfl);have HB2:=Lib.hid (hb1.trans ((ext_alloc w1 (.cells #[.int .i64 (n:Int)] 3)).mono hb1.size));clear hb1 HBL;go_wp2_with fail
 go_loopw [5,18] (fun s5 s18 wr=>∃(k:Nat) (A1:Option Addr) (n1 c1:Nat),s18=.int .i64 (k:Int)/\s5=.slice A1 n1 c1/\k<=n/\Hid (Own wr w.heap.size (.slice A1 n1 c1) (ints (n::(l.take k).flatMap nums))/\Below w.heap.size w wr)) (fun _ v _=>n-(intOf v).toNat)
 case atStart=>exact⟨0,_,_,_,by go_num,rfl,by omega,Lib.hid ⟨HW.out,HB2.out⟩⟩
 case round =>
  obtain⟨k,A5,n5,c5,rfl,rfl,hk,HX⟩:=hrel;by_cases hkn:k<n
  ·obtain⟨ad,m,hA,hbk,hx,hc0,hc1,hc2,hc3,hc4,hc5,hc6⟩:=mt_at (HR.out.below HX.out.2) hkn
   have hok:=(okM_iff m).1 (HOK.out m (List.mem_of_getElem? hx));have HNT:=Lib.hid (nums_take l k m hx);obtain⟨ma,ms,mr,mc,mf,me,ml⟩:=m;dsimp only at hok;obtain⟨d,hd⟩:∃d,ml-me=d:=⟨_,rfl⟩
   have hs:IntKind.i64.wrap ((ml:Int)-(me:Int))=(d:Int):=by rw[IntKind.wrap_i64];omega
   have HD:=Lib.hid (show nums ⟨ma,ms,mr,mc,mf,me,ml⟩=[ma,ms,mr,mc,mf,me,d] by unfold nums;rw[hd]);have hown:Own (wr.alloc (.cells #[.int .i64 (ma:Int),.int .i64 (ms:Int),.int .i64 (mr:Int),.int .i64 (mc:Int),.int .i64 (mf:Int),.int .i64 (me:Int),.int .i64 (ml:Int)] 154)) w.heap.size (.slice A5 n5 c5) (ints (n::(l.take k).flatMap nums)):=HX.out.1.below (ext_alloc wr _) (Nat.le_refl _);have HO:=Lib.hid hown;have HLE:=Lib.hid (show(ints (n::(l.take k).flatMap nums)).length<=1099511627776 by rw[length_ints,List.length_cons,length_nums,List.length_take];omega);have HB3:=Lib.hid (HX.out.2.trans ((ext_alloc wr (.cells #[.int .i64 (ma:Int),.int .i64 (ms:Int),.int .i64 (mr:Int),.int .i64 (mc:Int),.int .i64 (mf:Int),.int .i64 (me:Int),.int .i64 (ml:Int)] 154)).mono HX.out.2.size));subst hA;clear hown hx hd hok HX hbk;go_wp2_with (at_builtin;go_loud (refine appendL (g:=wr.heap.size+1) [ma,ms,mr,mc,mf,me,d] (by simp) rfl HO.out HLE.out (by simp) (by simp) HB3.out.size ?_;intro A1 n1 c1 w3 hn1 hown1 hb1 hg1 hat1))
   have HF:=Lib.hid (show ints (n::(l.take (k+1)).flatMap nums)=ints (n::(l.take k).flatMap nums)++[(ma:Int),(ms:Int),(mr:Int),(mc:Int),(mf:Int),(me:Int),(d:Int)] by
    rw[HNT.out,HD.out,<-List.cons_append,ints_append];rfl)
   go_roundw
   case rel=>exact⟨k+1,A1,n1,c1,by go_num,rfl,by omega,Lib.hid ⟨by rw[HF.out];exact hown1,HB3.out.trans hb1⟩⟩
   case measure=>simp[intOf];omega
  ·obtain rfl:k=n:=by omega
   have h9:=HX.out;rw[List.take_of_length_le (by rw[HLN.out];omega)] at h9;have hrd:Rd wr wr.heap.size 1 A5 n5 (nv (ftN l)):=by
    obtain⟨h,h2⟩:=h9.1.rd0;rw[<-h2,ints_nv,show k::l.flatMap nums=ftN l by unfold ftN;rw[HLN.out]] at h;exact h
   have hn5:n5<=7001:=by
    obtain⟨-,h2⟩:=h9.1.rd0;rw[length_ints,List.length_cons,length_nums,HLN.out] at h2;omega
   have hall:∀x∈ftN l,x<9223372036854775808:=by
    intro x hx;unfold ftN at hx;rcases List.mem_cons.1 hx with rfl|hx
    ·rw[HLN.out];omega
    ·obtain⟨m,hm,hx⟩:=List.mem_flatMap.1 hx
     have:=(okM_iff m).1 (HOK.out m hm);simp only[nums,List.mem_cons,List.not_mem_nil,or_false] at hx;omega
   have HN:=Lib.hid (numbers_any A5 n5 c5 (ftN l) wr hrd (by omega) hall);have HB2:=Lib.hid h9.2;clear h9 HX hrd hall hn5;go_wp2_with fail
   refine HN.out.mono ?_;rintro e5 w5 ⟨rfl,hb5⟩;have HB5:=Lib.hid (HB2.out.trans (hb5.mono HB2.out.size));clear hb5;go_wp2_with fail
   go_ret2
   exact⟨rfl,HB5.out⟩
end Sn
end Go.Proofs.YtejcdhdfanfkbaaGreat
