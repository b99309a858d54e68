/- maps.Clone of a directory; disk: settle, DirSync. When a log's state may be: plain. -/
import Derived.Test.YtejcdhdfanfkbaaGreatFb17
import Derived.Shelf.SlMaps.Clone
import Derived.Test.YtejcdhdfanfkbaaGreatFb07
import Derived.Test.YtejcdhdfanfkbaaGreatFb22
namespace Go.Proofs.YtejcdhdfanfkbaaGreat
namespace Dk
open Go.RowKit
set_option maxHeartbeats 1600000 in
set_option maxRecDepth 100000 in
theorem clone_any (w:World) {g:Nat} {l:List (ByteArray×Value)} (hm:Mp w g l) :
  Calls Tryz.prog 62 #[.map (some g)] w fun e w'=>e=.returned (.map (some w.heap.size))/\Mp w' w.heap.size l/\Below w.heap.size w w'/\w'.heap.size=w.heap.size+1:=by
 obtain⟨es,clock,h1,h2,h3⟩:=hm;have hq:=fun w=>run_eql_map_nil_sl (P:=Tryz.prog) w 117 _ _ (some g) Tryz.underlying117
 have hr:=run_maps_clone_sl (P:=Tryz.prog) w 117 h1;have ht:=fun w' xT=>run_typeAssert_map_sl (P:=Tryz.prog) w' 117 xT _ _ (.map (some w.heap.size)) Tryz.underlying117
 go_enter Tryz.func62, Tryz.ntmps62
 go_wp2
 rw[run_callFunc_extern Tryz.func113 (by kernel_rfl) (by kernel_rfl) (by kernel_rfl) (e:=Extern.MapsClone.clone) (by kernel_rfl),hr];simp only[Result.andThen];rw[Oper.upon_value];go_wp2
 go_ret
 exact⟨rfl,⟨es,_,heap_alloc_new w _,h2,h3⟩,ext_alloc w _,by simp⟩
section
variable {w w':World} {S:Nat->Prop} {bd gN gS:Nat} {v:Value} {D:DS}
theorem Fit.settle (h:Fit D):Fit (settleD D) :=
 ⟨h.wfN,h.wfN,fun c hc=>(by cases hc),h.cap0,h.cap1,h.arm0,h.arm1,h.ops,h.big,fun k=>by
  show(apps (List.take k []) D.now).length<=200
  rw[List.take_nil];exact h.now_few,rfl⟩
theorem Dat.settle (h:Dat w S bd gN gS v D) {w1:World} (hm:Mp w1 w.heap.size (vs D.now)) (hb:Below w.heap.size w w1) (hs:w1.heap.size=w.heap.size+1) :
  Dat ((w1.setCell ⟨bd,1,none⟩ (.map (some w.heap.size))).setCell ⟨bd,2,none⟩ (.slice none 0 0)) (fun k=>S k∨k=w.heap.size) bd gN w.heap.size (.slice none 0 0) (settleD D):=by
 have h1:=h.ext hb;have hne:w.heap.size≠bd:=by have:=h.lt _ h.sB;omega
 have hk:∀k,k≠bd->((w1.setCell ⟨bd,1,none⟩ (.map (some w.heap.size))).setCell ⟨bd,2,none⟩ (.slice none 0 0)).heap[k]? =w1.heap[k]? :=fun k hk=>by
  rw[Below.heap_setCell _ ⟨bd,2,none⟩ _ k hk,Below.heap_setCell _ ⟨bd,1,none⟩ _ k hk]
 refine⟨(h1.box.put 1 _).put 2 _,h1.now.same (hk _ h.bN),hm.same (hk _ hne),World.ownsRow_nil _ _ _ _,fun b p hp=>(hk _ (h.bF hp).1).trans (h1.fl b p hp),?_,.inl h.sB,.inl h.sN,.inr rfl,fun g hg=>(by cases hg),fun b p hp=>.inl (h.sF b p hp),fun b hb'=>?_,h.fit.settle⟩
 ·have:=h.lt _ h.sN;omega
 ·show b<_
  rw[show((w1.setCell ⟨bd,1,none⟩ (.map (some w.heap.size))).setCell ⟨bd,2,none⟩ (.slice none 0 0)).heap.size=w1.heap.size from by simp];rcases hb' with hb'|rfl
  ·have:=h.lt b hb';omega
  ·omega
theorem gr_settle (h:S bd) {w1:World} (hb:Below w.heap.size w w1) (x y:Value) :
  Gr S w (fun k=>S k∨k=w.heap.size) ((w1.setCell ⟨bd,1,none⟩ x).setCell ⟨bd,2,none⟩ y) :=
 ((Gr.of_below hb).trans ((Gr.setCell h 1 x).trans (Gr.setCell h 2 y))).more fun k hk=>hk.imp_right (by omega)
set_option maxHeartbeats 1600000 in
theorem settle_raw (hx:Blk w bd (dcells gN gS v D) 120) {l:List (ByteArray×Value)} (hm:Mp w gN l) :
  Calls Tryz.prog 69 #[.pointer (some ⟨bd,0,none⟩)] w fun e w'=>e=.returned (.tuple #[])/\ ∃w1,Mp w1 w.heap.size l/\Below w.heap.size w w1/\w1.heap.size=w.heap.size+1/\w'=(w1.setCell ⟨bd,1,none⟩ (.map (some w.heap.size))).setCell ⟨bd,2,none⟩ (.slice none 0 0):=by
 have c0:=hx.cell 0 (v:=.map (some gN)) rfl;have HC:=Lib.hid (clone_any w hm);have HX:=Lib.hid (fun w1 (hb:Below w.heap.size w w1)=>hx.ext hb);clear hx hm
 go_enter Tryz.func69, Tryz.ntmps69
 go_wp2_with (go_at_call 62;refine HC.out.mono ?_;rintro e1 w1 ⟨rfl,hm,hb,hs⟩;have f1:=(HX.out w1 hb).fz 1;have f2:=(HX.out w1 hb).fz 2;have k1:=(HX.out w1 hb).cell 1 rfl;have k2:=(HX.out w1 hb).cell 2 rfl;have H1:=Lib.hid (And.intro hm (And.intro hb hs));clear hm hb hs)
 go_end0
 exact⟨rfl,w1,H1.out.1,H1.out.2.1,H1.out.2.2,rfl⟩
theorem settle_any (h:DiskAt w S bd D):Calls Tryz.prog 69 #[.pointer (some ⟨bd,0,none⟩)] w fun e w'=>e=.returned (.tuple #[])/\ ∃S2,DiskAt w' S2 bd (settleD D)/\Gr S w S2 w':=by
 obtain⟨gN,gS,v,h⟩:=h;refine(settle_raw h.box h.now).mono ?_;rintro e w' ⟨rfl,w1,h1,h2,h3,rfl⟩;exact⟨rfl,_,⟨gN,_,_,h.settle h1 h2 h3⟩,gr_settle h.sB h2 _ _⟩
theorem dirsync_go (h:DiskAt w S bd D) (ho:D.off=false):Calls Tryz.prog 60 #[.pointer (some ⟨bd,0,none⟩)] w fun e w'=>e=.returned (.int .i64 (opE D))/\ ∃S',DiskAt w' S' bd (opS true settleD D)/\Gr S w S' w':=by
 have HU:=Lib.hid (up_any h);have hup:upE D=0:=by unfold upE;rw[ho];rfl
 rw[hup] at HU;have HO:=Lib.hid (op_any true 69 #[.pointer (some ⟨bd,0,none⟩)] #[] settleD h (enters_of Tryz.func69 (by kernel_rfl) rfl) fun w1 h1 g1=>settle_any h1);clear h ho hup
 go_enter Tryz.func60, Tryz.ntmps60
 go_wp2_with (first
  |(go_at_call 61;refine HU.out.mono ?_;rintro e1 w1 ⟨rfl,rfl⟩)
  |(go_at_call 109;refine HO.out.mono ?_;rintro e5 w5 ⟨rfl,S5,hD5,hG5⟩;have HD5:=Lib.hid (And.intro hD5 hG5);clear hD5 hG5))
 go_ret
 exact⟨rfl,S5,HD5.out⟩
end
end Dk
end Go.Proofs.YtejcdhdfanfkbaaGreat
namespace Go.Proofs.YtejcdhdfanfkbaaGreat
namespace Op
open Go.RowKit Hd Rd Sn
def hdOf (s:St):En:=s.mf.es.getLast?.getD default
def hsz (i g f:Int):Int:=((hdrB i.toNat g.toNat f.toNat).size:Int)
def endI (x:En) (l:List Mi):Int:=match l.getLast? with
 |none=>hsz x.i x.g x.f
 |some m=>m.a+m.s
def nextI (f:Int) (l:List Mi):Int:=match l.getLast? with
 |none=>f
 |some m=>m.f+m.c
def timeM:Int->List Mi->Option Int
 |t,[]=>some t
 |t,m::l=>if m.e<t then none else timeM m.l l
def timeR:Int->List Rc->Option Int
 |t,[]=>some t
 |t,r::l=>if r.2.1<t then none else timeR r.2.1 l
def timedB (s:St):Bool:=match timeM (lateE s.mf.es) s.bs with
 |none=>false
 |some t=>match timeR t s.wt with
  |none=>false
  |some t=>decide (t<=s.nw/\s.mf.t<=s.nw/\s.nw<=1000000000)
def rawR (l:List Rc):Nat:=l.foldl (fun n r=>min (n+(recB r).length) 1000000) 0
def keptB (s:St):Bool:=okCf s.cf&&okMf s.mf
def firstM (f:Int):List Mi->Bool
 | []=>true
 |m::_=>decide (m.f=f)
def firstR (f:Int):List Rc->Bool
 | []=>true
 |r::_=>decide (r.1=f)
def laidB (s:St):Bool:=okBi s.bs&&(decide (endI (hdOf s) s.bs=s.sz)&&firstM (hdOf s).f s.bs)
def waitsB (s:St):Bool:=decide (Rd.rowE none s.wt=0)&&(decide ((rawR s.wt:Int)<s.cf.b)&&(decide (s.nx=nextI (hdOf s).f s.bs+s.wt.length)&&firstR (nextI (hdOf s).f s.bs) s.wt))
def okSt (s:St):Bool:=keptB s&&(laidB s&&(waitsB s&&timedB s))
end Op
end Go.Proofs.YtejcdhdfanfkbaaGreat
