/- canon.Code's cells as lists; plain lists, and the laws of a row that is known whole. bwt: starts, Steps$1. -/
import Derived.Test.YtjligbmickfbdaaGreatBe15
import Derived.Test.YtjligbmickfbdaaGreatBe14
import Derived.Test.YtjligbmickfbdaaGreatBe06
import Derived.Test.YtjligbmickfbdaaGreatBe05
namespace Go.Proofs.YtjligbmickfbdaaGreat
namespace Cn
open Go.RowKit
def vs (l:List Int):List Value:=l.map (Value.int .i64)
theorem length_vs (l:List Int):(vs l).length=l.length:=List.length_map ..
theorem vs_at (l:List Int) (k:Nat) (h:k<l.length):(vs l)[k]? =some (.int .i64 (l.getD k 0)):=by
 unfold vs;rw[List.getElem?_map,List.getD_eq_getElem?_getD,List.getElem?_eq_getElem h];rfl
theorem vs_set (l:List Int) (k:Nat) (x:Int):(vs l).set k (.int .i64 x)=vs (l.set k x):=by
 unfold vs;rw[List.map_set]
def rowC (a s:Value) (c f p:List Int) (m:Bool):List Value:=a::s::(vs c++(vs f++(vs p++[.bool m])))
section
variable {a s:Value} {c f p:List Int} {m:Bool}
theorem rowC_c (hc:c.length=16) (k:Nat) (h:k<=15):(rowC a s c f p m)[2+k]? =some (.int .i64 (c.getD k 0)):=by
 unfold rowC;rw[show 2+k=k+1+1 by omega,List.getElem?_cons_succ,List.getElem?_cons_succ,List.getElem?_append_left (by rw[length_vs];omega),vs_at _ _ (by omega)]
theorem rowC_f (hc:c.length=16) (hf:f.length=16) (k:Nat) (h:k<=15):(rowC a s c f p m)[18+k]? =some (.int .i64 (f.getD k 0)):=by
 unfold rowC;rw[show 18+k=16+k+1+1 by omega,List.getElem?_cons_succ,List.getElem?_cons_succ,List.getElem?_append_right (by rw[length_vs];omega),length_vs,hc,show 16+k-16=k by omega,
  List.getElem?_append_left (by rw[length_vs];omega),vs_at _ _ (by omega)]
theorem rowC_p (hc:c.length=16) (hf:f.length=16) (hp:p.length=16) (k:Nat) (h:k<=15):(rowC a s c f p m)[34+k]? =some (.int .i64 (p.getD k 0)):=by
 unfold rowC;rw[show 34+k=32+k+1+1 by omega,List.getElem?_cons_succ,List.getElem?_cons_succ,List.getElem?_append_right (by rw[length_vs];omega),length_vs,hc,
  List.getElem?_append_right (by rw[length_vs];omega),length_vs,hf,show 32+k-16-16=k by omega,List.getElem?_append_left (by rw[length_vs];omega),vs_at _ _ (by omega)]
theorem rowC_m (hc:c.length=16) (hf:f.length=16) (hp:p.length=16):(rowC a s c f p m)[50]? =some (.bool m):=by
 unfold rowC;rw[show 50=48+1+1 by omega,List.getElem?_cons_succ,List.getElem?_cons_succ,List.getElem?_append_right (by rw[length_vs];omega),length_vs,hc,
  List.getElem?_append_right (by rw[length_vs];omega),length_vs,hf,List.getElem?_append_right (by rw[length_vs];omega),length_vs,hp]
 rfl
theorem rowC_set_c (hc:c.length=16) (k:Nat) (h:k<=15) (x:Int):(rowC a s c f p m).set (2+k) (.int .i64 x)=rowC a s (c.set k x) f p m:=by
 unfold rowC;rw[show 2+k=k+1+1 by omega,List.set_cons_succ,List.set_cons_succ,List.set_append_left _ _ (by rw[length_vs];omega),vs_set]
theorem rowC_set_f (hc:c.length=16) (hf:f.length=16) (k:Nat) (h:k<=15) (x:Int):(rowC a s c f p m).set (18+k) (.int .i64 x)=rowC a s c (f.set k x) p m:=by
 unfold rowC;rw[show 18+k=16+k+1+1 by omega,List.set_cons_succ,List.set_cons_succ,List.set_append_right _ _ (by rw[length_vs];omega),length_vs,hc,show 16+k-16=k by omega,
  List.set_append_left _ _ (by rw[length_vs];omega),vs_set]
theorem rowC_set_p (hc:c.length=16) (hf:f.length=16) (hp:p.length=16) (k:Nat) (h:k<=15) (x:Int):(rowC a s c f p m).set (34+k) (.int .i64 x)=rowC a s c f (p.set k x) m:=by
 unfold rowC;rw[show 34+k=32+k+1+1 by omega,List.set_cons_succ,List.set_cons_succ,List.set_append_right _ _ (by rw[length_vs];omega),length_vs,hc,
  List.set_append_right _ _ (by rw[length_vs];omega),length_vs,hf,show 32+k-16-16=k by omega,List.set_append_left _ _ (by rw[length_vs];omega),vs_set]
theorem rowC_set_s (u:Value):(rowC a s c f p m).set 1 u=rowC a u c f p m:=rfl
end
structure Cx (w:World) (b:Nat) (a s:Value) (c f p:List Int) (m:Bool):Prop where
 row:w.heap[b]? =some (.cells (rowC a s c f p m).toArray 132 (0,0))
 lc:c.length=16
 lf:f.length=16
 lp:p.length=16
section
variable {w w':World} {b:Nat} {a s:Value} {c f p:List Int} {m:Bool} (h:Cx w b a s c f p m)
include h
theorem Cx.lt:b<w.heap.size:=(Array.getElem?_eq_some_iff.1 h.row).1
theorem Cx.cell (k:Nat):w.cell? ⟨b,k,none⟩=(rowC a s c f p m)[k]? :=by
 rw[cell_of_row w b k _ _ (0,0) h.row];simp
theorem Cx.fz (k:Nat):w.frozen? ⟨b,k,none⟩=false:=frozen_of_row w b k _ _ h.row
theorem Cx.c0:w.cell? ⟨b,0,none⟩=some a:=(h.cell 0).trans rfl
theorem Cx.c1:w.cell? ⟨b,1,none⟩=some s:=(h.cell 1).trans rfl
theorem Cx.cc (k:Nat) (hk:k<=15):w.cell? ⟨b,2+k,none⟩=some (.int .i64 (c.getD k 0)):=(h.cell _).trans (rowC_c h.lc k hk)
theorem Cx.cf (k:Nat) (hk:k<=15):w.cell? ⟨b,18+k,none⟩=some (.int .i64 (f.getD k 0)):=(h.cell _).trans (rowC_f h.lc h.lf k hk)
theorem Cx.cp (k:Nat) (hk:k<=15):w.cell? ⟨b,34+k,none⟩=some (.int .i64 (p.getD k 0)):=(h.cell _).trans (rowC_p h.lc h.lf h.lp k hk)
theorem Cx.cm:w.cell? ⟨b,50,none⟩=some (.bool m):=(h.cell _).trans (rowC_m h.lc h.lf h.lp)
omit h in
theorem row_set {t:TypeId} {w:World} {b k:Nat} {l:List Value} {u:Value} (h:w.heap[b]? =some (.cells l.toArray t (0,0))):(w.setCell ⟨b,k,none⟩ u).heap[b]? =some (.cells (l.set k u).toArray t (0,0)):=by
 simp[World.setCell,Array.getElem?_modify,h]
theorem Cx.set_c (k:Nat) (hk:k<=15) (x:Int):Cx (w.setCell ⟨b,2+k,none⟩ (.int .i64 x)) b a s (c.set k x) f p m :=
 ⟨by rw[row_set h.row,rowC_set_c h.lc k hk],by rw[List.length_set,h.lc],h.lf,h.lp⟩
theorem Cx.set_f (k:Nat) (hk:k<=15) (x:Int):Cx (w.setCell ⟨b,18+k,none⟩ (.int .i64 x)) b a s c (f.set k x) p m :=
 ⟨by rw[row_set h.row,rowC_set_f h.lc h.lf k hk],h.lc,by rw[List.length_set,h.lf],h.lp⟩
theorem Cx.set_p (k:Nat) (hk:k<=15) (x:Int):Cx (w.setCell ⟨b,34+k,none⟩ (.int .i64 x)) b a s c f (p.set k x) m :=
 ⟨by rw[row_set h.row,rowC_set_p h.lc h.lf h.lp k hk],h.lc,h.lf,by rw[List.length_set,h.lp]⟩
theorem Cx.set_s (u:Value):Cx (w.setCell ⟨b,1,none⟩ u) b a u c f p m :=
 ⟨by rw[row_set h.row,rowC_set_s],h.lc,h.lf,h.lp⟩
theorem Cx.far {q:Addr} (hq:b≠q.block) (u:Value):Cx (w.setCell q u) b a s c f p m :=
 ⟨(Below.heap_setCell w q u b hq).trans h.row,h.lc,h.lf,h.lp⟩
theorem Cx.keep (hb:w'.heap[b]? =w.heap[b]?):Cx w' b a s c f p m:=⟨hb.trans h.row,h.lc,h.lf,h.lp⟩
theorem Cx.drew:Cx w.drew b a s c f p m:=⟨h.row,h.lc,h.lf,h.lp⟩
theorem Cx.drewN (n:Nat):Cx (w.drewN n) b a s c f p m:=⟨h.row,h.lc,h.lf,h.lp⟩
end
def l16 (g:Nat->Nat):List Int:=(List.range 16).map fun k=>(g k:Int)
theorem length_l16 (g:Nat->Nat):(l16 g).length=16:=by simp[l16]
theorem l16_at (g:Nat->Nat) (k:Nat) (h:k<=15):(l16 g).getD k 0=(g k:Int):=by
 unfold l16;rw[List.getD_eq_getElem?_getD,List.getElem?_map,List.getElem?_range (by omega)];rfl
theorem l16_set (g:Nat->Nat) (k x:Nat):(l16 g).set k (x:Int)=l16 fun j=>if j=k then x else g j:=by
 apply List.ext_getElem?
 intro j;unfold l16;rw[List.getElem?_set,List.getElem?_map,List.getElem?_map,List.length_map,List.length_range];by_cases hj:j<16
 ·rw[List.getElem?_range hj]
  by_cases he:k=j
  ·subst he;simp[hj]
  ·rw[if_neg he];simp[Ne.symm he]
 ·rw[List.getElem?_eq_none (by simp;omega)]
  by_cases he:k=j
  ·subst he;simp[hj]
  ·rw[if_neg he];rfl
theorem l16_congr {g h:Nat->Nat} (e:∀k,k<=15->g k=h k):l16 g=l16 h:=by
 unfold l16;apply List.map_congr_left
 intro k hk;rw[List.mem_range] at hk;rw[e k (by omega)]
theorem cn_take_succ (l:List Int) (k n:Nat) (hk:k<l.length):cn (l.take (k+1)) n=cn (l.take k) n+if n≠0/\l[k]=(n:Int) then 1 else 0:=rk_succ l k n hk
end Cn
end Go.Proofs.YtjligbmickfbdaaGreat
namespace Go.Proofs.YtjligbmickfbdaaGreat
namespace Bw
open Go.RowKit
open Cn (vs length_vs vs_at vs_set)
def l256 (g:Nat->Nat):List Int:=(List.range 256).map fun k=>(g k:Int)
theorem length_l256 (g:Nat->Nat):(l256 g).length=256:=by simp[l256]
theorem l256_at (g:Nat->Nat) (k:Nat) (h:k<256):(l256 g).getD k 0=(g k:Int):=by
 unfold l256;rw[List.getD_eq_getElem?_getD,List.getElem?_map,List.getElem?_range (by omega)];rfl
theorem l256_set (g:Nat->Nat) (k x:Nat):(l256 g).set k (x:Int)=l256 fun j=>if j=k then x else g j:=by
 apply List.ext_getElem?
 intro j;unfold l256;rw[List.getElem?_set,List.getElem?_map,List.getElem?_map,List.length_map,List.length_range];by_cases hj:j<256
 ·rw[List.getElem?_range hj]
  by_cases he:k=j
  ·subst he;simp[hj]
  ·rw[if_neg he];simp[Ne.symm he]
 ·rw[List.getElem?_eq_none (by simp;omega)]
  by_cases he:k=j
  ·subst he;simp[hj]
  ·rw[if_neg he];rfl
theorem l256_congr {g h:Nat->Nat} (e:∀k,k<256->g k=h k):l256 g=l256 h:=by
 unfold l256;apply List.map_congr_left
 intro k hk;rw[List.mem_range] at hk;rw[e k hk]
theorem zeros256:Array.replicate 256 (Value.int .i64 0)=(vs (l256 fun _=>0)).toArray:=by
 have e:vs (l256 fun _=>0)=List.replicate 256 (Value.int .i64 0):=by
  unfold vs l256;simp only[List.map_const',List.length_range,List.map_replicate];rfl
 rw[e,List.toArray_replicate]
def Ar (w:World) (b:Nat) (l:List Int):Prop:=w.heap[b]? =some (.cells (vs l).toArray 200 (0,0))/\l.length=256
section
variable {w:World} {b:Nat} {l:List Int} (h:Ar w b l)
include h
theorem Ar.lt:b<w.heap.size:=(Array.getElem?_eq_some_iff.1 h.1).1
theorem Ar.cell (k:Nat) (hk:k<256):w.cell? ⟨b,k,none⟩=some (.int .i64 (l.getD k 0)):=by
 rw[cell_of_row w b k _ _ (0,0) h.1];simpa using vs_at l k (by rw[h.2];exact hk)
theorem Ar.fz (k:Nat):w.frozen? ⟨b,k,none⟩=false:=frozen_of_row w b k _ _ h.1
theorem Ar.set (k:Nat) (x:Int):Ar (w.setCell ⟨b,k,none⟩ (.int .i64 x)) b (l.set k x):=⟨by rw[Cn.row_set h.1,vs_set],by rw[List.length_set];exact h.2⟩
theorem Ar.range:w.rangeAt b 0 (vs l):=by
 intro j v hv;have hj:j<256:=by have:=(List.getElem?_eq_some_iff.1 hv).1;rwa [length_vs,h.2] at this
 rw[Nat.zero_add,h.cell j hj,<-hv,vs_at l j (by rw[h.2];exact hj)]
end
def cb (l:List UInt8) (b:Nat):Nat:=l.countP fun c=>decide (c.toNat=b)
theorem cb_take (l:List UInt8) (k b:Nat) (h:k<l.length):cb (l.take (k+1)) b=if b=l[k].toNat then cb (l.take k) b+1 else cb (l.take k) b:=by
 unfold cb;rw[List.take_add_one,List.getElem?_eq_getElem h,List.countP_append];by_cases he:b=l[k].toNat
 ·rw[if_pos he];simp[he]
 ·rw[if_neg he];simp[Ne.symm he]
theorem beg_zero (l:List UInt8):beg l 0=1:=by
 unfold beg;simp
theorem beg_step (l:List UInt8) (b:Nat):beg l (b+1)=beg l b+cb l b:=by
 unfold beg cb;have:l.countP (fun c=>decide (c.toNat<b+1))=l.countP (fun c=>decide (c.toNat<b))+l.countP (fun c=>decide (c.toNat=b)):=by
  induction l with
  |nil=>rfl
  |cons x r ih =>
   rw[List.countP_cons,List.countP_cons,List.countP_cons,ih];by_cases h1:x.toNat<b
   ·simp[h1,show x.toNat<b+1 by omega,show x.toNat≠b by omega];omega
   ·by_cases h2:x.toNat=b
    ·simp[h2];omega
    ·simp[h1,h2,show ¬ x.toNat<b+1 by omega]
 omega
theorem beg_le (l:List UInt8) (b:Nat):beg l b<=l.length+1:=by
 unfold beg;have:=List.countP_le_length (p:=fun c:UInt8=>decide (c.toNat<b)) (l:=l);omega
theorem cb_le (l:List UInt8) (b:Nat):cb l b<=l.length:=List.countP_le_length
theorem below_setCells {B b:Nat} {w0:World}:∀(vs:List Value) (o:Nat) (w:World),Below B w0 w->B<=b->Below B w0 (w.setCells b o vs)
 | [],_,_,h,_=>h
 |v::r,o,_,h,hb=>below_setCells r (o+1) _ (h.setCell (p:=⟨b,o,none⟩) hb v) hb
theorem index256 (V:List Value) (b:Nat) (v:Value) (w:World) (hb:b<256) (hv:V[b]? =some v) :
  (Instr.index 200 (.agg V.toArray) (.int .i64 (b:Int))).run Tryz.prog w=.ok v w:=by
 simp[Instr.index,asIntOf,run_underlying Tryz.underlying200,hb,hv,go_sem]
set_option maxHeartbeats 6400000 in
set_option maxRecDepth 100000 in
theorem starts_any (s:ByteArray) (w:World) (hs:s.size<=20000) :
  Calls Tryz.prog 143 #[.string s] w fun e w'=>e=.returned (.agg (vs (l256 (beg s.data.toList))).toArray)/\Below w.heap.size w w':=by
 have mixed:Tryz.prog.follows .mixedOrders=true:=by kernel_rfl
 have hz:(Tryz.prog.info? 200).map (fun i=>(i.zero,i.size))=some (some (.agg (Array.replicate 256 (.int .i64 0))),256):=by kernel_rfl
 have HZ:=Lib.hid hz;clear hz
 go_enter Tryz.func143, Tryz.ntmps143
 go_wp2_with (refine wpList_alloc_zero rfl 200 rfl _ _ HZ.out ?_)
 rw[zeros256];have h1:Ar ((w.alloc (.cells (vs (l256 fun _=>0)).toArray 200)).alloc (.cells (vs (l256 fun _=>0)).toArray 200)) w.heap.size (l256 fun _=>0) :=
  ⟨(Below.heap_alloc _ _ _ (by simp)).trans (heap_alloc_new w _),length_l256 _⟩
 have h2:Ar ((w.alloc (.cells (vs (l256 fun _=>0)).toArray 200)).alloc (.cells (vs (l256 fun _=>0)).toArray 200)) (w.heap.size+1) (l256 (cb (s.data.toList.take 0))):=by
  have:=heap_alloc_new (w.alloc (.cells (vs (l256 fun _=>0)).toArray 200)) (.cells (vs (l256 fun _=>0)).toArray 200);rw[show(w.alloc (.cells (vs (l256 fun _=>0)).toArray 200)).heap.size=w.heap.size+1 by simp] at this;exact⟨this,length_l256 _⟩
 have h3:Below w.heap.size w ((w.alloc (.cells (vs (l256 fun _=>0)).toArray 200)).alloc (.cells (vs (l256 fun _=>0)).toArray 200)):=((Below.refl _ _).alloc (Nat.le_refl _) _).alloc (by simp) _;have H0:Aside _:=And.intro h1 (And.intro h2 h3);clear h1 h2 h3;generalize (w.alloc (.cells (vs (l256 fun _=>0)).toArray 200)).alloc (.cells (vs (l256 fun _=>0)).toArray 200)=w1 at *
 obtain⟨g0,hg0⟩:∃g0,g0=w.heap.size:=⟨_,rfl⟩
 obtain⟨g1,hg1⟩:∃g1,g1=w.heap.size+1:=⟨_,rfl⟩
 rw[<-hg1,<-hg0] at H0;rw[<-hg1,<-hg0];have HG:=Lib.hid (And.intro hg0 hg1);clear hg0 hg1;go_loopg [4] s.size (fun kx s4 wr=>∃(k:Nat),s4=.int .i64 (k:Int)/\k<=s.size/\s.size-k<=kx/\Aside (Ar wr g0 (l256 fun _=>0)/\Ar wr g1 (l256 (cb (s.data.toList.take k)))/\Below g0 w wr))
 case atStart=>exact⟨0,rfl,by omega,by omega,H0.out⟩
 case round =>
  clear H0;obtain⟨k,rfl,hk,hkx,H⟩:=hrel;by_cases hlt:k<s.size
  ·have hc:=H.out.2.1.cell s[k].toNat s[k].toNat_lt
   rw[l256_at _ _ s[k].toNat_lt] at hc;have hf:=H.out.2.1.fz s[k].toNat;have hcl:=cb_le (s.data.toList.take k) s[k].toNat;rw[List.length_take] at hcl;have hset:=H.out.2.1.set s[k].toNat ((cb (s.data.toList.take k) s[k].toNat+1:Nat):Int);rw[l256_set] at hset;have e1:(l256 fun j=>if j=s[k].toNat then cb (s.data.toList.take k) s[k].toNat+1 else cb (s.data.toList.take k) j)=l256 (cb (s.data.toList.take (k+1))):=l256_congr fun j _=>by
    rw[cb_take s.data.toList k j (show k<s.data.toList.length from hlt)];show _=if j=s[k].toNat then _ else _
    by_cases he:j=s[k].toNat
    ·rw[if_pos he,if_pos he,he]
    ·rw[if_neg he,if_neg he]
   rw[e1] at hset;have hne:g0≠g1:=by have:=HG.out;omega
   have ha:Ar (wr.setCell ⟨g1,s[k].toNat,none⟩ (.int .i64 ((cb (s.data.toList.take k) s[k].toNat+1:Nat):Int))) g0 (l256 fun _=>0):=⟨(Below.heap_setCell wr ⟨g1,_,none⟩ _ g0 hne).trans H.out.1.1,length_l256 _⟩
   have hb:=H.out.2.2.setCell (p:=⟨g1,s[k].toNat,none⟩) (show g0<=g1 by have:=HG.out;omega) (.int .i64 ((cb (s.data.toList.take k) s[k].toNat+1:Nat):Int));have HX:Aside _:=And.intro ha (And.intro hset hb);have hv0:cb (s.data.toList.take k) s[k].toNat<=20000:=by omega
   generalize cb (s.data.toList.take k) s[k].toNat=v0 at *
   have hlt256:=s[k].toNat_lt;have hi256:((s[k].toNat:Nat):Int)<256:=by omega
   clear e1 hset ha hb hcl H;go_wp2_with fail
   go_roundg (s.size-(k+1))
   case measure=>omega
   case rel=>exact⟨k+1,by go_num,by omega,by omega,HX.out⟩
  ·have e1:s.data.toList.take k=s.data.toList:=List.take_of_length_le (by show s.size<=k;omega)
   have h9:=H.out;rw[e1] at h9;have H1:Aside _:=h9;have hrg:=h9.2.1.range;have HRG:=Lib.hid hrg;clear h9 e1 H hrg;go_wp2_with (refine wpList_load_mid rfl 200 (.tmp 3) rfl g1 0 (by simp[go_sem,Act.eval]) (vs (l256 (cb s.data.toList))) _ HRG.out Tryz.underlying200 rfl (by rw[length_vs,length_l256];kernel_rfl) ?_)
   obtain⟨V,hV⟩:∃V,V=vs (l256 (cb s.data.toList)):=⟨_,rfl⟩
   rw[<-hV];have HV:=Lib.hid hV;have hVl:V.length=256:=by rw[hV,length_vs,length_l256]
   clear hV;have h2:Ar wr g1 (l256 fun j=>if j<0 then beg s.data.toList j else cb s.data.toList j):=by
    have e:(l256 fun j=>if j<0 then beg s.data.toList j else cb s.data.toList j)=l256 (cb s.data.toList):=l256_congr fun j _=>if_neg (by omega)
    rw[e];exact H1.out.2.1
   have H2:Aside _:=And.intro H1.out.1 (And.intro h2 H1.out.2.2);clear h2 H1;go_loopg [5,22] 256 (fun kx s5 s22 wx=>∃(b:Nat),s22=.int .i64 (b:Int)/\s5=.int .i64 (beg s.data.toList b:Int)/\b<=256/\256-b<=kx /\
    Aside (Ar wx g0 (l256 fun _=>0)/\Ar wx g1 (l256 fun j=>if j<b then beg s.data.toList j else cb s.data.toList j)/\Below g0 w wx))
   case atStart=>exact⟨0,rfl,by rw[beg_zero];rfl,by omega,by omega,H2.out⟩
   case round =>
    clear H2;obtain⟨b,rfl,rfl,hb,hbx,H⟩:=hrel;by_cases hlt2:b<256
    ·have hVb:V[b]? =some (.int .i64 (cb s.data.toList b:Int)):=by rw[HV.out,vs_at _ _ (by rw[length_l256];exact hlt2),l256_at _ _ hlt2]
     have hidx:=fun w=>index256 V b _ w hlt2 hVb
     have hc:=H.out.2.1.cell b hlt2;have hf:=H.out.2.1.fz b;have hbeg:=beg_le s.data.toList b;have hcb:=cb_le s.data.toList b;have hbs:=beg_step s.data.toList b;have hset:=H.out.2.1.set b ((beg s.data.toList b:Nat):Int);rw[l256_set] at hset;have e1:(l256 fun j=>if j=b then beg s.data.toList b else if j<b then beg s.data.toList j else cb s.data.toList j)=l256 fun j=>if j<b+1 then beg s.data.toList j else cb s.data.toList j:=l256_congr fun j _=>by
      by_cases he:j=b
      ·subst he;rw[if_pos rfl,if_pos (by omega)]
      ·rw[if_neg he]
       by_cases h3:j<b
       ·rw[if_pos h3,if_pos (by omega)]
       ·rw[if_neg h3,if_neg (by omega)]
     rw[e1] at hset;have hne:g0≠g1:=by have:=HG.out;omega
     have ha:Ar (wr.setCell ⟨g1,b,none⟩ (.int .i64 (beg s.data.toList b:Int))) g0 (l256 fun _=>0):=⟨(Below.heap_setCell wr ⟨g1,_,none⟩ _ g0 hne).trans H.out.1.1,length_l256 _⟩
     have hbb:=H.out.2.2.setCell (p:=⟨g1,b,none⟩) (show g0<=g1 by have:=HG.out;omega) (.int .i64 (beg s.data.toList b:Int));have HX:Aside _:=And.intro ha (And.intro hset hbb);have HBS:=Lib.hid hbs;have hsz:s.data.toList.length=s.size:=rfl;rw[hsz] at hbeg hcb;clear e1 hset ha hbb hVb hbs H hsz;go_wp2_with fail
     go_roundg (256-(b+1))
     case measure=>omega
     case rel=>exact⟨b+1,by go_num,by rw[HBS.out];go_num,by omega,by omega,HX.out⟩
    ·obtain rfl:b=256:=by omega
     have e1:(l256 fun j=>if j<256 then beg s.data.toList j else cb s.data.toList j)=l256 (beg s.data.toList):=l256_congr fun j hj=>if_pos hj
     have h9:=H.out;rw[e1] at h9;have hrg:=h9.2.1.range;have HRG2:=Lib.hid hrg;obtain⟨Z,hZ⟩:∃Z,Z=vs (l256 (beg s.data.toList)):=⟨_,rfl⟩
     have hZl:Z.length=256:=by rw[hZ,length_vs,length_l256]
     have hth:wr.there g0 0 Z.toArray.size:=by
      intro j hj;have hj':j<256:=by rw[List.size_toArray,hZl] at hj;exact hj
      rw[Nat.zero_add];exact⟨by rw[h9.1.cell j hj'];rfl,h9.1.fz j⟩
     have h1c:Z.toArray.all (·.oneCell')=true:=all_oneCell_toArray (by rw[hZ];intro v hv;obtain⟨_,_,rfl⟩:=List.mem_map.1 hv;rfl);have hrs:(wr.setCells g0 0 Z).rangeAt g0 0 Z:=World.rangeAt_setCells_same wr g0 0 Z (by intro j hj;exact hth j (by simpa using hj));have hbs:Below g0 w (wr.setCells g0 0 Z):=below_setCells Z 0 wr h9.2.2 (Nat.le_refl _);have hgz:=h9.1.1;have HTH:=Lib.hid hth;have H1C:=Lib.hid h1c;have HZL:=Lib.hid hZl;have hszZ:Z.toArray.size=256:=by rw[List.size_toArray,hZl]
     have HSZ:=Lib.hid hszZ;have HRS:=Lib.hid hrs;have HBS:=Lib.hid hbs;have HZ:=Lib.hid hZ;rw[<-hZ] at HRG2;clear h9 e1 H hrg hth h1c hZl hrs hbs hszZ hgz hZ;go_wp2_with (first|(refine wpList_load_mid rfl 200 (.tmp 3) rfl g1 0 (by simp[go_sem,Act.eval]) Z _ HRG2.out Tryz.underlying200 rfl (by rw[HZL.out];kernel_rfl) ?_)|(refine wpList_store_mid rfl 200 (.tmp 2) (.tmp 33) rfl g0 0 Z.toArray (by simp[go_sem,Act.eval]) (by simp[go_sem,Act.eval]) HTH.out (by rw[HSZ.out];kernel_rfl) H1C.out ?_))
     refine bodyPost_ret (v:=.agg Z.toArray) ?_ rfl ?_
     ·have hl:=run_loadVar_mid (P:=Tryz.prog) (wr.setCells g0 0 Z) g0 0 200 Z _ HRS.out Tryz.underlying200 rfl (by rw[HZL.out];kernel_rfl)
      exact results_cell (a:=2) (t:=200) (ad:=⟨g0,0,none⟩) (by rfl) (by simp[Act.put]) hl
     ·exact⟨by rw[HZ.out],HBS.out.mono (by have:=HG.out;omega)⟩
end Bw
end Go.Proofs.YtjligbmickfbdaaGreat
