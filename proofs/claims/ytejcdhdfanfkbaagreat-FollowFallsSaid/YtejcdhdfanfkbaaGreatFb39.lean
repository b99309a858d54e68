/- frame: frames, Scan. scan.Tail, where a header stands alone. frame.Get of what frame.Put wrote. -/
import Derived.Test.YtejcdhdfanfkbaaGreatFb38
import Derived.Test.YtejcdhdfanfkbaaGreatFb22
import Derived.Test.YtejcdhdfanfkbaaGreatFb27
import Derived.Deep.LoopGhost
namespace Go.Proofs.YtejcdhdfanfkbaaGreat
namespace Fm
open Go.RowKit Go.Shelf Cr Rg
theorem frames_any (s:ByteArray) (p:Nat) (w:World) :
  Calls Tryz.prog 223 #[.string s,.int .i64 (p:Int)] w fun e w'=>e=.returned (.func (.func 269) #[] #[.pointer (some ⟨w.heap.size,0,none⟩),.pointer (some ⟨w.heap.size+1,0,none⟩)]) /\
   w'=(w.alloc (.cells #[.string s] 9)).alloc (.cells #[.int .i64 (p:Int)] 3):=by
 go_enter Tryz.func223, Tryz.ntmps223
 go_wp2_with fail
 go_ret
 exact⟨rfl,rfl⟩
def clF (x:Fr):List Value:=[.int .i64 (x.1:Int),.string x.2.1,.int .i64 (x.2.2.1:Int),.int .i64 (x.2.2.2:Int)]
def flF (l:List Fr):List Value:=l.flatMap clF
def OwnFr (w:World) (B:Nat) (v:Value) (l:List Fr):Prop:=w.ownsRow B 139 4 v l.length (flF l)
def lastTo (p:Nat) (l:List Fr):Nat:=match l.getLast? with|none=>p|some x=>x.2.2.2
theorem One.new {w:World} {g:Nat} (v:Value) (t:TypeId) (hg:w.heap.size=g):One (w.alloc (.cells #[v] t)) g v t:=hg▸heap_alloc_new w _
theorem One.alloc {w:World} {g:Nat} {v:Value} {t:TypeId} (h:One w g v t) (o:Obj):One (w.alloc o) g v t:=(Below.heap_alloc w o g h.lt).trans h
theorem One.grown {w w':World} {g:Nat} {v:Value} {t:TypeId} {row:Option Nat} (h:One w g v t) (hg:w.grownBy w' row) (hr:row≠some g):One w' g v t:=(hg.block g h.lt (fun e=>hr e.symm)).trans h
theorem Fb.grown {w w':World} {g:Nat} {k p t:Int} {b:ByteArray} {row:Option Nat} (h:Fb w g k b p t) (hg:w.grownBy w' row) (hr:row≠some g):Fb w' g k b p t:=(hg.block g h.lt (fun e=>hr e.symm)).trans h
theorem own_grown {w w':World} {base:Nat} {e:TypeId} {size n:Nat} {v:Value} {xs:List Value} {row:Option Nat} (h:w.ownsRow base e size v n xs) (hg:w.grownBy w' row)
  (hr:∀r,row=some r->r<base∨ ∃o:Obj,w.heap[r]? =some o/\o.isCells=false):w'.ownsRow base e size v n xs:=by
 refine⟨h.1,?_⟩;rcases h.2 with h2|⟨g,cap,cur,hv,hb,hh,r⟩
 ·exact Or.inl h2
 ·refine Or.inr ⟨g,cap,cur,hv,hb,?_,r⟩
  rw[hg.block g (Array.getElem?_eq_some_iff.1 hh).1 ?_]
  ·exact hh
  ·intro he
   rcases hr g he.symm with h1|⟨o,ho,hc⟩
   ·omega
   ·rw[hh] at ho;cases ho;cases hc
theorem row_one {w:World} {g r:Nat} {v:Value} {t:TypeId} {B b:Nat} (h:One w g v t) (hgb:g≠b) (hr:r=b∨B<=r/\ ∃o:Obj,w.heap[r]? =some o/\o.isCells=false):some r≠some g:=by
 rintro e;cases e
 rcases hr with rfl|⟨_,o,ho,hc⟩
 ·exact hgb rfl
 ·rw[h] at ho;cases ho;cases hc
theorem row_fb {w:World} {g r:Nat} {k p t:Int} {by_:ByteArray} {B b:Nat} (h:Fb w g k by_ p t) (hgb:g≠b) (hr:r=b∨B<=r/\ ∃o:Obj,w.heap[r]? =some o/\o.isCells=false):some r≠some g:=by
 rintro e;cases e
 rcases hr with rfl|⟨_,o,ho,hc⟩
 ·exact hgb rfl
 ·rw[h] at ho;cases ho;cases hc
theorem Ks.alloc (S:Nat->Prop) (W:World) (o:Obj):Ks S W (W.alloc o):=⟨by simp,fun k p hk _ _=>(Below.heap_alloc W o k (Array.getElem?_eq_some_iff.1 hk).1).trans hk⟩
theorem fr_info:(Tryz.prog.info? 139).map (fun i=>(i.zero,i.size,i.bytes))=some (some (.agg #[.int .i64 0,.string ⟨#[]⟩,.int .i64 0,.int .i64 0]),4,40):=by kernel_rfl
theorem frs_len (s:ByteArray) (p:Nat) (hs:s.size<=1000000):(frs s p).length<=1000000:=by
 have h:∀(m p:Nat),s.size-p<=m->(frs s p).length<=m:=by
  intro m
  induction m with
  |zero =>
   intro p hp;rw[frs_no (fun h=>by have:=GF_to h;omega)];simp
  |succ m ih =>
   intro p hp;by_cases h:GF s p
   ·have:=GF_to h
    rw[frs_yes h,List.length_cons];have:=ih (fto s p) (by omega);omega
   ·rw[frs_no h];simp
 have:=h (s.size-p) p (Nat.le_refl _);omega
theorem frs_pre {l pre:List Fr} {x:Fr} {rest:List Fr} (h:l=pre++x::rest):pre.length<=l.length:=by rw[h,List.length_append];omega
def IS (w:World) (b3 b6 B p:Nat) (pre:List Fr) (v:Value) (W:World):Prop :=
 (One W b6 v 270/\OwnFr W B v pre)/\One W b3 (.int .i64 ((lastTo p pre:Nat):Int)) 3/\Below w.heap.size w W/\B<=W.heap.size
theorem IS.grown {w:World} {b3 b6 B p b:Nat} {pre:List Fr} {v:Value} {W W':World} {row:Option Nat} (h:IS w b3 b6 B p pre v W) (hb3:b3≠b) (hb6:b6≠b) (hbB:b<B) (hwb:w.heap.size<=b)
  (hg:W.grownBy W' row) (hr:∀r,row=some r->r=b∨B<=r/\ ∃o:Obj,W.heap[r]? =some o/\o.isCells=false):IS w b3 b6 B p pre v W':=by
 obtain⟨⟨h1,h2⟩,h3,h4,h5⟩:=h;have q:∀{g:Nat} {v:Value} {t:TypeId},One W g v t->g≠b->row≠some g:=fun ho hn e=>by
  subst e;exact row_one ho hn (hr _ rfl) rfl
 refine⟨⟨h1.grown hg (q h1 hb6),own_grown h2 hg (fun r e=>?_)⟩,h3.grown hg (q h3 hb3),h4.trans ⟨hg.os,hg.tape,hg.output,hg.size,fun k hk=>hg.block k (Nat.lt_of_lt_of_le hk h4.size) (fun e=>?_)⟩,Nat.le_trans h5 hg.size⟩
 ·rcases hr r e with rfl|⟨_,h⟩
  ·exact .inl hbB
  ·exact .inr h
 ·have:=h4.size
  have:=hr k e.symm;omega
def SS (b3 b6:Nat) (v:Value) (S:Nat->Prop) (W:World):Prop:=∀k,S k->v.ownBlock≠some k/\k≠b3/\k≠b6/\k<W.heap.size
theorem SS.grown {w:World} {b3 b6 B p:Nat} {pre:List Fr} {v:Value} {S S':Nat->Prop} {W W':World} (hi:IS w b3 b6 B p pre v W) (h:SS b3 b6 v S W) (hs:W.heap.size<=W'.heap.size) (hS:∀k,S' k->S k∨W.heap.size<=k/\k<W'.heap.size):SS b3 b6 v S' W':=by
 intro k hk;rcases hS k hk with h1|⟨h1,h2⟩
 ·obtain⟨a,b,c,d⟩:=h k h1
  exact⟨a,b,c,Nat.lt_of_lt_of_le d hs⟩
 ·have l6:=hi.1.1.lt
  have l3:=hi.2.1.lt;exact⟨fun e=>by have:=World.ownsRow.lt hi.1.2 k e;omega,by omega,by omega,h2⟩
theorem own_cells {w:World} {base:Nat} {e:TypeId} {size n:Nat} {v:Value} {xs:List Value} {g:Nat} (h:w.ownsRow base e size v n xs) (hv:v.ownBlock=some g):∃o:Obj,w.heap[g]? =some o/\o.isCells=true:=by
 rcases h.2 with ⟨h2,_⟩|⟨g',cap,cur,h2,hb,hh,r⟩
 ·rw[h2] at hv;cases hv
 ·rw[h2] at hv;cases hv;exact⟨_,hh,rfl⟩
theorem flF_snoc (l:List Fr) (x:Fr):flF (l++[x])=flF l++clF x:=by unfold flF;rw[List.flatMap_append];simp
theorem lastTo_snoc (p:Nat) (l:List Fr) (x:Fr):lastTo p (l++[x])=x.2.2.2:=by unfold lastTo;rw[List.getLast?_append];rfl
attribute [local go_sem] Oper.semAt_some
attribute [-go_sem] Builtin.append_
set_option maxHeartbeats 6400000 in
set_option maxRecDepth 100000 in
theorem scan_any (s:ByteArray) (p:Nat) (w:World) (hs:s.size<=1000000) (hp:p<=1000000) :
  Calls Tryz.prog 171 #[.string s,.int .i64 (p:Int)] w fun e w'=>(∃v,e=.returned (.tuple #[v,.int .i64 ((lastTo p (frs s p):Nat):Int)])/\OwnFr w' w.heap.size v (frs s p))/\Below w.heap.size w w':=by
 have mixed:Tryz.prog.follows .mixedOrders=true:=by kernel_rfl
 refine(callsIn_wide (n:=3)).1 ?_;refine callsIn_of_wp_marks Tryz.func171 rfl trivial ?_ rfl;simp only[Tryz.ntmps171,List.size_toArray,List.length_cons,List.length_nil,Nat.reduceAdd,Nat.reduceSub,Array.replicate_succ,Array.replicate_zero,List.push_toArray,List.append_toArray,List.nil_append,List.cons_append]
 gi_wp2_with fail
 refine⟨trivial,(callsIn_wide.2 (frames_any s p _)).mono ?_⟩;rintro e1 w1 ⟨rfl,rfl⟩
 gi_wp2_with fail
 have HW0:=Lib.hid (show((((w.alloc (.cells #[.int .i64 (p:Int)] 3)).alloc (.cells #[.slice none 0 0] 270)).alloc (.cells #[.string s] 9)).alloc (.cells #[.int .i64 (p:Int)] 3)).heap.size=w.heap.size+1+1+1+1 by simp);have C3:=Lib.hid ((((One.new (w:=w) (.int .i64 (p:Int)) 3 rfl).alloc (.cells #[.slice none 0 0] 270)).alloc (.cells #[.string s] 9)).alloc (.cells #[.int .i64 (p:Int)] 3));have C6:=Lib.hid (((One.new (w:=w.alloc (.cells #[.int .i64 (p:Int)] 3)) (g:=w.heap.size+1) (.slice none 0 0) 270 (by simp)).alloc (.cells #[.string s] 9)).alloc (.cells #[.int .i64 (p:Int)] 3));have CS:=Lib.hid ((One.new (w:=(w.alloc (.cells #[.int .i64 (p:Int)] 3)).alloc (.cells #[.slice none 0 0] 270)) (g:=w.heap.size+1+1) (.string s) 9 (by simp)).alloc (.cells #[.int .i64 (p:Int)] 3));have CA:=Lib.hid (One.new (w:=((w.alloc (.cells #[.int .i64 (p:Int)] 3)).alloc (.cells #[.slice none 0 0] 270)).alloc (.cells #[.string s] 9)) (g:=w.heap.size+1+1+1) (.int .i64 (p:Int)) 3 (by simp));have HB:=Lib.hid ((((ext_alloc w (.cells #[.int .i64 (p:Int)] 3)).trans ((ext_alloc _ (.cells #[.slice none 0 0] 270)).mono (by simp))).trans ((ext_alloc _ (.cells #[.string s] 9)).mono (by simp;omega))).trans ((ext_alloc _ (.cells #[.int .i64 (p:Int)] 3)).mono (by simp;omega)));generalize (((w.alloc (.cells #[.int .i64 (p:Int)] 3)).alloc (.cells #[.slice none 0 0] 270)).alloc (.cells #[.string s] 9)).alloc (.cells #[.int .i64 (p:Int)] 3)=W0 at *
 refine wpIn_range_own rfl (by omega) (gf:=269) (lb:=#[.pointer (some ⟨w.heap.size+1+1,0,none⟩),.pointer (some ⟨w.heap.size+1+1+1,0,none⟩)]) rfl trivial (enters_of Tryz.func269 (by kernel_rfl) rfl)
  (enc:=fv) (R:=fun k=>k=w.heap.size+1+1∨k=w.heap.size+1+1+1) (b:=w.heap.size+1+1+1) (xs:=frs s p) (by rw[HW0.out];omega)
  (frames1_gives _ _ _ s p W0 hs hp CS.out CA.out (by omega))
  (fun pre S W=>∃v,IS w w.heap.size (w.heap.size+1) W0.heap.size p pre v W/\SS w.heap.size (w.heap.size+1) v S W)
  (fun pre S S' W W' row ⟨v,h,h'⟩ hg hr hS=>⟨v,h.grown (by omega) (by omega) (by rw[HW0.out];omega) (by omega) hg hr,h'.grown h hg.size hS⟩)
  ⟨_,⟨⟨C6.out,World.ownsRow_nil _ _ _ _⟩,C3.out,HB.out,Nat.le_refl _⟩,fun k hk=>⟨by simp[Value.ownBlock],by omega,by omega,by rw[HW0.out];omega⟩⟩
  (fun pre x S a' W=>∃g v,W0.heap.size<=g/\v.ownBlock≠some g/\a'={ tmps:=#[.string s,.int .i64 (p:Int),undef,.pointer (some ⟨w.heap.size,0,none⟩),.slice none 0 0,.int .i64 0,.pointer (some ⟨w.heap.size+1,0,none⟩),.pointer (some ⟨g,0,none⟩),.string s,.int .i64 (p:Int),
   .func (.func 269) #[] #[.pointer (some ⟨w.heap.size+1+1,0,none⟩),.pointer (some ⟨w.heap.size+1+1+1,0,none⟩)],fv x,undef,undef,undef,undef,undef,undef,undef,undef],defers:=[] }/\Fb W g x.1 x.2.1 x.2.2.1 x.2.2.2/\IS w w.heap.size (w.heap.size+1) W0.heap.size p pre v W/\SS w.heap.size (w.heap.size+1) v S W)
  ?hax ?assign ?body ?done
 case hax =>
  rintro pre x S a' W W' row ⟨g,v,hg,hv,rfl,hf,hi,hss⟩ hgr hr;exact⟨g,v,hg,hv,rfl,hf.grown hgr (by intro e;subst e;exact row_fb hf (by rw[HW0.out] at hg;omega) (hr _ rfl) rfl),hi.grown (by omega) (by omega) (by rw[HW0.out];omega) (by omega) hgr hr,hss.grown hi hgr.size (fun _ h=>.inl h)⟩
 case assign =>
  rintro l pre ⟨k,b,q,t⟩ rest S W hxs ⟨v,hi,hss⟩;unfold fv fagg;dsimp only
  gi_wp2_with fail
  exact⟨KeepsOthers.alloc _ _,Ks.alloc _ _ _,W.heap.size,v,hi.2.2.2,(fun e=>by have:=World.ownsRow.lt hi.1.2 _ e;omega),rfl,heap_alloc_new W _,hi.grown (b:=w.heap.size+1+1+1) (by omega) (by omega) (by rw[HW0.out];omega) (by omega) (World.grownBy_alloc W _ none) (by intro r e;cases e),hss.grown hi (by simp) (fun _ h=>.inl h)⟩
 case body =>
  rintro l pre ⟨k,b,q,t⟩ rest S a' W hxs ⟨g,v,hg,hvg,rfl,hf,⟨⟨h1,h2⟩,h3,h4,h5⟩,hss⟩;have hc1:=h1.cell;have hc3:=h3.cell;have hf1:=h1.fz;have hf3:=h3.fz;have d0:=hf.c0;have d1:=hf.c1;have d2:=hf.c2;have d3:=hf.c3;have hpl:pre.length<=1000000:=Nat.le_trans (frs_pre hxs) (frs_len s p hs);obtain⟨i0,hi,hz0,hz1,hz2⟩:=info_parts fr_info;have hX:(W.alloc (.cells #[.int .i64 (k:Int),.string b,.int .i64 (q:Int),.int .i64 (t:Int)] 139)).drew.heap.size=W.heap.size+1:=by simp
  have hgw:W.grownBy (W.alloc (.cells #[.int .i64 (k:Int),.string b,.int .i64 (q:Int),.int .i64 (t:Int)] 139)).drew none:=have h:=World.grownBy_alloc W (.cells #[.int .i64 (k:Int),.string b,.int .i64 (q:Int),.int .i64 (t:Int)] 139) none;⟨h.os,h.tape,h.output,h.size,h.block⟩;obtain⟨v',w',hr,o',hg',-,hob⟩:=run_append_own_at (P:=Tryz.prog) (w:=(W.alloc (.cells #[.int .i64 (k:Int),.string b,.int .i64 (q:Int),.int .i64 (t:Int)] 139)).drew) W0.heap.size 270 270 139 i0 (.agg #[.int .i64 0,.string ⟨#[]⟩,.int .i64 0,.int .i64 0]) 4 40 Tryz.underlying270 hi hz0 hz1 hz2 rfl (by omega) v pre.length (flF pre) (own_grown h2 hgw (by intro r e;cases e))
   ⟨W.heap.size,0,none⟩ 1 1 (clF (k,b,q,t)) rfl (by
    intro j u hu;have hnew:(W.alloc (.cells #[.int .i64 (k:Int),.string b,.int .i64 (q:Int),.int .i64 (t:Int)] 139)).drew.heap[W.heap.size]? =some _:=heap_alloc_new W (.cells #[.int .i64 (k:Int),.string b,.int .i64 (q:Int),.int .i64 (t:Int)] 139);have hj:j<4:=(List.getElem?_eq_some_iff.1 hu).1;rcases j with _|_|_|_|j
    ·simp[clF] at hu;subst hu;exact Fb.c0 hnew
    ·simp[clF] at hu;subst hu;exact Fb.c1 hnew
    ·simp[clF] at hu;subst hu;exact Fb.c2 hnew
    ·simp[clF] at hu;subst hu;exact Fb.c3 hnew
    ·omega) (by intro u hu;simp[clF] at hu;rcases hu with rfl|rfl|rfl|rfl<;>rfl) (by simp only[maxLen];omega) (by omega) (by rw[hX];omega)
  obtain⟨g',cap',rfl⟩:=ownsRow_succ o';have hlv:=World.ownsRow.lt h2;have nb:∀{x:Nat},x<W0.heap.size->v.ownBlock≠some x:=fun hx e=>by have:=hlv _ e;omega
  have n6:v.ownBlock≠some (w.heap.size+1):=nb (by rw[HW0.out];omega);have n3:v.ownBlock≠some w.heap.size:=nb (by rw[HW0.out];omega);have X1:=(h1.grown hgw (by simp)).grown hg' n6;have X3:=(h3.grown hgw (by simp)).grown hg' n3;have XF:=(hf.grown hgw (by simp)).grown hg' hvg;have x1:=X1.cell;have x3:=X3.cell;have y1:=X1.fz;have y3:=X3.fz;have z3:=XF.c3;have hgl:=hf.lt;have h6l:=h1.lt;have h3l:=h3.lt;have bX:Below W.heap.size W (W.alloc (.cells #[.int .i64 (k:Int),.string b,.int .i64 (q:Int),.int .i64 (t:Int)] 139)).drew:=⟨hgw.os,hgw.tape,hgw.output,hgw.size,fun k hk=>hgw.block k hk (by simp)⟩
  have b2:Below W0.heap.size (W.alloc (.cells #[.int .i64 (k:Int),.string b,.int .i64 (q:Int),.int .i64 (t:Int)] 139)).drew w':=(Below.refl _ _).grown hg' (by rw[hX];omega) (fun k hk=>(hlv k hk).1);have hw0:w.heap.size<=W0.heap.size:=by rw[HW0.out];omega
  have b3:Below w.heap.size w w':=(h4.trans (bX.mono h4.size)).trans (b2.mono hw0);have b4:Below w.heap.size w ((w'.setCell ⟨w.heap.size+1,0,none⟩ (.slice (some ⟨g',0,none⟩) (pre.length+1) cap')).setCell ⟨w.heap.size,0,none⟩ (.int .i64 (t:Int))):=(b3.setCell (p:=⟨w.heap.size+1,0,none⟩) (Nat.le_succ _) _).setCell (p:=⟨w.heap.size,0,none⟩) (Nat.le_refl _) _;have ho2:=World.ownsRow.lt o';have hsz:W.heap.size<=w'.heap.size:=Nat.le_trans bX.size b2.size;have kO:KeepsOthers W w':=⟨hsz,fun i o hi ho=>by
   have hl:=(Array.getElem?_eq_some_iff.1 hi).1;rw[hg'.block i (by rw[hX];omega) (fun e=>by obtain⟨o2,h1,h2⟩:=own_cells h2 e.symm;rw[hi] at h1;cases h1;rw[ho] at h2;cases h2),hgw.block i hl (by simp)];exact hi⟩
  have kS:Ks S W ((w'.setCell ⟨w.heap.size+1,0,none⟩ (.slice (some ⟨g',0,none⟩) (pre.length+1) cap')).setCell ⟨w.heap.size,0,none⟩ (.int .i64 (t:Int))):=⟨by simp;exact hsz,fun i o hi ho hS=>by
   have hl:=(Array.getElem?_eq_some_iff.1 hi).1;obtain⟨s1,s2,s3,s4⟩:=hss i hS;rw[Below.heap_setCell _ ⟨w.heap.size,0,none⟩ _ i s2,Below.heap_setCell _ ⟨w.heap.size+1,0,none⟩ _ i s3,hg'.block i (by rw[hX];omega) (fun e=>s1 e.symm),hgw.block i hl (by simp)];exact hi⟩
  have HFIN:=Lib.hid (show KeepsOthers W ((w'.setCell ⟨w.heap.size+1,0,none⟩ (.slice (some ⟨g',0,none⟩) (pre.length+1) cap')).setCell ⟨w.heap.size,0,none⟩ (.int .i64 (t:Int)))/\Ks S W ((w'.setCell ⟨w.heap.size+1,0,none⟩ (.slice (some ⟨g',0,none⟩) (pre.length+1) cap')).setCell ⟨w.heap.size,0,none⟩ (.int .i64 (t:Int)))/\ ∃v,IS w w.heap.size (w.heap.size+1) W0.heap.size p (pre++[(k,b,q,t)]) v ((w'.setCell ⟨w.heap.size+1,0,none⟩ (.slice (some ⟨g',0,none⟩) (pre.length+1) cap')).setCell ⟨w.heap.size,0,none⟩ (.int .i64 (t:Int)))/\SS w.heap.size (w.heap.size+1) v S ((w'.setCell ⟨w.heap.size+1,0,none⟩ (.slice (some ⟨g',0,none⟩) (pre.length+1) cap')).setCell ⟨w.heap.size,0,none⟩ (.int .i64 (t:Int))) from
   ⟨(kO.trans (KeepsOthers.setCell _ _ _)).trans (KeepsOthers.setCell _ _ _),kS,.slice (some ⟨g',0,none⟩) (pre.length+1) cap',
     ⟨⟨(X1.set _).far (j:=0) (by omega) _,by
       unfold OwnFr;rw[flF_snoc,List.length_append];exact own_setCell_far (own_setCell_far o' (fun e=>by have h8:=(ho2 _ e).1;have h9:=HW0.out;dsimp only at h8;omega) _) (fun e=>by have h8:=(ho2 _ e).1;have h9:=HW0.out;dsimp only at h8;omega) _⟩,
      by rw[lastTo_snoc];exact(X3.far (j:=0) (by omega) _).set _,b4,by simp;omega⟩,
     fun i hi=>by
      obtain⟨s1,s2,s3,s4⟩:=hss i hi;refine⟨fun e=>?_,s2,s3,by simp;omega⟩;rcases hob with h|h
      ·exact s1 (h▸e)
      ·rw[h,hX] at e;cases e;omega⟩)
  clear o' hg' hob X1 X3 XF bX b2 b3 b4 kO kS;dsimp only at d0 d1 d2 d3 z3
  gi_wp2_with fail
  gi_region_with_o (fail)
  all_goals exact And.intro rfl HFIN.out
 case done =>
  rintro D S W hD ⟨v,⟨⟨h1,h2⟩,h3,h4,h5⟩,hss⟩ hK;have hc1:=h1.cell;have hc3:=h3.cell
  gi_wp2_with fail
  gi_region
  gi_wp2_with fail
  have hKd:W.drew.heap[D]? =some (.deferred (some [])):=hK;have hgD:=grownBy_putObj' W.drew D (.deferred none);have hw0:w.heap.size<=W0.heap.size:=by rw[HW0.out];omega
  refine⟨by simp,.inl ⟨_,_,rfl,run_takeDeferred hKd,?_⟩⟩;refine⟨_,results_tmp2 rfl _ _ _,⟨_,rfl,own_lower (own_grown (w:=W.drew) h2 hgD (fun r e=>by cases e;exact .inr ⟨_,hKd,rfl⟩)) hw0⟩,h4.trans ⟨hgD.os,hgD.tape,hgD.output,hgD.size,fun i hi=>hgD.block i (Nat.lt_of_lt_of_le hi h4.size) (fun e=>by cases e;omega)⟩⟩
end Fm
end Go.Proofs.YtejcdhdfanfkbaaGreat
namespace Go.Proofs.YtejcdhdfanfkbaaGreat
namespace Dk
open Go.RowKit Hd Fm Sn
theorem pre_self (p:ByteArray):preB p p=true:=(preB_iff p p).2 ByteArray.extract_zero_size
theorem frs_end (s:ByteArray):frs s s.size=[]:=frs_no fun h=>by have:=GF_to h;omega
set_option maxHeartbeats 3200000 in
set_option maxRecDepth 100000 in
theorem tail_head (i g f:Nat) (w:World) (h:1<=i/\i<=999999/\1<=g/\g<=999999/\1<=f/\f<=1000000000) :
  Calls Tryz.prog 124 #[.string (hdrB i g f),.agg #[.int .i64 (i:Int),.int .i64 (g:Int),.int .i64 (f:Int)]] w fun e w' =>
   e=.returned (.tuple #[.slice none 0 0,.int .i64 ((hdrB i g f).size:Int),.int .i64 0])/\Below w.heap.size w w':=by
 have mixed:Tryz.prog.follows .mixedOrders=true:=by kernel_rfl
 have hz:(hdrB i g f).size<=36:=by
  have:=hb_size i g f h;have:=Op.frB_size 1 (hb i g f);unfold hdrB;omega
 have HBG:=Lib.hid (fun wx=>begun_ok (hdrB i g f) i g f wx h (pre_self _));simp only[if_true] at HBG;have HSC:=fun wx=>scan_any (hdrB i g f) (hdrB i g f).size wx (by omega) (by omega)
 rw[frs_end] at HSC;replace HSC:=Lib.hid HSC;have HW:=Lib.hid ((ext_alloc w (.cells #[.int .i64 (i:Int),.int .i64 (g:Int),.int .i64 (f:Int)] 148)).trans ((ext_alloc _ (.cells #[.slice none 0 0] 71)).mono (by simp)));have hv:Var ((w.alloc (.cells #[.int .i64 (i:Int),.int .i64 (g:Int),.int .i64 (f:Int)] 148)).alloc (.cells #[.slice none 0 0] 71)) (w.heap.size+1) 71 (.slice none 0 0):=by
  have:=Var.new (w.alloc (.cells #[.int .i64 (i:Int),.int .i64 (g:Int),.int .i64 (f:Int)] 148)) 71 (.slice none 0 0)
  rwa [show(w.alloc (.cells #[.int .i64 (i:Int),.int .i64 (g:Int),.int .i64 (f:Int)] 148)).heap.size=w.heap.size+1 by simp] at this
 have HV:=Lib.hid hv;generalize hdrB i g f=s at *
 obtain⟨e0,he0⟩:∃e0,s.size=e0:=⟨_,rfl⟩
 rw[he0] at HBG HSC ⊢;clear hv he0 hz h
 go_enter Tryz.func124, Tryz.ntmps124
 go_wp2_with fail
 go_step3
 go_wp2_with fail
 generalize (w.alloc (.cells #[.int .i64 (i:Int),.int .i64 (g:Int),.int .i64 (f:Int)] 148)).alloc (.cells #[.slice none 0 0] 71)=w0 at *
 refine(HBG.out _).mono ?_;rintro e1 w1 ⟨rfl,hb1⟩;have HV1:=Lib.hid (HV.out.below hb1 HV.out.lt);have HB1:=Lib.hid (HW.out.trans (hb1.mono HW.out.size));clear hb1 HV HW;go_wp2_with fail
 refine(HSC.out w1).mono ?_;rintro e2 w2 ⟨⟨v2,rfl,hown2⟩,hb2⟩;obtain⟨AF,cF,rfl,-,-⟩:=own_slice hown2;have HV2:=Lib.hid ((HV1.out.below hb2 HV1.out.lt).alloc (.cells #[.int .i64 0] 3));have HB3:=Lib.hid ((HB1.out.trans (hb2.mono HB1.out.size)).trans ((ext_alloc w2 (.cells #[.int .i64 0] 3)).mono (HB1.out.trans (hb2.mono HB1.out.size)).size));clear hb2 hown2 HV1 HB1;simp only[List.length_nil] at *
 go_wp2_with fail
 go_step3
 go_wp2_with fail
 generalize w2.alloc (.cells #[.int .i64 0] 3)=wL at *
 have HQ:=Lib.hid (show w.heap.size<=w.heap.size+1 from Nat.le_succ _);generalize w.heap.size+1=b4 at *
 go_loopw [5,35] (fun s5 s35 wr=>s35=.int .i64 0/\s5=.int .i64 (e0:Int)/\wr=wL) (fun _ _ _=>0)
 case atStart=>exact⟨by go_num,rfl,rfl⟩
 case round =>
  obtain⟨rfl,rfl,rfl⟩:=hrel;have hc:=HV2.out.cell;have hf:=HV2.out.frozen;have hc2:=(HV2.out.set_ (.slice none 0 0)).cell;have HF:=Lib.hid (show Below w.heap.size w (wr.setCell ⟨b4,0,none⟩ (.slice none 0 0)) from HB3.out.setCell (p:=⟨b4,0,none⟩) HQ.out _);go_wp2_with fail
  try rw[Exit.noGoto_ret]
  refine bodyPost_ret (v:=.tuple #[.slice none 0 0,.int .i64 (e0:Int),.int .i64 0]) (by simp[results,go_sem,hc2]) rfl ?_;exact⟨rfl,HF.out⟩
end Dk
end Go.Proofs.YtejcdhdfanfkbaaGreat
namespace Go.Proofs.YtejcdhdfanfkbaaGreat
namespace Gp
open Go.RowKit Cr Fm Hd Vi Rd Sn Dk
theorem ext_list (s:ByteArray) (a b:Nat):(s.extract a b).data.toList=(s.data.toList.drop a).take (b-a):=by
 rw[ByteArray.data_extract,Array.toList_extract,List.extract_eq_take_drop]
theorem ba_ext {a b:ByteArray} (h:a.data.toList=b.data.toList):a=b:=by
 obtain⟨⟨a⟩⟩:=a;obtain⟨⟨b⟩⟩:=b;simp only at h;rw[h]
theorem size_list (s:ByteArray):s.data.toList.length=s.size:=rfl
theorem u4_le (n:Nat) (hn:n<4294967296) (a b:List UInt8):u4 (a++(le 4 n++b)) a.length=n:=by
 have e:∀k (hk:k<4),by4 (a++(le 4 n++b)) (a.length+k)=by4 (le 4 n) k:=by
  intro k hk;unfold by4;rw[List.getD_eq_getElem?_getD,List.getD_eq_getElem?_getD,List.getElem?_append_right (by omega),Nat.add_sub_cancel_left,List.getElem?_append_left (by rw[length_le];omega)]
 have e0:=e 0 (by omega);unfold u4;rw[show a.length=a.length+0 from rfl,e0,Nat.add_zero,e 1 (by omega),e 2 (by omega),e 3 (by omega)];simp only[le,by4,List.getD_cons_zero,List.getD_cons_succ,UInt8.toNat_ofNat'];omega
theorem size_frB (k:UInt8) (b:ByteArray):(frB k b).size=b.size+9:=by
 unfold frB;rw[ByteArray.size_append,size_frA];show _+(le 4 _).toArray.size=_
 rw[List.size_toArray,length_le]
theorem GF_put (pre:ByteArray) (k:UInt8) (b:ByteArray) (hk:1<=k.toNat/\k.toNat<=4) (hb:b.size<=60000) :
  GF (pre++frB k b) pre.size/\fr (pre++frB k b) pre.size=(k.toNat,b,pre.size,pre.size+(b.size+9)):=by
 have hl:(pre++frB k b).data.toList=pre.data.toList++([k]++(le 4 b.size++(b.data.toList++le 4 (crc (frA k b).data.toList)))):=by
  unfold frB frA;simp only[ByteArray.data_append,Array.toList_append,List.append_assoc]
 have hla:(frA k b).data.toList=[k]++(le 4 b.size++b.data.toList):=by
  unfold frA;simp only[ByteArray.data_append,Array.toList_append,List.append_assoc]
 have hsz:(pre++frB k b).size=pre.size+(b.size+9):=by rw[ByteArray.size_append,size_frB]
 have hb4:by4 (pre++frB k b).data.toList pre.size=k.toNat:=by
  rw[hl];unfold by4;rw[List.getD_eq_getElem?_getD,List.getElem?_append_right (by rw[size_list];omega),size_list,Nat.sub_self];rfl
 have hu4:u4 (pre++frB k b).data.toList (pre.size+1)=b.size:=by
  rw[hl,<-List.append_assoc];have:=u4_le b.size (by omega) (pre.data.toList++[k]) (b.data.toList++le 4 (crc (frA k b).data.toList))
  rwa [List.length_append,size_list] at this
 have hfn:fn (pre++frB k b) pre.size=b.size:=hu4;have hex:((pre++frB k b).extract pre.size (pre.size+5+b.size)).data.toList=(frA k b).data.toList:=by
  have hla2:(frA k b).data.toList.length=b.size+5:=by rw[size_list,size_frA]
  rw[ext_list,hl,hla,List.drop_append_of_le_length (by rw[size_list];omega),List.drop_of_length_le (by rw[size_list];omega),List.nil_append];rw[hla] at hla2;rw[<-List.append_assoc,<-List.append_assoc,List.append_assoc [k],List.take_append_of_le_length (by omega),List.take_of_length_le (by omega)]
 have hcr:u4 (pre++frB k b).data.toList (pre.size+5+b.size)=crc (frA k b).data.toList:=by
  rw[hl];have:=u4_le (crc (frA k b).data.toList) (crc_lt _) (pre.data.toList++([k]++(le 4 b.size++b.data.toList))) [];have e:(pre.data.toList++([k]++(le 4 b.size++b.data.toList))).length=pre.size+5+b.size:=by
   simp only[List.length_append,size_list,length_le,List.length_singleton];omega
  rw[e] at this;simp only[List.append_assoc,List.append_nil] at this ⊢;exact this
 have hfb:fbody (pre++frB k b) pre.size=b:=by
  refine ba_ext ?_;unfold fbody;rw[hfn,ext_list,hl];have e:pre.data.toList++([k]++(le 4 b.size++(b.data.toList++le 4 (crc (frA k b).data.toList))))=(pre.data.toList++([k]++le 4 b.size))++(b.data.toList++le 4 (crc (frA k b).data.toList)):=by simp only[List.append_assoc]
  have e2:(pre.data.toList++([k]++le 4 b.size)).length=pre.size+5:=by
   rw[List.length_append,List.length_append,size_list,length_le];rfl
  rw[e,<-e2,List.drop_append_of_le_length (Nat.le_refl _),List.drop_length,List.nil_append,List.take_append_of_le_length (by rw[size_list];omega),List.take_of_length_le (by rw[size_list];omega)]
 refine⟨⟨by omega,by rw[hb4];exact hk,by rw[hu4];exact hb,by rw[hu4];omega,by rw[hu4,hex,hcr]⟩,?_⟩;unfold fr fto;rw[hb4,hfb,hfn];congr 3;omega
theorem frAns_put {k:UInt8} {b:ByteArray} (hk:1<=k.toNat/\k.toNat<=4) (hb:b.size<=60000) {e:Ending} (h:FrAns (frB k b) 0 e) :
  e=.returned (.tuple #[fagg k.toNat b (0:Nat) ((b.size+9:Nat)),.int .i64 0]):=by
 have he:(⟨#[]⟩:ByteArray)++frB k b=frB k b:=ByteArray.ext (by rw[ByteArray.data_append];simp);have:=GF_put ⟨#[]⟩ k b hk hb;rw[he] at this;obtain⟨g,f⟩:=this;rcases h with ⟨_,h⟩|⟨h,_⟩
 ·unfold fr at f
  simp only[Prod.mk.injEq] at f;obtain⟨f1,f2,-,f4⟩:=f
  change fbody (frB k b) 0=b at f2
  change by4 (frB k b).data.toList 0=k.toNat at f1
  change fto (frB k b) 0=0+(b.size+9) at f4
  rw[h,f1,f2,f4,Nat.zero_add]
 ·exact absurd g h
theorem frAns_end {s:ByteArray} {e:Ending} (h:FrAns s s.size e):∃x:Int,x≠0/\e=.returned (.tuple #[fagg 0 ⟨#[]⟩ 0 0,.int .i64 x]):=by
 rcases h with ⟨g,_⟩|⟨_,h⟩
 ·have:=GF_to g;omega
 ·exact h
end Gp
end Go.Proofs.YtejcdhdfanfkbaaGreat
