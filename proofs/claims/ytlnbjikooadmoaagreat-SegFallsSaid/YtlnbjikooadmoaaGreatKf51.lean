/- frame: frames, Scan. head.alone. What is known of blocks, plainly: which may be, which are a row. scan: what its functions compute, plainly: texts that agree on a beginning, frames, the run over frames. scan: what holds of the blocks that are found; their records are a row; a block more. seg: Add. block.Seqs. head.follows. head: Blocks. head: last, Next. append of several numbers at once onto a slice of the call's own. head.PutFoot. head.End. seg: Seal. Slices of api.Meta (seven cells) that the call itself makes: append. scan.Tail's closure: does a block go on? -/
import Derived.Test.YtlnbjikooadmoaaGreatKf50
import Derived.Test.YtlnbjikooadmoaaGreatKf48
import Derived.Test.YtlnbjikooadmoaaGreatKf49
import Derived.Deep.QuietTactic
import Derived.BigQuiet
import Derived.Test.YtlnbjikooadmoaaGreatKf03
import Derived.Deep.LoopGhost
import Derived.Deep.RegionLaw
import Derived.Deep.RegionHeld3
namespace Go.Proofs.YtlnbjikooadmoaaGreat
namespace Fm
open Go.RowKit Go.Shelf Cr Rg
theorem frames_any (s:ByteArray) (p:Nat) (w:World) :
  Calls Tryz.prog 124 #[.string s,.int .i64 (p:Int)] w fun e w'=>e=.returned (.func (.func 155) #[] #[.pointer (some ⟨w.heap.size,0,none⟩),.pointer (some ⟨w.heap.size+1,0,none⟩)]) /\
   w'=(w.alloc (.cells #[.string s] 9)).alloc (.cells #[.int .i64 (p:Int)] 3):=by
 go_enter Tryz.func124, Tryz.ntmps124
 go_wp2_with fail
 go_ret
 exact⟨rfl,rfl⟩
def clF (x:Fr):List Value:=[.int .i64 (x.1:Int),.string x.2.1,.int .i64 (x.2.2.1:Int),.int .i64 (x.2.2.2:Int)]
def flF (l:List Fr):List Value:=l.flatMap clF
def OwnFr (w:World) (B:Nat) (v:Value) (l:List Fr):Prop:=w.ownsRow B 92 4 v l.length (flF l)
def lastTo (p:Nat) (l:List Fr):Nat:=match l.getLast? with|none=>p|some x=>x.2.2.2
theorem One.new {w:World} {g:Nat} (v:Value) (t:TypeId) (hg:w.heap.size=g):One (w.alloc (.cells #[v] t)) g v t:=hg▸heap_alloc_new w _
theorem One.alloc {w:World} {g:Nat} {v:Value} {t:TypeId} (h:One w g v t) (o:Obj):One (w.alloc o) g v t:=(Below.heap_alloc w o g h.lt).trans h
theorem One.grown {w w':World} {g:Nat} {v:Value} {t:TypeId} {row:Option Nat} (h:One w g v t) (hg:w.grownBy w' row) (hr:row≠some g):One w' g v t:=(hg.block g h.lt (fun e=>hr e.symm)).trans h
theorem Fb.grown {w w':World} {g:Nat} {k p t:Int} {b:ByteArray} {row:Option Nat} (h:Fb w g k b p t) (hg:w.grownBy w' row) (hr:row≠some g):Fb w' g k b p t:=(hg.block g h.lt (fun e=>hr e.symm)).trans h
theorem own_grown {w w':World} {base:Nat} {e:TypeId} {size n:Nat} {v:Value} {xs:List Value} {row:Option Nat} (h:w.ownsRow base e size v n xs) (hg:w.grownBy w' row)
  (hr:∀r,row=some r->r<base∨ ∃o:Obj,w.heap[r]? =some o/\o.isCells=false):w'.ownsRow base e size v n xs:=by
 refine⟨h.1,?_⟩;rcases h.2 with h2|⟨g,cap,cur,hv,hb,hh,r⟩
 ·exact Or.inl h2
 ·refine Or.inr ⟨g,cap,cur,hv,hb,?_,r⟩
  rw[hg.block g (Array.getElem?_eq_some_iff.1 hh).1 ?_]
  ·exact hh
  ·intro he
   rcases hr g he.symm with h1|⟨o,ho,hc⟩
   ·omega
   ·rw[hh] at ho;cases ho;cases hc
theorem row_one {w:World} {g r:Nat} {v:Value} {t:TypeId} {B b:Nat} (h:One w g v t) (hgb:g≠b) (hr:r=b∨B<=r/\ ∃o:Obj,w.heap[r]? =some o/\o.isCells=false):some r≠some g:=by
 rintro e;cases e
 rcases hr with rfl|⟨_,o,ho,hc⟩
 ·exact hgb rfl
 ·rw[h] at ho;cases ho;cases hc
theorem row_fb {w:World} {g r:Nat} {k p t:Int} {by_:ByteArray} {B b:Nat} (h:Fb w g k by_ p t) (hgb:g≠b) (hr:r=b∨B<=r/\ ∃o:Obj,w.heap[r]? =some o/\o.isCells=false):some r≠some g:=by
 rintro e;cases e
 rcases hr with rfl|⟨_,o,ho,hc⟩
 ·exact hgb rfl
 ·rw[h] at ho;cases ho;cases hc
theorem Ks.alloc (S:Nat->Prop) (W:World) (o:Obj):Ks S W (W.alloc o):=⟨by simp,fun k p hk _ _=>(Below.heap_alloc W o k (Array.getElem?_eq_some_iff.1 hk).1).trans hk⟩
theorem fr_info:(Tryz.prog.info? 92).map (fun i=>(i.zero,i.size,i.bytes))=some (some (.agg #[.int .i64 0,.string ⟨#[]⟩,.int .i64 0,.int .i64 0]),4,40):=by kernel_rfl
theorem frs_len (s:ByteArray) (p:Nat) (hs:s.size<=1000000):(frs s p).length<=1000000:=by
 have h:∀(m p:Nat),s.size-p<=m->(frs s p).length<=m:=by
  intro m
  induction m with
  |zero =>
   intro p hp;rw[frs_no (fun h=>by have:=GF_to h;omega)];simp
  |succ m ih =>
   intro p hp;by_cases h:GF s p
   ·have:=GF_to h
    rw[frs_yes h,List.length_cons];have:=ih (fto s p) (by omega);omega
   ·rw[frs_no h];simp
 have:=h (s.size-p) p (Nat.le_refl _);omega
theorem frs_pre {l pre:List Fr} {x:Fr} {rest:List Fr} (h:l=pre++x::rest):pre.length<=l.length:=by rw[h,List.length_append];omega
def IS (w:World) (b3 b6 B p:Nat) (pre:List Fr) (v:Value) (W:World):Prop :=
 (One W b6 v 144/\OwnFr W B v pre)/\One W b3 (.int .i64 ((lastTo p pre:Nat):Int)) 3/\Below w.heap.size w W/\B<=W.heap.size
theorem IS.grown {w:World} {b3 b6 B p b:Nat} {pre:List Fr} {v:Value} {W W':World} {row:Option Nat} (h:IS w b3 b6 B p pre v W) (hb3:b3≠b) (hb6:b6≠b) (hbB:b<B) (hwb:w.heap.size<=b)
  (hg:W.grownBy W' row) (hr:∀r,row=some r->r=b∨B<=r/\ ∃o:Obj,W.heap[r]? =some o/\o.isCells=false):IS w b3 b6 B p pre v W':=by
 obtain⟨⟨h1,h2⟩,h3,h4,h5⟩:=h;have q:∀{g:Nat} {v:Value} {t:TypeId},One W g v t->g≠b->row≠some g:=fun ho hn e=>by
  subst e;exact row_one ho hn (hr _ rfl) rfl
 refine⟨⟨h1.grown hg (q h1 hb6),own_grown h2 hg (fun r e=>?_)⟩,h3.grown hg (q h3 hb3),h4.trans ⟨hg.os,hg.tape,hg.output,hg.size,fun k hk=>hg.block k (Nat.lt_of_lt_of_le hk h4.size) (fun e=>?_)⟩,Nat.le_trans h5 hg.size⟩
 ·rcases hr r e with rfl|⟨_,h⟩
  ·exact .inl hbB
  ·exact .inr h
 ·have:=h4.size
  have:=hr k e.symm;omega
def SS (b3 b6:Nat) (v:Value) (S:Nat->Prop) (W:World):Prop:=∀k,S k->v.ownBlock≠some k/\k≠b3/\k≠b6/\k<W.heap.size
theorem SS.grown {w:World} {b3 b6 B p:Nat} {pre:List Fr} {v:Value} {S S':Nat->Prop} {W W':World} (hi:IS w b3 b6 B p pre v W) (h:SS b3 b6 v S W) (hs:W.heap.size<=W'.heap.size) (hS:∀k,S' k->S k∨W.heap.size<=k/\k<W'.heap.size):SS b3 b6 v S' W':=by
 intro k hk;rcases hS k hk with h1|⟨h1,h2⟩
 ·obtain⟨a,b,c,d⟩:=h k h1
  exact⟨a,b,c,Nat.lt_of_lt_of_le d hs⟩
 ·have l6:=hi.1.1.lt
  have l3:=hi.2.1.lt;exact⟨fun e=>by have:=World.ownsRow.lt hi.1.2 k e;omega,by omega,by omega,h2⟩
theorem own_cells {w:World} {base:Nat} {e:TypeId} {size n:Nat} {v:Value} {xs:List Value} {g:Nat} (h:w.ownsRow base e size v n xs) (hv:v.ownBlock=some g):∃o:Obj,w.heap[g]? =some o/\o.isCells=true:=by
 rcases h.2 with ⟨h2,_⟩|⟨g',cap,cur,h2,hb,hh,r⟩
 ·rw[h2] at hv;cases hv
 ·rw[h2] at hv;cases hv;exact⟨_,hh,rfl⟩
theorem flF_snoc (l:List Fr) (x:Fr):flF (l++[x])=flF l++clF x:=by unfold flF;rw[List.flatMap_append];simp
theorem lastTo_snoc (p:Nat) (l:List Fr) (x:Fr):lastTo p (l++[x])=x.2.2.2:=by unfold lastTo;rw[List.getLast?_append];rfl
attribute [local go_sem] Oper.semAt_some
attribute [-go_sem] Builtin.append_
set_option maxHeartbeats 6400000 in
set_option maxRecDepth 100000 in
theorem scan_any (s:ByteArray) (p:Nat) (w:World) (hs:s.size<=1000000) (hp:p<=1000000) :
  Calls Tryz.prog 88 #[.string s,.int .i64 (p:Int)] w fun e w'=>(∃v,e=.returned (.tuple #[v,.int .i64 ((lastTo p (frs s p):Nat):Int)])/\OwnFr w' w.heap.size v (frs s p))/\Below w.heap.size w w':=by
 have mixed:Tryz.prog.follows .mixedOrders=true:=by kernel_rfl
 refine(callsIn_wide (n:=3)).1 ?_;refine callsIn_of_wp_marks Tryz.func88 rfl trivial ?_ rfl;simp only[Tryz.ntmps88,List.size_toArray,List.length_cons,List.length_nil,Nat.reduceAdd,Nat.reduceSub,Array.replicate_succ,Array.replicate_zero,List.push_toArray,List.append_toArray,List.nil_append,List.cons_append]
 gi_wp2_with fail
 refine⟨trivial,(callsIn_wide.2 (frames_any s p _)).mono ?_⟩;rintro e1 w1 ⟨rfl,rfl⟩
 gi_wp2_with fail
 have HW0:=Lib.hid (show((((w.alloc (.cells #[.int .i64 (p:Int)] 3)).alloc (.cells #[.slice none 0 0] 144)).alloc (.cells #[.string s] 9)).alloc (.cells #[.int .i64 (p:Int)] 3)).heap.size=w.heap.size+1+1+1+1 by simp);have C3:=Lib.hid ((((One.new (w:=w) (.int .i64 (p:Int)) 3 rfl).alloc (.cells #[.slice none 0 0] 144)).alloc (.cells #[.string s] 9)).alloc (.cells #[.int .i64 (p:Int)] 3));have C6:=Lib.hid (((One.new (w:=w.alloc (.cells #[.int .i64 (p:Int)] 3)) (g:=w.heap.size+1) (.slice none 0 0) 144 (by simp)).alloc (.cells #[.string s] 9)).alloc (.cells #[.int .i64 (p:Int)] 3));have CS:=Lib.hid ((One.new (w:=(w.alloc (.cells #[.int .i64 (p:Int)] 3)).alloc (.cells #[.slice none 0 0] 144)) (g:=w.heap.size+1+1) (.string s) 9 (by simp)).alloc (.cells #[.int .i64 (p:Int)] 3));have CA:=Lib.hid (One.new (w:=((w.alloc (.cells #[.int .i64 (p:Int)] 3)).alloc (.cells #[.slice none 0 0] 144)).alloc (.cells #[.string s] 9)) (g:=w.heap.size+1+1+1) (.int .i64 (p:Int)) 3 (by simp));have HB:=Lib.hid ((((ext_alloc w (.cells #[.int .i64 (p:Int)] 3)).trans ((ext_alloc _ (.cells #[.slice none 0 0] 144)).mono (by simp))).trans ((ext_alloc _ (.cells #[.string s] 9)).mono (by simp;omega))).trans ((ext_alloc _ (.cells #[.int .i64 (p:Int)] 3)).mono (by simp;omega)));generalize (((w.alloc (.cells #[.int .i64 (p:Int)] 3)).alloc (.cells #[.slice none 0 0] 144)).alloc (.cells #[.string s] 9)).alloc (.cells #[.int .i64 (p:Int)] 3)=W0 at *
 refine wpIn_range_own rfl (by omega) (gf:=155) (lb:=#[.pointer (some ⟨w.heap.size+1+1,0,none⟩),.pointer (some ⟨w.heap.size+1+1+1,0,none⟩)]) rfl trivial (enters_of Tryz.func155 (by kernel_rfl) rfl)
  (enc:=fv) (R:=fun k=>k=w.heap.size+1+1∨k=w.heap.size+1+1+1) (b:=w.heap.size+1+1+1) (xs:=frs s p) (by rw[HW0.out];omega)
  (frames1_gives _ _ _ s p W0 hs hp CS.out CA.out (by omega))
  (fun pre S W=>∃v,IS w w.heap.size (w.heap.size+1) W0.heap.size p pre v W/\SS w.heap.size (w.heap.size+1) v S W)
  (fun pre S S' W W' row ⟨v,h,h'⟩ hg hr hS=>⟨v,h.grown (by omega) (by omega) (by rw[HW0.out];omega) (by omega) hg hr,h'.grown h hg.size hS⟩)
  ⟨_,⟨⟨C6.out,World.ownsRow_nil _ _ _ _⟩,C3.out,HB.out,Nat.le_refl _⟩,fun k hk=>⟨by simp[Value.ownBlock],by omega,by omega,by rw[HW0.out];omega⟩⟩
  (fun pre x S a' W=>∃g v,W0.heap.size<=g/\v.ownBlock≠some g/\a'={ tmps:=#[.string s,.int .i64 (p:Int),undef,.pointer (some ⟨w.heap.size,0,none⟩),.slice none 0 0,.int .i64 0,.pointer (some ⟨w.heap.size+1,0,none⟩),.pointer (some ⟨g,0,none⟩),.string s,.int .i64 (p:Int),
   .func (.func 155) #[] #[.pointer (some ⟨w.heap.size+1+1,0,none⟩),.pointer (some ⟨w.heap.size+1+1+1,0,none⟩)],fv x,undef,undef,undef,undef,undef,undef,undef,undef],defers:=[] }/\Fb W g x.1 x.2.1 x.2.2.1 x.2.2.2/\IS w w.heap.size (w.heap.size+1) W0.heap.size p pre v W/\SS w.heap.size (w.heap.size+1) v S W)
  ?hax ?assign ?body ?done
 case hax =>
  rintro pre x S a' W W' row ⟨g,v,hg,hv,rfl,hf,hi,hss⟩ hgr hr;exact⟨g,v,hg,hv,rfl,hf.grown hgr (by intro e;subst e;exact row_fb hf (by rw[HW0.out] at hg;omega) (hr _ rfl) rfl),hi.grown (by omega) (by omega) (by rw[HW0.out];omega) (by omega) hgr hr,hss.grown hi hgr.size (fun _ h=>.inl h)⟩
 case assign =>
  rintro l pre ⟨k,b,q,t⟩ rest S W hxs ⟨v,hi,hss⟩;unfold fv fagg;dsimp only
  gi_wp2_with fail
  exact⟨KeepsOthers.alloc _ _,Ks.alloc _ _ _,W.heap.size,v,hi.2.2.2,(fun e=>by have:=World.ownsRow.lt hi.1.2 _ e;omega),rfl,heap_alloc_new W _,hi.grown (b:=w.heap.size+1+1+1) (by omega) (by omega) (by rw[HW0.out];omega) (by omega) (World.grownBy_alloc W _ none) (by intro r e;cases e),hss.grown hi (by simp) (fun _ h=>.inl h)⟩
 case body =>
  rintro l pre ⟨k,b,q,t⟩ rest S a' W hxs ⟨g,v,hg,hvg,rfl,hf,⟨⟨h1,h2⟩,h3,h4,h5⟩,hss⟩;have hc1:=h1.cell;have hc3:=h3.cell;have hf1:=h1.fz;have hf3:=h3.fz;have d0:=hf.c0;have d1:=hf.c1;have d2:=hf.c2;have d3:=hf.c3;have hpl:pre.length<=1000000:=Nat.le_trans (frs_pre hxs) (frs_len s p hs);obtain⟨i0,hi,hz0,hz1,hz2⟩:=info_parts fr_info;have hX:(W.alloc (.cells #[.int .i64 (k:Int),.string b,.int .i64 (q:Int),.int .i64 (t:Int)] 92)).drew.heap.size=W.heap.size+1:=by simp
  have hgw:W.grownBy (W.alloc (.cells #[.int .i64 (k:Int),.string b,.int .i64 (q:Int),.int .i64 (t:Int)] 92)).drew none:=have h:=World.grownBy_alloc W (.cells #[.int .i64 (k:Int),.string b,.int .i64 (q:Int),.int .i64 (t:Int)] 92) none;⟨h.os,h.tape,h.output,h.size,h.block⟩;obtain⟨v',w',hr,o',hg',-,hob⟩:=run_append_own_at (P:=Tryz.prog) (w:=(W.alloc (.cells #[.int .i64 (k:Int),.string b,.int .i64 (q:Int),.int .i64 (t:Int)] 92)).drew) W0.heap.size 144 144 92 i0 (.agg #[.int .i64 0,.string ⟨#[]⟩,.int .i64 0,.int .i64 0]) 4 40 Tryz.underlying144 hi hz0 hz1 hz2 rfl (by omega) v pre.length (flF pre) (own_grown h2 hgw (by intro r e;cases e))
   ⟨W.heap.size,0,none⟩ 1 1 (clF (k,b,q,t)) rfl (by
    intro j u hu;have hnew:(W.alloc (.cells #[.int .i64 (k:Int),.string b,.int .i64 (q:Int),.int .i64 (t:Int)] 92)).drew.heap[W.heap.size]? =some _:=heap_alloc_new W (.cells #[.int .i64 (k:Int),.string b,.int .i64 (q:Int),.int .i64 (t:Int)] 92);have hj:j<4:=(List.getElem?_eq_some_iff.1 hu).1;rcases j with _|_|_|_|j
    ·simp[clF] at hu;subst hu;exact Fb.c0 hnew
    ·simp[clF] at hu;subst hu;exact Fb.c1 hnew
    ·simp[clF] at hu;subst hu;exact Fb.c2 hnew
    ·simp[clF] at hu;subst hu;exact Fb.c3 hnew
    ·omega) (by intro u hu;simp[clF] at hu;rcases hu with rfl|rfl|rfl|rfl<;>rfl) (by simp only[maxLen];omega) (by omega) (by rw[hX];omega)
  obtain⟨g',cap',rfl⟩:=ownsRow_succ o';have hlv:=World.ownsRow.lt h2;have nb:∀{x:Nat},x<W0.heap.size->v.ownBlock≠some x:=fun hx e=>by have:=hlv _ e;omega
  have n6:v.ownBlock≠some (w.heap.size+1):=nb (by rw[HW0.out];omega);have n3:v.ownBlock≠some w.heap.size:=nb (by rw[HW0.out];omega);have X1:=(h1.grown hgw (by simp)).grown hg' n6;have X3:=(h3.grown hgw (by simp)).grown hg' n3;have XF:=(hf.grown hgw (by simp)).grown hg' hvg;have x1:=X1.cell;have x3:=X3.cell;have y1:=X1.fz;have y3:=X3.fz;have z3:=XF.c3;have hgl:=hf.lt;have h6l:=h1.lt;have h3l:=h3.lt;have bX:Below W.heap.size W (W.alloc (.cells #[.int .i64 (k:Int),.string b,.int .i64 (q:Int),.int .i64 (t:Int)] 92)).drew:=⟨hgw.os,hgw.tape,hgw.output,hgw.size,fun k hk=>hgw.block k hk (by simp)⟩
  have b2:Below W0.heap.size (W.alloc (.cells #[.int .i64 (k:Int),.string b,.int .i64 (q:Int),.int .i64 (t:Int)] 92)).drew w':=(Below.refl _ _).grown hg' (by rw[hX];omega) (fun k hk=>(hlv k hk).1);have hw0:w.heap.size<=W0.heap.size:=by rw[HW0.out];omega
  have b3:Below w.heap.size w w':=(h4.trans (bX.mono h4.size)).trans (b2.mono hw0);have b4:Below w.heap.size w ((w'.setCell ⟨w.heap.size+1,0,none⟩ (.slice (some ⟨g',0,none⟩) (pre.length+1) cap')).setCell ⟨w.heap.size,0,none⟩ (.int .i64 (t:Int))):=(b3.setCell (p:=⟨w.heap.size+1,0,none⟩) (Nat.le_succ _) _).setCell (p:=⟨w.heap.size,0,none⟩) (Nat.le_refl _) _;have ho2:=World.ownsRow.lt o';have hsz:W.heap.size<=w'.heap.size:=Nat.le_trans bX.size b2.size;have kO:KeepsOthers W w':=⟨hsz,fun i o hi ho=>by
   have hl:=(Array.getElem?_eq_some_iff.1 hi).1;rw[hg'.block i (by rw[hX];omega) (fun e=>by obtain⟨o2,h1,h2⟩:=own_cells h2 e.symm;rw[hi] at h1;cases h1;rw[ho] at h2;cases h2),hgw.block i hl (by simp)];exact hi⟩
  have kS:Ks S W ((w'.setCell ⟨w.heap.size+1,0,none⟩ (.slice (some ⟨g',0,none⟩) (pre.length+1) cap')).setCell ⟨w.heap.size,0,none⟩ (.int .i64 (t:Int))):=⟨by simp;exact hsz,fun i o hi ho hS=>by
   have hl:=(Array.getElem?_eq_some_iff.1 hi).1;obtain⟨s1,s2,s3,s4⟩:=hss i hS;rw[Below.heap_setCell _ ⟨w.heap.size,0,none⟩ _ i s2,Below.heap_setCell _ ⟨w.heap.size+1,0,none⟩ _ i s3,hg'.block i (by rw[hX];omega) (fun e=>s1 e.symm),hgw.block i hl (by simp)];exact hi⟩
  have HFIN:=Lib.hid (show KeepsOthers W ((w'.setCell ⟨w.heap.size+1,0,none⟩ (.slice (some ⟨g',0,none⟩) (pre.length+1) cap')).setCell ⟨w.heap.size,0,none⟩ (.int .i64 (t:Int)))/\Ks S W ((w'.setCell ⟨w.heap.size+1,0,none⟩ (.slice (some ⟨g',0,none⟩) (pre.length+1) cap')).setCell ⟨w.heap.size,0,none⟩ (.int .i64 (t:Int)))/\ ∃v,IS w w.heap.size (w.heap.size+1) W0.heap.size p (pre++[(k,b,q,t)]) v ((w'.setCell ⟨w.heap.size+1,0,none⟩ (.slice (some ⟨g',0,none⟩) (pre.length+1) cap')).setCell ⟨w.heap.size,0,none⟩ (.int .i64 (t:Int)))/\SS w.heap.size (w.heap.size+1) v S ((w'.setCell ⟨w.heap.size+1,0,none⟩ (.slice (some ⟨g',0,none⟩) (pre.length+1) cap')).setCell ⟨w.heap.size,0,none⟩ (.int .i64 (t:Int))) from
   ⟨(kO.trans (KeepsOthers.setCell _ _ _)).trans (KeepsOthers.setCell _ _ _),kS,.slice (some ⟨g',0,none⟩) (pre.length+1) cap',
     ⟨⟨(X1.set _).far (j:=0) (by omega) _,by
       unfold OwnFr;rw[flF_snoc,List.length_append];exact own_setCell_far (own_setCell_far o' (fun e=>by have h8:=(ho2 _ e).1;have h9:=HW0.out;dsimp only at h8;omega) _) (fun e=>by have h8:=(ho2 _ e).1;have h9:=HW0.out;dsimp only at h8;omega) _⟩,
      by rw[lastTo_snoc];exact(X3.far (j:=0) (by omega) _).set _,b4,by simp;omega⟩,
     fun i hi=>by
      obtain⟨s1,s2,s3,s4⟩:=hss i hi;refine⟨fun e=>?_,s2,s3,by simp;omega⟩;rcases hob with h|h
      ·exact s1 (h▸e)
      ·rw[h,hX] at e;cases e;omega⟩)
  clear o' hg' hob X1 X3 XF bX b2 b3 b4 kO kS;dsimp only at d0 d1 d2 d3 z3
  gi_wp2_with fail
  gi_region_with_o (fail)
  all_goals exact And.intro rfl HFIN.out
 case done =>
  rintro D S W hD ⟨v,⟨⟨h1,h2⟩,h3,h4,h5⟩,hss⟩ hK;have hc1:=h1.cell;have hc3:=h3.cell
  gi_wp2_with fail
  gi_region
  gi_wp2_with fail
  have hKd:W.drew.heap[D]? =some (.deferred (some [])):=hK;have hgD:=grownBy_putObj' W.drew D (.deferred none);have hw0:w.heap.size<=W0.heap.size:=by rw[HW0.out];omega
  refine⟨by simp,.inl ⟨_,_,rfl,run_takeDeferred hKd,?_⟩⟩;refine⟨_,results_tmp2 rfl _ _ _,⟨_,rfl,own_lower (own_grown (w:=W.drew) h2 hgD (fun r e=>by cases e;exact .inr ⟨_,hKd,rfl⟩)) hw0⟩,h4.trans ⟨hgD.os,hgD.tape,hgD.output,hgD.size,fun i hi=>hgD.block i (Nat.lt_of_lt_of_le hi h4.size) (fun e=>by cases e;omega)⟩⟩
end Fm
end Go.Proofs.YtlnbjikooadmoaaGreat
namespace Go.Proofs.YtlnbjikooadmoaaGreat
namespace Hd
open Go.RowKit
def aloneB (a s r c f e l:Int):Bool:=decide ((0<=a/\a<=1000000)/\(10<=s/\s<=60009)/\(1<=r/\r<=20000)/\(1<=c/\c<=r)/\(1<=f/\f<=1000000001-c)/\0<=e/\(e<=l/\l<=1000000000))
set_option maxHeartbeats 3200000 in
set_option maxRecDepth 100000 in
theorem alone_no0 (a s r c f e l:Int) (w:World) (h0: ¬ (0<=a/\a<=1000000)) :
  Calls Tryz.prog 82 #[.agg #[.int .i64 a,.int .i64 s,.int .i64 r,.int .i64 c,.int .i64 f,.int .i64 e,.int .i64 l]] w fun e' w'=>e'=.returned (.bool false)/\Below w.heap.size w w':=by
 have mixed:Tryz.prog.follows .mixedOrders=true:=by kernel_rfl
 have H0:=Lib.hid (fun(wx:World)=>(within_any a 0 1000000 wx).mono (R':=fun e w'=>e=.returned (.bool false)/\wx=w') (fun e w' hh=>⟨by rw[hh.1,inB_no (by omega)],hh.2⟩));have HB:=Lib.hid (ext_alloc w (.cells #[.int .i64 a,.int .i64 s,.int .i64 r,.int .i64 c,.int .i64 f,.int .i64 e,.int .i64 l] 39));clear h0
 go_enter Tryz.func82, Tryz.ntmps82
 go_wp2_with fail
 refine(H0.out _).mono ?_;rintro e0 w0 ⟨rfl,rfl⟩;go_wp2_with fail
 go_ret
 exact⟨rfl,HB.out⟩
set_option maxHeartbeats 3200000 in
set_option maxRecDepth 100000 in
theorem alone_no1 (a s r c f e l:Int) (w:World) (h0:0<=a/\a<=1000000) (h1: ¬ (10<=s/\s<=60009)) :
  Calls Tryz.prog 82 #[.agg #[.int .i64 a,.int .i64 s,.int .i64 r,.int .i64 c,.int .i64 f,.int .i64 e,.int .i64 l]] w fun e' w'=>e'=.returned (.bool false)/\Below w.heap.size w w':=by
 have mixed:Tryz.prog.follows .mixedOrders=true:=by kernel_rfl
 have H0:=Lib.hid (fun(wx:World)=>(within_any a 0 1000000 wx).mono (R':=fun e w'=>e=.returned (.bool true)/\wx=w') (fun e w' hh=>⟨by rw[hh.1,(inB_iff ..).2 (by omega)],hh.2⟩));have H1:=Lib.hid (fun(wx:World)=>(within_any s 10 60009 wx).mono (R':=fun e w'=>e=.returned (.bool false)/\wx=w') (fun e w' hh=>⟨by rw[hh.1,inB_no (by omega)],hh.2⟩));have HB:=Lib.hid (ext_alloc w (.cells #[.int .i64 a,.int .i64 s,.int .i64 r,.int .i64 c,.int .i64 f,.int .i64 e,.int .i64 l] 39));clear h0 h1
 go_enter Tryz.func82, Tryz.ntmps82
 go_wp2_with fail
 refine(H0.out _).mono ?_;rintro e0 w0 ⟨rfl,rfl⟩;go_wp2_with fail
 refine(H1.out _).mono ?_;rintro e1 w1 ⟨rfl,rfl⟩;go_wp2_with fail
 go_ret
 exact⟨rfl,HB.out⟩
set_option maxHeartbeats 3200000 in
set_option maxRecDepth 100000 in
theorem alone_no2 (a s r c f e l:Int) (w:World) (h0:0<=a/\a<=1000000) (h1:10<=s/\s<=60009) (h2: ¬ (1<=r/\r<=20000)) :
  Calls Tryz.prog 82 #[.agg #[.int .i64 a,.int .i64 s,.int .i64 r,.int .i64 c,.int .i64 f,.int .i64 e,.int .i64 l]] w fun e' w'=>e'=.returned (.bool false)/\Below w.heap.size w w':=by
 have mixed:Tryz.prog.follows .mixedOrders=true:=by kernel_rfl
 have H0:=Lib.hid (fun(wx:World)=>(within_any a 0 1000000 wx).mono (R':=fun e w'=>e=.returned (.bool true)/\wx=w') (fun e w' hh=>⟨by rw[hh.1,(inB_iff ..).2 (by omega)],hh.2⟩));have H1:=Lib.hid (fun(wx:World)=>(within_any s 10 60009 wx).mono (R':=fun e w'=>e=.returned (.bool true)/\wx=w') (fun e w' hh=>⟨by rw[hh.1,(inB_iff ..).2 (by omega)],hh.2⟩));have H2:=Lib.hid (fun(wx:World)=>(within_any r 1 20000 wx).mono (R':=fun e w'=>e=.returned (.bool false)/\wx=w') (fun e w' hh=>⟨by rw[hh.1,inB_no (by omega)],hh.2⟩));have HB:=Lib.hid (ext_alloc w (.cells #[.int .i64 a,.int .i64 s,.int .i64 r,.int .i64 c,.int .i64 f,.int .i64 e,.int .i64 l] 39));clear h0 h1 h2
 go_enter Tryz.func82, Tryz.ntmps82
 go_wp2_with fail
 refine(H0.out _).mono ?_;rintro e0 w0 ⟨rfl,rfl⟩;go_wp2_with fail
 refine(H1.out _).mono ?_;rintro e1 w1 ⟨rfl,rfl⟩;go_wp2_with fail
 refine(H2.out _).mono ?_;rintro e2 w2 ⟨rfl,rfl⟩;go_wp2_with fail
 go_ret
 exact⟨rfl,HB.out⟩
set_option maxHeartbeats 3200000 in
set_option maxRecDepth 100000 in
theorem alone_no3 (a s r c f e l:Int) (w:World) (h0:0<=a/\a<=1000000) (h1:10<=s/\s<=60009) (h2:1<=r/\r<=20000) (h3: ¬ (1<=c/\c<=r)) :
  Calls Tryz.prog 82 #[.agg #[.int .i64 a,.int .i64 s,.int .i64 r,.int .i64 c,.int .i64 f,.int .i64 e,.int .i64 l]] w fun e' w'=>e'=.returned (.bool false)/\Below w.heap.size w w':=by
 have mixed:Tryz.prog.follows .mixedOrders=true:=by kernel_rfl
 have H0:=Lib.hid (fun(wx:World)=>(within_any a 0 1000000 wx).mono (R':=fun e w'=>e=.returned (.bool true)/\wx=w') (fun e w' hh=>⟨by rw[hh.1,(inB_iff ..).2 (by omega)],hh.2⟩));have H1:=Lib.hid (fun(wx:World)=>(within_any s 10 60009 wx).mono (R':=fun e w'=>e=.returned (.bool true)/\wx=w') (fun e w' hh=>⟨by rw[hh.1,(inB_iff ..).2 (by omega)],hh.2⟩));have H2:=Lib.hid (fun(wx:World)=>(within_any r 1 20000 wx).mono (R':=fun e w'=>e=.returned (.bool true)/\wx=w') (fun e w' hh=>⟨by rw[hh.1,(inB_iff ..).2 (by omega)],hh.2⟩));have H3:=Lib.hid (fun(wx:World)=>(within_any c 1 r wx).mono (R':=fun e w'=>e=.returned (.bool false)/\wx=w') (fun e w' hh=>⟨by rw[hh.1,inB_no (by omega)],hh.2⟩));have HB:=Lib.hid (ext_alloc w (.cells #[.int .i64 a,.int .i64 s,.int .i64 r,.int .i64 c,.int .i64 f,.int .i64 e,.int .i64 l] 39));clear h0 h1 h2 h3
 go_enter Tryz.func82, Tryz.ntmps82
 go_wp2_with fail
 refine(H0.out _).mono ?_;rintro e0 w0 ⟨rfl,rfl⟩;go_wp2_with fail
 refine(H1.out _).mono ?_;rintro e1 w1 ⟨rfl,rfl⟩;go_wp2_with fail
 refine(H2.out _).mono ?_;rintro e2 w2 ⟨rfl,rfl⟩;go_wp2_with fail
 refine(H3.out _).mono ?_;rintro e3 w3 ⟨rfl,rfl⟩;go_wp2_with fail
 go_ret
 exact⟨rfl,HB.out⟩
set_option maxHeartbeats 3200000 in
set_option maxRecDepth 100000 in
theorem alone_no4 (a s r c f e l:Int) (w:World) (h0:0<=a/\a<=1000000) (h1:10<=s/\s<=60009) (h2:1<=r/\r<=20000) (h3:1<=c/\c<=r) (h4: ¬ (1<=f/\f<=(1000000001-c))) :
  Calls Tryz.prog 82 #[.agg #[.int .i64 a,.int .i64 s,.int .i64 r,.int .i64 c,.int .i64 f,.int .i64 e,.int .i64 l]] w fun e' w'=>e'=.returned (.bool false)/\Below w.heap.size w w':=by
 have mixed:Tryz.prog.follows .mixedOrders=true:=by kernel_rfl
 have H0:=Lib.hid (fun(wx:World)=>(within_any a 0 1000000 wx).mono (R':=fun e w'=>e=.returned (.bool true)/\wx=w') (fun e w' hh=>⟨by rw[hh.1,(inB_iff ..).2 (by omega)],hh.2⟩));have H1:=Lib.hid (fun(wx:World)=>(within_any s 10 60009 wx).mono (R':=fun e w'=>e=.returned (.bool true)/\wx=w') (fun e w' hh=>⟨by rw[hh.1,(inB_iff ..).2 (by omega)],hh.2⟩));have H2:=Lib.hid (fun(wx:World)=>(within_any r 1 20000 wx).mono (R':=fun e w'=>e=.returned (.bool true)/\wx=w') (fun e w' hh=>⟨by rw[hh.1,(inB_iff ..).2 (by omega)],hh.2⟩));have H3:=Lib.hid (fun(wx:World)=>(within_any c 1 r wx).mono (R':=fun e w'=>e=.returned (.bool true)/\wx=w') (fun e w' hh=>⟨by rw[hh.1,(inB_iff ..).2 (by omega)],hh.2⟩));have H4:=Lib.hid (fun(wx:World)=>(within_any f 1 (1000000001-c) wx).mono (R':=fun e w'=>e=.returned (.bool false)/\wx=w') (fun e w' hh=>⟨by rw[hh.1,inB_no (by omega)],hh.2⟩));have q1:IntKind.i64.wrap (1000000001-c)=1000000001-c:=by rw[IntKind.wrap_i64];omega
 have HB:=Lib.hid (ext_alloc w (.cells #[.int .i64 a,.int .i64 s,.int .i64 r,.int .i64 c,.int .i64 f,.int .i64 e,.int .i64 l] 39));clear h0 h1 h2 h3 h4
 go_enter Tryz.func82, Tryz.ntmps82
 go_wp2_with fail
 refine(H0.out _).mono ?_;rintro e0 w0 ⟨rfl,rfl⟩;go_wp2_with fail
 refine(H1.out _).mono ?_;rintro e1 w1 ⟨rfl,rfl⟩;go_wp2_with fail
 refine(H2.out _).mono ?_;rintro e2 w2 ⟨rfl,rfl⟩;go_wp2_with fail
 refine(H3.out _).mono ?_;rintro e3 w3 ⟨rfl,rfl⟩;go_wp2_with fail
 refine(H4.out _).mono ?_;rintro e4 w4 ⟨rfl,rfl⟩;go_wp2_with fail
 go_ret
 exact⟨rfl,HB.out⟩
set_option maxHeartbeats 3200000 in
set_option maxRecDepth 100000 in
theorem alone_no5 (a s r c f e l:Int) (w:World) (h0:0<=a/\a<=1000000) (h1:10<=s/\s<=60009) (h2:1<=r/\r<=20000) (h3:1<=c/\c<=r) (h4:1<=f/\f<=(1000000001-c)) (h5: ¬ 0<=e) :
  Calls Tryz.prog 82 #[.agg #[.int .i64 a,.int .i64 s,.int .i64 r,.int .i64 c,.int .i64 f,.int .i64 e,.int .i64 l]] w fun e' w'=>e'=.returned (.bool false)/\Below w.heap.size w w':=by
 have mixed:Tryz.prog.follows .mixedOrders=true:=by kernel_rfl
 have H0:=Lib.hid (fun(wx:World)=>(within_any a 0 1000000 wx).mono (R':=fun e w'=>e=.returned (.bool true)/\wx=w') (fun e w' hh=>⟨by rw[hh.1,(inB_iff ..).2 (by omega)],hh.2⟩));have H1:=Lib.hid (fun(wx:World)=>(within_any s 10 60009 wx).mono (R':=fun e w'=>e=.returned (.bool true)/\wx=w') (fun e w' hh=>⟨by rw[hh.1,(inB_iff ..).2 (by omega)],hh.2⟩));have H2:=Lib.hid (fun(wx:World)=>(within_any r 1 20000 wx).mono (R':=fun e w'=>e=.returned (.bool true)/\wx=w') (fun e w' hh=>⟨by rw[hh.1,(inB_iff ..).2 (by omega)],hh.2⟩));have H3:=Lib.hid (fun(wx:World)=>(within_any c 1 r wx).mono (R':=fun e w'=>e=.returned (.bool true)/\wx=w') (fun e w' hh=>⟨by rw[hh.1,(inB_iff ..).2 (by omega)],hh.2⟩));have H4:=Lib.hid (fun(wx:World)=>(within_any f 1 (1000000001-c) wx).mono (R':=fun e w'=>e=.returned (.bool true)/\wx=w') (fun e w' hh=>⟨by rw[hh.1,(inB_iff ..).2 (by omega)],hh.2⟩));have q1:IntKind.i64.wrap (1000000001-c)=1000000001-c:=by rw[IntKind.wrap_i64];omega
 have HB:=Lib.hid (ext_alloc w (.cells #[.int .i64 a,.int .i64 s,.int .i64 r,.int .i64 c,.int .i64 f,.int .i64 e,.int .i64 l] 39));clear h0 h1 h2 h3 h4
 go_enter Tryz.func82, Tryz.ntmps82
 go_wp2_with fail
 refine(H0.out _).mono ?_;rintro e0 w0 ⟨rfl,rfl⟩;go_wp2_with fail
 refine(H1.out _).mono ?_;rintro e1 w1 ⟨rfl,rfl⟩;go_wp2_with fail
 refine(H2.out _).mono ?_;rintro e2 w2 ⟨rfl,rfl⟩;go_wp2_with fail
 refine(H3.out _).mono ?_;rintro e3 w3 ⟨rfl,rfl⟩;go_wp2_with fail
 refine(H4.out _).mono ?_;rintro e4 w4 ⟨rfl,rfl⟩;go_wp2_with fail
 go_ret
 exact⟨rfl,HB.out⟩
set_option maxHeartbeats 3200000 in
set_option maxRecDepth 100000 in
theorem alone_no6 (a s r c f e l:Int) (w:World) (h0:0<=a/\a<=1000000) (h1:10<=s/\s<=60009) (h2:1<=r/\r<=20000) (h3:1<=c/\c<=r) (h4:1<=f/\f<=(1000000001-c)) (h5:0<=e) (h6: ¬ (e<=l/\l<=1000000000)) :
  Calls Tryz.prog 82 #[.agg #[.int .i64 a,.int .i64 s,.int .i64 r,.int .i64 c,.int .i64 f,.int .i64 e,.int .i64 l]] w fun e' w'=>e'=.returned (.bool false)/\Below w.heap.size w w':=by
 have mixed:Tryz.prog.follows .mixedOrders=true:=by kernel_rfl
 have H0:=Lib.hid (fun(wx:World)=>(within_any a 0 1000000 wx).mono (R':=fun e w'=>e=.returned (.bool true)/\wx=w') (fun e w' hh=>⟨by rw[hh.1,(inB_iff ..).2 (by omega)],hh.2⟩));have H1:=Lib.hid (fun(wx:World)=>(within_any s 10 60009 wx).mono (R':=fun e w'=>e=.returned (.bool true)/\wx=w') (fun e w' hh=>⟨by rw[hh.1,(inB_iff ..).2 (by omega)],hh.2⟩));have H2:=Lib.hid (fun(wx:World)=>(within_any r 1 20000 wx).mono (R':=fun e w'=>e=.returned (.bool true)/\wx=w') (fun e w' hh=>⟨by rw[hh.1,(inB_iff ..).2 (by omega)],hh.2⟩));have H3:=Lib.hid (fun(wx:World)=>(within_any c 1 r wx).mono (R':=fun e w'=>e=.returned (.bool true)/\wx=w') (fun e w' hh=>⟨by rw[hh.1,(inB_iff ..).2 (by omega)],hh.2⟩));have H4:=Lib.hid (fun(wx:World)=>(within_any f 1 (1000000001-c) wx).mono (R':=fun e w'=>e=.returned (.bool true)/\wx=w') (fun e w' hh=>⟨by rw[hh.1,(inB_iff ..).2 (by omega)],hh.2⟩));have H5:=Lib.hid (fun(wx:World)=>(within_any l e 1000000000 wx).mono (R':=fun e w'=>e=.returned (.bool false)/\wx=w') (fun e w' hh=>⟨by rw[hh.1,inB_no (by omega)],hh.2⟩));have q1:IntKind.i64.wrap (1000000001-c)=1000000001-c:=by rw[IntKind.wrap_i64];omega
 have HB:=Lib.hid (ext_alloc w (.cells #[.int .i64 a,.int .i64 s,.int .i64 r,.int .i64 c,.int .i64 f,.int .i64 e,.int .i64 l] 39));clear h0 h1 h2 h3 h4 h6
 go_enter Tryz.func82, Tryz.ntmps82
 go_wp2_with fail
 refine(H0.out _).mono ?_;rintro e0 w0 ⟨rfl,rfl⟩;go_wp2_with fail
 refine(H1.out _).mono ?_;rintro e1 w1 ⟨rfl,rfl⟩;go_wp2_with fail
 refine(H2.out _).mono ?_;rintro e2 w2 ⟨rfl,rfl⟩;go_wp2_with fail
 refine(H3.out _).mono ?_;rintro e3 w3 ⟨rfl,rfl⟩;go_wp2_with fail
 refine(H4.out _).mono ?_;rintro e4 w4 ⟨rfl,rfl⟩;go_wp2_with fail
 refine(H5.out _).mono ?_;rintro e5 w5 ⟨rfl,rfl⟩;go_wp2_with fail
 go_ret
 exact⟨rfl,HB.out⟩
set_option maxHeartbeats 3200000 in
set_option maxRecDepth 100000 in
theorem alone_yes (a s r c f e l:Int) (w:World) (h0:0<=a/\a<=1000000) (h1:10<=s/\s<=60009) (h2:1<=r/\r<=20000) (h3:1<=c/\c<=r) (h4:1<=f/\f<=(1000000001-c)) (h5:0<=e) (h6:e<=l/\l<=1000000000) :
  Calls Tryz.prog 82 #[.agg #[.int .i64 a,.int .i64 s,.int .i64 r,.int .i64 c,.int .i64 f,.int .i64 e,.int .i64 l]] w fun e' w'=>e'=.returned (.bool true)/\Below w.heap.size w w':=by
 have mixed:Tryz.prog.follows .mixedOrders=true:=by kernel_rfl
 have H0:=Lib.hid (fun(wx:World)=>(within_any a 0 1000000 wx).mono (R':=fun e w'=>e=.returned (.bool true)/\wx=w') (fun e w' hh=>⟨by rw[hh.1,(inB_iff ..).2 (by omega)],hh.2⟩));have H1:=Lib.hid (fun(wx:World)=>(within_any s 10 60009 wx).mono (R':=fun e w'=>e=.returned (.bool true)/\wx=w') (fun e w' hh=>⟨by rw[hh.1,(inB_iff ..).2 (by omega)],hh.2⟩));have H2:=Lib.hid (fun(wx:World)=>(within_any r 1 20000 wx).mono (R':=fun e w'=>e=.returned (.bool true)/\wx=w') (fun e w' hh=>⟨by rw[hh.1,(inB_iff ..).2 (by omega)],hh.2⟩));have H3:=Lib.hid (fun(wx:World)=>(within_any c 1 r wx).mono (R':=fun e w'=>e=.returned (.bool true)/\wx=w') (fun e w' hh=>⟨by rw[hh.1,(inB_iff ..).2 (by omega)],hh.2⟩));have H4:=Lib.hid (fun(wx:World)=>(within_any f 1 (1000000001-c) wx).mono (R':=fun e w'=>e=.returned (.bool true)/\wx=w') (fun e w' hh=>⟨by rw[hh.1,(inB_iff ..).2 (by omega)],hh.2⟩));have H5:=Lib.hid (fun(wx:World)=>(within_any l e 1000000000 wx).mono (R':=fun e w'=>e=.returned (.bool true)/\wx=w') (fun e w' hh=>⟨by rw[hh.1,(inB_iff ..).2 (by omega)],hh.2⟩));have q1:IntKind.i64.wrap (1000000001-c)=1000000001-c:=by rw[IntKind.wrap_i64];omega
 have HB:=Lib.hid (ext_alloc w (.cells #[.int .i64 a,.int .i64 s,.int .i64 r,.int .i64 c,.int .i64 f,.int .i64 e,.int .i64 l] 39));clear h0 h1 h2 h3 h4 h6
 go_enter Tryz.func82, Tryz.ntmps82
 go_wp2_with fail
 refine(H0.out _).mono ?_;rintro e0 w0 ⟨rfl,rfl⟩;go_wp2_with fail
 refine(H1.out _).mono ?_;rintro e1 w1 ⟨rfl,rfl⟩;go_wp2_with fail
 refine(H2.out _).mono ?_;rintro e2 w2 ⟨rfl,rfl⟩;go_wp2_with fail
 refine(H3.out _).mono ?_;rintro e3 w3 ⟨rfl,rfl⟩;go_wp2_with fail
 refine(H4.out _).mono ?_;rintro e4 w4 ⟨rfl,rfl⟩;go_wp2_with fail
 refine(H5.out _).mono ?_;rintro e5 w5 ⟨rfl,rfl⟩;go_wp2_with fail
 go_ret
 exact⟨rfl,HB.out⟩
theorem alone_any (a s r c f e l:Int) (w:World) :
  Calls Tryz.prog 82 #[.agg #[.int .i64 a,.int .i64 s,.int .i64 r,.int .i64 c,.int .i64 f,.int .i64 e,.int .i64 l]] w fun e' w'=>e'=.returned (.bool (aloneB a s r c f e l))/\Below w.heap.size w w':=by
 by_cases h0:0<=a/\a<=1000000
 ·by_cases h1:10<=s/\s<=60009
  ·by_cases h2:1<=r/\r<=20000
   ·by_cases h3:1<=c/\c<=r
    ·by_cases h4:1<=f/\f<=1000000001-c
     ·by_cases h5:0<=e
      ·by_cases h6:e<=l/\l<=1000000000
       ·rw[show aloneB a s r c f e l=true from decide_eq_true ⟨h0,h1,h2,h3,h4,h5,h6⟩]
        exact alone_yes a s r c f e l w h0 h1 h2 h3 h4 h5 h6
       ·rw[show aloneB a s r c f e l=false from decide_eq_false (fun h=>h6 h.2.2.2.2.2.2)]
        exact alone_no6 a s r c f e l w h0 h1 h2 h3 h4 h5 h6
      ·rw[show aloneB a s r c f e l=false from decide_eq_false (fun h=>h5 h.2.2.2.2.2.1)]
       exact alone_no5 a s r c f e l w h0 h1 h2 h3 h4 h5
     ·rw[show aloneB a s r c f e l=false from decide_eq_false (fun h=>h4 h.2.2.2.2.1)]
      exact alone_no4 a s r c f e l w h0 h1 h2 h3 h4
    ·rw[show aloneB a s r c f e l=false from decide_eq_false (fun h=>h3 h.2.2.2.1)]
     exact alone_no3 a s r c f e l w h0 h1 h2 h3
   ·rw[show aloneB a s r c f e l=false from decide_eq_false (fun h=>h2 h.2.2.1)]
    exact alone_no2 a s r c f e l w h0 h1 h2
  ·rw[show aloneB a s r c f e l=false from decide_eq_false (fun h=>h1 h.2.1)]
   exact alone_no1 a s r c f e l w h0 h1
 ·rw[show aloneB a s r c f e l=false from decide_eq_false (fun h=>h0 h.1)]
  exact alone_no0 a s r c f e l w h0
end Hd
end Go.Proofs.YtlnbjikooadmoaaGreat
namespace Go.Proofs.YtlnbjikooadmoaaGreat
namespace Sn
open Go.RowKit Hd Bk
structure Mt where
 a:Nat
 s:Nat
 r:Nat
 c:Nat
 f:Nat
 e:Nat
 l:Nat
def cl7 (m:Mt):List Value:=[.int .i64 (m.a:Int),.int .i64 (m.s:Int),.int .i64 (m.r:Int),.int .i64 (m.c:Int),.int .i64 (m.f:Int),.int .i64 (m.e:Int),.int .i64 (m.l:Int)]
def mv (m:Mt):Value:=magg m.a m.s m.r m.c m.f m.e m.l
def okM (m:Mt):Bool:=aloneB m.a m.s m.r m.c m.f m.e m.l
theorem okM_iff (m:Mt):okM m=true↔m.a<=1000000/\10<=m.s/\m.s<=60009/\1<=m.r/\m.r<=20000/\1<=m.c/\m.c<=m.r/\1<=m.f/\m.f+m.c<=1000000001/\m.e<=m.l/\m.l<=1000000000:=by
 unfold okM aloneB;rw[decide_eq_true_eq];omega
def folB (p m:Mt):Bool:=decide (m.a=p.a+p.s/\m.f=p.f+p.c/\p.l<=m.e)
theorem folB_iff (p m:Mt):folB p m=true↔m.a=p.a+p.s/\m.f=p.f+p.c/\p.l<=m.e:=by unfold folB;rw[decide_eq_true_eq]
def rowM:Option Mt->List Mt->Bool
 |_,[]=>true
 |none,m::l=>okM m&&rowM (some m) l
 |some p,m::l=>okM m&&folB p m&&rowM (some m) l
def okBl (l:List Mt):Bool:=decide (l.length<=1000)&&rowM none l
theorem rowM_snoc:∀(l:List Mt) (p:Option Mt) (m:Mt),rowM p l=true->okM m=true->(∀q,(match l.getLast? with|none=>p|some x=>some x)=some q->folB q m=true)->rowM p (l++[m])=true
 | [],none,m,_,ho,_=>by simp[rowM,ho]
 | [],some p,m,_,ho,hf=>by simp[rowM,ho,hf p rfl]
 |x::l,p,m,h,ho,hf=>by
  have hx:rowM (some x) l=true/\ ∀l',rowM (some x) l'=true->rowM p (x::l')=true:=by
   rcases p with _|p
   ·simp only[rowM,Bool.and_eq_true] at h ⊢
    exact⟨h.2,fun l' hl=>⟨h.1,hl⟩⟩
   ·simp only[rowM,Bool.and_eq_true] at h ⊢
    exact⟨h.2,fun l' hl=>⟨h.1,hl⟩⟩
  rw[List.cons_append];refine hx.2 _ (rowM_snoc l (some x) m hx.1 ho fun q hq=>hf q ?_);rw[List.getLast?_cons];rcases hl:l.getLast? with _|y
  ·rw[hl] at hq;exact hq
  ·rw[hl] at hq;exact hq
theorem rowM_cons {p:Option Mt} {m:Mt} {l:List Mt} (h:rowM p (m::l)=true):okM m=true/\rowM (some m) l=true:=by
 rcases p with _|p<;>simp only[rowM,Bool.and_eq_true] at h
 ·exact h
 ·exact⟨h.1.1,h.2⟩
theorem rowM_mem:∀(l:List Mt) (p:Option Mt),rowM p l=true-> ∀m∈l,okM m=true
 | [],_,_,m,h=>by cases h
 |x::l,p,h,m,hm=>by
  rcases List.mem_cons.1 hm with rfl|hm
  ·exact(rowM_cons h).1
  ·exact rowM_mem l (some x) (rowM_cons h).2 m hm
theorem okBl_row {l:List Mt} (h:okBl l=true):l.length<=1000/\rowM none l=true:=by
 unfold okBl at h;rw[Bool.and_eq_true,decide_eq_true_eq] at h;exact h
def nextM (h1:Nat) (l:List Mt):Nat:=match l.getLast? with|none=>h1|some m=>m.f+m.c
def lateM (l:List Mt):Nat:=match l.getLast? with|none=>0|some m=>m.l
theorem nextM_snoc (h1:Nat) (l:List Mt) (m:Mt):nextM h1 (l++[m])=m.f+m.c:=by unfold nextM;rw[List.getLast?_append];rfl
theorem lateM_snoc (l:List Mt) (m:Mt):lateM (l++[m])=m.l:=by unfold lateM;rw[List.getLast?_append];rfl
def fl7 (l:List Mt):List Value:=l.flatMap cl7
theorem fl7_cons (m:Mt) (l:List Mt):fl7 (m::l)=.int .i64 (m.a:Int):: .int .i64 (m.s:Int):: .int .i64 (m.r:Int):: .int .i64 (m.c:Int):: .int .i64 (m.f:Int):: .int .i64 (m.e:Int):: .int .i64 (m.l:Int)::fl7 l:=rfl
theorem length_fl7 (l:List Mt):(fl7 l).length=l.length*7:=by
 induction l with
 |nil=>rfl
 |cons x l ih=>rw[fl7_cons];simp only[List.length_cons,ih];omega
theorem fl7_append (a b:List Mt):fl7 (a++b)=fl7 a++fl7 b:=List.flatMap_append ..
theorem fl7_at:∀(l:List Mt) (k:Nat) (x:Mt),l[k]? =some x-> ∀j,j<7->(fl7 l)[k*7+j]? =(cl7 x)[j]?
 | [],k,x,h,_,_=>by simp at h
 |y::l,0,x,h,j,hj=>by
  simp only[List.getElem?_cons_zero,Option.some.injEq] at h;subst h;show(cl7 y++fl7 l)[0*7+j]? =_
  rw[Nat.zero_mul,Nat.zero_add,List.getElem?_append_left (by simpa[cl7] using hj)]
 |y::l,k+1,x,h,j,hj=>by
  have:=fl7_at l k x (by simpa using h) j hj;show(cl7 y++fl7 l)[(k+1)*7+j]? =_
  rw[List.getElem?_append_right (by simp[cl7];omega),<-this];congr 1;simp[cl7];omega
theorem fl7_one (l:List Mt):∀u∈fl7 l,u.oneCell'=true:=by
 intro u hu;unfold fl7 at hu;rw[List.mem_flatMap] at hu;obtain⟨m,-,hm⟩:=hu;simp only[cl7,List.mem_cons,List.not_mem_nil,or_false] at hm;rcases hm with rfl|rfl|rfl|rfl|rfl|rfl|rfl<;>rfl
theorem mt_at {w:World} {B n k:Nat} {A:Option Addr} {l:List Mt} (h:Rd w B 7 A n (fl7 l)) (hk:k<n) :
  ∃ad m,A=some ad/\ad.block<B/\l[k]? =some m/\w.cell? (ad.add (k*7))=some (.int .i64 (m.a:Int)) /\
   w.cell? ⟨(ad.add (k*7)).block,(ad.add (k*7)).off+1,none⟩=some (.int .i64 (m.s:Int))/\w.cell? ⟨(ad.add (k*7)).block,(ad.add (k*7)).off+2,none⟩=some (.int .i64 (m.r:Int)) /\
   w.cell? ⟨(ad.add (k*7)).block,(ad.add (k*7)).off+3,none⟩=some (.int .i64 (m.c:Int))/\w.cell? ⟨(ad.add (k*7)).block,(ad.add (k*7)).off+4,none⟩=some (.int .i64 (m.f:Int)) /\
   w.cell? ⟨(ad.add (k*7)).block,(ad.add (k*7)).off+5,none⟩=some (.int .i64 (m.e:Int))/\w.cell? ⟨(ad.add (k*7)).block,(ad.add (k*7)).off+6,none⟩=some (.int .i64 (m.l:Int)):=by
 obtain⟨ad,e,hb,hc⟩:=h.cells (by omega);have hl:l.length=n:=by have:=h.len;rw[length_fl7] at this;omega
 have hx:l[k]? =some (l[k]'(by omega)):=List.getElem?_eq_getElem (by omega);have hf:=fl7_at l k _ hx;have hg:∀j v,j<7->(cl7 (l[k]'(by omega)))[j]? =some v->w.cell? (ad.add (k*7+j))=some v:=fun j v hj hv=>hc _ _ ((hf j hj).trans hv)
 have ha:∀j,ad.add (k*7+(j+1))=⟨(ad.add (k*7)).block,(ad.add (k*7)).off+(j+1),none⟩:=fun j=>by rw[<-add_add];rfl
 refine⟨ad,_,e,hb,hx,hg 0 _ (by omega) rfl,?_,?_,?_,?_,?_,?_⟩
 ·rw[<-ha];exact hg 1 _ (by omega) rfl
 ·rw[<-ha];exact hg 2 _ (by omega) rfl
 ·rw[<-ha];exact hg 3 _ (by omega) rfl
 ·rw[<-ha];exact hg 4 _ (by omega) rfl
 ·rw[<-ha];exact hg 5 _ (by omega) rfl
 ·rw[<-ha];exact hg 6 _ (by omega) rfl
theorem mt_len {w:World} {B n:Nat} {A:Option Addr} {l:List Mt} (h:Rd w B 7 A n (fl7 l)):l.length=n:=by
 have:=h.len;rw[length_fl7] at this;omega
end Sn
end Go.Proofs.YtlnbjikooadmoaaGreat
namespace Go.Proofs.YtlnbjikooadmoaaGreat
namespace Sn
open Go.RowKit Cr Fm Hd Bk Vi Rd
def Agree (s t:ByteArray) (m:Nat):Prop:=m<=s.size/\m<=t.size/\s.data.toList.take m=t.data.toList.take m
theorem ext_list (s:ByteArray) (a b:Nat):(s.extract a b).data.toList=(s.data.toList.drop a).take (b-a):=by
 rw[ByteArray.data_extract,Array.toList_extract,List.extract_eq_take_drop]
theorem ba_ext {a b:ByteArray} (h:a.data.toList=b.data.toList):a=b:=by
 obtain⟨⟨a⟩⟩:=a;obtain⟨⟨b⟩⟩:=b;simp only at h;rw[h]
theorem size_list (s:ByteArray):s.data.toList.length=s.size:=rfl
section
variable {s t:ByteArray} {m:Nat} (h:Agree s t m)
include h
theorem Agree.symm:Agree t s m:=⟨h.2.1,h.1,h.2.2.symm⟩
theorem Agree.mono {k:Nat} (hk:k<=m):Agree s t k:=by
 refine⟨Nat.le_trans hk h.1,Nat.le_trans hk h.2.1,?_⟩;have:=congrArg (List.take k) h.2.2
 rwa [List.take_take,List.take_take,Nat.min_eq_left hk] at this
theorem Agree.by4 {k:Nat} (hk:k<m):by4 s.data.toList k=by4 t.data.toList k:=by
 unfold Fm.by4;have e:∀l:List UInt8,l.getD k 0=(l.take m).getD k 0:=fun l=>by
  rw[List.getD_eq_getElem?_getD,List.getD_eq_getElem?_getD,List.getElem?_take,if_pos hk]
 rw[e s.data.toList,e t.data.toList,h.2.2]
theorem Agree.u4 {k:Nat} (hk:k+4<=m):u4 s.data.toList k=u4 t.data.toList k:=by
 unfold Fm.u4;rw[h.by4 (k:=k) (by omega),h.by4 (k:=k+1) (by omega),h.by4 (k:=k+2) (by omega),h.by4 (k:=k+3) (by omega)]
theorem Agree.extract {a b:Nat} (hb:b<=m):s.extract a b=t.extract a b:=by
 refine ba_ext ?_;rw[ext_list,ext_list];have e:∀l:List UInt8,(l.drop a).take (b-a)=((l.take m).drop a).take (b-a):=fun l=>by
  rw[List.drop_take,List.take_take,Nat.min_eq_left (by omega)]
 rw[e s.data.toList,e t.data.toList,h.2.2]
theorem Agree.frame {p:Nat} (hg:GF s p) (ht:fto s p<=m):GF t p/\fr t p=fr s p/\fto t p=fto s p:=by
 have h9:=GF_to hg;have e0:=h.by4 (k:=p) (by omega);have e1:=h.u4 (k:=p+1) (by omega);have hfn:fn t p=fn s p:=by unfold fn;rw[e1]
 have hft:fto t p=fto s p:=by unfold fto;rw[hfn]
 have e2:=h.u4 (k:=p+5+Fm.u4 s.data.toList (p+1)) (by unfold fto fn at ht;omega);have e3:=h.extract (a:=p) (b:=p+5+Fm.u4 s.data.toList (p+1)) (by unfold fto fn at ht;omega);refine⟨?_,?_,hft⟩
 ·obtain⟨g1,g2,g3,g4,g5⟩:=hg
  have hm:=h.2.1;refine⟨by omega,by rw[<-e0];exact g2,by rw[<-e1];exact g3,by rw[<-e1];unfold fto fn at ht;omega,?_⟩;rw[<-e1,<-e2,<-e3];exact g5
 ·unfold fr fbody
  rw[hft,hfn,e0,h.extract (a:=p+5) (b:=p+5+fn s p) (by unfold fto at ht;omega)]
end
theorem agree_cut (s:ByteArray) (c:Nat) (hc:c<=s.size):Agree s (s.extract 0 c) c:=by
 refine⟨hc,by rw[ByteArray.size_extract];omega,?_⟩;rw[ext_list,List.drop_zero,Nat.sub_zero,List.take_take,Nat.min_self]
theorem agree_app (s x:ByteArray) (c:Nat) (hc:c<=s.size):Agree s (s.extract 0 c++x) c:=by
 refine⟨hc,by rw[ByteArray.size_append,ByteArray.size_extract];omega,?_⟩;rw[ByteArray.data_append,Array.toList_append,ext_list,List.drop_zero,Nat.sub_zero,List.take_append_of_le_length (by rw[List.length_take,size_list];omega),List.take_take,Nat.min_self]
def metaF (x:Fr):Option Mt:=match peekB x.2.1.data.toList with
 |some (_,raw,count,first,early,late,_)=>if x.1=2 then some ⟨x.2.2.1,x.2.2.2-x.2.2.1,raw,count,first,early,late⟩ else none
 |none=>none
def goesB (h1:Nat) (l:List Mt) (m:Mt):Bool:=decide (l.length<1000/\m.f=nextM h1 l/\lateM l<=m.e)&&okM m
def good (h1:Nat) (l:List Mt) (x:Fr):Option Mt:=match metaF x with
 |none=>none
 |some m=>if goesB h1 l m=true then(match dec x.2.1.data.toList with|none=>none|some _=>some m) else none
theorem good_iff (h1:Nat) (l:List Mt) (x:Fr) (m:Mt):good h1 l x=some m↔metaF x=some m/\goesB h1 l m=true/\ ∃r,dec x.2.1.data.toList=some r:=by
 unfold good;rcases metaF x with _|k
 ·simp
 ·by_cases hg:goesB h1 l k=true
  ·simp only[hg,if_true]
   rcases dec x.2.1.data.toList with _|r
   ·simp
   ·simp only[Option.some.injEq]
    exact⟨fun e=>⟨e,e▸hg,r,rfl⟩,fun e=>e.1⟩
  ·simp only[hg]
   constructor
   ·intro e;cases e
   ·rintro ⟨e,h2,-⟩
    cases e
    exact absurd h2 hg
def run (h1:Nat):List Fr->List Mt->Nat->List Mt×Nat
 | [],l,e=>(l,e)
 |x::xs,l,e=>match good h1 l x with
  |none=>(l,e)
  |some m=>run h1 xs (l++[m]) x.2.2.2
def rn (h1:Nat) (s:ByteArray) (l:List Mt) (e:Nat):List Mt×Nat:=run h1 (frs s e) l e
theorem rn_step {h1:Nat} {s:ByteArray} {l:List Mt} {e:Nat} {m:Mt} (hg:GF s e) (h:good h1 l (fr s e)=some m):rn h1 s l e=rn h1 s (l++[m]) (fto s e):=by
 unfold rn;rw[frs_yes hg,run,h];rfl
theorem rn_stop {h1:Nat} {s:ByteArray} {l:List Mt} {e:Nat} (h:GF s e->good h1 l (fr s e)=none):rn h1 s l e=(l,e):=by
 unfold rn;by_cases hg:GF s e
 ·rw[frs_yes hg,run,h hg]
 ·rw[frs_no hg,run]
theorem rn_ind (h1:Nat) (s:ByteArray) (P:List Mt->Nat->Prop) (stop:∀l e,(GF s e->good h1 l (fr s e)=none)->P l e)
  (step:∀l e m,GF s e->good h1 l (fr s e)=some m->P (l++[m]) (fto s e)->P l e):∀l e,P l e:=by
 have key:∀(n:Nat) (l:List Mt) (e:Nat),s.size-e<=n->P l e:=by
  intro n
  induction n with
  |zero =>
   intro l e he;exact stop l e fun hg=>by have:=GF_to hg;omega
  |succ n ih =>
   intro l e he;by_cases hg:GF s e
   ·rcases hm:good h1 l (fr s e) with _|m
    ·exact stop l e fun _=>hm
    ·have:=GF_to hg
     exact step l e m hg hm (ih _ _ (by omega))
   ·exact stop l e fun h=>absurd h hg
 exact fun l e=>key _ l e (Nat.le_refl _)
theorem rn_pre (h1:Nat) (s:ByteArray):∀l e,∃l2,(rn h1 s l e).1=l++l2/\e<=(rn h1 s l e).2/\(e<=s.size->(rn h1 s l e).2<=s.size):=by
 refine rn_ind h1 s _ ?_ ?_
 ·intro l e h
  rw[rn_stop h];exact⟨[],by simp,Nat.le_refl _,fun h=>h⟩
 ·intro l e m hg h ⟨l2,i1,i2,i3⟩
  have:=GF_to hg;rw[rn_step hg h];exact⟨m::l2,by rw[i1];simp,by omega,fun _=>i3 (by omega)⟩
theorem rn_to (h1:Nat) (s t:ByteArray) (k:Nat) (h:Agree s t k):∀l e,(rn h1 s l e).2<=k->rn h1 t l e=rn h1 t (rn h1 s l e).1 (rn h1 s l e).2:=by
 refine rn_ind h1 s _ ?_ ?_
 ·intro l e hs _
  rw[rn_stop hs]
 ·intro l e m hg hm ih hk
  rw[rn_step hg hm] at hk ⊢;obtain⟨l2,-,h2,-⟩:=rn_pre h1 s (l++[m]) (fto s e);obtain⟨g1,g2,g3⟩:=h.frame hg (by omega);rw[rn_step g1 (by rw[g2];exact hm),g3];exact ih hk
theorem rn_cut (h1:Nat) (s t:ByteArray) (h:Agree s t t.size):∀l e,e<=t.size ->
  (∃l2,(rn h1 s l e).1=(rn h1 t l e).1++l2)/\(rn h1 t l e).2<=(rn h1 s l e).2/\(rn h1 t l e).2<=t.size:=by
 refine rn_ind h1 s _ ?_ ?_
 ·intro l e hs he
  have ht:rn h1 t l e=(l,e):=by
   refine rn_stop fun hg=>?_
   obtain⟨g1,g2,g3⟩:=h.symm.frame hg (GF_to hg).2;rw[<-g2];exact hs g1
  rw[rn_stop hs,ht];exact⟨⟨[],by simp⟩,Nat.le_refl _,he⟩
 ·intro l e m hg hm ih he
  by_cases hf:fto s e<=t.size
  ·obtain⟨g1,g2,g3⟩:=h.frame hg hf
   rw[rn_step hg hm,rn_step g1 (by rw[g2];exact hm),g3];exact ih hf
  ·have ht:rn h1 t l e=(l,e):=by
    refine rn_stop fun hg'=>?_
    obtain⟨g1,g2,g3⟩:=h.symm.frame hg' (GF_to hg').2;exact absurd (GF_to hg').2 (by rw[<-g3];exact hf)
   obtain⟨l2,i1,i2,-⟩:=rn_pre h1 s l e;rw[ht];exact⟨⟨l2,i1⟩,i2,he⟩
theorem rn_end (h1:Nat) (t:ByteArray) (l:List Mt) (e:Nat) (h:t.size<=e):rn h1 t l e=(l,e):=rn_stop fun hg=>by have:=GF_to hg;omega
theorem u4_le (n:Nat) (hn:n<4294967296) (a b:List UInt8):u4 (a++(le 4 n++b)) a.length=n:=by
 have e:∀k (hk:k<4),by4 (a++(le 4 n++b)) (a.length+k)=by4 (le 4 n) k:=by
  intro k hk;unfold by4;rw[List.getD_eq_getElem?_getD,List.getD_eq_getElem?_getD,List.getElem?_append_right (by omega),Nat.add_sub_cancel_left,List.getElem?_append_left (by rw[length_le];omega)]
 have e0:=e 0 (by omega);unfold u4;rw[show a.length=a.length+0 from rfl,e0,Nat.add_zero,e 1 (by omega),e 2 (by omega),e 3 (by omega)];simp only[le,by4,List.getD_cons_zero,List.getD_cons_succ,UInt8.toNat_ofNat'];omega
theorem size_frB (k:UInt8) (b:ByteArray):(frB k b).size=b.size+9:=by
 unfold frB;rw[ByteArray.size_append,size_frA];show _+(le 4 _).toArray.size=_
 rw[List.size_toArray,length_le]
theorem GF_put (pre:ByteArray) (k:UInt8) (b:ByteArray) (hk:1<=k.toNat/\k.toNat<=4) (hb:b.size<=60000) :
  GF (pre++frB k b) pre.size/\fr (pre++frB k b) pre.size=(k.toNat,b,pre.size,pre.size+(b.size+9)):=by
 have hl:(pre++frB k b).data.toList=pre.data.toList++([k]++(le 4 b.size++(b.data.toList++le 4 (crc (frA k b).data.toList)))):=by
  unfold frB frA;simp only[ByteArray.data_append,Array.toList_append,List.append_assoc]
 have hla:(frA k b).data.toList=[k]++(le 4 b.size++b.data.toList):=by
  unfold frA;simp only[ByteArray.data_append,Array.toList_append,List.append_assoc]
 have hsz:(pre++frB k b).size=pre.size+(b.size+9):=by rw[ByteArray.size_append,size_frB]
 have hb4:by4 (pre++frB k b).data.toList pre.size=k.toNat:=by
  rw[hl];unfold by4;rw[List.getD_eq_getElem?_getD,List.getElem?_append_right (by rw[size_list];omega),size_list,Nat.sub_self];rfl
 have hu4:u4 (pre++frB k b).data.toList (pre.size+1)=b.size:=by
  rw[hl,<-List.append_assoc];have:=u4_le b.size (by omega) (pre.data.toList++[k]) (b.data.toList++le 4 (crc (frA k b).data.toList))
  rwa [List.length_append,size_list] at this
 have hfn:fn (pre++frB k b) pre.size=b.size:=hu4;have hex:((pre++frB k b).extract pre.size (pre.size+5+b.size)).data.toList=(frA k b).data.toList:=by
  have hla2:(frA k b).data.toList.length=b.size+5:=by rw[size_list,size_frA]
  rw[ext_list,hl,hla,List.drop_append_of_le_length (by rw[size_list];omega),List.drop_of_length_le (by rw[size_list];omega),List.nil_append];rw[hla] at hla2;rw[<-List.append_assoc,<-List.append_assoc,List.append_assoc [k],List.take_append_of_le_length (by omega),List.take_of_length_le (by omega)]
 have hcr:u4 (pre++frB k b).data.toList (pre.size+5+b.size)=crc (frA k b).data.toList:=by
  rw[hl];have:=u4_le (crc (frA k b).data.toList) (crc_lt _) (pre.data.toList++([k]++(le 4 b.size++b.data.toList))) [];have e:(pre.data.toList++([k]++(le 4 b.size++b.data.toList))).length=pre.size+5+b.size:=by
   simp only[List.length_append,size_list,length_le,List.length_singleton];omega
  rw[e] at this;simp only[List.append_assoc,List.append_nil] at this ⊢;exact this
 have hfb:fbody (pre++frB k b) pre.size=b:=by
  refine ba_ext ?_;unfold fbody;rw[hfn,ext_list,hl];have e:pre.data.toList++([k]++(le 4 b.size++(b.data.toList++le 4 (crc (frA k b).data.toList))))=(pre.data.toList++([k]++le 4 b.size))++(b.data.toList++le 4 (crc (frA k b).data.toList)):=by simp only[List.append_assoc]
  have e2:(pre.data.toList++([k]++le 4 b.size)).length=pre.size+5:=by
   rw[List.length_append,List.length_append,size_list,length_le];rfl
  rw[e,<-e2,List.drop_append_of_le_length (Nat.le_refl _),List.drop_length,List.nil_append,List.take_append_of_le_length (by rw[size_list];omega),List.take_of_length_le (by rw[size_list];omega)]
 refine⟨⟨by omega,by rw[hb4];exact hk,by rw[hu4];exact hb,by rw[hu4];omega,by rw[hu4,hex,hcr]⟩,?_⟩;unfold fr fto;rw[hb4,hfb,hfn];congr 3;omega
end Sn
end Go.Proofs.YtlnbjikooadmoaaGreat
namespace Go.Proofs.YtlnbjikooadmoaaGreat
namespace Sn
open Go.RowKit Cr Fm Hd Bk Vi Rd
def St (e0:Nat) (s:ByteArray) (l:List Mt) (e:Nat):Prop :=
 rowM none l=true/\l.length<=1000/\(l=[]->e=e0)/\(∀m,l.getLast? =some m->m.a+m.s=e)/\ ∀m∈l,GF s m.a/\metaF (fr s m.a)=some m/\ ∃r,dec (fbody s m.a).data.toList=some r
theorem St_nil (e0:Nat) (s:ByteArray):St e0 s [] e0:=⟨rfl,by simp,fun _=>rfl,(fun m h=>by cases h),(fun m h=>by cases h)⟩
theorem metaF_some {x:Fr} {m:Mt} (h:metaF x=some m):x.1=2/\m.a=x.2.2.1/\m.s=x.2.2.2-x.2.2.1/\ ∃md r,peekB x.2.1.data.toList=some (md,m.r,m.c,m.f,m.e,m.l,r):=by
 unfold metaF at h;split at h
 ·rename_i md raw count first early late r hp
  split at h
  ·cases h
   exact⟨‹_›,rfl,rfl,md,r,hp⟩
  ·cases h
 ·cases h
theorem goesB_iff (h1:Nat) (l:List Mt) (m:Mt):goesB h1 l m=true↔(l.length<1000/\m.f=nextM h1 l/\lateM l<=m.e)/\okM m=true:=by
 unfold goesB;rw[Bool.and_eq_true,decide_eq_true_eq]
theorem St_step {h1 e0:Nat} {s:ByteArray} {l:List Mt} {e:Nat} {m:Mt} (h:St e0 s l e) (hg:GF s e) (hm:good h1 l (fr s e)=some m):St e0 s (l++[m]) (fto s e):=by
 obtain⟨s1,s2,s3,s4,s5⟩:=h;rw[good_iff,goesB_iff] at hm;obtain⟨hm,⟨⟨g1,g2,g3⟩,g4⟩,r,hr⟩:=hm;obtain⟨m1,m2,m3,-⟩:=metaF_some hm;have h9:=GF_to hg;have ea:m.a=e:=m2;have es:m.s=fto s e-e:=m3;refine⟨rowM_snoc l none m s1 g4 fun q hq=>?_,by rw[List.length_append,List.length_singleton];omega,fun h=>by simp at h,fun x hx=>?_,fun x hx=>?_⟩
 ·rcases hl:l.getLast? with _|y
  ·rw[hl] at hq;cases hq
  ·rw[hl] at hq
   cases hq
   have:=s4 _ hl;unfold nextM at g2;unfold lateM at g3;rw[hl] at g2 g3;rw[folB_iff];exact⟨by omega,g2,g3⟩
 ·rw[List.getLast?_append] at hx
  obtain rfl:m=x:=Option.some.inj hx;omega
 ·rw[List.mem_append,List.mem_singleton] at hx
  rcases hx with hx|rfl
  ·exact s5 x hx
  ·rw[ea]
   exact⟨hg,hm,r,hr⟩
theorem St_rn (h1 e0:Nat) (s:ByteArray):∀l e,St e0 s l e->St e0 s (rn h1 s l e).1 (rn h1 s l e).2:=by
 refine rn_ind h1 s _ ?_ ?_
 ·intro l e h hs
  rw[rn_stop h];exact hs
 ·intro l e m hg hm ih hs
  rw[rn_step hg hm];exact ih (St_step hs hg hm)
def recs (s:ByteArray) (l:List Mt):List (Int×Int×ByteArray):=l.flatMap fun m=>(dec (fbody s m.a).data.toList).getD []
theorem recs_snoc (s:ByteArray) (l:List Mt) (m:Mt):recs s (l++[m])=recs s l++(dec (fbody s m.a).data.toList).getD []:=by
 unfold recs;rw[List.flatMap_append,List.flatMap_singleton]
def lastR (p:Option (Int×Int×ByteArray)) (l:List (Int×Int×ByteArray)):Option (Int×Int×ByteArray):=match l.getLast? with|none=>p|some r=>some r
theorem rowE_app:∀(a:List (Int×Int×ByteArray)) (p:Option (Int×Int×ByteArray)) (b:List (Int×Int×ByteArray)),rowE p a=0->rowE (lastR p a) b=0->rowE p (a++b)=0
 | [],_,_,_,h=>h
 |x::a,p,b,h,h2=>by
  rw[rowE] at h;split at h;·simp at h
  rename_i ho
  split at h;·simp at h
  rename_i hf
  rw[List.cons_append,rowE,if_neg ho,if_neg hf];refine rowE_app a (some x) b h ?_;have e:lastR p (x::a)=lastR (some x) a:=by
   unfold lastR;rw[List.getLast?_cons];rcases a.getLast? with _|y<;>rfl
  rw[<-e];exact h2
theorem row_behind {p x:Int×Int×ByteArray} {l:List (Int×Int×ByteArray)} (h:rowE none (x::l)=0) (hq:x.1=p.1+1) (ht:p.2.1<=x.2.1):rowE (some p) (x::l)=0:=by
 rw[rowE] at h ⊢;split at h;·simp at h
 rename_i ho
 rw[if_neg ho,if_neg (by simp[off];omega)];simpa[off] using h
theorem dec_known {b r:List UInt8} {md raw count first early late:Nat} {l:List (Int×Int×ByteArray)} (h:dec b=some l) (hp:peekB b=some (md,raw,count,first,early,late,r)) :
  l.length=count/\(at3 l 0).1=first/\(at3 l 0).2.1=early/\(at3 l (l.length-1)).2.1=late:=by
 rw[dec_at hp] at h;split at h
 ·cases h
 split at h
 ·cases h
 split at h
 ·cases h
  exact(fits_iff ..).1 ‹_›
 ·cases h
theorem getLast_at3 {l:List (Int×Int×ByteArray)} (h:l≠ []):l.getLast? =some (at3 l (l.length-1)):=by
 have:0<l.length:=List.length_pos_iff.2 h;rw[List.getLast?_eq_getElem?,at3_get l _ (by omega)]
def RowSt (h1:Nat) (s:ByteArray) (l:List Mt):Prop:=rowE none (recs s l)=0/\ ∀r,(recs s l).getLast? =some r->r.1+1=(nextM h1 l:Nat)/\r.2.1=(lateM l:Nat)
theorem Row_nil (h1:Nat) (s:ByteArray):RowSt h1 s []:=⟨rfl,fun r h=>by cases h⟩
theorem Row_step {h1:Nat} {s:ByteArray} {l:List Mt} {e:Nat} {m:Mt} (h:RowSt h1 s l) (hm:good h1 l (fr s e)=some m):RowSt h1 s (l++[m]):=by
 obtain⟨r1,r2⟩:=h;rw[good_iff,goesB_iff] at hm;obtain⟨hm,⟨⟨g1,g2,g3⟩,g4⟩,L,hr⟩:=hm;obtain⟨-,m2,-,md,rr,hp⟩:=metaF_some hm;have ea:m.a=e:=m2;have hr':dec (fbody s m.a).data.toList=some L:=by rw[ea];exact hr
 obtain⟨d1,d2⟩:=dec_some hr;obtain⟨k1,k2,k3,k4⟩:=dec_known hr hp;obtain⟨j1,-⟩:=jE_row d1;have hlen:0<L.length:=List.length_pos_iff.2 d2;have hz:=row_seq0 L j1 (L.length-1) _ (at3_get L (L.length-1) (by omega));unfold RowSt;rw[recs_snoc,hr',Option.getD_some];refine⟨?_,fun r hl=>?_⟩
 ·refine rowE_app _ _ _ r1 ?_
  rcases hq:(recs s l).getLast? with _|p
  ·unfold lastR;rw[hq];exact j1
  ·unfold lastR;rw[hq]
   obtain⟨q1,q2⟩:=r2 p hq;rcases L with _|⟨x,L⟩
   ·exact absurd rfl d2
   ·have e3:at3 (x::L) 0=x:=rfl
    rw[e3] at k2 k3;exact row_behind j1 (by omega) (by omega)
 ·rw[List.getLast?_append,getLast_at3 d2] at hl
  cases hl
  rw[nextM_snoc,lateM_snoc];omega
theorem Row_rn (h1:Nat) (s:ByteArray):∀l e,RowSt h1 s l->RowSt h1 s (rn h1 s l e).1:=by
 refine rn_ind h1 s _ ?_ ?_
 ·intro l e h hs
  rw[rn_stop h];exact hs
 ·intro l e m hg hm ih hs
  rw[rn_step hg hm];exact ih (Row_step hs hm)
def mtOf (T:Nat) (B:ByteArray) (l:List (Int×Int×ByteArray)) (F E L:Nat):Mt:=⟨T,B.size+9,(joinB l).length,l.length,F,E,L⟩
theorem more_good {h1 T F E L:Nat} {B:ByteArray} {A:List Nat} {l:List Mt} {R:List (Int×Int×ByteArray)} (hB:B.data.toList=blk R A) (hj:jE R=0) (hR:R≠ []) (hA:Sx.Sorted (joinB R) A)
  (hT:T<=1000000) (hF:(at3 R 0).1=F) (hE:(at3 R 0).2.1=E) (hL:(at3 R (R.length-1)).2.1=L) (hl:l.length<1000) (hn:F=nextM h1 l) (ht:lateM l<=E) :
  good h1 l (2,B,T,T+(B.size+9))=some (mtOf T B R F E L):=by
 have hp:=peek_blk A hj hR;have hd:=dec_blk hj hR hA;have he:=ends hj hR;have hb:=blk_len (A:=A) hj hR;have hbs:B.size=(blk R A).length:=by rw[<-hB];rfl
 have h2:=(jE_row hj).2;have h3:=joinB_ge R;have hlen:0<R.length:=List.length_pos_iff.2 hR;have hbl:1<=(blk R A).length:=by unfold blk;simp
 rw[hF,hE,hL] at hp he;rw[good_iff,goesB_iff,okM_iff];refine⟨?_,⟨⟨hl,hn,ht⟩,?_⟩,R,by rw[hB];exact hd⟩
 ·unfold metaF
  rw[hB,hp];simp only[if_true];unfold mtOf;congr 2<;>omega
 ·unfold mtOf
  refine⟨hT,?_⟩;simp only;omega
theorem rn_more {h1 e0 F E L:Nat} {s B:ByteArray} {A:List Nat} {R:List (Int×Int×ByteArray)} (hs:s.size<=1000000) (he:e0<=s.size) (hB:B.data.toList=blk R A) (hj:jE R=0) (hR:R≠ []) (hA:Sx.Sorted (joinB R) A)
  (hF:(at3 R 0).1=F) (hE:(at3 R 0).2.1=E) (hL:(at3 R (R.length-1)).2.1=L) (hl:(rn h1 s [] e0).1.length<1000) (hn:F=nextM h1 (rn h1 s [] e0).1) (ht:lateM (rn h1 s [] e0).1<=E) :
  rn h1 (s.extract 0 (rn h1 s [] e0).2++frB 2 B) [] e0=((rn h1 s [] e0).1++[mtOf (rn h1 s [] e0).2 B R F E L],(rn h1 s [] e0).2+(B.size+9)):=by
 obtain⟨l2,-,p2,p3⟩:=rn_pre h1 s [] e0;have hT:=p3 he;rw[rn_to h1 s _ _ (agree_app s (frB 2 B) _ hT) [] e0 (Nat.le_refl _)];have hes:(s.extract 0 (rn h1 s [] e0).2).size=(rn h1 s [] e0).2:=by rw[ByteArray.size_extract];omega
 have hbs:B.size<=60000:=by
  have:=blk_len (A:=A) hj hR;have:=(jE_row hj).2;have:B.size=(blk R A).length:=by rw[<-hB];rfl
  omega
 obtain⟨g1,g2⟩:=GF_put (s.extract 0 (rn h1 s [] e0).2) 2 B (by decide) hbs;rw[hes] at g1 g2;have hg:=more_good (h1:=h1) (T:=(rn h1 s [] e0).2) (l:=(rn h1 s [] e0).1) hB hj hR hA (by omega) hF hE hL hl hn ht;have hto:fto (s.extract 0 (rn h1 s [] e0).2++frB 2 B) (rn h1 s [] e0).2=(rn h1 s [] e0).2+(B.size+9):=congrArg (fun x:Fr=>x.2.2.2) g2;rw[rn_step g1 (by rw[g2];exact hg),hto,rn_end];rw[ByteArray.size_append,size_frB,hes];omega
end Sn
end Go.Proofs.YtlnbjikooadmoaaGreat
namespace Go.Proofs.YtlnbjikooadmoaaGreat
namespace Dk
open Go.RowKit Hd Fm Sn Bk Rd
theorem meta_size:(Tryz.prog.info? 39).map (·.size)=some 7:=by kernel_rfl
set_option maxHeartbeats 1600000 in
theorem fsize_any (b:ByteArray) (w:World) (hb:b.size<=1000000):Calls Tryz.prog 35 #[.string b] w fun e w'=>e=.returned (.int .i64 ((b.size+9:Nat):Int))/\w=w':=by
 have h1:wrap64 (5+(b.size:Int))=5+(b.size:Int):=by unfold wrap64;omega
 have h2:wrap64 (5+(b.size:Int)+4)=5+(b.size:Int)+4:=by unfold wrap64;omega
 have h3:((b.size+9:Nat):Int)=5+(b.size:Int)+4:=by omega
 rw[h3];clear h3
 go_enter Tryz.func35, Tryz.ntmps35
 go_wp2_with fail
 go_ret
 exact⟨rfl,rfl⟩
def BlkOf (l:List (Int×Int×ByteArray)) (B:ByteArray):Prop:=∃arr,Sx.Sorted (joinB l) arr/\B.data.toList=blk l arr
theorem BlkOf.size {l:List (Int×Int×ByteArray)} {B:ByteArray} (h:BlkOf l B) (hj:jE l=0) (hne:l≠ []):B.size<=(joinB l).length+26/\B.size<=60000:=by
 obtain⟨arr,-,h⟩:=h;have h1:=blk_len (A:=arr) hj hne;have h2:=(jE_row hj).2;have:B.size=(blk l arr).length:=by rw[<-h];rfl
 omega
theorem BlkOf.peek {l:List (Int×Int×ByteArray)} {B:ByteArray} (h:BlkOf l B) (hj:jE l=0) (hne:l≠ []) (w:World) :
  Calls Tryz.prog 36 #[.string B] w fun e w'=>e=.returned (.tuple #[magg 0 0 (joinB l).length l.length (at3 l 0).1.toNat (at3 l 0).2.1.toNat (at3 l (l.length-1)).2.1.toNat,.int .i64 0])/\Below w.heap.size w w':=by
 have hs:=(h.size hj hne).2;obtain⟨arr,-,h⟩:=h;exact peek_yes B w (by omega) (by rw[h];exact peek_blk arr hj hne)
theorem encode_blk (A:Option Addr) (n c:Nat) (l:List (Int×Int×ByteArray)) (w:World) (hrd:Rd w w.heap.size 3 A n (fl3 l)) (hn:n<=100000) (hj:jE l=0) (hne:l≠ []) :
  Calls Tryz.prog 15 #[.slice A n c] w fun e w'=>(∃B,BlkOf l B/\e=.returned (.tuple #[.string B,.int .i64 0]))/\Below w.heap.size w w':=by
 have he:encE l=0:=by unfold encE;rw[if_neg hne];exact hj
 refine(enc_any A n c l w hrd hn).mono ?_;rintro e w' ⟨⟨B,rfl,-,q⟩,hb⟩;obtain⟨arr,h1,rfl⟩:=q he;exact⟨⟨_,⟨arr,h1,rfl⟩,by rw[he]⟩,hb⟩
section
variable {w w':World} {S:Nat->Prop} {bd gN gS:Nat} {v:Value} {D:DS}
structure Ad (w:World) (S:Nat->Prop) (bd:Nat) (D:DS) (bR:Nat) (wx:World):Prop where
 disk:DiskAt wx S bd D
 gr:Below w.heap.size w wx
 vR:Blk wx bR #[.int .i64 0,.int .i64 0,.int .i64 0,.int .i64 0,.int .i64 0,.int .i64 0,.int .i64 0] 39
theorem Ad.ext {bR:Nat} {wx wy:World} (h:Ad w S bd D bR wx) (hb:Below wx.heap.size wx wy):Ad w S bd D bR wy :=
 ⟨h.disk.ext hb,h.gr.trans (hb.mono h.gr.size),h.vR.ext hb⟩
theorem DiskAt.kept (h:DiskAt w S bd D) (hs:w.heap.size<=w'.heap.size) (hb:∀k,S k->w'.heap[k]? =w.heap[k]?):DiskAt w' S bd D:=by
 obtain⟨gN,gS,v,h⟩:=h;exact⟨gN,gS,v,h.kept hs hb⟩
theorem DiskAt.lt (h:DiskAt w S bd D) {k:Nat} (hk:S k):k<w.heap.size:=by
 obtain⟨gN,gS,v,h⟩:=h;exact h.lt k hk
theorem DiskAt.gt (h:DiskAt w S bd D) {k:Nat} (hk:w.heap.size<=k): ¬ S k:=fun hs=>by have:=h.lt hs;omega
theorem DiskAt.own (h:DiskAt w S bd D) {g:Nat} (hg: ¬ S g) (z:Array Value):DiskAt (w.setRow g z) S bd D:=h.kept (by rw[size_setRow];exact Nat.le_refl _) fun k hk=>setRow_other w g k z (by rintro rfl;exact hg hk)
theorem DiskAt.ownC (h:DiskAt w S bd D) {g:Nat} (hg: ¬ S g) (k:Nat) (v:Value):DiskAt (w.setCell ⟨g,k,none⟩ v) S bd D:=h.kept (by simp) fun j hj=>Below.heap_setCell w ⟨g,k,none⟩ v j (by rintro rfl;exact hg hj)
theorem gr_own {S':Nat->Prop} (h:Gr S w S' w') {g:Nat} (hg:w.heap.size<=g) (z:Array Value):Gr S w S' (w'.setRow g z) :=
 ⟨h.os,h.tape,h.output,by rw[size_setRow];exact h.size,fun k hk hn=>(setRow_other w' g k z (by omega)).trans (h.block k hk hn),h.sub⟩
theorem gr_ownC {S':Nat->Prop} (h:Gr S w S' w') {g:Nat} (hg:w.heap.size<=g) (j:Nat) (v:Value):Gr S w S' (w'.setCell ⟨g,j,none⟩ v) :=
 ⟨h.os,h.tape,h.output,by simp;exact h.size,fun k hk hn=>(Below.heap_setCell w' ⟨g,j,none⟩ v k (by show k≠g;omega)).trans (h.block k hk hn),h.sub⟩
set_option maxHeartbeats 6400000 in
set_option maxRecDepth 100000 in
theorem Add_go (h:DiskAt w S bd D) (hc:Calm D) {i g f:Int} {at':Nat} {A:Option Addr} {n c:Nat} {l:List (Int×Int×ByteArray)} {b:Nat} {p:ByteArray×ByteArray} (hh:okH i g f=true) (hl:lk (segN i g) D.now=some b) (hp:D.fl b=some p)
  (hrd:Rd w w.heap.size 3 A n (fl3 l)) (hn:n<=100000) (hj:jE l=0) (hne:l≠ []) (h1:p.2.size+((joinB l).length+35)<=1000000) (h2:((joinB l).length:Int)+35+(usedD D:Int)<=D.cap) :
  Calls Tryz.prog 10 #[.pointer (some ⟨bd,0,none⟩),.agg #[.int .i64 i,.int .i64 g,.int .i64 f],.int .i64 (at':Int),.slice A n c] w fun e w' =>
   ∃B:ByteArray,BlkOf l B/\e=.returned (.tuple #[mv (mtOf at' B l (at3 l 0).1.toNat (at3 l 0).2.1.toNat (at3 l (l.length-1)).2.1.toNat),.int .i64 0])/\ ∃S',DiskAt w' S' bd (setF b (p.1,p.2++frB 2 B) (tick D))/\Gr S w S' w':=by
 have HO:=Lib.hid (fun w=>of_ok (bd:=bd) i g f w hh);have HE:=Lib.hid (fun wx (hx:Below w.heap.size w wx)=>encode_blk A n c l wx (hrd.ext hx) hn hj hne);have HK:=Lib.hid (fun(B:ByteArray) (hB:BlkOf l B) wx=>hB.peek hj hne wx);have HZ:=Lib.hid (fun(B:ByteArray) (hB:BlkOf l B)=>hB.size hj hne);have HP:=Lib.hid (show ∀(B:ByteArray) (wx:World),BlkOf l B->DiskAt wx S bd D->Calls Tryz.prog 37 #[.agg (sgc bd i g f (segN i g)),.int .i64 2,.string B] wx fun e w'=>e=.returned (.int .i64 0)/\ ∃S',DiskAt w' S' bd (setF b (p.1,p.2++frB 2 B) (tick D))/\Gr S wx S' w' from fun B wx hB hx=>by
  have hz:=hB.size hj hne;have:=sput_go (k:=2) hx (i:=i) (g:=g) (f:=f) (body:=B) hc.off hl hp (by decide) hz.2 (by omega) (by omega);rw[hc.e,hc.s] at this;exact this)
 have hnt:∀k,w.heap.size<=k-> ¬ S k:=fun k hk=>h.gt hk
 have HN:=Lib.hid hnt;have hD:=show Ad w S bd D (w.heap.size+1) ((w.alloc (.cells #[.int .i64 i,.int .i64 g,.int .i64 f] 33)).alloc (.cells #[.int .i64 0,.int .i64 0,.int .i64 0,.int .i64 0,.int .i64 0,.int .i64 0,.int .i64 0] 39)) from
  ⟨h.ext (ext_second w _ _),ext_second w _ _,blk_second w _ _ _⟩
 have hat: ¬ (at':Int)<0:=by omega
 unfold mv mtOf;dsimp only;unfold sgc at *
 clear h hc hh hl hp hrd hn hj hne h1 h2 hnt;unfold magg at *
 generalize segN i g=s at *
 generalize (joinB l).length=R at *
 generalize (at3 l 0).1.toNat=F1 at *
 generalize (at3 l 0).2.1.toNat=E1 at *
 generalize (at3 l (l.length-1)).2.1.toNat=L1 at *
 generalize l.length=N at *
 go_enter Tryz.func10, Tryz.ntmps10
 go_wp2_with (first
  |(go_at_call 30;refine(HO.out _).mono ?_;rintro e1 w1 ⟨rfl,hb1⟩;have HA1:=Lib.hid ((hD.ext hb1).ext (ext_alloc w1 (.cells #[.pointer (some ⟨bd,0,none⟩),.int .i64 i,.int .i64 g,.int .i64 f,.string s] 77)));have HS1:=Lib.hid (Blk.new w1 #[.pointer (some ⟨bd,0,none⟩),.int .i64 i,.int .i64 g,.int .i64 f,.string s] 77);clear hb1 hD)
  |(go_at_call 15;refine(HE.out _ HA1.out.gr).mono ?_;rintro e2 w2 ⟨⟨B,hB,rfl⟩,hb2⟩;have HB:=Lib.hid hB;have HA2:=Lib.hid (HA1.out.ext hb2);have HS2:=Lib.hid (HS1.out.ext hb2);clear hb2 hB)
  |(go_at_call 36;refine(HK.out B HB.out _).mono ?_;rintro e3 w3 ⟨rfl,hb3⟩;have HA3:=Lib.hid ((HA2.out.ext hb3).ext (ext_alloc w3 (.cells #[.int .i64 0,.int .i64 0,.int .i64 (R:Int),.int .i64 (N:Int),.int .i64 (F1:Int),.int .i64 (E1:Int),.int .i64 (L1:Int)] 39)));have HS3:=Lib.hid ((HS2.out.ext hb3).alloc (.cells #[.int .i64 0,.int .i64 0,.int .i64 (R:Int),.int .i64 (N:Int),.int .i64 (F1:Int),.int .i64 (E1:Int),.int .i64 (L1:Int)] 39));have HM3:=Lib.hid (Blk.new w3 #[.int .i64 0,.int .i64 0,.int .i64 (R:Int),.int .i64 (N:Int),.int .i64 (F1:Int),.int .i64 (E1:Int),.int .i64 (L1:Int)] 39);have HL3:=Lib.hid (show w.heap.size+1<w3.heap.size from Nat.lt_of_lt_of_le HA2.out.vR.lt hb3.size);clear hb3)
  |(refine wpList_load_row rfl 77 (.tmp 10) rfl w1.heap.size #[.pointer (some ⟨bd,0,none⟩),.int .i64 i,.int .i64 g,.int .i64 f,.string s] _ (by simp[go_sem,Act.eval]) HS3.out Tryz.underlying77 rfl sg_info ?_)
  |(go_at_call 37;refine(HP.out B _ HB.out HA3.out.disk).mono ?_;rintro e4 w4 ⟨rfl,S4,hD4,hG4⟩;have HD4:=Lib.hid (And.intro hD4 hG4);have HR4:=Lib.hid (hG4.blk HA3.out.vR (HN.out _ (Nat.le_succ _)));have hm4:=hG4.blk HM3.out (HN.out _ (by have:=HL3.out;omega));have m0:=hm4.cell 0 (v:=.int .i64 0) rfl;have m1:=hm4.cell 1 (v:=.int .i64 0) rfl;have m2:=hm4.cell 2 (v:=.int .i64 (R:Int)) rfl;have m3:=hm4.cell 3 (v:=.int .i64 (N:Int)) rfl;have m4:=hm4.cell 4 (v:=.int .i64 (F1:Int)) rfl;have m5:=hm4.cell 5 (v:=.int .i64 (E1:Int)) rfl;have m6:=hm4.cell 6 (v:=.int .i64 (L1:Int)) rfl;have z0:=hm4.fz 0;have z1:=hm4.fz 1;clear hD4 hG4 hm4)
  |(go_at_call 35;refine(fsize_any B _ (by have:=(HZ.out B HB.out).2;omega)).mono ?_;rintro e5 w5 ⟨rfl,rfl⟩;have HR5:=Lib.hid (fun x y=>(HR4.out.setCell (k:=w3.heap.size) (j:=0) (by have:=HL3.out;omega) x).setCell (k:=w3.heap.size) (j:=1) (by have:=HL3.out;omega) y))
  |(refine wpList_store_row rfl 39 (.tmp 8) (.tmp 58) rfl (w.heap.size+1) #[.int .i64 (at':Int),.int .i64 ((B.size:Int)+9),.int .i64 (R:Int),.int .i64 (N:Int),.int .i64 (F1:Int),.int .i64 (E1:Int),.int .i64 (L1:Int)] #[.int .i64 0,.int .i64 0,.int .i64 0,.int .i64 0,.int .i64 0,.int .i64 0,.int .i64 0] (by simp[go_sem,Act.eval]) (by simp[go_sem,Act.eval]) (HR5.out _ _) meta_size rfl (by simp[Value.oneCell']) ?_))
 refine bodyPost_ret (v:=.tuple #[.agg #[.int .i64 (at':Int),.int .i64 ((B.size:Int)+9),.int .i64 (R:Int),.int .i64 (N:Int),.int .i64 (F1:Int),.int .i64 (E1:Int),.int .i64 (L1:Int)],.int .i64 0]) (by exact results_cell2 rfl rfl rfl ((HR5.out _ _).set _) Tryz.underlying39 rfl meta_size) (by exact rfl) ?_;have hL:=HL3.out;have nM: ¬ S4 w3.heap.size:=HD4.out.2.out (by simp) (HN.out _ (by omega));have nR: ¬ S4 (w.heap.size+1):=HD4.out.2.out HA3.out.vR.lt (HN.out _ (Nat.le_succ _));exact⟨B,HB.out,rfl,S4,((HD4.out.1.ownC nM 0 _).ownC nM 1 _).own nR _,gr_own (gr_ownC (gr_ownC ((Gr.of_below HA3.out.gr).trans HD4.out.2) (by omega) 0 _) (by omega) 1 _) (Nat.le_succ _) _⟩
end
end Dk
end Go.Proofs.YtlnbjikooadmoaaGreat
namespace Go.Proofs.YtlnbjikooadmoaaGreat
namespace Bk
open Go.RowKit
def rg (lo hi:Int):Value:=.agg #[.int .i64 lo,.int .i64 hi]
set_option maxHeartbeats 6400000 in
set_option maxRecDepth 100000 in
theorem seqs_at (a s:Int) (raw c first early late:Nat) (w:World) (h:first+c<=1000000000) :
  Calls Tryz.prog 112 #[magg a s raw (c+1:Nat) first early late] w fun e w'=>e=.returned (rg first (first+c:Nat))/\Below w.heap.size w w':=by
 have mixed:Tryz.prog.follows .mixedOrders=true:=by kernel_rfl
 have h1: ¬ (((c+1:Nat):Int)<1):=by omega
 have h2:IntKind.i64.wrap (((c+1:Nat):Int)-1)=(c:Int):=by rw[IntKind.wrap_i64];omega
 have h3:IntKind.i64.wrap (9223372036854775807-(c:Int))=9223372036854775807-(c:Int):=by rw[IntKind.wrap_i64];omega
 have h4: ¬ (9223372036854775807-(c:Int)<(first:Int)):=by omega
 have h5:IntKind.i64.wrap ((first:Int)+(c:Int))=((first+c:Nat):Int):=by rw[IntKind.wrap_i64];omega
 have HB:=Lib.hid h;clear h;unfold magg rg;generalize ((c+1:Nat):Int)=C at *
 go_enter Tryz.func112, Tryz.ntmps112
 go_wp2_with fail
 refine bodyPost_ret (v:=.agg #[.int .i64 first,.int .i64 ((first:Int)+c)]) (by simp[results,go_sem]) rfl ?_;exact⟨by simp,(ext_alloc w _).trans ((ext_alloc _ _).mono (by simp))⟩
theorem run_hi (w:World) (x y:Int):Sem.run Tryz.prog (Instr.field 175 (.agg #[.int .i64 x,.int .i64 y]) 1) w=.ok (.int .i64 y) w:=by
 have hu:=Tryz.underlying175;have h3:=Tryz.underlying3;simp[Instr.field,hu,h3,asAgg,part,isAgg,go_sem]
end Bk
end Go.Proofs.YtlnbjikooadmoaaGreat
namespace Go.Proofs.YtlnbjikooadmoaaGreat
namespace Sn
open Go.RowKit Hd Bk
theorem seqs_mt (m:Mt) (w:World) (h:okM m=true):Calls Tryz.prog 112 #[mv m] w fun e w'=>e=.returned (rg m.f (m.f+(m.c-1):Nat))/\Below w.heap.size w w':=by
 rw[okM_iff] at h;have:=seqs_at m.a m.s m.r (m.c-1) m.f m.e m.l w (by omega);unfold mv
 rwa [show m.c-1+1=m.c by omega] at this
set_option maxHeartbeats 3200000 in
set_option maxRecDepth 100000 in
theorem follows_any (p m:Mt) (w:World) (hp:okM p=true) (hm:okM m=true) :
  Calls Tryz.prog 83 #[mv p,mv m] w fun e w'=>e=.returned (.bool (folB p m))/\Below w.heap.size w w':=by
 have mixed:Tryz.prog.follows .mixedOrders=true:=by kernel_rfl
 have HS:=Lib.hid (fun w=>seqs_mt p w hp);rw[okM_iff] at hp hm;have hfol:=folB_iff p m;have HB:=Lib.hid ((ext_alloc w (.cells #[.int .i64 p.a,.int .i64 p.s,.int .i64 p.r,.int .i64 p.c,.int .i64 p.f,.int .i64 p.e,.int .i64 p.l] 39)).trans ((ext_alloc _ (.cells #[.int .i64 m.a,.int .i64 m.s,.int .i64 m.r,.int .i64 m.c,.int .i64 m.f,.int .i64 m.e,.int .i64 m.l] 39)).mono (by simp)));have hp':(p.f+(p.c-1)+1:Nat)=p.f+p.c:=by omega
 have M1:=Lib.hid (show Mb ((w.alloc (.cells #[.int .i64 p.a,.int .i64 p.s,.int .i64 p.r,.int .i64 p.c,.int .i64 p.f,.int .i64 p.e,.int .i64 p.l] 39)).alloc (.cells #[.int .i64 m.a,.int .i64 m.s,.int .i64 m.r,.int .i64 m.c,.int .i64 m.f,.int .i64 m.e,.int .i64 m.l] 39)) w.heap.size p.a p.s p.r p.c p.f p.e p.l from
  (Below.heap_alloc _ _ _ (by simp)).trans (heap_alloc_new w _))
 have M2:=Lib.hid (show Mb ((w.alloc (.cells #[.int .i64 p.a,.int .i64 p.s,.int .i64 p.r,.int .i64 p.c,.int .i64 p.f,.int .i64 p.e,.int .i64 p.l] 39)).alloc (.cells #[.int .i64 m.a,.int .i64 m.s,.int .i64 m.r,.int .i64 m.c,.int .i64 m.f,.int .i64 m.e,.int .i64 m.l] 39)) (w.heap.size+1) m.a m.s m.r m.c m.f m.e m.l from by
  have hh:=heap_alloc_new (w.alloc (.cells #[.int .i64 p.a,.int .i64 p.s,.int .i64 p.r,.int .i64 p.c,.int .i64 p.f,.int .i64 p.e,.int .i64 p.l] 39)) (.cells #[.int .i64 m.a,.int .i64 m.s,.int .i64 m.r,.int .i64 m.c,.int .i64 m.f,.int .i64 m.e,.int .i64 m.l] 39);rw[show(w.alloc (.cells #[.int .i64 p.a,.int .i64 p.s,.int .i64 p.r,.int .i64 p.c,.int .i64 p.f,.int .i64 p.e,.int .i64 p.l] 39)).heap.size=w.heap.size+1 by simp] at hh;exact hh)
 unfold mv magg;generalize folB p m=r at *
 obtain⟨pa,ps,pr,pc,pf,pe,pl⟩:=p;obtain⟨ma,ms,mr,mc,mf,me,ml⟩:=m;unfold mv magg rg at HS;dsimp only at *
 have HF:=Lib.hid hfol;have HP:=Lib.hid hp';have HK:=Lib.hid (And.intro hp hm);clear hfol hp'
 go_enter Tryz.func83, Tryz.ntmps83
 go_wp2_with fail
 generalize (w.alloc (.cells #[.int .i64 pa,.int .i64 ps,.int .i64 pr,.int .i64 pc,.int .i64 pf,.int .i64 pe,.int .i64 pl] 39)).alloc (.cells #[.int .i64 ma,.int .i64 ms,.int .i64 mr,.int .i64 mc,.int .i64 mf,.int .i64 me,.int .i64 ml] 39)=w2 at *
 have l1:=M1.out.lt;have l2:=M2.out.lt;have a0:∀q:Bw w2,q.to.cell? ⟨w.heap.size,0,none⟩=some (.int .i64 pa):=fun q=>q.cell l1 M1.out.c0
 have a1:∀q:Bw w2,q.to.cell? ⟨w.heap.size,1,none⟩=some (.int .i64 ps):=fun q=>q.cell l1 M1.out.c1
 have a2:∀q:Bw w2,q.to.cell? ⟨w.heap.size,2,none⟩=some (.int .i64 pr):=fun q=>q.cell l1 M1.out.c2
 have a3:∀q:Bw w2,q.to.cell? ⟨w.heap.size,3,none⟩=some (.int .i64 pc):=fun q=>q.cell l1 M1.out.c3
 have a4:∀q:Bw w2,q.to.cell? ⟨w.heap.size,4,none⟩=some (.int .i64 pf):=fun q=>q.cell l1 M1.out.c4
 have a5:∀q:Bw w2,q.to.cell? ⟨w.heap.size,5,none⟩=some (.int .i64 pe):=fun q=>q.cell l1 M1.out.c5
 have a6:∀q:Bw w2,q.to.cell? ⟨w.heap.size,6,none⟩=some (.int .i64 pl):=fun q=>q.cell l1 M1.out.c6
 have b0:∀q:Bw w2,q.to.cell? ⟨w.heap.size+1,0,none⟩=some (.int .i64 ma):=fun q=>q.cell l2 M2.out.c0
 have b4:∀q:Bw w2,q.to.cell? ⟨w.heap.size+1,4,none⟩=some (.int .i64 mf):=fun q=>q.cell l2 M2.out.c4
 have b5:∀q:Bw w2,q.to.cell? ⟨w.heap.size+1,5,none⟩=some (.int .i64 me):=fun q=>q.cell l2 M2.out.c5
 have s1:IntKind.i64.wrap ((pa:Int)+(ps:Int))=(pa:Int)+ps:=by rw[IntKind.wrap_i64];omega
 obtain⟨hi,hhi⟩:∃hi:Int,((pf+(pc-1):Nat):Int)=hi:=⟨_,rfl⟩
 rw[hhi] at HS;have s2:IntKind.i64.wrap (hi+1)=hi+1:=by rw[IntKind.wrap_i64];omega
 have hh2:hi+1=pf+pc:=by omega
 clear hhi hp hm;have hff:∀q:Bw w2,Sem.run Tryz.prog (Instr.field 175 (.agg #[.int .i64 (pf:Int),.int .i64 hi]) 1) q.to=.ok (.int .i64 hi) q.to:=fun q=>run_hi q.to _ _
 by_cases h1:ma=pa+ps
 ·have t1:((ma:Int)==(pa:Int)+ps)=true:=by rw[beq_iff_eq];omega
  by_cases h2:mf=pf+pc
  ·have t2:((mf:Int)==hi+1)=true:=by rw[beq_iff_eq];omega
   by_cases h3:pl<=me
   ·have HR:=Lib.hid (show true=r from(HF.out.2 ⟨h1,h2,h3⟩).symm)
    have t3:(pl:Int)<=(me:Int):=by omega
    clear h1 h2 h3 hh2;refine wp_region_quiet_below (by assumption) (by kernel_rfl) ?_
    repeat (first|go_big_quiet_skip|quiet_step (first|(go_at_call 112;refine below_of (HS.out _))))
    refine wpQuiet_nil ?_;intro _ hw';obtain⟨q,rfl⟩:=hw';go_wp2_with fail
    go_ret
    exact⟨by rw[<-HR.out];rfl,HB.out.trans (q.h.mono HB.out.size)⟩
   ·have HR:=Lib.hid (show false=r by rcases r with _|_;rfl;exact absurd (HF.out.1 rfl).2.2 h3)
    have t3: ¬ (pl:Int)<=(me:Int):=by omega
    clear h1 h2 h3 hh2;refine wp_region_quiet_below (by assumption) (by kernel_rfl) ?_
    repeat (first|go_big_quiet_skip|quiet_step (first|(go_at_call 112;refine below_of (HS.out _))))
    refine wpQuiet_nil ?_;intro _ hw';obtain⟨q,rfl⟩:=hw';go_wp2_with fail
    go_ret
    exact⟨by rw[<-HR.out];rfl,HB.out.trans (q.h.mono HB.out.size)⟩
  ·have t2:((mf:Int)==hi+1)=false:=by rw[beq_eq_false_iff_ne];omega
   have HR:=Lib.hid (show false=r by rcases r with _|_;rfl;exact absurd (HF.out.1 rfl).2.1 h2);clear h1 h2 hh2;refine wp_region_quiet_below (by assumption) (by kernel_rfl) ?_
   repeat (first|go_big_quiet_skip|quiet_step (first|(go_at_call 112;refine below_of (HS.out _))))
   refine wpQuiet_nil ?_;intro _ hw';obtain⟨q,rfl⟩:=hw';go_wp2_with fail
   go_ret
   exact⟨by rw[<-HR.out];rfl,HB.out.trans (q.h.mono HB.out.size)⟩
 ·have t1:((ma:Int)==(pa:Int)+ps)=false:=by rw[beq_eq_false_iff_ne];omega
  have HR:=Lib.hid (show false=r by rcases r with _|_;rfl;exact absurd (HF.out.1 rfl).1 h1);clear h1 hh2;refine wp_region_quiet_below (by assumption) (by kernel_rfl) ?_
  repeat (first|go_big_quiet_skip|quiet_step (fail))
  refine wpQuiet_nil ?_;intro _ hw';obtain⟨q,rfl⟩:=hw';go_wp2_with fail
  go_ret
  exact⟨by rw[<-HR.out];rfl,HB.out.trans (q.h.mono HB.out.size)⟩
end Sn
end Go.Proofs.YtlnbjikooadmoaaGreat
namespace Go.Proofs.YtlnbjikooadmoaaGreat
namespace Sn
open Go.RowKit Hd Bk
def blE (l:List Mt):Int:=if okBl l=true then 0 else 211
theorem blE_yes {l:List Mt} (h:okBl l=true):blE l=0:=if_pos h
theorem blE_no {l:List Mt} (h:okBl l=false):blE l=211:=if_neg (by rw[h];simp)
def pvM (l:List Mt) (k:Nat):Option Mt:=if k=0 then none else l[k-1]?
theorem rowM_bad {l:List Mt} {k:Nat} {m:Mt} (h:l[k]? =some m) (ho:okM m=false):rowM (pvM l k) (l.drop k)=false:=by
 rw[drop_at l k m h];rcases pvM l k with _|p<;>simp[rowM,ho]
theorem rowM_off {l:List Mt} {k:Nat} {p m:Mt} (hp:l[k]? =some p) (h:l[k+1]? =some m) (ho:folB p m=false):rowM (pvM l (k+1)) (l.drop (k+1))=false:=by
 have e:pvM l (k+1)=some p:=by unfold pvM;rw[if_neg (by omega),Nat.add_sub_cancel,hp]
 rw[drop_at l (k+1) m h,e];simp[rowM,ho]
theorem rowM_on {l:List Mt} {k:Nat} {p m:Mt} (hp:l[k]? =some p) (h:l[k+1]? =some m) (h1:okM m=true) (ho:folB p m=true):rowM (pvM l (k+1)) (l.drop (k+1))=rowM (pvM l (k+2)) (l.drop (k+2)):=by
 have e:pvM l (k+1)=some p:=by unfold pvM;rw[if_neg (by omega),Nat.add_sub_cancel,hp]
 have e2:pvM l (k+2)=some m:=by unfold pvM;rw[if_neg (by omega),show k+2-1=k+1 by omega,h]
 rw[drop_at l (k+1) m h,e,e2];simp[rowM,ho,h1]
theorem rowM_on0 {l:List Mt} {m:Mt} (h:l[0]? =some m) (h1:okM m=true):rowM (pvM l 0) (l.drop 0)=rowM (pvM l 1) (l.drop 1):=by
 have e2:pvM l 1=some m:=by unfold pvM;rw[if_neg (by omega)];exact h
 rw[drop_at l 0 m h,e2];simp[pvM,rowM,h1]
theorem rowM_end {l:List Mt} {k:Nat} (h:l.length<=k):rowM (pvM l k) (l.drop k)=true:=by
 rw[List.drop_eq_nil_of_le h];rcases pvM l k with _|p<;>rfl
theorem alone_mt (m:Mt) (w:World) {b:Bool} (h:okM m=b):Calls Tryz.prog 82 #[mv m] w fun e w'=>e=.returned (.bool b)/\Below w.heap.size w w':=by
 have:=alone_any m.a m.s m.r m.c m.f m.e m.l w;subst h;exact this
theorem follows_mt (p m:Mt) (w:World) (hp:okM p=true) (hm:okM m=true) {b:Bool} (h:folB p m=b) :
  Calls Tryz.prog 83 #[mv p,mv m] w fun e w'=>e=.returned (.bool b)/\Below w.heap.size w w':=by
 subst h;exact follows_any p m w hp hm
set_option maxHeartbeats 6400000 in
set_option maxRecDepth 100000 in
theorem blocks_any (A:Option Addr) (n c:Nat) (l:List Mt) (w:World) (hrd:Rd w w.heap.size 7 A n (fl7 l)) (hn:n<=1000000) :
  Calls Tryz.prog 33 #[.slice A n c] w fun e w'=>e=.returned (.int .i64 (blE l))/\Below w.heap.size w w':=by
 have mixed:Tryz.prog.follows .mixedOrders=true:=by kernel_rfl
 have hln:=mt_len hrd;by_cases hbig:1000<n
 ·have HE:=Lib.hid (blE_no (l:=l) (by unfold okBl;rw[hln,Bool.and_eq_false_iff];left;exact decide_eq_false (by omega)))
  have hb':(1000:Int)<(n:Int):=by omega
  clear hrd hln
  go_enter Tryz.func33, Tryz.ntmps33
  go_wp2_with fail
  go_ret
  exact⟨by rw[HE.out];rfl,Below.refl _ _⟩
 ·have hb': ¬ (1000:Int)<(n:Int):=by omega
  have HOK:=Lib.hid (show ∀b,rowM none l=b->okBl l=b from fun b h=>by unfold okBl;rw[h,hln,decide_eq_true (by omega)];rfl);have HLN:=Lib.hid hln;have HR:=Lib.hid hrd;clear hrd hln hbig
  go_enter Tryz.func33, Tryz.ntmps33
  go_wp2_with fail
  go_loopw [10] (fun v wr=>∃k:Nat,v=.int .i64 k/\k<=n/\Hid (rowM (pvM l k) (l.drop k)=rowM none l/\(∀j r,j<k->l[j]? =some r->okM r=true)/\Below w.heap.size w wr)) (fun v _=>n-(intOf v).toNat)
  case atStart=>exact⟨0,by go_num,by omega,rfl,fun j r h=>absurd h (by omega),Below.refl _ _⟩
  case round =>
   obtain⟨k,rfl,hk,HX⟩:=hrel;by_cases hkn:k<n
   ·obtain⟨ad,m,hA,hbk,hx,hc0,hc1,hc2,hc3,hc4,hc5,hc6⟩:=mt_at (HR.out.below HX.out.2.2) hkn
    have hbr:(ad.add (k*7)).block<wr.heap.size:=by rw[add_block];exact Nat.lt_of_lt_of_le hbk HX.out.2.2.size
    have HBR:=Lib.hid hbr;have HBN:=Lib.hid (HX.out.2.2.trans ((ext_alloc wr (.cells #[.int .i64 m.a,.int .i64 m.s,.int .i64 m.r,.int .i64 m.c,.int .i64 m.f,.int .i64 m.e,.int .i64 m.l] 39)).mono HX.out.2.2.size));have HM0:=Lib.hid (show Mb (wr.alloc (.cells #[.int .i64 m.a,.int .i64 m.s,.int .i64 m.r,.int .i64 m.c,.int .i64 m.f,.int .i64 m.e,.int .i64 m.l] 39)) wr.heap.size m.a m.s m.r m.c m.f m.e m.l from heap_alloc_new wr _);have HSZ:=Lib.hid HX.out.2.2.size;clear hbr;by_cases ho:okM m=true
    ·have HA:=Lib.hid (fun w=>alone_mt m w ho)
     by_cases hk0:k=0
     ·have HN:=Lib.hid (show rowM (pvM l (k+1)) (l.drop (k+1))=rowM none l/\ ∀j r,j<k+1->l[j]? =some r->okM r=true from by
       subst hk0;refine⟨(rowM_on0 hx ho).symm.trans HX.out.1,fun j r hj hr=>?_⟩;obtain rfl:j=0:=by omega
       rw[hx] at hr;cases hr;exact ho)
      have hk1:decide (0<k)=false:=decide_eq_false (by omega);obtain⟨ma,ms,mr,mc,mf,me,ml⟩:=m;unfold mv magg at HA;dsimp only at *
      subst hA;clear ho hx HX hbk hk0;go_wp2_with fail
      generalize wr.alloc (.cells #[.int .i64 (ma:Int),.int .i64 (ms:Int),.int .i64 (mr:Int),.int .i64 (mc:Int),.int .i64 (mf:Int),.int .i64 (me:Int),.int .i64 (ml:Int)] 39)=w2 at *
      have l2:=HM0.out.lt;have b0:∀q:Bw w2,q.to.cell? ⟨wr.heap.size,0,none⟩=some (.int .i64 ma):=fun q=>q.cell l2 HM0.out.c0
      have b1:∀q:Bw w2,q.to.cell? ⟨wr.heap.size,1,none⟩=some (.int .i64 ms):=fun q=>q.cell l2 HM0.out.c1
      have b2:∀q:Bw w2,q.to.cell? ⟨wr.heap.size,2,none⟩=some (.int .i64 mr):=fun q=>q.cell l2 HM0.out.c2
      have b3:∀q:Bw w2,q.to.cell? ⟨wr.heap.size,3,none⟩=some (.int .i64 mc):=fun q=>q.cell l2 HM0.out.c3
      have b4:∀q:Bw w2,q.to.cell? ⟨wr.heap.size,4,none⟩=some (.int .i64 mf):=fun q=>q.cell l2 HM0.out.c4
      have b5:∀q:Bw w2,q.to.cell? ⟨wr.heap.size,5,none⟩=some (.int .i64 me):=fun q=>q.cell l2 HM0.out.c5
      have b6:∀q:Bw w2,q.to.cell? ⟨wr.heap.size,6,none⟩=some (.int .i64 ml):=fun q=>q.cell l2 HM0.out.c6
      refine wp_region_quiet_below (by assumption) (by kernel_rfl) ?_
      repeat (first|go_big_quiet_skip|quiet_step (first|(go_at_call 82;refine below_of (HA.out _))))
      refine wpQuiet_nil ?_;intro _ hw';obtain⟨q,rfl⟩:=hw';go_wp2_with fail
      go_roundw
      case rel=>exact⟨k+1,by go_num,by omega,HN.out.1,HN.out.2,HBN.out.trans (q.h.mono HBN.out.size)⟩
      case measure=>simp[intOf];omega
     ·obtain⟨j,hj⟩:∃j,k=j+1:=⟨k-1,by omega⟩
      have hX:Rd w w.heap.size 7 A n (fl7 l):=HR.out;obtain⟨ad',p,hA',hbk',hxp,pc0,pc1,pc2,pc3,pc4,pc5,pc6⟩:=mt_at (k:=j) (hX.below HX.out.2.2) (by omega);obtain rfl:ad=ad':=Option.some.inj (hA.symm.trans hA');have hop:okM p=true:=HX.out.2.1 j p (by omega) hxp;have PB:=Lib.hid (show(ad.add (j*7)).block<(wr.alloc (.cells #[.int .i64 m.a,.int .i64 m.s,.int .i64 m.r,.int .i64 m.c,.int .i64 m.f,.int .i64 m.e,.int .i64 m.l] 39)).heap.size from by rw[add_block];have:=HSZ.out;simp;omega);have hlt:(ad.add (j*7)).block<wr.heap.size:=by rw[add_block];exact Nat.lt_of_lt_of_le hbk HSZ.out
      have PC:=Lib.hid (And.intro ((World.cell?_alloc_lt wr (.cells #[.int .i64 m.a,.int .i64 m.s,.int .i64 m.r,.int .i64 m.c,.int .i64 m.f,.int .i64 m.e,.int .i64 m.l] 39) _ hlt).trans pc0) (And.intro ((World.cell?_alloc_lt wr (.cells #[.int .i64 m.a,.int .i64 m.s,.int .i64 m.r,.int .i64 m.c,.int .i64 m.f,.int .i64 m.e,.int .i64 m.l] 39) ⟨(ad.add (j*7)).block,(ad.add (j*7)).off+1,none⟩ hlt).trans pc1)
       (And.intro ((World.cell?_alloc_lt wr (.cells #[.int .i64 m.a,.int .i64 m.s,.int .i64 m.r,.int .i64 m.c,.int .i64 m.f,.int .i64 m.e,.int .i64 m.l] 39) ⟨(ad.add (j*7)).block,(ad.add (j*7)).off+2,none⟩ hlt).trans pc2) (And.intro ((World.cell?_alloc_lt wr (.cells #[.int .i64 m.a,.int .i64 m.s,.int .i64 m.r,.int .i64 m.c,.int .i64 m.f,.int .i64 m.e,.int .i64 m.l] 39) ⟨(ad.add (j*7)).block,(ad.add (j*7)).off+3,none⟩ hlt).trans pc3)
       (And.intro ((World.cell?_alloc_lt wr (.cells #[.int .i64 m.a,.int .i64 m.s,.int .i64 m.r,.int .i64 m.c,.int .i64 m.f,.int .i64 m.e,.int .i64 m.l] 39) ⟨(ad.add (j*7)).block,(ad.add (j*7)).off+4,none⟩ hlt).trans pc4) (And.intro ((World.cell?_alloc_lt wr (.cells #[.int .i64 m.a,.int .i64 m.s,.int .i64 m.r,.int .i64 m.c,.int .i64 m.f,.int .i64 m.e,.int .i64 m.l] 39) ⟨(ad.add (j*7)).block,(ad.add (j*7)).off+5,none⟩ hlt).trans pc5)
        ((World.cell?_alloc_lt wr (.cells #[.int .i64 m.a,.int .i64 m.s,.int .i64 m.r,.int .i64 m.c,.int .i64 m.f,.int .i64 m.e,.int .i64 m.l] 39) ⟨(ad.add (j*7)).block,(ad.add (j*7)).off+6,none⟩ hlt).trans pc6)))))))
      have hk1:decide (0<k)=true:=decide_eq_true (by omega);have w1:IntKind.i64.wrap ((k:Int)-1)=(j:Int):=by rw[IntKind.wrap_i64];omega
      have hjn:(j:Int)<(n:Int):=by omega
      by_cases hf:folB p m=true
      ·have HFO:=Lib.hid (fun w=>follows_mt p m w hop ho hf)
       have HN:=Lib.hid (show rowM (pvM l (k+1)) (l.drop (k+1))=rowM none l/\ ∀j r,j<k+1->l[j]? =some r->okM r=true from by
        subst hj;refine⟨(rowM_on hxp hx ho hf).symm.trans HX.out.1,fun i r hi hr=>?_⟩;rcases Nat.lt_or_ge i (j+1) with h|h
        ·exact HX.out.2.1 i r h hr
        ·obtain rfl:i=j+1:=by omega
         rw[hx] at hr;cases hr;exact ho)
       obtain⟨ma,ms,mr,mc,mf,me,ml⟩:=m;obtain⟨pa,ps,pr,pc,pf,pe,pl⟩:=p;unfold mv magg at HA HFO;dsimp only at *
       subst hA;clear ho hx HX hbk hk0 hj hX hA' hbk' hxp pc0 pc1 pc2 pc3 pc4 pc5 pc6 hop hlt hf;go_wp2_with fail
       generalize wr.alloc (.cells #[.int .i64 (ma:Int),.int .i64 (ms:Int),.int .i64 (mr:Int),.int .i64 (mc:Int),.int .i64 (mf:Int),.int .i64 (me:Int),.int .i64 (ml:Int)] 39)=w2 at *
       have l2:=HM0.out.lt;have b0:∀q:Bw w2,q.to.cell? ⟨wr.heap.size,0,none⟩=some (.int .i64 ma):=fun q=>q.cell l2 HM0.out.c0
       have b1:∀q:Bw w2,q.to.cell? ⟨wr.heap.size,1,none⟩=some (.int .i64 ms):=fun q=>q.cell l2 HM0.out.c1
       have b2:∀q:Bw w2,q.to.cell? ⟨wr.heap.size,2,none⟩=some (.int .i64 mr):=fun q=>q.cell l2 HM0.out.c2
       have b3:∀q:Bw w2,q.to.cell? ⟨wr.heap.size,3,none⟩=some (.int .i64 mc):=fun q=>q.cell l2 HM0.out.c3
       have b4:∀q:Bw w2,q.to.cell? ⟨wr.heap.size,4,none⟩=some (.int .i64 mf):=fun q=>q.cell l2 HM0.out.c4
       have b5:∀q:Bw w2,q.to.cell? ⟨wr.heap.size,5,none⟩=some (.int .i64 me):=fun q=>q.cell l2 HM0.out.c5
       have b6:∀q:Bw w2,q.to.cell? ⟨wr.heap.size,6,none⟩=some (.int .i64 ml):=fun q=>q.cell l2 HM0.out.c6
       have p0:∀q:Bw w2,q.to.cell? (ad.add (j*7))=some (.int .i64 pa):=fun q=>q.cellAt PB.out PC.out.1
       have p1:∀q:Bw w2,q.to.cell? ⟨(ad.add (j*7)).block,(ad.add (j*7)).off+1,none⟩=some (.int .i64 ps):=fun q=>q.cellAt PB.out PC.out.2.1
       have p2:∀q:Bw w2,q.to.cell? ⟨(ad.add (j*7)).block,(ad.add (j*7)).off+2,none⟩=some (.int .i64 pr):=fun q=>q.cellAt PB.out PC.out.2.2.1
       have p3:∀q:Bw w2,q.to.cell? ⟨(ad.add (j*7)).block,(ad.add (j*7)).off+3,none⟩=some (.int .i64 pc):=fun q=>q.cellAt PB.out PC.out.2.2.2.1
       have p4:∀q:Bw w2,q.to.cell? ⟨(ad.add (j*7)).block,(ad.add (j*7)).off+4,none⟩=some (.int .i64 pf):=fun q=>q.cellAt PB.out PC.out.2.2.2.2.1
       have p5:∀q:Bw w2,q.to.cell? ⟨(ad.add (j*7)).block,(ad.add (j*7)).off+5,none⟩=some (.int .i64 pe):=fun q=>q.cellAt PB.out PC.out.2.2.2.2.2.1
       have p6:∀q:Bw w2,q.to.cell? ⟨(ad.add (j*7)).block,(ad.add (j*7)).off+6,none⟩=some (.int .i64 pl):=fun q=>q.cellAt PB.out PC.out.2.2.2.2.2.2
       refine wp_region_quiet_below (by assumption) (by kernel_rfl) ?_
       repeat (first|go_big_quiet_skip|quiet_step (first|(go_at_call 82;refine below_of (HA.out _))|(go_at_call 83;refine below_of (HFO.out _))))
       refine wpQuiet_nil ?_;intro _ hw';obtain⟨q,rfl⟩:=hw';go_wp2_with fail
       go_roundw
       case rel=>exact⟨k+1,by go_num,by omega,HN.out.1,HN.out.2,HBN.out.trans (q.h.mono HBN.out.size)⟩
       case measure=>simp[intOf];omega
      ·have hf':folB p m=false:=by simpa using hf
       have HFO:=Lib.hid (fun w=>follows_mt p m w hop ho hf');have HE:=Lib.hid (blE_no (HOK.out false (by
        subst hj;rw[<-HX.out.1];exact rowM_off hxp hx hf')))
       obtain⟨ma,ms,mr,mc,mf,me,ml⟩:=m;obtain⟨pa,ps,pr,pc,pf,pe,pl⟩:=p;unfold mv magg at HA HFO;dsimp only at *
       subst hA;clear ho hx HX hbk hk0 hj hX hA' hbk' hxp pc0 pc1 pc2 pc3 pc4 pc5 pc6 hop hlt hf hf';go_wp2_with fail
       generalize wr.alloc (.cells #[.int .i64 (ma:Int),.int .i64 (ms:Int),.int .i64 (mr:Int),.int .i64 (mc:Int),.int .i64 (mf:Int),.int .i64 (me:Int),.int .i64 (ml:Int)] 39)=w2 at *
       have l2:=HM0.out.lt;have b0:∀q:Bw w2,q.to.cell? ⟨wr.heap.size,0,none⟩=some (.int .i64 ma):=fun q=>q.cell l2 HM0.out.c0
       have b1:∀q:Bw w2,q.to.cell? ⟨wr.heap.size,1,none⟩=some (.int .i64 ms):=fun q=>q.cell l2 HM0.out.c1
       have b2:∀q:Bw w2,q.to.cell? ⟨wr.heap.size,2,none⟩=some (.int .i64 mr):=fun q=>q.cell l2 HM0.out.c2
       have b3:∀q:Bw w2,q.to.cell? ⟨wr.heap.size,3,none⟩=some (.int .i64 mc):=fun q=>q.cell l2 HM0.out.c3
       have b4:∀q:Bw w2,q.to.cell? ⟨wr.heap.size,4,none⟩=some (.int .i64 mf):=fun q=>q.cell l2 HM0.out.c4
       have b5:∀q:Bw w2,q.to.cell? ⟨wr.heap.size,5,none⟩=some (.int .i64 me):=fun q=>q.cell l2 HM0.out.c5
       have b6:∀q:Bw w2,q.to.cell? ⟨wr.heap.size,6,none⟩=some (.int .i64 ml):=fun q=>q.cell l2 HM0.out.c6
       have p0:∀q:Bw w2,q.to.cell? (ad.add (j*7))=some (.int .i64 pa):=fun q=>q.cellAt PB.out PC.out.1
       have p1:∀q:Bw w2,q.to.cell? ⟨(ad.add (j*7)).block,(ad.add (j*7)).off+1,none⟩=some (.int .i64 ps):=fun q=>q.cellAt PB.out PC.out.2.1
       have p2:∀q:Bw w2,q.to.cell? ⟨(ad.add (j*7)).block,(ad.add (j*7)).off+2,none⟩=some (.int .i64 pr):=fun q=>q.cellAt PB.out PC.out.2.2.1
       have p3:∀q:Bw w2,q.to.cell? ⟨(ad.add (j*7)).block,(ad.add (j*7)).off+3,none⟩=some (.int .i64 pc):=fun q=>q.cellAt PB.out PC.out.2.2.2.1
       have p4:∀q:Bw w2,q.to.cell? ⟨(ad.add (j*7)).block,(ad.add (j*7)).off+4,none⟩=some (.int .i64 pf):=fun q=>q.cellAt PB.out PC.out.2.2.2.2.1
       have p5:∀q:Bw w2,q.to.cell? ⟨(ad.add (j*7)).block,(ad.add (j*7)).off+5,none⟩=some (.int .i64 pe):=fun q=>q.cellAt PB.out PC.out.2.2.2.2.2.1
       have p6:∀q:Bw w2,q.to.cell? ⟨(ad.add (j*7)).block,(ad.add (j*7)).off+6,none⟩=some (.int .i64 pl):=fun q=>q.cellAt PB.out PC.out.2.2.2.2.2.2
       refine wp_region_quiet_below (by assumption) (by kernel_rfl) ?_
       repeat (first|go_big_quiet_skip|quiet_step (first|(go_at_call 82;refine below_of (HA.out _))|(go_at_call 83;refine below_of (HFO.out _))))
       refine wpQuiet_nil ?_;intro _ hw';obtain⟨q,rfl⟩:=hw';go_wp2_with fail
       go_ret
       exact⟨by rw[HE.out];rfl,HBN.out.trans (q.h.mono HBN.out.size)⟩
    ·have ho':okM m=false:=by simpa using ho
     have HA:=Lib.hid (fun w=>alone_mt m w ho');have HE:=Lib.hid (blE_no (HOK.out false (by rw[<-HX.out.1];exact rowM_bad hx ho')));obtain⟨ma,ms,mr,mc,mf,me,ml⟩:=m;unfold mv magg at HA;dsimp only at *
     subst hA;clear ho ho' hx HX hbk;go_wp2_with fail
     generalize wr.alloc (.cells #[.int .i64 (ma:Int),.int .i64 (ms:Int),.int .i64 (mr:Int),.int .i64 (mc:Int),.int .i64 (mf:Int),.int .i64 (me:Int),.int .i64 (ml:Int)] 39)=w2 at *
     have l2:=HM0.out.lt;have b0:∀q:Bw w2,q.to.cell? ⟨wr.heap.size,0,none⟩=some (.int .i64 ma):=fun q=>q.cell l2 HM0.out.c0
     have b1:∀q:Bw w2,q.to.cell? ⟨wr.heap.size,1,none⟩=some (.int .i64 ms):=fun q=>q.cell l2 HM0.out.c1
     have b2:∀q:Bw w2,q.to.cell? ⟨wr.heap.size,2,none⟩=some (.int .i64 mr):=fun q=>q.cell l2 HM0.out.c2
     have b3:∀q:Bw w2,q.to.cell? ⟨wr.heap.size,3,none⟩=some (.int .i64 mc):=fun q=>q.cell l2 HM0.out.c3
     have b4:∀q:Bw w2,q.to.cell? ⟨wr.heap.size,4,none⟩=some (.int .i64 mf):=fun q=>q.cell l2 HM0.out.c4
     have b5:∀q:Bw w2,q.to.cell? ⟨wr.heap.size,5,none⟩=some (.int .i64 me):=fun q=>q.cell l2 HM0.out.c5
     have b6:∀q:Bw w2,q.to.cell? ⟨wr.heap.size,6,none⟩=some (.int .i64 ml):=fun q=>q.cell l2 HM0.out.c6
     refine wp_region_quiet_below (by assumption) (by kernel_rfl) ?_
     repeat (first|go_big_quiet_skip|quiet_step (first|(go_at_call 82;refine below_of (HA.out _))))
     refine wpQuiet_nil ?_;intro _ hw';obtain⟨q,rfl⟩:=hw';go_wp2_with fail
     go_ret
     exact⟨by rw[HE.out];rfl,HBN.out.trans (q.h.mono HBN.out.size)⟩
   ·obtain rfl:k=n:=by omega
    have HE:=Lib.hid (blE_yes (HOK.out true (by rw[<-HX.out.1];exact rowM_end (by rw[HLN.out];omega))));have HB:=Lib.hid HX.out.2.2;clear HX;go_wp2_with fail
    go_ret
    exact⟨by rw[HE.out];rfl,HB.out⟩
end Sn
end Go.Proofs.YtlnbjikooadmoaaGreat
namespace Go.Proofs.YtlnbjikooadmoaaGreat
namespace Sn
open Go.RowKit Hd Bk
def m0:Mt:=⟨0,0,0,0,0,0,0⟩
set_option maxHeartbeats 3200000 in
set_option maxRecDepth 100000 in
theorem last_nil (A:Option Addr) (c:Nat) (w:World) :
  Calls Tryz.prog 34 #[.slice A 0 c] w fun e w'=>e=.returned (.tuple #[magg 0 0 0 0 0 0 0,.bool false])/\Below w.heap.size w w':=by
 have mixed:Tryz.prog.follows .mixedOrders=true:=by kernel_rfl
 have HB:=Lib.hid (ext_alloc w (.cells #[.int .i64 0,.int .i64 0,.int .i64 0,.int .i64 0,.int .i64 0,.int .i64 0,.int .i64 0] 39));have HI:=Lib.hid (show(Tryz.prog.info? 39).map (·.size)=some 7 by kernel_rfl);unfold magg
 go_enter Tryz.func34, Tryz.ntmps34
 go_wp2_with (first|(refine wpList_store_new w #[.int .i64 0,.int .i64 0,.int .i64 0,.int .i64 0,.int .i64 0,.int .i64 0,.int .i64 0] rfl 39 (.tmp 2) (.tmp 12) rfl #[.int .i64 0,.int .i64 0,.int .i64 0,.int .i64 0,.int .i64 0,.int .i64 0,.int .i64 0] (by simp[go_sem,Act.eval]) (by simp[go_sem,Act.eval]) HI.out rfl rfl ?_))
 refine bodyPost_ret (v:=.tuple #[.agg #[.int .i64 0,.int .i64 0,.int .i64 0,.int .i64 0,.int .i64 0,.int .i64 0,.int .i64 0],.bool false]) (by simp[results,go_sem]) rfl ?_;exact⟨rfl,HB.out⟩
set_option maxHeartbeats 3200000 in
set_option maxRecDepth 100000 in
theorem last_ok (A:Option Addr) (n c:Nat) (l:List Mt) (m:Mt) (w:World) (hrd:Rd w w.heap.size 7 A n (fl7 l)) (hn0:0<n) (hn:n<=100000) (hl:l.getLast? =some m) (ho:okBl l=true) :
  Calls Tryz.prog 34 #[.slice A n c] w fun e w'=>e=.returned (.tuple #[mv m,.bool true])/\Below w.heap.size w w':=by
 have mixed:Tryz.prog.follows .mixedOrders=true:=by kernel_rfl
 have HB:=Lib.hid (ext_alloc w (.cells #[.int .i64 0,.int .i64 0,.int .i64 0,.int .i64 0,.int .i64 0,.int .i64 0,.int .i64 0] 39));have HM:=Lib.hid (Mb.new w);have hln:=mt_len hrd;have hbl:=blocks_any A n c l (w.alloc (.cells #[.int .i64 0,.int .i64 0,.int .i64 0,.int .i64 0,.int .i64 0,.int .i64 0,.int .i64 0] 39)) (hrd.ext HB.out) (by omega);rw[blE_yes ho] at hbl;have HBL:=Lib.hid hbl;obtain⟨j,hj⟩:∃j,n=j+1:=⟨n-1,by omega⟩
 obtain⟨ad,m',hA,hbk,hx,pc0,pc1,pc2,pc3,pc4,pc5,pc6⟩:=mt_at (k:=j) hrd (by omega);rw[List.getLast?_eq_getElem?,hln,hj,Nat.add_sub_cancel,hx] at hl;obtain rfl:=Option.some.inj hl;have HC:=Lib.hid (And.intro pc0 (And.intro pc1 (And.intro pc2 (And.intro pc3 (And.intro pc4 (And.intro pc5 pc6))))));have HAB:=Lib.hid (show(ad.add (j*7)).block<w.heap.size by rw[add_block];exact hbk);have b1:((n:Int)==0)=false:=by rw[beq_eq_false_iff_ne];omega
 have b2:IntKind.i64.wrap ((n:Int)-1)=(j:Int):=by rw[IntKind.wrap_i64];omega
 have b3:(j:Int)<(n:Int):=by omega
 obtain⟨ma,ms,mr,mc,mf,me,ml⟩:=m';subst hA;clear hbl hrd hl hx hln pc0 pc1 pc2 pc3 pc4 pc5 pc6 ho hj hn0;unfold mv magg;dsimp only at *
 have b4: ¬ (j+1=0):=by omega
 go_enter Tryz.func34, Tryz.ntmps34
 go_wp2_with fail
 generalize w.alloc (.cells #[.int .i64 0,.int .i64 0,.int .i64 0,.int .i64 0,.int .i64 0,.int .i64 0,.int .i64 0] 39)=w0 at *
 refine HBL.out.mono ?_;rintro e1 w1 ⟨rfl,hb1⟩;have hb:=HB.out.trans (hb1.mono HB.out.size);have HB1:=Lib.hid hb;have hM:=HM.out.below hb1 HM.out.lt;have f0:=hM.fz;have c0:=(hb.cell HAB.out).trans HC.out.1;have c1:=(hb.cell (p:=⟨(ad.add (j*7)).block,(ad.add (j*7)).off+1,none⟩) HAB.out).trans HC.out.2.1;have c2:=(hb.cell (p:=⟨(ad.add (j*7)).block,(ad.add (j*7)).off+2,none⟩) HAB.out).trans HC.out.2.2.1;have c3:=(hb.cell (p:=⟨(ad.add (j*7)).block,(ad.add (j*7)).off+3,none⟩) HAB.out).trans HC.out.2.2.2.1;have c4:=(hb.cell (p:=⟨(ad.add (j*7)).block,(ad.add (j*7)).off+4,none⟩) HAB.out).trans HC.out.2.2.2.2.1;have c5:=(hb.cell (p:=⟨(ad.add (j*7)).block,(ad.add (j*7)).off+5,none⟩) HAB.out).trans HC.out.2.2.2.2.2.1;have c6:=(hb.cell (p:=⟨(ad.add (j*7)).block,(ad.add (j*7)).off+6,none⟩) HAB.out).trans HC.out.2.2.2.2.2.2;have q0:=hM.c0;have q1:=hM.c1;have q2:=hM.c2;have q3:=hM.c3;have q4:=hM.c4;have q5:=hM.c5;have q6:=hM.c6;clear hb hb1 hM;go_wp2_with fail
 refine bodyPost_ret (v:=.tuple #[.agg #[.int .i64 (ma:Int),.int .i64 (ms:Int),.int .i64 (mr:Int),.int .i64 (mc:Int),.int .i64 (mf:Int),.int .i64 (me:Int),.int .i64 (ml:Int)],.bool true]) (by simp[results,go_sem,q0,q1,q2,q3,q4,q5,q6]) rfl ?_;exact⟨rfl,below_fill7 HB1.out (Nat.le_refl _)⟩
def hv (i g f:Int):Value:=.agg #[.int .i64 i,.int .i64 g,.int .i64 f]
set_option maxHeartbeats 3200000 in
set_option maxRecDepth 100000 in
theorem next_any (A:Option Addr) (n c:Nat) (i g f:Int) (h1:Nat) (l:List Mt) (w:World) (hrd:Rd w w.heap.size 7 A n (fl7 l)) (hn:n<=100000) (ho:okBl l=true) (hf:f=h1) :
  Calls Tryz.prog 90 #[hv i g f,.slice A n c] w fun e w'=>e=.returned (.int .i64 (nextM h1 l:Nat))/\Below w.heap.size w w':=by
 have mixed:Tryz.prog.follows .mixedOrders=true:=by kernel_rfl
 have HB:=Lib.hid (ext_alloc w (.cells #[.int .i64 i,.int .i64 g,.int .i64 f] 33));have k2:(w.alloc (.cells #[.int .i64 i,.int .i64 g,.int .i64 f] 33)).cell? ⟨w.heap.size,2,none⟩=some (.int .i64 f):=by rw[World.cell?_alloc_new];rfl
 have hlt:w.heap.size<(w.alloc (.cells #[.int .i64 i,.int .i64 g,.int .i64 f] 33)).heap.size:=by simp
 have HK:=Lib.hid (And.intro k2 hlt);have hln:=mt_len hrd;unfold hv;rcases hl:l.getLast? with _|m
 ·have hl0:l=[]:=by simpa using hl
  have hn0:n=0:=by rw[<-hln,hl0];rfl
  have HN:=Lib.hid (show(nextM h1 l:Int)=f by unfold nextM;rw[hl];exact hf.symm);subst hn0;have HL:=Lib.hid (last_nil A c (w.alloc (.cells #[.int .i64 i,.int .i64 g,.int .i64 f] 33)));unfold magg at HL;clear hl hl0 hln hrd k2 hlt hf
  go_enter Tryz.func90, Tryz.ntmps90
  go_wp2_with fail
  generalize w.alloc (.cells #[.int .i64 i,.int .i64 g,.int .i64 f] 33)=w0 at *
  refine HL.out.mono ?_;rintro e1 w1 ⟨rfl,hb1⟩;have c2:=(hb1.cell (p:=⟨w.heap.size,2,none⟩) HK.out.2).trans HK.out.1;have HB1:=Lib.hid ((HB.out.trans (hb1.mono HB.out.size)).trans ((ext_alloc w1 (.cells #[.int .i64 0,.int .i64 0,.int .i64 0,.int .i64 0,.int .i64 0,.int .i64 0,.int .i64 0] 39)).mono (Nat.le_trans HB.out.size hb1.size)));have hlt1:w.heap.size<w1.heap.size:=Nat.lt_of_lt_of_le HK.out.2 hb1.size;clear hb1;go_wp2_with fail
  go_ret
  exact⟨by rw[HN.out];rfl,HB1.out⟩
 ·have hn0:0<n:=by
   rcases n with _|n
   ·rw[List.length_eq_zero_iff] at hln;rw[hln] at hl;cases hl
   ·omega
  have hmem:m∈l:=List.mem_of_getLast? hl;have hok:m.f+m.c<=1000000001:=by
   have:=(okM_iff m).1 (rowM_mem l none (okBl_row ho).2 m hmem);omega
  have HN:=Lib.hid (show(nextM h1 l:Int)=(m.f:Int)+(m.c:Int) by unfold nextM;rw[hl];push_cast;rfl);have HL:=Lib.hid (last_ok A n c l m (w.alloc (.cells #[.int .i64 i,.int .i64 g,.int .i64 f] 33)) (hrd.ext HB.out) hn0 (by omega) hl ho);unfold mv magg at HL;obtain⟨ma,ms,mr,mc,mf,me,ml⟩:=m;dsimp only at *
  clear hl hln hrd k2 hlt hf hmem
  go_enter Tryz.func90, Tryz.ntmps90
  go_wp2_with fail
  generalize w.alloc (.cells #[.int .i64 i,.int .i64 g,.int .i64 f] 33)=w0 at *
  refine HL.out.mono ?_;rintro e1 w1 ⟨rfl,hb1⟩;have HB1:=Lib.hid ((HB.out.trans (hb1.mono HB.out.size)).trans ((ext_alloc w1 (.cells #[.int .i64 ma,.int .i64 ms,.int .i64 mr,.int .i64 mc,.int .i64 mf,.int .i64 me,.int .i64 ml] 39)).mono (Nat.le_trans HB.out.size hb1.size)));clear hb1;go_wp2_with fail
  go_ret
  exact⟨by rw[HN.out];rfl,HB1.out⟩
end Sn
end Go.Proofs.YtlnbjikooadmoaaGreat
namespace Go.Proofs.YtlnbjikooadmoaaGreat
open Go.RowKit
section
variable {ops:Array Oper} {rest:List Oper} {o:Oper} {a:Act} {Q:Exit->Act->World->Prop}
theorem cell_lit_new (w:World) (t:TypeId) (l:List Value) (j:Nat) (u:Value) (h:l[j]? =some u):(w.alloc (.cells l.toArray t)).cell? ((⟨w.heap.size,0,none⟩:Addr).add j)=some u:=by
 rw[Addr.add_lit,Nat.zero_add,World.cell?_alloc_new];simpa using h
theorem appendL {s x:Operand} {B g m:Nat} {v:Value} {l:List Int} {w0:World} (ys:List Int) (hgw:w0.heap.size=g) (hm:ys.length=m) (hown:Own w0 B v l) (hl:l.length<=1099511627776) (hy:ys.length<=1000) (hp:0<ys.length) (hB:B<=w0.heap.size)
  (h:∀A' n' c' w',Hid (n'=l.length+ys.length)->Own w' B (.slice A' n' c') (l++ys)->Below B w0 w'->w0.grownBy w' v.ownBlock->(Value.ownBlock (.slice A' n' c')=v.ownBlock∨ ∃g,Value.ownBlock (.slice A' n' c')=some g/\w0.heap.size<=g)->wpList Tryz.prog ops Q rest (a.put o.dst (.slice A' n' c')) w')
  (hgd:o.guard=none:=by exact rfl) (ho:o.op=.call { callee:=.builtin .append,args:=#[s,x],argTypes:=#[59,59] }:=by exact rfl)
  (hs:a.eval s=v:=by exact rfl) (hx:a.eval x=.slice (some ⟨g,0,none⟩) m m:=by exact rfl) :
  wpList Tryz.prog ops Q (o::rest) a (w0.alloc (.cells (ys.map (Value.int .i64)).toArray 3)):=by
 subst hgw hm;obtain⟨i0,hi,hz0,hz1,hz2⟩:=info_parts int_info;refine wpList_append_own_at _ hgd s x 59 ho B 3 i0 (.int .i64 0) 1 8 Tryz.underlying59 hi hz0 hz1 hz2 rfl (by omega) v l.length (l.map (Value.int .i64)) hs (hown.alloc _)
  ⟨w0.heap.size,0,none⟩ ys.length ys.length (ys.map (Value.int .i64)) hx (by simp) (fun j u hu=>cell_lit_new w0 _ _ j u hu) (by intro u hu;rw[List.mem_map] at hu;obtain⟨y,-,rfl⟩:=hu;rfl) (by simp only[maxLen];omega) (by omega) (by simp;omega) ?_
 intro v' w' hown' hg _ hat;have hg0:w0.grownBy w' v.ownBlock:=(World.grownBy_alloc w0 _ v.ownBlock).trans hg;have hlt:=World.ownsRow.lt hown;obtain⟨A',c',rfl,_,_⟩:=own_slice hown';refine h A' _ c' w' rfl (by unfold Own;simpa using hown') ((Below.refl _ _).grown hg0 hB (fun k hk=>(hlt k hk).1)) hg0 ?_;rcases hat with e|e
 ·exact .inl e
 ·exact .inr ⟨_,e,by simp⟩
end
end Go.Proofs.YtlnbjikooadmoaaGreat
namespace Go.Proofs.YtlnbjikooadmoaaGreat
namespace Sn
open Go.RowKit Hd Bk Vi Rd
def nums (m:Mt):List Nat:=[m.a,m.s,m.r,m.c,m.f,m.e,m.l-m.e]
def ftN (l:List Mt):List Nat:=l.length::l.flatMap nums
def ftB (l:List Mt):ByteArray:=⟨((ftN l).flatMap putV).toArray⟩
def ints (l:List Nat):List Int:=l.map fun(n:Nat)=>(n:Int)
theorem ints_nv (l:List Nat):(ints l).map (Value.int .i64)=nv l:=by unfold ints nv;rw[List.map_map];rfl
theorem ints_append (a b:List Nat):ints (a++b)=ints a++ints b:=List.map_append ..
theorem length_ints (l:List Nat):(ints l).length=l.length:=List.length_map ..
theorem length_nums:∀(l:List Mt),(l.flatMap nums).length=l.length*7
 | []=>rfl
 |m::l=>by rw[List.flatMap_cons,List.length_append,length_nums l,List.length_cons];show 7+_=_;omega
theorem nums_take (l:List Mt) (k:Nat) (m:Mt) (h:l[k]? =some m):(l.take (k+1)).flatMap nums=(l.take k).flatMap nums++nums m:=by
 rw[List.take_add_one,h,List.flatMap_append];simp
set_option maxHeartbeats 6400000 in
set_option maxRecDepth 100000 in
theorem foot_any (A:Option Addr) (n c:Nat) (l:List Mt) (w:World) (hrd:Rd w w.heap.size 7 A n (fl7 l)) (hn:n<=100000) (ho:okBl l=true) :
  Calls Tryz.prog 41 #[.slice A n c] w fun e w'=>e=.returned (.tuple #[.string (ftB l),.int .i64 0])/\Below w.heap.size w w':=by
 have mixed:Tryz.prog.follows .mixedOrders=true:=by kernel_rfl
 have hln:=mt_len hrd;have hbl:=blocks_any A n c l w hrd (by omega);rw[blE_yes ho] at hbl;have HBL:=Lib.hid hbl;obtain⟨hl0,hrow⟩:=okBl_row ho;have HOK:=Lib.hid (rowM_mem l none hrow);have hn1:n<=1000:=by omega
 have HLN:=Lib.hid hln;have HR:=Lib.hid hrd;clear hbl hrd hln hl0 hrow ho
 go_enter Tryz.func41, Tryz.ntmps41
 go_wp2_with fail
 refine HBL.out.mono ?_;rintro e1 w1 ⟨rfl,hb1⟩;have HB1:=Lib.hid hb1;have HW:=Lib.hid (World.ownsRow_lit (base:=w.heap.size) (e:=3) (size:=1) w1 #[.int .i64 (n:Int)] 1 hb1.size (by simp[maxLen]) rfl);have HB2:=Lib.hid (hb1.trans ((ext_alloc w1 (.cells #[.int .i64 (n:Int)] 3)).mono hb1.size));clear hb1 HBL;go_wp2_with fail
 go_loopw [5,18] (fun s5 s18 wr=>∃(k:Nat) (A1:Option Addr) (n1 c1:Nat),s18=.int .i64 (k:Int)/\s5=.slice A1 n1 c1/\k<=n/\Hid (Own wr w.heap.size (.slice A1 n1 c1) (ints (n::(l.take k).flatMap nums))/\Below w.heap.size w wr)) (fun _ v _=>n-(intOf v).toNat)
 case atStart=>exact⟨0,_,_,_,by go_num,rfl,by omega,Lib.hid ⟨HW.out,HB2.out⟩⟩
 case round =>
  obtain⟨k,A5,n5,c5,rfl,rfl,hk,HX⟩:=hrel;by_cases hkn:k<n
  ·obtain⟨ad,m,hA,hbk,hx,hc0,hc1,hc2,hc3,hc4,hc5,hc6⟩:=mt_at (HR.out.below HX.out.2) hkn
   have hok:=(okM_iff m).1 (HOK.out m (List.mem_of_getElem? hx));have HNT:=Lib.hid (nums_take l k m hx);obtain⟨ma,ms,mr,mc,mf,me,ml⟩:=m;dsimp only at hok;obtain⟨d,hd⟩:∃d,ml-me=d:=⟨_,rfl⟩
   have hs:IntKind.i64.wrap ((ml:Int)-(me:Int))=(d:Int):=by rw[IntKind.wrap_i64];omega
   have HD:=Lib.hid (show nums ⟨ma,ms,mr,mc,mf,me,ml⟩=[ma,ms,mr,mc,mf,me,d] by unfold nums;rw[hd]);have hown:Own (wr.alloc (.cells #[.int .i64 (ma:Int),.int .i64 (ms:Int),.int .i64 (mr:Int),.int .i64 (mc:Int),.int .i64 (mf:Int),.int .i64 (me:Int),.int .i64 (ml:Int)] 39)) w.heap.size (.slice A5 n5 c5) (ints (n::(l.take k).flatMap nums)):=HX.out.1.below (ext_alloc wr _) (Nat.le_refl _);have HO:=Lib.hid hown;have HLE:=Lib.hid (show(ints (n::(l.take k).flatMap nums)).length<=1099511627776 by rw[length_ints,List.length_cons,length_nums,List.length_take];omega);have HB3:=Lib.hid (HX.out.2.trans ((ext_alloc wr (.cells #[.int .i64 (ma:Int),.int .i64 (ms:Int),.int .i64 (mr:Int),.int .i64 (mc:Int),.int .i64 (mf:Int),.int .i64 (me:Int),.int .i64 (ml:Int)] 39)).mono HX.out.2.size));subst hA;clear hown hx hd hok HX hbk;go_wp2_with (at_builtin;go_loud (refine appendL (g:=wr.heap.size+1) [ma,ms,mr,mc,mf,me,d] (by simp) rfl HO.out HLE.out (by simp) (by simp) HB3.out.size ?_;intro A1 n1 c1 w3 hn1 hown1 hb1 hg1 hat1))
   have HF:=Lib.hid (show ints (n::(l.take (k+1)).flatMap nums)=ints (n::(l.take k).flatMap nums)++[(ma:Int),(ms:Int),(mr:Int),(mc:Int),(mf:Int),(me:Int),(d:Int)] by
    rw[HNT.out,HD.out,<-List.cons_append,ints_append];rfl)
   go_roundw
   case rel=>exact⟨k+1,A1,n1,c1,by go_num,rfl,by omega,Lib.hid ⟨by rw[HF.out];exact hown1,HB3.out.trans hb1⟩⟩
   case measure=>simp[intOf];omega
  ·obtain rfl:k=n:=by omega
   have h9:=HX.out;rw[List.take_of_length_le (by rw[HLN.out];omega)] at h9;have hrd:Rd wr wr.heap.size 1 A5 n5 (nv (ftN l)):=by
    obtain⟨h,h2⟩:=h9.1.rd0;rw[<-h2,ints_nv,show k::l.flatMap nums=ftN l by unfold ftN;rw[HLN.out]] at h;exact h
   have hn5:n5<=7001:=by
    obtain⟨-,h2⟩:=h9.1.rd0;rw[length_ints,List.length_cons,length_nums,HLN.out] at h2;omega
   have hall:∀x∈ftN l,x<9223372036854775808:=by
    intro x hx;unfold ftN at hx;rcases List.mem_cons.1 hx with rfl|hx
    ·rw[HLN.out];omega
    ·obtain⟨m,hm,hx⟩:=List.mem_flatMap.1 hx
     have:=(okM_iff m).1 (HOK.out m hm);simp only[nums,List.mem_cons,List.not_mem_nil,or_false] at hx;omega
   have HN:=Lib.hid (numbers_any A5 n5 c5 (ftN l) wr hrd (by omega) hall);have HB2:=Lib.hid h9.2;clear h9 HX hrd hall hn5;go_wp2_with fail
   refine HN.out.mono ?_;rintro e5 w5 ⟨rfl,hb5⟩;have HB5:=Lib.hid (HB2.out.trans (hb5.mono HB2.out.size));clear hb5;go_wp2_with fail
   go_ret2
   exact⟨rfl,HB5.out⟩
end Sn
end Go.Proofs.YtlnbjikooadmoaaGreat
namespace Go.Proofs.YtlnbjikooadmoaaGreat
namespace Dk
open Go.RowKit Hd Fm Sn Bk Rd
def endM (H:Nat) (l:List Mt):Nat:=match l.getLast? with
 |none=>H
 |some m=>m.a+m.s
set_option maxHeartbeats 3200000 in
set_option maxRecDepth 100000 in
theorem End_ok (A:Option Addr) (n c:Nat) (i g f:Nat) (l:List Mt) (w:World) (hh:1<=i/\i<=999999/\1<=g/\g<=999999/\1<=f/\f<=1000000000) (hrd:Rd w w.heap.size 7 A n (fl7 l)) (hn:n<=100000) (ho:okBl l=true) :
  Calls Tryz.prog 9 #[.agg #[.int .i64 (i:Int),.int .i64 (g:Int),.int .i64 (f:Int)],.slice A n c] w fun e w'=>e=.returned (.tuple #[.int .i64 (endM (hdrB i g f).size l:Int),.int .i64 0])/\Below w.heap.size w w':=by
 have hbs:=hb_size i g f hh;have hsz:(hdrB i g f).size=(hb i g f).size+9:=size_frB 1 (hb i g f);have HP:=Lib.hid (fun w=>hput_yes i g f w hh);have HB:=Lib.hid (fun wx (hx:Below w.heap.size w wx)=>blocks_any A n c l wx (hrd.ext hx) (by omega));have hl:=mt_len hrd;rw[blE_yes ho] at HB;have B2:=ext_alloc w (.cells #[.int .i64 (i:Int),.int .i64 (g:Int),.int .i64 (f:Int)] 33);unfold endM;rcases hg:l.getLast? with _|m
 ·have hl0:l=[]:=List.getLast?_eq_none_iff.1 hg
  subst hl0;simp only[List.length_nil] at hl;subst hl;dsimp only;have HL:=Lib.hid (fun wx=>last_nil A c wx);unfold magg at HL;have HZ:=Lib.hid (fun wx=>fsize_any (hb i g f) wx (by omega));rw[<-hsz] at HZ;generalize hb i g f=H at *
  generalize (hdrB i g f).size=Z at *
  clear hrd ho hh hbs hsz hg
  go_enter Tryz.func9, Tryz.ntmps9
  go_wp2_with (first
   |(go_at_call 32;refine(HP.out _).mono ?_;rintro e1 w1 ⟨rfl,hb1⟩;have HW1:=Lib.hid (B2.trans (hb1.mono B2.size));clear hb1 B2)
   |(go_at_call 33;refine(HB.out _ HW1.out).mono ?_;rintro e2 w2 ⟨rfl,hb2⟩;have HW2:=Lib.hid (HW1.out.trans (hb2.mono HW1.out.size));clear hb2)
   |(go_at_call 34;refine(HL.out _).mono ?_;rintro e3 w3 ⟨rfl,hb3⟩;have HW3:=Lib.hid (HW2.out.trans (hb3.mono HW2.out.size));clear hb3)
   |(go_at_call 35;refine(HZ.out _).mono ?_;rintro e4 w4 ⟨rfl,rfl⟩))
  go_ret2
  exact⟨rfl,HW3.out.trans ((ext_alloc w3 _).mono HW3.out.size)⟩
 ·dsimp only
  have hn0:0<n:=by
   rcases l with _|⟨x,l⟩
   ·cases hg
   ·simp at hl;omega
  have hok:okM m=true:=by
   obtain⟨-,hr⟩:=okBl_row ho;exact rowM_mem l none hr m (List.mem_of_getLast? hg)
  rw[okM_iff] at hok;have HL:=Lib.hid (fun wx (hx:Below w.heap.size w wx)=>last_ok A n c l m wx (hrd.ext hx) hn0 hn hg ho);obtain⟨ma,ms,mr,mc,mf,me,ml⟩:=m;unfold mv magg at HL;dsimp only at HL hok ⊢;have hw:wrap64 ((ma:Int)+(ms:Int))=(ma:Int)+(ms:Int):=by unfold wrap64;omega
  have he:((ma+ms:Nat):Int)=(ma:Int)+(ms:Int):=by omega
  rw[he];generalize hb i g f=H at *
  clear hrd ho hh hbs hsz hg hok he hl
  go_enter Tryz.func9, Tryz.ntmps9
  go_wp2_with (first
   |(go_at_call 32;refine(HP.out _).mono ?_;rintro e1 w1 ⟨rfl,hb1⟩;have HW1:=Lib.hid (B2.trans (hb1.mono B2.size));clear hb1 B2)
   |(go_at_call 33;refine(HB.out _ HW1.out).mono ?_;rintro e2 w2 ⟨rfl,hb2⟩;have HW2:=Lib.hid (HW1.out.trans (hb2.mono HW1.out.size));clear hb2)
   |(go_at_call 34;refine(HL.out _ HW2.out).mono ?_;rintro e3 w3 ⟨rfl,hb3⟩;have HW3:=Lib.hid (HW2.out.trans (hb3.mono HW2.out.size));clear hb3))
  go_ret2
  refine⟨?_,HW3.out.trans ((ext_alloc w3 _).mono HW3.out.size)⟩;show Ending.returned (.tuple #[.int .i64 (wrap64 ((ma:Int)+(ms:Int))),.int .i64 0])=_
  rw[hw]
end Dk
end Go.Proofs.YtlnbjikooadmoaaGreat
namespace Go.Proofs.YtlnbjikooadmoaaGreat
namespace Dk
open Go.RowKit Hd Fm Sn Bk Rd
def putD (b:Nat) (p:ByteArray×ByteArray) (F:ByteArray) (D:DS):DS:=setF b (p.1,p.2++F) (tick D)
def syncD (b:Nat) (T:ByteArray) (D:DS):DS:=setF b (T,T) (tick D)
section
variable {w w':World} {S:Nat->Prop} {bd gN gS:Nat} {v:Value} {D:DS}
set_option maxHeartbeats 1600000 in
theorem seal1_go (h:DiskAt w S bd D) {bS bB:Nat} {i g f:Int} {s body:ByteArray} (hS:Blk w bS (sgc bd i g f s) 77) (hB:Blk w bB #[.string body] 9) {b:Nat} {p:ByteArray×ByteArray} (ho:D.off=false) (hl:lk s D.now=some b) (hp:D.fl b=some p) (hb:body.size<=60000)
  (h1:p.2.size+(body.size+9)<=1000000) (h2:(body.size:Int)+9+(usedD D:Int)<=D.cap) :
  Calls Tryz.prog 86 #[.pointer (some ⟨bS,0,none⟩),.pointer (some ⟨bB,0,none⟩)] w fun e w'=>e=.returned (.int .i64 (opE D))/\ ∃S',DiskAt w' S' bd (opS false (setF b (p.1,p.2++frB 3 body)) D)/\Gr S w S' w':=by
 have HC:=Lib.hid (sput_go (k:=3) h (i:=i) (g:=g) (f:=f) ho hl hp (by decide) hb h1 h2);rw[show((3:UInt8).toNat:Int)=3 from rfl] at HC;unfold sgc at *
 have k0:=hS.cell 0 (v:=.pointer (some ⟨bd,0,none⟩)) rfl;have k1:=hS.cell 1 (v:=.int .i64 i) rfl;have k2:=hS.cell 2 (v:=.int .i64 g) rfl;have k3:=hS.cell 3 (v:=.int .i64 f) rfl;have k4:=hS.cell 4 (v:=.string s) rfl;have b0:=hB.cell 0 (v:=.string body) rfl;clear h hS hB ho hl hp hb h1 h2
 go_enter Tryz.func86, Tryz.ntmps86
 go_wp2_with (go_at_call 37;refine HC.out.mono ?_;rintro e5 w5 ⟨rfl,S5,hD5,hG5⟩;have HD5:=Lib.hid hD5;have HG5:=Lib.hid hG5;clear hD5 hG5)
 go_ret
 exact⟨rfl,S5,HD5.out,HG5.out⟩
set_option maxHeartbeats 1600000 in
theorem seal_all (h:DiskAt w S bd D) (hc:Calm D) {bS bB gF:Nat} {i g f:Int} {s body:ByteArray} (hS:Blk w bS (sgc bd i g f s) 77) (hB:Blk w bB #[.string body] 9)
  (hF:Blk w gF #[.func (.func 86) #[] #[.pointer (some ⟨bS,0,none⟩),.pointer (some ⟨bB,0,none⟩)],.func (.func 53) #[.agg (sgc bd i g f s)] #[]] 57)
  (nS: ¬ S bS) (nB: ¬ S bB) (nF: ¬ S gF) {b:Nat} {p:ByteArray×ByteArray} (hl:lk s D.now=some b) (hp:D.fl b=some p) (hb:body.size<=60000) (h1:p.2.size+(body.size+9)<=1000000) (h2:(body.size:Int)+9+(usedD D:Int)<=D.cap) :
  Calls Tryz.prog 47 #[.slice (some ⟨gF,0,none⟩) 2 2] w fun e w'=>e=.returned (.int .i64 0)/\ ∃S',DiskAt w' S' bd (syncD b (p.2++frB 3 body) (putD b p (frB 3 body) D))/\Gr S w S' w':=by
 let R:Nat->DS->Prop:=fun k D'=>match k with
  |0=>D'=D
  |1=>D'=putD b p (frB 3 body) D
  |_=>D'=syncD b (p.2++frB 3 body) (putD b p (frB 3 body) D)
 refine(all_any [(86,#[],#[.pointer (some ⟨bS,0,none⟩),.pointer (some ⟨bB,0,none⟩)]),(53,#[.agg (sgc bd i g f s)],#[])]
  (some ⟨gF,0,none⟩) 2 2 w (fun k wx=>∃S' D',Gr S w S' wx/\DiskAt wx S' bd D'/\R k D') (fun _ _=>False) (by omega) ?_ ⟨S,D,Gr.refl _ _,h,rfl⟩ ?_ ?_).mono ?_
 ·rintro k wx ⟨S',D',g1,-⟩
  exact rd_blk (g1.blk hF nF)
 ·intro f' hf'
  simp only[List.mem_cons,List.not_mem_nil,or_false] at hf';rcases hf' with rfl|rfl
  ·exact enters_of Tryz.func86 (by kernel_rfl) rfl
  ·exact enters_of Tryz.func53 (by kernel_rfl) rfl
 ·intro k f' hf' wx hJ
  obtain⟨S',D',g1,hD,hR⟩:=hJ;rcases k with _|_|k
  ·simp only[List.getElem?_cons_zero,Option.some.injEq] at hf'
   subst hf';obtain rfl:D'=D:=hR;refine(seal1_go hD (g1.blk hS nS) (g1.blk hB nB) hc.off hl hp hb h1 h2).mono ?_;rintro e w2 ⟨rfl,S2,hD2,g2⟩;refine⟨0,by rw[hc.e],.inl ⟨rfl,S2,_,g1.trans g2,hD2,?_⟩⟩;rw[opS_calm hc];rfl
  ·simp only[List.getElem?_cons_succ,List.getElem?_cons_zero,Option.some.injEq] at hf'
   subst hf';obtain rfl:D'=putD b p (frB 3 body) D:=hR;have c1:Calm (putD b p (frB 3 body) D):=hc.tick.setF b _;refine(ssync_go hD (b:=b) (p:=(p.1,p.2++frB 3 body)) c1.off hl (by show(if b=b then _ else _)=_;rw[if_pos rfl])).mono ?_;rintro e w2 ⟨rfl,S2,hD2,g2⟩;refine⟨0,by rw[c1.e],.inl ⟨rfl,S2,_,g1.trans g2,hD2,?_⟩⟩;rw[opS_calm c1];rfl
  ·simp at hf'
 ·rintro e w' ⟨x,rfl,⟨rfl,S',D',g1,hD,hR⟩|⟨-,hF⟩⟩
  ·obtain rfl:D'=syncD b (p.2++frB 3 body) (putD b p (frB 3 body) D):=hR
   exact⟨rfl,S',hD,g1⟩
  ·exact hF.elim
set_option maxHeartbeats 3200000 in
set_option maxRecDepth 100000 in
theorem seal_go (h:DiskAt w S bd D) (hc:Calm D) {i g f:Nat} {s:ByteArray} {A:Option Addr} {n c:Nat} {l:List Mt} (hh:1<=i/\i<=999999/\1<=g/\g<=999999/\1<=f/\f<=1000000000) (hrd:Rd w w.heap.size 7 A n (fl7 l)) (hn:n<=100000) (ho:okBl l=true)
  {b:Nat} {p:ByteArray×ByteArray} (hl:lk s D.now=some b) (hp:D.fl b=some p) (hb:(ftB l).size<=60000) (h1:p.2.size+((ftB l).size+9)<=1000000) (h2:((ftB l).size:Int)+9+(usedD D:Int)<=D.cap) (he:endM (hdrB i g f).size l<=2000000) :
  Calls Tryz.prog 38 #[.agg (sgc bd i g f s),.slice A n c] w fun e w'=>e=.returned (.tuple #[.int .i64 ((endM (hdrB i g f).size l+((ftB l).size+9):Nat):Int),.int .i64 0])/\ ∃S',DiskAt w' S' bd (syncD b (p.2++frB 3 (ftB l)) (putD b p (frB 3 (ftB l)) D))/\Gr S w S' w':=by
 have HF:=Lib.hid (fun wx (hx:Below w.heap.size w wx)=>foot_any A n c l wx (hrd.ext hx) hn ho);have HE:=Lib.hid (fun wx (hx:Below w.heap.size w wx)=>End_ok A n c i g f l wx hh (hrd.ext hx) hn ho);have HZ:=Lib.hid (fun wx=>fsize_any (ftB l) wx (by omega));have nlt:∀k,w.heap.size<=k-> ¬ S k:=fun k hk=>h.gt hk
 have HA:=Lib.hid (show ∀(bB:Nat) w1 w3,Below w.heap.size w w1->Blk w1 w.heap.size (sgc bd i g f s) 77->Blk w1 bB #[.string (ftB l)] 9->w.heap.size<=bB ->
   w3=w1.alloc (.cells #[.func (.func 86) #[] #[.pointer (some ⟨w.heap.size,0,none⟩),.pointer (some ⟨bB,0,none⟩)],.func (.func 53) #[.agg (sgc bd i g f s)] #[]] 57) ->
   Calls Tryz.prog 47 #[.slice (some ⟨w1.heap.size,0,none⟩) 2 2] w3 fun e w'=>e=.returned (.int .i64 0)/\ ∃S',DiskAt w' S' bd (syncD b (p.2++frB 3 (ftB l)) (putD b p (frB 3 (ftB l)) D))/\Gr S w S' w'/\Blk w' bB #[.string (ftB l)] 9 from by
  rintro bB w1 w3 hb1 hS hB hbB rfl;have e2:=ext_alloc w1 (.cells #[.func (.func 86) #[] #[.pointer (some ⟨w.heap.size,0,none⟩),.pointer (some ⟨bB,0,none⟩)],.func (.func 53) #[.agg (sgc bd i g f s)] #[]] 57);have e3:=hb1.trans (e2.mono hb1.size);refine(seal_all (h.ext e3) hc (hS.ext e2) (hB.ext e2) (Blk.new w1 _ _) (nlt _ (Nat.le_refl _)) (nlt _ hbB) (nlt _ hb1.size) hl hp hb h1 h2).mono ?_;rintro e w' ⟨rfl,S',q2,q3⟩;exact⟨rfl,S',q2,(Gr.of_below e3).trans q3,q3.blk (hB.ext e2) (nlt _ hbB)⟩)
 have hw:wrap64 ((endM (hdrB i g f).size l:Int)+(((ftB l).size+9:Nat):Int))=((endM (hdrB i g f).size l+((ftB l).size+9):Nat):Int):=by unfold wrap64;omega
 clear h hc hh hl hp hrd hn ho hb h1 h2 he nlt;unfold sgc at *
 have B0:=Blk.new w #[.pointer (some ⟨bd,0,none⟩),.int .i64 i,.int .i64 g,.int .i64 f,.string s] 77;have B2:=ext_alloc w (.cells #[.pointer (some ⟨bd,0,none⟩),.int .i64 i,.int .i64 g,.int .i64 f,.string s] 77);generalize ftB l=B at *
 generalize endM (hdrB i g f).size l=E at *
 go_enter Tryz.func38, Tryz.ntmps38
 go_wp2_with (first
  |(go_at_call 41;refine(HF.out _ B2).mono ?_;rintro e1 w1 ⟨rfl,hb1⟩;have HW1:=Lib.hid ((B2.trans (hb1.mono B2.size)).trans ((ext_alloc w1 (.cells #[.string B] 9)).mono (B2.trans (hb1.mono B2.size)).size));have HB1:=Lib.hid ((B0.ext hb1).alloc (.cells #[.string B] 9));have HF1:=Lib.hid (Blk.new w1 #[.string B] 9);have HG1:=Lib.hid (show w.heap.size<=w1.heap.size from(B2.trans (hb1.mono B2.size)).size);clear hb1 B0 B2;have k1:=HB1.out.cell 1 (v:=.int .i64 i) rfl;have k2:=HB1.out.cell 2 (v:=.int .i64 g) rfl;have k3:=HB1.out.cell 3 (v:=.int .i64 f) rfl)
  |(go_at_call 9;refine(HE.out _ HW1.out).mono ?_;rintro e2 w2 ⟨rfl,hb2⟩;have HW2:=Lib.hid (HW1.out.trans (hb2.mono HW1.out.size));have HB2:=Lib.hid (HB1.out.ext hb2);have HF2:=Lib.hid (HF1.out.ext hb2);clear hb2 k1 k2 k3)
  |(refine wpList_load_row rfl 77 (.tmp 2) rfl w.heap.size #[.pointer (some ⟨bd,0,none⟩),.int .i64 i,.int .i64 g,.int .i64 f,.string s] _ (by simp[go_sem,Act.eval]) HB2.out Tryz.underlying77 rfl sg_info ?_)
  |(go_at_call 47;refine(HA.out w1.heap.size _ _ HW2.out HB2.out HF2.out HG1.out rfl).mono ?_;rintro e5 w5 ⟨rfl,S5,hD5,hG5,hB5⟩;have HD5:=Lib.hid (And.intro hD5 hG5);have z0:=hB5.cell 0 (v:=.string B) rfl;clear hD5 hG5 hB5)
  |(go_at_call 35;refine(HZ.out _).mono ?_;rintro e6 w6 ⟨rfl,rfl⟩))
 go_ret2
 refine⟨?_,S5,HD5.out⟩;exact congrArg (fun x=>Ending.returned (.tuple #[.int .i64 x,.int .i64 0])) hw
set_option maxHeartbeats 3200000 in
set_option maxRecDepth 100000 in
theorem Seal_go (h:DiskAt w S bd D) (hc:Calm D) {i g f:Nat} {A:Option Addr} {n c:Nat} {l:List Mt} (hh:1<=i/\i<=999999/\1<=g/\g<=999999/\1<=f/\f<=1000000000) (hrd:Rd w w.heap.size 7 A n (fl7 l)) (hn:n<=100000) (ho:okBl l=true)
  {b:Nat} {p:ByteArray×ByteArray} (hl:lk (segN i g) D.now=some b) (hp:D.fl b=some p) (hb:(ftB l).size<=60000) (h1:p.2.size+((ftB l).size+9)<=1000000) (h2:((ftB l).size:Int)+9+(usedD D:Int)<=D.cap) (he:endM (hdrB i g f).size l<=2000000) :
  Calls Tryz.prog 11 #[.pointer (some ⟨bd,0,none⟩),.agg #[.int .i64 (i:Int),.int .i64 (g:Int),.int .i64 (f:Int)],.slice A n c] w fun e w'=>e=.returned (.tuple #[.int .i64 ((endM (hdrB i g f).size l+((ftB l).size+9):Nat):Int),.int .i64 0])/\ ∃S',DiskAt w' S' bd (syncD b (p.2++frB 3 (ftB l)) (putD b p (frB 3 (ftB l)) D))/\Gr S w S' w':=by
 have HO:=Lib.hid (fun w=>of_ok (bd:=bd) (i:Int) (g:Int) (f:Int) w (by simp only[okH,decide_eq_true_eq];omega));have HC:=Lib.hid (fun(wx:World) (hx:Below w.heap.size w wx)=>seal_go (h.ext hx) hc (c:=c) hh (hrd.ext hx) hn ho hl hp hb h1 h2 he);clear h hc hh hl hp hrd hn ho hb h1 h2 he;unfold sgc at *
 generalize segN i g=s at *
 generalize ((endM (hdrB i g f).size l+((ftB l).size+9):Nat):Int)=E at *
 have B2:=ext_alloc w (.cells #[.int .i64 (i:Int),.int .i64 (g:Int),.int .i64 (f:Int)] 33)
 go_enter Tryz.func11, Tryz.ntmps11
 go_wp2_with (first
  |(go_at_call 30;refine(HO.out _).mono ?_;rintro e1 w1 ⟨rfl,hb1⟩;have HW1:=Lib.hid (B2.trans (hb1.mono B2.size));clear hb1 B2;have HW2:=Lib.hid (HW1.out.trans ((ext_alloc w1 (.cells #[.pointer (some ⟨bd,0,none⟩),.int .i64 i,.int .i64 g,.int .i64 f,.string s] 77)).mono HW1.out.size)))
  |(go_at_call 38;refine(HC.out _ HW2.out).mono ?_;rintro e5 w5 ⟨rfl,S5,hD5,hG5⟩;have HD5:=Lib.hid (And.intro hD5 hG5);clear hD5 hG5))
 go_ret2
 exact⟨rfl,S5,HD5.out.1,(Gr.of_below HW2.out).trans HD5.out.2⟩
end
end Dk
end Go.Proofs.YtlnbjikooadmoaaGreat
namespace Go.Proofs.YtlnbjikooadmoaaGreat
namespace Sn
open Go.RowKit Bk
theorem mt_info:(Tryz.prog.info? 39).map (fun i=>(i.zero,i.size,i.bytes))=some (some (magg 0 0 0 0 0 0 0),7,56):=by kernel_rfl
def OwnM (w:World) (B:Nat) (v:Value) (l:List Mt):Prop:=w.ownsRow B 39 7 v l.length (fl7 l)
section
variable {w w':World} {B C:Nat} {v:Value} {l:List Mt}
theorem OwnM.below (h:OwnM w B v l) (hb:Below C w w') (hC:w.heap.size<=C):OwnM w' B v l:=own_below h hb hC
theorem OwnM.lower (h:OwnM w B v l) (hC:C<=B):OwnM w C v l:=own_lower h hC
theorem OwnM.rd (h:OwnM w B v l):∃A c,v=.slice A l.length c/\l.length<=c/\c<=maxLen/\Rd w w.heap.size 7 A l.length (fl7 l):=by
 obtain⟨A,c,rfl,h1,h2⟩:=own_slice h;exact⟨A,c,rfl,h1,h2,Rd.of_own h⟩
theorem ownM_nil (w:World) (B:Nat):OwnM w B (.slice none 0 0) []:=World.ownsRow_nil _ _ _ _
end
theorem step_append7 {ops:Array Oper} {o:Oper} {a:Act} {K:Act->World->Prop} {Q:Exit->Act->World->Prop} {E:Prop} {w0:World} {B:Nat} {v:Value} {l:List Mt} (s x:Operand) (m:Mt)
  (hgd:o.guard=none) (ho:o.op=.call { callee:=.builtin .append,args:=#[s,x],argTypes:=#[35,35] })
  (hown:OwnM w0 B v l) (hl:l.length<=1000000) (hB:B<=w0.heap.size) (hs:a.eval s=v) (hx:a.eval x=.slice (some ⟨w0.heap.size,0,none⟩) 1 1)
  (h:∀g cap w',OwnM w' B (.slice (some ⟨g,0,none⟩) (l.length+1) cap) (l++[m])->w0.grownBy w' v.ownBlock->(v.ownBlock=some g∨w0.heap.size<=g)->K (a.put o.dst (.slice (some ⟨g,0,none⟩) (l.length+1) cap)) w') :
  if Region.wanted o (yielded ops a.tmps)=true then Oper.wp Tryz.prog o a ((w0.alloc (.cells #[.int .i64 (m.a:Int),.int .i64 (m.s:Int),.int .i64 (m.r:Int),.int .i64 (m.c:Int),.int .i64 (m.f:Int),.int .i64 (m.e:Int),.int .i64 (m.l:Int)] 39)).drew) K Q else E:=by
 obtain⟨i0,hi,hz0,hz1,hz2⟩:=info_parts mt_info;refine step_append_lies ((w0.alloc (.cells #[.int .i64 (m.a:Int),.int .i64 (m.s:Int),.int .i64 (m.r:Int),.int .i64 (m.c:Int),.int .i64 (m.f:Int),.int .i64 (m.e:Int),.int .i64 (m.l:Int)] 39)).drew) hgd s x 35 ho B 39 i0 (magg 0 0 0 0 0 0 0) 7 56 Tryz.underlying35 hi hz0 hz1 hz2 rfl (by omega) v l.length (fl7 l) hs (World.ownsRow.alloc hown _)
  ⟨w0.heap.size,0,none⟩ 1 1 (cl7 m) hx rfl ?_ (by intro u hu;exact fl7_one [m] u (by simpa[fl7] using hu)) (by omega) (by simp only[maxLen];omega) (by omega) (Nat.le_trans hB (by simp)) _ rfl ?_
 ·intro j u hu
  rw[Addr.add_lit,Nat.zero_add];show(w0.alloc _).cell? _=_
  rw[World.cell?_alloc_new];simpa[cl7] using hu
 intro g cap w' hown' hg hat hlt;have hg0:w0.grownBy (w0.alloc (.cells #[.int .i64 (m.a:Int),.int .i64 (m.s:Int),.int .i64 (m.r:Int),.int .i64 (m.c:Int),.int .i64 (m.f:Int),.int .i64 (m.e:Int),.int .i64 (m.l:Int)] 39)).drew v.ownBlock:=have h:=World.grownBy_alloc w0 (.cells #[.int .i64 (m.a:Int),.int .i64 (m.s:Int),.int .i64 (m.r:Int),.int .i64 (m.c:Int),.int .i64 (m.f:Int),.int .i64 (m.e:Int),.int .i64 (m.l:Int)] 39) v.ownBlock;⟨h.os,h.tape,h.output,h.size,h.block⟩;refine h g cap w' ?_ (hg0.trans hg) ?_
 ·unfold OwnM;rw[fl7_append,List.length_append,show fl7 [m]=cl7 m from List.append_nil _];exact hown'
 ·rcases hat with e|e
  ·exact .inl e
  ·exact .inr (by rw[e];simp)
end Sn
end Go.Proofs.YtlnbjikooadmoaaGreat
namespace Go.Proofs.YtlnbjikooadmoaaGreat
namespace Sn
open Go.RowKit Hd Fm Bk
theorem blocks_one (m:Mt) (w:World):Calls Tryz.prog 33 #[.slice (some ⟨w.heap.size,0,none⟩) 1 1] (w.alloc (.cells #[.int .i64 (m.a:Int),.int .i64 (m.s:Int),.int .i64 (m.r:Int),.int .i64 (m.c:Int),.int .i64 (m.f:Int),.int .i64 (m.e:Int),.int .i64 (m.l:Int)] 39))
  fun e w'=>e=.returned (.int .i64 (if okM m=true then 0 else 211))/\Below w.heap.size w w':=by
 have hrd:Rd (w.alloc (.cells #[.int .i64 (m.a:Int),.int .i64 (m.s:Int),.int .i64 (m.r:Int),.int .i64 (m.c:Int),.int .i64 (m.f:Int),.int .i64 (m.e:Int),.int .i64 (m.l:Int)] 39)) (w.alloc (.cells #[.int .i64 (m.a:Int),.int .i64 (m.s:Int),.int .i64 (m.r:Int),.int .i64 (m.c:Int),.int .i64 (m.f:Int),.int .i64 (m.e:Int),.int .i64 (m.l:Int)] 39)).heap.size 7 (some ⟨w.heap.size,0,none⟩) 1 (fl7 [m]) :=
  Rd.of_own (World.ownsRow_lit (base:=w.heap.size) (e:=39) (size:=7) w #[.int .i64 (m.a:Int),.int .i64 (m.s:Int),.int .i64 (m.r:Int),.int .i64 (m.c:Int),.int .i64 (m.f:Int),.int .i64 (m.e:Int),.int .i64 (m.l:Int)] 1 (Nat.le_refl _) (by simp[maxLen]) rfl)
 refine(blocks_any _ 1 1 [m] _ hrd (by omega)).mono fun e w' ⟨he,hb⟩=>⟨?_,(ext_alloc w _).trans (hb.mono (ext_alloc w _).size)⟩
 rw[he];unfold blE okBl;simp[rowM]
structure Kp (w:World) (b4 b3 b10:Nat) (i g f:Int) (A:Option Addr) (n c late:Nat) (l:List Mt):Prop where
 row:Var w b4 35 (.slice A n c)
 hd:w.heap[b3]? =some (.cells #[.int .i64 i,.int .i64 g,.int .i64 f] 33 (0,0))
 lt:Var w b10 3 (.int .i64 (late:Int))
 rd:Rd w w.heap.size 7 A n (fl7 l)
section
variable {w:World} {b4 b3 b10:Nat} {i g f:Int} {A:Option Addr} {n c late:Nat} {l:List Mt} (h:Kp w b4 b3 b10 i g f A n c late l)
include h
theorem Kp.h0:w.cell? ⟨b3,0,none⟩=some (.int .i64 i):=by rw[cell_of_row w b3 0 _ _ (0,0) h.hd];rfl
theorem Kp.h1:w.cell? ⟨b3,1,none⟩=some (.int .i64 g):=by rw[cell_of_row w b3 1 _ _ (0,0) h.hd];rfl
theorem Kp.h2:w.cell? ⟨b3,2,none⟩=some (.int .i64 f):=by rw[cell_of_row w b3 2 _ _ (0,0) h.hd];rfl
theorem Kp.ht:b3<w.heap.size:=(Array.getElem?_eq_some_iff.1 h.hd).1
theorem Kp.ext {w':World} (hb:Below w.heap.size w w'):Kp w' b4 b3 b10 i g f A n c late l :=
 ⟨h.row.below hb h.row.lt,(hb.block b3 h.ht).trans h.hd,h.lt.below hb h.lt.lt,h.rd.ext hb⟩
end
set_option maxHeartbeats 6400000 in
set_option maxRecDepth 100000 in
theorem goes_any (m:Mt) (b4 b3 b10:Nat) (i g f:Int) (h1:Nat) (A:Option Addr) (n c:Nat) (l:List Mt) (w:World) (hf:f=h1) (ho:okBl l=true) (hk:Kp w b4 b3 b10 i g f A n c (lateM l) l) :
  Calls Tryz.prog 89 #[mv m,.pointer (some ⟨b4,0,none⟩),.pointer (some ⟨b3,0,none⟩),.pointer (some ⟨b10,0,none⟩)] w fun e w'=>e=.returned (.bool (goesB h1 l m))/\Below w.heap.size w w':=by
 have mixed:Tryz.prog.follows .mixedOrders=true:=by kernel_rfl
 have hln:=mt_len hk.rd;obtain⟨hl0,-⟩:=okBl_row ho;have hgo:goesB h1 l m=true↔(l.length<1000/\m.f=nextM h1 l/\lateM l<=m.e)/\okM m=true:=by unfold goesB;rw[Bool.and_eq_true,decide_eq_true_eq]
 have HB:=Lib.hid (ext_alloc w (.cells #[.int .i64 m.a,.int .i64 m.s,.int .i64 m.r,.int .i64 m.c,.int .i64 m.f,.int .i64 m.e,.int .i64 m.l] 39));have HM:=Lib.hid (show Mb (w.alloc (.cells #[.int .i64 m.a,.int .i64 m.s,.int .i64 m.r,.int .i64 m.c,.int .i64 m.f,.int .i64 m.e,.int .i64 m.l] 39)) w.heap.size m.a m.s m.r m.c m.f m.e m.l from heap_alloc_new w _);have HK:=Lib.hid (hk.ext (ext_alloc w (.cells #[.int .i64 m.a,.int .i64 m.s,.int .i64 m.r,.int .i64 m.c,.int .i64 m.f,.int .i64 m.e,.int .i64 m.l] 39)));have HNX:=Lib.hid (fun w hr=>next_any A n c i g f h1 l w hr (by omega) ho hf);have HB1:=Lib.hid (fun w=>blocks_one m w);unfold hv at HNX;generalize hG:goesB h1 l m=r at *
 have HR:=Lib.hid hgo;generalize nextM h1 l=X at *
 generalize lateM l=T at *
 rw[hln] at HR hl0;clear hgo hk ho hf hG hln;obtain⟨ma,ms,mr,mc,mf,me,ml⟩:=m;unfold mv magg;dsimp only at *
 go_enter Tryz.func89, Tryz.ntmps89
 go_wp2_with fail
 generalize w.alloc (.cells #[.int .i64 ma,.int .i64 ms,.int .i64 mr,.int .i64 mc,.int .i64 mf,.int .i64 me,.int .i64 ml] 39)=w2 at *
 have l2:=HM.out.lt;have k0:∀q:Bw w2,q.to.cell? ⟨b4,0,none⟩=some (.slice A n c):=fun q=>q.cell HK.out.row.lt HK.out.row.cell
 have k1:∀q:Bw w2,q.to.cell? ⟨b3,0,none⟩=some (.int .i64 i):=fun q=>q.cell HK.out.ht HK.out.h0
 have k2:∀q:Bw w2,q.to.cell? ⟨b3,1,none⟩=some (.int .i64 g):=fun q=>q.cell HK.out.ht HK.out.h1
 have k3:∀q:Bw w2,q.to.cell? ⟨b3,2,none⟩=some (.int .i64 f):=fun q=>q.cell HK.out.ht HK.out.h2
 have k4:∀q:Bw w2,q.to.cell? ⟨b10,0,none⟩=some (.int .i64 T):=fun q=>q.cell HK.out.lt.lt HK.out.lt.cell
 have b4':∀q:Bw w2,q.to.cell? ⟨w.heap.size,4,none⟩=some (.int .i64 mf):=fun q=>q.cell l2 HM.out.c4
 have b5':∀q:Bw w2,q.to.cell? ⟨w.heap.size,5,none⟩=some (.int .i64 me):=fun q=>q.cell l2 HM.out.c5
 by_cases c1:n<1000
 ·have t1:(n:Int)<1000:=by omega
  by_cases c2:mf=X
  ·have t2:((mf:Int)==(X:Int))=true:=by rw[beq_iff_eq];omega
   by_cases c3:T<=me
   ·have t3:(T:Int)<=(me:Int):=by omega
    have HSO:=Lib.hid (show ∀wx,Below w2.heap.size w2 wx->(fun wx=>Below w2.heap.size w2 wx/\wx.cell? ⟨b4,0,none⟩=some (.slice A n c)/\wx.cell? ⟨b3,0,none⟩=some (.int .i64 i)/\wx.cell? ⟨b3,1,none⟩=some (.int .i64 g)/\wx.cell? ⟨b3,2,none⟩=some (.int .i64 f)/\wx.cell? ⟨b10,0,none⟩=some (.int .i64 T)/\wx.cell? ⟨w.heap.size,0,none⟩=some (.int .i64 ma)/\wx.cell? ⟨w.heap.size,1,none⟩=some (.int .i64 ms)/\wx.cell? ⟨w.heap.size,2,none⟩=some (.int .i64 mr)/\wx.cell? ⟨w.heap.size,3,none⟩=some (.int .i64 mc)/\wx.cell? ⟨w.heap.size,4,none⟩=some (.int .i64 mf)/\wx.cell? ⟨w.heap.size,5,none⟩=some (.int .i64 me)/\wx.cell? ⟨w.heap.size,6,none⟩=some (.int .i64 ml)) wx from fun wx hb =>
     have q:Bw w2:=⟨wx,hb⟩
     ⟨hb,(⟨wx,hb⟩:Bw w2).cell HK.out.row.lt HK.out.row.cell,(⟨wx,hb⟩:Bw w2).cell HK.out.ht HK.out.h0,(⟨wx,hb⟩:Bw w2).cell HK.out.ht HK.out.h1,(⟨wx,hb⟩:Bw w2).cell HK.out.ht HK.out.h2,(⟨wx,hb⟩:Bw w2).cell HK.out.lt.lt HK.out.lt.cell,
      (⟨wx,hb⟩:Bw w2).cell l2 HM.out.c0,(⟨wx,hb⟩:Bw w2).cell l2 HM.out.c1,(⟨wx,hb⟩:Bw w2).cell l2 HM.out.c2,(⟨wx,hb⟩:Bw w2).cell l2 HM.out.c3,(⟨wx,hb⟩:Bw w2).cell l2 HM.out.c4,(⟨wx,hb⟩:Bw w2).cell l2 HM.out.c5,(⟨wx,hb⟩:Bw w2).cell l2 HM.out.c6⟩)
    have HS0:=Lib.hid (HSO.out w2.drew ⟨rfl,rfl,rfl,Nat.le_refl _,fun _ _=>rfl⟩);have HN0:=Lib.hid (HNX.out w2.drew (HK.out.rd.ext (w':=w2.drew) ⟨rfl,rfl,rfl,Nat.le_refl _,fun _ _=>rfl⟩));have HV:=Lib.hid (show okM ⟨ma,ms,mr,mc,mf,me,ml⟩=r from Bool.eq_iff_iff.2 ⟨fun h=>HR.out.2 ⟨⟨c1,c2,c3⟩,h⟩,fun h=>(HR.out.1 h).2⟩);rcases hok:okM ⟨ma,ms,mr,mc,mf,me,ml⟩ with _|_
    all_goals
     rw[hok] at HV HB1;simp only[Bool.false_eq_true,if_false,if_true] at HB1;clear hok c1 c2 c3 k0 k1 k2 k3 k4 b4' b5' HR;go_region_held3 (fun wx=>Below w2.heap.size w2 wx/\wx.cell? ⟨b4,0,none⟩=some (.slice A n c)/\wx.cell? ⟨b3,0,none⟩=some (.int .i64 i)/\wx.cell? ⟨b3,1,none⟩=some (.int .i64 g)/\wx.cell? ⟨b3,2,none⟩=some (.int .i64 f)/\wx.cell? ⟨b10,0,none⟩=some (.int .i64 T)/\wx.cell? ⟨w.heap.size,0,none⟩=some (.int .i64 ma)/\wx.cell? ⟨w.heap.size,1,none⟩=some (.int .i64 ms)/\wx.cell? ⟨w.heap.size,2,none⟩=some (.int .i64 mr)/\wx.cell? ⟨w.heap.size,3,none⟩=some (.int .i64 mc)/\wx.cell? ⟨w.heap.size,4,none⟩=some (.int .i64 mf)/\wx.cell? ⟨w.heap.size,5,none⟩=some (.int .i64 me)/\wx.cell? ⟨w.heap.size,6,none⟩=some (.int .i64 ml)) (first|assumption|exact HS0.out|exact HSO.out _ (hS5.1.trans ((ext_alloc _ _).mono hS5.1.size))) (first
      |(go_at_call 90;refine HN0.out.mono ?_;rintro e5 w5 ⟨rfl,hb5⟩;have hS5:=HSO.out _ (HS0.out.1.trans (hb5.mono HS0.out.1.size)))
      |(go_at_call 33;refine(HB1.out _).mono ?_;rintro e6 w6 ⟨rfl,hb6⟩;have hS6:=HSO.out _ (hS5.1.trans (hb6.mono hS5.1.size))))
     go_wp2_with fail
     go_ret
     exact⟨by rw[<-HV.out];rfl,HB.out.trans (hS6.1.mono HB.out.size)⟩
   ·have t3: ¬ (T:Int)<=(me:Int):=by omega
    have HF:=Lib.hid (show false=r by rcases r with _|_;rfl;exact absurd (HR.out.1 rfl).1.2.2 c3);clear c1 c2 c3;refine wp_region_quiet_below (by assumption) (by kernel_rfl) ?_
    repeat (first|go_big_quiet_skip|quiet_step (first|(go_at_call 90;refine below_of (HNX.out _ (HK.out.rd.ext (Bw.h _))))))
    refine wpQuiet_nil ?_;intro _ hw';obtain⟨q,rfl⟩:=hw';go_wp2_with fail
    go_ret
    exact⟨by rw[<-HF.out];rfl,HB.out.trans (q.h.mono HB.out.size)⟩
  ·have t2:((mf:Int)==(X:Int))=false:=by rw[beq_eq_false_iff_ne];omega
   have HF:=Lib.hid (show false=r by rcases r with _|_;rfl;exact absurd (HR.out.1 rfl).1.2.1 c2);clear c1 c2;refine wp_region_quiet_below (by assumption) (by kernel_rfl) ?_
   repeat (first|go_big_quiet_skip|quiet_step (first|(go_at_call 90;refine below_of (HNX.out _ (HK.out.rd.ext (Bw.h _))))))
   refine wpQuiet_nil ?_;intro _ hw';obtain⟨q,rfl⟩:=hw';go_wp2_with fail
   go_ret
   exact⟨by rw[<-HF.out];rfl,HB.out.trans (q.h.mono HB.out.size)⟩
 ·have t1: ¬ (n:Int)<1000:=by omega
  have HF:=Lib.hid (show false=r by rcases r with _|_;rfl;exact absurd (HR.out.1 rfl).1.1 c1);clear c1;refine wp_region_quiet_below (by assumption) (by kernel_rfl) ?_
  repeat (first|go_big_quiet_skip|quiet_step (fail))
  refine wpQuiet_nil ?_;intro _ hw';obtain⟨q,rfl⟩:=hw';go_wp2_with fail
  go_ret
  exact⟨by rw[<-HF.out];rfl,HB.out.trans (q.h.mono HB.out.size)⟩
end Sn
end Go.Proofs.YtlnbjikooadmoaaGreat
