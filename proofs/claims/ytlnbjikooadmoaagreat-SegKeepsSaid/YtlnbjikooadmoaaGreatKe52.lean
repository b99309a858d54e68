/- block: Encode, Decode, Peek where they answer. A range over an iterator that turns a variable of its own; the body never leaves the loop. frame.frames$1: it gives the frames that stand one behind the other. frame: frames, Scan. head.alone. What is known of blocks, plainly: which may be, which are a row. scan: what its functions compute, plainly: texts that agree on a beginning, frames, the run over frames. scan: what holds of the blocks that are found; their records are a row; a block more. seg: Add. block.Seqs. head.follows. -/
import Derived.Test.YtlnbjikooadmoaaGreatKe51
import Derived.Test.YtlnbjikooadmoaaGreatRows
import Derived.RangeFuncNested
import Derived.RangeFuncBound
import Derived.RangeFuncCalls
import Derived.RangeFuncLeaves
import Derived.Shelf.Abstract
import Derived.Shelf.RegionOpen
import Derived.WalkKit
import Derived.OwnWalkIn
import Derived.TacticsInMore
import Derived.LoopNIn
import Derived.LoopIn
import Derived.Test.YtlnbjikooadmoaaGreatKe49
import Derived.Sort.LoopGhostIn
import Derived.Test.YtlnbjikooadmoaaGreatKe50
import Derived.Deep.QuietTactic
import Derived.BigQuiet
namespace Go.Proofs.YtlnbjikooadmoaaGreat
namespace Bk
open Go.RowKit Tk Vi Sq Rd
theorem peek_yes (s:ByteArray) {md raw count first early late:Nat} {r:List UInt8} (w:World) (hs:s.size<=1000000) (h:peekB s.data.toList=some (md,raw,count,first,early,late,r)) :
  Calls Tryz.prog 36 #[.string s] w fun e w'=>e=.returned (.tuple #[magg 0 0 raw count first early late,.int .i64 0])/\Below w.heap.size w w':=by
 refine(Peek_any s w hs).mono ?_
 rintro e w' ⟨⟨md',raw',count',first',early',late',r',h',rfl⟩|⟨h',-⟩,hb⟩
 ·rw[h] at h'
  simp only[Option.some.injEq,Prod.mk.injEq] at h'
  obtain⟨-,rfl,rfl,rfl,rfl,rfl,-⟩:=h'
  exact⟨rfl,hb⟩
 ·rw[h] at h';cases h'
end Bk
end Go.Proofs.YtlnbjikooadmoaaGreat
namespace Go.Proofs.YtlnbjikooadmoaaGreat
namespace Rg
open Go.RowKit Go.Shelf
variable {F:Fence} {n:Nat} {P:Program}
structure Ks (S:Nat->Prop) (W W':World):Prop where
 size:W.heap.size<=W'.heap.size
 same:∀k o,W.heap[k]? =some o->o.isCells=true->S k->W'.heap[k]? =some o
theorem Ks.trans {S:Nat->Prop} {A B C:World} (h:Ks S A B) (k:Ks S B C):Ks S A C:=⟨Nat.le_trans h.size k.size,fun i o hi ho hS=>k.same i o (h.same i o hi ho hS) ho hS⟩
theorem Ks.putObj {S:Nat->Prop} {W:World} {l:Nat} {o:Obj} (o':Obj) (h:W.heap[l]? =some o) (ho:o.isCells=false):Ks S W (W.putObj l o'):=by
 refine⟨(grownBy_putObj' W l o').size,fun k p hk hp _=>?_⟩
 rw[World.putObj_heap_other (by rintro rfl;rw[h] at hk;cases hk;rw[ho] at hp;cases hp)]
 exact hk
def Gives {α:Type} (F:Fence) (n:Nat) (P:Program) (g:Nat) (lb:Array Value) (enc:α->Value) (R:Nat->Prop) (b:Nat) (xs:List α) (w:World):Prop :=
 ∀(l:Nat) (J:List α->(Nat->Prop)->World->Prop) (W:World),Below w.heap.size w W ->
  (∀pre S S' W1 W2,J pre S W1->W1.grownBy W2 (some b)->(∀k,S' k->S k∨W1.heap.size<=k/\k<W2.heap.size)->J pre S' W2) ->
  (∀pre x rest S W1,xs=pre++x::rest->J pre S W1->YieldAt F (n-1) P l #[enc x] W1 fun e W'=>e=.returned (.bool true)/\J (pre++[x]) S W'/\Ks S W1 W') ->
  J [] R W ->
  CallsIn F n P g (#[.func (.yield l) #[] #[]]++lb) W fun e W'=>(∃v,e=.returned v)/\ ∃S,J xs S W'
theorem wpIn_range_own {α:Type} {g:Operand} {p:Tmp} {assign body:Code} {Q:Exit->Act->World->Prop} {a:Act} {w:World}
  (hro:F.round=none) (h1:1<=n) {gf:Nat} {lb:Array Value} (hg:a.eval g=.func (.func gf) #[] lb) (hFg:F.fn gf) (eg:∀args w,(callFunc gf args).run P w=.ok (.enter gf args) w)
  {enc:α->Value} {R:Nat->Prop} {b:Nat} {xs:List α} (hb:b<w.heap.size) (hseq:Gives F (n-1) P gf lb enc R b xs w)
  (I:List α->(Nat->Prop)->World->Prop) (hI:∀pre S S' W W' row,I pre S W->W.grownBy W' row->(∀r,row=some r->r=b∨w.heap.size<=r/\ ∃o:Obj,W.heap[r]? =some o/\o.isCells=false) ->
   (∀k,S' k->S k∨W.heap.size<=k/\k<W'.heap.size)->I pre S' W')
  (h0:I [] R w) (Ax:List α->α->(Nat->Prop)->Act->World->Prop)
  (hAx:∀pre x S a' W W' row,Ax pre x S a' W->W.grownBy W' row->(∀r,row=some r->r=b∨w.heap.size<=r/\ ∃o:Obj,W.heap[r]? =some o/\o.isCells=false)->Ax pre x S a' W')
  (hassign:∀(l:Nat) (pre:List α) (x:α) (rest:List α) (S:Nat->Prop) (W:World),xs=pre++x::rest->I pre S W ->
   assign.wpIn (F.inRound l) (n-1-1) P (Exit.then (fun a' W'=>KeepsOthers W W'/\Ks S W W'/\Ax pre x S a' W') (fun _ _ _=>False)) { tmps:=(#[p].zip #[enc x]).foldl (fun t (p,v)=>t.setIfInBounds p v) a.tmps,defers:=[] } W)
  (hbody:∀(l:Nat) (pre:List α) (x:α) (rest:List α) (S:Nat->Prop) (a':Act) (W:World),xs=pre++x::rest->Ax pre x S a' W ->
   body.wpIn (F.inRound l) (n-1-1) P (fun e _ W'=>e=.normal/\KeepsOthers W W'/\Ks S W W'/\I (pre++[x]) S W') a' W)
  (hdone:∀(D:Nat) (S:Nat->Prop) (W:World),w.heap.size<=D->I xs S W->W.heap[D]? =some (.deferred (some []))->Q .normal { a with defers:={ target:=.collected D,args:=#[] }::a.defers } W) :
  (Code.rangeFunc g #[p] assign body).wpIn F n P Q a w:=by
 refine wpIn_rangeFunc ?_
 intro fn hfn
 rw[hro]
 obtain⟨rec,hrec⟩:∃rec:LoopState->Option Code->Loop,rec=fun st pe=>{ state:=st,pending:=pe,fn,tmps:=a.tmps,params:=#[p],assign,body,defers:=w.heap.size }:=⟨_,rfl⟩
 obtain⟨W1,hW1⟩:∃W1,(w.alloc (.deferred (some []))).alloc (.loop (rec .ready none))=W1:=⟨_,rfl⟩
 have hL1:W1.heap[w.heap.size+1]? =some (.loop (rec .ready none)):=by
  rw[<-hW1];have:=World.alloc_heap_new (w.alloc (.deferred (some []))) (.loop (rec .ready none));rwa [World.size_alloc] at this
 have hK1:W1.heap[w.heap.size]? =some (.deferred (some [])):=by
  rw[<-hW1];exact(Below.heap_alloc _ _ _ (by simp)).trans (World.alloc_heap_new w _)
 have hIa:∀pre S W o,I pre S W->I pre S (W.alloc o):=fun pre S W o h=>hI pre S S W _ none h (World.grownBy_alloc W o none) (fun r e=>by cases e) (fun _ h=>.inl h)
 have hIp:∀pre S W l (o o':Obj),I pre S W->w.heap.size<=l->W.heap[l]? =some o->o.isCells=false->I pre S (W.putObj l o'):=fun pre S W l o o' h hl ho hc =>
  hI pre S S W _ (some l) h (grownBy_putObj' W l o') (fun r e=>by cases e;exact .inr ⟨hl,o,ho,hc⟩) (fun _ h=>.inl h)
 have hI1:I [] R W1:=by rw[<-hW1];exact hIa _ _ _ _ (hIa _ _ _ _ h0)
 have hb1:Below w.heap.size w W1:=by
  rw[<-hW1];exact((Below.refl _ w).alloc (Nat.le_refl _) _).alloc (by simp) _
 refine⟨w.heap.size+1,[{ target:=.collected w.heap.size,args:=#[] }],W1,{ target:=.fn (.func gf) lb,args:=#[.func (.yield (w.heap.size+1)) #[] #[]] },W1,gf,
  #[.func (.yield (w.heap.size+1)) #[] #[]]++lb,W1,?_,?_,?_,?_,fun _=>h1,?_⟩
 ·rw[<-hW1,hrec];exact run_enterLoop_outer _ _ _ _ _
 ·simp only[resolve,hg]
  simp[go_sem]
 ·intro f' hf';simp[Target.leads] at hf';subst hf';exact hFg
 ·simp[invoke,go_sem,eg]
 ·have hst:∀{A B:World} {k:Nat} {o:Obj},A.grownBy B (some b)->w.heap.size<=k->A.heap[k]? =some o->B.heap[k]? =some o:=fun hgr hk ho =>
   (hgr.block _ (Array.getElem?_eq_some_iff.1 ho).1 (by intro e;cases e;omega)).trans ho
  refine(hseq (w.heap.size+1)
   (fun pre S W=>I pre S W/\W.heap[w.heap.size+1]? =some (.loop (rec .ready none))/\W.heap[w.heap.size]? =some (.deferred (some [])))
   W1 hb1 (fun pre S S' A B hs hgr hS=>⟨hI pre S S' A B _ hs.1 hgr (fun r e=>by cases e;exact .inl rfl) hS,hst hgr (by omega) hs.2.1,hst hgr (by omega) hs.2.2⟩) ?_ ⟨hI1,hL1,hK1⟩).mono ?_
  ·rintro pre x rest S W hxs ⟨hi,hl,hk⟩
   have hlt:w.heap.size+1<W.heap.size:=(Array.getElem?_eq_some_iff.1 hl).1
   have hy:=run_yield (P:=P) (args:=#[enc x]) hl (by rw[hrec];rfl)
   rw[hrec] at hy
   refine⟨fn,_,assign,body,hy,roundIn_of_wpIn hfn (wpIn_mono (hassign (w.heap.size+1) pre x rest S W hxs hi) ?_)⟩
   rintro e a' W' hp
   cases e with
   |normal =>
    obtain⟨hk0,hkc0,hax⟩:=hp
    have hl0:=hk0.same _ _ hl rfl
    have hk00:=hk0.same _ _ hk rfl
    have hlt0:w.heap.size+1<W'.heap.size:=(Array.getElem?_eq_some_iff.1 hl0).1
    refine⟨_,run_beginRound hl0 (by rw[hrec]),?_⟩
    have hl2:(W'.putObj (w.heap.size+1) (.loop { rec .ready none with state:=.busy })).heap[w.heap.size+1]? =some (.loop { rec .ready none with state:=.busy }):=World.putObj_heap_same hlt0
    have hk2:(W'.putObj (w.heap.size+1) (.loop { rec .ready none with state:=.busy })).heap[w.heap.size]? =some (.deferred (some [])):=(World.putObj_heap_other (by omega)).trans hk00
    have hw2:Ks S W (W'.putObj (w.heap.size+1) (.loop { rec .ready none with state:=.busy })):=hkc0.trans (Ks.putObj _ hl0 rfl)
    refine wpIn_mono (hbody _ pre x rest S a' _ hxs (hAx _ _ _ _ _ _ (some (w.heap.size+1)) hax (grownBy_putObj' _ _ _) (fun r e=>by cases e;exact .inr ⟨by omega,_,hl0,rfl⟩))) ?_
    rintro e a3 W3 ⟨rfl,hk3,hkp3,hi3⟩
    have hl3:=hk3.same _ _ hl2 rfl
    have hr:=run_endRound (P:=P) none hl3
    rw[hrec] at hr hl3
    refine⟨_,_,hr,rfl,⟨hIp _ _ _ _ _ _ hi3 (by omega) hl3 rfl,?_,(World.putObj_heap_other (by omega)).trans (hk3.same _ _ hk2 rfl)⟩,(hw2.trans hkp3).trans (Ks.putObj _ hl3 rfl)⟩
    rw[hrec]
    exact World.putObj_heap_same (Array.getElem?_eq_some_iff.1 hl3).1
   |ret=>exact hp.elim
   |exit id=>exact hp.elim
   |goto t=>exact hp.elim
   |panic ch=>exact hp.elim
   |outgrown=>exact hp.elim
  ·rintro e W2 ⟨⟨v,rfl⟩,S,hi,hl,hk⟩
   exact⟨none,_,by have:=run_endLoop (P:=P) hl (by rw[hrec];simp);rw[hrec] at this;exact this,hdone _ S _ (Nat.le_refl _) (hIp _ _ _ _ _ _ hi (by omega) hl rfl) ((World.putObj_heap_other (by omega)).trans hk)⟩
end Rg
end Go.Proofs.YtlnbjikooadmoaaGreat
namespace Go.Proofs.YtlnbjikooadmoaaGreat
namespace Fm
open Go.RowKit Go.Shelf Cr Rg
section
variable {F:Fence} {n:Nat} {P:Program} {ops:Array Oper} {rest:List Oper} {op:Oper} {a:Act} {w:World} {Q:Exit->Act->World->Prop}
theorem wpListIn_alloc_zero (hgd:op.guard=none) (t:TypeId) (ho:op.op=.alloc t) (z:Value) (k:Nat) (hz:(P.info? t).map (fun i=>(i.zero,i.size))=some (some z,k))
  (h:wpListIn F n P ops Q rest (a.put op.dst (.pointer (some ⟨w.heap.size,0,none⟩))) (w.alloc (.cells z.cells t))):wpListIn F n P ops Q (op::rest) a w:=by
 refine wpListIn_plain hgd fun K hK=>?_
 have hz1:=(zero_of_info hz).1 w
 unfold Oper.wpIn
 refine⟨?_,?_⟩
 ·simp[Oper.about,ho]
 ·rw[Oper.semAt_plain F _ _ (by rw[ho];intro c hc';cases hc')]
  simp only[execOp,ho,Instr.alloc,Sem.run_bind,hz1,Result.andThen_ok]
  exact hK _ _ h
theorem wpListIn_store_new (w0:World) (c:Array Value) (hgd:op.guard=none) (t:TypeId) (x y:Operand) (ho:op.op=.store t x y) (z:Array Value) (hx:a.eval x=.pointer (some ⟨w0.heap.size,0,none⟩)) (hy:a.eval y=.agg z)
  (hi:(P.info? t).map (·.size)=some z.size) (hc:c.size=z.size) (h1:z.all (·.oneCell')=true)
  (h:wpListIn F n P ops Q rest (a.put op.dst undef) (w0.alloc (.cells z t))):wpListIn F n P ops Q (op::rest) a (w0.alloc (.cells c t)):=by
 refine wpListIn_plain hgd fun K hK=>?_
 unfold Oper.wpIn
 refine⟨?_,?_⟩
 ·simp[Oper.about,ho]
 ·rw[Oper.semAt_plain F _ _ (by rw[ho];intro c hc';cases hc')]
  simp only[execOp,ho,hx,hy,Instr.storeAt,Instr.sureAddr,Sem.run_bind,Sem.run_pure,Result.andThen_ok,run_storeVar_new w0 t c z hi hc h1]
  exact hK _ _ h
end
abbrev Fr:=Nat×ByteArray×Nat×Nat
def fr (s:ByteArray) (p:Nat):Fr:=(by4 s.data.toList p,fbody s p,p,fto s p)
def fv (x:Fr):Value:=fagg x.1 x.2.1 x.2.2.1 x.2.2.2
theorem GF_to {s:ByteArray} {p:Nat} (h:GF s p):p+9<=fto s p/\fto s p<=s.size:=by
 have:=h.2.2.2.1
 unfold fto fn
 omega
def frs (s:ByteArray) (p:Nat):List Fr:=if _h:GF s p then fr s p::frs s (fto s p) else[]
termination_by s.size-p
decreasing_by have:=GF_to _h;omega
theorem frs_yes {s:ByteArray} {p:Nat} (h:GF s p):frs s p=fr s p::frs s (fto s p):=by rw[frs,dif_pos h]
theorem frs_no {s:ByteArray} {p:Nat} (h: ¬ GF s p):frs s p=[]:=by rw[frs,dif_neg h]
def One (w:World) (b:Nat) (v:Value) (t:TypeId):Prop:=w.heap[b]? =some (.cells #[v] t (0,0))
theorem One.cell {w:World} {b:Nat} {v:Value} {t:TypeId} (h:One w b v t):w.cell? ⟨b,0,none⟩=some v:=by rw[cell_of_row w b 0 _ _ (0,0) h];rfl
theorem One.fz {w:World} {b:Nat} {v:Value} {t:TypeId} (h:One w b v t):w.frozen? ⟨b,0,none⟩=false:=frozen_of_row w b 0 _ _ h
theorem One.lt {w:World} {b:Nat} {v:Value} {t:TypeId} (h:One w b v t):b<w.heap.size:=(Array.getElem?_eq_some_iff.1 h).1
theorem One.below {w w':World} {b B:Nat} {v:Value} {t:TypeId} (h:One w b v t) (hb:Below B w w') (hB:b<B):One w' b v t:=(hb.block b hB).trans h
theorem One.set {w:World} {b:Nat} {v:Value} {t:TypeId} (h:One w b v t) (u:Value):One (w.setCell ⟨b,0,none⟩ u) b u t:=by
 unfold One at *;simp[World.setCell,Array.getElem?_modify,h]
theorem One.far {w:World} {b g j:Nat} {v:Value} {t:TypeId} (h:One w b v t) (hn:b≠g) (u:Value):One (w.setCell ⟨g,j,none⟩ u) b v t:=(Below.heap_setCell w ⟨g,j,none⟩ u b hn).trans h
theorem One.ks {w w':World} {b:Nat} {v:Value} {t:TypeId} {S:Nat->Prop} (h:One w b v t) (hk:Ks S w w') (hS:S b):One w' b v t:=hk.same _ _ h rfl hS
theorem grown_one (W:World) (b:Nat) (v:Value):W.grownBy (W.setCell ⟨b,0,none⟩ v) (some b):=by
 refine⟨rfl,rfl,rfl,by simp,fun k _ hk=>?_⟩
 exact Below.heap_setCell W ⟨b,0,none⟩ v k (by rintro rfl;exact hk rfl)
theorem grown_below {W W':World} {r:Option Nat} (h:Below W.heap.size W W'):W.grownBy W' r:=⟨h.os,h.tape,h.output,h.size,fun k hk _=>h.block k hk⟩
set_option maxHeartbeats 6400000 in
set_option maxRecDepth 100000 in
theorem frames1_gives (n bs ba:Nat) (s:ByteArray) (p:Nat) (w:World) (hs:s.size<=1000000) (hp:p<=1000000)
  (cs:One w bs (.string s) 9) (ca:One w ba (.int .i64 (p:Int)) 3) (hne:bs≠ba) :
  Gives Fence.wide n Tryz.prog 155 #[.pointer (some ⟨bs,0,none⟩),.pointer (some ⟨ba,0,none⟩)] fv (fun k=>k=bs∨k=ba) ba (frs s p) w:=by
 intro l J W hW hJ hY h0
 have hz:(Tryz.prog.info? 151).map (fun i=>(i.zero,i.size))=some (some (.agg (Array.replicate 256 (.int .u32 0))),256):=by kernel_rfl
 have hsz:(Tryz.prog.info? 151).map (·.size)=some 256:=by kernel_rfl
 have HZ:=Lib.hid hz
 have HSI:=Lib.hid hsz
 have HTL:=Lib.hid (show TB.size=256 by unfold TB;rw[List.size_toArray,length_vu,length_n256])
 have HT1:=Lib.hid (show TB.all (·.oneCell')=true from all_oneCell_toArray (vu_one _))
 have HT:=Lib.hid (table_any W)
 have HJb:=Lib.hid (fun(pre:List Fr) (S:Nat->Prop) (W1 W2:World) (h:J pre S W1) (hb:Below W1.heap.size W1 W2)=>hJ pre S S W1 W2 h (grown_below hb) (fun _ h=>.inl h))
 have HJ:=Lib.hid hJ
 have HY:=Lib.hid hY
 have H0:=Lib.hid (And.intro h0 (And.intro (cs.below hW cs.lt) (ca.below hW ca.lt)))
 clear hz hsz hJ hY h0 cs ca hW
 refine callsIn_of_wp Tryz.func155 rfl trivial ?_ rfl
 simp only[Tryz.ntmps155,List.size_toArray,List.length_cons,List.length_nil,Nat.reduceAdd,Nat.reduceSub,Array.replicate_succ,Array.replicate_zero,List.push_toArray,List.append_toArray,List.nil_append,List.cons_append]
 gi_wp2_with fail
 refine⟨trivial,(fun h=>by cases h),(callsIn_wide.2 HT.out).mono ?_⟩
 rintro e1 w1 ⟨rfl,hb1⟩
 have H1:=Lib.hid (And.intro (HJb.out _ _ _ _ H0.out.1 hb1) (And.intro (H0.out.2.1.below hb1 H0.out.2.1.lt) (H0.out.2.2.below hb1 H0.out.2.2.lt)))
 have HB2:=Lib.hid (ext_alloc w1 (.cells TB 151))
 have H2:=Lib.hid (And.intro (HJ.out _ _ (fun k=>k=bs∨k=ba∨k=w1.heap.size) _ _ H1.out.1 (grown_below HB2.out) (by rintro k (h|h|h);exact .inl (.inl h);exact .inl (.inr h);exact .inr (by subst h;simp))) (And.intro (H1.out.2.1.below HB2.out H1.out.2.1.lt) (And.intro (H1.out.2.2.below HB2.out H1.out.2.2.lt) (tb_row w1))))
 clear hb1 HT H0 H1 HB2
 generalize TB=Z at *
 gi_wp2_with (first|(refine wpListIn_alloc_zero rfl 151 rfl _ _ HZ.out ?_)|(refine wpListIn_store_new w1 (Array.replicate 256 (.int .u32 0)) rfl 151 (.tmp 4) (.tmp 7) rfl Z (by simp[go_sem,Act.eval]) (by simp[go_sem,Act.eval]) (by rw[HTL.out];exact HSI.out) (by rw[HTL.out];simp) HT1.out ?_))
 obtain⟨T,hT⟩:∃T,T=w1.heap.size:=⟨_,rfl⟩
 rw[<-hT] at H2 ⊢
 generalize w1.alloc (.cells Z 151)=w2 at *
 clear hT
 simp only[Act.put,List.setIfInBounds_toArray,List.set_cons_zero,List.set_cons_succ]
 gi_loopg [] (s.size+2) (fun kx wr=>∃(q:Nat) (pre:List Fr),q<=1000000/\s.size+1-q<kx/\Hid (frs s p=pre++frs s q/\J pre (fun k=>k=bs∨k=ba∨k=T) wr/\One wr bs (.string s) 9/\One wr ba (.int .i64 (q:Int)) 3/\Au wr T (n256 tb)))
 case atStart=>exact⟨p,[],by omega,by omega,Lib.hid ⟨rfl,H2.out.1,H2.out.2.1,H2.out.2.2.1,H2.out.2.2.2⟩⟩
 case round =>
  clear H2
  obtain⟨q,pre,hq,hkx,H⟩:=hrel
  have hc1:=H.out.2.2.1.cell
  have hc2:=H.out.2.2.2.1.cell
  have HG:=Lib.hid (get_any T s q wr H.out.2.2.2.2 hs (by omega))
  gi_wp2_with fail
  refine⟨trivial,(fun h=>by cases h),(callsIn_wide.2 HG.out).mono ?_⟩
  rintro e3 w3 ⟨ha,hb3⟩
  have hT3:T<w3.heap.size:=Nat.lt_of_lt_of_le H.out.2.2.2.2.lt hb3.size
  have H3:=Lib.hid (And.intro (HJb.out _ _ _ _ H.out.2.1 hb3) (And.intro (H.out.2.2.1.below hb3 H.out.2.2.1.lt) (And.intro (H.out.2.2.2.1.below hb3 H.out.2.2.2.1.lt) (H.out.2.2.2.2.below hb3 H.out.2.2.2.2.lt))))
  have HE:=Lib.hid H.out.1
  clear hb3 HG H hc1 hc2
  rcases ha with ⟨hgf,rfl⟩|⟨hgf,x,hx,rfl⟩
  ·have hto:=GF_to hgf
   have HX:=Lib.hid (show frs s p=pre++fr s q::frs s (fto s q) by rw[HE.out,frs_yes hgf])
   have hb4:=ext_alloc w3 (.cells #[.int .i64 ((by4 s.data.toList q:Nat):Int),.string (fbody s q),.int .i64 (q:Int),.int .i64 ((fto s q:Nat):Int)] 92)
   have H4:=Lib.hid (And.intro (HJ.out _ _ (fun k=>k=bs∨k=ba∨k=T∨k=w3.heap.size) _ _ H3.out.1 (grown_below hb4) (by rintro k (h|h|h|h);exact .inl (.inl h);exact .inl (.inr (.inl h));exact .inl (.inr (.inr h));exact .inr (by subst h;simp))) (And.intro (H3.out.2.1.below hb4 H3.out.2.1.lt) (And.intro (H3.out.2.2.1.below hb4 H3.out.2.2.1.lt) (And.intro (H3.out.2.2.2.below hb4 H3.out.2.2.2.lt) (show Fb _ w3.heap.size _ _ _ _ from heap_alloc_new w3 (.cells #[.int .i64 ((by4 s.data.toList q:Nat):Int),.string (fbody s q),.int .i64 (q:Int),.int .i64 ((fto s q:Nat):Int)] 92))))))
   obtain⟨fnn,tmps,assign,body,hy,hR⟩:=HY.out pre (fr s q) (frs s (fto s q)) _ _ HX.out H4.out.1
   have HR:=Lib.hid hR
   dsimp only[fv,fr,fagg] at hy
   unfold fagg
   clear hb4 hgf H3 hR
   gi_wp2_with fail
   refine⟨(fun h=>by cases h),HR.out.mono ?_⟩
   rintro e5 w5 ⟨rfl,hJ5,hk5⟩
   have hs5:=H4.out.2.1.ks hk5 (.inl rfl)
   have ha5:=H4.out.2.2.1.ks hk5 (.inr (.inl rfl))
   have ht5:Au w5 T (n256 tb):=⟨hk5.same _ _ H4.out.2.2.2.1.1 rfl (.inr (.inr (.inl rfl))),H4.out.2.2.2.1.2⟩
   have hf5:Fb w5 w3.heap.size _ _ _ _:=hk5.same _ _ H4.out.2.2.2.2 rfl (.inr (.inr (.inr rfl)))
   have hc3:=hf5.c3
   have hcA:=ha5.cell
   have hfA:=ha5.fz
   have hTba:T≠ba:=by
    rintro rfl
    have h1:=ha5
    have h2:=ht5.1
    unfold One at h1
    rw[h1] at h2
    simp at h2
   have H5:=Lib.hid (And.intro (HJ.out _ _ (fun k=>k=bs∨k=ba∨k=T) _ _ hJ5 (grown_one w5 ba (.int .i64 ((fto s q:Nat):Int))) (by rintro k (h|h|h);exact .inl (.inl h);exact .inl (.inr (.inl h));exact .inl (.inr (.inr (.inl h))))) (And.intro (hs5.far (j:=0) hne (.int .i64 ((fto s q:Nat):Int))) (And.intro (ha5.set (.int .i64 ((fto s q:Nat):Int))) (show Au (w5.setCell ⟨ba,0,none⟩ (.int .i64 ((fto s q:Nat):Int))) T (n256 tb) from⟨(Below.heap_setCell w5 ⟨ba,0,none⟩ _ T hTba).trans ht5.1,ht5.2⟩))))
   have HX2:=Lib.hid (show frs s p=(pre++[fr s q])++frs s (fto s q) by rw[HX.out];simp)
   clear hJ5 hk5 hs5 ha5 ht5 hf5 hTba H4 HR HX HE hy
   gi_wp2_with fail
   gi_roundg (s.size+1-fto s q+1)
   case measure=>omega
   case rel=>exact⟨fto s q,pre++[fr s q],by omega,by omega,Lib.hid ⟨HX2.out,H5.out⟩⟩
  ·have HX:=Lib.hid (show frs s p=pre by rw[HE.out,frs_no hgf,List.append_nil])
   have hb4:=ext_alloc w3 (.cells #[.int .i64 0,.string ⟨#[]⟩,.int .i64 0,.int .i64 0] 92)
   have H4:=Lib.hid (HJb.out _ _ _ _ H3.out.1 hb4)
   have hxb:(x != 0)=true:=by simp[hx]
   unfold fagg
   clear hb4 hgf H3
   gi_wp2_with fail
   refine⟨(fun _ h=>by cases h),?_⟩
   gi_wp2_with fail
   refine bodyPost_ret (results_none rfl _ _ _) rfl ?_
   exact⟨⟨_,rfl⟩,_,by rw[HX.out];exact H4.out⟩
end Fm
end Go.Proofs.YtlnbjikooadmoaaGreat
namespace Go.Proofs.YtlnbjikooadmoaaGreat
namespace Fm
open Go.RowKit Go.Shelf Cr Rg
theorem frames_any (s:ByteArray) (p:Nat) (w:World) :
  Calls Tryz.prog 124 #[.string s,.int .i64 (p:Int)] w fun e w'=>e=.returned (.func (.func 155) #[] #[.pointer (some ⟨w.heap.size,0,none⟩),.pointer (some ⟨w.heap.size+1,0,none⟩)]) /\
   w'=(w.alloc (.cells #[.string s] 9)).alloc (.cells #[.int .i64 (p:Int)] 3):=by
 go_enter Tryz.func124, Tryz.ntmps124
 go_wp2_with fail
 go_ret
 exact⟨rfl,rfl⟩
def clF (x:Fr):List Value:=[.int .i64 (x.1:Int),.string x.2.1,.int .i64 (x.2.2.1:Int),.int .i64 (x.2.2.2:Int)]
def flF (l:List Fr):List Value:=l.flatMap clF
def OwnFr (w:World) (B:Nat) (v:Value) (l:List Fr):Prop:=w.ownsRow B 92 4 v l.length (flF l)
def lastTo (p:Nat) (l:List Fr):Nat:=match l.getLast? with|none=>p|some x=>x.2.2.2
theorem One.new {w:World} {g:Nat} (v:Value) (t:TypeId) (hg:w.heap.size=g):One (w.alloc (.cells #[v] t)) g v t:=hg▸heap_alloc_new w _
theorem One.alloc {w:World} {g:Nat} {v:Value} {t:TypeId} (h:One w g v t) (o:Obj):One (w.alloc o) g v t:=(Below.heap_alloc w o g h.lt).trans h
theorem One.grown {w w':World} {g:Nat} {v:Value} {t:TypeId} {row:Option Nat} (h:One w g v t) (hg:w.grownBy w' row) (hr:row≠some g):One w' g v t:=(hg.block g h.lt (fun e=>hr e.symm)).trans h
theorem Fb.grown {w w':World} {g:Nat} {k p t:Int} {b:ByteArray} {row:Option Nat} (h:Fb w g k b p t) (hg:w.grownBy w' row) (hr:row≠some g):Fb w' g k b p t:=(hg.block g h.lt (fun e=>hr e.symm)).trans h
theorem own_grown {w w':World} {base:Nat} {e:TypeId} {size n:Nat} {v:Value} {xs:List Value} {row:Option Nat} (h:w.ownsRow base e size v n xs) (hg:w.grownBy w' row)
  (hr:∀r,row=some r->r<base∨ ∃o:Obj,w.heap[r]? =some o/\o.isCells=false):w'.ownsRow base e size v n xs:=by
 refine⟨h.1,?_⟩
 rcases h.2 with h2|⟨g,cap,cur,hv,hb,hh,r⟩
 ·exact Or.inl h2
 ·refine Or.inr ⟨g,cap,cur,hv,hb,?_,r⟩
  rw[hg.block g (Array.getElem?_eq_some_iff.1 hh).1 ?_]
  ·exact hh
  ·intro he
   rcases hr g he.symm with h1|⟨o,ho,hc⟩
   ·omega
   ·rw[hh] at ho;cases ho;cases hc
theorem row_one {w:World} {g r:Nat} {v:Value} {t:TypeId} {B b:Nat} (h:One w g v t) (hgb:g≠b) (hr:r=b∨B<=r/\ ∃o:Obj,w.heap[r]? =some o/\o.isCells=false):some r≠some g:=by
 rintro e
 cases e
 rcases hr with rfl|⟨_,o,ho,hc⟩
 ·exact hgb rfl
 ·rw[h] at ho;cases ho;cases hc
theorem row_fb {w:World} {g r:Nat} {k p t:Int} {by_:ByteArray} {B b:Nat} (h:Fb w g k by_ p t) (hgb:g≠b) (hr:r=b∨B<=r/\ ∃o:Obj,w.heap[r]? =some o/\o.isCells=false):some r≠some g:=by
 rintro e
 cases e
 rcases hr with rfl|⟨_,o,ho,hc⟩
 ·exact hgb rfl
 ·rw[h] at ho;cases ho;cases hc
theorem Ks.alloc (S:Nat->Prop) (W:World) (o:Obj):Ks S W (W.alloc o):=⟨by simp,fun k p hk _ _=>(Below.heap_alloc W o k (Array.getElem?_eq_some_iff.1 hk).1).trans hk⟩
theorem fr_info:(Tryz.prog.info? 92).map (fun i=>(i.zero,i.size,i.bytes))=some (some (.agg #[.int .i64 0,.string ⟨#[]⟩,.int .i64 0,.int .i64 0]),4,40):=by kernel_rfl
theorem frs_len (s:ByteArray) (p:Nat) (hs:s.size<=1000000):(frs s p).length<=1000000:=by
 have h:∀(m p:Nat),s.size-p<=m->(frs s p).length<=m:=by
  intro m
  induction m with
  |zero =>
   intro p hp
   rw[frs_no (fun h=>by have:=GF_to h;omega)];simp
  |succ m ih =>
   intro p hp
   by_cases h:GF s p
   ·have:=GF_to h
    rw[frs_yes h,List.length_cons]
    have:=ih (fto s p) (by omega)
    omega
   ·rw[frs_no h];simp
 have:=h (s.size-p) p (Nat.le_refl _)
 omega
theorem frs_pre {l pre:List Fr} {x:Fr} {rest:List Fr} (h:l=pre++x::rest):pre.length<=l.length:=by rw[h,List.length_append];omega
def IS (w:World) (b3 b6 B p:Nat) (pre:List Fr) (v:Value) (W:World):Prop :=
 (One W b6 v 144/\OwnFr W B v pre)/\One W b3 (.int .i64 ((lastTo p pre:Nat):Int)) 3/\Below w.heap.size w W/\B<=W.heap.size
theorem IS.grown {w:World} {b3 b6 B p b:Nat} {pre:List Fr} {v:Value} {W W':World} {row:Option Nat} (h:IS w b3 b6 B p pre v W) (hb3:b3≠b) (hb6:b6≠b) (hbB:b<B) (hwb:w.heap.size<=b)
  (hg:W.grownBy W' row) (hr:∀r,row=some r->r=b∨B<=r/\ ∃o:Obj,W.heap[r]? =some o/\o.isCells=false):IS w b3 b6 B p pre v W':=by
 obtain⟨⟨h1,h2⟩,h3,h4,h5⟩:=h
 have q:∀{g:Nat} {v:Value} {t:TypeId},One W g v t->g≠b->row≠some g:=fun ho hn e=>by
  subst e;exact row_one ho hn (hr _ rfl) rfl
 refine⟨⟨h1.grown hg (q h1 hb6),own_grown h2 hg (fun r e=>?_)⟩,h3.grown hg (q h3 hb3),h4.trans ⟨hg.os,hg.tape,hg.output,hg.size,fun k hk=>hg.block k (Nat.lt_of_lt_of_le hk h4.size) (fun e=>?_)⟩,Nat.le_trans h5 hg.size⟩
 ·rcases hr r e with rfl|⟨_,h⟩
  ·exact .inl hbB
  ·exact .inr h
 ·have:=h4.size
  have:=hr k e.symm
  omega
def SS (b3 b6:Nat) (v:Value) (S:Nat->Prop) (W:World):Prop:=∀k,S k->v.ownBlock≠some k/\k≠b3/\k≠b6/\k<W.heap.size
theorem SS.grown {w:World} {b3 b6 B p:Nat} {pre:List Fr} {v:Value} {S S':Nat->Prop} {W W':World} (hi:IS w b3 b6 B p pre v W) (h:SS b3 b6 v S W) (hs:W.heap.size<=W'.heap.size) (hS:∀k,S' k->S k∨W.heap.size<=k/\k<W'.heap.size):SS b3 b6 v S' W':=by
 intro k hk
 rcases hS k hk with h1|⟨h1,h2⟩
 ·obtain⟨a,b,c,d⟩:=h k h1
  exact⟨a,b,c,Nat.lt_of_lt_of_le d hs⟩
 ·have l6:=hi.1.1.lt
  have l3:=hi.2.1.lt
  exact⟨fun e=>by have:=World.ownsRow.lt hi.1.2 k e;omega,by omega,by omega,h2⟩
theorem own_cells {w:World} {base:Nat} {e:TypeId} {size n:Nat} {v:Value} {xs:List Value} {g:Nat} (h:w.ownsRow base e size v n xs) (hv:v.ownBlock=some g):∃o:Obj,w.heap[g]? =some o/\o.isCells=true:=by
 rcases h.2 with ⟨h2,_⟩|⟨g',cap,cur,h2,hb,hh,r⟩
 ·rw[h2] at hv;cases hv
 ·rw[h2] at hv;cases hv;exact⟨_,hh,rfl⟩
theorem flF_snoc (l:List Fr) (x:Fr):flF (l++[x])=flF l++clF x:=by unfold flF;rw[List.flatMap_append];simp
theorem lastTo_snoc (p:Nat) (l:List Fr) (x:Fr):lastTo p (l++[x])=x.2.2.2:=by unfold lastTo;rw[List.getLast?_append];rfl
attribute [local go_sem] Oper.semAt_some
attribute [-go_sem] Builtin.append_
set_option maxHeartbeats 6400000 in
set_option maxRecDepth 100000 in
theorem scan_any (s:ByteArray) (p:Nat) (w:World) (hs:s.size<=1000000) (hp:p<=1000000) :
  Calls Tryz.prog 88 #[.string s,.int .i64 (p:Int)] w fun e w'=>(∃v,e=.returned (.tuple #[v,.int .i64 ((lastTo p (frs s p):Nat):Int)])/\OwnFr w' w.heap.size v (frs s p))/\Below w.heap.size w w':=by
 have mixed:Tryz.prog.follows .mixedOrders=true:=by kernel_rfl
 refine(callsIn_wide (n:=3)).1 ?_
 refine callsIn_of_wp_marks Tryz.func88 rfl trivial ?_ rfl
 simp only[Tryz.ntmps88,List.size_toArray,List.length_cons,List.length_nil,Nat.reduceAdd,Nat.reduceSub,Array.replicate_succ,Array.replicate_zero,List.push_toArray,List.append_toArray,List.nil_append,List.cons_append]
 gi_wp2_with fail
 refine⟨trivial,(callsIn_wide.2 (frames_any s p _)).mono ?_⟩
 rintro e1 w1 ⟨rfl,rfl⟩
 gi_wp2_with fail
 have HW0:=Lib.hid (show((((w.alloc (.cells #[.int .i64 (p:Int)] 3)).alloc (.cells #[.slice none 0 0] 144)).alloc (.cells #[.string s] 9)).alloc (.cells #[.int .i64 (p:Int)] 3)).heap.size=w.heap.size+1+1+1+1 by simp)
 have C3:=Lib.hid ((((One.new (w:=w) (.int .i64 (p:Int)) 3 rfl).alloc (.cells #[.slice none 0 0] 144)).alloc (.cells #[.string s] 9)).alloc (.cells #[.int .i64 (p:Int)] 3))
 have C6:=Lib.hid (((One.new (w:=w.alloc (.cells #[.int .i64 (p:Int)] 3)) (g:=w.heap.size+1) (.slice none 0 0) 144 (by simp)).alloc (.cells #[.string s] 9)).alloc (.cells #[.int .i64 (p:Int)] 3))
 have CS:=Lib.hid ((One.new (w:=(w.alloc (.cells #[.int .i64 (p:Int)] 3)).alloc (.cells #[.slice none 0 0] 144)) (g:=w.heap.size+1+1) (.string s) 9 (by simp)).alloc (.cells #[.int .i64 (p:Int)] 3))
 have CA:=Lib.hid (One.new (w:=((w.alloc (.cells #[.int .i64 (p:Int)] 3)).alloc (.cells #[.slice none 0 0] 144)).alloc (.cells #[.string s] 9)) (g:=w.heap.size+1+1+1) (.int .i64 (p:Int)) 3 (by simp))
 have HB:=Lib.hid ((((ext_alloc w (.cells #[.int .i64 (p:Int)] 3)).trans ((ext_alloc _ (.cells #[.slice none 0 0] 144)).mono (by simp))).trans ((ext_alloc _ (.cells #[.string s] 9)).mono (by simp;omega))).trans ((ext_alloc _ (.cells #[.int .i64 (p:Int)] 3)).mono (by simp;omega)))
 generalize (((w.alloc (.cells #[.int .i64 (p:Int)] 3)).alloc (.cells #[.slice none 0 0] 144)).alloc (.cells #[.string s] 9)).alloc (.cells #[.int .i64 (p:Int)] 3)=W0 at *
 refine wpIn_range_own rfl (by omega) (gf:=155) (lb:=#[.pointer (some ⟨w.heap.size+1+1,0,none⟩),.pointer (some ⟨w.heap.size+1+1+1,0,none⟩)]) rfl trivial (enters_of Tryz.func155 (by kernel_rfl) rfl)
  (enc:=fv) (R:=fun k=>k=w.heap.size+1+1∨k=w.heap.size+1+1+1) (b:=w.heap.size+1+1+1) (xs:=frs s p) (by rw[HW0.out];omega)
  (frames1_gives _ _ _ s p W0 hs hp CS.out CA.out (by omega))
  (fun pre S W=>∃v,IS w w.heap.size (w.heap.size+1) W0.heap.size p pre v W/\SS w.heap.size (w.heap.size+1) v S W)
  (fun pre S S' W W' row ⟨v,h,h'⟩ hg hr hS=>⟨v,h.grown (by omega) (by omega) (by rw[HW0.out];omega) (by omega) hg hr,h'.grown h hg.size hS⟩)
  ⟨_,⟨⟨C6.out,World.ownsRow_nil _ _ _ _⟩,C3.out,HB.out,Nat.le_refl _⟩,fun k hk=>⟨by simp[Value.ownBlock],by omega,by omega,by rw[HW0.out];omega⟩⟩
  (fun pre x S a' W=>∃g v,W0.heap.size<=g/\v.ownBlock≠some g/\a'={ tmps:=#[.string s,.int .i64 (p:Int),undef,.pointer (some ⟨w.heap.size,0,none⟩),.slice none 0 0,.int .i64 0,.pointer (some ⟨w.heap.size+1,0,none⟩),.pointer (some ⟨g,0,none⟩),.string s,.int .i64 (p:Int),
   .func (.func 155) #[] #[.pointer (some ⟨w.heap.size+1+1,0,none⟩),.pointer (some ⟨w.heap.size+1+1+1,0,none⟩)],fv x,undef,undef,undef,undef,undef,undef,undef,undef],defers:=[] }/\Fb W g x.1 x.2.1 x.2.2.1 x.2.2.2/\IS w w.heap.size (w.heap.size+1) W0.heap.size p pre v W/\SS w.heap.size (w.heap.size+1) v S W)
  ?hax ?assign ?body ?done
 case hax =>
  rintro pre x S a' W W' row ⟨g,v,hg,hv,rfl,hf,hi,hss⟩ hgr hr
  exact⟨g,v,hg,hv,rfl,hf.grown hgr (by intro e;subst e;exact row_fb hf (by rw[HW0.out] at hg;omega) (hr _ rfl) rfl),hi.grown (by omega) (by omega) (by rw[HW0.out];omega) (by omega) hgr hr,hss.grown hi hgr.size (fun _ h=>.inl h)⟩
 case assign =>
  rintro l pre ⟨k,b,q,t⟩ rest S W hxs ⟨v,hi,hss⟩
  unfold fv fagg
  dsimp only
  gi_wp2_with fail
  exact⟨KeepsOthers.alloc _ _,Ks.alloc _ _ _,W.heap.size,v,hi.2.2.2,(fun e=>by have:=World.ownsRow.lt hi.1.2 _ e;omega),rfl,heap_alloc_new W _,hi.grown (b:=w.heap.size+1+1+1) (by omega) (by omega) (by rw[HW0.out];omega) (by omega) (World.grownBy_alloc W _ none) (by intro r e;cases e),hss.grown hi (by simp) (fun _ h=>.inl h)⟩
 case body =>
  rintro l pre ⟨k,b,q,t⟩ rest S a' W hxs ⟨g,v,hg,hvg,rfl,hf,⟨⟨h1,h2⟩,h3,h4,h5⟩,hss⟩
  have hc1:=h1.cell
  have hc3:=h3.cell
  have hf1:=h1.fz
  have hf3:=h3.fz
  have d0:=hf.c0
  have d1:=hf.c1
  have d2:=hf.c2
  have d3:=hf.c3
  have hpl:pre.length<=1000000:=Nat.le_trans (frs_pre hxs) (frs_len s p hs)
  obtain⟨i0,hi,hz0,hz1,hz2⟩:=info_parts fr_info
  have hX:(W.alloc (.cells #[.int .i64 (k:Int),.string b,.int .i64 (q:Int),.int .i64 (t:Int)] 92)).drew.heap.size=W.heap.size+1:=by simp
  have hgw:W.grownBy (W.alloc (.cells #[.int .i64 (k:Int),.string b,.int .i64 (q:Int),.int .i64 (t:Int)] 92)).drew none:=have h:=World.grownBy_alloc W (.cells #[.int .i64 (k:Int),.string b,.int .i64 (q:Int),.int .i64 (t:Int)] 92) none;⟨h.os,h.tape,h.output,h.size,h.block⟩
  obtain⟨v',w',hr,o',hg',-,hob⟩:=run_append_own_at (P:=Tryz.prog) (w:=(W.alloc (.cells #[.int .i64 (k:Int),.string b,.int .i64 (q:Int),.int .i64 (t:Int)] 92)).drew) W0.heap.size 144 144 92 i0 (.agg #[.int .i64 0,.string ⟨#[]⟩,.int .i64 0,.int .i64 0]) 4 40 Tryz.underlying144 hi hz0 hz1 hz2 rfl (by omega) v pre.length (flF pre) (own_grown h2 hgw (by intro r e;cases e))
   ⟨W.heap.size,0,none⟩ 1 1 (clF (k,b,q,t)) rfl (by
    intro j u hu
    have hnew:(W.alloc (.cells #[.int .i64 (k:Int),.string b,.int .i64 (q:Int),.int .i64 (t:Int)] 92)).drew.heap[W.heap.size]? =some _:=heap_alloc_new W (.cells #[.int .i64 (k:Int),.string b,.int .i64 (q:Int),.int .i64 (t:Int)] 92)
    have hj:j<4:=(List.getElem?_eq_some_iff.1 hu).1
    rcases j with _|_|_|_|j
    ·simp[clF] at hu;subst hu;exact Fb.c0 hnew
    ·simp[clF] at hu;subst hu;exact Fb.c1 hnew
    ·simp[clF] at hu;subst hu;exact Fb.c2 hnew
    ·simp[clF] at hu;subst hu;exact Fb.c3 hnew
    ·omega) (by intro u hu;simp[clF] at hu;rcases hu with rfl|rfl|rfl|rfl<;>rfl) (by simp only[maxLen];omega) (by omega) (by rw[hX];omega)
  obtain⟨g',cap',rfl⟩:=ownsRow_succ o'
  have hlv:=World.ownsRow.lt h2
  have nb:∀{x:Nat},x<W0.heap.size->v.ownBlock≠some x:=fun hx e=>by have:=hlv _ e;omega
  have n6:v.ownBlock≠some (w.heap.size+1):=nb (by rw[HW0.out];omega)
  have n3:v.ownBlock≠some w.heap.size:=nb (by rw[HW0.out];omega)
  have X1:=(h1.grown hgw (by simp)).grown hg' n6
  have X3:=(h3.grown hgw (by simp)).grown hg' n3
  have XF:=(hf.grown hgw (by simp)).grown hg' hvg
  have x1:=X1.cell
  have x3:=X3.cell
  have y1:=X1.fz
  have y3:=X3.fz
  have z3:=XF.c3
  have hgl:=hf.lt
  have h6l:=h1.lt
  have h3l:=h3.lt
  have bX:Below W.heap.size W (W.alloc (.cells #[.int .i64 (k:Int),.string b,.int .i64 (q:Int),.int .i64 (t:Int)] 92)).drew:=⟨hgw.os,hgw.tape,hgw.output,hgw.size,fun k hk=>hgw.block k hk (by simp)⟩
  have b2:Below W0.heap.size (W.alloc (.cells #[.int .i64 (k:Int),.string b,.int .i64 (q:Int),.int .i64 (t:Int)] 92)).drew w':=(Below.refl _ _).grown hg' (by rw[hX];omega) (fun k hk=>(hlv k hk).1)
  have hw0:w.heap.size<=W0.heap.size:=by rw[HW0.out];omega
  have b3:Below w.heap.size w w':=(h4.trans (bX.mono h4.size)).trans (b2.mono hw0)
  have b4:Below w.heap.size w ((w'.setCell ⟨w.heap.size+1,0,none⟩ (.slice (some ⟨g',0,none⟩) (pre.length+1) cap')).setCell ⟨w.heap.size,0,none⟩ (.int .i64 (t:Int))):=(b3.setCell (p:=⟨w.heap.size+1,0,none⟩) (Nat.le_succ _) _).setCell (p:=⟨w.heap.size,0,none⟩) (Nat.le_refl _) _
  have ho2:=World.ownsRow.lt o'
  have hsz:W.heap.size<=w'.heap.size:=Nat.le_trans bX.size b2.size
  have kO:KeepsOthers W w':=⟨hsz,fun i o hi ho=>by
   have hl:=(Array.getElem?_eq_some_iff.1 hi).1
   rw[hg'.block i (by rw[hX];omega) (fun e=>by obtain⟨o2,h1,h2⟩:=own_cells h2 e.symm;rw[hi] at h1;cases h1;rw[ho] at h2;cases h2),hgw.block i hl (by simp)]
   exact hi⟩
  have kS:Ks S W ((w'.setCell ⟨w.heap.size+1,0,none⟩ (.slice (some ⟨g',0,none⟩) (pre.length+1) cap')).setCell ⟨w.heap.size,0,none⟩ (.int .i64 (t:Int))):=⟨by simp;exact hsz,fun i o hi ho hS=>by
   have hl:=(Array.getElem?_eq_some_iff.1 hi).1
   obtain⟨s1,s2,s3,s4⟩:=hss i hS
   rw[Below.heap_setCell _ ⟨w.heap.size,0,none⟩ _ i s2,Below.heap_setCell _ ⟨w.heap.size+1,0,none⟩ _ i s3,hg'.block i (by rw[hX];omega) (fun e=>s1 e.symm),hgw.block i hl (by simp)]
   exact hi⟩
  have HFIN:=Lib.hid (show KeepsOthers W ((w'.setCell ⟨w.heap.size+1,0,none⟩ (.slice (some ⟨g',0,none⟩) (pre.length+1) cap')).setCell ⟨w.heap.size,0,none⟩ (.int .i64 (t:Int)))/\Ks S W ((w'.setCell ⟨w.heap.size+1,0,none⟩ (.slice (some ⟨g',0,none⟩) (pre.length+1) cap')).setCell ⟨w.heap.size,0,none⟩ (.int .i64 (t:Int)))/\ ∃v,IS w w.heap.size (w.heap.size+1) W0.heap.size p (pre++[(k,b,q,t)]) v ((w'.setCell ⟨w.heap.size+1,0,none⟩ (.slice (some ⟨g',0,none⟩) (pre.length+1) cap')).setCell ⟨w.heap.size,0,none⟩ (.int .i64 (t:Int)))/\SS w.heap.size (w.heap.size+1) v S ((w'.setCell ⟨w.heap.size+1,0,none⟩ (.slice (some ⟨g',0,none⟩) (pre.length+1) cap')).setCell ⟨w.heap.size,0,none⟩ (.int .i64 (t:Int))) from
   ⟨(kO.trans (KeepsOthers.setCell _ _ _)).trans (KeepsOthers.setCell _ _ _),kS,.slice (some ⟨g',0,none⟩) (pre.length+1) cap',
     ⟨⟨(X1.set _).far (j:=0) (by omega) _,by
       unfold OwnFr
       rw[flF_snoc,List.length_append]
       exact own_setCell_far (own_setCell_far o' (fun e=>by have h8:=(ho2 _ e).1;have h9:=HW0.out;dsimp only at h8;omega) _) (fun e=>by have h8:=(ho2 _ e).1;have h9:=HW0.out;dsimp only at h8;omega) _⟩,
      by rw[lastTo_snoc];exact(X3.far (j:=0) (by omega) _).set _,b4,by simp;omega⟩,
     fun i hi=>by
      obtain⟨s1,s2,s3,s4⟩:=hss i hi
      refine⟨fun e=>?_,s2,s3,by simp;omega⟩
      rcases hob with h|h
      ·exact s1 (h▸e)
      ·rw[h,hX] at e;cases e;omega⟩)
  clear o' hg' hob X1 X3 XF bX b2 b3 b4 kO kS
  dsimp only at d0 d1 d2 d3 z3
  gi_wp2_with fail
  gi_region_with_o (fail)
  all_goals exact And.intro rfl HFIN.out
 case done =>
  rintro D S W hD ⟨v,⟨⟨h1,h2⟩,h3,h4,h5⟩,hss⟩ hK
  have hc1:=h1.cell
  have hc3:=h3.cell
  gi_wp2_with fail
  gi_region
  gi_wp2_with fail
  have hKd:W.drew.heap[D]? =some (.deferred (some [])):=hK
  have hgD:=grownBy_putObj' W.drew D (.deferred none)
  have hw0:w.heap.size<=W0.heap.size:=by rw[HW0.out];omega
  refine⟨by simp,.inl ⟨_,_,rfl,run_takeDeferred hKd,?_⟩⟩
  refine⟨_,results_tmp2 rfl _ _ _,⟨_,rfl,own_lower (own_grown (w:=W.drew) h2 hgD (fun r e=>by cases e;exact .inr ⟨_,hKd,rfl⟩)) hw0⟩,h4.trans ⟨hgD.os,hgD.tape,hgD.output,hgD.size,fun i hi=>hgD.block i (Nat.lt_of_lt_of_le hi h4.size) (fun e=>by cases e;omega)⟩⟩
end Fm
end Go.Proofs.YtlnbjikooadmoaaGreat
namespace Go.Proofs.YtlnbjikooadmoaaGreat
namespace Hd
open Go.RowKit
def aloneB (a s r c f e l:Int):Bool:=decide ((0<=a/\a<=1000000)/\(10<=s/\s<=60009)/\(1<=r/\r<=20000)/\(1<=c/\c<=r)/\(1<=f/\f<=1000000001-c)/\0<=e/\(e<=l/\l<=1000000000))
set_option maxHeartbeats 3200000 in
set_option maxRecDepth 100000 in
theorem alone_no0 (a s r c f e l:Int) (w:World) (h0: ¬ (0<=a/\a<=1000000)) :
  Calls Tryz.prog 82 #[.agg #[.int .i64 a,.int .i64 s,.int .i64 r,.int .i64 c,.int .i64 f,.int .i64 e,.int .i64 l]] w fun e' w'=>e'=.returned (.bool false)/\Below w.heap.size w w':=by
 have mixed:Tryz.prog.follows .mixedOrders=true:=by kernel_rfl
 have H0:=Lib.hid (fun(wx:World)=>(within_any a 0 1000000 wx).mono (R':=fun e w'=>e=.returned (.bool false)/\wx=w') (fun e w' hh=>⟨by rw[hh.1,inB_no (by omega)],hh.2⟩))
 have HB:=Lib.hid (ext_alloc w (.cells #[.int .i64 a,.int .i64 s,.int .i64 r,.int .i64 c,.int .i64 f,.int .i64 e,.int .i64 l] 39))
 clear h0
 go_enter Tryz.func82, Tryz.ntmps82
 go_wp2_with fail
 refine(H0.out _).mono ?_
 rintro e0 w0 ⟨rfl,rfl⟩
 go_wp2_with fail
 go_ret
 exact⟨rfl,HB.out⟩
set_option maxHeartbeats 3200000 in
set_option maxRecDepth 100000 in
theorem alone_no1 (a s r c f e l:Int) (w:World) (h0:0<=a/\a<=1000000) (h1: ¬ (10<=s/\s<=60009)) :
  Calls Tryz.prog 82 #[.agg #[.int .i64 a,.int .i64 s,.int .i64 r,.int .i64 c,.int .i64 f,.int .i64 e,.int .i64 l]] w fun e' w'=>e'=.returned (.bool false)/\Below w.heap.size w w':=by
 have mixed:Tryz.prog.follows .mixedOrders=true:=by kernel_rfl
 have H0:=Lib.hid (fun(wx:World)=>(within_any a 0 1000000 wx).mono (R':=fun e w'=>e=.returned (.bool true)/\wx=w') (fun e w' hh=>⟨by rw[hh.1,(inB_iff ..).2 (by omega)],hh.2⟩))
 have H1:=Lib.hid (fun(wx:World)=>(within_any s 10 60009 wx).mono (R':=fun e w'=>e=.returned (.bool false)/\wx=w') (fun e w' hh=>⟨by rw[hh.1,inB_no (by omega)],hh.2⟩))
 have HB:=Lib.hid (ext_alloc w (.cells #[.int .i64 a,.int .i64 s,.int .i64 r,.int .i64 c,.int .i64 f,.int .i64 e,.int .i64 l] 39))
 clear h0 h1
 go_enter Tryz.func82, Tryz.ntmps82
 go_wp2_with fail
 refine(H0.out _).mono ?_
 rintro e0 w0 ⟨rfl,rfl⟩
 go_wp2_with fail
 refine(H1.out _).mono ?_
 rintro e1 w1 ⟨rfl,rfl⟩
 go_wp2_with fail
 go_ret
 exact⟨rfl,HB.out⟩
set_option maxHeartbeats 3200000 in
set_option maxRecDepth 100000 in
theorem alone_no2 (a s r c f e l:Int) (w:World) (h0:0<=a/\a<=1000000) (h1:10<=s/\s<=60009) (h2: ¬ (1<=r/\r<=20000)) :
  Calls Tryz.prog 82 #[.agg #[.int .i64 a,.int .i64 s,.int .i64 r,.int .i64 c,.int .i64 f,.int .i64 e,.int .i64 l]] w fun e' w'=>e'=.returned (.bool false)/\Below w.heap.size w w':=by
 have mixed:Tryz.prog.follows .mixedOrders=true:=by kernel_rfl
 have H0:=Lib.hid (fun(wx:World)=>(within_any a 0 1000000 wx).mono (R':=fun e w'=>e=.returned (.bool true)/\wx=w') (fun e w' hh=>⟨by rw[hh.1,(inB_iff ..).2 (by omega)],hh.2⟩))
 have H1:=Lib.hid (fun(wx:World)=>(within_any s 10 60009 wx).mono (R':=fun e w'=>e=.returned (.bool true)/\wx=w') (fun e w' hh=>⟨by rw[hh.1,(inB_iff ..).2 (by omega)],hh.2⟩))
 have H2:=Lib.hid (fun(wx:World)=>(within_any r 1 20000 wx).mono (R':=fun e w'=>e=.returned (.bool false)/\wx=w') (fun e w' hh=>⟨by rw[hh.1,inB_no (by omega)],hh.2⟩))
 have HB:=Lib.hid (ext_alloc w (.cells #[.int .i64 a,.int .i64 s,.int .i64 r,.int .i64 c,.int .i64 f,.int .i64 e,.int .i64 l] 39))
 clear h0 h1 h2
 go_enter Tryz.func82, Tryz.ntmps82
 go_wp2_with fail
 refine(H0.out _).mono ?_
 rintro e0 w0 ⟨rfl,rfl⟩
 go_wp2_with fail
 refine(H1.out _).mono ?_
 rintro e1 w1 ⟨rfl,rfl⟩
 go_wp2_with fail
 refine(H2.out _).mono ?_
 rintro e2 w2 ⟨rfl,rfl⟩
 go_wp2_with fail
 go_ret
 exact⟨rfl,HB.out⟩
set_option maxHeartbeats 3200000 in
set_option maxRecDepth 100000 in
theorem alone_no3 (a s r c f e l:Int) (w:World) (h0:0<=a/\a<=1000000) (h1:10<=s/\s<=60009) (h2:1<=r/\r<=20000) (h3: ¬ (1<=c/\c<=r)) :
  Calls Tryz.prog 82 #[.agg #[.int .i64 a,.int .i64 s,.int .i64 r,.int .i64 c,.int .i64 f,.int .i64 e,.int .i64 l]] w fun e' w'=>e'=.returned (.bool false)/\Below w.heap.size w w':=by
 have mixed:Tryz.prog.follows .mixedOrders=true:=by kernel_rfl
 have H0:=Lib.hid (fun(wx:World)=>(within_any a 0 1000000 wx).mono (R':=fun e w'=>e=.returned (.bool true)/\wx=w') (fun e w' hh=>⟨by rw[hh.1,(inB_iff ..).2 (by omega)],hh.2⟩))
 have H1:=Lib.hid (fun(wx:World)=>(within_any s 10 60009 wx).mono (R':=fun e w'=>e=.returned (.bool true)/\wx=w') (fun e w' hh=>⟨by rw[hh.1,(inB_iff ..).2 (by omega)],hh.2⟩))
 have H2:=Lib.hid (fun(wx:World)=>(within_any r 1 20000 wx).mono (R':=fun e w'=>e=.returned (.bool true)/\wx=w') (fun e w' hh=>⟨by rw[hh.1,(inB_iff ..).2 (by omega)],hh.2⟩))
 have H3:=Lib.hid (fun(wx:World)=>(within_any c 1 r wx).mono (R':=fun e w'=>e=.returned (.bool false)/\wx=w') (fun e w' hh=>⟨by rw[hh.1,inB_no (by omega)],hh.2⟩))
 have HB:=Lib.hid (ext_alloc w (.cells #[.int .i64 a,.int .i64 s,.int .i64 r,.int .i64 c,.int .i64 f,.int .i64 e,.int .i64 l] 39))
 clear h0 h1 h2 h3
 go_enter Tryz.func82, Tryz.ntmps82
 go_wp2_with fail
 refine(H0.out _).mono ?_
 rintro e0 w0 ⟨rfl,rfl⟩
 go_wp2_with fail
 refine(H1.out _).mono ?_
 rintro e1 w1 ⟨rfl,rfl⟩
 go_wp2_with fail
 refine(H2.out _).mono ?_
 rintro e2 w2 ⟨rfl,rfl⟩
 go_wp2_with fail
 refine(H3.out _).mono ?_
 rintro e3 w3 ⟨rfl,rfl⟩
 go_wp2_with fail
 go_ret
 exact⟨rfl,HB.out⟩
set_option maxHeartbeats 3200000 in
set_option maxRecDepth 100000 in
theorem alone_no4 (a s r c f e l:Int) (w:World) (h0:0<=a/\a<=1000000) (h1:10<=s/\s<=60009) (h2:1<=r/\r<=20000) (h3:1<=c/\c<=r) (h4: ¬ (1<=f/\f<=(1000000001-c))) :
  Calls Tryz.prog 82 #[.agg #[.int .i64 a,.int .i64 s,.int .i64 r,.int .i64 c,.int .i64 f,.int .i64 e,.int .i64 l]] w fun e' w'=>e'=.returned (.bool false)/\Below w.heap.size w w':=by
 have mixed:Tryz.prog.follows .mixedOrders=true:=by kernel_rfl
 have H0:=Lib.hid (fun(wx:World)=>(within_any a 0 1000000 wx).mono (R':=fun e w'=>e=.returned (.bool true)/\wx=w') (fun e w' hh=>⟨by rw[hh.1,(inB_iff ..).2 (by omega)],hh.2⟩))
 have H1:=Lib.hid (fun(wx:World)=>(within_any s 10 60009 wx).mono (R':=fun e w'=>e=.returned (.bool true)/\wx=w') (fun e w' hh=>⟨by rw[hh.1,(inB_iff ..).2 (by omega)],hh.2⟩))
 have H2:=Lib.hid (fun(wx:World)=>(within_any r 1 20000 wx).mono (R':=fun e w'=>e=.returned (.bool true)/\wx=w') (fun e w' hh=>⟨by rw[hh.1,(inB_iff ..).2 (by omega)],hh.2⟩))
 have H3:=Lib.hid (fun(wx:World)=>(within_any c 1 r wx).mono (R':=fun e w'=>e=.returned (.bool true)/\wx=w') (fun e w' hh=>⟨by rw[hh.1,(inB_iff ..).2 (by omega)],hh.2⟩))
 have H4:=Lib.hid (fun(wx:World)=>(within_any f 1 (1000000001-c) wx).mono (R':=fun e w'=>e=.returned (.bool false)/\wx=w') (fun e w' hh=>⟨by rw[hh.1,inB_no (by omega)],hh.2⟩))
 have q1:IntKind.i64.wrap (1000000001-c)=1000000001-c:=by rw[IntKind.wrap_i64];omega
 have HB:=Lib.hid (ext_alloc w (.cells #[.int .i64 a,.int .i64 s,.int .i64 r,.int .i64 c,.int .i64 f,.int .i64 e,.int .i64 l] 39))
 clear h0 h1 h2 h3 h4
 go_enter Tryz.func82, Tryz.ntmps82
 go_wp2_with fail
 refine(H0.out _).mono ?_
 rintro e0 w0 ⟨rfl,rfl⟩
 go_wp2_with fail
 refine(H1.out _).mono ?_
 rintro e1 w1 ⟨rfl,rfl⟩
 go_wp2_with fail
 refine(H2.out _).mono ?_
 rintro e2 w2 ⟨rfl,rfl⟩
 go_wp2_with fail
 refine(H3.out _).mono ?_
 rintro e3 w3 ⟨rfl,rfl⟩
 go_wp2_with fail
 refine(H4.out _).mono ?_
 rintro e4 w4 ⟨rfl,rfl⟩
 go_wp2_with fail
 go_ret
 exact⟨rfl,HB.out⟩
set_option maxHeartbeats 3200000 in
set_option maxRecDepth 100000 in
theorem alone_no5 (a s r c f e l:Int) (w:World) (h0:0<=a/\a<=1000000) (h1:10<=s/\s<=60009) (h2:1<=r/\r<=20000) (h3:1<=c/\c<=r) (h4:1<=f/\f<=(1000000001-c)) (h5: ¬ 0<=e) :
  Calls Tryz.prog 82 #[.agg #[.int .i64 a,.int .i64 s,.int .i64 r,.int .i64 c,.int .i64 f,.int .i64 e,.int .i64 l]] w fun e' w'=>e'=.returned (.bool false)/\Below w.heap.size w w':=by
 have mixed:Tryz.prog.follows .mixedOrders=true:=by kernel_rfl
 have H0:=Lib.hid (fun(wx:World)=>(within_any a 0 1000000 wx).mono (R':=fun e w'=>e=.returned (.bool true)/\wx=w') (fun e w' hh=>⟨by rw[hh.1,(inB_iff ..).2 (by omega)],hh.2⟩))
 have H1:=Lib.hid (fun(wx:World)=>(within_any s 10 60009 wx).mono (R':=fun e w'=>e=.returned (.bool true)/\wx=w') (fun e w' hh=>⟨by rw[hh.1,(inB_iff ..).2 (by omega)],hh.2⟩))
 have H2:=Lib.hid (fun(wx:World)=>(within_any r 1 20000 wx).mono (R':=fun e w'=>e=.returned (.bool true)/\wx=w') (fun e w' hh=>⟨by rw[hh.1,(inB_iff ..).2 (by omega)],hh.2⟩))
 have H3:=Lib.hid (fun(wx:World)=>(within_any c 1 r wx).mono (R':=fun e w'=>e=.returned (.bool true)/\wx=w') (fun e w' hh=>⟨by rw[hh.1,(inB_iff ..).2 (by omega)],hh.2⟩))
 have H4:=Lib.hid (fun(wx:World)=>(within_any f 1 (1000000001-c) wx).mono (R':=fun e w'=>e=.returned (.bool true)/\wx=w') (fun e w' hh=>⟨by rw[hh.1,(inB_iff ..).2 (by omega)],hh.2⟩))
 have q1:IntKind.i64.wrap (1000000001-c)=1000000001-c:=by rw[IntKind.wrap_i64];omega
 have HB:=Lib.hid (ext_alloc w (.cells #[.int .i64 a,.int .i64 s,.int .i64 r,.int .i64 c,.int .i64 f,.int .i64 e,.int .i64 l] 39))
 clear h0 h1 h2 h3 h4
 go_enter Tryz.func82, Tryz.ntmps82
 go_wp2_with fail
 refine(H0.out _).mono ?_
 rintro e0 w0 ⟨rfl,rfl⟩
 go_wp2_with fail
 refine(H1.out _).mono ?_
 rintro e1 w1 ⟨rfl,rfl⟩
 go_wp2_with fail
 refine(H2.out _).mono ?_
 rintro e2 w2 ⟨rfl,rfl⟩
 go_wp2_with fail
 refine(H3.out _).mono ?_
 rintro e3 w3 ⟨rfl,rfl⟩
 go_wp2_with fail
 refine(H4.out _).mono ?_
 rintro e4 w4 ⟨rfl,rfl⟩
 go_wp2_with fail
 go_ret
 exact⟨rfl,HB.out⟩
set_option maxHeartbeats 3200000 in
set_option maxRecDepth 100000 in
theorem alone_no6 (a s r c f e l:Int) (w:World) (h0:0<=a/\a<=1000000) (h1:10<=s/\s<=60009) (h2:1<=r/\r<=20000) (h3:1<=c/\c<=r) (h4:1<=f/\f<=(1000000001-c)) (h5:0<=e) (h6: ¬ (e<=l/\l<=1000000000)) :
  Calls Tryz.prog 82 #[.agg #[.int .i64 a,.int .i64 s,.int .i64 r,.int .i64 c,.int .i64 f,.int .i64 e,.int .i64 l]] w fun e' w'=>e'=.returned (.bool false)/\Below w.heap.size w w':=by
 have mixed:Tryz.prog.follows .mixedOrders=true:=by kernel_rfl
 have H0:=Lib.hid (fun(wx:World)=>(within_any a 0 1000000 wx).mono (R':=fun e w'=>e=.returned (.bool true)/\wx=w') (fun e w' hh=>⟨by rw[hh.1,(inB_iff ..).2 (by omega)],hh.2⟩))
 have H1:=Lib.hid (fun(wx:World)=>(within_any s 10 60009 wx).mono (R':=fun e w'=>e=.returned (.bool true)/\wx=w') (fun e w' hh=>⟨by rw[hh.1,(inB_iff ..).2 (by omega)],hh.2⟩))
 have H2:=Lib.hid (fun(wx:World)=>(within_any r 1 20000 wx).mono (R':=fun e w'=>e=.returned (.bool true)/\wx=w') (fun e w' hh=>⟨by rw[hh.1,(inB_iff ..).2 (by omega)],hh.2⟩))
 have H3:=Lib.hid (fun(wx:World)=>(within_any c 1 r wx).mono (R':=fun e w'=>e=.returned (.bool true)/\wx=w') (fun e w' hh=>⟨by rw[hh.1,(inB_iff ..).2 (by omega)],hh.2⟩))
 have H4:=Lib.hid (fun(wx:World)=>(within_any f 1 (1000000001-c) wx).mono (R':=fun e w'=>e=.returned (.bool true)/\wx=w') (fun e w' hh=>⟨by rw[hh.1,(inB_iff ..).2 (by omega)],hh.2⟩))
 have H5:=Lib.hid (fun(wx:World)=>(within_any l e 1000000000 wx).mono (R':=fun e w'=>e=.returned (.bool false)/\wx=w') (fun e w' hh=>⟨by rw[hh.1,inB_no (by omega)],hh.2⟩))
 have q1:IntKind.i64.wrap (1000000001-c)=1000000001-c:=by rw[IntKind.wrap_i64];omega
 have HB:=Lib.hid (ext_alloc w (.cells #[.int .i64 a,.int .i64 s,.int .i64 r,.int .i64 c,.int .i64 f,.int .i64 e,.int .i64 l] 39))
 clear h0 h1 h2 h3 h4 h6
 go_enter Tryz.func82, Tryz.ntmps82
 go_wp2_with fail
 refine(H0.out _).mono ?_
 rintro e0 w0 ⟨rfl,rfl⟩
 go_wp2_with fail
 refine(H1.out _).mono ?_
 rintro e1 w1 ⟨rfl,rfl⟩
 go_wp2_with fail
 refine(H2.out _).mono ?_
 rintro e2 w2 ⟨rfl,rfl⟩
 go_wp2_with fail
 refine(H3.out _).mono ?_
 rintro e3 w3 ⟨rfl,rfl⟩
 go_wp2_with fail
 refine(H4.out _).mono ?_
 rintro e4 w4 ⟨rfl,rfl⟩
 go_wp2_with fail
 refine(H5.out _).mono ?_
 rintro e5 w5 ⟨rfl,rfl⟩
 go_wp2_with fail
 go_ret
 exact⟨rfl,HB.out⟩
set_option maxHeartbeats 3200000 in
set_option maxRecDepth 100000 in
theorem alone_yes (a s r c f e l:Int) (w:World) (h0:0<=a/\a<=1000000) (h1:10<=s/\s<=60009) (h2:1<=r/\r<=20000) (h3:1<=c/\c<=r) (h4:1<=f/\f<=(1000000001-c)) (h5:0<=e) (h6:e<=l/\l<=1000000000) :
  Calls Tryz.prog 82 #[.agg #[.int .i64 a,.int .i64 s,.int .i64 r,.int .i64 c,.int .i64 f,.int .i64 e,.int .i64 l]] w fun e' w'=>e'=.returned (.bool true)/\Below w.heap.size w w':=by
 have mixed:Tryz.prog.follows .mixedOrders=true:=by kernel_rfl
 have H0:=Lib.hid (fun(wx:World)=>(within_any a 0 1000000 wx).mono (R':=fun e w'=>e=.returned (.bool true)/\wx=w') (fun e w' hh=>⟨by rw[hh.1,(inB_iff ..).2 (by omega)],hh.2⟩))
 have H1:=Lib.hid (fun(wx:World)=>(within_any s 10 60009 wx).mono (R':=fun e w'=>e=.returned (.bool true)/\wx=w') (fun e w' hh=>⟨by rw[hh.1,(inB_iff ..).2 (by omega)],hh.2⟩))
 have H2:=Lib.hid (fun(wx:World)=>(within_any r 1 20000 wx).mono (R':=fun e w'=>e=.returned (.bool true)/\wx=w') (fun e w' hh=>⟨by rw[hh.1,(inB_iff ..).2 (by omega)],hh.2⟩))
 have H3:=Lib.hid (fun(wx:World)=>(within_any c 1 r wx).mono (R':=fun e w'=>e=.returned (.bool true)/\wx=w') (fun e w' hh=>⟨by rw[hh.1,(inB_iff ..).2 (by omega)],hh.2⟩))
 have H4:=Lib.hid (fun(wx:World)=>(within_any f 1 (1000000001-c) wx).mono (R':=fun e w'=>e=.returned (.bool true)/\wx=w') (fun e w' hh=>⟨by rw[hh.1,(inB_iff ..).2 (by omega)],hh.2⟩))
 have H5:=Lib.hid (fun(wx:World)=>(within_any l e 1000000000 wx).mono (R':=fun e w'=>e=.returned (.bool true)/\wx=w') (fun e w' hh=>⟨by rw[hh.1,(inB_iff ..).2 (by omega)],hh.2⟩))
 have q1:IntKind.i64.wrap (1000000001-c)=1000000001-c:=by rw[IntKind.wrap_i64];omega
 have HB:=Lib.hid (ext_alloc w (.cells #[.int .i64 a,.int .i64 s,.int .i64 r,.int .i64 c,.int .i64 f,.int .i64 e,.int .i64 l] 39))
 clear h0 h1 h2 h3 h4 h6
 go_enter Tryz.func82, Tryz.ntmps82
 go_wp2_with fail
 refine(H0.out _).mono ?_
 rintro e0 w0 ⟨rfl,rfl⟩
 go_wp2_with fail
 refine(H1.out _).mono ?_
 rintro e1 w1 ⟨rfl,rfl⟩
 go_wp2_with fail
 refine(H2.out _).mono ?_
 rintro e2 w2 ⟨rfl,rfl⟩
 go_wp2_with fail
 refine(H3.out _).mono ?_
 rintro e3 w3 ⟨rfl,rfl⟩
 go_wp2_with fail
 refine(H4.out _).mono ?_
 rintro e4 w4 ⟨rfl,rfl⟩
 go_wp2_with fail
 refine(H5.out _).mono ?_
 rintro e5 w5 ⟨rfl,rfl⟩
 go_wp2_with fail
 go_ret
 exact⟨rfl,HB.out⟩
theorem alone_any (a s r c f e l:Int) (w:World) :
  Calls Tryz.prog 82 #[.agg #[.int .i64 a,.int .i64 s,.int .i64 r,.int .i64 c,.int .i64 f,.int .i64 e,.int .i64 l]] w fun e' w'=>e'=.returned (.bool (aloneB a s r c f e l))/\Below w.heap.size w w':=by
 by_cases h0:0<=a/\a<=1000000
 ·by_cases h1:10<=s/\s<=60009
  ·by_cases h2:1<=r/\r<=20000
   ·by_cases h3:1<=c/\c<=r
    ·by_cases h4:1<=f/\f<=1000000001-c
     ·by_cases h5:0<=e
      ·by_cases h6:e<=l/\l<=1000000000
       ·rw[show aloneB a s r c f e l=true from decide_eq_true ⟨h0,h1,h2,h3,h4,h5,h6⟩]
        exact alone_yes a s r c f e l w h0 h1 h2 h3 h4 h5 h6
       ·rw[show aloneB a s r c f e l=false from decide_eq_false (fun h=>h6 h.2.2.2.2.2.2)]
        exact alone_no6 a s r c f e l w h0 h1 h2 h3 h4 h5 h6
      ·rw[show aloneB a s r c f e l=false from decide_eq_false (fun h=>h5 h.2.2.2.2.2.1)]
       exact alone_no5 a s r c f e l w h0 h1 h2 h3 h4 h5
     ·rw[show aloneB a s r c f e l=false from decide_eq_false (fun h=>h4 h.2.2.2.2.1)]
      exact alone_no4 a s r c f e l w h0 h1 h2 h3 h4
    ·rw[show aloneB a s r c f e l=false from decide_eq_false (fun h=>h3 h.2.2.2.1)]
     exact alone_no3 a s r c f e l w h0 h1 h2 h3
   ·rw[show aloneB a s r c f e l=false from decide_eq_false (fun h=>h2 h.2.2.1)]
    exact alone_no2 a s r c f e l w h0 h1 h2
  ·rw[show aloneB a s r c f e l=false from decide_eq_false (fun h=>h1 h.2.1)]
   exact alone_no1 a s r c f e l w h0 h1
 ·rw[show aloneB a s r c f e l=false from decide_eq_false (fun h=>h0 h.1)]
  exact alone_no0 a s r c f e l w h0
end Hd
end Go.Proofs.YtlnbjikooadmoaaGreat
namespace Go.Proofs.YtlnbjikooadmoaaGreat
namespace Sn
open Go.RowKit Hd Bk
structure Mt where
 a:Nat
 s:Nat
 r:Nat
 c:Nat
 f:Nat
 e:Nat
 l:Nat
def cl7 (m:Mt):List Value:=[.int .i64 (m.a:Int),.int .i64 (m.s:Int),.int .i64 (m.r:Int),.int .i64 (m.c:Int),.int .i64 (m.f:Int),.int .i64 (m.e:Int),.int .i64 (m.l:Int)]
def mv (m:Mt):Value:=magg m.a m.s m.r m.c m.f m.e m.l
def okM (m:Mt):Bool:=aloneB m.a m.s m.r m.c m.f m.e m.l
theorem okM_iff (m:Mt):okM m=true↔m.a<=1000000/\10<=m.s/\m.s<=60009/\1<=m.r/\m.r<=20000/\1<=m.c/\m.c<=m.r/\1<=m.f/\m.f+m.c<=1000000001/\m.e<=m.l/\m.l<=1000000000:=by
 unfold okM aloneB
 rw[decide_eq_true_eq]
 omega
def folB (p m:Mt):Bool:=decide (m.a=p.a+p.s/\m.f=p.f+p.c/\p.l<=m.e)
theorem folB_iff (p m:Mt):folB p m=true↔m.a=p.a+p.s/\m.f=p.f+p.c/\p.l<=m.e:=by unfold folB;rw[decide_eq_true_eq]
def rowM:Option Mt->List Mt->Bool
 |_,[]=>true
 |none,m::l=>okM m&&rowM (some m) l
 |some p,m::l=>okM m&&folB p m&&rowM (some m) l
def okBl (l:List Mt):Bool:=decide (l.length<=1000)&&rowM none l
theorem rowM_snoc:∀(l:List Mt) (p:Option Mt) (m:Mt),rowM p l=true->okM m=true->(∀q,(match l.getLast? with|none=>p|some x=>some x)=some q->folB q m=true)->rowM p (l++[m])=true
 | [],none,m,_,ho,_=>by simp[rowM,ho]
 | [],some p,m,_,ho,hf=>by simp[rowM,ho,hf p rfl]
 |x::l,p,m,h,ho,hf=>by
  have hx:rowM (some x) l=true/\ ∀l',rowM (some x) l'=true->rowM p (x::l')=true:=by
   rcases p with _|p
   ·simp only[rowM,Bool.and_eq_true] at h ⊢
    exact⟨h.2,fun l' hl=>⟨h.1,hl⟩⟩
   ·simp only[rowM,Bool.and_eq_true] at h ⊢
    exact⟨h.2,fun l' hl=>⟨h.1,hl⟩⟩
  rw[List.cons_append]
  refine hx.2 _ (rowM_snoc l (some x) m hx.1 ho fun q hq=>hf q ?_)
  rw[List.getLast?_cons]
  rcases hl:l.getLast? with _|y
  ·rw[hl] at hq;exact hq
  ·rw[hl] at hq;exact hq
theorem rowM_cons {p:Option Mt} {m:Mt} {l:List Mt} (h:rowM p (m::l)=true):okM m=true/\rowM (some m) l=true:=by
 rcases p with _|p<;>simp only[rowM,Bool.and_eq_true] at h
 ·exact h
 ·exact⟨h.1.1,h.2⟩
theorem rowM_mem:∀(l:List Mt) (p:Option Mt),rowM p l=true-> ∀m∈l,okM m=true
 | [],_,_,m,h=>by cases h
 |x::l,p,h,m,hm=>by
  rcases List.mem_cons.1 hm with rfl|hm
  ·exact(rowM_cons h).1
  ·exact rowM_mem l (some x) (rowM_cons h).2 m hm
theorem okBl_row {l:List Mt} (h:okBl l=true):l.length<=1000/\rowM none l=true:=by
 unfold okBl at h
 rw[Bool.and_eq_true,decide_eq_true_eq] at h
 exact h
def nextM (h1:Nat) (l:List Mt):Nat:=match l.getLast? with|none=>h1|some m=>m.f+m.c
def lateM (l:List Mt):Nat:=match l.getLast? with|none=>0|some m=>m.l
theorem nextM_snoc (h1:Nat) (l:List Mt) (m:Mt):nextM h1 (l++[m])=m.f+m.c:=by unfold nextM;rw[List.getLast?_append];rfl
theorem lateM_snoc (l:List Mt) (m:Mt):lateM (l++[m])=m.l:=by unfold lateM;rw[List.getLast?_append];rfl
def fl7 (l:List Mt):List Value:=l.flatMap cl7
theorem fl7_cons (m:Mt) (l:List Mt):fl7 (m::l)=.int .i64 (m.a:Int):: .int .i64 (m.s:Int):: .int .i64 (m.r:Int):: .int .i64 (m.c:Int):: .int .i64 (m.f:Int):: .int .i64 (m.e:Int):: .int .i64 (m.l:Int)::fl7 l:=rfl
theorem length_fl7 (l:List Mt):(fl7 l).length=l.length*7:=by
 induction l with
 |nil=>rfl
 |cons x l ih=>rw[fl7_cons];simp only[List.length_cons,ih];omega
theorem fl7_append (a b:List Mt):fl7 (a++b)=fl7 a++fl7 b:=List.flatMap_append ..
theorem fl7_at:∀(l:List Mt) (k:Nat) (x:Mt),l[k]? =some x-> ∀j,j<7->(fl7 l)[k*7+j]? =(cl7 x)[j]?
 | [],k,x,h,_,_=>by simp at h
 |y::l,0,x,h,j,hj=>by
  simp only[List.getElem?_cons_zero,Option.some.injEq] at h
  subst h
  show(cl7 y++fl7 l)[0*7+j]? =_
  rw[Nat.zero_mul,Nat.zero_add,List.getElem?_append_left (by simpa[cl7] using hj)]
 |y::l,k+1,x,h,j,hj=>by
  have:=fl7_at l k x (by simpa using h) j hj
  show(cl7 y++fl7 l)[(k+1)*7+j]? =_
  rw[List.getElem?_append_right (by simp[cl7];omega),<-this]
  congr 1
  simp[cl7];omega
theorem fl7_one (l:List Mt):∀u∈fl7 l,u.oneCell'=true:=by
 intro u hu
 unfold fl7 at hu
 rw[List.mem_flatMap] at hu
 obtain⟨m,-,hm⟩:=hu
 simp only[cl7,List.mem_cons,List.not_mem_nil,or_false] at hm
 rcases hm with rfl|rfl|rfl|rfl|rfl|rfl|rfl<;>rfl
theorem mt_at {w:World} {B n k:Nat} {A:Option Addr} {l:List Mt} (h:Rd w B 7 A n (fl7 l)) (hk:k<n) :
  ∃ad m,A=some ad/\ad.block<B/\l[k]? =some m/\w.cell? (ad.add (k*7))=some (.int .i64 (m.a:Int)) /\
   w.cell? ⟨(ad.add (k*7)).block,(ad.add (k*7)).off+1,none⟩=some (.int .i64 (m.s:Int))/\w.cell? ⟨(ad.add (k*7)).block,(ad.add (k*7)).off+2,none⟩=some (.int .i64 (m.r:Int)) /\
   w.cell? ⟨(ad.add (k*7)).block,(ad.add (k*7)).off+3,none⟩=some (.int .i64 (m.c:Int))/\w.cell? ⟨(ad.add (k*7)).block,(ad.add (k*7)).off+4,none⟩=some (.int .i64 (m.f:Int)) /\
   w.cell? ⟨(ad.add (k*7)).block,(ad.add (k*7)).off+5,none⟩=some (.int .i64 (m.e:Int))/\w.cell? ⟨(ad.add (k*7)).block,(ad.add (k*7)).off+6,none⟩=some (.int .i64 (m.l:Int)):=by
 obtain⟨ad,e,hb,hc⟩:=h.cells (by omega)
 have hl:l.length=n:=by have:=h.len;rw[length_fl7] at this;omega
 have hx:l[k]? =some (l[k]'(by omega)):=List.getElem?_eq_getElem (by omega)
 have hf:=fl7_at l k _ hx
 have hg:∀j v,j<7->(cl7 (l[k]'(by omega)))[j]? =some v->w.cell? (ad.add (k*7+j))=some v:=fun j v hj hv=>hc _ _ ((hf j hj).trans hv)
 have ha:∀j,ad.add (k*7+(j+1))=⟨(ad.add (k*7)).block,(ad.add (k*7)).off+(j+1),none⟩:=fun j=>by rw[<-add_add];rfl
 refine⟨ad,_,e,hb,hx,hg 0 _ (by omega) rfl,?_,?_,?_,?_,?_,?_⟩
 ·rw[<-ha];exact hg 1 _ (by omega) rfl
 ·rw[<-ha];exact hg 2 _ (by omega) rfl
 ·rw[<-ha];exact hg 3 _ (by omega) rfl
 ·rw[<-ha];exact hg 4 _ (by omega) rfl
 ·rw[<-ha];exact hg 5 _ (by omega) rfl
 ·rw[<-ha];exact hg 6 _ (by omega) rfl
theorem mt_len {w:World} {B n:Nat} {A:Option Addr} {l:List Mt} (h:Rd w B 7 A n (fl7 l)):l.length=n:=by
 have:=h.len;rw[length_fl7] at this;omega
end Sn
end Go.Proofs.YtlnbjikooadmoaaGreat
namespace Go.Proofs.YtlnbjikooadmoaaGreat
namespace Sn
open Go.RowKit Cr Fm Hd Bk Vi Rd
def Agree (s t:ByteArray) (m:Nat):Prop:=m<=s.size/\m<=t.size/\s.data.toList.take m=t.data.toList.take m
theorem ext_list (s:ByteArray) (a b:Nat):(s.extract a b).data.toList=(s.data.toList.drop a).take (b-a):=by
 rw[ByteArray.data_extract,Array.toList_extract,List.extract_eq_take_drop]
theorem ba_ext {a b:ByteArray} (h:a.data.toList=b.data.toList):a=b:=by
 obtain⟨⟨a⟩⟩:=a
 obtain⟨⟨b⟩⟩:=b
 simp only at h
 rw[h]
theorem size_list (s:ByteArray):s.data.toList.length=s.size:=rfl
section
variable {s t:ByteArray} {m:Nat} (h:Agree s t m)
include h
theorem Agree.symm:Agree t s m:=⟨h.2.1,h.1,h.2.2.symm⟩
theorem Agree.mono {k:Nat} (hk:k<=m):Agree s t k:=by
 refine⟨Nat.le_trans hk h.1,Nat.le_trans hk h.2.1,?_⟩
 have:=congrArg (List.take k) h.2.2
 rwa [List.take_take,List.take_take,Nat.min_eq_left hk] at this
theorem Agree.by4 {k:Nat} (hk:k<m):by4 s.data.toList k=by4 t.data.toList k:=by
 unfold Fm.by4
 have e:∀l:List UInt8,l.getD k 0=(l.take m).getD k 0:=fun l=>by
  rw[List.getD_eq_getElem?_getD,List.getD_eq_getElem?_getD,List.getElem?_take,if_pos hk]
 rw[e s.data.toList,e t.data.toList,h.2.2]
theorem Agree.u4 {k:Nat} (hk:k+4<=m):u4 s.data.toList k=u4 t.data.toList k:=by
 unfold Fm.u4
 rw[h.by4 (k:=k) (by omega),h.by4 (k:=k+1) (by omega),h.by4 (k:=k+2) (by omega),h.by4 (k:=k+3) (by omega)]
theorem Agree.extract {a b:Nat} (hb:b<=m):s.extract a b=t.extract a b:=by
 refine ba_ext ?_
 rw[ext_list,ext_list]
 have e:∀l:List UInt8,(l.drop a).take (b-a)=((l.take m).drop a).take (b-a):=fun l=>by
  rw[List.drop_take,List.take_take,Nat.min_eq_left (by omega)]
 rw[e s.data.toList,e t.data.toList,h.2.2]
theorem Agree.frame {p:Nat} (hg:GF s p) (ht:fto s p<=m):GF t p/\fr t p=fr s p/\fto t p=fto s p:=by
 have h9:=GF_to hg
 have e0:=h.by4 (k:=p) (by omega)
 have e1:=h.u4 (k:=p+1) (by omega)
 have hfn:fn t p=fn s p:=by unfold fn;rw[e1]
 have hft:fto t p=fto s p:=by unfold fto;rw[hfn]
 have e2:=h.u4 (k:=p+5+Fm.u4 s.data.toList (p+1)) (by unfold fto fn at ht;omega)
 have e3:=h.extract (a:=p) (b:=p+5+Fm.u4 s.data.toList (p+1)) (by unfold fto fn at ht;omega)
 refine⟨?_,?_,hft⟩
 ·obtain⟨g1,g2,g3,g4,g5⟩:=hg
  have hm:=h.2.1
  refine⟨by omega,by rw[<-e0];exact g2,by rw[<-e1];exact g3,by rw[<-e1];unfold fto fn at ht;omega,?_⟩
  rw[<-e1,<-e2,<-e3];exact g5
 ·unfold fr fbody
  rw[hft,hfn,e0,h.extract (a:=p+5) (b:=p+5+fn s p) (by unfold fto at ht;omega)]
end
theorem agree_app (s x:ByteArray) (c:Nat) (hc:c<=s.size):Agree s (s.extract 0 c++x) c:=by
 refine⟨hc,by rw[ByteArray.size_append,ByteArray.size_extract];omega,?_⟩
 rw[ByteArray.data_append,Array.toList_append,ext_list,List.drop_zero,Nat.sub_zero,List.take_append_of_le_length (by rw[List.length_take,size_list];omega),List.take_take,Nat.min_self]
def metaF (x:Fr):Option Mt:=match peekB x.2.1.data.toList with
 |some (_,raw,count,first,early,late,_)=>if x.1=2 then some ⟨x.2.2.1,x.2.2.2-x.2.2.1,raw,count,first,early,late⟩ else none
 |none=>none
def goesB (h1:Nat) (l:List Mt) (m:Mt):Bool:=decide (l.length<1000/\m.f=nextM h1 l/\lateM l<=m.e)&&okM m
def good (h1:Nat) (l:List Mt) (x:Fr):Option Mt:=match metaF x with
 |none=>none
 |some m=>if goesB h1 l m=true then(match dec x.2.1.data.toList with|none=>none|some _=>some m) else none
theorem good_iff (h1:Nat) (l:List Mt) (x:Fr) (m:Mt):good h1 l x=some m↔metaF x=some m/\goesB h1 l m=true/\ ∃r,dec x.2.1.data.toList=some r:=by
 unfold good
 rcases metaF x with _|k
 ·simp
 ·by_cases hg:goesB h1 l k=true
  ·simp only[hg,if_true]
   rcases dec x.2.1.data.toList with _|r
   ·simp
   ·simp only[Option.some.injEq]
    exact⟨fun e=>⟨e,e▸hg,r,rfl⟩,fun e=>e.1⟩
  ·simp only[hg]
   constructor
   ·intro e;cases e
   ·rintro ⟨e,h2,-⟩
    cases e
    exact absurd h2 hg
def run (h1:Nat):List Fr->List Mt->Nat->List Mt×Nat
 | [],l,e=>(l,e)
 |x::xs,l,e=>match good h1 l x with
  |none=>(l,e)
  |some m=>run h1 xs (l++[m]) x.2.2.2
def rn (h1:Nat) (s:ByteArray) (l:List Mt) (e:Nat):List Mt×Nat:=run h1 (frs s e) l e
theorem rn_step {h1:Nat} {s:ByteArray} {l:List Mt} {e:Nat} {m:Mt} (hg:GF s e) (h:good h1 l (fr s e)=some m):rn h1 s l e=rn h1 s (l++[m]) (fto s e):=by
 unfold rn
 rw[frs_yes hg,run,h]
 rfl
theorem rn_stop {h1:Nat} {s:ByteArray} {l:List Mt} {e:Nat} (h:GF s e->good h1 l (fr s e)=none):rn h1 s l e=(l,e):=by
 unfold rn
 by_cases hg:GF s e
 ·rw[frs_yes hg,run,h hg]
 ·rw[frs_no hg,run]
theorem rn_ind (h1:Nat) (s:ByteArray) (P:List Mt->Nat->Prop) (stop:∀l e,(GF s e->good h1 l (fr s e)=none)->P l e)
  (step:∀l e m,GF s e->good h1 l (fr s e)=some m->P (l++[m]) (fto s e)->P l e):∀l e,P l e:=by
 have key:∀(n:Nat) (l:List Mt) (e:Nat),s.size-e<=n->P l e:=by
  intro n
  induction n with
  |zero =>
   intro l e he
   exact stop l e fun hg=>by have:=GF_to hg;omega
  |succ n ih =>
   intro l e he
   by_cases hg:GF s e
   ·rcases hm:good h1 l (fr s e) with _|m
    ·exact stop l e fun _=>hm
    ·have:=GF_to hg
     exact step l e m hg hm (ih _ _ (by omega))
   ·exact stop l e fun h=>absurd h hg
 exact fun l e=>key _ l e (Nat.le_refl _)
theorem rn_pre (h1:Nat) (s:ByteArray):∀l e,∃l2,(rn h1 s l e).1=l++l2/\e<=(rn h1 s l e).2/\(e<=s.size->(rn h1 s l e).2<=s.size):=by
 refine rn_ind h1 s _ ?_ ?_
 ·intro l e h
  rw[rn_stop h]
  exact⟨[],by simp,Nat.le_refl _,fun h=>h⟩
 ·intro l e m hg h ⟨l2,i1,i2,i3⟩
  have:=GF_to hg
  rw[rn_step hg h]
  exact⟨m::l2,by rw[i1];simp,by omega,fun _=>i3 (by omega)⟩
theorem rn_to (h1:Nat) (s t:ByteArray) (k:Nat) (h:Agree s t k):∀l e,(rn h1 s l e).2<=k->rn h1 t l e=rn h1 t (rn h1 s l e).1 (rn h1 s l e).2:=by
 refine rn_ind h1 s _ ?_ ?_
 ·intro l e hs _
  rw[rn_stop hs]
 ·intro l e m hg hm ih hk
  rw[rn_step hg hm] at hk ⊢
  obtain⟨l2,-,h2,-⟩:=rn_pre h1 s (l++[m]) (fto s e)
  obtain⟨g1,g2,g3⟩:=h.frame hg (by omega)
  rw[rn_step g1 (by rw[g2];exact hm),g3]
  exact ih hk
theorem rn_end (h1:Nat) (t:ByteArray) (l:List Mt) (e:Nat) (h:t.size<=e):rn h1 t l e=(l,e):=rn_stop fun hg=>by have:=GF_to hg;omega
theorem u4_le (n:Nat) (hn:n<4294967296) (a b:List UInt8):u4 (a++(le 4 n++b)) a.length=n:=by
 have e:∀k (hk:k<4),by4 (a++(le 4 n++b)) (a.length+k)=by4 (le 4 n) k:=by
  intro k hk
  unfold by4
  rw[List.getD_eq_getElem?_getD,List.getD_eq_getElem?_getD,List.getElem?_append_right (by omega),Nat.add_sub_cancel_left,List.getElem?_append_left (by rw[length_le];omega)]
 have e0:=e 0 (by omega)
 unfold u4
 rw[show a.length=a.length+0 from rfl,e0,Nat.add_zero,e 1 (by omega),e 2 (by omega),e 3 (by omega)]
 simp only[le,by4,List.getD_cons_zero,List.getD_cons_succ,UInt8.toNat_ofNat']
 omega
theorem size_frB (k:UInt8) (b:ByteArray):(frB k b).size=b.size+9:=by
 unfold frB
 rw[ByteArray.size_append,size_frA]
 show _+(le 4 _).toArray.size=_
 rw[List.size_toArray,length_le]
theorem GF_put (pre:ByteArray) (k:UInt8) (b:ByteArray) (hk:1<=k.toNat/\k.toNat<=4) (hb:b.size<=60000) :
  GF (pre++frB k b) pre.size/\fr (pre++frB k b) pre.size=(k.toNat,b,pre.size,pre.size+(b.size+9)):=by
 have hl:(pre++frB k b).data.toList=pre.data.toList++([k]++(le 4 b.size++(b.data.toList++le 4 (crc (frA k b).data.toList)))):=by
  unfold frB frA
  simp only[ByteArray.data_append,Array.toList_append,List.append_assoc]
 have hla:(frA k b).data.toList=[k]++(le 4 b.size++b.data.toList):=by
  unfold frA
  simp only[ByteArray.data_append,Array.toList_append,List.append_assoc]
 have hsz:(pre++frB k b).size=pre.size+(b.size+9):=by rw[ByteArray.size_append,size_frB]
 have hb4:by4 (pre++frB k b).data.toList pre.size=k.toNat:=by
  rw[hl];unfold by4
  rw[List.getD_eq_getElem?_getD,List.getElem?_append_right (by rw[size_list];omega),size_list,Nat.sub_self];rfl
 have hu4:u4 (pre++frB k b).data.toList (pre.size+1)=b.size:=by
  rw[hl,<-List.append_assoc]
  have:=u4_le b.size (by omega) (pre.data.toList++[k]) (b.data.toList++le 4 (crc (frA k b).data.toList))
  rwa [List.length_append,size_list] at this
 have hfn:fn (pre++frB k b) pre.size=b.size:=hu4
 have hex:((pre++frB k b).extract pre.size (pre.size+5+b.size)).data.toList=(frA k b).data.toList:=by
  have hla2:(frA k b).data.toList.length=b.size+5:=by rw[size_list,size_frA]
  rw[ext_list,hl,hla,List.drop_append_of_le_length (by rw[size_list];omega),List.drop_of_length_le (by rw[size_list];omega),List.nil_append]
  rw[hla] at hla2
  rw[<-List.append_assoc,<-List.append_assoc,List.append_assoc [k],List.take_append_of_le_length (by omega),List.take_of_length_le (by omega)]
 have hcr:u4 (pre++frB k b).data.toList (pre.size+5+b.size)=crc (frA k b).data.toList:=by
  rw[hl]
  have:=u4_le (crc (frA k b).data.toList) (crc_lt _) (pre.data.toList++([k]++(le 4 b.size++b.data.toList))) []
  have e:(pre.data.toList++([k]++(le 4 b.size++b.data.toList))).length=pre.size+5+b.size:=by
   simp only[List.length_append,size_list,length_le,List.length_singleton];omega
  rw[e] at this
  simp only[List.append_assoc,List.append_nil] at this ⊢
  exact this
 have hfb:fbody (pre++frB k b) pre.size=b:=by
  refine ba_ext ?_
  unfold fbody
  rw[hfn,ext_list,hl]
  have e:pre.data.toList++([k]++(le 4 b.size++(b.data.toList++le 4 (crc (frA k b).data.toList))))=(pre.data.toList++([k]++le 4 b.size))++(b.data.toList++le 4 (crc (frA k b).data.toList)):=by simp only[List.append_assoc]
  have e2:(pre.data.toList++([k]++le 4 b.size)).length=pre.size+5:=by
   rw[List.length_append,List.length_append,size_list,length_le];rfl
  rw[e,<-e2,List.drop_append_of_le_length (Nat.le_refl _),List.drop_length,List.nil_append,List.take_append_of_le_length (by rw[size_list];omega),List.take_of_length_le (by rw[size_list];omega)]
 refine⟨⟨by omega,by rw[hb4];exact hk,by rw[hu4];exact hb,by rw[hu4];omega,by rw[hu4,hex,hcr]⟩,?_⟩
 unfold fr fto
 rw[hb4,hfb,hfn]
 congr 3
 omega
end Sn
end Go.Proofs.YtlnbjikooadmoaaGreat
namespace Go.Proofs.YtlnbjikooadmoaaGreat
namespace Sn
open Go.RowKit Cr Fm Hd Bk Vi Rd
def St (e0:Nat) (s:ByteArray) (l:List Mt) (e:Nat):Prop :=
 rowM none l=true/\l.length<=1000/\(l=[]->e=e0)/\(∀m,l.getLast? =some m->m.a+m.s=e)/\ ∀m∈l,GF s m.a/\metaF (fr s m.a)=some m/\ ∃r,dec (fbody s m.a).data.toList=some r
theorem St_nil (e0:Nat) (s:ByteArray):St e0 s [] e0:=⟨rfl,by simp,fun _=>rfl,(fun m h=>by cases h),(fun m h=>by cases h)⟩
theorem metaF_some {x:Fr} {m:Mt} (h:metaF x=some m):x.1=2/\m.a=x.2.2.1/\m.s=x.2.2.2-x.2.2.1/\ ∃md r,peekB x.2.1.data.toList=some (md,m.r,m.c,m.f,m.e,m.l,r):=by
 unfold metaF at h
 split at h
 ·rename_i md raw count first early late r hp
  split at h
  ·cases h
   exact⟨‹_›,rfl,rfl,md,r,hp⟩
  ·cases h
 ·cases h
theorem goesB_iff (h1:Nat) (l:List Mt) (m:Mt):goesB h1 l m=true↔(l.length<1000/\m.f=nextM h1 l/\lateM l<=m.e)/\okM m=true:=by
 unfold goesB;rw[Bool.and_eq_true,decide_eq_true_eq]
theorem St_step {h1 e0:Nat} {s:ByteArray} {l:List Mt} {e:Nat} {m:Mt} (h:St e0 s l e) (hg:GF s e) (hm:good h1 l (fr s e)=some m):St e0 s (l++[m]) (fto s e):=by
 obtain⟨s1,s2,s3,s4,s5⟩:=h
 rw[good_iff,goesB_iff] at hm
 obtain⟨hm,⟨⟨g1,g2,g3⟩,g4⟩,r,hr⟩:=hm
 obtain⟨m1,m2,m3,-⟩:=metaF_some hm
 have h9:=GF_to hg
 have ea:m.a=e:=m2
 have es:m.s=fto s e-e:=m3
 refine⟨rowM_snoc l none m s1 g4 fun q hq=>?_,by rw[List.length_append,List.length_singleton];omega,fun h=>by simp at h,fun x hx=>?_,fun x hx=>?_⟩
 ·rcases hl:l.getLast? with _|y
  ·rw[hl] at hq;cases hq
  ·rw[hl] at hq
   cases hq
   have:=s4 _ hl
   unfold nextM at g2
   unfold lateM at g3
   rw[hl] at g2 g3
   rw[folB_iff]
   exact⟨by omega,g2,g3⟩
 ·rw[List.getLast?_append] at hx
  obtain rfl:m=x:=Option.some.inj hx
  omega
 ·rw[List.mem_append,List.mem_singleton] at hx
  rcases hx with hx|rfl
  ·exact s5 x hx
  ·rw[ea]
   exact⟨hg,hm,r,hr⟩
theorem St_rn (h1 e0:Nat) (s:ByteArray):∀l e,St e0 s l e->St e0 s (rn h1 s l e).1 (rn h1 s l e).2:=by
 refine rn_ind h1 s _ ?_ ?_
 ·intro l e h hs
  rw[rn_stop h];exact hs
 ·intro l e m hg hm ih hs
  rw[rn_step hg hm]
  exact ih (St_step hs hg hm)
def recs (s:ByteArray) (l:List Mt):List (Int×Int×ByteArray):=l.flatMap fun m=>(dec (fbody s m.a).data.toList).getD []
theorem recs_snoc (s:ByteArray) (l:List Mt) (m:Mt):recs s (l++[m])=recs s l++(dec (fbody s m.a).data.toList).getD []:=by
 unfold recs;rw[List.flatMap_append,List.flatMap_singleton]
def lastR (p:Option (Int×Int×ByteArray)) (l:List (Int×Int×ByteArray)):Option (Int×Int×ByteArray):=match l.getLast? with|none=>p|some r=>some r
theorem rowE_app:∀(a:List (Int×Int×ByteArray)) (p:Option (Int×Int×ByteArray)) (b:List (Int×Int×ByteArray)),rowE p a=0->rowE (lastR p a) b=0->rowE p (a++b)=0
 | [],_,_,_,h=>h
 |x::a,p,b,h,h2=>by
  rw[rowE] at h
  split at h;·simp at h
  rename_i ho
  split at h;·simp at h
  rename_i hf
  rw[List.cons_append,rowE,if_neg ho,if_neg hf]
  refine rowE_app a (some x) b h ?_
  have e:lastR p (x::a)=lastR (some x) a:=by
   unfold lastR
   rw[List.getLast?_cons]
   rcases a.getLast? with _|y<;>rfl
  rw[<-e];exact h2
theorem row_behind {p x:Int×Int×ByteArray} {l:List (Int×Int×ByteArray)} (h:rowE none (x::l)=0) (hq:x.1=p.1+1) (ht:p.2.1<=x.2.1):rowE (some p) (x::l)=0:=by
 rw[rowE] at h ⊢
 split at h;·simp at h
 rename_i ho
 rw[if_neg ho,if_neg (by simp[off];omega)]
 simpa[off] using h
theorem dec_known {b r:List UInt8} {md raw count first early late:Nat} {l:List (Int×Int×ByteArray)} (h:dec b=some l) (hp:peekB b=some (md,raw,count,first,early,late,r)) :
  l.length=count/\(at3 l 0).1=first/\(at3 l 0).2.1=early/\(at3 l (l.length-1)).2.1=late:=by
 rw[dec_at hp] at h
 split at h
 ·cases h
 split at h
 ·cases h
 split at h
 ·cases h
  exact(fits_iff ..).1 ‹_›
 ·cases h
theorem getLast_at3 {l:List (Int×Int×ByteArray)} (h:l≠ []):l.getLast? =some (at3 l (l.length-1)):=by
 have:0<l.length:=List.length_pos_iff.2 h
 rw[List.getLast?_eq_getElem?,at3_get l _ (by omega)]
def RowSt (h1:Nat) (s:ByteArray) (l:List Mt):Prop:=rowE none (recs s l)=0/\ ∀r,(recs s l).getLast? =some r->r.1+1=(nextM h1 l:Nat)/\r.2.1=(lateM l:Nat)
theorem Row_nil (h1:Nat) (s:ByteArray):RowSt h1 s []:=⟨rfl,fun r h=>by cases h⟩
theorem Row_step {h1:Nat} {s:ByteArray} {l:List Mt} {e:Nat} {m:Mt} (h:RowSt h1 s l) (hm:good h1 l (fr s e)=some m):RowSt h1 s (l++[m]):=by
 obtain⟨r1,r2⟩:=h
 rw[good_iff,goesB_iff] at hm
 obtain⟨hm,⟨⟨g1,g2,g3⟩,g4⟩,L,hr⟩:=hm
 obtain⟨-,m2,-,md,rr,hp⟩:=metaF_some hm
 have ea:m.a=e:=m2
 have hr':dec (fbody s m.a).data.toList=some L:=by rw[ea];exact hr
 obtain⟨d1,d2⟩:=dec_some hr
 obtain⟨k1,k2,k3,k4⟩:=dec_known hr hp
 obtain⟨j1,-⟩:=jE_row d1
 have hlen:0<L.length:=List.length_pos_iff.2 d2
 have hz:=row_seq0 L j1 (L.length-1) _ (at3_get L (L.length-1) (by omega))
 unfold RowSt
 rw[recs_snoc,hr',Option.getD_some]
 refine⟨?_,fun r hl=>?_⟩
 ·refine rowE_app _ _ _ r1 ?_
  rcases hq:(recs s l).getLast? with _|p
  ·unfold lastR;rw[hq];exact j1
  ·unfold lastR;rw[hq]
   obtain⟨q1,q2⟩:=r2 p hq
   rcases L with _|⟨x,L⟩
   ·exact absurd rfl d2
   ·have e3:at3 (x::L) 0=x:=rfl
    rw[e3] at k2 k3
    exact row_behind j1 (by omega) (by omega)
 ·rw[List.getLast?_append,getLast_at3 d2] at hl
  cases hl
  rw[nextM_snoc,lateM_snoc]
  omega
theorem Row_rn (h1:Nat) (s:ByteArray):∀l e,RowSt h1 s l->RowSt h1 s (rn h1 s l e).1:=by
 refine rn_ind h1 s _ ?_ ?_
 ·intro l e h hs
  rw[rn_stop h];exact hs
 ·intro l e m hg hm ih hs
  rw[rn_step hg hm]
  exact ih (Row_step hs hm)
def mtOf (T:Nat) (B:ByteArray) (l:List (Int×Int×ByteArray)) (F E L:Nat):Mt:=⟨T,B.size+9,(joinB l).length,l.length,F,E,L⟩
theorem more_good {h1 T F E L:Nat} {B:ByteArray} {A:List Nat} {l:List Mt} {R:List (Int×Int×ByteArray)} (hB:B.data.toList=blk R A) (hj:jE R=0) (hR:R≠ []) (hA:Sx.Sorted (joinB R) A)
  (hT:T<=1000000) (hF:(at3 R 0).1=F) (hE:(at3 R 0).2.1=E) (hL:(at3 R (R.length-1)).2.1=L) (hl:l.length<1000) (hn:F=nextM h1 l) (ht:lateM l<=E) :
  good h1 l (2,B,T,T+(B.size+9))=some (mtOf T B R F E L):=by
 have hp:=peek_blk A hj hR
 have hd:=dec_blk hj hR hA
 have he:=ends hj hR
 have hb:=blk_len (A:=A) hj hR
 have hbs:B.size=(blk R A).length:=by rw[<-hB];rfl
 have h2:=(jE_row hj).2
 have h3:=joinB_ge R
 have hlen:0<R.length:=List.length_pos_iff.2 hR
 have hbl:1<=(blk R A).length:=by unfold blk;simp
 rw[hF,hE,hL] at hp he
 rw[good_iff,goesB_iff,okM_iff]
 refine⟨?_,⟨⟨hl,hn,ht⟩,?_⟩,R,by rw[hB];exact hd⟩
 ·unfold metaF
  rw[hB,hp]
  simp only[if_true]
  unfold mtOf
  congr 2<;>omega
 ·unfold mtOf
  refine⟨hT,?_⟩
  simp only
  omega
theorem rn_more {h1 e0 F E L:Nat} {s B:ByteArray} {A:List Nat} {R:List (Int×Int×ByteArray)} (hs:s.size<=1000000) (he:e0<=s.size) (hB:B.data.toList=blk R A) (hj:jE R=0) (hR:R≠ []) (hA:Sx.Sorted (joinB R) A)
  (hF:(at3 R 0).1=F) (hE:(at3 R 0).2.1=E) (hL:(at3 R (R.length-1)).2.1=L) (hl:(rn h1 s [] e0).1.length<1000) (hn:F=nextM h1 (rn h1 s [] e0).1) (ht:lateM (rn h1 s [] e0).1<=E) :
  rn h1 (s.extract 0 (rn h1 s [] e0).2++frB 2 B) [] e0=((rn h1 s [] e0).1++[mtOf (rn h1 s [] e0).2 B R F E L],(rn h1 s [] e0).2+(B.size+9)):=by
 obtain⟨l2,-,p2,p3⟩:=rn_pre h1 s [] e0
 have hT:=p3 he
 rw[rn_to h1 s _ _ (agree_app s (frB 2 B) _ hT) [] e0 (Nat.le_refl _)]
 have hes:(s.extract 0 (rn h1 s [] e0).2).size=(rn h1 s [] e0).2:=by rw[ByteArray.size_extract];omega
 have hbs:B.size<=60000:=by
  have:=blk_len (A:=A) hj hR
  have:=(jE_row hj).2
  have:B.size=(blk R A).length:=by rw[<-hB];rfl
  omega
 obtain⟨g1,g2⟩:=GF_put (s.extract 0 (rn h1 s [] e0).2) 2 B (by decide) hbs
 rw[hes] at g1 g2
 have hg:=more_good (h1:=h1) (T:=(rn h1 s [] e0).2) (l:=(rn h1 s [] e0).1) hB hj hR hA (by omega) hF hE hL hl hn ht
 have hto:fto (s.extract 0 (rn h1 s [] e0).2++frB 2 B) (rn h1 s [] e0).2=(rn h1 s [] e0).2+(B.size+9):=congrArg (fun x:Fr=>x.2.2.2) g2
 rw[rn_step g1 (by rw[g2];exact hg),hto,rn_end]
 rw[ByteArray.size_append,size_frB,hes]
 omega
end Sn
end Go.Proofs.YtlnbjikooadmoaaGreat
namespace Go.Proofs.YtlnbjikooadmoaaGreat
namespace Dk
open Go.RowKit Hd Fm Sn Bk Rd
theorem meta_size:(Tryz.prog.info? 39).map (·.size)=some 7:=by kernel_rfl
set_option maxHeartbeats 1600000 in
theorem fsize_any (b:ByteArray) (w:World) (hb:b.size<=1000000):Calls Tryz.prog 35 #[.string b] w fun e w'=>e=.returned (.int .i64 ((b.size+9:Nat):Int))/\w=w':=by
 have h1:wrap64 (5+(b.size:Int))=5+(b.size:Int):=by unfold wrap64;omega
 have h2:wrap64 (5+(b.size:Int)+4)=5+(b.size:Int)+4:=by unfold wrap64;omega
 have h3:((b.size+9:Nat):Int)=5+(b.size:Int)+4:=by omega
 rw[h3]
 clear h3
 go_enter Tryz.func35, Tryz.ntmps35
 go_wp2_with fail
 go_ret
 exact⟨rfl,rfl⟩
def BlkOf (l:List (Int×Int×ByteArray)) (B:ByteArray):Prop:=∃arr,Sx.Sorted (joinB l) arr/\B.data.toList=blk l arr
theorem BlkOf.size {l:List (Int×Int×ByteArray)} {B:ByteArray} (h:BlkOf l B) (hj:jE l=0) (hne:l≠ []):B.size<=(joinB l).length+26/\B.size<=60000:=by
 obtain⟨arr,-,h⟩:=h
 have h1:=blk_len (A:=arr) hj hne
 have h2:=(jE_row hj).2
 have:B.size=(blk l arr).length:=by rw[<-h];rfl
 omega
theorem BlkOf.peek {l:List (Int×Int×ByteArray)} {B:ByteArray} (h:BlkOf l B) (hj:jE l=0) (hne:l≠ []) (w:World) :
  Calls Tryz.prog 36 #[.string B] w fun e w'=>e=.returned (.tuple #[magg 0 0 (joinB l).length l.length (at3 l 0).1.toNat (at3 l 0).2.1.toNat (at3 l (l.length-1)).2.1.toNat,.int .i64 0])/\Below w.heap.size w w':=by
 have hs:=(h.size hj hne).2
 obtain⟨arr,-,h⟩:=h
 exact peek_yes B w (by omega) (by rw[h];exact peek_blk arr hj hne)
theorem encode_blk (A:Option Addr) (n c:Nat) (l:List (Int×Int×ByteArray)) (w:World) (hrd:Rd w w.heap.size 3 A n (fl3 l)) (hn:n<=100000) (hj:jE l=0) (hne:l≠ []) :
  Calls Tryz.prog 15 #[.slice A n c] w fun e w'=>(∃B,BlkOf l B/\e=.returned (.tuple #[.string B,.int .i64 0]))/\Below w.heap.size w w':=by
 have he:encE l=0:=by unfold encE;rw[if_neg hne];exact hj
 refine(enc_any A n c l w hrd hn).mono ?_
 rintro e w' ⟨⟨B,rfl,-,q⟩,hb⟩
 obtain⟨arr,h1,rfl⟩:=q he
 exact⟨⟨_,⟨arr,h1,rfl⟩,by rw[he]⟩,hb⟩
section
variable {w w':World} {S:Nat->Prop} {bd gN gS:Nat} {v:Value} {D:DS}
structure Ad (w:World) (S:Nat->Prop) (bd:Nat) (D:DS) (bR:Nat) (wx:World):Prop where
 disk:DiskAt wx S bd D
 gr:Below w.heap.size w wx
 vR:Blk wx bR #[.int .i64 0,.int .i64 0,.int .i64 0,.int .i64 0,.int .i64 0,.int .i64 0,.int .i64 0] 39
theorem Ad.ext {bR:Nat} {wx wy:World} (h:Ad w S bd D bR wx) (hb:Below wx.heap.size wx wy):Ad w S bd D bR wy :=
 ⟨h.disk.ext hb,h.gr.trans (hb.mono h.gr.size),h.vR.ext hb⟩
theorem DiskAt.kept (h:DiskAt w S bd D) (hs:w.heap.size<=w'.heap.size) (hb:∀k,S k->w'.heap[k]? =w.heap[k]?):DiskAt w' S bd D:=by
 obtain⟨gN,gS,v,h⟩:=h
 exact⟨gN,gS,v,h.kept hs hb⟩
theorem DiskAt.lt (h:DiskAt w S bd D) {k:Nat} (hk:S k):k<w.heap.size:=by
 obtain⟨gN,gS,v,h⟩:=h
 exact h.lt k hk
theorem DiskAt.gt (h:DiskAt w S bd D) {k:Nat} (hk:w.heap.size<=k): ¬ S k:=fun hs=>by have:=h.lt hs;omega
theorem DiskAt.own (h:DiskAt w S bd D) {g:Nat} (hg: ¬ S g) (z:Array Value):DiskAt (w.setRow g z) S bd D:=h.kept (by rw[size_setRow];exact Nat.le_refl _) fun k hk=>setRow_other w g k z (by rintro rfl;exact hg hk)
theorem DiskAt.ownC (h:DiskAt w S bd D) {g:Nat} (hg: ¬ S g) (k:Nat) (v:Value):DiskAt (w.setCell ⟨g,k,none⟩ v) S bd D:=h.kept (by simp) fun j hj=>Below.heap_setCell w ⟨g,k,none⟩ v j (by rintro rfl;exact hg hj)
theorem gr_own {S':Nat->Prop} (h:Gr S w S' w') {g:Nat} (hg:w.heap.size<=g) (z:Array Value):Gr S w S' (w'.setRow g z) :=
 ⟨h.os,h.tape,h.output,by rw[size_setRow];exact h.size,fun k hk hn=>(setRow_other w' g k z (by omega)).trans (h.block k hk hn),h.sub⟩
theorem gr_ownC {S':Nat->Prop} (h:Gr S w S' w') {g:Nat} (hg:w.heap.size<=g) (j:Nat) (v:Value):Gr S w S' (w'.setCell ⟨g,j,none⟩ v) :=
 ⟨h.os,h.tape,h.output,by simp;exact h.size,fun k hk hn=>(Below.heap_setCell w' ⟨g,j,none⟩ v k (by show k≠g;omega)).trans (h.block k hk hn),h.sub⟩
set_option maxHeartbeats 6400000 in
set_option maxRecDepth 100000 in
theorem Add_go (h:DiskAt w S bd D) (hc:Calm D) {i g f:Int} {at':Nat} {A:Option Addr} {n c:Nat} {l:List (Int×Int×ByteArray)} {b:Nat} {p:ByteArray×ByteArray} (hh:okH i g f=true) (hl:lk (segN i g) D.now=some b) (hp:D.fl b=some p)
  (hrd:Rd w w.heap.size 3 A n (fl3 l)) (hn:n<=100000) (hj:jE l=0) (hne:l≠ []) (h1:p.2.size+((joinB l).length+35)<=1000000) (h2:((joinB l).length:Int)+35+(usedD D:Int)<=D.cap) :
  Calls Tryz.prog 10 #[.pointer (some ⟨bd,0,none⟩),.agg #[.int .i64 i,.int .i64 g,.int .i64 f],.int .i64 (at':Int),.slice A n c] w fun e w' =>
   ∃B:ByteArray,BlkOf l B/\e=.returned (.tuple #[mv (mtOf at' B l (at3 l 0).1.toNat (at3 l 0).2.1.toNat (at3 l (l.length-1)).2.1.toNat),.int .i64 0])/\ ∃S',DiskAt w' S' bd (setF b (p.1,p.2++frB 2 B) (tick D))/\Gr S w S' w':=by
 have HO:=Lib.hid (fun w=>of_ok (bd:=bd) i g f w hh)
 have HE:=Lib.hid (fun wx (hx:Below w.heap.size w wx)=>encode_blk A n c l wx (hrd.ext hx) hn hj hne)
 have HK:=Lib.hid (fun(B:ByteArray) (hB:BlkOf l B) wx=>hB.peek hj hne wx)
 have HZ:=Lib.hid (fun(B:ByteArray) (hB:BlkOf l B)=>hB.size hj hne)
 have HP:=Lib.hid (show ∀(B:ByteArray) (wx:World),BlkOf l B->DiskAt wx S bd D->Calls Tryz.prog 37 #[.agg (sgc bd i g f (segN i g)),.int .i64 2,.string B] wx fun e w'=>e=.returned (.int .i64 0)/\ ∃S',DiskAt w' S' bd (setF b (p.1,p.2++frB 2 B) (tick D))/\Gr S wx S' w' from fun B wx hB hx=>by
  have hz:=hB.size hj hne
  have:=sput_go (k:=2) hx (i:=i) (g:=g) (f:=f) (body:=B) hc.off hl hp (by decide) hz.2 (by omega) (by omega)
  rw[hc.e,hc.s] at this
  exact this)
 have hnt:∀k,w.heap.size<=k-> ¬ S k:=fun k hk=>h.gt hk
 have HN:=Lib.hid hnt
 have hD:=show Ad w S bd D (w.heap.size+1) ((w.alloc (.cells #[.int .i64 i,.int .i64 g,.int .i64 f] 33)).alloc (.cells #[.int .i64 0,.int .i64 0,.int .i64 0,.int .i64 0,.int .i64 0,.int .i64 0,.int .i64 0] 39)) from
  ⟨h.ext (ext_second w _ _),ext_second w _ _,blk_second w _ _ _⟩
 have hat: ¬ (at':Int)<0:=by omega
 unfold mv mtOf
 dsimp only
 unfold sgc at *
 clear h hc hh hl hp hrd hn hj hne h1 h2 hnt
 unfold magg at *
 generalize segN i g=s at *
 generalize (joinB l).length=R at *
 generalize (at3 l 0).1.toNat=F1 at *
 generalize (at3 l 0).2.1.toNat=E1 at *
 generalize (at3 l (l.length-1)).2.1.toNat=L1 at *
 generalize l.length=N at *
 go_enter Tryz.func10, Tryz.ntmps10
 go_wp2_with (first
  |(go_at_call 30;refine(HO.out _).mono ?_;rintro e1 w1 ⟨rfl,hb1⟩;have HA1:=Lib.hid ((hD.ext hb1).ext (ext_alloc w1 (.cells #[.pointer (some ⟨bd,0,none⟩),.int .i64 i,.int .i64 g,.int .i64 f,.string s] 77)));have HS1:=Lib.hid (Blk.new w1 #[.pointer (some ⟨bd,0,none⟩),.int .i64 i,.int .i64 g,.int .i64 f,.string s] 77);clear hb1 hD)
  |(go_at_call 15;refine(HE.out _ HA1.out.gr).mono ?_;rintro e2 w2 ⟨⟨B,hB,rfl⟩,hb2⟩;have HB:=Lib.hid hB;have HA2:=Lib.hid (HA1.out.ext hb2);have HS2:=Lib.hid (HS1.out.ext hb2);clear hb2 hB)
  |(go_at_call 36;refine(HK.out B HB.out _).mono ?_;rintro e3 w3 ⟨rfl,hb3⟩;have HA3:=Lib.hid ((HA2.out.ext hb3).ext (ext_alloc w3 (.cells #[.int .i64 0,.int .i64 0,.int .i64 (R:Int),.int .i64 (N:Int),.int .i64 (F1:Int),.int .i64 (E1:Int),.int .i64 (L1:Int)] 39)));have HS3:=Lib.hid ((HS2.out.ext hb3).alloc (.cells #[.int .i64 0,.int .i64 0,.int .i64 (R:Int),.int .i64 (N:Int),.int .i64 (F1:Int),.int .i64 (E1:Int),.int .i64 (L1:Int)] 39));have HM3:=Lib.hid (Blk.new w3 #[.int .i64 0,.int .i64 0,.int .i64 (R:Int),.int .i64 (N:Int),.int .i64 (F1:Int),.int .i64 (E1:Int),.int .i64 (L1:Int)] 39);have HL3:=Lib.hid (show w.heap.size+1<w3.heap.size from Nat.lt_of_lt_of_le HA2.out.vR.lt hb3.size);clear hb3)
  |(refine wpList_load_row rfl 77 (.tmp 10) rfl w1.heap.size #[.pointer (some ⟨bd,0,none⟩),.int .i64 i,.int .i64 g,.int .i64 f,.string s] _ (by simp[go_sem,Act.eval]) HS3.out Tryz.underlying77 rfl sg_info ?_)
  |(go_at_call 37;refine(HP.out B _ HB.out HA3.out.disk).mono ?_;rintro e4 w4 ⟨rfl,S4,hD4,hG4⟩;have HD4:=Lib.hid (And.intro hD4 hG4);have HR4:=Lib.hid (hG4.blk HA3.out.vR (HN.out _ (Nat.le_succ _)));have hm4:=hG4.blk HM3.out (HN.out _ (by have:=HL3.out;omega));have m0:=hm4.cell 0 (v:=.int .i64 0) rfl;have m1:=hm4.cell 1 (v:=.int .i64 0) rfl;have m2:=hm4.cell 2 (v:=.int .i64 (R:Int)) rfl;have m3:=hm4.cell 3 (v:=.int .i64 (N:Int)) rfl;have m4:=hm4.cell 4 (v:=.int .i64 (F1:Int)) rfl;have m5:=hm4.cell 5 (v:=.int .i64 (E1:Int)) rfl;have m6:=hm4.cell 6 (v:=.int .i64 (L1:Int)) rfl;have z0:=hm4.fz 0;have z1:=hm4.fz 1;clear hD4 hG4 hm4)
  |(go_at_call 35;refine(fsize_any B _ (by have:=(HZ.out B HB.out).2;omega)).mono ?_;rintro e5 w5 ⟨rfl,rfl⟩;have HR5:=Lib.hid (fun x y=>(HR4.out.setCell (k:=w3.heap.size) (j:=0) (by have:=HL3.out;omega) x).setCell (k:=w3.heap.size) (j:=1) (by have:=HL3.out;omega) y))
  |(refine wpList_store_row rfl 39 (.tmp 8) (.tmp 58) rfl (w.heap.size+1) #[.int .i64 (at':Int),.int .i64 ((B.size:Int)+9),.int .i64 (R:Int),.int .i64 (N:Int),.int .i64 (F1:Int),.int .i64 (E1:Int),.int .i64 (L1:Int)] #[.int .i64 0,.int .i64 0,.int .i64 0,.int .i64 0,.int .i64 0,.int .i64 0,.int .i64 0] (by simp[go_sem,Act.eval]) (by simp[go_sem,Act.eval]) (HR5.out _ _) meta_size rfl (by simp[Value.oneCell']) ?_))
 refine bodyPost_ret (v:=.tuple #[.agg #[.int .i64 (at':Int),.int .i64 ((B.size:Int)+9),.int .i64 (R:Int),.int .i64 (N:Int),.int .i64 (F1:Int),.int .i64 (E1:Int),.int .i64 (L1:Int)],.int .i64 0]) (by exact results_cell2 rfl rfl rfl ((HR5.out _ _).set _) Tryz.underlying39 rfl meta_size) (by exact rfl) ?_
 have hL:=HL3.out
 have nM: ¬ S4 w3.heap.size:=HD4.out.2.out (by simp) (HN.out _ (by omega))
 have nR: ¬ S4 (w.heap.size+1):=HD4.out.2.out HA3.out.vR.lt (HN.out _ (Nat.le_succ _))
 exact⟨B,HB.out,rfl,S4,((HD4.out.1.ownC nM 0 _).ownC nM 1 _).own nR _,gr_own (gr_ownC (gr_ownC ((Gr.of_below HA3.out.gr).trans HD4.out.2) (by omega) 0 _) (by omega) 1 _) (Nat.le_succ _) _⟩
end
end Dk
end Go.Proofs.YtlnbjikooadmoaaGreat
namespace Go.Proofs.YtlnbjikooadmoaaGreat
namespace Bk
open Go.RowKit
def rg (lo hi:Int):Value:=.agg #[.int .i64 lo,.int .i64 hi]
set_option maxHeartbeats 6400000 in
set_option maxRecDepth 100000 in
theorem seqs_at (a s:Int) (raw c first early late:Nat) (w:World) (h:first+c<=1000000000) :
  Calls Tryz.prog 112 #[magg a s raw (c+1:Nat) first early late] w fun e w'=>e=.returned (rg first (first+c:Nat))/\Below w.heap.size w w':=by
 have mixed:Tryz.prog.follows .mixedOrders=true:=by kernel_rfl
 have h1: ¬ (((c+1:Nat):Int)<1):=by omega
 have h2:IntKind.i64.wrap (((c+1:Nat):Int)-1)=(c:Int):=by rw[IntKind.wrap_i64];omega
 have h3:IntKind.i64.wrap (9223372036854775807-(c:Int))=9223372036854775807-(c:Int):=by rw[IntKind.wrap_i64];omega
 have h4: ¬ (9223372036854775807-(c:Int)<(first:Int)):=by omega
 have h5:IntKind.i64.wrap ((first:Int)+(c:Int))=((first+c:Nat):Int):=by rw[IntKind.wrap_i64];omega
 have HB:=Lib.hid h
 clear h
 unfold magg rg
 generalize ((c+1:Nat):Int)=C at *
 go_enter Tryz.func112, Tryz.ntmps112
 go_wp2_with fail
 refine bodyPost_ret (v:=.agg #[.int .i64 first,.int .i64 ((first:Int)+c)]) (by simp[results,go_sem]) rfl ?_
 exact⟨by simp,(ext_alloc w _).trans ((ext_alloc _ _).mono (by simp))⟩
theorem run_hi (w:World) (x y:Int):Sem.run Tryz.prog (Instr.field 175 (.agg #[.int .i64 x,.int .i64 y]) 1) w=.ok (.int .i64 y) w:=by
 have hu:=Tryz.underlying175
 have h3:=Tryz.underlying3
 simp[Instr.field,hu,h3,asAgg,part,isAgg,go_sem]
end Bk
end Go.Proofs.YtlnbjikooadmoaaGreat
namespace Go.Proofs.YtlnbjikooadmoaaGreat
namespace Sn
open Go.RowKit Hd Bk
theorem seqs_mt (m:Mt) (w:World) (h:okM m=true):Calls Tryz.prog 112 #[mv m] w fun e w'=>e=.returned (rg m.f (m.f+(m.c-1):Nat))/\Below w.heap.size w w':=by
 rw[okM_iff] at h
 have:=seqs_at m.a m.s m.r (m.c-1) m.f m.e m.l w (by omega)
 unfold mv
 rwa [show m.c-1+1=m.c by omega] at this
set_option maxHeartbeats 3200000 in
set_option maxRecDepth 100000 in
theorem follows_any (p m:Mt) (w:World) (hp:okM p=true) (hm:okM m=true) :
  Calls Tryz.prog 83 #[mv p,mv m] w fun e w'=>e=.returned (.bool (folB p m))/\Below w.heap.size w w':=by
 have mixed:Tryz.prog.follows .mixedOrders=true:=by kernel_rfl
 have HS:=Lib.hid (fun w=>seqs_mt p w hp)
 rw[okM_iff] at hp hm
 have hfol:=folB_iff p m
 have HB:=Lib.hid ((ext_alloc w (.cells #[.int .i64 p.a,.int .i64 p.s,.int .i64 p.r,.int .i64 p.c,.int .i64 p.f,.int .i64 p.e,.int .i64 p.l] 39)).trans ((ext_alloc _ (.cells #[.int .i64 m.a,.int .i64 m.s,.int .i64 m.r,.int .i64 m.c,.int .i64 m.f,.int .i64 m.e,.int .i64 m.l] 39)).mono (by simp)))
 have hp':(p.f+(p.c-1)+1:Nat)=p.f+p.c:=by omega
 have M1:=Lib.hid (show Mb ((w.alloc (.cells #[.int .i64 p.a,.int .i64 p.s,.int .i64 p.r,.int .i64 p.c,.int .i64 p.f,.int .i64 p.e,.int .i64 p.l] 39)).alloc (.cells #[.int .i64 m.a,.int .i64 m.s,.int .i64 m.r,.int .i64 m.c,.int .i64 m.f,.int .i64 m.e,.int .i64 m.l] 39)) w.heap.size p.a p.s p.r p.c p.f p.e p.l from
  (Below.heap_alloc _ _ _ (by simp)).trans (heap_alloc_new w _))
 have M2:=Lib.hid (show Mb ((w.alloc (.cells #[.int .i64 p.a,.int .i64 p.s,.int .i64 p.r,.int .i64 p.c,.int .i64 p.f,.int .i64 p.e,.int .i64 p.l] 39)).alloc (.cells #[.int .i64 m.a,.int .i64 m.s,.int .i64 m.r,.int .i64 m.c,.int .i64 m.f,.int .i64 m.e,.int .i64 m.l] 39)) (w.heap.size+1) m.a m.s m.r m.c m.f m.e m.l from by
  have hh:=heap_alloc_new (w.alloc (.cells #[.int .i64 p.a,.int .i64 p.s,.int .i64 p.r,.int .i64 p.c,.int .i64 p.f,.int .i64 p.e,.int .i64 p.l] 39)) (.cells #[.int .i64 m.a,.int .i64 m.s,.int .i64 m.r,.int .i64 m.c,.int .i64 m.f,.int .i64 m.e,.int .i64 m.l] 39)
  rw[show(w.alloc (.cells #[.int .i64 p.a,.int .i64 p.s,.int .i64 p.r,.int .i64 p.c,.int .i64 p.f,.int .i64 p.e,.int .i64 p.l] 39)).heap.size=w.heap.size+1 by simp] at hh
  exact hh)
 unfold mv magg
 generalize folB p m=r at *
 obtain⟨pa,ps,pr,pc,pf,pe,pl⟩:=p
 obtain⟨ma,ms,mr,mc,mf,me,ml⟩:=m
 unfold mv magg rg at HS
 dsimp only at *
 have HF:=Lib.hid hfol
 have HP:=Lib.hid hp'
 have HK:=Lib.hid (And.intro hp hm)
 clear hfol hp'
 go_enter Tryz.func83, Tryz.ntmps83
 go_wp2_with fail
 generalize (w.alloc (.cells #[.int .i64 pa,.int .i64 ps,.int .i64 pr,.int .i64 pc,.int .i64 pf,.int .i64 pe,.int .i64 pl] 39)).alloc (.cells #[.int .i64 ma,.int .i64 ms,.int .i64 mr,.int .i64 mc,.int .i64 mf,.int .i64 me,.int .i64 ml] 39)=w2 at *
 have l1:=M1.out.lt
 have l2:=M2.out.lt
 have a0:∀q:Bw w2,q.to.cell? ⟨w.heap.size,0,none⟩=some (.int .i64 pa):=fun q=>q.cell l1 M1.out.c0
 have a1:∀q:Bw w2,q.to.cell? ⟨w.heap.size,1,none⟩=some (.int .i64 ps):=fun q=>q.cell l1 M1.out.c1
 have a2:∀q:Bw w2,q.to.cell? ⟨w.heap.size,2,none⟩=some (.int .i64 pr):=fun q=>q.cell l1 M1.out.c2
 have a3:∀q:Bw w2,q.to.cell? ⟨w.heap.size,3,none⟩=some (.int .i64 pc):=fun q=>q.cell l1 M1.out.c3
 have a4:∀q:Bw w2,q.to.cell? ⟨w.heap.size,4,none⟩=some (.int .i64 pf):=fun q=>q.cell l1 M1.out.c4
 have a5:∀q:Bw w2,q.to.cell? ⟨w.heap.size,5,none⟩=some (.int .i64 pe):=fun q=>q.cell l1 M1.out.c5
 have a6:∀q:Bw w2,q.to.cell? ⟨w.heap.size,6,none⟩=some (.int .i64 pl):=fun q=>q.cell l1 M1.out.c6
 have b0:∀q:Bw w2,q.to.cell? ⟨w.heap.size+1,0,none⟩=some (.int .i64 ma):=fun q=>q.cell l2 M2.out.c0
 have b4:∀q:Bw w2,q.to.cell? ⟨w.heap.size+1,4,none⟩=some (.int .i64 mf):=fun q=>q.cell l2 M2.out.c4
 have b5:∀q:Bw w2,q.to.cell? ⟨w.heap.size+1,5,none⟩=some (.int .i64 me):=fun q=>q.cell l2 M2.out.c5
 have s1:IntKind.i64.wrap ((pa:Int)+(ps:Int))=(pa:Int)+ps:=by rw[IntKind.wrap_i64];omega
 obtain⟨hi,hhi⟩:∃hi:Int,((pf+(pc-1):Nat):Int)=hi:=⟨_,rfl⟩
 rw[hhi] at HS
 have s2:IntKind.i64.wrap (hi+1)=hi+1:=by rw[IntKind.wrap_i64];omega
 have hh2:hi+1=pf+pc:=by omega
 clear hhi hp hm
 have hff:∀q:Bw w2,Sem.run Tryz.prog (Instr.field 175 (.agg #[.int .i64 (pf:Int),.int .i64 hi]) 1) q.to=.ok (.int .i64 hi) q.to:=fun q=>run_hi q.to _ _
 by_cases h1:ma=pa+ps
 ·have t1:((ma:Int)==(pa:Int)+ps)=true:=by rw[beq_iff_eq];omega
  by_cases h2:mf=pf+pc
  ·have t2:((mf:Int)==hi+1)=true:=by rw[beq_iff_eq];omega
   by_cases h3:pl<=me
   ·have HR:=Lib.hid (show true=r from(HF.out.2 ⟨h1,h2,h3⟩).symm)
    have t3:(pl:Int)<=(me:Int):=by omega
    clear h1 h2 h3 hh2
    refine wp_region_quiet_below (by assumption) (by kernel_rfl) ?_
    repeat (first|go_big_quiet_skip|quiet_step (first|(go_at_call 112;refine below_of (HS.out _))))
    refine wpQuiet_nil ?_
    intro _ hw'
    obtain⟨q,rfl⟩:=hw'
    go_wp2_with fail
    go_ret
    exact⟨by rw[<-HR.out];rfl,HB.out.trans (q.h.mono HB.out.size)⟩
   ·have HR:=Lib.hid (show false=r by rcases r with _|_;rfl;exact absurd (HF.out.1 rfl).2.2 h3)
    have t3: ¬ (pl:Int)<=(me:Int):=by omega
    clear h1 h2 h3 hh2
    refine wp_region_quiet_below (by assumption) (by kernel_rfl) ?_
    repeat (first|go_big_quiet_skip|quiet_step (first|(go_at_call 112;refine below_of (HS.out _))))
    refine wpQuiet_nil ?_
    intro _ hw'
    obtain⟨q,rfl⟩:=hw'
    go_wp2_with fail
    go_ret
    exact⟨by rw[<-HR.out];rfl,HB.out.trans (q.h.mono HB.out.size)⟩
  ·have t2:((mf:Int)==hi+1)=false:=by rw[beq_eq_false_iff_ne];omega
   have HR:=Lib.hid (show false=r by rcases r with _|_;rfl;exact absurd (HF.out.1 rfl).2.1 h2)
   clear h1 h2 hh2
   refine wp_region_quiet_below (by assumption) (by kernel_rfl) ?_
   repeat (first|go_big_quiet_skip|quiet_step (first|(go_at_call 112;refine below_of (HS.out _))))
   refine wpQuiet_nil ?_
   intro _ hw'
   obtain⟨q,rfl⟩:=hw'
   go_wp2_with fail
   go_ret
   exact⟨by rw[<-HR.out];rfl,HB.out.trans (q.h.mono HB.out.size)⟩
 ·have t1:((ma:Int)==(pa:Int)+ps)=false:=by rw[beq_eq_false_iff_ne];omega
  have HR:=Lib.hid (show false=r by rcases r with _|_;rfl;exact absurd (HF.out.1 rfl).1 h1)
  clear h1 hh2
  refine wp_region_quiet_below (by assumption) (by kernel_rfl) ?_
  repeat (first|go_big_quiet_skip|quiet_step (fail))
  refine wpQuiet_nil ?_
  intro _ hw'
  obtain⟨q,rfl⟩:=hw'
  go_wp2_with fail
  go_ret
  exact⟨by rw[<-HR.out];rfl,HB.out.trans (q.h.mono HB.out.size)⟩
end Sn
end Go.Proofs.YtlnbjikooadmoaaGreat
