/- slices.Contains of texts. A range over an iterator that turns a variable of its own; the body never leaves the loop. frame.frames$1: it gives the frames that stand one behind the other. -/
import Derived.Test.YtphfmgapiimliaaGreatSc13
import Derived.Deep.LoopGhost
import Derived.Test.YtphfmgapiimliaaGreatRows
import Derived.RangeFuncNested
import Derived.RangeFuncBound
import Derived.RangeFuncCalls
import Derived.RangeFuncLeaves
import Derived.Shelf.Abstract
import Derived.Shelf.RegionOpen
import Derived.WalkKit
import Derived.OwnWalkIn
import Derived.TacticsInMore
import Derived.LoopNIn
import Derived.LoopIn
import Derived.Sort.LoopGhostIn
namespace Go.Proofs.YtphfmgapiimliaaGreat
namespace Dk
open Go.RowKit Sn
def txv (l:List ByteArray):List Value:=l.map Value.string
def atT (l:List ByteArray) (x:ByteArray):Int:=match l.findIdx? (fun y=>decide (y=x)) with|none=> -1|some k=>k
def inT (x:ByteArray) (l:List ByteArray):Bool:=l.any fun y=>decide (y=x)
theorem inT_iff {x:ByteArray} {l:List ByteArray}:inT x l=true↔x∈l:=by
 unfold inT;rw[List.any_eq_true]
 constructor
 ·rintro ⟨y,hy,e⟩
  rwa [<-of_decide_eq_true e]
 ·exact fun h=>⟨x,h,decide_eq_true rfl⟩
theorem inT_no {x:ByteArray} {l:List ByteArray} (h:x∉l):inT x l=false:=by
 rcases e:inT x l with _|_
 ·rfl
 ·exact absurd (inT_iff.1 e) h
theorem atT_no {l:List ByteArray} {x:ByteArray} (h:∀y∈l,y≠x):atT l x= -1:=by
 unfold atT;rw[List.findIdx?_eq_none_iff.2 (by intro y hy;simpa using h y hy)]
theorem atT_yes {l:List ByteArray} {x:ByteArray} {k:Nat} (h:l[k]? =some x) (hb:∀j y,j<k->l[j]? =some y->y≠x):atT l x=k:=by
 unfold atT;obtain⟨hk,hx⟩:=List.getElem?_eq_some_iff.1 h;rw[(List.findIdx?_eq_some_iff_getElem (p:=fun y=>decide (y=x))).2 ⟨hk,by simpa using hx,fun j hj=>by
  have:=hb j l[j] hj (List.getElem?_eq_getElem (by omega));simpa using this⟩]
theorem atT_mem (l:List ByteArray) (x:ByteArray):0<=atT l x↔x∈l:=by
 unfold atT;rcases h:l.findIdx? (fun y=>decide (y=x)) with _|k
 ·rw[List.findIdx?_eq_none_iff] at h
  simp only[decide_eq_false_iff_not] at h
  constructor
  ·intro hh;exact absurd hh (by decide)
  ·intro hm;exact absurd rfl (h x hm)
 ·obtain⟨hk,hx,-⟩:=List.findIdx?_eq_some_iff_getElem.1 h
  simp only[decide_eq_true_eq] at hx
  constructor
  ·intro _;rw[<-hx];exact List.getElem_mem hk
  ·intro _;simp only;omega
set_option maxHeartbeats 1600000 in
theorem index_any (A:Option Addr) (n c:Nat) (l:List ByteArray) (x:ByteArray) (w:World) (hrd:Rd w w.heap.size 1 A n (txv l)) (hn:n<=1000000) :
  Calls Tryz.prog 181 #[.slice A n c,.string x] w fun e w'=>e=.returned (.int .i64 (atT l x))/\Below w.heap.size w w':=by
 have mixed:Tryz.prog.follows .mixedOrders=true:=by kernel_rfl
 have hln:l.length=n:=by have:=hrd.len;simpa[txv] using this
 have HR:=Lib.hid hrd;have HLN:=Lib.hid hln;clear hrd hln
 go_enter Tryz.func181, Tryz.ntmps181
 go_wp2_with fail
 go_loopw [8] (fun v wr=>∃k:Nat,v=.int .i64 (k:Int)/\k<=n/\Hid ((∀j y,j<k->l[j]? =some y->y≠x)/\Below w.heap.size w wr)) (fun v _=>n-(intOf v).toNat)
 case atStart=>exact⟨0,by go_num,by omega,Lib.hid ⟨fun j y h=>absurd h (by omega),Below.refl _ _⟩⟩
 case round =>
  obtain⟨k,rfl,hk,HX⟩:=hrel;by_cases hkn:k<n
  ·obtain⟨ad,u,hA,hbk,hx,hc⟩:=(HR.out.below HX.out.2).at1 hkn
   obtain⟨y,hy,rfl⟩:∃y,l[k]? =some y/\Value.string y=u:=by
    unfold txv at hx;rw[List.getElem?_map] at hx;rcases hf:l[k]? with _|y
    ·rw[hf] at hx;cases hx
    ·rw[hf] at hx
     exact⟨y,rfl,by simpa using hx⟩
   have HB:=Lib.hid HX.out.2;subst hA;have hki:(k:Int)<(n:Int):=by omega
   by_cases hyx:y=x
   ·have HE:=Lib.hid (show atT l x=(k:Int) from atT_yes (hyx▸hy) HX.out.1)
    have hxy:(x.toList==y.toList)=true:=beqL x y (decide_eq_true hyx.symm);clear hx hy hbk HX hyx;go_wp2_with fail
    go_ret
    exact⟨by rw[HE.out];rfl,HB.out⟩
   ·have HN:=Lib.hid (show ∀j z,j<k+1->l[j]? =some z->z≠x from fun j z hj hz=>by
     rcases Nat.lt_or_ge j k with h|h
     ·exact HX.out.1 j z h hz
     ·obtain rfl:j=k:=by omega
      rw[hy] at hz;cases hz;exact hyx)
    have hxy:(x.toList==y.toList)=false:=beqL x y (decide_eq_false fun e=>hyx e.symm);clear hx hy hbk HX hyx;go_wp2_with fail
    go_roundw
    ·exact⟨k+1,by go_num,by omega,Lib.hid ⟨HN.out,HB.out⟩⟩
    ·simp[intOf];omega
  ·obtain rfl:k=n:=by omega
   have HE:=Lib.hid (show atT l x= -1 from atT_no fun y hy=>by
    obtain⟨j,hj,rfl⟩:=List.getElem_of_mem hy;exact HX.out.1 j _ (by rw[<-HLN.out];exact hj) (List.getElem?_eq_getElem hj))
   have HB:=Lib.hid HX.out.2;clear HX;go_wp2_with fail
   go_ret
   exact⟨by rw[HE.out];rfl,HB.out⟩
set_option maxHeartbeats 1600000 in
theorem contains_any (A:Option Addr) (n c:Nat) (l:List ByteArray) (x:ByteArray) (w:World) (hrd:Rd w w.heap.size 1 A n (txv l)) (hn:n<=1000000) :
  Calls Tryz.prog 131 #[.slice A n c,.string x] w fun e w'=>e=.returned (.bool (inT x l))/\Below w.heap.size w w':=by
 have HI:=Lib.hid (index_any A n c l x w hrd hn);obtain⟨k,hk⟩:∃k,atT l x=k:=⟨_,rfl⟩
 have hm:=atT_mem l x;rw[hk] at HI hm;clear hrd hn hk;by_cases h0:x∈l
 ·rw[inT_iff.2 h0]
  have hk0:=hm.2 h0;clear hm h0
  go_enter Tryz.func131, Tryz.ntmps131
  go_wp2_with (go_at_call 181;refine HI.out.mono ?_;rintro e1 w1 ⟨rfl,hb1⟩;have HB1:=Lib.hid hb1;clear hb1)
  go_ret
  exact⟨by simp,HB1.out⟩
 ·rw[inT_no h0]
  have hk0: ¬ 0<=k:=fun h=>h0 (hm.1 h)
  clear hm h0
  go_enter Tryz.func131, Tryz.ntmps131
  go_wp2_with (go_at_call 181;refine HI.out.mono ?_;rintro e1 w1 ⟨rfl,hb1⟩;have HB1:=Lib.hid hb1;clear hb1)
  go_ret
  exact⟨by simpa using hk0,HB1.out⟩
end Dk
end Go.Proofs.YtphfmgapiimliaaGreat
namespace Go.Proofs.YtphfmgapiimliaaGreat
namespace Rg
open Go.RowKit Go.Shelf
variable {F:Fence} {n:Nat} {P:Program}
structure Ks (S:Nat->Prop) (W W':World):Prop where
 size:W.heap.size<=W'.heap.size
 same:∀k o,W.heap[k]? =some o->o.isCells=true->S k->W'.heap[k]? =some o
theorem Ks.trans {S:Nat->Prop} {A B C:World} (h:Ks S A B) (k:Ks S B C):Ks S A C:=⟨Nat.le_trans h.size k.size,fun i o hi ho hS=>k.same i o (h.same i o hi ho hS) ho hS⟩
theorem Ks.putObj {S:Nat->Prop} {W:World} {l:Nat} {o:Obj} (o':Obj) (h:W.heap[l]? =some o) (ho:o.isCells=false):Ks S W (W.putObj l o'):=by
 refine⟨(grownBy_putObj' W l o').size,fun k p hk hp _=>?_⟩;rw[World.putObj_heap_other (by rintro rfl;rw[h] at hk;cases hk;rw[ho] at hp;cases hp)];exact hk
def Gives {α:Type} (F:Fence) (n:Nat) (P:Program) (g:Nat) (lb:Array Value) (enc:α->Value) (R:Nat->Prop) (b:Nat) (xs:List α) (w:World):Prop :=
 ∀(l:Nat) (J:List α->(Nat->Prop)->World->Prop) (W:World),Below w.heap.size w W ->
  (∀pre S S' W1 W2,J pre S W1->W1.grownBy W2 (some b)->(∀k,S' k->S k∨W1.heap.size<=k/\k<W2.heap.size)->J pre S' W2) ->
  (∀pre x rest S W1,xs=pre++x::rest->J pre S W1->YieldAt F (n-1) P l #[enc x] W1 fun e W'=>e=.returned (.bool true)/\J (pre++[x]) S W'/\Ks S W1 W') ->
  J [] R W ->
  CallsIn F n P g (#[.func (.yield l) #[] #[]]++lb) W fun e W'=>(∃v,e=.returned v)/\ ∃S,J xs S W'
theorem wpIn_range_own {α:Type} {g:Operand} {p:Tmp} {assign body:Code} {Q:Exit->Act->World->Prop} {a:Act} {w:World}
  (hro:F.round=none) (h1:1<=n) {gf:Nat} {lb:Array Value} (hg:a.eval g=.func (.func gf) #[] lb) (hFg:F.fn gf) (eg:∀args w,(callFunc gf args).run P w=.ok (.enter gf args) w)
  {enc:α->Value} {R:Nat->Prop} {b:Nat} {xs:List α} (hb:b<w.heap.size) (hseq:Gives F (n-1) P gf lb enc R b xs w)
  (I:List α->(Nat->Prop)->World->Prop) (hI:∀pre S S' W W' row,I pre S W->W.grownBy W' row->(∀r,row=some r->r=b∨w.heap.size<=r/\ ∃o:Obj,W.heap[r]? =some o/\o.isCells=false) ->
   (∀k,S' k->S k∨W.heap.size<=k/\k<W'.heap.size)->I pre S' W')
  (h0:I [] R w) (Ax:List α->α->(Nat->Prop)->Act->World->Prop)
  (hAx:∀pre x S a' W W' row,Ax pre x S a' W->W.grownBy W' row->(∀r,row=some r->r=b∨w.heap.size<=r/\ ∃o:Obj,W.heap[r]? =some o/\o.isCells=false)->Ax pre x S a' W')
  (hassign:∀(l:Nat) (pre:List α) (x:α) (rest:List α) (S:Nat->Prop) (W:World),xs=pre++x::rest->I pre S W ->
   assign.wpIn (F.inRound l) (n-1-1) P (Exit.then (fun a' W'=>KeepsOthers W W'/\Ks S W W'/\Ax pre x S a' W') (fun _ _ _=>False)) { tmps:=(#[p].zip #[enc x]).foldl (fun t (p,v)=>t.setIfInBounds p v) a.tmps,defers:=[] } W)
  (hbody:∀(l:Nat) (pre:List α) (x:α) (rest:List α) (S:Nat->Prop) (a':Act) (W:World),xs=pre++x::rest->Ax pre x S a' W ->
   body.wpIn (F.inRound l) (n-1-1) P (fun e _ W'=>e=.normal/\KeepsOthers W W'/\Ks S W W'/\I (pre++[x]) S W') a' W)
  (hdone:∀(D:Nat) (S:Nat->Prop) (W:World),w.heap.size<=D->I xs S W->W.heap[D]? =some (.deferred (some []))->Q .normal { a with defers:={ target:=.collected D,args:=#[] }::a.defers } W) :
  (Code.rangeFunc g #[p] assign body).wpIn F n P Q a w:=by
 refine wpIn_rangeFunc ?_;intro fn hfn;rw[hro];obtain⟨rec,hrec⟩:∃rec:LoopState->Option Code->Loop,rec=fun st pe=>{ state:=st,pending:=pe,fn,tmps:=a.tmps,params:=#[p],assign,body,defers:=w.heap.size }:=⟨_,rfl⟩
 obtain⟨W1,hW1⟩:∃W1,(w.alloc (.deferred (some []))).alloc (.loop (rec .ready none))=W1:=⟨_,rfl⟩
 have hL1:W1.heap[w.heap.size+1]? =some (.loop (rec .ready none)):=by
  rw[<-hW1];have:=World.alloc_heap_new (w.alloc (.deferred (some []))) (.loop (rec .ready none));rwa [World.size_alloc] at this
 have hK1:W1.heap[w.heap.size]? =some (.deferred (some [])):=by
  rw[<-hW1];exact(Below.heap_alloc _ _ _ (by simp)).trans (World.alloc_heap_new w _)
 have hIa:∀pre S W o,I pre S W->I pre S (W.alloc o):=fun pre S W o h=>hI pre S S W _ none h (World.grownBy_alloc W o none) (fun r e=>by cases e) (fun _ h=>.inl h)
 have hIp:∀pre S W l (o o':Obj),I pre S W->w.heap.size<=l->W.heap[l]? =some o->o.isCells=false->I pre S (W.putObj l o'):=fun pre S W l o o' h hl ho hc =>
  hI pre S S W _ (some l) h (grownBy_putObj' W l o') (fun r e=>by cases e;exact .inr ⟨hl,o,ho,hc⟩) (fun _ h=>.inl h)
 have hI1:I [] R W1:=by rw[<-hW1];exact hIa _ _ _ _ (hIa _ _ _ _ h0)
 have hb1:Below w.heap.size w W1:=by
  rw[<-hW1];exact((Below.refl _ w).alloc (Nat.le_refl _) _).alloc (by simp) _
 refine⟨w.heap.size+1,[{ target:=.collected w.heap.size,args:=#[] }],W1,{ target:=.fn (.func gf) lb,args:=#[.func (.yield (w.heap.size+1)) #[] #[]] },W1,gf,
  #[.func (.yield (w.heap.size+1)) #[] #[]]++lb,W1,?_,?_,?_,?_,fun _=>h1,?_⟩
 ·rw[<-hW1,hrec];exact run_enterLoop_outer _ _ _ _ _
 ·simp only[resolve,hg]
  simp[go_sem]
 ·intro f' hf';simp[Target.leads] at hf';subst hf';exact hFg
 ·simp[invoke,go_sem,eg]
 ·have hst:∀{A B:World} {k:Nat} {o:Obj},A.grownBy B (some b)->w.heap.size<=k->A.heap[k]? =some o->B.heap[k]? =some o:=fun hgr hk ho =>
   (hgr.block _ (Array.getElem?_eq_some_iff.1 ho).1 (by intro e;cases e;omega)).trans ho
  refine(hseq (w.heap.size+1)
   (fun pre S W=>I pre S W/\W.heap[w.heap.size+1]? =some (.loop (rec .ready none))/\W.heap[w.heap.size]? =some (.deferred (some [])))
   W1 hb1 (fun pre S S' A B hs hgr hS=>⟨hI pre S S' A B _ hs.1 hgr (fun r e=>by cases e;exact .inl rfl) hS,hst hgr (by omega) hs.2.1,hst hgr (by omega) hs.2.2⟩) ?_ ⟨hI1,hL1,hK1⟩).mono ?_
  ·rintro pre x rest S W hxs ⟨hi,hl,hk⟩
   have hlt:w.heap.size+1<W.heap.size:=(Array.getElem?_eq_some_iff.1 hl).1;have hy:=run_yield (P:=P) (args:=#[enc x]) hl (by rw[hrec];rfl);rw[hrec] at hy;refine⟨fn,_,assign,body,hy,roundIn_of_wpIn hfn (wpIn_mono (hassign (w.heap.size+1) pre x rest S W hxs hi) ?_)⟩;rintro e a' W' hp;cases e with
   |normal =>
    obtain⟨hk0,hkc0,hax⟩:=hp;have hl0:=hk0.same _ _ hl rfl;have hk00:=hk0.same _ _ hk rfl;have hlt0:w.heap.size+1<W'.heap.size:=(Array.getElem?_eq_some_iff.1 hl0).1;refine⟨_,run_beginRound hl0 (by rw[hrec]),?_⟩;have hl2:(W'.putObj (w.heap.size+1) (.loop { rec .ready none with state:=.busy })).heap[w.heap.size+1]? =some (.loop { rec .ready none with state:=.busy }):=World.putObj_heap_same hlt0;have hk2:(W'.putObj (w.heap.size+1) (.loop { rec .ready none with state:=.busy })).heap[w.heap.size]? =some (.deferred (some [])):=(World.putObj_heap_other (by omega)).trans hk00;have hw2:Ks S W (W'.putObj (w.heap.size+1) (.loop { rec .ready none with state:=.busy })):=hkc0.trans (Ks.putObj _ hl0 rfl);refine wpIn_mono (hbody _ pre x rest S a' _ hxs (hAx _ _ _ _ _ _ (some (w.heap.size+1)) hax (grownBy_putObj' _ _ _) (fun r e=>by cases e;exact .inr ⟨by omega,_,hl0,rfl⟩))) ?_;rintro e a3 W3 ⟨rfl,hk3,hkp3,hi3⟩;have hl3:=hk3.same _ _ hl2 rfl;have hr:=run_endRound (P:=P) none hl3;rw[hrec] at hr hl3;refine⟨_,_,hr,rfl,⟨hIp _ _ _ _ _ _ hi3 (by omega) hl3 rfl,?_,(World.putObj_heap_other (by omega)).trans (hk3.same _ _ hk2 rfl)⟩,(hw2.trans hkp3).trans (Ks.putObj _ hl3 rfl)⟩;rw[hrec];exact World.putObj_heap_same (Array.getElem?_eq_some_iff.1 hl3).1
   |ret=>exact hp.elim
   |exit id=>exact hp.elim
   |goto t=>exact hp.elim
   |panic ch=>exact hp.elim
   |outgrown=>exact hp.elim
  ·rintro e W2 ⟨⟨v,rfl⟩,S,hi,hl,hk⟩
   exact⟨none,_,by have:=run_endLoop (P:=P) hl (by rw[hrec];simp);rw[hrec] at this;exact this,hdone _ S _ (Nat.le_refl _) (hIp _ _ _ _ _ _ hi (by omega) hl rfl) ((World.putObj_heap_other (by omega)).trans hk)⟩
end Rg
end Go.Proofs.YtphfmgapiimliaaGreat
namespace Go.Proofs.YtphfmgapiimliaaGreat
namespace Fm
open Go.RowKit Go.Shelf Cr Rg
section
variable {F:Fence} {n:Nat} {P:Program} {ops:Array Oper} {rest:List Oper} {op:Oper} {a:Act} {w:World} {Q:Exit->Act->World->Prop}
theorem wpListIn_alloc_zero (hgd:op.guard=none) (t:TypeId) (ho:op.op=.alloc t) (z:Value) (k:Nat) (hz:(P.info? t).map (fun i=>(i.zero,i.size))=some (some z,k))
  (h:wpListIn F n P ops Q rest (a.put op.dst (.pointer (some ⟨w.heap.size,0,none⟩))) (w.alloc (.cells z.cells t))):wpListIn F n P ops Q (op::rest) a w:=by
 refine wpListIn_plain hgd fun K hK=>?_
 have hz1:=(zero_of_info hz).1 w;unfold Oper.wpIn;refine⟨?_,?_⟩
 ·simp[Oper.about,ho]
 ·rw[Oper.semAt_plain F _ _ (by rw[ho];intro c hc';cases hc')]
  simp only[execOp,ho,Instr.alloc,Sem.run_bind,hz1,Result.andThen_ok];exact hK _ _ h
theorem wpListIn_store_new (w0:World) (c:Array Value) (hgd:op.guard=none) (t:TypeId) (x y:Operand) (ho:op.op=.store t x y) (z:Array Value) (hx:a.eval x=.pointer (some ⟨w0.heap.size,0,none⟩)) (hy:a.eval y=.agg z)
  (hi:(P.info? t).map (·.size)=some z.size) (hc:c.size=z.size) (h1:z.all (·.oneCell')=true)
  (h:wpListIn F n P ops Q rest (a.put op.dst undef) (w0.alloc (.cells z t))):wpListIn F n P ops Q (op::rest) a (w0.alloc (.cells c t)):=by
 refine wpListIn_plain hgd fun K hK=>?_
 unfold Oper.wpIn;refine⟨?_,?_⟩
 ·simp[Oper.about,ho]
 ·rw[Oper.semAt_plain F _ _ (by rw[ho];intro c hc';cases hc')]
  simp only[execOp,ho,hx,hy,Instr.storeAt,Instr.sureAddr,Sem.run_bind,Sem.run_pure,Result.andThen_ok,run_storeVar_new w0 t c z hi hc h1];exact hK _ _ h
end
abbrev Fr:=Nat×ByteArray×Nat×Nat
def fr (s:ByteArray) (p:Nat):Fr:=(by4 s.data.toList p,fbody s p,p,fto s p)
def fv (x:Fr):Value:=fagg x.1 x.2.1 x.2.2.1 x.2.2.2
theorem GF_to {s:ByteArray} {p:Nat} (h:GF s p):p+9<=fto s p/\fto s p<=s.size:=by
 have:=h.2.2.2.1;unfold fto fn;omega
def frs (s:ByteArray) (p:Nat):List Fr:=if _h:GF s p then fr s p::frs s (fto s p) else[]
termination_by s.size-p
decreasing_by have:=GF_to _h;omega
theorem frs_yes {s:ByteArray} {p:Nat} (h:GF s p):frs s p=fr s p::frs s (fto s p):=by rw[frs,dif_pos h]
theorem frs_no {s:ByteArray} {p:Nat} (h: ¬ GF s p):frs s p=[]:=by rw[frs,dif_neg h]
def One (w:World) (b:Nat) (v:Value) (t:TypeId):Prop:=w.heap[b]? =some (.cells #[v] t (0,0))
theorem One.cell {w:World} {b:Nat} {v:Value} {t:TypeId} (h:One w b v t):w.cell? ⟨b,0,none⟩=some v:=by rw[cell_of_row w b 0 _ _ (0,0) h];rfl
theorem One.fz {w:World} {b:Nat} {v:Value} {t:TypeId} (h:One w b v t):w.frozen? ⟨b,0,none⟩=false:=frozen_of_row w b 0 _ _ h
theorem One.lt {w:World} {b:Nat} {v:Value} {t:TypeId} (h:One w b v t):b<w.heap.size:=(Array.getElem?_eq_some_iff.1 h).1
theorem One.below {w w':World} {b B:Nat} {v:Value} {t:TypeId} (h:One w b v t) (hb:Below B w w') (hB:b<B):One w' b v t:=(hb.block b hB).trans h
theorem One.set {w:World} {b:Nat} {v:Value} {t:TypeId} (h:One w b v t) (u:Value):One (w.setCell ⟨b,0,none⟩ u) b u t:=by
 unfold One at *;simp[World.setCell,Array.getElem?_modify,h]
theorem One.far {w:World} {b g j:Nat} {v:Value} {t:TypeId} (h:One w b v t) (hn:b≠g) (u:Value):One (w.setCell ⟨g,j,none⟩ u) b v t:=(Below.heap_setCell w ⟨g,j,none⟩ u b hn).trans h
theorem One.ks {w w':World} {b:Nat} {v:Value} {t:TypeId} {S:Nat->Prop} (h:One w b v t) (hk:Ks S w w') (hS:S b):One w' b v t:=hk.same _ _ h rfl hS
theorem grown_one (W:World) (b:Nat) (v:Value):W.grownBy (W.setCell ⟨b,0,none⟩ v) (some b):=by
 refine⟨rfl,rfl,rfl,by simp,fun k _ hk=>?_⟩;exact Below.heap_setCell W ⟨b,0,none⟩ v k (by rintro rfl;exact hk rfl)
theorem grown_below {W W':World} {r:Option Nat} (h:Below W.heap.size W W'):W.grownBy W' r:=⟨h.os,h.tape,h.output,h.size,fun k hk _=>h.block k hk⟩
set_option maxHeartbeats 6400000 in
set_option maxRecDepth 100000 in
theorem frames1_gives (n bs ba:Nat) (s:ByteArray) (p:Nat) (w:World) (hs:s.size<=1000000) (hp:p<=1000000)
  (cs:One w bs (.string s) 9) (ca:One w ba (.int .i64 (p:Int)) 3) (hne:bs≠ba) :
  Gives Fence.wide n Tryz.prog 234 #[.pointer (some ⟨bs,0,none⟩),.pointer (some ⟨ba,0,none⟩)] fv (fun k=>k=bs∨k=ba) ba (frs s p) w:=by
 intro l J W hW hJ hY h0;have hz:(Tryz.prog.info? 217).map (fun i=>(i.zero,i.size))=some (some (.agg (Array.replicate 256 (.int .u32 0))),256):=by kernel_rfl
 have hsz:(Tryz.prog.info? 217).map (·.size)=some 256:=by kernel_rfl
 have HZ:=Lib.hid hz;have HSI:=Lib.hid hsz;have HTL:=Lib.hid (show TB.size=256 by unfold TB;rw[List.size_toArray,length_vu,length_n256]);have HT1:=Lib.hid (show TB.all (·.oneCell')=true from all_oneCell_toArray (vu_one _));have HT:=Lib.hid (table_any W);have HJb:=Lib.hid (fun(pre:List Fr) (S:Nat->Prop) (W1 W2:World) (h:J pre S W1) (hb:Below W1.heap.size W1 W2)=>hJ pre S S W1 W2 h (grown_below hb) (fun _ h=>.inl h));have HJ:=Lib.hid hJ;have HY:=Lib.hid hY;have H0:=Lib.hid (And.intro h0 (And.intro (cs.below hW cs.lt) (ca.below hW ca.lt)));clear hz hsz hJ hY h0 cs ca hW;refine callsIn_of_wp Tryz.func234 rfl trivial ?_ rfl;simp only[Tryz.ntmps234,List.size_toArray,List.length_cons,List.length_nil,Nat.reduceAdd,Nat.reduceSub,Array.replicate_succ,Array.replicate_zero,List.push_toArray,List.append_toArray,List.nil_append,List.cons_append]
 gi_wp2_with fail
 refine⟨trivial,(fun h=>by cases h),(callsIn_wide.2 HT.out).mono ?_⟩;rintro e1 w1 ⟨rfl,hb1⟩;have H1:=Lib.hid (And.intro (HJb.out _ _ _ _ H0.out.1 hb1) (And.intro (H0.out.2.1.below hb1 H0.out.2.1.lt) (H0.out.2.2.below hb1 H0.out.2.2.lt)));have HB2:=Lib.hid (ext_alloc w1 (.cells TB 217));have H2:=Lib.hid (And.intro (HJ.out _ _ (fun k=>k=bs∨k=ba∨k=w1.heap.size) _ _ H1.out.1 (grown_below HB2.out) (by rintro k (h|h|h);exact .inl (.inl h);exact .inl (.inr h);exact .inr (by subst h;simp))) (And.intro (H1.out.2.1.below HB2.out H1.out.2.1.lt) (And.intro (H1.out.2.2.below HB2.out H1.out.2.2.lt) (tb_row w1))));clear hb1 HT H0 H1 HB2;generalize TB=Z at *
 gi_wp2_with (first|(refine wpListIn_alloc_zero rfl 217 rfl _ _ HZ.out ?_)|(refine wpListIn_store_new w1 (Array.replicate 256 (.int .u32 0)) rfl 217 (.tmp 4) (.tmp 7) rfl Z (by simp[go_sem,Act.eval]) (by simp[go_sem,Act.eval]) (by rw[HTL.out];exact HSI.out) (by rw[HTL.out];simp) HT1.out ?_))
 obtain⟨T,hT⟩:∃T,T=w1.heap.size:=⟨_,rfl⟩
 rw[<-hT] at H2 ⊢;generalize w1.alloc (.cells Z 217)=w2 at *
 clear hT;simp only[Act.put,List.setIfInBounds_toArray,List.set_cons_zero,List.set_cons_succ]
 gi_loopg [] (s.size+2) (fun kx wr=>∃(q:Nat) (pre:List Fr),q<=1000000/\s.size+1-q<kx/\Hid (frs s p=pre++frs s q/\J pre (fun k=>k=bs∨k=ba∨k=T) wr/\One wr bs (.string s) 9/\One wr ba (.int .i64 (q:Int)) 3/\Au wr T (n256 tb)))
 case atStart=>exact⟨p,[],by omega,by omega,Lib.hid ⟨rfl,H2.out.1,H2.out.2.1,H2.out.2.2.1,H2.out.2.2.2⟩⟩
 case round =>
  clear H2;obtain⟨q,pre,hq,hkx,H⟩:=hrel;have hc1:=H.out.2.2.1.cell;have hc2:=H.out.2.2.2.1.cell;have HG:=Lib.hid (get_any T s q wr H.out.2.2.2.2 hs (by omega))
  gi_wp2_with fail
  refine⟨trivial,(fun h=>by cases h),(callsIn_wide.2 HG.out).mono ?_⟩;rintro e3 w3 ⟨ha,hb3⟩;have hT3:T<w3.heap.size:=Nat.lt_of_lt_of_le H.out.2.2.2.2.lt hb3.size;have H3:=Lib.hid (And.intro (HJb.out _ _ _ _ H.out.2.1 hb3) (And.intro (H.out.2.2.1.below hb3 H.out.2.2.1.lt) (And.intro (H.out.2.2.2.1.below hb3 H.out.2.2.2.1.lt) (H.out.2.2.2.2.below hb3 H.out.2.2.2.2.lt))));have HE:=Lib.hid H.out.1;clear hb3 HG H hc1 hc2;rcases ha with ⟨hgf,rfl⟩|⟨hgf,x,hx,rfl⟩
  ·have hto:=GF_to hgf
   have HX:=Lib.hid (show frs s p=pre++fr s q::frs s (fto s q) by rw[HE.out,frs_yes hgf]);have hb4:=ext_alloc w3 (.cells #[.int .i64 ((by4 s.data.toList q:Nat):Int),.string (fbody s q),.int .i64 (q:Int),.int .i64 ((fto s q:Nat):Int)] 177);have H4:=Lib.hid (And.intro (HJ.out _ _ (fun k=>k=bs∨k=ba∨k=T∨k=w3.heap.size) _ _ H3.out.1 (grown_below hb4) (by rintro k (h|h|h|h);exact .inl (.inl h);exact .inl (.inr (.inl h));exact .inl (.inr (.inr h));exact .inr (by subst h;simp))) (And.intro (H3.out.2.1.below hb4 H3.out.2.1.lt) (And.intro (H3.out.2.2.1.below hb4 H3.out.2.2.1.lt) (And.intro (H3.out.2.2.2.below hb4 H3.out.2.2.2.lt) (show Fb _ w3.heap.size _ _ _ _ from heap_alloc_new w3 (.cells #[.int .i64 ((by4 s.data.toList q:Nat):Int),.string (fbody s q),.int .i64 (q:Int),.int .i64 ((fto s q:Nat):Int)] 177))))));obtain⟨fnn,tmps,assign,body,hy,hR⟩:=HY.out pre (fr s q) (frs s (fto s q)) _ _ HX.out H4.out.1;have HR:=Lib.hid hR;dsimp only[fv,fr,fagg] at hy;unfold fagg;clear hb4 hgf H3 hR
   gi_wp2_with fail
   refine⟨(fun h=>by cases h),HR.out.mono ?_⟩;rintro e5 w5 ⟨rfl,hJ5,hk5⟩;have hs5:=H4.out.2.1.ks hk5 (.inl rfl);have ha5:=H4.out.2.2.1.ks hk5 (.inr (.inl rfl));have ht5:Au w5 T (n256 tb):=⟨hk5.same _ _ H4.out.2.2.2.1.1 rfl (.inr (.inr (.inl rfl))),H4.out.2.2.2.1.2⟩
   have hf5:Fb w5 w3.heap.size _ _ _ _:=hk5.same _ _ H4.out.2.2.2.2 rfl (.inr (.inr (.inr rfl)));have hc3:=hf5.c3;have hcA:=ha5.cell;have hfA:=ha5.fz;have hTba:T≠ba:=by
    rintro rfl;have h1:=ha5;have h2:=ht5.1;unfold One at h1;rw[h1] at h2;simp at h2
   have H5:=Lib.hid (And.intro (HJ.out _ _ (fun k=>k=bs∨k=ba∨k=T) _ _ hJ5 (grown_one w5 ba (.int .i64 ((fto s q:Nat):Int))) (by rintro k (h|h|h);exact .inl (.inl h);exact .inl (.inr (.inl h));exact .inl (.inr (.inr (.inl h))))) (And.intro (hs5.far (j:=0) hne (.int .i64 ((fto s q:Nat):Int))) (And.intro (ha5.set (.int .i64 ((fto s q:Nat):Int))) (show Au (w5.setCell ⟨ba,0,none⟩ (.int .i64 ((fto s q:Nat):Int))) T (n256 tb) from⟨(Below.heap_setCell w5 ⟨ba,0,none⟩ _ T hTba).trans ht5.1,ht5.2⟩))));have HX2:=Lib.hid (show frs s p=(pre++[fr s q])++frs s (fto s q) by rw[HX.out];simp);clear hJ5 hk5 hs5 ha5 ht5 hf5 hTba H4 HR HX HE hy
   gi_wp2_with fail
   gi_roundg (s.size+1-fto s q+1)
   case measure=>omega
   case rel=>exact⟨fto s q,pre++[fr s q],by omega,by omega,Lib.hid ⟨HX2.out,H5.out⟩⟩
  ·have HX:=Lib.hid (show frs s p=pre by rw[HE.out,frs_no hgf,List.append_nil])
   have hb4:=ext_alloc w3 (.cells #[.int .i64 0,.string ⟨#[]⟩,.int .i64 0,.int .i64 0] 177);have H4:=Lib.hid (HJb.out _ _ _ _ H3.out.1 hb4);have hxb:(x != 0)=true:=by simp[hx]
   unfold fagg;clear hb4 hgf H3
   gi_wp2_with fail
   refine⟨(fun _ h=>by cases h),?_⟩
   gi_wp2_with fail
   refine bodyPost_ret (results_none rfl _ _ _) rfl ?_;exact⟨⟨_,rfl⟩,_,by rw[HX.out];exact H4.out⟩
end Fm
end Go.Proofs.YtphfmgapiimliaaGreat
