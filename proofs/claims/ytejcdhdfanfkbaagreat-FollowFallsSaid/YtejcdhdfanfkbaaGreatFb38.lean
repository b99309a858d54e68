/- frame.frames$1: it gives the frames that stand one behind the other. -/
import Derived.Test.YtejcdhdfanfkbaaGreatFb22
import Derived.Test.YtejcdhdfanfkbaaGreatFb37
import Derived.Sort.LoopGhostIn
namespace Go.Proofs.YtejcdhdfanfkbaaGreat
namespace Fm
open Go.RowKit Go.Shelf Cr Rg
section
variable {F:Fence} {n:Nat} {P:Program} {ops:Array Oper} {rest:List Oper} {op:Oper} {a:Act} {w:World} {Q:Exit->Act->World->Prop}
theorem wpListIn_alloc_zero (hgd:op.guard=none) (t:TypeId) (ho:op.op=.alloc t) (z:Value) (k:Nat) (hz:(P.info? t).map (fun i=>(i.zero,i.size))=some (some z,k))
  (h:wpListIn F n P ops Q rest (a.put op.dst (.pointer (some ⟨w.heap.size,0,none⟩))) (w.alloc (.cells z.cells t))):wpListIn F n P ops Q (op::rest) a w:=by
 refine wpListIn_plain hgd fun K hK=>?_
 have hz1:=(zero_of_info hz).1 w;unfold Oper.wpIn;refine⟨?_,?_⟩
 ·simp[Oper.about,ho]
 ·rw[Oper.semAt_plain F _ _ (by rw[ho];intro c hc';cases hc')]
  simp only[execOp,ho,Instr.alloc,Sem.run_bind,hz1,Result.andThen_ok];exact hK _ _ h
theorem wpListIn_store_new (w0:World) (c:Array Value) (hgd:op.guard=none) (t:TypeId) (x y:Operand) (ho:op.op=.store t x y) (z:Array Value) (hx:a.eval x=.pointer (some ⟨w0.heap.size,0,none⟩)) (hy:a.eval y=.agg z)
  (hi:(P.info? t).map (·.size)=some z.size) (hc:c.size=z.size) (h1:z.all (·.oneCell')=true)
  (h:wpListIn F n P ops Q rest (a.put op.dst undef) (w0.alloc (.cells z t))):wpListIn F n P ops Q (op::rest) a (w0.alloc (.cells c t)):=by
 refine wpListIn_plain hgd fun K hK=>?_
 unfold Oper.wpIn;refine⟨?_,?_⟩
 ·simp[Oper.about,ho]
 ·rw[Oper.semAt_plain F _ _ (by rw[ho];intro c hc';cases hc')]
  simp only[execOp,ho,hx,hy,Instr.storeAt,Instr.sureAddr,Sem.run_bind,Sem.run_pure,Result.andThen_ok,run_storeVar_new w0 t c z hi hc h1];exact hK _ _ h
end
abbrev Fr:=Nat×ByteArray×Nat×Nat
def fr (s:ByteArray) (p:Nat):Fr:=(by4 s.data.toList p,fbody s p,p,fto s p)
def fv (x:Fr):Value:=fagg x.1 x.2.1 x.2.2.1 x.2.2.2
theorem GF_to {s:ByteArray} {p:Nat} (h:GF s p):p+9<=fto s p/\fto s p<=s.size:=by
 have:=h.2.2.2.1;unfold fto fn;omega
def frs (s:ByteArray) (p:Nat):List Fr:=if _h:GF s p then fr s p::frs s (fto s p) else[]
termination_by s.size-p
decreasing_by have:=GF_to _h;omega
theorem frs_yes {s:ByteArray} {p:Nat} (h:GF s p):frs s p=fr s p::frs s (fto s p):=by rw[frs,dif_pos h]
theorem frs_no {s:ByteArray} {p:Nat} (h: ¬ GF s p):frs s p=[]:=by rw[frs,dif_neg h]
def One (w:World) (b:Nat) (v:Value) (t:TypeId):Prop:=w.heap[b]? =some (.cells #[v] t (0,0))
theorem One.cell {w:World} {b:Nat} {v:Value} {t:TypeId} (h:One w b v t):w.cell? ⟨b,0,none⟩=some v:=by rw[cell_of_row w b 0 _ _ (0,0) h];rfl
theorem One.fz {w:World} {b:Nat} {v:Value} {t:TypeId} (h:One w b v t):w.frozen? ⟨b,0,none⟩=false:=frozen_of_row w b 0 _ _ h
theorem One.lt {w:World} {b:Nat} {v:Value} {t:TypeId} (h:One w b v t):b<w.heap.size:=(Array.getElem?_eq_some_iff.1 h).1
theorem One.below {w w':World} {b B:Nat} {v:Value} {t:TypeId} (h:One w b v t) (hb:Below B w w') (hB:b<B):One w' b v t:=(hb.block b hB).trans h
theorem One.set {w:World} {b:Nat} {v:Value} {t:TypeId} (h:One w b v t) (u:Value):One (w.setCell ⟨b,0,none⟩ u) b u t:=by
 unfold One at *;simp[World.setCell,Array.getElem?_modify,h]
theorem One.far {w:World} {b g j:Nat} {v:Value} {t:TypeId} (h:One w b v t) (hn:b≠g) (u:Value):One (w.setCell ⟨g,j,none⟩ u) b v t:=(Below.heap_setCell w ⟨g,j,none⟩ u b hn).trans h
theorem One.ks {w w':World} {b:Nat} {v:Value} {t:TypeId} {S:Nat->Prop} (h:One w b v t) (hk:Ks S w w') (hS:S b):One w' b v t:=hk.same _ _ h rfl hS
theorem grown_one (W:World) (b:Nat) (v:Value):W.grownBy (W.setCell ⟨b,0,none⟩ v) (some b):=by
 refine⟨rfl,rfl,rfl,by simp,fun k _ hk=>?_⟩;exact Below.heap_setCell W ⟨b,0,none⟩ v k (by rintro rfl;exact hk rfl)
theorem grown_below {W W':World} {r:Option Nat} (h:Below W.heap.size W W'):W.grownBy W' r:=⟨h.os,h.tape,h.output,h.size,fun k hk _=>h.block k hk⟩
set_option maxHeartbeats 6400000 in
set_option maxRecDepth 100000 in
theorem frames1_gives (n bs ba:Nat) (s:ByteArray) (p:Nat) (w:World) (hs:s.size<=1000000) (hp:p<=1000000)
  (cs:One w bs (.string s) 9) (ca:One w ba (.int .i64 (p:Int)) 3) (hne:bs≠ba) :
  Gives Fence.wide n Tryz.prog 269 #[.pointer (some ⟨bs,0,none⟩),.pointer (some ⟨ba,0,none⟩)] fv (fun k=>k=bs∨k=ba) ba (frs s p) w:=by
 intro l J W hW hJ hY h0;have hz:(Tryz.prog.info? 192).map (fun i=>(i.zero,i.size))=some (some (.agg (Array.replicate 256 (.int .u32 0))),256):=by kernel_rfl
 have hsz:(Tryz.prog.info? 192).map (·.size)=some 256:=by kernel_rfl
 have HZ:=Lib.hid hz;have HSI:=Lib.hid hsz;have HTL:=Lib.hid (show TB.size=256 by unfold TB;rw[List.size_toArray,length_vu,length_n256]);have HT1:=Lib.hid (show TB.all (·.oneCell')=true from all_oneCell_toArray (vu_one _));have HT:=Lib.hid (table_any W);have HJb:=Lib.hid (fun(pre:List Fr) (S:Nat->Prop) (W1 W2:World) (h:J pre S W1) (hb:Below W1.heap.size W1 W2)=>hJ pre S S W1 W2 h (grown_below hb) (fun _ h=>.inl h));have HJ:=Lib.hid hJ;have HY:=Lib.hid hY;have H0:=Lib.hid (And.intro h0 (And.intro (cs.below hW cs.lt) (ca.below hW ca.lt)));clear hz hsz hJ hY h0 cs ca hW;refine callsIn_of_wp Tryz.func269 rfl trivial ?_ rfl;simp only[Tryz.ntmps269,List.size_toArray,List.length_cons,List.length_nil,Nat.reduceAdd,Nat.reduceSub,Array.replicate_succ,Array.replicate_zero,List.push_toArray,List.append_toArray,List.nil_append,List.cons_append]
 gi_wp2_with fail
 refine⟨trivial,(fun h=>by cases h),(callsIn_wide.2 HT.out).mono ?_⟩;rintro e1 w1 ⟨rfl,hb1⟩;have H1:=Lib.hid (And.intro (HJb.out _ _ _ _ H0.out.1 hb1) (And.intro (H0.out.2.1.below hb1 H0.out.2.1.lt) (H0.out.2.2.below hb1 H0.out.2.2.lt)));have HB2:=Lib.hid (ext_alloc w1 (.cells TB 192));have H2:=Lib.hid (And.intro (HJ.out _ _ (fun k=>k=bs∨k=ba∨k=w1.heap.size) _ _ H1.out.1 (grown_below HB2.out) (by rintro k (h|h|h);exact .inl (.inl h);exact .inl (.inr h);exact .inr (by subst h;simp))) (And.intro (H1.out.2.1.below HB2.out H1.out.2.1.lt) (And.intro (H1.out.2.2.below HB2.out H1.out.2.2.lt) (tb_row w1))));clear hb1 HT H0 H1 HB2;generalize TB=Z at *
 gi_wp2_with (first|(refine wpListIn_alloc_zero rfl 192 rfl _ _ HZ.out ?_)|(refine wpListIn_store_new w1 (Array.replicate 256 (.int .u32 0)) rfl 192 (.tmp 4) (.tmp 7) rfl Z (by simp[go_sem,Act.eval]) (by simp[go_sem,Act.eval]) (by rw[HTL.out];exact HSI.out) (by rw[HTL.out];simp) HT1.out ?_))
 obtain⟨T,hT⟩:∃T,T=w1.heap.size:=⟨_,rfl⟩
 rw[<-hT] at H2 ⊢;generalize w1.alloc (.cells Z 192)=w2 at *
 clear hT;simp only[Act.put,List.setIfInBounds_toArray,List.set_cons_zero,List.set_cons_succ]
 gi_loopg [] (s.size+2) (fun kx wr=>∃(q:Nat) (pre:List Fr),q<=1000000/\s.size+1-q<kx/\Hid (frs s p=pre++frs s q/\J pre (fun k=>k=bs∨k=ba∨k=T) wr/\One wr bs (.string s) 9/\One wr ba (.int .i64 (q:Int)) 3/\Au wr T (n256 tb)))
 case atStart=>exact⟨p,[],by omega,by omega,Lib.hid ⟨rfl,H2.out.1,H2.out.2.1,H2.out.2.2.1,H2.out.2.2.2⟩⟩
 case round =>
  clear H2;obtain⟨q,pre,hq,hkx,H⟩:=hrel;have hc1:=H.out.2.2.1.cell;have hc2:=H.out.2.2.2.1.cell;have HG:=Lib.hid (get_any T s q wr H.out.2.2.2.2 hs (by omega))
  gi_wp2_with fail
  refine⟨trivial,(fun h=>by cases h),(callsIn_wide.2 HG.out).mono ?_⟩;rintro e3 w3 ⟨ha,hb3⟩;have hT3:T<w3.heap.size:=Nat.lt_of_lt_of_le H.out.2.2.2.2.lt hb3.size;have H3:=Lib.hid (And.intro (HJb.out _ _ _ _ H.out.2.1 hb3) (And.intro (H.out.2.2.1.below hb3 H.out.2.2.1.lt) (And.intro (H.out.2.2.2.1.below hb3 H.out.2.2.2.1.lt) (H.out.2.2.2.2.below hb3 H.out.2.2.2.2.lt))));have HE:=Lib.hid H.out.1;clear hb3 HG H hc1 hc2;rcases ha with ⟨hgf,rfl⟩|⟨hgf,x,hx,rfl⟩
  ·have hto:=GF_to hgf
   have HX:=Lib.hid (show frs s p=pre++fr s q::frs s (fto s q) by rw[HE.out,frs_yes hgf]);have hb4:=ext_alloc w3 (.cells #[.int .i64 ((by4 s.data.toList q:Nat):Int),.string (fbody s q),.int .i64 (q:Int),.int .i64 ((fto s q:Nat):Int)] 139);have H4:=Lib.hid (And.intro (HJ.out _ _ (fun k=>k=bs∨k=ba∨k=T∨k=w3.heap.size) _ _ H3.out.1 (grown_below hb4) (by rintro k (h|h|h|h);exact .inl (.inl h);exact .inl (.inr (.inl h));exact .inl (.inr (.inr h));exact .inr (by subst h;simp))) (And.intro (H3.out.2.1.below hb4 H3.out.2.1.lt) (And.intro (H3.out.2.2.1.below hb4 H3.out.2.2.1.lt) (And.intro (H3.out.2.2.2.below hb4 H3.out.2.2.2.lt) (show Fb _ w3.heap.size _ _ _ _ from heap_alloc_new w3 (.cells #[.int .i64 ((by4 s.data.toList q:Nat):Int),.string (fbody s q),.int .i64 (q:Int),.int .i64 ((fto s q:Nat):Int)] 139))))));obtain⟨fnn,tmps,assign,body,hy,hR⟩:=HY.out pre (fr s q) (frs s (fto s q)) _ _ HX.out H4.out.1;have HR:=Lib.hid hR;dsimp only[fv,fr,fagg] at hy;unfold fagg;clear hb4 hgf H3 hR
   gi_wp2_with fail
   refine⟨(fun h=>by cases h),HR.out.mono ?_⟩;rintro e5 w5 ⟨rfl,hJ5,hk5⟩;have hs5:=H4.out.2.1.ks hk5 (.inl rfl);have ha5:=H4.out.2.2.1.ks hk5 (.inr (.inl rfl));have ht5:Au w5 T (n256 tb):=⟨hk5.same _ _ H4.out.2.2.2.1.1 rfl (.inr (.inr (.inl rfl))),H4.out.2.2.2.1.2⟩
   have hf5:Fb w5 w3.heap.size _ _ _ _:=hk5.same _ _ H4.out.2.2.2.2 rfl (.inr (.inr (.inr rfl)));have hc3:=hf5.c3;have hcA:=ha5.cell;have hfA:=ha5.fz;have hTba:T≠ba:=by
    rintro rfl;have h1:=ha5;have h2:=ht5.1;unfold One at h1;rw[h1] at h2;simp at h2
   have H5:=Lib.hid (And.intro (HJ.out _ _ (fun k=>k=bs∨k=ba∨k=T) _ _ hJ5 (grown_one w5 ba (.int .i64 ((fto s q:Nat):Int))) (by rintro k (h|h|h);exact .inl (.inl h);exact .inl (.inr (.inl h));exact .inl (.inr (.inr (.inl h))))) (And.intro (hs5.far (j:=0) hne (.int .i64 ((fto s q:Nat):Int))) (And.intro (ha5.set (.int .i64 ((fto s q:Nat):Int))) (show Au (w5.setCell ⟨ba,0,none⟩ (.int .i64 ((fto s q:Nat):Int))) T (n256 tb) from⟨(Below.heap_setCell w5 ⟨ba,0,none⟩ _ T hTba).trans ht5.1,ht5.2⟩))));have HX2:=Lib.hid (show frs s p=(pre++[fr s q])++frs s (fto s q) by rw[HX.out];simp);clear hJ5 hk5 hs5 ha5 ht5 hf5 hTba H4 HR HX HE hy
   gi_wp2_with fail
   gi_roundg (s.size+1-fto s q+1)
   case measure=>omega
   case rel=>exact⟨fto s q,pre++[fr s q],by omega,by omega,Lib.hid ⟨HX2.out,H5.out⟩⟩
  ·have HX:=Lib.hid (show frs s p=pre by rw[HE.out,frs_no hgf,List.append_nil])
   have hb4:=ext_alloc w3 (.cells #[.int .i64 0,.string ⟨#[]⟩,.int .i64 0,.int .i64 0] 139);have H4:=Lib.hid (HJb.out _ _ _ _ H3.out.1 hb4);have hxb:(x != 0)=true:=by simp[hx]
   unfold fagg;clear hb4 hgf H3
   gi_wp2_with fail
   refine⟨(fun _ h=>by cases h),?_⟩
   gi_wp2_with fail
   refine bodyPost_ret (results_none rfl _ _ _) rfl ?_;exact⟨⟨_,rfl⟩,_,by rw[HX.out];exact H4.out⟩
end Fm
end Go.Proofs.YtejcdhdfanfkbaaGreat
