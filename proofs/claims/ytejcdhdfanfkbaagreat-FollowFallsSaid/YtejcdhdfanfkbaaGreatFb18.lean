/- disk: a change is done, and kept in mind. disk: changed. disk: changed, Create, New. disk: New, Create. -/
import Derived.Test.YtejcdhdfanfkbaaGreatFb17
import Derived.Deep.RegionLaw
import Derived.Test.YtejcdhdfanfkbaaGreatFb09
import Derived.Test.YtejcdhdfanfkbaaGreatFb02
namespace Go.Proofs.YtejcdhdfanfkbaaGreat
namespace Dk
open Go.RowKit
section
variable {w w':World} {S:Nat->Prop} {bd gN gS:Nat} {v:Value} {D:DS}
theorem ch3_one (c:ByteArray×ByteArray×Option Nat):∀u∈ch3 c,u.oneCell'=true:=by
 obtain⟨a,b,f⟩:=c;intro u hu;unfold ch3 at hu;simp only[List.mem_cons,List.not_mem_nil,or_false] at hu;rcases hu with rfl|rfl|rfl
 ·rfl
 ·rfl
 ·rcases f with _|f<;>rfl
theorem step_append_chg {ops:Array Oper} {o:Oper} {a:Act} {K:Act->World->Prop} {Q:Exit->Act->World->Prop} {E:Prop} {w0:World} {v:Value} {l:List (ByteArray×ByteArray×Option Nat)} (s x:Operand) (c:ByteArray×ByteArray×Option Nat)
  (hgd:o.guard=none) (ho:o.op=.call { callee:=.builtin .append,args:=#[s,x],argTypes:=#[118,118] })
  (hown:w0.ownsRow 0 129 3 v l.length (chl l)) (hl:l.length<=1000000) (hs:a.eval s=v) (hx:a.eval x=.slice (some ⟨w0.heap.size,0,none⟩) 1 1)
  (h:∀g cap w',w'.ownsRow 0 129 3 (.slice (some ⟨g,0,none⟩) (l.length+1) cap) (l.length+1) (chl (l++[c]))->w0.grownBy w' v.ownBlock->(v.ownBlock=some g∨w0.heap.size<=g)->K (a.put o.dst (.slice (some ⟨g,0,none⟩) (l.length+1) cap)) w') :
  if Region.wanted o (yielded ops a.tmps)=true then Oper.wp Tryz.prog o a ((w0.alloc (.cells #[.string c.1,.string c.2.1,chv c.2.2] 129)).drew) K Q else E:=by
 obtain⟨i0,hi,hz0,hz1,hz2⟩:=info_parts chg_info;refine step_append_lies ((w0.alloc (.cells #[.string c.1,.string c.2.1,chv c.2.2] 129)).drew) hgd s x 118 ho 0 129 i0 (.agg #[.string ⟨#[]⟩,.string ⟨#[]⟩,.pointer none]) 3 40 Tryz.underlying118 hi hz0 hz1 hz2 rfl (by omega) v l.length (chl l) hs (World.ownsRow.alloc hown _)
  ⟨w0.heap.size,0,none⟩ 1 1 (ch3 c) hx rfl ?_ (ch3_one c) (by omega) (by simp only[maxLen];omega) (by omega) (Nat.zero_le _) _ rfl ?_
 ·intro j u hu
  rw[Addr.add_lit,Nat.zero_add];show(w0.alloc _).cell? _=_
  rw[World.cell?_alloc_new];simpa[ch3] using hu
 have hg0:w0.grownBy (w0.alloc (.cells #[.string c.1,.string c.2.1,chv c.2.2] 129)).drew v.ownBlock:=have h:=World.grownBy_alloc w0 (.cells #[.string c.1,.string c.2.1,chv c.2.2] 129) v.ownBlock;⟨h.os,h.tape,h.output,h.size,h.block⟩;intro g cap w' hown' hg hat hlt;refine h g cap w' ?_ (hg0.trans hg) ?_
 ·rw[chl_append,show chl [c]=ch3 c from List.append_nil _];exact hown'
 ·rcases hat with e|e
  ·exact .inl e
  ·exact .inr (by rw[e];simp)
theorem Dat.change (h:Dat w S bd gN gS v D) (c:ByteArray×ByteArray×Option Nat) (hf:∀b,c.2.2=some b->D.fl b≠none) (hn:(app c D.now).length<=200) {w2 w3:World} {g cap:Nat}
  (hm:Mp w2 gN (vs (app c D.now))) (hg:w.grownBy w2 (some gN)) (hown:w3.ownsRow 0 129 3 (.slice (some ⟨g,0,none⟩) (D.chg.length+1) cap) (D.chg.length+1) (chl (D.chg++[c]))) (hg3:w2.grownBy w3 v.ownBlock) (hat:v.ownBlock=some g∨w2.heap.size<=g) :
  Dat (w3.setCell ⟨bd,2,none⟩ (.slice (some ⟨g,0,none⟩) (D.chg.length+1) cap)) (fun k=>S k∨k=g) bd gN gS (.slice (some ⟨g,0,none⟩) (D.chg.length+1) cap) (chgD c D) /\
  Gr S w (fun k=>S k∨k=g) (w3.setCell ⟨bd,2,none⟩ (.slice (some ⟨g,0,none⟩) (D.chg.length+1) cap)):=by
 have hgl:g<w3.heap.size:=by
  obtain⟨-,h2⟩:=hown;rcases h2 with ⟨h2,-⟩|⟨g',cap',cur,e,-,h4,-⟩
  ·cases h2
  ·cases e;exact(Array.getElem?_eq_some_iff.1 h4).1
 have s2:w.heap.size<=w2.heap.size:=hg.size;have s3:w2.heap.size<=w3.heap.size:=hg3.size;have hgne:g≠bd/\g≠gN/\g≠gS/\ ∀b p,D.fl b=some p->g≠b:=by
  rcases hat with e|e
  ·exact h.bC e
  ·have a1:=h.lt _ h.sB
   have a2:=h.lt _ h.sN;have a3:=h.lt _ h.sS;exact⟨by omega,by omega,by omega,fun b p hp=>by have:=h.lt _ (h.sF b p hp);omega⟩
 have hC:∀k,k<w.heap.size->k≠bd->k≠gN->v.ownBlock≠some k->(w3.setCell ⟨bd,2,none⟩ (.slice (some ⟨g,0,none⟩) (D.chg.length+1) cap)).heap[k]? =w.heap[k]? :=by
  intro k h0 h1 h2 h3;rw[Below.heap_setCell _ ⟨bd,2,none⟩ _ k h1,hg3.block k (by omega) (Ne.symm h3),hg.block k h0 (by intro e;cases e;exact h2 rfl)]
 have hvb:∀k,k=bd∨k=gN∨k=gS∨(∃p,D.fl k=some p)->v.ownBlock≠some k:=by
  intro k hk e;obtain⟨e1,e2,e3,e4⟩:=h.bC e;rcases hk with hk|hk|hk|⟨p,hp⟩
  ·exact e1 hk
  ·exact e2 hk
  ·exact e3 hk
  ·exact e4 k p hp rfl
 have hbox3:Blk w3 bd (dcells gN gS v D) 120:=(h.box.grown hg (by intro e;cases e;exact h.bN rfl)).grown hg3 (hvb bd (.inl rfl));refine⟨⟨?_,?_,?_,?_,?_,h.ne,.inl h.sB,.inl h.sN,.inl h.sS,fun k hk=>.inr (by simpa[Value.ownBlock] using hk.symm),fun b p hp=>.inl (h.sF b p hp),?_,?_⟩,⟨?_,?_,?_,by simp;omega,?_,?_⟩⟩
 ·exact hbox3.put 2 _
 ·refine hm.same ?_
  rw[Below.heap_setCell _ ⟨bd,2,none⟩ _ gN h.bN,hg3.block gN hm.lt (Ne.symm (hvb gN (.inr (.inl rfl))))]
 ·exact h.safe.same (hC gS (h.lt _ h.sS) h.bS (Ne.symm h.ne) (hvb gS (.inr (.inr (.inl rfl)))))
 ·show World.ownsRow _ 0 _ 3 _ (D.chg++[c]).length (chl (D.chg++[c]))
  rw[List.length_append,List.length_singleton];refine own_block hown fun k hk=>?_
  have:k=g:=by simpa[Value.ownBlock] using hk.symm
  subst this;rw[Below.heap_setCell _ ⟨bd,2,none⟩ _ k hgne.1]
 ·intro b p hp
  obtain⟨q1,q2,q3⟩:=h.bF hp;exact(hC b (h.lt _ (h.sF b p hp)) q1 q2 (hvb b (.inr (.inr (.inr ⟨p,hp⟩))))).trans (h.fl b p hp)
 ·intro k hk
  have:w3.heap.size=(w3.setCell ⟨bd,2,none⟩ (.slice (some ⟨g,0,none⟩) (D.chg.length+1) cap)).heap.size:=by simp
  rcases hk with hk|rfl
  ·have:=h.lt _ hk;omega
  ·omega
 ·have f:=h.fit
  refine⟨fun x hx=>?_,f.wfS,fun d hd b hb=>?_,f.cap0,f.cap1,f.arm0,f.arm1,f.ops,f.big,fun k=>?_,?_⟩
  ·rcases app_mem hx with e|e
   ·exact hf _ e
   ·exact f.wfN x e
  ·rcases List.mem_append.1 hd with hd|hd
   ·exact f.wfC d hd b hb
   ·rw[List.mem_singleton] at hd
    subst hd;exact hf b hb
  ·show(apps ((D.chg++[c]).take k) D.safe).length<=200
   by_cases hk:k<=D.chg.length
   ·rw[List.take_append_of_le_length hk];exact f.few k
   ·rw[List.take_of_length_le (by simp;omega)]
    unfold apps;rw[List.foldl_append];have:=f.run;unfold apps at this;rw[this];exact hn
  ·show apps (D.chg++[c]) D.safe=app c D.now
   have:=f.run;unfold apps at this ⊢;rw[List.foldl_append,this];rfl
 ·exact hg3.os.trans hg.os
 ·exact hg3.tape.trans hg.tape
 ·exact hg3.output.trans hg.output
 ·intro k hk hn
  exact hC k hk (by rintro rfl;exact hn h.sB) (by rintro rfl;exact hn h.sN) (fun e=>hn (h.sC k e))
 ·rintro k (hk|rfl)
  ·exact .inl hk
  ·rcases hat with e|e
   ·exact .inl (h.sC _ e)
   ·exact .inr (by omega)
end
end Dk
end Go.Proofs.YtejcdhdfanfkbaaGreat
namespace Go.Proofs.YtejcdhdfanfkbaaGreat
namespace Dk
open Go.RowKit
section
variable {w w':World} {S:Nat->Prop} {bd gN gS:Nat} {v:Value} {D:DS}
structure Cg (w:World) (S:Nat->Prop) (bd gN c5 bC bD:Nat) (c:ByteArray×ByteArray×Option Nat):Prop where
 v5:Blk w c5 #[.func (.func 63) #[.map (some gN)] #[]] 130
 vC:Blk w bC #[.string c.1,.string c.2.1,chv c.2.2] 129
 vD:Blk w bD #[.pointer (some ⟨bd,0,none⟩)] 57
 n5: ¬ S c5
 nC: ¬ S bC
 nD: ¬ S bD
theorem Cg.grown {c5 bC bD:Nat} {c:ByteArray×ByteArray×Option Nat} {row:Option Nat} (h:Cg w S bd gN c5 bC bD c) (hg:w.grownBy w' row) (hr:∀k,row=some k->S k):Cg w' S bd gN c5 bC bD c :=
 ⟨h.v5.grown hg fun e=>h.n5 (hr _ e),h.vC.grown hg fun e=>h.nC (hr _ e),h.vD.grown hg fun e=>h.nD (hr _ e),h.n5,h.nC,h.nD⟩
set_option maxHeartbeats 6400000 in
set_option maxRecDepth 100000 in
theorem changed1_any (h:Dat w S bd gN gS v D) {c5 bC bD:Nat} (c:ByteArray×ByteArray×Option Nat) (hc:Cg w S bd gN c5 bC bD c) (hf:∀b,c.2.2=some b->D.fl b≠none) (hn:(app c D.now).length<=200) (hl:D.chg.length<=1000000) :
  Calls Tryz.prog 156 #[.pointer (some ⟨c5,0,none⟩),.pointer (some ⟨bC,0,none⟩),.pointer (some ⟨bD,0,none⟩)] w fun e w'=>e=.returned (.tuple #[])/\ ∃S',DiskAt w' S' bd (chgD c D)/\Gr S w S' w':=by
 have mixed:Tryz.prog.follows .mixedOrders=true:=by kernel_rfl
 have HA:=Lib.hid (apply_any h.now c);have HH:=Lib.hid h;have HC:=Lib.hid hc;have HF:=Lib.hid hf;have HN:=Lib.hid hn;have HL:=Lib.hid hl;have c50:=hc.v5.cell 0 (v:=.func (.func 63) #[.map (some gN)] #[]) rfl;have cC0:=hc.vC.cell 0 (v:=.string c.1) rfl;have cC1:=hc.vC.cell 1 (v:=.string c.2.1) rfl;have cC2:=hc.vC.cell 2 (v:=chv c.2.2) rfl;have sN:=h.sN;clear h hc hf hn hl;unfold cagg at HA
 go_enter Tryz.func156, Tryz.ntmps156
 go_wp2_with (first
  |(go_at_call 63;refine HA.out.mono ?_;rintro e1 w1 ⟨rfl,hm1,hg1⟩;have HM1:=Lib.hid hm1;have HG1:=Lib.hid hg1;clear hm1 hg1))
 have HC1:=Lib.hid (HC.out.grown HG1.out (by intro k hk;cases hk;exact sN));have HB1:=Lib.hid (HH.out.box.grown HG1.out (by intro e;cases e;exact HH.out.bN rfl));have HO1:=Lib.hid (own_block (w':=w1) HH.out.chg fun g hg=>HG1.out.block g (HH.out.lt g (HH.out.sC g hg)) (by intro e;cases e;exact(HH.out.bC hg).2.1 rfl));have hvb:v.ownBlock≠some bd:=fun e=>(HH.out.bC e).1 rfl
 have HX:=Lib.hid (show ∀w5,w1.grownBy w5 v.ownBlock->w5.cell? ⟨bD,0,none⟩=some (.pointer (some ⟨bd,0,none⟩))/\w5.cell? ⟨bd,2,none⟩=some v/\w5.frozen? ⟨bd,2,none⟩=false from fun w5 hg =>
  ⟨(HC1.out.grown hg HH.out.sC).vD.cell 0 rfl,(HB1.out.grown hg hvb).cell 2 rfl,(HB1.out.grown hg hvb).fz 2⟩)
 clear hvb c50 cC0 cC1 cC2;have kD:=HC1.out.vD.cell 0 (v:=.pointer (some ⟨bd,0,none⟩)) rfl;have k2:=HB1.out.cell 2 (v:=v) rfl;have f2:=HB1.out.fz 2;have kC0:=HC1.out.vC.cell 0 (v:=.string c.1) rfl;have kC1:=HC1.out.vC.cell 1 (v:=.string c.2.1) rfl;have kC2:=HC1.out.vC.cell 2 (v:=chv c.2.2) rfl;have aD:=(HC1.out.vD.alloc (.cells #[.string c.1,.string c.2.1,chv c.2.2] 129)).cell 0 (v:=.pointer (some ⟨bd,0,none⟩)) rfl;have a2:=(HB1.out.alloc (.cells #[.string c.1,.string c.2.1,chv c.2.2] 129)).cell 2 (v:=v) rfl;go_region_law (refine step_append_chg (.tmp 10) (.tmp 12) c rfl rfl HO1.out HL.out (by simp[Act.eval]) (by simp[Act.eval]) ?_;intro g5 cap w5 hown5 hg5 hat5;have x0:=(HX.out w5 hg5).1;have x1:=(HX.out w5 hg5).2.1;have x2:=(HX.out w5 hg5).2.2)
 all_goals
  have HE:=Lib.hid (HH.out.change c HF.out HN.out HM1.out HG1.out hown5 hg5 hat5);clear hown5 hg5 hat5 x0 x1 x2;go_end0
  exact⟨rfl,_,⟨gN,gS,_,HE.out.1⟩,HE.out.2⟩
end
end Dk
end Go.Proofs.YtejcdhdfanfkbaaGreat
namespace Go.Proofs.YtejcdhdfanfkbaaGreat
namespace Dk
open Go.RowKit
section
variable {w w':World} {S:Nat->Prop} {bd gN gS:Nat} {v:Value} {D:DS}
theorem Cg.gr {c5 bC bD:Nat} {c:ByteArray×ByteArray×Option Nat} {S':Nat->Prop} (h:Cg w S bd gN c5 bC bD c) (hg:Gr S w S' w'):Cg w' S bd gN c5 bC bD c :=
 ⟨hg.blk h.v5 h.n5,hg.blk h.vC h.nC,hg.blk h.vD h.nD,h.n5,h.nC,h.nD⟩
theorem store_val {P:Program} {w:World} {a:Addr} {v old:Value} (h1:v.oneCell'=true) (hc:w.cell? a=some old) (hf:w.frozen? a=false):(store a v).run P w=.ok () (w.setCell a v):=by
 rw[run_store P w a v _ h1,hc];simp[hf]
theorem op_changed (h:Dat w S bd gN gS v D) {c5 bC bD:Nat} (c:ByteArray×ByteArray×Option Nat) (hc:Cg w S bd gN c5 bC bD c) (hf:∀b,c.2.2=some b->D.fl b≠none) (hn:(app c D.now).length<=200) (hl:D.chg.length<=1000000) :
  Calls Tryz.prog 109 #[.pointer (some ⟨bd,0,none⟩),.bool false,.func (.func 156) #[] #[.pointer (some ⟨c5,0,none⟩),.pointer (some ⟨bC,0,none⟩),.pointer (some ⟨bD,0,none⟩)]] w fun e w'=>e=.returned (.int .i64 (opE D))/\ ∃S',DiskAt w' S' bd (opS false (chgD c) D)/\Gr S w S' w' :=
 op_dat false 156 #[] #[.pointer (some ⟨c5,0,none⟩),.pointer (some ⟨bC,0,none⟩),.pointer (some ⟨bD,0,none⟩)] (chgD c) h (enters_of Tryz.func156 (by kernel_rfl) rfl)
  fun w1 h1 g1=>changed1_any h1 c (hc.gr g1) hf hn hl
set_option maxHeartbeats 3200000 in
set_option maxRecDepth 100000 in
theorem changed_any (h:DiskAt w S bd D) (c:ByteArray×ByteArray×Option Nat) (hf:∀b,c.2.2=some b->D.fl b≠none) (hn:(app c D.now).length<=200) (hl:D.chg.length<=1000000) :
  Calls Tryz.prog 106 #[.pointer (some ⟨bd,0,none⟩),cagg c] w fun e w'=>e=.returned (.int .i64 (opE D))/\ ∃S',DiskAt w' S' bd (opS false (chgD c) D)/\Gr S w S' w':=by
 obtain⟨gN,gS,v,h⟩:=h;have c0:=h.c0;have lb:=h.box.lt;have HO:=Lib.hid (show ∀wx,wx=((w.alloc (.cells #[.pointer (some ⟨bd,0,none⟩)] 57)).alloc (.cells #[.string c.1,.string c.2.1,chv c.2.2] 129)).alloc (.cells #[.func (.func 63) #[.map (some gN)] #[]] 130) ->
   Calls Tryz.prog 109 #[.pointer (some ⟨bd,0,none⟩),.bool false,.func (.func 156) #[] #[.pointer (some ⟨w.heap.size+1+1,0,none⟩),.pointer (some ⟨w.heap.size+1,0,none⟩),.pointer (some ⟨w.heap.size,0,none⟩)]] wx fun e w'=>e=.returned (.int .i64 (opE D))/\ ∃S',DiskAt w' S' bd (opS false (chgD c) D)/\Gr S w S' w' from by
  rintro wx rfl;have e3:=((ext_alloc w (.cells #[.pointer (some ⟨bd,0,none⟩)] 57)).trans ((ext_alloc (w.alloc (.cells #[.pointer (some ⟨bd,0,none⟩)] 57)) (.cells #[.string c.1,.string c.2.1,chv c.2.2] 129)).mono (by simp))).trans
   ((ext_alloc ((w.alloc (.cells #[.pointer (some ⟨bd,0,none⟩)] 57)).alloc (.cells #[.string c.1,.string c.2.1,chv c.2.2] 129)) (.cells #[.func (.func 63) #[.map (some gN)] #[]] 130)).mono (by simp;omega))
  refine(op_changed (h.ext e3) c ⟨?_,(blk_second _ _ _ _).alloc _,((Blk.new w _ _).alloc _).alloc _,h.gt (by omega),h.gt (by omega),h.gt (Nat.le_refl _)⟩ hf hn hl).mono ?_
  ·have:=blk_second (w.alloc (.cells #[.pointer (some ⟨bd,0,none⟩)] 57)) (.cells #[.string c.1,.string c.2.1,chv c.2.2] 129) #[.func (.func 63) #[.map (some gN)] #[]] 130
   rwa [show(w.alloc (.cells #[.pointer (some ⟨bd,0,none⟩)] 57)).heap.size+1=w.heap.size+1+1 from by simp] at this
  ·rintro e w' ⟨rfl,S',h2,g2⟩
   exact⟨rfl,S',h2,(Gr.of_below e3).trans g2⟩)
 have hV:=blk_second (w.alloc (.cells #[.pointer (some ⟨bd,0,none⟩)] 57)) (.cells #[.string c.1,.string c.2.1,chv c.2.2] 129) #[.nilFunc] 130;rw[show(w.alloc (.cells #[.pointer (some ⟨bd,0,none⟩)] 57)).heap.size+1=w.heap.size+1+1 from by simp] at hV;have d1:=store_val (P:=Tryz.prog) (v:=.func (.func 63) #[.map (some gN)] #[]) rfl (hV.cell 0 (v:=.nilFunc) rfl) (hV.fz 0);clear h hf hn hl hV;unfold cagg
 go_enter Tryz.func106, Tryz.ntmps106
 go_wp2_with (go_at_call 109;refine(HO.out _ rfl).mono ?_;rintro e5 w5 ⟨rfl,S5,hD5,hG5⟩;have HD5:=Lib.hid hD5;have HG5:=Lib.hid hG5;clear hD5 hG5)
 go_ret
 exact⟨rfl,S5,HD5.out,HG5.out⟩
end
end Dk
end Go.Proofs.YtejcdhdfanfkbaaGreat
namespace Go.Proofs.YtejcdhdfanfkbaaGreat
namespace Dk
open Go.RowKit
section
variable {w w':World} {S:Nat->Prop} {bd gN gS:Nat} {v:Value} {D:DS}
theorem Dat.newF (h:Dat w S bd gN gS v D):Dat (w.alloc (.cells #[.string ⟨#[]⟩,.string ⟨#[]⟩] 133)) (fun k=>S k∨k=w.heap.size) bd gN gS v (setF w.heap.size (⟨#[]⟩,⟨#[]⟩) D):=by
 have h':=h.ext (ext_alloc w (.cells #[.string ⟨#[]⟩,.string ⟨#[]⟩] 133));have hn:∀k,D.fl k≠none->(setF w.heap.size (⟨#[]⟩,⟨#[]⟩) D).fl k≠none:=by
  intro k hk;unfold setF;dsimp only;split
  ·simp
  ·exact hk
 have hc:∀k p,(setF w.heap.size (⟨#[]⟩,⟨#[]⟩) D).fl k=some p->(k=w.heap.size/\p=(⟨#[]⟩,⟨#[]⟩))∨D.fl k=some p:=by
  intro k p hk;unfold setF at hk;dsimp only at hk;split at hk
  ·cases hk;exact .inl ⟨‹_›,rfl⟩
  ·exact .inr hk
 refine⟨h'.box,h'.now,h'.safe,h'.chg,fun b p hp=>?_,h.ne,.inl h.sB,.inl h.sN,.inl h.sS,fun g hg=>.inl (h.sC g hg),fun b p hp=>?_,fun b hb=>?_,?_⟩
 ·rcases hc b p hp with ⟨rfl,rfl⟩|hp
  ·exact Blk.new w _ _
  ·exact h'.fl b p hp
 ·rcases hc b p hp with ⟨rfl,rfl⟩|hp
  ·exact .inr rfl
  ·exact .inl (h.sF b p hp)
 ·rcases hb with hb|rfl
  ·exact h'.lt b hb
  ·simp
 ·have f:=h.fit
  refine⟨fun x hx=>hn _ (f.wfN x hx),fun x hx=>hn _ (f.wfS x hx),fun c hc b hb=>hn _ (f.wfC c hc b hb),f.cap0,f.cap1,f.arm0,f.arm1,f.ops,fun b p hp=>?_,f.few,f.run⟩;rcases hc b p hp with ⟨rfl,rfl⟩|hp
  ·exact⟨Nat.zero_le _,Nat.zero_le _⟩
  ·exact f.big b p hp
def newD (cap:Int):DS:=⟨[],[],[],fun _=>none,cap,0,0,false⟩
theorem new_at (cap:Int) (w:World) (h0:0<=cap) (h1:cap<=10000000):∃bd,Ending.returned (.tuple #[.pointer (some ⟨w.heap.size+1+1,0,none⟩),.int .i64 0])=.returned (.tuple #[.pointer (some ⟨bd,0,none⟩),.int .i64 0])/\ ∃S',
  DiskAt (((w.alloc (.map #[] 0)).alloc (.map #[] 0)).alloc (.cells #[.map (some w.heap.size),.map (some (w.heap.size+1)),.slice none 0 0,.int .i64 cap,.int .i64 0,.int .i64 0,.bool false,.bool true] 120)) S' bd (newD cap) /\
  Gr (fun _=>False) w S' (((w.alloc (.map #[] 0)).alloc (.map #[] 0)).alloc (.cells #[.map (some w.heap.size),.map (some (w.heap.size+1)),.slice none 0 0,.int .i64 cap,.int .i64 0,.int .i64 0,.bool false,.bool true] 120)):=by
 have s1:(w.alloc (.map #[] 0)).heap.size=w.heap.size+1:=by simp
 have s2:((w.alloc (.map #[] 0)).alloc (.map #[] 0)).heap.size=w.heap.size+1+1:=by simp
 have m1:((w.alloc (.map #[] 0)).alloc (.map #[] 0)).heap[w.heap.size+1]? =some (.map #[] 0):=by
  have:=heap_alloc_new (w.alloc (.map #[] 0)) (.map #[] 0)
  rwa [s1] at this
 have m0:((w.alloc (.map #[] 0)).alloc (.map #[] 0)).heap[w.heap.size]? =some (.map #[] 0) :=
  (Below.heap_alloc (w.alloc (.map #[] 0)) _ w.heap.size (by omega)).trans (heap_alloc_new w (.map #[] 0))
 have e3:∀o k,k<w.heap.size+1+1->(((w.alloc (.map #[] 0)).alloc (.map #[] 0)).alloc o).heap[k]? =((w.alloc (.map #[] 0)).alloc (.map #[] 0)).heap[k]? :=fun o k hk=>Below.heap_alloc ((w.alloc (.map #[] 0)).alloc (.map #[] 0)) o k (by omega)
 have nl:∀(wx:World) (g:Nat),wx.heap[g]? =some (.map #[] 0)->Mp wx g (vs []):=fun wx g h=>⟨#[],0,h,⟨by simp,by simp,by simp⟩,rfl⟩
 refine⟨w.heap.size+1+1,rfl,fun k=>w.heap.size<=k/\k<w.heap.size+1+1+1,⟨w.heap.size,w.heap.size+1,.slice none 0 0,?_,nl _ _ ?_,nl _ _ ?_,?_,fun b p hp=>?_,by omega,by omega,by omega,by omega,fun g hg=>?_,fun b p hp=>?_,fun b hb=>by simp;omega,?_⟩,?_⟩
 ·have:=Blk.new ((w.alloc (.map #[] 0)).alloc (.map #[] 0)) (dcells w.heap.size (w.heap.size+1) (.slice none 0 0) (newD cap)) 120
  rw[s2] at this;exact this
 ·rw[e3 _ _ (by omega)];exact m0
 ·rw[e3 _ _ (by omega)];exact m1
 ·exact World.ownsRow_nil _ _ _ _
 ·cases hp
 ·cases hg
 ·cases hp
 ·refine⟨fun x hx=>?_,fun x hx=>?_,fun x hx=>?_,h0,h1,Int.le_refl 0,?_,rfl,fun b p hp=>?_,fun k=>?_,rfl⟩
  ·cases hx
  ·cases hx
  ·cases hx
  ·show(0:Int)<=9223372036854775807;omega
  ·cases hp
  ·show(apps (List.take k []) []).length<=200
   rw[List.take_nil];exact Nat.zero_le _
 ·exact⟨rfl,rfl,rfl,by simp;omega,fun k hk _=>by rw[e3 _ _ (by omega),Below.heap_alloc (w.alloc (.map #[] 0)) _ k (by omega),Below.heap_alloc w _ k hk],fun k hk=>.inr hk.1⟩
set_option maxHeartbeats 3200000 in
set_option maxRecDepth 100000 in
theorem new_ok (cap:Int) (w:World) (h0:0<=cap) (h1:cap<=10000000):Calls Tryz.prog 21 #[.int .i64 cap] w fun e w'=>∃bd,e=.returned (.tuple #[.pointer (some ⟨bd,0,none⟩),.int .i64 0])/\ ∃S',DiskAt w' S' bd (newD cap)/\Gr (fun _=>False) w S' w':=by
 have t0: ¬ cap<0:=by omega
 have t1: ¬ cap>10000000:=by omega
 have hmm:∀w,(Instr.makeMap 117 none).run Tryz.prog w=.ok (.map (some w.heap.size)) (w.alloc (.map #[] 0)):=fun _=>rfl
 go_enter Tryz.func21, Tryz.ntmps21
 go_wp2_with fail
 go_ret2
 exact new_at cap w h0 h1
set_option maxHeartbeats 3200000 in
set_option maxRecDepth 100000 in
theorem create_go (h:DiskAt w S bd D) {s:ByteArray} (ho:D.off=false) (hs:Nm.check s.data.toList=0) (hl:lk s D.now=none) (hn:D.now.length<200) (hc:D.chg.length<=1000000) :
  Calls Tryz.prog 58 #[.pointer (some ⟨bd,0,none⟩),.string s] w fun e w'=>e=.returned (.int .i64 (opE D))/\ ∃b S',D.fl b=none/\DiskAt w' S' bd (opS false (chgD (s,⟨#[]⟩,some b)) (setF b (⟨#[]⟩,⟨#[]⟩) D))/\Gr S w S' w':=by
 have HU:=Lib.hid (fun wx (h:DiskAt wx S bd D)=>up_any h);have HN:=Lib.hid (fun wx=>Nm.check_any s wx);rw[hs] at HN;have hup:upE D=0:=by unfold upE;rw[ho];rfl
 rw[hup] at HU;have HC:=Lib.hid (show ∀wx,DiskAt wx S bd D->Below w.heap.size w wx->Calls Tryz.prog 106 #[.pointer (some ⟨bd,0,none⟩),.agg #[.string s,.string ⟨#[]⟩,.pointer (some ⟨wx.heap.size,0,none⟩)]] (wx.alloc (.cells #[.string ⟨#[]⟩,.string ⟨#[]⟩] 133))
   fun e w'=>e=.returned (.int .i64 (opE D))/\ ∃b S',D.fl b=none/\DiskAt w' S' bd (opS false (chgD (s,⟨#[]⟩,some b)) (setF b (⟨#[]⟩,⟨#[]⟩) D))/\Gr S w S' w' from by
  rintro wx ⟨gN,gS,v,hx⟩ hb;refine(changed_any (D:=setF wx.heap.size (⟨#[]⟩,⟨#[]⟩) D) ⟨gN,gS,v,hx.newF⟩ (s,⟨#[]⟩,some wx.heap.size) (fun b e=>?_) ?_ hc).mono ?_
  ·cases e
   unfold setF;simp
  ·show(app (s,⟨#[]⟩,some wx.heap.size) D.now).length<=200
   unfold app;dsimp only;rw[if_pos rfl,pt_len,hl];simp only[Option.isSome_none,Bool.false_eq_true,if_false];omega
  ·rintro e w' ⟨rfl,S',h2,g2⟩
   refine⟨rfl,wx.heap.size,S',?_,h2,?_⟩
   ·rcases hf:D.fl wx.heap.size with _|p
    ·rfl
    ·exact absurd (hx.lt _ (hx.sF _ _ hf)) (by omega)
   ·exact(Gr.of_below hb).trans (((Gr.alloc _).more fun k hk=>hk.imp_right (by omega)).trans g2))
 have HD:=Lib.hid h;have HX:=Lib.hid (show ∀wx,Below w.heap.size w wx->DiskAt wx S bd D from fun wx hb=>h.ext hb);obtain⟨gN,gS,v,h⟩:=h;have HM:=Lib.hid h;have c0:=h.c0;have HL:=Lib.hid (show find1 s (vs D.now)=none from by rw[vs_find,hl];rfl);have hlen:(vs D.now).length=D.now.length:=by unfold vs;rw[List.length_map]
 have hge: ¬ ((vs D.now).length:Int)>=200:=by omega
 clear h ho hs hl hn hc hup
 go_enter Tryz.func58, Tryz.ntmps58
 go_wp2_with (first
  |(go_at_call 61;refine(HU.out _ HD.out).mono ?_;rintro e1 w1 ⟨rfl,rfl⟩)
  |(go_at_call 44;refine(HN.out _).mono ?_;rintro e2 w2 ⟨rfl,hb2⟩;have HB2:=Lib.hid hb2;have HM2:=Lib.hid (HM.out.ext hb2);have k0:=HM2.out.c0;clear hb2 c0)
  |(at_lookup;refine wpList_lookupS Tryz.underlying117 Tryz.underlying9 ptr_zero HM2.out.now s _ _ ?_;rw[HL.out])
  |(at_len;refine wpList_lenS Tryz.underlying117 HM2.out.now _ ?_)
  |(go_at_call 106;refine(HC.out _ (HX.out _ HB2.out) HB2.out).mono ?_;rintro e5 w5 ⟨rfl,b,S5,hf5,hD5,hG5⟩;have HD5:=Lib.hid (And.intro hf5 (And.intro hD5 hG5));clear hf5 hD5 hG5))
 go_ret
 exact⟨rfl,b,S5,HD5.out⟩
end
end Dk
end Go.Proofs.YtejcdhdfanfkbaaGreat
