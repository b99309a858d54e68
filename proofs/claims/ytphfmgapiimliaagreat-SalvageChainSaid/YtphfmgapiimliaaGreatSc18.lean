/- disk: op, whatever it does. seg.all: things in turn, up to the first that tells an error. disk: a change of the directory. disk: a change is done, and kept in mind. disk: changed. disk: changed, Create, New. -/
import Derived.Test.YtphfmgapiimliaaGreatSc08
import Derived.Shelf.Abstract
import Derived.Deep.LoopGhost
import Derived.Deep.RegionLaw
import Derived.Test.YtphfmgapiimliaaGreatSc17
namespace Go.Proofs.YtphfmgapiimliaaGreat
namespace Dk
open Go.RowKit
section
variable {w w':World} {S:Nat->Prop} {bd gN gS:Nat} {v:Value} {D:DS}
theorem Dat.setTick (h:Dat w S bd gN gS v D) (x:Int) (hx:x=max (D.armed-1) 0):Dat ((w.setCell ⟨bd,4,none⟩ (.int .i64 (IntKind.i64.wrap (D.ops+1)))).setCell ⟨bd,5,none⟩ (.int .i64 x)) S bd gN gS v (tick D):=by
 subst hx;refine h.turn (by simp) (fun k _ hk=>?_) ?_ rfl rfl rfl rfl h.fit.tick
 ·rw[Below.heap_setCell _ ⟨bd,5,none⟩ _ k hk,Below.heap_setCell _ ⟨bd,4,none⟩ _ k hk]
 ·exact(h.box.put 4 _).put 5 _
theorem Dat.setOff (h:Dat w S bd gN gS v D):Dat (w.setCell ⟨bd,6,none⟩ (.bool true)) S bd gN gS v { D with off:=true }:=by
 refine h.turn (by simp) (fun k _ hk=>?_) ?_ rfl rfl rfl rfl h.fit.off
 ·rw[Below.heap_setCell _ ⟨bd,6,none⟩ _ k hk]
 ·exact h.box.put 6 _
set_option maxHeartbeats 3200000 in
set_option maxRecDepth 100000 in
theorem op_dat (syncs:Bool) (fid:FuncId) (first caps:Array Value) (act:DS->DS) (h:Dat w S bd gN gS v D) (hen:∀args w,(callFunc fid args).run Tryz.prog w=.ok (.enter fid args) w)
  (hdo:∀w1,Dat w1 S bd gN gS v (tick D)->Gr S w S w1->Calls Tryz.prog fid (first++caps) w1 fun e w2=>e=.returned (.tuple #[])/\ ∃S2,DiskAt w2 S2 bd (act (tick D))/\Gr S w1 S2 w2) :
  Calls Tryz.prog 117 #[.pointer (some ⟨bd,0,none⟩),.bool syncs,.func (.func fid) first caps] w fun e w'=>e=.returned (.int .i64 (opE D))/\ ∃S',DiskAt w' S' bd (opS syncs act D)/\Gr S w S' w':=by
 have c4:=h.c4;have c5:=h.c5;have c6:=h.c6;have f4:=h.fz 4;have f5:=h.fz 5;have f6:=h.fz 6;have sB:=h.sB;have HT:=Lib.hid (fun x (hx:x=max (D.armed-1) 0)=>show Dat ((w.setCell ⟨bd,4,none⟩ (.int .i64 (wrap64 (D.ops+1)))).setCell ⟨bd,5,none⟩ (.int .i64 x)) S bd gN gS v (tick D) from by have:=h.setTick x hx;rwa [show IntKind.i64.wrap (D.ops+1)=wrap64 (D.ops+1) from by unfold wrap64;exact IntKind.wrap_i64 _] at this);have HG:=Lib.hid (show ∀x,Gr S w S ((w.setCell ⟨bd,4,none⟩ (.int .i64 (wrap64 (D.ops+1)))).setCell ⟨bd,5,none⟩ x) from fun x=>(Gr.setCell h.sB 4 _).trans (Gr.setCell h.sB 5 _));have hr:=h.fit.arm0;have hr1:=h.fit.arm1;clear h;unfold opE opS;generalize tick D=T at *
 generalize D.ops=O at *
 generalize D.armed=A at *
 generalize D.off=F at *
 by_cases ha:A=1
 ·subst ha
  simp only[if_true];rcases syncs with _|_
  ·simp only[Bool.false_eq_true,if_false]
   go_enter Tryz.func117, Tryz.ntmps117
   go_wp2_with (go_at_fn fid;refine(hdo _ (HT.out 0 (by omega)) (HG.out _)).mono ?_;rintro e1 w1 ⟨rfl,S2,⟨gN2,gS2,v2,hD2⟩,hG2⟩;have c62:=hD2.c6;have f62:=hD2.fz 6;have HD2:=Lib.hid hD2;have HG2:=Lib.hid hG2;clear hD2 hG2)
   go_ret
   exact⟨rfl,S2,⟨gN2,gS2,v2,HD2.out.setOff⟩,((HG.out _).trans HG2.out).trans (Gr.setCell HD2.out.sB 6 _)⟩
  ·go_enter Tryz.func117, Tryz.ntmps117
   go_wp2_with fail
   go_ret
   exact⟨rfl,S,⟨gN,gS,v,(HT.out 0 (by omega)).setOff⟩,(HG.out _).trans (Gr.setCell sB 6 _)⟩
 ·simp only[if_neg ha]
  have hA:A=0∨2<=A:=by omega
  have tt:(A==1)=false:=by rw[beq_eq_false_iff_ne];exact ha
  rcases hA with rfl|hA
  all_goals
   go_enter Tryz.func117, Tryz.ntmps117
   go_wp2_with (go_at_fn fid;refine(hdo _ (HT.out _ (by first|omega|(simp only[wrap64];omega))) (HG.out _)).mono ?_;rintro e1 w1 ⟨rfl,S2,hD2,hG2⟩;have HD2:=Lib.hid hD2;have HG2:=Lib.hid hG2;clear hD2 hG2)
   go_ret
   exact⟨rfl,S2,HD2.out,(HG.out _).trans HG2.out⟩
theorem op_any (syncs:Bool) (fid:FuncId) (first caps:Array Value) (act:DS->DS) (h:DiskAt w S bd D) (hen:∀args w,(callFunc fid args).run Tryz.prog w=.ok (.enter fid args) w)
  (hdo:∀w1,DiskAt w1 S bd (tick D)->Gr S w S w1->Calls Tryz.prog fid (first++caps) w1 fun e w2=>e=.returned (.tuple #[])/\ ∃S2,DiskAt w2 S2 bd (act (tick D))/\Gr S w1 S2 w2) :
  Calls Tryz.prog 117 #[.pointer (some ⟨bd,0,none⟩),.bool syncs,.func (.func fid) first caps] w fun e w'=>e=.returned (.int .i64 (opE D))/\ ∃S',DiskAt w' S' bd (opS syncs act D)/\Gr S w S' w':=by
 obtain⟨gN,gS,v,h⟩:=h;exact op_dat syncs fid first caps act h hen fun w1 h1=>hdo w1 ⟨gN,gS,v,h1⟩
end
end Dk
end Go.Proofs.YtphfmgapiimliaaGreat
namespace Go.Proofs.YtphfmgapiimliaaGreat
namespace Dk
open Go.RowKit
def fv (f:FuncId×Array Value×Array Value):Value:=.func (.func f.1) f.2.1 f.2.2
set_option maxHeartbeats 3200000 in
set_option maxRecDepth 100000 in
theorem all_any (fs:List (FuncId×Array Value×Array Value)) (A:Option Addr) (n c:Nat) (w:World) (J:Nat->World->Prop) (F:Int->World->Prop) (hn:n<=1000)
  (hrd:∀k wx,J k wx->Rd wx wx.heap.size 1 A n (fs.map fv)) (h0:J 0 w) (hen:∀f∈fs,∀args w,(callFunc f.1 args).run Tryz.prog w=.ok (.enter f.1 args) w)
  (hstep:∀k f,fs[k]? =some f-> ∀wx,J k wx->Calls Tryz.prog f.1 (f.2.1++f.2.2) wx fun e w'=>∃x,e=.returned (.int .i64 x)/\((x=0/\J (k+1) w')∨(x≠0/\F x w'))) :
  Calls Tryz.prog 89 #[.slice A n c] w fun e w'=>∃x,e=.returned (.int .i64 x)/\((x=0/\J n w')∨(x≠0/\F x w')):=by
 have HR:=Lib.hid hrd;have HS:=Lib.hid hstep;have HE:=Lib.hid hen;have H0:=Lib.hid h0;clear hrd hstep hen h0
 go_enter Tryz.func89, Tryz.ntmps89
 go_wp2_with fail
 go_loopw [8] (fun v wr=>∃k:Nat,v=.int .i64 k/\k<=n/\Hid (J k wr)) (fun v _=>n-(intOf v).toNat)
 case atStart=>exact⟨0,by go_num,by omega,H0.out⟩
 case round =>
  obtain⟨k,rfl,hk,HX⟩:=hrel;by_cases hkn:k<n
  ·obtain⟨ad,u,hA,hbk,hx,hc⟩:=(HR.out k wr HX.out).at1 hkn
   obtain⟨f,hf,rfl⟩:∃f,fs[k]? =some f/\fv f=u:=by
    rw[List.getElem?_map] at hx;rcases hf:fs[k]? with _|f
    ·rw[hf] at hx;cases hx
    ·rw[hf] at hx
     exact⟨f,rfl,by simpa using hx⟩
   have hen2:=HE.out f (List.mem_of_getElem? hf);have HC:=Lib.hid (HS.out k f hf wr HX.out);obtain⟨fid,first,caps⟩:=f;unfold fv at hc;dsimp only at hc hen2 HC;subst hA;clear hx hf hbk;go_wp2_with (go_at_fn fid;refine HC.out.mono ?_;rintro e1 w1 ⟨x,rfl,⟨rfl,hJ⟩|⟨hx0,hJ⟩⟩<;>have HJ:=Lib.hid hJ<;>clear hJ<;>try (have hb:(x != 0)=true:=(by rw[bne_iff_ne];exact hx0)))
   ·go_roundw
    ·exact⟨k+1,by go_num,by omega,HJ.out⟩
    ·simp[intOf];omega
   ·go_ret
    exact⟨x,rfl,.inr ⟨hx0,HJ.out⟩⟩
  ·have e:k=n:=by omega
   subst e;go_wp2_with fail
   go_ret
   exact⟨0,rfl,.inl ⟨rfl,HX.out⟩⟩
end Dk
end Go.Proofs.YtphfmgapiimliaaGreat
namespace Go.Proofs.YtphfmgapiimliaaGreat
namespace Dk
open Go.RowKit
theorem chg_info:(Tryz.prog.info? 113).map (fun i=>(i.zero,i.size,i.bytes))=some (some (.agg #[.string ⟨#[]⟩,.string ⟨#[]⟩,.pointer none]),3,40):=by kernel_rfl
def cagg (c:ByteArray×ByteArray×Option Nat):Value:=.agg #[.string c.1,.string c.2.1,chv c.2.2]
section
variable {w w':World} {S:Nat->Prop} {bd gN gS:Nat} {v:Value} {D:DS}
set_option maxHeartbeats 1600000 in
set_option maxRecDepth 100000 in
theorem apply_any {g:Nat} {l:List (ByteArray×Nat)} (hm:Mp w g (vs l)) (c:ByteArray×ByteArray×Option Nat) :
  Calls Tryz.prog 116 #[.map (some g),cagg c] w fun e w'=>e=.returned (.tuple #[])/\Mp w' g (vs (app c l))/\w.grownBy w' (some g):=by
 obtain⟨to,fr,f⟩:=c;have hlt:=hm.lt;have HM:=Lib.hid (show ∀o,Mp (w.alloc o) g (vs l) from fun o=>hm.same (Below.heap_alloc w o g hlt));have HG:=Lib.hid (show ∀o,w.grownBy (w.alloc o) (some g) from fun o=>World.grownBy_alloc w o (some g));unfold cagg chv app;clear hm;by_cases hf:fr=⟨#[]⟩
 ·subst hf
  simp only[if_true];rcases f with _|b
  ·go_enter Tryz.func116, Tryz.ntmps116
   go_wp2_with fail
   go_end0
   exact⟨rfl,HM.out _,HG.out _⟩
  ·have HV:=Lib.hid (vs_put to b l)
   unfold ptr at *
   go_enter Tryz.func116, Tryz.ntmps116
   go_wp2_with (at_mapUpdate;refine wpList_updateS Tryz.underlying86 Tryz.underlying9 (HM.out _) to (.pointer (some ⟨b,0,none⟩)) _ _ _ ?_;intro w2 hm2 hg2 hs2;rw[HV.out] at hm2;have HX:=Lib.hid (And.intro hm2 hg2);clear hm2 hg2 hs2)
   go_end0
   exact⟨rfl,HX.out.1,(HG.out _).trans HX.out.2⟩
 ·simp only[if_neg hf]
  have HD:=Lib.hid (vs_del fr l);have hfe:fr.toList.isEmpty=false:=by
   rw[<-decide_eq_emptyBytes];exact decide_eq_false hf
  have hne:(some g:Option Nat)≠some w.heap.size:=by intro e;cases e;omega
  rcases f with _|b
  ·have HB:=Lib.hid (fun w2 hg=>(Blk.new w #[.string to,.string fr,.pointer none] 113).grown (w':=w2) (row:=some g) hg hne)
   go_enter Tryz.func116, Tryz.ntmps116
   go_wp2_with (at_delete;refine wpList_deleteS Tryz.underlying86 Tryz.underlying9 (HM.out _) fr _ _ _ ?_;intro w2 hm2 hg2 hs2;rw[HD.out] at hm2;have k2:=(HB.out w2 hg2).cell 2 (v:=.pointer none) rfl;have HX:=Lib.hid (And.intro hm2 hg2);clear hm2 hg2 hs2)
   go_end0
   exact⟨rfl,HX.out.1,(HG.out _).trans HX.out.2⟩
  ·have HV:=Lib.hid (vs_put to b (dl fr l))
   unfold ptr at *
   have HB:=Lib.hid (fun w2 hg=>(Blk.new w #[.string to,.string fr,.pointer (some ⟨b,0,none⟩)] 113).grown (w':=w2) (row:=some g) hg hne)
   go_enter Tryz.func116, Tryz.ntmps116
   go_wp2_with (first
    |(at_delete;refine wpList_deleteS Tryz.underlying86 Tryz.underlying9 (HM.out _) fr _ _ _ ?_;intro w2 hm2 hg2 hs2;rw[HD.out] at hm2;have k2:=(HB.out w2 hg2).cell 2 (v:=.pointer (some ⟨b,0,none⟩)) rfl;have k0:=(HB.out w2 hg2).cell 0 (v:=.string to) rfl;have HX:=Lib.hid (And.intro hm2 hg2);clear hm2 hg2 hs2)
    |(at_mapUpdate;refine wpList_updateS Tryz.underlying86 Tryz.underlying9 HX.out.1 to (.pointer (some ⟨b,0,none⟩)) _ _ _ ?_;intro w3 hm3 hg3 hs3;rw[HV.out] at hm3;have HY:=Lib.hid (And.intro hm3 hg3);clear hm3 hg3 hs3))
   go_end0
   exact⟨rfl,HY.out.1,((HG.out _).trans HX.out.2).trans HY.out.2⟩
end
end Dk
end Go.Proofs.YtphfmgapiimliaaGreat
namespace Go.Proofs.YtphfmgapiimliaaGreat
namespace Dk
open Go.RowKit
section
variable {w w':World} {S:Nat->Prop} {bd gN gS:Nat} {v:Value} {D:DS}
theorem ch3_one (c:ByteArray×ByteArray×Option Nat):∀u∈ch3 c,u.oneCell'=true:=by
 obtain⟨a,b,f⟩:=c;intro u hu;unfold ch3 at hu;simp only[List.mem_cons,List.not_mem_nil,or_false] at hu;rcases hu with rfl|rfl|rfl
 ·rfl
 ·rfl
 ·rcases f with _|f<;>rfl
theorem step_append_chg {ops:Array Oper} {o:Oper} {a:Act} {K:Act->World->Prop} {Q:Exit->Act->World->Prop} {E:Prop} {w0:World} {v:Value} {l:List (ByteArray×ByteArray×Option Nat)} (s x:Operand) (c:ByteArray×ByteArray×Option Nat)
  (hgd:o.guard=none) (ho:o.op=.call { callee:=.builtin .append,args:=#[s,x],argTypes:=#[87,87] })
  (hown:w0.ownsRow 0 113 3 v l.length (chl l)) (hl:l.length<=1000000) (hs:a.eval s=v) (hx:a.eval x=.slice (some ⟨w0.heap.size,0,none⟩) 1 1)
  (h:∀g cap w',w'.ownsRow 0 113 3 (.slice (some ⟨g,0,none⟩) (l.length+1) cap) (l.length+1) (chl (l++[c]))->w0.grownBy w' v.ownBlock->(v.ownBlock=some g∨w0.heap.size<=g)->K (a.put o.dst (.slice (some ⟨g,0,none⟩) (l.length+1) cap)) w') :
  if Region.wanted o (yielded ops a.tmps)=true then Oper.wp Tryz.prog o a ((w0.alloc (.cells #[.string c.1,.string c.2.1,chv c.2.2] 113)).drew) K Q else E:=by
 obtain⟨i0,hi,hz0,hz1,hz2⟩:=info_parts chg_info;refine step_append_lies ((w0.alloc (.cells #[.string c.1,.string c.2.1,chv c.2.2] 113)).drew) hgd s x 87 ho 0 113 i0 (.agg #[.string ⟨#[]⟩,.string ⟨#[]⟩,.pointer none]) 3 40 Tryz.underlying87 hi hz0 hz1 hz2 rfl (by omega) v l.length (chl l) hs (World.ownsRow.alloc hown _)
  ⟨w0.heap.size,0,none⟩ 1 1 (ch3 c) hx rfl ?_ (ch3_one c) (by omega) (by simp only[maxLen];omega) (by omega) (Nat.zero_le _) _ rfl ?_
 ·intro j u hu
  rw[Addr.add_lit,Nat.zero_add];show(w0.alloc _).cell? _=_
  rw[World.cell?_alloc_new];simpa[ch3] using hu
 have hg0:w0.grownBy (w0.alloc (.cells #[.string c.1,.string c.2.1,chv c.2.2] 113)).drew v.ownBlock:=have h:=World.grownBy_alloc w0 (.cells #[.string c.1,.string c.2.1,chv c.2.2] 113) v.ownBlock;⟨h.os,h.tape,h.output,h.size,h.block⟩;intro g cap w' hown' hg hat hlt;refine h g cap w' ?_ (hg0.trans hg) ?_
 ·rw[chl_append,show chl [c]=ch3 c from List.append_nil _];exact hown'
 ·rcases hat with e|e
  ·exact .inl e
  ·exact .inr (by rw[e];simp)
theorem Dat.change (h:Dat w S bd gN gS v D) (c:ByteArray×ByteArray×Option Nat) (hf:∀b,c.2.2=some b->D.fl b≠none) (hn:(app c D.now).length<=200) {w2 w3:World} {g cap:Nat}
  (hm:Mp w2 gN (vs (app c D.now))) (hg:w.grownBy w2 (some gN)) (hown:w3.ownsRow 0 113 3 (.slice (some ⟨g,0,none⟩) (D.chg.length+1) cap) (D.chg.length+1) (chl (D.chg++[c]))) (hg3:w2.grownBy w3 v.ownBlock) (hat:v.ownBlock=some g∨w2.heap.size<=g) :
  Dat (w3.setCell ⟨bd,2,none⟩ (.slice (some ⟨g,0,none⟩) (D.chg.length+1) cap)) (fun k=>S k∨k=g) bd gN gS (.slice (some ⟨g,0,none⟩) (D.chg.length+1) cap) (chgD c D) /\
  Gr S w (fun k=>S k∨k=g) (w3.setCell ⟨bd,2,none⟩ (.slice (some ⟨g,0,none⟩) (D.chg.length+1) cap)):=by
 have hgl:g<w3.heap.size:=by
  obtain⟨-,h2⟩:=hown;rcases h2 with ⟨h2,-⟩|⟨g',cap',cur,e,-,h4,-⟩
  ·cases h2
  ·cases e;exact(Array.getElem?_eq_some_iff.1 h4).1
 have s2:w.heap.size<=w2.heap.size:=hg.size;have s3:w2.heap.size<=w3.heap.size:=hg3.size;have hgne:g≠bd/\g≠gN/\g≠gS/\ ∀b p,D.fl b=some p->g≠b:=by
  rcases hat with e|e
  ·exact h.bC e
  ·have a1:=h.lt _ h.sB
   have a2:=h.lt _ h.sN;have a3:=h.lt _ h.sS;exact⟨by omega,by omega,by omega,fun b p hp=>by have:=h.lt _ (h.sF b p hp);omega⟩
 have hC:∀k,k<w.heap.size->k≠bd->k≠gN->v.ownBlock≠some k->(w3.setCell ⟨bd,2,none⟩ (.slice (some ⟨g,0,none⟩) (D.chg.length+1) cap)).heap[k]? =w.heap[k]? :=by
  intro k h0 h1 h2 h3;rw[Below.heap_setCell _ ⟨bd,2,none⟩ _ k h1,hg3.block k (by omega) (Ne.symm h3),hg.block k h0 (by intro e;cases e;exact h2 rfl)]
 have hvb:∀k,k=bd∨k=gN∨k=gS∨(∃p,D.fl k=some p)->v.ownBlock≠some k:=by
  intro k hk e;obtain⟨e1,e2,e3,e4⟩:=h.bC e;rcases hk with hk|hk|hk|⟨p,hp⟩
  ·exact e1 hk
  ·exact e2 hk
  ·exact e3 hk
  ·exact e4 k p hp rfl
 have hbox3:Blk w3 bd (dcells gN gS v D) 89:=(h.box.grown hg (by intro e;cases e;exact h.bN rfl)).grown hg3 (hvb bd (.inl rfl));refine⟨⟨?_,?_,?_,?_,?_,h.ne,.inl h.sB,.inl h.sN,.inl h.sS,fun k hk=>.inr (by simpa[Value.ownBlock] using hk.symm),fun b p hp=>.inl (h.sF b p hp),?_,?_⟩,⟨?_,?_,?_,by simp;omega,?_,?_⟩⟩
 ·exact hbox3.put 2 _
 ·refine hm.same ?_
  rw[Below.heap_setCell _ ⟨bd,2,none⟩ _ gN h.bN,hg3.block gN hm.lt (Ne.symm (hvb gN (.inr (.inl rfl))))]
 ·exact h.safe.same (hC gS (h.lt _ h.sS) h.bS (Ne.symm h.ne) (hvb gS (.inr (.inr (.inl rfl)))))
 ·show World.ownsRow _ 0 _ 3 _ (D.chg++[c]).length (chl (D.chg++[c]))
  rw[List.length_append,List.length_singleton];refine own_block hown fun k hk=>?_
  have:k=g:=by simpa[Value.ownBlock] using hk.symm
  subst this;rw[Below.heap_setCell _ ⟨bd,2,none⟩ _ k hgne.1]
 ·intro b p hp
  obtain⟨q1,q2,q3⟩:=h.bF hp;exact(hC b (h.lt _ (h.sF b p hp)) q1 q2 (hvb b (.inr (.inr (.inr ⟨p,hp⟩))))).trans (h.fl b p hp)
 ·intro k hk
  have:w3.heap.size=(w3.setCell ⟨bd,2,none⟩ (.slice (some ⟨g,0,none⟩) (D.chg.length+1) cap)).heap.size:=by simp
  rcases hk with hk|rfl
  ·have:=h.lt _ hk;omega
  ·omega
 ·have f:=h.fit
  refine⟨fun x hx=>?_,f.wfS,fun d hd b hb=>?_,f.cap0,f.cap1,f.arm0,f.arm1,f.ops,f.big,fun k=>?_,?_⟩
  ·rcases app_mem hx with e|e
   ·exact hf _ e
   ·exact f.wfN x e
  ·rcases List.mem_append.1 hd with hd|hd
   ·exact f.wfC d hd b hb
   ·rw[List.mem_singleton] at hd
    subst hd;exact hf b hb
  ·show(apps ((D.chg++[c]).take k) D.safe).length<=200
   by_cases hk:k<=D.chg.length
   ·rw[List.take_append_of_le_length hk];exact f.few k
   ·rw[List.take_of_length_le (by simp;omega)]
    unfold apps;rw[List.foldl_append];have:=f.run;unfold apps at this;rw[this];exact hn
  ·show apps (D.chg++[c]) D.safe=app c D.now
   have:=f.run;unfold apps at this ⊢;rw[List.foldl_append,this];rfl
 ·exact hg3.os.trans hg.os
 ·exact hg3.tape.trans hg.tape
 ·exact hg3.output.trans hg.output
 ·intro k hk hn
  exact hC k hk (by rintro rfl;exact hn h.sB) (by rintro rfl;exact hn h.sN) (fun e=>hn (h.sC k e))
 ·rintro k (hk|rfl)
  ·exact .inl hk
  ·rcases hat with e|e
   ·exact .inl (h.sC _ e)
   ·exact .inr (by omega)
end
end Dk
end Go.Proofs.YtphfmgapiimliaaGreat
namespace Go.Proofs.YtphfmgapiimliaaGreat
namespace Dk
open Go.RowKit
section
variable {w w':World} {S:Nat->Prop} {bd gN gS:Nat} {v:Value} {D:DS}
structure Cg (w:World) (S:Nat->Prop) (bd gN c5 bC bD:Nat) (c:ByteArray×ByteArray×Option Nat):Prop where
 v5:Blk w c5 #[.func (.func 116) #[.map (some gN)] #[]] 164
 vC:Blk w bC #[.string c.1,.string c.2.1,chv c.2.2] 113
 vD:Blk w bD #[.pointer (some ⟨bd,0,none⟩)] 50
 n5: ¬ S c5
 nC: ¬ S bC
 nD: ¬ S bD
theorem Cg.grown {c5 bC bD:Nat} {c:ByteArray×ByteArray×Option Nat} {row:Option Nat} (h:Cg w S bd gN c5 bC bD c) (hg:w.grownBy w' row) (hr:∀k,row=some k->S k):Cg w' S bd gN c5 bC bD c :=
 ⟨h.v5.grown hg fun e=>h.n5 (hr _ e),h.vC.grown hg fun e=>h.nC (hr _ e),h.vD.grown hg fun e=>h.nD (hr _ e),h.n5,h.nC,h.nD⟩
set_option maxHeartbeats 6400000 in
set_option maxRecDepth 100000 in
theorem changed1_any (h:Dat w S bd gN gS v D) {c5 bC bD:Nat} (c:ByteArray×ByteArray×Option Nat) (hc:Cg w S bd gN c5 bC bD c) (hf:∀b,c.2.2=some b->D.fl b≠none) (hn:(app c D.now).length<=200) (hl:D.chg.length<=1000000) :
  Calls Tryz.prog 118 #[.pointer (some ⟨c5,0,none⟩),.pointer (some ⟨bC,0,none⟩),.pointer (some ⟨bD,0,none⟩)] w fun e w'=>e=.returned (.tuple #[])/\ ∃S',DiskAt w' S' bd (chgD c D)/\Gr S w S' w':=by
 have mixed:Tryz.prog.follows .mixedOrders=true:=by kernel_rfl
 have HA:=Lib.hid (apply_any h.now c);have HH:=Lib.hid h;have HC:=Lib.hid hc;have HF:=Lib.hid hf;have HN:=Lib.hid hn;have HL:=Lib.hid hl;have c50:=hc.v5.cell 0 (v:=.func (.func 116) #[.map (some gN)] #[]) rfl;have cC0:=hc.vC.cell 0 (v:=.string c.1) rfl;have cC1:=hc.vC.cell 1 (v:=.string c.2.1) rfl;have cC2:=hc.vC.cell 2 (v:=chv c.2.2) rfl;have sN:=h.sN;clear h hc hf hn hl;unfold cagg at HA
 go_enter Tryz.func118, Tryz.ntmps118
 go_wp2_with (first
  |(go_at_call 116;refine HA.out.mono ?_;rintro e1 w1 ⟨rfl,hm1,hg1⟩;have HM1:=Lib.hid hm1;have HG1:=Lib.hid hg1;clear hm1 hg1))
 have HC1:=Lib.hid (HC.out.grown HG1.out (by intro k hk;cases hk;exact sN));have HB1:=Lib.hid (HH.out.box.grown HG1.out (by intro e;cases e;exact HH.out.bN rfl));have HO1:=Lib.hid (own_block (w':=w1) HH.out.chg fun g hg=>HG1.out.block g (HH.out.lt g (HH.out.sC g hg)) (by intro e;cases e;exact(HH.out.bC hg).2.1 rfl));have hvb:v.ownBlock≠some bd:=fun e=>(HH.out.bC e).1 rfl
 have HX:=Lib.hid (show ∀w5,w1.grownBy w5 v.ownBlock->w5.cell? ⟨bD,0,none⟩=some (.pointer (some ⟨bd,0,none⟩))/\w5.cell? ⟨bd,2,none⟩=some v/\w5.frozen? ⟨bd,2,none⟩=false from fun w5 hg =>
  ⟨(HC1.out.grown hg HH.out.sC).vD.cell 0 rfl,(HB1.out.grown hg hvb).cell 2 rfl,(HB1.out.grown hg hvb).fz 2⟩)
 clear hvb c50 cC0 cC1 cC2;have kD:=HC1.out.vD.cell 0 (v:=.pointer (some ⟨bd,0,none⟩)) rfl;have k2:=HB1.out.cell 2 (v:=v) rfl;have f2:=HB1.out.fz 2;have kC0:=HC1.out.vC.cell 0 (v:=.string c.1) rfl;have kC1:=HC1.out.vC.cell 1 (v:=.string c.2.1) rfl;have kC2:=HC1.out.vC.cell 2 (v:=chv c.2.2) rfl;have aD:=(HC1.out.vD.alloc (.cells #[.string c.1,.string c.2.1,chv c.2.2] 113)).cell 0 (v:=.pointer (some ⟨bd,0,none⟩)) rfl;have a2:=(HB1.out.alloc (.cells #[.string c.1,.string c.2.1,chv c.2.2] 113)).cell 2 (v:=v) rfl;go_region_law (refine step_append_chg (.tmp 10) (.tmp 12) c rfl rfl HO1.out HL.out (by simp[Act.eval]) (by simp[Act.eval]) ?_;intro g5 cap w5 hown5 hg5 hat5;have x0:=(HX.out w5 hg5).1;have x1:=(HX.out w5 hg5).2.1;have x2:=(HX.out w5 hg5).2.2)
 all_goals
  have HE:=Lib.hid (HH.out.change c HF.out HN.out HM1.out HG1.out hown5 hg5 hat5);clear hown5 hg5 hat5 x0 x1 x2;go_end0
  exact⟨rfl,_,⟨gN,gS,_,HE.out.1⟩,HE.out.2⟩
end
end Dk
end Go.Proofs.YtphfmgapiimliaaGreat
namespace Go.Proofs.YtphfmgapiimliaaGreat
namespace Dk
open Go.RowKit
section
variable {w w':World} {S:Nat->Prop} {bd gN gS:Nat} {v:Value} {D:DS}
theorem Cg.gr {c5 bC bD:Nat} {c:ByteArray×ByteArray×Option Nat} {S':Nat->Prop} (h:Cg w S bd gN c5 bC bD c) (hg:Gr S w S' w'):Cg w' S bd gN c5 bC bD c :=
 ⟨hg.blk h.v5 h.n5,hg.blk h.vC h.nC,hg.blk h.vD h.nD,h.n5,h.nC,h.nD⟩
theorem store_val {P:Program} {w:World} {a:Addr} {v old:Value} (h1:v.oneCell'=true) (hc:w.cell? a=some old) (hf:w.frozen? a=false):(store a v).run P w=.ok () (w.setCell a v):=by
 rw[run_store P w a v _ h1,hc];simp[hf]
theorem op_changed (h:Dat w S bd gN gS v D) {c5 bC bD:Nat} (c:ByteArray×ByteArray×Option Nat) (hc:Cg w S bd gN c5 bC bD c) (hf:∀b,c.2.2=some b->D.fl b≠none) (hn:(app c D.now).length<=200) (hl:D.chg.length<=1000000) :
  Calls Tryz.prog 117 #[.pointer (some ⟨bd,0,none⟩),.bool false,.func (.func 118) #[] #[.pointer (some ⟨c5,0,none⟩),.pointer (some ⟨bC,0,none⟩),.pointer (some ⟨bD,0,none⟩)]] w fun e w'=>e=.returned (.int .i64 (opE D))/\ ∃S',DiskAt w' S' bd (opS false (chgD c) D)/\Gr S w S' w' :=
 op_dat false 118 #[] #[.pointer (some ⟨c5,0,none⟩),.pointer (some ⟨bC,0,none⟩),.pointer (some ⟨bD,0,none⟩)] (chgD c) h (enters_of Tryz.func118 (by kernel_rfl) rfl)
  fun w1 h1 g1=>changed1_any h1 c (hc.gr g1) hf hn hl
set_option maxHeartbeats 3200000 in
set_option maxRecDepth 100000 in
theorem changed_any (h:DiskAt w S bd D) (c:ByteArray×ByteArray×Option Nat) (hf:∀b,c.2.2=some b->D.fl b≠none) (hn:(app c D.now).length<=200) (hl:D.chg.length<=1000000) :
  Calls Tryz.prog 71 #[.pointer (some ⟨bd,0,none⟩),cagg c] w fun e w'=>e=.returned (.int .i64 (opE D))/\ ∃S',DiskAt w' S' bd (opS false (chgD c) D)/\Gr S w S' w':=by
 obtain⟨gN,gS,v,h⟩:=h;have c0:=h.c0;have lb:=h.box.lt;have HO:=Lib.hid (show ∀wx,wx=((w.alloc (.cells #[.pointer (some ⟨bd,0,none⟩)] 50)).alloc (.cells #[.string c.1,.string c.2.1,chv c.2.2] 113)).alloc (.cells #[.func (.func 116) #[.map (some gN)] #[]] 164) ->
   Calls Tryz.prog 117 #[.pointer (some ⟨bd,0,none⟩),.bool false,.func (.func 118) #[] #[.pointer (some ⟨w.heap.size+1+1,0,none⟩),.pointer (some ⟨w.heap.size+1,0,none⟩),.pointer (some ⟨w.heap.size,0,none⟩)]] wx fun e w'=>e=.returned (.int .i64 (opE D))/\ ∃S',DiskAt w' S' bd (opS false (chgD c) D)/\Gr S w S' w' from by
  rintro wx rfl;have e3:=((ext_alloc w (.cells #[.pointer (some ⟨bd,0,none⟩)] 50)).trans ((ext_alloc (w.alloc (.cells #[.pointer (some ⟨bd,0,none⟩)] 50)) (.cells #[.string c.1,.string c.2.1,chv c.2.2] 113)).mono (by simp))).trans
   ((ext_alloc ((w.alloc (.cells #[.pointer (some ⟨bd,0,none⟩)] 50)).alloc (.cells #[.string c.1,.string c.2.1,chv c.2.2] 113)) (.cells #[.func (.func 116) #[.map (some gN)] #[]] 164)).mono (by simp;omega))
  refine(op_changed (h.ext e3) c ⟨?_,(blk_second _ _ _ _).alloc _,((Blk.new w _ _).alloc _).alloc _,h.gt (by omega),h.gt (by omega),h.gt (Nat.le_refl _)⟩ hf hn hl).mono ?_
  ·have:=blk_second (w.alloc (.cells #[.pointer (some ⟨bd,0,none⟩)] 50)) (.cells #[.string c.1,.string c.2.1,chv c.2.2] 113) #[.func (.func 116) #[.map (some gN)] #[]] 164
   rwa [show(w.alloc (.cells #[.pointer (some ⟨bd,0,none⟩)] 50)).heap.size+1=w.heap.size+1+1 from by simp] at this
  ·rintro e w' ⟨rfl,S',h2,g2⟩
   exact⟨rfl,S',h2,(Gr.of_below e3).trans g2⟩)
 have hV:=blk_second (w.alloc (.cells #[.pointer (some ⟨bd,0,none⟩)] 50)) (.cells #[.string c.1,.string c.2.1,chv c.2.2] 113) #[.nilFunc] 164;rw[show(w.alloc (.cells #[.pointer (some ⟨bd,0,none⟩)] 50)).heap.size+1=w.heap.size+1+1 from by simp] at hV;have d1:=store_val (P:=Tryz.prog) (v:=.func (.func 116) #[.map (some gN)] #[]) rfl (hV.cell 0 (v:=.nilFunc) rfl) (hV.fz 0);clear h hf hn hl hV;unfold cagg
 go_enter Tryz.func71, Tryz.ntmps71
 go_wp2_with (go_at_call 117;refine(HO.out _ rfl).mono ?_;rintro e5 w5 ⟨rfl,S5,hD5,hG5⟩;have HD5:=Lib.hid hD5;have HG5:=Lib.hid hG5;clear hD5 hG5)
 go_ret
 exact⟨rfl,S5,HD5.out,HG5.out⟩
end
end Dk
end Go.Proofs.YtphfmgapiimliaaGreat
