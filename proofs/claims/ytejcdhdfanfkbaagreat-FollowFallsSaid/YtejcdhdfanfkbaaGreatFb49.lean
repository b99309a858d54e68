/- grep.Query of the probe. follow.Take at the probe. -/
import Derived.Test.YtejcdhdfanfkbaaGreatFb48
import Derived.Test.YtejcdhdfanfkbaaGreatFb39
import Derived.Test.YtejcdhdfanfkbaaGreatFb12
import Derived.Test.YtejcdhdfanfkbaaGreatFb43
namespace Go.Proofs.YtejcdhdfanfkbaaGreat
namespace Gq
open Go.RowKit Go.Shelf Hd Rd Lg Dk Sn Rg Fm
open Go.Proofs.YtejcdhdfanfkbaaGreat.Op Go.Proofs.YtejcdhdfanfkbaaGreat.Rf
structure QI (w W0:World) (b0 b10 R bd G c g k bq:Nat) (pre:List Value) (W:World):Prop where
 B:Below b0 w W
 Z:W0.heap.size<=W.heap.size
 Q:Blk W (b0+1) qv 168
 P:Blk W (b0+2) #[.slice none 0 0,.int .i64 0] 170
 R:Blk W R (rdC bd G c g k bq) 249
 X:W.ownsRow 0 84 3 (.slice (some ⟨g,0,none⟩) 1 k) 1 (flS [r1])
 H:pre=[]/\Blk W b10 #[.slice none 0 0] 72∨pre.length=1/\ ∃g' k',Blk W b10 #[.slice (some ⟨g',0,none⟩) 1 k'] 72/\W.ownsRow W0.heap.size 84 3 (.slice (some ⟨g',0,none⟩) 1 k') 1 (flS [r1])
theorem QI.b10_lt {w W0:World} {b0 b10 R bd G c g k bq:Nat} {pre:List Value} {W:World} (h:QI w W0 b0 b10 R bd G c g k bq pre W):b10<W.heap.size:=by
 rcases h.H with ⟨-,hH⟩|⟨-,g',k',hH,-⟩<;>exact hH.lt
theorem blk_cells {w:World} {g B b0:Nat} {cs:Array Value} {t:TypeId} {row:Option Nat} (h:Blk w g cs t) (hg:g≠b0) (hr:∀r,row=some r->r=b0∨B<=r/\ ∃o:Obj,w.heap[r]? =some o/\o.isCells=false):row≠some g:=by
 intro e;rcases hr _ e with rfl|⟨_,o,ho,hc⟩
 ·exact hg rfl
 ·unfold Blk at h
  rw[h] at ho;cases ho;cases hc
theorem own_grown2 {w w':World} {b0 B base:Nat} {t:TypeId} {sz g n c:Nat} {xs:List Value} {row:Option Nat} (h:w.ownsRow base t sz (.slice (some ⟨g,0,none⟩) n c) n xs) (hg:g≠b0) (hw:w.grownBy w' row)
  (hr:∀r,row=some r->r=b0∨B<=r/\ ∃o:Obj,w.heap[r]? =some o/\o.isCells=false):w'.ownsRow base t sz (.slice (some ⟨g,0,none⟩) n c) n xs:=by
 refine own_block h fun g' hg'=>hw.block g' (World.ownsRow.lt h g' hg').2 ?_
 cases hg'
 intro e;rcases hr _ e.symm with h1|⟨_,o,ho,hc⟩
 ·exact hg h1
 ·rcases h.2 with ⟨h2,_⟩|⟨g2,cap,cur,h2,hb,hh,r⟩
  ·cases h2
  ·cases h2
   rw[hh] at ho;cases ho;cases hc
theorem QI.grown {w W0:World} {b0 b10 R bd G c g k bq:Nat} {pre:List Value} {W W':World} {row:Option Nat} (h:QI w W0 b0 b10 R bd G c g k bq pre W) (h1:b10≠b0) (h2:R≠b0) (h3:g≠b0) (h4:b0<W0.heap.size)
  (hg:W.grownBy W' row) (hr:∀r,row=some r->r=b0∨W0.heap.size<=r/\ ∃o:Obj,W.heap[r]? =some o/\o.isCells=false) (hb0:w.heap.size=b0):QI w W0 b0 b10 R bd G c g k bq pre W':=by
 refine⟨h.B.trans ⟨hg.os,hg.tape,hg.output,hg.size,fun i hi=>hg.block i (Nat.lt_of_lt_of_le (hb0▸hi) (by have:=h.B.size;omega)) (fun e=>?_)⟩,Nat.le_trans h.Z hg.size,h.Q.grown hg (blk_cells (B:=W0.heap.size) h.Q (by omega) hr),h.P.grown hg (blk_cells (B:=W0.heap.size) h.P (by omega) hr),h.R.grown hg (blk_cells (B:=W0.heap.size) h.R h2 hr),own_grown2 (B:=W0.heap.size) h.X h3 hg hr,?_⟩
 ·rcases hr _ e.symm with rfl|⟨h5,-⟩<;>omega
 ·rcases h.H with ⟨e,hH⟩|⟨e,g',k',hH,hO⟩
  ·exact .inl ⟨e,hH.grown hg (blk_cells (B:=W0.heap.size) hH h1 hr)⟩
  ·exact .inr ⟨e,g',k',hH.grown hg (blk_cells (B:=W0.heap.size) hH h1 hr),own_grown2 (B:=W0.heap.size) hO (by have:=(World.ownsRow.lt hO g' rfl).1;omega) hg hr⟩
theorem loadAt_q6 (x:Value):Instr.loadAt 168 x=loadRow 168 x:=rfl
theorem loadAt_s6 (x:Value):Instr.loadAt 74 x=loadRow 74 x:=rfl
attribute [local go_sem ↓] loadAt_q6
attribute [local go_sem ↓] loadAt_s6
attribute [local go_sem] run_loadRow
attribute [local go_sem] Oper.semAt_some
attribute [-go_sem] Builtin.append_
theorem wide_fn2 (f:FuncId):Fence.wide.fn f↔True:=⟨fun _=>trivial,fun _=>trivial⟩
attribute [local go_sem] wide_fn2
set_option maxHeartbeats 6400000 in
set_option maxRecDepth 100000 in
theorem query_q (bd G c g k:Nat) (S:Nat->Prop) (D:DS) (w:World) (hD:DiskAt w S bd D) (hW:W2 w G c g k) (hz:(readP D (segN 1 1)).2=0) :
  Calls Tryz.prog 84 #[.pointer (some ⟨bd,0,none⟩),.agg (cs2 G c g k),.agg qv] w fun e w'=>(∃g' k',e=.returned (.tuple #[.agg #[.slice (some ⟨g',0,none⟩) 1 k',.int .i64 0],.int .i64 0])/\w'.ownsRow w.heap.size 84 3 (.slice (some ⟨g',0,none⟩) 1 k') 1 (flS [r1]))/\Below w.heap.size w w':=by
 have mixed:Tryz.prog.follows .mixedOrders=true:=by kernel_rfl
 have HCK:=Lib.hid (fun(wx:World) (hb:Below w.heap.size w wx)=>check_q wx (hW.ext hb));have HAS:=Lib.hid (fun(wx:World)=>asked_q bd G c g k wx);have HPA:=Lib.hid (fun(R:Nat) (wx:World)=>parts_q R wx);have HGV:=Lib.hid (fun(n b1 R bq b:Nat) (wx:World) (hb:Below w.heap.size w wx) (h1:One wx b1 (.pointer (some ⟨R,0,none⟩)) 240) (h2:Blk wx R (rdC bd G c g k bq) 249) (h3:Blk wx bq qv 168)=>parts1_gives n b1 R bd G c g k bq b S D wx ⟨h1,h2,h3,hW.ext hb,hD.ext hb⟩ hz);have HFI:=Lib.hid (fun(wx:World) (hx:wx.ownsRow 0 84 3 (.slice (some ⟨g,0,none⟩) 1 k) 1 (flS [r1]))=>filter_q ⟨g,0,none⟩ k wx (Rd.of_own hx));have HX:=Lib.hid (fun(wx:World) (hb:Below w.heap.size w wx)=>(hW.ext hb).R);have hgw:g<w.heap.size:=(World.ownsRow.lt hW.R g rfl).2;have hz18:(cs2 G c g k).size=18:=rfl;have hrt18:RowTy Tryz.prog 74 18:=⟨st_info,_,Tryz.underlying74⟩
 have hq7:qv.size=7:=rfl;have HQ5:=Lib.hid (show qv[5]? =some (.int .i64 9) from rfl);have hrt:RowTy Tryz.prog 168 7:=⟨q_info,_,Tryz.underlying168⟩
 clear hW hD hz;generalize cs2 G c g k=Z at *
 have HB0:=Lib.hid ((ext_second w (.cells Z 74) (.cells qv 168)).trans ((ext_alloc _ (.cells #[.slice none 0 0,.int .i64 0] 170)).mono (by simp;omega)));have HZ0:=Lib.hid (((Blk.new w Z 74).alloc (.cells qv 168)).alloc (.cells #[.slice none 0 0,.int .i64 0] 170));have HQ0:=Lib.hid ((blk_second w (.cells Z 74) qv 168).alloc (.cells #[.slice none 0 0,.int .i64 0] 170));have HP0:=Lib.hid (show Blk (((w.alloc (.cells Z 74)).alloc (.cells qv 168)).alloc (.cells #[.slice none 0 0,.int .i64 0] 170)) (w.heap.size+1+1) #[.slice none 0 0,.int .i64 0] 170 from by simpa using Blk.new ((w.alloc (.cells Z 74)).alloc (.cells qv 168)) #[.slice none 0 0,.int .i64 0] 170);generalize hqv:qv=QV at *
 refine(callsIn_wide (n:=3)).1 ?_;refine callsIn_of_wp_marks Tryz.func84 rfl trivial ?_ rfl;simp only[Tryz.ntmps84,List.size_toArray,List.length_cons,List.length_nil,Nat.reduceAdd,Nat.reduceSub,Array.replicate_succ,Array.replicate_zero,List.push_toArray,List.append_toArray,List.nil_append,List.cons_append]
 gi_upto_region 1 with fail
 generalize ((w.alloc (.cells Z 74)).alloc (.cells QV 168)).alloc (.cells #[.slice none 0 0,.int .i64 0] 170)=w0 at *
 generalize hb0:w.heap.size=b0 at *
 have r1:=HZ0.out.rowAt.1;have r2:=HZ0.out.rowAt.2;have r3:=HQ0.out.rowAt.1;have r4:=HQ0.out.rowAt.2
 gi_upto_region 4 with (refine(callsIn_wide.2 (HCK.out _ HB0.out)).mono ?_;rintro e1 w1 ⟨rfl,hb1⟩;have HB1:=Lib.hid (HB0.out.trans (hb1.mono (hb0▸HB0.out.size)));have HZ1:=Lib.hid (HZ0.out.ext hb1);have HQ1:=Lib.hid (HQ0.out.ext hb1);have HP1:=Lib.hid (HP0.out.ext hb1);clear hb1)
 clear r1 r2 r3 r4 HB0 HZ0 HQ0 HP0;have r1:=HZ1.out.rowAt.1;have r2:=HZ1.out.rowAt.2;have r3:=HQ1.out.rowAt.1;have r4:=HQ1.out.rowAt.2
 gi_upto_region 5 with (refine(callsIn_wide.2 (HAS.out _)).mono ?_;rintro e2 w2 ⟨⟨R,bq,rfl,hR,hbq,hlR,hlq⟩,hb2⟩;have HB2:=Lib.hid (HB1.out.trans (hb2.mono (hb0▸HB1.out.size)));have HQ2:=Lib.hid (HQ1.out.ext hb2);have HP2:=Lib.hid (HP1.out.ext hb2);have HR2:=Lib.hid (And.intro hR hbq);have HL2:=Lib.hid (And.intro hlR hlq);clear hb2 hR hbq hlR hlq)
 have HN2:=Lib.hid (show b0+1+1<w1.heap.size from HP1.out.lt);clear r1 r2 r3 r4 HB1 HZ1 HQ1 HP1
 gi_upto_region 6 with fail
 have HB3:=Lib.hid (HB2.out.trans ((ext_alloc w2 (.cells #[.slice none 0 0] 72)).mono (hb0▸HB2.out.size)));have HH3:=Lib.hid (Blk.new w2 #[.slice none 0 0] 72);have HQ3:=Lib.hid (HQ2.out.alloc (.cells #[.slice none 0 0] 72));have HP3:=Lib.hid (HP2.out.alloc (.cells #[.slice none 0 0] 72));have HR3:=Lib.hid (And.intro (HR2.out.1.alloc (.cells #[.slice none 0 0] 72)) (HR2.out.2.alloc (.cells #[.slice none 0 0] 72)));have hN3:b0+1+1<w2.heap.size:=HP2.out.lt;have hR2:R<w2.heap.size:=HR2.out.1.lt;clear HB2 HQ2 HP2 HR2;generalize w2.alloc (.cells #[.slice none 0 0] 72)=w3 at *
 generalize w2.heap.size=b10 at *
 gi_wp2_with (refine(callsIn_wide.2 (HPA.out _ _)).mono ?_;rintro e4 w4 ⟨rfl,rfl⟩)
 have HB4:=Lib.hid (HB3.out.trans ((ext_alloc w3 (.cells #[.pointer (some ⟨R,0,none⟩)] 240)).mono (hb0▸HB3.out.size)));have HH4:=Lib.hid (HH3.out.alloc (.cells #[.pointer (some ⟨R,0,none⟩)] 240));have HQ4:=Lib.hid (HQ3.out.alloc (.cells #[.pointer (some ⟨R,0,none⟩)] 240));have HP4:=Lib.hid (HP3.out.alloc (.cells #[.pointer (some ⟨R,0,none⟩)] 240));have HR4:=Lib.hid (And.intro (HR3.out.1.alloc (.cells #[.pointer (some ⟨R,0,none⟩)] 240)) (HR3.out.2.alloc (.cells #[.pointer (some ⟨R,0,none⟩)] 240)));have HO4:=Lib.hid (show One (w3.alloc (.cells #[.pointer (some ⟨R,0,none⟩)] 240)) w3.heap.size (.pointer (some ⟨R,0,none⟩)) 240 from Blk.new w3 _ _);have hb13:b10<w3.heap.size:=HH3.out.lt;have hsz4:w3.heap.size<(w3.alloc (.cells #[.pointer (some ⟨R,0,none⟩)] 240)).heap.size:=by simp
 clear HB3 HH3 HQ3 HP3 HR3;generalize w3.alloc (.cells #[.pointer (some ⟨R,0,none⟩)] 240)=W0 at *
 generalize w3.heap.size=b1 at *
 refine wpIn_range_own rfl (by omega) (gf:=197) (lb:=#[.pointer (some ⟨b1,0,none⟩)]) rfl trivial (enters_of Tryz.func197 (by kernel_rfl) rfl)
  (enc:=fun v:Value=>v) (R:=fun _=>False) (b:=b0) (xs:=[.slice (some ⟨g,0,none⟩) 1 k]) (by omega)
  (HGV.out _ b1 R bq b0 W0 HB4.out HO4.out HR4.out.1 HR4.out.2)
  (fun pre S W=>QI w W0 b0 b10 R bd G c g k bq pre W/\ ∀i,S i->i≠b10)
  (fun pre S S' W W' row h hg hr hS=>⟨h.1.grown (by omega) (by have:=HL2.out.1;have:=HN2.out;omega) (by omega) (by omega) hg hr hb0,fun i hi=>(hS i hi).elim (h.2 i) (fun h1=>by have:=h.1.b10_lt;omega)⟩)
  ⟨⟨HB4.out,Nat.le_refl _,by rw[hqv];exact HQ4.out,HP4.out,HR4.out.1,HX.out _ HB4.out,.inl ⟨rfl,HH4.out⟩⟩,fun i hi=>hi.elim⟩
  (fun pre x S a' W=>a'={ tmps:=#[.pointer (some ⟨bd,0,none⟩),.agg Z,.agg QV,undef,.pointer (some ⟨b0,0,none⟩),.pointer (some ⟨b0+1,0,none⟩),.pointer (some ⟨b0+1+1,0,none⟩),.int .i64 0,.int .i64 0,.pointer (some ⟨R,0,none⟩),.pointer (some ⟨b10,0,none⟩),x,.agg Z,.agg QV,.int .i64 0,.int .i64 0,.bool false,undef,undef,.pointer (some ⟨bd,0,none⟩),.agg Z,.agg QV,.pointer (some ⟨R,0,none⟩),.pointer (some ⟨R,0,none⟩),.func (.func 197) #[] #[.pointer (some ⟨b1,0,none⟩)],x,undef,undef,undef,undef,undef,undef,undef,undef,undef,undef,undef,undef,undef,undef,undef,undef,undef,undef,undef,undef,undef,undef,undef],defers:=[] }/\QI w W0 b0 b10 R bd G c g k bq pre W/\ ∀i,S i->i≠b10)
  ?hax ?assign ?body ?done
 case hax =>
  rintro pre x S a' W W' row ⟨rfl,hi,hs⟩ hgr hr;exact⟨rfl,hi.grown (by omega) (by have:=HL2.out.1;have:=HN2.out;omega) (by omega) (by omega) hgr hr hb0,hs⟩
 case assign =>
  rintro l pre x rest S W hxs hi
  gi_wp2_with fail
  exact⟨KeepsOthers.refl _,⟨Nat.le_refl _,fun _ _ h _ _=>h⟩,trivial,hi⟩
 case body =>
  rintro l pre x rest S a' W hxs ⟨rfl,hi,hs⟩;obtain⟨rfl,rfl,rfl⟩:pre=[]/\x=.slice (some ⟨g,0,none⟩) 1 k/\rest=[]:=by
   rcases pre with _|⟨y,pre⟩
   ·rw[List.nil_append,List.cons.injEq] at hxs
    exact⟨rfl,hxs.1.symm,hxs.2.symm⟩
   ·have:=congrArg List.length hxs
    simp at this
  have HS:=Lib.hid hs;obtain⟨hB,hZ,hQ,hP,hR,hX,hH⟩:=hi;obtain⟨-,hH⟩|⟨h,-⟩:=hH
  rotate_left
  ·cases h
  rw[hqv] at hQ;have HW:=Lib.hid (And.intro hB (And.intro hZ (And.intro hQ (And.intro hP (And.intro hR (And.intro hX hH))))));have c10:=hH.cell 0 (v:=.slice none 0 0) rfl;have f10:=hH.fz 0;have q1:isRowAt W.drew (b0+1)=true:=hQ.rowAt.1;have q2:rowAt W.drew (b0+1)=QV:=hQ.rowAt.2;clear hB hZ hQ hP hR hX hH hxs hs
  gi_wp2_with fail
  gi_region_with_o ((refine(CallsIn.inRound l (callsIn_wide.2 (HFI.out _ (World.ownsRow.drew HW.out.2.2.2.2.2.1)))).mono ?_;rintro e8 w8 ⟨⟨g8,k8,rfl,ho8⟩,hb8⟩;have hd8:=(ext_drew W).trans (hb8.mono (ext_drew W).size);have c10e:=(HW.out.2.2.2.2.2.2.ext hd8).cell 0 (v:=.slice none 0 0) rfl;have f10e:=(HW.out.2.2.2.2.2.2.ext hd8).fz 0;obtain⟨v9,w9,hr9,ho9,hb9,hg9⟩:=run_appV (w0:=w8) (c:=k8) rcEl 72 (World.ownsRow_nil w8 w8.heap.size 84 3) (Rd.of_own ho8) (fun h=>by cases h) (flS_one one_rc [r1]) (by omega) (by omega) (Nat.le_refl _);rw[Nat.zero_add,List.nil_append] at ho9;obtain⟨g9,k9,rfl,-⟩:=World.ownsRow.form ho9 (by omega);have c10f:=((HW.out.2.2.2.2.2.2.ext hd8).ext hb9).cell 0 (v:=.slice none 0 0) rfl;have f10f:=((HW.out.2.2.2.2.2.2.ext hd8).ext hb9).fz 0;have H9:=Lib.hid (And.intro ho9 (And.intro hb9 hg9));have H8:=Lib.hid (And.intro ho8 hd8);clear ho9 hb9 hg9))
  all_goals
   have hW9:Below W.heap.size W w9:=hd8.trans (H9.out.2.1.mono hd8.size);have hz9:W0.heap.size<=w9.heap.size:=Nat.le_trans HW.out.2.1 hW9.size;have hn1:b0+1≠b10:=by omega
   have hn2:b0+2≠b10:=by omega
   have hnR:R≠b10:=by omega
   have hg9:g9≠b10:=by have:=(World.ownsRow.lt H9.out.1 g9 rfl).1;have:=HW.out.2.2.2.2.2.2.lt;have:=hd8.size;omega
   have HQN:=Lib.hid (show QI w W0 b0 b10 R bd G c g k bq [.slice (some ⟨g,0,none⟩) 1 k] (w9.setCell ⟨b10,0,none⟩ (.slice (some ⟨g9,0,none⟩) 1 k9)) from
    ⟨(HW.out.1.trans (hW9.mono (by have:=HW.out.1.size;omega))).setCell (p:=⟨b10,0,none⟩) (by show b0<=b10;omega) _,by simp;exact hz9,
      by rw[hqv];exact(HW.out.2.2.1.ext hW9).setCell hn1 _,(HW.out.2.2.2.1.ext hW9).setCell hn2 _,(HW.out.2.2.2.2.1.ext hW9).setCell hnR _,
      own_setCell_far (a:=⟨b10,0,none⟩) (own_block HW.out.2.2.2.2.2.1 fun i hi=>hW9.block i (World.ownsRow.lt HW.out.2.2.2.2.2.1 i hi).2) (fun h=>by have:g=b10:=Option.some.inj h;omega) _,
      .inr ⟨rfl,g9,k9,((HW.out.2.2.2.2.2.2.ext hd8).ext H9.out.2.1).put 0 _,own_setCell_far (a:=⟨b10,0,none⟩) (own_lower H9.out.1 (Nat.le_trans HW.out.2.1 hd8.size)) (fun h=>hg9 (Option.some.inj h)) _⟩⟩)
   have hKO:KeepsOthers W (w9.setCell ⟨b10,0,none⟩ (.slice (some ⟨g9,0,none⟩) 1 k9)):=KeepsOthers.trans ⟨hW9.size,fun i o h _=>(hW9.block i (Array.getElem?_eq_some_iff.1 h).1).trans h⟩ (KeepsOthers.setCell _ _ _);have hKs:Ks S W (w9.setCell ⟨b10,0,none⟩ (.slice (some ⟨g9,0,none⟩) 1 k9)):=⟨by simp;exact hW9.size,fun i o h _ hS=>by
    rw[Below.heap_setCell _ ⟨b10,0,none⟩ _ i (HS.out i hS)];exact(hW9.block i (Array.getElem?_eq_some_iff.1 h).1).trans h⟩
   have HKK:=Lib.hid (And.intro hKO (And.intro hKs HS.out));have k5:=HQN.out.Q.cell 5 (v:=.int .i64 9) (by rw[hqv];exact HQ5.out);have k10:(w9.setCell ⟨b10,0,none⟩ (.slice (some ⟨g9,0,none⟩) 1 k9)).cell? ⟨b10,0,none⟩=some (.slice (some ⟨g9,0,none⟩) 1 k9):=(((HW.out.2.2.2.2.2.2.ext hd8).ext H9.out.2.1).put 0 _).cell 0 rfl;clear hW9 hz9 hn1 hn2 hnR hg9 hKO hKs c10f f10f c10e f10e c10 f10 q1 q2 H9 H8 HW hd8 hr9;generalize w9.setCell ⟨b10,0,none⟩ (.slice (some ⟨g9,0,none⟩) 1 k9)=wz at *
   gi_wp2_with fail
   exact⟨HKK.out.1,HKK.out.2.1,HQN.out,HKK.out.2.2⟩
 case done =>
  rintro D' S' W hD' ⟨⟨hB,hZ,hQ,hP,hR,hX,hH⟩,-⟩ hK;obtain⟨h,-⟩|⟨-,g',k',hH,hO⟩:=hH
  ·cases h
  rw[hqv] at hQ;have HPG:=Lib.hid (fun(wx:World) (hx:Below W.heap.size W wx)=>page_q ⟨g',0,none⟩ k' wx (((Rd.of_own hO).below hx).more hx.size));rw[hqv] at HPG;have HW:=Lib.hid (And.intro hB (And.intro hP hK));have k21:=hR.cell 21 (v:=.int .i64 0) rfl;have k10:=hH.cell 0 (v:=.slice (some ⟨g',0,none⟩) 1 k') rfl;have q1:=hQ.rowAt.1;have q2:=hQ.rowAt.2;clear hB hZ hQ hP hR hX hH hO hK hqv
  gi_wp2_with (refine(callsIn_wide.2 (HPG.out _ (Below.refl _ _))).mono ?_;rintro e9 w9 ⟨⟨g9,k9,rfl,ho9⟩,hb9⟩;have P9:=HW.out.2.1.ext hb9;have z0:=P9.cell 0 rfl;have z1:=P9.cell 1 rfl;have f0:=P9.fz 0;have f1:=P9.fz 1;have H9:=Lib.hid (And.intro ho9 (And.intro hb9 P9));clear ho9 hb9 P9)
  have hKl:D'<W.heap.size:=(Array.getElem?_eq_some_iff.1 HW.out.2.2).1;have hne:D'≠b0+1+1:=by omega
  have hKd:((w9.setCell ⟨b0+1+1,0,none⟩ (.slice (some ⟨g9,0,none⟩) 1 k9)).setCell ⟨b0+1+1,1,none⟩ (.int .i64 0)).heap[D']? =some (.deferred (some [])):=by
   rw[Below.heap_setCell _ ⟨b0+1+1,1,none⟩ _ D' hne,Below.heap_setCell _ ⟨b0+1+1,0,none⟩ _ D' hne,H9.out.2.1.block D' hKl];exact HW.out.2.2
  have hPz:=(H9.out.2.2.put 0 (.slice (some ⟨g9,0,none⟩) 1 k9)).put 1 (.int .i64 0);have hgN:g9≠b0+1+1:=by have:=(World.ownsRow.lt H9.out.1 g9 rfl).1;have:=HW.out.2.1.lt;omega
  have hOz:((w9.setCell ⟨b0+1+1,0,none⟩ (.slice (some ⟨g9,0,none⟩) 1 k9)).setCell ⟨b0+1+1,1,none⟩ (.int .i64 0)).ownsRow W.heap.size 84 3 (.slice (some ⟨g9,0,none⟩) 1 k9) 1 (flS [r1]):=own_setCell_far (a:=⟨b0+1+1,1,none⟩) (own_setCell_far (a:=⟨b0+1+1,0,none⟩) H9.out.1 (fun h=>hgN (Option.some.inj h)) _) (fun h=>hgN (Option.some.inj h)) _;have hbW:b0<=W.heap.size:=by have:=HW.out.2.1.lt;omega
  have hBz:Below b0 w ((w9.setCell ⟨b0+1+1,0,none⟩ (.slice (some ⟨g9,0,none⟩) 1 k9)).setCell ⟨b0+1+1,1,none⟩ (.int .i64 0)):=((HW.out.1.trans (H9.out.2.1.mono hbW)).setCell (p:=⟨b0+1+1,0,none⟩) (by show b0<=b0+1+1;omega) _).setCell (p:=⟨b0+1+1,1,none⟩) (by show b0<=b0+1+1;omega) _;generalize (w9.setCell ⟨b0+1+1,0,none⟩ (.slice (some ⟨g9,0,none⟩) 1 k9)).setCell ⟨b0+1+1,1,none⟩ (.int .i64 0)=wz at *
  have hgD:=grownBy_putObj' wz D' (.deferred none);refine⟨by simp,.inl ⟨_,_,rfl,run_takeDeferred hKd,?_⟩⟩;refine⟨_,results_cell2 rfl rfl rfl (hPz.grown hgD (by intro e;exact hne (Option.some.inj e))) Tryz.underlying170 rfl pg_info,⟨⟨g9,k9,rfl,own_lower (own_grown (w:=wz) hOz hgD (fun r e=>by cases e;exact .inr ⟨_,hKd,rfl⟩)) (by rw[hb0];exact hbW)⟩,?_⟩⟩;rw[hb0];exact hBz.trans ⟨hgD.os,hgD.tape,hgD.output,hgD.size,fun i hi=>hgD.block i (Nat.lt_of_lt_of_le hi (by have:=hBz.size;omega)) (fun e=>by have:=Option.some.inj e;omega)⟩
end Gq
end Go.Proofs.YtejcdhdfanfkbaaGreat
namespace Go.Proofs.YtejcdhdfanfkbaaGreat
namespace Gq
open Go.RowKit Hd Rd Lg Dk Sn
open Go.Proofs.YtejcdhdfanfkbaaGreat.Op Go.Proofs.YtejcdhdfanfkbaaGreat.Rf
theorem loadAt_s7 (x:Value):Instr.loadAt 74 x=loadRow 74 x:=rfl
attribute [local go_sem ↓] loadAt_s7
attribute [local go_sem] run_loadRow
set_option maxHeartbeats 6400000 in
set_option maxRecDepth 100000 in
theorem take_q (bd G c g k:Nat) (S:Nat->Prop) (D:DS) (w:World) (hD:DiskAt w S bd D) (hW:W2 w G c g k) (hz:(readP D (segN 1 1)).2=0) :
  Calls Tryz.prog 30 #[.pointer (some ⟨bd,0,none⟩),.agg (cs2 G c g k),.slice none 0 0,.string ⟨#[97]⟩,.int .i64 9] w fun e w'=>(∃g' k',e=.returned (.tuple #[.slice (some ⟨g',0,none⟩) 1 k',.int .i64 0])/\w'.ownsRow w.heap.size 84 3 (.slice (some ⟨g',0,none⟩) 1 k') 1 (flS [r1]))/\Below w.heap.size w w':=by
 have mixed:Tryz.prog.follows .mixedOrders=true:=by kernel_rfl
 have HCK:=Lib.hid (fun wx=>show Calls Tryz.prog 15 #[.slice none 0 0] wx fun e w'=>e=.returned (.int .i64 0)/\Below wx.heap.size wx w' from Fo.fcheck_any none 0 0 [] wx Rd.nil (by omega));have HNC:=Lib.hid (fun wx=>show Calls Tryz.prog 44 #[.string ⟨#[97]⟩] wx fun e w'=>e=.returned (.int .i64 0)/\Below wx.heap.size wx w' from Nm.check_any ⟨#[97]⟩ wx);have HNX:=Lib.hid (fun wx=>show Calls Tryz.prog 18 #[.slice none 0 0,.string ⟨#[97]⟩] wx fun e w'=>e=.returned (.int .i64 1)/\Below wx.heap.size wx w' from Fo.next_any none 0 0 [] ⟨#[97]⟩ wx Rd.nil (by omega));have HGQ:=Lib.hid (fun(wx:World) (hb:Below w.heap.size w wx)=>query_q bd G c g k S D wx (hD.ext hb) (hW.ext hb) hz);have hz18:(cs2 G c g k).size=18:=rfl;have hrt18:RowTy Tryz.prog 74 18:=⟨st_info,_,Tryz.underlying74⟩
 clear hD hW hz;generalize cs2 G c g k=Z at *
 unfold qv at HGQ;have HB0:=Lib.hid (ext_alloc w (.cells Z 74));have HZ0:=Lib.hid (Blk.new w Z 74)
 go_enter Tryz.func30, Tryz.ntmps30
 go_upto_region 1 with fail
 generalize w.alloc (.cells Z 74)=w0 at *
 go_upto_region 8 with (first
  |(go_at_call 15;refine(HCK.out _).mono ?_;rintro e1 w1 ⟨rfl,hb1⟩;have HB1:=Lib.hid (HB0.out.trans (hb1.mono HB0.out.size));have HZ1:=Lib.hid (HZ0.out.ext hb1);clear hb1)
  |(go_at_call 44;refine(HNC.out _).mono ?_;rintro e2 w2 ⟨rfl,hb2⟩;have HB2:=Lib.hid (HB1.out.trans (hb2.mono HB1.out.size));have HZ2:=Lib.hid (HZ1.out.ext hb2);clear hb2)
  |(go_at_call 18;refine(HNX.out _).mono ?_;rintro e3 w3 ⟨rfl,hb3⟩;have HB3:=Lib.hid (HB2.out.trans (hb3.mono HB2.out.size));have HZ3:=Lib.hid (HZ2.out.ext hb3);clear hb3))
 have HB4:=Lib.hid (HB3.out.trans ((ext_alloc w3 (.cells #[.int .i64 0,.int .i64 1000000000,.int .i64 0,.int .i64 1000000000,.string ⟨#[]⟩,.int .i64 9,.int .i64 1] 168)).mono HB3.out.size));have HZ4:=HZ3.out.alloc (.cells #[.int .i64 0,.int .i64 1000000000,.int .i64 0,.int .i64 1000000000,.string ⟨#[]⟩,.int .i64 9,.int .i64 1] 168);have HQ4:=Blk.new w3 #[.int .i64 0,.int .i64 1000000000,.int .i64 0,.int .i64 1000000000,.string ⟨#[]⟩,.int .i64 9,.int .i64 1] 168;have r1:=HZ4.rowAt.1;have r2:=HZ4.rowAt.2;have k0:=HQ4.cell 0 (v:=.int .i64 0) rfl;have k1:=HQ4.cell 1 (v:=.int .i64 1000000000) rfl;have k2:=HQ4.cell 2 (v:=.int .i64 0) rfl;have k3:=HQ4.cell 3 (v:=.int .i64 1000000000) rfl;have k4:=HQ4.cell 4 (v:=.string ⟨#[]⟩) rfl;have k5:=HQ4.cell 5 (v:=.int .i64 9) rfl;have k6:=HQ4.cell 6 (v:=.int .i64 1) rfl;clear HZ4 HQ4 HZ0 HZ1 HZ2 HZ3 HB0 HB1 HB2 HB3;generalize w3.alloc (.cells #[.int .i64 0,.int .i64 1000000000,.int .i64 0,.int .i64 1000000000,.string ⟨#[]⟩,.int .i64 9,.int .i64 1] 168)=w4 at *
 go_wp2_with (first
  |(go_at_call 84;refine(HGQ.out _ HB4.out).mono ?_;rintro e5 w5 ⟨⟨g5,k5',rfl,ho5⟩,hb5⟩;have HO5:=Lib.hid (own_lower ho5 HB4.out.size);have HB5:=Lib.hid (HB4.out.trans (hb5.mono HB4.out.size));clear ho5 hb5))
 go_ret2
 exact⟨⟨g5,k5',rfl,World.ownsRow.alloc HO5.out _⟩,HB5.out.trans ((ext_alloc w5 _).mono HB5.out.size)⟩
end Gq
end Go.Proofs.YtejcdhdfanfkbaaGreat
