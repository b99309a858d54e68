/- salvage.made of the first entry alone. maps.Clone of a directory; disk: settle, DirSync. -/
import Derived.Test.YtphfmgapiimliaaGreatSc35
import Derived.Test.YtphfmgapiimliaaGreatSc10
import Derived.Test.YtphfmgapiimliaaGreatSc18
import Derived.Shelf.SlMaps.Clone
namespace Go.Proofs.YtphfmgapiimliaaGreat
namespace Sv
open Go.RowKit Hd Rd Fm Sn Nf Dk Gp
open Go.Proofs.YtphfmgapiimliaaGreat.Op Go.Proofs.YtphfmgapiimliaaGreat.Rf
theorem results_cells2 {P:Program} {fn:Func} {tmps:Array Value} {w:World} {a b:Nat} {t t':TypeId} {g g':Nat} {c c':Array Value} {d d':TypeDesc} (hr:fn.results= #[.cell a t,.cell b t']) (ht:tmps.getD a undef=.pointer (some ⟨g,0,none⟩)) (hb:tmps.getD b undef=.pointer (some ⟨g',0,none⟩))
  (hh:Blk w g c t) (hu:P.underlying t=some d) (hd:(match d with|.struct _|.array _ _=>true|_=>false)=true) (hi:(P.info? t).map (·.size)=some c.size)
  (hh':Blk w g' c' t') (hu':P.underlying t'=some d') (hd':(match d' with|.struct _|.array _ _=>true|_=>false)=true) (hi':(P.info? t').map (·.size)=some c'.size) :
  (results fn tmps).run P w=.ok (.tuple #[.agg c,.agg c']) w:=by
 unfold results;rw[hr];have ht2:tmps[a]?.getD undef=.pointer (some ⟨g,0,none⟩):=by rw[<-ht];simp[Array.getD_eq_getD_getElem?]
 have hb2:tmps[b]?.getD undef=.pointer (some ⟨g',0,none⟩):=by rw[<-hb];simp[Array.getD_eq_getD_getElem?]
 simp[ht2,hb2,asAddr,run_loadVar_row w g t t c (0,0) d hh hu hd hi,run_loadVar_row w g' t' t' c' (0,0) d' hh' hu' hd' hi']
theorem blk_drew {w:World} {g:Nat} {cs:Array Value} {t:TypeId} (h:Blk w g cs t):Blk w.drew g cs t:=h
theorem rd_cell1 {w:World} {B g:Nat} (h:Rd w B 9 (some ⟨g,0,none⟩) 1 (flS [e1])) (k:Nat) {u:Value} (hu:(flS [e1])[k]? =some u):w.cell? ⟨g,k,none⟩=some u:=by
 obtain⟨ad,e,-,hc⟩:=h.cells (by omega);cases e
 have:=hc k u hu
 rwa [Addr.add_lit,Nat.zero_add] at this
set_option maxHeartbeats 6400000 in
set_option maxRecDepth 100000 in
theorem made_one (g c:Nat) (w:World) (hrd:Rd w w.heap.size 9 (some ⟨g,0,none⟩) 1 (flS [e1])) :
  Calls Tryz.prog 67 #[.slice (some ⟨g,0,none⟩) 1 c] w fun e w'=>e=.returned (.tuple #[.agg #[.int .i64 1,.int .i64 2,.int .i64 0,.int .i64 1,.slice (some ⟨g,0,none⟩) 1 c],.agg #[.int .i64 0,.int .i64 0,.int .i64 0]])/\Below w.heap.size w w':=by
 have mixed:Tryz.prog.follows .mixedOrders=true:=by kernel_rfl
 have hb:=ext_second w (.cells #[.int .i64 0,.int .i64 0,.int .i64 0,.int .i64 0,.slice none 0 0] 26) (.cells #[.int .i64 0,.int .i64 0,.int .i64 0] 35);have HB:=Lib.hid hb;have HM:=Lib.hid ((Blk.new w #[.int .i64 0,.int .i64 0,.int .i64 0,.int .i64 0,.slice none 0 0] 26).alloc (.cells #[.int .i64 0,.int .i64 0,.int .i64 0] 35));have HH:=Lib.hid (blk_second w (.cells #[.int .i64 0,.int .i64 0,.int .i64 0,.int .i64 0,.slice none 0 0] 26) #[.int .i64 0,.int .i64 0,.int .i64 0] 35);have HR:=Lib.hid (fun(wx:World) (hx:Below w.heap.size w wx) (k:Nat) (u:Value) (hu:(flS [e1])[k]? =some u)=>rd_cell1 (hrd.below hx) k hu);clear hrd hb
 go_enter Tryz.func67, Tryz.ntmps67
 go_upto_region 1 with fail
 generalize (w.alloc (.cells #[.int .i64 0,.int .i64 0,.int .i64 0,.int .i64 0,.slice none 0 0] 26)).alloc (.cells #[.int .i64 0,.int .i64 0,.int .i64 0] 35)=w0 at *
 have c0:=HR.out w0 HB.out 0 (.int .i64 1) rfl;have c1:=HR.out w0 HB.out 1 (.int .i64 1) rfl;have c2:=HR.out w0 HB.out 2 (.int .i64 1) rfl;have c3:=HR.out w0 HB.out 3 (.bool false) rfl;have c4:=HR.out w0 HB.out 4 (.int .i64 0) rfl;have c5:=HR.out w0 HB.out 5 (.int .i64 0) rfl;have c6:=HR.out w0 HB.out 6 (.int .i64 0) rfl;have c7:=HR.out w0 HB.out 7 (.int .i64 0) rfl;have c8:=HR.out w0 HB.out 8 (.int .i64 0) rfl;go_upto_region 2 with fail
 have hb2:=ext_alloc w0 (.cells #[.int .i64 1,.int .i64 1,.int .i64 1,.bool false,.int .i64 0,.int .i64 0,.int .i64 0,.int .i64 0,.int .i64 0] 48);have HB2:=Lib.hid (HB.out.trans (hb2.mono HB.out.size));have HM2:=Lib.hid (HM.out.ext hb2);have HH2:=Lib.hid (HH.out.ext hb2);have HE2:=Lib.hid (Blk.new w0 #[.int .i64 1,.int .i64 1,.int .i64 1,.bool false,.int .i64 0,.int .i64 0,.int .i64 0,.int .i64 0,.int .i64 0] 48);have HO2:=Lib.hid (show w.heap.size+1<w0.heap.size from HH.out.lt);clear c0 c1 c2 c3 c4 c5 c6 c7 c8 hb2 HB HM HH;generalize w0.alloc (.cells #[.int .i64 1,.int .i64 1,.int .i64 1,.bool false,.int .i64 0,.int .i64 0,.int .i64 0,.int .i64 0,.int .i64 0] 48)=w2 at *
 generalize w0.heap.size=be at *
 have e3:=HE2.out.cell 3 (v:=.bool false) rfl;go_upto_region 3 with fail
 have hb3:=ext_alloc w2 (.cells #[.int .i64 0,.int .i64 0,.int .i64 0] 35);have HB3:=Lib.hid (HB2.out.trans (hb3.mono HB2.out.size));have HM3:=Lib.hid (HM2.out.ext hb3);have HH3:=Lib.hid (HH2.out.ext hb3);have HE3:=Lib.hid (HE2.out.ext hb3);have HN3:=Lib.hid (Blk.new w2 #[.int .i64 0,.int .i64 0,.int .i64 0] 35);have HO3:=Lib.hid (show be<w2.heap.size from HE2.out.lt);clear e3 hb3 HB2 HM2 HH2 HE2;generalize w2.alloc (.cells #[.int .i64 0,.int .i64 0,.int .i64 0] 35)=w3 at *
 generalize w2.heap.size=bn at *
 have e3:=HE3.out.cell 3 (v:=.bool false) rfl;go_wp2_with fail
 clear e3;go_loopw [6,32] (fun s6 s32 wr=>s6=.int .i64 0/\ ∃k:Nat,s32=.int .i64 (k:Int)/\k<=1/\Hid (Below w3.heap.size w3 wr)) (fun _ v _=>1-(intOf v).toNat)
 case atStart=>exact⟨by go_num,0,by go_num,by omega,Lib.hid (Below.refl _ _)⟩
 case round =>
  obtain⟨rfl,k,rfl,hk,HX⟩:=hrel;have HBX:=Lib.hid (HB3.out.trans (HX.out.mono HB3.out.size));rcases k with _|k
  ·have c0:=HR.out wr HBX.out 0 (.int .i64 1) rfl
   have c1:=HR.out wr HBX.out 1 (.int .i64 1) rfl;have c2:=HR.out wr HBX.out 2 (.int .i64 1) rfl;have c3:=HR.out wr HBX.out 3 (.bool false) rfl;have c4:=HR.out wr HBX.out 4 (.int .i64 0) rfl;have c5:=HR.out wr HBX.out 5 (.int .i64 0) rfl;have c6:=HR.out wr HBX.out 6 (.int .i64 0) rfl;have c7:=HR.out wr HBX.out 7 (.int .i64 0) rfl;have c8:=HR.out wr HBX.out 8 (.int .i64 0) rfl;have HQ:=Lib.hid (HX.out.trans ((ext_alloc wr (.cells #[.int .i64 1,.int .i64 1,.int .i64 1,.bool false,.int .i64 0,.int .i64 0,.int .i64 0,.int .i64 0,.int .i64 0] 48)).mono HX.out.size));go_wp2_with fail
   go_roundw
   ·exact⟨by go_num,1,by go_num,by omega,HQ.out⟩
   ·simp[intOf]
  ·obtain rfl:k=0:=by omega
   have f2:=HR.out wr HBX.out 2 (.int .i64 1) rfl;have x0:=(HE3.out.ext HX.out).cell 0 (v:=.int .i64 1) rfl;have n0:=(HN3.out.ext HX.out).cell 0 (v:=.int .i64 0) rfl;have n1:=(HN3.out.ext HX.out).cell 1 (v:=.int .i64 0) rfl;have n2:=(HN3.out.ext HX.out).cell 2 (v:=.int .i64 0) rfl;have HMX:=Lib.hid (HM3.out.ext HX.out);have HHX:=Lib.hid (HH3.out.ext HX.out);have m0:=HMX.out.cell 0 (v:=.int .i64 0) rfl;have m1:=HMX.out.cell 1 (v:=.int .i64 0) rfl;have m2:=HMX.out.cell 2 (v:=.int .i64 0) rfl;have m3:=HMX.out.cell 3 (v:=.int .i64 0) rfl;have m4:=HMX.out.cell 4 (v:=.slice none 0 0) rfl;have h0:=HHX.out.cell 0 (v:=.int .i64 0) rfl;have h1:=HHX.out.cell 1 (v:=.int .i64 0) rfl;have h2:=HHX.out.cell 2 (v:=.int .i64 0) rfl;have zm0:=HMX.out.fz 0;have zm1:=HMX.out.fz 1;have zm2:=HMX.out.fz 2;have zm3:=HMX.out.fz 3;have zm4:=HMX.out.fz 4;have zh0:=HHX.out.fz 0;have zh1:=HHX.out.fz 1;have zh2:=HHX.out.fz 2;generalize hbh:w.heap.size+1=b1 at *
   have hne:w.heap.size≠b1:=by omega
   have hne2:w.heap.size≠bn:=by have:=HO2.out;have:=HO3.out;omega
   have hne3:bn≠w.heap.size:=Ne.symm hne2;have hne4:bn≠b1:=by have:=HO2.out;have:=HO3.out;omega
   have hne5:b1≠w.heap.size:=Ne.symm hne;have hle:w.heap.size<=b1:=by omega
   have HL:=Lib.hid hle;clear hbh hle;go_upto_region 13 with fail
   go_region
   have HF1:=Lib.hid (blk_drew (show Blk (((((((((wr.setCell ⟨w.heap.size,0,none⟩ (.int .i64 1)).setCell ⟨w.heap.size,1,none⟩ (.int .i64 2)).setCell ⟨w.heap.size,2,none⟩ (.int .i64 0)).setCell ⟨w.heap.size,3,none⟩ (.int .i64 1)).setCell ⟨w.heap.size,4,none⟩ (.slice (some ⟨g,0,none⟩) 1 c)).setCell ⟨b1,0,none⟩ (.int .i64 0)).setCell ⟨b1,1,none⟩ (.int .i64 0)).setCell ⟨b1,2,none⟩ (.int .i64 0))) w.heap.size #[.int .i64 1,.int .i64 2,.int .i64 0,.int .i64 1,.slice (some ⟨g,0,none⟩) 1 c] 26 from((((((((HMX.out.put 0 (.int .i64 1)).put 1 (.int .i64 2)).put 2 (.int .i64 0)).put 3 (.int .i64 1)).put 4 (.slice (some ⟨g,0,none⟩) 1 c)).setCell (j:=0) hne (.int .i64 0)).setCell (j:=1) hne (.int .i64 0)).setCell (j:=2) hne (.int .i64 0))));have HF2:=Lib.hid (blk_drew (show Blk (((((((((wr.setCell ⟨w.heap.size,0,none⟩ (.int .i64 1)).setCell ⟨w.heap.size,1,none⟩ (.int .i64 2)).setCell ⟨w.heap.size,2,none⟩ (.int .i64 0)).setCell ⟨w.heap.size,3,none⟩ (.int .i64 1)).setCell ⟨w.heap.size,4,none⟩ (.slice (some ⟨g,0,none⟩) 1 c)).setCell ⟨b1,0,none⟩ (.int .i64 0)).setCell ⟨b1,1,none⟩ (.int .i64 0)).setCell ⟨b1,2,none⟩ (.int .i64 0))) b1 #[.int .i64 0,.int .i64 0,.int .i64 0] 35 from((((((((HHX.out.setCell (j:=0) hne5 (.int .i64 1)).setCell (j:=1) hne5 (.int .i64 2)).setCell (j:=2) hne5 (.int .i64 0)).setCell (j:=3) hne5 (.int .i64 1)).setCell (j:=4) hne5 (.slice (some ⟨g,0,none⟩) 1 c)).put 0 (.int .i64 0)).put 1 (.int .i64 0)).put 2 (.int .i64 0))));have HF3:=Lib.hid (((((((((HBX.out.setCell (p:=⟨w.heap.size,0,none⟩) (Nat.le_refl _) (.int .i64 1)).setCell (p:=⟨w.heap.size,1,none⟩) (Nat.le_refl _) (.int .i64 2)).setCell (p:=⟨w.heap.size,2,none⟩) (Nat.le_refl _) (.int .i64 0)).setCell (p:=⟨w.heap.size,3,none⟩) (Nat.le_refl _) (.int .i64 1)).setCell (p:=⟨w.heap.size,4,none⟩) (Nat.le_refl _) (.slice (some ⟨g,0,none⟩) 1 c)).setCell (p:=⟨b1,0,none⟩) HL.out (.int .i64 0)).setCell (p:=⟨b1,1,none⟩) HL.out (.int .i64 0)).setCell (p:=⟨b1,2,none⟩) HL.out (.int .i64 0)).drew);go_wp2_with fail
   refine bodyPost_ret (v:=.tuple #[.agg #[.int .i64 1,.int .i64 2,.int .i64 0,.int .i64 1,.slice (some ⟨g,0,none⟩) 1 c],.agg #[.int .i64 0,.int .i64 0,.int .i64 0]]) (by exact results_cells2 rfl rfl rfl HF1.out Tryz.underlying26 rfl mf_info HF2.out Tryz.underlying35 rfl hd_inf) (by exact rfl) ?_;exact⟨rfl,HF3.out⟩
end Sv
end Go.Proofs.YtphfmgapiimliaaGreat
namespace Go.Proofs.YtphfmgapiimliaaGreat
namespace Dk
open Go.RowKit
set_option maxHeartbeats 1600000 in
set_option maxRecDepth 100000 in
theorem clone_any (w:World) {g:Nat} {l:List (ByteArray×Value)} (hm:Mp w g l) :
  Calls Tryz.prog 203 #[.map (some g)] w fun e w'=>e=.returned (.map (some w.heap.size))/\Mp w' w.heap.size l/\Below w.heap.size w w'/\w'.heap.size=w.heap.size+1:=by
 obtain⟨es,clock,h1,h2,h3⟩:=hm;have hq:=fun w=>run_eql_map_nil_sl (P:=Tryz.prog) w 86 _ _ (some g) Tryz.underlying86
 have hr:=run_maps_clone_sl (P:=Tryz.prog) w 86 h1;have ht:=fun w' xT=>run_typeAssert_map_sl (P:=Tryz.prog) w' 86 xT _ _ (.map (some w.heap.size)) Tryz.underlying86
 go_enter Tryz.func203, Tryz.ntmps203
 go_wp2
 rw[run_callFunc_extern Tryz.func246 (by kernel_rfl) (by kernel_rfl) (by kernel_rfl) (e:=Extern.MapsClone.clone) (by kernel_rfl),hr];simp only[Result.andThen];rw[Oper.upon_value];go_wp2
 go_ret
 exact⟨rfl,⟨es,_,heap_alloc_new w _,h2,h3⟩,ext_alloc w _,by simp⟩
section
variable {w w':World} {S:Nat->Prop} {bd gN gS:Nat} {v:Value} {D:DS}
theorem Fit.settle (h:Fit D):Fit (settleD D) :=
 ⟨h.wfN,h.wfN,fun c hc=>(by cases hc),h.cap0,h.cap1,h.arm0,h.arm1,h.ops,h.big,fun k=>by
  show(apps (List.take k []) D.now).length<=200
  rw[List.take_nil];exact h.now_few,rfl⟩
theorem Dat.settle (h:Dat w S bd gN gS v D) {w1:World} (hm:Mp w1 w.heap.size (vs D.now)) (hb:Below w.heap.size w w1) (hs:w1.heap.size=w.heap.size+1) :
  Dat ((w1.setCell ⟨bd,1,none⟩ (.map (some w.heap.size))).setCell ⟨bd,2,none⟩ (.slice none 0 0)) (fun k=>S k∨k=w.heap.size) bd gN w.heap.size (.slice none 0 0) (settleD D):=by
 have h1:=h.ext hb;have hne:w.heap.size≠bd:=by have:=h.lt _ h.sB;omega
 have hk:∀k,k≠bd->((w1.setCell ⟨bd,1,none⟩ (.map (some w.heap.size))).setCell ⟨bd,2,none⟩ (.slice none 0 0)).heap[k]? =w1.heap[k]? :=fun k hk=>by
  rw[Below.heap_setCell _ ⟨bd,2,none⟩ _ k hk,Below.heap_setCell _ ⟨bd,1,none⟩ _ k hk]
 refine⟨(h1.box.put 1 _).put 2 _,h1.now.same (hk _ h.bN),hm.same (hk _ hne),World.ownsRow_nil _ _ _ _,fun b p hp=>(hk _ (h.bF hp).1).trans (h1.fl b p hp),?_,.inl h.sB,.inl h.sN,.inr rfl,fun g hg=>(by cases hg),fun b p hp=>.inl (h.sF b p hp),fun b hb'=>?_,h.fit.settle⟩
 ·have:=h.lt _ h.sN;omega
 ·show b<_
  rw[show((w1.setCell ⟨bd,1,none⟩ (.map (some w.heap.size))).setCell ⟨bd,2,none⟩ (.slice none 0 0)).heap.size=w1.heap.size from by simp];rcases hb' with hb'|rfl
  ·have:=h.lt b hb';omega
  ·omega
theorem gr_settle (h:S bd) {w1:World} (hb:Below w.heap.size w w1) (x y:Value) :
  Gr S w (fun k=>S k∨k=w.heap.size) ((w1.setCell ⟨bd,1,none⟩ x).setCell ⟨bd,2,none⟩ y) :=
 ((Gr.of_below hb).trans ((Gr.setCell h 1 x).trans (Gr.setCell h 2 y))).more fun k hk=>hk.imp_right (by omega)
set_option maxHeartbeats 1600000 in
theorem settle_raw (hx:Blk w bd (dcells gN gS v D) 89) {l:List (ByteArray×Value)} (hm:Mp w gN l) :
  Calls Tryz.prog 164 #[.pointer (some ⟨bd,0,none⟩)] w fun e w'=>e=.returned (.tuple #[])/\ ∃w1,Mp w1 w.heap.size l/\Below w.heap.size w w1/\w1.heap.size=w.heap.size+1/\w'=(w1.setCell ⟨bd,1,none⟩ (.map (some w.heap.size))).setCell ⟨bd,2,none⟩ (.slice none 0 0):=by
 have c0:=hx.cell 0 (v:=.map (some gN)) rfl;have HC:=Lib.hid (clone_any w hm);have HX:=Lib.hid (fun w1 (hb:Below w.heap.size w w1)=>hx.ext hb);clear hx hm
 go_enter Tryz.func164, Tryz.ntmps164
 go_wp2_with (go_at_call 203;refine HC.out.mono ?_;rintro e1 w1 ⟨rfl,hm,hb,hs⟩;have f1:=(HX.out w1 hb).fz 1;have f2:=(HX.out w1 hb).fz 2;have k1:=(HX.out w1 hb).cell 1 rfl;have k2:=(HX.out w1 hb).cell 2 rfl;have H1:=Lib.hid (And.intro hm (And.intro hb hs));clear hm hb hs)
 go_end0
 exact⟨rfl,w1,H1.out.1,H1.out.2.1,H1.out.2.2,rfl⟩
theorem settle_any (h:DiskAt w S bd D):Calls Tryz.prog 164 #[.pointer (some ⟨bd,0,none⟩)] w fun e w'=>e=.returned (.tuple #[])/\ ∃S2,DiskAt w' S2 bd (settleD D)/\Gr S w S2 w':=by
 obtain⟨gN,gS,v,h⟩:=h;refine(settle_raw h.box h.now).mono ?_;rintro e w' ⟨rfl,w1,h1,h2,h3,rfl⟩;exact⟨rfl,_,⟨gN,_,_,h.settle h1 h2 h3⟩,gr_settle h.sB h2 _ _⟩
theorem dirsync_go (h:DiskAt w S bd D) (ho:D.off=false):Calls Tryz.prog 115 #[.pointer (some ⟨bd,0,none⟩)] w fun e w'=>e=.returned (.int .i64 (opE D))/\ ∃S',DiskAt w' S' bd (opS true settleD D)/\Gr S w S' w':=by
 have HU:=Lib.hid (up_any h);have hup:upE D=0:=by unfold upE;rw[ho];rfl
 rw[hup] at HU;have HO:=Lib.hid (op_any true 164 #[.pointer (some ⟨bd,0,none⟩)] #[] settleD h (enters_of Tryz.func164 (by kernel_rfl) rfl) fun w1 h1 g1=>settle_any h1);clear h ho hup
 go_enter Tryz.func115, Tryz.ntmps115
 go_wp2_with (first
  |(go_at_call 54;refine HU.out.mono ?_;rintro e1 w1 ⟨rfl,rfl⟩)
  |(go_at_call 117;refine HO.out.mono ?_;rintro e5 w5 ⟨rfl,S5,hD5,hG5⟩;have HD5:=Lib.hid (And.intro hD5 hG5);clear hD5 hG5))
 go_ret
 exact⟨rfl,S5,HD5.out⟩
end
end Dk
end Go.Proofs.YtphfmgapiimliaaGreat
