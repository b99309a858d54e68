/- disk: Sync's closure. disk: Append, where nothing stands against it. disk: Sync, Cut, where nothing stands against them. Names of files: numbers, segments' names. seg.of; a segment's file is synced, a frame is put behind it. seg: a segment's file is synced; a frame is put behind it. -/
import Derived.Test.YtejcdhdfanfkbaaGreatFb27
import Derived.Test.YtejcdhdfanfkbaaGreatFb07
import Derived.Deep.RegionHeld3
import Derived.Deep.RegionWith
import Derived.Test.YtejcdhdfanfkbaaGreatFb02
import Derived.Test.YtejcdhdfanfkbaaGreatFb18
import Derived.Test.YtejcdhdfanfkbaaGreatFb05
import Derived.Test.YtejcdhdfanfkbaaGreatFb22
namespace Go.Proofs.YtejcdhdfanfkbaaGreat
namespace Dk
open Go.RowKit
section
variable {w w':World} {S:Nat->Prop} {bd gN gS:Nat} {v:Value} {D:DS}
set_option maxHeartbeats 3200000 in
set_option maxRecDepth 100000 in
theorem sync1_any (h:DiskAt w S bd D) {b cf:Nat} {p:ByteArray×ByteArray} (hp:D.fl b=some p) (hc:cf<w.heap.size) (hcs: ¬ S cf) (hf:w.cell? ⟨cf,0,none⟩=some (.pointer (some ⟨b,0,none⟩))) :
  Calls Tryz.prog 111 #[.pointer (some ⟨cf,0,none⟩)] w fun e w'=>e=.returned (.tuple #[])/\ ∃S2,DiskAt w' S2 bd (setF b (p.2,p.2) D)/\Gr S w S2 w':=by
 have mixed:Tryz.prog.follows .mixedOrders=true:=by kernel_rfl
 obtain⟨gN,gS,v,h⟩:=h;have hB:=h.fl b p hp;have sb:=h.sF b p hp;have b0:=hB.cell 0 rfl;have b1:=hB.cell 1 rfl;have HSO:=Lib.hid (show ∀wx,Below w.heap.size w wx->(fun wx=>wx.cell? ⟨cf,0,none⟩=some (.pointer (some ⟨b,0,none⟩))/\wx.frozen? ⟨b,0,none⟩=false/\wx.frozen? ⟨b,1,none⟩=false) wx from fun wx hb =>
  ⟨(hb.cell (p:=⟨cf,0,none⟩) hc).trans hf,(hB.ext hb).fz 0,(hB.ext hb).fz 1⟩)
 have HS0:=Lib.hid (HSO.out w.drew ⟨rfl,rfl,rfl,Nat.le_refl _,fun _ _=>rfl⟩);have HB0:=Lib.hid (show Below w.heap.size w w.drew from⟨rfl,rfl,rfl,Nat.le_refl _,fun _ _=>rfl⟩);have HC:=Lib.hid (show ∀wx,Below w.heap.size w wx->wx.cell? ⟨b,0,none⟩=some (.string p.1)/\wx.cell? ⟨b,1,none⟩=some (.string p.2) from fun wx hb=>⟨(hB.ext hb).cell 0 rfl,(hB.ext hb).cell 1 rfl⟩);have HS7:=Lib.hid (show ∀wx,Below w.heap.size w wx->(fun wx=>wx.cell? ⟨cf,0,none⟩=some (.pointer (some ⟨b,0,none⟩))/\wx.frozen? ⟨b,0,none⟩=false/\wx.frozen? ⟨b,1,none⟩=false) ((wx.setCell ⟨b,0,none⟩ (.string p.2)).setCell ⟨b,1,none⟩ (.string p.2)) from fun wx hb=>by
  have q:Blk ((wx.setCell ⟨b,0,none⟩ (.string p.2)).setCell ⟨b,1,none⟩ (.string p.2)) b #[.string p.2,.string p.2] 133:=((hB.ext hb).put 0 _).put 1 _;have hne:cf≠b:=by rintro rfl;exact hcs sb
  refine⟨?_,q.fz 0,q.fz 1⟩;rw[World.cell?_of_block (w:=wx) (a:=⟨cf,0,none⟩) (by rw[Below.heap_setCell _ ⟨b,1,none⟩ _ cf hne,Below.heap_setCell _ ⟨b,0,none⟩ _ cf hne])];exact(hb.cell (p:=⟨cf,0,none⟩) hc).trans hf)
 have HH:=Lib.hid (show ∀wx,Below w.heap.size w wx->Dat ((wx.setCell ⟨b,0,none⟩ (.string p.2)).setCell ⟨b,1,none⟩ (.string p.2)) S bd gN gS v (setF b (p.2,p.2) D)/\Gr S w S ((wx.setCell ⟨b,0,none⟩ (.string p.2)).setCell ⟨b,1,none⟩ (.string p.2)) from fun wx hb=>by
  have h':=h.ext hb;have hbg:=(h.fit.big b p hp).2;exact⟨h'.bytes (by simp) (fun k _ hk=>by rw[Below.heap_setCell _ ⟨b,1,none⟩ _ k hk,Below.heap_setCell _ ⟨b,0,none⟩ _ k hk]) (by rw[hp];simp) (((hB.ext hb).put 0 _).put 1 _) hbg hbg,(Gr.of_below hb).trans ((Gr.setCell sb 0 _).trans (Gr.setCell sb 1 _))⟩)
 have HF:=Lib.hid (fun w=>fsync_any p.1 p.2 w);unfold fagg at HF;clear h hB hp hf
 go_enter Tryz.func111, Tryz.ntmps111
 have k2:=HS0.out.1;go_region_with (first
  |(go_at_call 112;refine(HF.out _).mono ?_;rintro e5 w5 ⟨rfl,hb5⟩;have hb6:=HB0.out.trans (hb5.mono HB0.out.size);have hS5:=HSO.out _ hb6;have k0:=(HC.out _ hb6).1;have k1:=(HC.out _ hb6).2;have k3:=hS5.1;have k4:=hS5.2.1;have k5:=hS5.2.2))
 all_goals go_end0
 all_goals exact⟨rfl,S,⟨gN,gS,v,(HH.out _ hb6).1⟩,(HH.out _ hb6).2⟩
end
end Dk
end Go.Proofs.YtejcdhdfanfkbaaGreat
namespace Go.Proofs.YtejcdhdfanfkbaaGreat
namespace Dk
open Go.RowKit
section
variable {w w':World} {S:Nat->Prop} {bd gN gS:Nat} {v:Value} {D:DS}
structure Ap (w:World) (S:Nat->Prop) (bd cf cg b:Nat) (p:ByteArray×ByteArray) (D:DS) (wx:World):Prop where
 disk:DiskAt wx S bd D
 gr:Gr S w S wx
 vf:Blk wx cf #[.pointer (some ⟨b,0,none⟩)] 127
 vg:Blk wx cg #[.string p.1,.string p.2] 133
 nf: ¬ S cf
 ng: ¬ S cg
theorem Ap.ext {cf cg b:Nat} {p:ByteArray×ByteArray} {wx wy:World} (h:Ap w S bd cf cg b p D wx) (hb:Below wx.heap.size wx wy):Ap w S bd cf cg b p D wy :=
 ⟨h.disk.ext hb,h.gr.trans (Gr.of_below hb),h.vf.ext hb,h.vg.ext hb,h.nf,h.ng⟩
theorem ap_new (h:DiskAt w S bd D) (b:Nat) (p:ByteArray×ByteArray) {w2:World} (hb:Below (w.alloc (.cells #[.pointer (some ⟨b,0,none⟩)] 127)).heap.size (w.alloc (.cells #[.pointer (some ⟨b,0,none⟩)] 127)) w2) :
  Ap w S bd w.heap.size w2.heap.size b p D (w2.alloc (.cells #[.string p.1,.string p.2] 133)):=by
 obtain⟨gN,gS,v,h⟩:=h;have h1:Below w.heap.size w w2:=(ext_alloc w _).trans (hb.mono (by simp));refine⟨⟨gN,gS,v,(h.ext h1).ext (ext_alloc w2 _)⟩,(Gr.of_below h1).trans (Gr.of_below (ext_alloc w2 _)),((Blk.new w _ _).ext hb).alloc _,Blk.new w2 _ _,h.gt (Nat.le_refl _),h.gt h1.size⟩
theorem op_file {fid:FuncId} {cf cg b:Nat} {p:ByteArray×ByteArray} {wx:World} (hen:∀args w,(callFunc fid args).run Tryz.prog w=.ok (.enter fid args) w)
  (hc:∀(w1:World) (D1:DS),DiskAt w1 S bd D1->D1.fl b≠none->Blk w1 cg #[.string p.1,.string p.2] 133->w1.cell? ⟨cf,0,none⟩=some (.pointer (some ⟨b,0,none⟩))->Calls Tryz.prog fid #[.pointer (some ⟨cg,0,none⟩),.pointer (some ⟨cf,0,none⟩)] w1 fun e w'=>e=.returned (.tuple #[])/\ ∃S2,DiskAt w' S2 bd (setF b p D1)/\Gr S w1 S2 w')
  (h:Ap w S bd cf cg b p D wx) (hb:D.fl b≠none) :
  Calls Tryz.prog 109 #[.pointer (some ⟨bd,0,none⟩),.bool false,.func (.func fid) #[] #[.pointer (some ⟨cg,0,none⟩),.pointer (some ⟨cf,0,none⟩)]] wx fun e w'=>e=.returned (.int .i64 (opE D))/\ ∃S',DiskAt w' S' bd (opS false (setF b p) D)/\Gr S w S' w':=by
 refine(op_any false fid #[] #[.pointer (some ⟨cg,0,none⟩),.pointer (some ⟨cf,0,none⟩)] (setF b p) h.disk hen fun w1 h1 g1=>?_).mono ?_
 ·exact hc w1 (tick D) h1 hb (g1.blk h.vg h.ng) ((g1.blk h.vf h.nf).cell 0 rfl)
 ·rintro e w' ⟨rfl,S',h2,g2⟩
  exact⟨rfl,S',h2,h.gr.trans g2⟩
set_option maxHeartbeats 3200000 in
set_option maxRecDepth 100000 in
theorem append_go (h:DiskAt w S bd D) {s text:ByteArray} {b:Nat} {p:ByteArray×ByteArray} (ho:D.off=false) (hl:lk s D.now=some b) (hp:D.fl b=some p) (h1:p.2.size+text.size<=1000000) (h2:(text.size:Int)+(usedD D:Int)<=D.cap) :
  Calls Tryz.prog 55 #[.pointer (some ⟨bd,0,none⟩),.string s,.string text] w fun e w'=>e=.returned (.int .i64 (opE D))/\ ∃S',DiskAt w' S' bd (opS false (setF b (p.1,p.2++text)) D)/\Gr S w S' w':=by
 have mixed:Tryz.prog.follows .mixedOrders=true:=by kernel_rfl
 have hF:=find_any h s;unfold findP at hF;rw[ho,hl] at hF;simp only[Bool.false_eq_true,if_false] at hF;unfold ptr at hF;have HA:=Lib.hid (fun w=>fapp_ok p.1 p.2 text w h1);unfold fagg at HA;have HN:=Lib.hid (fun w2 hb=>ap_new h b (p.1,p.2++text) (w2:=w2) hb);have HO:=Lib.hid (fun(cf cg:Nat) (wx:World) (ha:Ap w S bd cf cg b (p.1,p.2++text) D wx)=>op_file (enters_of Tryz.func110 (by kernel_rfl) rfl) (fun w1 D1 q1 q2 q3 q4=>app1_any q1 q2 q3 q4 (by
  obtain⟨gN,gS,v,h⟩:=h;exact(h.fit.big b p hp).1) (by rw[ByteArray.size_append];exact h1)) ha (by rw[hp];simp))
 have HU:=Lib.hid (fun(wx:World) (hd:DiskAt wx S bd D)=>used_any hd);have hcp:0<=D.cap/\D.cap<=10000000:=by
  obtain⟨gN,gS,v,h⟩:=h;exact⟨h.fit.cap0,h.fit.cap1⟩
 have HC3:=Lib.hid (fun(wx:World) (hd:DiskAt wx S bd D)=>show wx.cell? ⟨bd,3,none⟩=some (.int .i64 D.cap) from by
  obtain⟨gN,gS,v,hd⟩:=hd;exact hd.c3)
 have HGT:=Lib.hid (show decide (IntKind.i64.wrap (D.cap-(usedD D:Int))<(text.size:Int))=false from by
  rw[wrap_in (by omega) (by omega)];exact decide_eq_false (by omega))
 obtain⟨gN,gS,v,h⟩:=h;have hB:=h.fl b p hp;have b0:=hB.cell 0 (v:=.string p.1) rfl;have b1:=hB.cell 1 (v:=.string p.2) rfl;have lB:=hB.lt;clear h hB hp hl ho h1 h2;generalize p.2++text=T at *
 generalize usedD D=U at *
 generalize D.cap=C at *
 go_enter Tryz.func55, Tryz.ntmps55
 go_wp2_with (first
  |(go_at_call 105;refine hF.mono ?_;rintro e1 w1 ⟨rfl,rfl⟩)
  |(go_at_call 107;refine(HA.out _).mono ?_;rintro e2 w2 ⟨rfl,hb2⟩;have HA2:=Lib.hid (HN.out w2 hb2);clear hb2))
 generalize w2.alloc (.cells #[.string p.1,.string T] 133)=w3 at *
 have k3:∀q:Bw w3,q.to.cell? ⟨bd,3,none⟩=some (.int .i64 C):=fun q=>HC3.out _ (HA2.out.disk.ext q.h)
 have HU2:=Lib.hid (fun q:Bw w3=>HU.out q.to (HA2.out.disk.ext q.h));refine wp_region_quiet_below (by assumption) (by kernel_rfl) ?_
 repeat (first|go_big_quiet_skip|quiet_step (first|(go_at_call 108;refine below_of (HU2.out _))))
 refine wpQuiet_nil ?_;intro _ hw';obtain⟨q,rfl⟩:=hw';have HO2:=Lib.hid (HO.out _ _ q.to (HA2.out.ext q.h));clear k3 HU2;rw[HGT.out];go_wp2_with (go_at_call 109;refine HO2.out.mono ?_;rintro e5 w5 ⟨rfl,S5,hD5,hG5⟩;have HD5:=Lib.hid hD5;have HG5:=Lib.hid hG5;clear hD5 hG5)
 go_ret
 exact⟨rfl,S5,HD5.out,HG5.out⟩
end
end Dk
end Go.Proofs.YtejcdhdfanfkbaaGreat
namespace Go.Proofs.YtejcdhdfanfkbaaGreat
namespace Dk
open Go.RowKit
section
variable {w w':World} {S:Nat->Prop} {bd gN gS:Nat} {v:Value} {D:DS}
set_option maxHeartbeats 3200000 in
set_option maxRecDepth 100000 in
theorem sync_go (h:DiskAt w S bd D) {s:ByteArray} {b:Nat} {p:ByteArray×ByteArray} (ho:D.off=false) (hl:lk s D.now=some b) (hp:D.fl b=some p) :
  Calls Tryz.prog 59 #[.pointer (some ⟨bd,0,none⟩),.string s] w fun e w'=>e=.returned (.int .i64 (opE D))/\ ∃S',DiskAt w' S' bd (opS true (setF b (p.2,p.2)) D)/\Gr S w S' w':=by
 have hF:=find_any h s;unfold findP at hF;rw[ho,hl] at hF;simp only[Bool.false_eq_true,if_false] at hF;unfold ptr at hF;have HO:=Lib.hid (show Calls Tryz.prog 109 #[.pointer (some ⟨bd,0,none⟩),.bool true,.func (.func 111) #[] #[.pointer (some ⟨w.heap.size,0,none⟩)]] (w.alloc (.cells #[.pointer (some ⟨b,0,none⟩)] 127)) fun e w'=>e=.returned (.int .i64 (opE D))/\ ∃S',DiskAt w' S' bd (opS true (setF b (p.2,p.2)) D)/\Gr S w S' w' from by
  have hn: ¬ S w.heap.size:=by
   obtain⟨gN,gS,v,h⟩:=h;exact h.gt (Nat.le_refl _)
  have hB:=Blk.new w #[.pointer (some ⟨b,0,none⟩)] 127;refine(op_any true 111 #[] #[.pointer (some ⟨w.heap.size,0,none⟩)] (setF b (p.2,p.2)) (h.ext (ext_alloc w _)) (enters_of Tryz.func111 (by kernel_rfl) rfl) fun w1 h1 g1=>?_).mono ?_
  ·have hB1:=g1.blk hB hn
   exact sync1_any h1 hp hB1.lt hn (hB1.cell 0 rfl)
  ·rintro e w' ⟨rfl,S',h2,g2⟩
   exact⟨rfl,S',h2,(Gr.alloc _).trans g2⟩)
 clear h hp hl ho
 go_enter Tryz.func59, Tryz.ntmps59
 go_wp2_with (first
  |(go_at_call 105;refine hF.mono ?_;rintro e1 w1 ⟨rfl,rfl⟩)
  |(go_at_call 109;refine HO.out.mono ?_;rintro e5 w5 ⟨rfl,S5,hD5,hG5⟩;have HD5:=Lib.hid hD5;have HG5:=Lib.hid hG5;clear hD5 hG5))
 go_ret
 exact⟨rfl,S5,HD5.out,HG5.out⟩
set_option maxHeartbeats 3200000 in
set_option maxRecDepth 100000 in
theorem cut_go (h:DiskAt w S bd D) {s:ByteArray} {n:Nat} {b:Nat} {p:ByteArray×ByteArray} (ho:D.off=false) (hl:lk s D.now=some b) (hp:D.fl b=some p) (h1:n<=p.2.size) :
  Calls Tryz.prog 127 #[.pointer (some ⟨bd,0,none⟩),.string s,.int .i64 (n:Int)] w fun e w'=>e=.returned (.int .i64 (opE D))/\ ∃S',DiskAt w' S' bd (opS false (setF b (p.1,p.2.extract 0 n)) D)/\Gr S w S' w':=by
 have hF:=find_any h s;unfold findP at hF;rw[ho,hl] at hF;simp only[Bool.false_eq_true,if_false] at hF;unfold ptr at hF;have hbg:p.1.size<=1000000/\p.2.size<=1000000:=by
  obtain⟨gN,gS,v,h⟩:=h;exact h.fit.big b p hp
 have HA:=Lib.hid (fun w=>fcut_ok p.1 p.2 n w hbg.2 h1);unfold fagg at HA;have HN:=Lib.hid (fun w2 hb=>ap_new h b (p.1,p.2.extract 0 n) (w2:=w2) hb);have HO:=Lib.hid (fun(cf cg:Nat) (wx:World) (ha:Ap w S bd cf cg b (p.1,p.2.extract 0 n) D wx)=>op_file (enters_of Tryz.func177 (by kernel_rfl) rfl) (fun w1 D1 q1 q2 q3 q4=>cut1_any (p:=(p.1,p.2.extract 0 n)) q1 q2 q3 q4 hbg.1 (by rw[ByteArray.size_extract];omega)) ha (by rw[hp];simp));obtain⟨gN,gS,v,h⟩:=h;have hB:=h.fl b p hp;have b0:=hB.cell 0 (v:=.string p.1) rfl;have b1:=hB.cell 1 (v:=.string p.2) rfl;have lB:=hB.lt;clear h hB hp hl ho h1 hbg;generalize p.2.extract 0 n=T at *
 go_enter Tryz.func127, Tryz.ntmps127
 go_wp2_with (first
  |(go_at_call 105;refine hF.mono ?_;rintro e1 w1 ⟨rfl,rfl⟩)
  |(go_at_call 176;refine(HA.out _).mono ?_;rintro e2 w2 ⟨rfl,hb2⟩;have HA2:=Lib.hid (HO.out _ _ _ (HN.out w2 hb2));clear hb2)
  |(go_at_call 109;refine HA2.out.mono ?_;rintro e5 w5 ⟨rfl,S5,hD5,hG5⟩;have HD5:=Lib.hid hD5;have HG5:=Lib.hid hG5;clear hD5 hG5))
 go_ret
 exact⟨rfl,S5,HD5.out,HG5.out⟩
end
end Dk
end Go.Proofs.YtejcdhdfanfkbaaGreat
namespace Go.Proofs.YtejcdhdfanfkbaaGreat
namespace Nm
open Go.RowKit
theorem conv6 (w:World) (a b c d e f:Int):(convert 86 9 (.slice (some ⟨w.heap.size,0,none⟩) 6 6)).run Tryz.prog (w.alloc (.cells #[.int .u8 a,.int .u8 b,.int .u8 c,.int .u8 d,.int .u8 e,.int .u8 f] 5)) =
  .ok (.string (strOfNums [a,b,c,d,e,f])) (w.alloc (.cells #[.int .u8 a,.int .u8 b,.int .u8 c,.int .u8 d,.int .u8 e,.int .u8 f] 5)):=by
 refine run_convert_bytes_arg _ 86 5 Tryz.underlying86 Tryz.underlying5 w.heap.size 0 6 6 [a,b,c,d,e,f] rfl ?_ 9 Tryz.underlying9;intro i hi;have:i=0∨i=1∨i=2∨i=3∨i=4∨i=5:=by omega
 rcases this with rfl|rfl|rfl|rfl|rfl|rfl<;>simp[go_sem]
set_option maxHeartbeats 400000 in
theorem number_any (n:Int) (h1:1<=n) (h2:n<=999999) (w:World) :
  Calls Tryz.prog 219 #[.int .i64 n] w fun e w'=>e=.returned (.string ⟨(num6 n).toArray⟩)/\Below w.heap.size w w':=by
 have hmk:∀w,(Instr.makeSlice 86 (.int .i64 6) (.int .i64 6)).run Tryz.prog w=.ok (.slice (some ⟨w.heap.size,0,none⟩) 6 6) (w.alloc (.cells #[.int .u8 0,.int .u8 0,.int .u8 0,.int .u8 0,.int .u8 0,.int .u8 0] 5)):=fun _=>by kernel_rfl
 have hcv:=conv6
 go_enter Tryz.func219, Tryz.ntmps219
 go_wp2
 go_rounds 7
 go_wp2
 go_ret
 refine⟨ret_str rfl,(Below.refl _ _).alloc (Nat.le_refl _) _⟩
set_option maxHeartbeats 400000 in
theorem may_any (n:Int) (w:World):Calls Tryz.prog 218 #[.int .i64 n] w fun e w'=>e=.returned (.bool (may n))/\w=w':=by
 go_enter Tryz.func218, Tryz.ntmps218
 go_wp2
 all_goals
  go_ret
  refine⟨ret_bool ?_,rfl⟩;unfold may;rw[Bool.eq_iff_iff];simp
  try omega
def segV (i g:Int):Value:=if may i=true/\may g=true then .tuple #[.string ⟨(seg i g).toArray⟩,.int .i64 0] else .tuple #[.string ⟨#[]⟩,.int .i64 2]
theorem seg_bytes (i g:Int):(((ByteArray.mk #[115,101,103,45]++ByteArray.mk (num6 i).toArray)++ByteArray.mk #[45])++ByteArray.mk (num6 g).toArray)++ByteArray.mk #[46,108,111,103]=⟨(seg i g).toArray⟩:=rfl
theorem size_num6 (n:Int):(num6 n).toArray.size=6:=rfl
set_option maxHeartbeats 400000 in
theorem segment_any (i g:Int) (w:World):Calls Tryz.prog 168 #[.int .i64 i,.int .i64 g] w fun e w'=>e=.returned (segV i g)/\Below w.heap.size w w':=by
 by_cases hi:may i=true
 ·by_cases hg:may g=true
  ·have e0:segV i g=.tuple #[.string ⟨(seg i g).toArray⟩,.int .i64 0]:=if_pos ⟨hi,hg⟩
   rw[e0,<-seg_bytes];have hi':=(may_iff i).1 hi;have hg':=(may_iff g).1 hg;have Hi:=Lib.hid hi;have Hg:=Lib.hid hg;clear hi hg e0;have hs:=fun n=>size_num6 n
   go_enter Tryz.func168, Tryz.ntmps168
   go_wp2_with fail
   refine(may_any i _).mono ?_;rintro e w' ⟨rfl,rfl⟩;rw[Hi.out];go_wp2_with fail
   refine(may_any g _).mono ?_;rintro e w' ⟨rfl,rfl⟩;rw[Hg.out];go_wp2_with fail
   refine(number_any i (by omega) (by omega) _).mono ?_;rintro e w1 ⟨rfl,hb1⟩;go_wp2_with fail
   refine(number_any g (by omega) (by omega) _).mono ?_;rintro e w2 ⟨rfl,hb2⟩;go_wp2_with fail
   go_ret2
   exact⟨rfl,hb1.trans (hb2.mono hb1.size)⟩
  ·have e0:segV i g=.tuple #[.string ⟨#[]⟩,.int .i64 2]:=if_neg (by simp[hg])
   rw[e0];simp only[Bool.not_eq_true] at hg;have Hi:=Lib.hid hi;have Hg:=Lib.hid hg;clear hi hg e0
   go_enter Tryz.func168, Tryz.ntmps168
   go_wp2_with fail
   refine(may_any i _).mono ?_;rintro e w' ⟨rfl,rfl⟩;rw[Hi.out];go_wp2_with fail
   refine(may_any g _).mono ?_;rintro e w' ⟨rfl,rfl⟩;rw[Hg.out];go_wp2_with fail
   go_ret2
   exact⟨rfl,Below.refl _ _⟩
 ·have e0:segV i g=.tuple #[.string ⟨#[]⟩,.int .i64 2]:=if_neg (by simp[hi])
  rw[e0];simp only[Bool.not_eq_true] at hi;have Hi:=Lib.hid hi;clear hi e0
  go_enter Tryz.func168, Tryz.ntmps168
  go_wp2_with (go_at_call 218;refine(may_any i _).mono ?_;rintro e w' ⟨rfl,rfl⟩;rw[Hi.out])
  go_ret2
  exact⟨rfl,Below.refl _ _⟩
end Nm
end Go.Proofs.YtejcdhdfanfkbaaGreat
namespace Go.Proofs.YtejcdhdfanfkbaaGreat
namespace Dk
open Go.RowKit Hd
def sgc (bd:Nat) (i g f:Int) (s:ByteArray):Array Value:=#[.pointer (some ⟨bd,0,none⟩),.int .i64 i,.int .i64 g,.int .i64 f,.string s]
def segN (i g:Int):ByteArray:=⟨(Nm.seg i g).toArray⟩
theorem sg_info:(Tryz.prog.info? 219).map (·.size)=some 5:=by kernel_rfl
section
variable {w w':World} {S:Nat->Prop} {bd gN gS:Nat} {v:Value} {D:DS}
set_option maxHeartbeats 3200000 in
set_option maxRecDepth 100000 in
theorem of_ok (i g f:Int) (w:World) (h:okH i g f=true) :
  Calls Tryz.prog 123 #[.pointer (some ⟨bd,0,none⟩),.agg #[.int .i64 i,.int .i64 g,.int .i64 f]] w fun e w'=>e=.returned (.tuple #[.agg (sgc bd i g f (segN i g)),.int .i64 0])/\Below w.heap.size w w':=by
 have HC:=Lib.hid (fun w=>check_any i g f w);rw[h] at HC;simp only[if_true] at HC;have hm:Nm.may i=true/\Nm.may g=true:=by
  simp only[okH,decide_eq_true_eq] at h;rw[Nm.may_iff,Nm.may_iff];omega
 have HN:=Lib.hid (fun w=>Nm.segment_any i g w);have e0:Nm.segV i g=.tuple #[.string (segN i g),.int .i64 0]:=if_pos hm;rw[e0] at HN;clear h hm e0;unfold sgc;generalize segN i g=s at *
 have B0:=(Blk.new w #[.int .i64 i,.int .i64 g,.int .i64 f] 148).alloc (.cells #[.pointer none,.int .i64 0,.int .i64 0,.int .i64 0,.string ⟨#[]⟩] 219);have B1:=blk_second w (.cells #[.int .i64 i,.int .i64 g,.int .i64 f] 148) #[.pointer none,.int .i64 0,.int .i64 0,.int .i64 0,.string ⟨#[]⟩] 219;have B2:=ext_second w (.cells #[.int .i64 i,.int .i64 g,.int .i64 f] 148) (.cells #[.pointer none,.int .i64 0,.int .i64 0,.int .i64 0,.string ⟨#[]⟩] 219)
 go_enter Tryz.func123, Tryz.ntmps123
 go_wp2_with (first
  |(go_at_call 169;refine(HC.out _).mono ?_;rintro e1 w1 ⟨rfl,hb1⟩;have HB1:=Lib.hid (B0.ext hb1);have HS1:=Lib.hid (B1.ext hb1);have HW1:=Lib.hid (B2.trans (hb1.mono B2.size));clear hb1 B0 B1 B2;have k0:=HB1.out.cell 0 (v:=.int .i64 i) rfl;have k1:=HB1.out.cell 1 (v:=.int .i64 g) rfl)
  |(go_at_call 168;refine(HN.out _).mono ?_;rintro e2 w2 ⟨rfl,hb2⟩;have HB2:=Lib.hid (HB1.out.ext hb2);have HS2:=Lib.hid (HS1.out.ext hb2);have HW2:=Lib.hid (HW1.out.trans (hb2.mono HW1.out.size));clear hb2 k0 k1;have k0:=HB2.out.cell 0 (v:=.int .i64 i) rfl;have k1:=HB2.out.cell 1 (v:=.int .i64 g) rfl;have k2:=HB2.out.cell 2 (v:=.int .i64 f) rfl)
  |(refine wpList_store_row rfl 219 (.tmp 4) (.tmp 26) rfl (w.heap.size+1) #[.pointer (some ⟨bd,0,none⟩),.int .i64 i,.int .i64 g,.int .i64 f,.string s] #[.pointer none,.int .i64 0,.int .i64 0,.int .i64 0,.string ⟨#[]⟩] (by simp[go_sem,Act.eval]) (by simp[go_sem,Act.eval]) HS2.out sg_info rfl (by simp[Value.oneCell']) ?_))
 refine bodyPost_ret (v:=.tuple #[.agg #[.pointer (some ⟨bd,0,none⟩),.int .i64 i,.int .i64 g,.int .i64 f,.string s],.int .i64 0]) (by exact results_cell2 rfl rfl rfl (HS2.out.set #[.pointer (some ⟨bd,0,none⟩),.int .i64 i,.int .i64 g,.int .i64 f,.string s]) Tryz.underlying219 rfl sg_info) (by exact rfl) ?_;exact⟨rfl,ext_setRow HW2.out (Nat.le_succ _) _⟩
set_option maxHeartbeats 3200000 in
set_option maxRecDepth 100000 in
theorem of_bad (i g f:Int) (w:World) (h:okH i g f=false) :
  Calls Tryz.prog 123 #[.pointer (some ⟨bd,0,none⟩),.agg #[.int .i64 i,.int .i64 g,.int .i64 f]] w fun e w'=>e=.returned (.tuple #[.agg #[.pointer none,.int .i64 0,.int .i64 0,.int .i64 0,.string ⟨#[]⟩],.int .i64 210])/\Below w.heap.size w w':=by
 have HC:=Lib.hid (fun w=>check_any i g f w);rw[h] at HC;simp only[Bool.false_eq_true,if_false] at HC;clear h;have B1:=blk_second w (.cells #[.int .i64 i,.int .i64 g,.int .i64 f] 148) #[.pointer none,.int .i64 0,.int .i64 0,.int .i64 0,.string ⟨#[]⟩] 219;have B2:=ext_second w (.cells #[.int .i64 i,.int .i64 g,.int .i64 f] 148) (.cells #[.pointer none,.int .i64 0,.int .i64 0,.int .i64 0,.string ⟨#[]⟩] 219)
 go_enter Tryz.func123, Tryz.ntmps123
 go_wp2_with (first
  |(go_at_call 169;refine(HC.out _).mono ?_;rintro e1 w1 ⟨rfl,hb1⟩;have HS2:=Lib.hid (B1.ext hb1);have HW2:=Lib.hid (B2.trans (hb1.mono B2.size));clear hb1 B1 B2)
  |(refine wpList_store_row rfl 219 (.tmp 4) (.tmp 13) rfl (w.heap.size+1) #[.pointer none,.int .i64 0,.int .i64 0,.int .i64 0,.string ⟨#[]⟩] #[.pointer none,.int .i64 0,.int .i64 0,.int .i64 0,.string ⟨#[]⟩] (by simp[go_sem,Act.eval]) (by simp[go_sem,Act.eval]) HS2.out sg_info rfl (by simp[Value.oneCell']) ?_))
 refine bodyPost_ret (v:=.tuple #[.agg #[.pointer none,.int .i64 0,.int .i64 0,.int .i64 0,.string ⟨#[]⟩],.int .i64 210]) (by exact results_cell2 rfl rfl rfl (HS2.out.set #[.pointer none,.int .i64 0,.int .i64 0,.int .i64 0,.string ⟨#[]⟩]) Tryz.underlying219 rfl sg_info) (by exact rfl) ?_;exact⟨rfl,ext_setRow HW2.out (Nat.le_succ _) _⟩
end
end Dk
end Go.Proofs.YtejcdhdfanfkbaaGreat
namespace Go.Proofs.YtejcdhdfanfkbaaGreat
namespace Dk
open Go.RowKit Hd Fm
section
variable {w w':World} {S:Nat->Prop} {bd gN gS:Nat} {v:Value} {D:DS}
set_option maxHeartbeats 3200000 in
set_option maxRecDepth 100000 in
theorem ssync_go (h:DiskAt w S bd D) {i g f:Int} {s:ByteArray} {b:Nat} {p:ByteArray×ByteArray} (ho:D.off=false) (hl:lk s D.now=some b) (hp:D.fl b=some p) :
  Calls Tryz.prog 128 #[.agg (sgc bd i g f s)] w fun e w'=>e=.returned (.int .i64 (opE D))/\ ∃S',DiskAt w' S' bd (opS true (setF b (p.2,p.2)) D)/\Gr S w S' w':=by
 have HS:=Lib.hid (sync_go (h.ext (ext_alloc w (.cells (sgc bd i g f s) 219))) ho hl hp);have HG:=Lib.hid (Gr.alloc (S:=S) (w:=w) (.cells (sgc bd i g f s) 219));clear h ho hl hp;unfold sgc at *
 go_enter Tryz.func128, Tryz.ntmps128
 go_wp2_with (go_at_call 59;refine HS.out.mono ?_;rintro e5 w5 ⟨rfl,S5,hD5,hG5⟩;have HD5:=Lib.hid hD5;have HG5:=Lib.hid hG5;clear hD5 hG5)
 go_ret
 exact⟨rfl,S5,HD5.out,HG.out.trans HG5.out⟩
set_option maxHeartbeats 3200000 in
set_option maxRecDepth 100000 in
theorem sput_go (h:DiskAt w S bd D) {i g f:Int} {s body:ByteArray} {k:UInt8} {b:Nat} {p:ByteArray×ByteArray} (ho:D.off=false) (hl:lk s D.now=some b) (hp:D.fl b=some p) (hk:1<=k.toNat/\k.toNat<=4) (hb:body.size<=60000)
  (h1:p.2.size+(body.size+9)<=1000000) (h2:(body.size:Int)+9+(usedD D:Int)<=D.cap) :
  Calls Tryz.prog 191 #[.agg (sgc bd i g f s),.int .i64 (k.toNat:Int),.string body] w fun e w'=>e=.returned (.int .i64 (opE D))/\ ∃S',DiskAt w' S' bd (opS false (setF b (p.1,p.2++frB k body)) D)/\Gr S w S' w':=by
 have hsz:(frB k body).size=body.size+9:=by
  unfold frB;rw[ByteArray.size_append,size_frA];show _+(le 4 _).toArray.size=_
  rw[List.size_toArray,length_le]
 have HP:=Lib.hid (fun w=>put_any k body w hk hb);have HS:=Lib.hid (show ∀wx,DiskAt wx S bd D->Calls Tryz.prog 55 #[.pointer (some ⟨bd,0,none⟩),.string s,.string (frB k body)] wx fun e w'=>e=.returned (.int .i64 (opE D))/\ ∃S',DiskAt w' S' bd (opS false (setF b (p.1,p.2++frB k body)) D)/\Gr S wx S' w' from
  fun wx hx=>append_go hx ho hl hp (by rw[hsz];exact h1) (by rw[hsz];push_cast;omega))
 have HD:=Lib.hid (fun w1 hb=>h.ext (w':=w1) hb);clear h ho hl hp h1 h2 hk hb hsz;unfold sgc;generalize frB k body=F at *
 have B0:=Blk.new w #[.pointer (some ⟨bd,0,none⟩),.int .i64 i,.int .i64 g,.int .i64 f,.string s] 219;have B2:=ext_alloc w (.cells #[.pointer (some ⟨bd,0,none⟩),.int .i64 i,.int .i64 g,.int .i64 f,.string s] 219)
 go_enter Tryz.func191, Tryz.ntmps191
 go_wp2_with (first
  |(go_at_call 50;refine(HP.out _).mono ?_;rintro e1 w1 ⟨rfl,hb1⟩;have HB1:=Lib.hid (B0.ext hb1);have HW1:=Lib.hid (B2.trans (hb1.mono B2.size));clear hb1 B0 B2;have k0:=HB1.out.cell 0 (v:=.pointer (some ⟨bd,0,none⟩)) rfl;have k4:=HB1.out.cell 4 (v:=.string s) rfl)
  |(go_at_call 55;refine(HS.out _ (HD.out _ HW1.out)).mono ?_;rintro e5 w5 ⟨rfl,S5,hD5,hG5⟩;have HD5:=Lib.hid hD5;have HG5:=Lib.hid hG5;clear hD5 hG5))
 go_ret
 exact⟨rfl,S5,HD5.out,(Gr.of_below HW1.out).trans HG5.out⟩
end
end Dk
end Go.Proofs.YtejcdhdfanfkbaaGreat
