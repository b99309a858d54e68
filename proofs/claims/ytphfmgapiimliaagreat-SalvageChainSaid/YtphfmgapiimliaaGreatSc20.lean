/- disk: Sync, Cut, where nothing stands against them. Names of files: numbers, segments' names. seg.of; a segment's file is synced, a frame is put behind it. seg: a segment's file is synced; a frame is put behind it. seg: create. seg: create, step by step. -/
import Derived.Test.YtphfmgapiimliaaGreatSc19
import Derived.Test.YtphfmgapiimliaaGreatSc17
import Derived.Test.YtphfmgapiimliaaGreatSc18
import Derived.Test.YtphfmgapiimliaaGreatSc04
import Derived.Test.YtphfmgapiimliaaGreatSc13
namespace Go.Proofs.YtphfmgapiimliaaGreat
namespace Dk
open Go.RowKit
section
variable {w w':World} {S:Nat->Prop} {bd gN gS:Nat} {v:Value} {D:DS}
set_option maxHeartbeats 3200000 in
set_option maxRecDepth 100000 in
theorem sync_go (h:DiskAt w S bd D) {s:ByteArray} {b:Nat} {p:ByteArray×ByteArray} (ho:D.off=false) (hl:lk s D.now=some b) (hp:D.fl b=some p) :
  Calls Tryz.prog 141 #[.pointer (some ⟨bd,0,none⟩),.string s] w fun e w'=>e=.returned (.int .i64 (opE D))/\ ∃S',DiskAt w' S' bd (opS true (setF b (p.2,p.2)) D)/\Gr S w S' w':=by
 have hF:=find_any h s;unfold findP at hF;rw[ho,hl] at hF;simp only[Bool.false_eq_true,if_false] at hF;unfold ptr at hF;have HO:=Lib.hid (show Calls Tryz.prog 117 #[.pointer (some ⟨bd,0,none⟩),.bool true,.func (.func 191) #[] #[.pointer (some ⟨w.heap.size,0,none⟩)]] (w.alloc (.cells #[.pointer (some ⟨b,0,none⟩)] 108)) fun e w'=>e=.returned (.int .i64 (opE D))/\ ∃S',DiskAt w' S' bd (opS true (setF b (p.2,p.2)) D)/\Gr S w S' w' from by
  have hn: ¬ S w.heap.size:=by
   obtain⟨gN,gS,v,h⟩:=h;exact h.gt (Nat.le_refl _)
  have hB:=Blk.new w #[.pointer (some ⟨b,0,none⟩)] 108;refine(op_any true 191 #[] #[.pointer (some ⟨w.heap.size,0,none⟩)] (setF b (p.2,p.2)) (h.ext (ext_alloc w _)) (enters_of Tryz.func191 (by kernel_rfl) rfl) fun w1 h1 g1=>?_).mono ?_
  ·have hB1:=g1.blk hB hn
   exact sync1_any h1 hp hB1.lt hn (hB1.cell 0 rfl)
  ·rintro e w' ⟨rfl,S',h2,g2⟩
   exact⟨rfl,S',h2,(Gr.alloc _).trans g2⟩)
 clear h hp hl ho
 go_enter Tryz.func141, Tryz.ntmps141
 go_wp2_with (first
  |(go_at_call 70;refine hF.mono ?_;rintro e1 w1 ⟨rfl,rfl⟩)
  |(go_at_call 117;refine HO.out.mono ?_;rintro e5 w5 ⟨rfl,S5,hD5,hG5⟩;have HD5:=Lib.hid hD5;have HG5:=Lib.hid hG5;clear hD5 hG5))
 go_ret
 exact⟨rfl,S5,HD5.out,HG5.out⟩
set_option maxHeartbeats 3200000 in
set_option maxRecDepth 100000 in
theorem cut_go (h:DiskAt w S bd D) {s:ByteArray} {n:Nat} {b:Nat} {p:ByteArray×ByteArray} (ho:D.off=false) (hl:lk s D.now=some b) (hp:D.fl b=some p) (h1:n<=p.2.size) :
  Calls Tryz.prog 91 #[.pointer (some ⟨bd,0,none⟩),.string s,.int .i64 (n:Int)] w fun e w'=>e=.returned (.int .i64 (opE D))/\ ∃S',DiskAt w' S' bd (opS false (setF b (p.1,p.2.extract 0 n)) D)/\Gr S w S' w':=by
 have hF:=find_any h s;unfold findP at hF;rw[ho,hl] at hF;simp only[Bool.false_eq_true,if_false] at hF;unfold ptr at hF;have hbg:p.1.size<=1000000/\p.2.size<=1000000:=by
  obtain⟨gN,gS,v,h⟩:=h;exact h.fit.big b p hp
 have HA:=Lib.hid (fun w=>fcut_ok p.1 p.2 n w hbg.2 h1);unfold fagg at HA;have HN:=Lib.hid (fun w2 hb=>ap_new h b (p.1,p.2.extract 0 n) (w2:=w2) hb);have HO:=Lib.hid (fun(cf cg:Nat) (wx:World) (ha:Ap w S bd cf cg b (p.1,p.2.extract 0 n) D wx)=>op_file (enters_of Tryz.func140 (by kernel_rfl) rfl) (fun w1 D1 q1 q2 q3 q4=>cut1_any (p:=(p.1,p.2.extract 0 n)) q1 q2 q3 q4 hbg.1 (by rw[ByteArray.size_extract];omega)) ha (by rw[hp];simp));obtain⟨gN,gS,v,h⟩:=h;have hB:=h.fl b p hp;have b0:=hB.cell 0 (v:=.string p.1) rfl;have b1:=hB.cell 1 (v:=.string p.2) rfl;have lB:=hB.lt;clear h hB hp hl ho h1 hbg;generalize p.2.extract 0 n=T at *
 go_enter Tryz.func91, Tryz.ntmps91
 go_wp2_with (first
  |(go_at_call 70;refine hF.mono ?_;rintro e1 w1 ⟨rfl,rfl⟩)
  |(go_at_call 139;refine(HA.out _).mono ?_;rintro e2 w2 ⟨rfl,hb2⟩;have HA2:=Lib.hid (HO.out _ _ _ (HN.out w2 hb2));clear hb2)
  |(go_at_call 117;refine HA2.out.mono ?_;rintro e5 w5 ⟨rfl,S5,hD5,hG5⟩;have HD5:=Lib.hid hD5;have HG5:=Lib.hid hG5;clear hD5 hG5))
 go_ret
 exact⟨rfl,S5,HD5.out,HG5.out⟩
end
end Dk
end Go.Proofs.YtphfmgapiimliaaGreat
namespace Go.Proofs.YtphfmgapiimliaaGreat
namespace Nm
open Go.RowKit
theorem conv6 (w:World) (a b c d e f:Int):(convert 207 9 (.slice (some ⟨w.heap.size,0,none⟩) 6 6)).run Tryz.prog (w.alloc (.cells #[.int .u8 a,.int .u8 b,.int .u8 c,.int .u8 d,.int .u8 e,.int .u8 f] 5)) =
  .ok (.string (strOfNums [a,b,c,d,e,f])) (w.alloc (.cells #[.int .u8 a,.int .u8 b,.int .u8 c,.int .u8 d,.int .u8 e,.int .u8 f] 5)):=by
 refine run_convert_bytes_arg _ 207 5 Tryz.underlying207 Tryz.underlying5 w.heap.size 0 6 6 [a,b,c,d,e,f] rfl ?_ 9 Tryz.underlying9;intro i hi;have:i=0∨i=1∨i=2∨i=3∨i=4∨i=5:=by omega
 rcases this with rfl|rfl|rfl|rfl|rfl|rfl<;>simp[go_sem]
set_option maxHeartbeats 400000 in
theorem number_any (n:Int) (h1:1<=n) (h2:n<=999999) (w:World) :
  Calls Tryz.prog 183 #[.int .i64 n] w fun e w'=>e=.returned (.string ⟨(num6 n).toArray⟩)/\Below w.heap.size w w':=by
 have hmk:∀w,(Instr.makeSlice 207 (.int .i64 6) (.int .i64 6)).run Tryz.prog w=.ok (.slice (some ⟨w.heap.size,0,none⟩) 6 6) (w.alloc (.cells #[.int .u8 0,.int .u8 0,.int .u8 0,.int .u8 0,.int .u8 0,.int .u8 0] 5)):=fun _=>by kernel_rfl
 have hcv:=conv6
 go_enter Tryz.func183, Tryz.ntmps183
 go_wp2
 go_rounds 7
 go_wp2
 go_ret
 refine⟨ret_str rfl,(Below.refl _ _).alloc (Nat.le_refl _) _⟩
set_option maxHeartbeats 400000 in
theorem may_any (n:Int) (w:World):Calls Tryz.prog 182 #[.int .i64 n] w fun e w'=>e=.returned (.bool (may n))/\w=w':=by
 go_enter Tryz.func182, Tryz.ntmps182
 go_wp2
 all_goals
  go_ret
  refine⟨ret_bool ?_,rfl⟩;unfold may;rw[Bool.eq_iff_iff];simp
  try omega
def segV (i g:Int):Value:=if may i=true/\may g=true then .tuple #[.string ⟨(seg i g).toArray⟩,.int .i64 0] else .tuple #[.string ⟨#[]⟩,.int .i64 2]
theorem seg_bytes (i g:Int):(((ByteArray.mk #[115,101,103,45]++ByteArray.mk (num6 i).toArray)++ByteArray.mk #[45])++ByteArray.mk (num6 g).toArray)++ByteArray.mk #[46,108,111,103]=⟨(seg i g).toArray⟩:=rfl
theorem size_num6 (n:Int):(num6 n).toArray.size=6:=rfl
set_option maxHeartbeats 400000 in
theorem segment_any (i g:Int) (w:World):Calls Tryz.prog 132 #[.int .i64 i,.int .i64 g] w fun e w'=>e=.returned (segV i g)/\Below w.heap.size w w':=by
 by_cases hi:may i=true
 ·by_cases hg:may g=true
  ·have e0:segV i g=.tuple #[.string ⟨(seg i g).toArray⟩,.int .i64 0]:=if_pos ⟨hi,hg⟩
   rw[e0,<-seg_bytes];have hi':=(may_iff i).1 hi;have hg':=(may_iff g).1 hg;have Hi:=Lib.hid hi;have Hg:=Lib.hid hg;clear hi hg e0;have hs:=fun n=>size_num6 n
   go_enter Tryz.func132, Tryz.ntmps132
   go_wp2_with fail
   refine(may_any i _).mono ?_;rintro e w' ⟨rfl,rfl⟩;rw[Hi.out];go_wp2_with fail
   refine(may_any g _).mono ?_;rintro e w' ⟨rfl,rfl⟩;rw[Hg.out];go_wp2_with fail
   refine(number_any i (by omega) (by omega) _).mono ?_;rintro e w1 ⟨rfl,hb1⟩;go_wp2_with fail
   refine(number_any g (by omega) (by omega) _).mono ?_;rintro e w2 ⟨rfl,hb2⟩;go_wp2_with fail
   go_ret2
   exact⟨rfl,hb1.trans (hb2.mono hb1.size)⟩
  ·have e0:segV i g=.tuple #[.string ⟨#[]⟩,.int .i64 2]:=if_neg (by simp[hg])
   rw[e0];simp only[Bool.not_eq_true] at hg;have Hi:=Lib.hid hi;have Hg:=Lib.hid hg;clear hi hg e0
   go_enter Tryz.func132, Tryz.ntmps132
   go_wp2_with fail
   refine(may_any i _).mono ?_;rintro e w' ⟨rfl,rfl⟩;rw[Hi.out];go_wp2_with fail
   refine(may_any g _).mono ?_;rintro e w' ⟨rfl,rfl⟩;rw[Hg.out];go_wp2_with fail
   go_ret2
   exact⟨rfl,Below.refl _ _⟩
 ·have e0:segV i g=.tuple #[.string ⟨#[]⟩,.int .i64 2]:=if_neg (by simp[hi])
  rw[e0];simp only[Bool.not_eq_true] at hi;have Hi:=Lib.hid hi;clear hi e0
  go_enter Tryz.func132, Tryz.ntmps132
  go_wp2_with (go_at_call 182;refine(may_any i _).mono ?_;rintro e w' ⟨rfl,rfl⟩;rw[Hi.out])
  go_ret2
  exact⟨rfl,Below.refl _ _⟩
end Nm
end Go.Proofs.YtphfmgapiimliaaGreat
namespace Go.Proofs.YtphfmgapiimliaaGreat
namespace Dk
open Go.RowKit Hd
def sgc (bd:Nat) (i g f:Int) (s:ByteArray):Array Value:=#[.pointer (some ⟨bd,0,none⟩),.int .i64 i,.int .i64 g,.int .i64 f,.string s]
def segN (i g:Int):ByteArray:=⟨(Nm.seg i g).toArray⟩
theorem sg_info:(Tryz.prog.info? 133).map (·.size)=some 5:=by kernel_rfl
section
variable {w w':World} {S:Nat->Prop} {bd gN gS:Nat} {v:Value} {D:DS}
set_option maxHeartbeats 3200000 in
set_option maxRecDepth 100000 in
theorem of_ok (i g f:Int) (w:World) (h:okH i g f=true) :
  Calls Tryz.prog 86 #[.pointer (some ⟨bd,0,none⟩),.agg #[.int .i64 i,.int .i64 g,.int .i64 f]] w fun e w'=>e=.returned (.tuple #[.agg (sgc bd i g f (segN i g)),.int .i64 0])/\Below w.heap.size w w':=by
 have HC:=Lib.hid (fun w=>check_any i g f w);rw[h] at HC;simp only[if_true] at HC;have hm:Nm.may i=true/\Nm.may g=true:=by
  simp only[okH,decide_eq_true_eq] at h;rw[Nm.may_iff,Nm.may_iff];omega
 have HN:=Lib.hid (fun w=>Nm.segment_any i g w);have e0:Nm.segV i g=.tuple #[.string (segN i g),.int .i64 0]:=if_pos hm;rw[e0] at HN;clear h hm e0;unfold sgc;generalize segN i g=s at *
 have B0:=(Blk.new w #[.int .i64 i,.int .i64 g,.int .i64 f] 35).alloc (.cells #[.pointer none,.int .i64 0,.int .i64 0,.int .i64 0,.string ⟨#[]⟩] 133);have B1:=blk_second w (.cells #[.int .i64 i,.int .i64 g,.int .i64 f] 35) #[.pointer none,.int .i64 0,.int .i64 0,.int .i64 0,.string ⟨#[]⟩] 133;have B2:=ext_second w (.cells #[.int .i64 i,.int .i64 g,.int .i64 f] 35) (.cells #[.pointer none,.int .i64 0,.int .i64 0,.int .i64 0,.string ⟨#[]⟩] 133)
 go_enter Tryz.func86, Tryz.ntmps86
 go_wp2_with (first
  |(go_at_call 126;refine(HC.out _).mono ?_;rintro e1 w1 ⟨rfl,hb1⟩;have HB1:=Lib.hid (B0.ext hb1);have HS1:=Lib.hid (B1.ext hb1);have HW1:=Lib.hid (B2.trans (hb1.mono B2.size));clear hb1 B0 B1 B2;have k0:=HB1.out.cell 0 (v:=.int .i64 i) rfl;have k1:=HB1.out.cell 1 (v:=.int .i64 g) rfl)
  |(go_at_call 132;refine(HN.out _).mono ?_;rintro e2 w2 ⟨rfl,hb2⟩;have HB2:=Lib.hid (HB1.out.ext hb2);have HS2:=Lib.hid (HS1.out.ext hb2);have HW2:=Lib.hid (HW1.out.trans (hb2.mono HW1.out.size));clear hb2 k0 k1;have k0:=HB2.out.cell 0 (v:=.int .i64 i) rfl;have k1:=HB2.out.cell 1 (v:=.int .i64 g) rfl;have k2:=HB2.out.cell 2 (v:=.int .i64 f) rfl)
  |(refine wpList_store_row rfl 133 (.tmp 4) (.tmp 26) rfl (w.heap.size+1) #[.pointer (some ⟨bd,0,none⟩),.int .i64 i,.int .i64 g,.int .i64 f,.string s] #[.pointer none,.int .i64 0,.int .i64 0,.int .i64 0,.string ⟨#[]⟩] (by simp[go_sem,Act.eval]) (by simp[go_sem,Act.eval]) HS2.out sg_info rfl (by simp[Value.oneCell']) ?_))
 refine bodyPost_ret (v:=.tuple #[.agg #[.pointer (some ⟨bd,0,none⟩),.int .i64 i,.int .i64 g,.int .i64 f,.string s],.int .i64 0]) (by exact results_cell2 rfl rfl rfl (HS2.out.set #[.pointer (some ⟨bd,0,none⟩),.int .i64 i,.int .i64 g,.int .i64 f,.string s]) Tryz.underlying133 rfl sg_info) (by exact rfl) ?_;exact⟨rfl,ext_setRow HW2.out (Nat.le_succ _) _⟩
set_option maxHeartbeats 3200000 in
set_option maxRecDepth 100000 in
theorem of_bad (i g f:Int) (w:World) (h:okH i g f=false) :
  Calls Tryz.prog 86 #[.pointer (some ⟨bd,0,none⟩),.agg #[.int .i64 i,.int .i64 g,.int .i64 f]] w fun e w'=>e=.returned (.tuple #[.agg #[.pointer none,.int .i64 0,.int .i64 0,.int .i64 0,.string ⟨#[]⟩],.int .i64 210])/\Below w.heap.size w w':=by
 have HC:=Lib.hid (fun w=>check_any i g f w);rw[h] at HC;simp only[Bool.false_eq_true,if_false] at HC;clear h;have B1:=blk_second w (.cells #[.int .i64 i,.int .i64 g,.int .i64 f] 35) #[.pointer none,.int .i64 0,.int .i64 0,.int .i64 0,.string ⟨#[]⟩] 133;have B2:=ext_second w (.cells #[.int .i64 i,.int .i64 g,.int .i64 f] 35) (.cells #[.pointer none,.int .i64 0,.int .i64 0,.int .i64 0,.string ⟨#[]⟩] 133)
 go_enter Tryz.func86, Tryz.ntmps86
 go_wp2_with (first
  |(go_at_call 126;refine(HC.out _).mono ?_;rintro e1 w1 ⟨rfl,hb1⟩;have HS2:=Lib.hid (B1.ext hb1);have HW2:=Lib.hid (B2.trans (hb1.mono B2.size));clear hb1 B1 B2)
  |(refine wpList_store_row rfl 133 (.tmp 4) (.tmp 13) rfl (w.heap.size+1) #[.pointer none,.int .i64 0,.int .i64 0,.int .i64 0,.string ⟨#[]⟩] #[.pointer none,.int .i64 0,.int .i64 0,.int .i64 0,.string ⟨#[]⟩] (by simp[go_sem,Act.eval]) (by simp[go_sem,Act.eval]) HS2.out sg_info rfl (by simp[Value.oneCell']) ?_))
 refine bodyPost_ret (v:=.tuple #[.agg #[.pointer none,.int .i64 0,.int .i64 0,.int .i64 0,.string ⟨#[]⟩],.int .i64 210]) (by exact results_cell2 rfl rfl rfl (HS2.out.set #[.pointer none,.int .i64 0,.int .i64 0,.int .i64 0,.string ⟨#[]⟩]) Tryz.underlying133 rfl sg_info) (by exact rfl) ?_;exact⟨rfl,ext_setRow HW2.out (Nat.le_succ _) _⟩
end
end Dk
end Go.Proofs.YtphfmgapiimliaaGreat
namespace Go.Proofs.YtphfmgapiimliaaGreat
namespace Dk
open Go.RowKit Hd Fm
section
variable {w w':World} {S:Nat->Prop} {bd gN gS:Nat} {v:Value} {D:DS}
set_option maxHeartbeats 3200000 in
set_option maxRecDepth 100000 in
theorem ssync_go (h:DiskAt w S bd D) {i g f:Int} {s:ByteArray} {b:Nat} {p:ByteArray×ByteArray} (ho:D.off=false) (hl:lk s D.now=some b) (hp:D.fl b=some p) :
  Calls Tryz.prog 92 #[.agg (sgc bd i g f s)] w fun e w'=>e=.returned (.int .i64 (opE D))/\ ∃S',DiskAt w' S' bd (opS true (setF b (p.2,p.2)) D)/\Gr S w S' w':=by
 have HS:=Lib.hid (sync_go (h.ext (ext_alloc w (.cells (sgc bd i g f s) 133))) ho hl hp);have HG:=Lib.hid (Gr.alloc (S:=S) (w:=w) (.cells (sgc bd i g f s) 133));clear h ho hl hp;unfold sgc at *
 go_enter Tryz.func92, Tryz.ntmps92
 go_wp2_with (go_at_call 141;refine HS.out.mono ?_;rintro e5 w5 ⟨rfl,S5,hD5,hG5⟩;have HD5:=Lib.hid hD5;have HG5:=Lib.hid hG5;clear hD5 hG5)
 go_ret
 exact⟨rfl,S5,HD5.out,HG.out.trans HG5.out⟩
set_option maxHeartbeats 3200000 in
set_option maxRecDepth 100000 in
theorem sput_go (h:DiskAt w S bd D) {i g f:Int} {s body:ByteArray} {k:UInt8} {b:Nat} {p:ByteArray×ByteArray} (ho:D.off=false) (hl:lk s D.now=some b) (hp:D.fl b=some p) (hk:1<=k.toNat/\k.toNat<=4) (hb:body.size<=60000)
  (h1:p.2.size+(body.size+9)<=1000000) (h2:(body.size:Int)+9+(usedD D:Int)<=D.cap) :
  Calls Tryz.prog 154 #[.agg (sgc bd i g f s),.int .i64 (k.toNat:Int),.string body] w fun e w'=>e=.returned (.int .i64 (opE D))/\ ∃S',DiskAt w' S' bd (opS false (setF b (p.1,p.2++frB k body)) D)/\Gr S w S' w':=by
 have hsz:(frB k body).size=body.size+9:=by
  unfold frB;rw[ByteArray.size_append,size_frA];show _+(le 4 _).toArray.size=_
  rw[List.size_toArray,length_le]
 have HP:=Lib.hid (fun w=>put_any k body w hk hb);have HS:=Lib.hid (show ∀wx,DiskAt wx S bd D->Calls Tryz.prog 195 #[.pointer (some ⟨bd,0,none⟩),.string s,.string (frB k body)] wx fun e w'=>e=.returned (.int .i64 (opE D))/\ ∃S',DiskAt w' S' bd (opS false (setF b (p.1,p.2++frB k body)) D)/\Gr S wx S' w' from
  fun wx hx=>append_go hx ho hl hp (by rw[hsz];exact h1) (by rw[hsz];push_cast;omega))
 have HD:=Lib.hid (fun w1 hb=>h.ext (w':=w1) hb);clear h ho hl hp h1 h2 hk hb hsz;unfold sgc;generalize frB k body=F at *
 have B0:=Blk.new w #[.pointer (some ⟨bd,0,none⟩),.int .i64 i,.int .i64 g,.int .i64 f,.string s] 133;have B2:=ext_alloc w (.cells #[.pointer (some ⟨bd,0,none⟩),.int .i64 i,.int .i64 g,.int .i64 f,.string s] 133)
 go_enter Tryz.func154, Tryz.ntmps154
 go_wp2_with (first
  |(go_at_call 109;refine(HP.out _).mono ?_;rintro e1 w1 ⟨rfl,hb1⟩;have HB1:=Lib.hid (B0.ext hb1);have HW1:=Lib.hid (B2.trans (hb1.mono B2.size));clear hb1 B0 B2;have k0:=HB1.out.cell 0 (v:=.pointer (some ⟨bd,0,none⟩)) rfl;have k4:=HB1.out.cell 4 (v:=.string s) rfl)
  |(go_at_call 195;refine(HS.out _ (HD.out _ HW1.out)).mono ?_;rintro e5 w5 ⟨rfl,S5,hD5,hG5⟩;have HD5:=Lib.hid hD5;have HG5:=Lib.hid hG5;clear hD5 hG5))
 go_ret
 exact⟨rfl,S5,HD5.out,(Gr.of_below HW1.out).trans HG5.out⟩
end
end Dk
end Go.Proofs.YtphfmgapiimliaaGreat
namespace Go.Proofs.YtphfmgapiimliaaGreat
namespace Dk
open Go.RowKit Hd Fm Sn
section
variable {w w':World} {S:Nat->Prop} {bd gN gS:Nat} {v:Value} {D:DS}
theorem rd_blk {g:Nat} {cs:Array Value} {t:TypeId} (h:Blk w g cs t):Rd w w.heap.size 1 (some ⟨g,0,none⟩) cs.size cs.toList :=
 ⟨by simp,fun _=>⟨_,rfl,h.lt,fun j u hu=>by
  rw[Addr.add_lit,Nat.zero_add];exact h.cell j (by simpa using hu)⟩⟩
structure Calm (D:DS):Prop where
 off:D.off=false
 armed:D.armed=0
theorem Calm.e (h:Calm D):opE D=0:=if_neg (by rw[h.armed];omega)
theorem Calm.s (h:Calm D) (b:Bool) (act:DS->DS):opS b act D=act (tick D):=if_neg (by rw[h.armed];omega)
theorem Calm.tick (h:Calm D):Calm (tick D):=⟨h.off,by show max (D.armed-1) 0=0;rw[h.armed];rfl⟩
theorem Calm.setF (h:Calm D) (b:Nat) (p:ByteArray×ByteArray):Calm (setF b p D):=⟨h.off,h.armed⟩
theorem Calm.chg (h:Calm D) (c:ByteArray×ByteArray×Option Nat):Calm (chgD c D):=⟨h.off,h.armed⟩
theorem Calm.up (h:Calm D):upE D=0:=by unfold upE;rw[h.off];rfl
set_option maxHeartbeats 1600000 in
theorem create1_go (h:DiskAt w S bd D) {bS:Nat} {i g f:Int} {s:ByteArray} (hb:Blk w bS (sgc bd i g f s) 133) (ho:D.off=false) (hs:Nm.check s.data.toList=0) (hl:lk s D.now=none) (hn:D.now.length<200) (hc:D.chg.length<=1000000) :
  Calls Tryz.prog 151 #[.pointer (some ⟨bS,0,none⟩)] w fun e w'=>e=.returned (.int .i64 (opE D))/\ ∃b S',D.fl b=none/\DiskAt w' S' bd (opS false (chgD (s,⟨#[]⟩,some b)) (setF b (⟨#[]⟩,⟨#[]⟩) D))/\Gr S w S' w':=by
 have HC:=Lib.hid (create_go h ho hs hl hn hc);have k0:=hb.cell 0 (v:=.pointer (some ⟨bd,0,none⟩)) rfl;have k4:=hb.cell 4 (v:=.string s) rfl;clear h hb ho hs hl hn hc
 go_enter Tryz.func151, Tryz.ntmps151
 go_wp2_with (go_at_call 152;refine HC.out.mono ?_;rintro e5 w5 ⟨rfl,b,S5,hf5,hD5,hG5⟩;have HD5:=Lib.hid (And.intro hf5 (And.intro hD5 hG5));clear hf5 hD5 hG5)
 go_ret
 exact⟨rfl,b,S5,HD5.out⟩
set_option maxHeartbeats 1600000 in
theorem create2_go (h:DiskAt w S bd D) {bS bB:Nat} {i g f:Int} {s body:ByteArray} (hS:Blk w bS (sgc bd i g f s) 133) (hB:Blk w bB #[.string body] 9) {b:Nat} {p:ByteArray×ByteArray} (ho:D.off=false) (hl:lk s D.now=some b) (hp:D.fl b=some p) (hb:body.size<=60000)
  (h1:p.2.size+(body.size+9)<=1000000) (h2:(body.size:Int)+9+(usedD D:Int)<=D.cap) :
  Calls Tryz.prog 153 #[.pointer (some ⟨bS,0,none⟩),.pointer (some ⟨bB,0,none⟩)] w fun e w'=>e=.returned (.int .i64 (opE D))/\ ∃S',DiskAt w' S' bd (opS false (setF b (p.1,p.2++frB 1 body)) D)/\Gr S w S' w':=by
 have HC:=Lib.hid (sput_go (k:=1) h (i:=i) (g:=g) (f:=f) ho hl hp (by decide) hb h1 h2);rw[show((1:UInt8).toNat:Int)=1 from rfl] at HC;unfold sgc at *
 have k0:=hS.cell 0 (v:=.pointer (some ⟨bd,0,none⟩)) rfl;have k1:=hS.cell 1 (v:=.int .i64 i) rfl;have k2:=hS.cell 2 (v:=.int .i64 g) rfl;have k3:=hS.cell 3 (v:=.int .i64 f) rfl;have k4:=hS.cell 4 (v:=.string s) rfl;have b0:=hB.cell 0 (v:=.string body) rfl;clear h hS hB ho hl hp hb h1 h2
 go_enter Tryz.func153, Tryz.ntmps153
 go_wp2_with (go_at_call 154;refine HC.out.mono ?_;rintro e5 w5 ⟨rfl,S5,hD5,hG5⟩;have HD5:=Lib.hid hD5;have HG5:=Lib.hid hG5;clear hD5 hG5)
 go_ret
 exact⟨rfl,S5,HD5.out,HG5.out⟩
end
end Dk
end Go.Proofs.YtphfmgapiimliaaGreat
namespace Go.Proofs.YtphfmgapiimliaaGreat
namespace Dk
open Go.RowKit Hd Fm Sn
theorem lk_pt (s:ByteArray) (b:Nat):∀l,lk s (pt s b l)=some b
 | []=>by rw[pt,lk_cons,if_pos rfl]
 |x::l=>by
  unfold pt;split
  ·rw[lk_cons,if_pos rfl]
  ·rename_i h
   rw[lk_cons,if_neg h,lk_pt s b l]
theorem pt_new (s:ByteArray) (b:Nat):∀l,lk s l=none->pt s b l=l++[(s,b)]
 | [],_=>rfl
 |x::l,h=>by
  rw[lk_cons] at h;split at h
  ·cases h
  ·rename_i hx
   rw[pt,if_neg hx,pt_new s b l h];rfl
theorem szs_other {fl:Nat->Option (ByteArray×ByteArray)} {b:Nat} (p:ByteArray×ByteArray):∀l:List (ByteArray×Nat),(∀x∈l,x.2≠b)->szs (fun k=>if k=b then some p else fl k) l=szs fl l
 | [],_=>rfl
 |x::l,h=>by
  rw[szs,szs,if_neg (h x (List.mem_cons_self ..)),szs_other p l fun y hy=>h y (List.mem_cons_of_mem _ hy)]
def d1 (s:ByteArray) (b:Nat) (D:DS):DS:=chgD (s,⟨#[]⟩,some b) (tick (setF b (⟨#[]⟩,⟨#[]⟩) D))
def d2 (s:ByteArray) (T:ByteArray) (b:Nat) (D:DS):DS:=setF b (⟨#[]⟩,⟨#[]⟩++T) (tick (d1 s b D))
def d3 (s:ByteArray) (T:ByteArray) (b:Nat) (D:DS):DS:=setF b (⟨#[]⟩++T,⟨#[]⟩++T) (tick (d2 s T b D))
theorem d1_now {s:ByteArray} {b:Nat} {D:DS} (hl:lk s D.now=none):(d1 s b D).now=D.now++[(s,b)]:=by
 show app (s,⟨#[]⟩,some b) D.now=_
 unfold app;dsimp only;rw[if_pos rfl,pt_new s b _ hl]
theorem d1_used {s:ByteArray} {b:Nat} {D:DS} (hl:lk s D.now=none) (hf:Fit D) (hb:D.fl b=none):usedD (d1 s b D)=usedD D:=by
 unfold usedD;rw[d1_now hl,szs_append];have e:(d1 s b D).fl=fun k=>if k=b then some (⟨#[]⟩,⟨#[]⟩) else D.fl k:=rfl
 rw[e,szs_other _ _ fun x hx h=>hf.wfN x hx (by rw[h];exact hb)];rw[szs,szs,if_pos rfl];rfl
theorem opS_calm {D:DS} (h:Calm D) (b:Bool) (act:DS->DS):opS b act D=act (tick D):=h.s b act
section
variable {w w':World} {S:Nat->Prop} {bd gN gS:Nat} {v:Value} {D:DS}
theorem DiskAt.fit (h:DiskAt w S bd D):Fit D:=by
 obtain⟨gN,gS,v,h⟩:=h;exact h.fit
set_option maxHeartbeats 1600000 in
theorem create_all (h:DiskAt w S bd D) (hc:Calm D) {bS bB gF:Nat} {i g f:Int} {s body:ByteArray} (hS:Blk w bS (sgc bd i g f s) 133) (hB:Blk w bB #[.string body] 9)
  (hF:Blk w gF #[.func (.func 151) #[] #[.pointer (some ⟨bS,0,none⟩)],.func (.func 153) #[] #[.pointer (some ⟨bS,0,none⟩),.pointer (some ⟨bB,0,none⟩)],.func (.func 92) #[.agg (sgc bd i g f s)] #[]] 93)
  (nS: ¬ S bS) (nB: ¬ S bB) (nF: ¬ S gF) (hs:Nm.check s.data.toList=0) (hl:lk s D.now=none) (hn:D.now.length<200) (hch:D.chg.length<=1000000) (hb:body.size<=60000) (h2:(body.size:Int)+9+(usedD D:Int)<=D.cap) :
  Calls Tryz.prog 89 #[.slice (some ⟨gF,0,none⟩) 3 3] w fun e w'=>e=.returned (.int .i64 0)/\ ∃b S',D.fl b=none/\DiskAt w' S' bd (d3 s (frB 1 body) b D)/\Gr S w S' w':=by
 have hfit:=h.fit
 let R:Nat->DS->Prop:=fun k D'=>match k with
  |0=>D'=D
  |1=>∃b,D.fl b=none/\D'=d1 s b D
  |2=>∃b,D.fl b=none/\D'=d2 s (frB 1 body) b D
  |_=>∃b,D.fl b=none/\D'=d3 s (frB 1 body) b D
 refine(all_any [(151,#[],#[.pointer (some ⟨bS,0,none⟩)]),(153,#[],#[.pointer (some ⟨bS,0,none⟩),.pointer (some ⟨bB,0,none⟩)]),(92,#[.agg (sgc bd i g f s)],#[])]
  (some ⟨gF,0,none⟩) 3 3 w (fun k wx=>∃S' D',Gr S w S' wx/\DiskAt wx S' bd D'/\R k D') (fun _ _=>False) (by omega) ?_ ⟨S,D,Gr.refl _ _,h,rfl⟩ ?_ ?_).mono ?_
 ·rintro k wx ⟨S',D',g1,-⟩
  exact rd_blk (g1.blk hF nF)
 ·intro f' hf'
  simp only[List.mem_cons,List.not_mem_nil,or_false] at hf';rcases hf' with rfl|rfl|rfl
  ·exact enters_of Tryz.func151 (by kernel_rfl) rfl
  ·exact enters_of Tryz.func153 (by kernel_rfl) rfl
  ·exact enters_of Tryz.func92 (by kernel_rfl) rfl
 ·intro k f' hf' wx hJ
  obtain⟨S',D',g1,hD,hR⟩:=hJ;rcases k with _|_|_|k
  ·simp only[List.getElem?_cons_zero,Option.some.injEq] at hf'
   subst hf';obtain rfl:D'=D:=hR;refine(create1_go hD (g1.blk hS nS) hc.off hs hl hn hch).mono ?_;rintro e w2 ⟨rfl,b,S2,hbn,hD2,g2⟩;refine⟨0,by rw[hc.e],.inl ⟨rfl,S2,_,g1.trans g2,hD2,b,hbn,?_⟩⟩;rw[opS_calm (hc.setF b _)];rfl
  ·simp only[List.getElem?_cons_succ,List.getElem?_cons_zero,Option.some.injEq] at hf'
   subst hf';obtain⟨b,hbn,rfl⟩:∃b,D.fl b=none/\D'=d1 s b D:=hR;have c1:Calm (d1 s b D):=((hc.setF b _).tick).chg _;refine(create2_go hD (g1.blk hS nS) (g1.blk hB nB) (b:=b) (p:=(⟨#[]⟩,⟨#[]⟩)) c1.off (by rw[d1_now hl,<-pt_new s b _ hl];exact lk_pt s b _) (by show(if b=b then _ else _)=_;rw[if_pos rfl]) hb (by show 0+_<=_;omega) (by rw[d1_used hl hfit hbn];exact h2)).mono ?_;rintro e w2 ⟨rfl,S2,hD2,g2⟩;refine⟨0,by rw[c1.e],.inl ⟨rfl,S2,_,g1.trans g2,hD2,b,hbn,?_⟩⟩;rw[opS_calm c1];rfl
  ·simp only[List.getElem?_cons_succ,List.getElem?_cons_zero,Option.some.injEq] at hf'
   subst hf';obtain⟨b,hbn,rfl⟩:∃b,D.fl b=none/\D'=d2 s (frB 1 body) b D:=hR;have c1:Calm (d2 s (frB 1 body) b D):=(((hc.setF b _).tick).chg _).tick.setF b _;refine(ssync_go hD (b:=b) (p:=(⟨#[]⟩,⟨#[]⟩++frB 1 body)) c1.off (by show lk s (d1 s b D).now=_;rw[d1_now hl,<-pt_new s b _ hl];exact lk_pt s b _) (by show(if b=b then _ else _)=_;rw[if_pos rfl])).mono ?_;rintro e w2 ⟨rfl,S2,hD2,g2⟩;refine⟨0,by rw[c1.e],.inl ⟨rfl,S2,_,g1.trans g2,hD2,b,hbn,?_⟩⟩;rw[opS_calm c1];rfl
  ·simp at hf'
 ·rintro e w' ⟨x,rfl,⟨rfl,S',D',g1,hD,b,hbn,rfl⟩|⟨-,hF⟩⟩
  ·exact⟨rfl,b,S',hbn,hD,g1⟩
  ·exact hF.elim
end
end Dk
end Go.Proofs.YtphfmgapiimliaaGreat
