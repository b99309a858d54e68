/- buff.Add of one record to none. skip.Filter, skip.Page of the probe's record. pick.Flush of few bytes. -/
import Derived.Test.YtejcdhdfanfkbaaGreatFb45
import Derived.Test.YtejcdhdfanfkbaaGreatFb29
import Derived.Test.YtejcdhdfanfkbaaGreatFb19
import Derived.Test.YtejcdhdfanfkbaaGreatFb44
namespace Go.Proofs.YtejcdhdfanfkbaaGreat
namespace Lg
open Go.RowKit Hd Rd Fm Sn Nf Dk Vi
open Go.Proofs.YtejcdhdfanfkbaaGreat.Op Go.Proofs.YtejcdhdfanfkbaaGreat.Rf
def r1:Rc:=(1,0,⟨#[104,105]⟩)
theorem r1_row:Rd.rowE none [r1]=0:=by decide
theorem r1_ok:∀r∈ [r1],ok1 r=true:=row_ok1 [r1] none r1_row
theorem r1_raw:(rawR [r1]:Int)=5:=by
 have e:recB r1=putV 1++(putV 0++(putV 2++[104,105])):=rfl;have p0:putV 0=[0]:=putV_small (by omega);have p1:putV 1=[1]:=putV_small (by omega);have p2:putV 2=[2]:=putV_small (by omega);show((min (0+(recB r1).length) 1000000:Nat):Int)=5
 rw[e,p0,p1,p2];rfl
set_option maxHeartbeats 6400000 in
set_option maxRecDepth 100000 in
theorem add_go (w:World) :
  Calls Tryz.prog 79 #[.slice none 0 0,.agg #[.int .i64 1,.int .i64 0,.string ⟨#[104,105]⟩]] w fun e w'=>(∃g c,e=.returned (.tuple #[.slice (some ⟨g,0,none⟩) 1 c,.int .i64 0])/\w'.ownsRow w.heap.size 84 3 (.slice (some ⟨g,0,none⟩) 1 c) 1 (flS [r1]))/\Below w.heap.size w w':=by
 have mixed:Tryz.prog.follows .mixedOrders=true:=by kernel_rfl
 have HRW:=Lib.hid (fun(A:Option Addr) (c:Nat) (wx:World) (hr:Rd wx wx.heap.size 3 A 1 (flS [r1]))=>show Calls Tryz.prog 136 #[.slice A 1 c] wx fun e w'=>e=.returned (.int .i64 0)/\Below wx.heap.size wx w' from by
  have:=Rd.row_any A 1 c [r1] wx hr (by omega)
  rwa [r1_row] at this)
 have HRA:=Lib.hid (fun(A:Option Addr) (c:Nat) (wx:World) (hr:Rd wx wx.heap.size 3 A 1 (flS [r1]))=>show Calls Tryz.prog 81 #[.slice A 1 c] wx fun e w'=>e=.returned (.int .i64 (rawR [r1]:Int))/\Below wx.heap.size wx w' from raw_any A 1 c [r1] wx hr (by omega) r1_ok);have hraw:(rawR [r1]:Int)=5:=r1_raw;rw[hraw] at HRA;clear hraw
 go_enter Tryz.func79, Tryz.ntmps79
 go_upto_region 1 with fail
 have HB0:=Lib.hid (ext_alloc w (.cells #[.int .i64 1,.int .i64 0,.string ⟨#[104,105]⟩] 84));have HT0:=Lib.hid (Blk.new w #[.int .i64 1,.int .i64 0,.string ⟨#[104,105]⟩] 84);generalize w.alloc (.cells #[.int .i64 1,.int .i64 0,.string ⟨#[104,105]⟩] 84)=w0 at *
 generalize hb0:w.heap.size=b0 at *
 have HRV:=Lib.hid (show Rd (w0.alloc (.cells #[.int .i64 1,.int .i64 0,.string ⟨#[104,105]⟩] 84)).drew (w0.alloc (.cells #[.int .i64 1,.int .i64 0,.string ⟨#[104,105]⟩] 84)).drew.heap.size 3 (some ⟨w0.heap.size,0,none⟩) 1 (flS [r1]) from(rdV_new (sz:=3) 84 w0 [.int .i64 1,.int .i64 0,.string ⟨#[104,105]⟩] rfl).below (Below.refl _ _).drew);have HNO:=Lib.hid (fun(g:Nat) (h:some (⟨g,0,none⟩:Addr)=none)=>show(1:Nat)=0 from by cases h);have HONE:=Lib.hid (show ∀u∈flS [r1],u.oneCell'=true from flS_one one_rc [r1]);have HOW:=Lib.hid (World.ownsRow_nil (w0.alloc (.cells #[.int .i64 1,.int .i64 0,.string ⟨#[104,105]⟩] 84)).drew w0.heap.size 84 3);have HLE:=Lib.hid (show w0.heap.size<=(w0.alloc (.cells #[.int .i64 1,.int .i64 0,.string ⟨#[104,105]⟩] 84)).drew.heap.size from(show w0.heap.size<=(w0.alloc (.cells #[.int .i64 1,.int .i64 0,.string ⟨#[104,105]⟩] 84)).heap.size by simp));have HSA:=Lib.hid (show ∀w9,Below w0.heap.size w0 w9->w9.cell? ⟨b0,0,none⟩=some (.int .i64 1)/\w9.cell? ⟨b0,1,none⟩=some (.int .i64 0)/\w9.cell? ⟨b0,2,none⟩=some (.string ⟨#[104,105]⟩) from fun w9 hb9=>⟨(HT0.out.ext hb9).cell 0 rfl,(HT0.out.ext hb9).cell 1 rfl,(HT0.out.ext hb9).cell 2 rfl⟩);have hS0:=HSA.out w0.drew (Below.refl _ _).drew;have HEA:=Lib.hid (show Below w0.heap.size w0 (w0.alloc (.cells #[.int .i64 1,.int .i64 0,.string ⟨#[104,105]⟩] 84)).drew from(ext_alloc w0 _).drew);have hSA:=HSA.out _ HEA.out;go_region_held3 (fun wx:World=>wx.cell? ⟨b0,0,none⟩=some (.int .i64 1)/\wx.cell? ⟨b0,1,none⟩=some (.int .i64 0)/\wx.cell? ⟨b0,2,none⟩=some (.string ⟨#[104,105]⟩)) (first|with_reducible exact hS0|with_reducible assumption) (first
  |(refine step_appV rcEl (.tmp 13) (.tmp 15) rfl rfl HOW.out HRV.out (HNO.out w0.heap.size) HONE.out (by omega) (by decide) HLE.out (by rfl) (by rfl) ?_;intro v9 w9 hown9 hb9 _;have hS9:=HSA.out w9 (HEA.out.trans hb9);have HW9:=Lib.hid (And.intro hown9 (HEA.out.trans hb9));clear hown9 hb9))
 all_goals
  have hown:=HW9.out.1;rw[List.nil_append] at hown;obtain⟨g,c,rfl,-⟩:=World.ownsRow.form (n:=1) hown (by omega);have HBW:=Lib.hid (HB0.out.trans (HW9.out.2.mono (hb0▸HB0.out.size)));have HR9:=Lib.hid (Rd.of_own (n:=1) hown);have HOF:=Lib.hid (own_lower (n:=1) hown (hb0▸HB0.out.size));clear hS0 hSA hS9 hown HSA HEA HOW HRV HONE HLE HNO HW9 HT0;go_wp2_with (first
   |(go_at_call 136;refine(HRW.out _ _ _ HR9.out).mono ?_;rintro e1 w1 ⟨rfl,hb1⟩;have HB1:=Lib.hid (HBW.out.trans (hb1.mono (hb0▸HBW.out.size)));have HR1:=Lib.hid ((HR9.out.below hb1).more hb1.size);have HO1:=Lib.hid (own_below HOF.out hb1 (Nat.le_refl _));clear hb1)
   |(go_at_call 81;refine(HRA.out _ _ _ HR1.out).mono ?_;rintro e2 w2 ⟨rfl,hb2⟩;have HB2:=Lib.hid (HB1.out.trans (hb2.mono (hb0▸HB1.out.size)));have HO2:=Lib.hid (own_below HO1.out hb2 (Nat.le_refl _));clear hb2))
  go_ret2
  exact⟨⟨g,c,rfl,by rw[hb0];exact HO2.out⟩,by rw[hb0];exact HB2.out⟩
end Lg
end Go.Proofs.YtejcdhdfanfkbaaGreat
namespace Go.Proofs.YtejcdhdfanfkbaaGreat
namespace Gq
open Go.RowKit Hd Rd Lg
open Go.Proofs.YtejcdhdfanfkbaaGreat.Op Go.Proofs.YtejcdhdfanfkbaaGreat.Rf
def hitF:Value:=.func (.func 200) #[.agg av] #[]
set_option maxHeartbeats 3200000 in
set_option maxRecDepth 100000 in
theorem filter1_q (bh:Nat) (w:World) (hh:Blk w bh #[hitF] 295) :
  Calls Tryz.prog 202 #[.agg rv,.pointer (some ⟨bh,0,none⟩)] w fun e w'=>e=.returned (.bool false)/\Below w.heap.size w w':=by
 have mixed:Tryz.prog.follows .mixedOrders=true:=by kernel_rfl
 have HHI:=Lib.hid (fun wx=>hit_q wx);have HB0:=Lib.hid (ext_alloc w (.cells rv 84));have k0:=(hh.alloc (.cells rv 84)).cell 0 (v:=hitF) rfl;have HR:=Lib.hid (Blk.new w rv 84);unfold hitF at k0;unfold rv at *
 have r0:=HR.out.cell 0 (v:=.int .i64 1) rfl;have r1:=HR.out.cell 1 (v:=.int .i64 0) rfl;have r2:=HR.out.cell 2 (v:=.string ⟨#[104,105]⟩) rfl;clear hh;generalize av=AV at *
 go_enter Tryz.func202, Tryz.ntmps202
 go_upto_region 1 with fail
 generalize w.alloc (.cells #[.int .i64 1,.int .i64 0,.string ⟨#[104,105]⟩] 84)=w0 at *
 go_wp2_with (go_at_call 200;refine(HHI.out _).mono ?_;rintro e1 w1 ⟨rfl,hb1⟩;have HB1:=Lib.hid (HB0.out.trans (hb1.mono HB0.out.size));clear hb1)
 go_ret
 exact⟨rfl,HB1.out⟩
set_option maxHeartbeats 3200000 in
set_option maxRecDepth 100000 in
theorem index_q (ad:Addr) (c bh:Nat) (w:World) (hh:Blk w bh #[hitF] 295) (hr:Rd w w.heap.size 3 (some ad) 1 (flS [r1])) :
  Calls Tryz.prog 251 #[.slice (some ad) 1 c,.func (.func 202) #[] #[.pointer (some ⟨bh,0,none⟩)]] w fun e w'=>e=.returned (.int .i64 (-1))/\Below w.heap.size w w':=by
 have HF:=Lib.hid (fun(wx:World) (hb:Below w.heap.size w wx)=>filter1_q bh wx (hh.ext hb));unfold rv at HF;obtain⟨ad2,m,e,hbk,hx,e0,ej⟩:=sl_at hr (k:=0) (by omega);cases e
 rw[Nat.zero_mul] at e0 ej;cases hx
 have hz:ad.add 0=ad:=by simp[go_sem]
 rw[hz] at e0 ej;have c0:w.cell? ad=some (.int .i64 1):=e0;have c1:w.cell? ⟨ad.block,ad.off+1,none⟩=some (.int .i64 0):=ej 0 (by decide);have c2:w.cell? ⟨ad.block,ad.off+2,none⟩=some (.string ⟨#[104,105]⟩):=ej 1 (by decide);clear e0 ej hr hh
 go_enter Tryz.func251, Tryz.ntmps251
 go_wp2_with fail
 go_loopw [8] (fun v wr=>∃k:Nat,v=.int .i64 k/\k<=1/\(k=0->wr=w)/\Hid (Below w.heap.size w wr)) (fun v _=>1-(intOf v).toNat)
 case atStart=>exact⟨0,by go_num,by omega,fun _=>rfl,Lib.hid (Below.refl _ _)⟩
 case round =>
  obtain⟨k,rfl,hk,hw,HX⟩:=hrel;by_cases hkn:k=0
  ·subst hkn
   obtain rfl:=hw rfl;clear hw;go_wp2_with (go_at_call 202;refine(HF.out _ HX.out).mono ?_;rintro e1 w1 ⟨rfl,hb1⟩;have HB1:=Lib.hid hb1;clear hb1)
   go_roundw
   ·exact⟨1,by first|rfl|go_num,by omega,(fun h=>by cases h),HB1.out⟩
   ·simp[intOf]
  ·obtain rfl:k=1:=by omega
   clear hw;go_wp2_with fail
   go_ret
   exact⟨rfl,HX.out⟩
set_option maxHeartbeats 3200000 in
theorem delete_q (ad:Addr) (c bh:Nat) (w:World) (hh:Blk w bh #[hitF] 295) (hr:Rd w w.heap.size 3 (some ad) 1 (flS [r1])) :
  Calls Tryz.prog 201 #[.slice (some ad) 1 c,.func (.func 202) #[] #[.pointer (some ⟨bh,0,none⟩)]] w fun e w'=>e=.returned (.slice (some ad) 1 c)/\Below w.heap.size w w':=by
 have HI:=Lib.hid (index_q ad c bh w hh hr);clear hr hh
 go_enter Tryz.func201, Tryz.ntmps201
 go_wp2_with (go_at_call 251;refine HI.out.mono ?_;rintro e1 w1 ⟨rfl,hb1⟩;have HB1:=Lib.hid hb1;clear hb1)
 go_ret
 exact⟨rfl,HB1.out⟩
theorem store_fn {P:Program} {w:World} {a:Addr} {v old:Value} (h1:v.oneCell'=true) (hc:w.cell? a=some old) (hf:w.frozen? a=false):(store a v).run P w=.ok () (w.setCell a v):=by
 rw[run_store P w a v _ h1,hc];simp[hf]
theorem loadAt_q2 (x:Value):Instr.loadAt 168 x=loadRow 168 x:=rfl
attribute [local go_sem ↓] loadAt_q2
attribute [local go_sem] run_loadRow
set_option maxHeartbeats 3200000 in
set_option maxRecDepth 100000 in
theorem filter_q (ad:Addr) (c:Nat) (w:World) (hr:Rd w w.heap.size 3 (some ad) 1 (flS [r1])) :
  Calls Tryz.prog 147 #[.agg qv,.slice (some ad) 1 c] w fun e w'=>(∃g c',e=.returned (.slice (some ⟨g,0,none⟩) 1 c')/\w'.ownsRow w.heap.size 84 3 (.slice (some ⟨g,0,none⟩) 1 c') 1 (flS [r1]))/\Below w.heap.size w w':=by
 have mixed:Tryz.prog.follows .mixedOrders=true:=by kernel_rfl
 have HOF:=Lib.hid (fun wx=>of_q wx);have HCL:=Lib.hid (fun(wx:World) (hb:Below w.heap.size w wx)=>clone_rc (some ad) 1 c [r1] wx ((hr.below hb).more hb.size) (by omega) (fun h=>by cases h));have HDE:=Lib.hid (fun(bh g c':Nat) (wx:World) (h1:Blk wx bh #[.func (.func 200) #[.agg av] #[]] 295) (h2:Rd wx wx.heap.size 3 (some ⟨g,0,none⟩) 1 (flS [r1]))=>delete_q ⟨g,0,none⟩ c' bh wx h1 h2);have hq7:qv.size=7:=rfl;have hrt:RowTy Tryz.prog 168 7:=⟨q_info,_,Tryz.underlying168⟩
 clear hr;generalize qv=QV at *
 generalize av=AV at *
 have HB0:=Lib.hid (ext_alloc w (.cells QV 168));have HQ0:=Lib.hid (Blk.new w QV 168)
 go_enter Tryz.func147, Tryz.ntmps147
 go_upto_region 1 with fail
 generalize w.alloc (.cells QV 168)=w0 at *
 have q1:=HQ0.out.rowAt.1;have q2:=HQ0.out.rowAt.2;go_upto_region 2 with (go_at_call 199;refine(HOF.out _).mono ?_;rintro e1 w1 ⟨rfl,hb1⟩;have HB1:=Lib.hid (HB0.out.trans (hb1.mono HB0.out.size));have hn1:=Blk.new w1 #[.nilFunc] 295;have hst:=store_fn (P:=Tryz.prog) (v:=.func (.func 200) #[.agg AV] #[]) rfl (hn1.cell 0 rfl) (hn1.fz 0);clear hb1)
 clear q1 q2 hst;have HH2:=Lib.hid (Blk.new w1 #[.func (.func 200) #[.agg AV] #[]] 295);have HB2:=Lib.hid (HB1.out.trans ((ext_alloc w1 (.cells #[.func (.func 200) #[.agg AV] #[]] 295)).mono HB1.out.size));clear hn1;generalize w1.alloc (.cells #[.func (.func 200) #[.agg AV] #[]] 295)=w2 at *
 generalize w1.heap.size=bh at *
 go_wp2_with (first
  |(go_at_call 183;refine(HCL.out _ HB2.out).mono ?_;rintro e3 w3 ⟨⟨A3,c3,rfl,ho3,-⟩,hb3⟩;obtain⟨g3,cc3,he3,-⟩:=World.ownsRow.form ho3 (by omega);cases he3;have HO3:=Lib.hid ho3;have HH3:=Lib.hid (HH2.out.ext hb3);have HB3:=Lib.hid (HB2.out.trans (hb3.mono HB2.out.size));have HR3:=Lib.hid (Rd.of_own ho3);clear ho3 hb3)
  |(go_at_call 201;refine(HDE.out bh g3 _ _ HH3.out HR3.out).mono ?_;rintro e4 w4 ⟨rfl,hb4⟩;have HO4:=Lib.hid (own_below HO3.out hb4 (Nat.le_refl _));have HB4:=Lib.hid (HB3.out.trans (hb4.mono HB3.out.size));clear hb4))
 go_ret
 exact⟨⟨_,_,rfl,own_lower HO4.out HB2.out.size⟩,HB4.out⟩
theorem pg_info:(Tryz.prog.info? 170).map (·.size)=some 2:=by kernel_rfl
set_option maxHeartbeats 3200000 in
set_option maxRecDepth 100000 in
theorem page_q (ad:Addr) (c:Nat) (w:World) (hr:Rd w w.heap.size 3 (some ad) 1 (flS [r1])) :
  Calls Tryz.prog 148 #[.agg qv,.slice (some ad) 1 c] w fun e w'=>(∃g c',e=.returned (.agg #[.slice (some ⟨g,0,none⟩) 1 c',.int .i64 0])/\w'.ownsRow w.heap.size 84 3 (.slice (some ⟨g,0,none⟩) 1 c') 1 (flS [r1]))/\Below w.heap.size w w':=by
 have mixed:Tryz.prog.follows .mixedOrders=true:=by kernel_rfl
 have HFI:=Lib.hid (fun(wx:World) (hb:Below w.heap.size w wx)=>filter_q ad c wx ((hr.below hb).more hb.size));have hq7:qv.size=7:=rfl;have HK:=Lib.hid (show qv[5]? =some (.int .i64 9) from rfl);have hrt:RowTy Tryz.prog 168 7:=⟨q_info,_,Tryz.underlying168⟩
 clear hr;generalize qv=QV at *
 have HB0:=Lib.hid ((ext_alloc w (.cells QV 168)).trans ((ext_alloc _ (.cells #[.slice none 0 0,.int .i64 0] 170)).mono (by simp)));have HQ0:=Lib.hid ((Blk.new w QV 168).alloc (.cells #[.slice none 0 0,.int .i64 0] 170));have HP0:=Lib.hid (show Blk ((w.alloc (.cells QV 168)).alloc (.cells #[.slice none 0 0,.int .i64 0] 170)) (w.heap.size+1) #[.slice none 0 0,.int .i64 0] 170 from by simpa using Blk.new (w.alloc (.cells QV 168)) #[.slice none 0 0,.int .i64 0] 170)
 go_enter Tryz.func148, Tryz.ntmps148
 go_upto_region 1 with fail
 generalize (w.alloc (.cells QV 168)).alloc (.cells #[.slice none 0 0,.int .i64 0] 170)=w0 at *
 have q1:=HQ0.out.rowAt.1;have q2:=HQ0.out.rowAt.2;go_wp2_with (first
  |(go_at_call 147;refine(HFI.out _ HB0.out).mono ?_;rintro e1 w1 ⟨⟨g,c1,rfl,ho1⟩,hb1⟩;have HO1:=Lib.hid (own_lower ho1 HB0.out.size);have HG1:=Lib.hid (World.ownsRow.lt ho1 g rfl).1;have HB1:=Lib.hid (HB0.out.trans (hb1.mono HB0.out.size));have k5:=(HQ0.out.ext hb1).cell 5 HK.out;have HP1:=Lib.hid (HP0.out.ext hb1);have z0:=HP1.out.cell 0 rfl;have z1:=HP1.out.cell 1 rfl;have f0:=HP1.out.fz 0;have f1:=HP1.out.fz 1;clear ho1 hb1))
 refine bodyPost_ret (v:=.agg #[.slice (some ⟨g,0,none⟩) 1 c1,.int .i64 0]) (by exact results_cell1 rfl rfl ((HP1.out.put 0 (.slice (some ⟨g,0,none⟩) 1 c1)).put 1 (.int .i64 0)) Tryz.underlying170 rfl pg_info) (by exact rfl) ?_;have hg:g≠w.heap.size+1:=by have:=HP0.out.lt;have:=HG1.out;omega
 exact⟨⟨g,c1,rfl,own_setCell_far (a:=⟨w.heap.size+1,1,none⟩) (own_setCell_far (a:=⟨w.heap.size+1,0,none⟩) HO1.out (fun h=>hg (Option.some.inj h)) _) (fun h=>hg (Option.some.inj h)) _⟩,(HB1.out.setCell (p:=⟨w.heap.size+1,0,none⟩) (Nat.le_succ _) _).setCell (p:=⟨w.heap.size+1,1,none⟩) (Nat.le_succ _) _⟩
end Gq
end Go.Proofs.YtejcdhdfanfkbaaGreat
namespace Go.Proofs.YtejcdhdfanfkbaaGreat
namespace Lg
open Go.RowKit Hd Rd Fm Sn Nf Dk Vi
open Go.Proofs.YtejcdhdfanfkbaaGreat.Op Go.Proofs.YtejcdhdfanfkbaaGreat.Rf
theorem clamp5 (w:World):Calls Tryz.prog 137 #[.int .i64 5] w fun e w'=>e=.returned (.int .i64 5)/\w'=w:=by
 go_enter Tryz.func137, Tryz.ntmps137
 go_wp2_with fail
 go_ret
 exact⟨rfl,rfl⟩
set_option maxHeartbeats 6400000 in
set_option maxRecDepth 100000 in
theorem flush_no (w:World) :
  Calls Tryz.prog 80 #[.agg #[.int .i64 40,.int .i64 100,.int .i64 300,.int .i64 0,.int .i64 0,.int .i64 0,.int .i64 0],.int .i64 5] w fun e w'=>e=.returned (.bool false)/\Below w.heap.size w w':=by
 have mixed:Tryz.prog.follows .mixedOrders=true:=by kernel_rfl
 have HPK:=Lib.hid (fun wx=>show Calls Tryz.prog 72 #[.agg #[.int .i64 40,.int .i64 100,.int .i64 300,.int .i64 0,.int .i64 0,.int .i64 0,.int .i64 0]] wx fun e w'=>e=.returned (.int .i64 0)/\Below wx.heap.size wx w' from pcheck_any c40 wx);have HCL:=Lib.hid (fun wx=>clamp5 wx)
 go_enter Tryz.func80, Tryz.ntmps80
 go_upto_region 1 with fail
 have HB0:=Lib.hid (ext_alloc w (.cells #[.int .i64 40,.int .i64 100,.int .i64 300,.int .i64 0,.int .i64 0,.int .i64 0,.int .i64 0] 67));have HT0:=Lib.hid (Blk.new w #[.int .i64 40,.int .i64 100,.int .i64 300,.int .i64 0,.int .i64 0,.int .i64 0,.int .i64 0] 67);generalize w.alloc (.cells #[.int .i64 40,.int .i64 100,.int .i64 300,.int .i64 0,.int .i64 0,.int .i64 0,.int .i64 0] 67)=w0 at *
 generalize hb0:w.heap.size=b0 at *
 have HN:=Lib.hid (show ∀wx,Below w0.heap.size w0 wx->(fun wx=>(wx.cell? ⟨b0,0,none⟩=some (.int .i64 40)/\wx.cell? ⟨b0,1,none⟩=some (.int .i64 100)/\wx.cell? ⟨b0,2,none⟩=some (.int .i64 300)/\wx.cell? ⟨b0,3,none⟩=some (.int .i64 0)/\wx.cell? ⟨b0,4,none⟩=some (.int .i64 0)/\wx.cell? ⟨b0,5,none⟩=some (.int .i64 0)/\wx.cell? ⟨b0,6,none⟩=some (.int .i64 0))/\Below w0.heap.size w0 wx) wx from fun wx hb =>
  ⟨⟨(HT0.out.ext hb).cell 0 rfl,(HT0.out.ext hb).cell 1 rfl,(HT0.out.ext hb).cell 2 rfl,(HT0.out.ext hb).cell 3 rfl,(HT0.out.ext hb).cell 4 rfl,(HT0.out.ext hb).cell 5 rfl,(HT0.out.ext hb).cell 6 rfl⟩,hb⟩)
 have hSd:=HN.out w0.drew (Below.refl _ _).drew;go_region_held3 (fun wx=>(wx.cell? ⟨b0,0,none⟩=some (.int .i64 40)/\wx.cell? ⟨b0,1,none⟩=some (.int .i64 100)/\wx.cell? ⟨b0,2,none⟩=some (.int .i64 300)/\wx.cell? ⟨b0,3,none⟩=some (.int .i64 0)/\wx.cell? ⟨b0,4,none⟩=some (.int .i64 0)/\wx.cell? ⟨b0,5,none⟩=some (.int .i64 0)/\wx.cell? ⟨b0,6,none⟩=some (.int .i64 0))/\Below w0.heap.size w0 wx) (first|with_reducible exact hSd|with_reducible assumption) (first
  |(go_at_call 72;refine(HPK.out _).mono ?_;rintro e1 w1 ⟨rfl,hb1⟩;have hS1:=HN.out w1 (hSd.2.trans (hb1.mono hSd.2.size));clear hb1)
  |(go_at_call 137;refine(HCL.out _).mono ?_;rintro e2 w2 ⟨rfl,rfl⟩))
 all_goals
  go_wp2_with fail
  go_ret
  exact⟨rfl,by rw[hb0];exact HB0.out.trans (hS1.2.mono (hb0▸HB0.out.size))⟩
end Lg
end Go.Proofs.YtejcdhdfanfkbaaGreat
