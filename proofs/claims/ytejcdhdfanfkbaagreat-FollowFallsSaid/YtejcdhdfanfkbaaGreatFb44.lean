/- A whole struct stored in one step, ahead of any unfolding: for regions that draw. Over any program. skip: what a query of the probe asks for. -/
import Derived.Test.YtejcdhdfanfkbaaGreatFb10
import Derived.Test.YtejcdhdfanfkbaaGreatFb43
import Derived.Test.YtejcdhdfanfkbaaGreatFb29
namespace Go.Proofs.YtejcdhdfanfkbaaGreat
open Go.RowKit
theorem drew_setRow (w:World) (k:Nat) (z:Array Value):w.drew.setRow k z=(w.setRow k z).drew:=rfl
def AllOne (z:Array Value):Prop:=z.all (·.oneCell')=true
def storeRow (t:TypeId) (x y:Value):Sem Unit:=Instr.storeAt t x y
theorem run_storeRow {P:Program} (t:TypeId) (b:Nat) (w:World) (z:Array Value) (h:isRowAt w b=true) (ht:RowTy P t z.size) (hc:(rowAt w b).size=z.size) (h1:AllOne z) :
  (storeRow t (.pointer (some ⟨b,0,none⟩)) (.agg z)).run P w=.ok () (w.setRow b z):=by
 obtain⟨hi,fs,hu⟩:=ht;have hb:∃cs t',w.heap[b]? =some (.cells cs t' (0,0)):=by
  unfold isRowAt at h;split at h
  ·exact⟨_,_,by assumption⟩
  ·cases h
 obtain⟨cs,t',hb⟩:=hb;have e:rowAt w b=cs:=by unfold rowAt;simp only[hb]
 rw[e] at hc;unfold storeRow;simp only[Instr.storeAt,Instr.sureAddr,Sem.run_bind,Sem.run_pure,Result.andThen_ok,run_storeVar_row w b t' t cs z hb hi hc h1]
end Go.Proofs.YtejcdhdfanfkbaaGreat
namespace Go.Proofs.YtejcdhdfanfkbaaGreat
namespace Gq
open Go.RowKit Hd Rd Dk
open Go.Proofs.YtejcdhdfanfkbaaGreat.Op
def qv:Array Value:=#[.int .i64 0,.int .i64 1000000000,.int .i64 0,.int .i64 1000000000,.string ⟨#[]⟩,.int .i64 9,.int .i64 1]
def av:Array Value:=#[.int .i64 0,.int .i64 1000000000,.int .i64 0,.int .i64 1000000000,.string ⟨#[]⟩,.int .i64 9,.int .i64 1,.int .i64 1,.int .i64 1000000000]
theorem q_info:(Tryz.prog.info? 168).map (·.size)=some 7:=by kernel_rfl
theorem a_info:(Tryz.prog.info? 297).map (·.size)=some 9:=by kernel_rfl
set_option maxHeartbeats 1600000 in
theorem scheck_q (w:World):Calls Tryz.prog 192 #[.agg qv] w fun e w'=>e=.returned (.int .i64 0)/\Below w.heap.size w w':=by
 have HB:=Lib.hid (ext_alloc w (.cells #[.int .i64 0,.int .i64 1000000000,.int .i64 0,.int .i64 1000000000,.string ⟨#[]⟩,.int .i64 9,.int .i64 1] 168));unfold qv
 go_enter Tryz.func192, Tryz.ntmps192
 go_wp2_with fail
 go_ret
 exact⟨rfl,HB.out⟩
theorem a_zero:(Tryz.prog.info? 297).map (fun i=>(i.zero,i.size))=some (some (.agg #[.int .i64 0,.int .i64 0,.int .i64 0,.int .i64 0,.string ⟨#[]⟩,.int .i64 0,.int .i64 0,.int .i64 0,.int .i64 0]),9):=by kernel_rfl
theorem loadAt_q (x:Value):Instr.loadAt 168 x=loadRow 168 x:=rfl
theorem storeAt_a (x y:Value):Instr.storeAt 297 x y=storeRow 297 x y:=rfl
def buildA (l:Array (Nat×Value)):Sem Value:=Instr.build 297 l
theorem build_a (l:Array (Nat×Value)):Instr.build 297 l=buildA l:=rfl
theorem run_buildA (w:World):(buildA #[(0,.agg qv),(1,.agg #[.int .i64 1,.int .i64 1000000000])]).run Tryz.prog w=.ok (.agg av) w:=by simp[buildA,go_sem,Instr.build,qv,av]
attribute [local go_sem ↓] loadAt_q
attribute [local go_sem ↓] build_a
attribute [local go_sem ↓] storeAt_a
attribute [local go_sem] run_loadRow
attribute [local go_sem] run_storeRow
set_option maxHeartbeats 6400000 in
set_option maxRecDepth 100000 in
theorem of_q (w:World):Calls Tryz.prog 199 #[.agg qv] w fun e w'=>e=.returned (.agg av)/\Below w.heap.size w w':=by
 have mixed:Tryz.prog.follows .mixedOrders=true:=by kernel_rfl
 have HCK:=Lib.hid (fun wx=>scheck_q wx);have HTR:=Lib.hid (fun wx=>show Calls Tryz.prog 248 #[.agg #[.int .i64 0,.int .i64 1000000000],.int .i64 1] wx fun e w'=>e=.returned (.agg #[.int .i64 1,.int .i64 1000000000])/\Below wx.heap.size wx w' from trim_any 0 1000000000 1 wx);have hbu:=run_buildA;have HAZ:=Lib.hid (show av.size=9/\AllOne av from⟨rfl,by simp[AllOne,av,Value.oneCell']⟩);have HQ:=Lib.hid (show qv.size=7/\qv[0]? =some (.int .i64 0)/\qv[1]? =some (.int .i64 1000000000)/\qv[6]? =some (.int .i64 1) from⟨rfl,rfl,rfl,rfl⟩);have HBX:=Lib.hid ((ext_alloc w (.cells qv 168)).trans ((ext_alloc _ (.cells #[.int .i64 0,.int .i64 0,.int .i64 0,.int .i64 0,.string ⟨#[]⟩,.int .i64 0,.int .i64 0,.int .i64 0,.int .i64 0] 297)).mono (by simp)));have HTX:=Lib.hid ((Blk.new w qv 168).alloc (.cells #[.int .i64 0,.int .i64 0,.int .i64 0,.int .i64 0,.string ⟨#[]⟩,.int .i64 0,.int .i64 0,.int .i64 0,.int .i64 0] 297));have HRX:=Lib.hid (show Blk ((w.alloc (.cells qv 168)).alloc (.cells #[.int .i64 0,.int .i64 0,.int .i64 0,.int .i64 0,.string ⟨#[]⟩,.int .i64 0,.int .i64 0,.int .i64 0,.int .i64 0] 297)) (w.heap.size+1) #[.int .i64 0,.int .i64 0,.int .i64 0,.int .i64 0,.string ⟨#[]⟩,.int .i64 0,.int .i64 0,.int .i64 0,.int .i64 0] 297 from by simpa using Blk.new (w.alloc (.cells qv 168)) #[.int .i64 0,.int .i64 0,.int .i64 0,.int .i64 0,.string ⟨#[]⟩,.int .i64 0,.int .i64 0,.int .i64 0,.int .i64 0] 297);have hrt:RowTy Tryz.prog 168 7:=⟨q_info,_,Tryz.underlying168⟩
 have hrt9:RowTy Tryz.prog 297 9:=⟨a_info,_,Tryz.underlying297⟩
 have hq7:=HQ.out.1
 go_enter Tryz.func199, Tryz.ntmps199
 go_upto_region 1 with fail
 generalize (w.alloc (.cells qv 168)).alloc (.cells #[.int .i64 0,.int .i64 0,.int .i64 0,.int .i64 0,.string ⟨#[]⟩,.int .i64 0,.int .i64 0,.int .i64 0,.int .i64 0] 297)=w0 at *
 generalize hQV:qv=QV at *
 clear hQV;have r1:=HTX.out.rowAt.1;have r2:=HTX.out.rowAt.2;go_upto_region 4 with (go_at_call 192;refine(HCK.out _).mono ?_;rintro e1 w1 ⟨rfl,hb1⟩;have HB1:=Lib.hid (HBX.out.trans (hb1.mono HBX.out.size));have HT1:=Lib.hid (HTX.out.ext hb1);have HR1:=Lib.hid (HRX.out.ext hb1);clear hb1)
 clear r1 r2 HBX HTX HRX HCK;have HN:=Lib.hid (show ∀wx,Blk wx w.heap.size QV 168->(fun wx=>(isRowAt wx w.heap.size=true/\rowAt wx w.heap.size=QV)/\wx.cell? ⟨w.heap.size,0,none⟩=some (.int .i64 0)/\wx.cell? ⟨w.heap.size,1,none⟩=some (.int .i64 1000000000)/\wx.cell? ⟨w.heap.size,6,none⟩=some (.int .i64 1)) wx from fun wx hb =>
  ⟨hb.rowAt,hb.cell 0 HQ.out.2.1,hb.cell 1 HQ.out.2.2.1,hb.cell 6 HQ.out.2.2.2⟩)
 have hSd:=HN.out w1.drew (HT1.out.ext (ext_drew w1));have hAV:=HAZ.out.1;have hAO:=HAZ.out.2;generalize hav:av=AV at *
 have HAV:=Lib.hid hav;clear hav;go_region_held3 (fun wx=>(isRowAt wx w.heap.size=true/\rowAt wx w.heap.size=QV)/\wx.cell? ⟨w.heap.size,0,none⟩=some (.int .i64 0)/\wx.cell? ⟨w.heap.size,1,none⟩=some (.int .i64 1000000000)/\wx.cell? ⟨w.heap.size,6,none⟩=some (.int .i64 1)) (first|with_reducible exact hSd|with_reducible assumption) (first
  |(go_at_call 248;refine(HTR.out _).mono ?_;rintro e2 w2 ⟨rfl,hb2⟩;have HB2:=Lib.hid (HB1.out.trans (((ext_drew w1).trans (hb2.mono (ext_drew w1).size)).mono HB1.out.size));have hT2:=HT1.out.ext ((ext_drew w1).trans (hb2.mono (ext_drew w1).size));have hS2:=HN.out w2 hT2;have hS3:=HN.out (w2.setRow (w.heap.size+1) AV) (hT2.setOther (by omega) AV);have HR2:=Lib.hid (HR1.out.ext ((ext_drew w1).trans (hb2.mono (ext_drew w1).size)));have q1:=HR2.out.rowAt.1;have q2:=HR2.out.rowAt.2;clear hb2 hT2))
 clear hSd hS2 hS3;go_wp2_with fail
 refine bodyPost_ret (v:=.agg AV) (by exact results_cell1 rfl rfl (HR2.out.set AV) Tryz.underlying297 rfl (by rw[hAV];exact a_info)) (by exact rfl) ?_;exact⟨by rw[HAV.out],ext_setRow HB2.out (Nat.le_succ _) _⟩
theorem loadAt_e (x:Value):Instr.loadAt 217 x=loadRow 217 x:=rfl
attribute [local go_sem ↓] loadAt_e
def fieldA (x:Value) (i:Nat):Sem Value:=Instr.field 297 x i
theorem field_a (x:Value) (i:Nat):Instr.field 297 x i=fieldA x i:=rfl
theorem run_fieldA (w:World):(fieldA (.agg av) 1).run Tryz.prog w=.ok (.agg #[.int .i64 1,.int .i64 1000000000]) w:=by kernel_rfl
attribute [local go_sem ↓] field_a
theorem e_info:(Tryz.prog.info? 217).map (·.size)=some 9:=by kernel_rfl
theorem meet_q:meetB 1 1000000000 1 maxI=true:=by
 have h:min (1000000000:Int) 9223372036854775807=1000000000:=by omega
 simp[meetB,comH,comL,maxI,h]
theorem eE_e1:eE e1=0:=by decide
set_option maxHeartbeats 6400000 in
set_option maxRecDepth 100000 in
theorem seg_q (w:World):Calls Tryz.prog 194 #[.agg qv,.agg (Sh.cl e1).toArray] w fun e w'=>e=.returned (.bool true)/\Below w.heap.size w w':=by
 have mixed:Tryz.prog.follows .mixedOrders=true:=by kernel_rfl
 have HEC:=Lib.hid (fun wx=>show Calls Tryz.prog 239 #[.agg (Sh.cl e1).toArray] wx fun e w'=>e=.returned (.int .i64 0)/\Below wx.heap.size wx w' from by
  have:=echeck_any e1 wx
  rwa [eE_e1] at this)
 have HOF:=Lib.hid (fun wx=>of_q wx);have HME:=Lib.hid (fun wx=>show Calls Tryz.prog 243 #[.agg #[.int .i64 1,.int .i64 1000000000],.agg #[.int .i64 1,.int .i64 9223372036854775807]] wx fun e w'=>e=.returned (.bool true)/\Below wx.heap.size wx w' from by
  have:=meets_any 1 1000000000 1 maxI wx
  rwa [meet_q] at this)
 have HE:=Lib.hid (show(Sh.cl e1).toArray.size=9/\(Sh.cl e1).toArray[2]? =some (.int .i64 1)/\(Sh.cl e1).toArray[3]? =some (.bool false) from⟨rfl,rfl,rfl⟩);have HQ:=Lib.hid (show qv.size=7 from rfl);have hq7:=HQ.out;have he9:=HE.out.1;have hfd:=run_fieldA;generalize av=AV at *
 generalize (Sh.cl e1).toArray=E1 at *
 generalize qv=QV at *
 have HBX:=Lib.hid ((ext_alloc w (.cells QV 168)).trans ((ext_alloc _ (.cells E1 217)).mono (by simp)));have HTX:=Lib.hid ((Blk.new w QV 168).alloc (.cells E1 217));have HRX:=Lib.hid (show Blk ((w.alloc (.cells QV 168)).alloc (.cells E1 217)) (w.heap.size+1) E1 217 from by simpa using Blk.new (w.alloc (.cells QV 168)) E1 217);have hrt:RowTy Tryz.prog 168 7:=⟨q_info,_,Tryz.underlying168⟩
 have hrt9:RowTy Tryz.prog 217 9:=⟨e_info,_,Tryz.underlying217⟩
 go_enter Tryz.func194, Tryz.ntmps194
 go_upto_region 1 with fail
 generalize (w.alloc (.cells QV 168)).alloc (.cells E1 217)=w0 at *
 have r1:=HRX.out.rowAt.1;have r2:=HRX.out.rowAt.2;have k3:=HRX.out.cell 3 HE.out.2.2;go_upto_region 5 with (go_at_call 239;refine(HEC.out _).mono ?_;rintro e1 w1 ⟨rfl,hb1⟩;have HB1:=Lib.hid (HBX.out.trans (hb1.mono HBX.out.size));have HT1:=Lib.hid (HTX.out.ext hb1);have HR1:=Lib.hid (HRX.out.ext hb1);have k3:=HR1.out.cell 3 HE.out.2.2;clear hb1)
 clear r1 r2 k3 HBX HTX HRX HEC;have q1:=fun q:Bw w1=>(HT1.out.ext q.h).rowAt.1
 have q2:=fun q:Bw w1=>(HT1.out.ext q.h).rowAt.2
 have q3:=fun q:Bw w1=>(HR1.out.ext q.h).cell 2 HE.out.2.1
 refine wp_region_quiet_below (by assumption) (by kernel_rfl) ?_
 repeat (go_big_quiet_step (first|(go_at_call 199;refine below_of (HOF.out _))|(go_at_call 243;refine below_of (HME.out _))))
 refine wpQuiet_nil ?_;intro _ hw';obtain⟨q,rfl⟩:=hw';go_wp2_with fail
 go_ret
 exact⟨rfl,HB1.out.trans (q.h.mono HB1.out.size)⟩
def rv:Array Value:=#[.int .i64 1,.int .i64 0,.string ⟨#[104,105]⟩]
set_option maxHeartbeats 6400000 in
set_option maxRecDepth 100000 in
theorem hit_q (w:World):Calls Tryz.prog 200 #[.agg av,.agg rv] w fun e w'=>e=.returned (.bool true)/\Below w.heap.size w w':=by
 have mixed:Tryz.prog.follows .mixedOrders=true:=by kernel_rfl
 have HHS:=Lib.hid (fun(a b n:Int) (wx:World) (h1:a<=n) (h2:n<=b)=>show Calls Tryz.prog 249 #[.agg #[.int .i64 a,.int .i64 b],.int .i64 n] wx fun e w'=>e=.returned (.bool true)/\Below wx.heap.size wx w' from by
  have:=has_any a b n wx
  rwa [decide_eq_true h1,decide_eq_true h2] at this)
 have HKM:=Lib.hid (fun wx=>has_nil ⟨#[104,105]⟩ wx);have HBX:=Lib.hid ((ext_alloc w (.cells av 297)).trans ((ext_alloc _ (.cells rv 84)).mono (by simp)));have HTX:=Lib.hid ((Blk.new w av 297).alloc (.cells rv 84));have HRX:=Lib.hid (show Blk ((w.alloc (.cells av 297)).alloc (.cells rv 84)) (w.heap.size+1) rv 84 from by simpa using Blk.new (w.alloc (.cells av 297)) rv 84);have HF:=Lib.hid (show ∀wx b,Blk wx b av 297->wx.cell? ⟨b,2,none⟩=some (.int .i64 0)/\wx.cell? ⟨b,3,none⟩=some (.int .i64 1000000000)/\wx.cell? ⟨b,4,none⟩=some (.string ⟨#[]⟩)/\wx.cell? ⟨b,7,none⟩=some (.int .i64 1)/\wx.cell? ⟨b,8,none⟩=some (.int .i64 1000000000) from fun wx b h=>⟨h.cell 2 rfl,h.cell 3 rfl,h.cell 4 rfl,h.cell 7 rfl,h.cell 8 rfl⟩);have HG:=Lib.hid (show ∀wx b,Blk wx b rv 84->wx.cell? ⟨b,0,none⟩=some (.int .i64 1)/\wx.cell? ⟨b,1,none⟩=some (.int .i64 0)/\wx.cell? ⟨b,2,none⟩=some (.string ⟨#[104,105]⟩) from fun wx b h=>⟨h.cell 0 rfl,h.cell 1 rfl,h.cell 2 rfl⟩);generalize av=AV at *
 generalize rv=RV at *
 go_enter Tryz.func200, Tryz.ntmps200
 go_upto_region 1 with fail
 generalize (w.alloc (.cells AV 297)).alloc (.cells RV 84)=w0 at *
 obtain⟨a2,a3,a4,a7,a8⟩:=HF.out _ _ HTX.out;obtain⟨b0,b1,b2⟩:=HG.out _ _ HRX.out;have tok1:Hid True:=Lib.hid trivial;have tok2:Hid True:=Lib.hid trivial;go_wp2_with (first
  |(go_at_call 249;have _t:=tok1;refine(HHS.out 1 1000000000 1 _ (by omega) (by omega)).mono ?_;rintro e1 w1 ⟨rfl,hb1⟩;clear tok1;have HB1:=Lib.hid (HBX.out.trans (hb1.mono HBX.out.size));have HT1:=Lib.hid (HTX.out.ext hb1);have HR1:=Lib.hid (HRX.out.ext hb1);obtain⟨a2,a3,a4,a7,a8⟩:=HF.out _ _ HT1.out;obtain⟨b0,b1,b2⟩:=HG.out _ _ HR1.out;clear hb1)
  |(go_at_call 249;have _t:=tok2;refine(HHS.out 0 1000000000 0 _ (by omega) (by omega)).mono ?_;rintro e2 w2 ⟨rfl,hb2⟩;clear tok2;have HB2:=Lib.hid (HB1.out.trans (hb2.mono HB1.out.size));have HT2:=Lib.hid (HT1.out.ext hb2);have HR2:=Lib.hid (HR1.out.ext hb2);obtain⟨a2,a3,a4,a7,a8⟩:=HF.out _ _ HT2.out;obtain⟨b0,b1,b2⟩:=HG.out _ _ HR2.out;clear hb2)
  |(go_at_call 250;refine(HKM.out _).mono ?_;rintro e3 w3 ⟨rfl,hb3⟩;have HB3:=Lib.hid (HB2.out.trans (hb3.mono HB2.out.size));clear hb3))
 go_ret
 exact⟨rfl,HB3.out⟩
end Gq
end Go.Proofs.YtejcdhdfanfkbaaGreat
