/- The law of OpenLooks, over abstract states. The law of OpenLooks: whatever two states. -/
import Derived.Test.YtphfmgapiimliaaGreatOl29
import Derived.Test.YtphfmgapiimliaaGreatOl49
import Derived.Test.YtphfmgapiimliaaGreatOl50
import Derived.Deep.LoopGhost
import Derived.Deep.Cut
import Derived.Deep.RegionWith
import Derived.Deep.RegionHeld3
namespace Go.Proofs.YtphfmgapiimliaaGreat
namespace Op
open Go.RowKit Hd Rd Vi Dk
theorem ext2 {w8 wp wa:World} (h:Below w8.heap.size w8 wp) (hb:Below wp.heap.size wp wa):Below w8.heap.size w8 wa:=h.trans (hb.mono h.size)
attribute [local go_sem ↓] loadAt_st3
attribute [local go_sem] run_loadRow
set_option maxHeartbeats 32000000 in
set_option maxRecDepth 100000 in
theorem olooks_x {cs ct:Array Value} {w:World} (hcs:cs.size=18) (hct:ct.size=18) {xA yA zA xB yB zB:Option Addr} {xn xc yn yc zn zc un uc vn vc qn qc:Nat} {mg mx mt mf p q r ev:Int} {K B1:Bool}
  (h7:cs[7]? =some (.int .i64 mg)) (h8:cs[8]? =some (.int .i64 mx)) (h9:cs[9]? =some (.int .i64 mt)) (h10:cs[10]? =some (.int .i64 mf)) (h11:cs[11]? =some (.slice xA xn xc)) (h12:cs[12]? =some (.slice yA yn yc)) (h16:cs[16]? =some (.slice zA zn zc))
  (i11:ct[11]? =some (.slice xB un uc)) (i12:ct[12]? =some (.slice yB vn vc)) (i16:ct[16]? =some (.slice zB qn qc)) {wt:List Rc} (hwt:Rd w w.heap.size 3 zA zn (flS wt))
  (hev:ev=if K=true then 0 else 330) (hpq:K=false->p=0/\q=0/\r=0)
  (HC:Hid (yn<=200/\zn<=200/\xn<=120/\vn<=200/\qn<=200/\un<=120-> ∀wx,Below w.heap.size w wx->Calls Tryz.prog 10 #[.agg cs] wx fun e w'=>e=.returned (.int .i64 ev)/\Below wx.heap.size wx w'))
  (HR:Hid (yn<=200/\zn<=200/\xn<=120/\vn<=200/\qn<=200/\un<=120-> ∀wx,Below w.heap.size w wx->Calls Tryz.prog 8 #[.agg cs] wx fun e w'=>e=.returned (.int .i64 ev)/\Below wx.heap.size wx w'))
  (HO:Hid (yn<=200/\zn<=200/\xn<=120/\vn<=200/\qn<=200/\un<=120-> ∀wx,Below w.heap.size w wx->Calls Tryz.prog 7 #[.agg cs] wx fun e w'=>e=.returned (.tuple #[.agg #[.int .i64 p,.int .i64 q,.int .i64 r],.int .i64 ev])/\Below wx.heap.size wx w'))
  (HH:Hid (yn<=200/\zn<=200/\xn<=120/\vn<=200/\qn<=200/\un<=120->K=true-> ∀wx,Below w.heap.size w wx->Calls Tryz.prog 9 #[.agg #[.int .i64 mg,.int .i64 mx,.int .i64 mt,.int .i64 mf,.slice xA xn xc]] wx fun e w'=>e=.returned (.agg #[.int .i64 p,.int .i64 q,.int .i64 r])/\Below wx.heap.size wx w'))
  (HS:Hid (yn<=200/\zn<=200/\xn<=120/\vn<=200/\qn<=200/\un<=120-> ∀wx,Below w.heap.size w wx->Calls Tryz.prog 11 #[.agg cs,.agg ct] wx fun e w'=>e=.returned (.bool B1)/\Below wx.heap.size wx w'))
  (HRS:Hid (yn<=200/\zn<=200/\xn<=120/\vn<=200/\qn<=200/\un<=120-> ∀wx,Below w.heap.size w wx->Calls Tryz.prog 12 #[.agg cs,.agg ct] wx fun e w'=>e=.returned (.bool B1)/\Below wx.heap.size wx w'))
  (HCP:Hid (yn<=200/\zn<=200/\xn<=120/\vn<=200/\qn<=200/\un<=120-> ∀wx,Below w.heap.size w wx->Calls Tryz.prog 13 #[.agg cs] wx fun e w'=>∃v,e=.returned v/\(∀wy,Below w'.heap.size w' wy->Calls Tryz.prog 11 #[v,.agg cs] wy fun e w2=>e=.returned (.bool true)/\Below wy.heap.size wy w2)/\Below wx.heap.size wx w'))
  (HA:Hid (∀wx,Calls Tryz.prog 6 #[] wx fun e w'=>e=.returned (.bool true)/\Below wx.heap.size wx w')) :
  Calls Tryz.prog 3 #[.agg cs,.agg ct] w fun e w'=>e=.returned (.bool true)/\Below w.heap.size w w':=by
 have mixed:Tryz.prog.follows .mixedOrders=true:=by kernel_rfl
 have HK:=Lib.hid ((Blk.new w cs 30).alloc (.cells ct 30));have HL:=Lib.hid (blk_second w (.cells cs 30) ct 30);have HW:=Lib.hid (ext_second w (.cells cs 30) (.cells ct 30));have HCE:=Lib.hid (And.intro h7 (And.intro h8 (And.intro h9 h10)));have HCF:=Lib.hid (And.intro h11 (And.intro h12 h16));have k11:=HK.out.cell 11 h11;have k12:=HK.out.cell 12 h12;have k16:=HK.out.cell 16 h16;have l11:=HL.out.cell 11 i11;have l12:=HL.out.cell 12 i12;have l16:=HL.out.cell 16 i16;have HEV:=Lib.hid hev;have HPQ:=Lib.hid hpq;have HWT:=Lib.hid hwt;clear h7 h8 h9 h10 h11 h12 h16 i11 i12 i16 hev hpq hwt
 go_enter Tryz.func3, Tryz.ntmps3
 go_upto_region 1 with (fail)
 have HSZ:(w.alloc (.cells cs 30)).heap.size=w.heap.size+1:=by simp
 generalize (w.alloc (.cells cs 30)).alloc (.cells ct 30)=w2 at *
 clear HSZ;by_cases g0:(200:Int)<(yn:Int)
 ·go_wp2_with (go_at_call 6;refine(HA.out _).mono ?_;rintro ea wa ⟨rfl,hba⟩;have HW:=Lib.hid (HW.out.trans (hba.mono HW.out.size));clear hba)
  go_ret
  exact⟨rfl,HW.out⟩
 by_cases g1:(200:Int)<(zn:Int)
 ·go_wp2_with (go_at_call 6;refine(HA.out _).mono ?_;rintro ea wa ⟨rfl,hba⟩;have HW:=Lib.hid (HW.out.trans (hba.mono HW.out.size));clear hba)
  go_ret
  exact⟨rfl,HW.out⟩
 by_cases g2:(120:Int)<(xn:Int)
 ·go_wp2_with (go_at_call 6;refine(HA.out _).mono ?_;rintro ea wa ⟨rfl,hba⟩;have HW:=Lib.hid (HW.out.trans (hba.mono HW.out.size));clear hba)
  go_ret
  exact⟨rfl,HW.out⟩
 by_cases g3:(200:Int)<(vn:Int)
 ·go_wp2_with (go_at_call 6;refine(HA.out _).mono ?_;rintro ea wa ⟨rfl,hba⟩;have HW:=Lib.hid (HW.out.trans (hba.mono HW.out.size));clear hba)
  go_ret
  exact⟨rfl,HW.out⟩
 by_cases g4:(200:Int)<(qn:Int)
 ·go_wp2_with (go_at_call 6;refine(HA.out _).mono ?_;rintro ea wa ⟨rfl,hba⟩;have HW:=Lib.hid (HW.out.trans (hba.mono HW.out.size));clear hba)
  go_ret
  exact⟨rfl,HW.out⟩
 by_cases g5:(120:Int)<(un:Int)
 ·go_wp2_with (go_at_call 6;refine(HA.out _).mono ?_;rintro ea wa ⟨rfl,hba⟩;have HW:=Lib.hid (HW.out.trans (hba.mono HW.out.size));clear hba)
  go_ret
  exact⟨rfl,HW.out⟩
 have hsm:yn<=200/\zn<=200/\xn<=120/\vn<=200/\qn<=200/\un<=120:=by omega
 replace HC:=Lib.hid (HC.out hsm);replace HR:=Lib.hid (HR.out hsm);replace HO:=Lib.hid (HO.out hsm);replace HS:=Lib.hid (HS.out hsm);replace HRS:=Lib.hid (HRS.out hsm);replace HCP:=Lib.hid (HCP.out hsm);replace HH:=Lib.hid (HH.out hsm);clear hsm;go_wp2_with fail
 clear l11 l12 l16;go_loopw [5] (fun s5 wr=>∃k:Nat,s5=.int .i64 (k:Int)/\k<=zn/\wr=w2) (fun v _=>zn-(intOf v).toNat)
 case atStart=>exact⟨0,by go_num,by omega,rfl⟩
 case round =>
  obtain⟨k,rfl,hk,rfl⟩:=hrel;by_cases hkn:k<zn
  ·obtain⟨ad,m,hA,hbk,hx,-,ej⟩:=sl_at (HWT.out.below HW.out) hkn
   have c2:wr.cell? ⟨(ad.add (k*3)).block,(ad.add (k*3)).off+2,none⟩=some (.string m.2.2):=ej 1 (by decide);have i1:(0:Int)<=(k:Int):=by omega
   have i2:(k:Int)<(zn:Int):=by omega
   subst hA;clear ej hx hbk;by_cases hd:(3000:Int)<(m.2.2.size:Int)
   ·go_wp2_with (go_at_call 6;refine(HA.out _).mono ?_;rintro ea wa ⟨rfl,hba⟩;have HW:=Lib.hid (HW.out.trans (hba.mono HW.out.size));clear hba)
    go_ret
    exact⟨rfl,HW.out⟩
   ·go_wp2_with fail
    go_roundw
    ·exact⟨k+1,by go_num,by omega,by first|trivial|rfl⟩
    ·simp[intOf];omega
  ·have e:k=zn:=by omega
   subst e;clear k11 k12;have hra:=HK.out.rowAt;have hrt:RowTy Tryz.prog 30 18:=⟨st_info,_,Tryz.underlying30⟩
   go_upto_region 10 with (go_at_call 7;refine(HO.out _ HW.out).mono ?_;rintro eh wh ⟨rfl,hbh⟩;have HBH:=Lib.hid hbh;clear hbh)
   have HBI:=Lib.hid (HBH.out.trans ((ext_second wh (.cells #[.int .i64 p,.int .i64 q,.int .i64 r] 35) (.cells #[.int .i64 0,.int .i64 0,.int .i64 0] 35)).mono HBH.out.size));have HW8:=Lib.hid (HW.out.trans (HBI.out.mono HW.out.size));have HK8:=Lib.hid (HK.out.ext HBI.out);have HL8:=Lib.hid (HL.out.ext HBI.out);have H68:=Lib.hid ((Blk.new wh #[.int .i64 p,.int .i64 q,.int .i64 r] 35).alloc (.cells #[.int .i64 0,.int .i64 0,.int .i64 0] 35));have H88:=Lib.hid (blk_second wh (.cells #[.int .i64 p,.int .i64 q,.int .i64 r] 35) #[.int .i64 0,.int .i64 0,.int .i64 0] 35);have HNE:=Lib.hid (show wh.heap.size≠wh.heap.size+1/\w.heap.size≠wh.heap.size+1/\w.heap.size+1≠wh.heap.size+1/\w.heap.size<=wh.heap.size+1 from⟨by omega,by have:=HW.out.size;have:=HBH.out.size;omega,by have:=HL.out.lt;have:=HBH.out.size;omega,by have:=HW.out.size;have:=HBH.out.size;omega⟩);clear HBI HBH hra HW HK HL k16;generalize (wh.alloc (.cells #[.int .i64 p,.int .i64 q,.int .i64 r] 35)).alloc (.cells #[.int .i64 0,.int .i64 0,.int .i64 0] 35)=w8 at *
   generalize wh.heap.size+1=b8 at *
   generalize wh.heap.size=b6 at *
   have hra:=HK8.out.rowAt;rcases K with _|_
   ·obtain⟨rfl,rfl,rfl⟩:=HPQ.out rfl
    obtain rfl:ev=330:=HEV.out;go_upto_region 12 with (go_at_call 8;refine(HR.out _ HW8.out).mono ?_;rintro ek w9 ⟨rfl,hb9⟩;have HK9:=Lib.hid (HK8.out.ext hb9);have HL9:=Lib.hid (HL8.out.ext hb9);have H69:=Lib.hid (H68.out.ext hb9);have H89:=Lib.hid (H88.out.ext hb9);have HW9:=Lib.hid (HW8.out.trans (hb9.mono HW8.out.size));clear hb9)
    clear HW8 HK8 HL8 H68 H88 hra;have HN:=Lib.hid (show ∀wx,Below w9.heap.size w9 wx->(fun wx=>(isRowAt wx w.heap.size=true/\rowAt wx w.heap.size=cs/\isRowAt wx (w.heap.size+1)=true/\rowAt wx (w.heap.size+1)=ct/\wx.cell? ⟨b6,0,none⟩=some (.int .i64 0)/\wx.cell? ⟨b6,1,none⟩=some (.int .i64 0)/\wx.cell? ⟨b6,2,none⟩=some (.int .i64 0)/\wx.cell? ⟨b8,0,none⟩=some (.int .i64 0)/\wx.cell? ⟨b8,1,none⟩=some (.int .i64 0)/\wx.cell? ⟨b8,2,none⟩=some (.int .i64 0))/\Below w9.heap.size w9 wx) wx from fun wx hb=>⟨⟨(HK9.out.ext hb).rowAt.1,(HK9.out.ext hb).rowAt.2,(HL9.out.ext hb).rowAt.1,(HL9.out.ext hb).rowAt.2,(H69.out.ext hb).cell 0 rfl,(H69.out.ext hb).cell 1 rfl,(H69.out.ext hb).cell 2 rfl,(H89.out.ext hb).cell 0 rfl,(H89.out.ext hb).cell 1 rfl,(H89.out.ext hb).cell 2 rfl⟩,hb⟩);have HWB:=Lib.hid (show ∀wx,Below w9.heap.size w9 wx->Below w.heap.size w wx from fun wx hb=>HW9.out.trans (hb.mono HW9.out.size));have hBd0:Below w9.heap.size w9 w9.drew:=⟨rfl,rfl,rfl,Nat.le_refl _,fun _ _=>rfl⟩
    have HSd:=Lib.hid (HN.out w9.drew hBd0);clear HK9 HL9 H69 H89 HW9 HO HH;go_region_held3 (fun wx=>(isRowAt wx w.heap.size=true/\rowAt wx w.heap.size=cs/\isRowAt wx (w.heap.size+1)=true/\rowAt wx (w.heap.size+1)=ct/\wx.cell? ⟨b6,0,none⟩=some (.int .i64 0)/\wx.cell? ⟨b6,1,none⟩=some (.int .i64 0)/\wx.cell? ⟨b6,2,none⟩=some (.int .i64 0)/\wx.cell? ⟨b8,0,none⟩=some (.int .i64 0)/\wx.cell? ⟨b8,1,none⟩=some (.int .i64 0)/\wx.cell? ⟨b8,2,none⟩=some (.int .i64 0))/\Below w9.heap.size w9 wx) (first|exact HSd.out|assumption) (first
     |(go_at_call 10;refine(HC.out _ (HWB.out _ (by assumption))).mono ?_;rintro ea wa ⟨rfl,hba⟩;have hBa:=ext2 (by assumption) hba;have hSa:=HN.out wa hBa)
     |(go_at_call 8;refine(HR.out _ (HWB.out _ (by assumption))).mono ?_;rintro eb wb ⟨rfl,hbb⟩;have hBb:=ext2 (by assumption) hbb;have hSb:=HN.out wb hBb)
     |(go_at_call_of 11 ct;refine(HS.out _ (HWB.out _ (by assumption))).mono ?_;rintro ec wc ⟨rfl,hbc⟩;have hBc:=ext2 (by assumption) hbc;have hSc:=HN.out wc hBc)
     |(go_at_call 12;refine(HRS.out _ (HWB.out _ (by assumption))).mono ?_;rintro ed wd ⟨rfl,hbd⟩;have hBd:=ext2 (by assumption) hbd;have hSd:=HN.out wd hBd)
     |(go_at_call 13;refine(HCP.out _ (HWB.out _ (by assumption))).mono ?_;rintro ee we ⟨v,rfl,hv,hbe⟩;have HV:=Lib.hid hv;clear hv;have hBe:=ext2 (by assumption) hbe;have hSe:=HN.out we hBe)
     |(go_at_call 11;refine(HV.out _ (Below.refl _ _)).mono ?_;rintro ef wf ⟨rfl,hbf⟩;have hBf:=ext2 (by assumption) hbf;have hSf:=HN.out wf hBf)
     |(go_at_call 6;refine(HA.out _).mono ?_;rintro eg wg ⟨rfl,hbg⟩;have hBg:=ext2 (by assumption) hbg;have hSg:=HN.out wg hBg))
    all_goals
     go_wp2_with fail
     go_ret
     exact⟨rfl,HWB.out _ hBg⟩
   ·obtain rfl:ev=0:=HEV.out
    go_upto_region 12 with (first
     |(go_at_call 8;refine(HR.out _ HW8.out).mono ?_;rintro ek wk ⟨rfl,hbk⟩;have HKk:=Lib.hid (HK8.out.ext hbk);have HLk:=Lib.hid (HL8.out.ext hbk);have H6k:=Lib.hid (H68.out.ext hbk);have H8k:=Lib.hid (H88.out.ext hbk);have HWk:=Lib.hid (HW8.out.trans (hbk.mono HW8.out.size));clear hbk hra;have k7:=HKk.out.cell 7 HCE.out.1;have k8:=HKk.out.cell 8 HCE.out.2.1;have k9:=HKk.out.cell 9 HCE.out.2.2.1;have k10:=HKk.out.cell 10 HCE.out.2.2.2;have k11:=HKk.out.cell 11 HCF.out.1)
     |(go_at_call 9;refine(HH.out (by first|rfl|trivial) _ HWk.out).mono ?_;rintro el wl ⟨rfl,hbl⟩;have HKl:=Lib.hid (HKk.out.ext hbl);have HLl:=Lib.hid (HLk.out.ext hbl);have H6l:=Lib.hid (H6k.out.ext hbl);have H8l:=Lib.hid (H8k.out.ext hbl);have HWl:=Lib.hid (HWk.out.trans (hbl.mono HWk.out.size));clear hbl k7 k8 k9 k10 k11;have c0:=H8l.out.cell 0 (v:=.int .i64 0) rfl;have c1:=H8l.out.cell 1 (v:=.int .i64 0) rfl;have c2:=H8l.out.cell 2 (v:=.int .i64 0) rfl;have f0:=H8l.out.fz 0;have f1:=H8l.out.fz 1;have f2:=H8l.out.fz 2))
    clear c0 c1 c2 f0 f1 f2;have HK9:=Lib.hid (((HKl.out.setCell (j:=0) HNE.out.2.1 (.int .i64 p)).setCell (j:=1) HNE.out.2.1 (.int .i64 q)).setCell (j:=2) HNE.out.2.1 (.int .i64 r));have HL9:=Lib.hid (((HLl.out.setCell (j:=0) HNE.out.2.2.1 (.int .i64 p)).setCell (j:=1) HNE.out.2.2.1 (.int .i64 q)).setCell (j:=2) HNE.out.2.2.1 (.int .i64 r));have H69:=Lib.hid (((H6l.out.setCell (j:=0) HNE.out.1 (.int .i64 p)).setCell (j:=1) HNE.out.1 (.int .i64 q)).setCell (j:=2) HNE.out.1 (.int .i64 r));have H89:=Lib.hid (show Blk _ b8 #[.int .i64 p,.int .i64 q,.int .i64 r] 35 from((H8l.out.put 0 (.int .i64 p)).put 1 (.int .i64 q)).put 2 (.int .i64 r));have HW9:=Lib.hid (((HWl.out.setCell (p:=⟨b8,0,none⟩) HNE.out.2.2.2 (.int .i64 p)).setCell (p:=⟨b8,1,none⟩) HNE.out.2.2.2 (.int .i64 q)).setCell (p:=⟨b8,2,none⟩) HNE.out.2.2.2 (.int .i64 r));clear HW8 HK8 HL8 H68 H88 HKk HLk H6k H8k HWk HKl HLl H6l H8l HWl;generalize ((wl.setCell ⟨b8,0,none⟩ (.int .i64 p)).setCell ⟨b8,1,none⟩ (.int .i64 q)).setCell ⟨b8,2,none⟩ (.int .i64 r)=w9 at *
    have HN:=Lib.hid (show ∀wx,Below w9.heap.size w9 wx->(fun wx=>(isRowAt wx w.heap.size=true/\rowAt wx w.heap.size=cs/\isRowAt wx (w.heap.size+1)=true/\rowAt wx (w.heap.size+1)=ct/\wx.cell? ⟨b6,0,none⟩=some (.int .i64 p)/\wx.cell? ⟨b6,1,none⟩=some (.int .i64 q)/\wx.cell? ⟨b6,2,none⟩=some (.int .i64 r)/\wx.cell? ⟨b8,0,none⟩=some (.int .i64 p)/\wx.cell? ⟨b8,1,none⟩=some (.int .i64 q)/\wx.cell? ⟨b8,2,none⟩=some (.int .i64 r))/\Below w9.heap.size w9 wx) wx from fun wx hb=>⟨⟨(HK9.out.ext hb).rowAt.1,(HK9.out.ext hb).rowAt.2,(HL9.out.ext hb).rowAt.1,(HL9.out.ext hb).rowAt.2,(H69.out.ext hb).cell 0 rfl,(H69.out.ext hb).cell 1 rfl,(H69.out.ext hb).cell 2 rfl,(H89.out.ext hb).cell 0 rfl,(H89.out.ext hb).cell 1 rfl,(H89.out.ext hb).cell 2 rfl⟩,hb⟩);have HWB:=Lib.hid (show ∀wx,Below w9.heap.size w9 wx->Below w.heap.size w wx from fun wx hb=>HW9.out.trans (hb.mono HW9.out.size));have hBd0:Below w9.heap.size w9 w9.drew:=⟨rfl,rfl,rfl,Nat.le_refl _,fun _ _=>rfl⟩
    have HSd:=Lib.hid (HN.out w9.drew hBd0);clear HK9 HL9 H69 H89 HW9 HO HH;go_region_held3 (fun wx=>(isRowAt wx w.heap.size=true/\rowAt wx w.heap.size=cs/\isRowAt wx (w.heap.size+1)=true/\rowAt wx (w.heap.size+1)=ct/\wx.cell? ⟨b6,0,none⟩=some (.int .i64 p)/\wx.cell? ⟨b6,1,none⟩=some (.int .i64 q)/\wx.cell? ⟨b6,2,none⟩=some (.int .i64 r)/\wx.cell? ⟨b8,0,none⟩=some (.int .i64 p)/\wx.cell? ⟨b8,1,none⟩=some (.int .i64 q)/\wx.cell? ⟨b8,2,none⟩=some (.int .i64 r))/\Below w9.heap.size w9 wx) (first|exact HSd.out|assumption) (first
     |(go_at_call 10;refine(HC.out _ (HWB.out _ (by assumption))).mono ?_;rintro ea wa ⟨rfl,hba⟩;have hBa:=ext2 (by assumption) hba;have hSa:=HN.out wa hBa)
     |(go_at_call 8;refine(HR.out _ (HWB.out _ (by assumption))).mono ?_;rintro eb wb ⟨rfl,hbb⟩;have hBb:=ext2 (by assumption) hbb;have hSb:=HN.out wb hBb)
     |(go_at_call_of 11 ct;refine(HS.out _ (HWB.out _ (by assumption))).mono ?_;rintro ec wc ⟨rfl,hbc⟩;have hBc:=ext2 (by assumption) hbc;have hSc:=HN.out wc hBc)
     |(go_at_call 12;refine(HRS.out _ (HWB.out _ (by assumption))).mono ?_;rintro ed wd ⟨rfl,hbd⟩;have hBd:=ext2 (by assumption) hbd;have hSd:=HN.out wd hBd)
     |(go_at_call 13;refine(HCP.out _ (HWB.out _ (by assumption))).mono ?_;rintro ee we ⟨v,rfl,hv,hbe⟩;have HV:=Lib.hid hv;clear hv;have hBe:=ext2 (by assumption) hbe;have hSe:=HN.out we hBe)
     |(go_at_call 11;refine(HV.out _ (Below.refl _ _)).mono ?_;rintro ef wf ⟨rfl,hbf⟩;have hBf:=ext2 (by assumption) hbf;have hSf:=HN.out wf hBf)
     |(go_at_call 6;refine(HA.out _).mono ?_;rintro eg wg ⟨rfl,hbg⟩;have hBg:=ext2 (by assumption) hbg;have hSg:=HN.out wg hBg))
    all_goals
     go_wp2_with fail
     go_ret
     exact⟨rfl,HWB.out _ hBg⟩
end Op
end Go.Proofs.YtphfmgapiimliaaGreat
namespace Go.Proofs.YtphfmgapiimliaaGreat
namespace Op
open Go.RowKit Hd Rd Vi Dk
theorem olooks_any (s:St) (x y z:Sl) (t:St) (x' y' z':Sl) (w:World) (h1:Str w w.heap.size s x y z) (h2:Str w w.heap.size t x' y' z') :
  Calls Tryz.prog 3 #[.agg (stc s x y z),.agg (stc t x' y' z')] w fun e w'=>e=.returned (.bool true)/\Below w.heap.size w w':=by
 refine olooks_x (cs:=stc s x y z) (ct:=stc t x' y' z') rfl rfl (K:=okSt s) (B1:=sameSt s t) (ev:=if okSt s=true then 0 else 330)
  (p:=if okSt s=true then(hdOf s).i else 0) (q:=if okSt s=true then(hdOf s).g else 0) (r:=if okSt s=true then(hdOf s).f else 0)
  rfl rfl rfl rfl rfl rfl rfl rfl rfl rfl h1.wt rfl (fun hk=>?_) (Lib.hid fun hm wx hb=>?_) (Lib.hid fun hm wx hb=>?_) (Lib.hid fun hm wx hb=>?_) (Lib.hid fun hm hk wx hb=>?_) (Lib.hid fun hm wx hb=>?_) (Lib.hid fun hm wx hb=>?_) (Lib.hid fun hm wx hb=>?_) (Lib.hid fun wx=>awake33_any wx)
 ·rw[hk];exact⟨rfl,rfl,rfl⟩
 ·exact ocheck_any s x y z wx (h1.ext hb) (by omega) (by omega) (by omega)
 ·exact rcheck_any s x y z wx (h1.ext hb) (by omega) (by omega) (by omega)
 ·have:=ohead_any s x y z wx (h1.ext hb) (by omega) (by omega) (by omega)
  rcases hk:okSt s with _|_
  all_goals
   rw[hk] at this;exact this
 ·have hd:=hd_ok (okSt_kept hk)
  have hgl:s.mf.es.getLast? =some (hdOf s):=by
   unfold hdOf;rcases hg:s.mf.es.getLast? with _|v
   ·rw[List.getLast?_eq_none_iff] at hg
    have:=hd.2.1;rw[hg] at this;simp at this
   ·rfl
  rw[hk];exact rhead_any s.mf x wx (h1.ext hb).es hd.2.1 (by omega) (hdOf s) hgl
 ·exact osame_any s t x y z x' y' z' wx (h1.ext hb) (h2.ext hb) ⟨by omega,by omega,by omega⟩ ⟨by omega,by omega,by omega⟩
 ·exact rosame_any s t x y z x' y' z' wx (h1.ext hb) (h2.ext hb) ⟨by omega,by omega,by omega⟩ ⟨by omega,by omega,by omega⟩
 ·refine(ocopy_any s x y z wx (h1.ext hb) (by omega) (by omega) (by omega)).mono ?_
  rintro e w' ⟨⟨xA,xc,yA,yc,zA,zc,rfl,o1,o2,o3,n1,n2,n3⟩,hb2⟩;have hst:Str w' w'.heap.size s ⟨xA,x.n,xc⟩ ⟨yA,y.n,yc⟩ ⟨zA,z.n,zc⟩:=by
   refine⟨Rd.of_own o1,Rd.of_own o2,Rd.of_own o3,?_,?_,n1,n2,n3⟩
   ·obtain⟨_,_,e1,q1,-⟩:=own_slice o1
    obtain⟨_,_,e2,q2,-⟩:=own_slice o2;obtain⟨_,_,e3,q3,-⟩:=own_slice o3;cases e1;cases e2;cases e3
    exact⟨q1,q2,q3⟩
   ·obtain⟨_,_,e1,-,q1⟩:=own_slice o1
    obtain⟨_,_,e2,-,q2⟩:=own_slice o2;obtain⟨_,_,e3,-,q3⟩:=own_slice o3;cases e1;cases e2;cases e3
    exact⟨q1,q2,q3⟩
  refine⟨_,rfl,fun wy hwy=>?_,hb2⟩;have:=osame_any s s ⟨xA,x.n,xc⟩ ⟨yA,y.n,yc⟩ ⟨zA,z.n,zc⟩ x y z wy (hst.ext hwy) ((h1.ext hb).ext (hb2.trans (hwy.mono hb2.size))) ⟨by show x.n<=_;omega,by show y.n<=_;omega,by show z.n<=_;omega⟩ ⟨by omega,by omega,by omega⟩;rw[sameSt_refl] at this;exact this
end Op
end Go.Proofs.YtphfmgapiimliaaGreat
