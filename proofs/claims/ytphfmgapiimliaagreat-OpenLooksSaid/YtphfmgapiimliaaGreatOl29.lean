/- varveref33.Check. -/
import Derived.Test.YtphfmgapiimliaaGreatOl23
import Derived.Test.YtphfmgapiimliaaGreatOl24
import Derived.Test.YtphfmgapiimliaaGreatOl27
import Derived.Test.YtphfmgapiimliaaGreatOl21
import Derived.Test.YtphfmgapiimliaaGreatOl05
import Derived.Test.YtphfmgapiimliaaGreatOl28
import Derived.Deep.Cut
namespace Go.Proofs.YtphfmgapiimliaaGreat
namespace Op
open Go.RowKit Hd Rd Vi Dk Sn
theorem hd3_info:(Tryz.prog.info? 35).map (·.size)=some 3:=by kernel_rfl
theorem nextI_bd {f:Int} {l:List Mi} (hf:1<=f/\f<=1000000000) (ho:okBi l=true):0<=nextI f l/\nextI f l<=2000000001:=by
 unfold nextI;rcases hg:l.getLast? with _|m
 ·show 0<=f/\f<=_
  omega
 ·have hm:=okBi_last ho hg
  unfold okMi aloneB at hm;simp only[inB,Bool.and_eq_true,decide_eq_true_eq] at hm;show 0<=m.f+m.c/\m.f+m.c<=_
  omega
theorem loadAt_st3 (x:Value):Instr.loadAt 30 x=loadRow 30 x:=rfl
attribute [local go_sem ↓] loadAt_st3
attribute [local go_sem] run_loadRow
set_option maxHeartbeats 16000000 in
set_option maxRecDepth 100000 in
theorem rcheck_any (s:St) (x y z:Sl) (w:World) (h:Str w w.heap.size s x y z) (hx1:x.n<=1000000) (hy1:y.n<=100000) (hz1:z.n<=1000000) :
  Calls Tryz.prog 8 #[sagg s x y z] w fun e w'=>e=.returned (.int .i64 (if okSt s=true then 0 else 330))/\Below w.heap.size w w':=by
 have mixed:Tryz.prog.follows .mixedOrders=true:=by kernel_rfl
 have HCF:=Lib.hid (fun wx=>r27_any s.cf wx);have HMN:=Lib.hid (fun(wx:World) (hb:Below w.heap.size w wx)=>r25_any s.mf x wx (h.ext hb).es hx1);obtain⟨E,hE⟩:∃E:Int,E=if okSt s=true then 0 else 330:=⟨_,rfl⟩
 rw[<-hE];have H330:=Lib.hid (show okSt s=false->E=330 from fun hh=>by rw[hE,hh];rfl);have H0:=Lib.hid (show okSt s=true->E=0 from fun hh=>by rw[hE,hh];rfl);clear hE;have hST:okSt s=((okCf s.cf&&okMf s.mf)&&((okBi s.bs&&(decide (endI (hdOf s) s.bs=s.sz)&&firstM (hdOf s).f s.bs))&&((decide (Rd.rowE none s.wt=0)&&(decide ((rawR s.wt:Int)<s.cf.b)&&(decide (s.nx=nextI (hdOf s).f s.bs+s.wt.length)&&firstR (nextI (hdOf s).f s.bs) s.wt)))&&timedB s))):=rfl;unfold cfE cagg at HCF;unfold mfE magg at HMN;have HS:=Lib.hid h;have HST:=Lib.hid hST;have HXYZ:=Lib.hid (And.intro hx1 (And.intro hy1 hz1));clear h hST hx1 hy1 hz1;obtain⟨S,hS⟩:∃S,S=s:=⟨_,rfl⟩
 rw[<-hS] at HS HST H330 H0;have HSE:=Lib.hid hS;clear hS;obtain⟨⟨cb,ct,cs,ca,ck,cy,co⟩,⟨mg,mx,mt,mf,es⟩,bs,sz,nx,nw,wt,rd⟩:=s;obtain⟨X,hX⟩:∃X,X=x:=⟨_,rfl⟩
 obtain⟨Y,hY⟩:∃X,X=y:=⟨_,rfl⟩
 obtain⟨ZZ,hZ⟩:∃X,X=z:=⟨_,rfl⟩
 rw[<-hX,<-hY,<-hZ] at HS;have HXE:=Lib.hid (And.intro hX (And.intro hY hZ));clear hX hY hZ;obtain⟨A1,n1,c1⟩:=x;obtain⟨A2,n2,c2⟩:=y;obtain⟨A3,n3,c3⟩:=z;unfold sagg stc Sl.v;dsimp only at *
 have HK:=Lib.hid (Blk.new w #[.int .i64 cb,.int .i64 ct,.int .i64 cs,.int .i64 ca,.int .i64 ck,.int .i64 cy,.int .i64 co,.int .i64 mg,.int .i64 mx,.int .i64 mt,.int .i64 mf,.slice A1 n1 c1,.slice A2 n2 c2,.int .i64 sz,.int .i64 nx,.int .i64 nw,.slice A3 n3 c3,.bool rd] 30);have HW:=Lib.hid (ext_alloc w (.cells #[.int .i64 cb,.int .i64 ct,.int .i64 cs,.int .i64 ca,.int .i64 ck,.int .i64 cy,.int .i64 co,.int .i64 mg,.int .i64 mx,.int .i64 mt,.int .i64 mf,.slice A1 n1 c1,.slice A2 n2 c2,.int .i64 sz,.int .i64 nx,.int .i64 nw,.slice A3 n3 c3,.bool rd] 30));rcases hcf:okCf ⟨cb,ct,cs,ca,ck,cy,co⟩ with _|_
 ·have HE:=Lib.hid (H330.out (by rw[HST.out,HSE.out];dsimp only;rw[hcf];rfl))
  rw[hcf] at HCF;simp only[Bool.false_eq_true,if_false] at HCF;clear hcf
  go_enter Tryz.func8, Tryz.ntmps8
  go_wp2_with (go_at_call 24;refine(HCF.out _).mono ?_;rintro e1 w1 ⟨rfl,hb1⟩;have HW:=Lib.hid (HW.out.trans (hb1.mono HW.out.size));clear hb1)
  go_ret
  exact⟨by rw[HE.out];rfl,HW.out⟩
 rw[hcf] at HCF;rcases hmf:okMf ⟨mg,mx,mt,mf,es⟩ with _|_
 ·have HE:=Lib.hid (H330.out (by rw[HST.out,HSE.out];dsimp only;rw[hcf,hmf];rfl))
  rw[hmf] at HMN;simp only[Bool.false_eq_true,if_false,if_true] at HMN HCF;clear hcf hmf
  go_enter Tryz.func8, Tryz.ntmps8
  go_wp2_with (first
   |(go_at_call 24;refine(HCF.out _).mono ?_;rintro e1 w1 ⟨rfl,hb1⟩;have HW:=Lib.hid (HW.out.trans (hb1.mono HW.out.size));have HK:=Lib.hid (HK.out.ext hb1);clear hb1;have k7:=HK.out.cell 7 (v:=.int .i64 mg) rfl;have k8:=HK.out.cell 8 (v:=.int .i64 mx) rfl;have k9:=HK.out.cell 9 (v:=.int .i64 mt) rfl;have k10:=HK.out.cell 10 (v:=.int .i64 mf) rfl;have k11:=HK.out.cell 11 (v:=.slice A1 n1 c1) rfl)
   |(go_at_call 25;refine(HMN.out _ HW.out).mono ?_;rintro e2 w2 ⟨rfl,hb2⟩;have HW:=Lib.hid (HW.out.trans (hb2.mono HW.out.size));clear hb2))
  go_ret
  exact⟨by rw[HE.out];rfl,HW.out⟩
 rw[hmf] at HMN;simp only[if_true] at HMN HCF;have hk:keptB S=true:=by rw[HSE.out];show(okCf _&&okMf _)=true;rw[hcf,hmf];rfl
 obtain⟨hoe,hl0,-⟩:=hd_ok hk;have hbd:=okE_bd hoe;have hgl:S.mf.es.getLast? =some (hdOf S):=by
  unfold hdOf;rcases hg:S.mf.es.getLast? with _|q
  ·rw[List.getLast?_eq_none_iff] at hg
   rw[hg] at hl0;simp at hl0
  ·rfl
 have HKM:=Lib.hid (And.intro hcf hmf);have HBD:=Lib.hid hbd;obtain⟨hi,hhi⟩:∃n:Nat,(hdOf S).i=n:=⟨(hdOf S).i.toNat,by omega⟩
 obtain⟨hg,hhg⟩:∃n:Nat,(hdOf S).g=n:=⟨(hdOf S).g.toNat,by omega⟩
 obtain⟨hf,hhf⟩:∃n:Nat,(hdOf S).f=n:=⟨(hdOf S).f.toNat,by omega⟩
 have hXA:=HXE.out.1;have hYA:=HXE.out.2.1;have hZA:=HXE.out.2.2;have hes:S.mf.es=es:=by rw[HSE.out]
 have HHD:=Lib.hid (show ∀(wx:World),Below w.heap.size w wx->Calls Tryz.prog 9 #[.agg #[.int .i64 mg,.int .i64 mx,.int .i64 mt,.int .i64 mf,.slice A1 n1 c1]] wx fun e w'=>e=.returned (.agg #[.int .i64 (hi:Int),.int .i64 (hg:Int),.int .i64 (hf:Int)])/\Below wx.heap.size wx w' from fun wx hb=>by
  have:=rhead_any ⟨mg,mx,mt,mf,es⟩ ⟨A1,n1,c1⟩ wx (by have:=(HS.out.ext hb).es;rw[hXA,hes] at this;exact this) (by show 0<es.length;rw[<-hes];exact hl0) (by exact HXYZ.out.1) (hdOf S) (by show es.getLast? =_;rw[<-hes];exact hgl);rw[hhi,hhg,hhf] at this;exact this)
 have hbs:S.bs=bs:=by rw[HSE.out]
 have hRB:∀(wx:World),Below w.heap.size w wx->Rd wx wx.heap.size 7 A2 n2 (flS bs):=fun wx hb=>by have:=(HS.out.ext hb).bs;rw[hYA,hbs] at this;exact this
 have hRW:∀(wx:World),Below w.heap.size w wx->Rd wx wx.heap.size 3 A3 n3 (flS wt):=fun wx hb=>by have:=(HS.out.ext hb).wt;rw[hZA,show S.wt=wt from by rw[HSE.out]] at this;exact this
 have hhb:1<=hi/\hi<=999999/\1<=hg/\hg<=999999/\1<=hf/\hf<=1000000000:=by omega
 have HEN:=Lib.hid (fun(wx:World) (hb:Below w.heap.size w wx) (ho:okBi bs=false)=>r21end_no A2 n2 c2 hi hg hf bs wx hhb (hRB wx hb) (by have:=HXYZ.out.2.1;omega) ho);have HEY:=Lib.hid (fun(wx:World) (hb:Below w.heap.size w wx) (ho:okBi bs=true)=>r21end_yes A2 n2 c2 hi hg hf bs wx hhb (hRB wx hb) HXYZ.out.2.1 ho);have HNX:=Lib.hid (fun(wx:World) (hb:Below w.heap.size w wx) (ho:okBi bs=true)=>r21next_any A2 n2 c2 hi hg hf bs wx (hRB wx hb) HXYZ.out.2.1 ho);have HRO:=Lib.hid (fun(wx:World) (hb:Below w.heap.size w wx)=>refrow_any A3 n3 c3 wt wx (hRW wx hb) (by have:=HXYZ.out.2.2;omega));have HRA:=Lib.hid (fun(wx:World) (hb:Below w.heap.size w wx) (ho:∀r∈wt,ok1 r=true)=>rraw_any A3 n3 c3 wt wx (hRW wx hb) HXYZ.out.2.2 ho);have HTI:=Lib.hid (show ∀(wx:World),Below w.heap.size w wx->Calls Tryz.prog 30 #[.agg #[.int .i64 cb,.int .i64 ct,.int .i64 cs,.int .i64 ca,.int .i64 ck,.int .i64 cy,.int .i64 co,.int .i64 mg,.int .i64 mx,.int .i64 mt,.int .i64 mf,.slice A1 n1 c1,.slice A2 n2 c2,.int .i64 sz,.int .i64 nx,.int .i64 nw,.slice A3 n3 c3,.bool rd]] wx fun e w'=>e=.returned (.bool (timedB S))/\Below wx.heap.size wx w' from fun wx hb=>by
  have:=rtimes_any S X Y ZZ wx (HS.out.ext hb) (by rw[hXA];exact HXYZ.out.1) (by rw[hYA];have:=HXYZ.out.2.1;show n2<=1000000;omega) (by rw[hZA];exact HXYZ.out.2.2);have ha:sagg S X Y ZZ=.agg #[.int .i64 cb,.int .i64 ct,.int .i64 cs,.int .i64 ca,.int .i64 ck,.int .i64 cy,.int .i64 co,.int .i64 mg,.int .i64 mx,.int .i64 mt,.int .i64 mf,.slice A1 n1 c1,.slice A2 n2 c2,.int .i64 sz,.int .i64 nx,.int .i64 nw,.slice A3 n3 c3,.bool rd]:=by rw[HSE.out,hXA,hYA,hZA];rfl
  rw[ha] at this;exact this)
 have HEI:endI ⟨hi,hg,hf,false,0,0,0,0,0⟩ bs=endI (hdOf S) bs:=by
  unfold endI;rw[<-hhi,<-hhg,<-hhf]
 have hln2:bs.length=n2:=rdS_len (hRB w (Below.refl _ _));have hln3:wt.length=n3:=rdS_len (hRW w (Below.refl _ _));have HRBH:=Lib.hid (hRB w (Below.refl _ _));have HRWH:=Lib.hid (hRW w (Below.refl _ _));rw[HEI] at HEY;have HSF:=Lib.hid (show okSt S=((okBi bs&&(decide (endI (hdOf S) bs=sz)&&firstM (hf:Int) bs))&&((decide (Rd.rowE none wt=0)&&(decide ((rawR wt:Int)<cb)&&(decide (nx=nextI (hf:Int) bs+wt.length)&&firstR (nextI (hf:Int) bs) wt)))&&timedB S)) from by
  rw[HST.out,<-hhf];generalize hdOf S=Q;generalize timedB S=T;rw[HSE.out];dsimp only;rw[HKM.out.1,HKM.out.2];rfl)
 have HNB:=Lib.hid (fun(ho:okBi bs=true)=>nextI_bd (f:=(hf:Int)) (l:=bs) (by omega) ho);generalize endI (hdOf S) bs=EN at *
 generalize hNI:nextI (hf:Int) bs=NI at *
 generalize timedB S=TI at *
 have hn3:n3<=1000000:=HXYZ.out.2.2;have HL2:=Lib.hid hln2;have HL3:=Lib.hid hln3;clear HS HST HSE HXE hk hoe hl0 hbd hgl HBD hhi hhg hhf hXA hYA hZA hes hbs hRB hRW hhb HEI hln2 hln3 hcf hmf hNI HKM HXYZ;clear X Y ZZ
 go_enter Tryz.func8, Tryz.ntmps8
 go_upto_region 4 with (first
  |(go_at_call 24;refine(HCF.out _).mono ?_;rintro e1 w1 ⟨rfl,hb1⟩;have HW:=Lib.hid (HW.out.trans (hb1.mono HW.out.size));have HK:=Lib.hid (HK.out.ext hb1);clear hb1;have k7:=HK.out.cell 7 (v:=.int .i64 mg) rfl;have k8:=HK.out.cell 8 (v:=.int .i64 mx) rfl;have k9:=HK.out.cell 9 (v:=.int .i64 mt) rfl;have k10:=HK.out.cell 10 (v:=.int .i64 mf) rfl;have k11:=HK.out.cell 11 (v:=.slice A1 n1 c1) rfl)
  |(go_at_call 25;refine(HMN.out _ HW.out).mono ?_;rintro e2 w2 ⟨rfl,hb2⟩;have HW:=Lib.hid (HW.out.trans (hb2.mono HW.out.size));have HK:=Lib.hid (HK.out.ext hb2);clear hb2 k7 k8 k9 k10 k11;have k7:=HK.out.cell 7 (v:=.int .i64 mg) rfl;have k8:=HK.out.cell 8 (v:=.int .i64 mx) rfl;have k9:=HK.out.cell 9 (v:=.int .i64 mt) rfl;have k10:=HK.out.cell 10 (v:=.int .i64 mf) rfl;have k11:=HK.out.cell 11 (v:=.slice A1 n1 c1) rfl)
  |(go_at_call 9;refine(HHD.out _ HW.out).mono ?_;rintro e3 w3 ⟨rfl,hb3⟩;have HW3:=Lib.hid ((HW.out.trans (hb3.mono HW.out.size)).trans ((ext_alloc w3 (.cells #[.int .i64 (hi:Int),.int .i64 (hg:Int),.int .i64 (hf:Int)] 35)).mono (HW.out.trans (hb3.mono HW.out.size)).size));have HK3:=Lib.hid ((HK.out.ext hb3).alloc (.cells #[.int .i64 (hi:Int),.int .i64 (hg:Int),.int .i64 (hf:Int)] 35));have HH3:=Lib.hid (Blk.new w3 #[.int .i64 (hi:Int),.int .i64 (hg:Int),.int .i64 (hf:Int)] 35);clear hb3 k7 k8 k9 k10 k11))
 clear HW HK HCF HMN HHD;generalize w3.alloc (.cells #[.int .i64 (hi:Int),.int .i64 (hg:Int),.int .i64 (hf:Int)] 35)=w4 at *
 generalize w3.heap.size=bh at *
 have k12:=HK3.out.cell 12 (v:=.slice A2 n2 c2) rfl;rcases hob:okBi bs with _|_
 ·have HE:=Lib.hid (H330.out (by rw[HSF.out,hob];rfl))
  go_upto_region 5 with (first
   |(refine wpList_load_row rfl 35 (.tmp 3) rfl bh #[.int .i64 (hi:Int),.int .i64 (hg:Int),.int .i64 (hf:Int)] _ (by simp[go_sem,Act.eval]) HH3.out Tryz.underlying35 rfl hd3_info ?_)
   |(go_at_call 26;refine(HEN.out _ HW3.out hob).mono ?_;rintro e5 w5 ⟨rfl,hb5⟩;have HW5:=Lib.hid (HW3.out.trans (hb5.mono HW3.out.size));clear hb5 k12))
  go_quiet (fail)
  go_wp2_with fail
  go_ret
  exact⟨by rw[HE.out];rfl,below_drewN HW5.out _⟩
 have HOB:=Lib.hid hob;clear hob;go_upto_region 5 with (first
  |(refine wpList_load_row rfl 35 (.tmp 3) rfl bh #[.int .i64 (hi:Int),.int .i64 (hg:Int),.int .i64 (hf:Int)] _ (by simp[go_sem,Act.eval]) HH3.out Tryz.underlying35 rfl hd3_info ?_)
  |(go_at_call 26;refine(HEY.out _ HW3.out HOB.out).mono ?_;rintro e5 w5 ⟨rfl,hb5⟩;have HW5:=Lib.hid (HW3.out.trans (hb5.mono HW3.out.size));have HK5:=Lib.hid (HK3.out.ext hb5);have HH5:=Lib.hid (HH3.out.ext hb5);clear hb5 k12))
 clear HW3 HK3 HH3 HEN HEY;have k12:=HK5.out.cell 12 (v:=.slice A2 n2 c2) rfl;have k13:=HK5.out.cell 13 (v:=.int .i64 sz) rfl;have j2:=HH5.out.cell 2 (v:=.int .i64 (hf:Int)) rfl;by_cases hen:EN=sz
 case neg =>
  have HE:=Lib.hid (H330.out (by rw[HSF.out,decide_eq_false hen];simp));have hne:(sz != EN)=true:=by rw[bne_iff_ne];exact fun e=>hen e.symm
  go_quiet (fail)
  go_wp2_with fail
  go_ret
  exact⟨by rw[HE.out];rfl,below_drewN HW5.out _⟩
 have hne:(sz != EN)=false:=by rw[hen];simp
 have HEQ:=Lib.hid hen;clear hen;rcases Nat.eq_zero_or_pos n2 with h20|h2p
 rotate_left
 obtain⟨ad,b0,hA,hbk,hx0,-,c4⟩:=sl_at (k:=0) HRBH.out h2p;have c4:=c4 3 (by decide);have hzz:ad.add (0*7)=ad:=by rw[Nat.zero_mul];unfold Addr.add;simp
 rw[hzz] at c4;have c4':w5.cell? ⟨ad.block,ad.off+4,none⟩=some (.int .i64 b0.f):=(HW5.out.cell (p:=⟨ad.block,ad.off+4,none⟩) hbk).trans c4;have k12':w5.cell? ⟨w.heap.size,12,none⟩=some (.slice (some ad) n2 c2):=by rw[<-hA];exact k12
 have hfm:firstM (hf:Int) bs=decide (b0.f=(hf:Int)):=by
  rcases bs with _|⟨b1,l⟩
  ·simp at hx0
  ·simp only[List.getElem?_cons_zero,Option.some.injEq] at hx0
   subst hx0;rfl
 have g0:(0:Int)<(n2:Int):=by omega
 have g1: ¬ n2=0:=by omega
 have g2:0<n2:=h2p;clear k12 c4 hzz hbk hx0 h2p;by_cases h5:b0.f=(hf:Int)
 case neg =>
  have HE:=Lib.hid (H330.out (by rw[HSF.out,hfm,decide_eq_false h5];simp));have hn5:(b0.f != (hf:Int))=true:=by rw[bne_iff_ne];exact h5
  clear hA hfm h5;go_quiet (fail)
  go_wp2_with fail
  go_ret
  exact⟨by rw[HE.out];rfl,below_drewN HW5.out _⟩
 have HFM:=Lib.hid (show firstM (hf:Int) bs=true by rw[hfm,decide_eq_true h5]);have hn5:(b0.f != (hf:Int))=false:=by rw[h5];simp
 clear hA hfm h5;go_quiet (fail)
 clear k12' k13 j2 c4' hn5 hne g0 g1 g2;go_upto_region 7 with (fail)
 rotate_left
 have HFM:=Lib.hid (show firstM (hf:Int) bs=true by
  have:=HL2.out;rcases bs with _|⟨b1,l⟩
  ·rfl
  ·rw[h20] at this;simp at this)
 have g0: ¬ (0:Int)<(n2:Int):=by omega
 have g1: ¬ 0<n2:=by omega
 have HN20:=Lib.hid h20;clear h20;go_quiet (fail)
 clear k12 k13 j2 hne g0 g1;go_upto_region 7 with (fail)
 all_goals
  generalize hwd:w5.drewN _=w7 at *
  have HW7:=Lib.hid (show Below w.heap.size w w7 from hwd▸below_drewN HW5.out _);have HK7:=Lib.hid (show Blk w7 w.heap.size #[.int .i64 cb,.int .i64 ct,.int .i64 cs,.int .i64 ca,.int .i64 ck,.int .i64 cy,.int .i64 co,.int .i64 mg,.int .i64 mx,.int .i64 mt,.int .i64 mf,.slice A1 n1 c1,.slice A2 n2 c2,.int .i64 sz,.int .i64 nx,.int .i64 nw,.slice A3 n3 c3,.bool rd] 30 from hwd▸HK5.out);have HH7:=Lib.hid (show Blk w7 bh #[.int .i64 (hi:Int),.int .i64 (hg:Int),.int .i64 (hf:Int)] 35 from hwd▸HH5.out);clear hwd HW5 HK5 HH5;have k12:=HK7.out.cell 12 (v:=.slice A2 n2 c2) rfl;go_upto_region 8 with (first
   |(refine wpList_load_row rfl 35 (.tmp 3) rfl bh #[.int .i64 (hi:Int),.int .i64 (hg:Int),.int .i64 (hf:Int)] _ (by simp[go_sem,Act.eval]) HH7.out Tryz.underlying35 rfl hd3_info ?_)
   |(go_at_call 27;refine(HNX.out _ HW7.out HOB.out).mono ?_;rintro e8 w8 ⟨rfl,hb8⟩;have HW8:=Lib.hid (HW7.out.trans (hb8.mono HW7.out.size));have HK8:=Lib.hid (HK7.out.ext hb8);clear hb8 k12))
  clear HW7 HK7 HH7 HNX;have q16:=bw_cell HK8.out 16 (v:=.slice A3 n3 c3) rfl;have q0:=bw_cell HK8.out 0 (v:=.int .i64 cb) rfl;have HQ:=Lib.hid (show ∀q:Bw w8,Below w.heap.size w q.to from fun q=>HW8.out.trans (q.h.mono HW8.out.size));have HQK:=Lib.hid (show ∀q:Bw w8,Blk q.to w.heap.size #[.int .i64 cb,.int .i64 ct,.int .i64 cs,.int .i64 ca,.int .i64 ck,.int .i64 cy,.int .i64 co,.int .i64 mg,.int .i64 mx,.int .i64 mt,.int .i64 mf,.slice A1 n1 c1,.slice A2 n2 c2,.int .i64 sz,.int .i64 nx,.int .i64 nw,.slice A3 n3 c3,.bool rd] 30 from fun q=>HK8.out.ext q.h);by_cases hrow:Rd.rowE none wt=0
  case neg =>
   have HE:=Lib.hid (H330.out (by rw[HSF.out,decide_eq_false hrow];simp));have hne:(Rd.rowE none wt != 0)=true:=by rw[bne_iff_ne];exact hrow
   generalize Rd.rowE none wt=RE at *
   clear q0;refine wp_region_quiet_below (by assumption) (by kernel_rfl) ?_
   repeat (first|go_big_quiet_skip|quiet_step (first|(go_at_call 28;refine below_of (HRO.out _ (HQ.out _)))))
   refine wpQuiet_nil ?_;intro _ hw';obtain⟨q,rfl⟩:=hw';go_wp2_with fail
   go_ret
   exact⟨by rw[HE.out];rfl,HQ.out q⟩
  have HOK1:=Lib.hid (Rd.rowE_ok wt none hrow);have HROW:=Lib.hid hrow;rw[hrow] at HRO;by_cases hraw:cb<=(rawR wt:Int)
  case pos =>
   have HE:=Lib.hid (H330.out (by rw[HSF.out,decide_eq_false (show ¬ (rawR wt:Int)<cb by omega)];simp));refine wp_region_quiet_below (by assumption) (by kernel_rfl) ?_
   repeat (first|go_big_quiet_skip|quiet_step (first|(go_at_call 28;refine below_of (HRO.out _ (HQ.out _)))|(go_at_call 29;refine below_of (HRA.out _ (HQ.out _) HOK1.out))))
   refine wpQuiet_nil ?_;intro _ hw';obtain⟨q,rfl⟩:=hw';go_wp2_with fail
   go_ret
   exact⟨by rw[HE.out];rfl,HQ.out q⟩
  rcases Nat.eq_zero_or_pos n3 with h30|h3p
  rotate_left
  obtain⟨ad3,r0,hA3,hbk3,hx3,d0,-⟩:=sl_at (k:=0) HRWH.out h3p;have hzz:ad3.add (0*3)=ad3:=by rw[Nat.zero_mul];unfold Addr.add;simp
  rw[hzz] at d0;have q3:∀q:Bw w8,q.to.cell? ad3=some (.int .i64 r0.1):=fun q=>((HQ.out q).cell hbk3).trans d0
  have q16':∀q:Bw w8,q.to.cell? ⟨w.heap.size,16,none⟩=some (.slice (some ad3) n3 c3):=by rw[<-hA3];exact q16
  have hfr:firstR NI wt=decide (r0.1=NI):=by
   rcases wt with _|⟨b1,l⟩
   ·simp at hx3
   ·simp only[List.getElem?_cons_zero,Option.some.injEq] at hx3
    subst hx3;rfl
  have g0:(0:Int)<(n3:Int):=by omega
  have g1: ¬ n3=0:=by omega
  have g2:0<n3:=h3p;have HA3:=Lib.hid hA3;rw[hA3] at HRO HRA;clear q16 d0 hzz hbk3 hx3 h3p hA3;by_cases h8:r0.1=NI
  case neg =>
   have HE:=Lib.hid (H330.out (by rw[HSF.out,hfr,decide_eq_false h8];simp));have hn8:(r0.1 != NI)=true:=by rw[bne_iff_ne];exact h8
   clear hfr h8;refine wp_region_quiet_below (by assumption) (by kernel_rfl) ?_
   repeat (first|go_big_quiet_skip|quiet_step (first|(go_at_call 28;refine below_of (HRO.out _ (HQ.out _)))|(go_at_call 29;refine below_of (HRA.out _ (HQ.out _) HOK1.out))))
   refine wpQuiet_nil ?_;intro _ hw';obtain⟨q,rfl⟩:=hw';go_wp2_with fail
   go_ret
   exact⟨by rw[HE.out];rfl,HQ.out q⟩
  have HFR:=Lib.hid (show firstR NI wt=true by rw[hfr,decide_eq_true h8]);have hn8:(r0.1 != NI)=false:=by rw[h8];simp
  clear hfr h8;refine wp_region_quiet_below (by assumption) (by kernel_rfl) ?_
  repeat (first|go_big_quiet_skip|quiet_step (first|(go_at_call 28;refine below_of (HRO.out _ (HQ.out _)))|(go_at_call 29;refine below_of (HRA.out _ (HQ.out _) HOK1.out))))
  refine wpQuiet_nil ?_;intro _ hw';obtain⟨q,rfl⟩:=hw';clear q3 q16' q0 hn8 g0 g1 g2;go_upto_region 10 with (fail)
  rotate_left
  have HFR:=Lib.hid (show firstR NI wt=true by
   have:=HL3.out;rcases wt with _|⟨b1,l⟩
   ·rfl
   ·rw[h30] at this;simp at this)
  have g0: ¬ (0:Int)<(n3:Int):=by omega
  have g1: ¬ 0<n3:=by omega
  have HN30:=Lib.hid h30;clear h30;refine wp_region_quiet_below (by assumption) (by kernel_rfl) ?_
  repeat (first|go_big_quiet_skip|quiet_step (first|(go_at_call 28;refine below_of (HRO.out _ (HQ.out _)))|(go_at_call 29;refine below_of (HRA.out _ (HQ.out _) HOK1.out))))
  refine wpQuiet_nil ?_;intro _ hw';obtain⟨q,rfl⟩:=hw';clear q16 q0 g0 g1;go_upto_region 10 with (fail)
  all_goals
   have HW10:=Lib.hid (HQ.out q);have HK10:=Lib.hid (HQK.out q);clear HQ HQK HRO HRA HW8 HK8;generalize q.to=w10 at *
   have k14:=HK10.out.cell 14 (v:=.int .i64 nx) rfl;have k16:=HK10.out.cell 16 (v:=.slice A3 n3 c3) rfl;have hnb:=HNB.out HOB.out;have hwr:IntKind.i64.wrap (NI+(n3:Int))=NI+(n3:Int):=by rw[IntKind.wrap_i64];omega
   clear hnb;by_cases hnx:nx=NI+(n3:Int)
   case neg =>
    have HE:=Lib.hid (H330.out (by rw[HSF.out,HL3.out,decide_eq_false hnx];simp));have hnn:(nx != NI+(n3:Int))=true:=by rw[bne_iff_ne];exact hnx
    go_wp2_with fail
    go_ret
    exact⟨by rw[HE.out];rfl,HW10.out⟩
   have HNE:=Lib.hid hnx;have hnn:(nx != NI+(n3:Int))=false:=by rw[hnx];simp
   clear hnx;have hra:=HK10.out.rowAt;have hrt:RowTy Tryz.prog 30 18:=⟨st_info,_,Tryz.underlying30⟩
   rcases TI with _|_
   ·have HE:=Lib.hid (H330.out (by rw[HSF.out];simp))
    go_wp2_with (first
     |(go_at_call 30;refine(HTI.out _ HW10.out).mono ?_;rintro e11 w11 ⟨rfl,hb11⟩;have HW11:=Lib.hid (HW10.out.trans (hb11.mono HW10.out.size));clear hb11))
    go_ret
    exact⟨by rw[HE.out];rfl,HW11.out⟩
   ·have HE:=Lib.hid (H0.out (by rw[HSF.out,HOB.out,HEQ.out,HFM.out,HROW.out,HL3.out,<-HNE.out,HFR.out,decide_eq_true (show(rawR wt:Int)<cb by omega)];simp))
    go_wp2_with (first
     |(go_at_call 30;refine(HTI.out _ HW10.out).mono ?_;rintro e11 w11 ⟨rfl,hb11⟩;have HW11:=Lib.hid (HW10.out.trans (hb11.mono HW10.out.size));clear hb11))
    go_ret
    exact⟨by rw[HE.out];rfl,HW11.out⟩
end Op
end Go.Proofs.YtphfmgapiimliaaGreat
