/- varvelaw42.awake. FollowBack's law with its probe. A log's state, rows of entries, as arguments. Over any program. -/
import Derived.Test.YtejcdhdfanfkbaaGreatFb42
import Derived.Test.YtejcdhdfanfkbaaGreatFb49
import Derived.Test.YtejcdhdfanfkbaaGreatFb16
import Derived.Test.YtejcdhdfanfkbaaGreatFb07
namespace Go.Proofs.YtejcdhdfanfkbaaGreat
namespace Fo
open Go.RowKit Hd Rd Fm Sn Dk Vi Lg Gq
open Go.Proofs.YtejcdhdfanfkbaaGreat.Op Go.Proofs.YtejcdhdfanfkbaaGreat.Rf
theorem loadAt_st8 (x:Value):Instr.loadAt 74 x=loadRow 74 x:=rfl
attribute [local go_sem ↓] loadAt_st8
attribute [local go_sem] run_loadRow
theorem DiskAt.off {w w':World} {S T T':Nat->Prop} {bd:Nat} {D:DS} (h:DiskAt w S bd D) (hg:Gr T w T' w') (hd:∀k,S k-> ¬ T k):DiskAt w' S bd D:=by
 obtain⟨gN,gS,v,h⟩:=h;exact⟨gN,gS,v,h.kept hg.size fun k hk=>hg.block k (h.lt k hk) (hd k hk)⟩
theorem own_off {w w':World} {T T':Nat->Prop} {t:TypeId} {sz n c g base:Nat} {xs:List Value} (h:w.ownsRow base t sz (.slice (some ⟨g,0,none⟩) n c) n xs) (hg:Gr T w T' w') (hd: ¬ T g):w'.ownsRow base t sz (.slice (some ⟨g,0,none⟩) n c) n xs :=
 own_block h fun g' hg'=>by cases hg';exact hg.block g (World.ownsRow.lt h g rfl).2 hd
set_option maxHeartbeats 16000000 in
set_option maxRecDepth 100000 in
theorem awake42_any (w:World):Calls Tryz.prog 7 #[] w fun e w'=>e=.returned (.bool true)/\Below w.heap.size w w':=by
 have mixed:Tryz.prog.follows .mixedOrders=true:=by kernel_rfl
 have hcalm:Dk.Calm (newD 1000):=⟨rfl,rfl⟩
 have HNW:=Lib.hid (fun w=>new_ok 1000 w (by omega) (by omega));have HDN:=Lib.hid (fun w=>done_new w);have HSV:=Lib.hid (fun(wx:World) (S1:Nat->Prop) (bd g c:Nat) (hD:DiskAt wx S1 bd (newD 1000)) (hr:Rd wx wx.heap.size 2 (some ⟨g,0,none⟩) 1 (flS [p6]))=>fsave_go (l:=[p6]) (c:=c) hD hcalm hr (by omega) chk_p6 (fun x hx=>by cases hx) rfl (by show 0<200;omega) (by show 0<1000000;omega) (by rw[pL_p6];show(4:Int)+9+0<=1000;omega) (by rw[pL_p6];show 4<=10000;omega));have HLD:=Lib.hid (fun(wx:World) (S1:Nat->Prop) (bd b:Nat) (hD:DiskAt wx S1 bd (fsaveD (frB 4 ⟨(pL [p6]).toArray⟩) b (newD 1000)))=>fload_some hD chk_p6 (fs_read rfl rfl _ b));have HEN:=Lib.hid (fun(wx:World) (g c:Nat) (hr:Rd wx wx.heap.size 2 (some ⟨g,0,none⟩) 1 (flS [p6]))=>show Calls Tryz.prog 8 #[.slice (some ⟨g,0,none⟩) 1 c] wx fun e w'=>e=.returned (.tuple #[.string ⟨#[1,1,97,6]⟩,.int .i64 0])/\Below wx.heap.size wx w' from by
  have:=fenc_any (some ⟨g,0,none⟩) 1 c [p6] wx hr (by omega)
  rwa [show encE [p6]=.returned (.tuple #[.string ⟨#[1,1,97,6]⟩,.int .i64 0]) from by unfold encE;rw[chk_p6,if_pos rfl,pL_p6]] at this)
 have HDE:=Lib.hid (fun(wx:World)=>show Calls Tryz.prog 11 #[.string ⟨#[1,1,97,6]⟩] wx fun e w'=>(∃A c,e=.returned (.tuple #[.slice A 1 c,.int .i64 0]))/\Below wx.heap.size wx w' from by
  refine(fdec_any ⟨#[1,1,97,6]⟩ (by decide) wx).mono ?_;rintro e w' ⟨⟨A,c,rfl,-⟩,hb⟩;have e1:deP (⟨#[1,1,97,6]⟩:ByteArray).data.toList=(0,[p6]):=deP_p6;rw[e1];exact⟨⟨A,c,rfl⟩,hb⟩)
 have HCN:=Lib.hid (fun w=>Lg.conf_any w);have HOP:=Lib.hid (show ∀(wx:World) (S1:Nat->Prop) (bd:Nat),DiskAt wx S1 bd (newD 1000)->Calls Tryz.prog 27 #[.pointer (some ⟨bd,0,none⟩),.agg #[.int .i64 40,.int .i64 100,.int .i64 300,.int .i64 0,.int .i64 0,.int .i64 0,.int .i64 0]] wx fun e w'=>∃(G b bm:Nat) (S':Nat->Prop),e=.returned (.tuple #[.agg (cs1 G 1),.int .i64 0])/\wx.heap.size<=G/\ ¬ S' G/\Blk w' G (Sh.cl e1).toArray 217/\b≠bm/\DiskAt w' S' bd (freshD b bm (newD 1000))/\Gr S1 wx S' w' from fun wx S1 bd hD=>by
  refine(Open_go hD hcalm rfl (by show(100:Int)<=1000;omega) (by show 0<=1000;omega) c40 (by decide)).mono ?_;rintro e w' ⟨G,b,bm,S',rfl,h1,h2,h3,-,h4,h5,h6⟩;exact⟨G,b,bm,S',rfl,h1,h2,h3,h4,h5,h6⟩)
 have HAP:=Lib.hid (fun(wx:World) (bd G:Nat) (hG:Blk wx G (Sh.cl e1).toArray 217)=>app_go bd G wx hG);have HTK:=Lib.hid (fun(wx:World) (S1:Nat->Prop) (bd b bm G c g k:Nat) (hne:b≠bm) (hD:DiskAt wx S1 bd (freshD b bm (newD 1000))) (hW:W2 wx G c g k)=>take_q bd G c g k S1 _ wx hD hW (by
  have hc:=fresh_calm hcalm b bm;unfold readP;rw[hc.off,fresh_now rfl,lk_cons,if_pos rfl];rfl))
 have HDB:=Lib.hid (fun(wx:World) (g c:Nat) (hr:Rd wx wx.heap.size 2 (some ⟨g,0,none⟩) 1 (flS [p6]))=>done_bad (some ⟨g,0,none⟩) c wx hr);have HNX:=Lib.hid (fun(wx:World) (g c:Nat) (s:ByteArray) (hr:Rd wx wx.heap.size 2 (some ⟨g,0,none⟩) 1 (flS [p6]))=>next_any (some ⟨g,0,none⟩) 1 c [p6] s wx hr (by omega));have HCH:=Lib.hid (fun(wx:World) (g c:Nat) (hr:Rd wx wx.heap.size 2 (some ⟨g,0,none⟩) 1 (flS [p6]))=>show Calls Tryz.prog 15 #[.slice (some ⟨g,0,none⟩) 1 c] wx fun e w'=>e=.returned (.int .i64 0)/\Below wx.heap.size wx w' from fcheck_any (some ⟨g,0,none⟩) 1 c [p6] wx hr (by omega));clear hcalm;generalize frB 4 ⟨(pL [p6]).toArray⟩=TT at *
 go_enter Tryz.func7, Tryz.ntmps7
 go_upto_region 2 with (go_at_call 21;refine(HNW.out _).mono ?_;rintro e1 w1 ⟨bp,rfl,S1,hD1,hg1⟩;have HD1:=Lib.hid hD1;have HG1:=Lib.hid hg1;clear hD1 hg1)
 go_upto_region 5 with (go_at_call 21;refine(HNW.out _).mono ?_;rintro e2 w2 ⟨bd,rfl,S2,hD2,hg2⟩;have HD2:=Lib.hid hD2;have HG2:=Lib.hid (HG1.out.trans (Gr.of_below (hg2.below (Nat.le_refl _) (fun k h=>h.elim))));have HB2:=Lib.hid (hg2.below (Nat.le_refl _) (fun k h=>h.elim));have HA2:=Lib.hid hg2;clear hD2 hg2)
 have HS1:=Lib.hid (show ∀k,S1 k->w.heap.size<=k from HG1.out.ge (Nat.le_refl _) (fun k h=>h.elim));have HL1:=Lib.hid (show ∀k,S1 k->k<w1.heap.size from fun k hk=>by
  obtain⟨gN,gS,v,hd⟩:=HD1.out;exact hd.lt k hk)
 have HS2:=Lib.hid (show ∀k,S2 k->w1.heap.size<=k from HA2.out.ge (Nat.le_refl _) (fun k h=>h.elim));have HL2:=Lib.hid (show ∀k,S2 k->k<w2.heap.size from fun k hk=>by
  obtain⟨gN,gS,v,hd⟩:=HD2.out;exact hd.lt k hk)
 have HP2:=Lib.hid (HD1.out.ext HB2.out);have hww:w.heap.size<=w1.heap.size:=HG1.out.size;have hww2:w1.heap.size<=w2.heap.size:=HB2.out.size;have HW2:=Lib.hid (show Below w.heap.size w w2 from(HG1.out.below (Nat.le_refl _) (fun k h=>h.elim)).trans (HB2.out.mono hww));clear HD1 HG1 HG2 HB2 HA2 HNW;go_upto_region 6 with (go_at_call 13;refine(HDN.out _).mono ?_;rintro e3 w3 ⟨⟨g1,c1,rfl,ho3⟩,hb3⟩;have HO3:=Lib.hid (own_lower ho3 (Nat.zero_le _));have HQ3:=Lib.hid (World.ownsRow.lt ho3 g1 rfl).1;have HP3:=Lib.hid (HP2.out.ext hb3);have HD3:=Lib.hid (HD2.out.ext hb3);have HW3:=Lib.hid (HW2.out.trans (hb3.mono HW2.out.size));clear ho3 hb3)
 clear HP2 HD2 HW2 HDN;go_upto_region 7 with (go_at_call 22;refine(HSV.out _ S1 bp g1 c1 HP3.out (Rd.of_own HO3.out)).mono ?_;rintro e4 w4 ⟨rfl,b4,S4,hb4,hp4,hg4⟩;have HP4:=Lib.hid hp4;have HO4:=Lib.hid (own_off HO3.out hg4 (fun h=>by have:=HL1.out _ h;have:=HQ3.out;omega));have HD4:=Lib.hid (DiskAt.off HD3.out hg4 (fun k h h1=>by have:=HL1.out _ h1;have:=HS2.out _ h;omega));have HW4:=Lib.hid (HW3.out.trans (hg4.below HW3.out.size HS1.out));clear hp4 hg4 hb4)
 clear HP3 HO3 HD3 HW3 HSV;go_upto_region 8 with (go_at_call 26;refine(HLD.out _ S4 bp b4 HP4.out).mono ?_;rintro e5 w5 ⟨⟨A5,c5,rfl,ho5⟩,hb5⟩;obtain⟨g5,cc5,he5,-⟩:=World.ownsRow.form ho5 (by simp);cases he5;have HM5:=Lib.hid (own_lower ho5 (Nat.zero_le _));have HQ5:=Lib.hid (World.ownsRow.lt ho5 g5 rfl).1;have HQ54:=Lib.hid (World.ownsRow.lt HO4.out g1 rfl).2;have HO5:=Lib.hid (own_below HO4.out hb5 (Nat.le_refl _));have HD5:=Lib.hid (HD4.out.ext hb5);have HW5:=Lib.hid (HW4.out.trans (hb5.mono HW4.out.size));clear ho5 hb5)
 clear HP4 HO4 HD4 HW4 HLD;go_upto_region 9 with (go_at_call 8;refine(HEN.out _ g1 c1 (Rd.of_own HO5.out)).mono ?_;rintro e6 w6 ⟨rfl,hb6⟩;have HM6:=Lib.hid (own_below HM5.out hb6 (Nat.le_refl _));have HO6:=Lib.hid (own_below HO5.out hb6 (Nat.le_refl _));have HD6:=Lib.hid (HD5.out.ext hb6);have HW6:=Lib.hid (HW5.out.trans (hb6.mono HW5.out.size));clear hb6)
 clear HM5 HO5 HD5 HW5 HEN;go_upto_region 10 with (go_at_call 11;refine(HDE.out _).mono ?_;rintro e7 w7 ⟨⟨A7,c7,rfl⟩,hb7⟩;have HM7:=Lib.hid (own_below HM6.out hb7 (Nat.le_refl _));have HO7:=Lib.hid (own_below HO6.out hb7 (Nat.le_refl _));have HD7:=Lib.hid (HD6.out.ext hb7);have HW7:=Lib.hid (HW6.out.trans (hb7.mono HW6.out.size));clear hb7)
 clear HM6 HO6 HD6 HW6 HDE;have hn1: ¬ S2 g1:=fun h=>by have:=HL2.out _ h;have:=HQ3.out;omega
 have HN1:=Lib.hid hn1;have HN5:=Lib.hid (show ¬ S2 g5 from fun h=>by have:=HL2.out _ h;have:=HQ5.out;have:=HQ3.out;have:=HQ54.out;omega);clear hn1;go_upto_region 11 with (first
  |(go_at_call 28;refine(HCN.out _).mono ?_;rintro e8 w8 ⟨rfl,hb8⟩;have HM8:=Lib.hid (own_below HM7.out hb8 (Nat.le_refl _));have HO8:=Lib.hid (own_below HO7.out hb8 (Nat.le_refl _));have HD8:=Lib.hid (HD7.out.ext hb8);have HW8:=Lib.hid (HW7.out.trans (hb8.mono HW7.out.size));clear hb8)
  |(go_at_call 27;refine(HOP.out _ S2 bd HD8.out).mono ?_;rintro e9 w9 ⟨G,b,bm,S9,rfl,hlG,hnG,hG,hbn,hD9,hg9⟩;have HG9:=Lib.hid hG;have HD9:=Lib.hid hD9;have HBN:=Lib.hid hbn;have HM9:=Lib.hid (own_off HM8.out hg9 HN5.out);have HO9:=Lib.hid (own_off HO8.out hg9 HN1.out);have HW9:=Lib.hid (HW8.out.trans (hg9.below HW8.out.size (fun k hk=>Nat.le_trans hww (HS2.out k hk))));clear hlG hnG hG hbn hD9 hg9)
  |(refine wpList_store_new w9 #[.int .i64 0,.int .i64 0,.int .i64 0,.int .i64 0,.int .i64 0,.int .i64 0,.int .i64 0,.int .i64 0,.int .i64 0,.int .i64 0,.int .i64 0,.slice none 0 0,.slice none 0 0,.int .i64 0,.int .i64 0,.int .i64 0,.slice none 0 0,.bool false] rfl 74 (.tmp 14) (.tmp 67) rfl (cs1 G 1) (by simp[go_sem,Act.eval]) (by simp[go_sem,Act.eval]) st_info rfl (by simp[cs1,stc,Sl.v,Value.oneCell']) ?_))
 clear HM7 HO7 HD7 HW7 HM8 HO8 HD8 HW8 HCN HOP;have HT10:=Lib.hid (Blk.new w9 (cs1 G 1) 74);have HG10:=Lib.hid (HG9.out.alloc (.cells (cs1 G 1) 74));have HD10:=Lib.hid (HD9.out.ext (ext_alloc w9 (.cells (cs1 G 1) 74)));have HM10:=Lib.hid (World.ownsRow.alloc HM9.out (.cells (cs1 G 1) 74));have HO10:=Lib.hid (World.ownsRow.alloc HO9.out (.cells (cs1 G 1) 74));have HW10:=Lib.hid (HW9.out.trans ((ext_alloc w9 (.cells (cs1 G 1) 74)).mono HW9.out.size));have hww9:w.heap.size<=w9.heap.size:=HW9.out.size;have HNB:=Lib.hid (show ¬ S9 w9.heap.size/\g1<w9.heap.size/\g5<w9.heap.size from⟨by
  obtain⟨gN,gS,u,hd⟩:=HD9.out;exact hd.gt (Nat.le_refl _),(World.ownsRow.lt HO9.out g1 rfl).2,(World.ownsRow.lt HM9.out g5 rfl).2⟩)
 clear HG9 HD9 HM9 HO9 HW9;generalize w9.alloc (.cells (cs1 G 1) 74)=w10 at *
 generalize w9.heap.size=b9 at *
 have hz1:(cs1 G 1).size=18:=rfl;have hrt18:RowTy Tryz.prog 74 18:=⟨st_info,_,Tryz.underlying74⟩
 have r1:=HT10.out.rowAt.1;have r2:=HT10.out.rowAt.2;go_upto_region 12 with (first
  |(go_at_call 29;refine(HAP.out _ bd G HG10.out).mono ?_;rintro e11 w11 ⟨⟨G',c',g,k,rfl,hoE,hoR⟩,hb11⟩;have HW2:=Lib.hid (show W2 w11 G' c' g k from⟨own_lower hoE (Nat.zero_le _),own_lower hoR (Nat.zero_le _)⟩);have HGb:=Lib.hid (And.intro (World.ownsRow.lt hoE G' rfl).1 (World.ownsRow.lt hoR g rfl).1);have HT11:=Lib.hid (HT10.out.ext hb11);have HD11:=Lib.hid (HD10.out.ext hb11);have HM11:=Lib.hid (own_below HM10.out hb11 (Nat.le_refl _));have HO11:=Lib.hid (own_below HO10.out hb11 (Nat.le_refl _));have HW11:=Lib.hid (HW10.out.trans (hb11.mono HW10.out.size));clear hoE hoR hb11)
  |(refine wpList_store_row rfl 74 (.tmp 14) (.tmp 73) rfl b9 (cs2 G' c' g k) (cs1 G 1) (by simp[go_sem,Act.eval]) (by simp[go_sem,Act.eval]) HT11.out st_info rfl (by simp[cs2,Value.oneCell']) ?_))
 have hlt9:b9<w10.heap.size:=HT10.out.lt;have hgs:Gr (fun k=>k=b9) w11 (fun k=>k=b9) (w11.setRow b9 (cs2 G' c' g k)):=Gr.set (S:=fun k=>k=b9) (g:=b9) rfl _;have HT12:=Lib.hid (HT11.out.set (cs2 G' c' g k));have HD12:=Lib.hid (DiskAt.off HD11.out hgs (fun k h e=>HNB.out.1 (e▸h)));have HW12:=Lib.hid (show W2 (w11.setRow b9 (cs2 G' c' g k)) G' c' g k from⟨own_off HW2.out.E hgs (fun e=>by have:=HGb.out.1;omega),own_off HW2.out.R hgs (fun e=>by have:=HGb.out.2;omega)⟩);have HM12:=Lib.hid (own_off HM11.out hgs (fun e=>by have:=HNB.out.2.2;omega));have HO12:=Lib.hid (own_off HO11.out hgs (fun e=>by have:=HNB.out.2.1;omega));have HB12:=Lib.hid (HW11.out.trans (hgs.below (B:=w.heap.size) HW11.out.size (fun k e=>e▸hww9)));have hz2:(cs2 G' c' g k).size=18:=rfl;clear r1 r2 hgs HT10 HG10 HD10 HM10 HO10 HW10 HW2 HGb HT11 HD11 HM11 HO11 HW11 HAP;generalize w11.setRow b9 (cs2 G' c' g k)=w12 at *
 have r1:=HT12.out.rowAt.1;have r2:=HT12.out.rowAt.2;go_upto_region 13 with (go_at_call 30;refine(HTK.out _ S9 bd b bm G' c' g k HBN.out HD12.out HW12.out).mono ?_;rintro e13 w13 ⟨⟨gr,kr,rfl,hor⟩,hb13⟩;have HR13:=Lib.hid (own_lower hor (Nat.zero_le _));have HM13:=Lib.hid (own_below HM12.out hb13 (Nat.le_refl _));have HO13:=Lib.hid (own_below HO12.out hb13 (Nat.le_refl _));have HB13:=Lib.hid (HB12.out.trans (hb13.mono HB12.out.size));clear hor hb13)
 clear r1 r2 HT12 HD12 HW12 HM12 HO12 HB12 HTK;have HN6:=Lib.hid (show nxP [p6] ⟨#[97]⟩=6/\nxP [p6] ⟨#[98]⟩=1 from⟨rfl,rfl⟩);have HNA:=Lib.hid (fun(wx:World) (hr:Rd wx wx.heap.size 2 (some ⟨g1,0,none⟩) 1 (flS [p6]))=>show Calls Tryz.prog 18 #[.slice (some ⟨g1,0,none⟩) 1 c1,.string ⟨#[97]⟩] wx fun e w'=>e=.returned (.int .i64 6)/\Below wx.heap.size wx w' from by
  have:=HNX.out wx g1 c1 ⟨#[97]⟩ hr
  rwa [HN6.out.1] at this)
 have HNC:=Lib.hid (fun(wx:World) (hr:Rd wx wx.heap.size 2 (some ⟨g1,0,none⟩) 1 (flS [p6]))=>show Calls Tryz.prog 18 #[.slice (some ⟨g1,0,none⟩) 1 c1,.string ⟨#[98]⟩] wx fun e w'=>e=.returned (.int .i64 1)/\Below wx.heap.size wx w' from by
  have:=HNX.out wx g1 c1 ⟨#[98]⟩ hr
  rwa [HN6.out.2] at this)
 have tok1:Hid True:=Lib.hid trivial;clear HNX HN6;go_wp2_with (first
  |(go_at_call 13;refine(HDB.out _ g1 c1 (Rd.of_own HO13.out)).mono ?_;rintro e14 w14 ⟨rfl,hb14⟩;have hR14:=own_below HR13.out hb14 (Nat.le_refl _);have hM14:=own_below HM13.out hb14 (Nat.le_refl _);have HO14:=Lib.hid (own_below HO13.out hb14 (Nat.le_refl _));have HB14:=Lib.hid (HB13.out.trans (hb14.mono HB13.out.size));have m0:w14.cell? ⟨g5,0,none⟩=some (.string ⟨#[97]⟩):=hM14.cellAt 0 (by decide);have m1:w14.cell? ⟨g5,1,none⟩=some (.int .i64 6):=hM14.cellAt 1 (by decide);have m2:w14.cell? ⟨gr,2,none⟩=some (.string ⟨#[104,105]⟩):=hR14.cellAt 2 (by decide);clear hb14 hR14 hM14)
  |(go_at_call 18;have _t:=tok1;refine(HNA.out _ (Rd.of_own HO14.out)).mono ?_;rintro e15 w15 ⟨rfl,hb15⟩;clear tok1;have HO15:=Lib.hid (own_below HO14.out hb15 (Nat.le_refl _));have HB15:=Lib.hid (HB14.out.trans (hb15.mono HB14.out.size));clear hb15)
  |(go_at_call 18;refine(HNC.out _ (Rd.of_own HO15.out)).mono ?_;rintro e16 w16 ⟨rfl,hb16⟩;have HO16:=Lib.hid (own_below HO15.out hb16 (Nat.le_refl _));have HB16:=Lib.hid (HB15.out.trans (hb16.mono HB15.out.size));clear hb16)
  |(go_at_call 15;refine(HCH.out _ g1 c1 (Rd.of_own HO16.out)).mono ?_;rintro e17 w17 ⟨rfl,hb17⟩;have HB17:=Lib.hid (HB16.out.trans (hb17.mono HB16.out.size));clear hb17))
 go_ret
 exact⟨rfl,HB17.out⟩
end Fo
end Go.Proofs.YtejcdhdfanfkbaaGreat
namespace Go.Proofs.YtejcdhdfanfkbaaGreat
namespace Fo
open Go.RowKit Rd
open Go.Proofs.YtejcdhdfanfkbaaGreat.Op
theorem fback_any (A:Option Addr) (n c:Nat) (l:List Pl) (s:ByteArray) (w:World) (hrd:Rd w w.heap.size 2 A n (flS l)) (hc:n<=maxLen) :
  Calls Tryz.prog 4 #[.slice A n c,.string s] w fun e w'=>e=.returned (.bool true)/\Below w.heap.size w w':=fback_x (Lib.hid awake42_any) A n c l s w hrd hc
end Fo
end Go.Proofs.YtejcdhdfanfkbaaGreat
namespace Go.Proofs.YtejcdhdfanfkbaaGreat
namespace Op
open Go.RowKit Go.ChangeShapes Go.WideShapes Go.Deep Hd Rd
section
variable {H:Type} {enc:TypeId×Value->H} {P:Program} {w:World} {base:Nat} {spare:Nat->Bool} {held:Bool}
theorem trod_fields {t:TypeId} {fs:Array Field} {L:List (Nat×Nat×TypeId)} {fuel:Nat} {cs:List Value} {x:DataW H×List MemPlace} (ht:P.underlying t=some (.struct fs))
  (hL:fs.toList.map (fun f=>(f.offset,P.cellsOf f.type,f.type))=L) (h:DataW.trod enc P w base spare held fuel t cs=some x) :
  cs.length=P.cellsOf t/\ ∃n,∀(i o s:Nat) (ty:TypeId),L[i]? =some (o,s,ty)-> ∃y,DataW.trod enc P w base spare held n ty ((cs.drop o).take s)=some y:=by
 obtain⟨xs,n,-,-,hl,hlen,hf⟩:=DataW.trod_struct ht h;refine⟨hl,n,fun i o s ty hi=>?_⟩;rw[<-hL,List.getElem?_map] at hi;rcases hg:fs.toList[i]? with _|f
 ·rw[hg] at hi;cases hi
 ·rw[hg] at hi
  simp only[Option.map_some,Option.some.injEq,Prod.mk.injEq] at hi;obtain⟨rfl,rfl,rfl⟩:=hi;have hg':fs[i]? =some f:=by rw[<-hg,Array.getElem?_toList]
  have:=hf i f hg';have hi:i<xs.length:=by rw[hlen];exact(Array.getElem?_eq_some_iff.1 hg').1
  rw[List.getElem?_eq_getElem hi] at this;exact⟨_,this⟩
variable {ti:TypeId} (hi:P.underlying ti=some (.int .i64))
include hi
theorem dec_head {t:TypeId} {fs:Array Field} {fuel:Nat} {cs:List Value} {x:DataW H×List MemPlace} (ht:P.underlying t=some (.struct fs))
  (hL:fs.toList.map (fun f=>(f.offset,P.cellsOf f.type,f.type))=[(0,1,ti),(1,1,ti),(2,1,ti)]) (hc:P.cellsOf t=3) (h:DataW.trod enc P w base spare held fuel t cs=some x) :
  ∃a b c:Int,cs=[.int .i64 a,.int .i64 b,.int .i64 c]:=by
 obtain⟨hl,n,hf⟩:=trod_fields ht hL h;rw[hc] at hl
 match cs,hl with
 | [c0,c1,c2],_ =>
   obtain⟨y0,g0⟩:=hf 0 _ _ _ rfl;obtain⟨y1,g1⟩:=hf 1 _ _ _ rfl;obtain⟨y2,g2⟩:=hf 2 _ _ _ rfl;obtain⟨a,e0,-,-⟩:=DataW.trod_int hi g0;obtain⟨b,e1,-,-⟩:=DataW.trod_int hi g1;obtain⟨c,e2,-,-⟩:=DataW.trod_int hi g2;simp at e0 e1 e2
   subst e0 e1 e2;exact⟨a,b,c,rfl⟩
theorem dec_mi {t:TypeId} {fs:Array Field} {fuel:Nat} {cs:List Value} {x:DataW H×List MemPlace} (ht:P.underlying t=some (.struct fs))
  (hL:fs.toList.map (fun f=>(f.offset,P.cellsOf f.type,f.type))=[(0,1,ti),(1,1,ti),(2,1,ti),(3,1,ti),(4,1,ti),(5,1,ti),(6,1,ti)]) (hc:P.cellsOf t=7) (h:DataW.trod enc P w base spare held fuel t cs=some x) :
  ∃x:Mi,cs=Sh.cl x:=by
 obtain⟨hl,n,hf⟩:=trod_fields ht hL h;rw[hc] at hl
 match cs,hl with
 | [c0,c1,c2,c3,c4,c5,c6],_ =>
   obtain⟨y0,g0⟩:=hf 0 _ _ _ rfl;obtain⟨y1,g1⟩:=hf 1 _ _ _ rfl;obtain⟨y2,g2⟩:=hf 2 _ _ _ rfl;obtain⟨y3,g3⟩:=hf 3 _ _ _ rfl;obtain⟨y4,g4⟩:=hf 4 _ _ _ rfl;obtain⟨y5,g5⟩:=hf 5 _ _ _ rfl;obtain⟨y6,g6⟩:=hf 6 _ _ _ rfl;obtain⟨a,e0,-,-⟩:=DataW.trod_int hi g0;obtain⟨b,e1,-,-⟩:=DataW.trod_int hi g1;obtain⟨c,e2,-,-⟩:=DataW.trod_int hi g2;obtain⟨d,e3,-,-⟩:=DataW.trod_int hi g3;obtain⟨e,e4,-,-⟩:=DataW.trod_int hi g4;obtain⟨f,e5,-,-⟩:=DataW.trod_int hi g5;obtain⟨g,e6,-,-⟩:=DataW.trod_int hi g6;simp at e0 e1 e2 e3 e4 e5 e6
   subst e0 e1 e2 e3 e4 e5 e6;exact⟨⟨a,b,c,d,e,f,g⟩,rfl⟩
theorem dec_rc {t ts:TypeId} (hs:P.underlying ts=some .string) {fs:Array Field} {fuel:Nat} {cs:List Value} {x:DataW H×List MemPlace} (ht:P.underlying t=some (.struct fs))
  (hL:fs.toList.map (fun f=>(f.offset,P.cellsOf f.type,f.type))=[(0,1,ti),(1,1,ti),(2,1,ts)]) (hc:P.cellsOf t=3) (h:DataW.trod enc P w base spare held fuel t cs=some x) :
  ∃x:Rc,cs=Sh.cl x:=by
 obtain⟨hl,n,hf⟩:=trod_fields ht hL h;rw[hc] at hl
 match cs,hl with
 | [c0,c1,c2],_ =>
   obtain⟨y0,g0⟩:=hf 0 _ _ _ rfl;obtain⟨y1,g1⟩:=hf 1 _ _ _ rfl;obtain⟨y2,g2⟩:=hf 2 _ _ _ rfl;obtain⟨a,e0,-,-⟩:=DataW.trod_int hi g0;obtain⟨b,e1,-,-⟩:=DataW.trod_int hi g1;obtain⟨c,e2,-,-⟩:=DataW.trod_string hs g2;simp at e0 e1 e2
   subst e0 e1 e2;exact⟨(a,b,c),rfl⟩
theorem dec_en {t th tb:TypeId} (hb:P.underlying tb=some .bool) {fs gs:Array Field} {fuel:Nat} {cs:List Value} {x:DataW H×List MemPlace} (ht:P.underlying t=some (.struct fs))
  (hL:fs.toList.map (fun f=>(f.offset,P.cellsOf f.type,f.type))=[(0,3,th),(3,1,tb),(4,1,ti),(5,1,ti),(6,1,ti),(7,1,ti),(8,1,ti)]) (hc:P.cellsOf t=9)
  (hth:P.underlying th=some (.struct gs)) (hG:gs.toList.map (fun f=>(f.offset,P.cellsOf f.type,f.type))=[(0,1,ti),(1,1,ti),(2,1,ti)]) (hch:P.cellsOf th=3) (h:DataW.trod enc P w base spare held fuel t cs=some x) :
  ∃x:En,cs=Sh.cl x:=by
 obtain⟨hl,n,hf⟩:=trod_fields ht hL h;rw[hc] at hl
 match cs,hl with
 | [c0,c1,c2,c3,c4,c5,c6,c7,c8],_ =>
   obtain⟨y0,g0⟩:=hf 0 _ _ _ rfl;obtain⟨y1,g1⟩:=hf 1 _ _ _ rfl;obtain⟨y2,g2⟩:=hf 2 _ _ _ rfl;obtain⟨y3,g3⟩:=hf 3 _ _ _ rfl;obtain⟨y4,g4⟩:=hf 4 _ _ _ rfl;obtain⟨y5,g5⟩:=hf 5 _ _ _ rfl;obtain⟨y6,g6⟩:=hf 6 _ _ _ rfl;obtain⟨p,q,r,e0⟩:=dec_head hi hth hG hch g0;obtain⟨b,e1,-⟩:=DataW.trod_bool hb g1;obtain⟨c,e2,-,-⟩:=DataW.trod_int hi g2;obtain⟨d,e3,-,-⟩:=DataW.trod_int hi g3;obtain⟨e,e4,-,-⟩:=DataW.trod_int hi g4;obtain⟨f,e5,-,-⟩:=DataW.trod_int hi g5;obtain⟨g,e6,-,-⟩:=DataW.trod_int hi g6;simp at e0 e1 e2 e3 e4 e5 e6
   obtain⟨rfl,rfl,rfl⟩:=e0;subst e1 e2 e3 e4 e5 e6;exact⟨⟨p,q,r,b,c,d,e,f,g⟩,rfl⟩
end
section
variable {H:Type} {enc:TypeId×Value->H} {P:Program} {w:World}
structure Tys (P:Program) where
 ti:TypeId
 ts:TypeId
 tb:TypeId
 th:TypeId
 te:TypeId
 tm:TypeId
 tr:TypeId
 tc:TypeId
 tf:TypeId
 st:TypeId
 sle:TypeId
 slm:TypeId
 slr:TypeId
 fh:Array Field
 fe:Array Field
 fm:Array Field
 fr:Array Field
 fc:Array Field
 ff:Array Field
 fst:Array Field
 hi:P.underlying ti=some (.int .i64)
 hs:P.underlying ts=some .string
 hb:P.underlying tb=some .bool
 hh:P.underlying th=some (.struct fh)
 he:P.underlying te=some (.struct fe)
 hm:P.underlying tm=some (.struct fm)
 hr:P.underlying tr=some (.struct fr)
 hc:P.underlying tc=some (.struct fc)
 hf:P.underlying tf=some (.struct ff)
 hst:P.underlying st=some (.struct fst)
 hle:P.underlying sle=some (.slice te)
 hlm:P.underlying slm=some (.slice tm)
 hlr:P.underlying slr=some (.slice tr)
 Lh:fh.toList.map (fun f=>(f.offset,P.cellsOf f.type,f.type))=[(0,1,ti),(1,1,ti),(2,1,ti)]
 Le:fe.toList.map (fun f=>(f.offset,P.cellsOf f.type,f.type))=[(0,3,th),(3,1,tb),(4,1,ti),(5,1,ti),(6,1,ti),(7,1,ti),(8,1,ti)]
 Lm:fm.toList.map (fun f=>(f.offset,P.cellsOf f.type,f.type))=[(0,1,ti),(1,1,ti),(2,1,ti),(3,1,ti),(4,1,ti),(5,1,ti),(6,1,ti)]
 Lr:fr.toList.map (fun f=>(f.offset,P.cellsOf f.type,f.type))=[(0,1,ti),(1,1,ti),(2,1,ts)]
 Lc:fc.toList.map (fun f=>(f.offset,P.cellsOf f.type,f.type))=[(0,1,ti),(1,1,ti),(2,1,ti),(3,1,ti),(4,1,ti),(5,1,ti),(6,1,ti)]
 Lf:ff.toList.map (fun f=>(f.offset,P.cellsOf f.type,f.type))=[(0,1,ti),(1,1,ti),(2,1,ti),(3,1,ti),(4,1,sle)]
 Lst:fst.toList.map (fun f=>(f.offset,P.cellsOf f.type,f.type))=[(0,7,tc),(7,5,tf),(12,1,slm),(13,1,ti),(14,1,ti),(15,1,ti),(16,1,slr),(17,1,tb)]
 zs:[P.cellsOf th,P.cellsOf te,P.cellsOf tm,P.cellsOf tr,P.cellsOf tc,P.cellsOf tf,P.cellsOf st]=[3,9,7,3,7,5,18]
theorem open_ens (T:Tys P) {v:Value} {fuel:Nat} {y:DataW H×List MemPlace} (hf:DataW.trod enc P w 0 (fun _=>true) true fuel T.sle [v]=some y) :
  ∃(s:Sl) (l:List En),v=s.v/\Rd w w.heap.size 9 s.A s.n (flS l)/\s.n<=s.c/\s.c<=maxLen/\(s.A=none->s.c=0):=by
 have hz:=T.zs;simp only[List.cons.injEq] at hz;obtain⟨A,n,c,l,rfl,h1,h2,h3,-,h5⟩:=open_sl (α:=En) T.hle hz.2.1 (fun cs' fuel y h=>dec_en T.hi T.hb T.he T.Le hz.2.1 T.hh T.Lh hz.1 h) hf;exact⟨⟨A,n,c⟩,l,rfl,h1,h2,h3,h5⟩
theorem open_state (T:Tys P) {b0:Nat} {r:Reach} {v:Value} {d:DataW H} {p:List MemPlace} (hv:Value.okWide P w r b0 T.st v) (h:DataW.Trod enc P w 0 (fun _=>true) true T.st v d p) :
  ∃(s:St) (x y z:Sl),v=.agg (stc s x y z)/\Str w w.heap.size s x y z:=by
 have hz:=T.zs;simp only[List.cons.injEq] at hz;obtain⟨z1,z2,z3,z4,z5,z6,z7,-⟩:=hz;obtain⟨cs,rfl,hsz⟩:=okWide_struct T.hst hv;obtain⟨fuel,hf⟩:=h;obtain⟨hl,n,hq⟩:=trod_fields T.hst T.Lst hf;rw[z7] at hl hsz;obtain⟨cl⟩:=cs;simp only[Value.cells] at hl hq
 match cl,hl with
 | [c0,c1,c2,c3,c4,c5,c6,c7,c8,c9,c10,c11,c12,c13,c14,c15,c16,c17],_ =>
   obtain⟨y0,g0⟩:=hq 0 _ _ _ rfl;obtain⟨y1,g1⟩:=hq 1 _ _ _ rfl;obtain⟨y2,g2⟩:=hq 2 _ _ _ rfl;obtain⟨y3,g3⟩:=hq 3 _ _ _ rfl;obtain⟨y4,g4⟩:=hq 4 _ _ _ rfl;obtain⟨y5,g5⟩:=hq 5 _ _ _ rfl;obtain⟨y6,g6⟩:=hq 6 _ _ _ rfl;obtain⟨y7,g7⟩:=hq 7 _ _ _ rfl;obtain⟨m,e0⟩:=dec_mi T.hi T.hc T.Lc z5 g0;obtain⟨hl1,n1,k1⟩:=trod_fields T.hf T.Lf g1;obtain⟨u0,f0⟩:=k1 0 _ _ _ rfl;obtain⟨u1,f1⟩:=k1 1 _ _ _ rfl;obtain⟨u2,f2⟩:=k1 2 _ _ _ rfl;obtain⟨u3,f3⟩:=k1 3 _ _ _ rfl;obtain⟨u4,f4⟩:=k1 4 _ _ _ rfl;obtain⟨q0,r0,-,-⟩:=DataW.trod_int T.hi f0;obtain⟨q1,r1,-,-⟩:=DataW.trod_int T.hi f1;obtain⟨q2,r2,-,-⟩:=DataW.trod_int T.hi f2;obtain⟨q3,r3,-,-⟩:=DataW.trod_int T.hi f3;obtain⟨x,es,r4,a1,a2,a3,a4⟩:=open_ens T (v:=c11) f4;obtain⟨A,n2,c,bs,r5,b1,b2,b3,-,b4⟩:=open_sl (α:=Mi) T.hlm z3 (fun cs' fuel y h=>dec_mi T.hi T.hm T.Lm z3 h) (v:=c12) g2;obtain⟨A',n3,c',ws,r6,d1,d2,d3,-,d4⟩:=open_sl (α:=Rc) T.hlr z4 (fun cs' fuel y h=>dec_rc T.hi T.hs T.hr T.Lr z4 h) (v:=c16) g6;obtain⟨q4,r7,-,-⟩:=DataW.trod_int T.hi g3;obtain⟨q5,r8,-,-⟩:=DataW.trod_int T.hi g4;obtain⟨q6,r9,-,-⟩:=DataW.trod_int T.hi g5;obtain⟨q7,r10,-⟩:=DataW.trod_bool T.hb g7;simp[Sh.cl,cl7i] at e0 r0 r1 r2 r3 r7 r8 r9 r10
   obtain⟨rfl,rfl,rfl,rfl,rfl,rfl,rfl⟩:=e0;subst r0 r1 r2 r3 r4 r5 r6 r7 r8 r9 r10;exact⟨⟨⟨m.a,m.s,m.r,m.c,m.f,m.e,m.l⟩,⟨q0,q1,q2,q3,es⟩,bs,q4,q5,q6,ws,q7⟩,x,⟨A,n2,c⟩,⟨A',n3,c'⟩,rfl,⟨a1,b1,d1,⟨a2,b2,d2⟩,⟨a3,b3,d3⟩,⟨a4,b4,d4⟩⟩⟩
end
end Op
end Go.Proofs.YtejcdhdfanfkbaaGreat
