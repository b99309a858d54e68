/- The law of FollowFalls: whatever places, whatever is left; the probe as a hypothesis. FollowFalls's law with its probe. Arms (an op that is armed, and a choice) as an argument. Over any program. -/
import Derived.Test.YtejcdhdfanfkbaaGreatFf02
import Derived.Test.YtejcdhdfanfkbaaGreatFb50
namespace Go.Proofs.YtejcdhdfanfkbaaGreat
namespace Fo
open Go.RowKit Hd Rd Fm Sn Dk
open Go.Proofs.YtejcdhdfanfkbaaGreat.Op
def armC (m dir:Int) (A:Option Addr) (n c:Nat) (A2:Option Addr) (n2 c2:Nat):Array Value:=#[.int .i64 m,.int .i64 dir,.slice A n c,.slice A2 n2 c2]
set_option maxHeartbeats 12800000 in
set_option maxRecDepth 100000 in
theorem ffalls_x (HAW:Hid (∀w,Calls Tryz.prog 7 #[] w fun e w'=>e=.returned (.bool true)/\Below w.heap.size w w'))
  (A:Option Addr) (n c:Nat) (la:List Pl) (B:Option Addr) (nb cb:Nat) (lb:List Pl) (m dir:Int) (A1:Option Addr) (n1 c1:Nat) (cuts:List Int) (A2:Option Addr) (n2 c2:Nat) (marks:List ByteArray) (w:World)
  (hra:Rd w w.heap.size 2 A n (flS la)) (hna:n<=maxLen) (hrb:Rd w w.heap.size 2 B nb (flS lb)) (hnb:nb<=maxLen) (hm63:m<=9223372036854775807) (hcut:Rd w w.heap.size 1 A1 n1 (cuts.map (Value.int .i64))) (hn1:n1<=maxLen) (hmk:Rd w w.heap.size 1 A2 n2 (marks.map Value.string)) (hn2:n2<=maxLen) :
  Calls Tryz.prog 5 #[.slice A n c,.slice B nb cb,.agg #[.int .i64 m,.int .i64 dir,.slice A1 n1 c1,.slice A2 n2 c2]] w fun e w'=>e=.returned (.bool true)/\Below w.heap.size w w':=by
 have mixed:Tryz.prog.follows .mixedOrders=true:=by kernel_rfl
 have hlna:=rdS_len hra;have hlnb:=rdS_len hrb;have hlnm:marks.length=n2:=by simpa using hmk.len
 have HFA:=Lib.hid (fun wx (hb:Below w.heap.size w wx)=>few_any A n c la wx ((hra.below hb).more hb.size) hna);have HFB:=Lib.hid (fun wx (hb:Below w.heap.size w wx)=>few_any B nb cb lb wx ((hrb.below hb).more hb.size) hnb);have HFW:=Lib.hid (fun(wx:World) (g cc:Nat) (hb:Below w.heap.size w wx) (k2:wx.cell? ⟨g,2,none⟩=some (.string ⟨#[]⟩)) (k3:wx.cell? ⟨g,3,none⟩=some (.string ⟨#[]⟩)) (k6:wx.cell? ⟨g,6,none⟩=some (.slice A2 n2 c2))=>few20_one g ⟨#[]⟩ ⟨#[]⟩ A2 n2 c2 cc marks wx k2 k3 k6 ((hmk.below hb).more hb.size) hn2);have HBX:=Lib.hid (Blk.new w (armC m dir A1 n1 c1 A2 n2 c2) 52);have HB:=Lib.hid (ext_alloc w (.cells (armC m dir A1 n1 c1 A2 n2 c2) 52));have HLT:=Lib.hid (show w.heap.size<(w.alloc (.cells (armC m dir A1 n1 c1 A2 n2 c2) 52)).heap.size from by simp);unfold armC at HBX HB HLT;rcases hfa:fewP la with _|_
 ·rw[hfa] at HFA
  clear hra hna hrb hnb hcut hn1 hmk hn2 hlna hlnb hlnm hfa HFB HFW
  go_enter Tryz.func5, Tryz.ntmps5
  go_wp2_with (first
   |(go_at_call 7;refine(HAW.out _).mono ?_;rintro ez wz ⟨rfl,hbz⟩;have HBZ:=Lib.hid (HB1.out.trans (hbz.mono HB1.out.size));clear hbz)
   |(go_at_call 6;refine(HFA.out _ HB.out).mono ?_;rintro e1 w1 ⟨rfl,hb1⟩;have HB1:=Lib.hid (HB.out.trans (hb1.mono HB.out.size));have HX1:=Lib.hid (HBX.out.below hb1 HLT.out);clear hb1))
  go_ret
  exact⟨rfl,HBZ.out⟩
 rw[hfa] at HFA;rcases hfb:fewP lb with _|_
 ·rw[hfb] at HFB
  clear hra hna hrb hnb hcut hn1 hmk hn2 hlna hlnb hlnm hfa hfb HFW
  go_enter Tryz.func5, Tryz.ntmps5
  go_wp2_with (first
   |(go_at_call 7;refine(HAW.out _).mono ?_;rintro ez wz ⟨rfl,hbz⟩;have HBZ:=Lib.hid (HB2.out.trans (hbz.mono HB2.out.size));clear hbz)
   |(go_at_call 6;refine(HFB.out _ HB1.out).mono ?_;rintro e2 w2 ⟨rfl,hb2⟩;have HB2:=Lib.hid (HB1.out.trans (hb2.mono HB1.out.size));have HX2:=Lib.hid (HX1.out.ext hb2);have k0:=HX2.out.cell 0 (v:=.int .i64 m) rfl;have k1:=HX2.out.cell 1 (v:=.int .i64 dir) rfl;have k2:=HX2.out.cell 2 (v:=.slice A1 n1 c1) rfl;have k3:=HX2.out.cell 3 (v:=.slice A2 n2 c2) rfl;clear hb2)
   |(go_at_call 6;refine(HFA.out _ HB.out).mono ?_;rintro e1 w1 ⟨rfl,hb1⟩;have HB1:=Lib.hid (HB.out.trans (hb1.mono HB.out.size));have HX1:=Lib.hid (HBX.out.below hb1 HLT.out);clear hb1))
  go_ret
  exact⟨rfl,HBZ.out⟩
 rw[hfb] at HFB;by_cases hm1:m<1
 ·clear hra hna hrb hnb hcut hn1 hmk hn2 hlna hlnb hlnm hfa hfb HFW
  go_enter Tryz.func5, Tryz.ntmps5
  go_wp2_with (first
   |(go_at_call 7;refine(HAW.out _).mono ?_;rintro ez wz ⟨rfl,hbz⟩;have HBZ:=Lib.hid (HB2.out.trans (hbz.mono HB2.out.size));clear hbz)
   |(go_at_call 6;refine(HFB.out _ HB1.out).mono ?_;rintro e2 w2 ⟨rfl,hb2⟩;have HB2:=Lib.hid (HB1.out.trans (hb2.mono HB1.out.size));have HX2:=Lib.hid (HX1.out.ext hb2);have k0:=HX2.out.cell 0 (v:=.int .i64 m) rfl;have k1:=HX2.out.cell 1 (v:=.int .i64 dir) rfl;have k2:=HX2.out.cell 2 (v:=.slice A1 n1 c1) rfl;have k3:=HX2.out.cell 3 (v:=.slice A2 n2 c2) rfl;clear hb2)
   |(go_at_call 6;refine(HFA.out _ HB.out).mono ?_;rintro e1 w1 ⟨rfl,hb1⟩;have HB1:=Lib.hid (HB.out.trans (hb1.mono HB.out.size));have HX1:=Lib.hid (HBX.out.below hb1 HLT.out);clear hb1))
  go_ret
  exact⟨rfl,HBZ.out⟩
 rcases hfm:few1 ⟨#[]⟩ ⟨#[]⟩ marks with _|_
 ·rw[hfm] at HFW
  clear hra hna hrb hnb hcut hn1 hmk hn2 hlna hlnb hlnm hfa hfb hfm
  go_enter Tryz.func5, Tryz.ntmps5
  go_wp2_with (first
   |(go_at_call 7;refine(HAW.out _).mono ?_;rintro ez wz ⟨rfl,hbz⟩;have HBZ:=Lib.hid (HB3.out.trans (hbz.mono HB3.out.size));clear hbz)
   |(go_at_call 20;refine(HFW.out _ _ _ (HB2.out.trans ((ext_alloc w2 _).mono HB2.out.size)) (by simp) (by simp) (by simp)).mono ?_;rintro e3 w3 ⟨rfl,hw3⟩;have HX3:=Lib.hid (show Blk w3 w.heap.size _ _ from hw3▸HX2.out.alloc _);have HB3:=Lib.hid (show Below w.heap.size w w3 from hw3▸HB2.out.trans ((ext_alloc w2 _).mono HB2.out.size));clear hw3 k0 k1 k2 k3)
   |(go_at_call 6;refine(HFB.out _ HB1.out).mono ?_;rintro e2 w2 ⟨rfl,hb2⟩;have HB2:=Lib.hid (HB1.out.trans (hb2.mono HB1.out.size));have HX2:=Lib.hid (HX1.out.ext hb2);have k0:=HX2.out.cell 0 (v:=.int .i64 m) rfl;have k1:=HX2.out.cell 1 (v:=.int .i64 dir) rfl;have k2:=HX2.out.cell 2 (v:=.slice A1 n1 c1) rfl;have k3:=HX2.out.cell 3 (v:=.slice A2 n2 c2) rfl;clear hb2)
   |(go_at_call 6;refine(HFA.out _ HB.out).mono ?_;rintro e1 w1 ⟨rfl,hb1⟩;have HB1:=Lib.hid (HB.out.trans (hb1.mono HB.out.size));have HX1:=Lib.hid (HBX.out.below hb1 HLT.out);clear hb1))
  go_ret
  exact⟨rfl,HBZ.out⟩
 rw[hfm] at HFW;have hm2:=few1_of hfm;have hn60:n<=60:=by
  unfold fewP at hfa;rw[Bool.and_eq_true] at hfa;have:=of_decide_eq_true hfa.1;omega
 have hb60:nb<=60:=by
  unfold fewP at hfb;rw[Bool.and_eq_true] at hfb;have:=of_decide_eq_true hfb.1;omega
 have hla60:la.length<=1000000:=by omega
 have hlb60:lb.length<=1000000:=by omega
 have HOA:=Lib.hid (fun(wx:World) (hx:Below w.heap.size w wx)=>own_any A n c la wx ((hra.below hx).more hx.size) hn60);have HOB:=Lib.hid (fun(wx:World) (hx:Below w.heap.size w wx)=>own_any B nb cb lb wx ((hrb.below hx).more hx.size) hb60);have HCA:=Lib.hid (fun(A1:Option Addr) (c1:Nat) (wx:World) (hr:Rd wx wx.heap.size 2 A1 la.length (flS la))=>fcheck_any A1 la.length c1 la wx hr hla60);have HCB:=Lib.hid (fun(A1:Option Addr) (c1:Nat) (wx:World) (hr:Rd wx wx.heap.size 2 A1 lb.length (flS lb))=>fcheck_any A1 lb.length c1 lb wx hr hlb60);rcases chk_cases la with hka|hka
 rotate_left
 ·rw[hka] at HCA
  clear hra hna hrb hnb hcut hn1 hmk hn2 hlna hlnb hlnm hfa hfb hfm hm2 hka HOB HCB
  go_enter Tryz.func5, Tryz.ntmps5
  go_wp2_with (first
   |(go_at_call 7;refine(HAW.out _).mono ?_;rintro ez wz ⟨rfl,hbz⟩;have HBZ:=Lib.hid (HB5.out.trans (hbz.mono HB5.out.size));clear hbz)
   |(go_at_call 15;refine(HCA.out A4 c4 _ HR4.out).mono ?_;rintro e5 w5 ⟨rfl,hb5⟩;have HX5:=Lib.hid (HX4.out.ext hb5);have HB5:=Lib.hid (HB4.out.trans (hb5.mono HB4.out.size));clear hb5)
   |(go_at_call 9;refine(HOA.out _ HB3.out).mono ?_;rintro e4 w4 ⟨⟨A4,c4,rfl,ho4⟩,hb4⟩;have HR4:=Lib.hid (Rd.of_own ho4);have HX4:=Lib.hid (HX3.out.ext hb4);have HB4:=Lib.hid (HB3.out.trans (hb4.mono HB3.out.size));clear ho4 hb4)
   |(go_at_call 20;refine(HFW.out _ _ _ (HB2.out.trans ((ext_alloc w2 _).mono HB2.out.size)) (by simp) (by simp) (by simp)).mono ?_;rintro e3 w3 ⟨rfl,hw3⟩;have HX3:=Lib.hid (show Blk w3 w.heap.size _ _ from hw3▸HX2.out.alloc _);have HB3:=Lib.hid (show Below w.heap.size w w3 from hw3▸HB2.out.trans ((ext_alloc w2 _).mono HB2.out.size));clear hw3 k0 k1 k2 k3)
   |(go_at_call 6;refine(HFB.out _ HB1.out).mono ?_;rintro e2 w2 ⟨rfl,hb2⟩;have HB2:=Lib.hid (HB1.out.trans (hb2.mono HB1.out.size));have HX2:=Lib.hid (HX1.out.ext hb2);have k0:=HX2.out.cell 0 (v:=.int .i64 m) rfl;have k1:=HX2.out.cell 1 (v:=.int .i64 dir) rfl;have k2:=HX2.out.cell 2 (v:=.slice A1 n1 c1) rfl;have k3:=HX2.out.cell 3 (v:=.slice A2 n2 c2) rfl;clear hb2)
   |(go_at_call 6;refine(HFA.out _ HB.out).mono ?_;rintro e1 w1 ⟨rfl,hb1⟩;have HB1:=Lib.hid (HB.out.trans (hb1.mono HB.out.size));have HX1:=Lib.hid (HBX.out.below hb1 HLT.out);clear hb1))
  go_ret
  exact⟨rfl,HBZ.out⟩
 rw[hka] at HCA;rcases chk_cases lb with hkb|hkb
 rotate_left
 ·rw[hkb] at HCB
  clear hra hna hrb hnb hcut hn1 hmk hn2 hlna hlnb hlnm hfa hfb hfm hm2 hka hkb
  go_enter Tryz.func5, Tryz.ntmps5
  go_wp2_with (first
   |(go_at_call 7;refine(HAW.out _).mono ?_;rintro ez wz ⟨rfl,hbz⟩;have HBZ:=Lib.hid (HB7.out.trans (hbz.mono HB7.out.size));clear hbz)
   |(go_at_call 15;refine(HCB.out A6 c6 _ HR6.out).mono ?_;rintro e7 w7 ⟨rfl,hb7⟩;have HX7:=Lib.hid (HX6.out.ext hb7);have HB7:=Lib.hid (HB6.out.trans (hb7.mono HB6.out.size));clear hb7)
   |(go_at_call 9;refine(HOB.out _ HB5.out).mono ?_;rintro e6 w6 ⟨⟨A6,c6,rfl,ho6⟩,hb6⟩;have HR6:=Lib.hid (Rd.of_own ho6);have HX6:=Lib.hid (HX5.out.ext hb6);have HB6:=Lib.hid (HB5.out.trans (hb6.mono HB5.out.size));clear ho6 hb6)
   |(go_at_call 15;refine(HCA.out A4 c4 _ HR4.out).mono ?_;rintro e5 w5 ⟨rfl,hb5⟩;have HX5:=Lib.hid (HX4.out.ext hb5);have HB5:=Lib.hid (HB4.out.trans (hb5.mono HB4.out.size));clear hb5)
   |(go_at_call 9;refine(HOA.out _ HB3.out).mono ?_;rintro e4 w4 ⟨⟨A4,c4,rfl,ho4⟩,hb4⟩;have HR4:=Lib.hid (Rd.of_own ho4);have HX4:=Lib.hid (HX3.out.ext hb4);have HB4:=Lib.hid (HB3.out.trans (hb4.mono HB3.out.size));clear ho4 hb4)
   |(go_at_call 20;refine(HFW.out _ _ _ (HB2.out.trans ((ext_alloc w2 _).mono HB2.out.size)) (by simp) (by simp) (by simp)).mono ?_;rintro e3 w3 ⟨rfl,hw3⟩;have HX3:=Lib.hid (show Blk w3 w.heap.size _ _ from hw3▸HX2.out.alloc _);have HB3:=Lib.hid (show Below w.heap.size w w3 from hw3▸HB2.out.trans ((ext_alloc w2 _).mono HB2.out.size));clear hw3 k0 k1 k2 k3)
   |(go_at_call 6;refine(HFB.out _ HB1.out).mono ?_;rintro e2 w2 ⟨rfl,hb2⟩;have HB2:=Lib.hid (HB1.out.trans (hb2.mono HB1.out.size));have HX2:=Lib.hid (HX1.out.ext hb2);have k0:=HX2.out.cell 0 (v:=.int .i64 m) rfl;have k1:=HX2.out.cell 1 (v:=.int .i64 dir) rfl;have k2:=HX2.out.cell 2 (v:=.slice A1 n1 c1) rfl;have k3:=HX2.out.cell 3 (v:=.slice A2 n2 c2) rfl;clear hb2)
   |(go_at_call 6;refine(HFA.out _ HB.out).mono ?_;rintro e1 w1 ⟨rfl,hb1⟩;have HB1:=Lib.hid (HB.out.trans (hb1.mono HB.out.size));have HX1:=Lib.hid (HBX.out.below hb1 HLT.out);clear hb1))
  go_ret
  exact⟨rfl,HBZ.out⟩
 rw[hkb] at HCB;have HNW:=Lib.hid (fun(w7:World) (hx:Blk w7 w.heap.size (armC m dir A1 n1 c1 A2 n2 c2) 52) (hb:Below w.heap.size w w7)=>show Calls Tryz.prog 21 #[.int .i64 1000000] w7 fun e w'=>∃bd,e=.returned (.tuple #[.pointer (some ⟨bd,0,none⟩),.int .i64 0])/\ ∃S',St w w.heap.size (armC m dir A1 n1 c1 A2 n2 c2) bd w' S' (newD 1000000) from(new_ok 1000000 w7 (by omega) (by omega)).mono (by
  rintro e w' ⟨bd,rfl,S',hd,hg⟩;exact⟨bd,rfl,S',hd,hg.blk hx (fun h=>h),hg.out hx.lt (fun h=>h),hg.ge hb.size (fun k h=>h.elim),hb.trans (hg.below hb.size (fun k h=>h.elim))⟩))
 have HS1:=Lib.hid (fun(wx:World) (S:Nat->Prop) (bd:Nat) (A9:Option Addr) (c9:Nat) (hs:St w w.heap.size (armC m dir A1 n1 c1 A2 n2 c2) bd wx S (newD 1000000)) (hr:Rd wx wx.heap.size 2 A9 la.length (flS la))=>show Calls Tryz.prog 22 #[.pointer (some ⟨bd,0,none⟩),.slice A9 la.length c9] wx fun e w'=>e=.returned (.int .i64 0)/\ ∃b S',St w w.heap.size (armC m dir A1 n1 c1 A2 n2 c2) bd w' S' (fsaveD (fT la) b (newD 1000000)) from(save1 hs.dk hr hla60 hka).mono (by
  rintro e w' ⟨rfl,b,S',hd,hg⟩;exact⟨rfl,b,S',hs.gr hd hg⟩))
 have HAR:=Lib.hid (fun(wx:World) (S:Nat->Prop) (bd b:Nat) (hs:St w w.heap.size (armC m dir A1 n1 c1 A2 n2 c2) bd wx S (fsaveD (fT la) b (newD 1000000)))=>show Calls Tryz.prog 23 #[.pointer (some ⟨bd,0,none⟩),.int .i64 m] wx fun e w'=>e=.returned (.int .i64 0)/\St w w.heap.size (armC m dir A1 n1 c1 A2 n2 c2) bd w' S (armD m (fsaveD (fT la) b (newD 1000000))) from(arm_any hs.dk rfl m (by omega) hm63).mono (by
  rintro e w' ⟨rfl,hd,hg⟩;exact⟨rfl,hs.gr hd hg⟩))
 have HS2:=Lib.hid (fun(wx:World) (S:Nat->Prop) (bd b:Nat) (A9:Option Addr) (c9:Nat) (hs:St w w.heap.size (armC m dir A1 n1 c1 A2 n2 c2) bd wx S (armD m (fsaveD (fT la) b (newD 1000000)))) (hr:Rd wx wx.heap.size 2 A9 lb.length (flS lb))=>show Calls Tryz.prog 22 #[.pointer (some ⟨bd,0,none⟩),.slice A9 lb.length c9] wx fun e w'=>∃(x:Int) (l:List Pl) (D':DS) (S':Nat->Prop),e=.returned (.int .i64 x)/\((x=0/\l=lb)∨(x=200/\(l=la∨l=lb)))/\Left dir (fT l) (offD D')/\D'.chg.length<=1000000/\St w w.heap.size (armC m dir A1 n1 c1 A2 n2 c2) bd w' S' D' from(save2 hs.dk (new_save 1000000 (fT la) b) rfl (by omega) hka hr hlb60 hkb dir).mono (by
  rintro e w' ⟨x,l,D',S',rfl,h1,h2,h3,hd,hg⟩;exact⟨x,l,D',S',rfl,h1,h2,h3,hs.gr hd hg⟩))
 have HOF:=Lib.hid (fun(wx:World) (S:Nat->Prop) (bd:Nat) (D:DS) (hs:St w w.heap.size (armC m dir A1 n1 c1 A2 n2 c2) bd wx S D)=>show Calls Tryz.prog 24 #[.pointer (some ⟨bd,0,none⟩)] wx fun e w'=>e=.returned (.int .i64 0)/\St w w.heap.size (armC m dir A1 n1 c1 A2 n2 c2) bd w' S (offD D) from(off_any hs.dk).mono (by
  rintro e w' ⟨rfl,hd,hg⟩;exact⟨rfl,hs.gr hd hg⟩))
 have HBT:=Lib.hid (fun(wx:World) (S:Nat->Prop) (bd:Nat) (D:DS) (l:List Pl) (hs:St w w.heap.size (armC m dir A1 n1 c1 A2 n2 c2) bd wx S (offD D)) (hL:Left dir (fT l) (offD D)) (hc:D.chg.length<=1000000)=>show Calls Tryz.prog 25 #[.pointer (some ⟨bd,0,none⟩),.agg #[.int .i64 dir,.slice A1 n1 c1,.slice A2 n2 c2]] wx fun e w'=>e=.returned (.int .i64 0)/\ ∃D2 S',readP D2 keptN=(fT l,0)/\St w w.heap.size (armC m dir A1 n1 c1 A2 n2 c2) bd w' S' D2 from(boot2 hs.dk hL hc ((hcut.below hs.bel).more hs.bel.size) hn1 ((hmk.below hs.bel).more hs.bel.size) (by omega) (fun x hx=>by have:=hm2.2 x hx;omega)).mono (by
  rintro e w' ⟨rfl,D2,S',hr,hd,hg⟩;exact⟨rfl,D2,S',hr,hs.gr hd hg⟩))
 have HLD:=Lib.hid (fun(wx:World) (S:Nat->Prop) (bd:Nat) (D:DS) (l:List Pl) (hs:St w w.heap.size (armC m dir A1 n1 c1 A2 n2 c2) bd wx S D) (hk:chkP l=0) (hr:readP D keptN=(fT l,0))=>show Calls Tryz.prog 26 #[.pointer (some ⟨bd,0,none⟩)] wx fun e w'=>(∃A c,e=.returned (.tuple #[.slice A l.length c,.int .i64 0])/\Rd w' w'.heap.size 2 A l.length (flS l))/\Below w.heap.size w w' from(fload_some hs.dk hk hr).mono (by
  rintro e w' ⟨⟨A,c,rfl,ho⟩,hb⟩;exact⟨⟨A,c,rfl,Rd.of_own ho⟩,hs.bel.trans (hb.mono hs.bel.size)⟩))
 have HSA:=Lib.hid (fun(A9:Option Addr) (c9:Nat) (l:List Pl) (hl:l.length<=1000000) (wx:World) (hr:Rd wx wx.heap.size 2 A9 l.length (flS l)) (hb:Below w.heap.size w wx)=>same_any A9 A l.length n c9 c l la wx hr ((hra.below hb).more hb.size) hl (by omega));have HSB:=Lib.hid (fun(A9:Option Addr) (c9:Nat) (l:List Pl) (hl:l.length<=1000000) (wx:World) (hr:Rd wx wx.heap.size 2 A9 l.length (flS l)) (hb:Below w.heap.size w wx)=>same_any A9 B l.length nb c9 cb l lb wx hr ((hrb.below hb).more hb.size) hl (by omega));have HKA:=Lib.hid hka;have HKB:=Lib.hid hkb;clear hra hna hrb hnb hcut hn1 hmk hn2 hlna hlnb hlnm hfa hfb hfm hm2 hka hkb hn60 hb60
 go_enter Tryz.func5, Tryz.ntmps5
 go_upto_region 3 with (first
  |(go_at_call 15;refine(HCB.out A6 c6 _ HR6.out).mono ?_;rintro e7 w7 ⟨rfl,hb7⟩;have HX7:=Lib.hid (HX6.out.ext hb7);have HB7:=Lib.hid (HB6.out.trans (hb7.mono HB6.out.size));clear hb7)
  |(go_at_call 9;refine(HOB.out _ HB5.out).mono ?_;rintro e6 w6 ⟨⟨A6,c6,rfl,ho6⟩,hb6⟩;have HR6:=Lib.hid (Rd.of_own ho6);have HX6:=Lib.hid (HX5.out.ext hb6);have HB6:=Lib.hid (HB5.out.trans (hb6.mono HB5.out.size));clear ho6 hb6)
  |(go_at_call 15;refine(HCA.out A4 c4 _ HR4.out).mono ?_;rintro e5 w5 ⟨rfl,hb5⟩;have HX5:=Lib.hid (HX4.out.ext hb5);have HB5:=Lib.hid (HB4.out.trans (hb5.mono HB4.out.size));clear hb5)
  |(go_at_call 9;refine(HOA.out _ HB3.out).mono ?_;rintro e4 w4 ⟨⟨A4,c4,rfl,ho4⟩,hb4⟩;have HR4:=Lib.hid (Rd.of_own ho4);have HX4:=Lib.hid (HX3.out.ext hb4);have HB4:=Lib.hid (HB3.out.trans (hb4.mono HB3.out.size));clear ho4 hb4)
  |(go_at_call 20;refine(HFW.out _ _ _ (HB2.out.trans ((ext_alloc w2 _).mono HB2.out.size)) (by simp) (by simp) (by simp)).mono ?_;rintro e3 w3 ⟨rfl,hw3⟩;have HX3:=Lib.hid (show Blk w3 w.heap.size _ _ from hw3▸HX2.out.alloc _);have HB3:=Lib.hid (show Below w.heap.size w w3 from hw3▸HB2.out.trans ((ext_alloc w2 _).mono HB2.out.size));clear hw3 k0 k1 k2 k3)
  |(go_at_call 6;refine(HFB.out _ HB1.out).mono ?_;rintro e2 w2 ⟨rfl,hb2⟩;have HB2:=Lib.hid (HB1.out.trans (hb2.mono HB1.out.size));have HX2:=Lib.hid (HX1.out.ext hb2);have k0:=HX2.out.cell 0 (v:=.int .i64 m) rfl;have k1:=HX2.out.cell 1 (v:=.int .i64 dir) rfl;have k2:=HX2.out.cell 2 (v:=.slice A1 n1 c1) rfl;have k3:=HX2.out.cell 3 (v:=.slice A2 n2 c2) rfl;clear hb2)
  |(go_at_call 6;refine(HFA.out _ HB.out).mono ?_;rintro e1 w1 ⟨rfl,hb1⟩;have HB1:=Lib.hid (HB.out.trans (hb1.mono HB.out.size));have HX1:=Lib.hid (HBX.out.below hb1 HLT.out);clear hb1))
 clear HBX HB HLT HB1 HX1 HB2 HX2 HB3 HX3 HR4 HX4 HB4 HX5 HB5 HR6 HX6 HB6 HFA HFB HFW HCA HCB;go_upto_region 4 with (go_at_call 21;refine(HNW.out _ HX7.out HB7.out).mono ?_;rintro e8 w8 ⟨bd,rfl,S8,hs8⟩;have HS8:=Lib.hid hs8;clear hs8)
 clear HNW HX7 HB7;go_upto_region 6 with (first
  |(go_at_call 23;refine(HAR.out _ _ _ _ HS10.out).mono ?_;rintro e11 w11 ⟨rfl,hs11⟩;have HS11:=Lib.hid hs11;clear hs11 k0)
  |(go_at_call 22;refine(HS1.out _ _ _ A9 c9 HS9.out HR9.out).mono ?_;rintro e10 w10 ⟨rfl,b,S10,hs10⟩;have HS10:=Lib.hid hs10;have k0:=HS10.out.box.cell 0 (v:=.int .i64 m) rfl;clear hs10)
  |(go_at_call 9;refine(HOA.out _ HS8.out.bel).mono ?_;rintro e9 w9 ⟨⟨A9,c9,rfl,ho9⟩,hb9⟩;have HR9:=Lib.hid (Rd.of_own ho9);have HS9:=Lib.hid (HS8.out.below hb9);clear ho9 hb9))
 clear HS8 HS9 HS10 HR9 HOA HS1 HAR;go_upto_region 7 with (first
  |(go_at_call 22;refine(HS2.out _ _ _ _ A12 c12 HS12.out HR12.out).mono ?_;rintro e13 w13 ⟨x,l,D13,S13,rfl,hx,hL,hc,hs13⟩;have HX:=Lib.hid hx;have HL:=Lib.hid (And.intro hL hc);have HS13:=Lib.hid hs13;clear hx hL hc hs13)
  |(go_at_call 9;refine(HOB.out _ HS11.out.bel).mono ?_;rintro e12 w12 ⟨⟨A12,c12,rfl,ho12⟩,hb12⟩;have HR12:=Lib.hid (Rd.of_own ho12);have HS12:=Lib.hid (HS11.out.below hb12);clear ho12 hb12))
 clear HS11 HS12 HR12 HOB HS2;go_upto_region 8 with (go_at_call 24;refine(HOF.out _ _ _ _ HS13.out).mono ?_;rintro e14 w14 ⟨rfl,hs14⟩;have HS14:=Lib.hid hs14;have k1:=HS14.out.box.cell 1 (v:=.int .i64 dir) rfl;have k2:=HS14.out.box.cell 2 (v:=.slice A1 n1 c1) rfl;have k3:=HS14.out.box.cell 3 (v:=.slice A2 n2 c2) rfl;clear hs14)
 clear HS13 HOF;go_upto_region 10 with (go_at_call 25;refine(HBT.out _ _ _ _ l HS14.out HL.out.1 HL.out.2).mono ?_;rintro e15 w15 ⟨rfl,D15,S15,hr15,hs15⟩;have HR15:=Lib.hid hr15;have HS15:=Lib.hid hs15;clear hr15 hs15 k1 k2 k3)
 clear HS14 HL HBT;have HKL:=Lib.hid (show chkP l=0 from by rcases HX.out with ⟨-,rfl⟩|⟨-,rfl|rfl⟩<;>first|exact HKA.out|exact HKB.out);have hl6:l.length<=1000000:=by rcases HX.out with ⟨-,rfl⟩|⟨-,rfl|rfl⟩<;>assumption
 go_upto_region 11 with (go_at_call 26;refine(HLD.out _ _ _ _ l HS15.out HKL.out HR15.out).mono ?_;rintro e16 w16 ⟨⟨A16,c16,rfl,hr16⟩,hb16⟩;have HR16:=Lib.hid hr16;have HB16:=Lib.hid hb16;clear hr16 hb16)
 clear HS15 HR15 HLD HKA HKB HKL;have HA:=Lib.hid (fun wx h1 h2=>HSA.out A16 c16 l hl6 wx h1 h2);have HBQ:=Lib.hid (fun wx h1 h2=>HSB.out A16 c16 l hl6 wx h1 h2);clear HSA HSB;rcases HX.out with ⟨rfl,rfl⟩|⟨rfl,rfl|rfl⟩
 ·replace HBQ:=Lib.hid (fun wx h1 h2=>by have:=HBQ.out wx h1 h2;rwa [decide_eq_true rfl] at this)
  clear HX;by_cases hq:l=la
  ·replace HA:=Lib.hid (fun wx h1 h2=>by have:=HA.out wx h1 h2;rwa [decide_eq_true hq] at this)
   clear hq;go_wp2_with (first
    |(go_at_call 17;refine(HBQ.out w17 HR17.out HB17.out).mono ?_;rintro e18 w18 ⟨rfl,hb18⟩;have HR18:=Lib.hid ((HR17.out.below hb18).more hb18.size);have HB18:=Lib.hid (HB17.out.trans (hb18.mono HB17.out.size));clear hb18)
    |(go_at_call 17;refine(HA.out w16 HR16.out HB16.out).mono ?_;rintro e17 w17 ⟨rfl,hb17⟩;have HR17:=Lib.hid ((HR16.out.below hb17).more hb17.size);have HB17:=Lib.hid (HB16.out.trans (hb17.mono HB16.out.size));clear hb17)
    |(go_at_call 7;refine(HAW.out _).mono ?_;rintro ez wz ⟨rfl,hbz⟩;have HBZ:=Lib.hid (HB18.out.trans (hbz.mono HB18.out.size));clear hbz))
   go_ret
   exact⟨rfl,HBZ.out⟩
  ·replace HA:=Lib.hid (fun wx h1 h2=>by have:=HA.out wx h1 h2;rwa [decide_eq_false hq] at this)
   clear hq;go_wp2_with (first
    |(go_at_call 17;refine(HBQ.out w18 HR18.out HB18.out).mono ?_;rintro e19 w19 ⟨rfl,hb19⟩;have HB19:=Lib.hid (HB18.out.trans (hb19.mono HB18.out.size));clear hb19)
    |(go_at_call 17;refine(HBQ.out w17 HR17.out HB17.out).mono ?_;rintro e18 w18 ⟨rfl,hb18⟩;have HR18:=Lib.hid ((HR17.out.below hb18).more hb18.size);have HB18:=Lib.hid (HB17.out.trans (hb18.mono HB17.out.size));clear hb18)
    |(go_at_call 17;refine(HA.out w16 HR16.out HB16.out).mono ?_;rintro e17 w17 ⟨rfl,hb17⟩;have HR17:=Lib.hid ((HR16.out.below hb17).more hb17.size);have HB17:=Lib.hid (HB16.out.trans (hb17.mono HB16.out.size));clear hb17)
    |(go_at_call 7;refine(HAW.out _).mono ?_;rintro ez wz ⟨rfl,hbz⟩;have HBZ:=Lib.hid (HB19.out.trans (hbz.mono HB19.out.size));clear hbz))
   go_ret
   exact⟨rfl,HBZ.out⟩
 ·clear HX HBQ
  replace HA:=Lib.hid (fun wx h1 h2=>by have:=HA.out wx h1 h2;rwa [decide_eq_true rfl] at this);go_wp2_with (first
   |(go_at_call 17;refine(HA.out w16 HR16.out HB16.out).mono ?_;rintro e17 w17 ⟨rfl,hb17⟩;have HR17:=Lib.hid ((HR16.out.below hb17).more hb17.size);have HB17:=Lib.hid (HB16.out.trans (hb17.mono HB16.out.size));clear hb17)
   |(go_at_call 7;refine(HAW.out _).mono ?_;rintro ez wz ⟨rfl,hbz⟩;have HBZ:=Lib.hid (HB17.out.trans (hbz.mono HB17.out.size));clear hbz))
  go_ret
  exact⟨rfl,HBZ.out⟩
 ·replace HBQ:=Lib.hid (fun wx h1 h2=>by have:=HBQ.out wx h1 h2;rwa [decide_eq_true rfl] at this)
  clear HX;by_cases hq:l=la
  ·replace HA:=Lib.hid (fun wx h1 h2=>by have:=HA.out wx h1 h2;rwa [decide_eq_true hq] at this)
   clear hq;go_wp2_with (first
    |(go_at_call 17;refine(HA.out w16 HR16.out HB16.out).mono ?_;rintro e17 w17 ⟨rfl,hb17⟩;have HR17:=Lib.hid ((HR16.out.below hb17).more hb17.size);have HB17:=Lib.hid (HB16.out.trans (hb17.mono HB16.out.size));clear hb17)
    |(go_at_call 7;refine(HAW.out _).mono ?_;rintro ez wz ⟨rfl,hbz⟩;have HBZ:=Lib.hid (HB17.out.trans (hbz.mono HB17.out.size));clear hbz))
   go_ret
   exact⟨rfl,HBZ.out⟩
  ·replace HA:=Lib.hid (fun wx h1 h2=>by have:=HA.out wx h1 h2;rwa [decide_eq_false hq] at this)
   clear hq;go_wp2_with (first
    |(go_at_call 17;refine(HBQ.out w17 HR17.out HB17.out).mono ?_;rintro e18 w18 ⟨rfl,hb18⟩;have HR18:=Lib.hid ((HR17.out.below hb18).more hb18.size);have HB18:=Lib.hid (HB17.out.trans (hb18.mono HB17.out.size));clear hb18)
    |(go_at_call 17;refine(HA.out w16 HR16.out HB16.out).mono ?_;rintro e17 w17 ⟨rfl,hb17⟩;have HR17:=Lib.hid ((HR16.out.below hb17).more hb17.size);have HB17:=Lib.hid (HB16.out.trans (hb17.mono HB16.out.size));clear hb17)
    |(go_at_call 7;refine(HAW.out _).mono ?_;rintro ez wz ⟨rfl,hbz⟩;have HBZ:=Lib.hid (HB18.out.trans (hbz.mono HB18.out.size));clear hbz))
   go_ret
   exact⟨rfl,HBZ.out⟩
end Fo
end Go.Proofs.YtejcdhdfanfkbaaGreat
namespace Go.Proofs.YtejcdhdfanfkbaaGreat
namespace Fo
open Go.RowKit Rd
open Go.Proofs.YtejcdhdfanfkbaaGreat.Op
theorem ffalls_any (A:Option Addr) (n c:Nat) (la:List Pl) (B:Option Addr) (nb cb:Nat) (lb:List Pl) (m dir:Int) (A1:Option Addr) (n1 c1:Nat) (cuts:List Int) (A2:Option Addr) (n2 c2:Nat) (marks:List ByteArray) (w:World)
  (hra:Rd w w.heap.size 2 A n (flS la)) (hna:n<=maxLen) (hrb:Rd w w.heap.size 2 B nb (flS lb)) (hnb:nb<=maxLen) (hm63:m<=9223372036854775807) (hcut:Rd w w.heap.size 1 A1 n1 (cuts.map (Value.int .i64))) (hn1:n1<=maxLen) (hmk:Rd w w.heap.size 1 A2 n2 (marks.map Value.string)) (hn2:n2<=maxLen) :
  Calls Tryz.prog 5 #[.slice A n c,.slice B nb cb,.agg #[.int .i64 m,.int .i64 dir,.slice A1 n1 c1,.slice A2 n2 c2]] w fun e w'=>e=.returned (.bool true)/\Below w.heap.size w w' :=
 ffalls_x (Lib.hid awake42_any) A n c la B nb cb lb m dir A1 n1 c1 cuts A2 n2 c2 marks w hra hna hrb hnb hm63 hcut hn1 hmk hn2
end Fo
end Go.Proofs.YtejcdhdfanfkbaaGreat
namespace Go.Proofs.YtejcdhdfanfkbaaGreat
namespace Fo
open Go.RowKit Go.ChangeShapes Go.WideShapes Go.Deep Rd
theorem int_topA {m:Int} (h:(Lit.int .i64 m).wf=true):m<=9223372036854775807:=by
 simp only[Lit.wf,IntKind.min,IntKind.max,IntKind.signed,IntKind.bits,Bool.and_eq_true,decide_eq_true_eq,if_true] at h;omega
section
variable {H:Type} {enc:TypeId×Value->H} {P:Program} {w:World}
instance shI:Sh Int 1:=⟨fun z=>[.int .i64 z],fun _=>rfl,by decide⟩
instance shB:Sh ByteArray 1:=⟨fun z=>[.string z],fun _=>rfl,by decide⟩
theorem flS_int:∀l:List Int,flS l=l.map (Value.int .i64)
 | []=>rfl
 |x::l=>by
  show[.int .i64 x]++flS l=_
  rw[flS_int l];rfl
theorem flS_str:∀l:List ByteArray,flS l=l.map Value.string
 | []=>rfl
 |x::l=>by
  show[.string x]++flS l=_
  rw[flS_str l];rfl
theorem open_arms {ti ts tc ta sli sls:TypeId} (hi:P.underlying ti=some (.int .i64)) (hs:P.underlying ts=some .string) {fc fa:Array Field} (hc:P.underlying tc=some (.struct fc)) (ha:P.underlying ta=some (.struct fa)) (hsi:P.underlying sli=some (.slice ti)) (hss:P.underlying sls=some (.slice ts))
  (Lc:fc.toList.map (fun f=>(f.offset,P.cellsOf f.type,f.type))=[(0,1,ti),(1,1,sli),(2,1,sls)]) (La:fa.toList.map (fun f=>(f.offset,P.cellsOf f.type,f.type))=[(0,1,ti),(1,3,tc)])
  (zs:[P.cellsOf ti,P.cellsOf ts,P.cellsOf tc,P.cellsOf ta]=[1,1,3,4]) {b0:Nat} {r:Reach} {v:Value} {d:DataW H} {p:List MemPlace} (hv:Value.okWide P w r b0 ta v) (h:DataW.Trod enc P w 0 (fun _=>true) true ta v d p) :
  ∃(m dir:Int) (A1:Option Addr) (n1 c1:Nat) (cuts:List Int) (A2:Option Addr) (n2 c2:Nat) (marks:List ByteArray),v=.agg #[.int .i64 m,.int .i64 dir,.slice A1 n1 c1,.slice A2 n2 c2]/\m<=9223372036854775807/\Rd w w.heap.size 1 A1 n1 (cuts.map (Value.int .i64))/\n1<=maxLen/\Rd w w.heap.size 1 A2 n2 (marks.map Value.string)/\n2<=maxLen:=by
 simp only[List.cons.injEq] at zs;obtain⟨z1,z2,z3,z4,-⟩:=zs;obtain⟨cs,rfl,hsz⟩:=okWide_struct ha hv;obtain⟨fuel,hf⟩:=h;obtain⟨hl,n,hq⟩:=Op.trod_fields ha La hf;rw[z4] at hl hsz;obtain⟨cl⟩:=cs;simp only[Value.cells] at hl hq
 match cl,hl with
 | [c0,c1,c2,c3],_ =>
   obtain⟨y0,g0⟩:=hq 0 _ _ _ rfl;obtain⟨y1,g1⟩:=hq 1 _ _ _ rfl;obtain⟨m,e0,-,hm⟩:=DataW.trod_int hi g0;obtain⟨hl1,n1,k1⟩:=Op.trod_fields hc Lc g1;obtain⟨u0,f0⟩:=k1 0 _ _ _ rfl;obtain⟨u1,f1⟩:=k1 1 _ _ _ rfl;obtain⟨u2,f2⟩:=k1 2 _ _ _ rfl;obtain⟨dir,e1,-,-⟩:=DataW.trod_int hi f0;obtain⟨A1,n1,q1,cuts,e2,a1,a2,a3,-,-⟩:=open_sl (α:=Int) hsi z1 (fun cs' fuel y h=>by
    obtain⟨z,e,-,-⟩:=DataW.trod_int hi h;exact⟨z,e⟩) (v:=c2) f1
   obtain⟨A2,n2,q2,marks,e3,b1,b2,b3,-,-⟩:=open_sl (α:=ByteArray) hss z2 (fun cs' fuel y h=>by
    obtain⟨z,e,-,-⟩:=DataW.trod_string hs h;exact⟨z,e⟩) (v:=c3) f2
   simp at e0 e1
   subst e0 e1 e2 e3;rw[flS_int] at a1;rw[flS_str] at b1;refine⟨m,dir,A1,n1,q1,cuts,A2,n2,q2,marks,rfl,?_,a1,Nat.le_trans a2 a3,b1,Nat.le_trans b2 b3⟩;exact int_topA hm
end
end Fo
end Go.Proofs.YtejcdhdfanfkbaaGreat
