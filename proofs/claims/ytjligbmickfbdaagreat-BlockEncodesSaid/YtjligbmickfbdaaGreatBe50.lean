/- varveref08.put. varveref08: things and what they stand for; first. varveref08.next. -/
import Derived.Test.YtjligbmickfbdaaGreatBe49
import Derived.Test.YtjligbmickfbdaaGreatBe16
namespace Go.Proofs.YtjligbmickfbdaaGreat
namespace Rf
open Go.RowKit Ln
set_option maxHeartbeats 6400000 in
set_option maxRecDepth 100000 in
theorem put8_any (A:Option Addr) (n c a m k:Nat) (Ax:Option Addr) (f:Bool) (R:List RT) (w:World) (ha:ArgV w 3 A n c (fT R)) (hn:n<=100000) :
  Calls Tryz.prog 151 #[.slice A n c,.agg #[.int .i64 (a:Int),.slice Ax m k,.bool f]] w fun e w'=>∃v,e=.returned v/\w'.ownsRow w.heap.size 191 3 v (n+1) (fT (putT ((a:Int),(Ax,m,k),f) R))/\Below w.heap.size w w':=by
 have mixed:Tryz.prog.follows .mixedOrders=true:=by kernel_rfl
 have hln:R.length=n:=by have:=ha.rd.len;rw[fT_len] at this;omega
 have hnc:=ha.nc;have hcm:c<=9223372036854775807:=by have:=ha.cm;unfold maxLen at this;omega
 have HL:=Lib.hid hln;obtain⟨x,hx⟩:∃x:RT,x=((a:Int),(Ax,m,k),f):=⟨_,rfl⟩
 rw[<-hx];have HX:=Lib.hid hx;obtain⟨w1,hw1⟩:∃w1,w1=w.alloc (.cells #[.int .i64 (a:Int),.slice Ax m k,.bool f] 191):=⟨_,rfl⟩
 have hb1:Below w.heap.size w w1:=by rw[hw1];exact ext_alloc w _
 have hz1:w1.heap.size=w.heap.size+1:=by rw[hw1];simp
 have hx0:w1.cell? ⟨w.heap.size,0,none⟩=some (.int .i64 (a:Int)):=by rw[hw1];exact cell_of_row _ w.heap.size 0 _ _ _ (heap_alloc_new w _)
 have hx1:w1.cell? ⟨w.heap.size,1,none⟩=some (.slice Ax m k):=by rw[hw1];exact cell_of_row _ w.heap.size 1 _ _ _ (heap_alloc_new w _)
 have hx2:w1.cell? ⟨w.heap.size,2,none⟩=some (.bool f):=by rw[hw1];exact cell_of_row _ w.heap.size 2 _ _ _ (heap_alloc_new w _)
 have hXC:∀wx,Below w1.heap.size w1 wx->(wx.cell? ⟨w.heap.size,0,none⟩=some (.int .i64 (a:Int))/\wx.cell? ⟨w.heap.size,1,none⟩=some (.slice Ax m k)/\wx.cell? ⟨w.heap.size,2,none⟩=some (.bool f))/\Below w1.heap.size w1 wx:=fun wx hb =>
  ⟨⟨(hb.cell (p:=⟨w.heap.size,0,none⟩) (by show w.heap.size<_;omega)).trans hx0,(hb.cell (p:=⟨w.heap.size,1,none⟩) (by show w.heap.size<_;omega)).trans hx1,(hb.cell (p:=⟨w.heap.size,2,none⟩) (by show w.heap.size<_;omega)).trans hx2⟩,hb⟩
 have HC:=Lib.hid hXC;have HA:=Lib.hid (ha.ext hb1);have HB1:=Lib.hid hb1;clear hx hXC hx0 hx1 hx2 ha hln
 go_enter Tryz.func151, Tryz.ntmps151
 go_wp2_with fail
 rw[<-hw1];have HW1:=Lib.hid hw1;have HZ1:=Lib.hid hz1;clear hw1 hb1 hz1;generalize hbq:w.heap.size=b at *
 have HBQ:=Lib.hid hbq;clear hbq;go_loopg [5] n (fun kx s5 wi=>∃(i:Nat),s5=.int .i64 (i:Int)/\i<=n/\n-i<=kx/\Hid (∀y∈R.take i,goT x y=true)/\Aside (Below w1.heap.size w1 wi))
 case atStart=>exact⟨0,by go_num,by omega,by omega,(fun y hy=>by simp at hy),Below.refl _ _⟩
 case round =>
  obtain⟨i,rfl,hi,hik,hgo,HI⟩:=hrel;obtain⟨⟨x0,x1,x2⟩,-⟩:=HC.out wr HI.out;by_cases hin:i<n
  ·obtain⟨ad,rfl⟩:=HA.out.some (by omega)
   have hil:i<R.length:=by have:=HL.out;omega
   obtain⟨y,hy⟩:∃y,y=R[i]:=⟨_,rfl⟩
   have hyi:R[i]? =some y:=by rw[hy];exact List.getElem?_eq_getElem hil
   obtain⟨y0,y1,y2⟩:=argT_cell HA.out HI.out hyi;clear hy;obtain⟨u,⟨Ay,my,ky⟩,l⟩:=y;simp only at y0 y1 y2;rcases Int.lt_trichotomy u (a:Int) with hu|hu|hu
   ·have HG2:Hid (∀z∈R.take (i+1),goT x z=true):=by
     intro z hz;rw[List.take_add_one,hyi,List.mem_append] at hz;rcases hz with hz|hz
     ·exact hgo.out z hz
     ·simp only[Option.toList_some,List.mem_singleton] at hz
      subst hz;rw[HX.out];simp[goT,hu]
    clear hyi;go_wp2_with fail
    go_quiet (fail)
    go_wp2_with fail
    go_roundg (n-(i+1))
    case measure=>omega
    case rel=>exact⟨i+1,by go_num,by omega,by omega,HG2.out,below_drewN HI.out _⟩
   ·subst hu
    rcases l with _|_
    ·rcases f with _|_
     ·have HG2:Hid (∀z∈R.take (i+1),goT x z=true):=by
       intro z hz;rw[List.take_add_one,hyi,List.mem_append] at hz;rcases hz with hz|hz
       ·exact hgo.out z hz
       ·simp only[Option.toList_some,List.mem_singleton] at hz
        subst hz;rw[HX.out];simp[goT]
      clear hyi;go_wp2_with fail
      go_quiet (fail)
      go_wp2_with fail
      go_roundg (n-(i+1))
      case measure=>omega
      case rel=>exact⟨i+1,by go_num,by omega,by omega,HG2.out,below_drewN HI.out _⟩
     ·have HPUT:Hid (putT x R=R.take i++[x]++R.drop i):=putT_at x R i (by have:=HL.out;omega) hgo.out (fun z hz=>by
       rw[hyi] at hz;cases hz
       rw[HX.out];simp[goT])
      clear hyi;go_wp2_with fail
      go_quiet (fail)
      go_wp2_with fail
      have HI:Aside (Below w1.heap.size w1 (wr.drewN nq)):=below_drewN HI.out nq;generalize wr.drewN nq=wr at *
      have hb3:=HI.out;clear HI hgo x0 x1 x2;generalize wr=w3 at *
      have HB3:=Lib.hid (HB1.out.trans (hb3.mono (by have:=HZ1.out;omega)));have HA3:=Lib.hid (HA.out.ext hb3);have HC3:Hid (∀wx,Below w3.heap.size w3 wx->(wx.cell? ⟨b,0,none⟩=some (.int .i64 (a:Int))/\wx.cell? ⟨b,1,none⟩=some (.slice Ax m k)/\wx.cell? ⟨b,2,none⟩=some (.bool true))/\Below w3.heap.size w3 wx):=fun wx hb=>⟨(HC.out wx (ext_trans hb3 hb)).1,hb⟩
      have hdr:Below w3.heap.size w3 w3.drew:=⟨rfl,rfl,rfl,Nat.le_refl _,fun _ _=>rfl⟩
      have HSd:=Lib.hid (HC3.out _ hdr);have HSa:=Lib.hid (HC3.out _ (hdr.trans (ext_alloc w3.drew (.cells #[] 191))));have HSx:=Lib.hid (HC3.out _ (hdr.trans (ext_alloc w3.drew (.cells #[.int .i64 (a:Int),.slice Ax m k,.bool true] 191))));have HSax:=Lib.hid (HC3.out _ (HSa.out.2.trans ((ext_alloc (w3.drew.alloc (.cells #[] 191)) (.cells #[.int .i64 (a:Int),.slice Ax m k,.bool true] 191)).mono HSa.out.2.size)));have HSxa:=Lib.hid (HC3.out _ (HSx.out.2.trans ((ext_alloc (w3.drew.alloc (.cells #[.int .i64 (a:Int),.slice Ax m k,.bool true] 191)) (.cells #[] 191)).mono HSx.out.2.size)));have HOa:Aside ((w3.drew.alloc (.cells #[] 191)).ownsRow w3.heap.size 191 3 (.slice (some ⟨w3.heap.size,0,none⟩) 0 0) 0 []):=ownV_empty 191 w3.drew;have HOax:Aside (((w3.drew.alloc (.cells #[] 191)).alloc (.cells #[.int .i64 (a:Int),.slice Ax m k,.bool true] 191)).ownsRow w3.heap.size 191 3 (.slice (some ⟨w3.heap.size,0,none⟩) 0 0) 0 []):=own_below HOa.out (ext_alloc (w3.drew.alloc (.cells #[] 191)) (.cells #[.int .i64 (a:Int),.slice Ax m k,.bool true] 191)) (Nat.le_refl _);have HOxa:Aside (((w3.drew.alloc (.cells #[.int .i64 (a:Int),.slice Ax m k,.bool true] 191)).alloc (.cells #[] 191)).ownsRow w3.heap.size 191 3 (.slice (some ⟨w3.heap.size+1,0,none⟩) 0 0) 0 []):=ownV_empty2 191 191 w3 w3.drew #[.int .i64 (a:Int),.slice Ax m k,.bool true] rfl;have hkc:i<=c:=by omega
      have HTK:=Lib.hid (fun(wx:World) (hb:Below w3.heap.size w3 wx)=>show Rd wx wx.heap.size 3 (some ad) i (fT (R.take i)) from by have h:=HA3.out.take (k:=i) hb (Nat.le_of_lt hin);rwa [fT_take] at h);have hkn: ¬ c=i:=by omega
      have HDR:=Lib.hid (fun(wx:World) (hb:Below w3.heap.size w3 wx)=>show Rd wx wx.heap.size 3 (some (ad.add (i*3))) (n-i) (fT (R.drop i)) from by have h:=HA3.out.drop (k:=i) hb hin;rwa [fT_drop] at h);clear hdr;go_region_held3 (fun wx=>(wx.cell? ⟨b,0,none⟩=some (.int .i64 (a:Int))/\wx.cell? ⟨b,1,none⟩=some (.slice Ax m k)/\wx.cell? ⟨b,2,none⟩=some (.bool true))/\Below w3.heap.size w3 wx) (first|exact HSd.out|exact HSa.out|exact HSx.out|exact HSax.out|exact HSxa.out|assumption|exact HC3.out _ (hS4.2.trans ((ext_alloc w4 _).mono hS4.2.size))) (first
       |(refine step_appV thingEl (.tmp 44) (.tmp 47) rfl rfl HOa.out (HTK.out _ HSa.out.2) HA3.out.no (fT_one _) (by omega) (by omega) HSa.out.2.size (by rfl) (by rfl) ?_;intro v4 w4 hown4 hb4 hg4;have hS4:=HC3.out w4 (HSa.out.2.trans hb4))
       |(refine step_appV thingEl (.tmp 44) (.tmp 47) rfl rfl HOax.out (HTK.out _ HSax.out.2) HA3.out.no (fT_one _) (by omega) (by omega) HSax.out.2.size (by rfl) (by rfl) ?_;intro v4 w4 hown4 hb4 hg4;have hS4:=HC3.out w4 (HSax.out.2.trans hb4);have hrx:=rdV_far (sz:=3) (b:=w3.heap.size+1) (X:=[.int .i64 (a:Int),.slice Ax m k,.bool true]) (t:=191) (w:=w3.drew.alloc (.cells #[] 191)) (g:=w3.heap.size) rfl (by simp) (show((w3.drew.alloc (.cells #[] 191)).alloc (.cells #[.int .i64 (a:Int),.slice Ax m k,.bool true] 191)).grownBy w4 (some w3.heap.size) from hg4) (by simp))
       |(refine step_appV thingEl (.tmp 44) (.tmp 47) rfl rfl HOxa.out (HTK.out _ HSxa.out.2) HA3.out.no (fT_one _) (by omega) (by omega) HSxa.out.2.size (by rfl) (by rfl) ?_;intro v4 w4 hown4 hb4 hg4;have hS4:=HC3.out w4 (HSxa.out.2.trans hb4);have hrx:=rdV_far (sz:=3) (b:=w3.heap.size) (X:=[.int .i64 (a:Int),.slice Ax m k,.bool true]) (t:=191) (w:=w3.drew) (g:=w3.heap.size+1) rfl rfl ((World.grownBy_alloc (w3.drew.alloc (.cells #[.int .i64 (a:Int),.slice Ax m k,.bool true] 191)) (.cells #[] 191) (some (w3.heap.size+1))).trans (show((w3.drew.alloc (.cells #[.int .i64 (a:Int),.slice Ax m k,.bool true] 191)).alloc (.cells #[] 191)).grownBy w4 (some (w3.heap.size+1)) from hg4)) (by simp))
       |(refine step_appV (c:=1) thingEl (.tmp 48) (.tmp 50) rfl rfl (own_below hown4 (ext_alloc w4 (.cells #[.int .i64 (a:Int),.slice Ax m k,.bool true] 191)) (Nat.le_refl _)) (rdV_new (sz:=3) 191 w4 [.int .i64 (a:Int),.slice Ax m k,.bool true] rfl) (fun h=>by cases h) (fT_one [((a:Int),(Ax,m,k),true)]) (by omega) (by omega) (Nat.le_trans hS4.2.size (ext_alloc w4 (.cells #[.int .i64 (a:Int),.slice Ax m k,.bool true] 191)).size) (by rfl) (by rfl) ?_;intro v5 w5 hown5 hb5 hg5;have hS5:=HC3.out w5 (hS4.2.trans (((ext_alloc w4 (.cells #[.int .i64 (a:Int),.slice Ax m k,.bool true] 191)).mono hS4.2.size).trans hb5)))
       |(refine step_appV (c:=1) thingEl (.tmp 48) (.tmp 50) rfl rfl hown4 hrx (fun h=>by cases h) (fT_one [((a:Int),(Ax,m,k),true)]) (by omega) (by omega) hS4.2.size (by rfl) (by rfl) ?_;intro v5 w5 hown5 hb5 hg5;have hS5:=HC3.out w5 (hS4.2.trans hb5))
       |(refine step_appV (c:=c-i) thingEl (.tmp 51) (.tmp 54) rfl rfl hown5 (HDR.out _ hS5.2) (fun h=>by cases h) (fT_one _) (by omega) (by omega) hS5.2.size (by rfl) (by rfl) ?_;intro v6 w6 hown6 hb6 hg6;have hS6:=HC3.out w6 (hS5.2.trans hb6)))
      all_goals (
       have HX6:Aside (w6.ownsRow w.heap.size 191 3 v6 (n+1) (fT (putT x R))/\Below w.heap.size w w6):=by
        have hbz:b<=w3.heap.size:=by have:=HB3.out.size;have:=HBQ.out;omega
        rw[HBQ.out];refine⟨?_,HB3.out.trans (hS6.2.mono hbz)⟩;rw[HPUT.out,fT_app,fT_app];have hh:=own_lower hown6 hbz;rw[List.nil_append] at hh;have e:0+i+1+(n-i)=n+1:=by omega
        rw[e] at hh;rw[HX.out];exact hh
       clear hown6 hown5 hown4 hS6 hS5 hS4;go_wp2_with fail
       all_goals (
        go_ret
        exact⟨_,rfl,HX6.out⟩))
    ·have HG2:Hid (∀z∈R.take (i+1),goT x z=true):=by
      intro z hz;rw[List.take_add_one,hyi,List.mem_append] at hz;rcases hz with hz|hz
      ·exact hgo.out z hz
      ·simp only[Option.toList_some,List.mem_singleton] at hz
       subst hz;rw[HX.out];simp[goT]
     clear hyi;go_wp2_with fail
     go_quiet (fail)
     go_wp2_with fail
     go_roundg (n-(i+1))
     case measure=>omega
     case rel=>exact⟨i+1,by go_num,by omega,by omega,HG2.out,below_drewN HI.out _⟩
   ·have hu2: ¬ u<(a:Int):=by omega
    have hu3: ¬ u=(a:Int):=by omega
    have HPUT:Hid (putT x R=R.take i++[x]++R.drop i):=putT_at x R i (by have:=HL.out;omega) hgo.out (fun z hz=>by
     rw[hyi] at hz;cases hz
     rw[HX.out];simp[goT,hu2,hu3])
    clear hyi;go_wp2_with fail
    go_quiet (fail)
    go_wp2_with fail
    have HI:Aside (Below w1.heap.size w1 (wr.drewN nq)):=below_drewN HI.out nq;generalize wr.drewN nq=wr at *
    have hb3:=HI.out;clear HI hgo x0 x1 x2;generalize wr=w3 at *
    have HB3:=Lib.hid (HB1.out.trans (hb3.mono (by have:=HZ1.out;omega)));have HA3:=Lib.hid (HA.out.ext hb3);have HC3:Hid (∀wx,Below w3.heap.size w3 wx->(wx.cell? ⟨b,0,none⟩=some (.int .i64 (a:Int))/\wx.cell? ⟨b,1,none⟩=some (.slice Ax m k)/\wx.cell? ⟨b,2,none⟩=some (.bool f))/\Below w3.heap.size w3 wx):=fun wx hb=>⟨(HC.out wx (ext_trans hb3 hb)).1,hb⟩
    have hdr:Below w3.heap.size w3 w3.drew:=⟨rfl,rfl,rfl,Nat.le_refl _,fun _ _=>rfl⟩
    have HSd:=Lib.hid (HC3.out _ hdr);have HSa:=Lib.hid (HC3.out _ (hdr.trans (ext_alloc w3.drew (.cells #[] 191))));have HSx:=Lib.hid (HC3.out _ (hdr.trans (ext_alloc w3.drew (.cells #[.int .i64 (a:Int),.slice Ax m k,.bool f] 191))));have HSax:=Lib.hid (HC3.out _ (HSa.out.2.trans ((ext_alloc (w3.drew.alloc (.cells #[] 191)) (.cells #[.int .i64 (a:Int),.slice Ax m k,.bool f] 191)).mono HSa.out.2.size)));have HSxa:=Lib.hid (HC3.out _ (HSx.out.2.trans ((ext_alloc (w3.drew.alloc (.cells #[.int .i64 (a:Int),.slice Ax m k,.bool f] 191)) (.cells #[] 191)).mono HSx.out.2.size)));have HOa:Aside ((w3.drew.alloc (.cells #[] 191)).ownsRow w3.heap.size 191 3 (.slice (some ⟨w3.heap.size,0,none⟩) 0 0) 0 []):=ownV_empty 191 w3.drew;have HOax:Aside (((w3.drew.alloc (.cells #[] 191)).alloc (.cells #[.int .i64 (a:Int),.slice Ax m k,.bool f] 191)).ownsRow w3.heap.size 191 3 (.slice (some ⟨w3.heap.size,0,none⟩) 0 0) 0 []):=own_below HOa.out (ext_alloc (w3.drew.alloc (.cells #[] 191)) (.cells #[.int .i64 (a:Int),.slice Ax m k,.bool f] 191)) (Nat.le_refl _);have HOxa:Aside (((w3.drew.alloc (.cells #[.int .i64 (a:Int),.slice Ax m k,.bool f] 191)).alloc (.cells #[] 191)).ownsRow w3.heap.size 191 3 (.slice (some ⟨w3.heap.size+1,0,none⟩) 0 0) 0 []):=ownV_empty2 191 191 w3 w3.drew #[.int .i64 (a:Int),.slice Ax m k,.bool f] rfl;have hkc:i<=c:=by omega
    have HTK:=Lib.hid (fun(wx:World) (hb:Below w3.heap.size w3 wx)=>show Rd wx wx.heap.size 3 (some ad) i (fT (R.take i)) from by have h:=HA3.out.take (k:=i) hb (Nat.le_of_lt hin);rwa [fT_take] at h);have hkn: ¬ c=i:=by omega
    have HDR:=Lib.hid (fun(wx:World) (hb:Below w3.heap.size w3 wx)=>show Rd wx wx.heap.size 3 (some (ad.add (i*3))) (n-i) (fT (R.drop i)) from by have h:=HA3.out.drop (k:=i) hb hin;rwa [fT_drop] at h);clear hdr;go_region_held3 (fun wx=>(wx.cell? ⟨b,0,none⟩=some (.int .i64 (a:Int))/\wx.cell? ⟨b,1,none⟩=some (.slice Ax m k)/\wx.cell? ⟨b,2,none⟩=some (.bool f))/\Below w3.heap.size w3 wx) (first|exact HSd.out|exact HSa.out|exact HSx.out|exact HSax.out|exact HSxa.out|assumption|exact HC3.out _ (hS4.2.trans ((ext_alloc w4 _).mono hS4.2.size))) (first
     |(refine step_appV thingEl (.tmp 44) (.tmp 47) rfl rfl HOa.out (HTK.out _ HSa.out.2) HA3.out.no (fT_one _) (by omega) (by omega) HSa.out.2.size (by rfl) (by rfl) ?_;intro v4 w4 hown4 hb4 hg4;have hS4:=HC3.out w4 (HSa.out.2.trans hb4))
     |(refine step_appV thingEl (.tmp 44) (.tmp 47) rfl rfl HOax.out (HTK.out _ HSax.out.2) HA3.out.no (fT_one _) (by omega) (by omega) HSax.out.2.size (by rfl) (by rfl) ?_;intro v4 w4 hown4 hb4 hg4;have hS4:=HC3.out w4 (HSax.out.2.trans hb4);have hrx:=rdV_far (sz:=3) (b:=w3.heap.size+1) (X:=[.int .i64 (a:Int),.slice Ax m k,.bool f]) (t:=191) (w:=w3.drew.alloc (.cells #[] 191)) (g:=w3.heap.size) rfl (by simp) (show((w3.drew.alloc (.cells #[] 191)).alloc (.cells #[.int .i64 (a:Int),.slice Ax m k,.bool f] 191)).grownBy w4 (some w3.heap.size) from hg4) (by simp))
     |(refine step_appV thingEl (.tmp 44) (.tmp 47) rfl rfl HOxa.out (HTK.out _ HSxa.out.2) HA3.out.no (fT_one _) (by omega) (by omega) HSxa.out.2.size (by rfl) (by rfl) ?_;intro v4 w4 hown4 hb4 hg4;have hS4:=HC3.out w4 (HSxa.out.2.trans hb4);have hrx:=rdV_far (sz:=3) (b:=w3.heap.size) (X:=[.int .i64 (a:Int),.slice Ax m k,.bool f]) (t:=191) (w:=w3.drew) (g:=w3.heap.size+1) rfl rfl ((World.grownBy_alloc (w3.drew.alloc (.cells #[.int .i64 (a:Int),.slice Ax m k,.bool f] 191)) (.cells #[] 191) (some (w3.heap.size+1))).trans (show((w3.drew.alloc (.cells #[.int .i64 (a:Int),.slice Ax m k,.bool f] 191)).alloc (.cells #[] 191)).grownBy w4 (some (w3.heap.size+1)) from hg4)) (by simp))
     |(refine step_appV (c:=1) thingEl (.tmp 48) (.tmp 50) rfl rfl (own_below hown4 (ext_alloc w4 (.cells #[.int .i64 (a:Int),.slice Ax m k,.bool f] 191)) (Nat.le_refl _)) (rdV_new (sz:=3) 191 w4 [.int .i64 (a:Int),.slice Ax m k,.bool f] rfl) (fun h=>by cases h) (fT_one [((a:Int),(Ax,m,k),f)]) (by omega) (by omega) (Nat.le_trans hS4.2.size (ext_alloc w4 (.cells #[.int .i64 (a:Int),.slice Ax m k,.bool f] 191)).size) (by rfl) (by rfl) ?_;intro v5 w5 hown5 hb5 hg5;have hS5:=HC3.out w5 (hS4.2.trans (((ext_alloc w4 (.cells #[.int .i64 (a:Int),.slice Ax m k,.bool f] 191)).mono hS4.2.size).trans hb5)))
     |(refine step_appV (c:=1) thingEl (.tmp 48) (.tmp 50) rfl rfl hown4 hrx (fun h=>by cases h) (fT_one [((a:Int),(Ax,m,k),f)]) (by omega) (by omega) hS4.2.size (by rfl) (by rfl) ?_;intro v5 w5 hown5 hb5 hg5;have hS5:=HC3.out w5 (hS4.2.trans hb5))
     |(refine step_appV (c:=c-i) thingEl (.tmp 51) (.tmp 54) rfl rfl hown5 (HDR.out _ hS5.2) (fun h=>by cases h) (fT_one _) (by omega) (by omega) hS5.2.size (by rfl) (by rfl) ?_;intro v6 w6 hown6 hb6 hg6;have hS6:=HC3.out w6 (hS5.2.trans hb6)))
    all_goals (
     have HX6:Aside (w6.ownsRow w.heap.size 191 3 v6 (n+1) (fT (putT x R))/\Below w.heap.size w w6):=by
      have hbz:b<=w3.heap.size:=by have:=HB3.out.size;have:=HBQ.out;omega
      rw[HBQ.out];refine⟨?_,HB3.out.trans (hS6.2.mono hbz)⟩;rw[HPUT.out,fT_app,fT_app];have hh:=own_lower hown6 hbz;rw[List.nil_append] at hh;have e:0+i+1+(n-i)=n+1:=by omega
      rw[e] at hh;rw[HX.out];exact hh
     clear hown6 hown5 hown4 hS6 hS5 hS4;go_wp2_with fail
     all_goals (
      go_ret
      exact⟨_,rfl,HX6.out⟩))
  ·obtain rfl:i=n:=by omega
   have HPUT:Hid (putT x R=R.take i++[x]++R.drop i):=putT_at x R i (by have:=HL.out;omega) hgo.out (fun z hz=>by
    rw[List.getElem?_eq_none (by have:=HL.out;omega)] at hz;cases hz)
   go_wp2_with fail
   go_quiet (fail)
   go_wp2_with fail
   have HI:Aside (Below w1.heap.size w1 (wr.drewN nq)):=below_drewN HI.out nq;generalize wr.drewN nq=wr at *
   have hb3:=HI.out;clear HI hgo x0 x1 x2;generalize wr=w3 at *
   have HB3:=Lib.hid (HB1.out.trans (hb3.mono (by have:=HZ1.out;omega)));have HA3:=Lib.hid (HA.out.ext hb3);have HC3:Hid (∀wx,Below w3.heap.size w3 wx->(wx.cell? ⟨b,0,none⟩=some (.int .i64 (a:Int))/\wx.cell? ⟨b,1,none⟩=some (.slice Ax m k)/\wx.cell? ⟨b,2,none⟩=some (.bool f))/\Below w3.heap.size w3 wx):=fun wx hb=>⟨(HC.out wx (ext_trans hb3 hb)).1,hb⟩
   have hdr:Below w3.heap.size w3 w3.drew:=⟨rfl,rfl,rfl,Nat.le_refl _,fun _ _=>rfl⟩
   have HSd:=Lib.hid (HC3.out _ hdr);have HSa:=Lib.hid (HC3.out _ (hdr.trans (ext_alloc w3.drew (.cells #[] 191))));have HSx:=Lib.hid (HC3.out _ (hdr.trans (ext_alloc w3.drew (.cells #[.int .i64 (a:Int),.slice Ax m k,.bool f] 191))));have HSax:=Lib.hid (HC3.out _ (HSa.out.2.trans ((ext_alloc (w3.drew.alloc (.cells #[] 191)) (.cells #[.int .i64 (a:Int),.slice Ax m k,.bool f] 191)).mono HSa.out.2.size)));have HSxa:=Lib.hid (HC3.out _ (HSx.out.2.trans ((ext_alloc (w3.drew.alloc (.cells #[.int .i64 (a:Int),.slice Ax m k,.bool f] 191)) (.cells #[] 191)).mono HSx.out.2.size)));have HOa:Aside ((w3.drew.alloc (.cells #[] 191)).ownsRow w3.heap.size 191 3 (.slice (some ⟨w3.heap.size,0,none⟩) 0 0) 0 []):=ownV_empty 191 w3.drew;have HOax:Aside (((w3.drew.alloc (.cells #[] 191)).alloc (.cells #[.int .i64 (a:Int),.slice Ax m k,.bool f] 191)).ownsRow w3.heap.size 191 3 (.slice (some ⟨w3.heap.size,0,none⟩) 0 0) 0 []):=own_below HOa.out (ext_alloc (w3.drew.alloc (.cells #[] 191)) (.cells #[.int .i64 (a:Int),.slice Ax m k,.bool f] 191)) (Nat.le_refl _);have HOxa:Aside (((w3.drew.alloc (.cells #[.int .i64 (a:Int),.slice Ax m k,.bool f] 191)).alloc (.cells #[] 191)).ownsRow w3.heap.size 191 3 (.slice (some ⟨w3.heap.size+1,0,none⟩) 0 0) 0 []):=ownV_empty2 191 191 w3 w3.drew #[.int .i64 (a:Int),.slice Ax m k,.bool f] rfl;have hkc:i<=c:=by omega
   have HTK:=Lib.hid (fun(wx:World) (hb:Below w3.heap.size w3 wx)=>show Rd wx wx.heap.size 3 A i (fT (R.take i)) from by have h:=HA3.out.take (k:=i) hb (Nat.le_refl _);rwa [fT_take] at h);have HDR:=Lib.hid (fun(wx:World) (hb:Below w3.heap.size w3 wx)=>show Rd wx wx.heap.size 3 (if c=i then A else A.map (·.add (i*3))) 0 (fT (R.drop i)) from by have h:=HA3.out.drop0 hb;rwa [fT_drop] at h);clear hdr;go_region_held3 (fun wx=>(wx.cell? ⟨b,0,none⟩=some (.int .i64 (a:Int))/\wx.cell? ⟨b,1,none⟩=some (.slice Ax m k)/\wx.cell? ⟨b,2,none⟩=some (.bool f))/\Below w3.heap.size w3 wx) (first|exact HSd.out|exact HSa.out|exact HSx.out|exact HSax.out|exact HSxa.out|assumption|exact HC3.out _ (hS4.2.trans ((ext_alloc w4 _).mono hS4.2.size))) (first
    |(refine step_appV thingEl (.tmp 44) (.tmp 47) rfl rfl HOa.out (HTK.out _ HSa.out.2) HA3.out.no (fT_one _) (by omega) (by omega) HSa.out.2.size (by rfl) (by rfl) ?_;intro v4 w4 hown4 hb4 hg4;have hS4:=HC3.out w4 (HSa.out.2.trans hb4))
    |(refine step_appV thingEl (.tmp 44) (.tmp 47) rfl rfl HOax.out (HTK.out _ HSax.out.2) HA3.out.no (fT_one _) (by omega) (by omega) HSax.out.2.size (by rfl) (by rfl) ?_;intro v4 w4 hown4 hb4 hg4;have hS4:=HC3.out w4 (HSax.out.2.trans hb4);have hrx:=rdV_far (sz:=3) (b:=w3.heap.size+1) (X:=[.int .i64 (a:Int),.slice Ax m k,.bool f]) (t:=191) (w:=w3.drew.alloc (.cells #[] 191)) (g:=w3.heap.size) rfl (by simp) (show((w3.drew.alloc (.cells #[] 191)).alloc (.cells #[.int .i64 (a:Int),.slice Ax m k,.bool f] 191)).grownBy w4 (some w3.heap.size) from hg4) (by simp))
    |(refine step_appV thingEl (.tmp 44) (.tmp 47) rfl rfl HOxa.out (HTK.out _ HSxa.out.2) HA3.out.no (fT_one _) (by omega) (by omega) HSxa.out.2.size (by rfl) (by rfl) ?_;intro v4 w4 hown4 hb4 hg4;have hS4:=HC3.out w4 (HSxa.out.2.trans hb4);have hrx:=rdV_far (sz:=3) (b:=w3.heap.size) (X:=[.int .i64 (a:Int),.slice Ax m k,.bool f]) (t:=191) (w:=w3.drew) (g:=w3.heap.size+1) rfl rfl ((World.grownBy_alloc (w3.drew.alloc (.cells #[.int .i64 (a:Int),.slice Ax m k,.bool f] 191)) (.cells #[] 191) (some (w3.heap.size+1))).trans (show((w3.drew.alloc (.cells #[.int .i64 (a:Int),.slice Ax m k,.bool f] 191)).alloc (.cells #[] 191)).grownBy w4 (some (w3.heap.size+1)) from hg4)) (by simp))
    |(refine step_appV (c:=1) thingEl (.tmp 48) (.tmp 50) rfl rfl (own_below hown4 (ext_alloc w4 (.cells #[.int .i64 (a:Int),.slice Ax m k,.bool f] 191)) (Nat.le_refl _)) (rdV_new (sz:=3) 191 w4 [.int .i64 (a:Int),.slice Ax m k,.bool f] rfl) (fun h=>by cases h) (fT_one [((a:Int),(Ax,m,k),f)]) (by omega) (by omega) (Nat.le_trans hS4.2.size (ext_alloc w4 (.cells #[.int .i64 (a:Int),.slice Ax m k,.bool f] 191)).size) (by rfl) (by rfl) ?_;intro v5 w5 hown5 hb5 hg5;have hS5:=HC3.out w5 (hS4.2.trans (((ext_alloc w4 (.cells #[.int .i64 (a:Int),.slice Ax m k,.bool f] 191)).mono hS4.2.size).trans hb5)))
    |(refine step_appV (c:=1) thingEl (.tmp 48) (.tmp 50) rfl rfl hown4 hrx (fun h=>by cases h) (fT_one [((a:Int),(Ax,m,k),f)]) (by omega) (by omega) hS4.2.size (by rfl) (by rfl) ?_;intro v5 w5 hown5 hb5 hg5;have hS5:=HC3.out w5 (hS4.2.trans hb5))
    |(refine step_appV thingEl (.tmp 51) (.tmp 54) rfl rfl hown5 (HDR.out _ hS5.2) (HA3.out.drop0_no) (fT_one _) (by omega) (by omega) hS5.2.size (by rfl) (by rfl) ?_;intro v6 w6 hown6 hb6 hg6;have hS6:=HC3.out w6 (hS5.2.trans hb6)))
   all_goals (
    have HX6:Aside (w6.ownsRow w.heap.size 191 3 v6 (i+1) (fT (putT x R))/\Below w.heap.size w w6):=by
     have hbz:b<=w3.heap.size:=by have:=HB3.out.size;have:=HBQ.out;omega
     rw[HBQ.out];refine⟨?_,HB3.out.trans (hS6.2.mono hbz)⟩;rw[HPUT.out,fT_app,fT_app];have hh:=own_lower hown6 hbz;rw[List.nil_append] at hh;have e:0+i+1+0=i+1:=by omega
     rw[e] at hh;rw[HX.out];exact hh
    clear hown6 hown5 hown4 hS6 hS5 hS4;go_wp2_with fail
    all_goals (
     go_ret
     exact⟨_,rfl,HX6.out⟩))
end Rf
end Go.Proofs.YtjligbmickfbdaaGreat
namespace Go.Proofs.YtjligbmickfbdaaGreat
namespace Rf
open Go.RowKit Ln
def vI (l:List Int):List Value:=l.map (Value.int .i64)
structure Tin (w:World) (x:RT) (y:ThR):Prop where
 wt:x.1=y.1
 lf:x.2.2=y.2.2
 sy:ArgV w 1 x.2.1.1 x.2.1.2.1 x.2.1.2.2 (vI y.2.1)
def Tins (w:World):List RT->List ThR->Prop
 | [],[]=>True
 |x::R,y::T=>Tin w x y/\Tins w R T
 |_,_=>False
section
variable {w w':World}
theorem Tin.ext {x:RT} {y:ThR} (h:Tin w x y) (hb:Below w.heap.size w w'):Tin w' x y:=⟨h.wt,h.lf,h.sy.ext hb⟩
theorem Tins.ext:∀{R:List RT} {T:List ThR},Tins w R T->Below w.heap.size w w'->Tins w' R T
 | [],[],_,_=>trivial
 |x::R,y::T,h,hb=>⟨h.1.ext hb,Tins.ext h.2 hb⟩
theorem Tins.len:∀{R:List RT} {T:List ThR},Tins w R T->R.length=T.length
 | [],[],_=>rfl
 |x::R,y::T,h=>by rw[List.length_cons,List.length_cons,Tins.len h.2]
theorem Tins.at:∀{R:List RT} {T:List ThR} {k:Nat} {x:RT} {y:ThR},Tins w R T->R[k]? =some x->T[k]? =some y->Tin w x y
 | [],[],_,_,_,_,h,_=>by simp at h
 |x::R,y::T,0,_,_,h,h1,h2=>by simp at h1 h2;subst h1 h2;exact h.1
 |x::R,y::T,k+1,_,_,h,h1,h2=>Tins.at h.2 (by simpa using h1) (by simpa using h2)
theorem go_same {x z:RT} {y u:ThR} (h:Tin w x y) (h2:Tin w z u):goT x z=goR y u:=by
 unfold goT goR;rw[h.wt,h.lf,h2.wt,h2.lf]
theorem Tins.put {x:RT} {y:ThR} (hx:Tin w x y):∀{R:List RT} {T:List ThR},Tins w R T->Tins w (putT x R) (putR y T)
 | [],[],_=>⟨hx,trivial⟩
 |z::R,u::T,h=>by
  rw[putT,putR,go_same hx h.1];split
  ·exact⟨h.1,Tins.put hx h.2⟩
  ·exact⟨hx,h⟩
end
theorem putT_len (x:RT):∀R,(putT x R).length=R.length+1
 | []=>rfl
 |y::R=>by
  rw[putT];split
  ·rw[List.length_cons,putT_len x R,List.length_cons]
  ·simp
def OwnH (w:World) (B:Nat) (v:Value) (T:List ThR):Prop:=∃R,w.ownsRow B 191 3 v R.length (fT R)/\Tins w R T
theorem OwnH.arg {w:World} {B:Nat} {v:Value} {T:List ThR} (h:OwnH w B v T):∃A c R,v=.slice A T.length c/\R.length=T.length/\ArgV w 3 A T.length c (fT R)/\Tins w R T:=by
 obtain⟨R,h1,h2⟩:=h;obtain⟨A,c,e,ha⟩:=argV_of_own h1;rw[h2.len] at e ha;exact⟨A,c,R,e,h2.len,ha,h2⟩
theorem OwnH.lower {w:World} {B C:Nat} {v:Value} {T:List ThR} (h:OwnH w B v T) (hC:C<=B):OwnH w C v T:=by
 obtain⟨R,h1,h2⟩:=h;exact⟨R,own_lower h1 hC,h2⟩
theorem OwnH.below {w w':World} {B:Nat} {v:Value} {T:List ThR} (h:OwnH w B v T) (hb:Below w.heap.size w w'):OwnH w' B v T:=by
 obtain⟨R,h1,h2⟩:=h;exact⟨R,own_below h1 hb (Nat.le_refl _),h2.ext hb⟩
theorem own_nilH (w:World) (B:Nat):OwnH w B (.slice none 0 0) []:=⟨[],World.ownsRow_nil _ _ _ _,trivial⟩
theorem putR_any (A Ax:Option Addr) (n c m k:Nat) (f:Bool) (R:List RT) (T:List ThR) (y:ThR) (w:World) (ha:ArgV w 3 A n c (fT R)) (ht:Tins w R T) (hn:n<=100000) (hx:Tin w (y.1,(Ax,m,k),f) y) (h0:0<=y.1) :
  Calls Tryz.prog 151 #[.slice A n c,.agg #[.int .i64 y.1,.slice Ax m k,.bool f]] w fun e w'=>∃v,e=.returned v/\OwnH w' w.heap.size v (putR y T)/\Below w.heap.size w w':=by
 obtain⟨y1,y2⟩:=y;obtain⟨a,rfl⟩:=Int.eq_ofNat_of_zero_le h0;refine(put8_any A n c a m k Ax f R w ha hn).mono ?_;rintro e w' ⟨v,rfl,h1,h2⟩;have hl:=ha.rd.len;rw[fT_len] at hl;exact⟨v,rfl,⟨_,by rw[putT_len,show R.length=n by omega];exact h1,((ht.ext h2).put (hx.ext h2))⟩,h2⟩
theorem lv_snoc (s n:Nat) (x:Int):∀l:List Int,l.length=n->lv s (l++[x])=lv s l++lv (s+n) [x]:=by
 intro l
 induction l generalizing s n with
 |nil=>intro h;simp at h;subst h;rfl
 |cons y l ih =>
  intro h;rw[List.length_cons] at h;rw[List.cons_append,lv,lv,ih (s+1) (n-1) (by omega),show s+1+(n-1)=s+n by omega];split<;>simp
def rowK (l:List Int) (k:Nat):List ThR:=putsR ((lv 0 (l.take k)).map (toR [] 0)) []
theorem rowK_leaf {l:List Int} {k:Nat} (h:k<l.length) (hp:0<l[k]):rowK l (k+1)=putR (l[k],[(k:Int)],true) (rowK l k):=by
 unfold rowK putsR;rw[List.take_add_one,List.getElem?_eq_getElem h];show List.foldl _ _ ((lv 0 (l.take k++[l[k]])).map _)=_
 rw[lv_snoc 0 k _ _ (by rw[List.length_take];omega),Nat.zero_add,lv,if_pos hp,lv,List.map_append,List.foldl_append];rfl
theorem rowK_none {l:List Int} {k:Nat} (h:k<l.length) (hp: ¬ 0<l[k]):rowK l (k+1)=rowK l k:=by
 unfold rowK putsR;rw[List.take_add_one,List.getElem?_eq_getElem h];show List.foldl _ _ ((lv 0 (l.take k++[l[k]])).map _)=_
 rw[lv_snoc 0 k _ _ (by rw[List.length_take];omega),Nat.zero_add,lv,if_neg hp,lv,List.append_nil]
theorem putsR_len:∀(xs row:List ThR),(putsR xs row).length=xs.length+row.length
 | [],row=>by simp[putsR]
 |x::xs,row=>by
  have:=putsR_len xs (putR x row);unfold putsR at *
  rw[List.foldl_cons,this,length_putR,List.length_cons];omega
theorem lv_len:∀(l:List Int) (s:Nat),(lv s l).length<=l.length
 | [],_=>by simp[lv]
 |x::l,s=>by
  have:=lv_len l (s+1);rw[lv];split<;>simp<;>omega
theorem rowK_len (l:List Int) (k:Nat):(rowK l k).length<=k:=by
 unfold rowK;rw[putsR_len,List.length_map];have:=lv_len (l.take k) 0;rw[List.length_take] at this;simp;omega
theorem rowK_all (l:List Int):rowK l l.length=(St.stab wt (lv 0 l)).map (toR [] 0):=by
 unfold rowK;have h:=putsR_first (lv 0 l) [] (by
  intro x hx;rw[List.nil_append] at hx;have:∀(l:List Int) (s:Nat),∀x∈lv s l,0<=x.2:=by
   intro l
   induction l with
   |nil=>intro s x hx;simp[lv] at hx
   |cons y l ih =>
    intro s x hx;rw[lv] at hx;split at hx
    ·rcases List.mem_cons.1 hx with rfl|hx
     ·exact Int.natCast_nonneg s
     ·exact ih _ x hx
    ·exact ih _ x hx
  exact this l 0 x hx)
 rw[List.take_length];exact h
set_option maxHeartbeats 6400000 in
set_option maxRecDepth 100000 in
theorem first_any (A:Option Addr) (n c:Nat) (l:List Int) (w:World) (hn:n<=257) (hl:∀x∈l,0<=x) (hrd:Rd w w.heap.size 1 A n (l.map (Value.int .i64))) :
  Calls Tryz.prog 132 #[.slice A n c] w fun e w'=>∃v,e=.returned v/\OwnH w' w.heap.size v (rowK l l.length)/\Below w.heap.size w w':=by
 have mixed:Tryz.prog.follows .mixedOrders=true:=by kernel_rfl
 have hln:l.length=n:=by simpa using hrd.len
 have HL:=Lib.hid hln;have HR:=Lib.hid hrd;have HNN:=Lib.hid hl;clear hln hrd hl
 go_enter Tryz.func132, Tryz.ntmps132
 go_wp2_with fail
 go_loopg [3,4] n (fun kx s3 s4 wr=>∃(i:Nat),s4=.int .i64 (i:Int)/\i<=n/\n-i<=kx/\Aside (OwnH wr w.heap.size s3 (rowK l i)/\Below w.heap.size w wr))
 case atStart=>exact⟨0,by go_num,by omega,by omega,own_nilH _ _,Below.refl _ _⟩
 case round =>
  obtain⟨i,rfl,hi,hik,H⟩:=hrel;by_cases hin:i<n
  ·obtain⟨ad,x,rfl,had,hx,hcell⟩:=(HR.out.below H.out.2).int1 hin
   have hil:i<l.length:=by have:=HL.out;omega
   rw[List.getElem?_eq_getElem hil,Option.some.injEq] at hx;by_cases h0:0<x
   ·obtain⟨Ao,co,R,rfl,hRl,harg,hti⟩:=H.out.1.arg
    have hrk:=rowK_len l i;have HST:=Lib.hid (rowK_leaf hil (by rw[hx];exact h0));rw[hx] at HST;have hin2:Tin (wr.alloc (.cells #[.int .i64 (i:Int)] 3)) (x,(some ⟨wr.heap.size,0,none⟩,1,1),true) (x,[(i:Int)],true) :=
     ⟨rfl,rfl,⟨rdV_new 3 wr [.int .i64 (i:Int)] rfl,Nat.le_refl _,by simp[maxLen],fun h=>by cases h⟩⟩
    have hb1:=ext_alloc wr (.cells #[.int .i64 (i:Int)] 3);have HP:=Lib.hid (putR_any Ao (some ⟨wr.heap.size,0,none⟩) (rowK l i).length co 1 1 true R (rowK l i) (x,[(i:Int)],true) _ (harg.ext hb1) (hti.ext hb1) (by omega) hin2 (Int.le_of_lt h0));have HB:=Lib.hid (H.out.2.trans (hb1.mono H.out.2.size));have g1:x>0:=h0;clear hx hti harg hin2 hb1 H;generalize hT:rowK l i=T at *
    clear hT;go_wp2_with (go_at_call 151;refine HP.out.mono ?_;rintro e1 w1 ⟨v1,rfl,hown1,hb1⟩)
    have HX:Aside (OwnH w1 w.heap.size v1 (rowK l (i+1))/\Below w.heap.size w w1):=⟨by rw[HST.out];exact hown1.lower HB.out.size,HB.out.trans (hb1.mono HB.out.size)⟩
    clear hown1 hb1;go_roundg (n-(i+1))
    case measure=>omega
    case rel=>exact⟨i+1,by go_num,by omega,by omega,HX.out⟩
   ·have hx0:x=0:=by have:=HNN.out _ (List.getElem_mem hil);omega
    subst hx0;have H2:Aside (OwnH wr w.heap.size u3 (rowK l (i+1))/\Below w.heap.size w wr):=by rw[rowK_none hil (by omega)];exact H.out
    clear H hx h0;go_wp2_with fail
    go_roundg (n-(i+1))
    case measure=>omega
    case rel=>exact⟨i+1,by go_num,by omega,by omega,H2.out⟩
  ·obtain rfl:i=n:=by omega
   have HE:Aside (OwnH wr w.heap.size u3 (rowK l l.length)/\Below w.heap.size w wr):=by rw[HL.out];exact H.out
   clear H;go_wp2_with fail
   go_ret
   exact⟨_,rfl,HE.out⟩
end Rf
end Go.Proofs.YtjligbmickfbdaaGreat
namespace Go.Proofs.YtjligbmickfbdaaGreat
namespace Rf
open Go.RowKit Go.Maps Ln
section
variable {w w':World} {B sz n c k:Nat} {A:Option Addr} {t ts:TypeId} {z:Value} {bt:Nat} {v:Value} {V X:List Value}
theorem run_appW {w0:World} {n0:Nat} (he:El t ts z sz bt) (ty:TypeId) (hown:w0.ownsRow B t sz v n0 V) (hrd:Rd w0 w0.heap.size sz A n X) (hA:A=none->c=0) (h1:∀u∈X,u.oneCell'=true) (hl:n0<=1000000000) (hn:n<=1000000000) (hB:B<=w0.heap.size) :
  ∃v' w',(Builtin.append_ #[ts,ts] ty #[v,.slice A n c]).run Tryz.prog w0=.ok v' w'/\w'.ownsRow B t sz v' (n0+n) (V++X)/\Below B w0 w'/\w0.grownBy w' v.ownBlock/\(v'.ownBlock=v.ownBlock∨v'.ownBlock=some w0.heap.size):=by
 obtain⟨i0,hi,hz0,hz1,hz2⟩:=info_parts he.info;have hs:=he.small;cases A with
 |none =>
  have hn0:n=0:=by
   rcases Nat.eq_zero_or_pos n with h0|h0
   ·exact h0
   ·obtain⟨ad,e,_⟩:=hrd.cells (by omega)
    cases e
  have hc0:=hA rfl;subst hn0 hc0;have hX:X=[]:=List.eq_nil_of_length_eq_zero (by rw[hrd.len];simp);subst hX;exact⟨v,w0,run_append_owned_none (P:=Tryz.prog) (w:=w0) B ts ty t i0 sz he.sl hi v n0 V hown,by rw[List.append_nil];exact hown,Below.refl _ _,⟨rfl,rfl,rfl,Nat.le_refl _,fun _ _ _=>rfl⟩,.inl rfl⟩
 |some ad =>
  obtain⟨v',w',hr,h2,h3,-,h4⟩:=run_append_own_at (P:=Tryz.prog) w0 B ts ty t i0 z sz bt he.sl hi hz0 hz1 hz2 he.zc he.pos v n0 V hown
   ad n c X hrd.len (by
    intro j u hu;have hj:=(List.getElem?_eq_some_iff.1 hu).1;rw[hrd.len] at hj;have hn0:0<n:=by
     rcases Nat.eq_zero_or_pos n with h0|h0
     ·subst h0;simp at hj
     ·exact h0
    obtain⟨ad',e,_,hc⟩:=hrd.cells hn0;cases e
    exact hc j u hu) h1 (by simp only[maxLen];omega) (Nat.le_trans (Nat.mul_le_mul_left _ hs) (by omega)) hB
  have hlt:=World.ownsRow.lt hown;exact⟨v',w',hr,h2,((Below.refl _ _).grown h3 hB (fun k hk=>(hlt k hk).1)),h3,h4⟩
end
section
variable {ops:Array Oper} {rest:List Oper} {o:Oper} {a:Act} {K:Act->World->Prop} {Q:Exit->Act->World->Prop} {E:Prop}
theorem step_appW {t ts:TypeId} {z:Value} {sz bt:Nat} (he:El t ts z sz bt) (s x:Operand) {w0:World} {B n0:Nat} {v:Value} {V X:List Value} {A:Option Addr} {n c:Nat}
  (hgd:o.guard=none) (ho:o.op=.call { callee:=.builtin .append,args:=#[s,x],argTypes:=#[ts,ts] })
  (hown:w0.ownsRow B t sz v n0 V) (hrd:Rd w0 w0.heap.size sz A n X) (hA:A=none->c=0) (h1:∀u∈X,u.oneCell'=true) (hl:n0<=1000000000) (hn:n<=1000000000) (hB:B<=w0.heap.size) (hs:a.eval s=v) (hx:a.eval x=.slice A n c)
  (h:∀v' w',w'.ownsRow B t sz v' (n0+n) (V++X)->Below B w0 w'->w0.grownBy w' v.ownBlock->(v'.ownBlock=v.ownBlock∨v'.ownBlock=some w0.heap.size)->K (a.put o.dst v') w') :
  if Region.wanted o (yielded ops a.tmps)=true then Oper.wp Tryz.prog o a w0 K Q else E:=by
 have hw:Region.wanted o (yielded ops a.tmps)=true:=by simp[Region.wanted,hgd]
 rw[if_pos hw];obtain⟨v',w',hr,h3,h4,h5,h6⟩:=run_appW he o.type hown hrd hA h1 hl hn hB;unfold Oper.wp execOp;simp only[ho,resolve,invoke,builtin,Sem.run_bind,Sem.run_pure,Result.andThen_ok,List.map_toArray,List.map_cons,List.map_nil,hs,hx,hr];exact h v' w' h3 h4 h5 h6
end
def zB:Obj:=.cells #[.int .i64 0,.slice none 0 0,.bool false] 191
theorem zB_cells {w:World} {g:Nat} (h:w.heap[g]? =some (.cells #[.int .i64 0,.slice none 0 0,.bool false] 191)):(w.cell? ⟨g,0,none⟩=some (.int .i64 0)/\w.cell? ⟨g,1,none⟩=some (.slice none 0 0)/\w.cell? ⟨g,2,none⟩=some (.bool false))/\w.frozen? ⟨g,0,none⟩=false/\w.frozen? ⟨g,1,none⟩=false/\w.frozen? ⟨g,2,none⟩=false :=
 ⟨⟨cell_of_row w g 0 _ _ _ h,cell_of_row w g 1 _ _ _ h,cell_of_row w g 2 _ _ _ h⟩,frozen_of_row w g 0 _ _ h,frozen_of_row w g 1 _ _ h,frozen_of_row w g 2 _ _ h⟩
theorem keepZ {w w':World} {gz:Nat} {o:Obj} {v v':Value} (hz:w.heap[gz]? =some o) (hn:v.ownBlock≠some gz) (hg:w.grownBy w' v.ownBlock) (hat:v'.ownBlock=v.ownBlock∨v'.ownBlock=some w.heap.size):w'.heap[gz]? =some o/\v'.ownBlock≠some gz:=by
 have hl:gz<w.heap.size:=(Array.getElem?_eq_some_iff.1 hz).1;refine⟨(hg.block gz hl hn.symm).trans hz,?_⟩;rcases hat with e|e
 ·rw[e];exact hn
 ·rw[e];intro h;cases h;omega
theorem kz_az {w3 w4:World} {v4:Value} (hg4:((w3.drew.alloc (.cells #[] 3)).alloc (.cells #[.int .i64 0,.slice none 0 0,.bool false] 191)).grownBy w4 (Value.ownBlock (.slice (some ⟨w3.heap.size,0,none⟩) 0 0))) (hat4:v4.ownBlock=Value.ownBlock (.slice (some ⟨w3.heap.size,0,none⟩) 0 0)∨v4.ownBlock=some ((w3.drew.alloc (.cells #[] 3)).alloc (.cells #[.int .i64 0,.slice none 0 0,.bool false] 191)).heap.size):w4.heap[w3.heap.size+1]? =some (.cells #[.int .i64 0,.slice none 0 0,.bool false] 191)/\v4.ownBlock≠some (w3.heap.size+1) :=
 keepZ (v:=.slice (some ⟨w3.heap.size,0,none⟩) 0 0) (gz:=w3.heap.size+1) (o:=(.cells #[.int .i64 0,.slice none 0 0,.bool false] 191)) (by have:=heap_alloc_new (w3.drew.alloc (.cells #[] 3)) (.cells #[.int .i64 0,.slice none 0 0,.bool false] 191);simpa using this) (fun e=>absurd (Option.some.inj (show some w3.heap.size=some (w3.heap.size+1) from e)) (by omega)) hg4 hat4
theorem kz_za {w3 w4:World} {v4:Value} (hg4:((w3.drew.alloc (.cells #[.int .i64 0,.slice none 0 0,.bool false] 191)).alloc (.cells #[] 3)).grownBy w4 (Value.ownBlock (.slice (some ⟨w3.heap.size+1,0,none⟩) 0 0))) (hat4:v4.ownBlock=Value.ownBlock (.slice (some ⟨w3.heap.size+1,0,none⟩) 0 0)∨v4.ownBlock=some ((w3.drew.alloc (.cells #[.int .i64 0,.slice none 0 0,.bool false] 191)).alloc (.cells #[] 3)).heap.size):w4.heap[w3.heap.size]? =some (.cells #[.int .i64 0,.slice none 0 0,.bool false] 191)/\v4.ownBlock≠some w3.heap.size :=
 keepZ (v:=.slice (some ⟨w3.heap.size+1,0,none⟩) 0 0) (gz:=w3.heap.size) (o:=(.cells #[.int .i64 0,.slice none 0 0,.bool false] 191)) (by
  have h1:(w3.drew.alloc (.cells #[.int .i64 0,.slice none 0 0,.bool false] 191)).heap[w3.heap.size]? =some (.cells #[.int .i64 0,.slice none 0 0,.bool false] 191):=heap_alloc_new w3.drew (.cells #[.int .i64 0,.slice none 0 0,.bool false] 191);exact(heap_alloc_old (w3.drew.alloc (.cells #[.int .i64 0,.slice none 0 0,.bool false] 191)) _ (show w3.heap.size<_ by simp)).trans h1) (fun e=>absurd (Option.some.inj (show some (w3.heap.size+1)=some w3.heap.size from e)) (by omega)) hg4 hat4
theorem vI_app (a b:List Int):vI (a++b)=vI a++vI b:=List.map_append ..
structure Mid (w3 W:World) (gz:Nat) (v:Value) (n:Nat) (l:List Int):Prop where
 bel:Below w3.heap.size w3 W
 own:W.ownsRow w3.heap.size 3 1 v n (vI l)
 row:W.heap[gz]? =some (.cells #[.int .i64 0,.slice none 0 0,.bool false] 191)
 ge:w3.heap.size<=gz
 ne:v.ownBlock≠some gz
theorem mid_of {w3 W:World} {gz n:Nat} {v:Value} {xs ys:List Int} (hb:Below w3.heap.size w3 W) (ho:W.ownsRow w3.heap.size 3 1 v n ([]++vI xs++vI ys)) (hz:W.heap[gz]? =some (.cells #[.int .i64 0,.slice none 0 0,.bool false] 191)/\v.ownBlock≠some gz) (hg:w3.heap.size<=gz):Mid w3 W gz v n (xs++ys) :=
 ⟨hb,by rw[List.nil_append,<-vI_app] at ho;exact ho,hz.1,hg,hz.2⟩
structure Fin3 (w3 W:World) (gz:Nat) (v:Value) (n:Nat) (x:Int) (l:List Int):Prop where
 bel:Below w3.heap.size w3 W
 own:W.ownsRow w3.heap.size 3 1 v n (vI l)
 c0:W.cell? ⟨gz,0,none⟩=some (.int .i64 x)
 c1:W.cell? ⟨gz,1,none⟩=some v
 c2:W.cell? ⟨gz,2,none⟩=some (.bool false)
theorem fin_new {w3 w5:World} {A:Option Addr} {m c:Nat} {x:Int} {xs ys:List Int} (hb:Below w3.heap.size w3 w5) (ho:w5.ownsRow w3.heap.size 3 1 (.slice A m c) m ([]++vI xs++vI ys)):Fin3 w3 (w5.alloc (.cells #[.int .i64 x,.slice A m c,.bool false] 191)) w5.heap.size (.slice A m c) m x (xs++ys):=by
 have r:=heap_alloc_new w5 (.cells #[.int .i64 x,.slice A m c,.bool false] 191);rw[List.nil_append,<-vI_app] at ho;exact⟨hb.trans ((ext_alloc w5 _).mono hb.size),own_below ho (ext_alloc w5 _) (Nat.le_refl _),cell_of_row _ w5.heap.size 0 _ _ _ r,cell_of_row _ w5.heap.size 1 _ _ _ r,cell_of_row _ w5.heap.size 2 _ _ _ r⟩
theorem Mid.fin {w3 W:World} {gz n:Nat} {v:Value} {l:List Int} (h:Mid w3 W gz v n l) (x:Int):Fin3 w3 (((W.setCell ⟨gz,0,none⟩ (.int .i64 x)).setCell ⟨gz,1,none⟩ v).setCell ⟨gz,2,none⟩ (.bool false)) gz v n x l:=by
 have r1:=Cn.row_set (k:=0) (u:=.int .i64 x) h.row;have r2:=Cn.row_set (k:=1) (u:=v) r1;have r3:=Cn.row_set (k:=2) (u:=.bool false) r2;have b1:=h.bel.setCell (p:=⟨gz,0,none⟩) h.ge (.int .i64 x);have b2:=b1.setCell (p:=⟨gz,1,none⟩) h.ge v;have b3:=b2.setCell (p:=⟨gz,2,none⟩) h.ge (.bool false);refine⟨b3,own_setCell_far (a:=⟨gz,2,none⟩) (own_setCell_far (a:=⟨gz,1,none⟩) (own_setCell_far (a:=⟨gz,0,none⟩) h.own h.ne _) h.ne _) h.ne _,?_,?_,?_⟩
 ·exact cell_of_row _ gz 0 _ _ _ r3
 ·exact cell_of_row _ gz 1 _ _ _ r3
 ·exact cell_of_row _ gz 2 _ _ _ r3
def Far (q:Nat) (x:RT):Prop:=0<x.2.1.2.1-> ∀ad,x.2.1.1=some ad->ad.block≠q
def OwnHQ (q:Nat) (w:World) (B:Nat) (v:Value) (T:List ThR):Prop:=∃R,w.ownsRow B 191 3 v R.length (fT R)/\Tins w R T/\ ∀x∈R,Far q x
theorem OwnHQ.arg {q:Nat} {w:World} {B:Nat} {v:Value} {T:List ThR} (h:OwnHQ q w B v T):∃A c R,v=.slice A T.length c/\R.length=T.length/\ArgV w 3 A T.length c (fT R)/\Tins w R T/\ ∀x∈R,Far q x:=by
 obtain⟨R,h1,h2,h3⟩:=h;obtain⟨A,c,e,ha⟩:=argV_of_own h1;rw[h2.len] at e ha;exact⟨A,c,R,e,h2.len,ha,h2,h3⟩
theorem OwnHQ.lower {q:Nat} {w:World} {B C:Nat} {v:Value} {T:List ThR} (h:OwnHQ q w B v T) (hC:C<=B):OwnHQ q w C v T:=by
 obtain⟨R,h1,h2,h3⟩:=h;exact⟨R,own_lower h1 hC,h2,h3⟩
theorem OwnHQ.below {q:Nat} {w w':World} {B:Nat} {v:Value} {T:List ThR} (h:OwnHQ q w B v T) (hb:Below w.heap.size w w'):OwnHQ q w' B v T:=by
 obtain⟨R,h1,h2,h3⟩:=h;exact⟨R,own_below h1 hb (Nat.le_refl _),h2.ext hb,h3⟩
theorem own_nilHQ (q:Nat) (w:World) (B:Nat):OwnHQ q w B (.slice none 0 0) []:=⟨[],World.ownsRow_nil _ _ _ _,trivial,fun _ h=>by simp at h⟩
theorem putT_mem (x z:RT):∀R,z∈putT x R->z=x∨z∈R
 | [],h=>by simp[putT] at h;exact .inl h
 |y::R,h=>by
  rw[putT] at h;split at h
  ·rcases List.mem_cons.1 h with h|h
   ·exact .inr (by simp[h])
   ·rcases putT_mem x z R h with h|h
    ·exact .inl h
    ·exact .inr (by simp[h])
  ·rcases List.mem_cons.1 h with h|h
   ·exact .inl h
   ·exact .inr h
theorem putRQ_any {q:Nat} (A Ax:Option Addr) (n c m k:Nat) (f:Bool) (R:List RT) (T:List ThR) (y:ThR) (w:World) (ha:ArgV w 3 A n c (fT R)) (ht:Tins w R T) (hf:∀z∈R,Far q z) (hn:n<=100000) (hx:Tin w (y.1,(Ax,m,k),f) y) (hfx:Far q (y.1,(Ax,m,k),f)) (h0:0<=y.1) :
  Calls Tryz.prog 151 #[.slice A n c,.agg #[.int .i64 y.1,.slice Ax m k,.bool f]] w fun e w'=>∃v,e=.returned v/\OwnHQ q w' w.heap.size v (putR y T)/\Below w.heap.size w w':=by
 obtain⟨y1,y2⟩:=y;obtain⟨a,rfl⟩:=Int.eq_ofNat_of_zero_le h0;refine(put8_any A n c a m k Ax f R w ha hn).mono ?_;rintro e w' ⟨v,rfl,h1,h2⟩;have hl:=ha.rd.len;rw[fT_len] at hl;exact⟨v,rfl,⟨_,by rw[putT_len,show R.length=n by omega];exact h1,((ht.ext h2).put (hx.ext h2)),fun z hz=>by
  rcases putT_mem _ z R hz with h|h
  ·rw[h];exact hfx
  ·exact hf z h⟩,h2⟩
def Bd (M S N:Nat) (T:List ThR):Prop:=∀y∈T,0<=y.1/\y.1<=M/\y.2.1.length<=S/\ ∀s∈y.2.1,0<=s/\s<N
theorem pairR_two {T:List ThR} {i:Nat} {x y:ThR} (h1:T[i]? =some x) (h2:T[i+1]? =some y):pairR (T.drop i)=(x.1+y.1,x.2.1++y.2.1,false)::pairR (T.drop (i+2)):=by
 obtain⟨k1,e1⟩:=List.getElem?_eq_some_iff.1 h1;obtain⟨k2,e2⟩:=List.getElem?_eq_some_iff.1 h2;rw[List.drop_eq_getElem_cons k1,List.drop_eq_getElem_cons k2,e1,e2,pairR]
theorem pairR_end {T:List ThR} {i:Nat} (h:T.length<=i+1):pairR (T.drop i)=[]:=by
 have hl:(T.drop i).length<=1:=by rw[List.length_drop];omega
 rcases hd:T.drop i with _|⟨x,_|⟨y,r⟩⟩
 ·rfl
 ·rfl
 ·rw[hd] at hl;simp at hl
set_option maxHeartbeats 6400000 in
set_option maxRecDepth 100000 in
theorem next_any (q:Nat) (A A2:Option Addr) (n c n2 c2:Nat) (R R2:List RT) (T L:List ThR) (w:World) (hn:n<=2000) (hn2:n2<=2000) (ha:ArgV w 3 A n c (fT R)) (ht:Tins w R T) (ha2:ArgV w 3 A2 n2 c2 (fT R2)) (ht2:Tins w R2 L) (hq:q<w.heap.size) (hf:∀z∈R,Far q z) (hf2:∀z∈R2,Far q z) (hbd:Bd 100000000000 100000 257 T) (hbd2:Bd 100000000000 100000 257 L) :
  Calls Tryz.prog 134 #[.slice A n c,.slice A2 n2 c2] w fun e w'=>∃v,e=.returned v/\OwnHQ q w' w.heap.size v (nextR T L)/\Below w.heap.size w w':=by
 have mixed:Tryz.prog.follows .mixedOrders=true:=by kernel_rfl
 have hRn:R.length=n:=by have:=ha.rd.len;rw[fT_len] at this;omega
 have hRn2:R2.length=n2:=by have:=ha2.rd.len;rw[fT_len] at this;omega
 have hTn:T.length=n:=by rw[<-ht.len];exact hRn
 have hLn:L.length=n2:=by rw[<-ht2.len];exact hRn2
 have HA:=Lib.hid ha;have HT:=Lib.hid ht;have HA2:=Lib.hid ha2;have HT2:=Lib.hid ht2;have HBD:=Lib.hid hbd;have HBD2:=Lib.hid hbd2;have HTN:=Lib.hid hTn;have HLN:=Lib.hid hLn;have HRN:=Lib.hid hRn;have HRN2:=Lib.hid hRn2;have HF:=Lib.hid hf;have HF2:=Lib.hid hf2;have HQ:=Lib.hid hq;clear hf hf2 hq;clear ha ht ha2 ht2 hbd hbd2 hTn hLn hRn hRn2
 go_enter Tryz.func134, Tryz.ntmps134
 go_wp2_with fail
 go_loopg [5,6] n (fun kx s5 s6 wr=>∃(i:Nat) (U:List ThR),s6=.int .i64 (i:Int)/\i<=n/\n-i<=kx/\U.length<=i/\Hid (putsR (pairR (T.drop i)) U=putsR (pairR T) [])/\Aside (OwnHQ q wr w.heap.size s5 U/\Below w.heap.size w wr))
 case atStart=>exact⟨0,[],by go_num,by omega,by omega,Nat.le_refl _,(by show _=_;rfl),own_nilHQ _ _ _,Below.refl _ _⟩
 case round =>
  obtain⟨i,U,rfl,hi,hik,hUi,hU,H⟩:=hrel;by_cases hin:i+1<n
  ·obtain⟨ad,rfl⟩:=HA.out.some (by omega)
   obtain⟨x,hx⟩:∃x,T[i]? =some x:=⟨T[i]'(by rw[HTN.out];omega),List.getElem?_eq_getElem _⟩
   obtain⟨y,hy⟩:∃y,T[i+1]? =some y:=⟨T[i+1]'(by rw[HTN.out];omega),List.getElem?_eq_getElem _⟩
   obtain⟨a,ha⟩:∃a,R[i]? =some a:=⟨R[i]'(by rw[HRN.out];omega),List.getElem?_eq_getElem _⟩
   obtain⟨b,hb⟩:∃b,R[i+1]? =some b:=⟨R[i+1]'(by rw[HRN.out];omega),List.getElem?_eq_getElem _⟩
   have hta:=(HT.out.at ha hx).ext H.out.2;have htb:=(HT.out.at hb hy).ext H.out.2;have hxb:=HBD.out x (List.mem_of_getElem? hx);have hyb:=HBD.out y (List.mem_of_getElem? hy);have HPR:=Lib.hid (pairR_two hx hy);obtain⟨ca0,ca1,-⟩:=argT_cell HA.out H.out.2 ha;obtain⟨cb0,cb1,-⟩:=argT_cell HA.out H.out.2 hb;obtain⟨a1,⟨Aa,ma,ka⟩,fa⟩:=a;obtain⟨b1,⟨Ab,mb,kb⟩,fb⟩:=b;obtain⟨x1,xs,xf⟩:=x;obtain⟨y1,ys,yf⟩:=y;obtain rfl:a1=x1:=hta.wt;obtain rfl:b1=y1:=htb.wt;have hadl:ad.block<wr.heap.size:=by
    obtain⟨ad',e,h,_⟩:=HA.out.rd.cells (by omega);cases e
    exact Nat.lt_of_lt_of_le h H.out.2.size
   have hma:xs.length=ma:=by have:=hta.sy.rd.len;unfold vI at this;simpa using this
   have hmb:ys.length=mb:=by have:=htb.sy.rd.len;unfold vI at this;simpa using this
   simp only at hxb hyb ca0 ca1 cb0 cb1;have HSA:=Lib.hid hta.sy;have HSB:=Lib.hid htb.sy;have HXB:=Lib.hid hxb;have HYB:=Lib.hid hyb;have hma2:ma<=100000:=by omega
   have hmb2:mb<=100000:=by omega
   have w0a:0<=a1/\a1<=100000000000:=⟨hxb.1,hxb.2.1⟩
   have w0b:0<=b1/\b1<=100000000000:=⟨hyb.1,hyb.2.1⟩
   have HMA:=Lib.hid hma;have HMB:=Lib.hid hmb;have g1:(i:Int)<(n:Int):=by omega
   have g2:(i:Int)+1<(n:Int):=by omega
   have q1:IntKind.i64.wrap ((i:Int)+1)=(i:Int)+1:=by rw[IntKind.wrap_i64];omega
   have q2:(0:Int)<=(i:Int)+1:=by omega
   have q3:(0:Int)<=(i:Int):=by omega
   have q4:((i:Int)+1).toNat=i+1:=by omega
   have q5:IntKind.i64.wrap (a1+b1)=a1+b1:=by rw[IntKind.wrap_i64];omega
   clear hx hy ha hb hta htb hxb hyb hma hmb;go_wp2_with fail
   generalize wr=w3 at *
   have hC:∀wx,Below w3.heap.size w3 wx->(wx.cell? (ad.add (i*3))=some (.int .i64 a1)/\wx.cell? ⟨(ad.add (i*3)).block,(ad.add (i*3)).off+1,none⟩=some (.slice Aa ma ka)/\wx.cell? (ad.add ((i+1)*3))=some (.int .i64 b1)/\wx.cell? ⟨(ad.add ((i+1)*3)).block,(ad.add ((i+1)*3)).off+1,none⟩=some (.slice Ab mb kb))/\Below w3.heap.size w3 wx:=fun wx hb =>
    ⟨⟨(hb.cell (p:=ad.add (i*3)) (by rw[add_block];exact hadl)).trans ca0,(hb.cell (p:=⟨(ad.add (i*3)).block,(ad.add (i*3)).off+1,none⟩) (by show(ad.add (i*3)).block<_;rw[add_block];exact hadl)).trans ca1,(hb.cell (p:=ad.add ((i+1)*3)) (by rw[add_block];exact hadl)).trans cb0,(hb.cell (p:=⟨(ad.add ((i+1)*3)).block,(ad.add ((i+1)*3)).off+1,none⟩) (by show(ad.add ((i+1)*3)).block<_;rw[add_block];exact hadl)).trans cb1⟩,hb⟩
   have HC:=Lib.hid hC;have hdr:Below w3.heap.size w3 w3.drew:=⟨rfl,rfl,rfl,Nat.le_refl _,fun _ _=>rfl⟩
   have HSd:=Lib.hid (HC.out _ hdr);have HSa:=Lib.hid (HC.out _ (hdr.trans (ext_alloc w3.drew (.cells #[] 3))));have HSz:=Lib.hid (HC.out _ (hdr.trans (ext_alloc w3.drew (.cells #[.int .i64 0,.slice none 0 0,.bool false] 191))));have HSaz:=Lib.hid (HC.out _ (HSa.out.2.trans ((ext_alloc (w3.drew.alloc (.cells #[] 3)) (.cells #[.int .i64 0,.slice none 0 0,.bool false] 191)).mono HSa.out.2.size)));have HSza:=Lib.hid (HC.out _ (HSz.out.2.trans ((ext_alloc (w3.drew.alloc (.cells #[.int .i64 0,.slice none 0 0,.bool false] 191)) (.cells #[] 3)).mono HSz.out.2.size)));have HOa:Aside ((w3.drew.alloc (.cells #[] 3)).ownsRow w3.heap.size 3 1 (.slice (some ⟨w3.heap.size,0,none⟩) 0 0) 0 []):=ownV_empty 3 w3.drew;have HOaz:Aside (((w3.drew.alloc (.cells #[] 3)).alloc (.cells #[.int .i64 0,.slice none 0 0,.bool false] 191)).ownsRow w3.heap.size 3 1 (.slice (some ⟨w3.heap.size,0,none⟩) 0 0) 0 []):=own_below HOa.out (ext_alloc (w3.drew.alloc (.cells #[] 3)) (.cells #[.int .i64 0,.slice none 0 0,.bool false] 191)) (Nat.le_refl _);have HOza:Aside (((w3.drew.alloc (.cells #[.int .i64 0,.slice none 0 0,.bool false] 191)).alloc (.cells #[] 3)).ownsRow w3.heap.size 3 1 (.slice (some ⟨w3.heap.size+1,0,none⟩) 0 0) 0 []):=ownV_empty2 3 191 w3 w3.drew #[.int .i64 0,.slice none 0 0,.bool false] rfl;have HRA:=Lib.hid (fun(wx:World) (hb:Below w3.heap.size w3 wx)=>(HSA.out.ext hb).rd);have HRB:=Lib.hid (fun(wx:World) (hb:Below w3.heap.size w3 wx)=>(HSB.out.ext hb).rd);have hone:Hid (∀l:List Int,∀u∈vI l,u.oneCell'=true):=fun l u hu=>by
    obtain⟨q,_,rfl⟩:=List.mem_map.1 hu;rfl
   clear hC hdr ca0 ca1 cb0 cb1;go_region_held3 (fun wx=>(wx.cell? (ad.add (i*3))=some (.int .i64 a1)/\wx.cell? ⟨(ad.add (i*3)).block,(ad.add (i*3)).off+1,none⟩=some (.slice Aa ma ka)/\wx.cell? (ad.add ((i+1)*3))=some (.int .i64 b1)/\wx.cell? ⟨(ad.add ((i+1)*3)).block,(ad.add ((i+1)*3)).off+1,none⟩=some (.slice Ab mb kb))/\Below w3.heap.size w3 wx) (first|exact HSd.out|exact HSa.out|exact HSz.out|exact HSaz.out|exact HSza.out|assumption|exact HC.out _ (hmid.out.fin (a1+b1)).bel|exact HC.out _ (hS4.2.trans ((ext_alloc w4 _).mono hS4.2.size))|exact HC.out _ (hS5.2.trans ((ext_alloc w5 _).mono hS5.2.size))) (first
    |(refine step_appW intEl (.tmp 28) (.tmp 33) rfl rfl HOa.out (HRA.out _ HSa.out.2) HSA.out.no (hone.out _) (by omega) (by omega) HSa.out.2.size (by rfl) (by rfl) ?_;intro v4 w4 hown4 hb4 hg4 hat4;have hS4:=HC.out w4 (HSa.out.2.trans hb4))
    |(refine step_appW intEl (.tmp 28) (.tmp 33) rfl rfl HOaz.out (HRA.out _ HSaz.out.2) HSA.out.no (hone.out _) (by omega) (by omega) HSaz.out.2.size (by rfl) (by rfl) ?_;intro v4 w4 hown4 hb4 hg4 hat4;have hS4:=HC.out w4 (HSaz.out.2.trans hb4);have kz4:=kz_az hg4 hat4;have hge:=Nat.le_succ w3.heap.size)
    |(refine step_appW intEl (.tmp 28) (.tmp 33) rfl rfl HOza.out (HRA.out _ HSza.out.2) HSA.out.no (hone.out _) (by omega) (by omega) HSza.out.2.size (by rfl) (by rfl) ?_;intro v4 w4 hown4 hb4 hg4 hat4;have hS4:=HC.out w4 (HSza.out.2.trans hb4);have kz4:=kz_za hg4 hat4;have hge:=Nat.le_refl w3.heap.size)
    |(refine step_appW intEl (.tmp 34) (.tmp 40) rfl rfl (own_below hown4 (ext_alloc w4 (.cells #[.int .i64 0,.slice none 0 0,.bool false] 191)) (Nat.le_refl _)) (HRB.out _ (hS4.2.trans ((ext_alloc w4 (.cells #[.int .i64 0,.slice none 0 0,.bool false] 191)).mono hS4.2.size))) HSB.out.no (hone.out _) (by omega) (by omega) (hS4.2.trans ((ext_alloc w4 (.cells #[.int .i64 0,.slice none 0 0,.bool false] 191)).mono hS4.2.size)).size (by rfl) (by rfl) ?_;intro v5 w5 hown5 hb5 hg5 hat5;rw[Nat.zero_add] at hown5;have hS5:=HC.out w5 ((hS4.2.trans ((ext_alloc w4 (.cells #[.int .i64 0,.slice none 0 0,.bool false] 191)).mono hS4.2.size)).trans hb5);have kz5:=keepZ (heap_alloc_new w4 (.cells #[.int .i64 0,.slice none 0 0,.bool false] 191)) (fun e=>Nat.lt_irrefl _ (World.ownsRow.lt hown4 _ e).2) hg5 hat5;have hmid:Aside _:=mid_of hS5.2 hown5 kz5 hS4.2.size;obtain⟨A5,c5,rfl,harg5⟩:=argV_of_own hown5;obtain⟨⟨zc0,zc1,zc2⟩,zf0,zf1,zf2⟩:=zB_cells kz5.1)
    |(refine step_appW intEl (.tmp 34) (.tmp 40) rfl rfl hown4 (HRB.out _ hS4.2) HSB.out.no (hone.out _) (by omega) (by omega) hS4.2.size (by rfl) (by rfl) ?_;intro v5 w5 hown5 hb5 hg5 hat5;rw[Nat.zero_add] at hown5;have hS5:=HC.out w5 (hS4.2.trans hb5);have kz5:=keepZ kz4.1 kz4.2 hg5 hat5;have hmid:Aside _:=mid_of hS5.2 hown5 kz5 hge;obtain⟨A5,c5,rfl,harg5⟩:=argV_of_own hown5;obtain⟨⟨zc0,zc1,zc2⟩,zf0,zf1,zf2⟩:=zB_cells kz5.1)
    |(refine step_appW intEl (.tmp 34) (.tmp 40) rfl rfl hown4 (HRB.out _ hS4.2) HSB.out.no (hone.out _) (by omega) (by omega) hS4.2.size (by rfl) (by rfl) ?_;intro v5 w5 hown5 hb5 hg5 hat5;rw[Nat.zero_add] at hown5;have hS5:=HC.out w5 (hS4.2.trans hb5);have kz5:=And.intro (heap_alloc_new w5 (.cells #[.int .i64 0,.slice none 0 0,.bool false] 191)) (show v5.ownBlock≠some w5.heap.size from fun e=>Nat.lt_irrefl _ (World.ownsRow.lt hown5 _ e).2);obtain⟨A5,c5,rfl,harg5⟩:=argV_of_own hown5;have hfin4:Aside _:=fin_new (x:=a1+b1) hS5.2 hown5;obtain⟨⟨zc0,zc1,zc2⟩,zf0,zf1,zf2⟩:=zB_cells kz5.1))
   all_goals (
    first
     |have hfin:Aside _:=hmid.out.fin (a1+b1)
      clear hmid
     |have hfin:Aside _:=hfin4.out
      clear hfin4
    clear kz5 zc0 zc1 zc2 zf0 zf1 zf2 hown5 hb5 hg5 hat5 harg5 hS5 hS4 hown4 hb4 hg4 hat4;have hbw:Below w3.heap.size w3 _:=hfin.out.bel;obtain⟨Ao,co,RU,rfl,hRU,hargU,htU,hfU⟩:=H.out.1.arg;have hx0:=hfin.out.c0;have hx1:=hfin.out.c1;have hx2:=hfin.out.c2;have hBW:=H.out.2.trans (hbw.mono H.out.2.size);have HBW:Aside _:=hBW;have hfar:Far q (a1+b1,(A5,ma+mb,c5),false):=by
     intro _ ad9 e9 e8;subst e9;have hge:=(World.ownsRow.lt hfin.out.own ad9.block rfl).1;have h1:=HQ.out;have h2:=H.out.2.size;rw[e8] at hge;omega
    obtain⟨A',c',e',harg'⟩:=argV_of_own hfin.out.own;cases e'
    have hP:=putRQ_any (q:=q) Ao A5 U.length co (ma+mb) c5 false RU U (a1+b1,xs++ys,false) _ (hargU.ext hbw) (htU.ext hbw) hfU (by omega) ⟨rfl,rfl,harg'⟩ hfar (by show 0<=a1+b1;omega);have HP:=Lib.hid hP;have HU2:Hid (putsR (pairR (T.drop (i+2))) (putR (a1+b1,xs++ys,false) U)=putsR (pairR T) []):=by
     have:=hU.out;rw[HPR.out] at this;exact this
    have HUL:Hid ((putR (a1+b1,xs++ys,false) U).length<=i+2):=by show _<=_;rw[length_putR];omega
    clear hP hBW hbw hfin H harg' hargU htU hfU hfar;go_wp2_with (go_at_call 151;refine HP.out.mono ?_;rintro e6 w6 ⟨v6,rfl,hown6,hb6⟩)
    have HX:Aside (OwnHQ q w6 w.heap.size v6 (putR (a1+b1,xs++ys,false) U)/\Below w.heap.size w w6):=⟨hown6.lower HBW.out.size,HBW.out.trans (hb6.mono HBW.out.size)⟩
    clear hown6 hb6;go_roundg (n-(i+2))
    case measure=>omega
    case rel=>exact⟨i+2,_,by go_num,by omega,by omega,HUL.out,HU2.out,HX.out⟩)
  ·have hU2:=hU.out
   rw[pairR_end (by rw[HTN.out];omega)] at hU2;have hU2:U=putsR (pairR T) []:=hU2;have HU2:Hid (U=putsR (pairR T) []):=hU2;have hUl:U.length<=2000:=by omega
   have hdd:decide ((i:Int)+1<(n:Int))=false:=decide_eq_false (by omega);clear hU2 hU hin hUi;go_wp2_with fail
   have H0:Aside (OwnHQ q wr w.heap.size u5 U/\Below w.heap.size w wr):=H.out;clear H;go_loopg [5,8] n2 (fun kx s5 s8 wr2=>∃(j:Nat) (V:List ThR),s8=.int .i64 (j:Int)/\j<=n2/\n2-j<=kx/\V.length<=2000+j/\Hid (putsR (L.drop j) V=nextR T L)/\Aside (OwnHQ q wr2 w.heap.size s5 V/\Below w.heap.size w wr2))
   case atStart=>exact⟨0,U,by go_num,by omega,by omega,by omega,(by show _=_;rw[HU2.out];rfl),H0.out⟩
   case round =>
    clear H0;obtain⟨j,V,rfl,hj,hjk,hVl,hV,H⟩:=hrel;by_cases hjn:j<n2
    ·obtain⟨ad2,rfl⟩:=HA2.out.some (by omega)
     obtain⟨y,hy⟩:∃y,L[j]? =some y:=⟨L[j]'(by rw[HLN.out];omega),List.getElem?_eq_getElem _⟩
     obtain⟨a,ha⟩:∃a,R2[j]? =some a:=⟨R2[j]'(by rw[HRN2.out];omega),List.getElem?_eq_getElem _⟩
     have hta:=(HT2.out.at ha hy).ext H.out.2;have hyb:=HBD2.out y (List.mem_of_getElem? hy);obtain⟨c0,c1,c2⟩:=argT_cell HA2.out H.out.2 ha;have hdr:L.drop j=y::L.drop (j+1):=by
      obtain⟨k1,e1⟩:=List.getElem?_eq_some_iff.1 hy;rw[List.drop_eq_getElem_cons k1,e1]
     have hV2:=hV.out;rw[hdr] at hV2;have HV2:Hid (putsR (L.drop (j+1)) (putR y V)=nextR T L):=hV2;have HVL:Hid ((putR y V).length<=2000+(j+1)):=by show _<=_;rw[length_putR];omega
     have hfa:=HF2.out a (List.mem_of_getElem? ha);obtain⟨a1,⟨Aa,ma,ka⟩,fa⟩:=a;obtain⟨y1,ys,yf⟩:=y;obtain rfl:a1=y1:=hta.wt;obtain rfl:fa=yf:=hta.lf;simp only at c0 c1 c2 hyb;obtain⟨Ao,co,RU,rfl,hRU,hargU,htU,hfU⟩:=H.out.1.arg;have HP:=Lib.hid (putRQ_any (q:=q) Ao Aa V.length co ma ka fa RU V (a1,ys,fa) wr hargU htU hfU (by omega) hta (hfa) hyb.1);have HB:=Lib.hid H.out.2;clear hdr hV2 hV hyb hta hy ha H hargU htU hfU hfa;go_wp2_with (go_at_call 151;refine HP.out.mono ?_;rintro e6 w6 ⟨v6,rfl,hown6,hb6⟩)
     have HX:Aside (OwnHQ q w6 w.heap.size v6 (putR (a1,ys,fa) V)/\Below w.heap.size w w6):=⟨hown6.lower HB.out.size,HB.out.trans (hb6.mono HB.out.size)⟩
     clear hown6 hb6;go_roundg (n2-(j+1))
     case measure=>omega
     case rel=>exact⟨j+1,_,by go_num,by omega,by omega,HVL.out,HV2.out,HX.out⟩
    ·have hVV:V=nextR T L:=by
      have:=hV.out;rw[List.drop_eq_nil_of_le (by rw[HLN.out];omega)] at this;exact this
     have HE:Aside (OwnHQ q wr w.heap.size u5 (nextR T L)/\Below w.heap.size w wr):=by rw[<-hVV];exact H.out
     clear hVV hV H;go_wp2_with fail
     go_ret
     exact⟨_,rfl,HE.out⟩
end Rf
end Go.Proofs.YtjligbmickfbdaaGreat
