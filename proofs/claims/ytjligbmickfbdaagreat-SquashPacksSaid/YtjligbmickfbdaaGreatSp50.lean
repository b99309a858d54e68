/- varveref08.put. varveref08: things and what they stand for; first. -/
import Derived.Test.YtjligbmickfbdaaGreatSp49
namespace Go.Proofs.YtjligbmickfbdaaGreat
namespace Rf
open Go.RowKit Ln
set_option maxHeartbeats 6400000 in
set_option maxRecDepth 100000 in
theorem put8_any (A:Option Addr) (n c a m k:Nat) (Ax:Option Addr) (f:Bool) (R:List RT) (w:World) (ha:ArgV w 3 A n c (fT R)) (hn:n<=100000) :
  Calls Tryz.prog 151 #[.slice A n c,.agg #[.int .i64 (a:Int),.slice Ax m k,.bool f]] w fun e w'=>∃v,e=.returned v/\w'.ownsRow w.heap.size 191 3 v (n+1) (fT (putT ((a:Int),(Ax,m,k),f) R))/\Below w.heap.size w w':=by
 have mixed:Tryz.prog.follows .mixedOrders=true:=by kernel_rfl
 have hln:R.length=n:=by have:=ha.rd.len;rw[fT_len] at this;omega
 have hnc:=ha.nc;have hcm:c<=9223372036854775807:=by have:=ha.cm;unfold maxLen at this;omega
 have HL:=Lib.hid hln;obtain⟨x,hx⟩:∃x:RT,x=((a:Int),(Ax,m,k),f):=⟨_,rfl⟩
 rw[<-hx];have HX:=Lib.hid hx;obtain⟨w1,hw1⟩:∃w1,w1=w.alloc (.cells #[.int .i64 (a:Int),.slice Ax m k,.bool f] 191):=⟨_,rfl⟩
 have hb1:Below w.heap.size w w1:=by rw[hw1];exact ext_alloc w _
 have hz1:w1.heap.size=w.heap.size+1:=by rw[hw1];simp
 have hx0:w1.cell? ⟨w.heap.size,0,none⟩=some (.int .i64 (a:Int)):=by rw[hw1];exact cell_of_row _ w.heap.size 0 _ _ _ (heap_alloc_new w _)
 have hx1:w1.cell? ⟨w.heap.size,1,none⟩=some (.slice Ax m k):=by rw[hw1];exact cell_of_row _ w.heap.size 1 _ _ _ (heap_alloc_new w _)
 have hx2:w1.cell? ⟨w.heap.size,2,none⟩=some (.bool f):=by rw[hw1];exact cell_of_row _ w.heap.size 2 _ _ _ (heap_alloc_new w _)
 have hXC:∀wx,Below w1.heap.size w1 wx->(wx.cell? ⟨w.heap.size,0,none⟩=some (.int .i64 (a:Int))/\wx.cell? ⟨w.heap.size,1,none⟩=some (.slice Ax m k)/\wx.cell? ⟨w.heap.size,2,none⟩=some (.bool f))/\Below w1.heap.size w1 wx:=fun wx hb =>
  ⟨⟨(hb.cell (p:=⟨w.heap.size,0,none⟩) (by show w.heap.size<_;omega)).trans hx0,(hb.cell (p:=⟨w.heap.size,1,none⟩) (by show w.heap.size<_;omega)).trans hx1,(hb.cell (p:=⟨w.heap.size,2,none⟩) (by show w.heap.size<_;omega)).trans hx2⟩,hb⟩
 have HC:=Lib.hid hXC;have HA:=Lib.hid (ha.ext hb1);have HB1:=Lib.hid hb1;clear hx hXC hx0 hx1 hx2 ha hln
 go_enter Tryz.func151, Tryz.ntmps151
 go_wp2_with fail
 rw[<-hw1];have HW1:=Lib.hid hw1;have HZ1:=Lib.hid hz1;clear hw1 hb1 hz1;generalize hbq:w.heap.size=b at *
 have HBQ:=Lib.hid hbq;clear hbq;go_loopg [5] n (fun kx s5 wi=>∃(i:Nat),s5=.int .i64 (i:Int)/\i<=n/\n-i<=kx/\Hid (∀y∈R.take i,goT x y=true)/\Aside (Below w1.heap.size w1 wi))
 case atStart=>exact⟨0,by go_num,by omega,by omega,(fun y hy=>by simp at hy),Below.refl _ _⟩
 case round =>
  obtain⟨i,rfl,hi,hik,hgo,HI⟩:=hrel;obtain⟨⟨x0,x1,x2⟩,-⟩:=HC.out wr HI.out;by_cases hin:i<n
  ·obtain⟨ad,rfl⟩:=HA.out.some (by omega)
   have hil:i<R.length:=by have:=HL.out;omega
   obtain⟨y,hy⟩:∃y,y=R[i]:=⟨_,rfl⟩
   have hyi:R[i]? =some y:=by rw[hy];exact List.getElem?_eq_getElem hil
   obtain⟨y0,y1,y2⟩:=argT_cell HA.out HI.out hyi;clear hy;obtain⟨u,⟨Ay,my,ky⟩,l⟩:=y;simp only at y0 y1 y2;rcases Int.lt_trichotomy u (a:Int) with hu|hu|hu
   ·have HG2:Hid (∀z∈R.take (i+1),goT x z=true):=by
     intro z hz;rw[List.take_add_one,hyi,List.mem_append] at hz;rcases hz with hz|hz
     ·exact hgo.out z hz
     ·simp only[Option.toList_some,List.mem_singleton] at hz
      subst hz;rw[HX.out];simp[goT,hu]
    clear hyi;go_wp2_with fail
    go_quiet (fail)
    go_wp2_with fail
    go_roundg (n-(i+1))
    case measure=>omega
    case rel=>exact⟨i+1,by go_num,by omega,by omega,HG2.out,below_drewN HI.out _⟩
   ·subst hu
    rcases l with _|_
    ·rcases f with _|_
     ·have HG2:Hid (∀z∈R.take (i+1),goT x z=true):=by
       intro z hz;rw[List.take_add_one,hyi,List.mem_append] at hz;rcases hz with hz|hz
       ·exact hgo.out z hz
       ·simp only[Option.toList_some,List.mem_singleton] at hz
        subst hz;rw[HX.out];simp[goT]
      clear hyi;go_wp2_with fail
      go_quiet (fail)
      go_wp2_with fail
      go_roundg (n-(i+1))
      case measure=>omega
      case rel=>exact⟨i+1,by go_num,by omega,by omega,HG2.out,below_drewN HI.out _⟩
     ·have HPUT:Hid (putT x R=R.take i++[x]++R.drop i):=putT_at x R i (by have:=HL.out;omega) hgo.out (fun z hz=>by
       rw[hyi] at hz;cases hz
       rw[HX.out];simp[goT])
      clear hyi;go_wp2_with fail
      go_quiet (fail)
      go_wp2_with fail
      have HI:Aside (Below w1.heap.size w1 (wr.drewN nq)):=below_drewN HI.out nq;generalize wr.drewN nq=wr at *
      have hb3:=HI.out;clear HI hgo x0 x1 x2;generalize wr=w3 at *
      have HB3:=Lib.hid (HB1.out.trans (hb3.mono (by have:=HZ1.out;omega)));have HA3:=Lib.hid (HA.out.ext hb3);have HC3:Hid (∀wx,Below w3.heap.size w3 wx->(wx.cell? ⟨b,0,none⟩=some (.int .i64 (a:Int))/\wx.cell? ⟨b,1,none⟩=some (.slice Ax m k)/\wx.cell? ⟨b,2,none⟩=some (.bool true))/\Below w3.heap.size w3 wx):=fun wx hb=>⟨(HC.out wx (ext_trans hb3 hb)).1,hb⟩
      have hdr:Below w3.heap.size w3 w3.drew:=⟨rfl,rfl,rfl,Nat.le_refl _,fun _ _=>rfl⟩
      have HSd:=Lib.hid (HC3.out _ hdr);have HSa:=Lib.hid (HC3.out _ (hdr.trans (ext_alloc w3.drew (.cells #[] 191))));have HSx:=Lib.hid (HC3.out _ (hdr.trans (ext_alloc w3.drew (.cells #[.int .i64 (a:Int),.slice Ax m k,.bool true] 191))));have HSax:=Lib.hid (HC3.out _ (HSa.out.2.trans ((ext_alloc (w3.drew.alloc (.cells #[] 191)) (.cells #[.int .i64 (a:Int),.slice Ax m k,.bool true] 191)).mono HSa.out.2.size)));have HSxa:=Lib.hid (HC3.out _ (HSx.out.2.trans ((ext_alloc (w3.drew.alloc (.cells #[.int .i64 (a:Int),.slice Ax m k,.bool true] 191)) (.cells #[] 191)).mono HSx.out.2.size)));have HOa:Aside ((w3.drew.alloc (.cells #[] 191)).ownsRow w3.heap.size 191 3 (.slice (some ⟨w3.heap.size,0,none⟩) 0 0) 0 []):=ownV_empty 191 w3.drew;have HOax:Aside (((w3.drew.alloc (.cells #[] 191)).alloc (.cells #[.int .i64 (a:Int),.slice Ax m k,.bool true] 191)).ownsRow w3.heap.size 191 3 (.slice (some ⟨w3.heap.size,0,none⟩) 0 0) 0 []):=own_below HOa.out (ext_alloc (w3.drew.alloc (.cells #[] 191)) (.cells #[.int .i64 (a:Int),.slice Ax m k,.bool true] 191)) (Nat.le_refl _);have HOxa:Aside (((w3.drew.alloc (.cells #[.int .i64 (a:Int),.slice Ax m k,.bool true] 191)).alloc (.cells #[] 191)).ownsRow w3.heap.size 191 3 (.slice (some ⟨w3.heap.size+1,0,none⟩) 0 0) 0 []):=ownV_empty2 191 191 w3 w3.drew #[.int .i64 (a:Int),.slice Ax m k,.bool true] rfl;have hkc:i<=c:=by omega
      have HTK:=Lib.hid (fun(wx:World) (hb:Below w3.heap.size w3 wx)=>show Rd wx wx.heap.size 3 (some ad) i (fT (R.take i)) from by have h:=HA3.out.take (k:=i) hb (Nat.le_of_lt hin);rwa [fT_take] at h);have hkn: ¬ c=i:=by omega
      have HDR:=Lib.hid (fun(wx:World) (hb:Below w3.heap.size w3 wx)=>show Rd wx wx.heap.size 3 (some (ad.add (i*3))) (n-i) (fT (R.drop i)) from by have h:=HA3.out.drop (k:=i) hb hin;rwa [fT_drop] at h);clear hdr;go_region_held3 (fun wx=>(wx.cell? ⟨b,0,none⟩=some (.int .i64 (a:Int))/\wx.cell? ⟨b,1,none⟩=some (.slice Ax m k)/\wx.cell? ⟨b,2,none⟩=some (.bool true))/\Below w3.heap.size w3 wx) (first|exact HSd.out|exact HSa.out|exact HSx.out|exact HSax.out|exact HSxa.out|assumption|exact HC3.out _ (hS4.2.trans ((ext_alloc w4 _).mono hS4.2.size))) (first
       |(refine step_appV thingEl (.tmp 44) (.tmp 47) rfl rfl HOa.out (HTK.out _ HSa.out.2) HA3.out.no (fT_one _) (by omega) (by omega) HSa.out.2.size (by rfl) (by rfl) ?_;intro v4 w4 hown4 hb4 hg4;have hS4:=HC3.out w4 (HSa.out.2.trans hb4))
       |(refine step_appV thingEl (.tmp 44) (.tmp 47) rfl rfl HOax.out (HTK.out _ HSax.out.2) HA3.out.no (fT_one _) (by omega) (by omega) HSax.out.2.size (by rfl) (by rfl) ?_;intro v4 w4 hown4 hb4 hg4;have hS4:=HC3.out w4 (HSax.out.2.trans hb4);have hrx:=rdV_far (sz:=3) (b:=w3.heap.size+1) (X:=[.int .i64 (a:Int),.slice Ax m k,.bool true]) (t:=191) (w:=w3.drew.alloc (.cells #[] 191)) (g:=w3.heap.size) rfl (by simp) (show((w3.drew.alloc (.cells #[] 191)).alloc (.cells #[.int .i64 (a:Int),.slice Ax m k,.bool true] 191)).grownBy w4 (some w3.heap.size) from hg4) (by simp))
       |(refine step_appV thingEl (.tmp 44) (.tmp 47) rfl rfl HOxa.out (HTK.out _ HSxa.out.2) HA3.out.no (fT_one _) (by omega) (by omega) HSxa.out.2.size (by rfl) (by rfl) ?_;intro v4 w4 hown4 hb4 hg4;have hS4:=HC3.out w4 (HSxa.out.2.trans hb4);have hrx:=rdV_far (sz:=3) (b:=w3.heap.size) (X:=[.int .i64 (a:Int),.slice Ax m k,.bool true]) (t:=191) (w:=w3.drew) (g:=w3.heap.size+1) rfl rfl ((World.grownBy_alloc (w3.drew.alloc (.cells #[.int .i64 (a:Int),.slice Ax m k,.bool true] 191)) (.cells #[] 191) (some (w3.heap.size+1))).trans (show((w3.drew.alloc (.cells #[.int .i64 (a:Int),.slice Ax m k,.bool true] 191)).alloc (.cells #[] 191)).grownBy w4 (some (w3.heap.size+1)) from hg4)) (by simp))
       |(refine step_appV (c:=1) thingEl (.tmp 48) (.tmp 50) rfl rfl (own_below hown4 (ext_alloc w4 (.cells #[.int .i64 (a:Int),.slice Ax m k,.bool true] 191)) (Nat.le_refl _)) (rdV_new (sz:=3) 191 w4 [.int .i64 (a:Int),.slice Ax m k,.bool true] rfl) (fun h=>by cases h) (fT_one [((a:Int),(Ax,m,k),true)]) (by omega) (by omega) (Nat.le_trans hS4.2.size (ext_alloc w4 (.cells #[.int .i64 (a:Int),.slice Ax m k,.bool true] 191)).size) (by rfl) (by rfl) ?_;intro v5 w5 hown5 hb5 hg5;have hS5:=HC3.out w5 (hS4.2.trans (((ext_alloc w4 (.cells #[.int .i64 (a:Int),.slice Ax m k,.bool true] 191)).mono hS4.2.size).trans hb5)))
       |(refine step_appV (c:=1) thingEl (.tmp 48) (.tmp 50) rfl rfl hown4 hrx (fun h=>by cases h) (fT_one [((a:Int),(Ax,m,k),true)]) (by omega) (by omega) hS4.2.size (by rfl) (by rfl) ?_;intro v5 w5 hown5 hb5 hg5;have hS5:=HC3.out w5 (hS4.2.trans hb5))
       |(refine step_appV (c:=c-i) thingEl (.tmp 51) (.tmp 54) rfl rfl hown5 (HDR.out _ hS5.2) (fun h=>by cases h) (fT_one _) (by omega) (by omega) hS5.2.size (by rfl) (by rfl) ?_;intro v6 w6 hown6 hb6 hg6;have hS6:=HC3.out w6 (hS5.2.trans hb6)))
      all_goals (
       have HX6:Aside (w6.ownsRow w.heap.size 191 3 v6 (n+1) (fT (putT x R))/\Below w.heap.size w w6):=by
        have hbz:b<=w3.heap.size:=by have:=HB3.out.size;have:=HBQ.out;omega
        rw[HBQ.out];refine⟨?_,HB3.out.trans (hS6.2.mono hbz)⟩;rw[HPUT.out,fT_app,fT_app];have hh:=own_lower hown6 hbz;rw[List.nil_append] at hh;have e:0+i+1+(n-i)=n+1:=by omega
        rw[e] at hh;rw[HX.out];exact hh
       clear hown6 hown5 hown4 hS6 hS5 hS4;go_wp2_with fail
       all_goals (
        go_ret
        exact⟨_,rfl,HX6.out⟩))
    ·have HG2:Hid (∀z∈R.take (i+1),goT x z=true):=by
      intro z hz;rw[List.take_add_one,hyi,List.mem_append] at hz;rcases hz with hz|hz
      ·exact hgo.out z hz
      ·simp only[Option.toList_some,List.mem_singleton] at hz
       subst hz;rw[HX.out];simp[goT]
     clear hyi;go_wp2_with fail
     go_quiet (fail)
     go_wp2_with fail
     go_roundg (n-(i+1))
     case measure=>omega
     case rel=>exact⟨i+1,by go_num,by omega,by omega,HG2.out,below_drewN HI.out _⟩
   ·have hu2: ¬ u<(a:Int):=by omega
    have hu3: ¬ u=(a:Int):=by omega
    have HPUT:Hid (putT x R=R.take i++[x]++R.drop i):=putT_at x R i (by have:=HL.out;omega) hgo.out (fun z hz=>by
     rw[hyi] at hz;cases hz
     rw[HX.out];simp[goT,hu2,hu3])
    clear hyi;go_wp2_with fail
    go_quiet (fail)
    go_wp2_with fail
    have HI:Aside (Below w1.heap.size w1 (wr.drewN nq)):=below_drewN HI.out nq;generalize wr.drewN nq=wr at *
    have hb3:=HI.out;clear HI hgo x0 x1 x2;generalize wr=w3 at *
    have HB3:=Lib.hid (HB1.out.trans (hb3.mono (by have:=HZ1.out;omega)));have HA3:=Lib.hid (HA.out.ext hb3);have HC3:Hid (∀wx,Below w3.heap.size w3 wx->(wx.cell? ⟨b,0,none⟩=some (.int .i64 (a:Int))/\wx.cell? ⟨b,1,none⟩=some (.slice Ax m k)/\wx.cell? ⟨b,2,none⟩=some (.bool f))/\Below w3.heap.size w3 wx):=fun wx hb=>⟨(HC.out wx (ext_trans hb3 hb)).1,hb⟩
    have hdr:Below w3.heap.size w3 w3.drew:=⟨rfl,rfl,rfl,Nat.le_refl _,fun _ _=>rfl⟩
    have HSd:=Lib.hid (HC3.out _ hdr);have HSa:=Lib.hid (HC3.out _ (hdr.trans (ext_alloc w3.drew (.cells #[] 191))));have HSx:=Lib.hid (HC3.out _ (hdr.trans (ext_alloc w3.drew (.cells #[.int .i64 (a:Int),.slice Ax m k,.bool f] 191))));have HSax:=Lib.hid (HC3.out _ (HSa.out.2.trans ((ext_alloc (w3.drew.alloc (.cells #[] 191)) (.cells #[.int .i64 (a:Int),.slice Ax m k,.bool f] 191)).mono HSa.out.2.size)));have HSxa:=Lib.hid (HC3.out _ (HSx.out.2.trans ((ext_alloc (w3.drew.alloc (.cells #[.int .i64 (a:Int),.slice Ax m k,.bool f] 191)) (.cells #[] 191)).mono HSx.out.2.size)));have HOa:Aside ((w3.drew.alloc (.cells #[] 191)).ownsRow w3.heap.size 191 3 (.slice (some ⟨w3.heap.size,0,none⟩) 0 0) 0 []):=ownV_empty 191 w3.drew;have HOax:Aside (((w3.drew.alloc (.cells #[] 191)).alloc (.cells #[.int .i64 (a:Int),.slice Ax m k,.bool f] 191)).ownsRow w3.heap.size 191 3 (.slice (some ⟨w3.heap.size,0,none⟩) 0 0) 0 []):=own_below HOa.out (ext_alloc (w3.drew.alloc (.cells #[] 191)) (.cells #[.int .i64 (a:Int),.slice Ax m k,.bool f] 191)) (Nat.le_refl _);have HOxa:Aside (((w3.drew.alloc (.cells #[.int .i64 (a:Int),.slice Ax m k,.bool f] 191)).alloc (.cells #[] 191)).ownsRow w3.heap.size 191 3 (.slice (some ⟨w3.heap.size+1,0,none⟩) 0 0) 0 []):=ownV_empty2 191 191 w3 w3.drew #[.int .i64 (a:Int),.slice Ax m k,.bool f] rfl;have hkc:i<=c:=by omega
    have HTK:=Lib.hid (fun(wx:World) (hb:Below w3.heap.size w3 wx)=>show Rd wx wx.heap.size 3 (some ad) i (fT (R.take i)) from by have h:=HA3.out.take (k:=i) hb (Nat.le_of_lt hin);rwa [fT_take] at h);have hkn: ¬ c=i:=by omega
    have HDR:=Lib.hid (fun(wx:World) (hb:Below w3.heap.size w3 wx)=>show Rd wx wx.heap.size 3 (some (ad.add (i*3))) (n-i) (fT (R.drop i)) from by have h:=HA3.out.drop (k:=i) hb hin;rwa [fT_drop] at h);clear hdr;go_region_held3 (fun wx=>(wx.cell? ⟨b,0,none⟩=some (.int .i64 (a:Int))/\wx.cell? ⟨b,1,none⟩=some (.slice Ax m k)/\wx.cell? ⟨b,2,none⟩=some (.bool f))/\Below w3.heap.size w3 wx) (first|exact HSd.out|exact HSa.out|exact HSx.out|exact HSax.out|exact HSxa.out|assumption|exact HC3.out _ (hS4.2.trans ((ext_alloc w4 _).mono hS4.2.size))) (first
     |(refine step_appV thingEl (.tmp 44) (.tmp 47) rfl rfl HOa.out (HTK.out _ HSa.out.2) HA3.out.no (fT_one _) (by omega) (by omega) HSa.out.2.size (by rfl) (by rfl) ?_;intro v4 w4 hown4 hb4 hg4;have hS4:=HC3.out w4 (HSa.out.2.trans hb4))
     |(refine step_appV thingEl (.tmp 44) (.tmp 47) rfl rfl HOax.out (HTK.out _ HSax.out.2) HA3.out.no (fT_one _) (by omega) (by omega) HSax.out.2.size (by rfl) (by rfl) ?_;intro v4 w4 hown4 hb4 hg4;have hS4:=HC3.out w4 (HSax.out.2.trans hb4);have hrx:=rdV_far (sz:=3) (b:=w3.heap.size+1) (X:=[.int .i64 (a:Int),.slice Ax m k,.bool f]) (t:=191) (w:=w3.drew.alloc (.cells #[] 191)) (g:=w3.heap.size) rfl (by simp) (show((w3.drew.alloc (.cells #[] 191)).alloc (.cells #[.int .i64 (a:Int),.slice Ax m k,.bool f] 191)).grownBy w4 (some w3.heap.size) from hg4) (by simp))
     |(refine step_appV thingEl (.tmp 44) (.tmp 47) rfl rfl HOxa.out (HTK.out _ HSxa.out.2) HA3.out.no (fT_one _) (by omega) (by omega) HSxa.out.2.size (by rfl) (by rfl) ?_;intro v4 w4 hown4 hb4 hg4;have hS4:=HC3.out w4 (HSxa.out.2.trans hb4);have hrx:=rdV_far (sz:=3) (b:=w3.heap.size) (X:=[.int .i64 (a:Int),.slice Ax m k,.bool f]) (t:=191) (w:=w3.drew) (g:=w3.heap.size+1) rfl rfl ((World.grownBy_alloc (w3.drew.alloc (.cells #[.int .i64 (a:Int),.slice Ax m k,.bool f] 191)) (.cells #[] 191) (some (w3.heap.size+1))).trans (show((w3.drew.alloc (.cells #[.int .i64 (a:Int),.slice Ax m k,.bool f] 191)).alloc (.cells #[] 191)).grownBy w4 (some (w3.heap.size+1)) from hg4)) (by simp))
     |(refine step_appV (c:=1) thingEl (.tmp 48) (.tmp 50) rfl rfl (own_below hown4 (ext_alloc w4 (.cells #[.int .i64 (a:Int),.slice Ax m k,.bool f] 191)) (Nat.le_refl _)) (rdV_new (sz:=3) 191 w4 [.int .i64 (a:Int),.slice Ax m k,.bool f] rfl) (fun h=>by cases h) (fT_one [((a:Int),(Ax,m,k),f)]) (by omega) (by omega) (Nat.le_trans hS4.2.size (ext_alloc w4 (.cells #[.int .i64 (a:Int),.slice Ax m k,.bool f] 191)).size) (by rfl) (by rfl) ?_;intro v5 w5 hown5 hb5 hg5;have hS5:=HC3.out w5 (hS4.2.trans (((ext_alloc w4 (.cells #[.int .i64 (a:Int),.slice Ax m k,.bool f] 191)).mono hS4.2.size).trans hb5)))
     |(refine step_appV (c:=1) thingEl (.tmp 48) (.tmp 50) rfl rfl hown4 hrx (fun h=>by cases h) (fT_one [((a:Int),(Ax,m,k),f)]) (by omega) (by omega) hS4.2.size (by rfl) (by rfl) ?_;intro v5 w5 hown5 hb5 hg5;have hS5:=HC3.out w5 (hS4.2.trans hb5))
     |(refine step_appV (c:=c-i) thingEl (.tmp 51) (.tmp 54) rfl rfl hown5 (HDR.out _ hS5.2) (fun h=>by cases h) (fT_one _) (by omega) (by omega) hS5.2.size (by rfl) (by rfl) ?_;intro v6 w6 hown6 hb6 hg6;have hS6:=HC3.out w6 (hS5.2.trans hb6)))
    all_goals (
     have HX6:Aside (w6.ownsRow w.heap.size 191 3 v6 (n+1) (fT (putT x R))/\Below w.heap.size w w6):=by
      have hbz:b<=w3.heap.size:=by have:=HB3.out.size;have:=HBQ.out;omega
      rw[HBQ.out];refine⟨?_,HB3.out.trans (hS6.2.mono hbz)⟩;rw[HPUT.out,fT_app,fT_app];have hh:=own_lower hown6 hbz;rw[List.nil_append] at hh;have e:0+i+1+(n-i)=n+1:=by omega
      rw[e] at hh;rw[HX.out];exact hh
     clear hown6 hown5 hown4 hS6 hS5 hS4;go_wp2_with fail
     all_goals (
      go_ret
      exact⟨_,rfl,HX6.out⟩))
  ·obtain rfl:i=n:=by omega
   have HPUT:Hid (putT x R=R.take i++[x]++R.drop i):=putT_at x R i (by have:=HL.out;omega) hgo.out (fun z hz=>by
    rw[List.getElem?_eq_none (by have:=HL.out;omega)] at hz;cases hz)
   go_wp2_with fail
   go_quiet (fail)
   go_wp2_with fail
   have HI:Aside (Below w1.heap.size w1 (wr.drewN nq)):=below_drewN HI.out nq;generalize wr.drewN nq=wr at *
   have hb3:=HI.out;clear HI hgo x0 x1 x2;generalize wr=w3 at *
   have HB3:=Lib.hid (HB1.out.trans (hb3.mono (by have:=HZ1.out;omega)));have HA3:=Lib.hid (HA.out.ext hb3);have HC3:Hid (∀wx,Below w3.heap.size w3 wx->(wx.cell? ⟨b,0,none⟩=some (.int .i64 (a:Int))/\wx.cell? ⟨b,1,none⟩=some (.slice Ax m k)/\wx.cell? ⟨b,2,none⟩=some (.bool f))/\Below w3.heap.size w3 wx):=fun wx hb=>⟨(HC.out wx (ext_trans hb3 hb)).1,hb⟩
   have hdr:Below w3.heap.size w3 w3.drew:=⟨rfl,rfl,rfl,Nat.le_refl _,fun _ _=>rfl⟩
   have HSd:=Lib.hid (HC3.out _ hdr);have HSa:=Lib.hid (HC3.out _ (hdr.trans (ext_alloc w3.drew (.cells #[] 191))));have HSx:=Lib.hid (HC3.out _ (hdr.trans (ext_alloc w3.drew (.cells #[.int .i64 (a:Int),.slice Ax m k,.bool f] 191))));have HSax:=Lib.hid (HC3.out _ (HSa.out.2.trans ((ext_alloc (w3.drew.alloc (.cells #[] 191)) (.cells #[.int .i64 (a:Int),.slice Ax m k,.bool f] 191)).mono HSa.out.2.size)));have HSxa:=Lib.hid (HC3.out _ (HSx.out.2.trans ((ext_alloc (w3.drew.alloc (.cells #[.int .i64 (a:Int),.slice Ax m k,.bool f] 191)) (.cells #[] 191)).mono HSx.out.2.size)));have HOa:Aside ((w3.drew.alloc (.cells #[] 191)).ownsRow w3.heap.size 191 3 (.slice (some ⟨w3.heap.size,0,none⟩) 0 0) 0 []):=ownV_empty 191 w3.drew;have HOax:Aside (((w3.drew.alloc (.cells #[] 191)).alloc (.cells #[.int .i64 (a:Int),.slice Ax m k,.bool f] 191)).ownsRow w3.heap.size 191 3 (.slice (some ⟨w3.heap.size,0,none⟩) 0 0) 0 []):=own_below HOa.out (ext_alloc (w3.drew.alloc (.cells #[] 191)) (.cells #[.int .i64 (a:Int),.slice Ax m k,.bool f] 191)) (Nat.le_refl _);have HOxa:Aside (((w3.drew.alloc (.cells #[.int .i64 (a:Int),.slice Ax m k,.bool f] 191)).alloc (.cells #[] 191)).ownsRow w3.heap.size 191 3 (.slice (some ⟨w3.heap.size+1,0,none⟩) 0 0) 0 []):=ownV_empty2 191 191 w3 w3.drew #[.int .i64 (a:Int),.slice Ax m k,.bool f] rfl;have hkc:i<=c:=by omega
   have HTK:=Lib.hid (fun(wx:World) (hb:Below w3.heap.size w3 wx)=>show Rd wx wx.heap.size 3 A i (fT (R.take i)) from by have h:=HA3.out.take (k:=i) hb (Nat.le_refl _);rwa [fT_take] at h);have HDR:=Lib.hid (fun(wx:World) (hb:Below w3.heap.size w3 wx)=>show Rd wx wx.heap.size 3 (if c=i then A else A.map (·.add (i*3))) 0 (fT (R.drop i)) from by have h:=HA3.out.drop0 hb;rwa [fT_drop] at h);clear hdr;go_region_held3 (fun wx=>(wx.cell? ⟨b,0,none⟩=some (.int .i64 (a:Int))/\wx.cell? ⟨b,1,none⟩=some (.slice Ax m k)/\wx.cell? ⟨b,2,none⟩=some (.bool f))/\Below w3.heap.size w3 wx) (first|exact HSd.out|exact HSa.out|exact HSx.out|exact HSax.out|exact HSxa.out|assumption|exact HC3.out _ (hS4.2.trans ((ext_alloc w4 _).mono hS4.2.size))) (first
    |(refine step_appV thingEl (.tmp 44) (.tmp 47) rfl rfl HOa.out (HTK.out _ HSa.out.2) HA3.out.no (fT_one _) (by omega) (by omega) HSa.out.2.size (by rfl) (by rfl) ?_;intro v4 w4 hown4 hb4 hg4;have hS4:=HC3.out w4 (HSa.out.2.trans hb4))
    |(refine step_appV thingEl (.tmp 44) (.tmp 47) rfl rfl HOax.out (HTK.out _ HSax.out.2) HA3.out.no (fT_one _) (by omega) (by omega) HSax.out.2.size (by rfl) (by rfl) ?_;intro v4 w4 hown4 hb4 hg4;have hS4:=HC3.out w4 (HSax.out.2.trans hb4);have hrx:=rdV_far (sz:=3) (b:=w3.heap.size+1) (X:=[.int .i64 (a:Int),.slice Ax m k,.bool f]) (t:=191) (w:=w3.drew.alloc (.cells #[] 191)) (g:=w3.heap.size) rfl (by simp) (show((w3.drew.alloc (.cells #[] 191)).alloc (.cells #[.int .i64 (a:Int),.slice Ax m k,.bool f] 191)).grownBy w4 (some w3.heap.size) from hg4) (by simp))
    |(refine step_appV thingEl (.tmp 44) (.tmp 47) rfl rfl HOxa.out (HTK.out _ HSxa.out.2) HA3.out.no (fT_one _) (by omega) (by omega) HSxa.out.2.size (by rfl) (by rfl) ?_;intro v4 w4 hown4 hb4 hg4;have hS4:=HC3.out w4 (HSxa.out.2.trans hb4);have hrx:=rdV_far (sz:=3) (b:=w3.heap.size) (X:=[.int .i64 (a:Int),.slice Ax m k,.bool f]) (t:=191) (w:=w3.drew) (g:=w3.heap.size+1) rfl rfl ((World.grownBy_alloc (w3.drew.alloc (.cells #[.int .i64 (a:Int),.slice Ax m k,.bool f] 191)) (.cells #[] 191) (some (w3.heap.size+1))).trans (show((w3.drew.alloc (.cells #[.int .i64 (a:Int),.slice Ax m k,.bool f] 191)).alloc (.cells #[] 191)).grownBy w4 (some (w3.heap.size+1)) from hg4)) (by simp))
    |(refine step_appV (c:=1) thingEl (.tmp 48) (.tmp 50) rfl rfl (own_below hown4 (ext_alloc w4 (.cells #[.int .i64 (a:Int),.slice Ax m k,.bool f] 191)) (Nat.le_refl _)) (rdV_new (sz:=3) 191 w4 [.int .i64 (a:Int),.slice Ax m k,.bool f] rfl) (fun h=>by cases h) (fT_one [((a:Int),(Ax,m,k),f)]) (by omega) (by omega) (Nat.le_trans hS4.2.size (ext_alloc w4 (.cells #[.int .i64 (a:Int),.slice Ax m k,.bool f] 191)).size) (by rfl) (by rfl) ?_;intro v5 w5 hown5 hb5 hg5;have hS5:=HC3.out w5 (hS4.2.trans (((ext_alloc w4 (.cells #[.int .i64 (a:Int),.slice Ax m k,.bool f] 191)).mono hS4.2.size).trans hb5)))
    |(refine step_appV (c:=1) thingEl (.tmp 48) (.tmp 50) rfl rfl hown4 hrx (fun h=>by cases h) (fT_one [((a:Int),(Ax,m,k),f)]) (by omega) (by omega) hS4.2.size (by rfl) (by rfl) ?_;intro v5 w5 hown5 hb5 hg5;have hS5:=HC3.out w5 (hS4.2.trans hb5))
    |(refine step_appV thingEl (.tmp 51) (.tmp 54) rfl rfl hown5 (HDR.out _ hS5.2) (HA3.out.drop0_no) (fT_one _) (by omega) (by omega) hS5.2.size (by rfl) (by rfl) ?_;intro v6 w6 hown6 hb6 hg6;have hS6:=HC3.out w6 (hS5.2.trans hb6)))
   all_goals (
    have HX6:Aside (w6.ownsRow w.heap.size 191 3 v6 (i+1) (fT (putT x R))/\Below w.heap.size w w6):=by
     have hbz:b<=w3.heap.size:=by have:=HB3.out.size;have:=HBQ.out;omega
     rw[HBQ.out];refine⟨?_,HB3.out.trans (hS6.2.mono hbz)⟩;rw[HPUT.out,fT_app,fT_app];have hh:=own_lower hown6 hbz;rw[List.nil_append] at hh;have e:0+i+1+0=i+1:=by omega
     rw[e] at hh;rw[HX.out];exact hh
    clear hown6 hown5 hown4 hS6 hS5 hS4;go_wp2_with fail
    all_goals (
     go_ret
     exact⟨_,rfl,HX6.out⟩))
end Rf
end Go.Proofs.YtjligbmickfbdaaGreat
namespace Go.Proofs.YtjligbmickfbdaaGreat
namespace Rf
open Go.RowKit Ln
def vI (l:List Int):List Value:=l.map (Value.int .i64)
structure Tin (w:World) (x:RT) (y:ThR):Prop where
 wt:x.1=y.1
 lf:x.2.2=y.2.2
 sy:ArgV w 1 x.2.1.1 x.2.1.2.1 x.2.1.2.2 (vI y.2.1)
def Tins (w:World):List RT->List ThR->Prop
 | [],[]=>True
 |x::R,y::T=>Tin w x y/\Tins w R T
 |_,_=>False
section
variable {w w':World}
theorem Tin.ext {x:RT} {y:ThR} (h:Tin w x y) (hb:Below w.heap.size w w'):Tin w' x y:=⟨h.wt,h.lf,h.sy.ext hb⟩
theorem Tins.ext:∀{R:List RT} {T:List ThR},Tins w R T->Below w.heap.size w w'->Tins w' R T
 | [],[],_,_=>trivial
 |x::R,y::T,h,hb=>⟨h.1.ext hb,Tins.ext h.2 hb⟩
theorem Tins.len:∀{R:List RT} {T:List ThR},Tins w R T->R.length=T.length
 | [],[],_=>rfl
 |x::R,y::T,h=>by rw[List.length_cons,List.length_cons,Tins.len h.2]
theorem Tins.at:∀{R:List RT} {T:List ThR} {k:Nat} {x:RT} {y:ThR},Tins w R T->R[k]? =some x->T[k]? =some y->Tin w x y
 | [],[],_,_,_,_,h,_=>by simp at h
 |x::R,y::T,0,_,_,h,h1,h2=>by simp at h1 h2;subst h1 h2;exact h.1
 |x::R,y::T,k+1,_,_,h,h1,h2=>Tins.at h.2 (by simpa using h1) (by simpa using h2)
theorem go_same {x z:RT} {y u:ThR} (h:Tin w x y) (h2:Tin w z u):goT x z=goR y u:=by
 unfold goT goR;rw[h.wt,h.lf,h2.wt,h2.lf]
theorem Tins.put {x:RT} {y:ThR} (hx:Tin w x y):∀{R:List RT} {T:List ThR},Tins w R T->Tins w (putT x R) (putR y T)
 | [],[],_=>⟨hx,trivial⟩
 |z::R,u::T,h=>by
  rw[putT,putR,go_same hx h.1];split
  ·exact⟨h.1,Tins.put hx h.2⟩
  ·exact⟨hx,h⟩
end
theorem putT_len (x:RT):∀R,(putT x R).length=R.length+1
 | []=>rfl
 |y::R=>by
  rw[putT];split
  ·rw[List.length_cons,putT_len x R,List.length_cons]
  ·simp
def OwnH (w:World) (B:Nat) (v:Value) (T:List ThR):Prop:=∃R,w.ownsRow B 191 3 v R.length (fT R)/\Tins w R T
theorem OwnH.arg {w:World} {B:Nat} {v:Value} {T:List ThR} (h:OwnH w B v T):∃A c R,v=.slice A T.length c/\R.length=T.length/\ArgV w 3 A T.length c (fT R)/\Tins w R T:=by
 obtain⟨R,h1,h2⟩:=h;obtain⟨A,c,e,ha⟩:=argV_of_own h1;rw[h2.len] at e ha;exact⟨A,c,R,e,h2.len,ha,h2⟩
theorem OwnH.lower {w:World} {B C:Nat} {v:Value} {T:List ThR} (h:OwnH w B v T) (hC:C<=B):OwnH w C v T:=by
 obtain⟨R,h1,h2⟩:=h;exact⟨R,own_lower h1 hC,h2⟩
theorem OwnH.below {w w':World} {B:Nat} {v:Value} {T:List ThR} (h:OwnH w B v T) (hb:Below w.heap.size w w'):OwnH w' B v T:=by
 obtain⟨R,h1,h2⟩:=h;exact⟨R,own_below h1 hb (Nat.le_refl _),h2.ext hb⟩
theorem own_nilH (w:World) (B:Nat):OwnH w B (.slice none 0 0) []:=⟨[],World.ownsRow_nil _ _ _ _,trivial⟩
theorem putR_any (A Ax:Option Addr) (n c m k:Nat) (f:Bool) (R:List RT) (T:List ThR) (y:ThR) (w:World) (ha:ArgV w 3 A n c (fT R)) (ht:Tins w R T) (hn:n<=100000) (hx:Tin w (y.1,(Ax,m,k),f) y) (h0:0<=y.1) :
  Calls Tryz.prog 151 #[.slice A n c,.agg #[.int .i64 y.1,.slice Ax m k,.bool f]] w fun e w'=>∃v,e=.returned v/\OwnH w' w.heap.size v (putR y T)/\Below w.heap.size w w':=by
 obtain⟨y1,y2⟩:=y;obtain⟨a,rfl⟩:=Int.eq_ofNat_of_zero_le h0;refine(put8_any A n c a m k Ax f R w ha hn).mono ?_;rintro e w' ⟨v,rfl,h1,h2⟩;have hl:=ha.rd.len;rw[fT_len] at hl;exact⟨v,rfl,⟨_,by rw[putT_len,show R.length=n by omega];exact h1,((ht.ext h2).put (hx.ext h2))⟩,h2⟩
theorem lv_snoc (s n:Nat) (x:Int):∀l:List Int,l.length=n->lv s (l++[x])=lv s l++lv (s+n) [x]:=by
 intro l
 induction l generalizing s n with
 |nil=>intro h;simp at h;subst h;rfl
 |cons y l ih =>
  intro h;rw[List.length_cons] at h;rw[List.cons_append,lv,lv,ih (s+1) (n-1) (by omega),show s+1+(n-1)=s+n by omega];split<;>simp
def rowK (l:List Int) (k:Nat):List ThR:=putsR ((lv 0 (l.take k)).map (toR [] 0)) []
theorem rowK_leaf {l:List Int} {k:Nat} (h:k<l.length) (hp:0<l[k]):rowK l (k+1)=putR (l[k],[(k:Int)],true) (rowK l k):=by
 unfold rowK putsR;rw[List.take_add_one,List.getElem?_eq_getElem h];show List.foldl _ _ ((lv 0 (l.take k++[l[k]])).map _)=_
 rw[lv_snoc 0 k _ _ (by rw[List.length_take];omega),Nat.zero_add,lv,if_pos hp,lv,List.map_append,List.foldl_append];rfl
theorem rowK_none {l:List Int} {k:Nat} (h:k<l.length) (hp: ¬ 0<l[k]):rowK l (k+1)=rowK l k:=by
 unfold rowK putsR;rw[List.take_add_one,List.getElem?_eq_getElem h];show List.foldl _ _ ((lv 0 (l.take k++[l[k]])).map _)=_
 rw[lv_snoc 0 k _ _ (by rw[List.length_take];omega),Nat.zero_add,lv,if_neg hp,lv,List.append_nil]
theorem putsR_len:∀(xs row:List ThR),(putsR xs row).length=xs.length+row.length
 | [],row=>by simp[putsR]
 |x::xs,row=>by
  have:=putsR_len xs (putR x row);unfold putsR at *
  rw[List.foldl_cons,this,length_putR,List.length_cons];omega
theorem lv_len:∀(l:List Int) (s:Nat),(lv s l).length<=l.length
 | [],_=>by simp[lv]
 |x::l,s=>by
  have:=lv_len l (s+1);rw[lv];split<;>simp<;>omega
theorem rowK_len (l:List Int) (k:Nat):(rowK l k).length<=k:=by
 unfold rowK;rw[putsR_len,List.length_map];have:=lv_len (l.take k) 0;rw[List.length_take] at this;simp;omega
theorem rowK_all (l:List Int):rowK l l.length=(St.stab wt (lv 0 l)).map (toR [] 0):=by
 unfold rowK;have h:=putsR_first (lv 0 l) [] (by
  intro x hx;rw[List.nil_append] at hx;have:∀(l:List Int) (s:Nat),∀x∈lv s l,0<=x.2:=by
   intro l
   induction l with
   |nil=>intro s x hx;simp[lv] at hx
   |cons y l ih =>
    intro s x hx;rw[lv] at hx;split at hx
    ·rcases List.mem_cons.1 hx with rfl|hx
     ·exact Int.natCast_nonneg s
     ·exact ih _ x hx
    ·exact ih _ x hx
  exact this l 0 x hx)
 rw[List.take_length];exact h
set_option maxHeartbeats 6400000 in
set_option maxRecDepth 100000 in
theorem first_any (A:Option Addr) (n c:Nat) (l:List Int) (w:World) (hn:n<=257) (hl:∀x∈l,0<=x) (hrd:Rd w w.heap.size 1 A n (l.map (Value.int .i64))) :
  Calls Tryz.prog 132 #[.slice A n c] w fun e w'=>∃v,e=.returned v/\OwnH w' w.heap.size v (rowK l l.length)/\Below w.heap.size w w':=by
 have mixed:Tryz.prog.follows .mixedOrders=true:=by kernel_rfl
 have hln:l.length=n:=by simpa using hrd.len
 have HL:=Lib.hid hln;have HR:=Lib.hid hrd;have HNN:=Lib.hid hl;clear hln hrd hl
 go_enter Tryz.func132, Tryz.ntmps132
 go_wp2_with fail
 go_loopg [3,4] n (fun kx s3 s4 wr=>∃(i:Nat),s4=.int .i64 (i:Int)/\i<=n/\n-i<=kx/\Aside (OwnH wr w.heap.size s3 (rowK l i)/\Below w.heap.size w wr))
 case atStart=>exact⟨0,by go_num,by omega,by omega,own_nilH _ _,Below.refl _ _⟩
 case round =>
  obtain⟨i,rfl,hi,hik,H⟩:=hrel;by_cases hin:i<n
  ·obtain⟨ad,x,rfl,had,hx,hcell⟩:=(HR.out.below H.out.2).int1 hin
   have hil:i<l.length:=by have:=HL.out;omega
   rw[List.getElem?_eq_getElem hil,Option.some.injEq] at hx;by_cases h0:0<x
   ·obtain⟨Ao,co,R,rfl,hRl,harg,hti⟩:=H.out.1.arg
    have hrk:=rowK_len l i;have HST:=Lib.hid (rowK_leaf hil (by rw[hx];exact h0));rw[hx] at HST;have hin2:Tin (wr.alloc (.cells #[.int .i64 (i:Int)] 3)) (x,(some ⟨wr.heap.size,0,none⟩,1,1),true) (x,[(i:Int)],true) :=
     ⟨rfl,rfl,⟨rdV_new 3 wr [.int .i64 (i:Int)] rfl,Nat.le_refl _,by simp[maxLen],fun h=>by cases h⟩⟩
    have hb1:=ext_alloc wr (.cells #[.int .i64 (i:Int)] 3);have HP:=Lib.hid (putR_any Ao (some ⟨wr.heap.size,0,none⟩) (rowK l i).length co 1 1 true R (rowK l i) (x,[(i:Int)],true) _ (harg.ext hb1) (hti.ext hb1) (by omega) hin2 (Int.le_of_lt h0));have HB:=Lib.hid (H.out.2.trans (hb1.mono H.out.2.size));have g1:x>0:=h0;clear hx hti harg hin2 hb1 H;generalize hT:rowK l i=T at *
    clear hT;go_wp2_with (go_at_call 151;refine HP.out.mono ?_;rintro e1 w1 ⟨v1,rfl,hown1,hb1⟩)
    have HX:Aside (OwnH w1 w.heap.size v1 (rowK l (i+1))/\Below w.heap.size w w1):=⟨by rw[HST.out];exact hown1.lower HB.out.size,HB.out.trans (hb1.mono HB.out.size)⟩
    clear hown1 hb1;go_roundg (n-(i+1))
    case measure=>omega
    case rel=>exact⟨i+1,by go_num,by omega,by omega,HX.out⟩
   ·have hx0:x=0:=by have:=HNN.out _ (List.getElem_mem hil);omega
    subst hx0;have H2:Aside (OwnH wr w.heap.size u3 (rowK l (i+1))/\Below w.heap.size w wr):=by rw[rowK_none hil (by omega)];exact H.out
    clear H hx h0;go_wp2_with fail
    go_roundg (n-(i+1))
    case measure=>omega
    case rel=>exact⟨i+1,by go_num,by omega,by omega,H2.out⟩
  ·obtain rfl:i=n:=by omega
   have HE:Aside (OwnH wr w.heap.size u3 (rowK l l.length)/\Below w.heap.size w wr):=by rw[HL.out];exact H.out
   clear H;go_wp2_with fail
   go_ret
   exact⟨_,rfl,HE.out⟩
end Rf
end Go.Proofs.YtjligbmickfbdaaGreat
