/- mani.Same, open.Same; varveref25.Same, varveref33.Same. -/
import Derived.Test.YtphfmgapiimliaaGreatOl28
import Derived.Test.YtphfmgapiimliaaGreatOl46
namespace Go.Proofs.YtphfmgapiimliaaGreat
namespace Op
open Go.RowKit Hd Rd Vi Dk
def sameMf (m m':Mf):Bool:=decide (m.g=m'.g/\m.x=m'.x/\m.t=m'.t/\m.fl=m'.fl/\m.es=m'.es)
set_option maxHeartbeats 6400000 in
set_option maxRecDepth 100000 in
theorem msame_any (m m':Mf) (s s':Sl) (w:World) (h1:Rd w w.heap.size 9 s.A s.n (flS m.es)) (h2:Rd w w.heap.size 9 s'.A s'.n (flS m'.es)) (hn:s.n<=1000000) (hn':s'.n<=1000000) :
  Calls Tryz.prog 35 #[magg m s,magg m' s'] w fun e w'=>e=.returned (.bool (sameMf m m'))/\Below w.heap.size w w':=by
 have HE:=Lib.hid (fun(wx:World) (hb:Below w.heap.size w wx)=>eq_en s.A s'.A s.n s'.n s.c s'.c m.es m'.es wx ((h1.below hb).more hb.size) ((h2.below hb).more hb.size) hn (by omega));clear h1 h2 hn hn';obtain⟨g,x,t,f,es⟩:=m;obtain⟨g',x',t',f',es'⟩:=m';obtain⟨A,n,c⟩:=s;obtain⟨A',n',c'⟩:=s';unfold magg;dsimp only at *
 have HB:=Lib.hid (ext_second w (.cells #[.int .i64 g,.int .i64 x,.int .i64 t,.int .i64 f,.slice A n c] 26) (.cells #[.int .i64 g',.int .i64 x',.int .i64 t',.int .i64 f',.slice A' n' c'] 26));generalize hR:sameMf _ _=R;have HR:=Lib.hid (show R=decide (g=g'/\x=x'/\t=t'/\f=f'/\es=es') from hR.symm);clear hR;by_cases e0:g=g'
 case neg =>
  have HF:=Lib.hid (show R=false from by rw[HR.out];exact decide_eq_false fun h=>e0 h.1);have b0:(g==g')=false:=by rw[beq_eq_false_iff_ne];exact e0
  clear e0 HR HE
  go_enter Tryz.func35, Tryz.ntmps35
  go_wp2_with fail
  go_ret
  exact⟨by rw[HF.out];rfl,HB.out⟩
 have b0:(g==g')=true:=by rw[e0];simp
 have E0:=Lib.hid e0;clear e0;by_cases e1:x=x'
 case neg =>
  have HF:=Lib.hid (show R=false from by rw[HR.out];exact decide_eq_false fun h=>e1 h.2.1);have b1:(x==x')=false:=by rw[beq_eq_false_iff_ne];exact e1
  clear e1 HR HE
  go_enter Tryz.func35, Tryz.ntmps35
  go_wp2_with fail
  go_ret
  exact⟨by rw[HF.out];rfl,HB.out⟩
 have b1:(x==x')=true:=by rw[e1];simp
 have E1:=Lib.hid e1;clear e1;by_cases e2:t=t'
 case neg =>
  have HF:=Lib.hid (show R=false from by rw[HR.out];exact decide_eq_false fun h=>e2 h.2.2.1);have b2:(t==t')=false:=by rw[beq_eq_false_iff_ne];exact e2
  clear e2 HR HE
  go_enter Tryz.func35, Tryz.ntmps35
  go_wp2_with fail
  go_ret
  exact⟨by rw[HF.out];rfl,HB.out⟩
 have b2:(t==t')=true:=by rw[e2];simp
 have E2:=Lib.hid e2;clear e2;by_cases e3:f=f'
 case neg =>
  have HF:=Lib.hid (show R=false from by rw[HR.out];exact decide_eq_false fun h=>e3 h.2.2.2.1);have b3:(f==f')=false:=by rw[beq_eq_false_iff_ne];exact e3
  clear e3 HR HE
  go_enter Tryz.func35, Tryz.ntmps35
  go_wp2_with fail
  go_ret
  exact⟨by rw[HF.out];rfl,HB.out⟩
 have b3:(f==f')=true:=by rw[e3];simp
 have E3:=Lib.hid e3;clear e3;have HF:=Lib.hid (show R=decide (es=es') from by
  rw[HR.out];exact decide_eq_decide.2 ⟨fun h=>h.2.2.2.2,fun h=>⟨E0.out,E1.out,E2.out,E3.out,h⟩⟩)
 generalize decide (es=es')=D at *
 clear HR
 go_enter Tryz.func35, Tryz.ntmps35
 go_wp2_with (go_at_call 66;refine(HE.out _ HB.out).mono ?_;rintro e1 w1 ⟨rfl,hb1⟩;have HB1:=Lib.hid (HB.out.trans (hb1.mono HB.out.size));clear hb1)
 go_ret
 exact⟨by rw[HF.out];rfl,HB1.out⟩
set_option maxHeartbeats 6400000 in
set_option maxRecDepth 100000 in
theorem rmsame_any (m m':Mf) (s s':Sl) (w:World) (h1:Rd w w.heap.size 9 s.A s.n (flS m.es)) (h2:Rd w w.heap.size 9 s'.A s'.n (flS m'.es)) (hn:s.n<=1000000) (hn':s'.n<=1000000) :
  Calls Tryz.prog 38 #[magg m s,magg m' s'] w fun e w'=>e=.returned (.bool (sameMf m m'))/\Below w.heap.size w w':=by
 have HE:=Lib.hid (fun(wx:World) (hb:Below w.heap.size w wx)=>rsame_en s.A s'.A s.n s'.n s.c s'.c m.es m'.es wx ((h1.below hb).more hb.size) ((h2.below hb).more hb.size) hn (by omega));clear h1 h2 hn hn';obtain⟨g,x,t,f,es⟩:=m;obtain⟨g',x',t',f',es'⟩:=m';obtain⟨A,n,c⟩:=s;obtain⟨A',n',c'⟩:=s';unfold magg;dsimp only at *
 have HB:=Lib.hid (ext_second w (.cells #[.int .i64 g,.int .i64 x,.int .i64 t,.int .i64 f,.slice A n c] 26) (.cells #[.int .i64 g',.int .i64 x',.int .i64 t',.int .i64 f',.slice A' n' c'] 26));generalize hR:sameMf _ _=R;have HR:=Lib.hid (show R=decide (g=g'/\x=x'/\t=t'/\f=f'/\es=es') from hR.symm);clear hR;by_cases e0:g=g'
 case neg =>
  have HF:=Lib.hid (show R=false from by rw[HR.out];exact decide_eq_false fun h=>e0 h.1);have b0:(g==g')=false:=by rw[beq_eq_false_iff_ne];exact e0
  clear e0 HR HE
  go_enter Tryz.func38, Tryz.ntmps38
  go_wp2_with fail
  go_ret
  exact⟨by rw[HF.out];rfl,HB.out⟩
 have b0:(g==g')=true:=by rw[e0];simp
 have E0:=Lib.hid e0;clear e0;by_cases e1:x=x'
 case neg =>
  have HF:=Lib.hid (show R=false from by rw[HR.out];exact decide_eq_false fun h=>e1 h.2.1);have b1:(x==x')=false:=by rw[beq_eq_false_iff_ne];exact e1
  clear e1 HR HE
  go_enter Tryz.func38, Tryz.ntmps38
  go_wp2_with fail
  go_ret
  exact⟨by rw[HF.out];rfl,HB.out⟩
 have b1:(x==x')=true:=by rw[e1];simp
 have E1:=Lib.hid e1;clear e1;by_cases e2:t=t'
 case neg =>
  have HF:=Lib.hid (show R=false from by rw[HR.out];exact decide_eq_false fun h=>e2 h.2.2.1);have b2:(t==t')=false:=by rw[beq_eq_false_iff_ne];exact e2
  clear e2 HR HE
  go_enter Tryz.func38, Tryz.ntmps38
  go_wp2_with fail
  go_ret
  exact⟨by rw[HF.out];rfl,HB.out⟩
 have b2:(t==t')=true:=by rw[e2];simp
 have E2:=Lib.hid e2;clear e2;by_cases e3:f=f'
 case neg =>
  have HF:=Lib.hid (show R=false from by rw[HR.out];exact decide_eq_false fun h=>e3 h.2.2.2.1);have b3:(f==f')=false:=by rw[beq_eq_false_iff_ne];exact e3
  clear e3 HR HE
  go_enter Tryz.func38, Tryz.ntmps38
  go_wp2_with fail
  go_ret
  exact⟨by rw[HF.out];rfl,HB.out⟩
 have b3:(f==f')=true:=by rw[e3];simp
 have E3:=Lib.hid e3;clear e3;have HF:=Lib.hid (show R=decide (es=es') from by
  rw[HR.out];exact decide_eq_decide.2 ⟨fun h=>h.2.2.2.2,fun h=>⟨E0.out,E1.out,E2.out,E3.out,h⟩⟩)
 generalize decide (es=es')=D at *
 clear HR
 go_enter Tryz.func38, Tryz.ntmps38
 go_wp2_with (go_at_call 15;refine(HE.out _ HB.out).mono ?_;rintro e1 w1 ⟨rfl,hb1⟩;have HB1:=Lib.hid (HB.out.trans (hb1.mono HB.out.size));clear hb1)
 go_ret
 exact⟨by rw[HF.out];rfl,HB1.out⟩
end Op
end Go.Proofs.YtphfmgapiimliaaGreat
