/- open.Same; varveref33.Same. -/
import Derived.Test.YtphfmgapiimliaaGreatSc45
namespace Go.Proofs.YtphfmgapiimliaaGreat
namespace Op
open Go.RowKit Hd Rd Vi Dk
theorem cne_cf (x y:Cf) (w:World):(binOp .neq 23 (cagg x) (cagg y)).run Tryz.prog w=.ok (.bool (decide (x≠y))) w/\(binOp .eql 23 (cagg x) (cagg y)).run Tryz.prog w=.ok (.bool (decide (x=y))) w:=by
 obtain⟨x0,x1,x2,x3,x4,x5,x6⟩:=x;obtain⟨y0,y1,y2,y3,y4,y5,y6⟩:=y;unfold cagg
 constructor
 all_goals
  simp[go_sem]
  repeat' split
  all_goals simp_all
def sameSt (s t:St):Bool:=decide (s.cf=t.cf/\sameMf s.mf t.mf=true/\s.bs=t.bs/\s.wt=t.wt/\s.sz=t.sz/\s.nx=t.nx/\s.nw=t.nw/\s.rd=t.rd)
theorem decide_ne_false {α:Type} [DecidableEq α] {a b:α} (h:a=b):decide (a≠b)=false:=decide_eq_false fun hn=>hn h
set_option maxHeartbeats 12800000 in
set_option maxRecDepth 100000 in
theorem osame_any (s t:St) (x y z x' y' z':Sl) (w:World) (h1:Str w w.heap.size s x y z) (h2:Str w w.heap.size t x' y' z') (hn:x.n<=1000000/\y.n<=1000000/\z.n<=1000000) (hn':x'.n<=1000000/\y'.n<=1000000/\z'.n<=1000000) :
  Calls Tryz.prog 11 #[sagg s x y z,sagg t x' y' z'] w fun e w'=>e=.returned (.bool (sameSt s t))/\Below w.heap.size w w':=by
 have HM:=Lib.hid (fun(wx:World) (hb:Below w.heap.size w wx)=>msame_any s.mf t.mf x x' wx (h1.ext hb).es (h2.ext hb).es hn.1 hn'.1);have HBS:=Lib.hid (fun(wx:World) (hb:Below w.heap.size w wx)=>eq_mi y.A y'.A y.n y'.n y.c y'.c s.bs t.bs wx (h1.ext hb).bs (h2.ext hb).bs hn.2.1 (by omega));have HWT:=Lib.hid (fun(wx:World) (hb:Below w.heap.size w wx)=>eq_rc z.A z'.A z.n z'.n z.c z'.c s.wt t.wt wx (h1.ext hb).wt (h2.ext hb).wt hn.2.2 (by omega));have HR:=Lib.hid (show sameSt s t=decide (s.cf=t.cf/\sameMf s.mf t.mf=true/\s.bs=t.bs/\s.wt=t.wt/\s.sz=t.sz/\s.nx=t.nx/\s.nw=t.nw/\s.rd=t.rd) from rfl);have hq:=fun w=>(cne_cf s.cf t.cf w).1
 unfold magg at HM;unfold cagg at hq;generalize sameMf s.mf t.mf=MB at *
 generalize sameSt s t=R at *
 clear h1 h2 hn hn';obtain⟨⟨cb,ct,cs,ca,ck,cy,co⟩,⟨mg,mx,mt,mf,es⟩,bs,sz,nx,nw,wt,rd⟩:=s;obtain⟨⟨cb',ct',cs',ca',ck',cy',co'⟩,⟨mg',mx',mt',mf',es'⟩,bs',sz',nx',nw',wt',rd'⟩:=t;obtain⟨A1,n1,c1⟩:=x;obtain⟨A2,n2,c2⟩:=y;obtain⟨A3,n3,c3⟩:=z;obtain⟨A1',n1',c1'⟩:=x';obtain⟨A2',n2',c2'⟩:=y';obtain⟨A3',n3',c3'⟩:=z';unfold sagg stc Sl.v;dsimp only at *
 have HK:=Lib.hid ((Blk.new w #[.int .i64 cb,.int .i64 ct,.int .i64 cs,.int .i64 ca,.int .i64 ck,.int .i64 cy,.int .i64 co,.int .i64 mg,.int .i64 mx,.int .i64 mt,.int .i64 mf,.slice A1 n1 c1,.slice A2 n2 c2,.int .i64 sz,.int .i64 nx,.int .i64 nw,.slice A3 n3 c3,.bool rd] 30).alloc (.cells #[.int .i64 cb',.int .i64 ct',.int .i64 cs',.int .i64 ca',.int .i64 ck',.int .i64 cy',.int .i64 co',.int .i64 mg',.int .i64 mx',.int .i64 mt',.int .i64 mf',.slice A1' n1' c1',.slice A2' n2' c2',.int .i64 sz',.int .i64 nx',.int .i64 nw',.slice A3' n3' c3',.bool rd'] 30));have HJ:=Lib.hid (blk_second w (.cells #[.int .i64 cb,.int .i64 ct,.int .i64 cs,.int .i64 ca,.int .i64 ck,.int .i64 cy,.int .i64 co,.int .i64 mg,.int .i64 mx,.int .i64 mt,.int .i64 mf,.slice A1 n1 c1,.slice A2 n2 c2,.int .i64 sz,.int .i64 nx,.int .i64 nw,.slice A3 n3 c3,.bool rd] 30) #[.int .i64 cb',.int .i64 ct',.int .i64 cs',.int .i64 ca',.int .i64 ck',.int .i64 cy',.int .i64 co',.int .i64 mg',.int .i64 mx',.int .i64 mt',.int .i64 mf',.slice A1' n1' c1',.slice A2' n2' c2',.int .i64 sz',.int .i64 nx',.int .i64 nw',.slice A3' n3' c3',.bool rd'] 30);have HB:=Lib.hid (ext_second w (.cells #[.int .i64 cb,.int .i64 ct,.int .i64 cs,.int .i64 ca,.int .i64 ck,.int .i64 cy,.int .i64 co,.int .i64 mg,.int .i64 mx,.int .i64 mt,.int .i64 mf,.slice A1 n1 c1,.slice A2 n2 c2,.int .i64 sz,.int .i64 nx,.int .i64 nw,.slice A3 n3 c3,.bool rd] 30) (.cells #[.int .i64 cb',.int .i64 ct',.int .i64 cs',.int .i64 ca',.int .i64 ck',.int .i64 cy',.int .i64 co',.int .i64 mg',.int .i64 mx',.int .i64 mt',.int .i64 mf',.slice A1' n1' c1',.slice A2' n2' c2',.int .i64 sz',.int .i64 nx',.int .i64 nw',.slice A3' n3' c3',.bool rd'] 30));by_cases ecf:(⟨cb,ct,cs,ca,ck,cy,co⟩:Cf)=⟨cb',ct',cs',ca',ck',cy',co'⟩
 case neg =>
  have HF:=Lib.hid (show R=false from by rw[HR.out];exact decide_eq_false fun h=>ecf h.1);rw[decide_eq_true ecf] at hq;clear ecf HR HM HBS HWT
  go_enter Tryz.func11, Tryz.ntmps11
  go_wp2_with fail
  go_ret
  exact⟨by rw[HF.out];rfl,HB.out⟩
 have Ecf:=Lib.hid ecf;rw[decide_ne_false ecf] at hq;clear ecf;rcases MB with _|_
 ·have HF:=Lib.hid (show R=false from by rw[HR.out];exact decide_eq_false fun h=>by have:=h.2.1;cases this)
  clear HR HBS HWT
  go_enter Tryz.func11, Tryz.ntmps11
  go_wp2_with (first
   |(go_at_call 35;refine(HM.out _ HB.out).mono ?_;rintro e1 w1 ⟨rfl,hb1⟩;have HB:=Lib.hid (HB.out.trans (hb1.mono HB.out.size));have HK:=Lib.hid (HK.out.ext hb1);have HJ:=Lib.hid (HJ.out.ext hb1);clear hb1;have k12:=HK.out.cell 12 (v:=.slice A2 n2 c2) rfl;have j12:=HJ.out.cell 12 (v:=.slice A2' n2' c2') rfl;have k16:=HK.out.cell 16 (v:=.slice A3 n3 c3) rfl;have j16:=HJ.out.cell 16 (v:=.slice A3' n3' c3') rfl;have k13:=HK.out.cell 13 (v:=.int .i64 sz) rfl;have j13:=HJ.out.cell 13 (v:=.int .i64 sz') rfl;have k14:=HK.out.cell 14 (v:=.int .i64 nx) rfl;have j14:=HJ.out.cell 14 (v:=.int .i64 nx') rfl;have k15:=HK.out.cell 15 (v:=.int .i64 nw) rfl;have j15:=HJ.out.cell 15 (v:=.int .i64 nw') rfl;have k17:=HK.out.cell 17 (v:=.bool rd) rfl;have j17:=HJ.out.cell 17 (v:=.bool rd') rfl)
   |fail
   |fail)
  go_ret
  exact⟨by rw[HF.out];rfl,HB.out⟩
 by_cases ebs:bs=bs'
 case neg =>
  have HF:=Lib.hid (show R=false from by rw[HR.out];exact decide_eq_false fun h=>ebs h.2.2.1);rw[decide_eq_false ebs] at HBS;clear ebs HR
  go_enter Tryz.func11, Tryz.ntmps11
  go_wp2_with (first
   |(go_at_call 35;refine(HM.out _ HB.out).mono ?_;rintro e1 w1 ⟨rfl,hb1⟩;have HB:=Lib.hid (HB.out.trans (hb1.mono HB.out.size));have HK:=Lib.hid (HK.out.ext hb1);have HJ:=Lib.hid (HJ.out.ext hb1);clear hb1;have k12:=HK.out.cell 12 (v:=.slice A2 n2 c2) rfl;have j12:=HJ.out.cell 12 (v:=.slice A2' n2' c2') rfl;have k16:=HK.out.cell 16 (v:=.slice A3 n3 c3) rfl;have j16:=HJ.out.cell 16 (v:=.slice A3' n3' c3') rfl;have k13:=HK.out.cell 13 (v:=.int .i64 sz) rfl;have j13:=HJ.out.cell 13 (v:=.int .i64 sz') rfl;have k14:=HK.out.cell 14 (v:=.int .i64 nx) rfl;have j14:=HJ.out.cell 14 (v:=.int .i64 nx') rfl;have k15:=HK.out.cell 15 (v:=.int .i64 nw) rfl;have j15:=HJ.out.cell 15 (v:=.int .i64 nw') rfl;have k17:=HK.out.cell 17 (v:=.bool rd) rfl;have j17:=HJ.out.cell 17 (v:=.bool rd') rfl)
   |(go_at_call 36;refine(HBS.out _ HB.out).mono ?_;rintro e2 w2 ⟨rfl,hb2⟩;have HB:=Lib.hid (HB.out.trans (hb2.mono HB.out.size));have HK:=Lib.hid (HK.out.ext hb2);have HJ:=Lib.hid (HJ.out.ext hb2);clear hb2;have k16:=HK.out.cell 16 (v:=.slice A3 n3 c3) rfl;have j16:=HJ.out.cell 16 (v:=.slice A3' n3' c3') rfl;have k13:=HK.out.cell 13 (v:=.int .i64 sz) rfl;have j13:=HJ.out.cell 13 (v:=.int .i64 sz') rfl;have k14:=HK.out.cell 14 (v:=.int .i64 nx) rfl;have j14:=HJ.out.cell 14 (v:=.int .i64 nx') rfl;have k15:=HK.out.cell 15 (v:=.int .i64 nw) rfl;have j15:=HJ.out.cell 15 (v:=.int .i64 nw') rfl;have k17:=HK.out.cell 17 (v:=.bool rd) rfl;have j17:=HJ.out.cell 17 (v:=.bool rd') rfl)
   |(go_at_call 37;refine(HWT.out _ HB.out).mono ?_;rintro e3 w3 ⟨rfl,hb3⟩;have HB:=Lib.hid (HB.out.trans (hb3.mono HB.out.size));have HK:=Lib.hid (HK.out.ext hb3);have HJ:=Lib.hid (HJ.out.ext hb3);clear hb3;have k13:=HK.out.cell 13 (v:=.int .i64 sz) rfl;have j13:=HJ.out.cell 13 (v:=.int .i64 sz') rfl;have k14:=HK.out.cell 14 (v:=.int .i64 nx) rfl;have j14:=HJ.out.cell 14 (v:=.int .i64 nx') rfl;have k15:=HK.out.cell 15 (v:=.int .i64 nw) rfl;have j15:=HJ.out.cell 15 (v:=.int .i64 nw') rfl;have k17:=HK.out.cell 17 (v:=.bool rd) rfl;have j17:=HJ.out.cell 17 (v:=.bool rd') rfl))
  go_ret
  exact⟨by rw[HF.out];rfl,HB.out⟩
 have Ebs:=Lib.hid ebs;rw[decide_eq_true ebs] at HBS;clear ebs;by_cases ewt:wt=wt'
 case neg =>
  have HF:=Lib.hid (show R=false from by rw[HR.out];exact decide_eq_false fun h=>ewt h.2.2.2.1);rw[decide_eq_false ewt] at HWT;clear ewt HR
  go_enter Tryz.func11, Tryz.ntmps11
  go_wp2_with (first
   |(go_at_call 35;refine(HM.out _ HB.out).mono ?_;rintro e1 w1 ⟨rfl,hb1⟩;have HB:=Lib.hid (HB.out.trans (hb1.mono HB.out.size));have HK:=Lib.hid (HK.out.ext hb1);have HJ:=Lib.hid (HJ.out.ext hb1);clear hb1;have k12:=HK.out.cell 12 (v:=.slice A2 n2 c2) rfl;have j12:=HJ.out.cell 12 (v:=.slice A2' n2' c2') rfl;have k16:=HK.out.cell 16 (v:=.slice A3 n3 c3) rfl;have j16:=HJ.out.cell 16 (v:=.slice A3' n3' c3') rfl;have k13:=HK.out.cell 13 (v:=.int .i64 sz) rfl;have j13:=HJ.out.cell 13 (v:=.int .i64 sz') rfl;have k14:=HK.out.cell 14 (v:=.int .i64 nx) rfl;have j14:=HJ.out.cell 14 (v:=.int .i64 nx') rfl;have k15:=HK.out.cell 15 (v:=.int .i64 nw) rfl;have j15:=HJ.out.cell 15 (v:=.int .i64 nw') rfl;have k17:=HK.out.cell 17 (v:=.bool rd) rfl;have j17:=HJ.out.cell 17 (v:=.bool rd') rfl)
   |(go_at_call 36;refine(HBS.out _ HB.out).mono ?_;rintro e2 w2 ⟨rfl,hb2⟩;have HB:=Lib.hid (HB.out.trans (hb2.mono HB.out.size));have HK:=Lib.hid (HK.out.ext hb2);have HJ:=Lib.hid (HJ.out.ext hb2);clear hb2;have k16:=HK.out.cell 16 (v:=.slice A3 n3 c3) rfl;have j16:=HJ.out.cell 16 (v:=.slice A3' n3' c3') rfl;have k13:=HK.out.cell 13 (v:=.int .i64 sz) rfl;have j13:=HJ.out.cell 13 (v:=.int .i64 sz') rfl;have k14:=HK.out.cell 14 (v:=.int .i64 nx) rfl;have j14:=HJ.out.cell 14 (v:=.int .i64 nx') rfl;have k15:=HK.out.cell 15 (v:=.int .i64 nw) rfl;have j15:=HJ.out.cell 15 (v:=.int .i64 nw') rfl;have k17:=HK.out.cell 17 (v:=.bool rd) rfl;have j17:=HJ.out.cell 17 (v:=.bool rd') rfl)
   |(go_at_call 37;refine(HWT.out _ HB.out).mono ?_;rintro e3 w3 ⟨rfl,hb3⟩;have HB:=Lib.hid (HB.out.trans (hb3.mono HB.out.size));have HK:=Lib.hid (HK.out.ext hb3);have HJ:=Lib.hid (HJ.out.ext hb3);clear hb3;have k13:=HK.out.cell 13 (v:=.int .i64 sz) rfl;have j13:=HJ.out.cell 13 (v:=.int .i64 sz') rfl;have k14:=HK.out.cell 14 (v:=.int .i64 nx) rfl;have j14:=HJ.out.cell 14 (v:=.int .i64 nx') rfl;have k15:=HK.out.cell 15 (v:=.int .i64 nw) rfl;have j15:=HJ.out.cell 15 (v:=.int .i64 nw') rfl;have k17:=HK.out.cell 17 (v:=.bool rd) rfl;have j17:=HJ.out.cell 17 (v:=.bool rd') rfl))
  go_ret
  exact⟨by rw[HF.out];rfl,HB.out⟩
 have Ewt:=Lib.hid ewt;rw[decide_eq_true ewt] at HWT;clear ewt;by_cases esz:sz=sz'
 case neg =>
  have HF:=Lib.hid (show R=false from by rw[HR.out];exact decide_eq_false fun h=>esz h.2.2.2.2.1);have bsz:(sz==sz')=false:=by rw[beq_eq_false_iff_ne];exact esz
  clear esz HR
  go_enter Tryz.func11, Tryz.ntmps11
  go_wp2_with (first
   |(go_at_call 35;refine(HM.out _ HB.out).mono ?_;rintro e1 w1 ⟨rfl,hb1⟩;have HB:=Lib.hid (HB.out.trans (hb1.mono HB.out.size));have HK:=Lib.hid (HK.out.ext hb1);have HJ:=Lib.hid (HJ.out.ext hb1);clear hb1;have k12:=HK.out.cell 12 (v:=.slice A2 n2 c2) rfl;have j12:=HJ.out.cell 12 (v:=.slice A2' n2' c2') rfl;have k16:=HK.out.cell 16 (v:=.slice A3 n3 c3) rfl;have j16:=HJ.out.cell 16 (v:=.slice A3' n3' c3') rfl;have k13:=HK.out.cell 13 (v:=.int .i64 sz) rfl;have j13:=HJ.out.cell 13 (v:=.int .i64 sz') rfl;have k14:=HK.out.cell 14 (v:=.int .i64 nx) rfl;have j14:=HJ.out.cell 14 (v:=.int .i64 nx') rfl;have k15:=HK.out.cell 15 (v:=.int .i64 nw) rfl;have j15:=HJ.out.cell 15 (v:=.int .i64 nw') rfl;have k17:=HK.out.cell 17 (v:=.bool rd) rfl;have j17:=HJ.out.cell 17 (v:=.bool rd') rfl)
   |(go_at_call 36;refine(HBS.out _ HB.out).mono ?_;rintro e2 w2 ⟨rfl,hb2⟩;have HB:=Lib.hid (HB.out.trans (hb2.mono HB.out.size));have HK:=Lib.hid (HK.out.ext hb2);have HJ:=Lib.hid (HJ.out.ext hb2);clear hb2;have k16:=HK.out.cell 16 (v:=.slice A3 n3 c3) rfl;have j16:=HJ.out.cell 16 (v:=.slice A3' n3' c3') rfl;have k13:=HK.out.cell 13 (v:=.int .i64 sz) rfl;have j13:=HJ.out.cell 13 (v:=.int .i64 sz') rfl;have k14:=HK.out.cell 14 (v:=.int .i64 nx) rfl;have j14:=HJ.out.cell 14 (v:=.int .i64 nx') rfl;have k15:=HK.out.cell 15 (v:=.int .i64 nw) rfl;have j15:=HJ.out.cell 15 (v:=.int .i64 nw') rfl;have k17:=HK.out.cell 17 (v:=.bool rd) rfl;have j17:=HJ.out.cell 17 (v:=.bool rd') rfl)
   |(go_at_call 37;refine(HWT.out _ HB.out).mono ?_;rintro e3 w3 ⟨rfl,hb3⟩;have HB:=Lib.hid (HB.out.trans (hb3.mono HB.out.size));have HK:=Lib.hid (HK.out.ext hb3);have HJ:=Lib.hid (HJ.out.ext hb3);clear hb3;have k13:=HK.out.cell 13 (v:=.int .i64 sz) rfl;have j13:=HJ.out.cell 13 (v:=.int .i64 sz') rfl;have k14:=HK.out.cell 14 (v:=.int .i64 nx) rfl;have j14:=HJ.out.cell 14 (v:=.int .i64 nx') rfl;have k15:=HK.out.cell 15 (v:=.int .i64 nw) rfl;have j15:=HJ.out.cell 15 (v:=.int .i64 nw') rfl;have k17:=HK.out.cell 17 (v:=.bool rd) rfl;have j17:=HJ.out.cell 17 (v:=.bool rd') rfl))
  go_ret
  exact⟨by rw[HF.out];rfl,HB.out⟩
 have bsz:(sz==sz')=true:=by rw[esz];simp
 have Esz:=Lib.hid esz;clear esz;by_cases enx:nx=nx'
 case neg =>
  have HF:=Lib.hid (show R=false from by rw[HR.out];exact decide_eq_false fun h=>enx h.2.2.2.2.2.1);have bnx:(nx==nx')=false:=by rw[beq_eq_false_iff_ne];exact enx
  clear enx HR
  go_enter Tryz.func11, Tryz.ntmps11
  go_wp2_with (first
   |(go_at_call 35;refine(HM.out _ HB.out).mono ?_;rintro e1 w1 ⟨rfl,hb1⟩;have HB:=Lib.hid (HB.out.trans (hb1.mono HB.out.size));have HK:=Lib.hid (HK.out.ext hb1);have HJ:=Lib.hid (HJ.out.ext hb1);clear hb1;have k12:=HK.out.cell 12 (v:=.slice A2 n2 c2) rfl;have j12:=HJ.out.cell 12 (v:=.slice A2' n2' c2') rfl;have k16:=HK.out.cell 16 (v:=.slice A3 n3 c3) rfl;have j16:=HJ.out.cell 16 (v:=.slice A3' n3' c3') rfl;have k13:=HK.out.cell 13 (v:=.int .i64 sz) rfl;have j13:=HJ.out.cell 13 (v:=.int .i64 sz') rfl;have k14:=HK.out.cell 14 (v:=.int .i64 nx) rfl;have j14:=HJ.out.cell 14 (v:=.int .i64 nx') rfl;have k15:=HK.out.cell 15 (v:=.int .i64 nw) rfl;have j15:=HJ.out.cell 15 (v:=.int .i64 nw') rfl;have k17:=HK.out.cell 17 (v:=.bool rd) rfl;have j17:=HJ.out.cell 17 (v:=.bool rd') rfl)
   |(go_at_call 36;refine(HBS.out _ HB.out).mono ?_;rintro e2 w2 ⟨rfl,hb2⟩;have HB:=Lib.hid (HB.out.trans (hb2.mono HB.out.size));have HK:=Lib.hid (HK.out.ext hb2);have HJ:=Lib.hid (HJ.out.ext hb2);clear hb2;have k16:=HK.out.cell 16 (v:=.slice A3 n3 c3) rfl;have j16:=HJ.out.cell 16 (v:=.slice A3' n3' c3') rfl;have k13:=HK.out.cell 13 (v:=.int .i64 sz) rfl;have j13:=HJ.out.cell 13 (v:=.int .i64 sz') rfl;have k14:=HK.out.cell 14 (v:=.int .i64 nx) rfl;have j14:=HJ.out.cell 14 (v:=.int .i64 nx') rfl;have k15:=HK.out.cell 15 (v:=.int .i64 nw) rfl;have j15:=HJ.out.cell 15 (v:=.int .i64 nw') rfl;have k17:=HK.out.cell 17 (v:=.bool rd) rfl;have j17:=HJ.out.cell 17 (v:=.bool rd') rfl)
   |(go_at_call 37;refine(HWT.out _ HB.out).mono ?_;rintro e3 w3 ⟨rfl,hb3⟩;have HB:=Lib.hid (HB.out.trans (hb3.mono HB.out.size));have HK:=Lib.hid (HK.out.ext hb3);have HJ:=Lib.hid (HJ.out.ext hb3);clear hb3;have k13:=HK.out.cell 13 (v:=.int .i64 sz) rfl;have j13:=HJ.out.cell 13 (v:=.int .i64 sz') rfl;have k14:=HK.out.cell 14 (v:=.int .i64 nx) rfl;have j14:=HJ.out.cell 14 (v:=.int .i64 nx') rfl;have k15:=HK.out.cell 15 (v:=.int .i64 nw) rfl;have j15:=HJ.out.cell 15 (v:=.int .i64 nw') rfl;have k17:=HK.out.cell 17 (v:=.bool rd) rfl;have j17:=HJ.out.cell 17 (v:=.bool rd') rfl))
  go_ret
  exact⟨by rw[HF.out];rfl,HB.out⟩
 have bnx:(nx==nx')=true:=by rw[enx];simp
 have Enx:=Lib.hid enx;clear enx;by_cases enw:nw=nw'
 case neg =>
  have HF:=Lib.hid (show R=false from by rw[HR.out];exact decide_eq_false fun h=>enw h.2.2.2.2.2.2.1);have bnw:(nw==nw')=false:=by rw[beq_eq_false_iff_ne];exact enw
  clear enw HR
  go_enter Tryz.func11, Tryz.ntmps11
  go_wp2_with (first
   |(go_at_call 35;refine(HM.out _ HB.out).mono ?_;rintro e1 w1 ⟨rfl,hb1⟩;have HB:=Lib.hid (HB.out.trans (hb1.mono HB.out.size));have HK:=Lib.hid (HK.out.ext hb1);have HJ:=Lib.hid (HJ.out.ext hb1);clear hb1;have k12:=HK.out.cell 12 (v:=.slice A2 n2 c2) rfl;have j12:=HJ.out.cell 12 (v:=.slice A2' n2' c2') rfl;have k16:=HK.out.cell 16 (v:=.slice A3 n3 c3) rfl;have j16:=HJ.out.cell 16 (v:=.slice A3' n3' c3') rfl;have k13:=HK.out.cell 13 (v:=.int .i64 sz) rfl;have j13:=HJ.out.cell 13 (v:=.int .i64 sz') rfl;have k14:=HK.out.cell 14 (v:=.int .i64 nx) rfl;have j14:=HJ.out.cell 14 (v:=.int .i64 nx') rfl;have k15:=HK.out.cell 15 (v:=.int .i64 nw) rfl;have j15:=HJ.out.cell 15 (v:=.int .i64 nw') rfl;have k17:=HK.out.cell 17 (v:=.bool rd) rfl;have j17:=HJ.out.cell 17 (v:=.bool rd') rfl)
   |(go_at_call 36;refine(HBS.out _ HB.out).mono ?_;rintro e2 w2 ⟨rfl,hb2⟩;have HB:=Lib.hid (HB.out.trans (hb2.mono HB.out.size));have HK:=Lib.hid (HK.out.ext hb2);have HJ:=Lib.hid (HJ.out.ext hb2);clear hb2;have k16:=HK.out.cell 16 (v:=.slice A3 n3 c3) rfl;have j16:=HJ.out.cell 16 (v:=.slice A3' n3' c3') rfl;have k13:=HK.out.cell 13 (v:=.int .i64 sz) rfl;have j13:=HJ.out.cell 13 (v:=.int .i64 sz') rfl;have k14:=HK.out.cell 14 (v:=.int .i64 nx) rfl;have j14:=HJ.out.cell 14 (v:=.int .i64 nx') rfl;have k15:=HK.out.cell 15 (v:=.int .i64 nw) rfl;have j15:=HJ.out.cell 15 (v:=.int .i64 nw') rfl;have k17:=HK.out.cell 17 (v:=.bool rd) rfl;have j17:=HJ.out.cell 17 (v:=.bool rd') rfl)
   |(go_at_call 37;refine(HWT.out _ HB.out).mono ?_;rintro e3 w3 ⟨rfl,hb3⟩;have HB:=Lib.hid (HB.out.trans (hb3.mono HB.out.size));have HK:=Lib.hid (HK.out.ext hb3);have HJ:=Lib.hid (HJ.out.ext hb3);clear hb3;have k13:=HK.out.cell 13 (v:=.int .i64 sz) rfl;have j13:=HJ.out.cell 13 (v:=.int .i64 sz') rfl;have k14:=HK.out.cell 14 (v:=.int .i64 nx) rfl;have j14:=HJ.out.cell 14 (v:=.int .i64 nx') rfl;have k15:=HK.out.cell 15 (v:=.int .i64 nw) rfl;have j15:=HJ.out.cell 15 (v:=.int .i64 nw') rfl;have k17:=HK.out.cell 17 (v:=.bool rd) rfl;have j17:=HJ.out.cell 17 (v:=.bool rd') rfl))
  go_ret
  exact⟨by rw[HF.out];rfl,HB.out⟩
 have bnw:(nw==nw')=true:=by rw[enw];simp
 have Enw:=Lib.hid enw;clear enw;by_cases erd:rd=rd'
 case neg =>
  have HF:=Lib.hid (show R=false from by rw[HR.out];exact decide_eq_false fun h=>erd h.2.2.2.2.2.2.2);have brd:(rd==rd')=false:=by rw[beq_eq_false_iff_ne];exact erd
  clear erd HR
  go_enter Tryz.func11, Tryz.ntmps11
  go_wp2_with (first
   |(go_at_call 35;refine(HM.out _ HB.out).mono ?_;rintro e1 w1 ⟨rfl,hb1⟩;have HB:=Lib.hid (HB.out.trans (hb1.mono HB.out.size));have HK:=Lib.hid (HK.out.ext hb1);have HJ:=Lib.hid (HJ.out.ext hb1);clear hb1;have k12:=HK.out.cell 12 (v:=.slice A2 n2 c2) rfl;have j12:=HJ.out.cell 12 (v:=.slice A2' n2' c2') rfl;have k16:=HK.out.cell 16 (v:=.slice A3 n3 c3) rfl;have j16:=HJ.out.cell 16 (v:=.slice A3' n3' c3') rfl;have k13:=HK.out.cell 13 (v:=.int .i64 sz) rfl;have j13:=HJ.out.cell 13 (v:=.int .i64 sz') rfl;have k14:=HK.out.cell 14 (v:=.int .i64 nx) rfl;have j14:=HJ.out.cell 14 (v:=.int .i64 nx') rfl;have k15:=HK.out.cell 15 (v:=.int .i64 nw) rfl;have j15:=HJ.out.cell 15 (v:=.int .i64 nw') rfl;have k17:=HK.out.cell 17 (v:=.bool rd) rfl;have j17:=HJ.out.cell 17 (v:=.bool rd') rfl)
   |(go_at_call 36;refine(HBS.out _ HB.out).mono ?_;rintro e2 w2 ⟨rfl,hb2⟩;have HB:=Lib.hid (HB.out.trans (hb2.mono HB.out.size));have HK:=Lib.hid (HK.out.ext hb2);have HJ:=Lib.hid (HJ.out.ext hb2);clear hb2;have k16:=HK.out.cell 16 (v:=.slice A3 n3 c3) rfl;have j16:=HJ.out.cell 16 (v:=.slice A3' n3' c3') rfl;have k13:=HK.out.cell 13 (v:=.int .i64 sz) rfl;have j13:=HJ.out.cell 13 (v:=.int .i64 sz') rfl;have k14:=HK.out.cell 14 (v:=.int .i64 nx) rfl;have j14:=HJ.out.cell 14 (v:=.int .i64 nx') rfl;have k15:=HK.out.cell 15 (v:=.int .i64 nw) rfl;have j15:=HJ.out.cell 15 (v:=.int .i64 nw') rfl;have k17:=HK.out.cell 17 (v:=.bool rd) rfl;have j17:=HJ.out.cell 17 (v:=.bool rd') rfl)
   |(go_at_call 37;refine(HWT.out _ HB.out).mono ?_;rintro e3 w3 ⟨rfl,hb3⟩;have HB:=Lib.hid (HB.out.trans (hb3.mono HB.out.size));have HK:=Lib.hid (HK.out.ext hb3);have HJ:=Lib.hid (HJ.out.ext hb3);clear hb3;have k13:=HK.out.cell 13 (v:=.int .i64 sz) rfl;have j13:=HJ.out.cell 13 (v:=.int .i64 sz') rfl;have k14:=HK.out.cell 14 (v:=.int .i64 nx) rfl;have j14:=HJ.out.cell 14 (v:=.int .i64 nx') rfl;have k15:=HK.out.cell 15 (v:=.int .i64 nw) rfl;have j15:=HJ.out.cell 15 (v:=.int .i64 nw') rfl;have k17:=HK.out.cell 17 (v:=.bool rd) rfl;have j17:=HJ.out.cell 17 (v:=.bool rd') rfl))
  go_ret
  exact⟨by rw[HF.out];rfl,HB.out⟩
 have brd:(rd==rd')=true:=by rw[erd];simp
 have Erd:=Lib.hid erd;clear erd;have HF:=Lib.hid (show R=true from by rw[HR.out];exact decide_eq_true ⟨Ecf.out,rfl,Ebs.out,Ewt.out,Esz.out,Enx.out,Enw.out,Erd.out⟩);clear HR
 go_enter Tryz.func11, Tryz.ntmps11
 go_wp2_with (first
 |(go_at_call 35;refine(HM.out _ HB.out).mono ?_;rintro e1 w1 ⟨rfl,hb1⟩;have HB:=Lib.hid (HB.out.trans (hb1.mono HB.out.size));have HK:=Lib.hid (HK.out.ext hb1);have HJ:=Lib.hid (HJ.out.ext hb1);clear hb1;have k12:=HK.out.cell 12 (v:=.slice A2 n2 c2) rfl;have j12:=HJ.out.cell 12 (v:=.slice A2' n2' c2') rfl;have k16:=HK.out.cell 16 (v:=.slice A3 n3 c3) rfl;have j16:=HJ.out.cell 16 (v:=.slice A3' n3' c3') rfl;have k13:=HK.out.cell 13 (v:=.int .i64 sz) rfl;have j13:=HJ.out.cell 13 (v:=.int .i64 sz') rfl;have k14:=HK.out.cell 14 (v:=.int .i64 nx) rfl;have j14:=HJ.out.cell 14 (v:=.int .i64 nx') rfl;have k15:=HK.out.cell 15 (v:=.int .i64 nw) rfl;have j15:=HJ.out.cell 15 (v:=.int .i64 nw') rfl;have k17:=HK.out.cell 17 (v:=.bool rd) rfl;have j17:=HJ.out.cell 17 (v:=.bool rd') rfl)
 |(go_at_call 36;refine(HBS.out _ HB.out).mono ?_;rintro e2 w2 ⟨rfl,hb2⟩;have HB:=Lib.hid (HB.out.trans (hb2.mono HB.out.size));have HK:=Lib.hid (HK.out.ext hb2);have HJ:=Lib.hid (HJ.out.ext hb2);clear hb2;have k16:=HK.out.cell 16 (v:=.slice A3 n3 c3) rfl;have j16:=HJ.out.cell 16 (v:=.slice A3' n3' c3') rfl;have k13:=HK.out.cell 13 (v:=.int .i64 sz) rfl;have j13:=HJ.out.cell 13 (v:=.int .i64 sz') rfl;have k14:=HK.out.cell 14 (v:=.int .i64 nx) rfl;have j14:=HJ.out.cell 14 (v:=.int .i64 nx') rfl;have k15:=HK.out.cell 15 (v:=.int .i64 nw) rfl;have j15:=HJ.out.cell 15 (v:=.int .i64 nw') rfl;have k17:=HK.out.cell 17 (v:=.bool rd) rfl;have j17:=HJ.out.cell 17 (v:=.bool rd') rfl)
 |(go_at_call 37;refine(HWT.out _ HB.out).mono ?_;rintro e3 w3 ⟨rfl,hb3⟩;have HB:=Lib.hid (HB.out.trans (hb3.mono HB.out.size));have HK:=Lib.hid (HK.out.ext hb3);have HJ:=Lib.hid (HJ.out.ext hb3);clear hb3;have k13:=HK.out.cell 13 (v:=.int .i64 sz) rfl;have j13:=HJ.out.cell 13 (v:=.int .i64 sz') rfl;have k14:=HK.out.cell 14 (v:=.int .i64 nx) rfl;have j14:=HJ.out.cell 14 (v:=.int .i64 nx') rfl;have k15:=HK.out.cell 15 (v:=.int .i64 nw) rfl;have j15:=HJ.out.cell 15 (v:=.int .i64 nw') rfl;have k17:=HK.out.cell 17 (v:=.bool rd) rfl;have j17:=HJ.out.cell 17 (v:=.bool rd') rfl))
 go_ret
 exact⟨by rw[HF.out];rfl,HB.out⟩
end Op
end Go.Proofs.YtphfmgapiimliaaGreat
