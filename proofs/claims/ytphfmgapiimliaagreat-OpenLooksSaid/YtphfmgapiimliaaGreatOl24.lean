/- varveref25.Check. A whole struct loaded in a quiet region: one step, no cell is opened. -/
import Derived.Test.YtphfmgapiimliaaGreatOl23
import Derived.Deep.Cut
import Derived.Test.YtphfmgapiimliaaGreatOl08
namespace Go.Proofs.YtphfmgapiimliaaGreat
namespace Op
open Go.RowKit Hd Rd Dk
set_option maxHeartbeats 6400000 in
set_option maxRecDepth 100000 in
theorem r25_any (m:Mf) (s:Sl) (w:World) (hrd:Rd w w.heap.size 9 s.A s.n (flS m.es)) (hn:s.n<=1000000) :
  Calls Tryz.prog 25 #[magg m s] w fun e w'=>e=.returned (.int .i64 (mfE m))/\Below w.heap.size w w':=by
 have mixed:Tryz.prog.follows .mixedOrders=true:=by kernel_rfl
 have hln:=rdS_len hrd;have HR:=Lib.hid (fun wx (hx:Below w.heap.size w wx)=>r24row_any s.A s.n s.c m.es wx ((hrd.below hx).more hx.size) hn);have HC:=Lib.hid (Blk.new w #[.int .i64 m.g,.int .i64 m.x,.int .i64 m.t,.int .i64 m.fl,.slice s.A s.n s.c] 26);have HB:=Lib.hid (ext_alloc w (.cells #[.int .i64 m.g,.int .i64 m.x,.int .i64 m.t,.int .i64 m.fl,.slice s.A s.n s.c] 26));by_cases h1:1<=m.g/\m.g<=1000000000/\0<=m.t/\m.t<=1000000000
 case neg =>
  have HE:=Lib.hid (okMf_bad1 h1);obtain⟨g,nx,t,fl,es⟩:=m;obtain⟨A,n,c⟩:=s;unfold magg;dsimp only at *
  generalize mfE _=E at *
  have HH:=Lib.hid h1;clear hrd h1 hln hn
  go_enter Tryz.func25, Tryz.ntmps25
  go_wp2_with (go_at_call 56;exfalso;refine HH.out ?_;omega)
  all_goals
   go_ret
   exact⟨by rw[HE.out];rfl,HB.out⟩
 rcases h2:okR m.es with _|_
 ·have HE:=Lib.hid (okMf_bad2 h2)
  have e0:rE m.es=240:=rE_no h2;rw[e0] at HR;obtain⟨g,nx,t,fl,es⟩:=m;obtain⟨A,n,c⟩:=s;unfold magg;dsimp only at *
  generalize mfE _=E at *
  obtain⟨g1,g2,g3,g4⟩:=h1;clear hrd hln hn h2 e0
  go_enter Tryz.func25, Tryz.ntmps25
  go_wp2_with (go_at_call 56;refine(HR.out _ HB.out).mono ?_;rintro e1 w1 ⟨rfl,hb1⟩;have HB:=Lib.hid (HB.out.trans (hb1.mono HB.out.size));clear hb1)
  go_ret
  exact⟨by rw[HE.out];rfl,HB.out⟩
 ·have e0:rE m.es=0:=rE_yes h2
  rw[e0] at HR;have hl2:=okR_len2 h2;obtain⟨j,hj⟩:∃j,s.n=j+1:=⟨s.n-1,by omega⟩
  obtain⟨ad,y,hA,hbk,hy,f0,-⟩:=sl_at (k:=j) hrd (by omega);obtain⟨ad',x,hA',-,hx,-,gj⟩:=sl_at (k:=0) hrd (by omega);obtain rfl:ad=ad':=Option.some.inj (hA.symm.trans hA');have hzz:ad.add (0*9)=ad:=by rw[Nat.zero_mul];unfold Addr.add;simp
  rw[hzz] at gj;have gj:=gj 1 (by decide);have HE:=Lib.hid (okMf_at h1 h2 hx (by omega) hy);have hlt:(ad.add (j*9)).block<w.heap.size:=by rw[add_block];exact hbk
  have HS:=Lib.hid hrd;have HLN:=Lib.hid hln;obtain⟨g,nx,t,fl,es⟩:=m;obtain⟨A,n,c⟩:=s;obtain⟨yi,yg,yf,yz,yc,yb,ye,yl,yn⟩:=y;obtain⟨xi,xg,xf,xz,xc,xb,xe,xl,xn⟩:=x;unfold magg;dsimp only at *
  generalize mfE _=E at *
  obtain⟨p1,p2,p3,p4⟩:=h1;subst hA;have b3:IntKind.i64.wrap ((n:Int)-1)=(j:Int):=by rw[IntKind.wrap_i64];omega
  have b4:(j:Int)<(n:Int):=by omega
  have b8:(0:Int)<=(j:Int):=by omega
  have b5:(0:Int)<(n:Int):=by omega
  have b6:0<n:=by omega
  have b7: ¬ n=0:=by omega
  have HF:=Lib.hid (And.intro f0 gj);have HL:=Lib.hid (And.intro hlt hbk);have HNJ:=Lib.hid hj;have hn100:n<=100:=by omega
  clear hrd hln hn h2 e0 hj hx hy hA' f0 gj hlt hbk hzz hl2
  go_enter Tryz.func25, Tryz.ntmps25
  go_upto_region 3 with (go_at_call 56;refine(HR.out _ HB.out).mono ?_;rintro e1 w1 ⟨rfl,hb1⟩;have HB:=Lib.hid (HB.out.trans (hb1.mono HB.out.size));have HC:=Lib.hid (HC.out.ext hb1);clear hb1)
  have k1:=HC.out.cell 1 (v:=.int .i64 nx) rfl;have k3:=HC.out.cell 3 (v:=.int .i64 fl) rfl;have k4:=HC.out.cell 4 (v:=.slice (some ad) n c) rfl;have y0:w1.cell? (ad.add (j*9))=some (.int .i64 yi):=(HB.out.cell HL.out.1).trans HF.out.1;have x2:w1.cell? ⟨ad.block,ad.off+2,none⟩=some (.int .i64 xf):=(HB.out.cell (p:=⟨ad.block,ad.off+2,none⟩) HL.out.2).trans HF.out.2;by_cases t1:nx<=yi
  ·replace HE:=Lib.hid (HE.out.trans (if_neg (by omega)))
   clear k3 x2;go_quiet (fail)
   go_wp2_with fail
   go_ret
   exact⟨by rw[HE.out];rfl,below_drewN HB.out _⟩
  by_cases t2:1000000<nx
  ·replace HE:=Lib.hid (HE.out.trans (if_neg (by omega)))
   clear k3 x2;go_quiet (fail)
   go_wp2_with fail
   go_ret
   exact⟨by rw[HE.out];rfl,below_drewN HB.out _⟩
  by_cases t3:fl=xf
  case neg =>
   replace HE:=Lib.hid (HE.out.trans (if_neg (by rintro ⟨⟨-,-,h⟩,-⟩;exact t3 h)));have t3':(fl != xf)=true:=by rw[bne_iff_ne];exact t3
   clear t3;go_quiet (fail)
   go_wp2_with fail
   go_ret
   exact⟨by rw[HE.out];rfl,below_drewN HB.out _⟩
  have t3':(fl != xf)=false:=by rw[t3];simp
  replace HE:=Lib.hid (show E=if lateB t es=false then 0 else 250 from HE.out.trans (by
   by_cases hb:lateB t es=false
   ·rw[if_pos ⟨⟨by omega,by omega,t3⟩,hb⟩,if_pos hb]
   ·rw[if_neg (fun h=>hb h.2),if_neg hb]))
  clear t3;go_quiet (fail)
  clear k1 k3 k4 y0 x2 HR HF HL p1 p2 p3 p4 t1 t2 t3' b3 b4 b8 b5 b6 b7;go_upto_region 6 with (fail)
  generalize hwd:w1.drewN _=w2 at *
  have HB2:=Lib.hid (show Below w.heap.size w w2 from hwd▸below_drewN HB.out _);have HC2:=Lib.hid (show Blk w2 w.heap.size #[.int .i64 g,.int .i64 nx,.int .i64 t,.int .i64 fl,.slice (some ad) n c] 26 from hwd▸HC.out);clear hwd HB HC;go_loopw [3] (fun v wr=>∃k:Nat,v=.int .i64 (k:Int)/\k<=n/\Hid (Below w.heap.size w wr/\Blk wr w.heap.size #[.int .i64 g,.int .i64 nx,.int .i64 t,.int .i64 fl,.slice (some ad) n c] 26/\ ∀j r,j<k->es[j]? =some r-> ¬ t<r.l)) (fun v _=>n-(intOf v).toNat)
  case atStart=>exact⟨0,by go_num,by omega,Lib.hid ⟨HB2.out,HC2.out,fun j r h=>absurd h (by omega)⟩⟩
  case round =>
   clear HB2 HC2;obtain⟨k,rfl,hk,HX⟩:=hrel;have k4:=HX.out.2.1.cell 4 (v:=.slice (some ad) n c) rfl;have k2:=HX.out.2.1.cell 2 (v:=.int .i64 t) rfl;by_cases hkn:k<n
   ·obtain⟨ad',m,hA,hbk,hx,-,ej⟩:=sl_at (HS.out.below HX.out.1) hkn
    obtain rfl:ad=ad':=Option.some.inj hA;have c7:wr.cell? ⟨(ad.add (k*9)).block,(ad.add (k*9)).off+7,none⟩=some (.int .i64 m.l):=ej 6 (by decide);have i1:(0:Int)<=(k:Int):=by omega
    have i2:(k:Int)<(n:Int):=by omega
    have i3:IntKind.i64.wrap (k:Int)=(k:Int):=by rw[IntKind.wrap_i64];omega
    have HBB:=Lib.hid HX.out.1;have HCC:=Lib.hid HX.out.2.1;by_cases hlt:t<m.l
    ·have HE2:=Lib.hid (show E=250 from HE.out.trans (if_neg (by
      unfold lateB;rw[Bool.not_eq_false,List.any_eq_true];exact⟨m,List.mem_of_getElem? hx,decide_eq_true hlt⟩)))
     obtain⟨mi,mg',mf',mz,mc,mb,me,ml,mn⟩:=m;dsimp only at *
     clear ej hx hbk HX hA;go_wp2_with fail
     go_quiet (fail)
     go_wp2_with fail
     go_ret
     exact⟨by rw[HE2.out];rfl,below_drewN HBB.out _⟩
    ·have HN:=Lib.hid (show ∀j r,j<k+1->es[j]? =some r-> ¬ t<r.l from fun j r hj hr=>by
      rcases Nat.lt_or_ge j k with h|h
      ·exact HX.out.2.2 j r h hr
      ·obtain rfl:j=k:=by omega
       rw[hx] at hr;cases hr;exact hlt)
     obtain⟨mi,mg',mf',mz,mc,mb,me,ml,mn⟩:=m;dsimp only at *
     clear ej hx hbk HX hA;go_wp2_with fail
     go_quiet (fail)
     go_wp2_with fail
     go_roundw
     case rel=>exact⟨k+1,by go_num,by omega,Lib.hid ⟨below_drewN HBB.out _,HCC.out,fun j r hj hr=>by have:=HN.out j r hj hr;omega⟩⟩
     case measure=>simp[intOf];omega
   ·obtain rfl:n=k:=by omega
    have HE2:=Lib.hid (show E=0 from HE.out.trans (if_pos (by
     unfold lateB;rw[List.any_eq_false];intro x hx;obtain⟨j,hj,rfl⟩:=List.getElem_of_mem hx;simpa using HX.out.2.2 j _ (by rw[<-HLN.out];exact hj) (List.getElem?_eq_getElem hj))))
    have HBB:=Lib.hid HX.out.1;clear HX;go_wp2_with fail
    go_ret
    exact⟨by rw[HE2.out];rfl,HBB.out⟩
end Op
end Go.Proofs.YtphfmgapiimliaaGreat
namespace Go.Proofs.YtphfmgapiimliaaGreat
open Go.RowKit
theorem wpQuiet_load_row {P:Program} {ops:Array Oper} {C:World->Prop} {Q:Act->Prop} {rest:List Oper} {o:Oper} {a:Act} (t:TypeId) (x:Operand) (ho:o.op=.load t x) (hw:Region.wanted o (yielded ops a.tmps)=true)
  (g:Nat) (c:Array Value) (d:TypeDesc) (hx:a.eval x=.pointer (some ⟨g,0,none⟩)) (hh:∀w,C w->Blk w g c t) (hu:P.underlying t=some d) (hd:(match d with|.struct _|.array _ _=>true|_=>false)=true) (hi:(P.info? t).map (·.size)=some c.size)
  (h:wpQuiet P ops C Q rest (a.put o.dst (.agg c))):wpQuiet P ops C Q (o::rest) a:=by
 refine wpQuiet_step fun K hK=>?_
 rw[if_pos hw];refine⟨.agg c,fun w hC=>?_,hK _ h⟩;unfold Oper.quietAt execOp;simp only[ho,hx,Instr.loadAt,Instr.sureAddr,Sem.run_bind,Sem.run_pure,Result.andThen_ok,run_loadVar_row w g t t c (0,0) d (hh w hC) hu hd hi];exact⟨rfl,rfl⟩
theorem quiet_load_row {P:Program} {C:World->Prop} {K:Act->Prop} {o:Oper} {a:Act} (t:TypeId) (x:Operand) (ho:o.op=.load t x)
  (g:Nat) (c:Array Value) (d:TypeDesc) (hx:a.eval x=.pointer (some ⟨g,0,none⟩)) (hh:∀w,C w->Blk w g c t) (hu:P.underlying t=some d) (hd:(match d with|.struct _|.array _ _=>true|_=>false)=true) (hi:(P.info? t).map (·.size)=some c.size)
  (h:K (a.put o.dst (.agg c))):o.quiet P a C K:=by
 refine⟨.agg c,fun w hC=>?_,h⟩;unfold Oper.quietAt execOp;simp only[ho,hx,Instr.loadAt,Instr.sureAddr,Sem.run_bind,Sem.run_pure,Result.andThen_ok,run_loadVar_row w g t t c (0,0) d (hh w hC) hu hd hi];exact⟨rfl,rfl⟩
end Go.Proofs.YtphfmgapiimliaaGreat
