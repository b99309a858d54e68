/- pick.Check; mani.Check: its search for a late entry, itself. -/
import Derived.Test.YtejcdhdfanfkbaaGreatFb10
namespace Go.Proofs.YtejcdhdfanfkbaaGreat
namespace Op
open Go.RowKit Hd Rd
set_option maxHeartbeats 1600000 in
theorem has_any (a b n:Int) (w:World):Calls Tryz.prog 118 #[.agg #[.int .i64 a,.int .i64 b],.int .i64 n] w fun e w'=>e=.returned (.bool (inB n a b))/\Below w.heap.size w w':=by
 have HB:=Lib.hid (ext_alloc w (.cells #[.int .i64 a,.int .i64 b] 212))
 go_enter Tryz.func118, Tryz.ntmps118
 go_wp2_with fail
 all_goals
  go_ret
  refine⟨ret_bool ?_,HB.out⟩;simp[inB]
  try omega
def cagg (c:Cf):Value:=.agg #[.int .i64 c.b,.int .i64 c.t,.int .i64 c.s,.int .i64 c.a,.int .i64 c.k,.int .i64 c.y,.int .i64 c.o]
def cfE (c:Cf):Int:=if okCf c=true then 0 else 270
set_option maxHeartbeats 6400000 in
set_option maxRecDepth 100000 in
theorem pcheck_any (c:Cf) (w:World):Calls Tryz.prog 72 #[cagg c] w fun e w'=>e=.returned (.int .i64 (cfE c))/\Below w.heap.size w w':=by
 have HH:=Lib.hid has_any;have HE:=Lib.hid (show cfE c=if okCf c=true then 0 else 270 from rfl);obtain⟨b,t,s,a,k,y,o⟩:=c;unfold cagg;generalize cfE _=E at *
 dsimp only;have HC:=Lib.hid (Blk.new w #[.int .i64 b,.int .i64 t,.int .i64 s,.int .i64 a,.int .i64 k,.int .i64 y,.int .i64 o] 67);have HB:=Lib.hid (ext_alloc w (.cells #[.int .i64 b,.int .i64 t,.int .i64 s,.int .i64 a,.int .i64 k,.int .i64 y,.int .i64 o] 67))
 go_enter Tryz.func72, Tryz.ntmps72
 go_wp2_with (go_at_call 118;refine(HH.out _ _ _ _).mono ?_;rintro e1 w1 ⟨rfl,hb1⟩;have HB:=Lib.hid (HB.out.trans (hb1.mono HB.out.size));have HC:=Lib.hid (HC.out.ext hb1);clear hb1;have k0:=HC.out.cell 0 (v:=.int .i64 b) rfl;have k1:=HC.out.cell 1 (v:=.int .i64 t) rfl;have k2:=HC.out.cell 2 (v:=.int .i64 s) rfl;have k3:=HC.out.cell 3 (v:=.int .i64 a) rfl;have k4:=HC.out.cell 4 (v:=.int .i64 k) rfl;have k5:=HC.out.cell 5 (v:=.int .i64 y) rfl;have k6:=HC.out.cell 6 (v:=.int .i64 o) rfl)
 all_goals
  go_ret
  refine⟨ret_int ?_,HB.out⟩;rw[HE.out];simp[okCf,inB] at *
  first|omega|(intros;omega)
def lateB (t:Int) (l:List En):Bool:=l.any fun x=>decide (t<x.l)
set_option maxHeartbeats 1600000 in
theorem late1_any (m:En) (bm:Nat) (t:Int) (w:World) (hc:w.cell? ⟨bm,2,none⟩=some (.int .i64 t)):Calls Tryz.prog 230 #[eagg m,.pointer (some ⟨bm,0,none⟩)] w fun e w'=>e=.returned (.bool (decide (t<m.l)))/\Below w.heap.size w w':=by
 have hlt:=World.block_lt_of_cell? w ⟨bm,2,none⟩ hc;have HB:=Lib.hid (ext_alloc w (.cells #[.int .i64 m.i,.int .i64 m.g,.int .i64 m.f,.bool m.z,.int .i64 m.c,.int .i64 m.b,.int .i64 m.e,.int .i64 m.l,.int .i64 m.n] 217));have hc2:=(World.cell?_alloc_lt w (.cells #[.int .i64 m.i,.int .i64 m.g,.int .i64 m.f,.bool m.z,.int .i64 m.c,.int .i64 m.b,.int .i64 m.e,.int .i64 m.l,.int .i64 m.n] 217) ⟨bm,2,none⟩ hlt).trans hc;obtain⟨mi,mg,mf,mz,mc,mb,me,ml,mn⟩:=m;unfold eagg;dsimp only at *
 clear hc hlt
 go_enter Tryz.func230, Tryz.ntmps230
 go_wp2_with fail
 go_ret
 exact⟨rfl,HB.out⟩
set_option maxHeartbeats 3200000 in
set_option maxRecDepth 100000 in
theorem index_late (A:Option Addr) (n c:Nat) (l:List En) (bm:Nat) (t:Int) (w:World) (hrd:Rd w w.heap.size 9 A n (flS l)) (hn:n<=1000000) (hc:w.cell? ⟨bm,2,none⟩=some (.int .i64 t)) :
  Calls Tryz.prog 277 #[.slice A n c,.func (.func 230) #[] #[.pointer (some ⟨bm,0,none⟩)]] w fun e w'=>∃x:Int,e=.returned (.int .i64 x)/\decide (0<=x)=lateB t l/\Below w.heap.size w w':=by
 have hln:=rdS_len hrd;have hlt:=World.block_lt_of_cell? w ⟨bm,2,none⟩ hc;have HR:=Lib.hid hrd;have HLN:=Lib.hid hln;have HC:=Lib.hid (fun(wx:World) (hb:Below w.heap.size w wx) (m:En)=>late1_any m bm t wx ((hb.cell hlt).trans hc));clear hrd hln hlt hc
 go_enter Tryz.func277, Tryz.ntmps277
 go_wp2_with fail
 go_loopw [8] (fun v wr=>∃k:Nat,v=.int .i64 k/\k<=n/\Hid (Below w.heap.size w wr/\ ∀j r,j<k->l[j]? =some r-> ¬ t<r.l)) (fun v _=>n-(intOf v).toNat)
 case atStart=>exact⟨0,by go_num,by omega,Lib.hid ⟨Below.refl _ _,fun j r h=>absurd h (by omega)⟩⟩
 case round =>
  obtain⟨k,rfl,hk,HX⟩:=hrel;by_cases hkn:k<n
  ·obtain⟨ad,m,rfl,hbk,hx,e0,ej⟩:=sl_at (HR.out.below HX.out.1) hkn
   have c0:wr.cell? (ad.add (k*9))=some (.int .i64 m.i):=e0;have c1:wr.cell? ⟨(ad.add (k*9)).block,(ad.add (k*9)).off+1,none⟩=some (.int .i64 m.g):=ej 0 (by decide);have c2:wr.cell? ⟨(ad.add (k*9)).block,(ad.add (k*9)).off+2,none⟩=some (.int .i64 m.f):=ej 1 (by decide);have c3:wr.cell? ⟨(ad.add (k*9)).block,(ad.add (k*9)).off+3,none⟩=some (.bool m.z):=ej 2 (by decide);have c4:wr.cell? ⟨(ad.add (k*9)).block,(ad.add (k*9)).off+4,none⟩=some (.int .i64 m.c):=ej 3 (by decide);have c5:wr.cell? ⟨(ad.add (k*9)).block,(ad.add (k*9)).off+5,none⟩=some (.int .i64 m.b):=ej 4 (by decide);have c6:wr.cell? ⟨(ad.add (k*9)).block,(ad.add (k*9)).off+6,none⟩=some (.int .i64 m.e):=ej 5 (by decide);have c7:wr.cell? ⟨(ad.add (k*9)).block,(ad.add (k*9)).off+7,none⟩=some (.int .i64 m.l):=ej 6 (by decide);have c8:wr.cell? ⟨(ad.add (k*9)).block,(ad.add (k*9)).off+8,none⟩=some (.int .i64 m.n):=ej 7 (by decide);clear e0 ej;have HM:=Lib.hid (HC.out wr HX.out.1 m);by_cases hlt:t<m.l
   ·have HT:=Lib.hid (show lateB t l=true from by unfold lateB;rw[List.any_eq_true];exact⟨m,List.mem_of_getElem? hx,decide_eq_true hlt⟩)
    have HD:=Lib.hid (decide_eq_true hlt);rw[HD.out] at HM;obtain⟨mi,mg,mf,mz,mc,mb,me,ml,mn⟩:=m;unfold eagg at HM;dsimp only at *
    clear hx hbk HD;have hk0:(0:Int)<=(k:Int):=by omega
    go_wp2_with (go_at_call 230;refine HM.out.mono ?_;rintro e1 w1 ⟨rfl,hb1⟩;have HB1:=Lib.hid (HX.out.1.trans (hb1.mono HX.out.1.size));clear hb1)
    go_ret
    exact⟨k,rfl,by rw[HT.out];exact decide_eq_true hk0,HB1.out⟩
   ·have HD:=Lib.hid (decide_eq_false hlt)
    have HN:=Lib.hid (show ∀j r,j<k+1->l[j]? =some r-> ¬ t<r.l from fun j r hj hr=>by
     rcases Nat.lt_or_ge j k with h|h
     ·exact HX.out.2 j r h hr
     ·obtain rfl:j=k:=by omega
      rw[hx] at hr;cases hr;exact hlt)
    rw[HD.out] at HM;obtain⟨mi,mg,mf,mz,mc,mb,me,ml,mn⟩:=m;unfold eagg at HM;dsimp only at *
    clear hx hbk HD hlt;go_wp2_with (go_at_call 230;refine HM.out.mono ?_;rintro e1 w1 ⟨rfl,hb1⟩;have HB1:=Lib.hid (HX.out.1.trans (hb1.mono HX.out.1.size));clear hb1)
    go_roundw
    case rel=>exact⟨k+1,by go_num,by omega,Lib.hid ⟨HB1.out,fun j r hj hr=>by have:=HN.out j r hj hr;omega⟩⟩
    case measure=>simp[intOf];omega
  ·obtain rfl:k=n:=by omega
   have HF:=Lib.hid (show lateB t l=false from by
    unfold lateB;rw[List.any_eq_false];intro x hx;obtain⟨j,hj,rfl⟩:=List.getElem_of_mem hx;simpa using HX.out.2 j _ (by rw[<-HLN.out];exact hj) (List.getElem?_eq_getElem hj))
   have HB:=Lib.hid HX.out.1;clear HX;go_wp2_with fail
   go_ret
   exact⟨-1,rfl,by rw[HF.out];rfl,HB.out⟩
set_option maxHeartbeats 1600000 in
theorem contains_late (A:Option Addr) (n c:Nat) (l:List En) (bm:Nat) (t:Int) (w:World) (hrd:Rd w w.heap.size 9 A n (flS l)) (hn:n<=1000000) (hc:w.cell? ⟨bm,2,none⟩=some (.int .i64 t)) :
  Calls Tryz.prog 231 #[.slice A n c,.func (.func 230) #[] #[.pointer (some ⟨bm,0,none⟩)]] w fun e w'=>e=.returned (.bool (lateB t l))/\Below w.heap.size w w':=by
 have HI:=Lib.hid (index_late A n c l bm t w hrd hn hc);clear hrd hn hc
 go_enter Tryz.func231, Tryz.ntmps231
 go_wp2_with (go_at_call 277;refine HI.out.mono ?_;rintro e1 w1 ⟨x,rfl,hx,hb1⟩;have HX:=Lib.hid hx;have HB:=Lib.hid hb1;clear hx hb1)
 go_ret
 exact⟨ret_bool HX.out,HB.out⟩
def magg (m:Mf) (s:Sl):Value:=.agg #[.int .i64 m.g,.int .i64 m.x,.int .i64 m.t,.int .i64 m.fl,.slice s.A s.n s.c]
def mfE (m:Mf):Int:=if okMf m=true then 0 else 250
theorem okMf_bad1 {m:Mf} (h: ¬ (1<=m.g/\m.g<=1000000000/\0<=m.t/\m.t<=1000000000)):mfE m=250:=if_neg (by unfold okMf;rw[decide_eq_false h];simp)
theorem okMf_bad2 {m:Mf} (h:okR m.es=false):mfE m=250:=if_neg (by unfold okMf;rw[h];simp)
theorem okR_len2 {l:List En} (h:okR l=true):1<=l.length/\l.length<=100:=by
 unfold okR at h;rw[Bool.and_eq_true,decide_eq_true_eq] at h;exact h.1
theorem okMf_at {m:Mf} {x y:En} (h1:1<=m.g/\m.g<=1000000000/\0<=m.t/\m.t<=1000000000) (h2:okR m.es=true) (hx:m.es[0]? =some x) {j:Nat} (hj:m.es.length=j+1) (hy:m.es[j]? =some y) :
  mfE m=if(y.i<m.x/\m.x<=1000000/\m.fl=x.f)/\lateB m.t m.es=false then 0 else 250:=by
 have hl:m.es.getLast? =some y:=by rw[List.getLast?_eq_getElem?,hj,Nat.add_sub_cancel,hy]
 have hA:∀b:Bool,(m.es.all fun x=>decide (x.l<=m.t))= !lateB m.t m.es:=fun _=>by
  unfold lateB;rw[List.not_any_eq_all_not];congr 1
  funext q
  rw[<-decide_not];congr 1;exact propext ⟨fun h=>by omega,fun h=>by omega⟩
 have hA:=hA true;obtain⟨g,nx,t,fl,es⟩:=m;dsimp only at *
 rcases es with _|⟨x',es⟩
 ·simp at hj
 ·simp only[List.getElem?_cons_zero,Option.some.injEq] at hx
  subst hx;unfold mfE okMf;dsimp only;rw[decide_eq_true h1,h2,hl];dsimp only;rw[hA];rcases hb:lateB t (x'::es) with _|_
  ·simp
  ·simp
set_option maxHeartbeats 6400000 in
set_option maxRecDepth 100000 in
theorem mcheck_any (m:Mf) (s:Sl) (w:World) (hrd:Rd w w.heap.size 9 s.A s.n (flS m.es)) (hn:s.n<=1000000) :
  Calls Tryz.prog 178 #[magg m s] w fun e w'=>e=.returned (.int .i64 (mfE m))/\Below w.heap.size w w':=by
 have mixed:Tryz.prog.follows .mixedOrders=true:=by kernel_rfl
 have hln:=rdS_len hrd;have HR:=Lib.hid (fun wx (hx:Below w.heap.size w wx)=>erow_any s.A s.n s.c m.es wx ((hrd.below hx).more hx.size) hn);have HC:=Lib.hid (Blk.new w #[.int .i64 m.g,.int .i64 m.x,.int .i64 m.t,.int .i64 m.fl,.slice s.A s.n s.c] 70);have HB:=Lib.hid (ext_alloc w (.cells #[.int .i64 m.g,.int .i64 m.x,.int .i64 m.t,.int .i64 m.fl,.slice s.A s.n s.c] 70));by_cases h1:1<=m.g/\m.g<=1000000000/\0<=m.t/\m.t<=1000000000
 case neg =>
  have HE:=Lib.hid (okMf_bad1 h1);obtain⟨g,nx,t,fl,es⟩:=m;obtain⟨A,n,c⟩:=s;unfold magg;dsimp only at *
  generalize mfE _=E at *
  have HH:=Lib.hid h1;clear hrd h1 hln hn
  go_enter Tryz.func178, Tryz.ntmps178
  go_wp2_with (go_at_call 229;exfalso;refine HH.out ?_;omega)
  all_goals
   go_ret
   exact⟨by rw[HE.out];rfl,HB.out⟩
 rcases h2:okR m.es with _|_
 ·have HE:=Lib.hid (okMf_bad2 h2)
  have e0:rE m.es=240:=rE_no h2;rw[e0] at HR;obtain⟨g,nx,t,fl,es⟩:=m;obtain⟨A,n,c⟩:=s;unfold magg;dsimp only at *
  generalize mfE _=E at *
  obtain⟨g1,g2,g3,g4⟩:=h1;clear hrd hln hn h2 e0
  go_enter Tryz.func178, Tryz.ntmps178
  go_wp2_with (go_at_call 229;refine(HR.out _ HB.out).mono ?_;rintro e1 w1 ⟨rfl,hb1⟩;have HB:=Lib.hid (HB.out.trans (hb1.mono HB.out.size));clear hb1)
  go_ret
  exact⟨by rw[HE.out];rfl,HB.out⟩
 ·have e0:rE m.es=0:=rE_yes h2
  rw[e0] at HR;have hl2:=okR_len2 h2;obtain⟨j,hj⟩:∃j,s.n=j+1:=⟨s.n-1,by omega⟩
  obtain⟨ad,y,hA,hbk,hy,f0,fj⟩:=sl_at (k:=j) hrd (by omega);obtain⟨ad',x,hA',-,hx,g0,gj⟩:=sl_at (k:=0) hrd (by omega);obtain rfl:ad=ad':=Option.some.inj (hA.symm.trans hA');have hzz:ad.add (0*9)=ad:=by rw[Nat.zero_mul];unfold Addr.add;simp
  rw[hzz] at g0 gj;have HE:=Lib.hid (okMf_at h1 h2 hx (by omega) hy);have hlt:(ad.add (j*9)).block<w.heap.size:=by rw[add_block];exact hbk
  have LA:=Lib.hid (fun(wx:World) (hx:Below w.heap.size w wx) (bm:Nat)=>contains_late s.A s.n s.c m.es bm m.t wx ((hrd.below hx).more hx.size) hn);generalize lateB m.t m.es=L at *
  obtain⟨g,nx,t,fl,es⟩:=m;obtain⟨A,n,c⟩:=s;obtain⟨yi,yg,yf,yz,yc,yb,ye,yl,yn⟩:=y;obtain⟨xi,xg,xf,xz,xc,xb,xe,xl,xn⟩:=x;unfold magg;dsimp only at *
  generalize mfE _=E at *
  obtain⟨p1,p2,p3,p4⟩:=h1;subst hA;have b3:IntKind.i64.wrap ((n:Int)-1)=(j:Int):=by rw[IntKind.wrap_i64];omega
  have b4:(j:Int)<(n:Int):=by omega
  have b5:(0:Int)<(n:Int):=by omega
  have b6:0<n:=by omega
  have b7: ¬ n=0:=by omega
  have HF:=Lib.hid (And.intro f0 (And.intro fj (And.intro g0 gj)));have HL:=Lib.hid (And.intro hlt hbk);clear hrd hln hn h2 e0 hj hx hy hA' f0 fj g0 gj hlt hbk hzz hl2;by_cases t1:nx<=yi
  ·replace HE:=Lib.hid (HE.out.trans (if_neg (by omega)))
   go_enter Tryz.func178, Tryz.ntmps178
   go_wp2_with (go_at_call 229;refine(HR.out _ HB.out).mono ?_;rintro e1 w1 ⟨rfl,hb1⟩;have HB:=Lib.hid (HB.out.trans (hb1.mono HB.out.size));have HC:=Lib.hid (HC.out.ext hb1);clear hb1;have k0:=HC.out.cell 0 (v:=.int .i64 g) rfl;have k1:=HC.out.cell 1 (v:=.int .i64 nx) rfl;have k2:=HC.out.cell 2 (v:=.int .i64 t) rfl;have k3:=HC.out.cell 3 (v:=.int .i64 fl) rfl;have k4:=HC.out.cell 4 (v:=.slice (some ad) n c) rfl;have y0:w1.cell? (ad.add (j*9))=some (.int .i64 yi):=(HB.out.cell HL.out.1).trans HF.out.1;have y1:w1.cell? ⟨(ad.add (j*9)).block,(ad.add (j*9)).off+1,none⟩=some (.int .i64 yg):=(HB.out.cell (p:=⟨(ad.add (j*9)).block,(ad.add (j*9)).off+1,none⟩) HL.out.1).trans (HF.out.2.1 0 (by decide));have y2:w1.cell? ⟨(ad.add (j*9)).block,(ad.add (j*9)).off+2,none⟩=some (.int .i64 yf):=(HB.out.cell (p:=⟨(ad.add (j*9)).block,(ad.add (j*9)).off+2,none⟩) HL.out.1).trans (HF.out.2.1 1 (by decide));have y3:w1.cell? ⟨(ad.add (j*9)).block,(ad.add (j*9)).off+3,none⟩=some (.bool yz):=(HB.out.cell (p:=⟨(ad.add (j*9)).block,(ad.add (j*9)).off+3,none⟩) HL.out.1).trans (HF.out.2.1 2 (by decide));have y4:w1.cell? ⟨(ad.add (j*9)).block,(ad.add (j*9)).off+4,none⟩=some (.int .i64 yc):=(HB.out.cell (p:=⟨(ad.add (j*9)).block,(ad.add (j*9)).off+4,none⟩) HL.out.1).trans (HF.out.2.1 3 (by decide));have y5:w1.cell? ⟨(ad.add (j*9)).block,(ad.add (j*9)).off+5,none⟩=some (.int .i64 yb):=(HB.out.cell (p:=⟨(ad.add (j*9)).block,(ad.add (j*9)).off+5,none⟩) HL.out.1).trans (HF.out.2.1 4 (by decide));have y6:w1.cell? ⟨(ad.add (j*9)).block,(ad.add (j*9)).off+6,none⟩=some (.int .i64 ye):=(HB.out.cell (p:=⟨(ad.add (j*9)).block,(ad.add (j*9)).off+6,none⟩) HL.out.1).trans (HF.out.2.1 5 (by decide));have y7:w1.cell? ⟨(ad.add (j*9)).block,(ad.add (j*9)).off+7,none⟩=some (.int .i64 yl):=(HB.out.cell (p:=⟨(ad.add (j*9)).block,(ad.add (j*9)).off+7,none⟩) HL.out.1).trans (HF.out.2.1 6 (by decide));have y8:w1.cell? ⟨(ad.add (j*9)).block,(ad.add (j*9)).off+8,none⟩=some (.int .i64 yn):=(HB.out.cell (p:=⟨(ad.add (j*9)).block,(ad.add (j*9)).off+8,none⟩) HL.out.1).trans (HF.out.2.1 7 (by decide));have HX2:=Lib.hid (show w1.cell? ⟨ad.block,ad.off+2,none⟩=some (.int .i64 xf) from(HB.out.cell (p:=⟨ad.block,ad.off+2,none⟩) HL.out.2).trans (HF.out.2.2.2 1 (by decide))))
   have HB:=Lib.hid (HB.out.trans ((ext_alloc w1 (.cells #[.int .i64 yi,.int .i64 yg,.int .i64 yf,.bool yz,.int .i64 yc,.int .i64 yb,.int .i64 ye,.int .i64 yl,.int .i64 yn] 217)).mono HB.out.size));have HBq:=Lib.hid (show ∀q:Bw (w1.alloc (.cells #[.int .i64 yi,.int .i64 yg,.int .i64 yf,.bool yz,.int .i64 yc,.int .i64 yb,.int .i64 ye,.int .i64 yl,.int .i64 yn] 217)),Below w.heap.size w q.to from fun q=>HB.out.trans (q.h.mono HB.out.size));have q1:=bw_cell (HC.out.alloc (.cells #[.int .i64 yi,.int .i64 yg,.int .i64 yf,.bool yz,.int .i64 yc,.int .i64 yb,.int .i64 ye,.int .i64 yl,.int .i64 yn] 217)) 1 (v:=.int .i64 nx) rfl;have q2:=bw_cell (HC.out.alloc (.cells #[.int .i64 yi,.int .i64 yg,.int .i64 yf,.bool yz,.int .i64 yc,.int .i64 yb,.int .i64 ye,.int .i64 yl,.int .i64 yn] 217)) 2 (v:=.int .i64 t) rfl;have q3:=bw_cell (HC.out.alloc (.cells #[.int .i64 yi,.int .i64 yg,.int .i64 yf,.bool yz,.int .i64 yc,.int .i64 yb,.int .i64 ye,.int .i64 yl,.int .i64 yn] 217)) 3 (v:=.int .i64 fl) rfl;have q4:=bw_cell (HC.out.alloc (.cells #[.int .i64 yi,.int .i64 yg,.int .i64 yf,.bool yz,.int .i64 yc,.int .i64 yb,.int .i64 ye,.int .i64 yl,.int .i64 yn] 217)) 4 (v:=.slice (some ad) n c) rfl;have q5:=bw_cell (Blk.new w1 #[.int .i64 yi,.int .i64 yg,.int .i64 yf,.bool yz,.int .i64 yc,.int .i64 yb,.int .i64 ye,.int .i64 yl,.int .i64 yn] 217) 0 (v:=.int .i64 yi) rfl;have q6:=bw_far (ext_alloc w1 (.cells #[.int .i64 yi,.int .i64 yg,.int .i64 yf,.bool yz,.int .i64 yc,.int .i64 yb,.int .i64 ye,.int .i64 yl,.int .i64 yn] 217)) (World.block_lt_of_cell? w1 _ HX2.out) HX2.out;clear k0 k1 k2 k3 k4 y0 y1 y2 y3 y4 y5 y6 y7 y8;generalize w1.alloc (.cells #[.int .i64 yi,.int .i64 yg,.int .i64 yf,.bool yz,.int .i64 yc,.int .i64 yb,.int .i64 ye,.int .i64 yl,.int .i64 yn] 217)=w2 at *
   refine wp_region_quiet_below (by assumption) (by kernel_rfl) ?_
   repeat (first|go_big_quiet_skip|quiet_step (first|(go_at_call 231;refine below_of (LA.out _ (HBq.out _) _ (q2 _)))))
   refine wpQuiet_nil ?_;intro _ hw';obtain⟨q,rfl⟩:=hw';go_wp2_with fail
   go_ret
   exact⟨by rw[HE.out];rfl,HBq.out q⟩
  have t1': ¬ nx<=yi:=t1;by_cases t2:1000000<nx
  ·replace HE:=Lib.hid (HE.out.trans (if_neg (by omega)))
   go_enter Tryz.func178, Tryz.ntmps178
   go_wp2_with (go_at_call 229;refine(HR.out _ HB.out).mono ?_;rintro e1 w1 ⟨rfl,hb1⟩;have HB:=Lib.hid (HB.out.trans (hb1.mono HB.out.size));have HC:=Lib.hid (HC.out.ext hb1);clear hb1;have k0:=HC.out.cell 0 (v:=.int .i64 g) rfl;have k1:=HC.out.cell 1 (v:=.int .i64 nx) rfl;have k2:=HC.out.cell 2 (v:=.int .i64 t) rfl;have k3:=HC.out.cell 3 (v:=.int .i64 fl) rfl;have k4:=HC.out.cell 4 (v:=.slice (some ad) n c) rfl;have y0:w1.cell? (ad.add (j*9))=some (.int .i64 yi):=(HB.out.cell HL.out.1).trans HF.out.1;have y1:w1.cell? ⟨(ad.add (j*9)).block,(ad.add (j*9)).off+1,none⟩=some (.int .i64 yg):=(HB.out.cell (p:=⟨(ad.add (j*9)).block,(ad.add (j*9)).off+1,none⟩) HL.out.1).trans (HF.out.2.1 0 (by decide));have y2:w1.cell? ⟨(ad.add (j*9)).block,(ad.add (j*9)).off+2,none⟩=some (.int .i64 yf):=(HB.out.cell (p:=⟨(ad.add (j*9)).block,(ad.add (j*9)).off+2,none⟩) HL.out.1).trans (HF.out.2.1 1 (by decide));have y3:w1.cell? ⟨(ad.add (j*9)).block,(ad.add (j*9)).off+3,none⟩=some (.bool yz):=(HB.out.cell (p:=⟨(ad.add (j*9)).block,(ad.add (j*9)).off+3,none⟩) HL.out.1).trans (HF.out.2.1 2 (by decide));have y4:w1.cell? ⟨(ad.add (j*9)).block,(ad.add (j*9)).off+4,none⟩=some (.int .i64 yc):=(HB.out.cell (p:=⟨(ad.add (j*9)).block,(ad.add (j*9)).off+4,none⟩) HL.out.1).trans (HF.out.2.1 3 (by decide));have y5:w1.cell? ⟨(ad.add (j*9)).block,(ad.add (j*9)).off+5,none⟩=some (.int .i64 yb):=(HB.out.cell (p:=⟨(ad.add (j*9)).block,(ad.add (j*9)).off+5,none⟩) HL.out.1).trans (HF.out.2.1 4 (by decide));have y6:w1.cell? ⟨(ad.add (j*9)).block,(ad.add (j*9)).off+6,none⟩=some (.int .i64 ye):=(HB.out.cell (p:=⟨(ad.add (j*9)).block,(ad.add (j*9)).off+6,none⟩) HL.out.1).trans (HF.out.2.1 5 (by decide));have y7:w1.cell? ⟨(ad.add (j*9)).block,(ad.add (j*9)).off+7,none⟩=some (.int .i64 yl):=(HB.out.cell (p:=⟨(ad.add (j*9)).block,(ad.add (j*9)).off+7,none⟩) HL.out.1).trans (HF.out.2.1 6 (by decide));have y8:w1.cell? ⟨(ad.add (j*9)).block,(ad.add (j*9)).off+8,none⟩=some (.int .i64 yn):=(HB.out.cell (p:=⟨(ad.add (j*9)).block,(ad.add (j*9)).off+8,none⟩) HL.out.1).trans (HF.out.2.1 7 (by decide));have HX2:=Lib.hid (show w1.cell? ⟨ad.block,ad.off+2,none⟩=some (.int .i64 xf) from(HB.out.cell (p:=⟨ad.block,ad.off+2,none⟩) HL.out.2).trans (HF.out.2.2.2 1 (by decide))))
   have HB:=Lib.hid (HB.out.trans ((ext_alloc w1 (.cells #[.int .i64 yi,.int .i64 yg,.int .i64 yf,.bool yz,.int .i64 yc,.int .i64 yb,.int .i64 ye,.int .i64 yl,.int .i64 yn] 217)).mono HB.out.size));have HBq:=Lib.hid (show ∀q:Bw (w1.alloc (.cells #[.int .i64 yi,.int .i64 yg,.int .i64 yf,.bool yz,.int .i64 yc,.int .i64 yb,.int .i64 ye,.int .i64 yl,.int .i64 yn] 217)),Below w.heap.size w q.to from fun q=>HB.out.trans (q.h.mono HB.out.size));have q1:=bw_cell (HC.out.alloc (.cells #[.int .i64 yi,.int .i64 yg,.int .i64 yf,.bool yz,.int .i64 yc,.int .i64 yb,.int .i64 ye,.int .i64 yl,.int .i64 yn] 217)) 1 (v:=.int .i64 nx) rfl;have q2:=bw_cell (HC.out.alloc (.cells #[.int .i64 yi,.int .i64 yg,.int .i64 yf,.bool yz,.int .i64 yc,.int .i64 yb,.int .i64 ye,.int .i64 yl,.int .i64 yn] 217)) 2 (v:=.int .i64 t) rfl;have q3:=bw_cell (HC.out.alloc (.cells #[.int .i64 yi,.int .i64 yg,.int .i64 yf,.bool yz,.int .i64 yc,.int .i64 yb,.int .i64 ye,.int .i64 yl,.int .i64 yn] 217)) 3 (v:=.int .i64 fl) rfl;have q4:=bw_cell (HC.out.alloc (.cells #[.int .i64 yi,.int .i64 yg,.int .i64 yf,.bool yz,.int .i64 yc,.int .i64 yb,.int .i64 ye,.int .i64 yl,.int .i64 yn] 217)) 4 (v:=.slice (some ad) n c) rfl;have q5:=bw_cell (Blk.new w1 #[.int .i64 yi,.int .i64 yg,.int .i64 yf,.bool yz,.int .i64 yc,.int .i64 yb,.int .i64 ye,.int .i64 yl,.int .i64 yn] 217) 0 (v:=.int .i64 yi) rfl;have q6:=bw_far (ext_alloc w1 (.cells #[.int .i64 yi,.int .i64 yg,.int .i64 yf,.bool yz,.int .i64 yc,.int .i64 yb,.int .i64 ye,.int .i64 yl,.int .i64 yn] 217)) (World.block_lt_of_cell? w1 _ HX2.out) HX2.out;clear k0 k1 k2 k3 k4 y0 y1 y2 y3 y4 y5 y6 y7 y8;generalize w1.alloc (.cells #[.int .i64 yi,.int .i64 yg,.int .i64 yf,.bool yz,.int .i64 yc,.int .i64 yb,.int .i64 ye,.int .i64 yl,.int .i64 yn] 217)=w2 at *
   refine wp_region_quiet_below (by assumption) (by kernel_rfl) ?_
   repeat (first|go_big_quiet_skip|quiet_step (first|(go_at_call 231;refine below_of (LA.out _ (HBq.out _) _ (q2 _)))))
   refine wpQuiet_nil ?_;intro _ hw';obtain⟨q,rfl⟩:=hw';go_wp2_with fail
   go_ret
   exact⟨by rw[HE.out];rfl,HBq.out q⟩
  by_cases t3:fl=xf
  case neg =>
   replace HE:=Lib.hid (HE.out.trans (if_neg (by rintro ⟨⟨-,-,h⟩,-⟩;exact t3 h)));have t3':(fl != xf)=true:=by rw[bne_iff_ne];exact t3
   clear t3
   go_enter Tryz.func178, Tryz.ntmps178
   go_wp2_with (go_at_call 229;refine(HR.out _ HB.out).mono ?_;rintro e1 w1 ⟨rfl,hb1⟩;have HB:=Lib.hid (HB.out.trans (hb1.mono HB.out.size));have HC:=Lib.hid (HC.out.ext hb1);clear hb1;have k0:=HC.out.cell 0 (v:=.int .i64 g) rfl;have k1:=HC.out.cell 1 (v:=.int .i64 nx) rfl;have k2:=HC.out.cell 2 (v:=.int .i64 t) rfl;have k3:=HC.out.cell 3 (v:=.int .i64 fl) rfl;have k4:=HC.out.cell 4 (v:=.slice (some ad) n c) rfl;have y0:w1.cell? (ad.add (j*9))=some (.int .i64 yi):=(HB.out.cell HL.out.1).trans HF.out.1;have y1:w1.cell? ⟨(ad.add (j*9)).block,(ad.add (j*9)).off+1,none⟩=some (.int .i64 yg):=(HB.out.cell (p:=⟨(ad.add (j*9)).block,(ad.add (j*9)).off+1,none⟩) HL.out.1).trans (HF.out.2.1 0 (by decide));have y2:w1.cell? ⟨(ad.add (j*9)).block,(ad.add (j*9)).off+2,none⟩=some (.int .i64 yf):=(HB.out.cell (p:=⟨(ad.add (j*9)).block,(ad.add (j*9)).off+2,none⟩) HL.out.1).trans (HF.out.2.1 1 (by decide));have y3:w1.cell? ⟨(ad.add (j*9)).block,(ad.add (j*9)).off+3,none⟩=some (.bool yz):=(HB.out.cell (p:=⟨(ad.add (j*9)).block,(ad.add (j*9)).off+3,none⟩) HL.out.1).trans (HF.out.2.1 2 (by decide));have y4:w1.cell? ⟨(ad.add (j*9)).block,(ad.add (j*9)).off+4,none⟩=some (.int .i64 yc):=(HB.out.cell (p:=⟨(ad.add (j*9)).block,(ad.add (j*9)).off+4,none⟩) HL.out.1).trans (HF.out.2.1 3 (by decide));have y5:w1.cell? ⟨(ad.add (j*9)).block,(ad.add (j*9)).off+5,none⟩=some (.int .i64 yb):=(HB.out.cell (p:=⟨(ad.add (j*9)).block,(ad.add (j*9)).off+5,none⟩) HL.out.1).trans (HF.out.2.1 4 (by decide));have y6:w1.cell? ⟨(ad.add (j*9)).block,(ad.add (j*9)).off+6,none⟩=some (.int .i64 ye):=(HB.out.cell (p:=⟨(ad.add (j*9)).block,(ad.add (j*9)).off+6,none⟩) HL.out.1).trans (HF.out.2.1 5 (by decide));have y7:w1.cell? ⟨(ad.add (j*9)).block,(ad.add (j*9)).off+7,none⟩=some (.int .i64 yl):=(HB.out.cell (p:=⟨(ad.add (j*9)).block,(ad.add (j*9)).off+7,none⟩) HL.out.1).trans (HF.out.2.1 6 (by decide));have y8:w1.cell? ⟨(ad.add (j*9)).block,(ad.add (j*9)).off+8,none⟩=some (.int .i64 yn):=(HB.out.cell (p:=⟨(ad.add (j*9)).block,(ad.add (j*9)).off+8,none⟩) HL.out.1).trans (HF.out.2.1 7 (by decide));have HX2:=Lib.hid (show w1.cell? ⟨ad.block,ad.off+2,none⟩=some (.int .i64 xf) from(HB.out.cell (p:=⟨ad.block,ad.off+2,none⟩) HL.out.2).trans (HF.out.2.2.2 1 (by decide))))
   have HB:=Lib.hid (HB.out.trans ((ext_alloc w1 (.cells #[.int .i64 yi,.int .i64 yg,.int .i64 yf,.bool yz,.int .i64 yc,.int .i64 yb,.int .i64 ye,.int .i64 yl,.int .i64 yn] 217)).mono HB.out.size));have HBq:=Lib.hid (show ∀q:Bw (w1.alloc (.cells #[.int .i64 yi,.int .i64 yg,.int .i64 yf,.bool yz,.int .i64 yc,.int .i64 yb,.int .i64 ye,.int .i64 yl,.int .i64 yn] 217)),Below w.heap.size w q.to from fun q=>HB.out.trans (q.h.mono HB.out.size));have q1:=bw_cell (HC.out.alloc (.cells #[.int .i64 yi,.int .i64 yg,.int .i64 yf,.bool yz,.int .i64 yc,.int .i64 yb,.int .i64 ye,.int .i64 yl,.int .i64 yn] 217)) 1 (v:=.int .i64 nx) rfl;have q2:=bw_cell (HC.out.alloc (.cells #[.int .i64 yi,.int .i64 yg,.int .i64 yf,.bool yz,.int .i64 yc,.int .i64 yb,.int .i64 ye,.int .i64 yl,.int .i64 yn] 217)) 2 (v:=.int .i64 t) rfl;have q3:=bw_cell (HC.out.alloc (.cells #[.int .i64 yi,.int .i64 yg,.int .i64 yf,.bool yz,.int .i64 yc,.int .i64 yb,.int .i64 ye,.int .i64 yl,.int .i64 yn] 217)) 3 (v:=.int .i64 fl) rfl;have q4:=bw_cell (HC.out.alloc (.cells #[.int .i64 yi,.int .i64 yg,.int .i64 yf,.bool yz,.int .i64 yc,.int .i64 yb,.int .i64 ye,.int .i64 yl,.int .i64 yn] 217)) 4 (v:=.slice (some ad) n c) rfl;have q5:=bw_cell (Blk.new w1 #[.int .i64 yi,.int .i64 yg,.int .i64 yf,.bool yz,.int .i64 yc,.int .i64 yb,.int .i64 ye,.int .i64 yl,.int .i64 yn] 217) 0 (v:=.int .i64 yi) rfl;have q6:=bw_far (ext_alloc w1 (.cells #[.int .i64 yi,.int .i64 yg,.int .i64 yf,.bool yz,.int .i64 yc,.int .i64 yb,.int .i64 ye,.int .i64 yl,.int .i64 yn] 217)) (World.block_lt_of_cell? w1 _ HX2.out) HX2.out;clear k0 k1 k2 k3 k4 y0 y1 y2 y3 y4 y5 y6 y7 y8;generalize w1.alloc (.cells #[.int .i64 yi,.int .i64 yg,.int .i64 yf,.bool yz,.int .i64 yc,.int .i64 yb,.int .i64 ye,.int .i64 yl,.int .i64 yn] 217)=w2 at *
   refine wp_region_quiet_below (by assumption) (by kernel_rfl) ?_
   repeat (first|go_big_quiet_skip|quiet_step (first|(go_at_call 231;refine below_of (LA.out _ (HBq.out _) _ (q2 _)))))
   refine wpQuiet_nil ?_;intro _ hw';obtain⟨q,rfl⟩:=hw';go_wp2_with fail
   go_ret
   exact⟨by rw[HE.out];rfl,HBq.out q⟩
  have t3':(fl != xf)=false:=by rw[t3];simp
  have T3:=Lib.hid t3;clear t3;rcases L with _|_
  ·replace HE:=Lib.hid (show E=0 from HE.out.trans (if_pos ⟨⟨by omega,by omega,T3.out⟩,rfl⟩))
   go_enter Tryz.func178, Tryz.ntmps178
   go_wp2_with (go_at_call 229;refine(HR.out _ HB.out).mono ?_;rintro e1 w1 ⟨rfl,hb1⟩;have HB:=Lib.hid (HB.out.trans (hb1.mono HB.out.size));have HC:=Lib.hid (HC.out.ext hb1);clear hb1;have k0:=HC.out.cell 0 (v:=.int .i64 g) rfl;have k1:=HC.out.cell 1 (v:=.int .i64 nx) rfl;have k2:=HC.out.cell 2 (v:=.int .i64 t) rfl;have k3:=HC.out.cell 3 (v:=.int .i64 fl) rfl;have k4:=HC.out.cell 4 (v:=.slice (some ad) n c) rfl;have y0:w1.cell? (ad.add (j*9))=some (.int .i64 yi):=(HB.out.cell HL.out.1).trans HF.out.1;have y1:w1.cell? ⟨(ad.add (j*9)).block,(ad.add (j*9)).off+1,none⟩=some (.int .i64 yg):=(HB.out.cell (p:=⟨(ad.add (j*9)).block,(ad.add (j*9)).off+1,none⟩) HL.out.1).trans (HF.out.2.1 0 (by decide));have y2:w1.cell? ⟨(ad.add (j*9)).block,(ad.add (j*9)).off+2,none⟩=some (.int .i64 yf):=(HB.out.cell (p:=⟨(ad.add (j*9)).block,(ad.add (j*9)).off+2,none⟩) HL.out.1).trans (HF.out.2.1 1 (by decide));have y3:w1.cell? ⟨(ad.add (j*9)).block,(ad.add (j*9)).off+3,none⟩=some (.bool yz):=(HB.out.cell (p:=⟨(ad.add (j*9)).block,(ad.add (j*9)).off+3,none⟩) HL.out.1).trans (HF.out.2.1 2 (by decide));have y4:w1.cell? ⟨(ad.add (j*9)).block,(ad.add (j*9)).off+4,none⟩=some (.int .i64 yc):=(HB.out.cell (p:=⟨(ad.add (j*9)).block,(ad.add (j*9)).off+4,none⟩) HL.out.1).trans (HF.out.2.1 3 (by decide));have y5:w1.cell? ⟨(ad.add (j*9)).block,(ad.add (j*9)).off+5,none⟩=some (.int .i64 yb):=(HB.out.cell (p:=⟨(ad.add (j*9)).block,(ad.add (j*9)).off+5,none⟩) HL.out.1).trans (HF.out.2.1 4 (by decide));have y6:w1.cell? ⟨(ad.add (j*9)).block,(ad.add (j*9)).off+6,none⟩=some (.int .i64 ye):=(HB.out.cell (p:=⟨(ad.add (j*9)).block,(ad.add (j*9)).off+6,none⟩) HL.out.1).trans (HF.out.2.1 5 (by decide));have y7:w1.cell? ⟨(ad.add (j*9)).block,(ad.add (j*9)).off+7,none⟩=some (.int .i64 yl):=(HB.out.cell (p:=⟨(ad.add (j*9)).block,(ad.add (j*9)).off+7,none⟩) HL.out.1).trans (HF.out.2.1 6 (by decide));have y8:w1.cell? ⟨(ad.add (j*9)).block,(ad.add (j*9)).off+8,none⟩=some (.int .i64 yn):=(HB.out.cell (p:=⟨(ad.add (j*9)).block,(ad.add (j*9)).off+8,none⟩) HL.out.1).trans (HF.out.2.1 7 (by decide));have HX2:=Lib.hid (show w1.cell? ⟨ad.block,ad.off+2,none⟩=some (.int .i64 xf) from(HB.out.cell (p:=⟨ad.block,ad.off+2,none⟩) HL.out.2).trans (HF.out.2.2.2 1 (by decide))))
   have HB:=Lib.hid (HB.out.trans ((ext_alloc w1 (.cells #[.int .i64 yi,.int .i64 yg,.int .i64 yf,.bool yz,.int .i64 yc,.int .i64 yb,.int .i64 ye,.int .i64 yl,.int .i64 yn] 217)).mono HB.out.size));have HBq:=Lib.hid (show ∀q:Bw (w1.alloc (.cells #[.int .i64 yi,.int .i64 yg,.int .i64 yf,.bool yz,.int .i64 yc,.int .i64 yb,.int .i64 ye,.int .i64 yl,.int .i64 yn] 217)),Below w.heap.size w q.to from fun q=>HB.out.trans (q.h.mono HB.out.size));have q1:=bw_cell (HC.out.alloc (.cells #[.int .i64 yi,.int .i64 yg,.int .i64 yf,.bool yz,.int .i64 yc,.int .i64 yb,.int .i64 ye,.int .i64 yl,.int .i64 yn] 217)) 1 (v:=.int .i64 nx) rfl;have q2:=bw_cell (HC.out.alloc (.cells #[.int .i64 yi,.int .i64 yg,.int .i64 yf,.bool yz,.int .i64 yc,.int .i64 yb,.int .i64 ye,.int .i64 yl,.int .i64 yn] 217)) 2 (v:=.int .i64 t) rfl;have q3:=bw_cell (HC.out.alloc (.cells #[.int .i64 yi,.int .i64 yg,.int .i64 yf,.bool yz,.int .i64 yc,.int .i64 yb,.int .i64 ye,.int .i64 yl,.int .i64 yn] 217)) 3 (v:=.int .i64 fl) rfl;have q4:=bw_cell (HC.out.alloc (.cells #[.int .i64 yi,.int .i64 yg,.int .i64 yf,.bool yz,.int .i64 yc,.int .i64 yb,.int .i64 ye,.int .i64 yl,.int .i64 yn] 217)) 4 (v:=.slice (some ad) n c) rfl;have q5:=bw_cell (Blk.new w1 #[.int .i64 yi,.int .i64 yg,.int .i64 yf,.bool yz,.int .i64 yc,.int .i64 yb,.int .i64 ye,.int .i64 yl,.int .i64 yn] 217) 0 (v:=.int .i64 yi) rfl;have q6:=bw_far (ext_alloc w1 (.cells #[.int .i64 yi,.int .i64 yg,.int .i64 yf,.bool yz,.int .i64 yc,.int .i64 yb,.int .i64 ye,.int .i64 yl,.int .i64 yn] 217)) (World.block_lt_of_cell? w1 _ HX2.out) HX2.out;clear k0 k1 k2 k3 k4 y0 y1 y2 y3 y4 y5 y6 y7 y8;generalize w1.alloc (.cells #[.int .i64 yi,.int .i64 yg,.int .i64 yf,.bool yz,.int .i64 yc,.int .i64 yb,.int .i64 ye,.int .i64 yl,.int .i64 yn] 217)=w2 at *
   refine wp_region_quiet_below (by assumption) (by kernel_rfl) ?_
   repeat (first|go_big_quiet_skip|quiet_step (first|(go_at_call 231;refine below_of (LA.out _ (HBq.out _) _ (q2 _)))))
   refine wpQuiet_nil ?_;intro _ hw';obtain⟨q,rfl⟩:=hw';go_wp2_with fail
   go_ret
   exact⟨by rw[HE.out];rfl,HBq.out q⟩
  ·replace HE:=Lib.hid (show E=250 from HE.out.trans (if_neg (by rintro ⟨-,h⟩;cases h)))
   go_enter Tryz.func178, Tryz.ntmps178
   go_wp2_with (go_at_call 229;refine(HR.out _ HB.out).mono ?_;rintro e1 w1 ⟨rfl,hb1⟩;have HB:=Lib.hid (HB.out.trans (hb1.mono HB.out.size));have HC:=Lib.hid (HC.out.ext hb1);clear hb1;have k0:=HC.out.cell 0 (v:=.int .i64 g) rfl;have k1:=HC.out.cell 1 (v:=.int .i64 nx) rfl;have k2:=HC.out.cell 2 (v:=.int .i64 t) rfl;have k3:=HC.out.cell 3 (v:=.int .i64 fl) rfl;have k4:=HC.out.cell 4 (v:=.slice (some ad) n c) rfl;have y0:w1.cell? (ad.add (j*9))=some (.int .i64 yi):=(HB.out.cell HL.out.1).trans HF.out.1;have y1:w1.cell? ⟨(ad.add (j*9)).block,(ad.add (j*9)).off+1,none⟩=some (.int .i64 yg):=(HB.out.cell (p:=⟨(ad.add (j*9)).block,(ad.add (j*9)).off+1,none⟩) HL.out.1).trans (HF.out.2.1 0 (by decide));have y2:w1.cell? ⟨(ad.add (j*9)).block,(ad.add (j*9)).off+2,none⟩=some (.int .i64 yf):=(HB.out.cell (p:=⟨(ad.add (j*9)).block,(ad.add (j*9)).off+2,none⟩) HL.out.1).trans (HF.out.2.1 1 (by decide));have y3:w1.cell? ⟨(ad.add (j*9)).block,(ad.add (j*9)).off+3,none⟩=some (.bool yz):=(HB.out.cell (p:=⟨(ad.add (j*9)).block,(ad.add (j*9)).off+3,none⟩) HL.out.1).trans (HF.out.2.1 2 (by decide));have y4:w1.cell? ⟨(ad.add (j*9)).block,(ad.add (j*9)).off+4,none⟩=some (.int .i64 yc):=(HB.out.cell (p:=⟨(ad.add (j*9)).block,(ad.add (j*9)).off+4,none⟩) HL.out.1).trans (HF.out.2.1 3 (by decide));have y5:w1.cell? ⟨(ad.add (j*9)).block,(ad.add (j*9)).off+5,none⟩=some (.int .i64 yb):=(HB.out.cell (p:=⟨(ad.add (j*9)).block,(ad.add (j*9)).off+5,none⟩) HL.out.1).trans (HF.out.2.1 4 (by decide));have y6:w1.cell? ⟨(ad.add (j*9)).block,(ad.add (j*9)).off+6,none⟩=some (.int .i64 ye):=(HB.out.cell (p:=⟨(ad.add (j*9)).block,(ad.add (j*9)).off+6,none⟩) HL.out.1).trans (HF.out.2.1 5 (by decide));have y7:w1.cell? ⟨(ad.add (j*9)).block,(ad.add (j*9)).off+7,none⟩=some (.int .i64 yl):=(HB.out.cell (p:=⟨(ad.add (j*9)).block,(ad.add (j*9)).off+7,none⟩) HL.out.1).trans (HF.out.2.1 6 (by decide));have y8:w1.cell? ⟨(ad.add (j*9)).block,(ad.add (j*9)).off+8,none⟩=some (.int .i64 yn):=(HB.out.cell (p:=⟨(ad.add (j*9)).block,(ad.add (j*9)).off+8,none⟩) HL.out.1).trans (HF.out.2.1 7 (by decide));have HX2:=Lib.hid (show w1.cell? ⟨ad.block,ad.off+2,none⟩=some (.int .i64 xf) from(HB.out.cell (p:=⟨ad.block,ad.off+2,none⟩) HL.out.2).trans (HF.out.2.2.2 1 (by decide))))
   have HB:=Lib.hid (HB.out.trans ((ext_alloc w1 (.cells #[.int .i64 yi,.int .i64 yg,.int .i64 yf,.bool yz,.int .i64 yc,.int .i64 yb,.int .i64 ye,.int .i64 yl,.int .i64 yn] 217)).mono HB.out.size));have HBq:=Lib.hid (show ∀q:Bw (w1.alloc (.cells #[.int .i64 yi,.int .i64 yg,.int .i64 yf,.bool yz,.int .i64 yc,.int .i64 yb,.int .i64 ye,.int .i64 yl,.int .i64 yn] 217)),Below w.heap.size w q.to from fun q=>HB.out.trans (q.h.mono HB.out.size));have q1:=bw_cell (HC.out.alloc (.cells #[.int .i64 yi,.int .i64 yg,.int .i64 yf,.bool yz,.int .i64 yc,.int .i64 yb,.int .i64 ye,.int .i64 yl,.int .i64 yn] 217)) 1 (v:=.int .i64 nx) rfl;have q2:=bw_cell (HC.out.alloc (.cells #[.int .i64 yi,.int .i64 yg,.int .i64 yf,.bool yz,.int .i64 yc,.int .i64 yb,.int .i64 ye,.int .i64 yl,.int .i64 yn] 217)) 2 (v:=.int .i64 t) rfl;have q3:=bw_cell (HC.out.alloc (.cells #[.int .i64 yi,.int .i64 yg,.int .i64 yf,.bool yz,.int .i64 yc,.int .i64 yb,.int .i64 ye,.int .i64 yl,.int .i64 yn] 217)) 3 (v:=.int .i64 fl) rfl;have q4:=bw_cell (HC.out.alloc (.cells #[.int .i64 yi,.int .i64 yg,.int .i64 yf,.bool yz,.int .i64 yc,.int .i64 yb,.int .i64 ye,.int .i64 yl,.int .i64 yn] 217)) 4 (v:=.slice (some ad) n c) rfl;have q5:=bw_cell (Blk.new w1 #[.int .i64 yi,.int .i64 yg,.int .i64 yf,.bool yz,.int .i64 yc,.int .i64 yb,.int .i64 ye,.int .i64 yl,.int .i64 yn] 217) 0 (v:=.int .i64 yi) rfl;have q6:=bw_far (ext_alloc w1 (.cells #[.int .i64 yi,.int .i64 yg,.int .i64 yf,.bool yz,.int .i64 yc,.int .i64 yb,.int .i64 ye,.int .i64 yl,.int .i64 yn] 217)) (World.block_lt_of_cell? w1 _ HX2.out) HX2.out;clear k0 k1 k2 k3 k4 y0 y1 y2 y3 y4 y5 y6 y7 y8;generalize w1.alloc (.cells #[.int .i64 yi,.int .i64 yg,.int .i64 yf,.bool yz,.int .i64 yc,.int .i64 yb,.int .i64 ye,.int .i64 yl,.int .i64 yn] 217)=w2 at *
   refine wp_region_quiet_below (by assumption) (by kernel_rfl) ?_
   repeat (first|go_big_quiet_skip|quiet_step (first|(go_at_call 231;refine below_of (LA.out _ (HBq.out _) _ (q2 _)))))
   refine wpQuiet_nil ?_;intro _ hw';obtain⟨q,rfl⟩:=hw';go_wp2_with fail
   go_ret
   exact⟨by rw[HE.out];rfl,HBq.out q⟩
end Op
end Go.Proofs.YtejcdhdfanfkbaaGreat
