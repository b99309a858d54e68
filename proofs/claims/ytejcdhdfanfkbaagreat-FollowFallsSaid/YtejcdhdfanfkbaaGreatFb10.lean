/- entry: sealed, Check, follows; pick.Check. entry.Row. A whole struct loaded in one step, ahead of any unfolding: for regions that draw. Over any program. -/
import Derived.Test.YtejcdhdfanfkbaaGreatFb07
import Derived.Test.YtejcdhdfanfkbaaGreatFb09
import Derived.Deep.LoopGhost
namespace Go.Proofs.YtejcdhdfanfkbaaGreat
namespace Op
open Go.RowKit Hd Rd Dk
def eagg (x:En):Value:=.agg #[.int .i64 x.i,.int .i64 x.g,.int .i64 x.f,.bool x.z,.int .i64 x.c,.int .i64 x.b,.int .i64 x.e,.int .i64 x.l,.int .i64 x.n]
def slB (x:En):Bool:=decide (1<=x.b/\x.b<=1000/\x.b<=x.c/\x.c<=1000000000/\x.f+x.c<=1000000001/\0<=x.e/\x.e<=x.l/\x.l<=1000000000/\1<=x.n/\x.n<=1000000)
set_option maxHeartbeats 3200000 in
set_option maxRecDepth 100000 in
theorem sealed_any (x:En) (w:World):Calls Tryz.prog 284 #[eagg x] w fun e w'=>e=.returned (.bool (slB x))/\Below w.heap.size w w':=by
 obtain⟨i,g,f,z,c,b,e,l,n⟩:=x;unfold eagg slB;dsimp only;have HB:=Lib.hid (ext_alloc w (.cells #[.int .i64 i,.int .i64 g,.int .i64 f,.bool z,.int .i64 c,.int .i64 b,.int .i64 e,.int .i64 l,.int .i64 n] 366))
 go_enter Tryz.func284, Tryz.ntmps284
 go_wp2_with fail
 all_goals
  go_ret
  refine⟨ret_bool ?_,HB.out⟩;rw[Bool.eq_iff_iff];simp only[Bool.and_eq_true,decide_eq_true_eq,Bool.false_eq_true,false_iff,true_iff,wrap64] at *
  omega
theorem cne_en (x y:En) (w:World):(binOp .neq 217 (eagg x) (eagg y)).run Tryz.prog w=.ok (.bool (decide (x≠y))) w:=by
 obtain⟨i,g,f,z,c,b,e,l,n⟩:=x;obtain⟨i',g',f',z',c',b',e',l',n'⟩:=y;unfold eagg;simp[go_sem]
 repeat' split
 all_goals simp_all
theorem okE_bd {x:En} (h:okE x=true):1<=x.i/\x.i<=999999/\1<=x.g/\x.g<=999999/\1<=x.f/\x.f<=1000000000/\0<=x.c/\x.c<=1000000000/\0<=x.b/\x.b<=1000/\0<=x.e/\x.e<=x.l/\x.l<=1000000000/\0<=x.n/\x.n<=1000000/\x.f+x.c<=1000000001:=by
 unfold okE okH at h;rw[Bool.and_eq_true,decide_eq_true_eq] at h;obtain⟨h1,h2⟩:=h;rcases hz:x.z with _|_
 ·rw[hz] at h2
  simp only[Bool.false_eq_true,if_false,decide_eq_true_eq] at h2;omega
 ·rw[hz] at h2
  simp only[if_true,decide_eq_true_eq] at h2;omega
set_option maxHeartbeats 3200000 in
set_option maxRecDepth 100000 in
theorem efol_any (p m:En) (w:World) (hp:okE p=true):Calls Tryz.prog 276 #[eagg p,eagg m] w fun e w'=>e=.returned (.bool (folE p m))/\Below w.heap.size w w':=by
 have hb:=okE_bd hp;obtain⟨i,g,f,z,c,b,e,l,n⟩:=p;obtain⟨i',g',f',z',c',b',e',l',n'⟩:=m;unfold eagg;dsimp only at *
 have hw:IntKind.i64.wrap (f+c)=f+c:=by rw[IntKind.wrap_i64];omega
 clear hp;rcases z with _|_
 all_goals rcases z' with _|_
 all_goals
  go_enter Tryz.func276, Tryz.ntmps276
  go_wp2_with fail
 all_goals
  go_ret
  refine⟨ret_bool ?_,ext_second w _ _⟩;rw[Bool.eq_iff_iff];simp only[folE,Bool.and_eq_true,Bool.or_eq_true,Bool.not_eq_true',decide_eq_true_eq,beq_iff_eq,Bool.false_eq_true,false_iff,true_iff,false_and,true_and,Bool.not_true,Bool.not_false,or_true,true_or,false_or,reduceCtorEq,and_true] at *
  try omega
def eE (x:En):Int:=if okE x=true then 0 else 240
set_option maxHeartbeats 3200000 in
set_option maxRecDepth 100000 in
theorem echeck_any (x:En) (w:World):Calls Tryz.prog 239 #[eagg x] w fun e w'=>e=.returned (.int .i64 (eE x))/\Below w.heap.size w w':=by
 have mixed:Tryz.prog.follows .mixedOrders=true:=by kernel_rfl
 have HS:=Lib.hid (fun w=>sealed_any x w);have HC:=Lib.hid (fun w=>check_any x.i x.g x.f w);have hq:=fun w=>cne_en x ⟨x.i,x.g,x.f,false,0,0,0,0,0⟩ w
 have HE:=Lib.hid (show okE x=(okH x.i x.g x.f&&(if x.z then slB x else !decide (x≠⟨x.i,x.g,x.f,false,0,0,0,0,0⟩))) from by
  unfold okE slB;rcases hz:x.z with _|_
  ·simp only[Bool.false_eq_true,if_false]
   congr 1;obtain⟨i,g,f,z,c,b,e,l,n⟩:=x;subst hz;simp
  ·rfl)
 unfold eE;obtain⟨i,g,f,z,c,b,e,l,n⟩:=x;unfold eagg at *
 dsimp only at *
 obtain⟨K,hK⟩:∃K,okE ⟨i,g,f,z,c,b,e,l,n⟩=K:=⟨_,rfl⟩
 obtain⟨L,hL⟩:∃L,slB ⟨i,g,f,z,c,b,e,l,n⟩=L:=⟨_,rfl⟩
 obtain⟨D,hD⟩:∃D,decide (En.mk i g f z c b e l n≠⟨i,g,f,false,0,0,0,0,0⟩)=D:=⟨_,rfl⟩
 rw[hK] at HE ⊢;rw[hL] at HE HS;rw[hD] at HE;simp only[hD] at hq;clear hK hL hD;have HN:=Lib.hid (blk_second w (.cells #[.int .i64 i,.int .i64 g,.int .i64 f,.bool z,.int .i64 c,.int .i64 b,.int .i64 e,.int .i64 l,.int .i64 n] 217) #[.int .i64 i,.int .i64 g,.int .i64 f,.bool z,.int .i64 c,.int .i64 b,.int .i64 e,.int .i64 l,.int .i64 n] 366);have HB:=Lib.hid (ext_second w (.cells #[.int .i64 i,.int .i64 g,.int .i64 f,.bool z,.int .i64 c,.int .i64 b,.int .i64 e,.int .i64 l,.int .i64 n] 217) (.cells #[.int .i64 i,.int .i64 g,.int .i64 f,.bool z,.int .i64 c,.int .i64 b,.int .i64 e,.int .i64 l,.int .i64 n] 366));rcases hk:okH i g f with _|_
 all_goals rw[hk] at HC HE
 case false =>
  have hK:=HE.out;simp only[Bool.false_and] at hK;subst hK;simp only[Bool.false_eq_true,if_false] at HC ⊢;clear hk HS hq HE
  go_enter Tryz.func239, Tryz.ntmps239
  go_wp2_with (go_at_call 169;refine(HC.out _).mono ?_;rintro e1 w1 ⟨rfl,hb1⟩;have HB:=Lib.hid (HB.out.trans (hb1.mono HB.out.size));clear hb1)
  go_ret
  exact⟨rfl,HB.out⟩
 case true =>
  simp only[if_true,Bool.true_and] at HC HE;rcases z with _|_
  case true =>
   have hK:=HE.out;simp only[if_true] at hK;subst hK;clear HE hq hk;rcases K with _|_
   all_goals
    simp only[Bool.false_eq_true,if_false,if_true]
    go_enter Tryz.func239, Tryz.ntmps239
    go_wp2_with (first
     |(go_at_call 169;refine(HC.out _).mono ?_;rintro e1 w1 ⟨rfl,hb1⟩;have HB:=Lib.hid (HB.out.trans (hb1.mono HB.out.size));have HN:=Lib.hid (HN.out.ext hb1);clear hb1;have k0:=HN.out.cell 0 (v:=.int .i64 i) rfl;have k1:=HN.out.cell 1 (v:=.int .i64 g) rfl;have k2:=HN.out.cell 2 (v:=.int .i64 f) rfl;have k3:=HN.out.cell 3 (v:=.bool true) rfl;have k4:=HN.out.cell 4 (v:=.int .i64 c) rfl;have k5:=HN.out.cell 5 (v:=.int .i64 b) rfl;have k6:=HN.out.cell 6 (v:=.int .i64 e) rfl;have k7:=HN.out.cell 7 (v:=.int .i64 l) rfl;have k8:=HN.out.cell 8 (v:=.int .i64 n) rfl)
     |(go_at_call 284;refine(HS.out _).mono ?_;rintro e2 w2 ⟨rfl,hb2⟩;have HB:=Lib.hid (HB.out.trans (hb2.mono HB.out.size));have HN:=Lib.hid (HN.out.ext hb2);clear hb2;have k3:=HN.out.cell 3 (v:=.bool true) rfl))
    go_ret
    exact⟨rfl,HB.out⟩
  case false =>
   have hK:=HE.out;simp only[Bool.false_eq_true,if_false] at hK;subst hK;clear HE HS hk;rcases D with _|_
   all_goals
    simp only[Bool.not_true,Bool.not_false,Bool.false_eq_true,if_false,if_true]
    go_enter Tryz.func239, Tryz.ntmps239
    go_wp2_with (go_at_call 169;refine(HC.out _).mono ?_;rintro e1 w1 ⟨rfl,hb1⟩;have HB:=Lib.hid (HB.out.trans (hb1.mono HB.out.size));have HN:=Lib.hid (HN.out.ext hb1);clear hb1;have k0:=HN.out.cell 0 (v:=.int .i64 i) rfl;have k1:=HN.out.cell 1 (v:=.int .i64 g) rfl;have k2:=HN.out.cell 2 (v:=.int .i64 f) rfl;have k3:=HN.out.cell 3 (v:=.bool false) rfl;have k4:=HN.out.cell 4 (v:=.int .i64 c) rfl;have k5:=HN.out.cell 5 (v:=.int .i64 b) rfl;have k6:=HN.out.cell 6 (v:=.int .i64 e) rfl;have k7:=HN.out.cell 7 (v:=.int .i64 l) rfl;have k8:=HN.out.cell 8 (v:=.int .i64 n) rfl)
    go_ret
    exact⟨rfl,HB.out⟩
end Op
end Go.Proofs.YtejcdhdfanfkbaaGreat
namespace Go.Proofs.YtejcdhdfanfkbaaGreat
namespace Op
open Go.RowKit Hd Rd
def rE (l:List En):Int:=if okR l=true then 0 else 240
theorem rE_no {l:List En} (h:okR l=false):rE l=240:=if_neg (by rw[h];simp)
theorem rE_yes {l:List En} (h:okR l=true):rE l=0:=if_pos h
theorem okR_of {l:List En} {j:Nat} {y:En} (h:l[j]? =some y) (hn:l.length=j+1) (h1:l.length<=100) (b:Bool) (hb:rowE none l=b):okR l=(!y.z&&b):=by
 unfold okR lastZ;rw[decide_eq_true (show 1<=l.length/\l.length<=100 by omega),List.getLast?_eq_getElem?,hn,Nat.add_sub_cancel,h,hb];rfl
theorem okR_len {l:List En} (h: ¬ (1<=l.length/\l.length<=100)):okR l=false:=by unfold okR;rw[decide_eq_false h];rfl
theorem bw_cell {w:World} {b:Nat} {cs:Array Value} {t:TypeId} (h:Blk w b cs t) (k:Nat) {v:Value} (hv:cs[k]? =some v):∀q:Bw w,q.to.cell? ⟨b,k,none⟩=some v:=fun q=>(h.ext q.h).cell k hv
theorem bw_far {w w1:World} (h:Below w.heap.size w w1) {a:Addr} {v:Value} (ha:a.block<w.heap.size) (hc:w.cell? a=some v):∀q:Bw w1,q.to.cell? a=some v :=
 fun q=>(q.h.cell (Nat.lt_of_lt_of_le ha h.size)).trans ((h.cell ha).trans hc)
set_option maxHeartbeats 6400000 in
set_option maxRecDepth 100000 in
theorem erow_any (A:Option Addr) (n c:Nat) (l:List En) (w:World) (hrd:Rd w w.heap.size 9 A n (flS l)) (hn:n<=1000000) :
  Calls Tryz.prog 229 #[.slice A n c] w fun e w'=>e=.returned (.int .i64 (rE l))/\Below w.heap.size w w':=by
 have mixed:Tryz.prog.follows .mixedOrders=true:=by kernel_rfl
 have hln:=rdS_len hrd;by_cases h0:n=0
 ·subst h0
  have HE:=Lib.hid (rE_no (okR_len (l:=l) (by omega)));clear hrd hln hn
  go_enter Tryz.func229, Tryz.ntmps229
  go_wp2_with fail
  go_ret
  exact⟨by rw[HE.out];rfl,Below.refl _ _⟩
 by_cases hbig:100<n
 ·have HE:=Lib.hid (rE_no (okR_len (l:=l) (by omega)))
  have hb':(100:Int)<(n:Int):=by omega
  have hb2: ¬ (n:Int)<1:=by omega
  clear hrd hln hn h0 hbig
  go_enter Tryz.func229, Tryz.ntmps229
  go_wp2_with fail
  go_ret
  exact⟨by rw[HE.out];rfl,Below.refl _ _⟩
 obtain⟨j,hj⟩:∃j,n=j+1:=⟨n-1,by omega⟩
 obtain⟨ad,y,hA,hbk,hy,e0,ej⟩:=sl_at (k:=j) hrd (by omega);have cz:w.cell? ⟨(ad.add (j*9)).block,(ad.add (j*9)).off+3,none⟩=some (.bool y.z):=ej 2 (by decide);have b1: ¬ (n:Int)<1:=by omega
 have b2: ¬ (100:Int)<(n:Int):=by omega
 have b3:IntKind.i64.wrap ((n:Int)-1)=(j:Int):=by rw[IntKind.wrap_i64];omega
 have b4:(j:Int)<(n:Int):=by omega
 have HO:=Lib.hid (fun b=>okR_of (l:=l) hy (by omega) (by omega) b);rcases hz:y.z with _|_
 case neg.true =>
  rw[hz] at cz HO;have HE:=Lib.hid (rE_no (show okR l=false from by rw[HO.out _ rfl];rfl));subst hA;clear hrd e0 ej hy hz HO hln h0 hbig hj hn hbk
  go_enter Tryz.func229, Tryz.ntmps229
  go_wp2_with fail
  go_ret
  exact⟨by rw[HE.out];rfl,Below.refl _ _⟩
 case neg.false =>
  rw[hz] at cz HO;have HOK:=Lib.hid (show ∀b,rowE none l=b->rE l=if b=true then 0 else 240 from fun b h=>by unfold rE;rw[HO.out b h];cases b<;>rfl);have HLN:=Lib.hid hln;have HR:=Lib.hid hrd;subst hA;have hn1:n<=100:=by omega
  clear hrd e0 ej hy hz HO hln h0 hbig hbk hj hn
  go_enter Tryz.func229, Tryz.ntmps229
  go_wp2_with fail
  go_loopw [25] (fun v wr=>∃k:Nat,v=.int .i64 k/\k<=n/\Hid (rowE (pvG l k) (l.drop k)=rowE none l/\(∀j r,j<k->l[j]? =some r->okE r=true)/\Below w.heap.size w wr)) (fun v _=>n-(intOf v).toNat)
  case atStart=>exact⟨0,by go_num,by omega,rfl,fun j r h=>absurd h (by omega),Below.refl _ _⟩
  case round =>
   obtain⟨k,rfl,hk,HX⟩:=hrel;clear cz;by_cases hkn:k<n
   ·obtain⟨ad',m,hA,hbk,hx,e0,ej⟩:=sl_at (HR.out.below HX.out.2.2) hkn
    obtain rfl:ad=ad':=Option.some.inj hA;have hc0:wr.cell? (ad.add (k*9))=some (.int .i64 m.i):=e0;have hc1:wr.cell? ⟨(ad.add (k*9)).block,(ad.add (k*9)).off+1,none⟩=some (.int .i64 m.g):=ej 0 (by decide);have hc2:wr.cell? ⟨(ad.add (k*9)).block,(ad.add (k*9)).off+2,none⟩=some (.int .i64 m.f):=ej 1 (by decide);have hc3:wr.cell? ⟨(ad.add (k*9)).block,(ad.add (k*9)).off+3,none⟩=some (.bool m.z):=ej 2 (by decide);have hc4:wr.cell? ⟨(ad.add (k*9)).block,(ad.add (k*9)).off+4,none⟩=some (.int .i64 m.c):=ej 3 (by decide);have hc5:wr.cell? ⟨(ad.add (k*9)).block,(ad.add (k*9)).off+5,none⟩=some (.int .i64 m.b):=ej 4 (by decide);have hc6:wr.cell? ⟨(ad.add (k*9)).block,(ad.add (k*9)).off+6,none⟩=some (.int .i64 m.e):=ej 5 (by decide);have hc7:wr.cell? ⟨(ad.add (k*9)).block,(ad.add (k*9)).off+7,none⟩=some (.int .i64 m.l):=ej 6 (by decide);have hc8:wr.cell? ⟨(ad.add (k*9)).block,(ad.add (k*9)).off+8,none⟩=some (.int .i64 m.n):=ej 7 (by decide);have HBN:=Lib.hid (HX.out.2.2.trans ((ext_alloc wr (.cells #[.int .i64 m.i,.int .i64 m.g,.int .i64 m.f,.bool m.z,.int .i64 m.c,.int .i64 m.b,.int .i64 m.e,.int .i64 m.l,.int .i64 m.n] 217)).mono HX.out.2.2.size));have HM0:=Lib.hid (Blk.new wr #[.int .i64 m.i,.int .i64 m.g,.int .i64 m.f,.bool m.z,.int .i64 m.c,.int .i64 m.b,.int .i64 m.e,.int .i64 m.l,.int .i64 m.n] 217);have HSZ:=Lib.hid HX.out.2.2.size;clear e0 ej hA;rcases ho:okE m with _|_
    ·have HC:=Lib.hid (fun w=>echeck_any m w)
     unfold eE at HC;rw[ho] at HC;have HE:=Lib.hid (show rE l=240 from by rw[HOK.out false (by rw[<-HX.out.1];exact rowG_bad hx ho)];rfl);obtain⟨mi,mg,mf,mz,mc,mb,me,ml,mn⟩:=m;unfold eagg at HC;dsimp only at *
     clear ho hx HX hbk;go_wp2_with (go_at_call 239;refine(HC.out _).mono ?_;rintro e1 w1 ⟨rfl,hb1⟩;have HB1:=Lib.hid (HBN.out.trans (hb1.mono HBN.out.size));clear hb1)
     go_ret
     exact⟨by rw[HE.out];rfl,HB1.out⟩
    ·have HC:=Lib.hid (fun w=>echeck_any m w)
     unfold eE at HC;rw[ho] at HC;by_cases hk0:k=0
     ·have HN:=Lib.hid (show rowE (pvG l (k+1)) (l.drop (k+1))=rowE none l/\ ∀j r,j<k+1->l[j]? =some r->okE r=true from by
       subst hk0;refine⟨(rowG_on0 hx ho).symm.trans HX.out.1,fun j r hj hr=>?_⟩;obtain rfl:j=0:=by omega
       rw[hx] at hr;cases hr;exact ho)
      have hk1:decide (0<k)=false:=decide_eq_false (by omega);obtain⟨mi,mg,mf,mz,mc,mb,me,ml,mn⟩:=m;unfold eagg at HC;dsimp only at *
      clear ho hx HX hbk hk0;go_wp2_with (go_at_call 239;refine(HC.out _).mono ?_;rintro e1 w1 ⟨rfl,hb1⟩;have HB1:=Lib.hid (HBN.out.trans (hb1.mono HBN.out.size));have HM1:=Lib.hid (HM0.out.ext hb1);clear hb1)
      have b0:=bw_cell HM1.out 0 (v:=.int .i64 mi) rfl;have b1:=bw_cell HM1.out 1 (v:=.int .i64 mg) rfl;have b2:=bw_cell HM1.out 2 (v:=.int .i64 mf) rfl;have b3:=bw_cell HM1.out 3 (v:=.bool mz) rfl;have b4:=bw_cell HM1.out 4 (v:=.int .i64 mc) rfl;have b5:=bw_cell HM1.out 5 (v:=.int .i64 mb) rfl;have b6:=bw_cell HM1.out 6 (v:=.int .i64 me) rfl;have b7:=bw_cell HM1.out 7 (v:=.int .i64 ml) rfl;have b8:=bw_cell HM1.out 8 (v:=.int .i64 mn) rfl;refine wp_region_quiet_below (by assumption) (by kernel_rfl) ?_
      repeat (first|go_big_quiet_skip|quiet_step (fail))
      refine wpQuiet_nil ?_;intro _ hw';obtain⟨q,rfl⟩:=hw';go_wp2_with fail
      go_roundw
      case rel=>exact⟨k+1,by go_num,by omega,HN.out.1,HN.out.2,HB1.out.trans (q.h.mono HB1.out.size)⟩
      case measure=>simp[intOf];omega
     ·obtain⟨j',hj'⟩:∃j,k=j+1:=⟨k-1,by omega⟩
      obtain⟨ad',p,hA',hbk',hxp,f0,fj⟩:=sl_at (k:=j') (HR.out.below HX.out.2.2) (by omega);obtain rfl:ad=ad':=Option.some.inj hA';have pc0:wr.cell? (ad.add (j'*9))=some (.int .i64 p.i):=f0;have pc1:wr.cell? ⟨(ad.add (j'*9)).block,(ad.add (j'*9)).off+1,none⟩=some (.int .i64 p.g):=fj 0 (by decide);have pc2:wr.cell? ⟨(ad.add (j'*9)).block,(ad.add (j'*9)).off+2,none⟩=some (.int .i64 p.f):=fj 1 (by decide);have pc3:wr.cell? ⟨(ad.add (j'*9)).block,(ad.add (j'*9)).off+3,none⟩=some (.bool p.z):=fj 2 (by decide);have pc4:wr.cell? ⟨(ad.add (j'*9)).block,(ad.add (j'*9)).off+4,none⟩=some (.int .i64 p.c):=fj 3 (by decide);have pc5:wr.cell? ⟨(ad.add (j'*9)).block,(ad.add (j'*9)).off+5,none⟩=some (.int .i64 p.b):=fj 4 (by decide);have pc6:wr.cell? ⟨(ad.add (j'*9)).block,(ad.add (j'*9)).off+6,none⟩=some (.int .i64 p.e):=fj 5 (by decide);have pc7:wr.cell? ⟨(ad.add (j'*9)).block,(ad.add (j'*9)).off+7,none⟩=some (.int .i64 p.l):=fj 6 (by decide);have pc8:wr.cell? ⟨(ad.add (j'*9)).block,(ad.add (j'*9)).off+8,none⟩=some (.int .i64 p.n):=fj 7 (by decide);have hop:okE p=true:=HX.out.2.1 j' p (by omega) hxp;have hlt:(ad.add (j'*9)).block<wr.heap.size:=by rw[add_block];exact Nat.lt_of_lt_of_le hbk HSZ.out
      have hk1:decide (0<k)=true:=decide_eq_true (by omega);have w1:IntKind.i64.wrap ((k:Int)-1)=(j':Int):=by rw[IntKind.wrap_i64];omega
      have hjn:(j':Int)<(n:Int):=by omega
      rcases hf:folE p m with _|_
      all_goals
       have HFO:=Lib.hid (fun w=>efol_any p m w hop);rw[hf] at HFO
      case neg.false =>
       have HE:=Lib.hid (show rE l=240 from by rw[HOK.out false (by rw[<-HX.out.1];subst hj';exact rowG_off hxp hx hf)];rfl);obtain⟨mi,mg,mf,mz,mc,mb,me,ml,mn⟩:=m;obtain⟨pi,pg,pf,pz,pc,pb,pe,pl,pn⟩:=p;unfold eagg at HC HFO;dsimp only at *
       have HJ:=Lib.hid hj';clear ho hx HX hbk hk0 hop hf hxp f0 fj hA' hbk' hj';go_wp2_with (go_at_call 239;refine(HC.out _).mono ?_;rintro e1 w1 ⟨rfl,hb1⟩;have HB1:=Lib.hid (HBN.out.trans (hb1.mono HBN.out.size));have HM1:=Lib.hid (HM0.out.ext hb1);have HW1:=Lib.hid ((ext_alloc wr (.cells #[.int .i64 mi,.int .i64 mg,.int .i64 mf,.bool mz,.int .i64 mc,.int .i64 mb,.int .i64 me,.int .i64 ml,.int .i64 mn] 217)).trans (hb1.mono (by simp)));clear hb1)
       have b0:=bw_cell HM1.out 0 (v:=.int .i64 mi) rfl;have b1:=bw_cell HM1.out 1 (v:=.int .i64 mg) rfl;have b2:=bw_cell HM1.out 2 (v:=.int .i64 mf) rfl;have b3:=bw_cell HM1.out 3 (v:=.bool mz) rfl;have b4:=bw_cell HM1.out 4 (v:=.int .i64 mc) rfl;have b5:=bw_cell HM1.out 5 (v:=.int .i64 mb) rfl;have b6:=bw_cell HM1.out 6 (v:=.int .i64 me) rfl;have b7:=bw_cell HM1.out 7 (v:=.int .i64 ml) rfl;have b8:=bw_cell HM1.out 8 (v:=.int .i64 mn) rfl;have d0:=bw_far HW1.out hlt pc0;have d1:=bw_far HW1.out (a:=⟨(ad.add (j'*9)).block,(ad.add (j'*9)).off+1,none⟩) hlt pc1;have d2:=bw_far HW1.out (a:=⟨(ad.add (j'*9)).block,(ad.add (j'*9)).off+2,none⟩) hlt pc2;have d3:=bw_far HW1.out (a:=⟨(ad.add (j'*9)).block,(ad.add (j'*9)).off+3,none⟩) hlt pc3;have d4:=bw_far HW1.out (a:=⟨(ad.add (j'*9)).block,(ad.add (j'*9)).off+4,none⟩) hlt pc4;have d5:=bw_far HW1.out (a:=⟨(ad.add (j'*9)).block,(ad.add (j'*9)).off+5,none⟩) hlt pc5;have d6:=bw_far HW1.out (a:=⟨(ad.add (j'*9)).block,(ad.add (j'*9)).off+6,none⟩) hlt pc6;have d7:=bw_far HW1.out (a:=⟨(ad.add (j'*9)).block,(ad.add (j'*9)).off+7,none⟩) hlt pc7;have d8:=bw_far HW1.out (a:=⟨(ad.add (j'*9)).block,(ad.add (j'*9)).off+8,none⟩) hlt pc8;clear pc0 pc1 pc2 pc3 pc4 pc5 pc6 pc7 pc8 hc0 hc1 hc2 hc3 hc4 hc5 hc6 hc7 hc8;refine wp_region_quiet_below (by assumption) (by kernel_rfl) ?_
       repeat (first|go_big_quiet_skip|quiet_step (first|(go_at_call 276;refine below_of (HFO.out _))))
       refine wpQuiet_nil ?_;intro _ hw';obtain⟨q,rfl⟩:=hw';go_wp2_with fail
       go_ret
       exact⟨by rw[HE.out];rfl,HB1.out.trans (q.h.mono HB1.out.size)⟩
      case neg.true =>
       have HN:=Lib.hid (show rowE (pvG l (k+1)) (l.drop (k+1))=rowE none l/\ ∀j r,j<k+1->l[j]? =some r->okE r=true from by
        subst hj';refine⟨(rowG_on hxp hx ho hf).symm.trans HX.out.1,fun i r hi hr=>?_⟩;rcases Nat.lt_or_ge i (j'+1) with h|h
        ·exact HX.out.2.1 i r h hr
        ·obtain rfl:i=j'+1:=by omega
         rw[hx] at hr;cases hr;exact ho)
       obtain⟨mi,mg,mf,mz,mc,mb,me,ml,mn⟩:=m;obtain⟨pi,pg,pf,pz,pc,pb,pe,pl,pn⟩:=p;unfold eagg at HC HFO;dsimp only at *
       have HJ:=Lib.hid hj';clear ho hx HX hbk hk0 hop hf hxp f0 fj hA' hbk' hj';go_wp2_with (go_at_call 239;refine(HC.out _).mono ?_;rintro e1 w1 ⟨rfl,hb1⟩;have HB1:=Lib.hid (HBN.out.trans (hb1.mono HBN.out.size));have HM1:=Lib.hid (HM0.out.ext hb1);have HW1:=Lib.hid ((ext_alloc wr (.cells #[.int .i64 mi,.int .i64 mg,.int .i64 mf,.bool mz,.int .i64 mc,.int .i64 mb,.int .i64 me,.int .i64 ml,.int .i64 mn] 217)).trans (hb1.mono (by simp)));clear hb1)
       have b0:=bw_cell HM1.out 0 (v:=.int .i64 mi) rfl;have b1:=bw_cell HM1.out 1 (v:=.int .i64 mg) rfl;have b2:=bw_cell HM1.out 2 (v:=.int .i64 mf) rfl;have b3:=bw_cell HM1.out 3 (v:=.bool mz) rfl;have b4:=bw_cell HM1.out 4 (v:=.int .i64 mc) rfl;have b5:=bw_cell HM1.out 5 (v:=.int .i64 mb) rfl;have b6:=bw_cell HM1.out 6 (v:=.int .i64 me) rfl;have b7:=bw_cell HM1.out 7 (v:=.int .i64 ml) rfl;have b8:=bw_cell HM1.out 8 (v:=.int .i64 mn) rfl;have d0:=bw_far HW1.out hlt pc0;have d1:=bw_far HW1.out (a:=⟨(ad.add (j'*9)).block,(ad.add (j'*9)).off+1,none⟩) hlt pc1;have d2:=bw_far HW1.out (a:=⟨(ad.add (j'*9)).block,(ad.add (j'*9)).off+2,none⟩) hlt pc2;have d3:=bw_far HW1.out (a:=⟨(ad.add (j'*9)).block,(ad.add (j'*9)).off+3,none⟩) hlt pc3;have d4:=bw_far HW1.out (a:=⟨(ad.add (j'*9)).block,(ad.add (j'*9)).off+4,none⟩) hlt pc4;have d5:=bw_far HW1.out (a:=⟨(ad.add (j'*9)).block,(ad.add (j'*9)).off+5,none⟩) hlt pc5;have d6:=bw_far HW1.out (a:=⟨(ad.add (j'*9)).block,(ad.add (j'*9)).off+6,none⟩) hlt pc6;have d7:=bw_far HW1.out (a:=⟨(ad.add (j'*9)).block,(ad.add (j'*9)).off+7,none⟩) hlt pc7;have d8:=bw_far HW1.out (a:=⟨(ad.add (j'*9)).block,(ad.add (j'*9)).off+8,none⟩) hlt pc8;clear pc0 pc1 pc2 pc3 pc4 pc5 pc6 pc7 pc8 hc0 hc1 hc2 hc3 hc4 hc5 hc6 hc7 hc8;refine wp_region_quiet_below (by assumption) (by kernel_rfl) ?_
       repeat (first|go_big_quiet_skip|quiet_step (first|(go_at_call 276;refine below_of (HFO.out _))))
       refine wpQuiet_nil ?_;intro _ hw';obtain⟨q,rfl⟩:=hw';go_wp2_with fail
       go_roundw
       case rel=>exact⟨k+1,by go_num,by omega,HN.out.1,HN.out.2,HB1.out.trans (q.h.mono HB1.out.size)⟩
       case measure=>simp[intOf];omega
   ·obtain rfl:k=n:=by omega
    have HE:=Lib.hid (show rE l=0 from by rw[HOK.out true (by rw[<-HX.out.1];exact rowG_end (by rw[HLN.out];omega))];rfl);have HB:=Lib.hid HX.out.2.2;clear HX;go_wp2_with fail
    go_ret
    exact⟨by rw[HE.out];rfl,HB.out⟩
end Op
end Go.Proofs.YtejcdhdfanfkbaaGreat
namespace Go.Proofs.YtejcdhdfanfkbaaGreat
open Go.RowKit
def rowAt (w:World) (b:Nat):Array Value:=match w.heap[b]? with
 |some (.cells cs _ (0,0))=>cs
 |_=>#[]
def isRowAt (w:World) (b:Nat):Bool:=match w.heap[b]? with
 |some (.cells _ _ (0,0))=>true
 |_=>false
def RowTy (P:Program) (t:TypeId) (n:Nat):Prop:=(P.info? t).map (·.size)=some n/\ ∃fs,P.underlying t=some (.struct fs)
theorem Blk.rowAt {w:World} {b:Nat} {cs:Array Value} {t:TypeId} (h:Blk w b cs t):isRowAt w b=true/\rowAt w b=cs:=by
 unfold Blk at h;unfold isRowAt Go.Proofs.YtejcdhdfanfkbaaGreat.rowAt;rw[h];exact⟨rfl,rfl⟩
theorem loadVar_row_pre {P:Program} (t:TypeId) (b:Nat) (w:World) (h:isRowAt w b=true) (ht:RowTy P t (rowAt w b).size):(loadVar t ⟨b,0,none⟩).run P w=.ok (.agg (rowAt w b)) w:=by
 obtain⟨hi,fs,hu⟩:=ht;have hb:∃cs t',w.heap[b]? =some (.cells cs t' (0,0)):=by
  unfold isRowAt at h;split at h
  ·exact⟨_,_,by assumption⟩
  ·cases h
 obtain⟨cs,t',hb⟩:=hb;have e:rowAt w b=cs:=by unfold rowAt;simp only[hb]
 rw[e] at hi ⊢;exact run_loadVar_row w b t' t cs (0,0) _ hb hu rfl hi
def loadRow (t:TypeId) (x:Value):Sem Value:=Instr.loadAt t x
theorem run_loadRow {P:Program} (t:TypeId) (b:Nat) (w:World) (h:isRowAt w b=true) (ht:RowTy P t (rowAt w b).size):(loadRow t (.pointer (some ⟨b,0,none⟩))).run P w=.ok (.agg (rowAt w b)) w:=by
 unfold loadRow;simp only[Instr.loadAt,Instr.sureAddr,Sem.run_bind,Sem.run_pure,Result.andThen_ok,loadVar_row_pre t b w h ht]
end Go.Proofs.YtejcdhdfanfkbaaGreat
