/- Rows of entries, blocks, records held against one another. -/
import Derived.Test.YtphfmgapiimliaaGreatSc09
import Derived.Test.YtphfmgapiimliaaGreatSc13
import Derived.Test.YtphfmgapiimliaaGreatSc06
import Derived.Deep.LoopGhost
namespace Go.Proofs.YtphfmgapiimliaaGreat
namespace Op
open Go.RowKit
theorem cneS_mi (x y:Mi) (w:World):(binOp .neq 66 (.agg #[.int .i64 x.a,.int .i64 x.s,.int .i64 x.r,.int .i64 x.c,.int .i64 x.f,.int .i64 x.e,.int .i64 x.l]) (.agg #[.int .i64 y.a,.int .i64 y.s,.int .i64 y.r,.int .i64 y.c,.int .i64 y.f,.int .i64 y.e,.int .i64 y.l])).run Tryz.prog w=.ok (.bool (decide (x≠y))) w:=by
 obtain⟨x0,x1,x2,x3,x4,x5,x6⟩:=x;obtain⟨y0,y1,y2,y3,y4,y5,y6⟩:=y;simp[go_sem]
 repeat' split
 all_goals simp_all
set_option maxHeartbeats 3200000 in
set_option maxRecDepth 100000 in
theorem eq_mi (A A':Option Addr) (n n' c c':Nat) (l l':List Mi) (w:World) (h1:Rd w w.heap.size 7 A n (flS l)) (h2:Rd w w.heap.size 7 A' n' (flS l')) (hn:n<=1000000) (hn':n'<=9223372036854775807) :
  Calls Tryz.prog 36 #[.slice A n c,.slice A' n' c'] w fun e w'=>e=.returned (.bool (decide (l=l')))/\Below w.heap.size w w':=by
 have mixed:Tryz.prog.follows .mixedOrders=true:=by kernel_rfl
 have L1:=rdS_len h1;have L2:=rdS_len h2;by_cases hnn:n=n'
 ·subst hnn
  have HR1:=Lib.hid h1;have HR2:=Lib.hid h2;have HL:=Lib.hid (And.intro L1 L2);have hb0:=(show((n:Int) != (n:Int))=false by simp)
  clear h1 h2 L1 L2;generalize hD:decide (l=l')=D;have HD:=Lib.hid hD;clear hD
  go_enter Tryz.func36, Tryz.ntmps36
  go_wp2_with fail
  go_loopw [13] (fun v wr=>∃k:Nat,v=.int .i64 k/\k<=n/\Hid (Below w.heap.size w wr/\ ∀j,j<k->l[j]? =l'[j]?)) (fun v _=>n-(intOf v).toNat)
  case atStart=>exact⟨0,by go_num,by omega,Lib.hid ⟨Below.refl _ _,fun j hj=>absurd hj (by omega)⟩⟩
  case round =>
   obtain⟨k,rfl,hk,HX⟩:=hrel;by_cases hkn:k<n
   ·obtain⟨ad,m,rfl,hbk,hx,e0,ej⟩:=sl_at (HR1.out.below HX.out.1) hkn
    obtain⟨ad',m',rfl,hbk',hx',g0,gj⟩:=sl_at (HR2.out.below HX.out.1) hkn;have i1:(0:Int)<=(k:Int):=by omega
    have i2:(k:Int)<(n:Int):=by omega
    have i3:IntKind.i64.wrap (k:Int)=(k:Int):=by rw[IntKind.wrap_i64];omega
    have c0:wr.cell? (ad.add (k*7))=some (.int .i64 m.a):=e0;have c1:wr.cell? ⟨(ad.add (k*7)).block,(ad.add (k*7)).off+1,none⟩=some (.int .i64 m.s):=ej 0 (by decide);have c2:wr.cell? ⟨(ad.add (k*7)).block,(ad.add (k*7)).off+2,none⟩=some (.int .i64 m.r):=ej 1 (by decide);have c3:wr.cell? ⟨(ad.add (k*7)).block,(ad.add (k*7)).off+3,none⟩=some (.int .i64 m.c):=ej 2 (by decide);have c4:wr.cell? ⟨(ad.add (k*7)).block,(ad.add (k*7)).off+4,none⟩=some (.int .i64 m.f):=ej 3 (by decide);have c5:wr.cell? ⟨(ad.add (k*7)).block,(ad.add (k*7)).off+5,none⟩=some (.int .i64 m.e):=ej 4 (by decide);have c6:wr.cell? ⟨(ad.add (k*7)).block,(ad.add (k*7)).off+6,none⟩=some (.int .i64 m.l):=ej 5 (by decide);have d0:wr.cell? (ad'.add (k*7))=some (.int .i64 m'.a):=g0;have d1:wr.cell? ⟨(ad'.add (k*7)).block,(ad'.add (k*7)).off+1,none⟩=some (.int .i64 m'.s):=gj 0 (by decide);have d2:wr.cell? ⟨(ad'.add (k*7)).block,(ad'.add (k*7)).off+2,none⟩=some (.int .i64 m'.r):=gj 1 (by decide);have d3:wr.cell? ⟨(ad'.add (k*7)).block,(ad'.add (k*7)).off+3,none⟩=some (.int .i64 m'.c):=gj 2 (by decide);have d4:wr.cell? ⟨(ad'.add (k*7)).block,(ad'.add (k*7)).off+4,none⟩=some (.int .i64 m'.f):=gj 3 (by decide);have d5:wr.cell? ⟨(ad'.add (k*7)).block,(ad'.add (k*7)).off+5,none⟩=some (.int .i64 m'.e):=gj 4 (by decide);have d6:wr.cell? ⟨(ad'.add (k*7)).block,(ad'.add (k*7)).off+6,none⟩=some (.int .i64 m'.l):=gj 5 (by decide);clear e0 ej g0 gj;by_cases hm:m=m'
    ·subst hm
     have HN:=Lib.hid (show ∀j,j<k+1->l[j]? =l'[j]? from fun j hj=>by
      rcases Nat.lt_or_ge j k with h|h
      ·exact HX.out.2 j h
      ·obtain rfl:j=k:=by omega
       rw[hx,hx'])
     clear hx hx';go_wp2_with fail
     go_quiet (fail)
     have HP:=Lib.hid (HX.out.1.trans (ext_drewN wr nq |>.mono HX.out.1.size));go_wp2_with fail
     go_roundw
     case rel=>exact⟨k+1,by go_num,by omega,Lib.hid ⟨HP.out,HN.out⟩⟩
     case measure=>simp[intOf];omega
    ·have HE:=Lib.hid (show D=false from by
      rw[<-HD.out];exact decide_eq_false fun e=>hm (by subst e;rw[hx] at hx';exact Option.some.inj hx'))
     have hq:∀(w:World),(binOp .neq 66 (.agg #[.int .i64 m.a,.int .i64 m.s,.int .i64 m.r,.int .i64 m.c,.int .i64 m.f,.int .i64 m.e,.int .i64 m.l]) (.agg #[.int .i64 m'.a,.int .i64 m'.s,.int .i64 m'.r,.int .i64 m'.c,.int .i64 m'.f,.int .i64 m'.e,.int .i64 m'.l])).run Tryz.prog w=.ok (.bool true) w:=fun w=>by
      have:=cneS_mi m m' w
      rwa [decide_eq_true hm] at this
     clear hx hx';go_wp2_with fail
     go_quiet (fail)
     have HP:=Lib.hid (HX.out.1.trans (ext_drewN wr nq |>.mono HX.out.1.size));go_wp2_with fail
     go_ret
     exact⟨by rw[HE.out];rfl,HP.out⟩
   ·obtain rfl:k=n:=by omega
    have HE:=Lib.hid (show D=true from by
     rw[<-HD.out];refine decide_eq_true (List.ext_getElem? fun j=>?_);rcases Nat.lt_or_ge j k with h|h
     ·exact HX.out.2 j h
     ·rw[List.getElem?_eq_none (by rw[HL.out.1];exact h),List.getElem?_eq_none (by rw[HL.out.2];exact h)])
    have HB:=Lib.hid HX.out.1;clear HX;go_wp2_with fail
    go_ret
    exact⟨by rw[HE.out];rfl,HB.out⟩
 ·have HE:decide (l=l')=false:=decide_eq_false fun e=>hnn (by rw[<-L1,<-L2,e])
  rw[HE];have hb0:((n:Int) != (n':Int))=true:=by rw[bne_iff_ne];omega
  clear h1 h2 L1 L2 HE
  go_enter Tryz.func36, Tryz.ntmps36
  go_wp2_with fail
  go_ret
  exact⟨rfl,Below.refl _ _⟩
theorem cneS_rc (x y:Rc) (w:World):(binOp .neq 33 (.agg #[.int .i64 x.1,.int .i64 x.2.1,.string x.2.2]) (.agg #[.int .i64 y.1,.int .i64 y.2.1,.string y.2.2])).run Tryz.prog w=.ok (.bool (decide (x≠y))) w:=by
 obtain⟨x0,x1,x2⟩:=x;obtain⟨y0,y1,y2⟩:=y;have hT:(x2.toList=y2.toList)↔x2=y2:=by
  have:=Sn.beqL x2 y2 (r:=decide (x2=y2)) rfl;exact⟨fun h=>by rw[beq_iff_eq.2 h] at this;exact of_decide_eq_true this.symm,fun h=>by rw[h]⟩
 simp[go_sem]
 repeat' split
 all_goals simp_all
set_option maxHeartbeats 3200000 in
set_option maxRecDepth 100000 in
theorem eq_rc (A A':Option Addr) (n n' c c':Nat) (l l':List Rc) (w:World) (h1:Rd w w.heap.size 3 A n (flS l)) (h2:Rd w w.heap.size 3 A' n' (flS l')) (hn:n<=1000000) (hn':n'<=9223372036854775807) :
  Calls Tryz.prog 37 #[.slice A n c,.slice A' n' c'] w fun e w'=>e=.returned (.bool (decide (l=l')))/\Below w.heap.size w w':=by
 have mixed:Tryz.prog.follows .mixedOrders=true:=by kernel_rfl
 have L1:=rdS_len h1;have L2:=rdS_len h2;by_cases hnn:n=n'
 ·subst hnn
  have HR1:=Lib.hid h1;have HR2:=Lib.hid h2;have HL:=Lib.hid (And.intro L1 L2);have hb0:=(show((n:Int) != (n:Int))=false by simp)
  clear h1 h2 L1 L2;generalize hD:decide (l=l')=D;have HD:=Lib.hid hD;clear hD
  go_enter Tryz.func37, Tryz.ntmps37
  go_wp2_with fail
  go_loopw [13] (fun v wr=>∃k:Nat,v=.int .i64 k/\k<=n/\Hid (Below w.heap.size w wr/\ ∀j,j<k->l[j]? =l'[j]?)) (fun v _=>n-(intOf v).toNat)
  case atStart=>exact⟨0,by go_num,by omega,Lib.hid ⟨Below.refl _ _,fun j hj=>absurd hj (by omega)⟩⟩
  case round =>
   obtain⟨k,rfl,hk,HX⟩:=hrel;by_cases hkn:k<n
   ·obtain⟨ad,m,rfl,hbk,hx,e0,ej⟩:=sl_at (HR1.out.below HX.out.1) hkn
    obtain⟨ad',m',rfl,hbk',hx',g0,gj⟩:=sl_at (HR2.out.below HX.out.1) hkn;have i1:(0:Int)<=(k:Int):=by omega
    have i2:(k:Int)<(n:Int):=by omega
    have i3:IntKind.i64.wrap (k:Int)=(k:Int):=by rw[IntKind.wrap_i64];omega
    have c0:wr.cell? (ad.add (k*3))=some (.int .i64 m.1):=e0;have c1:wr.cell? ⟨(ad.add (k*3)).block,(ad.add (k*3)).off+1,none⟩=some (.int .i64 m.2.1):=ej 0 (by decide);have c2:wr.cell? ⟨(ad.add (k*3)).block,(ad.add (k*3)).off+2,none⟩=some (.string m.2.2):=ej 1 (by decide);have d0:wr.cell? (ad'.add (k*3))=some (.int .i64 m'.1):=g0;have d1:wr.cell? ⟨(ad'.add (k*3)).block,(ad'.add (k*3)).off+1,none⟩=some (.int .i64 m'.2.1):=gj 0 (by decide);have d2:wr.cell? ⟨(ad'.add (k*3)).block,(ad'.add (k*3)).off+2,none⟩=some (.string m'.2.2):=gj 1 (by decide);clear e0 ej g0 gj;by_cases hm:m=m'
    ·subst hm
     have HN:=Lib.hid (show ∀j,j<k+1->l[j]? =l'[j]? from fun j hj=>by
      rcases Nat.lt_or_ge j k with h|h
      ·exact HX.out.2 j h
      ·obtain rfl:j=k:=by omega
       rw[hx,hx'])
     clear hx hx';go_wp2_with fail
     go_quiet (fail)
     have HP:=Lib.hid (HX.out.1.trans (ext_drewN wr nq |>.mono HX.out.1.size));go_wp2_with fail
     go_roundw
     case rel=>exact⟨k+1,by go_num,by omega,Lib.hid ⟨HP.out,HN.out⟩⟩
     case measure=>simp[intOf];omega
    ·have HE:=Lib.hid (show D=false from by
      rw[<-HD.out];exact decide_eq_false fun e=>hm (by subst e;rw[hx] at hx';exact Option.some.inj hx'))
     have hq:∀(w:World),(binOp .neq 33 (.agg #[.int .i64 m.1,.int .i64 m.2.1,.string m.2.2]) (.agg #[.int .i64 m'.1,.int .i64 m'.2.1,.string m'.2.2])).run Tryz.prog w=.ok (.bool true) w:=fun w=>by
      have:=cneS_rc m m' w
      rwa [decide_eq_true hm] at this
     clear hx hx';go_wp2_with fail
     go_quiet (fail)
     have HP:=Lib.hid (HX.out.1.trans (ext_drewN wr nq |>.mono HX.out.1.size));go_wp2_with fail
     go_ret
     exact⟨by rw[HE.out];rfl,HP.out⟩
   ·obtain rfl:k=n:=by omega
    have HE:=Lib.hid (show D=true from by
     rw[<-HD.out];refine decide_eq_true (List.ext_getElem? fun j=>?_);rcases Nat.lt_or_ge j k with h|h
     ·exact HX.out.2 j h
     ·rw[List.getElem?_eq_none (by rw[HL.out.1];exact h),List.getElem?_eq_none (by rw[HL.out.2];exact h)])
    have HB:=Lib.hid HX.out.1;clear HX;go_wp2_with fail
    go_ret
    exact⟨by rw[HE.out];rfl,HB.out⟩
 ·have HE:decide (l=l')=false:=decide_eq_false fun e=>hnn (by rw[<-L1,<-L2,e])
  rw[HE];have hb0:((n:Int) != (n':Int))=true:=by rw[bne_iff_ne];omega
  clear h1 h2 L1 L2 HE
  go_enter Tryz.func37, Tryz.ntmps37
  go_wp2_with fail
  go_ret
  exact⟨rfl,Below.refl _ _⟩
theorem cneS_en (x y:En) (w:World):(binOp .neq 48 (.agg #[.int .i64 x.i,.int .i64 x.g,.int .i64 x.f,.bool x.z,.int .i64 x.c,.int .i64 x.b,.int .i64 x.e,.int .i64 x.l,.int .i64 x.n]) (.agg #[.int .i64 y.i,.int .i64 y.g,.int .i64 y.f,.bool y.z,.int .i64 y.c,.int .i64 y.b,.int .i64 y.e,.int .i64 y.l,.int .i64 y.n])).run Tryz.prog w=.ok (.bool (decide (x≠y))) w:=by
 obtain⟨x0,x1,x2,x3,x4,x5,x6,x7,x8⟩:=x;obtain⟨y0,y1,y2,y3,y4,y5,y6,y7,y8⟩:=y;simp[go_sem]
 repeat' split
 all_goals simp_all
set_option maxHeartbeats 3200000 in
set_option maxRecDepth 100000 in
theorem eq_en (A A':Option Addr) (n n' c c':Nat) (l l':List En) (w:World) (h1:Rd w w.heap.size 9 A n (flS l)) (h2:Rd w w.heap.size 9 A' n' (flS l')) (hn:n<=1000000) (hn':n'<=9223372036854775807) :
  Calls Tryz.prog 66 #[.slice A n c,.slice A' n' c'] w fun e w'=>e=.returned (.bool (decide (l=l')))/\Below w.heap.size w w':=by
 have mixed:Tryz.prog.follows .mixedOrders=true:=by kernel_rfl
 have L1:=rdS_len h1;have L2:=rdS_len h2;by_cases hnn:n=n'
 ·subst hnn
  have HR1:=Lib.hid h1;have HR2:=Lib.hid h2;have HL:=Lib.hid (And.intro L1 L2);have hb0:=(show((n:Int) != (n:Int))=false by simp)
  clear h1 h2 L1 L2;generalize hD:decide (l=l')=D;have HD:=Lib.hid hD;clear hD
  go_enter Tryz.func66, Tryz.ntmps66
  go_wp2_with fail
  go_loopw [13] (fun v wr=>∃k:Nat,v=.int .i64 k/\k<=n/\Hid (Below w.heap.size w wr/\ ∀j,j<k->l[j]? =l'[j]?)) (fun v _=>n-(intOf v).toNat)
  case atStart=>exact⟨0,by go_num,by omega,Lib.hid ⟨Below.refl _ _,fun j hj=>absurd hj (by omega)⟩⟩
  case round =>
   obtain⟨k,rfl,hk,HX⟩:=hrel;by_cases hkn:k<n
   ·obtain⟨ad,m,rfl,hbk,hx,e0,ej⟩:=sl_at (HR1.out.below HX.out.1) hkn
    obtain⟨ad',m',rfl,hbk',hx',g0,gj⟩:=sl_at (HR2.out.below HX.out.1) hkn;have i1:(0:Int)<=(k:Int):=by omega
    have i2:(k:Int)<(n:Int):=by omega
    have i3:IntKind.i64.wrap (k:Int)=(k:Int):=by rw[IntKind.wrap_i64];omega
    have c0:wr.cell? (ad.add (k*9))=some (.int .i64 m.i):=e0;have c1:wr.cell? ⟨(ad.add (k*9)).block,(ad.add (k*9)).off+1,none⟩=some (.int .i64 m.g):=ej 0 (by decide);have c2:wr.cell? ⟨(ad.add (k*9)).block,(ad.add (k*9)).off+2,none⟩=some (.int .i64 m.f):=ej 1 (by decide);have c3:wr.cell? ⟨(ad.add (k*9)).block,(ad.add (k*9)).off+3,none⟩=some (.bool m.z):=ej 2 (by decide);have c4:wr.cell? ⟨(ad.add (k*9)).block,(ad.add (k*9)).off+4,none⟩=some (.int .i64 m.c):=ej 3 (by decide);have c5:wr.cell? ⟨(ad.add (k*9)).block,(ad.add (k*9)).off+5,none⟩=some (.int .i64 m.b):=ej 4 (by decide);have c6:wr.cell? ⟨(ad.add (k*9)).block,(ad.add (k*9)).off+6,none⟩=some (.int .i64 m.e):=ej 5 (by decide);have c7:wr.cell? ⟨(ad.add (k*9)).block,(ad.add (k*9)).off+7,none⟩=some (.int .i64 m.l):=ej 6 (by decide);have c8:wr.cell? ⟨(ad.add (k*9)).block,(ad.add (k*9)).off+8,none⟩=some (.int .i64 m.n):=ej 7 (by decide);have d0:wr.cell? (ad'.add (k*9))=some (.int .i64 m'.i):=g0;have d1:wr.cell? ⟨(ad'.add (k*9)).block,(ad'.add (k*9)).off+1,none⟩=some (.int .i64 m'.g):=gj 0 (by decide);have d2:wr.cell? ⟨(ad'.add (k*9)).block,(ad'.add (k*9)).off+2,none⟩=some (.int .i64 m'.f):=gj 1 (by decide);have d3:wr.cell? ⟨(ad'.add (k*9)).block,(ad'.add (k*9)).off+3,none⟩=some (.bool m'.z):=gj 2 (by decide);have d4:wr.cell? ⟨(ad'.add (k*9)).block,(ad'.add (k*9)).off+4,none⟩=some (.int .i64 m'.c):=gj 3 (by decide);have d5:wr.cell? ⟨(ad'.add (k*9)).block,(ad'.add (k*9)).off+5,none⟩=some (.int .i64 m'.b):=gj 4 (by decide);have d6:wr.cell? ⟨(ad'.add (k*9)).block,(ad'.add (k*9)).off+6,none⟩=some (.int .i64 m'.e):=gj 5 (by decide);have d7:wr.cell? ⟨(ad'.add (k*9)).block,(ad'.add (k*9)).off+7,none⟩=some (.int .i64 m'.l):=gj 6 (by decide);have d8:wr.cell? ⟨(ad'.add (k*9)).block,(ad'.add (k*9)).off+8,none⟩=some (.int .i64 m'.n):=gj 7 (by decide);clear e0 ej g0 gj;by_cases hm:m=m'
    ·subst hm
     have HN:=Lib.hid (show ∀j,j<k+1->l[j]? =l'[j]? from fun j hj=>by
      rcases Nat.lt_or_ge j k with h|h
      ·exact HX.out.2 j h
      ·obtain rfl:j=k:=by omega
       rw[hx,hx'])
     clear hx hx';go_wp2_with fail
     go_quiet (fail)
     have HP:=Lib.hid (HX.out.1.trans (ext_drewN wr nq |>.mono HX.out.1.size));go_wp2_with fail
     go_roundw
     case rel=>exact⟨k+1,by go_num,by omega,Lib.hid ⟨HP.out,HN.out⟩⟩
     case measure=>simp[intOf];omega
    ·have HE:=Lib.hid (show D=false from by
      rw[<-HD.out];exact decide_eq_false fun e=>hm (by subst e;rw[hx] at hx';exact Option.some.inj hx'))
     have hq:∀(w:World),(binOp .neq 48 (.agg #[.int .i64 m.i,.int .i64 m.g,.int .i64 m.f,.bool m.z,.int .i64 m.c,.int .i64 m.b,.int .i64 m.e,.int .i64 m.l,.int .i64 m.n]) (.agg #[.int .i64 m'.i,.int .i64 m'.g,.int .i64 m'.f,.bool m'.z,.int .i64 m'.c,.int .i64 m'.b,.int .i64 m'.e,.int .i64 m'.l,.int .i64 m'.n])).run Tryz.prog w=.ok (.bool true) w:=fun w=>by
      have:=cneS_en m m' w
      rwa [decide_eq_true hm] at this
     clear hx hx';go_wp2_with fail
     go_quiet (fail)
     have HP:=Lib.hid (HX.out.1.trans (ext_drewN wr nq |>.mono HX.out.1.size));go_wp2_with fail
     go_ret
     exact⟨by rw[HE.out];rfl,HP.out⟩
   ·obtain rfl:k=n:=by omega
    have HE:=Lib.hid (show D=true from by
     rw[<-HD.out];refine decide_eq_true (List.ext_getElem? fun j=>?_);rcases Nat.lt_or_ge j k with h|h
     ·exact HX.out.2 j h
     ·rw[List.getElem?_eq_none (by rw[HL.out.1];exact h),List.getElem?_eq_none (by rw[HL.out.2];exact h)])
    have HB:=Lib.hid HX.out.1;clear HX;go_wp2_with fail
    go_ret
    exact⟨by rw[HE.out];rfl,HB.out⟩
 ·have HE:decide (l=l')=false:=decide_eq_false fun e=>hnn (by rw[<-L1,<-L2,e])
  rw[HE];have hb0:((n:Int) != (n':Int))=true:=by rw[bne_iff_ne];omega
  clear h1 h2 L1 L2 HE
  go_enter Tryz.func66, Tryz.ntmps66
  go_wp2_with fail
  go_ret
  exact⟨rfl,Below.refl _ _⟩
set_option maxHeartbeats 3200000 in
set_option maxRecDepth 100000 in
theorem rsame_mi (A A':Option Addr) (n n' c c':Nat) (l l':List Mi) (w:World) (h1:Rd w w.heap.size 7 A n (flS l)) (h2:Rd w w.heap.size 7 A' n' (flS l')) (hn:n<=1000000) (hn':n'<=9223372036854775807) :
  Calls Tryz.prog 39 #[.slice A n c,.slice A' n' c'] w fun e w'=>e=.returned (.bool (decide (l=l')))/\Below w.heap.size w w':=by
 have mixed:Tryz.prog.follows .mixedOrders=true:=by kernel_rfl
 have L1:=rdS_len h1;have L2:=rdS_len h2;by_cases hnn:n=n'
 ·subst hnn
  have HR1:=Lib.hid h1;have HR2:=Lib.hid h2;have HL:=Lib.hid (And.intro L1 L2);have hb0:=(show((n:Int) != (n:Int))=false by simp)
  clear h1 h2 L1 L2;generalize hD:decide (l=l')=D;have HD:=Lib.hid hD;clear hD
  go_enter Tryz.func39, Tryz.ntmps39
  go_wp2_with fail
  go_loopw [5] (fun v wr=>∃k:Nat,v=.int .i64 k/\k<=n/\Hid (Below w.heap.size w wr/\ ∀j,j<k->l[j]? =l'[j]?)) (fun v _=>n-(intOf v).toNat)
  case atStart=>exact⟨0,by go_num,by omega,Lib.hid ⟨Below.refl _ _,fun j hj=>absurd hj (by omega)⟩⟩
  case round =>
   obtain⟨k,rfl,hk,HX⟩:=hrel;by_cases hkn:k<n
   ·obtain⟨ad,m,rfl,hbk,hx,e0,ej⟩:=sl_at (HR1.out.below HX.out.1) hkn
    obtain⟨ad',m',rfl,hbk',hx',g0,gj⟩:=sl_at (HR2.out.below HX.out.1) hkn;have i1:(0:Int)<=(k:Int):=by omega
    have i2:(k:Int)<(n:Int):=by omega
    have i3:IntKind.i64.wrap (k:Int)=(k:Int):=by rw[IntKind.wrap_i64];omega
    have c0:wr.cell? (ad.add (k*7))=some (.int .i64 m.a):=e0;have c1:wr.cell? ⟨(ad.add (k*7)).block,(ad.add (k*7)).off+1,none⟩=some (.int .i64 m.s):=ej 0 (by decide);have c2:wr.cell? ⟨(ad.add (k*7)).block,(ad.add (k*7)).off+2,none⟩=some (.int .i64 m.r):=ej 1 (by decide);have c3:wr.cell? ⟨(ad.add (k*7)).block,(ad.add (k*7)).off+3,none⟩=some (.int .i64 m.c):=ej 2 (by decide);have c4:wr.cell? ⟨(ad.add (k*7)).block,(ad.add (k*7)).off+4,none⟩=some (.int .i64 m.f):=ej 3 (by decide);have c5:wr.cell? ⟨(ad.add (k*7)).block,(ad.add (k*7)).off+5,none⟩=some (.int .i64 m.e):=ej 4 (by decide);have c6:wr.cell? ⟨(ad.add (k*7)).block,(ad.add (k*7)).off+6,none⟩=some (.int .i64 m.l):=ej 5 (by decide);have d0:wr.cell? (ad'.add (k*7))=some (.int .i64 m'.a):=g0;have d1:wr.cell? ⟨(ad'.add (k*7)).block,(ad'.add (k*7)).off+1,none⟩=some (.int .i64 m'.s):=gj 0 (by decide);have d2:wr.cell? ⟨(ad'.add (k*7)).block,(ad'.add (k*7)).off+2,none⟩=some (.int .i64 m'.r):=gj 1 (by decide);have d3:wr.cell? ⟨(ad'.add (k*7)).block,(ad'.add (k*7)).off+3,none⟩=some (.int .i64 m'.c):=gj 2 (by decide);have d4:wr.cell? ⟨(ad'.add (k*7)).block,(ad'.add (k*7)).off+4,none⟩=some (.int .i64 m'.f):=gj 3 (by decide);have d5:wr.cell? ⟨(ad'.add (k*7)).block,(ad'.add (k*7)).off+5,none⟩=some (.int .i64 m'.e):=gj 4 (by decide);have d6:wr.cell? ⟨(ad'.add (k*7)).block,(ad'.add (k*7)).off+6,none⟩=some (.int .i64 m'.l):=gj 5 (by decide);clear e0 ej g0 gj;by_cases hm:m=m'
    ·subst hm
     have HN:=Lib.hid (show ∀j,j<k+1->l[j]? =l'[j]? from fun j hj=>by
      rcases Nat.lt_or_ge j k with h|h
      ·exact HX.out.2 j h
      ·obtain rfl:j=k:=by omega
       rw[hx,hx'])
     clear hx hx';go_wp2_with fail
     go_quiet (fail)
     have HP:=Lib.hid (HX.out.1.trans (ext_drewN wr nq |>.mono HX.out.1.size));go_wp2_with fail
     go_roundw
     case rel=>exact⟨k+1,by go_num,by omega,Lib.hid ⟨HP.out,HN.out⟩⟩
     case measure=>simp[intOf];omega
    ·have HE:=Lib.hid (show D=false from by
      rw[<-HD.out];exact decide_eq_false fun e=>hm (by subst e;rw[hx] at hx';exact Option.some.inj hx'))
     have hq:∀(w:World),(binOp .neq 66 (.agg #[.int .i64 m.a,.int .i64 m.s,.int .i64 m.r,.int .i64 m.c,.int .i64 m.f,.int .i64 m.e,.int .i64 m.l]) (.agg #[.int .i64 m'.a,.int .i64 m'.s,.int .i64 m'.r,.int .i64 m'.c,.int .i64 m'.f,.int .i64 m'.e,.int .i64 m'.l])).run Tryz.prog w=.ok (.bool true) w:=fun w=>by
      have:=cneS_mi m m' w
      rwa [decide_eq_true hm] at this
     clear hx hx';go_wp2_with fail
     go_quiet (fail)
     have HP:=Lib.hid (HX.out.1.trans (ext_drewN wr nq |>.mono HX.out.1.size));go_wp2_with fail
     go_ret
     exact⟨by rw[HE.out];rfl,HP.out⟩
   ·obtain rfl:k=n:=by omega
    have HE:=Lib.hid (show D=true from by
     rw[<-HD.out];refine decide_eq_true (List.ext_getElem? fun j=>?_);rcases Nat.lt_or_ge j k with h|h
     ·exact HX.out.2 j h
     ·rw[List.getElem?_eq_none (by rw[HL.out.1];exact h),List.getElem?_eq_none (by rw[HL.out.2];exact h)])
    have HB:=Lib.hid HX.out.1;clear HX;go_wp2_with fail
    go_ret
    exact⟨by rw[HE.out];rfl,HB.out⟩
 ·have HE:decide (l=l')=false:=decide_eq_false fun e=>hnn (by rw[<-L1,<-L2,e])
  rw[HE];have hb0:((n:Int) != (n':Int))=true:=by rw[bne_iff_ne];omega
  clear h1 h2 L1 L2 HE
  go_enter Tryz.func39, Tryz.ntmps39
  go_wp2_with fail
  go_ret
  exact⟨rfl,Below.refl _ _⟩
set_option maxHeartbeats 3200000 in
set_option maxRecDepth 100000 in
theorem rsame_rc (A A':Option Addr) (n n' c c':Nat) (l l':List Rc) (w:World) (h1:Rd w w.heap.size 3 A n (flS l)) (h2:Rd w w.heap.size 3 A' n' (flS l')) (hn:n<=1000000) (hn':n'<=9223372036854775807) :
  Calls Tryz.prog 40 #[.slice A n c,.slice A' n' c'] w fun e w'=>e=.returned (.bool (decide (l=l')))/\Below w.heap.size w w':=by
 have mixed:Tryz.prog.follows .mixedOrders=true:=by kernel_rfl
 have L1:=rdS_len h1;have L2:=rdS_len h2;by_cases hnn:n=n'
 ·subst hnn
  have HR1:=Lib.hid h1;have HR2:=Lib.hid h2;have HL:=Lib.hid (And.intro L1 L2);have hb0:=(show((n:Int) != (n:Int))=false by simp)
  clear h1 h2 L1 L2;generalize hD:decide (l=l')=D;have HD:=Lib.hid hD;clear hD
  go_enter Tryz.func40, Tryz.ntmps40
  go_wp2_with fail
  go_loopw [5] (fun v wr=>∃k:Nat,v=.int .i64 k/\k<=n/\Hid (Below w.heap.size w wr/\ ∀j,j<k->l[j]? =l'[j]?)) (fun v _=>n-(intOf v).toNat)
  case atStart=>exact⟨0,by go_num,by omega,Lib.hid ⟨Below.refl _ _,fun j hj=>absurd hj (by omega)⟩⟩
  case round =>
   obtain⟨k,rfl,hk,HX⟩:=hrel;by_cases hkn:k<n
   ·obtain⟨ad,m,rfl,hbk,hx,e0,ej⟩:=sl_at (HR1.out.below HX.out.1) hkn
    obtain⟨ad',m',rfl,hbk',hx',g0,gj⟩:=sl_at (HR2.out.below HX.out.1) hkn;have i1:(0:Int)<=(k:Int):=by omega
    have i2:(k:Int)<(n:Int):=by omega
    have i3:IntKind.i64.wrap (k:Int)=(k:Int):=by rw[IntKind.wrap_i64];omega
    have c0:wr.cell? (ad.add (k*3))=some (.int .i64 m.1):=e0;have c1:wr.cell? ⟨(ad.add (k*3)).block,(ad.add (k*3)).off+1,none⟩=some (.int .i64 m.2.1):=ej 0 (by decide);have c2:wr.cell? ⟨(ad.add (k*3)).block,(ad.add (k*3)).off+2,none⟩=some (.string m.2.2):=ej 1 (by decide);have d0:wr.cell? (ad'.add (k*3))=some (.int .i64 m'.1):=g0;have d1:wr.cell? ⟨(ad'.add (k*3)).block,(ad'.add (k*3)).off+1,none⟩=some (.int .i64 m'.2.1):=gj 0 (by decide);have d2:wr.cell? ⟨(ad'.add (k*3)).block,(ad'.add (k*3)).off+2,none⟩=some (.string m'.2.2):=gj 1 (by decide);clear e0 ej g0 gj;by_cases hm:m=m'
    ·subst hm
     have HN:=Lib.hid (show ∀j,j<k+1->l[j]? =l'[j]? from fun j hj=>by
      rcases Nat.lt_or_ge j k with h|h
      ·exact HX.out.2 j h
      ·obtain rfl:j=k:=by omega
       rw[hx,hx'])
     clear hx hx';obtain⟨mq,mt,md⟩:=m;dsimp only at *
     have z1:(mq != mq)=false:=by simp
     have z2:(mt != mt)=false:=by simp
     have z3:=Sn.beqL md md (r:=true) (by simp);go_wp2_with fail
     go_quiet (fail)
     have HP:=Lib.hid (HX.out.1.trans (ext_drewN wr nq |>.mono HX.out.1.size));go_wp2_with fail
     go_roundw
     case rel=>exact⟨k+1,by go_num,by omega,Lib.hid ⟨HP.out,HN.out⟩⟩
     case measure=>simp[intOf];omega
    ·have HE:=Lib.hid (show D=false from by
      rw[<-HD.out];exact decide_eq_false fun e=>hm (by subst e;rw[hx] at hx';exact Option.some.inj hx'))
     obtain⟨mq,mt,md⟩:=m;obtain⟨mq',mt',md'⟩:=m';dsimp only at *
     clear hx hx';by_cases q1:mq=mq'
     case neg =>
      have z1:(mq != mq')=true:=by rw[bne_iff_ne];exact q1
      clear q1 hm;go_wp2_with fail
      go_quiet (fail)
      have HP:=Lib.hid (HX.out.1.trans (ext_drewN wr nq |>.mono HX.out.1.size));go_wp2_with fail
      go_ret
      exact⟨by rw[HE.out];rfl,HP.out⟩
     subst q1;by_cases q2:mt=mt'
     case neg =>
      have z1:(mq != mq)=false:=by simp
      have z2:(mt != mt')=true:=by rw[bne_iff_ne];exact q2
      clear q2 hm;go_wp2_with fail
      go_quiet (fail)
      have HP:=Lib.hid (HX.out.1.trans (ext_drewN wr nq |>.mono HX.out.1.size));go_wp2_with fail
      go_ret
      exact⟨by rw[HE.out];rfl,HP.out⟩
     subst q2;have z1:(mq != mq)=false:=by simp
     have z2:(mt != mt)=false:=by simp
     have z3:=Sn.beqL md md' (r:=false) (decide_eq_false fun e=>hm (by rw[e]));clear hm;go_wp2_with fail
     go_quiet (fail)
     have HP:=Lib.hid (HX.out.1.trans (ext_drewN wr nq |>.mono HX.out.1.size));go_wp2_with fail
     go_ret
     exact⟨by rw[HE.out];rfl,HP.out⟩
   ·obtain rfl:k=n:=by omega
    have HE:=Lib.hid (show D=true from by
     rw[<-HD.out];refine decide_eq_true (List.ext_getElem? fun j=>?_);rcases Nat.lt_or_ge j k with h|h
     ·exact HX.out.2 j h
     ·rw[List.getElem?_eq_none (by rw[HL.out.1];exact h),List.getElem?_eq_none (by rw[HL.out.2];exact h)])
    have HB:=Lib.hid HX.out.1;clear HX;go_wp2_with fail
    go_ret
    exact⟨by rw[HE.out];rfl,HB.out⟩
 ·have HE:decide (l=l')=false:=decide_eq_false fun e=>hnn (by rw[<-L1,<-L2,e])
  rw[HE];have hb0:((n:Int) != (n':Int))=true:=by rw[bne_iff_ne];omega
  clear h1 h2 L1 L2 HE
  go_enter Tryz.func40, Tryz.ntmps40
  go_wp2_with fail
  go_ret
  exact⟨rfl,Below.refl _ _⟩
set_option maxHeartbeats 3200000 in
set_option maxRecDepth 100000 in
theorem rsame_en (A A':Option Addr) (n n' c c':Nat) (l l':List En) (w:World) (h1:Rd w w.heap.size 9 A n (flS l)) (h2:Rd w w.heap.size 9 A' n' (flS l')) (hn:n<=1000000) (hn':n'<=9223372036854775807) :
  Calls Tryz.prog 15 #[.slice A n c,.slice A' n' c'] w fun e w'=>e=.returned (.bool (decide (l=l')))/\Below w.heap.size w w':=by
 have mixed:Tryz.prog.follows .mixedOrders=true:=by kernel_rfl
 have L1:=rdS_len h1;have L2:=rdS_len h2;by_cases hnn:n=n'
 ·subst hnn
  have HR1:=Lib.hid h1;have HR2:=Lib.hid h2;have HL:=Lib.hid (And.intro L1 L2);have hb0:=(show((n:Int) != (n:Int))=false by simp)
  clear h1 h2 L1 L2;generalize hD:decide (l=l')=D;have HD:=Lib.hid hD;clear hD
  go_enter Tryz.func15, Tryz.ntmps15
  go_wp2_with fail
  go_loopw [5] (fun v wr=>∃k:Nat,v=.int .i64 k/\k<=n/\Hid (Below w.heap.size w wr/\ ∀j,j<k->l[j]? =l'[j]?)) (fun v _=>n-(intOf v).toNat)
  case atStart=>exact⟨0,by go_num,by omega,Lib.hid ⟨Below.refl _ _,fun j hj=>absurd hj (by omega)⟩⟩
  case round =>
   obtain⟨k,rfl,hk,HX⟩:=hrel;by_cases hkn:k<n
   ·obtain⟨ad,m,rfl,hbk,hx,e0,ej⟩:=sl_at (HR1.out.below HX.out.1) hkn
    obtain⟨ad',m',rfl,hbk',hx',g0,gj⟩:=sl_at (HR2.out.below HX.out.1) hkn;have i1:(0:Int)<=(k:Int):=by omega
    have i2:(k:Int)<(n:Int):=by omega
    have i3:IntKind.i64.wrap (k:Int)=(k:Int):=by rw[IntKind.wrap_i64];omega
    have c0:wr.cell? (ad.add (k*9))=some (.int .i64 m.i):=e0;have c1:wr.cell? ⟨(ad.add (k*9)).block,(ad.add (k*9)).off+1,none⟩=some (.int .i64 m.g):=ej 0 (by decide);have c2:wr.cell? ⟨(ad.add (k*9)).block,(ad.add (k*9)).off+2,none⟩=some (.int .i64 m.f):=ej 1 (by decide);have c3:wr.cell? ⟨(ad.add (k*9)).block,(ad.add (k*9)).off+3,none⟩=some (.bool m.z):=ej 2 (by decide);have c4:wr.cell? ⟨(ad.add (k*9)).block,(ad.add (k*9)).off+4,none⟩=some (.int .i64 m.c):=ej 3 (by decide);have c5:wr.cell? ⟨(ad.add (k*9)).block,(ad.add (k*9)).off+5,none⟩=some (.int .i64 m.b):=ej 4 (by decide);have c6:wr.cell? ⟨(ad.add (k*9)).block,(ad.add (k*9)).off+6,none⟩=some (.int .i64 m.e):=ej 5 (by decide);have c7:wr.cell? ⟨(ad.add (k*9)).block,(ad.add (k*9)).off+7,none⟩=some (.int .i64 m.l):=ej 6 (by decide);have c8:wr.cell? ⟨(ad.add (k*9)).block,(ad.add (k*9)).off+8,none⟩=some (.int .i64 m.n):=ej 7 (by decide);have d0:wr.cell? (ad'.add (k*9))=some (.int .i64 m'.i):=g0;have d1:wr.cell? ⟨(ad'.add (k*9)).block,(ad'.add (k*9)).off+1,none⟩=some (.int .i64 m'.g):=gj 0 (by decide);have d2:wr.cell? ⟨(ad'.add (k*9)).block,(ad'.add (k*9)).off+2,none⟩=some (.int .i64 m'.f):=gj 1 (by decide);have d3:wr.cell? ⟨(ad'.add (k*9)).block,(ad'.add (k*9)).off+3,none⟩=some (.bool m'.z):=gj 2 (by decide);have d4:wr.cell? ⟨(ad'.add (k*9)).block,(ad'.add (k*9)).off+4,none⟩=some (.int .i64 m'.c):=gj 3 (by decide);have d5:wr.cell? ⟨(ad'.add (k*9)).block,(ad'.add (k*9)).off+5,none⟩=some (.int .i64 m'.b):=gj 4 (by decide);have d6:wr.cell? ⟨(ad'.add (k*9)).block,(ad'.add (k*9)).off+6,none⟩=some (.int .i64 m'.e):=gj 5 (by decide);have d7:wr.cell? ⟨(ad'.add (k*9)).block,(ad'.add (k*9)).off+7,none⟩=some (.int .i64 m'.l):=gj 6 (by decide);have d8:wr.cell? ⟨(ad'.add (k*9)).block,(ad'.add (k*9)).off+8,none⟩=some (.int .i64 m'.n):=gj 7 (by decide);clear e0 ej g0 gj;by_cases hm:m=m'
    ·subst hm
     have HN:=Lib.hid (show ∀j,j<k+1->l[j]? =l'[j]? from fun j hj=>by
      rcases Nat.lt_or_ge j k with h|h
      ·exact HX.out.2 j h
      ·obtain rfl:j=k:=by omega
       rw[hx,hx'])
     clear hx hx';go_wp2_with fail
     go_quiet (fail)
     have HP:=Lib.hid (HX.out.1.trans (ext_drewN wr nq |>.mono HX.out.1.size));go_wp2_with fail
     go_roundw
     case rel=>exact⟨k+1,by go_num,by omega,Lib.hid ⟨HP.out,HN.out⟩⟩
     case measure=>simp[intOf];omega
    ·have HE:=Lib.hid (show D=false from by
      rw[<-HD.out];exact decide_eq_false fun e=>hm (by subst e;rw[hx] at hx';exact Option.some.inj hx'))
     have hq:∀(w:World),(binOp .neq 48 (.agg #[.int .i64 m.i,.int .i64 m.g,.int .i64 m.f,.bool m.z,.int .i64 m.c,.int .i64 m.b,.int .i64 m.e,.int .i64 m.l,.int .i64 m.n]) (.agg #[.int .i64 m'.i,.int .i64 m'.g,.int .i64 m'.f,.bool m'.z,.int .i64 m'.c,.int .i64 m'.b,.int .i64 m'.e,.int .i64 m'.l,.int .i64 m'.n])).run Tryz.prog w=.ok (.bool true) w:=fun w=>by
      have:=cneS_en m m' w
      rwa [decide_eq_true hm] at this
     clear hx hx';go_wp2_with fail
     go_quiet (fail)
     have HP:=Lib.hid (HX.out.1.trans (ext_drewN wr nq |>.mono HX.out.1.size));go_wp2_with fail
     go_ret
     exact⟨by rw[HE.out];rfl,HP.out⟩
   ·obtain rfl:k=n:=by omega
    have HE:=Lib.hid (show D=true from by
     rw[<-HD.out];refine decide_eq_true (List.ext_getElem? fun j=>?_);rcases Nat.lt_or_ge j k with h|h
     ·exact HX.out.2 j h
     ·rw[List.getElem?_eq_none (by rw[HL.out.1];exact h),List.getElem?_eq_none (by rw[HL.out.2];exact h)])
    have HB:=Lib.hid HX.out.1;clear HX;go_wp2_with fail
    go_ret
    exact⟨by rw[HE.out];rfl,HB.out⟩
 ·have HE:decide (l=l')=false:=decide_eq_false fun e=>hnn (by rw[<-L1,<-L2,e])
  rw[HE];have hb0:((n:Int) != (n':Int))=true:=by rw[bne_iff_ne];omega
  clear h1 h2 L1 L2 HE
  go_enter Tryz.func15, Tryz.ntmps15
  go_wp2_with fail
  go_ret
  exact⟨rfl,Below.refl _ _⟩
end Op
end Go.Proofs.YtphfmgapiimliaaGreat
