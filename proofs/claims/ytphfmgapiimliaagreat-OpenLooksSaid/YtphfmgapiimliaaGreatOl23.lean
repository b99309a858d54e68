/- varveref21.End, Next. varveref24.Row, varveref25.Check. -/
import Derived.Test.YtphfmgapiimliaaGreatOl22
import Derived.Test.YtphfmgapiimliaaGreatOl20
import Derived.Test.YtphfmgapiimliaaGreatOl14
import Derived.Deep.LoopGhost
import Derived.Deep.Cut
namespace Go.Proofs.YtphfmgapiimliaaGreat
namespace Op
open Go.RowKit Hd Rd Vi Dk Rf Sn
theorem okBi_last {l:List Mi} {m:Mi} (ho:okBi l=true) (hg:l.getLast? =some m):okMi m=true:=by
 unfold okBi at ho;rw[Bool.and_eq_true] at ho;exact rowG_mem l none ho.2 m (List.mem_of_getLast? hg)
set_option maxHeartbeats 3200000 in
set_option maxRecDepth 100000 in
theorem r21end_no (A:Option Addr) (n c:Nat) (i g f:Nat) (l:List Mi) (w:World) (hh:1<=i/\i<=999999/\1<=g/\g<=999999/\1<=f/\f<=1000000000) (hrd:Rd w w.heap.size 7 A n (flS l)) (hn:n<=1000000) (ho:okBi l=false) :
  Calls Tryz.prog 26 #[.agg #[.int .i64 (i:Int),.int .i64 (g:Int),.int .i64 (f:Int)],.slice A n c] w fun e w'=>e=.returned (.tuple #[.int .i64 0,.int .i64 211])/\Below w.heap.size w w':=by
 have HP:=Lib.hid (fun w=>r21Put_yes i g f w hh);have HB:=Lib.hid (fun wx (hx:Below w.heap.size w wx)=>r21blocks_any A n c l wx ((hrd.below hx).more hx.size) hn);rw[bE_no ho] at HB;have B2:=ext_alloc w (.cells #[.int .i64 (i:Int),.int .i64 (g:Int),.int .i64 (f:Int)] 35);generalize hb i g f=H at *
 clear hrd ho hh
 go_enter Tryz.func26, Tryz.ntmps26
 go_wp2_with (first
  |(go_at_call 57;refine(HP.out _).mono ?_;rintro e1 w1 ⟨rfl,hb1⟩;have HW1:=Lib.hid (B2.trans (hb1.mono B2.size));clear hb1 B2)
  |(go_at_call 58;refine(HB.out _ HW1.out).mono ?_;rintro e2 w2 ⟨rfl,hb2⟩;have HW2:=Lib.hid (HW1.out.trans (hb2.mono HW1.out.size));clear hb2))
 go_ret2
 exact⟨rfl,HW2.out⟩
set_option maxHeartbeats 3200000 in
set_option maxRecDepth 100000 in
theorem r21end_yes (A:Option Addr) (n c:Nat) (i g f:Nat) (l:List Mi) (w:World) (hh:1<=i/\i<=999999/\1<=g/\g<=999999/\1<=f/\f<=1000000000) (hrd:Rd w w.heap.size 7 A n (flS l)) (hn:n<=100000) (ho:okBi l=true) :
  Calls Tryz.prog 26 #[.agg #[.int .i64 (i:Int),.int .i64 (g:Int),.int .i64 (f:Int)],.slice A n c] w fun e w'=>e=.returned (.tuple #[.int .i64 (endI ⟨i,g,f,false,0,0,0,0,0⟩ l),.int .i64 0])/\Below w.heap.size w w':=by
 have mixed:Tryz.prog.follows .mixedOrders=true:=by kernel_rfl
 obtain⟨hs1,hs2⟩:=hsz_of hh;have hl:=rdS_len hrd;have HP:=Lib.hid (fun w=>r21Put_yes i g f w hh);have HB:=Lib.hid (fun wx (hx:Below w.heap.size w wx)=>r21blocks_any A n c l wx ((hrd.below hx).more hx.size) (by omega));rw[bE_yes ho] at HB;have B2:=ext_alloc w (.cells #[.int .i64 (i:Int),.int .i64 (g:Int),.int .i64 (f:Int)] 35);unfold endI;rcases hg:l.getLast? with _|m
 ·have hl0:l=[]:=List.getLast?_eq_none_iff.1 hg
  subst hl0;simp only[List.length_nil] at hl;subst hl;dsimp only;have HZ:=Lib.hid hs1;have hz:((hb i g f).size:Int)<=1000:=by omega
  generalize hb i g f=H at *
  generalize hsz i g f=Z at *
  clear hrd ho hh hs1 hs2 hg
  go_enter Tryz.func26, Tryz.ntmps26
  go_wp2_with (first
   |(go_at_call 57;refine(HP.out _).mono ?_;rintro e1 w1 ⟨rfl,hb1⟩;have HW1:=Lib.hid (B2.trans (hb1.mono B2.size));clear hb1 B2)
   |(go_at_call 58;refine(HB.out _ HW1.out).mono ?_;rintro e2 w2 ⟨rfl,hb2⟩;have HW2:=Lib.hid (HW1.out.trans (hb2.mono HW1.out.size));clear hb2))
  go_ret2
  refine⟨?_,HW2.out⟩;rw[HZ.out]
  first
   |rfl
   |(simp[wrap64];omega)
 ·dsimp only
  have hn0:0<n:=by
   rcases l with _|⟨x,l⟩
   ·cases hg
   ·simp at hl;omega
  have hok:=(okMi_iff m).1 (okBi_last ho hg);obtain⟨j,hj⟩:∃j,n=j+1:=⟨n-1,by omega⟩
  obtain⟨ad,m',hA,hbk,hx,e0,ej⟩:=sl_at (k:=j) hrd (by omega);rw[List.getLast?_eq_getElem?,hl,hj,Nat.add_sub_cancel,hx] at hg;obtain rfl:=Option.some.inj hg;obtain⟨ma,ms,mr,mc,mf,me,ml⟩:=m';dsimp only at *
  have c0:w.cell? (ad.add (j*7))=some (.int .i64 ma):=e0;have c1:w.cell? ⟨(ad.add (j*7)).block,(ad.add (j*7)).off+1,none⟩=some (.int .i64 ms):=ej 0 (by decide);have HC:=Lib.hid (And.intro c0 c1);have HLT:=Lib.hid (show(ad.add (j*7)).block<w.heap.size from by rw[add_block];exact hbk);subst hA;have hw:IntKind.i64.wrap (ma+ms)=ma+ms:=by rw[IntKind.wrap_i64];omega
  have b0:((n:Int)==0)=false:=by rw[beq_eq_false_iff_ne];omega
  have b2:IntKind.i64.wrap ((n:Int)-1)=(j:Int):=by rw[IntKind.wrap_i64];omega
  have b3:(j:Int)<(n:Int):=by omega
  have b5:(0:Int)<=(j:Int):=by omega
  have HJ:=Lib.hid hj;generalize hb i g f=H at *
  clear hrd ho hh hs1 hs2 hok hl hx e0 ej c0 c1 hbk hj hg hn0
  go_enter Tryz.func26, Tryz.ntmps26
  go_wp2_with (first
   |(go_at_call 57;refine(HP.out _).mono ?_;rintro e1 w1 ⟨rfl,hb1⟩;have HW1:=Lib.hid (B2.trans (hb1.mono B2.size));clear hb1 B2)
   |(go_at_call 58;refine(HB.out _ HW1.out).mono ?_;rintro e2 w2 ⟨rfl,hb2⟩;have HW2:=Lib.hid (HW1.out.trans (hb2.mono HW1.out.size));have d0:=(HW2.out.cell HLT.out).trans HC.out.1;have d1:=(HW2.out.cell (p:=⟨(ad.add (j*7)).block,(ad.add (j*7)).off+1,none⟩) HLT.out).trans HC.out.2;clear hb2))
  go_quiet (fail)
  go_wp2_with fail
  go_ret2
  exact⟨by rw[<-hw];rfl,below_drewN HW2.out _⟩
set_option maxHeartbeats 3200000 in
set_option maxRecDepth 100000 in
theorem r21next_any (A:Option Addr) (n c:Nat) (i g f:Int) (l:List Mi) (w:World) (hrd:Rd w w.heap.size 7 A n (flS l)) (hn:n<=100000) (ho:okBi l=true) :
  Calls Tryz.prog 27 #[.agg #[.int .i64 i,.int .i64 g,.int .i64 f],.slice A n c] w fun e w'=>e=.returned (.int .i64 (nextI f l))/\Below w.heap.size w w':=by
 have mixed:Tryz.prog.follows .mixedOrders=true:=by kernel_rfl
 have hl:=rdS_len hrd;have HB:=Lib.hid (fun wx (hx:Below w.heap.size w wx)=>r21blocks_any A n c l wx ((hrd.below hx).more hx.size) (by omega));rw[bE_yes ho] at HB;have B2:=ext_alloc w (.cells #[.int .i64 i,.int .i64 g,.int .i64 f] 35);unfold nextI;rcases hg:l.getLast? with _|m
 ·have hl0:l=[]:=List.getLast?_eq_none_iff.1 hg
  subst hl0;simp only[List.length_nil] at hl;subst hl;dsimp only;clear hrd ho hg HB
  go_enter Tryz.func27, Tryz.ntmps27
  go_wp2_with fail
  go_ret
  exact⟨rfl,B2⟩
 ·dsimp only
  have hn0:0<n:=by
   rcases l with _|⟨x,l⟩
   ·cases hg
   ·simp at hl;omega
  have hok:=(okMi_iff m).1 (okBi_last ho hg);obtain⟨j,hj⟩:∃j,n=j+1:=⟨n-1,by omega⟩
  obtain⟨ad,m',hA,hbk,hx,e0,ej⟩:=sl_at (k:=j) hrd (by omega);rw[List.getLast?_eq_getElem?,hl,hj,Nat.add_sub_cancel,hx] at hg;obtain rfl:=Option.some.inj hg;obtain⟨ma,ms,mr,mc,mf,me,ml⟩:=m';dsimp only at *
  have c3:w.cell? ⟨(ad.add (j*7)).block,(ad.add (j*7)).off+3,none⟩=some (.int .i64 mc):=ej 2 (by decide);have c4:w.cell? ⟨(ad.add (j*7)).block,(ad.add (j*7)).off+4,none⟩=some (.int .i64 mf):=ej 3 (by decide);have HC:=Lib.hid (And.intro c3 c4);have HLT:=Lib.hid (show(ad.add (j*7)).block<w.heap.size from by rw[add_block];exact hbk);subst hA;have hw:IntKind.i64.wrap (mf+mc)=mf+mc:=by rw[IntKind.wrap_i64];omega
  have b0:((n:Int)==0)=false:=by rw[beq_eq_false_iff_ne];omega
  have b2:IntKind.i64.wrap ((n:Int)-1)=(j:Int):=by rw[IntKind.wrap_i64];omega
  have b3:(j:Int)<(n:Int):=by omega
  have b5:(0:Int)<=(j:Int):=by omega
  have HJ:=Lib.hid hj;clear hrd ho hok hl hx e0 ej c3 c4 hbk hj hg hn0
  go_enter Tryz.func27, Tryz.ntmps27
  go_wp2_with (go_at_call 58;refine(HB.out _ B2).mono ?_;rintro e2 w2 ⟨rfl,hb2⟩;have HW2:=Lib.hid (B2.trans (hb2.mono B2.size));have d3:=(HW2.out.cell (p:=⟨(ad.add (j*7)).block,(ad.add (j*7)).off+3,none⟩) HLT.out).trans HC.out.1;have d4:=(HW2.out.cell (p:=⟨(ad.add (j*7)).block,(ad.add (j*7)).off+4,none⟩) HLT.out).trans HC.out.2;clear hb2)
  go_quiet (fail)
  go_wp2_with fail
  go_ret
  exact⟨by rw[<-hw];rfl,below_drewN HW2.out _⟩
end Op
end Go.Proofs.YtphfmgapiimliaaGreat
namespace Go.Proofs.YtphfmgapiimliaaGreat
namespace Op
open Go.RowKit Hd Rd Dk
def fol2 (p x:En):Bool:=decide (p.i<x.i/\x.f=p.f+p.c)&&(!x.z||decide (p.l<=x.e))
theorem folE_eq (p x:En):folE p x=(p.z&&fol2 p x):=rfl
theorem okR_iff (l:List En):okR l=true↔(1<=l.length/\l.length<=100)/\ ∀(j:Nat) (r:En),l[j]? =some r->okE r=true/\r.z= !decide (j+1=l.length)/\ ∀p,0<j->l[j-1]? =some p->fol2 p r=true:=by
 unfold okR rowE;simp only[Bool.and_eq_true,decide_eq_true_eq,Bool.not_eq_true'];rw[rowG_iff]
 constructor
 ·rintro ⟨h1,h2,h3⟩
  refine⟨h1,fun j r hj=>⟨(h3 j r hj).1,?_,fun p hp hl=>?_⟩⟩
  ·have hjl:=(List.getElem?_eq_some_iff.1 hj).1
   by_cases e:j+1=l.length
   ·rw[decide_eq_true e]
    unfold lastZ at h2;rw[List.getLast?_eq_getElem?,show l.length-1=j from by omega,hj] at h2;exact h2
   ·rw[decide_eq_false e]
    obtain⟨x,hx⟩:∃x,l[j+1]? =some x:=⟨_,List.getElem?_eq_getElem (by omega)⟩
    have:=(h3 (j+1) x hx).2 r (by rw[if_neg (by omega),Nat.add_sub_cancel];exact hj);rw[folE_eq,Bool.and_eq_true] at this;exact this.1
  ·have:=(h3 j r hj).2 p (by rw[if_neg (by omega)];exact hl)
   rw[folE_eq,Bool.and_eq_true] at this;exact this.2
 ·rintro ⟨h1,h2⟩
  refine⟨h1,?_,fun j r hj=>⟨(h2 j r hj).1,fun p hp=>?_⟩⟩
  ·unfold lastZ
   rw[List.getLast?_eq_getElem?];obtain⟨x,hx⟩:∃x,l[l.length-1]? =some x:=⟨_,List.getElem?_eq_getElem (by omega)⟩
   rw[hx];have:=(h2 _ x hx).2.1;rw[decide_eq_true (by omega)] at this;exact this
  ·by_cases e:j=0
   ·rw[if_pos e] at hp;cases hp
   ·rw[if_neg e] at hp
    have hjl:=(List.getElem?_eq_some_iff.1 hj).1;have hz:=(h2 _ p hp).2.1;rw[decide_eq_false (by omega)] at hz;rw[folE_eq,hz,(h2 j r hj).2.2 p (by omega) hp];rfl
theorem zdec (z:Bool) {k n:Nat} (h: ¬ z= !decide (k+1=n)):z=decide ((k:Int)=(n:Int)-1):=by
 rw[show decide ((k:Int)=(n:Int)-1)=decide (k+1=n) from decide_eq_decide.2 (by omega)];generalize decide (k+1=n)=d at *
 revert h
 cases z<;>cases d<;>simp
set_option maxHeartbeats 64000000 in
set_option maxRecDepth 100000 in
theorem r24row_any (A:Option Addr) (n c:Nat) (l:List En) (w:World) (hrd:Rd w w.heap.size 9 A n (flS l)) (hn:n<=1000000) :
  Calls Tryz.prog 56 #[.slice A n c] w fun e w'=>e=.returned (.int .i64 (rE l))/\Below w.heap.size w w':=by
 have mixed:Tryz.prog.follows .mixedOrders=true:=by kernel_rfl
 have hln:=rdS_len hrd;by_cases h0:n=0
 ·subst h0
  have HE:=Lib.hid (rE_no (okR_len (l:=l) (by omega)));clear hrd hln hn
  go_enter Tryz.func56, Tryz.ntmps56
  go_wp2_with fail
  go_ret
  exact⟨by rw[HE.out];rfl,Below.refl _ _⟩
 by_cases hbig:100<n
 ·have HE:=Lib.hid (rE_no (okR_len (l:=l) (by omega)))
  have hb':(100:Int)<(n:Int):=by omega
  have hb2:((n:Int)==0)=false:=by rw[beq_eq_false_iff_ne];omega
  clear hrd hln hn h0 hbig
  go_enter Tryz.func56, Tryz.ntmps56
  go_wp2_with fail
  go_ret
  exact⟨by rw[HE.out];rfl,Below.refl _ _⟩
 have b1:((n:Int)==0)=false:=by rw[beq_eq_false_iff_ne];omega
 have b2: ¬ (100:Int)<(n:Int):=by omega
 have HLN:=Lib.hid hln;have HR:=Lib.hid hrd;have HN0:=Lib.hid h0;have hn1:n<=100:=by omega
 have HNO:=Lib.hid (show ∀(j:Nat) (r:En),l[j]? =some r-> ¬ (okE r=true/\r.z= !decide (j+1=l.length)/\ ∀p,0<j->l[j-1]? =some p->fol2 p r=true)->rE l=240 from fun j r hj hno=>rE_no (by
  rcases hok:okR l with _|_
  ·rfl
  ·exact absurd (((okR_iff l).1 hok).2 j r hj) hno))
 clear hrd hln h0 hbig hn
 go_enter Tryz.func56, Tryz.ntmps56
 go_wp2_with fail
 go_loopw [3] (fun v wr=>∃k:Nat,v=.int .i64 k/\k<=n/\Hid ((∀(j:Nat) (r:En),j<k->l[j]? =some r->okE r=true/\r.z= !decide (j+1=l.length)/\ ∀p,0<j->l[j-1]? =some p->fol2 p r=true)/\Below w.heap.size w wr)) (fun v _=>n-(intOf v).toNat)
 case atStart=>exact⟨0,by go_num,by omega,Lib.hid ⟨fun j r h=>absurd h (by omega),Below.refl _ _⟩⟩
 case round =>
  obtain⟨k,rfl,hk,HX⟩:=hrel;by_cases hkn:k<n
  ·obtain⟨ad,m,rfl,hbk,hx,e0,ej⟩:=sl_at (HR.out.below HX.out.2) hkn
   have i1:(0:Int)<=(k:Int):=by omega
   have i2:(k:Int)<(n:Int):=by omega
   have i3:IntKind.i64.wrap (k:Int)=(k:Int):=by rw[IntKind.wrap_i64];omega
   have i4:IntKind.i64.wrap ((n:Int)-1)=(n:Int)-1:=by rw[IntKind.wrap_i64];omega
   have c0:wr.cell? (ad.add (k*9))=some (.int .i64 m.i):=e0;have c1:wr.cell? ⟨(ad.add (k*9)).block,(ad.add (k*9)).off+1,none⟩=some (.int .i64 m.g):=ej 0 (by decide);have c2:wr.cell? ⟨(ad.add (k*9)).block,(ad.add (k*9)).off+2,none⟩=some (.int .i64 m.f):=ej 1 (by decide);have c3:wr.cell? ⟨(ad.add (k*9)).block,(ad.add (k*9)).off+3,none⟩=some (.bool m.z):=ej 2 (by decide);have c4:wr.cell? ⟨(ad.add (k*9)).block,(ad.add (k*9)).off+4,none⟩=some (.int .i64 m.c):=ej 3 (by decide);have c5:wr.cell? ⟨(ad.add (k*9)).block,(ad.add (k*9)).off+5,none⟩=some (.int .i64 m.b):=ej 4 (by decide);have c6:wr.cell? ⟨(ad.add (k*9)).block,(ad.add (k*9)).off+6,none⟩=some (.int .i64 m.e):=ej 5 (by decide);have c7:wr.cell? ⟨(ad.add (k*9)).block,(ad.add (k*9)).off+7,none⟩=some (.int .i64 m.l):=ej 6 (by decide);have c8:wr.cell? ⟨(ad.add (k*9)).block,(ad.add (k*9)).off+8,none⟩=some (.int .i64 m.n):=ej 7 (by decide);have HLT:=Lib.hid (show(ad.add (k*9)).block<wr.heap.size from by rw[add_block];exact Nat.lt_of_lt_of_le hbk HX.out.2.size);have HCS:=Lib.hid (And.intro c0 (And.intro c2 (And.intro c3 c6)));have HC:=Lib.hid (fun w=>r24c_any m w);unfold eE at HC;have HB:=Lib.hid HX.out.2;have HD1:=Lib.hid HX.out.1;clear HX e0 ej;rcases ho:okE m with _|_
   ·have HE:=Lib.hid (HNO.out k m hx (fun h=>by rw[ho] at h;cases h.1))
    rw[ho] at HC;obtain⟨mi,mg,mf,mz,mc,mb,me,ml,mn⟩:=m;unfold eagg at HC;dsimp only at *
    clear ho hx hbk;go_wp2_with (go_at_call 79;refine(HC.out _).mono ?_;rintro e1 w1 ⟨rfl,hb1⟩;have HB1:=Lib.hid (HB.out.trans (hb1.mono HB.out.size));clear hb1)
    go_ret
    exact⟨by rw[HE.out];rfl,HB1.out⟩
   rw[ho] at HC;by_cases hz:m.z= !decide (k+1=l.length)
   case neg =>
    have HE:=Lib.hid (HNO.out k m hx (fun h=>hz h.2.1));have hzz:=zdec m.z (n:=n) (k:=k) (by rw[<-HLN.out];exact hz);obtain⟨mi,mg,mf,mz,mc,mb,me,ml,mn⟩:=m;unfold eagg at HC;dsimp only at *
    have hl2:((k:Int)==(n:Int)-1)=mz:=by
     rw[hzz,Bool.eq_iff_iff,beq_iff_eq,decide_eq_true_eq]
    clear ho hx hbk hz hzz;go_wp2_with (go_at_call 79;refine(HC.out _).mono ?_;rintro e1 w1 ⟨rfl,hb1⟩;have HB1:=Lib.hid (HB.out.trans (hb1.mono HB.out.size));have d3:=(hb1.cell (p:=⟨(ad.add (k*9)).block,(ad.add (k*9)).off+3,none⟩) HLT.out).trans HCS.out.2.2.1;clear hb1 c0 c1 c2 c3 c4 c5 c6 c7 c8)
    go_ret
    exact⟨by rw[HE.out];rfl,HB1.out⟩
   have HOK:=Lib.hid (And.intro ho hz);have hl2:((k:Int)==(n:Int)-1)= !m.z:=by
    rw[hz,HLN.out,Bool.not_not,Bool.eq_iff_iff,beq_iff_eq,decide_eq_true_eq];omega
   have hzn:(m.z== !m.z)=false:=by cases m.z<;>rfl
   have HXM:=Lib.hid hx;obtain⟨mi,mg,mf,mz,mc,mb,me,ml,mn⟩:=m;unfold eagg at HC;dsimp only at *
   clear ho hz hx;go_upto_region 8 with (go_at_call 79;refine(HC.out _).mono ?_;rintro e1 w1 ⟨rfl,hb1⟩;have HB1:=Lib.hid (HB.out.trans (hb1.mono HB.out.size));have HT:=Lib.hid hb1;have d3:=(hb1.cell (p:=⟨(ad.add (k*9)).block,(ad.add (k*9)).off+3,none⟩) HLT.out).trans HCS.out.2.2.1;clear hb1 c0 c1 c2 c3 c4 c5 c6 c7 c8)
   clear d3 hl2 hzn HC;by_cases hk0:k=0
   ·have HN:=Lib.hid (show ∀(j:Nat) (r:En),j<k+1->l[j]? =some r->okE r=true/\r.z= !decide (j+1=l.length)/\ ∀p,0<j->l[j-1]? =some p->fol2 p r=true from fun j r hj hr=>by
     obtain rfl:j=k:=by omega
     rw[HXM.out] at hr;cases hr;exact⟨HOK.out.1,HOK.out.2,fun p h=>absurd h (by omega)⟩)
    have hk1:((k:Int)==0)=true:=by rw[hk0];rfl
    clear hk0 hbk;go_wp2_with fail
    go_roundw
    case rel=>exact⟨k+1,by go_num,by omega,Lib.hid ⟨HN.out,HB1.out⟩⟩
    case measure=>simp[intOf];omega
   obtain⟨j',hj'⟩:∃j,k=j+1:=⟨k-1,by omega⟩
   obtain⟨ad',p,hA',hbk',hxp,f0,fj⟩:=sl_at (k:=j') (HR.out.below HB1.out) (by omega);obtain rfl:ad=ad':=Option.some.inj hA';have p0:w1.cell? (ad.add (j'*9))=some (.int .i64 p.i):=f0;have p1:w1.cell? ⟨(ad.add (j'*9)).block,(ad.add (j'*9)).off+1,none⟩=some (.int .i64 p.g):=fj 0 (by decide);have p2:w1.cell? ⟨(ad.add (j'*9)).block,(ad.add (j'*9)).off+2,none⟩=some (.int .i64 p.f):=fj 1 (by decide);have p3:w1.cell? ⟨(ad.add (j'*9)).block,(ad.add (j'*9)).off+3,none⟩=some (.bool p.z):=fj 2 (by decide);have p4:w1.cell? ⟨(ad.add (j'*9)).block,(ad.add (j'*9)).off+4,none⟩=some (.int .i64 p.c):=fj 3 (by decide);have p5:w1.cell? ⟨(ad.add (j'*9)).block,(ad.add (j'*9)).off+5,none⟩=some (.int .i64 p.b):=fj 4 (by decide);have p6:w1.cell? ⟨(ad.add (j'*9)).block,(ad.add (j'*9)).off+6,none⟩=some (.int .i64 p.e):=fj 5 (by decide);have p7:w1.cell? ⟨(ad.add (j'*9)).block,(ad.add (j'*9)).off+7,none⟩=some (.int .i64 p.l):=fj 6 (by decide);have p8:w1.cell? ⟨(ad.add (j'*9)).block,(ad.add (j'*9)).off+8,none⟩=some (.int .i64 p.n):=fj 7 (by decide);have hop:=HD1.out j' p (by omega) hxp;have hk1:((k:Int)==0)=false:=by rw[beq_eq_false_iff_ne];omega
   have w1':IntKind.i64.wrap ((k:Int)-1)=(j':Int):=by rw[IntKind.wrap_i64];omega
   have i5:(0:Int)<=(j':Int):=by omega
   have i6:(j':Int)<(n:Int):=by omega
   have hbp:=okE_bd hop.1;have w2':IntKind.i64.wrap (p.f+p.c)=p.f+p.c:=by rw[IntKind.wrap_i64];omega
   have hxp':l[k-1]? =some p:=by rw[hj',Nat.add_sub_cancel];exact hxp
   have HBAD:=Lib.hid (fun(hb:fol2 p ⟨mi,mg,mf,mz,mc,mb,me,ml,mn⟩=false)=>HNO.out k _ HXM.out (fun h=>by
    have:=h.2.2 p (by omega) hxp';rw[hb] at this;cases this))
   have HGOOD:=Lib.hid (fun(hb:fol2 p ⟨mi,mg,mf,mz,mc,mb,me,ml,mn⟩=true)=>show ∀(j:Nat) (r:En),j<k+1->l[j]? =some r->okE r=true/\r.z= !decide (j+1=l.length)/\ ∀p,0<j->l[j-1]? =some p->fol2 p r=true from fun j r hj hr=>by
    rcases Nat.lt_or_ge j k with h|h
    ·exact HD1.out j r h hr
    ·obtain rfl:j=k:=by omega
     rw[HXM.out] at hr;cases hr;exact⟨HOK.out.1,HOK.out.2,fun p' _ hp'=>by rw[hxp'] at hp';cases hp';exact hb⟩)
   have HLK:=Lib.hid (show(ad.add (k*9)).block<w1.heap.size from Nat.lt_of_lt_of_le HLT.out HT.out.size);have HCD:=Lib.hid (And.intro ((HT.out.cell HLT.out).trans HCS.out.1) (And.intro ((HT.out.cell (p:=⟨(ad.add (k*9)).block,(ad.add (k*9)).off+2,none⟩) HLT.out).trans HCS.out.2.1) (And.intro ((HT.out.cell (p:=⟨(ad.add (k*9)).block,(ad.add (k*9)).off+3,none⟩) HLT.out).trans HCS.out.2.2.1) ((HT.out.cell (p:=⟨(ad.add (k*9)).block,(ad.add (k*9)).off+6,none⟩) HLT.out).trans HCS.out.2.2.2))));obtain⟨pi_,pg_,pf_,pz_,pc_,pb_,pe_,pl_,pn_⟩:=p;unfold fol2 at HBAD HGOOD;dsimp only at *
   have HJ:=Lib.hid hj';have HW2:=Lib.hid w2';clear hxp hxp' hop hbp hbk hbk' f0 fj hk0 hA' hj' HCS HT w2';go_upto_region 10 with (fail)
   clear p0 p1 p2 p3 p4 p5 p6 p7 p8 hk1 w1' i5 i6;have HB2:=Lib.hid (HB1.out.trans ((ext_alloc w1 (.cells #[.int .i64 pi_,.int .i64 pg_,.int .i64 pf_,.bool pz_,.int .i64 pc_,.int .i64 pb_,.int .i64 pe_,.int .i64 pl_,.int .i64 pn_] 48)).mono HB1.out.size));have HBP:=Lib.hid (Blk.new w1 #[.int .i64 pi_,.int .i64 pg_,.int .i64 pf_,.bool pz_,.int .i64 pc_,.int .i64 pb_,.int .i64 pe_,.int .i64 pl_,.int .i64 pn_] 48);have s0:=(World.cell?_alloc_lt w1 (.cells #[.int .i64 pi_,.int .i64 pg_,.int .i64 pf_,.bool pz_,.int .i64 pc_,.int .i64 pb_,.int .i64 pe_,.int .i64 pl_,.int .i64 pn_] 48) _ HLK.out).trans HCD.out.1;have s2:=(World.cell?_alloc_lt w1 (.cells #[.int .i64 pi_,.int .i64 pg_,.int .i64 pf_,.bool pz_,.int .i64 pc_,.int .i64 pb_,.int .i64 pe_,.int .i64 pl_,.int .i64 pn_] 48) ⟨(ad.add (k*9)).block,(ad.add (k*9)).off+2,none⟩ HLK.out).trans HCD.out.2.1;have s3:=(World.cell?_alloc_lt w1 (.cells #[.int .i64 pi_,.int .i64 pg_,.int .i64 pf_,.bool pz_,.int .i64 pc_,.int .i64 pb_,.int .i64 pe_,.int .i64 pl_,.int .i64 pn_] 48) ⟨(ad.add (k*9)).block,(ad.add (k*9)).off+3,none⟩ HLK.out).trans HCD.out.2.2.1;have s6:=(World.cell?_alloc_lt w1 (.cells #[.int .i64 pi_,.int .i64 pg_,.int .i64 pf_,.bool pz_,.int .i64 pc_,.int .i64 pb_,.int .i64 pe_,.int .i64 pl_,.int .i64 pn_] 48) ⟨(ad.add (k*9)).block,(ad.add (k*9)).off+6,none⟩ HLK.out).trans HCD.out.2.2.2;have k0:=HBP.out.cell 0 (v:=.int .i64 pi_) rfl;have k2:=HBP.out.cell 2 (v:=.int .i64 pf_) rfl;have k4:=HBP.out.cell 4 (v:=.int .i64 pc_) rfl;have k7:=HBP.out.cell 7 (v:=.int .i64 pl_) rfl;clear HBP HCD HLK HB1 HLT;generalize w1.alloc (.cells #[.int .i64 pi_,.int .i64 pg_,.int .i64 pf_,.bool pz_,.int .i64 pc_,.int .i64 pb_,.int .i64 pe_,.int .i64 pl_,.int .i64 pn_] 48)=w5 at *
   generalize w1.heap.size=bp at *
   have w2':=HW2.out;by_cases t1:mi<=pi_
   ·have HE:=Lib.hid (HBAD.out (by rw[decide_eq_false (by omega)];rfl))
    clear HBAD HGOOD s2 s3 s6 k2 k4 k7;go_quiet (fail)
    go_wp2_with fail
    go_ret
    exact⟨by rw[HE.out];rfl,below_drewN HB2.out _⟩
   by_cases t2:mf=pf_+pc_
   case neg =>
    have HE:=Lib.hid (HBAD.out (by rw[decide_eq_false (by omega)];rfl));have t2':(mf != pf_+pc_)=true:=by rw[bne_iff_ne];exact t2
    clear HBAD HGOOD s3 s6 k7 t2;go_quiet (fail)
    go_wp2_with fail
    go_ret
    exact⟨by rw[HE.out];rfl,below_drewN HB2.out _⟩
   have t2':(mf != pf_+pc_)=false:=by rw[t2];simp
   have T2:=Lib.hid t2;clear t2;rcases mz with _|_
   ·have HN:=Lib.hid (HGOOD.out (by rw[decide_eq_true ⟨by omega,T2.out⟩];rfl))
    clear HBAD HGOOD s6 k7;go_quiet (fail)
    go_wp2_with fail
    go_roundw
    case rel=>exact⟨k+1,by go_num,by omega,Lib.hid ⟨HN.out,below_drewN HB2.out _⟩⟩
    case measure=>simp[intOf];omega
   by_cases t3:me<pl_
   ·have HE:=Lib.hid (HBAD.out (by rw[decide_eq_true ⟨by omega,T2.out⟩,decide_eq_false (by omega)];rfl))
    clear HBAD HGOOD;go_quiet (fail)
    go_wp2_with fail
    go_ret
    exact⟨by rw[HE.out];rfl,below_drewN HB2.out _⟩
   ·have HN:=Lib.hid (HGOOD.out (by rw[decide_eq_true ⟨by omega,T2.out⟩,decide_eq_true (by omega)];rfl))
    clear HBAD HGOOD;go_quiet (fail)
    go_wp2_with fail
    go_roundw
    case rel=>exact⟨k+1,by go_num,by omega,Lib.hid ⟨HN.out,below_drewN HB2.out _⟩⟩
    case measure=>simp[intOf];omega
  ·obtain rfl:n=k:=by omega
   have HE:=Lib.hid (show rE l=0 from rE_yes ((okR_iff l).2 ⟨by have:=HLN.out;have:=HN0.out;omega,fun j r hj=>HX.out.1 j r (by rw[<-HLN.out];exact(List.getElem?_eq_some_iff.1 hj).1) hj⟩));have HB:=Lib.hid HX.out.2;clear HX;go_wp2_with fail
   go_ret
   exact⟨by rw[HE.out];rfl,HB.out⟩
end Op
end Go.Proofs.YtphfmgapiimliaaGreat
