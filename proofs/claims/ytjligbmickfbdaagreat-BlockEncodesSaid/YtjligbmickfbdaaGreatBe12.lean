/- suffix.Array. -/
import Derived.Test.YtjligbmickfbdaaGreatBe11
namespace Go.Proofs.YtjligbmickfbdaaGreat
namespace Sx
open Go.RowKit
set_option maxHeartbeats 6400000 in
set_option maxRecDepth 100000 in
theorem array_any (s:ByteArray) (w:World) (hs:s.size<=20000) :
  Calls Tryz.prog 50 #[.string s] w fun e w'=>∃v arr,e=.returned (.tuple #[v,.int .i64 0])/\Sorted s.data.toList arr/\Own w' w.heap.size v (ints arr)/\Below w.heap.size w w':=by
 have mixed:Tryz.prog.follows .mixedOrders=true:=by kernel_rfl
 have e115:∀args w,(callFunc 97 args).run Tryz.prog w=.ok (.enter 97 args) w:=enters_of Tryz.func97 (by kernel_rfl) rfl;have hsl:s.data.toList.length=s.size:=rfl;obtain⟨w0,hw0⟩:∃w0,w0=w.alloc (Obj.cells #[.string s] 9):=⟨_,rfl⟩
 have hs0:w0.heap.size=w.heap.size+1:=by rw[hw0];simp
 have v1:Var w0 w.heap.size 9 (.string s):=by rw[hw0];exact Var.new w _ _
 have hb0:Below w.heap.size w w0:=by rw[hw0];exact(Below.refl _ _).alloc (Nat.le_refl _) _
 have hk:∀w',Below w0.heap.size w0 w'-> ∀p,p<=s.size->Calls Tryz.prog 97 (#[.int .i64 (p:Int)]++ #[.pointer (some ⟨w.heap.size,0,none⟩)]) w' fun e w''=>e=.returned (.int .i64 (tl s.data.toList p:Int))/\w'=w'':=by
  intro w' hb p hp;exact letter_any w.heap.size s w' (v1.below hb (by omega)) p hp (by omega)
 obtain⟨n,hn⟩:∃n,n=s.size:=⟨_,rfl⟩
 obtain⟨X,hX⟩:∃X,X=ctd 257 (tl s.data.toList) (List.range (n+1)):=⟨_,rfl⟩
 have hXp:X.Perm (List.range (n+1)):=by rw[hX];exact ctd_perm _ _ _ (fun x _=>by have:=tl_le s.data.toList x;omega)
 have C1:∀wx v,Below w0.heap.size w0 wx->Own wx w.heap.size v (ints (List.range (n+1)))->Calls Tryz.prog 98 #[v,.int .i64 256,.func (.func 97) #[] #[.pointer (some ⟨w.heap.size,0,none⟩)]] wx fun e w' =>
   ∃v,e=.returned v/\Own w' w.heap.size v (ints X)/\Below w0.heap.size w0 w':=by
  intro wx v hb ho;obtain⟨A,c,rfl,_,_,hr⟩:=ho.rd;have hlen:(ints (List.range (n+1))).length=n+1:=by rw[length_ints,List.length_range]
  rw[hlen] at hr ⊢;have:=counted_any A (n+1) c 256 (List.range (n+1)) (tl s.data.toList) 97 _ wx (by omega) (by omega) hr (fun p _=>by have:=tl_le s.data.toList p;omega) (fun p hp=>by have:=List.mem_range.1 hp;omega) e115 (fun p hp w' hb'=>hk w' (ext_trans hb hb') p (by have:=List.mem_range.1 hp;omega));refine this.mono ?_;rintro e w' ⟨v,he,ho,hb'⟩;rw[<-hX] at ho;exact⟨v,he,ho.lower (by have:=hb.size;omega),ext_trans hb hb'⟩
 have hwn:IntKind.i64.wrap ((n:Int)+1)=((n+1:Nat):Int):=by rw[IntKind.wrap_i64];omega
 have HW0:=Lib.hid hw0;have HZ0:=Lib.hid hs0;have HB0:=Lib.hid hb0;have HK:=Lib.hid hk;have HC1:=Lib.hid C1;have HX:=Lib.hid hX;have HXp:=Lib.hid hXp;have hnb:n<=20000:=by omega
 have HV1:=Lib.hid v1;have hc1:=v1.cell;have HN:=Lib.hid hn;clear hw0 hs0 hb0 hk C1 hX hXp v1 hwn
 go_enter Tryz.func50, Tryz.ntmps50
 go_wp2_with fail
 rw[<-HW0.out];have hup:=upto_any (n+1) w0 (by omega);rw[show((n+1:Nat):Int)=(s.size:Int)+1 by have:=HN.out;omega] at hup;refine hup.mono ?_;rintro e1 w1 ⟨v1,rfl,hown1,hb1⟩;clear hup;go_wp2_with fail
 refine(HC1.out w1 v1 hb1 (hown1.lower HB0.out.size)).mono ?_;rintro e2 w2 ⟨v2,rfl,hown2,hb2⟩;clear hown1 hb1 hc1;have hXl:X.length=n+1:=by rw[HXp.out.length_eq,List.length_range]
 obtain⟨A,c,rfl,_,_,hr⟩:=hown2.rd;obtain⟨gA,rfl,_,_⟩:=hown2.form0 (by rw[length_ints,hXl];omega);have hlen:(ints X).length=n+1:=by rw[length_ints,hXl]
 rw[hlen] at hr;have HO2:Aside (Own w2 w.heap.size (.slice (some ⟨gA,0,none⟩) (ints X).length c) (ints X)):=hown2;have HB2:Aside (Below w0.heap.size w0 w2/\Below w.heap.size w w2):=⟨hb2,ext_trans HB0.out hb2⟩
 have HRd:Aside (Rd w2 w2.heap.size 1 (some ⟨gA,0,none⟩) (n+1) ((ints X).map (Value.int .i64))):=hr;have hX2:∀p∈X,p<n+1:=fun p hp=>List.mem_range.1 (HXp.out.mem_iff.1 hp)
 have HX2:=Lib.hid hX2;have HXl:=Lib.hid hXl;rw[hlen];obtain⟨N,hNN⟩:∃N,N=n+1:=⟨_,rfl⟩
 have HMI:Hid ((s.size:Int)+1=(N:Int)):=(by have:=HN.out;omega:(s.size:Int)+1=(N:Int))
 have HNN:=Lib.hid hNN;have hNb:N<=20001:=by omega
 have hN0:0<N:=by omega
 have hsb:s.size<=20000:=hs;rw[<-hNN];rw[<-hNN] at HRd HX2 HXl;clear hown2 hb2 hr hX2 hXl hlen hNN;rw[HMI.out];go_wp2_with (at_make;(refine make1 (n:=N) (by omega) (Nat.le_refl w2.heap.size) ?_);intro w3 hown3 hg3)
 have hb3:Below w2.heap.size w2 w3:=(Below.refl _ _).grown hg3 (Nat.le_refl _) (by simp);have H0:Aside (Own w3 w2.heap.size (.slice (some ⟨w2.heap.size,0,none⟩) N N) (ints (nx (difL s.data.toList) X N 0))/\Below w2.heap.size w2 w3):=⟨by rw[nx,ints_rep];exact hown3,hb3⟩
 clear hown3 hg3 hb3;go_loopg [8] N (fun kx s8 wr=>∃(j:Nat),s8=.int .i64 ((j+1:Nat):Int)/\j+1<=N/\N-j<=kx/\Aside (Own wr w2.heap.size (.slice (some ⟨w2.heap.size,0,none⟩) N N) (ints (nx (difL s.data.toList) X N j))/\Below w2.heap.size w2 wr))
 case atStart=>exact⟨0,rfl,by omega,by omega,H0.out⟩
 case round =>
  clear H0;obtain⟨j,rfl,hj,hjx,H⟩:=hrel;by_cases hlt:j+1<N
  ·obtain⟨hown,hb⟩:=H.out
   have hrd:=HRd.out.below hb;obtain⟨ad,x,e1,had,hx,hcell1⟩:=hrd.int1 (k:=j) (by omega);obtain⟨ad2,x2,e2,had2,hx2,hcell2⟩:=hrd.int1 (k:=j+1) (by omega);cases e2
   cases e1
   rw[Addr.add_lit,Nat.zero_add] at hcell1 hcell2;rw[ints_at X j (by have:=HXl.out;omega),Option.some.injEq] at hx;rw[ints_at X (j+1) (by have:=HXl.out;omega),Option.some.injEq] at hx2;subst hx;subst hx2;have ha:X.getD j 0<N:=HX2.out _ (by rw[List.getD_eq_getElem?_getD,List.getElem?_eq_getElem (by have:=HXl.out;omega)];exact List.getElem_mem _);have hbn:X.getD (j+1) 0<N:=HX2.out _ (by rw[List.getD_eq_getElem?_getD,List.getElem?_eq_getElem (by have:=HXl.out;omega)];exact List.getElem_mem _);have hstep:nx (difL s.data.toList) X N (j+1)=(nx (difL s.data.toList) X N j).set (X.getD (j+1) 0) ((nx (difL s.data.toList) X N j).getD (X.getD j 0) 0+if difL s.data.toList (X.getD j 0) (X.getD (j+1) 0)=true then 1 else 0):=rfl;generalize X.getD j 0=a at *
   generalize X.getD (j+1) 0=b at *
   have hDv:difL s.data.toList a b=(tl s.data.toList a != tl s.data.toList b):=rfl;generalize difL s.data.toList=D at *
   have hc:=hown.cell (k:=a) (x:=(((nx D X N j).getD a 0:Nat):Int)) (ints_at _ _ (by rw[length_nx];exact ha));have hf:=hown.frozen (k:=b);have hyb:=nx_le D X N j a;generalize (nx D X N j).getD a 0=y at *
   have hcb:=hown.cell (k:=b) (x:=(((nx D X N j).getD b 0:Nat):Int)) (ints_at _ _ (by rw[length_nx];exact hbn));generalize (nx D X N j).getD b 0=yb at hcb;have hbw:∀n,Below w0.heap.size w0 ((wr.setCell ⟨w2.heap.size,b,none⟩ (.int .i64 (y:Int))).drewN (1+n)):=fun n=>below_drewN ((ext_trans HB2.out.1 hb).setCell (p:=⟨w2.heap.size,b,none⟩) HB2.out.1.size _) (1+n)
   have HN1:=Own.put2 (k:=b) ⟨hown,hb⟩ (y:Int);have HN2:=Own.put2 (k:=b) HN1 ((y+1:Nat):Int);have es:((ints (nx D X N j)).set b (y:Int)).set b ((y+1:Nat):Int)=ints ((nx D X N j).set b (y+1)):=by rw[List.set_set,ints_set]
   rw[es] at HN2;rw[ints_set] at HN1;have hA1:=fun n=>HK.out _ (hbw n) a (by have:=HNN.out;have:=HN.out;omega)
   have hA2:=fun n=>HK.out _ (hbw n) b (by have:=HNN.out;have:=HN.out;omega)
   generalize tl s.data.toList a=fa at *
   generalize tl s.data.toList b=fb at *
   have hgne:∀k,(⟨w2.heap.size,b,none⟩:Addr)≠⟨gA,k,none⟩:=fun k e=>by
    have h0:w2.heap.size=gA:=by injection e
    have:gA<w2.heap.size:=had;omega
   have hcell3:(wr.setCell ⟨w2.heap.size,b,none⟩ (.int .i64 (y:Int))).cell? ⟨gA,j,none⟩=some (.int .i64 (a:Int)):=(World.cell?_setCell_other _ _ _ _ (hgne j)).trans hcell1;have hcell4:(wr.setCell ⟨w2.heap.size,b,none⟩ (.int .i64 (y:Int))).cell? ⟨gA,j+1,none⟩=some (.int .i64 (b:Int)):=(World.cell?_setCell_other _ _ _ _ (hgne (j+1))).trans hcell2;clear hgne;have p1:(0:Int)<=(j:Int)+1:=by omega
   have p2:(j:Int)+1<(N:Int):=by omega
   have p3:((j:Int)+1).toNat=j+1:=by omega
   have p4:IntKind.i64.wrap ((j:Int)+1-1)=(j:Int):=by rw[IntKind.wrap_i64];omega
   have p5:(0:Int)<=(j:Int):=by omega
   have p6:(j:Int)<(N:Int):=by omega
   have HA1:=Lib.hid hA1;have HA2:=Lib.hid hA2;by_cases h1:fa=fb
   ·have hd:D a b=false:=by rw[hDv,h1];simp
    rw[hd] at hstep;have HNX:Aside (Own (wr.setCell ⟨w2.heap.size,b,none⟩ (.int .i64 (y:Int))) w2.heap.size (.slice (some ⟨w2.heap.size,0,none⟩) N N) (ints (nx D X N (j+1)))/\Below w2.heap.size w2 (wr.setCell ⟨w2.heap.size,b,none⟩ (.int .i64 (y:Int)))):=by
     rw[hstep];exact HN1
    subst h1;clear hstep hrd HN1 HN2 es hDv hd hown hb H hbw hA1 hA2;go_wp2_with fail
    go_region
    go_wp2_with fail
    have tok:True:=trivial;go_quiet (first|(go_at_call_of 97 ((b:Nat):Int);exact(HA2.out _).mono fun _ _ h=>⟨h.1,_,h.2.symm⟩)|(go_at_call_of 97 ((a:Nat):Int);exact(HA1.out _).mono fun _ _ h=>⟨h.1,_,h.2.symm⟩))
    go_wp2_with fail
    go_roundg (N-(j+1))
    case measure=>omega
    case rel=>exact⟨j+1,by go_num,by omega,by omega,by first|exact HNX.out|exact⟨HNX.out.1,HNX.out.2.drew⟩|exact⟨HNX.out.1,below_drewN HNX.out.2 _⟩⟩
   ·have hd:D a b=true:=by rw[hDv,bne_iff_ne.2 h1]
    rw[hd,if_pos rfl] at hstep;rw[<-hstep] at HN2;have HNX:Aside _:=HN2;have b2:((fb:Int) != (fa:Int))=true:=by rw[bne_iff_ne];omega
    have b2':((fb:Int)==(fa:Int))=false:=by rw[beq_eq_false_iff_ne];omega
    clear hstep hrd HN1 HN2 es hDv hd hown hb H hbw hA1 hA2;go_wp2_with fail
    go_region
    go_wp2_with fail
    go_quiet (first|(go_at_call_of 97 ((b:Nat):Int);exact(HA2.out _).mono fun _ _ h=>⟨h.1,_,h.2.symm⟩)|(go_at_call_of 97 ((a:Nat):Int);exact(HA1.out _).mono fun _ _ h=>⟨h.1,_,h.2.symm⟩))
    go_wp2_with fail
    go_roundg (N-(j+1))
    case measure=>omega
    case rel=>exact⟨j+1,by go_num,by omega,by omega,by first|exact HNX.out|exact⟨HNX.out.1,HNX.out.2.drew⟩|exact⟨HNX.out.1,below_drewN HNX.out.2 _⟩⟩
  ·obtain⟨M,rfl⟩:∃M,N=M+1:=⟨N-1,by omega⟩
   have hjN:j=M:=by omega
   subst hjN;have hjn:j=n:=by have:=HNN.out;omega
   obtain⟨hown,hb⟩:=H.out;have hrd:=HRd.out.below hb;obtain⟨ad,x,e1,had,hx,hcell1⟩:=hrd.int1 (k:=j) (by omega);cases e1
   rw[Addr.add_lit,Nat.zero_add] at hcell1;rw[ints_at X j (by have:=HXl.out;omega),Option.some.injEq] at hx;subst hx;have ha:X.getD j 0<j+1:=HX2.out _ (by rw[List.getD_eq_getElem?_getD,List.getElem?_eq_getElem (by have:=HXl.out;omega)];exact List.getElem_mem _);have hst:=stt_first s.data.toList;have hls:s.data.toList.length=n:=HN.out.symm;rw[hls,<-HX.out,<-hjn] at hst;generalize difL s.data.toList=D at *
   have hc:=hown.cell (k:=X.getD j 0) (x:=(((nx D X (j+1) j).getD (X.getD j 0) 0:Nat):Int)) (ints_at _ _ (by rw[length_nx];exact ha));have hqb:=nx_le D X (j+1) j (X.getD j 0);have hv1:Own wr w.heap.size (.slice (some ⟨gA,0,none⟩) (j+1) c) (ints X):=by
    have:=HO2.out.below hb (Nat.le_refl _)
    rwa [show(ints X).length=j+1 by rw[length_ints,HXl.out]] at this
   have hv2:Own wr w.heap.size (.slice (some ⟨w2.heap.size,0,none⟩) (j+1) (j+1)) (ints (nx D X (j+1) j)):=hown.lower HB2.out.2.size;have hbN:Below w0.heap.size w0 wr:=ext_trans HB2.out.1 hb;obtain⟨p,hp⟩:∃p,p=X.getD j 0:=⟨_,rfl⟩
   rw[<-hp] at hc hcell1 hqb ha;obtain⟨q,hq⟩:∃q,q=(nx D X (j+1) j).getD p 0:=⟨_,rfl⟩
   rw[<-hq] at hc hqb;have HQ:Hid (q=(nx D X (j+1) j).getD (X.getD j 0) 0):=(by rw[hq,hp]:q=(nx D X (j+1) j).getD (X.getD j 0) 0)
   have hbq:((q:Int)==(j:Int))=decide (q=j):=by
    by_cases hq:q=j
    ·subst hq;simp
    ·rw[decide_eq_false hq,beq_eq_false_iff_ne];omega
   obtain⟨R0,hR0⟩:∃R0,R0=nx D X (j+1) j:=⟨_,rfl⟩
   rw[<-hR0] at hv2 hst;have HST:Aside (Stt s.data.toList 1 X R0/\Own wr w.heap.size (.slice (some ⟨gA,0,none⟩) (j+1) c) (ints X)/\Own wr w.heap.size (.slice (some ⟨w2.heap.size,0,none⟩) (j+1) (j+1)) (ints R0)/\Below w0.heap.size w0 wr/\q=R0.getD (X.getD j 0) 0):=⟨hst,hv1,hv2,hbN,by rw[hR0];exact HQ.out⟩
   have HLS:=Lib.hid hls;have HJN:=Lib.hid hjn;clear hown hb hrd hbN hv1 hv2 H hp hq hst hR0 hls hjn;go_wp2_with fail
   clear hc hcell1 hqb ha;go_loopg [6,7,9,10] (j+2) (fun kx s6 s7 s9 s10 wr=>∃(L:Nat) (arr R:List Nat) (A1 A2:Option Addr) (c1 c2:Nat) (dn:Bool),s6=.slice A1 (j+1) c1/\s7=.slice A2 (j+1) c2/\s9=.bool dn/\s10=.int .i64 (L:Int)/\1<=L/\L<=50000/\j+1-L<=kx /\
    Aside (Stt s.data.toList L arr R/\Own wr w.heap.size (.slice A1 (j+1) c1) (ints arr)/\Own wr w.heap.size (.slice A2 (j+1) c2) (ints R)/\Below w0.heap.size w0 wr/\dn=decide (R.getD (arr.getD j 0) 0=j)))
   case atStart=>exact⟨1,X,R0,_,_,_,_,_,rfl,rfl,rfl,rfl,by omega,by omega,by omega,HST.out.1,HST.out.2.1,HST.out.2.2.1,HST.out.2.2.2.1,by rw[<-HST.out.2.2.2.2]⟩
   case round =>
    clear HST;obtain⟨L,arr,R,A1,A2,c1,c2,dn,rfl,rfl,rfl,rfl,hL1,hL2,hLk,H⟩:=hrel;obtain⟨hst,hv1,hv2,hb,hdn⟩:=H.out;have hsl:s.data.toList.length=j:=by rw[HLS.out,HJN.out]
    have hbw:Below w.heap.size w wr:=ext_trans HB0.out hb;cases dn
    ·have hLj:L<=j:=by
      rcases Nat.lt_or_ge j L with hlt|hge
      ·have:=stt_far hst (by omega)
       rw[hsl] at this;rw[decide_eq_true this] at hdn;simp at hdn
      ·exact hge
     have hal:arr.length=j+1:=by rw[hst.rank.perm.length_eq,List.length_range,hsl]
     have hRl:R.length=j+1:=by rw[hst.len,hsl]
     have hr1:=hv1.rd0.1;have hr2:=hv2.rd0.1;rw[length_ints,hal] at hr1;rw[length_ints,hRl] at hr2;have hdb:=doubled_any A1 c1 arr A2 c2 (j+1) L R wr (by omega) hNb (by omega) hr1 hr2 (fun p hp=>by have:=List.mem_range.1 (hst.rank.perm.mem_iff.1 hp);omega) (fun p hp=>by
      obtain⟨i,hi,rfl⟩:=List.mem_iff_getElem.1 hp;have:=hst.le i;rw[getD_lt _ _ hi] at this;omega)
     have hst2:=stt_step hst;rw[hsl] at hst2;have HS2:Aside (Stt s.data.toList (L+L) (arr2 L (j+1) R arr) (nx (dif L (j+1) R) (arr2 L (j+1) R arr) (j+1) j)):=hst2;have HBB:Aside (Below w0.heap.size w0 wr/\w.heap.size<=wr.heap.size):=⟨hb,hbw.size⟩
     rw[Nat.add_sub_cancel] at hdb;have hln1:(ints (arr2 L (j+1) R arr)).length=j+1:=by rw[length_ints,hst2.rank.perm.length_eq,List.length_range,hsl]
     have hln2:(ints (nx (dif L (j+1) R) (arr2 L (j+1) R arr) (j+1) j)).length=j+1:=by rw[length_ints,length_nx]
     generalize arr2 L (j+1) R arr=arr' at *
     generalize nx (dif L (j+1) R) arr' (j+1) j=R' at *
     have HD:=Lib.hid hdb;clear hst hv1 hv2 hb hdn H hbw hr1 hr2 hst2 hdb hal hRl;go_wp2_with fail
     refine HD.out.mono ?_;rintro e4 w4 ⟨v1,v2,rfl,ho1,ho2,hb4⟩;obtain⟨A1',c1',rfl,_,_,_⟩:=ho1.rd;obtain⟨A2',c2',rfl,_,_,_⟩:=ho2.rd;rw[hln1] at ho1 ⊢;rw[hln2] at ho2 ⊢;have HE:Aside (Stt s.data.toList (L+L) arr' R'/\Own w4 w.heap.size (.slice A1' (j+1) c1') (ints arr')/\Own w4 w.heap.size (.slice A2' (j+1) c2') (ints R')/\Below w0.heap.size w0 w4):=⟨HS2.out,ho1.lower HBB.out.2,ho2.lower HBB.out.2,ext_trans HBB.out.1 hb4⟩
     clear ho1 ho2 hb4 HD hln1 hln2;go_wp2_with fail
     go_roundg (j+1-(L+L))
     case measure=>omega
     case rel=>exact⟨L+L,arr',R',A1',A2',c1',c2',_,rfl,rfl,rfl,by go_num,by omega,by omega,by omega,HE.out.1,HE.out.2.1,HE.out.2.2.1,HE.out.2.2.2,rfl⟩
    ·have hd:R.getD (arr.getD j 0) 0=j:=of_decide_eq_true hdn.symm
     have hso:=stt_done hst (by rw[hsl];exact hd);have HE:Aside (Sorted s.data.toList arr/\Own wr w.heap.size (.slice A1 (j+1) c1) (ints arr)/\Below w.heap.size w wr):=⟨hso,hv1,hbw⟩
     clear hst hv1 hv2 hb hdn H hbw hd hso;go_wp2_with fail
     go_ret2
     exact⟨_,arr,rfl,HE.out⟩
end Sx
end Go.Proofs.YtjligbmickfbdaaGreat
