/- suffix.doubled. -/
import Derived.Test.YtjligbmickfbdaaGreatBe10
namespace Go.Proofs.YtjligbmickfbdaaGreat
namespace Sx
open Go.RowKit
set_option maxHeartbeats 6400000 in
set_option maxRecDepth 100000 in
theorem doubled_any (A1:Option Addr) (c1:Nat) (arr:List Nat) (A2:Option Addr) (c2 N L:Nat) (R:List Nat) (w:World) (hN0:0<N) (hN:N<=20001) (hL:L<=50000) (hrd1:Rd w w.heap.size 1 A1 N ((ints arr).map (Value.int .i64))) (hrd2:Rd w w.heap.size 1 A2 N ((ints R).map (Value.int .i64)))
  (harr:∀p∈arr,p<N) (hR:∀p∈R,p<=N) :
  Calls Tryz.prog 100 #[.slice A1 N c1,.slice A2 N c2,.int .i64 (L:Int)] w fun e w'=>∃v1 v2,e=.returned (.tuple #[v1,v2,.bool (decide ((nx (dif L N R) (arr2 L N R arr) N (N-1)).getD ((arr2 L N R arr).getD (N-1) 0) 0=N-1))]) /\
   Own w' w.heap.size v1 (ints (arr2 L N R arr))/\Own w' w.heap.size v2 (ints (nx (dif L N R) (arr2 L N R arr) N (N-1)))/\Below w.heap.size w w':=by
 have hl1:arr.length=N:=by have:=hrd1.len;rw[List.length_map,length_ints] at this;omega
 have hl2:R.length=N:=by have:=hrd2.len;rw[List.length_map,length_ints] at this;omega
 have hfst:∀p,fst R p<=N:=by
  intro p;unfold fst;rw[List.getD_eq_getElem?_getD];rcases h:R[p]? with _|x
  ·simp
  ·exact hR x (List.mem_of_getElem? h)
 have hscd:∀p,scd L N R p<=N+1:=by
  intro p;unfold scd;split
  ·have:=hfst (p+L);unfold fst at this;omega
  ·omega
 have hperm:(arr2 L N R arr).Perm arr:=by
  unfold arr2;exact(ctd_perm _ _ _ (fun x _=>by have:=hfst x;omega)).trans (ctd_perm _ _ _ (fun x _=>by have:=hscd x;omega))
 have hwb:∀p∈ctd (N+1+1) (scd L N R) arr,p<N:=fun p hp=>harr p (((ctd_perm _ _ _ (fun x _=>by have:=hscd x;omega)).mem_iff).1 hp)
 have mixed:Tryz.prog.follows .mixedOrders=true:=by kernel_rfl
 have e151:∀args w,(callFunc 138 args).run Tryz.prog w=.ok (.enter 138 args) w:=enters_of Tryz.func138 (by kernel_rfl) rfl;have e152:∀args w,(callFunc 139 args).run Tryz.prog w=.ok (.enter 139 args) w:=enters_of Tryz.func139 (by kernel_rfl) rfl;obtain⟨w0,hw0⟩:∃w0,w0=(((w.alloc (Obj.cells #[Value.slice A2 N c2] 28)).alloc (Obj.cells #[.int .i64 (L:Int)] 3)).alloc (Obj.cells #[.int .i64 (N:Int)] 3)):=⟨_,rfl⟩
 have hs0:w0.heap.size=w.heap.size+1+1+1:=by rw[hw0];simp
 have v4:Var w0 w.heap.size 28 (.slice A2 N c2):=by rw[hw0];exact((Var.new w _ _).alloc _).alloc _
 have v5:Var w0 (w.heap.size+1) 3 (.int .i64 (L:Int)):=by
  rw[hw0];have:=(Var.new (w.alloc (Obj.cells #[Value.slice A2 N c2] 28)) 3 (.int .i64 (L:Int))).alloc (Obj.cells #[.int .i64 (N:Int)] 3)
  rwa [World.size_alloc] at this
 have v9:Var w0 (w.heap.size+1+1) 3 (.int .i64 (N:Int)):=by
  rw[hw0];have:=(Var.new ((w.alloc (Obj.cells #[Value.slice A2 N c2] 28)).alloc (Obj.cells #[.int .i64 (L:Int)] 3)) 3 (.int .i64 (N:Int)))
  rwa [World.size_alloc,World.size_alloc] at this
 have hb0:Below w.heap.size w w0:=by
  rw[hw0];exact(((Below.refl _ _).alloc (Nat.le_refl _) _).alloc (by simp) _).alloc (by simp;omega) _
 have hk1:∀w',Below w0.heap.size w0 w'-> ∀p,p<N->Calls Tryz.prog 138 (#[.int .i64 (p:Int)]++ #[.pointer (some ⟨w.heap.size+1,0,none⟩),.pointer (some ⟨w.heap.size+1+1,0,none⟩),.pointer (some ⟨w.heap.size,0,none⟩)]) w' fun e w''=>e=.returned (.int .i64 (scd L N R p:Int))/\w'=w'':=by
  intro w' hb p hp;have hr:Rd w' w'.heap.size 1 A2 N ((ints R).map (Value.int .i64)):=(hrd2.ext hb0).ext hb;exact second_any (w.heap.size+1) (w.heap.size+1+1) w.heap.size A2 N c2 L N R w' (v5.below hb (by omega)) (v9.below hb (by omega)) (v4.below hb (by omega)) hr p (Nat.le_refl _) (by omega) (by omega) (fun q=>by have:=hfst q;unfold fst at this;omega)
 have hk2:∀w',Below w0.heap.size w0 w'-> ∀p,p<N->Calls Tryz.prog 139 (#[.int .i64 (p:Int)]++ #[.pointer (some ⟨w.heap.size,0,none⟩)]) w' fun e w''=>e=.returned (.int .i64 (fst R p:Int))/\w'=w'':=by
  intro w' hb p hp;have hr:Rd w' w'.heap.size 1 A2 N ((ints R).map (Value.int .i64)):=(hrd2.ext hb0).ext hb;exact first_any w.heap.size A2 N c2 R w' (v4.below hb (by omega)) hr p hp
 have C1:∀wx,(wx.cell? ⟨w.heap.size+1+1,0,none⟩=some (.int .i64 (N:Int))/\Below w0.heap.size w0 wx)->Calls Tryz.prog 98 #[.slice A1 N c1,.int .i64 (IntKind.i64.wrap ((N:Int)+1)),.func (.func 138) #[] #[.pointer (some ⟨w.heap.size+1,0,none⟩),.pointer (some ⟨w.heap.size+1+1,0,none⟩),.pointer (some ⟨w.heap.size,0,none⟩)]] wx fun e w' =>
   ∃v,e=.returned v/\Own w' w.heap.size v (ints (ctd (N+1+1) (scd L N R) arr))/\(w'.cell? ⟨w.heap.size+1+1,0,none⟩=some (.int .i64 (N:Int))/\Below w0.heap.size w0 w'):=by
  intro wx ⟨hc,hb⟩;have:=counted_any A1 N c1 (N+1) arr (scd L N R) 138 _ wx (by omega) (by omega) ((hrd1.ext hb0).ext hb) (fun p _=>by have:=hscd p;omega) (fun p hp=>by have:=harr p hp;omega) e151 (fun p hp w' hb'=>hk1 w' (ext_trans hb hb') p (harr p hp));rw[show((N+1:Nat):Int)=IntKind.i64.wrap ((N:Int)+1) by rw[IntKind.wrap_i64];omega] at this;refine this.mono ?_;rintro e w' ⟨v,he,ho,hb'⟩;have hbb:=ext_trans hb hb';exact⟨v,he,ho.lower (by have:=hb.size;omega),(v9.below hbb (by omega)).cell,hbb⟩
 have C2:∀wx v,(wx.cell? ⟨w.heap.size+1+1,0,none⟩=some (.int .i64 (N:Int))/\Below w0.heap.size w0 wx)->Own wx w.heap.size v (ints (ctd (N+1+1) (scd L N R) arr))->Calls Tryz.prog 98 #[v,.int .i64 (N:Int),.func (.func 139) #[] #[.pointer (some ⟨w.heap.size,0,none⟩)]] wx fun e w' =>
   ∃v,e=.returned v/\Own w' w.heap.size v (ints (arr2 L N R arr))/\(w'.cell? ⟨w.heap.size+1+1,0,none⟩=some (.int .i64 (N:Int))/\Below w0.heap.size w0 w'):=by
  intro wx v ⟨hc,hb⟩ ho;obtain⟨A,c,rfl,_,_,hr⟩:=ho.rd;have hlen:(ints (ctd (N+1+1) (scd L N R) arr)).length=N:=by
   rw[length_ints,(ctd_perm _ _ _ (fun x _=>by have:=hscd x;omega)).length_eq,hl1]
  rw[hlen] at hr ⊢;have:=counted_any A N c N (ctd (N+1+1) (scd L N R) arr) (fst R) 139 _ wx (by omega) (by omega) hr (fun p _=>by have:=hfst p;omega) (fun p hp=>by have:=hwb p hp;omega) e152 (fun p hp w' hb'=>hk2 w' (ext_trans hb hb') p (hwb p hp));refine this.mono ?_;rintro e w' ⟨v,he,ho,hb'⟩;have hbb:=ext_trans hb hb';exact⟨v,he,ho.lower (by have:=hb.size;omega),(v9.below hbb (by omega)).cell,hbb⟩
 have hc9:=v9.cell;have hSd:w0.drew.cell? ⟨w.heap.size+1+1,0,none⟩=some (.int .i64 (N:Int))/\Below w0.heap.size w0 w0.drew:=⟨hc9,ext_drew w0⟩
 have HSd:=Lib.hid hSd;have HK1:=Lib.hid hk1;have HK2:=Lib.hid hk2;have HC1:=Lib.hid C1;have HC2:=Lib.hid C2;have HV9:=Lib.hid v9;have HB0:=Lib.hid hb0;have HZ0:=Lib.hid hs0;have HP:=Lib.hid hperm;have HA:=Lib.hid harr;have HL1:=Lib.hid hl1;have HW0:=Lib.hid hw0;clear hrd1 hrd2 harr hR hl1 hl2 hfst hscd hperm hwb hk1 hk2 C1 C2 v4 v5 v9 hb0 hs0 hw0 hSd
 go_enter Tryz.func100, Tryz.ntmps100
 go_wp2_with fail
 rw[<-HW0.out];have tok1:True:=trivial;go_region_held3 (fun wx=>wx.cell? ⟨w.heap.size+1+1,0,none⟩=some (.int .i64 (N:Int))/\Below w0.heap.size w0 wx) (first|exact HSd.out|assumption) (first|(go_at_call 98;have _t:=tok1;refine(HC1.out _ (by first|exact HSd.out|assumption)).mono ?_;rintro e1 w1 ⟨v1,rfl,hown1,hS1⟩;clear tok1)|(go_at_call 98;refine(HC2.out _ _ (by assumption) hown1).mono ?_;rintro e2 w2 ⟨v2,rfl,hown2,hS2⟩))
 try clear _t
 obtain⟨A,c,rfl,_,_,hr⟩:=hown2.rd;obtain⟨gA,rfl,_,_⟩:=hown2.form0 (by rw[length_ints,HP.out.length_eq,HL1.out];exact hN0);have hlen:(ints (arr2 L N R arr)).length=N:=by rw[length_ints,HP.out.length_eq,HL1.out]
 rw[hlen] at hr;have HO2:Aside (Own w2 w.heap.size (.slice (some ⟨gA,0,none⟩) (ints (arr2 L N R arr)).length c) (ints (arr2 L N R arr))):=hown2;have HB2:Aside (Below w0.heap.size w0 w2/\Below w.heap.size w w2):=⟨hS2.2,ext_trans HB0.out hS2.2⟩
 have hcN:=hS2.1;have HRd:Aside (Rd w2 w2.heap.size 1 (some ⟨gA,0,none⟩) N ((ints (arr2 L N R arr)).map (Value.int .i64))):=hr;have hA2:∀p∈arr2 L N R arr,p<N:=fun p hp=>HA.out p (HP.out.mem_iff.1 hp)
 have HA2:=Lib.hid hA2;have hL2:(arr2 L N R arr).length=N:=by rw[HP.out.length_eq,HL1.out]
 have HL2:=Lib.hid hL2;rw[hlen];clear hown1 hS1 hown2 hS2 hr hlen hA2 hL2 hc9;generalize hX:arr2 L N R arr=X at *
 generalize hD:dif L N R=D at *
 have HD:=Lib.hid hD;have HX:=Lib.hid hX;clear hX hD;go_wp2_with (at_make;(refine make1 (n:=N) (by omega) (Nat.le_refl w2.heap.size) ?_);intro w3 hown3 hg3)
 have hb3:Below w2.heap.size w2 w3:=(Below.refl _ _).grown hg3 (Nat.le_refl _) (by simp);have H0:Aside (Own w3 w2.heap.size (.slice (some ⟨w2.heap.size,0,none⟩) N N) (ints (nx D X N 0))/\Below w2.heap.size w2 w3):=⟨by rw[nx,ints_rep];exact hown3,hb3⟩
 clear hown3 hg3 hb3;go_loopg [13] N (fun kx s13 wr=>∃(j:Nat),s13=.int .i64 ((j+1:Nat):Int)/\j+1<=N/\N-j<=kx/\Aside (Own wr w2.heap.size (.slice (some ⟨w2.heap.size,0,none⟩) N N) (ints (nx D X N j))/\Below w2.heap.size w2 wr))
 case atStart=>exact⟨0,rfl,by omega,by omega,H0.out⟩
 case round =>
  clear H0;obtain⟨j,rfl,hj,hjx,H⟩:=hrel;have hc9:wr.cell? ⟨w.heap.size+1+1,0,none⟩=some (.int .i64 (N:Int)):=(HV9.out.below (ext_trans HB2.out.1 H.out.2) (by have:=HZ0.out;omega)).cell;clear hcN;by_cases hlt:j+1<N
  ·obtain⟨hown,hb⟩:=H.out
   have hrd:=HRd.out.below hb;obtain⟨ad,x,e1,had,hx,hcell1⟩:=hrd.int1 (k:=j) (by omega);obtain⟨ad2,x2,e2,had2,hx2,hcell2⟩:=hrd.int1 (k:=j+1) (by omega);cases e2
   cases e1
   rw[Addr.add_lit,Nat.zero_add] at hcell1 hcell2;rw[ints_at X j (by have:=HL2.out;omega),Option.some.injEq] at hx;rw[ints_at X (j+1) (by have:=HL2.out;omega),Option.some.injEq] at hx2;subst hx;subst hx2;have ha:X.getD j 0<N:=HA2.out _ (by rw[List.getD_eq_getElem?_getD,List.getElem?_eq_getElem (by have:=HL2.out;omega)];exact List.getElem_mem _);have hbn:X.getD (j+1) 0<N:=HA2.out _ (by rw[List.getD_eq_getElem?_getD,List.getElem?_eq_getElem (by have:=HL2.out;omega)];exact List.getElem_mem _);have hstep:nx D X N (j+1)=(nx D X N j).set (X.getD (j+1) 0) ((nx D X N j).getD (X.getD j 0) 0+if D (X.getD j 0) (X.getD (j+1) 0)=true then 1 else 0):=rfl;generalize X.getD j 0=a at *
   generalize X.getD (j+1) 0=b at *
   have hc:=hown.cell (k:=a) (x:=(((nx D X N j).getD a 0:Nat):Int)) (ints_at _ _ (by rw[length_nx];exact ha));have hf:=hown.frozen (k:=b);have hyb:=nx_le D X N j a;generalize (nx D X N j).getD a 0=y at *
   have hcb:=hown.cell (k:=b) (x:=(((nx D X N j).getD b 0:Nat):Int)) (ints_at _ _ (by rw[length_nx];exact hbn));generalize (nx D X N j).getD b 0=yb at hcb;have hbw:Below w0.heap.size w0 ((wr.setCell ⟨w2.heap.size,b,none⟩ (.int .i64 (y:Int))).drew):=((ext_trans HB2.out.1 hb).setCell (p:=⟨w2.heap.size,b,none⟩) HB2.out.1.size _).drew;have HN1:=Own.put2 (k:=b) ⟨hown,hb⟩ (y:Int);have HN2:=Own.put2 (k:=b) HN1 ((y+1:Nat):Int);have es:((ints (nx D X N j)).set b (y:Int)).set b ((y+1:Nat):Int)=ints ((nx D X N j).set b (y+1)):=by rw[List.set_set,ints_set]
   rw[es] at HN2;rw[ints_set] at HN1;have hA1:=HK2.out _ hbw a ha;have hA2:=HK2.out _ hbw b hbn;have hA3:=HK1.out _ hbw a ha;have hA4:=HK1.out _ hbw b hbn;have hDv:D a b=((fst R a != fst R b)||(scd L N R a != scd L N R b)):=by rw[<-HD.out];rfl
   generalize fst R a=fa at *
   generalize fst R b=fb at *
   generalize scd L N R a=sa at *
   generalize scd L N R b=sb at *
   by_cases h1:fa=fb
   ·by_cases h2:sa=sb
    ·have hd:D a b=false:=by rw[hDv,h1,h2];simp
     rw[hd] at hstep;have HNX:Aside (Own (wr.setCell ⟨w2.heap.size,b,none⟩ (.int .i64 (y:Int))) w2.heap.size (.slice (some ⟨w2.heap.size,0,none⟩) N N) (ints (nx D X N (j+1)))/\Below w2.heap.size w2 (wr.setCell ⟨w2.heap.size,b,none⟩ (.int .i64 (y:Int)))):=by
      rw[hstep];exact HN1
     subst h1;subst h2;clear hstep hrd HN1 HN2 es hDv hd hown hb H hbw;go_wp2_with fail
     go_region
     go_wp2_with fail
     refine hA1.mono ?_;rintro e3 w3 ⟨rfl,rfl⟩;go_wp2_with fail
     refine hA2.mono ?_;rintro e4 w4 ⟨rfl,rfl⟩;go_wp2_with fail
     refine hA3.mono ?_;rintro e5 w5 ⟨rfl,rfl⟩;go_wp2_with fail
     refine hA4.mono ?_;rintro e6 w6 ⟨rfl,rfl⟩;go_wp2_with fail
     go_roundg (N-(j+1))
     case measure=>omega
     case rel=>exact⟨j+1,by go_num,by omega,by omega,by first|exact HNX.out|exact⟨HNX.out.1,HNX.out.2.drew⟩⟩
    ·have hd:D a b=true:=by rw[hDv,bne_iff_ne.2 h2];simp
     rw[hd,if_pos rfl] at hstep;rw[<-hstep] at HN2;have HNX:Aside _:=HN2;have b2:((sa:Int) != (sb:Int))=true:=by rw[bne_iff_ne];omega
     have b2':((sa:Int)==(sb:Int))=false:=by rw[beq_eq_false_iff_ne];omega
     subst h1;clear hstep hrd HN1 HN2 es hDv hd hown hb H hbw;go_wp2_with fail
     go_region
     go_wp2_with fail
     refine hA1.mono ?_;rintro e3 w3 ⟨rfl,rfl⟩;go_wp2_with fail
     refine hA2.mono ?_;rintro e4 w4 ⟨rfl,rfl⟩;go_wp2_with fail
     refine hA3.mono ?_;rintro e5 w5 ⟨rfl,rfl⟩;go_wp2_with fail
     refine hA4.mono ?_;rintro e6 w6 ⟨rfl,rfl⟩;go_wp2_with fail
     go_roundg (N-(j+1))
     case measure=>omega
     case rel=>exact⟨j+1,by go_num,by omega,by omega,by first|exact HNX.out|exact⟨HNX.out.1,HNX.out.2.drew⟩⟩
   ·have hd:D a b=true:=by rw[hDv,bne_iff_ne.2 h1];simp
    rw[hd,if_pos rfl] at hstep;rw[<-hstep] at HN2;have HNX:Aside _:=HN2;have b2:((fa:Int) != (fb:Int))=true:=by rw[bne_iff_ne];omega
    have b2':((fa:Int)==(fb:Int))=false:=by rw[beq_eq_false_iff_ne];omega
    clear hstep hrd HN1 HN2 es hDv hd hown hb H hbw;go_wp2_with fail
    go_region
    go_wp2_with fail
    refine hA1.mono ?_;rintro e3 w3 ⟨rfl,rfl⟩;go_wp2_with fail
    refine hA2.mono ?_;rintro e4 w4 ⟨rfl,rfl⟩;go_wp2_with fail
    go_roundg (N-(j+1))
    case measure=>omega
    case rel=>exact⟨j+1,by go_num,by omega,by omega,by first|exact HNX.out|exact⟨HNX.out.1,HNX.out.2.drew⟩⟩
  ·obtain⟨M,rfl⟩:∃M,N=M+1:=⟨N-1,by omega⟩
   have hjN:j=M:=by omega
   subst hjN;obtain⟨hown,hb⟩:=H.out;have hrd:=HRd.out.below hb;obtain⟨ad,x,e1,had,hx,hcell1⟩:=hrd.int1 (k:=j) (by omega);cases e1
   rw[Addr.add_lit,Nat.zero_add] at hcell1;rw[ints_at X j (by have:=HL2.out;omega),Option.some.injEq] at hx;subst hx;have ha:X.getD j 0<j+1:=HA2.out _ (by rw[List.getD_eq_getElem?_getD,List.getElem?_eq_getElem (by have:=HL2.out;omega)];exact List.getElem_mem _);have hc:=hown.cell (k:=X.getD j 0) (x:=(((nx D X (j+1) j).getD (X.getD j 0) 0:Nat):Int)) (ints_at _ _ (by rw[length_nx];exact ha));have hbN:Below w.heap.size w wr:=HB2.out.2.trans (hb.mono HB2.out.2.size);have hv1:Own wr w.heap.size (.slice (some ⟨gA,0,none⟩) (j+1) c) (ints X):=by
    have:=HO2.out.below hb (Nat.le_refl _)
    rwa [show(ints X).length=j+1 by rw[length_ints,HL2.out]] at this
   have hv2:Own wr w.heap.size (.slice (some ⟨w2.heap.size,0,none⟩) (j+1) (j+1)) (ints (nx D X (j+1) j)):=hown.lower HB2.out.2.size;have HE:Aside (Own wr w.heap.size (.slice (some ⟨gA,0,none⟩) (j+1) c) (ints X)/\Own wr w.heap.size (.slice (some ⟨w2.heap.size,0,none⟩) (j+1) (j+1)) (ints (nx D X (j+1) j))/\Below w.heap.size w wr):=⟨hv1,hv2,hbN⟩
   have hqb:=nx_le D X (j+1) j (X.getD j 0);obtain⟨p,hp⟩:∃p,p=X.getD j 0:=⟨_,rfl⟩
   rw[<-hp] at hc hcell1 hqb ha;obtain⟨q,hq⟩:∃q,q=(nx D X (j+1) j).getD p 0:=⟨_,rfl⟩
   rw[<-hq] at hc hqb;have HQ:Hid (q=(nx D X (j+1) j).getD (X.getD j 0) 0):=(by rw[hq,hp]:q=(nx D X (j+1) j).getD (X.getD j 0) 0)
   have hbq:((q:Int)==(j:Int))=decide (q=j):=by
    by_cases hq:q=j
    ·subst hq;simp
    ·rw[decide_eq_false hq,beq_eq_false_iff_ne];omega
   clear hown hb hrd hbN hv1 hv2 H hp hq;go_wp2_with fail
   go_region
   go_wp2_with fail
   go_ret3
   rw[Nat.add_sub_cancel,HX.out,HD.out];refine⟨_,_,?_,HE.out.1,HE.out.2.1,HE.out.2.2.drew⟩;rw[<-HQ.out];rfl
end Sx
end Go.Proofs.YtjligbmickfbdaaGreat
