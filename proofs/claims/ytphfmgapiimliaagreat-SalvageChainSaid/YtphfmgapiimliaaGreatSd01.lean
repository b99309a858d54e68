/- The law of SalvageChain: of any entries; the probe as a hypothesis. The law of SalvageChain. -/
import Derived.Test.YtphfmgapiimliaaGreatSc27
import Derived.Test.YtphfmgapiimliaaGreatSc28
import Derived.Deep.Cut
import Derived.Test.YtphfmgapiimliaaGreatSc48
namespace Go.Proofs.YtphfmgapiimliaaGreat
namespace Op
open Go.RowKit Hd Rd Vi Dk
theorem lnk_at {l:List En} {k:Nat} (hk:k+1<(chE l).length) {a b:En} (ha:(chE l)[k]? =some a) (hb:(chE l)[k+1]? =some b):lnk a b=true:=by
 have h:=back_all l (l.length-1) (chF l+k) (Nat.le_add_right _ _) (by rw[chE_len] at hk;omega);have e1:l[chF l+k]? =some a:=by rw[<-List.getElem?_drop];exact ha
 have e2:l[chF l+k+1]? =some b:=by rw[Nat.add_assoc,<-List.getElem?_drop];exact hb
 rwa [lkAt_of e1 e2] at h
attribute [local go_sem ↓] loadAt_en
attribute [local go_sem] run_loadEl
set_option maxHeartbeats 6400000 in
set_option maxRecDepth 100000 in
theorem schain_x (HAW:Hid (∀w,Calls Tryz.prog 14 #[] w fun e w'=>e=.returned (.bool true)/\Below w.heap.size w w'))
  (s:Sl) (l:List En) (w:World) (hrd:Rd w w.heap.size 9 s.A s.n (flS l)) (hnc:s.n<=s.c) (hA:s.A=none->s.c=0) :
  Calls Tryz.prog 5 #[s.v] w fun e w'=>e=.returned (.bool true)/\Below w.heap.size w w':=by
 have mixed:Tryz.prog.follows .mixedOrders=true:=by kernel_rfl
 obtain⟨A,n,c⟩:=s;unfold Sl.v;dsimp only at *
 have hln:=rdS_len hrd;by_cases hbig:(200:Int)<(n:Int)
 ·clear hrd hnc hA hln
  go_enter Tryz.func5, Tryz.ntmps5
  go_wp2_with (go_at_call 14;refine(HAW.out _).mono ?_;rintro e1 w1 ⟨rfl,hb1⟩;have HB1:=Lib.hid hb1;clear hb1)
  go_ret
  exact⟨rfl,HB1.out⟩
 rcases Nat.eq_zero_or_pos n with h0|hp
 ·subst h0
  obtain rfl:l=[]:=List.length_eq_zero_iff.1 hln;have HCH:=Lib.hid (show ∀(A:Option Addr) (c:Nat),(A=none->c=0)-> ∀wx,Calls Tryz.prog 16 #[.slice A 0 c] wx fun e w'=>(∃A' c',e=.returned (.slice A' 0 c')/\(A'=none->c'=0))/\Below wx.heap.size wx w' from fun A c hA wx=>by
   refine(chain_any A 0 c [] wx ⟨rfl,fun h=>absurd h (by omega)⟩ (by omega) (Nat.zero_le _) hA).mono ?_;rintro e w' ⟨⟨A',c',rfl,-,hz⟩,hb⟩;exact⟨⟨A',c',rfl,hz⟩,hb⟩)
  have HSM:=Lib.hid (show ∀(A1 A2:Option Addr) (c1 c2:Nat) wx,Calls Tryz.prog 15 #[.slice A1 0 c1,.slice A2 0 c2] wx fun e w'=>e=.returned (.bool true)/\Below wx.heap.size wx w' from fun A1 A2 c1 c2 wx=>rsame_en A1 A2 0 0 c1 c2 [] [] wx ⟨rfl,fun h=>absurd h (by omega)⟩ ⟨rfl,fun h=>absurd h (by omega)⟩ (by omega) (by omega));have HA:=Lib.hid hA;have hwz:IntKind.i64.wrap 0=0:=by decide
  clear hrd hA hln hbig
  go_enter Tryz.func5, Tryz.ntmps5
  go_upto_region 4 with (go_at_call 16;refine(HCH.out A c HA.out _).mono ?_;rintro e1 w1 ⟨⟨A1,c1,rfl,hz1⟩,hb1⟩;have HZ1:=Lib.hid hz1;have HB1:=Lib.hid hb1;clear hz1 hb1)
  go_upto_region 6 with (first
   |(go_at_call 15;refine(HSM.out _ _ _ _ w1).mono ?_;rintro e2 w2 ⟨rfl,hb2⟩;have HB2:=Lib.hid (HB1.out.trans (hb2.mono HB1.out.size));clear hb2)
   |(go_at_call 16;refine(HCH.out _ _ HZ1.out w2).mono ?_;rintro e3 w3 ⟨⟨A3,c3,rfl,-⟩,hb3⟩;have HB3:=Lib.hid (HB2.out.trans (hb3.mono HB2.out.size));clear hb3)
   |(go_at_call 15;refine(HSM.out _ _ _ _ w3).mono ?_;rintro e4 w4 ⟨rfl,hb4⟩;have HB4:=Lib.hid (HB3.out.trans (hb4.mono HB3.out.size));clear hb4))
  go_wp2_with fail
  go_loopw [4] (fun s4 wr=>s4=.int .i64 1/\wr=w4) (fun _ _=>0)
  case atStart=>exact⟨by go_num,rfl⟩
  case round =>
   obtain⟨rfl,rfl⟩:=hrel;go_wp2_with (go_at_call 14;refine(HAW.out _).mono ?_;rintro e5 w5 ⟨rfl,hb5⟩;have HB5:=Lib.hid (HB4.out.trans (hb5.mono HB4.out.size));clear hb5)
   go_ret
   exact⟨rfl,HB5.out⟩
 obtain⟨F,hF⟩:∃F,chF l=F:=⟨_,rfl⟩
 have hFn:F<n:=by have:=chF_lt (l:=l) (by omega);omega
 obtain⟨ad,-,rfl,-⟩:=sl_at (k:=0) hrd hp;obtain⟨m,rfl⟩:∃m,n=m+F:=⟨n-F,by omega⟩
 have hlen:(chE l).length=m:=by rw[chE_len,hF];omega
 have hdrop:l.drop F=chE l:=by unfold chE;rw[hF]
 have HCH:=Lib.hid (chain_any (some ad) (m+F) c l w hrd (by omega) hnc hA);have HC2:=Lib.hid (show ∀(B g c1:Nat) wx,wx.ownsRow B 48 9 (.slice (some ⟨g,0,none⟩) m c1) m (flS (chE l))->Calls Tryz.prog 16 #[.slice (some ⟨g,0,none⟩) m c1] wx fun e w'=>(∃A' c',e=.returned (.slice A' m c')/\Rd w' w'.heap.size 9 A' m (flS (chE l)))/\Below wx.heap.size wx w' from fun B g c1 wx ho=>by
  obtain⟨A,c',e,h1,-⟩:=own_slice ho;cases e
  refine(chain_any (some ⟨g,0,none⟩) m c1 (chE l) wx (Rd.of_own ho) (by omega) h1 (fun h=>by cases h)).mono ?_;rintro e w' ⟨⟨A',c',rfl,ho,-⟩,hb⟩;rw[chE_chE,hlen] at ho ⊢;exact⟨⟨A',c',rfl,Rd.of_own ho⟩,hb⟩)
 have HSM:=Lib.hid (show ∀(A1 A2:Option Addr) (c1 c2:Nat) wx,Rd wx wx.heap.size 9 A1 m (flS (chE l))->Rd wx wx.heap.size 9 A2 m (flS (chE l))->Calls Tryz.prog 15 #[.slice A1 m c1,.slice A2 m c2] wx fun e w'=>e=.returned (.bool true)/\Below wx.heap.size wx w' from fun A1 A2 c1 c2 wx h1 h2=>by
  have:=rsame_en A1 A2 m m c1 c2 (chE l) (chE l) wx h1 h2 (by omega) (by omega)
  rwa [decide_eq_true rfl] at this)
 have HRD:=Lib.hid (show ∀wx,Below w.heap.size w wx->Rd wx wx.heap.size 9 (some (ad.add (F*9))) m (flS (chE l)) from fun wx hb=>by
  have h1:=rd_drop hrd (F:=F) (Nat.le_add_left _ _);rw[Nat.add_sub_cancel,hdrop] at h1;exact(h1.below hb).more hb.size)
 have HMO:=Lib.hid (show ∀K,F=K+1-> ∀wx,Below w.heap.size w wx->Calls Tryz.prog 16 #[.slice (some (ad.add (K*9))) (m+F-K) (c-K)] wx fun e w'=>(∃A' c',e=.returned (.slice A' m c'))/\Below wx.heap.size wx w' from fun K hK wx hb=>by
  have h1:=rd_drop hrd (F:=K) (by omega);refine(chain_any (some (ad.add (K*9))) (m+F-K) (c-K) (l.drop K) wx ((h1.below hb).more hb.size) (by omega) (by omega) (fun h=>by cases h)).mono ?_;rintro e w' ⟨⟨A',c',rfl,-,-⟩,hb⟩;refine⟨⟨A',c',?_⟩,hb⟩;rw[chE_more (hF.trans hK),hlen])
 have HLN:=Lib.hid (show ∀k a b,k+1<m->(chE l)[k]? =some a->(chE l)[k+1]? =some b->lnk a b=true from fun k a b hk ha hb=>lnk_at (by omega) ha hb);have HLE:=Lib.hid hlen;rw[hlen] at HCH;have HM:=Lib.hid (show 0<m/\m<=200/\F<=200 from⟨by omega,by omega,by omega⟩);have u1: ¬ (m+F<m):=by omega
 have u2:((m:Int)==0)=false:=by rw[beq_eq_false_iff_ne];omega
 have u3: ¬ ((m+F:Nat):Int)<(m:Int):=by omega
 have u4:IntKind.i64.wrap (((m+F:Nat):Int)-(m:Int))=(F:Int):=by rw[IntKind.wrap_i64];omega
 have u5:(0:Int)<=(F:Int):=by omega
 have u6:(F:Int)<=((m+F:Nat):Int):=by omega
 have u7:m+F-F=m:=by omega
 have u8:((m+F:Nat):Int)<=(c:Int):=by omega
 have u9:F<=m+F:=by omega
 have u10:F<=c:=by omega
 have u11:m+F<=c:=hnc;have u12: ¬ c=F:=by omega
 have u13: ¬ c-F=0:=by omega
 have tok1:True:=trivial;generalize hN:m+F=N at *
 have HN:=Lib.hid hN;clear hrd hA hln hp hF hFn hlen hdrop hnc hN
 go_enter Tryz.func5, Tryz.ntmps5
 go_upto_region 4 with (go_at_call 16;refine HCH.out.mono ?_;rintro e1 w1 ⟨⟨A1,c1,rfl,ho1,-⟩,hb1⟩;have HO1:=Lib.hid ho1;have HB1:=Lib.hid hb1;clear ho1 hb1)
 obtain⟨g1,rfl⟩:∃g1,A1=some ⟨g1,0,none⟩:=by
  obtain⟨m',rfl⟩:∃m',m=m'+1:=⟨m-1,by have:=HM.out;omega⟩
  rcases HO1.out.2 with ⟨-,hn⟩|⟨g,cap,cur,hv,-⟩
  ·omega
  ·simp only[Value.slice.injEq] at hv
   exact⟨g,hv.1⟩
 go_upto_region 6 with (first
  |(go_at_call 15;have _t:=tok1;refine(HSM.out _ _ _ _ w1 (Rd.of_own HO1.out) (HRD.out w1 HB1.out)).mono ?_;rintro e2 w2 ⟨rfl,hb2⟩;have HO2:=Lib.hid (own_block HO1.out fun g hg=>hb2.block g (World.ownsRow.lt HO1.out g hg).2);have HB2:=Lib.hid (HB1.out.trans (hb2.mono HB1.out.size));clear hb2 _t tok1)
  |(go_at_call 16;refine(HC2.out _ _ _ w2 HO2.out).mono ?_;rintro e3 w3 ⟨⟨A3,c3,rfl,hr3⟩,hb3⟩;have HR3:=Lib.hid hr3;have HO3:=Lib.hid (own_block HO2.out fun g hg=>hb3.block g (World.ownsRow.lt HO2.out g hg).2);have HB3:=Lib.hid (HB2.out.trans (hb3.mono HB2.out.size));clear hb3 hr3)
  |(go_at_call 15;refine(HSM.out _ _ _ _ w3 HR3.out (Rd.of_own HO3.out)).mono ?_;rintro e4 w4 ⟨rfl,hb4⟩;have HO4:=Lib.hid (own_block HO3.out fun g hg=>hb4.block g (World.ownsRow.lt HO3.out g hg).2);have HB4:=Lib.hid (HB3.out.trans (hb4.mono HB3.out.size));clear hb4))
 clear HO1 HB1 HO2 HB2 HR3 HO3 HB3 HCH HC2 HSM HRD u1 u2 u3 u7 u13;go_wp2_with fail
 go_loopw [4] (fun s4 wr=>∃k:Nat,s4=.int .i64 (k:Int)/\1<=k/\k<=m/\Hid (Below w4.heap.size w4 wr)) (fun v _=>m-(intOf v).toNat)
 case atStart=>exact⟨1,by go_num,by omega,by have:=HM.out;omega,Lib.hid (Below.refl _ _)⟩
 case round =>
  obtain⟨k,rfl,hk1,hk,HX⟩:=hrel;have HBX:=Lib.hid (HB4.out.trans (HX.out.mono HB4.out.size));have HOX:=Lib.hid (own_block HO4.out fun g hg=>HX.out.block g (World.ownsRow.lt HO4.out g hg).2);by_cases hkm:k<m
  ·obtain⟨j,rfl⟩:∃j,k=j+1:=⟨k-1,by omega⟩
   obtain⟨_,a,e1,hbk,ha,ok1,at1⟩:=rd_el (k:=j) (Rd.of_own HOX.out) (by omega);obtain⟨_,b,e2,-,hb,-,-⟩:=rd_el (k:=j+1) (Rd.of_own HOX.out) hkm;cases e1;cases e2
   rw[Addr.add_lit,Nat.zero_add] at ok1 at1;have hl:=HLN.out j a b hkm ha hb;unfold lnk at hl;simp only[Bool.and_eq_true,decide_eq_true_eq] at hl;obtain⟨hz,hok,⟨hid,hf⟩,-⟩:=hl;have hbk2:g1<wr.heap.size:=hbk;have HNX:=Lib.hid (show ∀wx,Calls Tryz.prog 18 #[.agg (Sh.cl a).toArray] wx fun e w'=>e=.returned (.int .i64 (a.f+a.c))/\Below wx.heap.size wx w' from fun wx=>enext_ok a wx hok);have key:∀(i s:Nat) (x:En),(chE l)[i]? =some x->s<9-> ∀q:Bw wr,q.to.cell? ⟨g1,i*9+s,none⟩=(Sh.cl x)[s]? :=fun i s x hx hs q=>by
    have h1:=flS_at (chE l) i x hx s hs;have h2:i<(chE l).length:=(List.getElem?_eq_some_iff.1 hx).1;rw[HLE.out] at h2;exact(q.h.cell (p:=⟨g1,i*9+s,none⟩) hbk2).trans ((HOX.out.cellAt (i*9+s) (by omega)).trans h1)
   have c3:∀q:Bw wr,q.to.cell? ⟨g1,j*9+3,none⟩=some (.bool true):=fun q=>(key j 3 a ha (by omega) q).trans (by show some (Value.bool a.z)=_;rw[hz])
   have c0:∀q:Bw wr,q.to.cell? ⟨g1,j*9,none⟩=some (.int .i64 a.i):=fun q=>(key j 0 a ha (by omega) q).trans rfl
   have d2:∀q:Bw wr,q.to.cell? ⟨g1,(j+1)*9+2,none⟩=some (.int .i64 (a.f+a.c)):=fun q=>(key (j+1) 2 b hb (by omega) q).trans (by show some (Value.int .i64 b.f)=_;rw[hf])
   have d0:∀q:Bw wr,q.to.cell? ⟨g1,(j+1)*9,none⟩=some (.int .i64 b.i):=fun q=>(key (j+1) 0 b hb (by omega) q).trans rfl
   have q1:∀q:Bw wr,elOk q.to ⟨g1,j*9,none⟩ 9=true/\elAt q.to ⟨g1,j*9,none⟩ 9=(Sh.cl a).toArray:=fun q=>by
    obtain⟨h1,h2⟩:=el_below (n:=9) (a:=⟨g1,j*9,none⟩) q.h hbk2;rw[h1,h2];exact⟨ok1,at1⟩
   have hty:ElTy Tryz.prog 48 9:=⟨en_info,_,Tryz.underlying48⟩
   have HQ:=Lib.hid (show ∀q:Bw wr,Below w4.heap.size w4 q.to from fun q=>HX.out.trans (q.h.mono HX.out.size));have hni: ¬ b.i<=a.i:=by omega
   have i1:IntKind.i64.wrap (((j+1:Nat):Int)-1)=(j:Int):=by rw[IntKind.wrap_i64];have:=HM.out;omega
   have i2:(j:Int)<(m:Int):=by omega
   have i3:((j+1:Nat):Int)<(m:Int):=by omega
   have i4:(0:Int)<=((j+1:Nat):Int):=by omega
   have i5:(0:Int)<=(j:Int):=by omega
   have i6:IntKind.i64.wrap (((j+1:Nat):Int)+1)=((j+2:Nat):Int):=by rw[IntKind.wrap_i64];have:=HM.out;omega
   have HJ:=Lib.hid (show j+2<=m from hkm);clear key ok1 at1 hz hok hf hid ha hb hbk hbk2 hk1 hk;generalize hjj:j+1=J at *
   have HJJ:=Lib.hid hjj;clear hjj;generalize a.f+a.c=nx at *
   go_wp2_with fail
   refine wp_region_quiet_below (by assumption) (by kernel_rfl) ?_
   repeat (first|go_big_quiet_skip|quiet_step (first|(go_at_call 18;refine below_of (HNX.out _))))
   refine wpQuiet_nil ?_;intro _ hw';obtain⟨q,rfl⟩:=hw';have HBQ:=Lib.hid (HQ.out q);clear q1 c0 c3 d0 d2 HQ HNX;generalize q.to=w5 at *
   go_wp2_with fail
   go_roundw
   ·exact⟨j+2,by first|rfl|rw[i6],by omega,HJ.out,HBQ.out⟩
   ·have:=HJJ.out;have:=HJ.out;first|(rw[i6];simp[intOf];omega)|(simp[intOf];omega)
  ·obtain rfl:k=m:=by omega
   rcases F with _|K
   ·go_wp2_with (go_at_call 14;refine(HAW.out _).mono ?_;rintro e5 w5 ⟨rfl,hb5⟩;have HB5:=Lib.hid (HBX.out.trans (hb5.mono HBX.out.size));clear hb5)
    go_ret
    exact⟨rfl,HB5.out⟩
   ·have HCK:=Lib.hid (HMO.out K rfl wr HBX.out)
    have v1:(((K+1:Nat):Int)==0)=false:=by rw[beq_eq_false_iff_ne];omega
    have v2:IntKind.i64.wrap (((K+1:Nat):Int)-1)=(K:Int):=by rw[IntKind.wrap_i64];have:=HM.out;have:=HN.out;omega
    have v3:(0:Int)<=(K:Int):=by omega
    have v4:(K:Int)<=(N:Int):=by have:=HN.out;omega
    have v5: ¬ c=K:=by omega
    clear u5 u6 u9 u10 u12;generalize hKK:K+1=KK at *
    have HKK:=Lib.hid hKK;clear hKK;go_wp2_with (first
     |(go_at_call 16;refine HCK.out.mono ?_;rintro e5 w5 ⟨⟨A5,c5,rfl⟩,hb5⟩;have HB5:=Lib.hid (HBX.out.trans (hb5.mono HBX.out.size));clear hb5)
     |(go_at_call 14;refine(HAW.out _).mono ?_;rintro e6 w6 ⟨rfl,hb6⟩;have HB6:=Lib.hid (HB5.out.trans (hb6.mono HB5.out.size));clear hb6))
    go_ret
    exact⟨rfl,HB6.out⟩
end Op
end Go.Proofs.YtphfmgapiimliaaGreat
namespace Go.Proofs.YtphfmgapiimliaaGreat
namespace Op
open Go.RowKit Hd Rd Vi Dk
theorem schain_any (s:Sl) (l:List En) (w:World) (hrd:Rd w w.heap.size 9 s.A s.n (flS l)) (hnc:s.n<=s.c) (hA:s.A=none->s.c=0) :
  Calls Tryz.prog 5 #[s.v] w fun e w'=>e=.returned (.bool true)/\Below w.heap.size w w' :=
 schain_x (Lib.hid Sv.awake43_any) s l w hrd hnc hA
end Op
end Go.Proofs.YtphfmgapiimliaaGreat
