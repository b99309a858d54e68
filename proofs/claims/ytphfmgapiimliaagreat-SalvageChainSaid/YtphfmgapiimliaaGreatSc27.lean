/- varveref43.goes. salvage.Chain. varveref43.Chain. -/
import Derived.Test.YtphfmgapiimliaaGreatSc26
import Derived.Test.YtphfmgapiimliaaGreatSc25
import Derived.Deep.LoopGhost
import Derived.Deep.Cut
namespace Go.Proofs.YtphfmgapiimliaaGreat
namespace Op
open Go.RowKit Hd Rd Vi Dk
attribute [local go_sem ↓] loadAt_en
attribute [local go_sem] run_loadEl
set_option maxHeartbeats 6400000 in
set_option maxRecDepth 100000 in
theorem goes_any (x y:En) (w:World):Calls Tryz.prog 49 #[eagg x,eagg y] w fun e w'=>e=.returned (.bool (lnk x y))/\Below w.heap.size w w':=by
 have mixed:Tryz.prog.follows .mixedOrders=true:=by kernel_rfl
 have HC:=Lib.hid (fun wx=>r24c_any x wx);have HN:=Lib.hid (fun wx (hx:okE x=true)=>r24next_ok x wx hx);obtain⟨R,hR⟩:∃R,R=lnk x y:=⟨_,rfl⟩
 rw[<-hR];have HR:=Lib.hid hR;unfold lnk at HR;unfold eE at HC;clear hR;obtain⟨ai,ag,af,az,ac,ab,ae,al,an⟩:=x;obtain⟨bi,bg,bf,bz,bc,bb,be,bl,bn⟩:=y;unfold eagg at *
 dsimp only at *
 have HA:=Lib.hid ((Blk.new w #[.int .i64 ai,.int .i64 ag,.int .i64 af,.bool az,.int .i64 ac,.int .i64 ab,.int .i64 ae,.int .i64 al,.int .i64 an] 48).alloc (.cells #[.int .i64 bi,.int .i64 bg,.int .i64 bf,.bool bz,.int .i64 bc,.int .i64 bb,.int .i64 be,.int .i64 bl,.int .i64 bn] 48));have HB:=Lib.hid (blk_second w (.cells #[.int .i64 ai,.int .i64 ag,.int .i64 af,.bool az,.int .i64 ac,.int .i64 ab,.int .i64 ae,.int .i64 al,.int .i64 an] 48) #[.int .i64 bi,.int .i64 bg,.int .i64 bf,.bool bz,.int .i64 bc,.int .i64 bb,.int .i64 be,.int .i64 bl,.int .i64 bn] 48);have HW:=Lib.hid (ext_second w (.cells #[.int .i64 ai,.int .i64 ag,.int .i64 af,.bool az,.int .i64 ac,.int .i64 ab,.int .i64 ae,.int .i64 al,.int .i64 an] 48) (.cells #[.int .i64 bi,.int .i64 bg,.int .i64 bf,.bool bz,.int .i64 bc,.int .i64 bb,.int .i64 be,.int .i64 bl,.int .i64 bn] 48));have hty:ElTy Tryz.prog 48 9:=⟨en_info,_,Tryz.underlying48⟩
 go_enter Tryz.func49, Tryz.ntmps49
 go_upto_region 1 with (fail)
 generalize (w.alloc (.cells #[.int .i64 ai,.int .i64 ag,.int .i64 af,.bool az,.int .i64 ac,.int .i64 ab,.int .i64 ae,.int .i64 al,.int .i64 an] 48)).alloc (.cells #[.int .i64 bi,.int .i64 bg,.int .i64 bf,.bool bz,.int .i64 bc,.int .i64 bb,.int .i64 be,.int .i64 bl,.int .i64 bn] 48)=w2 at *
 have HQ:=Lib.hid (show ∀q:Bw w2,Below w.heap.size w q.to from fun q=>HW.out.trans (q.h.mono HW.out.size));have a0:=bw_cell HA.out 0 (v:=.int .i64 ai) rfl;have a3:=bw_cell HA.out 3 (v:=.bool az) rfl;have a7:=bw_cell HA.out 7 (v:=.int .i64 al) rfl;have b0:=bw_cell HB.out 0 (v:=.int .i64 bi) rfl;have b2:=bw_cell HB.out 2 (v:=.int .i64 bf) rfl;have b3:=bw_cell HB.out 3 (v:=.bool bz) rfl;have b6:=bw_cell HB.out 6 (v:=.int .i64 be) rfl;have hel:∀q:Bw w2,elOk q.to ⟨w.heap.size,0,none⟩ 9=true/\elAt q.to ⟨w.heap.size,0,none⟩ 9= #[.int .i64 ai,.int .i64 ag,.int .i64 af,.bool az,.int .i64 ac,.int .i64 ab,.int .i64 ae,.int .i64 al,.int .i64 an]:=fun q=>el_blk (HA.out.ext q.h) rfl
 rcases az with _|_
 ·have HE:=Lib.hid (show R=false from by rw[HR.out];rfl)
  clear HR;refine wp_region_quiet_below (by assumption) (by kernel_rfl) ?_
  repeat (first|go_big_quiet_skip|quiet_step (first|(go_at_call 79;refine below_of (HC.out _))|(go_at_call 80;refine below_of (HN.out _))))
  refine wpQuiet_nil ?_;intro _ hw';obtain⟨q,rfl⟩:=hw';go_wp2_with fail
  go_ret
  exact⟨by rw[HE.out];rfl,HQ.out q⟩
 rcases hok:okE ⟨ai,ag,af,true,ac,ab,ae,al,an⟩ with _|_
 ·have HE:=Lib.hid (show R=false from by rw[HR.out,hok];rfl)
  rw[hok] at HC;simp only[Bool.false_eq_true,if_false] at HC;clear HR hok;refine wp_region_quiet_below (by assumption) (by kernel_rfl) ?_
  repeat (first|go_big_quiet_skip|quiet_step (first|(go_at_call 79;refine below_of (HC.out _))|(go_at_call 80;refine below_of (HN.out _))))
  refine wpQuiet_nil ?_;intro _ hw';obtain⟨q,rfl⟩:=hw';go_wp2_with fail
  go_ret
  exact⟨by rw[HE.out];rfl,HQ.out q⟩
 rw[hok] at HC;simp only[if_true] at HC;replace HN:=Lib.hid (fun wx=>HN.out wx hok);rw[hok] at HR;clear hok;by_cases t1:bi<=ai
 ·have HE:=Lib.hid (show R=false from by rw[HR.out,decide_eq_false (show ¬ (ai<bi/\bf=af+ac) by omega)];rfl)
  have t1': ¬ ai<bi:=by omega
  clear HR;refine wp_region_quiet_below (by assumption) (by kernel_rfl) ?_
  repeat (first|go_big_quiet_skip|quiet_step (first|(go_at_call 79;refine below_of (HC.out _))|(go_at_call 80;refine below_of (HN.out _))))
  refine wpQuiet_nil ?_;intro _ hw';obtain⟨q,rfl⟩:=hw';go_wp2_with fail
  go_ret
  exact⟨by rw[HE.out];rfl,HQ.out q⟩
 have t1':ai<bi:=by omega
 by_cases t2:bf=af+ac
 case neg =>
  have HE:=Lib.hid (show R=false from by rw[HR.out,decide_eq_false (show ¬ (ai<bi/\bf=af+ac) by omega)];rfl);have t2':(bf==af+ac)=false:=by rw[beq_eq_false_iff_ne];exact t2
  clear HR t2;refine wp_region_quiet_below (by assumption) (by kernel_rfl) ?_
  repeat (first|go_big_quiet_skip|quiet_step (first|(go_at_call 79;refine below_of (HC.out _))|(go_at_call 80;refine below_of (HN.out _))))
  refine wpQuiet_nil ?_;intro _ hw';obtain⟨q,rfl⟩:=hw';go_wp2_with fail
  go_ret
  exact⟨by rw[HE.out];rfl,HQ.out q⟩
 have t2':(bf==af+ac)=true:=by rw[t2];simp
 have HR2:=Lib.hid (show R=(!bz||decide (al<=be)) from by rw[HR.out,decide_eq_true (show ai<bi/\bf=af+ac from⟨by omega,t2⟩)];rfl);clear HR t2;rcases bz with _|_
 ·have HE:=Lib.hid (show R=true from by rw[HR2.out];rfl)
  refine wp_region_quiet_below (by assumption) (by kernel_rfl) ?_
  repeat (first|go_big_quiet_skip|quiet_step (first|(go_at_call 79;refine below_of (HC.out _))|(go_at_call 80;refine below_of (HN.out _))))
  refine wpQuiet_nil ?_;intro _ hw';obtain⟨q,rfl⟩:=hw';go_wp2_with fail
  go_ret
  exact⟨by rw[HE.out];rfl,HQ.out q⟩
 ·have HE:=Lib.hid (show R=decide (al<=be) from by rw[HR2.out];rfl)
  refine wp_region_quiet_below (by assumption) (by kernel_rfl) ?_
  repeat (first|go_big_quiet_skip|quiet_step (first|(go_at_call 79;refine below_of (HC.out _))|(go_at_call 80;refine below_of (HN.out _))))
  refine wpQuiet_nil ?_;intro _ hw';obtain⟨q,rfl⟩:=hw';go_wp2_with fail
  go_ret
  exact⟨by rw[HE.out];rfl,HQ.out q⟩
end Op
end Go.Proofs.YtphfmgapiimliaaGreat
namespace Go.Proofs.YtphfmgapiimliaaGreat
namespace Op
open Go.RowKit Hd Rd Vi Dk
theorem rd_drop {w:World} {B n F:Nat} {ad:Addr} {l:List En} (h:Rd w B 9 (some ad) n (flS l)) (hF:F<=n):Rd w B 9 (some (ad.add (F*9))) (n-F) (flS (l.drop F)):=by
 have hl:=rdS_len h;refine⟨by rw[length_flS,List.length_drop,hl],fun hn=>?_⟩;obtain⟨ad',e,hb,hc⟩:=h.cells (by omega);cases e
 refine⟨_,rfl,by rw[add_block];exact hb,fun j u hu=>?_⟩;rw[add_add];obtain⟨k,s,x,rfl,hs,hx,hu2⟩:=flS_inv hu;rw[List.getElem?_drop] at hx;have:=flS_at l _ x hx s hs;rw[hu2] at this;have h2:=hc _ u this
 rwa [show(F+k)*9+s=F*9+(k*9+s) from by omega] at h2
attribute [local go_sem ↓] loadAt_en
attribute [local go_sem] run_loadEl
set_option maxHeartbeats 6400000 in
set_option maxRecDepth 100000 in
theorem chain_any (A:Option Addr) (n c:Nat) (l:List En) (w:World) (hrd:Rd w w.heap.size 9 A n (flS l)) (hn:n<=1000000) (hnc:n<=c) (hA:A=none->c=0) :
  Calls Tryz.prog 16 #[.slice A n c] w fun e w'=>(∃A' c',e=.returned (.slice A' (chE l).length c')/\w'.ownsRow w.heap.size 48 9 (.slice A' (chE l).length c') (chE l).length (flS (chE l))/\(A'=none->c'=0))/\Below w.heap.size w w':=by
 have mixed:Tryz.prog.follows .mixedOrders=true:=by kernel_rfl
 have hln:=rdS_len hrd;have hty:ElTy Tryz.prog 48 9:=⟨en_info,_,Tryz.underlying48⟩
 rcases Nat.eq_zero_or_pos n with h0|hp
 ·subst h0
  obtain rfl:l=[]:=List.length_eq_zero_iff.1 hln;have HCL:=Lib.hid (fun wx (hb:Below w.heap.size w wx)=>clone_en A 0 c [] wx ((hrd.below hb).more hb.size) (by omega) hA);have hw:IntKind.i64.wrap (-1)= -1:=by rw[IntKind.wrap_i64];omega
  clear hrd hln;have hmx:max (-1:Int) 0=0:=by decide
  go_enter Tryz.func16, Tryz.ntmps16
  go_wp2_with fail
  go_loopw [3] (fun s3 wr=>s3=.int .i64 0/\wr=w) (fun _ _=>0)
  case atStart=>exact⟨by first|rfl|(rw[hmx])|simp,rfl⟩
  case round =>
   obtain⟨rfl,rfl⟩:=hrel;go_wp2_with fail
   go_quiet (fail)
   generalize hwd:wr.drewN _=w2 at *
   have HB2:=Lib.hid (show Below wr.heap.size wr w2 from hwd▸below_drewN (Below.refl _ _) _);clear hwd;go_wp2_with (go_at_call 41;refine(HCL.out _ HB2.out).mono ?_;rintro e1 w1 ⟨⟨A',c',rfl,ho,hz⟩,hb1⟩;have HO:=Lib.hid (And.intro ho (And.intro hz hb1));clear ho hz hb1)
   go_ret
   exact⟨⟨A',c',rfl,own_lower HO.out.1 HB2.out.size,HO.out.2.1⟩,HB2.out.trans (HO.out.2.2.mono HB2.out.size)⟩
 obtain⟨m,rfl⟩:∃m,n=m+1:=⟨n-1,by omega⟩
 obtain⟨ad,-,hAd,-⟩:=sl_at (k:=0) hrd (by omega);subst hAd;have hw:IntKind.i64.wrap (((m+1:Nat):Int)-1)=(m:Int):=by rw[IntKind.wrap_i64];omega
 have hmx:max (m:Int) 0=(m:Int):=by omega
 have HF:=Lib.hid (show chF l=back l m by unfold chF;rw[hln,Nat.add_sub_cancel]);have HR:=Lib.hid hrd;have HLN:=Lib.hid hln;have HLI:=Lib.hid (fun(a b:En) wx=>links_any a b wx);have HCL:=Lib.hid (fun(F:Nat) (hF:F<=m) wx (hb:Below w.heap.size w wx)=>clone_en (some (ad.add (F*9))) (m+1-F) (c-F) (l.drop F) wx (((rd_drop hrd (by omega)).below hb).more hb.size) (by omega) (fun h=>by cases h));have HN:=Lib.hid (And.intro hn hnc);generalize hnn:m+1=n at *
 have HNN:=Lib.hid hnn;clear hrd hln hA hp hn hnc hnn
 go_enter Tryz.func16, Tryz.ntmps16
 go_wp2_with fail
 go_loopw [3] (fun s3 wr=>∃k:Nat,s3=.int .i64 (k:Int)/\k<=m/\Hid (back l k=chF l/\Below w.heap.size w wr)) (fun v _=>(intOf v).toNat)
 case atStart=>exact⟨m,by first|rfl|(rw[hw,hmx])|simp,by omega,Lib.hid ⟨HF.out.symm,Below.refl _ _⟩⟩
 case round =>
  clear hw hmx;obtain⟨k,rfl,hk,HX⟩:=hrel;rcases k with _|j
  ·have HE:=Lib.hid (show chF l=0 from HX.out.1.symm)
   have HB:=Lib.hid HX.out.2;clear HX;go_wp2_with fail
   go_quiet (fail)
   generalize hwd:wr.drewN _=w2 at *
   have HB2:=Lib.hid (show Below w.heap.size w w2 from hwd▸below_drewN HB.out _);clear hwd HB;go_wp2_with fail
   refine((HR.out.below HB2.out).more HB2.out.size |> fun h=>clone_en (some ad) n c l w2 h HN.out.1 (fun h=>by cases h)).mono ?_;rintro e1 w1 ⟨⟨A',c',rfl,ho,hz⟩,hb1⟩;have HO:=Lib.hid (And.intro ho (And.intro hz hb1));clear ho hz hb1;have hch:chE l=l:=by show l.drop (chF l)=l;rw[HE.out,List.drop_zero]
   go_wp2_with fail
   go_ret
   rw[hch,HLN.out];exact⟨⟨A',c',rfl,own_lower HO.out.1 HB2.out.size,HO.out.2.1⟩,HB2.out.trans (HO.out.2.2.mono HB2.out.size)⟩
  ·obtain⟨ad1,x,e1,hb1,hx,ok1,at1⟩:=rd_el (k:=j) (HR.out.below HX.out.2) (by have:=HNN.out;omega)
   obtain⟨ad2,y,e2,-,hy,ok2,at2⟩:=rd_el (k:=j+1) (HR.out.below HX.out.2) (by have:=HNN.out;omega);cases e1;cases e2
   have HL:=Lib.hid (lkAt_of hx hy);have HLI2:=Lib.hid (show ∀wx,Calls Tryz.prog 48 #[.agg (Sh.cl x).toArray,.agg (Sh.cl y).toArray] wx fun e w'=>e=.returned (.bool (lnk x y))/\Below wx.heap.size wx w' from fun wx=>HLI.out x y wx);rw[<-HL.out] at HLI2;have hm1:m<=1000000:=by have:=HN.out.1;have:=HNN.out;omega
   have HBK:=Lib.hid (show back l (j+1)=if lkAt l j=true then back l j else j+1 from rfl);have hlt:(ad.add (j*9)).block<wr.heap.size:=by rw[add_block];exact Nat.lt_of_lt_of_le hb1 HX.out.2.size
   have hlt2:(ad.add ((j+1)*9)).block<wr.heap.size:=by rw[add_block];exact Nat.lt_of_lt_of_le hb1 HX.out.2.size
   have q1:∀q:Bw wr,elOk q.to (ad.add (j*9)) 9=true/\elAt q.to (ad.add (j*9)) 9=(Sh.cl x).toArray:=fun q=>by
    obtain⟨g1,g2⟩:=el_below (n:=9) q.h hlt;rw[g1,g2];exact⟨ok1,at1⟩
   have q2:∀q:Bw wr,elOk q.to (ad.add ((j+1)*9)) 9=true/\elAt q.to (ad.add ((j+1)*9)) 9=(Sh.cl y).toArray:=fun q=>by
    obtain⟨g1,g2⟩:=el_below (n:=9) q.h hlt2;rw[g1,g2];exact⟨ok2,at2⟩
   have HB:=Lib.hid (show ∀q:Bw wr,Below w.heap.size w q.to from fun q=>HX.out.2.trans (q.h.mono HX.out.2.size));have i0:(0:Int)<((j+1:Nat):Int):=by omega
   have i6:0<j+1:=Nat.succ_pos j;have i1:IntKind.i64.wrap (((j+1:Nat):Int)-1)=(j:Int):=by rw[IntKind.wrap_i64];omega
   have i2:(j:Int)<(n:Int):=by have:=HNN.out;omega
   have i3:((j+1:Nat):Int)<(n:Int):=by have:=HNN.out;omega
   have i4:(0:Int)<=((j+1:Nat):Int):=by omega
   have i5:(0:Int)<=(j:Int):=by omega
   generalize hjj:j+1=J at *
   generalize lkAt l j=R at *
   go_wp2_with fail
   refine wp_region_quiet_below (by assumption) (by kernel_rfl) ?_
   repeat (first|go_big_quiet_skip|quiet_step (first|(go_at_call 48;refine below_of (HLI2.out _))))
   refine wpQuiet_nil ?_;intro _ hw';obtain⟨q,rfl⟩:=hw';have HBQ:=Lib.hid (HB.out q);clear q1 q2 HB HLI2;generalize q.to=w2 at *
   rcases R with _|_
   ·have HE:=Lib.hid (show chF l=J from by
     have:=HX.out.1;rw[HBK.out,if_neg (by simp)] at this;exact this.symm)
    have HC2:=Lib.hid (HCL.out J (by omega) w2 HBQ.out);have hs1:(J:Int)<=(n:Int):=by omega
    have hs2:J<=n:=by omega
    have hs3:J<c:=by have:=HN.out.2;have:=HNN.out;omega
    have hs4: ¬ c=J:=by omega
    have hs5: ¬ c-J=0:=by omega
    clear HX HBK;go_wp2_with (go_at_call 41;refine HC2.out.mono ?_;rintro e1 w1 ⟨⟨A',c',rfl,ho,hz⟩,hb1⟩;have HO:=Lib.hid (And.intro ho (And.intro hz hb1));clear ho hz hb1)
    go_ret
    have hce:(chE l).length=n-J:=by rw[chE_len,HE.out,HLN.out]
    rw[hce];refine⟨⟨A',c',rfl,?_,HO.out.2.1⟩,HBQ.out.trans (HO.out.2.2.mono HBQ.out.size)⟩;have:=own_lower HO.out.1 HBQ.out.size
    rwa [show l.drop J=chE l from by show _=l.drop (chF l);rw[HE.out]] at this
   ·clear HCL
    go_wp2_with fail
    go_roundw
    ·exact⟨j,by first|rfl|(rw[i1])|go_num,by omega,Lib.hid ⟨by have:=HX.out.1;rw[HBK.out,if_pos rfl] at this;exact this,HBQ.out⟩⟩
    ·simp[intOf];omega
end Op
end Go.Proofs.YtphfmgapiimliaaGreat
namespace Go.Proofs.YtphfmgapiimliaaGreat
namespace Op
open Go.RowKit Hd Rd Vi Dk
theorem chF_at {l:List En} {k n:Nat} (hn:l.length=n) (hk:k<n) (h1:∀j,k<=j->j+1<n->lkAt l j=true) (h2:0<k->lkAt l (k-1)=false):chF l=k:=by
 unfold chF;rw[hn];exact back_uniq (by omega) (fun j a b=>h1 j a (by omega)) h2
attribute [local go_sem ↓] loadAt_en
attribute [local go_sem] run_loadEl
set_option maxHeartbeats 6400000 in
set_option maxRecDepth 100000 in
theorem rchain_any (A:Option Addr) (n c:Nat) (l:List En) (w:World) (hrd:Rd w w.heap.size 9 A n (flS l)) (hn:n<=1000000) :
  Calls Tryz.prog 17 #[.slice A n c] w fun e w'=>(∃A' c',e=.returned (.slice A' (chE l).length c')/\Rd w' w'.heap.size 9 A' (chE l).length (flS (chE l)))/\Below w.heap.size w w':=by
 have mixed:Tryz.prog.follows .mixedOrders=true:=by kernel_rfl
 have hln:=rdS_len hrd;have hty:ElTy Tryz.prog 48 9:=⟨en_info,_,Tryz.underlying48⟩
 have hw:IntKind.i64.wrap ((n:Int)-1)=(n:Int)-1:=by rw[IntKind.wrap_i64];omega
 have HR:=Lib.hid hrd;have HLN:=Lib.hid hln;have HN:=Lib.hid hn;have HLI:=Lib.hid (fun(a b:En) wx=>goes_any a b wx);clear hrd hln hn
 go_enter Tryz.func17, Tryz.ntmps17
 go_wp2_with fail
 go_loopw [3,4] (fun s3 s4 wr=>∃(k:Nat) (A1:Option Addr) (c1:Nat),s4=.int .i64 ((k:Int)-1)/\s3=.slice A1 (n-k) c1/\k<=n/\Hid (Rd wr wr.heap.size 9 A1 (n-k) (flS (l.drop k))/\(A1=none->c1=0)/\(∀j,k<=j->j+1<n->lkAt l j=true)/\Below w.heap.size w wr)) (fun _ v _=>(intOf v+1).toNat)
 case atStart=>exact⟨n,none,0,by first|rfl|(rw[hw]),by rw[Nat.sub_self],by omega,Lib.hid ⟨by rw[Nat.sub_self,show l.drop n=[] from List.drop_eq_nil_of_le (by rw[HLN.out];omega)];exact Rd.nil,fun _=>rfl,fun j a b=>absurd b (by omega),Below.refl _ _⟩⟩
 case round =>
  clear hw;obtain⟨k,A1,c1,rfl,rfl,hk,HX⟩:=hrel;rcases k with _|j
  ·have hce:chE l=l/\n-0=(chE l).length:=by
    have h0:chE l=l:=by
     rcases Nat.eq_zero_or_pos n with e|hp
     ·have:l=[]:=List.length_eq_zero_iff.1 (by rw[HLN.out];exact e)
      subst this;rfl
     ·show l.drop (chF l)=l
      rw[chF_at HLN.out hp HX.out.2.2.1 (fun h=>absurd h (by omega)),List.drop_zero]
    exact⟨h0,by rw[h0,HLN.out];omega⟩
   have HCE:=Lib.hid hce;have h1:((0:Nat):Int)-1= -1:=rfl;clear hce;rw[h1];go_wp2_with fail
   go_ret
   refine⟨⟨A1,c1,by rw[<-HCE.out.2];rfl,?_⟩,HX.out.2.2.2⟩;have h:=HX.out.1;rw[List.drop_zero,Nat.sub_zero] at h;rw[show(chE l).length=n from by rw[HCE.out.1,HLN.out],HCE.out.1];exact h
  ·rw[show(((j+1:Nat):Int)-1)=(j:Int) from by omega]
   obtain⟨ad,x,e1,hb1,hx,ok1,at1⟩:=rd_el (k:=j) (HR.out.below HX.out.2.2.2) (by omega);subst e1;have hlt:(ad.add (j*9)).block<wr.heap.size:=by rw[add_block];exact Nat.lt_of_lt_of_le hb1 HX.out.2.2.2.size
   have HXX:=Lib.hid hx;obtain⟨xi,xg,xf,xz,xc,xb,xe,xl,xn⟩:=x;have q1:∀q:Bw wr,elOk q.to (ad.add (j*9)) 9=true/\elAt q.to (ad.add (j*9)) 9= #[.int .i64 xi,.int .i64 xg,.int .i64 xf,.bool xz,.int .i64 xc,.int .i64 xb,.int .i64 xe,.int .i64 xl,.int .i64 xn]:=fun q=>by
    obtain⟨g1,g2⟩:=el_below (n:=9) q.h hlt;rw[g1,g2];exact⟨ok1,at1⟩
   have HB:=Lib.hid (show ∀q:Bw wr,Below w.heap.size w q.to from fun q=>HX.out.2.2.2.trans (q.h.mono HX.out.2.2.2.size));have i0:(0:Int)<=(j:Int):=by omega
   have i2:(j:Int)<(n:Int):=by omega
   have i3:IntKind.i64.wrap ((j:Int)-1)=(j:Int)-1:=by rw[IntKind.wrap_i64];have:=HN.out;omega
   clear ok1 at1 hx;rcases Nat.eq_zero_or_pos (n-(j+1)) with h0|hp
   ·have g0: ¬ (0:Int)<((n-(j+1):Nat):Int):=by omega
    have g1: ¬ 0<n-(j+1):=by omega
    have HNX:=Lib.hid (show ∀i,j<=i->i+1<n->lkAt l i=true from fun i a b=>absurd b (by omega));have H00:=Lib.hid h0;clear h0;go_wp2_with fail
    refine wp_region_quiet_below (by assumption) (by kernel_rfl) ?_
    repeat (first|go_big_quiet_skip|quiet_step (fail))
    refine wpQuiet_nil ?_;intro _ hw';obtain⟨q,rfl⟩:=hw';clear g0 g1;go_upto_region 7 with (fail)
    have HW2:=Lib.hid (HB.out q);have p1:=q1 q;have HRQ:=Lib.hid ((HX.out.1.below q.h).more q.h.size);clear q1 HB;generalize q.to=w2 at *
    have HOW:=Lib.hid (show(w2.alloc (.cells #[.int .i64 xi,.int .i64 xg,.int .i64 xf,.bool xz,.int .i64 xc,.int .i64 xb,.int .i64 xe,.int .i64 xl,.int .i64 xn] 48)).ownsRow w.heap.size 48 9 (.slice (some ⟨w2.heap.size,0,none⟩) 1 1) 1 (Sh.cl (α:=En) ⟨xi,xg,xf,xz,xc,xb,xe,xl,xn⟩) from World.ownsRow_lit (base:=w.heap.size) (e:=48) (size:=9) w2 #[.int .i64 xi,.int .i64 xg,.int .i64 xf,.bool xz,.int .i64 xc,.int .i64 xb,.int .i64 xe,.int .i64 xl,.int .i64 xn] 1 HW2.out.size (by simp[maxLen]) rfl);have HRO:=Lib.hid ((HRQ.out.below (ext_alloc w2 (.cells #[.int .i64 xi,.int .i64 xg,.int .i64 xf,.bool xz,.int .i64 xc,.int .i64 xb,.int .i64 xe,.int .i64 xl,.int .i64 xn] 48))).more (ext_alloc w2 (.cells #[.int .i64 xi,.int .i64 xg,.int .i64 xf,.bool xz,.int .i64 xc,.int .i64 xb,.int .i64 xe,.int .i64 xl,.int .i64 xn] 48)).size);have HAN:=Lib.hid HX.out.2.1;have HBA:=Lib.hid (HW2.out.trans ((ext_alloc w2 (.cells #[.int .i64 xi,.int .i64 xg,.int .i64 xf,.bool xz,.int .i64 xc,.int .i64 xb,.int .i64 xe,.int .i64 xl,.int .i64 xn] 48)).mono HW2.out.size));have HDR:=Lib.hid (show flS (l.drop j)=Sh.cl (α:=En) ⟨xi,xg,xf,xz,xc,xb,xe,xl,xn⟩++flS (l.drop (j+1)) from by rw[drop_atG l j _ HXX.out];rfl);clear HX HRQ;go_wp2_with (at_builtin;(refine wpList_appV enEl HOW.out HRO.out HAN.out (flS_one one_en _) (by omega) (by have:=HN.out;omega) HBA.out.size ?_);intro v1 w1 hown1 hb1 hg1;have HW:=Lib.hid (And.intro hown1 (HBA.out.trans hb1));clear hown1 hb1 hg1)
    obtain⟨A',c',rfl,-,-⟩:=own_slice HW.out.1;have HO:=HW.out.1;rw[<-HDR.out,show 1+(n-(j+1))=n-j from by omega] at HO;have HOO:=Lib.hid HO;have HWB:=Lib.hid HW.out.2;clear HO HW;rw[show 1+(n-(j+1))=n-j from by omega];go_roundw
    ·refine⟨j,A',c',by first|rfl|(rw[i3]),rfl,by omega,Lib.hid ⟨Rd.of_own HOO.out,?_,HNX.out,HWB.out⟩⟩
     rintro rfl;rcases HOO.out.2 with ⟨hv,-⟩|⟨g,cap,cur,hv,-⟩
     ·simp only[Value.slice.injEq] at hv;exact hv.2.2
     ·cases hv
    ·simp[intOf]<;>omega
   ·obtain⟨ad1,y,e2,hb2,hy,ok2,at2⟩:=rd_el (k:=0) HX.out.1 hp
    rw[List.getElem?_drop] at hy;rw[Nat.zero_mul,show ad1.add 0=ad1 from by unfold Addr.add;simp] at ok2 at2;have HL:=Lib.hid (lkAt_of HXX.out (show l[j+1]? =some y from hy));have HLI2:=Lib.hid (show ∀wx,Calls Tryz.prog 49 #[.agg #[.int .i64 xi,.int .i64 xg,.int .i64 xf,.bool xz,.int .i64 xc,.int .i64 xb,.int .i64 xe,.int .i64 xl,.int .i64 xn],.agg (Sh.cl y).toArray] wx fun e w'=>e=.returned (.bool (lnk ⟨xi,xg,xf,xz,xc,xb,xe,xl,xn⟩ y))/\Below wx.heap.size wx w' from fun wx=>HLI.out ⟨xi,xg,xf,xz,xc,xb,xe,xl,xn⟩ y wx);rw[<-HL.out] at HLI2;have q2:∀q:Bw wr,elOk q.to ad1 9=true/\elAt q.to ad1 9=(Sh.cl y).toArray:=fun q=>by
     obtain⟨g1,g2⟩:=el_below (n:=9) q.h hb2;rw[g1,g2];exact⟨ok2,at2⟩
    have g0:(0:Int)<((n-(j+1):Nat):Int):=by omega
    have g1:0<n-(j+1):=hp;have g2: ¬ n-(j+1)=0:=by omega
    have HA1:=Lib.hid e2;subst e2;clear ok2 at2 hy hb2 HL;rcases hR:lkAt l j with _|_
    ·rw[hR] at HLI2
     have HE:=Lib.hid (show chF l=j+1 from chF_at HLN.out (by omega) HX.out.2.2.1 (fun _=>by rw[Nat.add_sub_cancel];exact hR));clear hR;go_wp2_with fail
     refine wp_region_quiet_below (by assumption) (by kernel_rfl) ?_
     repeat (first|go_big_quiet_skip|quiet_step (first|(go_at_call 49;refine below_of (HLI2.out _))))
     refine wpQuiet_nil ?_;intro _ hw';obtain⟨q,rfl⟩:=hw';go_wp2_with fail
     go_ret
     have hce:(chE l).length=n-(j+1):=by rw[chE_len,HE.out,HLN.out]
     rw[hce,show chE l=l.drop (j+1) from by show l.drop (chF l)=_;rw[HE.out]];exact⟨⟨some ad1,c1,rfl,(HX.out.1.below q.h).more q.h.size⟩,HB.out q⟩
    ·rw[hR] at HLI2
     have HNX:=Lib.hid (show ∀i,j<=i->i+1<n->lkAt l i=true from fun i a b=>by
      by_cases e:i=j
      ·rw[e];exact hR
      ·exact HX.out.2.2.1 i (by omega) b)
     clear hR;go_wp2_with fail
     refine wp_region_quiet_below (by assumption) (by kernel_rfl) ?_
     repeat (first|go_big_quiet_skip|quiet_step (first|(go_at_call 49;refine below_of (HLI2.out _))))
     refine wpQuiet_nil ?_;intro _ hw';obtain⟨q,rfl⟩:=hw';clear q2 HLI2;go_upto_region 7 with (fail)
     have HW2:=Lib.hid (HB.out q);have p1:=q1 q;have HRQ:=Lib.hid ((HX.out.1.below q.h).more q.h.size);clear q1 HB;generalize q.to=w2 at *
     have HOW:=Lib.hid (show(w2.alloc (.cells #[.int .i64 xi,.int .i64 xg,.int .i64 xf,.bool xz,.int .i64 xc,.int .i64 xb,.int .i64 xe,.int .i64 xl,.int .i64 xn] 48)).ownsRow w.heap.size 48 9 (.slice (some ⟨w2.heap.size,0,none⟩) 1 1) 1 (Sh.cl (α:=En) ⟨xi,xg,xf,xz,xc,xb,xe,xl,xn⟩) from World.ownsRow_lit (base:=w.heap.size) (e:=48) (size:=9) w2 #[.int .i64 xi,.int .i64 xg,.int .i64 xf,.bool xz,.int .i64 xc,.int .i64 xb,.int .i64 xe,.int .i64 xl,.int .i64 xn] 1 HW2.out.size (by simp[maxLen]) rfl);have HRO:=Lib.hid ((HRQ.out.below (ext_alloc w2 (.cells #[.int .i64 xi,.int .i64 xg,.int .i64 xf,.bool xz,.int .i64 xc,.int .i64 xb,.int .i64 xe,.int .i64 xl,.int .i64 xn] 48))).more (ext_alloc w2 (.cells #[.int .i64 xi,.int .i64 xg,.int .i64 xf,.bool xz,.int .i64 xc,.int .i64 xb,.int .i64 xe,.int .i64 xl,.int .i64 xn] 48)).size);have HAN:=Lib.hid HX.out.2.1;have HBA:=Lib.hid (HW2.out.trans ((ext_alloc w2 (.cells #[.int .i64 xi,.int .i64 xg,.int .i64 xf,.bool xz,.int .i64 xc,.int .i64 xb,.int .i64 xe,.int .i64 xl,.int .i64 xn] 48)).mono HW2.out.size));have HDR:=Lib.hid (show flS (l.drop j)=Sh.cl (α:=En) ⟨xi,xg,xf,xz,xc,xb,xe,xl,xn⟩++flS (l.drop (j+1)) from by rw[drop_atG l j _ HXX.out];rfl);clear HX HRQ;go_wp2_with (at_builtin;(refine wpList_appV enEl HOW.out HRO.out HAN.out (flS_one one_en _) (by omega) (by have:=HN.out;omega) HBA.out.size ?_);intro v1 w1 hown1 hb1 hg1;have HW:=Lib.hid (And.intro hown1 (HBA.out.trans hb1));clear hown1 hb1 hg1)
     obtain⟨A',c',rfl,-,-⟩:=own_slice HW.out.1;have HO:=HW.out.1;rw[<-HDR.out,show 1+(n-(j+1))=n-j from by omega] at HO;have HOO:=Lib.hid HO;have HWB:=Lib.hid HW.out.2;clear HO HW;rw[show 1+(n-(j+1))=n-j from by omega];go_roundw
     ·refine⟨j,A',c',by first|rfl|(rw[i3]),rfl,by omega,Lib.hid ⟨Rd.of_own HOO.out,?_,HNX.out,HWB.out⟩⟩
      rintro rfl;rcases HOO.out.2 with ⟨hv,-⟩|⟨g,cap,cur,hv,-⟩
      ·simp only[Value.slice.injEq] at hv;exact hv.2.2
      ·cases hv
     ·simp[intOf]<;>omega
end Op
end Go.Proofs.YtphfmgapiimliaaGreat
