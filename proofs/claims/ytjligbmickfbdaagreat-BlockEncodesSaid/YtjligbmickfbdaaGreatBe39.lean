/- tab.Put. huff: best, Encode. varint.add, Put, Get. -/
import Derived.Test.YtjligbmickfbdaaGreatBe33
import Derived.Test.YtjligbmickfbdaaGreatBe15
import Derived.Test.YtjligbmickfbdaaGreatBe35
import Derived.Test.YtjligbmickfbdaaGreatBe25
import Derived.Test.YtjligbmickfbdaaGreatBe23
import Derived.Test.YtjligbmickfbdaaGreatBe34
import Derived.Test.YtjligbmickfbdaaGreatBe38
import Derived.Test.YtjligbmickfbdaaGreatRows
import Derived.Test.YtjligbmickfbdaaGreatBe03
import Derived.Test.YtjligbmickfbdaaGreatBe24
import Derived.Deep.LoopGhost
namespace Go.Proofs.YtjligbmickfbdaaGreat
namespace Tb
open Go.RowKit Bt Cn
theorem tb_take (R:List (Int×Int)) (k:Nat) (x:Int×Int) (h:R[k]? =some x):tb (R.take (k+1))=tb (R.take k)++toB 4 x.1.toNat++gam x.2.toNat:=by
 unfold tb;rw[List.take_add_one,h,List.flatMap_append];simp
theorem length_tb_le:∀(R:List (Int×Int)),(∀x∈R,1<=x.2/\x.2<=1000)->(tb R).length<=23*R.length
 | [],_=>by simp[tb]
 |x::R,h=>by
  have e:tb (x::R)=(toB 4 x.1.toNat++gam x.2.toNat)++tb R:=rfl;have ih:=length_tb_le R (fun y hy=>h y (by simp[hy]));have hx:=h x (by simp);have hb:bl x.2.toNat<=10:=by
   have h1:=bl_spec x.2.toNat (by omega);rcases Nat.lt_or_ge (bl x.2.toNat) 11 with h9|h9
   ·omega
   ·have:=Nat.pow_le_pow_right (n:=2) (by omega) (show 10<=bl x.2.toNat-1 by omega)
    simp only[show(2:Nat)^10=1024 by rfl] at this;omega
  rw[e,List.length_append,List.length_append,length_toB,length_gam _ (by omega),List.length_cons];omega
theorem good_mem:∀(R:List (Int×Int)) (last:Int),Good last R-> ∀x∈R,0<=x.1/\x.1<=15/\1<=x.2/\x.2.toNat<=(flat R).length
 | [],_,_,x,hx=>by simp at hx
 |y::R,last,h,x,hx=>by
  have e:flat (y::R)=List.replicate y.2.toNat y.1++flat R:=rfl;rw[e,List.length_append,List.length_replicate];rcases List.mem_cons.1 hx with rfl|hx
  ·exact⟨h.2.1,h.2.2.1,h.2.2.2.1,by omega⟩
  ·have:=good_mem R y.1 h.2.2.2.2 x hx
   exact⟨this.1,this.2.1,this.2.2.1,by omega⟩
set_option maxHeartbeats 3200000 in
set_option maxRecDepth 100000 in
theorem tput_any (w:World) (B b:Nat) (g:Option Nat) (A:Option Addr) (n c:Nat) (l:List Int) (hW:Wt w B b g []) (hn:n<=257) (hck:checkE l=0) (hok:∀x∈l,0<=x/\x<=15) (hrd:Rd w w.heap.size 1 A n (l.map (Value.int .i64))) :
  Calls Tryz.prog 45 #[.pointer (some ⟨b,0,none⟩),.slice A n c] w fun e w'=>e=.returned (.int .i64 0)/\ ∃g',Wt w' B b g' (tb (runs l))/\Frm w w' b g/\Nxt w g g':=by
 have hln:l.length=n:=by simpa using hrd.len
 have hcon:=check_any A n c l w (by omega) hrd;rw[hck] at hcon;have hruns:=runs_any A n c l w (by omega) hok hrd;have hgd:=runs_good l hok;have hRl:=length_le_flat _ _ hgd.1;have hgm:=good_mem _ _ hgd.1;rw[hgd.2,hln] at hRl hgm;have hblt:b<w.heap.size:=by obtain⟨v,l,rest,n,hW,_⟩:=hW;exact hW.lt
 have hglt:∀m,g=some m->m<w.heap.size:=by
  obtain⟨v,l,rest,n,hW,_,_,_,e⟩:=hW;intro m hm;exact(World.ownsRow.lt hW.own m (by rw[e,hm])).2
 have HC:=Lib.hid hcon;have HU:=Lib.hid hruns;have HG:=Lib.hid hgm;have HGL:=Lib.hid hglt;generalize runs l=R at *
 clear hcon hruns hgd hgm hrd hck hok hln hglt
 go_enter Tryz.func45, Tryz.ntmps45
 go_wp2_with fail
 refine HC.out.mono ?_;rintro e1 w1 ⟨rfl,rfl⟩;go_wp2_with fail
 refine HU.out.mono ?_;rintro e1 w1 ⟨v,rfl,hown,hb1⟩;have hW1:=wt_ext hW hb1;have hF1:=frm_of_below hb1 b g;have hs1:=hb1.size;have hrn:∃A2 c2,v=.slice A2 R.length c2:=by
  obtain⟨A2,c2,e,_⟩:=own_slice hown;exact⟨A2,c2,e⟩
 obtain⟨A2,c2,rfl⟩:=hrn;have H0:Aside (∃g',Wt w1 B b g' (tb (R.take 0))/\Frm w1 w1 b g/\Nxt w1 g g'):=⟨g,by simpa[tb] using hW1,Frm.refl _ _ _,.inl rfl⟩
 have HOWN:=Lib.hid hown;have HB1:=Lib.hid hb1;clear hW1 hF1 hown hb1 HC HU hW;go_wp2_with fail
 go_loopg [18] R.length (fun kx s18 wr=>∃(k:Nat),s18=.int .i64 (k:Int)/\k<=R.length/\R.length-k<=kx/\Aside (∃g',Wt wr B b g' (tb (R.take k))/\Frm w1 wr b g/\Nxt w1 g g'))
 case atStart=>exact⟨0,rfl,by omega,by omega,H0.out⟩
 case round =>
  clear H0;obtain⟨k,rfl,hk,hkx,H⟩:=hrel;by_cases hlt:k<R.length
  ·have hxk:R[k]? =some R[k]:=List.getElem?_eq_getElem hlt
   have hst:=tb_take R k R[k] hxk;have hx:=HG.out R[k] (List.getElem_mem _);have hne:R≠ []:=by rintro rfl;simp at hlt
   obtain⟨gR,cR,hv,_,_,hgR⟩:=own2_some HOWN.out hne;cases hv
   have hcs:=own2_cells HOWN.out hxk;have hge:=own2_ge HOWN.out;have htl:=length_tb_le (R.take k) (fun y hy=>by have:=HG.out y (List.mem_of_mem_take hy);omega);rw[List.length_take,Nat.min_eq_left (by omega)] at htl;obtain⟨g',hW,hF,hN⟩:=H.out;have hbk:wr.heap[gR]? =w1.heap[gR]? :=hF.blk gR hgR (by omega) (fun e=>by have:=HGL.out gR e.symm;omega);have hc1:wr.cell? ⟨gR,k*2,none⟩=some (.int .i64 R[k].1):=by rw[World.cell?_of_block hbk,show k*2=2*k by omega];exact hcs.1
   have hc2:wr.cell? ⟨gR,k*2+1,none⟩=some (.int .i64 R[k].2):=by rw[World.cell?_of_block hbk,show k*2+1=2*k+1 by omega];exact hcs.2
   generalize R[k]=x at *
   obtain⟨x1,x2⟩:=x;simp only at hx hc1 hc2 hst;obtain⟨y,rfl⟩:∃y:Nat,x1=(y:Int):=⟨x1.toNat,by omega⟩
   obtain⟨z,rfl⟩:∃z:Nat,x2=(z:Int):=⟨x2.toNat,by omega⟩
   rw[Int.toNat_natCast,Int.toNat_natCast] at hst;rw[Int.toNat_natCast] at hx;have hy:y<2^4:=by have:=hx.2.1;simp only[show(2:Nat)^4=16 by rfl];omega
   have hz:0<z/\z<=257:=by omega
   have hbw:b<wr.heap.size:=by have:=hF.size;omega
   have hgw:∀m,g'=some m->m<wr.heap.size:=by
    obtain⟨v,l,rest,n,hW2,_,_,_,e⟩:=hW;intro m hm;exact(World.ownsRow.lt hW2.own m (by rw[e,hm])).2
   have hP:∀wx,Below wr.heap.size wr wx->Calls Tryz.prog 89 #[.pointer (some ⟨b,0,none⟩),.int .i64 (y:Int),.int .i64 4] wx fun e w'=>e=.returned (.int .i64 0) /\
     ∃g2,Wt w' B b g2 (tb (R.take k)++toB 4 y)/\Frm wx w' b g'/\Nxt wx g' g2:=fun wx hb=>Put_any wx B b g' _ y 4 (wt_ext hW hb) hy (by omega) (by omega)
   have hQ:∀wx g2,Wt wx B b g2 (tb (R.take k)++toB 4 y)->Calls Tryz.prog 90 #[.pointer (some ⟨b,0,none⟩),.int .i64 (z:Int)] wx fun e w'=>e=.returned (.int .i64 0) /\
     ∃g3,Wt w' B b g3 (tb (R.take (k+1)))/\Frm wx w' b g2/\Nxt wx g2 g3:=fun wx g2 hW2=>by
    rw[hst];exact gamma_any wx B b g2 _ z hW2 hz.1 (by omega) (by rw[List.length_append,length_toB];omega)
   have HP:=Lib.hid hP;have HQ:=Lib.hid hQ;have HF:Aside (Frm w1 wr b g/\Nxt w1 g g'):=⟨hF,hN⟩
   have HGW:=Lib.hid hgw;clear hP hQ hF hN hW hgw hst hcs hx htl hxk hbk hy hz H;go_wp2_with fail
   refine(HP.out _ (ext_alloc wr _)).mono ?_;rintro e2 w2 ⟨rfl,g2,hW2,hF2,hN2⟩;have hcell:w2.cell? ⟨wr.heap.size,1,none⟩=some (.int .i64 (z:Int)):=by
    rw[World.cell?_of_block (hF2.blk wr.heap.size (by simp) (by omega) (fun e=>by have:=HGW.out _ e.symm;omega)),World.cell?_alloc_new];rfl
   have HF2:Aside (Frm w1 w2 b g/\Nxt w1 g g2):=by
    refine⟨(HF.out.1.trans (frm_of_below (ext_alloc wr _) b g') HF.out.2).trans hF2 HF.out.2,HF.out.2.trans hN2 ?_⟩;have:=HF.out.1.size;rw[World.size_alloc];omega
   clear hF2 hN2 HF;have HW2:=Lib.hid hW2;clear hW2;go_wp2_with fail
   refine(HQ.out _ g2 HW2.out).mono ?_;rintro e3 w3 ⟨rfl,g3,hW3,hF3,hN3⟩;have HN:Aside (∃g',Wt w3 B b g' (tb (R.take (k+1)))/\Frm w1 w3 b g/\Nxt w1 g g'):=⟨g3,hW3,HF2.out.1.trans hF3 HF2.out.2,HF2.out.2.trans hN3 HF2.out.1.size⟩
   clear hW3 hF3 hN3 HW2 HF2 HP HQ;go_wp2_with fail
   go_roundg (R.length-(k+1))
   case measure=>omega
   case rel=>exact⟨k+1,by go_num,by omega,by omega,HN.out⟩
  ·have e:R.take k=R:=List.take_of_length_le (by omega)
   have hE:∃g',Wt wr B b g' (tb R)/\Frm w wr b g/\Nxt w g g':=by
    obtain⟨g',h1,h2,h3⟩:=H.out;rw[e] at h1;refine⟨g',h1,(frm_of_below HB1.out b g).trans h2 (.inl rfl),?_⟩;rcases h3 with e|⟨m,e,hm⟩
    ·exact .inl e
    ·exact .inr ⟨m,e,Nat.le_trans HB1.out.size hm⟩
   have HE:Aside _:=hE;clear H hE e;go_wp2_with fail
   go_ret
   exact⟨rfl,HE.out⟩
end Tb
end Go.Proofs.YtjligbmickfbdaaGreat
namespace Go.Proofs.YtjligbmickfbdaaGreat
namespace Hf
open Go.RowKit Cn
open Bt (Frm Wt Nxt)
set_option maxHeartbeats 3200000 in
set_option maxRecDepth 100000 in
theorem hbest_any (A:Option Addr) (n c:Nat) (l:List Int) (w:World) (hn:n<=20000) (hall:l.all okS=true) (hrd:Rd w w.heap.size 1 A n (l.map (Value.int .i64))) :
  Calls Tryz.prog 43 #[.slice A n c] w fun e w'=>∃v u,e=.returned (.tuple #[v,u,.int .i64 0])/\Own w' w.heap.size v (lns l)/\Below w.heap.size w w':=by
 have mixed:Tryz.prog.follows .mixedOrders=true:=by kernel_rfl
 have hcon:=counts_any A n c l w (by omega) hrd;rw[(ctsE_yes l hall).1,(ctsE_yes l hall).2] at hcon;have HC:=Lib.hid hcon;have hln:l.length=n:=by simpa using hrd.len
 have HBD:=Lib.hid (cts_bd l);have HLN:=Lib.hid hln;clear hcon hrd hln
 go_enter Tryz.func43, Tryz.ntmps43
 go_wp2_with fail
 refine HC.out.mono ?_;rintro e1 w1 ⟨v1,rfl,hown1,hb1⟩;obtain⟨A1,c1,rfl,_,_,hr1⟩:=hown1.rd;have hb:=Ln.best_any A1 (cts l).length c1 (cts l) w1 (by rw[length_cts];omega) (fun x hx=>⟨(HBD.out x hx).1,by have:=(HBD.out x hx).2;have:=HLN.out;omega⟩) hr1;have HB:=Lib.hid hb;have HB1:=Lib.hid hb1;clear hb hb1 hown1 hr1 HC;rw[length_cts] at HB ⊢;go_wp2_with fail
 refine HB.out.mono ?_;rintro e2 w2 ⟨v2,rfl,hown2,hb2⟩;have hs1:=HB1.out.size;have HX:Aside (Own w2 w.heap.size v2 (lns l)/\Below w.heap.size w w2):=⟨hown2.lower hs1,HB1.out.trans (hb2.mono hs1)⟩
 clear hown2 hb2 HB;go_wp2_with fail
 go_ret3
 exact⟨_,_,rfl,HX.out.1,HX.out.2⟩
theorem wt_new (w:World):Wt (w.alloc (.cells #[.slice none 0 0,.int .u64 0,.int .i64 0] 83)) w.heap.size w.heap.size none [] :=
 ⟨.slice none 0 0,[],0,0,⟨heap_alloc_new w _,Nat.le_refl _,World.ownsRow_nil _ _ _ _,by simp[Value.ownBlock]⟩,by omega,by omega,rfl,rfl⟩
theorem wt_lt {w:World} {B b:Nat} {g:Option Nat} {bs:List Bool} (h:Wt w B b g bs):b<w.heap.size/\B<=b/\ ∀k,g=some k->B<=k:=by
 obtain⟨v,l,rest,n,hW,_,_,_,rfl⟩:=h;exact⟨hW.lt,hW.ge,fun k hk=>(World.ownsRow.lt hW.own k hk).1⟩
theorem enc_take (l syms:List Int) (k:Nat) (h:k<syms.length):enc l (syms.take (k+1))=enc l (syms.take k)++Bt.toB (l.getD syms[k].toNat 0).toNat (wd l syms[k].toNat):=by
 unfold enc;rw[List.take_add_one,List.getElem?_eq_getElem h,List.flatMap_append];simp
theorem enc_len (l:List Int) (h:∀x∈l,0<=x/\x<=15):∀(syms:List Int),(enc l syms).length<=15*syms.length
 | []=>by simp[enc]
 |s::r=>by
  have e:enc l (s::r)=Bt.toB (l.getD s.toNat 0).toNat (wd l s.toNat)++enc l r:=rfl;have ih:=enc_len l h r;have hx:(l.getD s.toNat 0).toNat<=15:=by
   rw[List.getD_eq_getElem?_getD];by_cases hs:s.toNat<l.length
   ·rw[List.getElem?_eq_getElem hs]
    have:=h _ (List.getElem_mem hs);simp only[Option.getD_some];omega
   ·rw[List.getElem?_eq_none (by omega)];simp
  rw[e,List.length_append,Bt.length_toB,List.length_cons];omega
set_option maxHeartbeats 3200000 in
set_option maxRecDepth 100000 in
theorem encode_any (A:Option Addr) (n c:Nat) (l:List Int) (w:World) (hn:n<=20000) (hall:l.all okS=true) (hrd:Rd w w.heap.size 1 A n (l.map (Value.int .i64))) :
  Calls Tryz.prog 18 #[.slice A n c] w fun e w'=>e=.returned (.tuple #[.string ⟨(hbyt l).toArray⟩,.int .i64 0])/\Below w.heap.size w w':=by
 have mixed:Tryz.prog.follows .mixedOrders=true:=by kernel_rfl
 have hln:l.length=n:=by simpa using hrd.len
 have HB:=Lib.hid (hbest_any A n c l w hn hall hrd);have HR:=Lib.hid hrd;have HALL:=Lib.hid hall;have HLN:=Lib.hid hln;have hg:=lns_good l;have hlen:=length_lns l;have hck:=check_lns l;have hus:∀k,(h:k<l.length)->0<=l[k]/\ ∃hs:l[k].toNat<(lns l).length,0<(lns l)[l[k].toNat]:=by
  intro k h;have hs:=List.getElem_mem h;have ho:0<=l[k]/\l[k]<257:=by simpa[okS] using List.all_eq_true.1 hall l[k] hs
  refine⟨ho.1,by omega,?_⟩;obtain⟨h1,h2⟩:=cts_pos l l[k] hs hall;have:=(hg.used l[k].toNat h1).2 h2
  rwa [List.getD_eq_getElem?_getD,List.getElem?_eq_getElem (by omega)] at this
 have hrl:(Tb.runs (lns l)).length<=257:=by
  have h1:=Tb.runs_good (lns l) hg.rng;have:=Tb.length_le_flat _ _ h1.1;rw[h1.2] at this;omega
 have htl:(Tb.tb (Tb.runs (lns l))).length<=10000:=by
  have h1:=Tb.runs_good (lns l) hg.rng;have:=Tb.length_tb_le (Tb.runs (lns l)) (fun x hx=>by
   have:=Tb.good_mem _ _ h1.1 x hx;rw[h1.2] at this;omega)
  omega
 have hel:=enc_len (lns l) hg.rng;have hhb:hbyt l=Bt.byt (Tb.tb (Tb.runs (lns l))++enc (lns l) (l.take l.length)):=by rw[List.take_length];rfl
 have HHB:=Lib.hid hhb;have HRNG:=Lib.hid hg.rng;have HEL:=Lib.hid hel;have HUS:=Lib.hid hus;have HCK:=Lib.hid hck;generalize lns l=L at *
 have HPUT:=Lib.hid (fun(w:World) B b g A c hW hrd=>Tb.tput_any w B b g A 257 c L hW (by omega) hck hg.rng hrd);have HOKL:=Lib.hid (ok_check hck).1;generalize Tb.tb (Tb.runs L)=T at *
 clear hrd hall hln hg hck hus hel hhb hrl
 go_enter Tryz.func18, Tryz.ntmps18
 go_wp2_with fail
 refine HB.out.mono ?_;rintro e1 w1 ⟨v1,u1,rfl,hown1,hb1⟩;obtain⟨A1,c1,rfl,_,_,hr1⟩:=hown1.rd;rw[hlen] at hr1 ⊢;have HR1:=Lib.hid hr1;have HB1:=Lib.hid hb1;clear hown1 hr1 hb1 HB;go_wp2_with fail
 refine(new_any A1 257 c1 L w1 (by omega) HCK.out HOKL.out HR1.out).mono ?_;rintro e2 w2 ⟨b,rfl,hcd,hbge,hb2,_⟩;have HCD:=Lib.hid hcd;have HB2:=Lib.hid hb2;have hblt:=hcd.lt;have hs1:=HB1.out.size;have hs2:=hb2.size;clear hcd hb2;go_wp2_with fail
 have hw3:=wt_new w2;have hb3:Below w2.heap.size w2 (w2.alloc (.cells #[.slice none 0 0,.int .u64 0,.int .i64 0] 83)):=(Below.refl _ _).alloc (Nat.le_refl _) _;generalize w2.alloc (.cells #[.slice none 0 0,.int .u64 0,.int .i64 0] 83)=w3 at *
 have hr3:Rd w3 w3.heap.size 1 A1 257 (L.map (Value.int .i64)):=((HR1.out.below HB2.out).more HB2.out.size).ext hb3;refine(HPUT.out w3 _ _ _ A1 c1 hw3 hr3).mono ?_;rintro e4 w4 ⟨rfl,g4,hW4,hF4,hN4⟩;have hb4:Below w2.heap.size w2 w4:=hb3.trans (hF4.below (Nat.le_refl _) (wt_lt hw3).1 (by simp));have H0:Aside (Wt w4 w2.heap.size w2.heap.size g4 (T++enc L (l.take 0))/\Below w2.heap.size w2 w4):=⟨by simpa[enc] using hW4,hb4⟩
 clear hw3 hb3 hr3 hW4 hF4 hN4 hb4 HPUT;go_wp2_with fail
 go_loopg [40] n (fun kx s40 wr=>∃(k:Nat),s40=.int .i64 (k:Int)/\k<=n/\n-k<=kx/\Aside (∃g,Wt wr w2.heap.size w2.heap.size g (T++enc L (l.take k))/\Below w2.heap.size w2 wr))
 case atStart=>exact⟨0,rfl,by omega,by omega,g4,H0.out⟩
 case round =>
  clear H0;obtain⟨k,rfl,hk,hkx,H⟩:=hrel;obtain⟨g,hW,hbw⟩:=H.out;have hB02:Below w.heap.size w w2:=HB1.out.trans (HB2.out.mono hs1);by_cases hlt:k<n
  ·have hb0:Below w.heap.size w wr:=hB02.trans (hbw.mono (by omega))
   obtain⟨ad,x,rfl,had,hx,hcell⟩:=(HR.out.below hb0).int1 hlt;have hkl:k<l.length:=by have:=HLN.out;omega
   have hkx2:l[k]=x:=by rw[List.getElem?_eq_getElem hkl] at hx;exact Option.some.inj hx
   have hu:=HUS.out k hkl;have het:=enc_take L l k hkl;rw[hkx2] at hu het;obtain⟨s,rfl⟩:∃s:Nat,x=(s:Int):=⟨x.toNat,by omega⟩
   rw[Int.toNat_natCast] at hu het;obtain⟨_,hsl,hsp⟩:=hu;rw[List.getD_eq_getElem?_getD,List.getElem?_eq_getElem hsl,Option.getD_some] at het;have hel:=HEL.out (l.take k);rw[List.length_take] at hel;have HP:=Lib.hid (cput_any wr b s L w2.heap.size w2.heap.size g (T++enc L (l.take k)) (HCD.out.ext hbw) HOKL.out (by omega) hsl hsp hW (by rw[List.length_append];omega));have HET:=Lib.hid het;have HBW:=Lib.hid hbw;have HWL:=Lib.hid (wt_lt hW);clear hb0 hx hkl hkx2 het hel had hW hbw H;go_wp2_with fail
   refine HP.out.mono ?_;rintro e5 w5 ⟨rfl,g5,hW5,hF5,hN5⟩;have hX:∃g,Wt w5 w2.heap.size w2.heap.size g (T++enc L (l.take (k+1)))/\Below w2.heap.size w2 w5 :=
    ⟨g5,by rw[HET.out,<-List.append_assoc];exact hW5,HBW.out.trans (hF5.below (Nat.le_refl _) HWL.out.1 HWL.out.2.2)⟩
   have HX:Aside _:=hX;clear hX hW5 hF5 hN5 HP;go_wp2_with fail
   go_roundg (n-(k+1))
   case measure=>omega
   case rel=>exact⟨k+1,by go_num,by omega,by omega,HX.out⟩
  ·obtain rfl:k=l.length:=by have:=HLN.out;omega
   have hel:=HEL.out (l.take l.length);rw[List.length_take] at hel;have HT:=Lib.hid (Bt.text_any wr w2.heap.size w2.heap.size g (T++enc L (l.take l.length)) hW (by rw[List.length_append];omega));have HBB:=Lib.hid (hB02.trans (hbw.mono (by omega)));clear hel hW hbw H;go_wp2_with fail
   refine HT.out.mono ?_;rintro e5 w5 ⟨rfl,hb5⟩;have HX:=Lib.hid (ext_trans HBB.out hb5);clear hb5 HT;rw[show Bt.btxt (T++enc L (l.take l.length))=⟨(hbyt l).toArray⟩ by rw[HHB.out];rfl];go_wp2_with fail
   go_ret2
   exact⟨rfl,HX.out⟩
end Hf
end Go.Proofs.YtjligbmickfbdaaGreat
namespace Go.Proofs.YtjligbmickfbdaaGreat
namespace Vi
open Go.RowKit
set_option maxRecDepth 20000 in
theorem or128 (n:Nat):bits .or .u8 ((n:Int)%256) 128=((UInt8.ofNat (n%128+128)).toNat:Int):=by
 have h:∀a:Fin 256,bits .or .u8 (a.val:Int) 128=((a.val%128+128:Nat):Int):=by decide
 have:=h ⟨n%256,by omega⟩;rw[toNat_ofNat _ (by omega)];rw[show(n:Int)%256=((n%256:Nat):Int) by omega,this];simp only;omega
theorem low7 (n:Nat) (h:n<128):(n:Int)=((UInt8.ofNat n).toNat:Int):=by
 rw[toNat_ofNat _ (by omega)]
set_option maxHeartbeats 1600000 in
set_option maxRecDepth 100000 in
theorem add_any (v:Value) (l:List UInt8) (B N:Nat) (w:World) (hown:OwnB w B v l) (hB:B<=w.heap.size) (hl:l.length<=1000000) (hN:N<9223372036854775808) (hput:(putV N).length<=9) :
  Calls Tryz.prog 42 #[v,.int .i64 (N:Int)] w fun e w'=>∃v',e=.returned v'/\OwnB w' B v' (l++putV N)/\Below B w w':=by
 go_enter Tryz.func42, Tryz.ntmps42
 go_wp2_with fail
 go_loopw [0,1] (fun v1 m wr=>∃(mk:Nat) (acc:List UInt8),m=.int .i64 mk/\mk<9223372036854775808/\Hid (acc++putV mk=l++putV N)/\acc.length<=2000000/\OwnB wr B v1 acc/\Below B w wr) (fun _ m _=>(intOf m).toNat)
 case atStart=>exact⟨N,l,by go_num,hN,rfl,by omega,hown,Below.refl _ _⟩
 case round =>
  obtain⟨mk,acc,rfl,hm,heq,hacc,hown,hbw⟩:=hrel;by_cases hlt:128<=mk
  ·go_wp2_with (at_builtin;refine appendB (UInt8.ofNat (mk%128+128)) (or128 mk) hown (by omega) (Nat.le_trans hB hbw.size) ?_;intro A1 n1 c1 w1 _ hown1 hb1 _ _)
   have hac:(acc++[UInt8.ofNat (mk%128+128)])++putV (mk/128)=l++putV N:=by
    have:=heq.out;rw[putV_step (by omega)] at this;simpa using this
   have hll:=congrArg List.length hac;simp only[List.length_append,List.length_cons,List.length_nil] at hll;exact⟨⟨mk/128,acc++[UInt8.ofNat (mk%128+128)],by go_num,by omega,hac,by simp;omega,hown1,hbw.trans hb1⟩,by simp[intOf];omega⟩
  ·go_wp2_with (at_builtin;refine appendB (UInt8.ofNat mk) (low7 mk (by omega)) hown (by omega) (Nat.le_trans hB hbw.size) ?_;intro A1 n1 c1 w1 _ hown1 hb1 _ _)
   go_ret
   have hd:putV mk=[UInt8.ofNat mk]:=putV_small (by omega);have he:acc++[UInt8.ofNat mk]=l++putV N:=by have:=heq.out;rwa [hd] at this
   exact⟨_,rfl,he▸hown1,hbw.trans hb1⟩
def vtxt (n:Nat):ByteArray:=⟨(putV n).toArray⟩
set_option maxHeartbeats 1600000 in
set_option maxRecDepth 100000 in
theorem put_any (N:Nat) (w:World) (hN:N<9223372036854775808) :
  Calls Tryz.prog 17 #[.int .i64 (N:Int)] w fun e w'=>e=.returned (.tuple #[.string (vtxt N),.int .i64 0])/\Below w.heap.size w w':=by
 have hput:(putV N).length<=9:=length_putV_le N 8 (by omega)
 go_enter Tryz.func17, Tryz.ntmps17
 go_wp2_with (at_make;(refine makeB0 (n:=9) (by omega) (Nat.le_refl w.heap.size) ?_);intro w1 hown1 hg1 hz1)
 refine(add_any _ [] w.heap.size N w1 hown1 (by omega) (by simp) hN hput).mono ?_;rintro e w2 ⟨v',rfl,hown2,hb2⟩;rw[List.nil_append] at hown2;obtain⟨A,c,rfl,_,_,hrd⟩:=hown2.rd;have hs:=run_str (c:=c) hrd;have hb1:Below w.heap.size w w1:=(Below.refl _ _).grown hg1 (Nat.le_refl _) (by simp);go_wp2
 go_ret2
 exact⟨rfl,hb1.trans hb2⟩
end Vi
end Go.Proofs.YtjligbmickfbdaaGreat
