/- mani.Encode, of manifests that may be. -/
import Derived.Test.YtejcdhdfanfkbaaGreatFb34
namespace Go.Proofs.YtejcdhdfanfkbaaGreat
namespace Op
open Go.RowKit Hd Rd Vi Dk Sn Bd
def en9I (x:En):List Int:=[x.i,x.g,x.f,(if x.z=true then 1 else 0),x.c,x.b,x.e,x.l,x.n]
def mfI (m:Mf):List Int:=[m.g,m.x,m.t,m.fl,(m.es.length:Int)]++m.es.flatMap en9I
theorem length_en9I:∀(l:List En),(l.flatMap en9I).length=l.length*9
 | []=>rfl
 |m::l=>by rw[List.flatMap_cons,List.length_append,length_en9I l,List.length_cons];show 9+_=_;omega
theorem en9I_take (l:List En) (k:Nat) (m:En) (h:l[k]? =some m):(l.take (k+1)).flatMap en9I=(l.take k).flatMap en9I++en9I m:=by
 rw[List.take_add_one,h,List.flatMap_append];simp
theorem en9_ints {x:En} (h:okE x=true):ints (en9 x)=en9I x:=by
 have hb:=okE_bd h;have h1:((x.i.toNat:Nat):Int)=x.i:=by omega
 have h2:((x.g.toNat:Nat):Int)=x.g:=by omega
 have h3:((x.f.toNat:Nat):Int)=x.f:=by omega
 have h4:((x.c.toNat:Nat):Int)=x.c:=by omega
 have h5:((x.b.toNat:Nat):Int)=x.b:=by omega
 have h6:((x.e.toNat:Nat):Int)=x.e:=by omega
 have h7:((x.l.toNat:Nat):Int)=x.l:=by omega
 have h8:((x.n.toNat:Nat):Int)=x.n:=by omega
 unfold ints en9 en9I;simp only[List.map_cons,List.map_nil,h1,h2,h3,h4,h5,h6,h7,h8];cases x.z<;>rfl
theorem mfI_ints {m:Mf} (h:MfOk m):ints (mfN m)=mfI m:=by
 have key:∀l:List En,(∀x∈l,okE x=true)->ints (l.flatMap en9)=l.flatMap en9I:=by
  intro l
  induction l with
  |nil=>intro _;rfl
  |cons x l ih =>
   intro hl;rw[List.flatMap_cons,List.flatMap_cons,ints_append,en9_ints (hl x (List.mem_cons_self ..)),ih fun y hy=>hl y (List.mem_cons_of_mem _ hy)]
 have h1:((m.g.toNat:Nat):Int)=m.g:=by have:=h.g;omega
 have h2:((m.x.toNat:Nat):Int)=m.x:=by have:=h.x;omega
 have h3:((m.t.toNat:Nat):Int)=m.t:=by have:=h.t;omega
 have h4:((m.fl.toNat:Nat):Int)=m.fl:=by have:=h.f;omega
 unfold mfN mfI;rw[ints_append,key _ h.e];unfold ints;simp only[List.map_cons,List.map_nil,h1,h2,h3,h4]
set_option maxHeartbeats 6400000 in
set_option maxRecDepth 100000 in
theorem enc_any (m:Mf) (s:Sl) (w:World) (hrd:Rd w w.heap.size 9 s.A s.n (flS m.es)) (hn:s.n<=1000000) (ho:okMf m=true) :
  Calls Tryz.prog 214 #[magg m s] w fun e w'=>e=.returned (.tuple #[.string (mfB m),.int .i64 0])/\Below w.heap.size w w':=by
 have mixed:Tryz.prog.follows .mixedOrders=true:=by kernel_rfl
 have hk:=okMf_ok ho;have HI:=Lib.hid (mfI_ints hk);have HLT:=Lib.hid (mfN_lt hk);have HNL:=Lib.hid (mfN_len m);have HOK:=Lib.hid hk.e;have hln:=rdS_len hrd;have HLN:=Lib.hid hln;have HCK:=fun(wx:World) (hb:Below w.heap.size w wx)=>mcheck_any m s wx ((hrd.below hb).more hb.size) hn
 rw[show mfE m=0 from if_pos ho] at HCK;replace HCK:=Lib.hid HCK;have HMB:=Lib.hid (show mfB m=⟨((mfN m).flatMap putV).toArray⟩ from rfl);have hn1:s.n<=100:=by have:=hk.n;omega
 have HMI:=Lib.hid (show mfI m=[m.g,m.x,m.t,m.fl,(s.n:Int)]++m.es.flatMap en9I by unfold mfI;rw[hln]);have HR:=Lib.hid hrd;have HLM:=Lib.hid (flat_len (mfN m) (mfN_lt hk));generalize mfB m=MB at *
 generalize mfN m=MN at *
 generalize mfI m=MI at *
 obtain⟨g,nx,t,fl,es⟩:=m;obtain⟨A,n,c⟩:=s;unfold magg at *
 dsimp only at *
 clear hk hrd hn ho hln;have HB:=Lib.hid (ext_alloc w (.cells #[.int .i64 g,.int .i64 nx,.int .i64 t,.int .i64 fl,.slice A n c] 70));have HC:=Lib.hid (Blk.new w #[.int .i64 g,.int .i64 nx,.int .i64 t,.int .i64 fl,.slice A n c] 70)
 go_enter Tryz.func214, Tryz.ntmps214
 go_wp2_with (first
  |(refine wpList_load_row rfl 70 (.tmp 1) rfl w.heap.size #[.int .i64 g,.int .i64 nx,.int .i64 t,.int .i64 fl,.slice A n c] _ (by simp[go_sem,Act.eval]) HC.out Tryz.underlying70 rfl mf_info ?_)
  |(go_at_call 178;refine(HCK.out _ HB.out).mono ?_;rintro e1 w1 ⟨rfl,hb1⟩;have HB1:=Lib.hid (HB.out.trans (hb1.mono HB.out.size));have HC1:=Lib.hid (HC.out.ext hb1);clear hb1 HB HC;have k0:=HC1.out.cell 0 (v:=.int .i64 g) rfl;have k1:=HC1.out.cell 1 (v:=.int .i64 nx) rfl;have k2:=HC1.out.cell 2 (v:=.int .i64 t) rfl;have k3:=HC1.out.cell 3 (v:=.int .i64 fl) rfl;have k4:=HC1.out.cell 4 (v:=.slice A n c) rfl;have k4':=(HC1.out.alloc (.cells #[.int .i64 g,.int .i64 nx,.int .i64 t,.int .i64 fl,.int .i64 (n:Int)] 3)).cell 4 (v:=.slice A n c) rfl))
 have HW:=Lib.hid (World.ownsRow_lit (base:=w.heap.size) (e:=3) (size:=1) w1 #[.int .i64 g,.int .i64 nx,.int .i64 t,.int .i64 fl,.int .i64 (n:Int)] 5 HB1.out.size (by simp[maxLen]) rfl);have HB2:=Lib.hid (HB1.out.trans ((ext_alloc w1 (.cells #[.int .i64 g,.int .i64 nx,.int .i64 t,.int .i64 fl,.int .i64 (n:Int)] 3)).mono HB1.out.size));clear k0 k1 k2 k3 k4 k4';go_loopw [5,34] (fun s5 s34 wr=>∃(k:Nat) (A1:Option Addr) (n1 c1:Nat),s34=.int .i64 (k:Int)/\s5=.slice A1 n1 c1/\k<=n/\Hid (Own wr w.heap.size (.slice A1 n1 c1) ([g,nx,t,fl,(n:Int)]++(es.take k).flatMap en9I)/\Below w.heap.size w wr)) (fun _ v _=>n-(intOf v).toNat)
 case atStart=>exact⟨0,_,_,_,by go_num,rfl,by omega,Lib.hid ⟨HW.out,HB2.out⟩⟩
 case round =>
  clear HW HB2 HCK HB1 HC1;obtain⟨k,A5,n5,c5,rfl,rfl,hk,HX⟩:=hrel;by_cases hkn:k<n
  ·obtain⟨ad,x,hA,hbk,hx,e0,ej⟩:=sl_at (HR.out.below HX.out.2) hkn
   have HNT:=Lib.hid (en9I_take es k x hx);have h0:wr.cell? (ad.add (k*9))=some (.int .i64 x.i):=e0;have h1:wr.cell? ⟨(ad.add (k*9)).block,(ad.add (k*9)).off+1,none⟩=some (.int .i64 x.g):=ej 0 (by decide);have h2:wr.cell? ⟨(ad.add (k*9)).block,(ad.add (k*9)).off+2,none⟩=some (.int .i64 x.f):=ej 1 (by decide);have h3:wr.cell? ⟨(ad.add (k*9)).block,(ad.add (k*9)).off+3,none⟩=some (.bool x.z):=ej 2 (by decide);have h4:wr.cell? ⟨(ad.add (k*9)).block,(ad.add (k*9)).off+4,none⟩=some (.int .i64 x.c):=ej 3 (by decide);have h5:wr.cell? ⟨(ad.add (k*9)).block,(ad.add (k*9)).off+5,none⟩=some (.int .i64 x.b):=ej 4 (by decide);have h6:wr.cell? ⟨(ad.add (k*9)).block,(ad.add (k*9)).off+6,none⟩=some (.int .i64 x.e):=ej 5 (by decide);have h7:wr.cell? ⟨(ad.add (k*9)).block,(ad.add (k*9)).off+7,none⟩=some (.int .i64 x.l):=ej 6 (by decide);have h8:wr.cell? ⟨(ad.add (k*9)).block,(ad.add (k*9)).off+8,none⟩=some (.int .i64 x.n):=ej 7 (by decide);obtain⟨xi,xg,xf,xz,xc,xb,xe,xl,xn⟩:=x;dsimp only at h0 h1 h2 h3 h4 h5 h6 h7 h8;have HD:=Lib.hid (show en9I ⟨xi,xg,xf,xz,xc,xb,xe,xl,xn⟩=[xi,xg,xf,(if xz=true then 1 else 0),xc,xb,xe,xl,xn] from rfl);have HO:=Lib.hid (show Own (wr.alloc (.cells #[.int .i64 xi,.int .i64 xg,.int .i64 xf,.bool xz,.int .i64 xc,.int .i64 xb,.int .i64 xe,.int .i64 xl,.int .i64 xn] 217)) w.heap.size (.slice A5 n5 c5) ([g,nx,t,fl,(n:Int)]++(es.take k).flatMap en9I) from HX.out.1.below (ext_alloc wr _) (Nat.le_refl _));have HLE:=Lib.hid (show([g,nx,t,fl,(n:Int)]++(es.take k).flatMap en9I).length<=1099511627776 by rw[List.length_append,length_en9I,List.length_take];simp only[List.length_cons,List.length_nil];omega);have HB3:=Lib.hid (HX.out.2.trans ((ext_alloc wr (.cells #[.int .i64 xi,.int .i64 xg,.int .i64 xf,.bool xz,.int .i64 xc,.int .i64 xb,.int .i64 xe,.int .i64 xl,.int .i64 xn] 217)).mono HX.out.2.size));have hki:(k:Int)<(n:Int):=by omega
   subst hA;clear hx HX hbk e0 ej;rcases xz with _|_
   ·simp only[Bool.false_eq_true,if_false] at HD
    go_wp2_with (at_builtin;go_loud (refine appendL (g:=wr.heap.size+1) [xi,xg,xf,0,xc,xb,xe,xl,xn] (by simp) rfl HO.out HLE.out (by simp) (by simp) HB3.out.size ?_;intro A1 n1 c1 w3 hn1 hown1 hb1 hg1 hat1))
    have HF:=Lib.hid (show[g,nx,t,fl,(n:Int)]++(es.take (k+1)).flatMap en9I=([g,nx,t,fl,(n:Int)]++(es.take k).flatMap en9I)++[xi,xg,xf,0,xc,xb,xe,xl,xn] by rw[HNT.out,HD.out,List.append_assoc]);go_roundw
    case rel=>exact⟨k+1,A1,n1,c1,by go_num,rfl,by omega,Lib.hid ⟨by rw[HF.out];exact hown1,HB3.out.trans hb1⟩⟩
    case measure=>simp[intOf];omega
   ·simp only[if_true] at HD
    go_wp2_with (at_builtin;go_loud (refine appendL (g:=wr.heap.size+1) [xi,xg,xf,1,xc,xb,xe,xl,xn] (by simp) rfl HO.out HLE.out (by simp) (by simp) HB3.out.size ?_;intro A1 n1 c1 w3 hn1 hown1 hb1 hg1 hat1))
    have HF:=Lib.hid (show[g,nx,t,fl,(n:Int)]++(es.take (k+1)).flatMap en9I=([g,nx,t,fl,(n:Int)]++(es.take k).flatMap en9I)++[xi,xg,xf,1,xc,xb,xe,xl,xn] by rw[HNT.out,HD.out,List.append_assoc]);go_roundw
    case rel=>exact⟨k+1,A1,n1,c1,by go_num,rfl,by omega,Lib.hid ⟨by rw[HF.out];exact hown1,HB3.out.trans hb1⟩⟩
    case measure=>simp[intOf];omega
  ·obtain rfl:n=k:=by omega
   obtain⟨wo,rfl⟩:∃x,x=wr:=⟨_,rfl⟩
   have h9:=HX.out;rw[List.take_of_length_le (by rw[HLN.out];omega),<-HMI.out,<-HI.out] at h9;obtain⟨hr5,hz5⟩:=h9.1.rd0;rw[<-hz5,ints_nv] at hr5;have HR5:=Lib.hid hr5;have hn5:MN.length=n5:=by have:=hr5.len;simpa[nv] using this
   have HN5:=Lib.hid hn5;have HB5:=Lib.hid h9.2;have hbb:=bb_new wo;have HBB:=Lib.hid hbb;have HBA:=Lib.hid (ext_alloc wo (.cells #[.pointer none,.slice none 0 0] 88));have hn6:n5<=1000:=by have:=HNL.out;have:=HLN.out;omega
   clear HX h9 hr5 hz5 hn5 hbb HMI HI HNL HR HLN HOK hkn hk;go_wp2_with fail
   generalize hw4:wo.alloc (.cells #[.pointer none,.slice none 0 0] 88)=w4 at *
   clear hw4;go_loopg [66] n5 (fun kx s66 wr=>∃k:Nat,s66=.int .i64 (k:Int)/\k<=n5/\n5-k<=kx/\Hid (Bb wr wo.heap.size wo.heap.size ((MN.take k).flatMap putV)/\Below wo.heap.size wo wr))
   case atStart=>exact⟨0,rfl,by omega,by omega,Lib.hid ⟨HBB.out,HBA.out⟩⟩
   case round =>
    clear HBB HBA;obtain⟨k,rfl,hk,hkx,H⟩:=hrel;by_cases hlt:k<n5
    ·have hlk:k<MN.length:=by rw[HN5.out];exact hlt
     obtain⟨ad,hA,hbk,hc⟩:=(HR5.out.below H.out.2).cells (by omega);have hx:MN[k]? =some MN[k]:=List.getElem?_eq_getElem hlk;have hcell:=hc k (.int .i64 ((MN[k]:Nat):Int)) (by unfold nv;rw[List.getElem?_map,hx];rfl);have hxl:=HLT.out MN[k] (List.getElem_mem hlk);have HFT:=Lib.hid (flat_take MN k MN[k] hx);have HTL:=Lib.hid (show((MN.take k).flatMap putV).length<=9*n5 by
      have:=flat_len (MN.take k) (fun x hx=>HLT.out x (List.mem_of_mem_take hx));rw[List.length_take] at this;omega)
     have HVL:=Lib.hid (length_putV_le MN[k] 8 (by have:(128:Nat)^(8+1)=9223372036854775808:=by decide
                                                   omega))
     subst hA;have hki:(k:Int)<(n5:Int):=by omega
     clear hc hbk hx;generalize MN[k]=x at *
     have HP:=Lib.hid (put_any x wr hxl);clear hlk;go_wp2_with fail
     refine HP.out.mono ?_;rintro e2 w2 ⟨rfl,hb2⟩;have hW:=write_any wo.heap.size wo.heap.size _ (vtxt x) w2 (Bb_below H.out.1 hb2) (by rw[vtxt_size];have:=HTL.out;have:=HVL.out;omega) (by have:=H.out.2.size;have:=hb2.size;omega);rw[vtxt_list,<-HFT.out] at hW;have HW:=Lib.hid hW;have HB2:=Lib.hid (H.out.2.trans (hb2.mono H.out.2.size));clear hW hb2 H;go_wp2_with fail
     refine HW.out.mono ?_;rintro e3 w3 ⟨rfl,hbb3,hb3⟩;have H3:=Lib.hid (And.intro hbb3 (HB2.out.trans hb3));clear hbb3 hb3 HW;go_wp2_with fail
     go_roundg (n5-(k+1))
     case measure=>omega
     case rel=>exact⟨k+1,by go_num,by omega,by omega,H3⟩
    ·obtain rfl:k=n5:=by omega
     have h9:=H.out;rw[List.take_of_length_le (by rw[HN5.out];omega)] at h9;have HS:=Lib.hid (Tryz.Builder_String_any wo.heap.size wo.heap.size _ wr h9.1 h9.2.size);have HBX:=Lib.hid (HB5.out.trans (h9.2.mono HB5.out.size));have hq:=HB5.out.size;clear h9 H;go_wp2_with fail
     refine HS.out.mono ?_;rintro e5 w5 ⟨rfl,hb5⟩;have HBY:=Lib.hid (HBX.out.trans (hb5.mono hq));clear hb5;go_wp2_with fail
     go_ret2
     exact⟨by rw[HMB.out];rfl,HBY.out⟩
end Op
end Go.Proofs.YtejcdhdfanfkbaaGreat
