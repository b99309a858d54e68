/- open.log: head, kept. varveref33.Head; varveref21.put, Put. varveref21.Blocks, of any numbers. -/
import Derived.Test.YtphfmgapiimliaaGreatOl21
import Derived.Test.YtphfmgapiimliaaGreatOl13
import Derived.Test.YtphfmgapiimliaaGreatOl17
import Derived.Deep.LoopGhost
import Derived.Test.YtphfmgapiimliaaGreatOl16
namespace Go.Proofs.YtphfmgapiimliaaGreat
namespace Op
open Go.RowKit Hd Rd Vi Dk
def sagg (s:St) (x y z:Sl):Value:=.agg (stc s x y z)
theorem Str.ext {w w':World} {s:St} {x y z:Sl} (h:Str w w.heap.size s x y z) (hb:Below w.heap.size w w'):Str w' w'.heap.size s x y z:=⟨(h.es.below hb).more hb.size,(h.bs.below hb).more hb.size,(h.wt.below hb).more hb.size,h.le,h.mx,h.no⟩
theorem hdOf_at {s:St} {j:Nat} {h:En} (hy:s.mf.es[j]? =some h) (hl:s.mf.es.length=j+1):hdOf s=h:=by
 unfold hdOf;rw[List.getLast?_eq_getElem?,hl,Nat.add_sub_cancel,hy];rfl
set_option maxHeartbeats 3200000 in
set_option maxRecDepth 100000 in
theorem lhead_any (s:St) (x y z:Sl) (w:World) (h:Str w w.heap.size s x y z) (h0:0<s.mf.es.length) (hx1:x.n<=1000000) :
  Calls Tryz.prog 23 #[sagg s x y z] w fun e w'=>e=.returned (.agg #[.int .i64 (hdOf s).i,.int .i64 (hdOf s).g,.int .i64 (hdOf s).f])/\Below w.heap.size w w':=by
 have hln:=rdS_len h.es;obtain⟨j,hj⟩:∃j,x.n=j+1:=⟨x.n-1,by omega⟩
 obtain⟨ad,e,hA,hbk,hy,f0,fj⟩:=sl_at (k:=j) h.es (by omega);rw[hdOf_at hy (by omega)];clear h hy h0 hln;obtain⟨⟨cb,ct,cs,ca,ck,cy,co⟩,⟨mg,mx,mt,mf,es⟩,bs,sz,nx,nw,wt,rd⟩:=s;obtain⟨A1,n1,c1⟩:=x;obtain⟨A2,n2,c2⟩:=y;obtain⟨A3,n3,c3⟩:=z;unfold sagg stc Sl.v;dsimp only at *
 obtain⟨ei,eg,ef,ez,ec,eb,ee,el,en⟩:=e;have HW:=Lib.hid (ext_second w (.cells #[.int .i64 cb,.int .i64 ct,.int .i64 cs,.int .i64 ca,.int .i64 ck,.int .i64 cy,.int .i64 co,.int .i64 mg,.int .i64 mx,.int .i64 mt,.int .i64 mf,.slice A1 n1 c1,.slice A2 n2 c2,.int .i64 sz,.int .i64 nx,.int .i64 nw,.slice A3 n3 c3,.bool rd] 59) (.cells #[.int .i64 0,.int .i64 0,.int .i64 0] 35));have u0:w.cell? (ad.add (j*9))=some (.int .i64 ei):=f0;have u1:w.cell? ⟨(ad.add (j*9)).block,(ad.add (j*9)).off+1,none⟩=some (.int .i64 eg):=fj 0 (by decide);have u2:w.cell? ⟨(ad.add (j*9)).block,(ad.add (j*9)).off+2,none⟩=some (.int .i64 ef):=fj 1 (by decide);subst hA;have hlt:(ad.add (j*9)).block<w.heap.size:=by rw[add_block];exact hbk
 have k0:=(HW.out.cell hlt).trans u0;have k1:=(HW.out.cell (p:=⟨(ad.add (j*9)).block,(ad.add (j*9)).off+1,none⟩) hlt).trans u1;have k2:=(HW.out.cell (p:=⟨(ad.add (j*9)).block,(ad.add (j*9)).off+2,none⟩) hlt).trans u2;have b2:IntKind.i64.wrap ((n1:Int)-1)=(j:Int):=by rw[IntKind.wrap_i64];omega
 have b3:(j:Int)<(n1:Int):=by omega
 have b5:(0:Int)<=(j:Int):=by omega
 have HJ:=Lib.hid hj;clear hj f0 fj u0 u1 u2 hbk hlt
 go_enter Tryz.func23, Tryz.ntmps23
 go_wp2_with fail
 refine bodyPost_ret (v:=.agg #[.int .i64 ei,.int .i64 eg,.int .i64 ef]) (by simp[results,go_sem]) rfl ?_;exact⟨rfl,ext_second w _ _⟩
set_option maxHeartbeats 3200000 in
set_option maxRecDepth 100000 in
theorem kept_any (s:St) (x y z:Sl) (w:World) (h:Str w w.heap.size s x y z) (hx1:x.n<=1000000) :
  Calls Tryz.prog 31 #[sagg s x y z] w fun e w'=>e=.returned (.bool (keptB s))/\Below w.heap.size w w':=by
 have HM:=Lib.hid (fun(wx:World) (hb:Below w.heap.size w wx)=>mcheck_any s.mf x wx (h.ext hb).es hx1);have HC:=Lib.hid (fun wx=>pcheck_any s.cf wx);have HE:=Lib.hid (show keptB s=(okCf s.cf&&okMf s.mf) from rfl);unfold mfE at HM;unfold cfE at HC;unfold cagg at HC;unfold magg at HM;generalize okCf s.cf=K at *
 generalize okMf s.mf=M at *
 generalize keptB s=E at *
 clear h;obtain⟨⟨cb,ct,cs,ca,ck,cy,co⟩,⟨mg,mx,mt,mf,es⟩,bs,sz,nx,nw,wt,rd⟩:=s;obtain⟨A1,n1,c1⟩:=x;obtain⟨A2,n2,c2⟩:=y;obtain⟨A3,n3,c3⟩:=z;unfold sagg stc Sl.v;dsimp only at *
 have HK:=Lib.hid (Blk.new w #[.int .i64 cb,.int .i64 ct,.int .i64 cs,.int .i64 ca,.int .i64 ck,.int .i64 cy,.int .i64 co,.int .i64 mg,.int .i64 mx,.int .i64 mt,.int .i64 mf,.slice A1 n1 c1,.slice A2 n2 c2,.int .i64 sz,.int .i64 nx,.int .i64 nw,.slice A3 n3 c3,.bool rd] 59);have HW:=Lib.hid (ext_alloc w (.cells #[.int .i64 cb,.int .i64 ct,.int .i64 cs,.int .i64 ca,.int .i64 ck,.int .i64 cy,.int .i64 co,.int .i64 mg,.int .i64 mx,.int .i64 mt,.int .i64 mf,.slice A1 n1 c1,.slice A2 n2 c2,.int .i64 sz,.int .i64 nx,.int .i64 nw,.slice A3 n3 c3,.bool rd] 59));have hE:=HE.out;clear HE;rcases K with _|_
 all_goals
  rcases M with _|_
  all_goals
   subst hE;simp only[Bool.false_eq_true,if_false,if_true] at HM HC
   go_enter Tryz.func31, Tryz.ntmps31
   go_wp2_with (first
    |(go_at_call 50;refine(HC.out _).mono ?_;rintro e1 w1 ⟨rfl,hb1⟩;have HW:=Lib.hid (HW.out.trans (hb1.mono HW.out.size));have HK:=Lib.hid (HK.out.ext hb1);clear hb1;have k7:=HK.out.cell 7 (v:=.int .i64 mg) rfl;have k8:=HK.out.cell 8 (v:=.int .i64 mx) rfl;have k9:=HK.out.cell 9 (v:=.int .i64 mt) rfl;have k10:=HK.out.cell 10 (v:=.int .i64 mf) rfl;have k11:=HK.out.cell 11 (v:=.slice A1 n1 c1) rfl)
    |(go_at_call 61;refine(HM.out _ HW.out).mono ?_;rintro e2 w2 ⟨rfl,hb2⟩;have HW:=Lib.hid (HW.out.trans (hb2.mono HW.out.size));clear hb2))
   go_ret
   exact⟨rfl,HW.out⟩
end Op
end Go.Proofs.YtphfmgapiimliaaGreat
namespace Go.Proofs.YtphfmgapiimliaaGreat
namespace Op
open Go.RowKit Hd Rd Vi Dk Rf
theorem flat_app (a b:List UInt8):rT a++rT b=rT (a++b):=by
 apply ByteArray.ext
 simp[ByteArray.data_append,rT]
set_option maxHeartbeats 3200000 in
set_option maxRecDepth 100000 in
theorem r21put_any (A:Option Addr) (n c:Nat) (l:List Nat) (w:World) (hrd:Rd w w.heap.size 1 A n (nv l)) (hn:n<=100000) (hl:∀x∈l,x<9223372036854775808) :
  Calls Tryz.prog 97 #[.slice A n c] w fun e w'=>e=.returned (.string (rT (l.flatMap putV)))/\Below w.heap.size w w':=by
 have mixed:Tryz.prog.follows .mixedOrders=true:=by kernel_rfl
 have hln:l.length=n:=by have:=hrd.len;simpa[nv] using this
 have HLN:=Lib.hid hln;have HR:=Lib.hid hrd;have HL:=Lib.hid hl;have HE:=Lib.hid (show rT []=⟨#[]⟩ from rfl);clear hrd hl hln
 go_enter Tryz.func97, Tryz.ntmps97
 go_wp2_with fail
 go_loopw [3,4] (fun s v wr=>∃(k:Nat) (T:ByteArray),v=.int .i64 (k:Int)/\s=.string T/\k<=n/\Hid (T=rT ((l.take k).flatMap putV)/\Below w.heap.size w wr)) (fun _ v _=>n-(intOf v).toNat)
 case atStart=>exact⟨0,⟨#[]⟩,by go_num,rfl,by omega,Lib.hid ⟨rfl,Below.refl _ _⟩⟩
 case round =>
  obtain⟨k,T,rfl,rfl,hk,HX⟩:=hrel;by_cases hkn:k<n
  ·have hlk:k<l.length:=by rw[HLN.out];exact hkn
   obtain⟨ad,hA,hbk,hc⟩:=(HR.out.below HX.out.2).cells (by omega);have hx:l[k]? =some l[k]:=List.getElem?_eq_getElem hlk;have c0:=hc k (.int .i64 ((l[k]:Nat):Int)) (by unfold nv;rw[List.getElem?_map,hx];rfl);have hxl:=HL.out l[k] (List.getElem_mem hlk);have HFT:=Lib.hid (flat_take l k l[k] hx);have hsz:T.size+(vtxt l[k]).size<=9223372036854775807:=by
    have h1:=flat_len (l.take k) (fun x hx=>HL.out x (List.mem_of_mem_take hx))
    have h2:=length_putV_le l[k] 8 (by have:(128:Nat)^(8+1)=9223372036854775808:=by decide
                                       omega)
    rw[List.length_take] at h1;have h3:T.size=((l.take k).flatMap putV).length:=by rw[HX.out.1];rfl
    rw[vtxt_size,h3];omega
   subst hA;generalize l[k]=x at *
   have HP:=Lib.hid (fun w=>refput_any (x+1) x w (by omega) hxl);have HC:=Lib.hid (show T++vtxt x=rT ((l.take (k+1)).flatMap putV) from by rw[HFT.out,HX.out.1,<-flat_app];rfl);have HB:=Lib.hid HX.out.2;clear hc hbk hx HX hxl hlk;generalize vtxt x=X at *
   go_wp2_with (go_at_call 144;refine(HP.out _).mono ?_;rintro e1 w1 ⟨rfl,hb1⟩;have HB1:=Lib.hid (HB.out.trans (hb1.mono HB.out.size));clear hb1)
   go_roundw
   case rel=>exact⟨k+1,T++X,by go_num,rfl,by omega,Lib.hid ⟨HC.out,HB1.out⟩⟩
   case measure=>simp[intOf];omega
  ·obtain rfl:n=k:=by omega
   have HQ:=Lib.hid (show T=rT (l.flatMap putV) from by
    have:=HX.out.1
    rwa [List.take_of_length_le (by rw[HLN.out];exact Nat.le_refl _)] at this)
   have HB:=Lib.hid HX.out.2;clear HX;go_wp2_with fail
   go_ret
   exact⟨by rw[<-HQ.out];rfl,HB.out⟩
set_option maxHeartbeats 3200000 in
set_option maxRecDepth 100000 in
theorem r21Put_yes (i g f:Nat) (w:World) (h:1<=i/\i<=999999/\1<=g/\g<=999999/\1<=f/\f<=1000000000) :
  Calls Tryz.prog 57 #[.agg #[.int .i64 (i:Int),.int .i64 (g:Int),.int .i64 (f:Int)]] w fun e w'=>e=.returned (.tuple #[.string (hb i g f),.int .i64 0])/\Below w.heap.size w w':=by
 have HC:=Lib.hid (fun w=>r21c_any (i:Int) (g:Int) (f:Int) w);rw[show okH (i:Int) (g:Int) (f:Int)=true from by unfold okH;rw[decide_eq_true_eq];omega] at HC;simp only[if_true] at HC;have HN:=Lib.hid (Blk.new w #[.int .i64 (i:Int),.int .i64 (g:Int),.int .i64 (f:Int)] 35);have HB:=Lib.hid (ext_alloc w (.cells #[.int .i64 (i:Int),.int .i64 (g:Int),.int .i64 (f:Int)] 35));have HX:=Lib.hid (show ∀x∈ [i,g,f],x<9223372036854775808 by intro x hx;simp at hx;omega);have HE:=Lib.hid (show rT ([i,g,f].flatMap putV)=hb i g f from by unfold rT hb;simp);have HP:=Lib.hid (fun(w1:World)=>r21put_any _ 3 3 [i,g,f] _ (show Rd (w1.alloc (.cells #[.int .i64 (i:Int),.int .i64 (g:Int),.int .i64 (f:Int)] 3)) (w1.alloc (.cells #[.int .i64 (i:Int),.int .i64 (g:Int),.int .i64 (f:Int)] 3)).heap.size 1 (some ⟨w1.heap.size,0,none⟩) 3 (nv [i,g,f]) from
  Rd.of_own (World.ownsRow_lit (base:=w1.heap.size) (e:=3) (size:=1) w1 #[.int .i64 (i:Int),.int .i64 (g:Int),.int .i64 (f:Int)] 3 (Nat.le_refl _) (by simp[maxLen]) rfl)) (by omega) HX.out)
 rw[HE.out] at HP;clear h
 go_enter Tryz.func57, Tryz.ntmps57
 go_wp2_with (first
  |(go_at_call 96;refine(HC.out _).mono ?_;rintro e1 w1 ⟨rfl,hb1⟩;have HB:=Lib.hid (HB.out.trans (hb1.mono HB.out.size));have HN:=Lib.hid (HN.out.ext hb1);clear hb1;have k0:=HN.out.cell 0 (v:=.int .i64 (i:Int)) rfl;have k1:=HN.out.cell 1 (v:=.int .i64 (g:Int)) rfl;have k2:=HN.out.cell 2 (v:=.int .i64 (f:Int)) rfl;have HB2:=Lib.hid (HB.out.trans ((ext_alloc w1 (.cells #[.int .i64 (i:Int),.int .i64 (g:Int),.int .i64 (f:Int)] 3)).mono HB.out.size)))
  |(go_at_call 97;refine(HP.out _).mono ?_;rintro e2 w2 ⟨rfl,hb2⟩;have HB3:=Lib.hid (HB2.out.trans (hb2.mono HB2.out.size));clear hb2))
 go_ret2
 exact⟨rfl,HB3.out⟩
set_option maxHeartbeats 3200000 in
set_option maxRecDepth 100000 in
theorem rhead_any (m:Mf) (s:Sl) (w:World) (hrd:Rd w w.heap.size 9 s.A s.n (flS m.es)) (h0:0<m.es.length) (hn:s.n<=1000000) (X:En) (hX:m.es.getLast? =some X) :
  Calls Tryz.prog 9 #[magg m s] w fun e w'=>e=.returned (.agg #[.int .i64 X.i,.int .i64 X.g,.int .i64 X.f])/\Below w.heap.size w w':=by
 have hln:=rdS_len hrd;obtain⟨j,hj⟩:∃j,s.n=j+1:=⟨s.n-1,by omega⟩
 obtain⟨ad,e,hA,hbk,hy,f0,fj⟩:=sl_at (k:=j) hrd (by omega);rw[List.getLast?_eq_getElem?,show m.es.length-1=j from by omega,hy] at hX;obtain rfl:=Option.some.inj hX;clear hy h0 hln hrd hX;obtain⟨g,x,t,f,es⟩:=m;obtain⟨A,n,c⟩:=s;unfold magg;dsimp only at *
 obtain⟨ei,eg,ef,ez,ec,eb,ee,el,en⟩:=e;have u0:w.cell? (ad.add (j*9))=some (.int .i64 ei):=f0;have u1:w.cell? ⟨(ad.add (j*9)).block,(ad.add (j*9)).off+1,none⟩=some (.int .i64 eg):=fj 0 (by decide);have u2:w.cell? ⟨(ad.add (j*9)).block,(ad.add (j*9)).off+2,none⟩=some (.int .i64 ef):=fj 1 (by decide);have HW:=Lib.hid (ext_second w (.cells #[.int .i64 g,.int .i64 x,.int .i64 t,.int .i64 f,.slice A n c] 26) (.cells #[.int .i64 0,.int .i64 0,.int .i64 0] 35));subst hA;have hlt:(ad.add (j*9)).block<w.heap.size:=by rw[add_block];exact hbk
 have k0:=(HW.out.cell hlt).trans u0;have k1:=(HW.out.cell (p:=⟨(ad.add (j*9)).block,(ad.add (j*9)).off+1,none⟩) hlt).trans u1;have k2:=(HW.out.cell (p:=⟨(ad.add (j*9)).block,(ad.add (j*9)).off+2,none⟩) hlt).trans u2;have b2:IntKind.i64.wrap ((n:Int)-1)=(j:Int):=by rw[IntKind.wrap_i64];omega
 have b3:(j:Int)<(n:Int):=by omega
 have b5:(0:Int)<=(j:Int):=by omega
 have HJ:=Lib.hid hj;clear hj f0 fj u0 u1 u2 hbk hlt
 go_enter Tryz.func9, Tryz.ntmps9
 go_wp2_with fail
 refine bodyPost_ret (v:=.agg #[.int .i64 ei,.int .i64 eg,.int .i64 ef]) (by simp[results,go_sem]) rfl ?_;exact⟨rfl,ext_second w _ _⟩
end Op
end Go.Proofs.YtphfmgapiimliaaGreat
namespace Go.Proofs.YtphfmgapiimliaaGreat
namespace Op
open Go.RowKit Hd Rd Vi Dk Rf
theorem okBi_iff (l:List Mi):okBi l=true↔l.length<=1000/\ ∀(j:Nat) (r:Mi),l[j]? =some r->okMi r=true/\ ∀p,0<j->l[j-1]? =some p->folMi p r=true:=by
 unfold okBi;rw[Bool.and_eq_true,decide_eq_true_eq,rowG_iff];refine and_congr_right fun _=>⟨fun h j r hj=>⟨(h j r hj).1,fun p h0 hp=>(h j r hj).2 p (by rw[if_neg (by omega)];exact hp)⟩,fun h j r hj=>⟨(h j r hj).1,fun p hp=>?_⟩⟩
 by_cases h0:j=0
 ·rw[if_pos h0] at hp;cases hp
 ·rw[if_neg h0] at hp
  exact(h j r hj).2 p (by omega) hp
set_option maxHeartbeats 12800000 in
set_option maxRecDepth 100000 in
theorem r21blocks_any (A:Option Addr) (n c:Nat) (l:List Mi) (w:World) (hrd:Rd w w.heap.size 7 A n (flS l)) (hn:n<=1000000) :
  Calls Tryz.prog 58 #[.slice A n c] w fun e w'=>e=.returned (.int .i64 (bE l))/\Below w.heap.size w w':=by
 have mixed:Tryz.prog.follows .mixedOrders=true:=by kernel_rfl
 have hln:=rdS_len hrd;by_cases hbig:1000<n
 ·have HE:=Lib.hid (bE_no (l:=l) (by
   rcases hb:okBi l with _|_
   ·rfl
   ·have:=((okBi_iff l).1 hb).1;omega))
  have hb':(1000:Int)<(n:Int):=by omega
  clear hrd hln hbig
  go_enter Tryz.func58, Tryz.ntmps58
  go_wp2_with fail
  go_ret
  exact⟨by rw[HE.out];rfl,Below.refl _ _⟩
 have hb': ¬ (1000:Int)<(n:Int):=by omega
 have HLN:=Lib.hid hln;have HR:=Lib.hid hrd;have HN0:=Lib.hid hbig;have HNO:=Lib.hid (show ∀(j:Nat) (r:Mi),l[j]? =some r-> ¬ (okMi r=true/\ ∀p,0<j->l[j-1]? =some p->folMi p r=true)->bE l=211 from fun j r hj hno=>bE_no (by
  rcases hok:okBi l with _|_
  ·rfl
  ·exact absurd (((okBi_iff l).1 hok).2 j r hj) hno))
 clear hrd hln hbig
 go_enter Tryz.func58, Tryz.ntmps58
 go_wp2_with fail
 go_loopw [3] (fun v wr=>∃k:Nat,v=.int .i64 k/\k<=n/\Hid ((∀(j:Nat) (r:Mi),j<k->l[j]? =some r->okMi r=true/\ ∀p,0<j->l[j-1]? =some p->folMi p r=true)/\Below w.heap.size w wr)) (fun v _=>n-(intOf v).toNat)
 case atStart=>exact⟨0,by go_num,by omega,Lib.hid ⟨fun j r h=>absurd h (by omega),Below.refl _ _⟩⟩
 case round =>
  obtain⟨k,rfl,hk,HX⟩:=hrel;by_cases hkn:k<n
  ·obtain⟨ad,m,rfl,hbk,hx,e0,ej⟩:=sl_at (HR.out.below HX.out.2) hkn
   have i1:(0:Int)<=(k:Int):=by omega
   have i2:(k:Int)<(n:Int):=by omega
   have c0:wr.cell? (ad.add (k*7))=some (.int .i64 m.a):=e0;have c1:wr.cell? ⟨(ad.add (k*7)).block,(ad.add (k*7)).off+1,none⟩=some (.int .i64 m.s):=ej 0 (by decide);have c2:wr.cell? ⟨(ad.add (k*7)).block,(ad.add (k*7)).off+2,none⟩=some (.int .i64 m.r):=ej 1 (by decide);have c3:wr.cell? ⟨(ad.add (k*7)).block,(ad.add (k*7)).off+3,none⟩=some (.int .i64 m.c):=ej 2 (by decide);have c4:wr.cell? ⟨(ad.add (k*7)).block,(ad.add (k*7)).off+4,none⟩=some (.int .i64 m.f):=ej 3 (by decide);have c5:wr.cell? ⟨(ad.add (k*7)).block,(ad.add (k*7)).off+5,none⟩=some (.int .i64 m.e):=ej 4 (by decide);have c6:wr.cell? ⟨(ad.add (k*7)).block,(ad.add (k*7)).off+6,none⟩=some (.int .i64 m.l):=ej 5 (by decide);have HB:=Lib.hid HX.out.2;have HB1:=Lib.hid (HB.out.trans ((ext_alloc wr (.cells #[.int .i64 m.a,.int .i64 m.s,.int .i64 m.r,.int .i64 m.c,.int .i64 m.f,.int .i64 m.e,.int .i64 m.l] 66)).mono HB.out.size));have hlt:=Nat.lt_of_lt_of_le hbk HB.out.size;by_cases ho:okMi m=true
   case neg =>
    have HE:=Lib.hid (HNO.out k m hx (fun h=>ho h.1));have HO:=Lib.hid (fun h=>ho ((okMi_iff m).2 h));obtain⟨ma,ms,mr,mc,mff,me,ml⟩:=m;dsimp only at *
    clear ho hx HX hbk e0 ej hlt;go_wp2_with fail
    all_goals first
     |(go_ret;exact⟨by rw[HE.out];rfl,HB1.out⟩)
     |(exfalso;refine HO.out ?_;first|omega|(simp only[wrap64] at *;omega))
   have hb:=(okMi_iff m).1 ho;obtain⟨o1,o2,o3,o4,o5,o6,o7,o8,o9,o10,o11,o12,o13⟩:=hb;have w1:IntKind.i64.wrap (1000000001-m.c)=1000000001-m.c:=by rw[IntKind.wrap_i64];omega
   have o14:m.f<=1000000001-m.c:=by omega
   by_cases hk0:k=0
   ·have HN:=Lib.hid (show ∀(j:Nat) (r:Mi),j<k+1->l[j]? =some r->okMi r=true/\ ∀p,0<j->l[j-1]? =some p->folMi p r=true from fun j r hj hr=>by
     obtain rfl:j=k:=by omega
     rw[hx] at hr;cases hr;exact⟨ho,fun p h=>absurd h (by omega)⟩)
    have hk1: ¬ (0:Int)<(k:Int):=by omega
    obtain⟨ma,ms,mr,mc,mff,me,ml⟩:=m;dsimp only at *
    clear ho hx HX hbk e0 ej hk0 hlt;go_wp2_with fail
    go_roundw
    case rel=>exact⟨k+1,by go_num,by omega,Lib.hid ⟨HN.out,HB1.out⟩⟩
    case measure=>simp[intOf];omega
   ·obtain⟨j',hj'⟩:∃j,k=j+1:=⟨k-1,by omega⟩
    obtain⟨ad',p,hA',hbk',hxp,f0,fj⟩:=sl_at (k:=j') (HR.out.below HX.out.2) (by omega);obtain rfl:ad=ad':=Option.some.inj hA';have p0:wr.cell? (ad.add (j'*7))=some (.int .i64 p.a):=f0;have p1:wr.cell? ⟨(ad.add (j'*7)).block,(ad.add (j'*7)).off+1,none⟩=some (.int .i64 p.s):=fj 0 (by decide);have p2:wr.cell? ⟨(ad.add (j'*7)).block,(ad.add (j'*7)).off+2,none⟩=some (.int .i64 p.r):=fj 1 (by decide);have p3:wr.cell? ⟨(ad.add (j'*7)).block,(ad.add (j'*7)).off+3,none⟩=some (.int .i64 p.c):=fj 2 (by decide);have p4:wr.cell? ⟨(ad.add (j'*7)).block,(ad.add (j'*7)).off+4,none⟩=some (.int .i64 p.f):=fj 3 (by decide);have p5:wr.cell? ⟨(ad.add (j'*7)).block,(ad.add (j'*7)).off+5,none⟩=some (.int .i64 p.e):=fj 4 (by decide);have p6:wr.cell? ⟨(ad.add (j'*7)).block,(ad.add (j'*7)).off+6,none⟩=some (.int .i64 p.l):=fj 5 (by decide);have hop:=(okMi_iff p).1 (HX.out.1 j' p (by omega) hxp).1;have hlt2:(ad.add (j'*7)).block<wr.heap.size:=by rw[add_block];exact hlt
    have hk1:(0:Int)<(k:Int):=by omega
    have w2:IntKind.i64.wrap ((k:Int)-1)=(j':Int):=by rw[IntKind.wrap_i64];omega
    have i5:(0:Int)<=(j':Int):=by omega
    have i6:(j':Int)<(n:Int):=by omega
    have w3:IntKind.i64.wrap (p.a+p.s)=p.a+p.s:=by rw[IntKind.wrap_i64];omega
    have w4:IntKind.i64.wrap (p.f+p.c)=p.f+p.c:=by rw[IntKind.wrap_i64];omega
    have hxp':l[k-1]? =some p:=by rw[hj',Nat.add_sub_cancel];exact hxp
    have HBAD:=Lib.hid (fun(hb: ¬ (m.a=p.a+p.s/\m.f=p.f+p.c/\p.l<=m.e))=>HNO.out k m hx (fun h=>hb (by
     have:=h.2 p (by omega) hxp';unfold folMi at this;exact of_decide_eq_true this)))
    have HGOOD:=Lib.hid (fun(hb:m.a=p.a+p.s/\m.f=p.f+p.c/\p.l<=m.e)=>show ∀(j:Nat) (r:Mi),j<k+1->l[j]? =some r->okMi r=true/\ ∀p,0<j->l[j-1]? =some p->folMi p r=true from fun j r hj hr=>by
     rcases Nat.lt_or_ge j k with h|h
     ·exact HX.out.1 j r h hr
     ·obtain rfl:j=k:=by omega
      rw[hx] at hr;cases hr;exact⟨ho,fun p' _ hp'=>by rw[hxp'] at hp';cases hp';exact decide_eq_true hb⟩)
    have HB2:=Lib.hid (HB1.out.trans ((ext_alloc (wr.alloc (.cells #[.int .i64 m.a,.int .i64 m.s,.int .i64 m.r,.int .i64 m.c,.int .i64 m.f,.int .i64 m.e,.int .i64 m.l] 66)) (.cells #[.int .i64 p.a,.int .i64 p.s,.int .i64 p.r,.int .i64 p.c,.int .i64 p.f,.int .i64 p.e,.int .i64 p.l] 66)).mono HB1.out.size));have s0:=(World.cell?_alloc_lt wr (.cells #[.int .i64 m.a,.int .i64 m.s,.int .i64 m.r,.int .i64 m.c,.int .i64 m.f,.int .i64 m.e,.int .i64 m.l] 66) _ hlt2).trans p0;have s1:=(World.cell?_alloc_lt wr (.cells #[.int .i64 m.a,.int .i64 m.s,.int .i64 m.r,.int .i64 m.c,.int .i64 m.f,.int .i64 m.e,.int .i64 m.l] 66) ⟨(ad.add (j'*7)).block,(ad.add (j'*7)).off+1,none⟩ hlt2).trans p1;have s2:=(World.cell?_alloc_lt wr (.cells #[.int .i64 m.a,.int .i64 m.s,.int .i64 m.r,.int .i64 m.c,.int .i64 m.f,.int .i64 m.e,.int .i64 m.l] 66) ⟨(ad.add (j'*7)).block,(ad.add (j'*7)).off+2,none⟩ hlt2).trans p2;have s3:=(World.cell?_alloc_lt wr (.cells #[.int .i64 m.a,.int .i64 m.s,.int .i64 m.r,.int .i64 m.c,.int .i64 m.f,.int .i64 m.e,.int .i64 m.l] 66) ⟨(ad.add (j'*7)).block,(ad.add (j'*7)).off+3,none⟩ hlt2).trans p3;have s4:=(World.cell?_alloc_lt wr (.cells #[.int .i64 m.a,.int .i64 m.s,.int .i64 m.r,.int .i64 m.c,.int .i64 m.f,.int .i64 m.e,.int .i64 m.l] 66) ⟨(ad.add (j'*7)).block,(ad.add (j'*7)).off+4,none⟩ hlt2).trans p4;have s5:=(World.cell?_alloc_lt wr (.cells #[.int .i64 m.a,.int .i64 m.s,.int .i64 m.r,.int .i64 m.c,.int .i64 m.f,.int .i64 m.e,.int .i64 m.l] 66) ⟨(ad.add (j'*7)).block,(ad.add (j'*7)).off+5,none⟩ hlt2).trans p5;have s6:=(World.cell?_alloc_lt wr (.cells #[.int .i64 m.a,.int .i64 m.s,.int .i64 m.r,.int .i64 m.c,.int .i64 m.f,.int .i64 m.e,.int .i64 m.l] 66) ⟨(ad.add (j'*7)).block,(ad.add (j'*7)).off+6,none⟩ hlt2).trans p6;obtain⟨ma,ms,mr,mc,mff,me,ml⟩:=m;obtain⟨pa,ps,pr,pc_,pff,pe,pl⟩:=p;dsimp only at *
    have HJ:=Lib.hid hj';clear ho hx hxp hxp' hop HX hbk hbk' e0 ej f0 fj hk0 hA' hj' hlt hlt2 p0 p1 p2 p3 p4 p5 p6;by_cases hg:ma=pa+ps/\mff=pff+pc_/\pl<=me
    ·have HN:=Lib.hid (HGOOD.out hg)
     obtain⟨g1,g2,g3⟩:=hg;have z1:(ma==pa+ps)=true:=by rw[beq_iff_eq];exact g1
     have z2:(mff==pff+pc_)=true:=by rw[beq_iff_eq];exact g2
     clear HBAD HGOOD g1 g2;go_wp2_with fail
     go_roundw
     case rel=>exact⟨k+1,by go_num,by omega,Lib.hid ⟨HN.out,HB2.out⟩⟩
     case measure=>simp[intOf];omega
    ·have HE:=Lib.hid (HBAD.out hg)
     clear HGOOD HBAD;by_cases g1:ma=pa+ps
     case neg =>
      have z1:(ma==pa+ps)=false:=by rw[beq_eq_false_iff_ne];exact g1
      clear g1 hg;go_wp2_with fail
      go_ret
      exact⟨by rw[HE.out];rfl,HB2.out⟩
     have z1:(ma==pa+ps)=true:=by rw[beq_iff_eq];exact g1
     by_cases g2:mff=pff+pc_
     case neg =>
      have z2:(mff==pff+pc_)=false:=by rw[beq_eq_false_iff_ne];exact g2
      clear g1 g2 hg;go_wp2_with fail
      go_ret
      exact⟨by rw[HE.out];rfl,HB2.out⟩
     have z2:(mff==pff+pc_)=true:=by rw[beq_iff_eq];exact g2
     have z3: ¬ pl<=me:=fun h=>hg ⟨g1,g2,h⟩
     clear g1 g2 hg;go_wp2_with fail
     go_ret
     exact⟨by rw[HE.out];rfl,HB2.out⟩
  ·obtain rfl:n=k:=by omega
   have HE:=Lib.hid (show bE l=0 from bE_yes ((okBi_iff l).2 ⟨by have:=HLN.out;have:=HN0.out;omega,fun j r hj=>HX.out.1 j r (by rw[<-HLN.out];exact(List.getElem?_eq_some_iff.1 hj).1) hj⟩));have HB:=Lib.hid HX.out.2;clear HX;go_wp2_with fail
   go_ret
   exact⟨by rw[HE.out];rfl,HB.out⟩
end Op
end Go.Proofs.YtphfmgapiimliaaGreat
