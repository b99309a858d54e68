/- head.Blocks, of any numbers. -/
import Derived.Test.YtejcdhdfanfkbaaGreatFb10
import Derived.Test.YtejcdhdfanfkbaaGreatFb25
namespace Go.Proofs.YtejcdhdfanfkbaaGreat
namespace Op
open Go.RowKit Hd Bk Sn
abbrev rowI:=rowG okMi folMi
def mvI (m:Mi):Value:=.agg #[.int .i64 m.a,.int .i64 m.s,.int .i64 m.r,.int .i64 m.c,.int .i64 m.f,.int .i64 m.e,.int .i64 m.l]
def bE (l:List Mi):Int:=if okBi l=true then 0 else 211
theorem bE_yes {l:List Mi} (h:okBi l=true):bE l=0:=if_pos h
theorem bE_no {l:List Mi} (h:okBi l=false):bE l=211:=if_neg (by rw[h];simp)
theorem okMi_iff (m:Mi):okMi m=true↔0<=m.a/\m.a<=1000000/\10<=m.s/\m.s<=60009/\1<=m.r/\m.r<=20000/\1<=m.c/\m.c<=m.r/\1<=m.f/\m.f+m.c<=1000000001/\0<=m.e/\m.e<=m.l/\m.l<=1000000000:=by
 unfold okMi aloneB;rw[decide_eq_true_eq];omega
def toMt (m:Mi):Mt:=⟨m.a.toNat,m.s.toNat,m.r.toNat,m.c.toNat,m.f.toNat,m.e.toNat,m.l.toNat⟩
theorem toMt_of {m:Mi} (h:okMi m=true):((toMt m).a:Int)=m.a/\((toMt m).s:Int)=m.s/\((toMt m).r:Int)=m.r/\((toMt m).c:Int)=m.c/\((toMt m).f:Int)=m.f/\((toMt m).e:Int)=m.e/\((toMt m).l:Int)=m.l:=by
 have:=(okMi_iff m).1 h;unfold toMt;dsimp only;omega
theorem okM_of {m:Mi} (h:okMi m=true):okM (toMt m)=true:=by
 have:=(okMi_iff m).1 h;rw[okM_iff];unfold toMt;dsimp only;omega
theorem folB_of {p m:Mi} (hp:okMi p=true) (hm:okMi m=true):folB (toMt p) (toMt m)=folMi p m:=by
 have h1:=(okMi_iff p).1 hp;have h2:=(okMi_iff m).1 hm;unfold folB folMi toMt;dsimp only;rw[decide_eq_decide];omega
theorem cl7_of {m:Mi} (h:okMi m=true):cl7 (toMt m)=cl7i m:=by
 obtain⟨e1,e2,e3,e4,e5,e6,e7⟩:=toMt_of h;unfold cl7 cl7i;rw[e1,e2,e3,e4,e5,e6,e7]
theorem fl7_of:∀{l:List Mi},(∀m∈l,okMi m=true)->fl7 (l.map toMt)=flS l
 | [],_=>rfl
 |m::l,h=>by
  rw[List.map_cons];show cl7 (toMt m)++fl7 (l.map toMt)=cl7i m++flS l
  rw[cl7_of (h m (List.mem_cons_self ..)),fl7_of fun x hx=>h x (List.mem_cons_of_mem _ hx)]
theorem rowM_of:∀{l:List Mi} {q:Option Mi},(∀p,q=some p->okMi p=true)->rowI q l=true->rowM (q.map toMt) (l.map toMt)=true
 | [],q,_,_=>by cases q<;>rfl
 |m::l,none,_,h=>by
  simp only[rowI,rowG,Bool.and_eq_true] at h;simp only[List.map_cons,Option.map_none,rowM,Bool.and_eq_true];exact⟨okM_of h.1,rowM_of (q:=some m) (fun p hp=>by cases hp;exact h.1) h.2⟩
 |m::l,some p,hq,h=>by
  simp only[rowI,rowG,Bool.and_eq_true] at h;simp only[List.map_cons,Option.map_some,rowM,Bool.and_eq_true];exact⟨⟨okM_of h.1.1,by rw[folB_of (hq p rfl) h.1.1];exact h.1.2⟩,rowM_of (q:=some m) (fun p hp=>by cases hp;exact h.1.1) h.2⟩
theorem okBl_of {l:List Mi} (h:okBi l=true):okBl (l.map toMt)=true/\fl7 (l.map toMt)=flS l:=by
 unfold okBi at h;rw[Bool.and_eq_true,decide_eq_true_eq] at h;refine⟨?_,fl7_of (rowG_mem l none h.2)⟩;unfold okBl;rw[Bool.and_eq_true,decide_eq_true_eq,List.length_map];exact⟨h.1,rowM_of (q:=none) (fun p hp=>by cases hp) h.2⟩
theorem alone_mi (m:Mi) (w:World) {b:Bool} (h:okMi m=b):Calls Tryz.prog 224 #[mvI m] w fun e w'=>e=.returned (.bool b)/\Below w.heap.size w w':=by
 have:=alone_any m.a m.s m.r m.c m.f m.e m.l w;subst h;exact this
theorem mv_of {m:Mi} (h:okMi m=true):mv (toMt m)=mvI m:=by
 obtain⟨e1,e2,e3,e4,e5,e6,e7⟩:=toMt_of h;unfold mv Bk.magg mvI;rw[e1,e2,e3,e4,e5,e6,e7]
theorem follows_mi (p m:Mi) (w:World) (hp:okMi p=true) (hm:okMi m=true) {b:Bool} (h:folMi p m=b) :
  Calls Tryz.prog 225 #[mvI p,mvI m] w fun e w'=>e=.returned (.bool b)/\Below w.heap.size w w':=by
 have:=follows_mt (toMt p) (toMt m) w (okM_of hp) (okM_of hm) (b:=b) (by rw[folB_of hp hm];exact h)
 rwa [mv_of hp,mv_of hm] at this
theorem mi_at {w:World} {B n k:Nat} {A:Option Addr} {l:List Mi} (h:Rd w B 7 A n (flS l)) (hk:k<n) :
  ∃ad m,A=some ad/\ad.block<B/\l[k]? =some m/\w.cell? (ad.add (k*7))=some (.int .i64 m.a) /\
   w.cell? ⟨(ad.add (k*7)).block,(ad.add (k*7)).off+1,none⟩=some (.int .i64 m.s)/\w.cell? ⟨(ad.add (k*7)).block,(ad.add (k*7)).off+2,none⟩=some (.int .i64 m.r) /\
   w.cell? ⟨(ad.add (k*7)).block,(ad.add (k*7)).off+3,none⟩=some (.int .i64 m.c)/\w.cell? ⟨(ad.add (k*7)).block,(ad.add (k*7)).off+4,none⟩=some (.int .i64 m.f) /\
   w.cell? ⟨(ad.add (k*7)).block,(ad.add (k*7)).off+5,none⟩=some (.int .i64 m.e)/\w.cell? ⟨(ad.add (k*7)).block,(ad.add (k*7)).off+6,none⟩=some (.int .i64 m.l):=by
 obtain⟨ad,x,e,hb,hx,e0,ej⟩:=sl_at h hk;exact⟨ad,x,e,hb,hx,e0,ej 0 (by decide),ej 1 (by decide),ej 2 (by decide),ej 3 (by decide),ej 4 (by decide),ej 5 (by decide)⟩
set_option maxHeartbeats 6400000 in
set_option maxRecDepth 100000 in
theorem blocksI_any (A:Option Addr) (n c:Nat) (l:List Mi) (w:World) (hrd:Rd w w.heap.size 7 A n (flS l)) (hn:n<=1000000) :
  Calls Tryz.prog 173 #[.slice A n c] w fun e w'=>e=.returned (.int .i64 (bE l))/\Below w.heap.size w w':=by
 have mixed:Tryz.prog.follows .mixedOrders=true:=by kernel_rfl
 have hln:=rdS_len hrd;by_cases hbig:1000<n
 ·have HE:=Lib.hid (bE_no (l:=l) (by unfold okBi;rw[hln,Bool.and_eq_false_iff];left;exact decide_eq_false (by omega)))
  have hb':(1000:Int)<(n:Int):=by omega
  clear hrd hln
  go_enter Tryz.func173, Tryz.ntmps173
  go_wp2_with fail
  go_ret
  exact⟨by rw[HE.out];rfl,Below.refl _ _⟩
 ·have hb': ¬ (1000:Int)<(n:Int):=by omega
  have HOK:=Lib.hid (show ∀b,rowI none l=b->okBi l=b from fun b h=>by unfold okBi;rw[show rowG okMi folMi none l=b from h,hln,decide_eq_true (by omega)];rfl);have HLN:=Lib.hid hln;have HR:=Lib.hid hrd;clear hrd hln hbig
  go_enter Tryz.func173, Tryz.ntmps173
  go_wp2_with fail
  go_loopw [10] (fun v wr=>∃k:Nat,v=.int .i64 k/\k<=n/\Hid (rowI (pvG l k) (l.drop k)=rowI none l/\(∀j r,j<k->l[j]? =some r->okMi r=true)/\Below w.heap.size w wr)) (fun v _=>n-(intOf v).toNat)
  case atStart=>exact⟨0,by go_num,by omega,rfl,fun j r h=>absurd h (by omega),Below.refl _ _⟩
  case round =>
   obtain⟨k,rfl,hk,HX⟩:=hrel;by_cases hkn:k<n
   ·obtain⟨ad,m,hA,hbk,hx,hc0,hc1,hc2,hc3,hc4,hc5,hc6⟩:=mi_at (HR.out.below HX.out.2.2) hkn
    have hbr:(ad.add (k*7)).block<wr.heap.size:=by rw[add_block];exact Nat.lt_of_lt_of_le hbk HX.out.2.2.size
    have HBR:=Lib.hid hbr;have HBN:=Lib.hid (HX.out.2.2.trans ((ext_alloc wr (.cells #[.int .i64 m.a,.int .i64 m.s,.int .i64 m.r,.int .i64 m.c,.int .i64 m.f,.int .i64 m.e,.int .i64 m.l] 154)).mono HX.out.2.2.size));have HM0:=Lib.hid (show Mb (wr.alloc (.cells #[.int .i64 m.a,.int .i64 m.s,.int .i64 m.r,.int .i64 m.c,.int .i64 m.f,.int .i64 m.e,.int .i64 m.l] 154)) wr.heap.size m.a m.s m.r m.c m.f m.e m.l from heap_alloc_new wr _);have HSZ:=Lib.hid HX.out.2.2.size;clear hbr;by_cases ho:okMi m=true
    ·have HA:=Lib.hid (fun w=>alone_mi m w ho)
     by_cases hk0:k=0
     ·have HN:=Lib.hid (show rowI (pvG l (k+1)) (l.drop (k+1))=rowI none l/\ ∀j r,j<k+1->l[j]? =some r->okMi r=true from by
       subst hk0;refine⟨(rowG_on0 hx ho).symm.trans HX.out.1,fun j r hj hr=>?_⟩;obtain rfl:j=0:=by omega
       rw[hx] at hr;cases hr;exact ho)
      have hk1:decide (0<k)=false:=decide_eq_false (by omega);obtain⟨ma,ms,mr,mc,mf,me,ml⟩:=m;unfold mvI at HA;dsimp only at *
      subst hA;clear ho hx HX hbk hk0;go_wp2_with fail
      generalize wr.alloc (.cells #[.int .i64 (ma:Int),.int .i64 (ms:Int),.int .i64 (mr:Int),.int .i64 (mc:Int),.int .i64 (mf:Int),.int .i64 (me:Int),.int .i64 (ml:Int)] 154)=w2 at *
      have l2:=HM0.out.lt;have b0:∀q:Bw w2,q.to.cell? ⟨wr.heap.size,0,none⟩=some (.int .i64 ma):=fun q=>q.cell l2 HM0.out.c0
      have b1:∀q:Bw w2,q.to.cell? ⟨wr.heap.size,1,none⟩=some (.int .i64 ms):=fun q=>q.cell l2 HM0.out.c1
      have b2:∀q:Bw w2,q.to.cell? ⟨wr.heap.size,2,none⟩=some (.int .i64 mr):=fun q=>q.cell l2 HM0.out.c2
      have b3:∀q:Bw w2,q.to.cell? ⟨wr.heap.size,3,none⟩=some (.int .i64 mc):=fun q=>q.cell l2 HM0.out.c3
      have b4:∀q:Bw w2,q.to.cell? ⟨wr.heap.size,4,none⟩=some (.int .i64 mf):=fun q=>q.cell l2 HM0.out.c4
      have b5:∀q:Bw w2,q.to.cell? ⟨wr.heap.size,5,none⟩=some (.int .i64 me):=fun q=>q.cell l2 HM0.out.c5
      have b6:∀q:Bw w2,q.to.cell? ⟨wr.heap.size,6,none⟩=some (.int .i64 ml):=fun q=>q.cell l2 HM0.out.c6
      refine wp_region_quiet_below (by assumption) (by kernel_rfl) ?_
      repeat (first|go_big_quiet_skip|quiet_step (first|(go_at_call 224;refine below_of (HA.out _))))
      refine wpQuiet_nil ?_;intro _ hw';obtain⟨q,rfl⟩:=hw';go_wp2_with fail
      go_roundw
      case rel=>exact⟨k+1,by go_num,by omega,HN.out.1,HN.out.2,HBN.out.trans (q.h.mono HBN.out.size)⟩
      case measure=>simp[intOf];omega
     ·obtain⟨j,hj⟩:∃j,k=j+1:=⟨k-1,by omega⟩
      have hX:Rd w w.heap.size 7 A n (flS l):=HR.out;obtain⟨ad',p,hA',hbk',hxp,pc0,pc1,pc2,pc3,pc4,pc5,pc6⟩:=mi_at (k:=j) (hX.below HX.out.2.2) (by omega);obtain rfl:ad=ad':=Option.some.inj (hA.symm.trans hA');have hop:okMi p=true:=HX.out.2.1 j p (by omega) hxp;have PB:=Lib.hid (show(ad.add (j*7)).block<(wr.alloc (.cells #[.int .i64 m.a,.int .i64 m.s,.int .i64 m.r,.int .i64 m.c,.int .i64 m.f,.int .i64 m.e,.int .i64 m.l] 154)).heap.size from by rw[add_block];have:=HSZ.out;simp;omega);have hlt:(ad.add (j*7)).block<wr.heap.size:=by rw[add_block];exact Nat.lt_of_lt_of_le hbk HSZ.out
      have PC:=Lib.hid (And.intro ((World.cell?_alloc_lt wr (.cells #[.int .i64 m.a,.int .i64 m.s,.int .i64 m.r,.int .i64 m.c,.int .i64 m.f,.int .i64 m.e,.int .i64 m.l] 154) _ hlt).trans pc0) (And.intro ((World.cell?_alloc_lt wr (.cells #[.int .i64 m.a,.int .i64 m.s,.int .i64 m.r,.int .i64 m.c,.int .i64 m.f,.int .i64 m.e,.int .i64 m.l] 154) ⟨(ad.add (j*7)).block,(ad.add (j*7)).off+1,none⟩ hlt).trans pc1)
       (And.intro ((World.cell?_alloc_lt wr (.cells #[.int .i64 m.a,.int .i64 m.s,.int .i64 m.r,.int .i64 m.c,.int .i64 m.f,.int .i64 m.e,.int .i64 m.l] 154) ⟨(ad.add (j*7)).block,(ad.add (j*7)).off+2,none⟩ hlt).trans pc2) (And.intro ((World.cell?_alloc_lt wr (.cells #[.int .i64 m.a,.int .i64 m.s,.int .i64 m.r,.int .i64 m.c,.int .i64 m.f,.int .i64 m.e,.int .i64 m.l] 154) ⟨(ad.add (j*7)).block,(ad.add (j*7)).off+3,none⟩ hlt).trans pc3)
       (And.intro ((World.cell?_alloc_lt wr (.cells #[.int .i64 m.a,.int .i64 m.s,.int .i64 m.r,.int .i64 m.c,.int .i64 m.f,.int .i64 m.e,.int .i64 m.l] 154) ⟨(ad.add (j*7)).block,(ad.add (j*7)).off+4,none⟩ hlt).trans pc4) (And.intro ((World.cell?_alloc_lt wr (.cells #[.int .i64 m.a,.int .i64 m.s,.int .i64 m.r,.int .i64 m.c,.int .i64 m.f,.int .i64 m.e,.int .i64 m.l] 154) ⟨(ad.add (j*7)).block,(ad.add (j*7)).off+5,none⟩ hlt).trans pc5)
        ((World.cell?_alloc_lt wr (.cells #[.int .i64 m.a,.int .i64 m.s,.int .i64 m.r,.int .i64 m.c,.int .i64 m.f,.int .i64 m.e,.int .i64 m.l] 154) ⟨(ad.add (j*7)).block,(ad.add (j*7)).off+6,none⟩ hlt).trans pc6)))))))
      have hk1:decide (0<k)=true:=decide_eq_true (by omega);have w1:IntKind.i64.wrap ((k:Int)-1)=(j:Int):=by rw[IntKind.wrap_i64];omega
      have hjn:(j:Int)<(n:Int):=by omega
      by_cases hf:folMi p m=true
      ·have HFO:=Lib.hid (fun w=>follows_mi p m w hop ho hf)
       have HN:=Lib.hid (show rowI (pvG l (k+1)) (l.drop (k+1))=rowI none l/\ ∀j r,j<k+1->l[j]? =some r->okMi r=true from by
        subst hj;refine⟨(rowG_on hxp hx ho hf).symm.trans HX.out.1,fun i r hi hr=>?_⟩;rcases Nat.lt_or_ge i (j+1) with h|h
        ·exact HX.out.2.1 i r h hr
        ·obtain rfl:i=j+1:=by omega
         rw[hx] at hr;cases hr;exact ho)
       obtain⟨ma,ms,mr,mc,mf,me,ml⟩:=m;obtain⟨pa,ps,pr,pc,pf,pe,pl⟩:=p;unfold mvI at HA HFO;dsimp only at *
       subst hA;clear ho hx HX hbk hk0 hj hX hA' hbk' hxp pc0 pc1 pc2 pc3 pc4 pc5 pc6 hop hlt hf;go_wp2_with fail
       generalize wr.alloc (.cells #[.int .i64 (ma:Int),.int .i64 (ms:Int),.int .i64 (mr:Int),.int .i64 (mc:Int),.int .i64 (mf:Int),.int .i64 (me:Int),.int .i64 (ml:Int)] 154)=w2 at *
       have l2:=HM0.out.lt;have b0:∀q:Bw w2,q.to.cell? ⟨wr.heap.size,0,none⟩=some (.int .i64 ma):=fun q=>q.cell l2 HM0.out.c0
       have b1:∀q:Bw w2,q.to.cell? ⟨wr.heap.size,1,none⟩=some (.int .i64 ms):=fun q=>q.cell l2 HM0.out.c1
       have b2:∀q:Bw w2,q.to.cell? ⟨wr.heap.size,2,none⟩=some (.int .i64 mr):=fun q=>q.cell l2 HM0.out.c2
       have b3:∀q:Bw w2,q.to.cell? ⟨wr.heap.size,3,none⟩=some (.int .i64 mc):=fun q=>q.cell l2 HM0.out.c3
       have b4:∀q:Bw w2,q.to.cell? ⟨wr.heap.size,4,none⟩=some (.int .i64 mf):=fun q=>q.cell l2 HM0.out.c4
       have b5:∀q:Bw w2,q.to.cell? ⟨wr.heap.size,5,none⟩=some (.int .i64 me):=fun q=>q.cell l2 HM0.out.c5
       have b6:∀q:Bw w2,q.to.cell? ⟨wr.heap.size,6,none⟩=some (.int .i64 ml):=fun q=>q.cell l2 HM0.out.c6
       have p0:∀q:Bw w2,q.to.cell? (ad.add (j*7))=some (.int .i64 pa):=fun q=>q.cellAt PB.out PC.out.1
       have p1:∀q:Bw w2,q.to.cell? ⟨(ad.add (j*7)).block,(ad.add (j*7)).off+1,none⟩=some (.int .i64 ps):=fun q=>q.cellAt PB.out PC.out.2.1
       have p2:∀q:Bw w2,q.to.cell? ⟨(ad.add (j*7)).block,(ad.add (j*7)).off+2,none⟩=some (.int .i64 pr):=fun q=>q.cellAt PB.out PC.out.2.2.1
       have p3:∀q:Bw w2,q.to.cell? ⟨(ad.add (j*7)).block,(ad.add (j*7)).off+3,none⟩=some (.int .i64 pc):=fun q=>q.cellAt PB.out PC.out.2.2.2.1
       have p4:∀q:Bw w2,q.to.cell? ⟨(ad.add (j*7)).block,(ad.add (j*7)).off+4,none⟩=some (.int .i64 pf):=fun q=>q.cellAt PB.out PC.out.2.2.2.2.1
       have p5:∀q:Bw w2,q.to.cell? ⟨(ad.add (j*7)).block,(ad.add (j*7)).off+5,none⟩=some (.int .i64 pe):=fun q=>q.cellAt PB.out PC.out.2.2.2.2.2.1
       have p6:∀q:Bw w2,q.to.cell? ⟨(ad.add (j*7)).block,(ad.add (j*7)).off+6,none⟩=some (.int .i64 pl):=fun q=>q.cellAt PB.out PC.out.2.2.2.2.2.2
       refine wp_region_quiet_below (by assumption) (by kernel_rfl) ?_
       repeat (first|go_big_quiet_skip|quiet_step (first|(go_at_call 224;refine below_of (HA.out _))|(go_at_call 225;refine below_of (HFO.out _))))
       refine wpQuiet_nil ?_;intro _ hw';obtain⟨q,rfl⟩:=hw';go_wp2_with fail
       go_roundw
       case rel=>exact⟨k+1,by go_num,by omega,HN.out.1,HN.out.2,HBN.out.trans (q.h.mono HBN.out.size)⟩
       case measure=>simp[intOf];omega
      ·have hf':folMi p m=false:=by simpa using hf
       have HFO:=Lib.hid (fun w=>follows_mi p m w hop ho hf');have HE:=Lib.hid (bE_no (HOK.out false (by
        subst hj;rw[<-HX.out.1];exact rowG_off hxp hx hf')))
       obtain⟨ma,ms,mr,mc,mf,me,ml⟩:=m;obtain⟨pa,ps,pr,pc,pf,pe,pl⟩:=p;unfold mvI at HA HFO;dsimp only at *
       subst hA;clear ho hx HX hbk hk0 hj hX hA' hbk' hxp pc0 pc1 pc2 pc3 pc4 pc5 pc6 hop hlt hf hf';go_wp2_with fail
       generalize wr.alloc (.cells #[.int .i64 (ma:Int),.int .i64 (ms:Int),.int .i64 (mr:Int),.int .i64 (mc:Int),.int .i64 (mf:Int),.int .i64 (me:Int),.int .i64 (ml:Int)] 154)=w2 at *
       have l2:=HM0.out.lt;have b0:∀q:Bw w2,q.to.cell? ⟨wr.heap.size,0,none⟩=some (.int .i64 ma):=fun q=>q.cell l2 HM0.out.c0
       have b1:∀q:Bw w2,q.to.cell? ⟨wr.heap.size,1,none⟩=some (.int .i64 ms):=fun q=>q.cell l2 HM0.out.c1
       have b2:∀q:Bw w2,q.to.cell? ⟨wr.heap.size,2,none⟩=some (.int .i64 mr):=fun q=>q.cell l2 HM0.out.c2
       have b3:∀q:Bw w2,q.to.cell? ⟨wr.heap.size,3,none⟩=some (.int .i64 mc):=fun q=>q.cell l2 HM0.out.c3
       have b4:∀q:Bw w2,q.to.cell? ⟨wr.heap.size,4,none⟩=some (.int .i64 mf):=fun q=>q.cell l2 HM0.out.c4
       have b5:∀q:Bw w2,q.to.cell? ⟨wr.heap.size,5,none⟩=some (.int .i64 me):=fun q=>q.cell l2 HM0.out.c5
       have b6:∀q:Bw w2,q.to.cell? ⟨wr.heap.size,6,none⟩=some (.int .i64 ml):=fun q=>q.cell l2 HM0.out.c6
       have p0:∀q:Bw w2,q.to.cell? (ad.add (j*7))=some (.int .i64 pa):=fun q=>q.cellAt PB.out PC.out.1
       have p1:∀q:Bw w2,q.to.cell? ⟨(ad.add (j*7)).block,(ad.add (j*7)).off+1,none⟩=some (.int .i64 ps):=fun q=>q.cellAt PB.out PC.out.2.1
       have p2:∀q:Bw w2,q.to.cell? ⟨(ad.add (j*7)).block,(ad.add (j*7)).off+2,none⟩=some (.int .i64 pr):=fun q=>q.cellAt PB.out PC.out.2.2.1
       have p3:∀q:Bw w2,q.to.cell? ⟨(ad.add (j*7)).block,(ad.add (j*7)).off+3,none⟩=some (.int .i64 pc):=fun q=>q.cellAt PB.out PC.out.2.2.2.1
       have p4:∀q:Bw w2,q.to.cell? ⟨(ad.add (j*7)).block,(ad.add (j*7)).off+4,none⟩=some (.int .i64 pf):=fun q=>q.cellAt PB.out PC.out.2.2.2.2.1
       have p5:∀q:Bw w2,q.to.cell? ⟨(ad.add (j*7)).block,(ad.add (j*7)).off+5,none⟩=some (.int .i64 pe):=fun q=>q.cellAt PB.out PC.out.2.2.2.2.2.1
       have p6:∀q:Bw w2,q.to.cell? ⟨(ad.add (j*7)).block,(ad.add (j*7)).off+6,none⟩=some (.int .i64 pl):=fun q=>q.cellAt PB.out PC.out.2.2.2.2.2.2
       refine wp_region_quiet_below (by assumption) (by kernel_rfl) ?_
       repeat (first|go_big_quiet_skip|quiet_step (first|(go_at_call 224;refine below_of (HA.out _))|(go_at_call 225;refine below_of (HFO.out _))))
       refine wpQuiet_nil ?_;intro _ hw';obtain⟨q,rfl⟩:=hw';go_wp2_with fail
       go_ret
       exact⟨by rw[HE.out];rfl,HBN.out.trans (q.h.mono HBN.out.size)⟩
    ·have ho':okMi m=false:=by simpa using ho
     have HA:=Lib.hid (fun w=>alone_mi m w ho');have HE:=Lib.hid (bE_no (HOK.out false (by rw[<-HX.out.1];exact rowG_bad hx ho')));obtain⟨ma,ms,mr,mc,mf,me,ml⟩:=m;unfold mvI at HA;dsimp only at *
     subst hA;clear ho ho' hx HX hbk;go_wp2_with fail
     generalize wr.alloc (.cells #[.int .i64 (ma:Int),.int .i64 (ms:Int),.int .i64 (mr:Int),.int .i64 (mc:Int),.int .i64 (mf:Int),.int .i64 (me:Int),.int .i64 (ml:Int)] 154)=w2 at *
     have l2:=HM0.out.lt;have b0:∀q:Bw w2,q.to.cell? ⟨wr.heap.size,0,none⟩=some (.int .i64 ma):=fun q=>q.cell l2 HM0.out.c0
     have b1:∀q:Bw w2,q.to.cell? ⟨wr.heap.size,1,none⟩=some (.int .i64 ms):=fun q=>q.cell l2 HM0.out.c1
     have b2:∀q:Bw w2,q.to.cell? ⟨wr.heap.size,2,none⟩=some (.int .i64 mr):=fun q=>q.cell l2 HM0.out.c2
     have b3:∀q:Bw w2,q.to.cell? ⟨wr.heap.size,3,none⟩=some (.int .i64 mc):=fun q=>q.cell l2 HM0.out.c3
     have b4:∀q:Bw w2,q.to.cell? ⟨wr.heap.size,4,none⟩=some (.int .i64 mf):=fun q=>q.cell l2 HM0.out.c4
     have b5:∀q:Bw w2,q.to.cell? ⟨wr.heap.size,5,none⟩=some (.int .i64 me):=fun q=>q.cell l2 HM0.out.c5
     have b6:∀q:Bw w2,q.to.cell? ⟨wr.heap.size,6,none⟩=some (.int .i64 ml):=fun q=>q.cell l2 HM0.out.c6
     refine wp_region_quiet_below (by assumption) (by kernel_rfl) ?_
     repeat (first|go_big_quiet_skip|quiet_step (first|(go_at_call 224;refine below_of (HA.out _))))
     refine wpQuiet_nil ?_;intro _ hw';obtain⟨q,rfl⟩:=hw';go_wp2_with fail
     go_ret
     exact⟨by rw[HE.out];rfl,HBN.out.trans (q.h.mono HBN.out.size)⟩
   ·obtain rfl:k=n:=by omega
    have HE:=Lib.hid (bE_yes (HOK.out true (by rw[<-HX.out.1];exact rowG_end (by rw[HLN.out];omega))));have HB:=Lib.hid HX.out.2.2;clear HX;go_wp2_with fail
    go_ret
    exact⟨by rw[HE.out];rfl,HB.out⟩
end Op
end Go.Proofs.YtejcdhdfanfkbaaGreat
