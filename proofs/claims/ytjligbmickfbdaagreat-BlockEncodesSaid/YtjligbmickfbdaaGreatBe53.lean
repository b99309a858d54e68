/- block.Encode: a block. varveref17.Encode. take.Caught at block.peek$1. take: the first byte. record.Get. -/
import Derived.Test.YtjligbmickfbdaaGreatBe52
import Derived.Test.YtjligbmickfbdaaGreatBe49
import Derived.Test.YtjligbmickfbdaaGreatBe43
import Derived.Test.YtjligbmickfbdaaGreatBe41
namespace Go.Proofs.YtjligbmickfbdaaGreat
namespace Bk
open Go.RowKit Vi Sq Rd
theorem flat_le:∀(l:List Nat),(∀x∈l,x<9223372036854775808)->(l.flatMap putV).length<=9*l.length
 | [],_=>by simp
 |n::l,h=>by
  have h1:=length_putV_le n 8 (h n (List.mem_cons_self ..));have h2:=flat_le l fun x hx=>h x (List.mem_cons_of_mem _ hx)
  rw[List.flatMap_cons,List.length_append,List.length_cons];omega
def Five (w:World) (b x0 x1 x2 x3 x4:Nat):Prop:=w.heap[b]? =some (.cells #[.int .i64 (x0:Int),.int .i64 (x1:Int),.int .i64 (x2:Int),.int .i64 (x3:Int),.int .i64 (x4:Int)] 3 (0,0))
theorem Five.cell {w:World} {b x0 x1 x2 x3 x4 k N:Nat} (h:Five w b x0 x1 x2 x3 x4) (hk:[x0,x1,x2,x3,x4][k]? =some N):w.cell? ⟨b,k,none⟩=some (.int .i64 (N:Int)):=by
 rw[cell_of_row w b k _ _ (0,0) h];rcases k with _|_|_|_|_|k
 all_goals simp at hk
 all_goals subst hk;rfl
set_option maxHeartbeats 6400000 in
set_option maxRecDepth 100000 in
theorem enc_yes (A:Option Addr) (n c:Nat) (l:List (Int×Int×ByteArray)) (w:World) (hrd:Rd w w.heap.size 3 A n (fl3 l)) (hn:n<=100000) (he:encE l=0) :
  Calls Tryz.prog 14 #[.slice A n c] w fun e w'=>EncAns l e/\Below w.heap.size w w':=by
 have mixed:Tryz.prog.follows .mixedOrders=true:=by kernel_rfl
 have hln:=rd3_len hrd;obtain⟨hj,hl⟩:=enc_ok he;have hn0:0<n:=by rw[<-hln];exact List.length_pos_iff.2 hl
 obtain⟨m,rfl⟩:∃m,n=m+1:=⟨n-1,by omega⟩
 have hJ:=join_any A (m+1) c l w hrd (by omega);rw[jS_ok hj,hj] at hJ;obtain⟨raw,hraw⟩:∃raw:ByteArray,raw=⟨(joinB l).toArray⟩:=⟨_,rfl⟩
 rw[<-hraw] at hJ;have hr1:raw.data.toList=joinB l:=by rw[hraw]
 have hr2:raw.size=(joinB l).length:=by rw[hraw];simp[ByteArray.size]
 have hr3:raw.size<=20000:=by rw[hr2];exact(jE_row hj).2
 have HJ:=Lib.hid hJ;have hP:=fun w=>pack_un raw w hr3
 rw[hr1] at hP;have HP:=Lib.hid hP;have HE:=Lib.hid he;have HR:=Lib.hid hrd;have hn1:(((m:Nat):Int)+1==0)=false:=by rw[beq_eq_false_iff_ne];omega
 have hn2:(((m+1:Nat):Int)==0)=false:=by rw[beq_eq_false_iff_ne];omega
 obtain⟨e1,e2,e3,e4,e5,e6⟩:=ends hj hl;obtain⟨ad,q0,t0,d0,rfl,hbk,hx0,hc00,hc01,-⟩:=rec3 hrd (show 0<m+1 by omega);obtain⟨ad',q1,t1,d1,hA',-,hx1,hc10,hc11,hc12⟩:=rec3 hrd (show m<m+1 by omega);obtain rfl:ad=ad':=by simpa using hA'
 have ha0:at3 l 0=(q0,t0,d0):=Option.some.inj ((at3_get l 0 (by omega)).symm.trans hx0);have ha1:at3 l (l.length-1)=(q1,t1,d1):=Option.some.inj ((at3_get l (l.length-1) (by omega)).symm.trans (by rw[hln];exact hx1));rw[ha0,ha1] at e4;rw[ha0] at e1 e2 e3;rw[ha1] at e5;simp only at e1 e2 e3 e4 e5;obtain⟨Q,rfl⟩:=Int.eq_ofNat_of_zero_le (show 0<=q0 by omega);obtain⟨T,rfl⟩:=Int.eq_ofNat_of_zero_le (show 0<=t0 by omega);obtain⟨D,hD⟩:=Int.eq_ofNat_of_zero_le (show 0<=t1-(T:Int) by omega);have h5:hd5 l=[raw.size,m+1,Q,T,D]:=by unfold hd5;rw[ha0,ha1,hr2,hln];simp only;rw[hD];simp
 have H5:=Lib.hid h5;have HRR:=Lib.hid (And.intro hr1 hr2);have hz:ad.add (0*3)=ad:=by rw[Nat.zero_mul];rfl
 rw[hz] at hc00 hc01;have hlq:l.length=m+1:=hln;rw[hlq] at e2;have HC:=Lib.hid (And.intro hc00 (And.intro hc01 (And.intro hc10 (And.intro hc11 hc12))));clear hJ hP he hraw hr1 hr2 hx0 hx1 hA' ha0 ha1 h5 hz hlq hj hl hrd hc00 hc01 hc10 hc11 hc12 hln
 go_enter Tryz.func14, Tryz.ntmps14
 go_wp2_with fail
 refine HJ.out.mono ?_;rintro e1 w1 ⟨rfl,hb1⟩;have HB1:=Lib.hid hb1;clear hb1 HJ;go_wp2_with fail
 refine(HP.out _).mono ?_;rintro e2 w2 ⟨sh,arr,hso,hsh,hshz,rfl,hb2⟩;have HB2:=Lib.hid (ext_trans HB1.out hb2);have hcl:∀p:Addr,p.block<w.heap.size->w2.cell? p=w.cell? p:=fun p hp=>HB2.out.cell hp
 have c00:=(hcl ad hbk).trans HC.out.1;have c01:=(hcl ⟨ad.block,ad.off+1,none⟩ hbk).trans HC.out.2.1;have c10:=(hcl (ad.add (m*3)) (by rw[add_block];exact hbk)).trans HC.out.2.2.1;have c11:=(hcl ⟨(ad.add (m*3)).block,(ad.add (m*3)).off+1,none⟩ (by rw[add_block];exact hbk)).trans HC.out.2.2.2.1;have c12:=(hcl ⟨(ad.add (m*3)).block,(ad.add (m*3)).off+2,none⟩ (by rw[add_block];exact hbk)).trans HC.out.2.2.2.2;have hbk2:ad.block<w2.heap.size:=by have:=HB2.out.size;omega
 have HSO:=Lib.hid hso;have hsl:sh.size=(packed (joinB l) arr).length:=by rw[hsh];simp[ByteArray.size]
 have hip:isP l arr=decide (sh.size<raw.size):=by unfold isP;rw[hsl,HRR.out.2]
 have HIP:=Lib.hid hip;have HSH:=Lib.hid hsh;clear hso hsh hip hsl hb2 HP hcl HR;by_cases hlt:sh.size<raw.size
 ·have hlt2:(sh.size:Int)<(raw.size:Int):=by omega
  go_wp2_with fail
  have hown:OwnB ((w2.alloc (.cells #[.int .i64 q1,.int .i64 t1,.string d1] 53)).alloc (.cells #[.int .u8 1] 5)) (w2.heap.size+1) (.slice (some ⟨w2.heap.size+1,0,none⟩) 1 1) [1]:=by
   have:=ownB_lit (w2.alloc (.cells #[.int .i64 q1,.int .i64 t1,.string d1] 53)) 1
   rwa [show(w2.alloc (.cells #[.int .i64 q1,.int .i64 t1,.string d1] 53)).heap.size=w2.heap.size+1 by simp] at this
  have hbw:Below w2.heap.size w2 ((w2.alloc (.cells #[.int .i64 q1,.int .i64 t1,.string d1] 53)).alloc (.cells #[.int .u8 1] 5)):=((Below.refl _ _).alloc (Nat.le_refl _) _).alloc (by simp) _;have hl1:((w2.alloc (.cells #[.int .i64 q1,.int .i64 t1,.string d1] 53)).alloc (.cells #[.int .u8 1] 5)).cell? ⟨w2.heap.size,1,none⟩=some (.int .i64 t1) :=
   (World.cell?_alloc_lt _ _ ⟨w2.heap.size,1,none⟩ (by simp)).trans (by rw[World.cell?_alloc_new];rfl)
  have hsz5:((w2.alloc (.cells #[.int .i64 q1,.int .i64 t1,.string d1] 53)).alloc (.cells #[.int .u8 1] 5)).heap.size=w2.heap.size+2:=by simp
  generalize (w2.alloc (.cells #[.int .i64 q1,.int .i64 t1,.string d1] 53)).alloc (.cells #[.int .u8 1] 5)=w5 at *
  have f00:=(hbw.cell (p:=ad) hbk2).trans c00;have f01:=(hbw.cell (p:=⟨ad.block,ad.off+1,none⟩) hbk2).trans c01;have i1:(0:Int)<(m:Int)+1:=by omega
  have i2:IntKind.i64.wrap (t1-(T:Int))=(D:Int):=by rw[IntKind.wrap_i64];omega
  have HO:=Lib.hid (And.intro hown hbw);have hDlt:D<=1000000000:=by omega
  have HDD:=Lib.hid hD;have HSZ:=Lib.hid hsz5;clear c00 c01 c10 c11 c12 hown hbw hD hsz5;go_region
  all_goals
   have hfive:Five (w5.alloc (.cells #[.int .i64 (raw.size:Int),.int .i64 ((m:Int)+1),.int .i64 (Q:Int),.int .i64 (T:Int),.int .i64 (D:Int)] 3)) w5.heap.size raw.size (m+1) Q T D:=by
    have:=heap_alloc_new w5 (.cells #[.int .i64 (raw.size:Int),.int .i64 ((m:Int)+1),.int .i64 (Q:Int),.int .i64 (T:Int),.int .i64 (D:Int)] 3);unfold Five;exact this
   have hsz5:=HSZ.out;have hb6:=HO.out.2.alloc (o:=(.cells #[.int .i64 (raw.size:Int),.int .i64 ((m:Int)+1),.int .i64 (Q:Int),.int .i64 (T:Int),.int .i64 (D:Int)] 3)) (by omega);have ho6:OwnB (w5.alloc (.cells #[.int .i64 (raw.size:Int),.int .i64 ((m:Int)+1),.int .i64 (Q:Int),.int .i64 (T:Int),.int .i64 (D:Int)] 3)) (w2.heap.size+1) (.slice (some ⟨w2.heap.size+1,0,none⟩) 1 1) [1]:=HO.out.1.below (ext_alloc _ _) (Nat.le_refl _);have HX0:=Lib.hid (And.intro hfive (And.intro ho6 hb6));have hs6:w2.heap.size+1<=(w5.alloc (.cells #[.int .i64 (raw.size:Int),.int .i64 ((m:Int)+1),.int .i64 (Q:Int),.int .i64 (T:Int),.int .i64 (D:Int)] 3)).heap.size:=by simp;omega
   clear hfive hb6 ho6 HO f00 f01 hl1;generalize w5.alloc (.cells #[.int .i64 (raw.size:Int),.int .i64 ((m:Int)+1),.int .i64 (Q:Int),.int .i64 (T:Int),.int .i64 (D:Int)] 3)=w6 at *
   clear hsz5;generalize w5.heap.size=F at *
   have HL5:=Lib.hid (show ∀x∈ [raw.size,m+1,Q,T,D],x<9223372036854775808 by intro x hx;simp at hx;omega);clear e1 e2 e3 e4 e5 e6 hDlt;go_wp2_with fail
   go_loopw [10,71] (fun v a wr=>∃(k:Nat) (v0:Value),v0=v/\a=.int .i64 (k:Int)/\k<=5/\Hid (Five wr F raw.size (m+1) Q T D/\OwnB wr (w2.heap.size+1) v0 (1::([raw.size,m+1,Q,T,D].take k).flatMap putV)/\Below w2.heap.size w2 wr/\w2.heap.size+1<=wr.heap.size)) (fun _ a _=>5-(intOf a).toNat)
   case atStart=>exact⟨0,_,rfl,rfl,by omega,HX0.out.1,HX0.out.2.1,below_drewN (n:=1) HX0.out.2.2,hs6⟩
   case round =>
    obtain⟨k,v,hv,rfl,hk,HX⟩:=hrel;subst hv;by_cases hk5:k<5
    ·obtain⟨N,hN⟩:∃N,[raw.size,m+1,Q,T,D][k]? =some N:=⟨_,List.getElem?_eq_getElem (by simpa using hk5)⟩
     have hlt5:=HL5.out;have hP:=put_any N wr (hlt5 _ (List.mem_of_getElem? hN));have hflat:=flat_le ([raw.size,m+1,Q,T,D].take k) (fun x hx=>hlt5 x (List.mem_of_mem_take hx));have htk:([raw.size,m+1,Q,T,D].take (k+1)).flatMap putV=([raw.size,m+1,Q,T,D].take k).flatMap putV++putV N:=by
      rw[List.take_add_one,hN];simp
     have hNl:=length_putV_le N 8 (hlt5 _ (List.mem_of_getElem? hN));have hll:([raw.size,m+1,Q,T,D].take k).length<=5:=by rw[List.length_take];simp;omega
     have hcell:=HX.out.1.cell hN;have HTK:=Lib.hid htk;have HP:=Lib.hid hP;have hacc:(1::([raw.size,m+1,Q,T,D].take k).flatMap putV).length+(vtxt N).size<=1099511627776:=by rw[vtxt_size,List.length_cons];omega
     have HAC:=Lib.hid hacc;clear hlt5 hP hflat htk hNl hll hacc hN;have i9:(k:Int)<5:=by omega
     go_wp2_with fail
     refine HP.out.mono ?_;rintro e3 w7 ⟨rfl,hb7⟩;have ho7:OwnB w7 (w2.heap.size+1) v (1::([raw.size,m+1,Q,T,D].take k).flatMap putV):=HX.out.2.1.below hb7 (Nat.le_refl _);have hf7:Five w7 F raw.size (m+1) Q T D:=(hb7.block _ (Array.getElem?_eq_some_iff.1 HX.out.1).1).trans HX.out.1;have hs7:w2.heap.size+1<=w7.heap.size:=by have:=hb7.size;have:=HX.out.2.2.2;omega
     have hb77:Below w2.heap.size w2 w7:=HX.out.2.2.1.trans (hb7.mono (by have:=HX.out.2.2.2;omega));have HX7:=Lib.hid (And.intro hf7 (And.intro ho7 (And.intro hs7 hb77)));clear hb7 ho7 hf7 hs7 hb77 HX hcell HP;go_wp2_with (at_builtin;refine appendS (vtxt N) HX7.out.2.1 HAC.out HX7.out.2.2.1 ?_;intro A1 n1 c1 w8 hn1 hown8 hb8 hg8)
     have hne:v.ownBlock≠some F:=Lib.ownBlock_ne HX7.out.2.1 HX7.out.1 (by decide);have hf8:Five w8 F raw.size (m+1) Q T D:=(hg8.block _ (Array.getElem?_eq_some_iff.1 HX7.out.1).1 (fun e=>hne e.symm)).trans HX7.out.1;rw[vtxt_list] at hown8;exact⟨⟨k+1,_,rfl,by go_num,by omega,hf8,by rw[HTK.out];exact hown8,HX7.out.2.2.2.trans (hb8.mono (by omega)),by have:=hb8.size;have:=HX7.out.2.2.1;omega⟩,by simp[intOf];omega⟩
    ·obtain rfl:k=5:=by omega
     have hflat:=flat_le [raw.size,m+1,Q,T,D] HL5.out;have HO:=Lib.hid (show OwnB wr (w2.heap.size+1) v (1::(hd5 l).flatMap putV) by rw[H5.out];exact HX.out.2.1);have hacc:(1::(hd5 l).flatMap putV).length+sh.size<=1099511627776:=by rw[List.length_cons,H5.out];simp only[List.length_cons,List.length_nil] at hflat;omega
     have HAC:=Lib.hid hacc;have HB:=Lib.hid (And.intro HX.out.2.2.1 HX.out.2.2.2);clear hflat hacc HX;go_wp2_with (at_builtin;refine appendS sh HO.out HAC.out HB.out.2 ?_;intro A1 n1 c1 w8 hn1 hown8 hb8 hg8)
     obtain⟨A',c',hv',hc1,hc2,hrd8⟩:=hown8.rd;cases hv'
     have hstr:=run_str (c:=c1) hrd8;obtain⟨S,hS⟩:∃S:ByteArray,S=⟨((1::(hd5 l).flatMap putV)++sh.data.toList).toArray⟩:=⟨_,rfl⟩
     have hblk:S=⟨(blk l arr).toArray⟩:=by
      rw[hS];unfold blk mode body;rw[if_pos (by rw[HIP.out];simpa using hlt),if_pos (by rw[HIP.out];simpa using hlt),HSH.out];rfl
     have HBK:=Lib.hid hblk;have HB8:=Lib.hid (HB2.out.trans ((HB.out.1.trans (hb8.mono (by omega))).mono HB2.out.size));rw[hstr,<-hS];clear hstr hS hblk hown8 hb8 hg8 hrd8 hc1 hc2;go_wp2_with fail
     go_ret2
     exact⟨⟨S,by rw[HE.out];rfl,fun h=>absurd HE.out h,fun _=>⟨arr,HSO.out,HBK.out⟩⟩,HB8.out⟩
 ·have hlt2: ¬ (sh.size:Int)<(raw.size:Int):=by omega
  go_wp2_with fail
  have hown:OwnB ((w2.alloc (.cells #[.int .i64 q1,.int .i64 t1,.string d1] 53)).alloc (.cells #[.int .u8 0] 5)) (w2.heap.size+1) (.slice (some ⟨w2.heap.size+1,0,none⟩) 1 1) [0]:=by
   have:=ownB_lit (w2.alloc (.cells #[.int .i64 q1,.int .i64 t1,.string d1] 53)) 0
   rwa [show(w2.alloc (.cells #[.int .i64 q1,.int .i64 t1,.string d1] 53)).heap.size=w2.heap.size+1 by simp] at this
  have hbw:Below w2.heap.size w2 ((w2.alloc (.cells #[.int .i64 q1,.int .i64 t1,.string d1] 53)).alloc (.cells #[.int .u8 0] 5)):=((Below.refl _ _).alloc (Nat.le_refl _) _).alloc (by simp) _;have hl1:((w2.alloc (.cells #[.int .i64 q1,.int .i64 t1,.string d1] 53)).alloc (.cells #[.int .u8 0] 5)).cell? ⟨w2.heap.size,1,none⟩=some (.int .i64 t1) :=
   (World.cell?_alloc_lt _ _ ⟨w2.heap.size,1,none⟩ (by simp)).trans (by rw[World.cell?_alloc_new];rfl)
  have hsz5:((w2.alloc (.cells #[.int .i64 q1,.int .i64 t1,.string d1] 53)).alloc (.cells #[.int .u8 0] 5)).heap.size=w2.heap.size+2:=by simp
  generalize (w2.alloc (.cells #[.int .i64 q1,.int .i64 t1,.string d1] 53)).alloc (.cells #[.int .u8 0] 5)=w5 at *
  have f00:=(hbw.cell (p:=ad) hbk2).trans c00;have f01:=(hbw.cell (p:=⟨ad.block,ad.off+1,none⟩) hbk2).trans c01;have i1:(0:Int)<(m:Int)+1:=by omega
  have i2:IntKind.i64.wrap (t1-(T:Int))=(D:Int):=by rw[IntKind.wrap_i64];omega
  have HO:=Lib.hid (And.intro hown hbw);have hDlt:D<=1000000000:=by omega
  have HDD:=Lib.hid hD;have HSZ:=Lib.hid hsz5;clear c00 c01 c10 c11 c12 hown hbw hD hsz5;go_region
  all_goals
   have hfive:Five (w5.alloc (.cells #[.int .i64 (raw.size:Int),.int .i64 ((m:Int)+1),.int .i64 (Q:Int),.int .i64 (T:Int),.int .i64 (D:Int)] 3)) w5.heap.size raw.size (m+1) Q T D:=by
    have:=heap_alloc_new w5 (.cells #[.int .i64 (raw.size:Int),.int .i64 ((m:Int)+1),.int .i64 (Q:Int),.int .i64 (T:Int),.int .i64 (D:Int)] 3);unfold Five;exact this
   have hsz5:=HSZ.out;have hb6:=HO.out.2.alloc (o:=(.cells #[.int .i64 (raw.size:Int),.int .i64 ((m:Int)+1),.int .i64 (Q:Int),.int .i64 (T:Int),.int .i64 (D:Int)] 3)) (by omega);have ho6:OwnB (w5.alloc (.cells #[.int .i64 (raw.size:Int),.int .i64 ((m:Int)+1),.int .i64 (Q:Int),.int .i64 (T:Int),.int .i64 (D:Int)] 3)) (w2.heap.size+1) (.slice (some ⟨w2.heap.size+1,0,none⟩) 1 1) [0]:=HO.out.1.below (ext_alloc _ _) (Nat.le_refl _);have HX0:=Lib.hid (And.intro hfive (And.intro ho6 hb6));have hs6:w2.heap.size+1<=(w5.alloc (.cells #[.int .i64 (raw.size:Int),.int .i64 ((m:Int)+1),.int .i64 (Q:Int),.int .i64 (T:Int),.int .i64 (D:Int)] 3)).heap.size:=by simp;omega
   clear hfive hb6 ho6 HO f00 f01 hl1;generalize w5.alloc (.cells #[.int .i64 (raw.size:Int),.int .i64 ((m:Int)+1),.int .i64 (Q:Int),.int .i64 (T:Int),.int .i64 (D:Int)] 3)=w6 at *
   clear hsz5;generalize w5.heap.size=F at *
   have HL5:=Lib.hid (show ∀x∈ [raw.size,m+1,Q,T,D],x<9223372036854775808 by intro x hx;simp at hx;omega);clear e1 e2 e3 e4 e5 e6 hDlt;go_wp2_with fail
   go_loopw [10,71] (fun v a wr=>∃(k:Nat) (v0:Value),v0=v/\a=.int .i64 (k:Int)/\k<=5/\Hid (Five wr F raw.size (m+1) Q T D/\OwnB wr (w2.heap.size+1) v0 (0::([raw.size,m+1,Q,T,D].take k).flatMap putV)/\Below w2.heap.size w2 wr/\w2.heap.size+1<=wr.heap.size)) (fun _ a _=>5-(intOf a).toNat)
   case atStart=>exact⟨0,_,rfl,rfl,by omega,HX0.out.1,HX0.out.2.1,below_drewN (n:=1) HX0.out.2.2,hs6⟩
   case round =>
    obtain⟨k,v,hv,rfl,hk,HX⟩:=hrel;subst hv;by_cases hk5:k<5
    ·obtain⟨N,hN⟩:∃N,[raw.size,m+1,Q,T,D][k]? =some N:=⟨_,List.getElem?_eq_getElem (by simpa using hk5)⟩
     have hlt5:=HL5.out;have hP:=put_any N wr (hlt5 _ (List.mem_of_getElem? hN));have hflat:=flat_le ([raw.size,m+1,Q,T,D].take k) (fun x hx=>hlt5 x (List.mem_of_mem_take hx));have htk:([raw.size,m+1,Q,T,D].take (k+1)).flatMap putV=([raw.size,m+1,Q,T,D].take k).flatMap putV++putV N:=by
      rw[List.take_add_one,hN];simp
     have hNl:=length_putV_le N 8 (hlt5 _ (List.mem_of_getElem? hN));have hll:([raw.size,m+1,Q,T,D].take k).length<=5:=by rw[List.length_take];simp;omega
     have hcell:=HX.out.1.cell hN;have HTK:=Lib.hid htk;have HP:=Lib.hid hP;have hacc:(0::([raw.size,m+1,Q,T,D].take k).flatMap putV).length+(vtxt N).size<=1099511627776:=by rw[vtxt_size,List.length_cons];omega
     have HAC:=Lib.hid hacc;clear hlt5 hP hflat htk hNl hll hacc hN;have i9:(k:Int)<5:=by omega
     go_wp2_with fail
     refine HP.out.mono ?_;rintro e3 w7 ⟨rfl,hb7⟩;have ho7:OwnB w7 (w2.heap.size+1) v (0::([raw.size,m+1,Q,T,D].take k).flatMap putV):=HX.out.2.1.below hb7 (Nat.le_refl _);have hf7:Five w7 F raw.size (m+1) Q T D:=(hb7.block _ (Array.getElem?_eq_some_iff.1 HX.out.1).1).trans HX.out.1;have hs7:w2.heap.size+1<=w7.heap.size:=by have:=hb7.size;have:=HX.out.2.2.2;omega
     have hb77:Below w2.heap.size w2 w7:=HX.out.2.2.1.trans (hb7.mono (by have:=HX.out.2.2.2;omega));have HX7:=Lib.hid (And.intro hf7 (And.intro ho7 (And.intro hs7 hb77)));clear hb7 ho7 hf7 hs7 hb77 HX hcell HP;go_wp2_with (at_builtin;refine appendS (vtxt N) HX7.out.2.1 HAC.out HX7.out.2.2.1 ?_;intro A1 n1 c1 w8 hn1 hown8 hb8 hg8)
     have hne:v.ownBlock≠some F:=Lib.ownBlock_ne HX7.out.2.1 HX7.out.1 (by decide);have hf8:Five w8 F raw.size (m+1) Q T D:=(hg8.block _ (Array.getElem?_eq_some_iff.1 HX7.out.1).1 (fun e=>hne e.symm)).trans HX7.out.1;rw[vtxt_list] at hown8;exact⟨⟨k+1,_,rfl,by go_num,by omega,hf8,by rw[HTK.out];exact hown8,HX7.out.2.2.2.trans (hb8.mono (by omega)),by have:=hb8.size;have:=HX7.out.2.2.1;omega⟩,by simp[intOf];omega⟩
    ·obtain rfl:k=5:=by omega
     have hflat:=flat_le [raw.size,m+1,Q,T,D] HL5.out;have HO:=Lib.hid (show OwnB wr (w2.heap.size+1) v (0::(hd5 l).flatMap putV) by rw[H5.out];exact HX.out.2.1);have hacc:(0::(hd5 l).flatMap putV).length+raw.size<=1099511627776:=by rw[List.length_cons,H5.out];simp only[List.length_cons,List.length_nil] at hflat;omega
     have HAC:=Lib.hid hacc;have HB:=Lib.hid (And.intro HX.out.2.2.1 HX.out.2.2.2);clear hflat hacc HX;go_wp2_with (at_builtin;refine appendS raw HO.out HAC.out HB.out.2 ?_;intro A1 n1 c1 w8 hn1 hown8 hb8 hg8)
     obtain⟨A',c',hv',hc1,hc2,hrd8⟩:=hown8.rd;cases hv'
     have hstr:=run_str (c:=c1) hrd8;obtain⟨S,hS⟩:∃S:ByteArray,S=⟨((0::(hd5 l).flatMap putV)++raw.data.toList).toArray⟩:=⟨_,rfl⟩
     have hblk:S=⟨(blk l arr).toArray⟩:=by
      rw[hS];unfold blk mode body;rw[if_neg (by rw[HIP.out];simpa using hlt),if_neg (by rw[HIP.out];simpa using hlt),HRR.out.1];rfl
     have HBK:=Lib.hid hblk;have HB8:=Lib.hid (HB2.out.trans ((HB.out.1.trans (hb8.mono (by omega))).mono HB2.out.size));rw[hstr,<-hS];clear hstr hS hblk hown8 hb8 hg8 hrd8 hc1 hc2;go_wp2_with fail
     go_ret2
     exact⟨⟨S,by rw[HE.out];rfl,fun h=>absurd HE.out h,fun _=>⟨arr,HSO.out,HBK.out⟩⟩,HB8.out⟩
theorem enc_any (A:Option Addr) (n c:Nat) (l:List (Int×Int×ByteArray)) (w:World) (hrd:Rd w w.heap.size 3 A n (fl3 l)) (hn:n<=100000) :
  Calls Tryz.prog 14 #[.slice A n c] w fun e w'=>EncAns l e/\Below w.heap.size w w':=by
 by_cases he:encE l=0
 ·exact enc_yes A n c l w hrd hn he
 ·exact enc_err A n c l w hrd hn he
end Bk
end Go.Proofs.YtjligbmickfbdaaGreat
namespace Go.Proofs.YtjligbmickfbdaaGreat
namespace Bk
open Go.RowKit Vi Sq Rd
open Rf (rowT rowT_size refput_any)
open Rd (rowT_app refjoin_any)
set_option maxHeartbeats 6400000 in
set_option maxRecDepth 100000 in
theorem refenc_err (A:Option Addr) (n c:Nat) (l:List (Int×Int×ByteArray)) (w:World) (hrd:Rd w w.heap.size 3 A n (fl3 l)) (hn:n<=100000) (hne:encE l≠0) :
  Calls Tryz.prog 15 #[.slice A n c] w fun e w'=>EncAns l e/\Below w.heap.size w w':=by
 have mixed:Tryz.prog.follows .mixedOrders=true:=by kernel_rfl
 have hln:=rd3_len hrd;by_cases hl:l=[]
 ·have hE:encE l=2:=if_pos hl
  have HE:=Lib.hid hE;obtain rfl:n=0:=by rw[<-hln,hl];rfl
  clear hrd hl hln hE hne
  go_enter Tryz.func15, Tryz.ntmps15
  go_wp2_with fail
  go_ret2
  exact⟨⟨⟨#[]⟩,by rw[HE.out];rfl,fun _=>rfl,fun h=>absurd (HE.out.symm.trans h) (by decide)⟩,Below.refl _ _⟩
 ·have hE:encE l=jE l:=if_neg hl
  rw[hE] at hne;have HE:=Lib.hid hE;have hJ:=refjoin_any A n c l w hrd (by omega);rw[jS_no hne] at hJ;have hn0:0<n:=by rw[<-hln];exact List.length_pos_iff.2 hl
  have hn1:((n:Int)==0)=false:=by rw[beq_eq_false_iff_ne];omega
  generalize jE l=x at *
  have HJ:=Lib.hid hJ;have hx1:(x != 0)=true:=by rw[bne_iff_ne];exact hne
  have hx2:(x==0)=false:=by rw[beq_eq_false_iff_ne];exact hne
  clear hJ hrd hE hl hln
  go_enter Tryz.func15, Tryz.ntmps15
  go_wp2_with fail
  refine HJ.out.mono ?_;rintro e1 w1 ⟨rfl,hb1⟩;have HB:=Lib.hid hb1;clear hb1;go_wp2_with fail
  go_ret2
  exact⟨⟨⟨#[]⟩,by rw[HE.out];rfl,fun _=>rfl,fun h=>absurd (HE.out.symm.trans h) hne⟩,HB.out⟩
set_option maxHeartbeats 6400000 in
set_option maxRecDepth 100000 in
theorem refenc_yes (A:Option Addr) (n c:Nat) (l:List (Int×Int×ByteArray)) (w:World) (hrd:Rd w w.heap.size 3 A n (fl3 l)) (hn:n<=100000) (he:encE l=0) :
  Calls Tryz.prog 15 #[.slice A n c] w fun e w'=>EncAns l e/\Below w.heap.size w w':=by
 have mixed:Tryz.prog.follows .mixedOrders=true:=by kernel_rfl
 have hln:=rd3_len hrd;obtain⟨hj,hl⟩:=enc_ok he;have hn0:0<n:=by rw[<-hln];exact List.length_pos_iff.2 hl
 obtain⟨m,rfl⟩:∃m,n=m+1:=⟨n-1,by omega⟩
 have hJ:=refjoin_any A (m+1) c l w hrd (by omega);rw[jS_ok hj,hj] at hJ;obtain⟨raw,hraw⟩:∃raw:ByteArray,raw=⟨(joinB l).toArray⟩:=⟨_,rfl⟩
 rw[<-hraw] at hJ;have hr1:raw.data.toList=joinB l:=by rw[hraw]
 have hr2:raw.size=(joinB l).length:=by rw[hraw];simp[ByteArray.size]
 have hr3:raw.size<=20000:=by rw[hr2];exact(jE_row hj).2
 have HJ:=Lib.hid hJ;have hP:=fun w=>Rf.refpack_any raw w hr3
 rw[hr1] at hP;have HP:=Lib.hid hP;have HE:=Lib.hid he;have HR:=Lib.hid hrd;have hn1:(((m:Nat):Int)+1==0)=false:=by rw[beq_eq_false_iff_ne];omega
 have hn2:(((m+1:Nat):Int)==0)=false:=by rw[beq_eq_false_iff_ne];omega
 obtain⟨e1,e2,e3,e4,e5,e6⟩:=ends hj hl;obtain⟨ad,q0,t0,d0,rfl,hbk,hx0,hc00,hc01,-⟩:=rec3 hrd (show 0<m+1 by omega);obtain⟨ad',q1,t1,d1,hA',-,hx1,hc10,hc11,hc12⟩:=rec3 hrd (show m<m+1 by omega);obtain rfl:ad=ad':=by simpa using hA'
 have ha0:at3 l 0=(q0,t0,d0):=Option.some.inj ((at3_get l 0 (by omega)).symm.trans hx0);have ha1:at3 l (l.length-1)=(q1,t1,d1):=Option.some.inj ((at3_get l (l.length-1) (by omega)).symm.trans (by rw[hln];exact hx1));rw[ha0,ha1] at e4;rw[ha0] at e1 e2 e3;rw[ha1] at e5;simp only at e1 e2 e3 e4 e5;obtain⟨Q,rfl⟩:=Int.eq_ofNat_of_zero_le (show 0<=q0 by omega);obtain⟨T,rfl⟩:=Int.eq_ofNat_of_zero_le (show 0<=t0 by omega);obtain⟨D,hD⟩:=Int.eq_ofNat_of_zero_le (show 0<=t1-(T:Int) by omega);have h5:hd5 l=[raw.size,m+1,Q,T,D]:=by unfold hd5;rw[ha0,ha1,hr2,hln];simp only;rw[hD];simp
 have H5:=Lib.hid h5;have HRR:=Lib.hid (And.intro hr1 hr2);have hz:ad.add (0*3)=ad:=by rw[Nat.zero_mul];rfl
 rw[hz] at hc00 hc01;have hlq:l.length=m+1:=hln;rw[hlq] at e2;have HC:=Lib.hid (And.intro hc00 (And.intro hc01 (And.intro hc10 (And.intro hc11 hc12))));clear hJ hP he hraw hr1 hr2 hx0 hx1 hA' ha0 ha1 h5 hz hlq hj hl hrd hc00 hc01 hc10 hc11 hc12 hln
 go_enter Tryz.func15, Tryz.ntmps15
 go_wp2_with fail
 refine HJ.out.mono ?_;rintro e1 w1 ⟨rfl,hb1⟩;have HB1:=Lib.hid hb1;clear hb1 HJ;go_wp2_with fail
 refine(HP.out _).mono ?_;rintro e2 w2 ⟨arr,hso,rfl,hb2⟩;have HB2:=Lib.hid (ext_trans HB1.out hb2);obtain⟨sh,hsh⟩:∃sh:ByteArray,sh=⟨(packed (joinB l) arr).toArray⟩:=⟨_,rfl⟩
 rw[<-hsh];have hcl:∀p:Addr,p.block<w.heap.size->w2.cell? p=w.cell? p:=fun p hp=>HB2.out.cell hp
 have c00:=(hcl ad hbk).trans HC.out.1;have c01:=(hcl ⟨ad.block,ad.off+1,none⟩ hbk).trans HC.out.2.1;have c11:=(hcl ⟨(ad.add (m*3)).block,(ad.add (m*3)).off+1,none⟩ (by rw[add_block];exact hbk)).trans HC.out.2.2.2.1;have HSO:=Lib.hid hso;have hsl:sh.size=(packed (joinB l) arr).length:=by rw[hsh];simp[ByteArray.size]
 have hip:isP l arr=decide (sh.size<raw.size):=by unfold isP;rw[hsl,HRR.out.2]
 have HIP:=Lib.hid hip;have HSH:=Lib.hid hsh;clear hso hsh hip hsl hb2 HP hcl HR;by_cases hlt:sh.size<raw.size
 ·have hlt2:(sh.size:Int)<(raw.size:Int):=by omega
  go_wp2_with fail
  have i1:(0:Int)<(m:Int)+1:=by omega
  have i2:IntKind.i64.wrap (t1-(T:Int))=(D:Int):=by rw[IntKind.wrap_i64];omega
  have hDlt:D<=1000000000:=by omega
  have hbr:Below w2.heap.size w2 w2:=Below.refl _ _;clear hD;go_region
  all_goals
   have hfive:Five (w2.alloc (.cells #[.int .i64 (raw.size:Int),.int .i64 ((m:Int)+1),.int .i64 (Q:Int),.int .i64 (T:Int),.int .i64 (D:Int)] 3)).drew w2.heap.size raw.size (m+1) Q T D:=by
    have:=heap_alloc_new w2 (.cells #[.int .i64 (raw.size:Int),.int .i64 ((m:Int)+1),.int .i64 (Q:Int),.int .i64 (T:Int),.int .i64 (D:Int)] 3);unfold Five;exact this
   have HX0:Aside (Five (w2.alloc (.cells #[.int .i64 (raw.size:Int),.int .i64 ((m:Int)+1),.int .i64 (Q:Int),.int .i64 (T:Int),.int .i64 (D:Int)] 3)).drew w2.heap.size raw.size (m+1) Q T D/\Below w2.heap.size w2 (w2.alloc (.cells #[.int .i64 (raw.size:Int),.int .i64 ((m:Int)+1),.int .i64 (Q:Int),.int .i64 (T:Int),.int .i64 (D:Int)] 3)).drew):=⟨hfive,(ext_alloc w2 _).drew⟩
   have HL5:=Lib.hid (show ∀x∈ [raw.size,m+1,Q,T,D],x<9223372036854775808 by intro x hx;simp at hx;omega);generalize (w2.alloc (.cells #[.int .i64 (raw.size:Int),.int .i64 ((m:Int)+1),.int .i64 (Q:Int),.int .i64 (T:Int),.int .i64 (D:Int)] 3)).drew=w6 at *
   clear hfive c00 c01 c11 e1 e2 e3 e4 e5 e6 hDlt hbr;go_wp2_with fail
   go_loopg [8,11] 5 (fun kx s8 s11 wr=>∃(k:Nat),s11=.int .i64 (k:Int)/\s8=.string (rowT (1::([raw.size,m+1,Q,T,D].take k).flatMap putV))/\k<=5/\5-k<=kx/\Aside (Five wr w2.heap.size raw.size (m+1) Q T D/\Below w2.heap.size w2 wr))
   case atStart=>exact⟨0,by go_num,rfl,by omega,by omega,HX0.out⟩
   case round =>
    clear HX0;obtain⟨k,rfl,rfl,hk,hkk,H⟩:=hrel;have hflat:=flat_le ([raw.size,m+1,Q,T,D].take k) (fun x hx=>HL5.out x (List.mem_of_mem_take hx));have hll:([raw.size,m+1,Q,T,D].take k).length<=5:=by rw[List.length_take];simp;omega
    have hXs:(rowT (1::([raw.size,m+1,Q,T,D].take k).flatMap putV)).size<=50:=by rw[rowT_size,List.length_cons];omega
    by_cases hk5:k<5
    ·obtain⟨N,hN⟩:∃N,[raw.size,m+1,Q,T,D][k]? =some N:=⟨_,List.getElem?_eq_getElem (by simpa using hk5)⟩
     have hNb:=HL5.out _ (List.mem_of_getElem? hN);have HP:=Lib.hid (refput_any (N+1) N wr (by omega) hNb);have hNl:=length_putV_le N 8 hNb;have hVs:(vtxt N).size<=9:=by rw[vtxt_size];exact hNl
     have hcat:rowT (1::([raw.size,m+1,Q,T,D].take k).flatMap putV)++vtxt N=rowT (1::([raw.size,m+1,Q,T,D].take (k+1)).flatMap putV):=by
      rw[List.take_add_one,hN];show _++rowT (putV N)=_
      rw[rowT_app];simp
     have hcell:=H.out.1.cell hN;have i9:(k:Int)<5:=by omega
     have HCAT:=Lib.hid hcat;generalize hYe:rowT (1::([raw.size,m+1,Q,T,D].take (k+1)).flatMap putV)=Y at *
     have HY:=Lib.hid hYe;generalize rowT (1::([raw.size,m+1,Q,T,D].take k).flatMap putV)=X at *
     generalize vtxt N=V at *
     have hz:X.size+V.size<=9223372036854775807:=by omega
     clear hcat hYe hflat hll hN;go_wp2_with (go_at_call 19;refine HP.out.mono ?_;rintro e3 w7 ⟨rfl,hb7⟩;have hcc:=HCAT.out)
     have HX7:Aside (Five w7 w2.heap.size raw.size (m+1) Q T D/\Below w2.heap.size w2 w7):=⟨(hb7.block _ (Array.getElem?_eq_some_iff.1 H.out.1).1).trans H.out.1,ext_trans H.out.2 hb7⟩
     go_roundg (5-(k+1))
     case measure=>omega
     case rel=>exact⟨k+1,by go_num,by rw[HY.out],by omega,by omega,HX7.out⟩
    ·obtain rfl:k=5:=by omega
     have hcat:rowT (1::([raw.size,m+1,Q,T,D].take 5).flatMap putV)++sh=⟨(blk l arr).toArray⟩:=by
      have h5:[raw.size,m+1,Q,T,D].take 5=hd5 l:=by rw[H5.out];rfl
      rw[h5];unfold blk mode body;rw[if_pos (by rw[HIP.out];simpa using hlt),if_pos (by rw[HIP.out];simpa using hlt)];apply ByteArray.ext
      apply Array.toList_inj.1
      simp[ByteArray.data_append,rowT,HRR.out.1,HSH.out]
     have hz:(rowT (1::([raw.size,m+1,Q,T,D].take 5).flatMap putV)).size+sh.size<=9223372036854775807:=by omega
     have HCAT:=Lib.hid hcat;generalize rowT (1::([raw.size,m+1,Q,T,D].take 5).flatMap putV)=X at *
     have i9: ¬ ((5:Nat):Int)<5:=by decide
     have HB8:=Lib.hid (ext_trans HB2.out H.out.2);clear hcat hflat hll H;go_wp2_with fail
     go_ret2
     exact⟨⟨_,by rw[HE.out];rfl,fun h=>absurd HE.out h,fun _=>⟨arr,HSO.out,HCAT.out⟩⟩,HB8.out⟩
 ·have hlt2: ¬ (sh.size:Int)<(raw.size:Int):=by omega
  go_wp2_with fail
  have i1:(0:Int)<(m:Int)+1:=by omega
  have i2:IntKind.i64.wrap (t1-(T:Int))=(D:Int):=by rw[IntKind.wrap_i64];omega
  have hDlt:D<=1000000000:=by omega
  have hbr:Below w2.heap.size w2 w2:=Below.refl _ _;clear hD;go_region
  all_goals
   have hfive:Five (w2.alloc (.cells #[.int .i64 (raw.size:Int),.int .i64 ((m:Int)+1),.int .i64 (Q:Int),.int .i64 (T:Int),.int .i64 (D:Int)] 3)).drew w2.heap.size raw.size (m+1) Q T D:=by
    have:=heap_alloc_new w2 (.cells #[.int .i64 (raw.size:Int),.int .i64 ((m:Int)+1),.int .i64 (Q:Int),.int .i64 (T:Int),.int .i64 (D:Int)] 3);unfold Five;exact this
   have HX0:Aside (Five (w2.alloc (.cells #[.int .i64 (raw.size:Int),.int .i64 ((m:Int)+1),.int .i64 (Q:Int),.int .i64 (T:Int),.int .i64 (D:Int)] 3)).drew w2.heap.size raw.size (m+1) Q T D/\Below w2.heap.size w2 (w2.alloc (.cells #[.int .i64 (raw.size:Int),.int .i64 ((m:Int)+1),.int .i64 (Q:Int),.int .i64 (T:Int),.int .i64 (D:Int)] 3)).drew):=⟨hfive,(ext_alloc w2 _).drew⟩
   have HL5:=Lib.hid (show ∀x∈ [raw.size,m+1,Q,T,D],x<9223372036854775808 by intro x hx;simp at hx;omega);generalize (w2.alloc (.cells #[.int .i64 (raw.size:Int),.int .i64 ((m:Int)+1),.int .i64 (Q:Int),.int .i64 (T:Int),.int .i64 (D:Int)] 3)).drew=w6 at *
   clear hfive c00 c01 c11 e1 e2 e3 e4 e5 e6 hDlt hbr;go_wp2_with fail
   go_loopg [8,11] 5 (fun kx s8 s11 wr=>∃(k:Nat),s11=.int .i64 (k:Int)/\s8=.string (rowT (0::([raw.size,m+1,Q,T,D].take k).flatMap putV))/\k<=5/\5-k<=kx/\Aside (Five wr w2.heap.size raw.size (m+1) Q T D/\Below w2.heap.size w2 wr))
   case atStart=>exact⟨0,by go_num,rfl,by omega,by omega,HX0.out⟩
   case round =>
    clear HX0;obtain⟨k,rfl,rfl,hk,hkk,H⟩:=hrel;have hflat:=flat_le ([raw.size,m+1,Q,T,D].take k) (fun x hx=>HL5.out x (List.mem_of_mem_take hx));have hll:([raw.size,m+1,Q,T,D].take k).length<=5:=by rw[List.length_take];simp;omega
    have hXs:(rowT (0::([raw.size,m+1,Q,T,D].take k).flatMap putV)).size<=50:=by rw[rowT_size,List.length_cons];omega
    by_cases hk5:k<5
    ·obtain⟨N,hN⟩:∃N,[raw.size,m+1,Q,T,D][k]? =some N:=⟨_,List.getElem?_eq_getElem (by simpa using hk5)⟩
     have hNb:=HL5.out _ (List.mem_of_getElem? hN);have HP:=Lib.hid (refput_any (N+1) N wr (by omega) hNb);have hNl:=length_putV_le N 8 hNb;have hVs:(vtxt N).size<=9:=by rw[vtxt_size];exact hNl
     have hcat:rowT (0::([raw.size,m+1,Q,T,D].take k).flatMap putV)++vtxt N=rowT (0::([raw.size,m+1,Q,T,D].take (k+1)).flatMap putV):=by
      rw[List.take_add_one,hN];show _++rowT (putV N)=_
      rw[rowT_app];simp
     have hcell:=H.out.1.cell hN;have i9:(k:Int)<5:=by omega
     have HCAT:=Lib.hid hcat;generalize hYe:rowT (0::([raw.size,m+1,Q,T,D].take (k+1)).flatMap putV)=Y at *
     have HY:=Lib.hid hYe;generalize rowT (0::([raw.size,m+1,Q,T,D].take k).flatMap putV)=X at *
     generalize vtxt N=V at *
     have hz:X.size+V.size<=9223372036854775807:=by omega
     clear hcat hYe hflat hll hN;go_wp2_with (go_at_call 19;refine HP.out.mono ?_;rintro e3 w7 ⟨rfl,hb7⟩;have hcc:=HCAT.out)
     have HX7:Aside (Five w7 w2.heap.size raw.size (m+1) Q T D/\Below w2.heap.size w2 w7):=⟨(hb7.block _ (Array.getElem?_eq_some_iff.1 H.out.1).1).trans H.out.1,ext_trans H.out.2 hb7⟩
     go_roundg (5-(k+1))
     case measure=>omega
     case rel=>exact⟨k+1,by go_num,by rw[HY.out],by omega,by omega,HX7.out⟩
    ·obtain rfl:k=5:=by omega
     have hcat:rowT (0::([raw.size,m+1,Q,T,D].take 5).flatMap putV)++raw=⟨(blk l arr).toArray⟩:=by
      have h5:[raw.size,m+1,Q,T,D].take 5=hd5 l:=by rw[H5.out];rfl
      rw[h5];unfold blk mode body;rw[if_neg (by rw[HIP.out];simpa using hlt),if_neg (by rw[HIP.out];simpa using hlt)];apply ByteArray.ext
      apply Array.toList_inj.1
      simp[ByteArray.data_append,rowT,HRR.out.1,HSH.out]
     have hz:(rowT (0::([raw.size,m+1,Q,T,D].take 5).flatMap putV)).size+raw.size<=9223372036854775807:=by omega
     have HCAT:=Lib.hid hcat;generalize rowT (0::([raw.size,m+1,Q,T,D].take 5).flatMap putV)=X at *
     have i9: ¬ ((5:Nat):Int)<5:=by decide
     have HB8:=Lib.hid (ext_trans HB2.out H.out.2);clear hcat hflat hll H;go_wp2_with fail
     go_ret2
     exact⟨⟨_,by rw[HE.out];rfl,fun h=>absurd HE.out h,fun _=>⟨arr,HSO.out,HCAT.out⟩⟩,HB8.out⟩
end Bk
end Go.Proofs.YtjligbmickfbdaaGreat
namespace Go.Proofs.YtjligbmickfbdaaGreat
namespace Tk
open Go.RowKit
open Bt (Frm)
set_option maxHeartbeats 6400000 in
set_option maxRecDepth 100000 in
theorem caughtB_ok (w:World) (caps:Array Value) (G:World->Prop) (hG:∀w',G w'->Var w' w.heap.size 23 (.int .i64 0)/\Var w' (w.heap.size+1) 3 (.int .i64 0))
  (hf:Calls Tryz.prog 103 caps (wC w) fun e w'=>e=.returned (.tuple #[])/\G w') :
  Calls Tryz.prog 38 #[.func (.func 103) #[] caps] w fun e w'=>e=.returned (.tuple #[.int .i64 0,.int .i64 0])/\ ∃w2,G w2/\Keep w2 w' [w.heap.size,w.heap.size+1]:=by
 have mixed:Tryz.prog.follows .mixedOrders=true:=by kernel_rfl
 have hmf:∀(fn:Fn) (first cap:Array Value) (w:World),(Instr.makeFunc fn first cap).run Tryz.prog w=.ok (.func fn first cap) w:=fun _ _ _ _=>rfl
 have HF:=Lib.hid hf;have HG:=Lib.hid hG;clear hf hG;go_enter_defers Tryz.func38,Tryz.ntmps38
 go_wp2_with fail
 refine HF.out.mono ?_;rintro e1 w1 ⟨rfl,h1⟩;obtain⟨v1,v2⟩:=HG.out w1 h1;have c1:=v1.cell;have f1:=v1.frozen;have c2:=v2.cell;have f2:=v2.frozen;have HX:=Lib.hid (And.intro h1 (And.intro v1 v2));clear h1 v1 v2 HF HG;go_wp2_with fail
 refine leaves_cons (f:=76) (args:=#[.pointer (some ⟨w.heap.size,0,none⟩),.pointer (some ⟨w.heap.size+1,0,none⟩)]) (by simp) (by simp[go_sem]) ?_;refine(catch_idle ⟨w.heap.size,0,none⟩ ⟨w.heap.size+1,0,none⟩ _).mono ?_;rintro e u' w'' ⟨rfl,rfl,rfl⟩;have n1:w.heap.size≠w.heap.size+1:=by omega
 have u1:=(HX.out.2.1.set_ (.int .i64 0)).far (p:=⟨w.heap.size+1,0,none⟩) n1 (.int .i64 0);have u2:=(HX.out.2.2.far (p:=⟨w.heap.size,0,none⟩) (Ne.symm n1) (.int .i64 0)).set_ (.int .i64 0);have hk:Keep w1 ((w1.setCell ⟨w.heap.size,0,none⟩ (.int .i64 0)).setCell ⟨w.heap.size+1,0,none⟩ (.int .i64 0)) [w.heap.size,w.heap.size+1] :=
  ((Keep.refl w1 _).set ⟨w.heap.size,0,none⟩ (.inl (by simp)) _).set ⟨w.heap.size+1,0,none⟩ (.inl (by simp)) _
 have d1:=u1.cell;have d2:=u2.cell;simp[Leaves,settle,results,Tryz.results38,go_sem,d1,d2]
 exact⟨w1,HX.out.1,hk⟩
set_option maxHeartbeats 6400000 in
set_option maxRecDepth 100000 in
theorem caughtB_no (w:World) (caps:Array Value) (x:Int) (G:World->Prop) (hG:∀w',G w'->Var w' w.heap.size 23 (.int .i64 0)/\Var w' (w.heap.size+1) 3 (.int .i64 0))
  (hf:Calls Tryz.prog 103 caps (wC w) fun e w'=>(∃p,e=.panicked [fault x p])/\G w') :
  Calls Tryz.prog 38 #[.func (.func 103) #[] caps] w fun e w'=>(∃p:Int,e=.returned (.tuple #[.int .i64 x,.int .i64 p]))/\ ∃w2,G w2/\Keep w2 w' [w.heap.size,w.heap.size+1]:=by
 have mixed:Tryz.prog.follows .mixedOrders=true:=by kernel_rfl
 have hmf:∀(fn:Fn) (first cap:Array Value) (w:World),(Instr.makeFunc fn first cap).run Tryz.prog w=.ok (.func fn first cap) w:=fun _ _ _ _=>rfl
 have HF:=Lib.hid hf;have HG:=Lib.hid hG;clear hf hG;go_enter_defers Tryz.func38,Tryz.ntmps38
 go_wp2_with fail
 refine HF.out.mono ?_;rintro e1 w1 ⟨⟨p,rfl⟩,h1⟩;obtain⟨v1,v2⟩:=HG.out w1 h1;have n1:w.heap.size≠w.heap.size+1:=by omega
 refine leaves_cons (f:=76) (args:=#[.pointer (some ⟨w.heap.size,0,none⟩),.pointer (some ⟨w.heap.size+1,0,none⟩)]) (by simp) (by simp[go_sem]) ?_;refine(catch_fault w.heap.size (w.heap.size+1) x p w1 _ _ v1 v2 n1).mono ?_;rintro e u' w'' ⟨rfl,rfl,u1,u2,hk⟩;have d1:=u1.cell;have d2:=u2.cell;simp[Leaves,settle,results,Tryz.results38,go_sem,d1,d2]
 exact⟨w1,h1,hk⟩
end Tk
end Go.Proofs.YtjligbmickfbdaaGreat
namespace Go.Proofs.YtjligbmickfbdaaGreat
namespace Tk
open Go.RowKit
open Bt (Frm)
set_option maxHeartbeats 3200000 in
theorem ttext1_ok (w:World) (b:Nat) (s:ByteArray) (h:Ta w b s 0) (hs:s.size<=1000000) (hd:1<=s.size) :
  Calls Tryz.prog 74 #[.pointer (some ⟨b,0,none⟩),.int .i64 1] w fun e w'=>e=.returned (.string (s.extract 0 1))/\Ta w' b s 1/\Keep w w' [b]:=by
 have mixed:Tryz.prog.follows .mixedOrders=true:=by kernel_rfl
 have hL:=left_any w b 0 s h hs (by omega);rw[Nat.sub_zero] at hL;have HL:=Lib.hid hL;have H:Aside (Ta w b s 0):=h;have hdp: ¬ (s.size:Int)<1:=by omega
 have hlp:0<s.size:=hd;clear hL h
 go_enter Tryz.func74, Tryz.ntmps74
 go_wp2_with fail
 refine HL.out.mono ?_;rintro e1 w1 ⟨rfl,m,rfl⟩;have hta:Ta (w.drewN m) b s 0:=H.out;have hc1:=hta.c1;have hf1:=hta.fz 1;have hta2:Ta ((w.drewN m).setCell ⟨b,1,none⟩ (.int .i64 1)) b s 1:=hta.set1 1;have hkp:Keep w ((w.drewN m).setCell ⟨b,1,none⟩ (.int .i64 1)) [b]:=((Keep.refl w _).drewN m).set ⟨b,1,none⟩ (.inl (by simp)) _;have HF:=Lib.hid (And.intro hta2 hkp);have d0:=hta2.c0;have d1:((w.drewN m).setCell ⟨b,1,none⟩ (.int .i64 1)).cell? ⟨b,1,none⟩=some (.int .i64 1):=hta2.c1;clear hta hkp hta2;have hc1':(w.drewN m).cell? ⟨b,1,none⟩=some (.int .i64 0):=hc1;clear hc1;go_wp2_with fail
 generalize (w.drewN m).setCell ⟨b,1,none⟩ (.int .i64 1)=w2 at *
 have i1:(1:Int)<=(s.size:Int):=by omega
 clear hc1' hf1;go_quiet (fail)
 go_wp2_with fail
 go_ret
 exact⟨rfl,HF.out.1,HF.out.2.drewN _⟩
set_option maxHeartbeats 3200000 in
theorem ttext1_no (w:World) (b:Nat) (s:ByteArray) (h:Ta w b s 0) (hs:s.size<=1000000) (hd:s.size=0) :
  Calls Tryz.prog 74 #[.pointer (some ⟨b,0,none⟩),.int .i64 1] w fun e w'=>e=.panicked [fault 4 0]/\Keep w w' [b]:=by
 have mixed:Tryz.prog.follows .mixedOrders=true:=by kernel_rfl
 have hL:=left_any w b 0 s h hs (by omega);rw[hd] at hL;have HL:=Lib.hid hL;have HC:=Lib.hid (fun m=>check_no (w.drewN m) b 0 s 4 h (by decide));clear hL h hd
 go_enter Tryz.func74, Tryz.ntmps74
 go_wp2_with fail
 refine HL.out.mono ?_;rintro e1 w1 ⟨rfl,m,rfl⟩;go_wp2_with fail
 refine(HC.out m).mono ?_;rintro e1 w1 ⟨rfl,rfl⟩;exact⟨rfl,rfl,(Keep.refl w _).drewN m⟩
set_option maxHeartbeats 3200000 in
theorem byte_ok (w:World) (b:Nat) (s:ByteArray) (h:Ta w b s 0) (hs:s.size<=1000000) (c:UInt8) (r:List UInt8) (hc:s.data.toList=c::r) :
  Calls Tryz.prog 104 #[.pointer (some ⟨b,0,none⟩)] w fun e w'=>e=.returned (.int .i64 (c.toNat:Int))/\Ta w' b s 1/\Keep w w' [b]:=by
 have mixed:Tryz.prog.follows .mixedOrders=true:=by kernel_rfl
 have hd:1<=s.size:=by
  have:s.data.toList.length=s.size:=rfl;rw[hc,List.length_cons] at this;omega
 have HT:=Lib.hid (ttext1_ok w b s h hs hd);have hx:s.extract 0 1=⟨#[c]⟩:=by
  apply ByteArray.ext
  apply Array.ext'
  rw[ByteArray.data_extract,Array.toList_extract,hc];simp[List.extract_eq_take_drop]
 rw[hx] at HT;have hcb:=c.toNat_lt;clear hx h hc hd
 go_enter Tryz.func104, Tryz.ntmps104
 go_wp2_with fail
 refine HT.out.mono ?_;rintro e1 w1 ⟨rfl,hta,hk⟩;have HX:=Lib.hid (And.intro hta hk);clear hta hk;go_wp2_with fail
 go_ret
 refine⟨ret_int (k:=.i64) ?_,HX.out⟩;exact Vi.wrap64_nat c.toNat (by omega)
set_option maxHeartbeats 3200000 in
theorem byte_no (w:World) (b:Nat) (s:ByteArray) (h:Ta w b s 0) (hs:s.size<=1000000) (hd:s.size=0) :
  Calls Tryz.prog 104 #[.pointer (some ⟨b,0,none⟩)] w fun e w'=>e=.panicked [fault 4 0]/\Keep w w' [b]:=by
 have mixed:Tryz.prog.follows .mixedOrders=true:=by kernel_rfl
 have HT:=Lib.hid (ttext1_no w b s h hs hd);clear h hd
 go_enter Tryz.func104, Tryz.ntmps104
 go_wp2_with fail
 refine HT.out.mono ?_;rintro e1 w1 ⟨rfl,hk⟩;exact⟨rfl,rfl,hk⟩
end Tk
end Go.Proofs.YtjligbmickfbdaaGreat
namespace Go.Proofs.YtjligbmickfbdaaGreat
namespace Rd
open Go.RowKit Vi Bd
theorem vget_ok (w:World) (p n len:Nat) (s:ByteArray) (hs:s.size<=1000000) (hp:p<=s.size) (hg:gv 0 0 (s.data.toList.drop p)=(n,len,0)) :
  Calls Tryz.prog 70 #[.string s,.int .i64 (p:Int)] w fun e w'=>e=.returned (.tuple #[.int .i64 (n:Int),.int .i64 ((p+len:Nat):Int),.int .i64 0])/\w=w':=by
 have hl:s.data.toList.length=s.size:=rfl;have hgv:getV s.data.toList (p:Int)=((n:Int),((p+len:Nat):Int),0):=by
  unfold getV;rw[if_neg (by rw[hl];omega),Int.toNat_natCast,hg];simp
 have hv:=get_any s (p:Int) w hs;rw[hgv] at hv;exact hv
theorem vget_no (w:World) (p:Nat) (s:ByteArray) (hs:s.size<=1000000) (hp:p<=s.size) (hg:(gv 0 0 (s.data.toList.drop p)).2.2≠0) :
  Calls Tryz.prog 70 #[.string s,.int .i64 (p:Int)] w fun e w'=>e=.returned (.tuple #[.int .i64 0,.int .i64 0,.int .i64 (gv 0 0 (s.data.toList.drop p)).2.2])/\w=w':=by
 have hl:s.data.toList.length=s.size:=rfl;have hgv:getV s.data.toList (p:Int)=(0,0,(gv 0 0 (s.data.toList.drop p)).2.2):=by
  unfold getV;rw[if_neg (by rw[hl];omega),Int.toNat_natCast,if_neg hg]
 have hv:=get_any s (p:Int) w hs;rw[hgv] at hv;exact hv
theorem gv_in (s:ByteArray) (p n len:Nat) (hp:p<=s.size) (hg:gv 0 0 (s.data.toList.drop p)=(n,len,0)):n<9223372036854775808/\p+len<=s.size:=by
 obtain⟨m,rest,h1,h2,h3,h4,-⟩:=gv_some _ 0 0 n len hg;have:=congrArg List.length h1;rw[List.length_drop,List.length_append] at this;have hl:s.data.toList.length=s.size:=rfl;simp only[Nat.pow_zero,Nat.mul_one,Nat.zero_add,Nat.sub_zero] at h2 h3 h4;have e:(128:Nat)^9=9223372036854775808:=by decide
 omega
theorem extract_mid (s:ByteArray) (p z:Nat):s.extract p (p+z)=⟨((s.data.toList.drop p).take z).toArray⟩:=by
 apply ByteArray.ext
 apply Array.ext'
 rw[ByteArray.data_extract];rw[Array.toList_extract];simp[List.extract_eq_take_drop]
def Row3 (w:World) (b:Nat) (x y z:Nat):Prop:=w.heap[b]? =some (.cells #[.int .i64 (x:Int),.int .i64 (y:Int),.int .i64 (z:Int)] 161 (0,0))
section
variable {w w':World} {b x y z:Nat}
theorem Row3.c0 (h:Row3 w b x y z):w.cell? ⟨b,0,none⟩=some (.int .i64 (x:Int)):=by rw[cell_of_row w b 0 _ _ (0,0) h];rfl
theorem Row3.c1 (h:Row3 w b x y z):w.cell? ⟨b,1,none⟩=some (.int .i64 (y:Int)):=by rw[cell_of_row w b 1 _ _ (0,0) h];rfl
theorem Row3.c2 (h:Row3 w b x y z):w.cell? ⟨b,2,none⟩=some (.int .i64 (z:Int)):=by rw[cell_of_row w b 2 _ _ (0,0) h];rfl
theorem Row3.fz (h:Row3 w b x y z) (j:Nat):w.frozen? ⟨b,j,none⟩=false:=frozen_of_row w b j _ _ h
theorem Row3.set0 (h:Row3 w b x y z) (u:Nat):Row3 (w.setCell ⟨b,0,none⟩ (.int .i64 (u:Int))) b u y z:=by
 unfold Row3 at *
 simp[World.setCell,Array.getElem?_modify,h]
theorem Row3.set1 (h:Row3 w b x y z) (u:Nat):Row3 (w.setCell ⟨b,1,none⟩ (.int .i64 (u:Int))) b x u z:=by
 unfold Row3 at *
 simp[World.setCell,Array.getElem?_modify,h]
theorem Row3.set2 (h:Row3 w b x y z) (u:Nat):Row3 (w.setCell ⟨b,2,none⟩ (.int .i64 (u:Int))) b x y u:=by
 unfold Row3 at *
 simp[World.setCell,Array.getElem?_modify,h]
end
def Res (w:World) (b:Nat):Prop:=w.heap[b]? =some (.cells #[.int .i64 0,.int .i64 0,.string ⟨#[]⟩] 53 (0,0))
section
variable {w w':World} {b:Nat}
theorem Res.c0 (h:Res w b):w.cell? ⟨b,0,none⟩=some (.int .i64 0):=by rw[cell_of_row w b 0 _ _ (0,0) h];rfl
theorem Res.c1 (h:Res w b):w.cell? ⟨b,1,none⟩=some (.int .i64 0):=by rw[cell_of_row w b 1 _ _ (0,0) h];rfl
theorem Res.c2 (h:Res w b):w.cell? ⟨b,2,none⟩=some (.string ⟨#[]⟩):=by rw[cell_of_row w b 2 _ _ (0,0) h];rfl
theorem Res.fz (h:Res w b) (j:Nat):w.frozen? ⟨b,j,none⟩=false:=frozen_of_row w b j _ _ h
end
theorem rec1_at {b r:List UInt8} {x y z:Nat} (h:fin 3 [] b=(0,[x,y,z],r)) :
  rec1 b=if x<1∨1000000000<x∨1000000000<y∨2000<z then none else if r.length<z then none else some (((x:Int),(y:Int),⟨(r.take z).toArray⟩),r.drop z):=by
 simp only[rec1,h]
theorem rec1_err {b:List UInt8} (h:(fin 3 [] b).1≠0):rec1 b=none:=by
 unfold rec1;split
 ·rename_i he;rw[he] at h;exact absurd rfl h
 ·rfl
theorem Res.fill {w w':World} {b:Nat} (h:Res w b) (q t:Int) (d:ByteArray) (hw:w'=((w.setCell ⟨b,0,none⟩ (.int .i64 q)).setCell ⟨b,1,none⟩ (.int .i64 t)).setCell ⟨b,2,none⟩ (.string d)) :
  w'.cell? ⟨b,0,none⟩=some (.int .i64 q)/\w'.cell? ⟨b,1,none⟩=some (.int .i64 t)/\w'.cell? ⟨b,2,none⟩=some (.string d):=by
 have hh:w'.heap[b]? =some (.cells #[.int .i64 q,.int .i64 t,.string d] 53 (0,0)):=by
  rw[hw];unfold Res at h;simp[World.setCell,Array.getElem?_modify,h]
 exact⟨by rw[cell_of_row w' b 0 _ _ (0,0) hh];rfl,by rw[cell_of_row w' b 1 _ _ (0,0) hh];rfl,by rw[cell_of_row w' b 2 _ _ (0,0) hh];rfl⟩
theorem below_fill {w w':World} {b B:Nat} {v0 v1 v2:Value} (h:Below B w w') (hb:B<=b):Below B w (((w'.setCell ⟨b,0,none⟩ v0).setCell ⟨b,1,none⟩ v1).setCell ⟨b,2,none⟩ v2) :=
 ((h.setCell (p:=⟨b,0,none⟩) hb v0).setCell (p:=⟨b,1,none⟩) hb v1).setCell (p:=⟨b,2,none⟩) hb v2
def getQ (b:List UInt8) (p:Nat) (e:Ending):Prop:=(∃r b',rec1 b=some (r,b')/\e=.returned (.tuple #[rv r,.int .i64 ((p+(recB r).length:Nat):Int),.int .i64 0])) ∨
 (rec1 b=none/\ ∃x,e=.returned (.tuple #[rv (0,0,⟨#[]⟩),.int .i64 0,.int .i64 x])/\x≠0)
set_option maxHeartbeats 6400000 in
set_option maxRecDepth 100000 in
theorem rget_any (s:ByteArray) (p:Nat) (w:World) (hs:s.size<=1000000) (hp:p<=s.size) :
  Calls Tryz.prog 106 #[.string s,.int .i64 (p:Int)] w fun e w'=>getQ (s.data.toList.drop p) p e/\Below w.heap.size w w':=by
 have mixed:Tryz.prog.follows .mixedOrders=true:=by kernel_rfl
 obtain⟨F,hF⟩:∃F,F=fin 3 [] (s.data.toList.drop p):=⟨_,rfl⟩
 have HF:=Lib.hid hF;clear hF
 go_enter Tryz.func106, Tryz.ntmps106
 go_wp2_with fail
 go_step3
 go_wp2_with fail
 go_step3
 go_wp2_with fail
 have hr3:Row3 ((w.alloc (.cells #[.int .i64 0,.int .i64 0,.string ⟨#[]⟩] 53)).alloc (.cells #[.int .i64 0,.int .i64 0,.int .i64 0] 161)) (w.heap.size+1) 0 0 0:=by
  have:=heap_alloc_new (w.alloc (.cells #[.int .i64 0,.int .i64 0,.string ⟨#[]⟩] 53)) (.cells #[.int .i64 0,.int .i64 0,.int .i64 0] 161)
  rwa [show(w.alloc (.cells #[.int .i64 0,.int .i64 0,.string ⟨#[]⟩] 53)).heap.size=w.heap.size+1 by simp] at this
 have hrs:Res ((w.alloc (.cells #[.int .i64 0,.int .i64 0,.string ⟨#[]⟩] 53)).alloc (.cells #[.int .i64 0,.int .i64 0,.int .i64 0] 161)) w.heap.size :=
  (Below.heap_alloc _ _ w.heap.size (by simp)).trans (heap_alloc_new w _)
 have hbw:Below w.heap.size w ((w.alloc (.cells #[.int .i64 0,.int .i64 0,.string ⟨#[]⟩] 53)).alloc (.cells #[.int .i64 0,.int .i64 0,.int .i64 0] 161)):=((Below.refl _ _).alloc (Nat.le_refl _) _).alloc (by simp) _;generalize (w.alloc (.cells #[.int .i64 0,.int .i64 0,.string ⟨#[]⟩] 53)).alloc (.cells #[.int .i64 0,.int .i64 0,.int .i64 0] 161)=w0 at *
 have H0:=Lib.hid (And.intro hr3 (And.intro hrs hbw));clear hr3 hrs hbw;go_loopw [1,9] (fun a i wr=>∃(k x y z p':Nat),a=.int .i64 (p':Int)/\i=.int .i64 (k:Int)/\k<=3/\p'<=s.size/\x<9223372036854775808/\y<9223372036854775808/\z<9223372036854775808 /\
  Hid (F=fin (3-k) ([x,y,z].take k) (s.data.toList.drop p')/\Row3 wr (w.heap.size+1) x y z/\Res wr w.heap.size/\Below w.heap.size w wr)) (fun _ i _=>3-(intOf i).toNat)
 case atStart=>exact⟨0,0,0,0,p,rfl,rfl,by omega,hp,by omega,by omega,by omega,HF.out,H0.out⟩
 case round =>
  obtain⟨k,x,y,z,p',rfl,rfl,hk,hp',hx,hy,hz,HX⟩:=hrel;by_cases hk3:k<3
  ·by_cases hg:(gv 0 0 (s.data.toList.drop p')).2.2=0
   ·obtain⟨u,len,hgv⟩:∃u len,gv 0 0 (s.data.toList.drop p')=(u,len,0):=⟨_,_,by rw[<-hg]⟩
    obtain⟨hu,hlen⟩:=gv_in s p' u len hp' hgv;have HG:=Lib.hid (vget_ok wr p' u len s hs hp' hgv);have hstep:fin (3-k) ([x,y,z].take k) (s.data.toList.drop p')=fin (3-(k+1)) ([x,y,z].take k++[u]) (s.data.toList.drop (p'+len)):=by
     rw[show 3-k=(3-(k+1))+1 by omega,fin,if_neg (by simp[hg]),hgv,List.drop_drop]
    have HST:=Lib.hid (HX.out.1.trans hstep);clear hstep hg hgv;obtain rfl|rfl|rfl:k=0∨k=1∨k=2:=by omega
    ·have hc:=HX.out.2.1.c0
     have hf:=HX.out.2.1.fz 0;have HN:=Lib.hid (show Row3 (wr.setCell ⟨w.heap.size+1,0,none⟩ (.int .i64 (u:Int))) (w.heap.size+1) u y z/\Res (wr.setCell ⟨w.heap.size+1,0,none⟩ (.int .i64 (u:Int))) w.heap.size/\Below w.heap.size w (wr.setCell ⟨w.heap.size+1,0,none⟩ (.int .i64 (u:Int))) from
      ⟨HX.out.2.1.set0 u,(Below.heap_setCell wr ⟨w.heap.size+1,0,none⟩ _ w.heap.size (by simp)).trans HX.out.2.2.1,HX.out.2.2.2.setCell (p:=⟨w.heap.size+1,0,none⟩) (by simp) _⟩)
     have HST2:=Lib.hid (show F=fin (3-1) ([u,y,z].take 1) (s.data.toList.drop (p'+len)) from HST.out);clear HX HST;go_wp2_with fail
     refine HG.out.mono ?_;rintro e1 w1 ⟨rfl,rfl⟩;clear HG;go_wp2
     exact⟨⟨1,u,y,z,p'+len,by go_num,rfl,by omega,by omega,by omega,by omega,by omega,HST2.out,HN.out⟩,by simp[intOf]⟩
    ·have hc:=HX.out.2.1.c1
     have hf:=HX.out.2.1.fz 1;have HN:=Lib.hid (show Row3 (wr.setCell ⟨w.heap.size+1,1,none⟩ (.int .i64 (u:Int))) (w.heap.size+1) x u z/\Res (wr.setCell ⟨w.heap.size+1,1,none⟩ (.int .i64 (u:Int))) w.heap.size/\Below w.heap.size w (wr.setCell ⟨w.heap.size+1,1,none⟩ (.int .i64 (u:Int))) from
      ⟨HX.out.2.1.set1 u,(Below.heap_setCell wr ⟨w.heap.size+1,1,none⟩ _ w.heap.size (by simp)).trans HX.out.2.2.1,HX.out.2.2.2.setCell (p:=⟨w.heap.size+1,1,none⟩) (by simp) _⟩)
     have HST2:=Lib.hid (show F=fin (3-2) ([x,u,z].take 2) (s.data.toList.drop (p'+len)) from HST.out);clear HX HST;go_wp2_with fail
     refine HG.out.mono ?_;rintro e1 w1 ⟨rfl,rfl⟩;clear HG;go_wp2
     exact⟨⟨2,x,u,z,p'+len,by go_num,rfl,by omega,by omega,by omega,by omega,by omega,HST2.out,HN.out⟩,by simp[intOf]⟩
    ·have hc:=HX.out.2.1.c2
     have hf:=HX.out.2.1.fz 2;have HN:=Lib.hid (show Row3 (wr.setCell ⟨w.heap.size+1,2,none⟩ (.int .i64 (u:Int))) (w.heap.size+1) x y u/\Res (wr.setCell ⟨w.heap.size+1,2,none⟩ (.int .i64 (u:Int))) w.heap.size/\Below w.heap.size w (wr.setCell ⟨w.heap.size+1,2,none⟩ (.int .i64 (u:Int))) from
      ⟨HX.out.2.1.set2 u,(Below.heap_setCell wr ⟨w.heap.size+1,2,none⟩ _ w.heap.size (by simp)).trans HX.out.2.2.1,HX.out.2.2.2.setCell (p:=⟨w.heap.size+1,2,none⟩) (by simp) _⟩)
     have HST2:=Lib.hid (show F=fin (3-3) ([x,y,u].take 3) (s.data.toList.drop (p'+len)) from HST.out);clear HX HST;go_wp2_with fail
     refine HG.out.mono ?_;rintro e1 w1 ⟨rfl,rfl⟩;clear HG;go_wp2
     exact⟨⟨3,x,y,u,p'+len,by go_num,rfl,by omega,by omega,by omega,by omega,by omega,HST2.out,HN.out⟩,by simp[intOf]⟩
   ·have HG:=Lib.hid (vget_no wr p' s hs hp' hg)
    have hstep:(fin (3-k) ([x,y,z].take k) (s.data.toList.drop p')).1=(gv 0 0 (s.data.toList.drop p')).2.2:=by
     rw[show 3-k=(3-(k+1))+1 by omega,fin,if_pos hg]
    have hno:rec1 (s.data.toList.drop p)=none:=rec1_err (by rw[<-HF.out,HX.out.1,hstep];exact hg);have HNO:=Lib.hid hno;generalize hxx:(gv 0 0 (s.data.toList.drop p')).2.2=xx at *
    have hb0:(xx==0)=false:=by rw[beq_eq_false_iff_ne];exact hg
    clear hstep hno hxx;have cr0:=HX.out.2.2.1.c0;have cr1:=HX.out.2.2.1.c1;have cr2:=HX.out.2.2.1.c2;have fr0:=HX.out.2.2.1.fz 0;have fr1:=HX.out.2.2.1.fz 1;have fr2:=HX.out.2.2.1.fz 2;obtain rfl|rfl|rfl:k=0∨k=1∨k=2:=by omega
    ·have hc:=HX.out.2.1.c0
     have hf:=HX.out.2.1.fz 0;have HRS:=Lib.hid ((Below.heap_setCell wr ⟨w.heap.size+1,0,none⟩ (.int .i64 0) w.heap.size (by simp)).trans HX.out.2.2.1);have HB:=Lib.hid (HX.out.2.2.2.setCell (p:=⟨w.heap.size+1,0,none⟩) (by simp) (.int .i64 0));clear HX;go_wp2_with fail
     refine HG.out.mono ?_;rintro e1 w1 ⟨rfl,rfl⟩;clear HG;go_wp2
     obtain⟨e0,e1,e2⟩:=Res.fill HRS.out 0 0 ⟨#[]⟩ rfl;rw[Exit.noGoto_ret]
     change bodyPost _ _ _ _ _ _
     refine bodyPost_ret (v:=.tuple #[rv (0,0,⟨#[]⟩),.int .i64 0,.int .i64 xx]) ?_ rfl ?_
     ·simp[results,go_sem,e0,e1,e2,rv]
     ·exact⟨.inr ⟨HNO.out,xx,rfl,hg⟩,below_fill HB.out (Nat.le_refl _)⟩
    ·have hc:=HX.out.2.1.c1
     have hf:=HX.out.2.1.fz 1;have HRS:=Lib.hid ((Below.heap_setCell wr ⟨w.heap.size+1,1,none⟩ (.int .i64 0) w.heap.size (by simp)).trans HX.out.2.2.1);have HB:=Lib.hid (HX.out.2.2.2.setCell (p:=⟨w.heap.size+1,1,none⟩) (by simp) (.int .i64 0));clear HX;go_wp2_with fail
     refine HG.out.mono ?_;rintro e1 w1 ⟨rfl,rfl⟩;clear HG;go_wp2
     obtain⟨e0,e1,e2⟩:=Res.fill HRS.out 0 0 ⟨#[]⟩ rfl;rw[Exit.noGoto_ret]
     change bodyPost _ _ _ _ _ _
     refine bodyPost_ret (v:=.tuple #[rv (0,0,⟨#[]⟩),.int .i64 0,.int .i64 xx]) ?_ rfl ?_
     ·simp[results,go_sem,e0,e1,e2,rv]
     ·exact⟨.inr ⟨HNO.out,xx,rfl,hg⟩,below_fill HB.out (Nat.le_refl _)⟩
    ·have hc:=HX.out.2.1.c2
     have hf:=HX.out.2.1.fz 2;have HRS:=Lib.hid ((Below.heap_setCell wr ⟨w.heap.size+1,2,none⟩ (.int .i64 0) w.heap.size (by simp)).trans HX.out.2.2.1);have HB:=Lib.hid (HX.out.2.2.2.setCell (p:=⟨w.heap.size+1,2,none⟩) (by simp) (.int .i64 0));clear HX;go_wp2_with fail
     refine HG.out.mono ?_;rintro e1 w1 ⟨rfl,rfl⟩;clear HG;go_wp2
     obtain⟨e0,e1,e2⟩:=Res.fill HRS.out 0 0 ⟨#[]⟩ rfl;rw[Exit.noGoto_ret]
     change bodyPost _ _ _ _ _ _
     refine bodyPost_ret (v:=.tuple #[rv (0,0,⟨#[]⟩),.int .i64 0,.int .i64 xx]) ?_ rfl ?_
     ·simp[results,go_sem,e0,e1,e2,rv]
     ·exact⟨.inr ⟨HNO.out,xx,rfl,hg⟩,below_fill HB.out (Nat.le_refl _)⟩
  ·obtain rfl:k=3:=by omega
   have hfin:fin 3 [] (s.data.toList.drop p)=(0,[x,y,z],s.data.toList.drop p'):=HF.out.symm.trans HX.out.1;have hrec:=rec1_at hfin;have hl:s.data.toList.length=s.size:=rfl;rw[List.length_drop,hl] at hrec;have HREC:=Lib.hid hrec;have HFIN:=Lib.hid hfin;have c0:=HX.out.2.1.c0;have c1:=HX.out.2.1.c1;have c2:=HX.out.2.1.c2;have cr0:=HX.out.2.2.1.c0;have cr1:=HX.out.2.2.1.c1;have cr2:=HX.out.2.2.1.c2;have fr0:=HX.out.2.2.1.fz 0;have fr1:=HX.out.2.2.1.fz 1;have fr2:=HX.out.2.2.1.fz 2;clear hrec hfin hl;by_cases hbad:x<1∨1000000000<x∨1000000000<y∨2000<z
   ·have hno:rec1 (s.data.toList.drop p)=none:=by rw[HREC.out,if_pos hbad]
    have HNO:=Lib.hid hno;obtain⟨e0,e1,e2⟩:=Res.fill HX.out.2.2.1 0 0 ⟨#[]⟩ rfl;have HB:=Lib.hid (HX.out.2.2.2);clear HX hno HREC HFIN;by_cases h1:(x:Int)<1
    ·skip
     go_wp2
     try rw[Exit.noGoto_ret]
     change bodyPost _ _ _ _ _ _
     refine bodyPost_ret (v:=.tuple #[rv (0,0,⟨#[]⟩),.int .i64 0,.int .i64 150]) ?_ rfl ?_
     ·simp[results,go_sem,e0,e1,e2,rv]
     ·exact⟨.inr ⟨HNO.out,150,rfl,by decide⟩,below_fill HB.out (Nat.le_refl _)⟩
    by_cases h2:(1000000000:Int)<(x:Int)
    ·skip
     go_wp2
     try rw[Exit.noGoto_ret]
     change bodyPost _ _ _ _ _ _
     refine bodyPost_ret (v:=.tuple #[rv (0,0,⟨#[]⟩),.int .i64 0,.int .i64 150]) ?_ rfl ?_
     ·simp[results,go_sem,e0,e1,e2,rv]
     ·exact⟨.inr ⟨HNO.out,150,rfl,by decide⟩,below_fill HB.out (Nat.le_refl _)⟩
    by_cases h3:(1000000000:Int)<(y:Int)
    ·skip
     go_wp2
     try rw[Exit.noGoto_ret]
     change bodyPost _ _ _ _ _ _
     refine bodyPost_ret (v:=.tuple #[rv (0,0,⟨#[]⟩),.int .i64 0,.int .i64 150]) ?_ rfl ?_
     ·simp[results,go_sem,e0,e1,e2,rv]
     ·exact⟨.inr ⟨HNO.out,150,rfl,by decide⟩,below_fill HB.out (Nat.le_refl _)⟩
    have h4:(2000:Int)<(z:Int):=by omega
    go_wp2
    try rw[Exit.noGoto_ret]
    change bodyPost _ _ _ _ _ _
    refine bodyPost_ret (v:=.tuple #[rv (0,0,⟨#[]⟩),.int .i64 0,.int .i64 150]) ?_ rfl ?_
    ·simp[results,go_sem,e0,e1,e2,rv]
    ·exact⟨.inr ⟨HNO.out,150,rfl,by decide⟩,below_fill HB.out (Nat.le_refl _)⟩
   have h1: ¬ (x:Int)<1:=by omega
   have h2: ¬ (1000000000:Int)<(x:Int):=by omega
   have h3: ¬ (1000000000:Int)<(y:Int):=by omega
   have h4: ¬ (2000:Int)<(z:Int):=by omega
   by_cases hsh:s.size-p'<z
   ·have hno:rec1 (s.data.toList.drop p)=none:=by rw[HREC.out,if_neg hbad,if_pos hsh]
    have HNO:=Lib.hid hno;obtain⟨e0,e1,e2⟩:=Res.fill HX.out.2.2.1 0 0 ⟨#[]⟩ rfl;have HB:=Lib.hid (HX.out.2.2.2);have h5:(s.size:Int)-(p':Int)<(z:Int):=by omega
    clear HX hno HREC HFIN;go_wp2
    try rw[Exit.noGoto_ret]
    change bodyPost _ _ _ _ _ _
    refine bodyPost_ret (v:=.tuple #[rv (0,0,⟨#[]⟩),.int .i64 0,.int .i64 4]) ?_ rfl ?_
    ·simp[results,go_sem,e0,e1,e2,rv]
    ·exact⟨.inr ⟨HNO.out,4,rfl,by decide⟩,below_fill HB.out (Nat.le_refl _)⟩
   ·have hyes:rec1 (s.data.toList.drop p)=some (((x:Int),(y:Int),⟨((s.data.toList.drop p').take z).toArray⟩),(s.data.toList.drop p').drop z):=by rw[HREC.out,if_neg hbad,if_neg hsh]
    have HYES:=Lib.hid hyes;have h5: ¬ (s.size:Int)-(p':Int)<(z:Int):=by omega
    clear hyes HREC;go_wp2
    have i1:(p':Int)<=(p':Int)+(z:Int):=by omega
    have i2:(p':Int)+(z:Int)<=(s.size:Int):=by omega
    have i3:((p':Int)+(z:Int)).toNat=p'+z:=by omega
    have i4:(0:Int)<=(p':Int):=by omega
    have i5:IntKind.i64.wrap ((p':Int)+(z:Int))=(p':Int)+(z:Int):=by rw[IntKind.wrap_i64];omega
    have i6:((p':Int)).toNat=p':=by omega
    go_region
    all_goals
     obtain⟨e0,e1,e2⟩:=Res.fill HX.out.2.2.1 (x:Int) (y:Int) (s.extract p' (p'+z)) rfl;have HB:=Lib.hid (HX.out.2.2.2);have hex:=extract_mid s p' z;obtain⟨hok,happ⟩:=rec1_some _ _ _ HYES.out;have hlen:=congrArg List.length happ;have hl:s.data.toList.length=s.size:=rfl;rw[List.length_append,List.length_drop,List.length_drop,List.length_drop,hl] at hlen;have HL:=Lib.hid hlen;have HEX:=Lib.hid hex;clear HX hlen happ hok hex hl;go_wp2
     try rw[Exit.noGoto_ret]
     change bodyPost _ _ _ _ _ _
     refine bodyPost_ret (v:=.tuple #[.agg #[.int .i64 (x:Int),.int .i64 (y:Int),.string (s.extract p' (p'+z))],.int .i64 ((p':Int)+(z:Int)),.int .i64 0]) ?_ rfl ?_
     ·simp[results,go_sem,e0,e1,e2]
     ·refine⟨.inl ⟨_,_,HYES.out,?_⟩,below_drewN (n:=1) (below_fill HB.out (Nat.le_refl _))⟩
      rw[HEX.out];have:=HL.out;have e9:(p':Int)+(z:Int)=((p+(recB ((x:Int),(y:Int),⟨((s.data.toList.drop p').take z).toArray⟩)).length:Nat):Int):=by omega
      rw[e9];rfl
end Rd
end Go.Proofs.YtjligbmickfbdaaGreat
