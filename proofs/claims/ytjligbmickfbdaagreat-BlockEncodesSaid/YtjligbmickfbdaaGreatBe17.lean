/- bwt: Steps$1, Steps. bwt.Inverse. -/
import Derived.Test.YtjligbmickfbdaaGreatBe16
import Derived.Test.YtjligbmickfbdaaGreatBe06
namespace Go.Proofs.YtjligbmickfbdaaGreat
namespace Bw
open Go.RowKit
open Cn (vs length_vs vs_at vs_set)
def jx (p k:Nat):Nat:=if p<k then k-1 else k
theorem at_jx (l:List UInt8) (p row:Nat):at_ l p row=l.getD (jx p row) 0:=rfl
theorem rows_map (l:List UInt8) (p:Nat) (hp:p<=l.length):∀k,k<=l.length+1->((List.range k).filter fun r=>decide (r≠p)).map (at_ l p)=l.take (jx p k)
 |0,_=>by simp[jx]
 |k+1,hk=>by
  have ih:=rows_map l p hp k (by omega);rw[List.range_succ,List.filter_append,List.map_append,ih];by_cases he:k=p
  ·subst he;simp[jx]
  ·rw[List.filter_cons_of_pos (by simpa using he),List.filter_nil,List.map_cons,List.map_nil,at_jx]
   have hj:jx p (k+1)=jx p k+1:=by unfold jx;split<;>split<;>omega
   have hlt:jx p k<l.length:=by unfold jx;split<;>omega
   rw[hj,List.take_add_one,List.getD_eq_getElem?_getD,List.getElem?_eq_getElem hlt];rfl
theorem stp_eq (l:List UInt8) (p row:Nat) (hp:p<=l.length) (hr:row<=l.length):stp l p row=beg l (at_ l p row).toNat+cb (l.take (jx p row)) (at_ l p row).toNat:=by
 unfold stp cb;congr 1;rw[<-rows_map l p hp row (by omega),List.countP_map,List.countP_filter,List.countP_eq_length_filter];congr 1;apply List.filter_congr
 intro r _;rw[Bool.and_comm];congr 1;simp only[Function.comp,decide_eq_decide];exact⟨fun e=>by rw[e],fun e=>UInt8.toNat_inj.1 e⟩
theorem cb_take_le (l:List UInt8) (j b:Nat):cb (l.take j) b<=cb l b:=(List.take_sublist j l).countP_le
theorem stp_le (l:List UInt8) (p row:Nat) (hp:p<=l.length) (hr:row<=l.length) (hne:row≠p):stp l p row<=l.length:=by
 rw[stp_eq l p row hp hr];have hj:jx p row<l.length:=by unfold jx;split<;>omega
 have h1:=cb_take l (jx p row) (at_ l p row).toNat hj;have h2:at_ l p row=l[jx p row]:=by rw[at_jx,List.getD_eq_getElem?_getD,List.getElem?_eq_getElem hj];rfl
 rw[if_pos (by rw[h2])] at h1;have h3:=cb_take_le l (jx p row+1) (at_ l p row).toNat;have h4:=beg_step l (at_ l p row).toNat;have h5:=beg_le l ((at_ l p row).toNat+1);omega
def stK (l:List UInt8) (p k:Nat):List Int:=(List.range (l.length+1)).map fun r=>if r<k/\r≠p then(stp l p r:Int) else 0
theorem length_stK (l:List UInt8) (p k:Nat):(stK l p k).length=l.length+1:=by simp[stK]
theorem stK_zero (l:List UInt8) (p:Nat):stK l p 0=List.replicate (l.length+1) 0:=by
 unfold stK;simp only[Nat.not_lt_zero,false_and,if_false,List.map_const',List.length_range]
theorem stK_at (l:List UInt8) (p k r:Nat) (hr:r<=l.length):(stK l p k)[r]? =some (if r<k/\r≠p then(stp l p r:Int) else 0):=by
 unfold stK;rw[List.getElem?_map,List.getElem?_range (by omega)];rfl
theorem stK_set (l:List UInt8) (p k:Nat) (hk:k<=l.length) (hne:k≠p):(stK l p k).set k (stp l p k:Int)=stK l p (k+1):=by
 apply List.ext_getElem?
 intro j;by_cases hj:j<=l.length
 ·rw[List.getElem?_set,length_stK,stK_at l p (k+1) j hj,stK_at l p k j hj]
  by_cases he:k=j
  ·subst he;rw[if_pos rfl,if_pos (by omega),if_pos ⟨by omega,hne⟩]
  ·rw[if_neg he]
   by_cases h:j<k/\j≠p
   ·rw[if_pos h,if_pos ⟨by omega,h.2⟩]
   ·rw[if_neg h,if_neg (by rintro ⟨h1,h2⟩;exact h ⟨by omega,h2⟩)]
 ·rw[List.getElem?_eq_none (by rw[List.length_set,length_stK];omega),List.getElem?_eq_none (by rw[length_stK];omega)]
theorem stK_same (l:List UInt8) (p:Nat):stK l p (p+1)=stK l p p:=by
 unfold stK;apply List.map_congr_left
 intro j _;by_cases h:j<p/\j≠p
 ·rw[if_pos h,if_pos ⟨by omega,h.2⟩]
 ·rw[if_neg h,if_neg (by rintro ⟨h1,h2⟩;exact h ⟨by omega,h2⟩)]
set_option maxHeartbeats 3200000 in
set_option maxRecDepth 100000 in
theorem step_any (w:World) (gN b:Nat) (v:Nat) (l:List Int) (h:Ar w gN l) (hb:b<256) (hv:l.getD b 0=(v:Int)) (hvb:v<=1000000) :
  Calls Tryz.prog 144 #[.int .u8 (b:Int),.pointer (some ⟨gN,0,none⟩)] w fun e w'=>e=.returned (.int .i64 (v:Int))/\w'=w.setCell ⟨gN,b,none⟩ (.int .i64 ((v+1:Nat):Int)):=by
 have mixed:Tryz.prog.follows .mixedOrders=true:=by kernel_rfl
 have hc:=h.cell b hb;rw[hv] at hc;have hf:=h.fz b;have hc2:=(h.set b ((v+1:Nat):Int)).cell b hb;rw[List.getD_eq_getElem?_getD,List.getElem?_set_self (by rw[h.2];exact hb),Option.getD_some] at hc2;have hb256:(b:Int)<256:=by omega
 clear h hv
 go_enter Tryz.func144, Tryz.ntmps144
 go_wp2_with fail
 go_ret
 exact⟨rfl,rfl⟩
theorem mayB_nat (n:Nat) (pr:Int) (h:mayB n pr=true):∃p:Nat,pr=(p:Int)/\p<=n:=by
 unfold mayB at h;split at h
 ·simp at h;exact⟨0,by omega,by omega⟩
 ·simp at h;exact⟨pr.toNat,by omega,by omega⟩
set_option maxHeartbeats 6400000 in
set_option maxRecDepth 100000 in
theorem steps_any (s:ByteArray) (p:Nat) (w:World) (hs:s.size<=20000) (hp:p<=s.size) (hm:mayB s.size (p:Int)=true) :
  Calls Tryz.prog 121 #[.string s,.int .i64 (p:Int)] w fun e w'=>∃g c,e=.returned (.tuple #[.slice (some ⟨g,0,none⟩) (s.size+1) c,.int .i64 0])/\Own w' w.heap.size (.slice (some ⟨g,0,none⟩) (s.size+1) c) (stK s.data.toList p (s.size+1))/\Below w.heap.size w w':=by
 have mixed:Tryz.prog.follows .mixedOrders=true:=by kernel_rfl
 have hz:(Tryz.prog.info? 200).map (fun i=>(i.zero,i.size))=some (some (.agg (Array.replicate 256 (.int .i64 0))),256):=by kernel_rfl
 have HZ:=Lib.hid hz;have hmay:=may_any s (p:Int) w (by omega);rw[hm] at hmay;have HM:=Lib.hid hmay;obtain⟨l,hl⟩:∃l,l=s.data.toList:=⟨_,rfl⟩
 have hlen:l.length=s.size:=by rw[hl];rfl
 have HL:=Lib.hid hl;have HLE:=Lib.hid hlen;have HST:=Lib.hid (starts_any s w hs);rw[<-hl] at HST ⊢;have hjb:(vs (l256 (beg l))).toArray.size=256:=by rw[List.size_toArray,length_vs,length_l256]
 have HSZ:=Lib.hid hjb;have H1C:=Lib.hid (show(vs (l256 (beg l))).toArray.all (·.oneCell')=true from all_oneCell_toArray (by intro v hv;obtain⟨_,_,rfl⟩:=List.mem_map.1 hv;rfl));clear hz hmay hm hl hlen hjb
 go_enter Tryz.func121, Tryz.ntmps121
 go_wp2_with fail
 refine HM.out.mono ?_;rintro e1 w1 ⟨rfl,rfl⟩;go_wp2_with fail
 refine HST.out.mono ?_;rintro e2 w2 ⟨rfl,hb2⟩;have HB2:=Lib.hid hb2;have hs2:=hb2.size;clear hb2 HM HST;go_wp2_with (first|(refine wpList_alloc_zero rfl 200 rfl _ _ HZ.out ?_)|(refine wpList_store_new w2 (Array.replicate 256 (.int .i64 0)) rfl 200 (.tmp 6) (.tmp 18) rfl (vs (l256 (beg l))).toArray (by simp[go_sem,Act.eval]) (by simp[go_sem,Act.eval]) (by rw[HSZ.out];kernel_rfl) (by rw[HSZ.out];simp) H1C.out ?_)|(at_make;(refine make1 (n:=s.size+1) (by omega) (Nat.le_refl _) ?_);intro w4 hown4 hg4))
 have hsz:(w2.alloc (.cells (vs (l256 (beg l))).toArray 200)).heap.size=w2.heap.size+1:=by simp
 rw[hsz] at hown4;have hN:Ar w4 w2.heap.size (l256 fun b=>beg l b+cb (l.take (jx p 0)) b):=by
  have e:(l256 fun b=>beg l b+cb (l.take (jx p 0)) b)=l256 (beg l):=l256_congr fun b _=>by
   rw[show jx p 0=0 by unfold jx;split<;>omega];rfl
  rw[e];exact⟨(hg4.block w2.heap.size (by omega) (by simp)).trans (heap_alloc_new w2 _),length_l256 _⟩
 have hb4:Below w.heap.size w w4:=HB2.out.trans ((((Below.refl w2.heap.size w2).alloc (Nat.le_refl _) _).grown hg4 (by omega) (by simp)).mono hs2);have hO:Own w4 (w2.heap.size+1) (.slice (some ⟨w2.heap.size+1,0,none⟩) (s.size+1) (s.size+1)) (stK l p 0):=by
  rw[stK_zero,HLE.out];exact hown4
 have H0:Aside _:=And.intro hN (And.intro hO hb4);obtain⟨gN,hgN⟩:∃gN,gN=w2.heap.size:=⟨_,rfl⟩
 rw[<-hgN] at H0 ⊢;have hgs:w.heap.size<=gN:=by omega
 clear hsz hown4 hg4 hN hb4 hO HSZ H1C HZ hgN hs2 HB2;go_loopg [26] (s.size+1) (fun kx s26 wr=>∃(k:Nat),s26=.int .i64 (k:Int)/\k<=s.size+1/\s.size+1-k<=kx /\
  Aside (Ar wr gN (l256 fun b=>beg l b+cb (l.take (jx p k)) b)/\Own wr (gN+1) (.slice (some ⟨gN+1,0,none⟩) (s.size+1) (s.size+1)) (stK l p k)/\Below w.heap.size w wr))
 case atStart=>exact⟨0,rfl,by omega,by omega,H0.out⟩
 case round =>
  clear H0;obtain⟨k,rfl,hk,hkx,H⟩:=hrel;by_cases hlt:k<s.size+1
  ·by_cases hne:k=p
   ·subst hne
    have hX:Ar wr gN (l256 fun b=>beg l b+cb (l.take (jx k (k+1))) b)/\Own wr (gN+1) (.slice (some ⟨gN+1,0,none⟩) (s.size+1) (s.size+1)) (stK l k (k+1))/\Below w.heap.size w wr:=by
     rw[stK_same,show jx k (k+1)=jx k k by unfold jx;split<;>split<;>omega];exact H.out
    have HX:Aside _:=hX;clear hX H;go_wp2_with fail
    go_roundg (s.size+1-(k+1))
    case measure=>omega
    case rel=>exact⟨k+1,by go_num,by omega,by omega,HX.out⟩
   ·have hj:jx p k<l.length:=by unfold jx;have:=HLE.out;split<;>omega
    have hAT:=at_any s p k wr (by omega) (by omega) (by omega) (show jx p k<s.size by rw[<-HLE.out];exact hj);rw[<-HL.out] at hAT;have HAT:=Lib.hid hAT;have hlk:l[jx p k]'hj=at_ l p k:=by rw[at_jx,List.getD_eq_getElem?_getD,List.getElem?_eq_getElem hj];rfl
    have hct:=fun b=>cb_take l (jx p k) b hj
    rw[hlk] at hct;have hseq:=stp_eq l p k (by have:=HLE.out;omega) (by have:=HLE.out;omega);have hsle:=stp_le l p k (by have:=HLE.out;omega) (by have:=HLE.out;omega) hne;have hj1:jx p (k+1)=jx p k+1:=by unfold jx;split<;>split<;>omega
    obtain⟨cc,hcc⟩:∃cc,cc=at_ l p k:=⟨_,rfl⟩
    rw[<-hcc] at hct hseq HAT;have hlt256:=cc.toNat_lt;have hval:(l256 fun b=>beg l b+cb (l.take (jx p k)) b).getD cc.toNat 0=(stp l p k:Int):=by rw[l256_at _ _ hlt256,hseq]
    have hSP:=step_any wr gN cc.toNat (stp l p k) _ H.out.1 hlt256 hval (by have:=HLE.out;omega);have HSP:=Lib.hid hSP;have hset:=H.out.1.set cc.toNat ((stp l p k+1:Nat):Int);rw[l256_set] at hset;have e1:(l256 fun j=>if j=cc.toNat then stp l p k+1 else beg l j+cb (l.take (jx p k)) j)=l256 fun b=>beg l b+cb (l.take (jx p (k+1))) b:=l256_congr fun b _=>by
     rw[hj1,hct b];by_cases he:b=cc.toNat
     ·rw[if_pos he,if_pos he,hseq,he];omega
     ·rw[if_neg he,if_neg he]
    rw[e1] at hset;have hown2:=own_setCell_far (a:=⟨gN,cc.toNat,none⟩) H.out.2.1 (by intro e;have e2:gN+1=gN:=Option.some.inj e;omega) (.int .i64 ((stp l p k+1:Nat):Int));have hb5:=H.out.2.2.setCell (p:=⟨gN,cc.toNat,none⟩) hgs (.int .i64 ((stp l p k+1:Nat):Int));have hsk:=stK_set l p k (by have:=HLE.out;omega) hne;have H5:Aside _:=And.intro hset (And.intro hown2 hb5);have HSK:=Lib.hid hsk;have hold:=stK_at l p k k (by have:=HLE.out;omega);have HOLD:=Lib.hid hold;generalize stp l p k=v0 at *
    clear hAT hlk hct hseq hsle hj1 hcc hval hSP hset e1 hown2 hb5 hsk hold hj H;go_wp2_with fail
    refine HAT.out.mono ?_;rintro e6 w6 ⟨rfl,rfl⟩;go_wp2_with fail
    refine HSP.out.mono ?_;rintro e7 w7 ⟨rfl,rfl⟩;generalize wr.setCell ⟨gN,cc.toNat,none⟩ (.int .i64 ((v0+1:Nat):Int))=w7 at *
    have hcell:=Own.cell H5.out.2.1 HOLD.out;have hfz:=Own.frozen (k:=k) H5.out.2.1;have hput:=Own.put H5.out.2.1 (k:=k) (v0:Int);rw[HSK.out] at hput;have hX:Ar (w7.setCell ⟨gN+1,k,none⟩ (.int .i64 (v0:Int))) gN (l256 fun b=>beg l b+cb (l.take (jx p (k+1))) b):=⟨(Below.heap_setCell w7 ⟨gN+1,k,none⟩ _ gN (by show gN≠gN+1;omega)).trans H5.out.1.1,length_l256 _⟩
    have hb8:=H5.out.2.2.setCell (p:=⟨gN+1,k,none⟩) (show w.heap.size<=gN+1 by omega) (.int .i64 (v0:Int));have HX:Aside _:=And.intro hX (And.intro hput hb8);have hs3:k<s.size+1:=hlt;clear hput hX hb8 HAT HSP H5;go_wp2_with fail
    go_roundg (s.size+1-(k+1))
    case measure=>omega
    case rel=>exact⟨k+1,by go_num,by omega,by omega,HX.out⟩
  ·obtain rfl:k=s.size+1:=by omega
   have HX:Aside _:=H.out;clear H;go_wp2_with fail
   go_ret2
   exact⟨_,_,rfl,HX.out.2.1.lower (by omega),HX.out.2.2⟩
end Bw
end Go.Proofs.YtjligbmickfbdaaGreat
namespace Go.Proofs.YtjligbmickfbdaaGreat
namespace Bw
open Go.RowKit
section
variable {w:World} {B g n c k:Nat} {l:List UInt8}
theorem ownB_cell (h:OwnB w B (.slice (some ⟨g,0,none⟩) n c) l) {x:UInt8} (hk:l[k]? =some x):w.cell? ⟨g,k,none⟩=some (.int .u8 (x.toNat:Int)):=by
 have:=World.ownsRow.cells h (g:=g) rfl k (.int .u8 (x.toNat:Int)) (by simp[bv,hk])
 rwa [Addr.add_lit,Nat.zero_add] at this
theorem ownB_frozen (h:OwnB w B (.slice (some ⟨g,0,none⟩) n c) l):w.frozen? ⟨g,k,none⟩=false:=by
 rcases h.2 with ⟨hv,h1⟩|⟨g',cap,cur,hv,hg,hh,hn,_⟩
 ·cases hv
 ·cases hv
  simp[World.frozen?,hh]
theorem ownB_len (h:OwnB w B (.slice (some ⟨g,0,none⟩) n c) l):n=l.length:=by
 rcases h.2 with ⟨hv,h1⟩|⟨g',cap,cur,hv,hg,hh,hn,_⟩
 ·cases hv
 ·cases hv;rfl
theorem ownB_put (h:OwnB w B (.slice (some ⟨g,0,none⟩) n c) l) (x:UInt8):OwnB (w.setCell ⟨g,k,none⟩ (.int .u8 (x.toNat:Int))) B (.slice (some ⟨g,0,none⟩) n c) (l.set k x):=by
 have hn:=ownB_len h;subst hn;have:=(World.ownsRow.stored h k (.int .u8 (x.toNat:Int))).1;unfold OwnB;rw[List.length_set];have e:bv (l.set k x)=(bv l).set k (.int .u8 (x.toNat:Int)):=by simp[bv,List.map_set]
 rw[e];exact this
end
set_option maxHeartbeats 3200000 in
theorem inverse_no (s:ByteArray) (pr:Int) (w:World) (hs:s.size<=20000) (hm:mayB s.size pr=false) :
  Calls Tryz.prog 83 #[.string s,.int .i64 pr] w fun e w'=>e=.returned (.tuple #[.string ⟨#[]⟩,.int .i64 130])/\w=w':=by
 have mixed:Tryz.prog.follows .mixedOrders=true:=by kernel_rfl
 have hmay:=may_any s pr w (by omega);rw[hm] at hmay;have HM:=Lib.hid hmay;have hst:Calls Tryz.prog 121 #[.string s,.int .i64 pr] w fun e w'=>e=.returned (.tuple #[.slice none 0 0,.int .i64 130])/\w=w':=by
  clear hmay hm
  go_enter Tryz.func121, Tryz.ntmps121
  go_wp2_with fail
  refine HM.out.mono ?_;rintro e1 w1 ⟨rfl,rfl⟩;go_wp2_with fail
  go_ret2
  exact⟨rfl,rfl⟩
 have HST:=Lib.hid hst;clear hmay hm hst
 go_enter Tryz.func83, Tryz.ntmps83
 go_wp2_with fail
 refine HST.out.mono ?_;rintro e1 w1 ⟨rfl,rfl⟩;go_wp2_with fail
 go_ret2
 exact⟨rfl,rfl⟩
set_option maxHeartbeats 6400000 in
set_option maxRecDepth 100000 in
theorem inverse_any (s:ByteArray) (p:Nat) (w:World) (hs:s.size<=20000) (hp:p<=s.size) (hm:mayB s.size (p:Int)=true) :
  Calls Tryz.prog 83 #[.string s,.int .i64 (p:Int)] w fun e w' =>
   ((∃r,inv s.data.toList p (fun row=>stp s.data.toList p row) s.size 0 []=some r/\e=.returned (.tuple #[.string ⟨r.toArray⟩,.int .i64 0])) ∨
    (inv s.data.toList p (fun row=>stp s.data.toList p row) s.size 0 []=none/\e=.returned (.tuple #[.string ⟨#[]⟩,.int .i64 130])))/\Below w.heap.size w w':=by
 have mixed:Tryz.prog.follows .mixedOrders=true:=by kernel_rfl
 have HST:=Lib.hid (steps_any s p w hs hp hm);obtain⟨l,hl⟩:∃l,l=s.data.toList:=⟨_,rfl⟩
 have hlen:l.length=s.size:=by rw[hl];rfl
 have HL:=Lib.hid hl;have HLE:=Lib.hid hlen;rw[<-hl] at HST ⊢;obtain⟨res,hres⟩:∃res,res=inv l p (fun row=>stp l p row) s.size 0 []:=⟨_,rfl⟩
 rw[<-hres];have HRES:=Lib.hid hres;clear hl hlen hm hres
 go_enter Tryz.func83, Tryz.ntmps83
 go_wp2_with fail
 refine HST.out.mono ?_;rintro e1 w1 ⟨g,c,rfl,hown1,hb1⟩;have hs1:=hb1.size;have HR1:=Lib.hid (hown1.rd0.1);have HB1:=Lib.hid hb1;clear hown1 hb1 HST;go_wp2_with (at_make;(refine makeB1 (n:=s.size) (by omega) (Nat.le_refl w1.heap.size) ?_);intro w2 hown2 hg2)
 have hb2:Below w1.heap.size w1 w2:=(Below.refl _ _).grown hg2 (Nat.le_refl _) (by simp);have H0:Aside (OwnB w2 w1.heap.size (.slice (some ⟨w1.heap.size,0,none⟩) s.size s.size) (List.replicate s.size 0++[])/\Below w1.heap.size w1 w2):=⟨by rw[List.append_nil];exact hown2,hb2⟩
 obtain⟨go,hgo⟩:∃go,go=w1.heap.size:=⟨_,rfl⟩
 rw[<-hgo] at H0 ⊢;have HGO:=Lib.hid hgo;clear hown2 hg2 hb2 hgo;go_wp2_with fail
 go_loopg [9,10] s.size (fun kx s9 s10 wr=>∃(k row:Nat) (z:Int) (acc:List UInt8),s9=.int .i64 (row:Int)/\s10=.int .i64 z/\z=(k:Int)-1/\k<=s.size/\k<=kx/\row<=s.size /\
  Hid (inv l p (fun row=>stp l p row) k row acc=res)/\Aside (OwnB wr go (.slice (some ⟨go,0,none⟩) s.size s.size) (List.replicate k 0++acc)/\Below go w1 wr))
 case atStart=>exact⟨s.size,0,_,[],rfl,rfl,by first|rfl|go_num,by omega,by omega,by omega,HRES.out.symm,H0.out⟩
 case round =>
  clear H0;obtain⟨k,row,z,acc,rfl,rfl,hz,hk,hkx,hrow,hinv,H⟩:=hrel;have hbb:Below w.heap.size w wr:=HB1.out.trans (H.out.2.mono (by have:=HGO.out;omega));have HBB:=Lib.hid hbb;by_cases h0:0<k
  ·obtain⟨q,rfl⟩:∃q,k=q+1:=⟨k-1,by omega⟩
   obtain rfl:z=(q:Int):=by omega
   by_cases hne:row=p
   ·subst hne
    have hn:res=none:=by
     rw[<-hinv.out];show(if row=row then none else _)=none
     rw[if_pos rfl]
    have HN:=Lib.hid hn;clear hz hbb hn H;go_wp2_with fail
    go_ret2
    exact⟨.inr ⟨HN.out,rfl⟩,HBB.out⟩
   ·have hj:jx p row<l.length:=by unfold jx;have:=HLE.out;split<;>omega
    have hAT:=at_any s p row wr (by omega) (by omega) (by omega) (show jx p row<s.size by rw[<-HLE.out];exact hj);rw[<-HL.out] at hAT;have HAT:=Lib.hid hAT;have hsle:=stp_le l p row (by have:=HLE.out;omega) (by have:=HLE.out;omega) hne;have hat:=stK_at l p (s.size+1) row (by have:=HLE.out;omega);rw[if_pos ⟨by omega,hne⟩] at hat;have hrd:=(HR1.out.below (H.out.2.mono (Nat.le_of_eq HGO.out.symm)))
    obtain⟨ad,e,_,hc⟩:=Rd.cells hrd (by rw[length_stK];omega);cases e
    have hcs:=hc row (.int .i64 (stp l p row:Int)) (by rw[List.getElem?_map,hat];rfl);rw[Addr.add_lit,Nat.zero_add] at hcs;have hgne:g≠go:=by
     have:g<w1.heap.size:=by
      obtain⟨ad,e,hb,_⟩:=Rd.cells HR1.out (by rw[length_stK];omega);cases e;exact hb
     have:=HGO.out;omega
    have hst:inv l p (fun row=>stp l p row) q (stp l p row) (at_ l p row::acc)=res:=by
     rw[<-hinv.out];show _=(if row=p then none else _)
     rw[if_neg hne]
    have HST:=Lib.hid hst;have hold:(List.replicate (q+1) (0:UInt8)++acc)[q]? =some 0:=by
     rw[List.getElem?_append_left (by simp),List.getElem?_replicate,if_pos (by omega)]
    have hoc:=ownB_cell H.out.1 hold;have hof:=ownB_frozen (k:=q) H.out.1;have hput:=ownB_put (k:=q) H.out.1 (at_ l p row);have hset:(List.replicate (q+1) (0:UInt8)++acc).set q (at_ l p row)=List.replicate q 0++at_ l p row::acc:=by
     rw[List.replicate_succ',List.append_assoc,List.set_append_right _ _ (by simp)];simp
    rw[hset] at hput;have hb3:=H.out.2.setCell (p:=⟨go,q,none⟩) (Nat.le_refl _) (.int .u8 ((at_ l p row).toNat:Int));have HX:Aside _:=And.intro hput hb3;have hcs2:(wr.setCell ⟨go,q,none⟩ (.int .u8 ((at_ l p row).toNat:Int))).cell? ⟨g,row,none⟩=some (.int .i64 (stp l p row:Int)):=by
     rw[World.cell?_of_block (Below.heap_setCell wr ⟨go,q,none⟩ _ g hgne)];exact hcs
    have hsle2:stp l p row<=s.size:=by have:=HLE.out;omega
    rw[length_stK,HLE.out] at hrd;generalize stp l p row=v0 at *
    generalize at_ l p row=cc at *
    have hq1:q<s.size:=by omega
    clear hz hbb hAT hj hat hrd hc hst hold hput hset hb3 hsle H hcs;go_wp2_with fail
    refine HAT.out.mono ?_;rintro e6 w6 ⟨rfl,rfl⟩;clear HAT;go_wp2_with fail
    go_roundg q
    case measure=>omega
    case rel=>exact⟨q,v0,_,_,rfl,rfl,by first|rfl|go_num,by omega,by omega,hsle2,HST.out,HX.out⟩
  ·obtain rfl:k=0:=by omega
   obtain rfl:z= -1:=by omega
   have hi:(if row=p then some acc else none)=res:=hinv.out;by_cases hne:row=p
   ·rw[if_pos hne] at hi
    have HI:=Lib.hid hi;have hown:=H.out.1;rw[List.replicate_zero,List.nil_append] at hown;have hln:=ownB_len hown;obtain⟨A2,c2,e2,_,_,hr2⟩:=hown.rd;simp only[Value.slice.injEq] at e2;obtain⟨e3,e4,e5⟩:=e2;rw[<-e3] at hr2;have hs2:=run_str (c:=s.size) hr2;subst hne;rw[<-hln] at hs2;clear hz hbb hi hown hr2 H hinv hln e3 e4 e5;go_wp2_with fail
    go_ret2
    exact⟨.inl ⟨acc,HI.out.symm,rfl⟩,HBB.out⟩
   ·rw[if_neg hne] at hi
    have HI:=Lib.hid hi;have hnei:((row:Int)==(p:Int))=false:=by rw[beq_eq_false_iff_ne];omega
    have hnei2:((row:Int) != (p:Int))=true:=by rw[bne_iff_ne];omega
    clear hz hbb hi H hinv;go_wp2_with fail
    go_ret2
    exact⟨.inr ⟨HI.out.symm,rfl⟩,HBB.out⟩
end Bw
end Go.Proofs.YtjligbmickfbdaaGreat
