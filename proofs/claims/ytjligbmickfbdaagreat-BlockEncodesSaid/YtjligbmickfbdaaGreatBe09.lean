/- Counting, step by step: plain lists, no program. suffix.counted. -/
import Derived.Test.YtjligbmickfbdaaGreatBe08
import Derived.Shelf.SlSortCmp.KitK
import Derived.BigRegion
namespace Go.Proofs.YtjligbmickfbdaaGreat
namespace Sx
theorem set_map_range (n i x:Nat) (f:Nat->Nat):((List.range n).map f).set i x=(List.range n).map fun a=>if a=i then x else f a:=by
 refine List.ext_getElem (by simp) fun a h1 h2=>?_
 rw[List.getElem_set];simp only[List.getElem_map,List.getElem_range];by_cases h:i=a
 ·rw[if_pos h,if_pos h.symm]
 ·rw[if_neg h,if_neg (fun e=>h e.symm)]
theorem flatMap_same (l:List Nat) (f g:Nat->List Nat) (h:∀a∈l,f a=g a):l.flatMap f=l.flatMap g:=by
 induction l with
 |nil=>rfl
 |cons a l ih=>rw[List.flatMap_cons,List.flatMap_cons,h a (by simp),ih (fun b hb=>h b (by simp[hb]))]
theorem getD_map_range (n i:Nat) (f:Nat->Nat) (h:i<n):((List.range n).map f).getD i 0=f i:=by
 rw[List.getD_eq_getElem?_getD,List.getElem?_map,List.getElem?_range h];rfl
section
variable (key:Nat->Nat) (P:List Nat) (m:Nat)
def cn (l:List Nat) (k:Nat):Nat:=l.countP fun p=>key p==k
def blw (k:Nat):Nat:=P.countP fun p=>decide (key p<k)
def st1 (j:Nat):List Nat:=(List.range (m+1)).map fun i=>if i=0 then 0 else cn key (P.take j) (i-1)
def st2 (k:Nat):List Nat:=(List.range (m+1)).map fun i=>if i<=k then blw key P i else if i=0 then 0 else cn key P (i-1)
def st3 (j:Nat):List Nat:=(List.range (m+1)).map fun i=>blw key P i+cn key (P.take j) i
def sg (j k:Nat):List Nat:=((P.take j).filter fun p=>key p==k)++List.replicate (cn key P k-cn key (P.take j) k) 0
def ouJ (j:Nat):List Nat:=(List.range m).flatMap fun k=>sg key P j k
variable {key P m}
theorem cn_take (j:Nat) (hj:j<P.length) (k:Nat):cn key (P.take (j+1)) k=cn key (P.take j) k+if key P[j]=k then 1 else 0:=by
 unfold cn;rw[List.take_add_one,List.getElem?_eq_getElem hj,List.countP_append];simp only[Option.toList_some,List.countP_singleton,beq_iff_eq]
theorem cn_take_le (j k:Nat):cn key (P.take j) k<=cn key P k:=(List.take_sublist j P).countP_le
theorem blw_succ (k:Nat):blw key P (k+1)=blw key P k+cn key P k:=by
 unfold blw cn
 induction P with
 |nil=>rfl
 |cons p l ih =>
  rw[List.countP_cons,List.countP_cons,List.countP_cons,ih];have e:(if decide (key p<k+1)=true then 1 else 0)=(if decide (key p<k)=true then 1 else 0)+(if(key p==k)=true then 1 else 0):=by
   simp only[decide_eq_true_eq,beq_iff_eq];split<;>split<;>split<;>omega
  omega
theorem blw_zero:blw key P 0=0:=by unfold blw;rw[List.countP_eq_zero];simp
theorem length_st1 (j:Nat):(st1 key P m j).length=m+1:=by simp[st1]
theorem length_st2 (j:Nat):(st2 key P m j).length=m+1:=by simp[st2]
theorem length_st3 (j:Nat):(st3 key P m j).length=m+1:=by simp[st3]
theorem st1_zero:st1 key P m 0=List.replicate (m+1) 0:=by
 unfold st1;refine List.ext_getElem (by simp) fun i h1 h2=>?_
 simp[cn]
theorem st1_step (j:Nat) (hj:j<P.length) (hk:key P[j]<m):(st1 key P m j).set (key P[j]+1) ((st1 key P m j).getD (key P[j]+1) 0+1)=st1 key P m (j+1):=by
 unfold st1;rw[getD_map_range _ _ _ (by omega),set_map_range];refine List.map_congr_left fun i hi=>?_
 by_cases h:i=key P[j]+1
 ·subst h
  rw[if_pos rfl,if_neg (by omega),if_neg (by omega),Nat.add_sub_cancel,cn_take j hj,if_pos rfl]
 ·rw[if_neg h]
  by_cases h0:i=0
  ·rw[if_pos h0,if_pos h0]
  ·rw[if_neg h0,if_neg h0,cn_take j hj,if_neg (by omega)];rfl
theorem st1_st2:st1 key P m P.length=st2 key P m 0:=by
 unfold st1 st2;refine List.map_congr_left fun i hi=>?_
 rw[List.take_length];by_cases h0:i=0
 ·subst h0;rw[if_pos rfl,if_pos (Nat.le_refl _),blw_zero]
 ·rw[if_neg h0,if_neg (show ¬ i<=0 by omega)]
theorem st2_step (k:Nat) (hk:k<m):(st2 key P m k).set (k+1) ((st2 key P m k).getD (k+1) 0+(st2 key P m k).getD k 0)=st2 key P m (k+1):=by
 unfold st2;rw[getD_map_range _ _ _ (by omega),getD_map_range _ _ _ (by omega),set_map_range];refine List.map_congr_left fun i hi=>?_
 by_cases h:i=k+1
 ·subst h
  rw[if_pos rfl,if_neg (by omega),if_neg (by omega),if_pos (Nat.le_refl _),if_pos (Nat.le_refl _),blw_succ,Nat.add_sub_cancel];omega
 ·rw[if_neg h]
  by_cases h1:i<=k
  ·rw[if_pos h1,if_pos (by omega)]
  ·rw[if_neg h1,if_neg (show ¬ i<=k+1 by omega)]
theorem st2_st3:st2 key P m m=st3 key P m 0:=by
 unfold st2 st3;refine List.map_congr_left fun i hi=>?_
 have:=List.mem_range.1 hi;rw[if_pos (by omega)];simp[cn]
theorem st3_at (j k:Nat) (hk:k<m):(st3 key P m j).getD k 0=blw key P k+cn key (P.take j) k:=by
 unfold st3;rw[getD_map_range _ _ _ (by omega)]
theorem st3_step (j:Nat) (hj:j<P.length) (hk:key P[j]<m):(st3 key P m j).set (key P[j]) ((st3 key P m j).getD (key P[j]) 0+1)=st3 key P m (j+1):=by
 rw[st3_at j _ hk];unfold st3;rw[set_map_range];refine List.map_congr_left fun i hi=>?_
 by_cases h:i=key P[j]
 ·subst h;rw[if_pos rfl,cn_take j hj,if_pos rfl];omega
 ·rw[if_neg h,cn_take j hj,if_neg (fun e=>h e.symm)];rfl
theorem length_sg (j k:Nat):(sg key P j k).length=cn key P k:=by
 have:=cn_take_le (key:=key) (P:=P) j k;unfold sg cn at *
 rw[List.length_append,List.length_replicate,<-List.countP_eq_length_filter];omega
theorem length_segs (j:Nat):∀k,((List.range k).flatMap fun k=>sg key P j k).length=blw key P k
 |0=>by simp[blw_zero]
 |k+1=>by rw[List.range_succ,List.flatMap_append,List.length_append,length_segs j k,blw_succ];simp[length_sg]
theorem blw_all (h:∀p∈P,key p<m):blw key P m=P.length:=by
 unfold blw;rw[List.countP_eq_length];intro p hp;simpa using h p hp
theorem length_ouJ (h:∀p∈P,key p<m) (j:Nat):(ouJ key P m j).length=P.length:=by unfold ouJ;rw[length_segs,blw_all h]
theorem blw_mono (a:Nat):∀d,blw key P a<=blw key P (a+d)
 |0=>Nat.le_refl _
 |d+1=>by have:=blw_mono a d;rw[show a+(d+1)=(a+d)+1 by omega,blw_succ];omega
theorem place_lt (h:∀p∈P,key p<m) (j:Nat) (hj:j<P.length):blw key P (key P[j])+cn key (P.take j) (key P[j])<P.length:=by
 have hk:=h P[j] (List.getElem_mem _);have h1:=cn_take (key:=key) j hj (key P[j]);rw[if_pos rfl] at h1;have h2:=cn_take_le (key:=key) (P:=P) (j+1) (key P[j]);have h3:=blw_succ (key:=key) (P:=P) (key P[j]);have h4:=blw_mono (key:=key) (P:=P) (key P[j]+1) (m-(key P[j]+1));rw[show key P[j]+1+(m-(key P[j]+1))=m by omega,blw_all h] at h4;omega
theorem sg_other (j:Nat) (hj:j<P.length) (k:Nat) (hk:key P[j]≠k):sg key P (j+1) k=sg key P j k:=by
 unfold sg;rw[cn_take j hj,if_neg hk,List.take_add_one,List.getElem?_eq_getElem hj,List.filter_append];simp[hk]
theorem sg_same (j:Nat) (hj:j<P.length):(sg key P j (key P[j])).set (cn key (P.take j) (key P[j])) P[j]=sg key P (j+1) (key P[j]):=by
 have h1:=cn_take (key:=key) j hj (key P[j]);rw[if_pos rfl] at h1;have h2:=cn_take_le (key:=key) (P:=P) (j+1) (key P[j]);unfold sg;rw[h1,List.take_add_one,List.getElem?_eq_getElem hj,List.filter_append];have e:(List.filter (fun p=>key p==key P[j]) (List.take j P)).length=cn key (P.take j) (key P[j]):=by unfold cn;rw[List.countP_eq_length_filter]
 rw[List.set_append_right _ _ (by rw[e];exact Nat.le_refl _),e,Nat.sub_self];obtain⟨d,hd⟩:∃d,cn key P (key P[j])-cn key (P.take j) (key P[j])=d+1:=⟨cn key P (key P[j])-cn key (P.take j) (key P[j])-1,by omega⟩
 rw[hd,show cn key P (key P[j])-(cn key (P.take j) (key P[j])+1)=d by omega,List.replicate_succ,List.set_cons_zero];simp
theorem segs_set (j:Nat) (hj:j<P.length) (k:Nat) (hk:key P[j]=k):∀d,((List.range (k+1+d)).flatMap fun k=>sg key P j k).set (blw key P k+cn key (P.take j) k) P[j]=(List.range (k+1+d)).flatMap fun k=>sg key P (j+1) k
 |0=>by
  subst hk;have h1:=cn_take (key:=key) j hj (key P[j]);rw[if_pos rfl] at h1;rw[Nat.add_zero,List.range_succ,List.flatMap_append,List.flatMap_append,List.set_append_right _ _ (by rw[length_segs];omega),length_segs,Nat.add_sub_cancel_left];simp only[List.flatMap_cons,List.flatMap_nil,List.append_nil];rw[sg_same j hj];congr 1;refine flatMap_same _ _ _ fun a ha=>?_
  have:=List.mem_range.1 ha;exact(sg_other j hj a (by omega)).symm
 |d+1=>by
  have hlt:blw key P k+cn key (P.take j) k<((List.range (k+1+d)).flatMap fun k=>sg key P j k).length:=by
   rw[length_segs];have h1:=cn_take (key:=key) j hj k;rw[if_pos hk] at h1;have h2:=cn_take_le (key:=key) (P:=P) (j+1) k;have h3:=blw_succ (key:=key) (P:=P) k;have h4:=blw_mono (key:=key) (P:=P) (k+1) d;omega
  rw[show k+1+(d+1)=(k+1+d)+1 by omega,List.range_succ,List.flatMap_append,List.flatMap_append,List.set_append_left _ _ hlt,segs_set j hj k hk d];simp only[List.flatMap_cons,List.flatMap_nil,List.append_nil];rw[sg_other j hj (k+1+d) (by omega)]
theorem ouJ_step (h:∀p∈P,key p<m) (j:Nat) (hj:j<P.length):(ouJ key P m j).set (blw key P (key P[j])+cn key (P.take j) (key P[j])) P[j]=ouJ key P m (j+1):=by
 have hk:=h P[j] (List.getElem_mem _);have:=segs_set j hj (key P[j]) rfl (m-(key P[j]+1));unfold ouJ
 rwa [show key P[j]+1+(m-(key P[j]+1))=m by omega] at this
theorem ouJ_zero (h:∀p∈P,key p<m):ouJ key P m 0=List.replicate P.length 0:=by
 refine List.eq_replicate_iff.2 ⟨length_ouJ h 0,fun b hb=>?_⟩;unfold ouJ sg at hb;simp only[List.take_zero,List.filter_nil,List.nil_append,List.mem_flatMap] at hb;obtain⟨k,_,hb⟩:=hb;exact List.eq_of_mem_replicate hb
theorem ouJ_all:ouJ key P m P.length=ctd m key P:=by
 unfold ouJ ctd sg;refine flatMap_same _ _ _ fun k _=>?_
 rw[List.take_length,Nat.sub_self];simp
end
end Sx
end Go.Proofs.YtjligbmickfbdaaGreat
namespace Go.Proofs.YtjligbmickfbdaaGreat
namespace Sx
open Go.RowKit
theorem ints_at (l:List Nat) (k:Nat) (h:k<l.length):(ints l)[k]? =some ((l.getD k 0:Nat):Int):=by
 unfold ints;rw[List.getElem?_map,List.getD_eq_getElem?_getD,List.getElem?_eq_getElem h];rfl
theorem ints_set (l:List Nat) (k x:Nat):(ints l).set k (x:Int)=ints (l.set k x):=by
 unfold ints;rw[List.map_set];rfl
theorem ints_rep (n:Nat):ints (List.replicate n 0)=List.replicate n 0:=by unfold ints;rw[List.map_replicate];rfl
set_option maxHeartbeats 3200000 in
set_option maxRecDepth 100000 in
theorem counted_any (A:Option Addr) (n c M:Nat) (P:List Nat) (key:Nat->Nat) (g:Nat) (cb:Array Value) (w:World) (hn:n<=100000) (hM:M<=1000000)
  (hrd:Rd w w.heap.size 1 A n ((ints P).map (Value.int .i64))) (hP:∀p∈P,key p<M+1) (hp2:∀p∈P,p<=1000000)
  (eg:∀args w,(callFunc g args).run Tryz.prog w=.ok (.enter g args) w)
  (hkey:∀p∈P,∀w',Below w.heap.size w w'->Calls Tryz.prog g (#[.int .i64 (p:Int)]++cb) w' fun e w''=>e=.returned (.int .i64 (key p:Int))/\w'=w'') :
  Calls Tryz.prog 98 #[.slice A n c,.int .i64 (M:Int),.func (.func g) #[] cb] w fun e w'=>∃v,e=.returned v/\Own w' w.heap.size v (ints (ctd (M+1) key P))/\Below w.heap.size w w':=by
 have hln:P.length=n:=by have:=hrd.len;rw[List.length_map,length_ints] at this;omega
 have HK:=Lib.hid hkey;have HP:=Lib.hid hP;have HR:=Lib.hid hrd;have HL:=Lib.hid hln;have HP2:=Lib.hid hp2;clear hkey hP hrd hln hp2;obtain⟨m2,hm2⟩:∃m2,m2=M+2:=⟨_,rfl⟩
 have HMI:Hid ((M:Int)+2=(m2:Int)):=(by omega:(M:Int)+2=(m2:Int))
 have HM2:Hid (m2=M+2):=hm2;have hm2b:m2<=1000002:=by omega
 clear hm2;have mixed:Tryz.prog.follows .mixedOrders=true:=by kernel_rfl
 go_enter Tryz.func98, Tryz.ntmps98
 go_wp2_with (at_make;simp only[HMI.out];(refine make1 (n:=m2) (by omega) (Nat.le_refl w.heap.size) ?_);intro w1 hown1 hg1)
 have hb1:Below w.heap.size w w1:=(Below.refl _ _).grown hg1 (Nat.le_refl _) (by simp);have H0:Aside (Own w1 w.heap.size (.slice (some ⟨w.heap.size,0,none⟩) m2 m2) (ints (st1 key P (M+1) 0))/\Below w.heap.size w w1):=⟨by rw[st1_zero,ints_rep,show M+1+1=m2 by have:=HM2.out;omega];exact hown1,hb1⟩
 clear hg1 hown1 hb1;go_loopg [20] n (fun kx s20 wr=>∃(k:Nat),s20=.int .i64 (k:Int)/\k<=n/\n-k<=kx/\Aside (Own wr w.heap.size (.slice (some ⟨w.heap.size,0,none⟩) m2 m2) (ints (st1 key P (M+1) k))/\Below w.heap.size w wr))
 case atStart=>exact⟨0,rfl,by omega,by omega,H0.out⟩
 case round =>
  clear H0;obtain⟨k,rfl,hk,hkx,H⟩:=hrel;by_cases hlt:k<n
  ·obtain⟨hown,hb⟩:=H.out
   have hkl:k<P.length:=by have:=HL.out;omega
   have hpm:=HP.out P[k] (List.getElem_mem _);have hp2:=HP2.out P[k] (List.getElem_mem _);have hpc:=HK.out P[k] (List.getElem_mem _) wr hb;obtain⟨ad,x,rfl,had,hx,hcell⟩:=(HR.out.below hb).int1 hlt;rw[ints_at P k hkl,List.getD_eq_getElem?_getD,List.getElem?_eq_getElem hkl,Option.getD_some,Option.some.injEq] at hx;subst hx;obtain⟨kp,hkp⟩:∃kp,kp=key P[k]:=⟨_,rfl⟩
   obtain⟨p,hp⟩:∃p,p=P[k]:=⟨_,rfl⟩
   have hc:=hown.cell (k:=kp+1) (x:=(((st1 key P (M+1) k).getD (kp+1) 0:Nat):Int)) (ints_at _ _ (by rw[length_st1];omega));have hf:=hown.frozen (k:=kp+1);have hbnd:(st1 key P (M+1) k).getD (kp+1) 0<=100000:=by
    unfold st1;rw[getD_map_range _ _ _ (by omega),if_neg (by omega)];unfold cn;exact Nat.le_trans (List.countP_le_length) (by simp;omega)
   obtain⟨y,hy⟩:∃y,y=(st1 key P (M+1) k).getD (kp+1) 0:=⟨_,rfl⟩
   have HN:=Own.put2 (k:=kp+1) ⟨hown,hb⟩ ((y+1:Nat):Int);rw[ints_set,hy,hkp,st1_step k hkl hpm] at HN;replace HN:Aside _:=HN;rw[<-hy] at hc hbnd;rw[<-hkp,<-hp] at hpc;rw[<-hkp] at hpm;rw[<-hp] at hp2 hcell;rw[<-hkp,<-hy] at HN;have hkm:kp+1<m2:=by have:=HM2.out;omega
   clear hown hb H hkp hp hy;go_wp2_with (go_at_fn g;refine hpc.mono ?_;rintro e w2 ⟨rfl,rfl⟩)
   go_roundg (n-(k+1))
   case measure=>omega
   case rel=>exact⟨k+1,by go_num,by omega,by omega,HN.out⟩
  ·have H1:Aside (Own wr w.heap.size (.slice (some ⟨w.heap.size,0,none⟩) m2 m2) (ints (st2 key P (M+1) 0))/\Below w.heap.size w wr):=by
    have:=H.out;have e:k=P.length:=by have:=HL.out;omega
    rw[e,st1_st2] at this;exact this
   clear H;go_wp2_with fail
   go_loopg [36] (M+1) (fun kx s36 wr=>∃(k:Nat),s36=.int .i64 (k:Int)/\k<=M+1/\M+1-k<=kx/\Aside (Own wr w.heap.size (.slice (some ⟨w.heap.size,0,none⟩) m2 m2) (ints (st2 key P (M+1) k))/\Below w.heap.size w wr))
   case atStart=>exact⟨0,rfl,by omega,by omega,H1.out⟩
   case round =>
    clear H1;obtain⟨k,rfl,hk,hkx,H⟩:=hrel;by_cases hlt:k<M+1
    ·obtain⟨hown,hb⟩:=H.out
     have hc:=hown.cell (k:=k+1) (x:=(((st2 key P (M+1) k).getD (k+1) 0:Nat):Int)) (ints_at _ _ (by rw[length_st2];omega));have hf:=hown.frozen (k:=k+1);have hc0:=hown.cell (k:=k) (x:=(((st2 key P (M+1) k).getD k 0:Nat):Int)) (ints_at _ _ (by rw[length_st2];omega));have hbnd:∀i,i<M+1+1->(st2 key P (M+1) k).getD i 0<=100000:=by
      intro i hi;have hl:=HL.out;unfold st2;rw[getD_map_range _ _ _ (by omega)];split
      ·exact Nat.le_trans (List.countP_le_length) (by omega)
      ·split
       ·omega
       ·exact Nat.le_trans (List.countP_le_length) (by omega)
     have hb1:=hbnd (k+1) (by omega);have hb0:=hbnd k (by omega);obtain⟨y,hy⟩:∃y,y=(st2 key P (M+1) k).getD (k+1) 0:=⟨_,rfl⟩
     obtain⟨z,hz⟩:∃z,z=(st2 key P (M+1) k).getD k 0:=⟨_,rfl⟩
     have HN:=Own.put2 (w:=wr.drew) (k:=k+1) ⟨hown,hb.drew⟩ ((y+z:Nat):Int);rw[ints_set,hy,hz,st2_step k hlt] at HN;replace HN:Aside _:=HN;rw[<-hy] at hc hb1;rw[<-hz] at hc0 hb0;rw[<-hy,<-hz] at HN;have hkm:k+1<m2:=by have:=HM2.out;omega
     clear hown hb H hy hz hbnd;go_wp2_with fail
     go_big_region_o
     go_wp2
     go_roundg (M+1-(k+1))
     case measure=>omega
     case rel=>exact⟨k+1,by go_num,by omega,by omega,HN.out⟩
    ·have H2:Aside (Own wr w.heap.size (.slice (some ⟨w.heap.size,0,none⟩) m2 m2) (ints (st3 key P (M+1) 0))/\Below w.heap.size w wr):=by
      have:=H.out;have e:k=M+1:=by omega
      rw[e,st2_st3] at this;exact this
     clear H;go_wp2_with (at_make;(refine make1 (n:=n) (by omega) H2.out.2.size ?_);intro w2 hown2 hg2)
     have hlt0:w.heap.size<wr.heap.size:=by
      have:=(World.ownsRow.lt H2.out.1 w.heap.size rfl).2;omega
     have H3:Aside (Own w2 w.heap.size (.slice (some ⟨w.heap.size,0,none⟩) m2 m2) (ints (st3 key P (M+1) 0))/\Own w2 w.heap.size (.slice (some ⟨wr.heap.size,0,none⟩) n n) (ints (ouJ key P (M+1) 0))/\Below w.heap.size w w2):=by
      obtain⟨h1,h2⟩:=H2.out;have hb:=(Below.refl wr.heap.size wr).grown hg2 (Nat.le_refl _) (by simp);refine⟨h1.below hb (Nat.le_refl _),?_,h2.trans (hb.mono h2.size)⟩;rw[ouJ_zero HP.out,HL.out,ints_rep];exact hown2
     generalize hG:wr.heap.size=G at *
     have HGG:Hid (w.heap.size<G):=hlt0;clear H2 hown2 hg2 hlt0 hG;go_wp2_with fail
     go_loopg [56] n (fun kx s56 wr=>∃(k:Nat),s56=.int .i64 (k:Int)/\k<=n/\n-k<=kx/\Aside (Own wr w.heap.size (.slice (some ⟨w.heap.size,0,none⟩) m2 m2) (ints (st3 key P (M+1) k))/\Own wr w.heap.size (.slice (some ⟨G,0,none⟩) n n) (ints (ouJ key P (M+1) k))/\Below w.heap.size w wr))
     case atStart=>exact⟨0,rfl,by omega,by omega,H3.out⟩
     case round =>
      clear H3;obtain⟨k,rfl,hk,hkx,H⟩:=hrel;by_cases hlt:k<n
      ·obtain⟨hs,ho,hb⟩:=H.out
       have hkl:k<P.length:=by have:=HL.out;omega
       have hpm:=HP.out P[k] (List.getElem_mem _);have hp2:=HP2.out P[k] (List.getElem_mem _);have hpc:=HK.out P[k] (List.getElem_mem _) wr hb;obtain⟨ad,x,rfl,had,hx,hcell⟩:=(HR.out.below hb).int1 hlt;rw[ints_at P k hkl,List.getD_eq_getElem?_getD,List.getElem?_eq_getElem hkl,Option.getD_some,Option.some.injEq] at hx;subst hx;obtain⟨kp,hkp⟩:∃kp,kp=key P[k]:=⟨_,rfl⟩
       obtain⟨p,hp⟩:∃p,p=P[k]:=⟨_,rfl⟩
       have hst:=st3_at (key:=key) (P:=P) (m:=M+1) k (key P[k]) hpm;have hpl:=place_lt HP.out k hkl;rw[<-hst] at hpl;obtain⟨y,hy⟩:∃y,y=(st3 key P (M+1) k).getD (key P[k]) 0:=⟨_,rfl⟩
       have hc:=hs.cell (k:=kp) (x:=(y:Int)) (by rw[hy,hkp];exact ints_at _ _ (by rw[length_st3];omega));have hf:=hs.frozen (k:=kp);have ho1:=ho.cell (k:=y) (x:=(((ouJ key P (M+1) k).getD y 0:Nat):Int)) (ints_at _ _ (by rw[length_ouJ HP.out,hy];omega));have hof:=ho.frozen (k:=y);have hs2:=own_setCell_far (a:=⟨G,y,none⟩) hs (by have:=HGG.out;simp[Value.ownBlock];omega) (.int .i64 (p:Int));have ho2:=Own.put2 (k:=y) ⟨ho,hb⟩ (p:Int);have hc2:=Own.cell (k:=kp) (x:=(y:Int)) hs2 (by rw[hy,hkp];exact ints_at _ _ (by rw[length_st3];omega));have hf2:=Own.frozen (k:=kp) hs2;have hs3:=Own.put2 (k:=kp) ⟨hs2,ho2.2⟩ ((y+1:Nat):Int);have ho3:=own_setCell_far (a:=⟨w.heap.size,kp,none⟩) ho2.1 (by have:=HGG.out;simp[Value.ownBlock];omega) (.int .i64 ((y+1:Nat):Int));have e3:(st3 key P (M+1) k).set kp (y+1)=st3 key P (M+1) (k+1):=by rw[hkp,hy];exact st3_step k hkl hpm
       rw[ints_set,e3] at hs3;have hou:=ouJ_step HP.out k hkl;rw[<-hst,<-hy,<-hp] at hou;have HN:Aside (Own _ w.heap.size (.slice (some ⟨w.heap.size,0,none⟩) m2 m2) (ints (st3 key P (M+1) (k+1)))/\Own _ w.heap.size (.slice (some ⟨G,0,none⟩) n n) (ints (ouJ key P (M+1) (k+1)))/\Below w.heap.size w _):=⟨hs3.1,by rw[<-hou,<-ints_set];exact ho3,hs3.2⟩
       rw[<-hkp,<-hp] at hpc;rw[<-hkp] at hpm;rw[<-hp] at hp2 hcell;have hyb:y<=100000:=by have:=HL.out;omega
       have hyn:y<n:=by have:=HL.out;omega
       have hkm:kp<m2:=by have:=HM2.out;omega
       clear hs ho hb H hkp hp hy hst hpl hs2 ho2 hs3 ho3 hou e3;go_wp2_with (go_at_fn g;refine hpc.mono ?_;rintro e w3 ⟨rfl,rfl⟩)
       go_roundg (n-(k+1))
       case measure=>omega
       case rel=>exact⟨k+1,by go_num,by omega,by omega,HN.out⟩
      ·have HE:=H.out
       have e:k=P.length:=by have:=HL.out;omega
       rw[e,ouJ_all] at HE;have HE2:Aside _:=HE.2;clear H HE e;go_wp2_with fail
       go_ret
       have h:=HE2.out;refine⟨_,rfl,h⟩
end Sx
end Go.Proofs.YtjligbmickfbdaaGreat
