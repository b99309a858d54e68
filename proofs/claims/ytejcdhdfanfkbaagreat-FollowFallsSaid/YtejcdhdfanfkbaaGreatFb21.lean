/- varint.fits, Fix, Unfix: four bytes. frame: known, get. -/
import Derived.Test.YtejcdhdfanfkbaaGreatRows
import Derived.Test.YtejcdhdfanfkbaaGreatFb03
import Derived.Laws.BitsAllLaws
import Derived.Deep.LoopGhost
import Derived.Test.YtejcdhdfanfkbaaGreatFb20
import Derived.Deep.RegionHeld3
namespace Go.Proofs.YtejcdhdfanfkbaaGreat
namespace Fm
open Go.RowKit
def le:Nat->Nat->List UInt8
 |0,_=>[]
 |k+1,n=>UInt8.ofNat (n%256)::le k (n/256)
theorem length_le:∀k n,(le k n).length=k
 |0,_=>rfl
 |k+1,n=>by rw[le,List.length_cons,length_le k]
theorem low8 (n:Nat):(n:Int)%256=((UInt8.ofNat (n%256)).toNat:Int):=by
 rw[UInt8.toNat_ofNat'];omega
theorem fits_any (n:Nat) (w:World) (h:n<4294967296) :
  Calls Tryz.prog 153 #[.int .i64 (n:Int),.int .i64 4] w fun e w'=>e=.returned (.bool true)/\w=w':=by
 have h1:(n:Int)/4294967296=0:=by omega
 have h2:(0:Int)<=(n:Int):=by omega
 go_enter Tryz.func153, Tryz.ntmps153
 go_wp2_with fail
 go_ret
 exact⟨rfl,rfl⟩
set_option maxHeartbeats 3200000 in
set_option maxRecDepth 100000 in
theorem fix_any (n:Nat) (w:World) (h:n<4294967296) :
  Calls Tryz.prog 101 #[.int .i64 (n:Int),.int .i64 4] w fun e w'=>e=.returned (.tuple #[.string ⟨(le 4 n).toArray⟩,.int .i64 0])/\Below w.heap.size w w':=by
 have mixed:Tryz.prog.follows .mixedOrders=true:=by kernel_rfl
 have HF:=Lib.hid (fits_any n w h)
 go_enter Tryz.func101, Tryz.ntmps101
 go_wp2_with fail
 refine HF.out.mono ?_;rintro e w0 ⟨rfl,rfl⟩;go_wp2_with (at_make;(refine makeB0 (n:=8) (by omega) (Nat.le_refl w.heap.size) ?_);intro w1 hown1 hg1 hz1)
 have hb1:Below w.heap.size w w1:=(Below.refl _ _).grown hg1 (Nat.le_refl _) (by simp);have HO:=Lib.hid (And.intro hown1 hb1);clear hown1 hg1 hb1;go_loopg [0,6,21] 4 (fun kx s0 s6 s21 wr=>∃(j m:Nat) (acc:List UInt8),s21=.int .i64 (j:Int)/\s0=.int .i64 (m:Int)/\j<=4/\4-j<=kx/\m<4294967296/\acc.length<=10/\Hid (acc++le (4-j) m=le 4 n/\OwnB wr w.heap.size s6 acc/\Below w.heap.size w wr))
 case atStart=>exact⟨0,n,[],rfl,rfl,by omega,by omega,h,by simp,Lib.hid ⟨rfl,HO.out.1,HO.out.2⟩⟩
 case round =>
  clear HO;obtain⟨j,m,acc,rfl,rfl,hj,hjx,hm,hacc,H⟩:=hrel;by_cases hlt:j<4
  ·have hown:=H.out.2.1
   have hsz:=H.out.2.2.size;go_wp2_with (at_builtin;refine appendB (UInt8.ofNat (m%256)) (low8 m) hown (by omega) hsz ?_;intro A1 n1 c1 w2 _ hown2 hb2 _ _)
   go_roundg (4-(j+1))
   case measure=>omega
   case rel =>
    refine⟨j+1,m/256,acc++[UInt8.ofNat (m%256)],by go_num,by go_num,by omega,by omega,by omega,?_,Lib.hid ⟨?_,hown2,H.out.2.2.trans hb2⟩⟩
    ·have:=congrArg List.length H.out.1
     rw[List.length_append,length_le,length_le] at this;rw[List.length_append];simp;omega
    ·have h2:=H.out.1
     rw[show 4-j=(4-(j+1))+1 by omega,le] at h2;rw[<-h2,List.append_assoc];rfl
  ·obtain rfl:j=4:=by omega
   have h3:=H.out;rw[Nat.sub_self,le,List.append_nil] at h3;obtain⟨e3,o3,b3⟩:=h3;subst e3;obtain⟨A,c,rfl,_,_,hrd⟩:=o3.rd;have hs:=run_str (c:=c) hrd;have HB:=Lib.hid b3;clear H b3 o3 hrd;go_wp2_with fail
   go_ret2
   exact⟨rfl,HB.out⟩
def by4 (l:List UInt8) (p:Nat):Nat:=(l.getD p 0).toNat
def u4 (l:List UInt8) (p:Nat):Nat:=by4 l p+256*(by4 l (p+1)+256*(by4 l (p+2)+256*by4 l (p+3)))
def upto (l:List UInt8) (p:Nat):Nat->Nat
 |0=>0
 |k+1=>upto l p k*256+by4 l (p+(3-k))
theorem by4_lt (l:List UInt8) (p:Nat):by4 l p<256:=(l.getD p 0).toNat_lt
theorem upto_4 (l:List UInt8) (p:Nat):upto l p 4=u4 l p:=by
 simp only[upto,u4,Nat.sub_zero,Nat.reduceSub,Nat.add_zero];omega
theorem u4_lt (l:List UInt8) (p:Nat):u4 l p<4294967296:=by
 have h0:=by4_lt l p;have h1:=by4_lt l (p+1);have h2:=by4_lt l (p+2);have h3:=by4_lt l (p+3);unfold u4;omega
theorem upto_lt (l:List UInt8) (p:Nat):∀k,k<=4->upto l p k<4294967296/\(k<4->upto l p k<16777216):=by
 intro k hk;have h0:=by4_lt l p;have h1:=by4_lt l (p+1);have h2:=by4_lt l (p+2);have h3:=by4_lt l (p+3);rcases k with _|_|_|_|_|k<;>simp only[upto,Nat.sub_zero,Nat.reduceSub,Nat.add_zero,Nat.reduceAdd]<;>omega
theorem shl8 (a b:Nat) (ha:a<16777216) (hb:b<256):bits .or .u64 ((a:Int)*256) (b:Int)=((a*256+b:Nat):Int):=by
 have h1:=u64_or_nat (a*256) b (by omega) (by omega);have h2:(a*256 ||| b)=a*256+b:=by
  have:=Nat.shiftLeft_add_eq_or_of_lt (i:=8) (b:=b) (by omega) a;rw[Nat.shiftLeft_eq] at this;exact this.symm
 rw[h2] at h1;rw[<-h1,Int.natCast_mul];rfl
theorem by4_get (s:ByteArray) (q:Nat) (h:q<s.size):by4 s.data.toList q=s[q].toNat:=by
 unfold by4;rw[List.getD_eq_getElem?_getD,List.getElem?_eq_getElem (show q<s.data.toList.length from h)];rfl
set_option maxHeartbeats 3200000 in
set_option maxRecDepth 100000 in
theorem unfix_any (s:ByteArray) (p:Nat) (w:World) (h:p+4<=s.size) (hs:s.size<=1000000000) :
  Calls Tryz.prog 162 #[.string s,.int .i64 (p:Int),.int .i64 4] w fun e w'=>e=.returned (.tuple #[.int .i64 (u4 s.data.toList p:Int),.int .i64 ((p+4:Nat):Int),.int .i64 0])/\w=w':=by
 have mixed:Tryz.prog.follows .mixedOrders=true:=by kernel_rfl
 have h1: ¬ (p:Int)<0:=by omega
 have h2: ¬ (s.size:Int)<(p:Int):=by omega
 have h3: ¬ (s.size:Int)-(p:Int)<4:=by omega
 have h4:IntKind.i64.wrap ((s.size:Int)-(p:Int))=(s.size:Int)-(p:Int):=by rw[IntKind.wrap_i64];omega
 have hu4:=u4_lt s.data.toList p
 go_enter Tryz.func162, Tryz.ntmps162
 go_wp2_with fail
 clear h1 h2 h3 h4;go_loopg [9,10] 4 (fun kx s9 s10 wr=>∃(i u:Nat),s10=.int .i64 ((i:Int)-1)/\s9=.int .u64 (u:Int)/\i<=4/\i<=kx/\Hid (u=upto s.data.toList p (4-i))/\w=wr)
 case atStart=>exact⟨4,0,rfl,rfl,by omega,by omega,Lib.hid rfl,rfl⟩
 case round =>
  obtain⟨i,u,rfl,rfl,hi,hix,HU,rfl⟩:=hrel;rcases i with _|j
  ·have hU:=HU.out
   rw[Nat.sub_zero,upto_4] at hU;subst hU;have h5:(u4 s.data.toList p:Int)/9223372036854775808=0:=by omega
   have h6:IntKind.i64.wrap (u4 s.data.toList p:Int)=(u4 s.data.toList p:Int):=by rw[IntKind.wrap_i64];omega
   have h7:IntKind.i64.wrap ((p:Int)+4)=(p:Int)+4:=by rw[IntKind.wrap_i64];omega
   clear HU;go_wp2_with fail
   go_ret3
   exact⟨by go_num,rfl⟩
  ·have hlo:=(upto_lt s.data.toList p (4-(j+1)) (by omega)).2 (by omega)
   rw[<-HU.out] at hlo;have hq:p+j<s.size:=by omega
   have hb:=by4_get s (p+j) hq;have hor:=shl8 u (by4 s.data.toList (p+j)) hlo (by4_lt _ _);have HU2:=Lib.hid (show u*256+by4 s.data.toList (p+j)=upto s.data.toList p (4-j) by
    rw[show 4-j=(4-(j+1))+1 by omega,upto,<-HU.out,show p+(3-(4-(j+1)))=p+j by omega])
   rw[hb] at hor HU2;have e1:((j+1:Nat):Int)-1=(j:Int):=by omega
   rw[e1];have e2:IntKind.i64.wrap ((p:Int)+(j:Int))=((p+j:Nat):Int):=by rw[IntKind.wrap_i64];omega
   have e3:IntKind.u64.wrap ((u:Int)*256)=(u:Int)*256:=by rw[IntKind.wrap_u64];omega
   have e7:IntKind.u64.wrap (s[p+j].toNat:Int)=(s[p+j].toNat:Int):=by rw[IntKind.wrap_u64];have:=s[p+j].toNat_lt;omega
   have e4:((p+j:Nat):Int)<(s.size:Int):=by omega
   have e5:0<=(p:Int)+(j:Int):=by omega
   have e6:(p:Int)+(j:Int)<(s.size:Int):=by omega
   clear e1 hb HU;go_wp2_with fail
   go_roundg j
   case measure=>omega
   case rel=>exact⟨j,u*256+s[p+j].toNat,by go_num,by go_num,by omega,by omega,HU2,rfl⟩
end Fm
end Go.Proofs.YtejcdhdfanfkbaaGreat
namespace Go.Proofs.YtejcdhdfanfkbaaGreat
namespace Fm
open Go.RowKit Cr
theorem known_yes (k:Nat) (w:World) (h:1<=k/\k<=4):Calls Tryz.prog 100 #[.int .i64 (k:Int)] w fun e w'=>e=.returned (.bool true)/\w=w':=by
 have h1:(1:Int)<=(k:Int):=by omega
 have h2:(k:Int)<=4:=by omega
 go_enter Tryz.func100, Tryz.ntmps100
 go_wp2_with fail
 go_ret
 exact⟨rfl,rfl⟩
theorem known_no (k:Nat) (w:World) (h: ¬ (1<=k/\k<=4)):Calls Tryz.prog 100 #[.int .i64 (k:Int)] w fun e w'=>e=.returned (.bool false)/\w=w':=by
 by_cases h1:(1:Int)<=(k:Int)
 ·have h2: ¬ (k:Int)<=4:=by omega
  go_enter Tryz.func100, Tryz.ntmps100
  go_wp2_with fail
  go_ret
  exact⟨rfl,rfl⟩
 ·go_enter Tryz.func100, Tryz.ntmps100
  go_wp2_with fail
  go_ret
  exact⟨rfl,rfl⟩
def fagg (k:Nat) (b:ByteArray) (p t:Nat):Value:=.agg #[.int .i64 (k:Int),.string b,.int .i64 (p:Int),.int .i64 (t:Int)]
def Fb (w:World) (g:Nat) (k:Int) (b:ByteArray) (p t:Int):Prop:=w.heap[g]? =some (.cells #[.int .i64 k,.string b,.int .i64 p,.int .i64 t] 139 (0,0))
section
variable {w w':World} {g:Nat} {k p t:Int} {b:ByteArray} (h:Fb w g k b p t)
include h
theorem Fb.lt:g<w.heap.size:=(Array.getElem?_eq_some_iff.1 h).1
theorem Fb.c0:w.cell? ⟨g,0,none⟩=some (.int .i64 k):=by rw[cell_of_row w g 0 _ _ (0,0) h];rfl
theorem Fb.c1:w.cell? ⟨g,1,none⟩=some (.string b):=by rw[cell_of_row w g 1 _ _ (0,0) h];rfl
theorem Fb.c2:w.cell? ⟨g,2,none⟩=some (.int .i64 p):=by rw[cell_of_row w g 2 _ _ (0,0) h];rfl
theorem Fb.c3:w.cell? ⟨g,3,none⟩=some (.int .i64 t):=by rw[cell_of_row w g 3 _ _ (0,0) h];rfl
theorem Fb.fz (j:Nat):w.frozen? ⟨g,j,none⟩=false:=frozen_of_row w g j _ _ h
theorem Fb.below {B:Nat} (hk:Below B w w') (hb:g<B):Fb w' g k b p t:=(hk.block g hb).trans h
theorem Fb.set0 (x:Int):Fb (w.setCell ⟨g,0,none⟩ (.int .i64 x)) g x b p t:=by
 unfold Fb at *;simp[World.setCell,Array.getElem?_modify,h]
theorem Fb.set1 (x:ByteArray):Fb (w.setCell ⟨g,1,none⟩ (.string x)) g k x p t:=by
 unfold Fb at *;simp[World.setCell,Array.getElem?_modify,h]
theorem Fb.set2 (x:Int):Fb (w.setCell ⟨g,2,none⟩ (.int .i64 x)) g k b x t:=by
 unfold Fb at *;simp[World.setCell,Array.getElem?_modify,h]
theorem Fb.set3 (x:Int):Fb (w.setCell ⟨g,3,none⟩ (.int .i64 x)) g k b p x:=by
 unfold Fb at *;simp[World.setCell,Array.getElem?_modify,h]
end
theorem Fb.new (w:World):Fb (w.alloc (.cells #[.int .i64 0,.string ⟨#[]⟩,.int .i64 0,.int .i64 0] 139)) w.heap.size 0 ⟨#[]⟩ 0 0:=heap_alloc_new w _
theorem Fb.fill {w:World} {g:Nat} {k p t:Int} {b:ByteArray} (h:Fb w g k b p t) (k' p' t':Int) (b':ByteArray) :
  Fb ((((w.setCell ⟨g,0,none⟩ (.int .i64 k')).setCell ⟨g,1,none⟩ (.string b')).setCell ⟨g,2,none⟩ (.int .i64 p')).setCell ⟨g,3,none⟩ (.int .i64 t')) g k' b' p' t':=(((h.set0 k').set1 b').set2 p').set3 t'
theorem below_fill4 {w w':World} {b B:Nat} {v0 v1 v2 v3:Value} (h:Below B w w') (hb:B<=b):Below B w ((((w'.setCell ⟨b,0,none⟩ v0).setCell ⟨b,1,none⟩ v1).setCell ⟨b,2,none⟩ v2).setCell ⟨b,3,none⟩ v3) :=
 (((h.setCell (p:=⟨b,0,none⟩) hb v0).setCell (p:=⟨b,1,none⟩) hb v1).setCell (p:=⟨b,2,none⟩) hb v2).setCell (p:=⟨b,3,none⟩) hb v3
def GF (s:ByteArray) (p:Nat):Prop :=
 p+5<=s.size/\(1<=by4 s.data.toList p/\by4 s.data.toList p<=4)/\u4 s.data.toList (p+1)<=60000/\p+9+u4 s.data.toList (p+1)<=s.size /\
  crc (s.extract p (p+5+u4 s.data.toList (p+1))).data.toList=u4 s.data.toList (p+5+u4 s.data.toList (p+1))
instance (s:ByteArray) (p:Nat):Decidable (GF s p):=by unfold GF;infer_instance
def fn (s:ByteArray) (p:Nat):Nat:=u4 s.data.toList (p+1)
def fbody (s:ByteArray) (p:Nat):ByteArray:=s.extract (p+5) (p+5+fn s p)
def fto (s:ByteArray) (p:Nat):Nat:=p+5+fn s p+4
def FrAns (s:ByteArray) (p:Nat) (e:Ending):Prop :=
 (GF s p/\e=.returned (.tuple #[fagg (by4 s.data.toList p) (fbody s p) p (fto s p),.int .i64 0]))∨(¬ GF s p/\ ∃x:Int,x≠0/\e=.returned (.tuple #[fagg 0 ⟨#[]⟩ 0 0,.int .i64 x]))
set_option maxHeartbeats 6400000 in
set_option maxRecDepth 100000 in
theorem get_any (g:Nat) (s:ByteArray) (p:Nat) (w:World) (ht:Au w g (n256 tb)) (hs:s.size<=1000000) (hp:p<=2000000) :
  Calls Tryz.prog 117 #[.pointer (some ⟨g,0,none⟩),.string s,.int .i64 (p:Int)] w fun e w'=>FrAns s p e/\Below w.heap.size w w':=by
 have mixed:Tryz.prog.follows .mixedOrders=true:=by kernel_rfl
 have HB0:=Lib.hid (ext_alloc w (.cells #[.int .i64 0,.string ⟨#[]⟩,.int .i64 0,.int .i64 0] 139));have q0: ¬ (p:Int)<0:=by omega
 by_cases h1:(s.size:Int)<(p:Int)
 ·have HN:=Lib.hid (show ¬ GF s p from fun h=>by have:=h.1;omega)
  go_enter Tryz.func117, Tryz.ntmps117
  go_wp2_with fail
  refine bodyPost_ret (v:=.tuple #[fagg 0 ⟨#[]⟩ 0 0,.int .i64 2]) (by simp[results,go_sem,fagg]) rfl ?_;exact⟨.inr ⟨HN.out,2,by omega,rfl⟩,HB0.out⟩
 have h2:IntKind.i64.wrap ((s.size:Int)-(p:Int))=(s.size:Int)-(p:Int):=by rw[IntKind.wrap_i64];omega
 by_cases h3:(s.size:Int)-(p:Int)<5
 ·have HN:=Lib.hid (show ¬ GF s p from fun h=>by have:=h.1;omega)
  go_enter Tryz.func117, Tryz.ntmps117
  go_wp2_with fail
  refine bodyPost_ret (v:=.tuple #[fagg 0 ⟨#[]⟩ 0 0,.int .i64 4]) (by simp[results,go_sem,fagg]) rfl ?_;exact⟨.inr ⟨HN.out,4,by omega,rfl⟩,HB0.out⟩
 have h4:IntKind.i64.wrap ((p:Int)+1)=((p+1:Nat):Int):=by rw[IntKind.wrap_i64];omega
 have HU1:=Lib.hid (unfix_any s (p+1) (w.alloc (.cells #[.int .i64 0,.string ⟨#[]⟩,.int .i64 0,.int .i64 0] 139)) (by omega) (by omega));have hps:p<s.size:=by omega
 have hps2:(p:Int)<(s.size:Int):=by omega
 have hk8:=by4_get s p hps;have h64:wrap64 (s[p].toNat:Int)=(s[p].toNat:Int):=by have:=s[p].toNat_lt;unfold wrap64;omega
 have hfn:=u4_lt s.data.toList (p+1);have HFN:=Lib.hid (show fn s p=u4 s.data.toList (p+1) from rfl);rw[<-HFN.out] at HU1 hfn;by_cases h5:1<=by4 s.data.toList p/\by4 s.data.toList p<=4
 ·have HK:=Lib.hid (known_yes (by4 s.data.toList p) (w.alloc (.cells #[.int .i64 0,.string ⟨#[]⟩,.int .i64 0,.int .i64 0] 139)) h5)
  rw[hk8] at HK;by_cases h6:(60000:Int)<(fn s p:Int)
  ·have HN:=Lib.hid (show ¬ GF s p from fun h=>by have:=h.2.2.1;rw[<-HFN.out] at this;omega)
   clear h5 hk8;generalize fn s p=N at *
   go_enter Tryz.func117, Tryz.ntmps117
   go_wp2_with fail
   refine HU1.out.mono ?_;rintro e1 w1 ⟨rfl,rfl⟩;go_wp2_with fail
   refine HK.out.mono ?_;rintro e1 w1 ⟨rfl,rfl⟩;go_wp2_with fail
   refine bodyPost_ret (v:=.tuple #[fagg 0 ⟨#[]⟩ 0 0,.int .i64 3]) (by simp[results,go_sem,fagg]) rfl ?_;exact⟨.inr ⟨HN.out,3,by omega,rfl⟩,HB0.out⟩
  have h7:IntKind.i64.wrap ((s.size:Int)-(p:Int)-5)=(s.size:Int)-(p:Int)-5:=by rw[IntKind.wrap_i64];omega
  have h8:IntKind.i64.wrap ((s.size:Int)-(p:Int)-5-4)=(s.size:Int)-(p:Int)-5-4:=by rw[IntKind.wrap_i64];omega
  by_cases h9:(s.size:Int)-(p:Int)-5-4<(fn s p:Int)
  ·have HN:=Lib.hid (show ¬ GF s p from fun h=>by have:=h.2.2.2.1;rw[<-HFN.out] at this;omega)
   clear h5 hk8;generalize fn s p=N at *
   go_enter Tryz.func117, Tryz.ntmps117
   go_wp2_with fail
   refine HU1.out.mono ?_;rintro e1 w1 ⟨rfl,rfl⟩;go_wp2_with fail
   refine HK.out.mono ?_;rintro e1 w1 ⟨rfl,rfl⟩;go_wp2_with fail
   refine bodyPost_ret (v:=.tuple #[fagg 0 ⟨#[]⟩ 0 0,.int .i64 4]) (by simp[results,go_sem,fagg]) rfl ?_;exact⟨.inr ⟨HN.out,4,by omega,rfl⟩,HB0.out⟩
  have h10:IntKind.i64.wrap ((p:Int)+1+4+(fn s p:Int))=((p+5+fn s p:Nat):Int):=by rw[IntKind.wrap_i64];omega
  have HU2:=Lib.hid (unfix_any s (p+5+fn s p) (w.alloc (.cells #[.int .i64 0,.string ⟨#[]⟩,.int .i64 0,.int .i64 0] 139)) (by omega) (by omega));have hq:=u4_lt s.data.toList (p+5+fn s p);have HQ:=Lib.hid (show GF s p↔crc (s.extract p (p+5+fn s p)).data.toList=u4 s.data.toList (p+5+fn s p) from
   ⟨fun h=>h.2.2.2.2,fun h=>⟨by omega,h5,by rw[<-HFN.out];omega,by rw[<-HFN.out];omega,h⟩⟩)
  have htw:=ht.below HB0.out ht.lt;have HLEN:=Lib.hid (show(vu (n256 tb)).length=256 by rw[length_vu,length_n256]);have HTR:=Lib.hid (fun(wx:World) (hb:Below (w.heap.size+1) (w.alloc (.cells #[.int .i64 0,.string ⟨#[]⟩,.int .i64 0,.int .i64 0] 139)) wx)=>(htw.below hb (by have:=ht.lt;omega)).range);have HCR:=Lib.hid (fun(wx:World)=>of_any (s.extract p (p+5+fn s p)) wx (by rw[ByteArray.size_extract];omega));have HTB:=Lib.hid (show TB=(vu (n256 tb)).toArray from rfl);rw[HTB.out] at HCR;have HF0:=Lib.hid (Fb.new w);have HSZ:=Lib.hid (show(w.alloc (.cells #[.int .i64 0,.string ⟨#[]⟩,.int .i64 0,.int .i64 0] 139)).heap.size=w.heap.size+1 by simp);have e1:0<=(p:Int):=by omega
  have e2:(p:Int)<=((p+5+fn s p:Nat):Int):=by omega
  have e3:((p+5+fn s p:Nat):Int)<=(s.size:Int):=by omega
  have e4:(p:Int)<=(p:Int)+5+(fn s p:Int):=by omega
  have e5:(p:Int)+5+(fn s p:Int)<=(s.size:Int):=by omega
  have e6:(p:Int)+1+4<=(p:Int)+5+(fn s p:Int):=by omega
  have e7:0<=(p:Int)+1+4:=by omega
  have HBD:=Lib.hid (show fbody s p=s.extract (p+5) (p+5+fn s p)/\fto s p=p+5+fn s p+4 from⟨rfl,rfl⟩);clear h5 htw;generalize vu (n256 tb)=Z at *
  generalize hcr:crc (s.extract p (p+5+fn s p)).data.toList=C at *
  have hC:C<4294967296:=hcr▸crc_lt _;clear hcr;generalize u4 s.data.toList (p+5+fn s p)=V at *
  generalize fn s p=N at *
  by_cases hCV:C=V
  ·subst hCV
   have hbb:((C:Int) != (C:Int))=false:=by simp
   have h64c:IntKind.i64.wrap (C:Int)=(C:Int):=by rw[IntKind.wrap_i64];omega
   go_enter Tryz.func117, Tryz.ntmps117
   go_wp2_with fail
   refine HU1.out.mono ?_;rintro e1 w1 ⟨rfl,rfl⟩;go_wp2_with fail
   refine HK.out.mono ?_;rintro e1 w1 ⟨rfl,rfl⟩;go_wp2_with fail
   refine HU2.out.mono ?_;rintro e1 w1 ⟨rfl,rfl⟩;have HS0:=Lib.hid (And.intro (HTR.out (w.alloc (.cells #[.int .i64 0,.string ⟨#[]⟩,.int .i64 0,.int .i64 0] 139)).drew ⟨rfl,rfl,rfl,Nat.le_refl _,fun _ _=>rfl⟩) (show Below (w.heap.size+1) (w.alloc (.cells #[.int .i64 0,.string ⟨#[]⟩,.int .i64 0,.int .i64 0] 139)) (w.alloc (.cells #[.int .i64 0,.string ⟨#[]⟩,.int .i64 0,.int .i64 0] 139)).drew from⟨rfl,rfl,rfl,Nat.le_refl _,fun _ _=>rfl⟩));go_wp2_with fail
   generalize w.alloc (.cells #[.int .i64 0,.string ⟨#[]⟩,.int .i64 0,.int .i64 0] 139)=w1 at *
   have HUD:=Lib.hid Tryz.underlying192;have hlz:(Tryz.prog.info? 192).map (·.size)=some Z.length:=by rw[HLEN.out];kernel_rfl
   have hud:=Tryz.underlying192;go_region_held3 (fun wx=>wx.rangeAt g 0 Z/\Below (w.heap.size+1) w1 wx) (first|exact HS0.out|assumption) (first
    |(go_at_call 102;refine(HCR.out _).mono ?_;rintro e2 w2 ⟨rfl,hb2⟩;have hB2:=HS0.out.2.trans (hb2.mono (by have:=HS0.out.2.size;have:=HSZ.out;simp at *;omega));have hS2:=And.intro (HTR.out _ hB2) hB2))
   have hR:=HF0.out.below hS2.2 (by omega);have HR:=Lib.hid hR;have HBE:=Lib.hid (HB0.out.trans (hS2.2.mono (by omega)));have r0:=hR.c0;have r1:=hR.c1;have r2:=hR.c2;have r3:=hR.c3;have f0:=hR.fz 0;have f1:=hR.fz 1;have f2:=hR.fz 2;have f3:=hR.fz 3;clear hR hS2 hB2 hb2 hlz hud;go_wp2_with fail
   go_region_held3 (fun _=>True) (trivial) (fail)
   go_wp2_with fail
   have t1:IntKind.i64.wrap (s[p].toNat:Int)=(s[p].toNat:Int):=by rw[IntKind.wrap_i64];have:=s[p].toNat_lt;omega
   have t2:((p:Int)+1+4).toNat=p+5:=by omega
   have t3:((p:Int)+5+(N:Int)).toNat=p+5+N:=by omega
   refine bodyPost_ret (v:=.tuple #[fagg s[p].toNat (s.extract (p+5) (p+5+N)) p (p+5+N+4),.int .i64 0]) (by simp[results,go_sem,r0,r1,r2,r3,fagg,t1,t2,t3]) rfl ?_;exact⟨.inl ⟨HQ.out.2 trivial,by rw[hk8,HBD.out.1,HBD.out.2]⟩,below_drewN (below_fill4 HBE.out (Nat.le_refl _)) 1⟩
  ·have hne: ¬ (C:Int)=(V:Int):=by omega
   have hbb:((C:Int) != (V:Int))=true:=by simp;omega
   have h64c:IntKind.i64.wrap (C:Int)=(C:Int):=by rw[IntKind.wrap_i64];omega
   go_enter Tryz.func117, Tryz.ntmps117
   go_wp2_with fail
   refine HU1.out.mono ?_;rintro e1 w1 ⟨rfl,rfl⟩;go_wp2_with fail
   refine HK.out.mono ?_;rintro e1 w1 ⟨rfl,rfl⟩;go_wp2_with fail
   refine HU2.out.mono ?_;rintro e1 w1 ⟨rfl,rfl⟩;have HS0:=Lib.hid (And.intro (HTR.out (w.alloc (.cells #[.int .i64 0,.string ⟨#[]⟩,.int .i64 0,.int .i64 0] 139)).drew ⟨rfl,rfl,rfl,Nat.le_refl _,fun _ _=>rfl⟩) (show Below (w.heap.size+1) (w.alloc (.cells #[.int .i64 0,.string ⟨#[]⟩,.int .i64 0,.int .i64 0] 139)) (w.alloc (.cells #[.int .i64 0,.string ⟨#[]⟩,.int .i64 0,.int .i64 0] 139)).drew from⟨rfl,rfl,rfl,Nat.le_refl _,fun _ _=>rfl⟩));go_wp2_with fail
   generalize w.alloc (.cells #[.int .i64 0,.string ⟨#[]⟩,.int .i64 0,.int .i64 0] 139)=w1 at *
   have HUD:=Lib.hid Tryz.underlying192;have hlz:(Tryz.prog.info? 192).map (·.size)=some Z.length:=by rw[HLEN.out];kernel_rfl
   have hud:=Tryz.underlying192;go_region_held3 (fun wx=>wx.rangeAt g 0 Z/\Below (w.heap.size+1) w1 wx) (first|exact HS0.out|assumption) (first
    |(go_at_call 102;refine(HCR.out _).mono ?_;rintro e2 w2 ⟨rfl,hb2⟩;have hB2:=HS0.out.2.trans (hb2.mono (by have:=HS0.out.2.size;have:=HSZ.out;simp at *;omega));have hS2:=And.intro (HTR.out _ hB2) hB2))
   have hR:=HF0.out.below hS2.2 (by omega);have HR:=Lib.hid hR;have HBE:=Lib.hid (HB0.out.trans (hS2.2.mono (by omega)));have r0:=hR.c0;have r1:=hR.c1;have r2:=hR.c2;have r3:=hR.c3;have f0:=hR.fz 0;have f1:=hR.fz 1;have f2:=hR.fz 2;have f3:=hR.fz 3;clear hR hS2 hB2 hb2 hlz hud;go_wp2_with fail
   refine bodyPost_ret (v:=.tuple #[fagg 0 ⟨#[]⟩ 0 0,.int .i64 7]) (by simp[results,go_sem,r0,r1,r2,r3,fagg]) rfl ?_;exact⟨.inr ⟨fun h=>hCV (HQ.out.1 h),7,by omega,rfl⟩,below_fill4 HBE.out (Nat.le_refl _)⟩
 ·have HN:=Lib.hid (show ¬ GF s p from fun h=>h5 h.2.1)
  have HK:=Lib.hid (known_no (by4 s.data.toList p) (w.alloc (.cells #[.int .i64 0,.string ⟨#[]⟩,.int .i64 0,.int .i64 0] 139)) h5);rw[hk8] at HK;clear h5 hk8;generalize fn s p=N at *
  go_enter Tryz.func117, Tryz.ntmps117
  go_wp2_with fail
  refine HU1.out.mono ?_;rintro e1 w1 ⟨rfl,rfl⟩;go_wp2_with fail
  refine HK.out.mono ?_;rintro e1 w1 ⟨rfl,rfl⟩;go_wp2_with fail
  refine bodyPost_ret (v:=.tuple #[fagg 0 ⟨#[]⟩ 0 0,.int .i64 160]) (by simp[results,go_sem,fagg]) rfl ?_;exact⟨.inr ⟨HN.out,160,by omega,rfl⟩,HB0.out⟩
end Fm
end Go.Proofs.YtejcdhdfanfkbaaGreat
