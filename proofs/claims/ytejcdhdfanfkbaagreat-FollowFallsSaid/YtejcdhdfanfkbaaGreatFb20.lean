/- head.Put. crc: a table of sums, and the sum of bytes. -/
import Derived.Test.YtejcdhdfanfkbaaGreatFb19
import Derived.Test.YtejcdhdfanfkbaaGreatRows
import Derived.Test.YtejcdhdfanfkbaaGreatFb01
import Derived.Test.YtejcdhdfanfkbaaGreatFb02
import Derived.Test.YtejcdhdfanfkbaaGreatFb06
import Derived.Laws.BitsAllLaws
import Derived.Deep.LoopGhost
namespace Go.Proofs.YtejcdhdfanfkbaaGreat
namespace Hd
open Go.RowKit Vi Bd Rd
def hb (i g f:Nat):ByteArray:=⟨(putV i++(putV g++putV f)).toArray⟩
set_option maxHeartbeats 3200000 in
set_option maxRecDepth 100000 in
theorem hput_yes (i g f:Nat) (w:World) (h:1<=i/\i<=999999/\1<=g/\g<=999999/\1<=f/\f<=1000000000) :
  Calls Tryz.prog 221 #[.agg #[.int .i64 (i:Int),.int .i64 (g:Int),.int .i64 (f:Int)]] w fun e w'=>e=.returned (.tuple #[.string (hb i g f),.int .i64 0])/\Below w.heap.size w w':=by
 have mixed:Tryz.prog.follows .mixedOrders=true:=by kernel_rfl
 have HC:=Lib.hid (check_yes i g f (w.alloc (.cells #[.int .i64 (i:Int),.int .i64 (g:Int),.int .i64 (f:Int)] 148)) (by omega));have HB:=Lib.hid (ext_alloc w (.cells #[.int .i64 (i:Int),.int .i64 (g:Int),.int .i64 (f:Int)] 148));have HN:=Lib.hid (show ∀x∈ [i,g,f],x<9223372036854775808 by intro x hx;simp at hx;omega);have k0:(w.alloc (.cells #[.int .i64 (i:Int),.int .i64 (g:Int),.int .i64 (f:Int)] 148)).cell? ⟨w.heap.size,0,none⟩=some (.int .i64 (i:Int)):=by rw[World.cell?_alloc_new];rfl
 have k1:(w.alloc (.cells #[.int .i64 (i:Int),.int .i64 (g:Int),.int .i64 (f:Int)] 148)).cell? ⟨w.heap.size,1,none⟩=some (.int .i64 (g:Int)):=by rw[World.cell?_alloc_new];rfl
 have k2:(w.alloc (.cells #[.int .i64 (i:Int),.int .i64 (g:Int),.int .i64 (f:Int)] 148)).cell? ⟨w.heap.size,2,none⟩=some (.int .i64 (f:Int)):=by rw[World.cell?_alloc_new];rfl
 have hlt:w.heap.size<(w.alloc (.cells #[.int .i64 (i:Int),.int .i64 (g:Int),.int .i64 (f:Int)] 148)).heap.size:=by simp
 have HK:=Lib.hid (And.intro k0 (And.intro k1 (And.intro k2 hlt)));clear k0 k1 k2 hlt h
 go_enter Tryz.func221, Tryz.ntmps221
 go_wp2_with fail
 generalize w.alloc (.cells #[.int .i64 (i:Int),.int .i64 (g:Int),.int .i64 (f:Int)] 148)=w0 at *
 refine HC.out.mono ?_;rintro e1 w1 ⟨rfl,hb1⟩;have c0:=(hb1.cell (p:=⟨w.heap.size,0,none⟩) HK.out.2.2.2).trans HK.out.1;have c1:=(hb1.cell (p:=⟨w.heap.size,1,none⟩) HK.out.2.2.2).trans HK.out.2.1;have c2:=(hb1.cell (p:=⟨w.heap.size,2,none⟩) HK.out.2.2.2).trans HK.out.2.2.1;have hrd:Rd (w1.alloc (.cells #[.int .i64 (i:Int),.int .i64 (g:Int),.int .i64 (f:Int)] 3)) (w1.alloc (.cells #[.int .i64 (i:Int),.int .i64 (g:Int),.int .i64 (f:Int)] 3)).heap.size 1 (some ⟨w1.heap.size,0,none⟩) 3 (nv [i,g,f]) :=
  Rd.of_own (World.ownsRow_lit (base:=w1.heap.size) (e:=3) (size:=1) w1 #[.int .i64 (i:Int),.int .i64 (g:Int),.int .i64 (f:Int)] 3 (Nat.le_refl _) (by simp[maxLen]) rfl)
 have HNU:=Lib.hid (numbers_any _ 3 3 [i,g,f] _ hrd (by omega) HN.out);have HB1:=Lib.hid (HB.out.trans (hb1.mono HB.out.size));have HB2:=Lib.hid (HB1.out.trans ((ext_alloc w1 (.cells #[.int .i64 (i:Int),.int .i64 (g:Int),.int .i64 (f:Int)] 3)).mono HB1.out.size));clear hb1 hrd HC;go_wp2_with fail
 refine HNU.out.mono ?_;rintro e2 w2 ⟨rfl,hb2⟩;have HB3:=Lib.hid (HB2.out.trans (hb2.mono HB2.out.size));clear hb2;go_wp2_with fail
 go_ret2
 exact⟨rfl,HB3.out⟩
set_option maxHeartbeats 3200000 in
set_option maxRecDepth 100000 in
theorem hput_no (i g f:Int) (w:World) (h:okH i g f=false) :
  Calls Tryz.prog 221 #[.agg #[.int .i64 i,.int .i64 g,.int .i64 f]] w fun e w'=>e=.returned (.tuple #[.string ⟨#[]⟩,.int .i64 210])/\Below w.heap.size w w':=by
 have mixed:Tryz.prog.follows .mixedOrders=true:=by kernel_rfl
 have hc:=check_any i g f (w.alloc (.cells #[.int .i64 i,.int .i64 g,.int .i64 f] 148));rw[if_neg (by rw[h];simp)] at hc;have HC:=Lib.hid hc;have HB:=Lib.hid (ext_alloc w (.cells #[.int .i64 i,.int .i64 g,.int .i64 f] 148));clear hc h
 go_enter Tryz.func221, Tryz.ntmps221
 go_wp2_with fail
 refine HC.out.mono ?_;rintro e1 w1 ⟨rfl,hb1⟩;have HB1:=Lib.hid (HB.out.trans (hb1.mono HB.out.size));clear hb1 HC;go_wp2_with fail
 go_ret2
 exact⟨rfl,HB1.out⟩
end Hd
end Go.Proofs.YtejcdhdfanfkbaaGreat
namespace Go.Proofs.YtejcdhdfanfkbaaGreat
namespace Cr
open Go.RowKit
def hlf (c:Nat):Nat:=if c%2=1 then c/2 ^^^ 3988292384 else c/2
theorem hlf_lt {c:Nat} (h:c<4294967296):hlf c<4294967296:=by
 unfold hlf;split
 ·exact Nat.xor_lt_two_pow (n:=32) (by omega) (by decide)
 ·omega
def hlfs:Nat->Nat->Nat
 |0,c=>c
 |n+1,c=>hlf (hlfs n c)
theorem hlfs_lt {c:Nat} (h:c<4294967296):∀n,hlfs n c<4294967296
 |0=>h
 |n+1=>hlf_lt (hlfs_lt h n)
def tb (i:Nat):Nat:=hlfs 8 i
theorem tb_lt {i:Nat} (h:i<256):tb i<4294967296:=hlfs_lt (by omega) 8
def rst (c b:Nat):Nat:=(c/256) ^^^ tb ((c%256) ^^^ b)
theorem x8_lt {c b:Nat} (hb:b<256):(c%256) ^^^ b<256:=Nat.xor_lt_two_pow (n:=8) (by omega) (by omega)
theorem rst_lt {c b:Nat} (h:c<4294967296) (hb:b<256):rst c b<4294967296:=Nat.xor_lt_two_pow (n:=32) (by omega) (tb_lt (x8_lt hb))
def fold (l:List UInt8) (c:Nat):Nat:=l.foldl (fun c b=>rst c b.toNat) c
theorem fold_lt:∀(l:List UInt8) (c:Nat),c<4294967296->fold l c<4294967296
 | [],_,h=>h
 |x::l,c,h=>by
  have:=fold_lt l (rst c x.toNat) (rst_lt h x.toNat_lt);exact this
theorem fold_take (l:List UInt8) (k c:Nat) (x:UInt8) (h:l[k]? =some x):fold (l.take (k+1)) c=rst (fold (l.take k) c) x.toNat:=by
 unfold fold;rw[List.take_add_one,h,List.foldl_append];rfl
def crc (l:List UInt8):Nat:=4294967295 ^^^ fold l 4294967295
theorem crc_lt (l:List UInt8):crc l<4294967296:=Nat.xor_lt_two_pow (n:=32) (by decide) (fold_lt l _ (by decide))
set_option maxRecDepth 100000 in
theorem half_any (c:Nat) (w:World) (h:c<4294967296) :
  Calls Tryz.prog 155 #[.int .u32 (c:Int)] w fun e w'=>e=.returned (.int .u32 (hlf c:Int))/\w=w':=by
 have e1:bits .and .u32 (c:Int) 1=((c &&& 1:Nat):Int):=u32_and_nat c 1 h (by decide);rw[Nat.and_one_is_mod] at e1;by_cases hc:c%2=1
 ·have e2:hlf c=c/2 ^^^ 3988292384:=if_pos hc
  have e3:bits .xor .u32 ((c/2:Nat):Int) 3988292384=((c/2 ^^^ 3988292384:Nat):Int):=u32_xor_nat (c/2) 3988292384 (by omega) (by decide);rw[hc] at e1;have HE:=Lib.hid (And.intro e2 e3);clear e2 e3 hc
  go_enter Tryz.func155, Tryz.ntmps155
  go_wp2_with fail
  go_ret
  rw[HE.out.1,<-HE.out.2];exact⟨rfl,rfl⟩
 ·have e2:hlf c=c/2:=if_neg hc
  have hc2:c%2=0:=by omega
  rw[hc2] at e1;have HE:=Lib.hid e2;clear e2 hc hc2
  go_enter Tryz.func155, Tryz.ntmps155
  go_wp2_with fail
  go_ret
  rw[HE.out];exact⟨rfl,rfl⟩
def vu (l:List Nat):List Value:=l.map fun(n:Nat)=>Value.int .u32 (n:Int)
theorem length_vu (l:List Nat):(vu l).length=l.length:=List.length_map ..
theorem vu_at (l:List Nat) (k:Nat) (h:k<l.length):(vu l)[k]? =some (.int .u32 ((l.getD k 0:Nat):Int)):=by
 unfold vu;rw[List.getElem?_map,List.getD_eq_getElem?_getD,List.getElem?_eq_getElem h];rfl
theorem vu_set (l:List Nat) (k x:Nat):(vu l).set k (.int .u32 (x:Int))=vu (l.set k x):=by
 unfold vu;rw[List.map_set]
theorem vu_one (l:List Nat):∀v∈vu l,v.oneCell'=true:=by
 intro v hv;obtain⟨_,_,rfl⟩:=List.mem_map.1 hv;rfl
def n256 (g:Nat->Nat):List Nat:=(List.range 256).map g
theorem length_n256 (g:Nat->Nat):(n256 g).length=256:=by simp[n256]
theorem n256_at (g:Nat->Nat) (k:Nat) (h:k<256):(n256 g).getD k 0=g k:=by
 unfold n256;rw[List.getD_eq_getElem?_getD,List.getElem?_map,List.getElem?_range (by omega)];rfl
theorem n256_congr {g h:Nat->Nat} (e:∀k,k<256->g k=h k):n256 g=n256 h:=by
 unfold n256;apply List.map_congr_left
 intro k hk;exact e k (by simpa using hk)
theorem n256_set (g:Nat->Nat) (k x:Nat):(n256 g).set k x=n256 fun j=>if j=k then x else g j:=by
 apply List.ext_getElem?
 intro j;unfold n256;rw[List.getElem?_set,List.getElem?_map,List.getElem?_map,List.length_map,List.length_range];by_cases hj:j<256
 ·rw[List.getElem?_range hj]
  by_cases he:k=j
  ·subst he;simp[hj]
  ·rw[if_neg he];simp[Ne.symm he]
 ·rw[List.getElem?_eq_none (by simp;omega)]
  by_cases he:k=j
  ·subst he;simp[hj]
  ·rw[if_neg he];rfl
theorem zeros_u:Array.replicate 256 (Value.int .u32 0)=(vu (n256 fun _=>0)).toArray:=by
 have e:vu (n256 fun _=>0)=List.replicate 256 (Value.int .u32 0):=by
  unfold vu n256;rw[List.map_map];apply List.ext_getElem?
  intro j;rw[List.getElem?_map,List.getElem?_replicate];by_cases hj:j<256
  ·rw[List.getElem?_range hj,if_pos hj];rfl
  ·rw[List.getElem?_eq_none (by simp;omega),if_neg hj];rfl
 rw[e,List.toArray_replicate]
theorem row_setU {t:TypeId} {w:World} {b k:Nat} {l:List Value} {u:Value} (h:w.heap[b]? =some (.cells l.toArray t (0,0))):(w.setCell ⟨b,k,none⟩ u).heap[b]? =some (.cells (l.set k u).toArray t (0,0)):=by
 simp[World.setCell,Array.getElem?_modify,h]
def Au (w:World) (b:Nat) (l:List Nat):Prop:=w.heap[b]? =some (.cells (vu l).toArray 192 (0,0))/\l.length=256
section
variable {w:World} {b:Nat} {l:List Nat} (h:Au w b l)
include h
theorem Au.lt:b<w.heap.size:=(Array.getElem?_eq_some_iff.1 h.1).1
theorem Au.cell (k:Nat) (hk:k<256):w.cell? ⟨b,k,none⟩=some (.int .u32 ((l.getD k 0:Nat):Int)):=by
 rw[cell_of_row w b k _ _ (0,0) h.1];simpa using vu_at l k (by rw[h.2];exact hk)
theorem Au.fz (k:Nat):w.frozen? ⟨b,k,none⟩=false:=frozen_of_row w b k _ _ h.1
theorem Au.set (k x:Nat):Au (w.setCell ⟨b,k,none⟩ (.int .u32 (x:Int))) b (l.set k x):=⟨by rw[row_setU h.1,vu_set],by rw[List.length_set];exact h.2⟩
theorem Au.below {w':World} {B:Nat} (hb:Below B w w') (hB:b<B):Au w' b l:=⟨(hb.block b hB).trans h.1,h.2⟩
theorem Au.range:w.rangeAt b 0 (vu l):=by
 intro j v hv;have hj:j<256:=by have:=(List.getElem?_eq_some_iff.1 hv).1;rwa [length_vu,h.2] at this
 rw[Nat.zero_add,h.cell j hj,<-hv,vu_at l j (by rw[h.2];exact hj)]
end
theorem below_setU {B b:Nat} {w0:World}:∀(vs:List Value) (o:Nat) (w:World),Below B w0 w->B<=b->Below B w0 (w.setCells b o vs)
 | [],_,_,h,_=>h
 |v::r,o,_,h,hb=>below_setU r (o+1) _ (h.setCell (p:=⟨b,o,none⟩) hb v) hb
def TB:Array Value:=(vu (n256 tb)).toArray
theorem half_step (n c:Nat):hlfs (n+1) c=hlf (hlfs n c):=rfl
set_option maxHeartbeats 6400000 in
set_option maxRecDepth 100000 in
theorem table_any (w:World) :
  Calls Tryz.prog 103 #[] w fun e w'=>e=.returned (.agg TB)/\Below w.heap.size w w':=by
 have mixed:Tryz.prog.follows .mixedOrders=true:=by kernel_rfl
 have hz:(Tryz.prog.info? 192).map (fun i=>(i.zero,i.size))=some (some (.agg (Array.replicate 256 (.int .u32 0))),256):=by kernel_rfl
 have HZ:=Lib.hid hz;clear hz
 go_enter Tryz.func103, Tryz.ntmps103
 go_wp2_with (refine wpList_alloc_zero rfl 192 rfl _ _ HZ.out ?_)
 rw[zeros_u];have h1:Au ((w.alloc (.cells (vu (n256 fun _=>0)).toArray 192)).alloc (.cells (vu (n256 fun _=>0)).toArray 192)) w.heap.size (n256 fun _=>0) :=
  ⟨(Below.heap_alloc _ _ _ (by simp)).trans (heap_alloc_new w _),length_n256 _⟩
 have h2:Au ((w.alloc (.cells (vu (n256 fun _=>0)).toArray 192)).alloc (.cells (vu (n256 fun _=>0)).toArray 192)) (w.heap.size+1) (n256 fun j=>if j<0 then tb j else 0):=by
  have:=heap_alloc_new (w.alloc (.cells (vu (n256 fun _=>0)).toArray 192)) (.cells (vu (n256 fun _=>0)).toArray 192);rw[show(w.alloc (.cells (vu (n256 fun _=>0)).toArray 192)).heap.size=w.heap.size+1 by simp] at this;have e:(n256 fun j=>if j<0 then tb j else 0)=n256 fun _=>0:=n256_congr fun j _=>if_neg (by omega)
  rw[e];exact⟨this,length_n256 _⟩
 have h3:Below w.heap.size w ((w.alloc (.cells (vu (n256 fun _=>0)).toArray 192)).alloc (.cells (vu (n256 fun _=>0)).toArray 192)):=((Below.refl _ _).alloc (Nat.le_refl _) _).alloc (by simp) _;have H0:Aside _:=And.intro h1 (And.intro h2 h3);clear h1 h2 h3;generalize (w.alloc (.cells (vu (n256 fun _=>0)).toArray 192)).alloc (.cells (vu (n256 fun _=>0)).toArray 192)=w1 at *
 obtain⟨g0,hg0⟩:∃g0,g0=w.heap.size:=⟨_,rfl⟩
 obtain⟨g1,hg1⟩:∃g1,g1=w.heap.size+1:=⟨_,rfl⟩
 rw[<-hg1,<-hg0] at H0;rw[<-hg1,<-hg0];have HG:=Lib.hid (And.intro hg0 hg1);clear hg0 hg1;go_loopg [5] 256 (fun kx s5 wr=>∃(i:Nat),s5=.int .i64 (i:Int)/\i<=256/\256-i<=kx/\Aside (Au wr g0 (n256 fun _=>0)/\Au wr g1 (n256 fun j=>if j<i then tb j else 0)/\Below g0 w wr))
 case atStart=>exact⟨0,rfl,by omega,by omega,H0.out⟩
 case round =>
  clear H0;obtain⟨i,rfl,hi,hix,H⟩:=hrel;by_cases hlt:i<256
  ·have hu:IntKind.u32.wrap (i:Int)=(i:Int):=by rw[IntKind.wrap_u32];omega
   have hdec:decide ((i:Int)<256)=true:=decide_eq_true (by omega);go_wp2_with fail
   generalize wr=wo at *
   have hi0:=hlfs_lt (c:=i) (by omega) 0;go_loopg [4,10] 8 (fun kj s4 s10 wx=>∃(j c:Nat),s10=.int .i64 (j:Int)/\s4=.int .u32 (c:Int)/\c<4294967296/\Hid (c=hlfs j i)/\j<=8/\8-j<=kj/\wo=wx)
   case atStart=>exact⟨0,i,rfl,rfl,by omega,Lib.hid rfl,by omega,by omega,rfl⟩
   case round =>
    obtain⟨j,c,rfl,rfl,hc,HCJ,hj,hjx,rfl⟩:=hrel;by_cases hlt2:j<8
    ·have HF:=Lib.hid (half_any c wo hc)
     have hlt3:=hlf_lt hc;have HC2:=Lib.hid (show hlf c=hlfs (j+1) i by rw[half_step,<-HCJ.out]);go_wp2_with fail
     refine HF.out.mono ?_;rintro e w2 ⟨rfl,rfl⟩;go_wp2_with fail
     go_roundg (8-(j+1))
     case measure=>omega
     case rel=>exact⟨j+1,hlf c,by go_num,rfl,hlt3,HC2,by omega,by omega,rfl⟩
    ·obtain rfl:j=8:=by omega
     have hcell:=H.out.2.1.cell i hlt;have hfz:=H.out.2.1.fz i;have hset:=H.out.2.1.set i c;rw[n256_set] at hset;have e1:(n256 fun j=>if j=i then c else if j<i then tb j else 0)=n256 fun j=>if j<i+1 then tb j else 0:=n256_congr fun j _=>by
      by_cases he:j=i
      ·subst he;rw[if_pos rfl,if_pos (by omega)];exact HCJ.out
      ·rw[if_neg he]
       by_cases h3:j<i
       ·rw[if_pos h3,if_pos (by omega)]
       ·rw[if_neg h3,if_neg (by omega)]
     rw[e1] at hset;have hne:g0≠g1:=by have:=HG.out;omega
     have ha:Au (wo.setCell ⟨g1,i,none⟩ (.int .u32 (c:Int))) g0 (n256 fun _=>0):=⟨(Below.heap_setCell wo ⟨g1,_,none⟩ _ g0 hne).trans H.out.1.1,length_n256 _⟩
     have hbb:=H.out.2.2.setCell (p:=⟨g1,i,none⟩) (show g0<=g1 by have:=HG.out;omega) (.int .u32 (c:Int));have HX:Aside _:=And.intro ha (And.intro hset hbb);clear e1 hset ha hbb H;go_wp2_with fail
     go_roundg (256-(i+1))
     case measure=>omega
     case rel=>exact⟨i+1,by go_num,by omega,by omega,HX.out⟩
  ·obtain rfl:i=256:=by omega
   have e1:(n256 fun j=>if j<256 then tb j else 0)=n256 tb:=n256_congr fun j hj=>if_pos hj
   have h9:=H.out;rw[e1] at h9;have hrg:=h9.2.1.range;have HRG2:=Lib.hid hrg;obtain⟨Z,hZ⟩:∃Z,Z=vu (n256 tb):=⟨_,rfl⟩
   have hZl:Z.length=256:=by rw[hZ,length_vu,length_n256]
   have hth:wr.there g0 0 Z.toArray.size:=by
    intro j hj;have hj':j<256:=by rw[List.size_toArray,hZl] at hj;exact hj
    rw[Nat.zero_add];exact⟨by rw[h9.1.cell j hj'];rfl,h9.1.fz j⟩
   have h1c:Z.toArray.all (·.oneCell')=true:=all_oneCell_toArray (by rw[hZ];exact vu_one _);have hrs:(wr.setCells g0 0 Z).rangeAt g0 0 Z:=World.rangeAt_setCells_same wr g0 0 Z (by intro j hj;exact hth j (by simpa using hj));have hbs:Below g0 w (wr.setCells g0 0 Z):=below_setU Z 0 wr h9.2.2 (Nat.le_refl _);have HTH:=Lib.hid hth;have H1C:=Lib.hid h1c;have HZL:=Lib.hid hZl;have hszZ:Z.toArray.size=256:=by rw[List.size_toArray,hZl]
   have HSZ:=Lib.hid hszZ;have HRS:=Lib.hid hrs;have HBS:=Lib.hid hbs;have HZ:=Lib.hid hZ;rw[<-hZ] at HRG2;clear h9 e1 H hrg hth h1c hZl hrs hbs hszZ hZ;go_wp2_with (first|(refine wpList_load_mid rfl 192 (.tmp 2) rfl g1 0 (by simp[go_sem,Act.eval]) Z _ HRG2.out Tryz.underlying192 rfl (by rw[HZL.out];kernel_rfl) ?_)|(refine wpList_store_mid rfl 192 (.tmp 0) (.tmp 20) rfl g0 0 Z.toArray (by simp[go_sem,Act.eval]) (by simp[go_sem,Act.eval]) HTH.out (by rw[HSZ.out];kernel_rfl) H1C.out ?_))
   refine bodyPost_ret (v:=.agg Z.toArray) ?_ rfl ?_
   ·have hl:=run_loadVar_mid (P:=Tryz.prog) (wr.setCells g0 0 Z) g0 0 192 Z _ HRS.out Tryz.underlying192 rfl (by rw[HZL.out];kernel_rfl)
    exact results_cell (a:=0) (t:=192) (ad:=⟨g0,0,none⟩) (by rfl) (by simp[Act.put]) hl
   ·exact⟨by rw[HZ.out];rfl,HBS.out.mono (by have:=HG.out;omega)⟩
set_option maxHeartbeats 1600000 in
set_option maxRecDepth 100000 in
theorem rest_any (g c:Nat) (b:UInt8) (w:World) (h:Au w g (n256 tb)) (hc:c<4294967296) :
  Calls Tryz.prog 205 #[.pointer (some ⟨g,0,none⟩),.int .u32 (c:Int),.int .u8 (b.toNat:Int)] w fun e w'=>e=.returned (.int .u32 (rst c b.toNat:Int))/\w=w':=by
 have hb:=b.toNat_lt;have hk:=x8_lt (c:=c) hb;have e1:bits .xor .u8 ((c:Int)%256) (b.toNat:Int)=(((c%256) ^^^ b.toNat:Nat):Int):=by
  have:=u8_xor_nat (c%256) b.toNat (by omega) hb;rw[<-this];rfl
 have hcell:=h.cell _ hk;rw[n256_at _ _ hk] at hcell;have e2:bits .xor .u32 ((c:Int)/256) ((tb ((c%256) ^^^ b.toNat):Nat):Int)=((rst c b.toNat:Nat):Int):=by
  have:=u32_xor_nat (c/256) (tb ((c%256) ^^^ b.toNat)) (by omega) (tb_lt hk);unfold rst;rw[<-this];rfl
 have HE:=Lib.hid e2;clear e2;generalize (c%256) ^^^ b.toNat=k at *
 generalize tb k=T at *
 have hk2:(k:Int)<256:=by omega
 go_enter Tryz.func205, Tryz.ntmps205
 go_wp2_with fail
 go_ret
 exact⟨by rw[<-HE.out];rfl,rfl⟩
theorem tb_row (w:World):Au (w.alloc (.cells TB 192)) w.heap.size (n256 tb):=⟨heap_alloc_new w _,length_n256 _⟩
set_option maxHeartbeats 3200000 in
set_option maxRecDepth 100000 in
theorem more_any (s:ByteArray) (w:World) (hs:s.size<=1000000000) :
  Calls Tryz.prog 154 #[.agg TB,.int .u32 0,.string s] w fun e w'=>e=.returned (.int .u32 (crc s.data.toList:Int))/\Below w.heap.size w w':=by
 have mixed:Tryz.prog.follows .mixedOrders=true:=by kernel_rfl
 have e0:bits .xor .u32 4294967295 0=4294967295:=by decide
 have hrow:=Lib.hid (tb_row w);have hbel:=Lib.hid (ext_alloc w (.cells TB 192));obtain⟨Z,hZ⟩:∃Z,Z=TB:=⟨_,rfl⟩
 rw[<-hZ] at hrow hbel;rw[<-hZ];clear hZ
 go_enter Tryz.func154, Tryz.ntmps154
 go_wp2_with (refine wpList_box_new rfl 192 (.tmp 0) rfl Z (by simp[go_sem,Act.eval]) ?_)
 generalize w.alloc (.cells Z 192)=w1 at *
 go_loopg [7,8] s.size (fun kx s7 s8 wr=>∃(k c:Nat),s8=.int .i64 (k:Int)/\s7=.int .u32 (c:Int)/\k<=s.size/\s.size-k<=kx/\c<4294967296/\Hid (c=fold (s.data.toList.take k) 4294967295)/\w1=wr)
 case atStart=>exact⟨0,4294967295,rfl,by first|rfl|(rw[e0];rfl),by omega,by omega,by omega,Lib.hid rfl,rfl⟩
 case round =>
  obtain⟨k,c,rfl,rfl,hk,hkx,hc,HC,rfl⟩:=hrel;by_cases hlt:k<s.size
  ·have HF:=Lib.hid (rest_any w.heap.size c s[k] w1 hrow.out hc)
   have hcn:=rst_lt hc s[k].toNat_lt;have HC2:=Lib.hid (show rst c s[k].toNat=fold (s.data.toList.take (k+1)) 4294967295 by
    rw[fold_take _ k _ s[k] (by rw[List.getElem?_eq_getElem (show k<s.data.toList.length from hlt)];rfl),<-HC.out])
   go_wp2_with fail
   refine HF.out.mono ?_;rintro e w2 ⟨rfl,rfl⟩;go_wp2_with fail
   go_roundg (s.size-(k+1))
   case measure=>omega
   case rel=>exact⟨k+1,rst c s[k].toNat,by go_num,rfl,by omega,by omega,hcn,HC2,rfl⟩
  ·obtain rfl:k=s.size:=by omega
   have e1:bits .xor .u32 4294967295 (c:Int)=((4294967295 ^^^ c:Nat):Int):=u32_xor_nat 4294967295 c (by decide) hc;have HE:=Lib.hid e1;clear e1;go_wp2_with fail
   go_ret
   refine⟨?_,hbel.out⟩;have h5:s.data.toList.take s.size=s.data.toList:=List.take_of_length_le (Nat.le_refl _);have h6:=HC.out;rw[h5] at h6;unfold crc;rw[<-h6,<-HE.out];rfl
set_option maxHeartbeats 3200000 in
set_option maxRecDepth 100000 in
theorem of_any (s:ByteArray) (w:World) (hs:s.size<=1000000000) :
  Calls Tryz.prog 102 #[.agg TB,.string s] w fun e w'=>e=.returned (.int .u32 (crc s.data.toList:Int))/\Below w.heap.size w w':=by
 have mixed:Tryz.prog.follows .mixedOrders=true:=by kernel_rfl
 have hrow:=(tb_row w).range;have hlen:(vu (n256 tb)).length=256:=by rw[length_vu,length_n256]
 have hbel:=ext_alloc w (.cells TB 192);have HM:=Lib.hid (more_any s (w.alloc (.cells TB 192)) hs);have HT:TB=(vu (n256 tb)).toArray:=rfl;rw[HT] at HM hrow hbel ⊢;have HBL:=Lib.hid hbel;have HR:=Lib.hid hrow;have HL:=Lib.hid hlen;clear hrow hlen hbel HT;generalize vu (n256 tb)=Z at *
 go_enter Tryz.func102, Tryz.ntmps102
 go_wp2_with (first|(refine wpList_box_new rfl 192 (.tmp 0) rfl Z.toArray (by simp[go_sem,Act.eval]) ?_)|(refine wpList_load_mid rfl 192 (.tmp 2) rfl w.heap.size 0 (by simp[go_sem,Act.eval]) Z _ HR.out Tryz.underlying192 rfl (by rw[HL.out];kernel_rfl) ?_))
 generalize w.alloc (.cells Z.toArray 192)=w1 at *
 refine HM.out.mono ?_;rintro e w2 ⟨rfl,hb⟩;have HB2:=Lib.hid (HBL.out.trans (hb.mono HBL.out.size));clear hb;go_wp2_with fail
 go_ret
 exact⟨rfl,HB2.out⟩
end Cr
end Go.Proofs.YtejcdhdfanfkbaaGreat
