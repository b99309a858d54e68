/- crc: a table of sums, and the sum of bytes. varint.fits, Fix, Unfix: four bytes. frame: known, get. frame: Put, Get. seg: a segment's file is synced; a frame is put behind it. strings.Builder: Len, String: the shelf's contracts at this dump (written by the kit's lay-shelf.mjs and lay-plain.mjs; cut to two). strings.Builder: copyCheck, WriteString. record: what its functions compute: plain lists, no program. record.Check. Slices of records (structs of three cells). record.Row. record.Put. head.numbers. head.Put. strings.HasPrefix; scan.begun. seg: create. seg: create, step by step. seg: Create. take.Caught at block.peek$1. take: the first byte. record.Join. record.Get. -/
import Derived.Test.YtlnbjikooadmoaaGreatRows
import Derived.Test.YtlnbjikooadmoaaGreatKf01
import Derived.Test.YtlnbjikooadmoaaGreatKf02
import Derived.Test.YtlnbjikooadmoaaGreatKf06
import Derived.Laws.BitsAllLaws
import Derived.Deep.LoopGhost
import Derived.Test.YtlnbjikooadmoaaGreatKf03
import Derived.Deep.RegionHeld3
import Derived.Test.YtlnbjikooadmoaaGreatKf48
import Derived.Shelf.Strings.Builder1
import Derived.Test.YtlnbjikooadmoaaGreatKf15
import Derived.Test.YtlnbjikooadmoaaGreatKf24
import Derived.Test.YtlnbjikooadmoaaGreatKf40
import Derived.Test.YtlnbjikooadmoaaGreatKf43
import Derived.Test.YtlnbjikooadmoaaGreatKf41
namespace Go.Proofs.YtlnbjikooadmoaaGreat
namespace Cr
open Go.RowKit
def hlf (c:Nat):Nat:=if c%2=1 then c/2 ^^^ 3988292384 else c/2
theorem hlf_lt {c:Nat} (h:c<4294967296):hlf c<4294967296:=by
 unfold hlf;split
 ·exact Nat.xor_lt_two_pow (n:=32) (by omega) (by decide)
 ·omega
def hlfs:Nat->Nat->Nat
 |0,c=>c
 |n+1,c=>hlf (hlfs n c)
theorem hlfs_lt {c:Nat} (h:c<4294967296):∀n,hlfs n c<4294967296
 |0=>h
 |n+1=>hlf_lt (hlfs_lt h n)
def tb (i:Nat):Nat:=hlfs 8 i
theorem tb_lt {i:Nat} (h:i<256):tb i<4294967296:=hlfs_lt (by omega) 8
def rst (c b:Nat):Nat:=(c/256) ^^^ tb ((c%256) ^^^ b)
theorem x8_lt {c b:Nat} (hb:b<256):(c%256) ^^^ b<256:=Nat.xor_lt_two_pow (n:=8) (by omega) (by omega)
theorem rst_lt {c b:Nat} (h:c<4294967296) (hb:b<256):rst c b<4294967296:=Nat.xor_lt_two_pow (n:=32) (by omega) (tb_lt (x8_lt hb))
def fold (l:List UInt8) (c:Nat):Nat:=l.foldl (fun c b=>rst c b.toNat) c
theorem fold_lt:∀(l:List UInt8) (c:Nat),c<4294967296->fold l c<4294967296
 | [],_,h=>h
 |x::l,c,h=>by
  have:=fold_lt l (rst c x.toNat) (rst_lt h x.toNat_lt);exact this
theorem fold_take (l:List UInt8) (k c:Nat) (x:UInt8) (h:l[k]? =some x):fold (l.take (k+1)) c=rst (fold (l.take k) c) x.toNat:=by
 unfold fold;rw[List.take_add_one,h,List.foldl_append];rfl
def crc (l:List UInt8):Nat:=4294967295 ^^^ fold l 4294967295
theorem crc_lt (l:List UInt8):crc l<4294967296:=Nat.xor_lt_two_pow (n:=32) (by decide) (fold_lt l _ (by decide))
set_option maxRecDepth 100000 in
theorem half_any (c:Nat) (w:World) (h:c<4294967296) :
  Calls Tryz.prog 127 #[.int .u32 (c:Int)] w fun e w'=>e=.returned (.int .u32 (hlf c:Int))/\w=w':=by
 have e1:bits .and .u32 (c:Int) 1=((c &&& 1:Nat):Int):=u32_and_nat c 1 h (by decide);rw[Nat.and_one_is_mod] at e1;by_cases hc:c%2=1
 ·have e2:hlf c=c/2 ^^^ 3988292384:=if_pos hc
  have e3:bits .xor .u32 ((c/2:Nat):Int) 3988292384=((c/2 ^^^ 3988292384:Nat):Int):=u32_xor_nat (c/2) 3988292384 (by omega) (by decide);rw[hc] at e1;have HE:=Lib.hid (And.intro e2 e3);clear e2 e3 hc
  go_enter Tryz.func127, Tryz.ntmps127
  go_wp2_with fail
  go_ret
  rw[HE.out.1,<-HE.out.2];exact⟨rfl,rfl⟩
 ·have e2:hlf c=c/2:=if_neg hc
  have hc2:c%2=0:=by omega
  rw[hc2] at e1;have HE:=Lib.hid e2;clear e2 hc hc2
  go_enter Tryz.func127, Tryz.ntmps127
  go_wp2_with fail
  go_ret
  rw[HE.out];exact⟨rfl,rfl⟩
def vu (l:List Nat):List Value:=l.map fun(n:Nat)=>Value.int .u32 (n:Int)
theorem length_vu (l:List Nat):(vu l).length=l.length:=List.length_map ..
theorem vu_at (l:List Nat) (k:Nat) (h:k<l.length):(vu l)[k]? =some (.int .u32 ((l.getD k 0:Nat):Int)):=by
 unfold vu;rw[List.getElem?_map,List.getD_eq_getElem?_getD,List.getElem?_eq_getElem h];rfl
theorem vu_set (l:List Nat) (k x:Nat):(vu l).set k (.int .u32 (x:Int))=vu (l.set k x):=by
 unfold vu;rw[List.map_set]
theorem vu_one (l:List Nat):∀v∈vu l,v.oneCell'=true:=by
 intro v hv;obtain⟨_,_,rfl⟩:=List.mem_map.1 hv;rfl
def n256 (g:Nat->Nat):List Nat:=(List.range 256).map g
theorem length_n256 (g:Nat->Nat):(n256 g).length=256:=by simp[n256]
theorem n256_at (g:Nat->Nat) (k:Nat) (h:k<256):(n256 g).getD k 0=g k:=by
 unfold n256;rw[List.getD_eq_getElem?_getD,List.getElem?_map,List.getElem?_range (by omega)];rfl
theorem n256_congr {g h:Nat->Nat} (e:∀k,k<256->g k=h k):n256 g=n256 h:=by
 unfold n256;apply List.map_congr_left
 intro k hk;exact e k (by simpa using hk)
theorem n256_set (g:Nat->Nat) (k x:Nat):(n256 g).set k x=n256 fun j=>if j=k then x else g j:=by
 apply List.ext_getElem?
 intro j;unfold n256;rw[List.getElem?_set,List.getElem?_map,List.getElem?_map,List.length_map,List.length_range];by_cases hj:j<256
 ·rw[List.getElem?_range hj]
  by_cases he:k=j
  ·subst he;simp[hj]
  ·rw[if_neg he];simp[Ne.symm he]
 ·rw[List.getElem?_eq_none (by simp;omega)]
  by_cases he:k=j
  ·subst he;simp[hj]
  ·rw[if_neg he];rfl
theorem zeros_u:Array.replicate 256 (Value.int .u32 0)=(vu (n256 fun _=>0)).toArray:=by
 have e:vu (n256 fun _=>0)=List.replicate 256 (Value.int .u32 0):=by
  unfold vu n256;rw[List.map_map];apply List.ext_getElem?
  intro j;rw[List.getElem?_map,List.getElem?_replicate];by_cases hj:j<256
  ·rw[List.getElem?_range hj,if_pos hj];rfl
  ·rw[List.getElem?_eq_none (by simp;omega),if_neg hj];rfl
 rw[e,List.toArray_replicate]
theorem row_setU {t:TypeId} {w:World} {b k:Nat} {l:List Value} {u:Value} (h:w.heap[b]? =some (.cells l.toArray t (0,0))):(w.setCell ⟨b,k,none⟩ u).heap[b]? =some (.cells (l.set k u).toArray t (0,0)):=by
 simp[World.setCell,Array.getElem?_modify,h]
def Au (w:World) (b:Nat) (l:List Nat):Prop:=w.heap[b]? =some (.cells (vu l).toArray 151 (0,0))/\l.length=256
section
variable {w:World} {b:Nat} {l:List Nat} (h:Au w b l)
include h
theorem Au.lt:b<w.heap.size:=(Array.getElem?_eq_some_iff.1 h.1).1
theorem Au.cell (k:Nat) (hk:k<256):w.cell? ⟨b,k,none⟩=some (.int .u32 ((l.getD k 0:Nat):Int)):=by
 rw[cell_of_row w b k _ _ (0,0) h.1];simpa using vu_at l k (by rw[h.2];exact hk)
theorem Au.fz (k:Nat):w.frozen? ⟨b,k,none⟩=false:=frozen_of_row w b k _ _ h.1
theorem Au.set (k x:Nat):Au (w.setCell ⟨b,k,none⟩ (.int .u32 (x:Int))) b (l.set k x):=⟨by rw[row_setU h.1,vu_set],by rw[List.length_set];exact h.2⟩
theorem Au.below {w':World} {B:Nat} (hb:Below B w w') (hB:b<B):Au w' b l:=⟨(hb.block b hB).trans h.1,h.2⟩
theorem Au.range:w.rangeAt b 0 (vu l):=by
 intro j v hv;have hj:j<256:=by have:=(List.getElem?_eq_some_iff.1 hv).1;rwa [length_vu,h.2] at this
 rw[Nat.zero_add,h.cell j hj,<-hv,vu_at l j (by rw[h.2];exact hj)]
end
theorem below_setU {B b:Nat} {w0:World}:∀(vs:List Value) (o:Nat) (w:World),Below B w0 w->B<=b->Below B w0 (w.setCells b o vs)
 | [],_,_,h,_=>h
 |v::r,o,_,h,hb=>below_setU r (o+1) _ (h.setCell (p:=⟨b,o,none⟩) hb v) hb
def TB:Array Value:=(vu (n256 tb)).toArray
theorem half_step (n c:Nat):hlfs (n+1) c=hlf (hlfs n c):=rfl
set_option maxHeartbeats 6400000 in
set_option maxRecDepth 100000 in
theorem table_any (w:World) :
  Calls Tryz.prog 93 #[] w fun e w'=>e=.returned (.agg TB)/\Below w.heap.size w w':=by
 have mixed:Tryz.prog.follows .mixedOrders=true:=by kernel_rfl
 have hz:(Tryz.prog.info? 151).map (fun i=>(i.zero,i.size))=some (some (.agg (Array.replicate 256 (.int .u32 0))),256):=by kernel_rfl
 have HZ:=Lib.hid hz;clear hz
 go_enter Tryz.func93, Tryz.ntmps93
 go_wp2_with (refine wpList_alloc_zero rfl 151 rfl _ _ HZ.out ?_)
 rw[zeros_u];have h1:Au ((w.alloc (.cells (vu (n256 fun _=>0)).toArray 151)).alloc (.cells (vu (n256 fun _=>0)).toArray 151)) w.heap.size (n256 fun _=>0) :=
  ⟨(Below.heap_alloc _ _ _ (by simp)).trans (heap_alloc_new w _),length_n256 _⟩
 have h2:Au ((w.alloc (.cells (vu (n256 fun _=>0)).toArray 151)).alloc (.cells (vu (n256 fun _=>0)).toArray 151)) (w.heap.size+1) (n256 fun j=>if j<0 then tb j else 0):=by
  have:=heap_alloc_new (w.alloc (.cells (vu (n256 fun _=>0)).toArray 151)) (.cells (vu (n256 fun _=>0)).toArray 151);rw[show(w.alloc (.cells (vu (n256 fun _=>0)).toArray 151)).heap.size=w.heap.size+1 by simp] at this;have e:(n256 fun j=>if j<0 then tb j else 0)=n256 fun _=>0:=n256_congr fun j _=>if_neg (by omega)
  rw[e];exact⟨this,length_n256 _⟩
 have h3:Below w.heap.size w ((w.alloc (.cells (vu (n256 fun _=>0)).toArray 151)).alloc (.cells (vu (n256 fun _=>0)).toArray 151)):=((Below.refl _ _).alloc (Nat.le_refl _) _).alloc (by simp) _;have H0:Aside _:=And.intro h1 (And.intro h2 h3);clear h1 h2 h3;generalize (w.alloc (.cells (vu (n256 fun _=>0)).toArray 151)).alloc (.cells (vu (n256 fun _=>0)).toArray 151)=w1 at *
 obtain⟨g0,hg0⟩:∃g0,g0=w.heap.size:=⟨_,rfl⟩
 obtain⟨g1,hg1⟩:∃g1,g1=w.heap.size+1:=⟨_,rfl⟩
 rw[<-hg1,<-hg0] at H0;rw[<-hg1,<-hg0];have HG:=Lib.hid (And.intro hg0 hg1);clear hg0 hg1;go_loopg [5] 256 (fun kx s5 wr=>∃(i:Nat),s5=.int .i64 (i:Int)/\i<=256/\256-i<=kx/\Aside (Au wr g0 (n256 fun _=>0)/\Au wr g1 (n256 fun j=>if j<i then tb j else 0)/\Below g0 w wr))
 case atStart=>exact⟨0,rfl,by omega,by omega,H0.out⟩
 case round =>
  clear H0;obtain⟨i,rfl,hi,hix,H⟩:=hrel;by_cases hlt:i<256
  ·have hu:IntKind.u32.wrap (i:Int)=(i:Int):=by rw[IntKind.wrap_u32];omega
   have hdec:decide ((i:Int)<256)=true:=decide_eq_true (by omega);go_wp2_with fail
   generalize wr=wo at *
   have hi0:=hlfs_lt (c:=i) (by omega) 0;go_loopg [4,10] 8 (fun kj s4 s10 wx=>∃(j c:Nat),s10=.int .i64 (j:Int)/\s4=.int .u32 (c:Int)/\c<4294967296/\Hid (c=hlfs j i)/\j<=8/\8-j<=kj/\wo=wx)
   case atStart=>exact⟨0,i,rfl,rfl,by omega,Lib.hid rfl,by omega,by omega,rfl⟩
   case round =>
    obtain⟨j,c,rfl,rfl,hc,HCJ,hj,hjx,rfl⟩:=hrel;by_cases hlt2:j<8
    ·have HF:=Lib.hid (half_any c wo hc)
     have hlt3:=hlf_lt hc;have HC2:=Lib.hid (show hlf c=hlfs (j+1) i by rw[half_step,<-HCJ.out]);go_wp2_with fail
     refine HF.out.mono ?_;rintro e w2 ⟨rfl,rfl⟩;go_wp2_with fail
     go_roundg (8-(j+1))
     case measure=>omega
     case rel=>exact⟨j+1,hlf c,by go_num,rfl,hlt3,HC2,by omega,by omega,rfl⟩
    ·obtain rfl:j=8:=by omega
     have hcell:=H.out.2.1.cell i hlt;have hfz:=H.out.2.1.fz i;have hset:=H.out.2.1.set i c;rw[n256_set] at hset;have e1:(n256 fun j=>if j=i then c else if j<i then tb j else 0)=n256 fun j=>if j<i+1 then tb j else 0:=n256_congr fun j _=>by
      by_cases he:j=i
      ·subst he;rw[if_pos rfl,if_pos (by omega)];exact HCJ.out
      ·rw[if_neg he]
       by_cases h3:j<i
       ·rw[if_pos h3,if_pos (by omega)]
       ·rw[if_neg h3,if_neg (by omega)]
     rw[e1] at hset;have hne:g0≠g1:=by have:=HG.out;omega
     have ha:Au (wo.setCell ⟨g1,i,none⟩ (.int .u32 (c:Int))) g0 (n256 fun _=>0):=⟨(Below.heap_setCell wo ⟨g1,_,none⟩ _ g0 hne).trans H.out.1.1,length_n256 _⟩
     have hbb:=H.out.2.2.setCell (p:=⟨g1,i,none⟩) (show g0<=g1 by have:=HG.out;omega) (.int .u32 (c:Int));have HX:Aside _:=And.intro ha (And.intro hset hbb);clear e1 hset ha hbb H;go_wp2_with fail
     go_roundg (256-(i+1))
     case measure=>omega
     case rel=>exact⟨i+1,by go_num,by omega,by omega,HX.out⟩
  ·obtain rfl:i=256:=by omega
   have e1:(n256 fun j=>if j<256 then tb j else 0)=n256 tb:=n256_congr fun j hj=>if_pos hj
   have h9:=H.out;rw[e1] at h9;have hrg:=h9.2.1.range;have HRG2:=Lib.hid hrg;obtain⟨Z,hZ⟩:∃Z,Z=vu (n256 tb):=⟨_,rfl⟩
   have hZl:Z.length=256:=by rw[hZ,length_vu,length_n256]
   have hth:wr.there g0 0 Z.toArray.size:=by
    intro j hj;have hj':j<256:=by rw[List.size_toArray,hZl] at hj;exact hj
    rw[Nat.zero_add];exact⟨by rw[h9.1.cell j hj'];rfl,h9.1.fz j⟩
   have h1c:Z.toArray.all (·.oneCell')=true:=all_oneCell_toArray (by rw[hZ];exact vu_one _);have hrs:(wr.setCells g0 0 Z).rangeAt g0 0 Z:=World.rangeAt_setCells_same wr g0 0 Z (by intro j hj;exact hth j (by simpa using hj));have hbs:Below g0 w (wr.setCells g0 0 Z):=below_setU Z 0 wr h9.2.2 (Nat.le_refl _);have HTH:=Lib.hid hth;have H1C:=Lib.hid h1c;have HZL:=Lib.hid hZl;have hszZ:Z.toArray.size=256:=by rw[List.size_toArray,hZl]
   have HSZ:=Lib.hid hszZ;have HRS:=Lib.hid hrs;have HBS:=Lib.hid hbs;have HZ:=Lib.hid hZ;rw[<-hZ] at HRG2;clear h9 e1 H hrg hth h1c hZl hrs hbs hszZ hZ;go_wp2_with (first|(refine wpList_load_mid rfl 151 (.tmp 2) rfl g1 0 (by simp[go_sem,Act.eval]) Z _ HRG2.out Tryz.underlying151 rfl (by rw[HZL.out];kernel_rfl) ?_)|(refine wpList_store_mid rfl 151 (.tmp 0) (.tmp 20) rfl g0 0 Z.toArray (by simp[go_sem,Act.eval]) (by simp[go_sem,Act.eval]) HTH.out (by rw[HSZ.out];kernel_rfl) H1C.out ?_))
   refine bodyPost_ret (v:=.agg Z.toArray) ?_ rfl ?_
   ·have hl:=run_loadVar_mid (P:=Tryz.prog) (wr.setCells g0 0 Z) g0 0 151 Z _ HRS.out Tryz.underlying151 rfl (by rw[HZL.out];kernel_rfl)
    exact results_cell (a:=0) (t:=151) (ad:=⟨g0,0,none⟩) (by rfl) (by simp[Act.put]) hl
   ·exact⟨by rw[HZ.out];rfl,HBS.out.mono (by have:=HG.out;omega)⟩
set_option maxHeartbeats 1600000 in
set_option maxRecDepth 100000 in
theorem rest_any (g c:Nat) (b:UInt8) (w:World) (h:Au w g (n256 tb)) (hc:c<4294967296) :
  Calls Tryz.prog 175 #[.pointer (some ⟨g,0,none⟩),.int .u32 (c:Int),.int .u8 (b.toNat:Int)] w fun e w'=>e=.returned (.int .u32 (rst c b.toNat:Int))/\w=w':=by
 have hb:=b.toNat_lt;have hk:=x8_lt (c:=c) hb;have e1:bits .xor .u8 ((c:Int)%256) (b.toNat:Int)=(((c%256) ^^^ b.toNat:Nat):Int):=by
  have:=u8_xor_nat (c%256) b.toNat (by omega) hb;rw[<-this];rfl
 have hcell:=h.cell _ hk;rw[n256_at _ _ hk] at hcell;have e2:bits .xor .u32 ((c:Int)/256) ((tb ((c%256) ^^^ b.toNat):Nat):Int)=((rst c b.toNat:Nat):Int):=by
  have:=u32_xor_nat (c/256) (tb ((c%256) ^^^ b.toNat)) (by omega) (tb_lt hk);unfold rst;rw[<-this];rfl
 have HE:=Lib.hid e2;clear e2;generalize (c%256) ^^^ b.toNat=k at *
 generalize tb k=T at *
 have hk2:(k:Int)<256:=by omega
 go_enter Tryz.func175, Tryz.ntmps175
 go_wp2_with fail
 go_ret
 exact⟨by rw[<-HE.out];rfl,rfl⟩
theorem tb_row (w:World):Au (w.alloc (.cells TB 151)) w.heap.size (n256 tb):=⟨heap_alloc_new w _,length_n256 _⟩
set_option maxHeartbeats 3200000 in
set_option maxRecDepth 100000 in
theorem more_any (s:ByteArray) (w:World) (hs:s.size<=1000000000) :
  Calls Tryz.prog 153 #[.agg TB,.int .u32 0,.string s] w fun e w'=>e=.returned (.int .u32 (crc s.data.toList:Int))/\Below w.heap.size w w':=by
 have mixed:Tryz.prog.follows .mixedOrders=true:=by kernel_rfl
 have e0:bits .xor .u32 4294967295 0=4294967295:=by decide
 have hrow:=Lib.hid (tb_row w);have hbel:=Lib.hid (ext_alloc w (.cells TB 151));obtain⟨Z,hZ⟩:∃Z,Z=TB:=⟨_,rfl⟩
 rw[<-hZ] at hrow hbel;rw[<-hZ];clear hZ
 go_enter Tryz.func153, Tryz.ntmps153
 go_wp2_with (refine wpList_box_new rfl 151 (.tmp 0) rfl Z (by simp[go_sem,Act.eval]) ?_)
 generalize w.alloc (.cells Z 151)=w1 at *
 go_loopg [7,8] s.size (fun kx s7 s8 wr=>∃(k c:Nat),s8=.int .i64 (k:Int)/\s7=.int .u32 (c:Int)/\k<=s.size/\s.size-k<=kx/\c<4294967296/\Hid (c=fold (s.data.toList.take k) 4294967295)/\w1=wr)
 case atStart=>exact⟨0,4294967295,rfl,by first|rfl|(rw[e0];rfl),by omega,by omega,by omega,Lib.hid rfl,rfl⟩
 case round =>
  obtain⟨k,c,rfl,rfl,hk,hkx,hc,HC,rfl⟩:=hrel;by_cases hlt:k<s.size
  ·have HF:=Lib.hid (rest_any w.heap.size c s[k] w1 hrow.out hc)
   have hcn:=rst_lt hc s[k].toNat_lt;have HC2:=Lib.hid (show rst c s[k].toNat=fold (s.data.toList.take (k+1)) 4294967295 by
    rw[fold_take _ k _ s[k] (by rw[List.getElem?_eq_getElem (show k<s.data.toList.length from hlt)];rfl),<-HC.out])
   go_wp2_with fail
   refine HF.out.mono ?_;rintro e w2 ⟨rfl,rfl⟩;go_wp2_with fail
   go_roundg (s.size-(k+1))
   case measure=>omega
   case rel=>exact⟨k+1,rst c s[k].toNat,by go_num,rfl,by omega,by omega,hcn,HC2,rfl⟩
  ·obtain rfl:k=s.size:=by omega
   have e1:bits .xor .u32 4294967295 (c:Int)=((4294967295 ^^^ c:Nat):Int):=u32_xor_nat 4294967295 c (by decide) hc;have HE:=Lib.hid e1;clear e1;go_wp2_with fail
   go_ret
   refine⟨?_,hbel.out⟩;have h5:s.data.toList.take s.size=s.data.toList:=List.take_of_length_le (Nat.le_refl _);have h6:=HC.out;rw[h5] at h6;unfold crc;rw[<-h6,<-HE.out];rfl
set_option maxHeartbeats 3200000 in
set_option maxRecDepth 100000 in
theorem of_any (s:ByteArray) (w:World) (hs:s.size<=1000000000) :
  Calls Tryz.prog 122 #[.agg TB,.string s] w fun e w'=>e=.returned (.int .u32 (crc s.data.toList:Int))/\Below w.heap.size w w':=by
 have mixed:Tryz.prog.follows .mixedOrders=true:=by kernel_rfl
 have hrow:=(tb_row w).range;have hlen:(vu (n256 tb)).length=256:=by rw[length_vu,length_n256]
 have hbel:=ext_alloc w (.cells TB 151);have HM:=Lib.hid (more_any s (w.alloc (.cells TB 151)) hs);have HT:TB=(vu (n256 tb)).toArray:=rfl;rw[HT] at HM hrow hbel ⊢;have HBL:=Lib.hid hbel;have HR:=Lib.hid hrow;have HL:=Lib.hid hlen;clear hrow hlen hbel HT;generalize vu (n256 tb)=Z at *
 go_enter Tryz.func122, Tryz.ntmps122
 go_wp2_with (first|(refine wpList_box_new rfl 151 (.tmp 0) rfl Z.toArray (by simp[go_sem,Act.eval]) ?_)|(refine wpList_load_mid rfl 151 (.tmp 2) rfl w.heap.size 0 (by simp[go_sem,Act.eval]) Z _ HR.out Tryz.underlying151 rfl (by rw[HL.out];kernel_rfl) ?_))
 generalize w.alloc (.cells Z.toArray 151)=w1 at *
 refine HM.out.mono ?_;rintro e w2 ⟨rfl,hb⟩;have HB2:=Lib.hid (HBL.out.trans (hb.mono HBL.out.size));clear hb;go_wp2_with fail
 go_ret
 exact⟨rfl,HB2.out⟩
end Cr
end Go.Proofs.YtlnbjikooadmoaaGreat
namespace Go.Proofs.YtlnbjikooadmoaaGreat
namespace Fm
open Go.RowKit
def le:Nat->Nat->List UInt8
 |0,_=>[]
 |k+1,n=>UInt8.ofNat (n%256)::le k (n/256)
theorem length_le:∀k n,(le k n).length=k
 |0,_=>rfl
 |k+1,n=>by rw[le,List.length_cons,length_le k]
theorem low8 (n:Nat):(n:Int)%256=((UInt8.ofNat (n%256)).toNat:Int):=by
 rw[UInt8.toNat_ofNat'];omega
theorem fits_any (n:Nat) (w:World) (h:n<4294967296) :
  Calls Tryz.prog 152 #[.int .i64 (n:Int),.int .i64 4] w fun e w'=>e=.returned (.bool true)/\w=w':=by
 have h1:(n:Int)/4294967296=0:=by omega
 have h2:(0:Int)<=(n:Int):=by omega
 go_enter Tryz.func152, Tryz.ntmps152
 go_wp2_with fail
 go_ret
 exact⟨rfl,rfl⟩
set_option maxHeartbeats 3200000 in
set_option maxRecDepth 100000 in
theorem fix_any (n:Nat) (w:World) (h:n<4294967296) :
  Calls Tryz.prog 121 #[.int .i64 (n:Int),.int .i64 4] w fun e w'=>e=.returned (.tuple #[.string ⟨(le 4 n).toArray⟩,.int .i64 0])/\Below w.heap.size w w':=by
 have mixed:Tryz.prog.follows .mixedOrders=true:=by kernel_rfl
 have HF:=Lib.hid (fits_any n w h)
 go_enter Tryz.func121, Tryz.ntmps121
 go_wp2_with fail
 refine HF.out.mono ?_;rintro e w0 ⟨rfl,rfl⟩;go_wp2_with (at_make;(refine makeB0 (n:=8) (by omega) (Nat.le_refl w.heap.size) ?_);intro w1 hown1 hg1 hz1)
 have hb1:Below w.heap.size w w1:=(Below.refl _ _).grown hg1 (Nat.le_refl _) (by simp);have HO:=Lib.hid (And.intro hown1 hb1);clear hown1 hg1 hb1;go_loopg [0,6,21] 4 (fun kx s0 s6 s21 wr=>∃(j m:Nat) (acc:List UInt8),s21=.int .i64 (j:Int)/\s0=.int .i64 (m:Int)/\j<=4/\4-j<=kx/\m<4294967296/\acc.length<=10/\Hid (acc++le (4-j) m=le 4 n/\OwnB wr w.heap.size s6 acc/\Below w.heap.size w wr))
 case atStart=>exact⟨0,n,[],rfl,rfl,by omega,by omega,h,by simp,Lib.hid ⟨rfl,HO.out.1,HO.out.2⟩⟩
 case round =>
  clear HO;obtain⟨j,m,acc,rfl,rfl,hj,hjx,hm,hacc,H⟩:=hrel;by_cases hlt:j<4
  ·have hown:=H.out.2.1
   have hsz:=H.out.2.2.size;go_wp2_with (at_builtin;refine appendB (UInt8.ofNat (m%256)) (low8 m) hown (by omega) hsz ?_;intro A1 n1 c1 w2 _ hown2 hb2 _ _)
   go_roundg (4-(j+1))
   case measure=>omega
   case rel =>
    refine⟨j+1,m/256,acc++[UInt8.ofNat (m%256)],by go_num,by go_num,by omega,by omega,by omega,?_,Lib.hid ⟨?_,hown2,H.out.2.2.trans hb2⟩⟩
    ·have:=congrArg List.length H.out.1
     rw[List.length_append,length_le,length_le] at this;rw[List.length_append];simp;omega
    ·have h2:=H.out.1
     rw[show 4-j=(4-(j+1))+1 by omega,le] at h2;rw[<-h2,List.append_assoc];rfl
  ·obtain rfl:j=4:=by omega
   have h3:=H.out;rw[Nat.sub_self,le,List.append_nil] at h3;obtain⟨e3,o3,b3⟩:=h3;subst e3;obtain⟨A,c,rfl,_,_,hrd⟩:=o3.rd;have hs:=run_str (c:=c) hrd;have HB:=Lib.hid b3;clear H b3 o3 hrd;go_wp2_with fail
   go_ret2
   exact⟨rfl,HB.out⟩
def by4 (l:List UInt8) (p:Nat):Nat:=(l.getD p 0).toNat
def u4 (l:List UInt8) (p:Nat):Nat:=by4 l p+256*(by4 l (p+1)+256*(by4 l (p+2)+256*by4 l (p+3)))
def upto (l:List UInt8) (p:Nat):Nat->Nat
 |0=>0
 |k+1=>upto l p k*256+by4 l (p+(3-k))
theorem by4_lt (l:List UInt8) (p:Nat):by4 l p<256:=(l.getD p 0).toNat_lt
theorem upto_4 (l:List UInt8) (p:Nat):upto l p 4=u4 l p:=by
 simp only[upto,u4,Nat.sub_zero,Nat.reduceSub,Nat.add_zero];omega
theorem u4_lt (l:List UInt8) (p:Nat):u4 l p<4294967296:=by
 have h0:=by4_lt l p;have h1:=by4_lt l (p+1);have h2:=by4_lt l (p+2);have h3:=by4_lt l (p+3);unfold u4;omega
theorem upto_lt (l:List UInt8) (p:Nat):∀k,k<=4->upto l p k<4294967296/\(k<4->upto l p k<16777216):=by
 intro k hk;have h0:=by4_lt l p;have h1:=by4_lt l (p+1);have h2:=by4_lt l (p+2);have h3:=by4_lt l (p+3);rcases k with _|_|_|_|_|k<;>simp only[upto,Nat.sub_zero,Nat.reduceSub,Nat.add_zero,Nat.reduceAdd]<;>omega
theorem shl8 (a b:Nat) (ha:a<16777216) (hb:b<256):bits .or .u64 ((a:Int)*256) (b:Int)=((a*256+b:Nat):Int):=by
 have h1:=u64_or_nat (a*256) b (by omega) (by omega);have h2:(a*256 ||| b)=a*256+b:=by
  have:=Nat.shiftLeft_add_eq_or_of_lt (i:=8) (b:=b) (by omega) a;rw[Nat.shiftLeft_eq] at this;exact this.symm
 rw[h2] at h1;rw[<-h1,Int.natCast_mul];rfl
theorem by4_get (s:ByteArray) (q:Nat) (h:q<s.size):by4 s.data.toList q=s[q].toNat:=by
 unfold by4;rw[List.getD_eq_getElem?_getD,List.getElem?_eq_getElem (show q<s.data.toList.length from h)];rfl
set_option maxHeartbeats 3200000 in
set_option maxRecDepth 100000 in
theorem unfix_any (s:ByteArray) (p:Nat) (w:World) (h:p+4<=s.size) (hs:s.size<=1000000000) :
  Calls Tryz.prog 128 #[.string s,.int .i64 (p:Int),.int .i64 4] w fun e w'=>e=.returned (.tuple #[.int .i64 (u4 s.data.toList p:Int),.int .i64 ((p+4:Nat):Int),.int .i64 0])/\w=w':=by
 have mixed:Tryz.prog.follows .mixedOrders=true:=by kernel_rfl
 have h1: ¬ (p:Int)<0:=by omega
 have h2: ¬ (s.size:Int)<(p:Int):=by omega
 have h3: ¬ (s.size:Int)-(p:Int)<4:=by omega
 have h4:IntKind.i64.wrap ((s.size:Int)-(p:Int))=(s.size:Int)-(p:Int):=by rw[IntKind.wrap_i64];omega
 have hu4:=u4_lt s.data.toList p
 go_enter Tryz.func128, Tryz.ntmps128
 go_wp2_with fail
 clear h1 h2 h3 h4;go_loopg [9,10] 4 (fun kx s9 s10 wr=>∃(i u:Nat),s10=.int .i64 ((i:Int)-1)/\s9=.int .u64 (u:Int)/\i<=4/\i<=kx/\Hid (u=upto s.data.toList p (4-i))/\w=wr)
 case atStart=>exact⟨4,0,rfl,rfl,by omega,by omega,Lib.hid rfl,rfl⟩
 case round =>
  obtain⟨i,u,rfl,rfl,hi,hix,HU,rfl⟩:=hrel;rcases i with _|j
  ·have hU:=HU.out
   rw[Nat.sub_zero,upto_4] at hU;subst hU;have h5:(u4 s.data.toList p:Int)/9223372036854775808=0:=by omega
   have h6:IntKind.i64.wrap (u4 s.data.toList p:Int)=(u4 s.data.toList p:Int):=by rw[IntKind.wrap_i64];omega
   have h7:IntKind.i64.wrap ((p:Int)+4)=(p:Int)+4:=by rw[IntKind.wrap_i64];omega
   clear HU;go_wp2_with fail
   go_ret3
   exact⟨by go_num,rfl⟩
  ·have hlo:=(upto_lt s.data.toList p (4-(j+1)) (by omega)).2 (by omega)
   rw[<-HU.out] at hlo;have hq:p+j<s.size:=by omega
   have hb:=by4_get s (p+j) hq;have hor:=shl8 u (by4 s.data.toList (p+j)) hlo (by4_lt _ _);have HU2:=Lib.hid (show u*256+by4 s.data.toList (p+j)=upto s.data.toList p (4-j) by
    rw[show 4-j=(4-(j+1))+1 by omega,upto,<-HU.out,show p+(3-(4-(j+1)))=p+j by omega])
   rw[hb] at hor HU2;have e1:((j+1:Nat):Int)-1=(j:Int):=by omega
   rw[e1];have e2:IntKind.i64.wrap ((p:Int)+(j:Int))=((p+j:Nat):Int):=by rw[IntKind.wrap_i64];omega
   have e3:IntKind.u64.wrap ((u:Int)*256)=(u:Int)*256:=by rw[IntKind.wrap_u64];omega
   have e7:IntKind.u64.wrap (s[p+j].toNat:Int)=(s[p+j].toNat:Int):=by rw[IntKind.wrap_u64];have:=s[p+j].toNat_lt;omega
   have e4:((p+j:Nat):Int)<(s.size:Int):=by omega
   have e5:0<=(p:Int)+(j:Int):=by omega
   have e6:(p:Int)+(j:Int)<(s.size:Int):=by omega
   clear e1 hb HU;go_wp2_with fail
   go_roundg j
   case measure=>omega
   case rel=>exact⟨j,u*256+s[p+j].toNat,by go_num,by go_num,by omega,by omega,HU2,rfl⟩
end Fm
end Go.Proofs.YtlnbjikooadmoaaGreat
namespace Go.Proofs.YtlnbjikooadmoaaGreat
namespace Fm
open Go.RowKit Cr
theorem known_yes (k:Nat) (w:World) (h:1<=k/\k<=4):Calls Tryz.prog 120 #[.int .i64 (k:Int)] w fun e w'=>e=.returned (.bool true)/\w=w':=by
 have h1:(1:Int)<=(k:Int):=by omega
 have h2:(k:Int)<=4:=by omega
 go_enter Tryz.func120, Tryz.ntmps120
 go_wp2_with fail
 go_ret
 exact⟨rfl,rfl⟩
theorem known_no (k:Nat) (w:World) (h: ¬ (1<=k/\k<=4)):Calls Tryz.prog 120 #[.int .i64 (k:Int)] w fun e w'=>e=.returned (.bool false)/\w=w':=by
 by_cases h1:(1:Int)<=(k:Int)
 ·have h2: ¬ (k:Int)<=4:=by omega
  go_enter Tryz.func120, Tryz.ntmps120
  go_wp2_with fail
  go_ret
  exact⟨rfl,rfl⟩
 ·go_enter Tryz.func120, Tryz.ntmps120
  go_wp2_with fail
  go_ret
  exact⟨rfl,rfl⟩
def fagg (k:Nat) (b:ByteArray) (p t:Nat):Value:=.agg #[.int .i64 (k:Int),.string b,.int .i64 (p:Int),.int .i64 (t:Int)]
def Fb (w:World) (g:Nat) (k:Int) (b:ByteArray) (p t:Int):Prop:=w.heap[g]? =some (.cells #[.int .i64 k,.string b,.int .i64 p,.int .i64 t] 92 (0,0))
section
variable {w w':World} {g:Nat} {k p t:Int} {b:ByteArray} (h:Fb w g k b p t)
include h
theorem Fb.lt:g<w.heap.size:=(Array.getElem?_eq_some_iff.1 h).1
theorem Fb.c0:w.cell? ⟨g,0,none⟩=some (.int .i64 k):=by rw[cell_of_row w g 0 _ _ (0,0) h];rfl
theorem Fb.c1:w.cell? ⟨g,1,none⟩=some (.string b):=by rw[cell_of_row w g 1 _ _ (0,0) h];rfl
theorem Fb.c2:w.cell? ⟨g,2,none⟩=some (.int .i64 p):=by rw[cell_of_row w g 2 _ _ (0,0) h];rfl
theorem Fb.c3:w.cell? ⟨g,3,none⟩=some (.int .i64 t):=by rw[cell_of_row w g 3 _ _ (0,0) h];rfl
theorem Fb.fz (j:Nat):w.frozen? ⟨g,j,none⟩=false:=frozen_of_row w g j _ _ h
theorem Fb.below {B:Nat} (hk:Below B w w') (hb:g<B):Fb w' g k b p t:=(hk.block g hb).trans h
theorem Fb.set1 (x:ByteArray):Fb (w.setCell ⟨g,1,none⟩ (.string x)) g k x p t:=by
 unfold Fb at *;simp[World.setCell,Array.getElem?_modify,h]
theorem Fb.set2 (x:Int):Fb (w.setCell ⟨g,2,none⟩ (.int .i64 x)) g k b x t:=by
 unfold Fb at *;simp[World.setCell,Array.getElem?_modify,h]
theorem Fb.set3 (x:Int):Fb (w.setCell ⟨g,3,none⟩ (.int .i64 x)) g k b p x:=by
 unfold Fb at *;simp[World.setCell,Array.getElem?_modify,h]
end
theorem Fb.new (w:World):Fb (w.alloc (.cells #[.int .i64 0,.string ⟨#[]⟩,.int .i64 0,.int .i64 0] 92)) w.heap.size 0 ⟨#[]⟩ 0 0:=heap_alloc_new w _
theorem below_fill4 {w w':World} {b B:Nat} {v0 v1 v2 v3:Value} (h:Below B w w') (hb:B<=b):Below B w ((((w'.setCell ⟨b,0,none⟩ v0).setCell ⟨b,1,none⟩ v1).setCell ⟨b,2,none⟩ v2).setCell ⟨b,3,none⟩ v3) :=
 (((h.setCell (p:=⟨b,0,none⟩) hb v0).setCell (p:=⟨b,1,none⟩) hb v1).setCell (p:=⟨b,2,none⟩) hb v2).setCell (p:=⟨b,3,none⟩) hb v3
def GF (s:ByteArray) (p:Nat):Prop :=
 p+5<=s.size/\(1<=by4 s.data.toList p/\by4 s.data.toList p<=4)/\u4 s.data.toList (p+1)<=60000/\p+9+u4 s.data.toList (p+1)<=s.size /\
  crc (s.extract p (p+5+u4 s.data.toList (p+1))).data.toList=u4 s.data.toList (p+5+u4 s.data.toList (p+1))
instance (s:ByteArray) (p:Nat):Decidable (GF s p):=by unfold GF;infer_instance
def fn (s:ByteArray) (p:Nat):Nat:=u4 s.data.toList (p+1)
def fbody (s:ByteArray) (p:Nat):ByteArray:=s.extract (p+5) (p+5+fn s p)
def fto (s:ByteArray) (p:Nat):Nat:=p+5+fn s p+4
def FrAns (s:ByteArray) (p:Nat) (e:Ending):Prop :=
 (GF s p/\e=.returned (.tuple #[fagg (by4 s.data.toList p) (fbody s p) p (fto s p),.int .i64 0]))∨(¬ GF s p/\ ∃x:Int,x≠0/\e=.returned (.tuple #[fagg 0 ⟨#[]⟩ 0 0,.int .i64 x]))
set_option maxHeartbeats 6400000 in
set_option maxRecDepth 100000 in
theorem get_any (g:Nat) (s:ByteArray) (p:Nat) (w:World) (ht:Au w g (n256 tb)) (hs:s.size<=1000000) (hp:p<=2000000) :
  Calls Tryz.prog 94 #[.pointer (some ⟨g,0,none⟩),.string s,.int .i64 (p:Int)] w fun e w'=>FrAns s p e/\Below w.heap.size w w':=by
 have mixed:Tryz.prog.follows .mixedOrders=true:=by kernel_rfl
 have HB0:=Lib.hid (ext_alloc w (.cells #[.int .i64 0,.string ⟨#[]⟩,.int .i64 0,.int .i64 0] 92));have q0: ¬ (p:Int)<0:=by omega
 by_cases h1:(s.size:Int)<(p:Int)
 ·have HN:=Lib.hid (show ¬ GF s p from fun h=>by have:=h.1;omega)
  go_enter Tryz.func94, Tryz.ntmps94
  go_wp2_with fail
  refine bodyPost_ret (v:=.tuple #[fagg 0 ⟨#[]⟩ 0 0,.int .i64 2]) (by simp[results,go_sem,fagg]) rfl ?_;exact⟨.inr ⟨HN.out,2,by omega,rfl⟩,HB0.out⟩
 have h2:IntKind.i64.wrap ((s.size:Int)-(p:Int))=(s.size:Int)-(p:Int):=by rw[IntKind.wrap_i64];omega
 by_cases h3:(s.size:Int)-(p:Int)<5
 ·have HN:=Lib.hid (show ¬ GF s p from fun h=>by have:=h.1;omega)
  go_enter Tryz.func94, Tryz.ntmps94
  go_wp2_with fail
  refine bodyPost_ret (v:=.tuple #[fagg 0 ⟨#[]⟩ 0 0,.int .i64 4]) (by simp[results,go_sem,fagg]) rfl ?_;exact⟨.inr ⟨HN.out,4,by omega,rfl⟩,HB0.out⟩
 have h4:IntKind.i64.wrap ((p:Int)+1)=((p+1:Nat):Int):=by rw[IntKind.wrap_i64];omega
 have HU1:=Lib.hid (unfix_any s (p+1) (w.alloc (.cells #[.int .i64 0,.string ⟨#[]⟩,.int .i64 0,.int .i64 0] 92)) (by omega) (by omega));have hps:p<s.size:=by omega
 have hps2:(p:Int)<(s.size:Int):=by omega
 have hk8:=by4_get s p hps;have h64:wrap64 (s[p].toNat:Int)=(s[p].toNat:Int):=by have:=s[p].toNat_lt;unfold wrap64;omega
 have hfn:=u4_lt s.data.toList (p+1);have HFN:=Lib.hid (show fn s p=u4 s.data.toList (p+1) from rfl);rw[<-HFN.out] at HU1 hfn;by_cases h5:1<=by4 s.data.toList p/\by4 s.data.toList p<=4
 ·have HK:=Lib.hid (known_yes (by4 s.data.toList p) (w.alloc (.cells #[.int .i64 0,.string ⟨#[]⟩,.int .i64 0,.int .i64 0] 92)) h5)
  rw[hk8] at HK;by_cases h6:(60000:Int)<(fn s p:Int)
  ·have HN:=Lib.hid (show ¬ GF s p from fun h=>by have:=h.2.2.1;rw[<-HFN.out] at this;omega)
   clear h5 hk8;generalize fn s p=N at *
   go_enter Tryz.func94, Tryz.ntmps94
   go_wp2_with fail
   refine HU1.out.mono ?_;rintro e1 w1 ⟨rfl,rfl⟩;go_wp2_with fail
   refine HK.out.mono ?_;rintro e1 w1 ⟨rfl,rfl⟩;go_wp2_with fail
   refine bodyPost_ret (v:=.tuple #[fagg 0 ⟨#[]⟩ 0 0,.int .i64 3]) (by simp[results,go_sem,fagg]) rfl ?_;exact⟨.inr ⟨HN.out,3,by omega,rfl⟩,HB0.out⟩
  have h7:IntKind.i64.wrap ((s.size:Int)-(p:Int)-5)=(s.size:Int)-(p:Int)-5:=by rw[IntKind.wrap_i64];omega
  have h8:IntKind.i64.wrap ((s.size:Int)-(p:Int)-5-4)=(s.size:Int)-(p:Int)-5-4:=by rw[IntKind.wrap_i64];omega
  by_cases h9:(s.size:Int)-(p:Int)-5-4<(fn s p:Int)
  ·have HN:=Lib.hid (show ¬ GF s p from fun h=>by have:=h.2.2.2.1;rw[<-HFN.out] at this;omega)
   clear h5 hk8;generalize fn s p=N at *
   go_enter Tryz.func94, Tryz.ntmps94
   go_wp2_with fail
   refine HU1.out.mono ?_;rintro e1 w1 ⟨rfl,rfl⟩;go_wp2_with fail
   refine HK.out.mono ?_;rintro e1 w1 ⟨rfl,rfl⟩;go_wp2_with fail
   refine bodyPost_ret (v:=.tuple #[fagg 0 ⟨#[]⟩ 0 0,.int .i64 4]) (by simp[results,go_sem,fagg]) rfl ?_;exact⟨.inr ⟨HN.out,4,by omega,rfl⟩,HB0.out⟩
  have h10:IntKind.i64.wrap ((p:Int)+1+4+(fn s p:Int))=((p+5+fn s p:Nat):Int):=by rw[IntKind.wrap_i64];omega
  have HU2:=Lib.hid (unfix_any s (p+5+fn s p) (w.alloc (.cells #[.int .i64 0,.string ⟨#[]⟩,.int .i64 0,.int .i64 0] 92)) (by omega) (by omega));have hq:=u4_lt s.data.toList (p+5+fn s p);have HQ:=Lib.hid (show GF s p↔crc (s.extract p (p+5+fn s p)).data.toList=u4 s.data.toList (p+5+fn s p) from
   ⟨fun h=>h.2.2.2.2,fun h=>⟨by omega,h5,by rw[<-HFN.out];omega,by rw[<-HFN.out];omega,h⟩⟩)
  have htw:=ht.below HB0.out ht.lt;have HLEN:=Lib.hid (show(vu (n256 tb)).length=256 by rw[length_vu,length_n256]);have HTR:=Lib.hid (fun(wx:World) (hb:Below (w.heap.size+1) (w.alloc (.cells #[.int .i64 0,.string ⟨#[]⟩,.int .i64 0,.int .i64 0] 92)) wx)=>(htw.below hb (by have:=ht.lt;omega)).range);have HCR:=Lib.hid (fun(wx:World)=>of_any (s.extract p (p+5+fn s p)) wx (by rw[ByteArray.size_extract];omega));have HTB:=Lib.hid (show TB=(vu (n256 tb)).toArray from rfl);rw[HTB.out] at HCR;have HF0:=Lib.hid (Fb.new w);have HSZ:=Lib.hid (show(w.alloc (.cells #[.int .i64 0,.string ⟨#[]⟩,.int .i64 0,.int .i64 0] 92)).heap.size=w.heap.size+1 by simp);have e1:0<=(p:Int):=by omega
  have e2:(p:Int)<=((p+5+fn s p:Nat):Int):=by omega
  have e3:((p+5+fn s p:Nat):Int)<=(s.size:Int):=by omega
  have e4:(p:Int)<=(p:Int)+5+(fn s p:Int):=by omega
  have e5:(p:Int)+5+(fn s p:Int)<=(s.size:Int):=by omega
  have e6:(p:Int)+1+4<=(p:Int)+5+(fn s p:Int):=by omega
  have e7:0<=(p:Int)+1+4:=by omega
  have HBD:=Lib.hid (show fbody s p=s.extract (p+5) (p+5+fn s p)/\fto s p=p+5+fn s p+4 from⟨rfl,rfl⟩);clear h5 htw;generalize vu (n256 tb)=Z at *
  generalize hcr:crc (s.extract p (p+5+fn s p)).data.toList=C at *
  have hC:C<4294967296:=hcr▸crc_lt _;clear hcr;generalize u4 s.data.toList (p+5+fn s p)=V at *
  generalize fn s p=N at *
  by_cases hCV:C=V
  ·subst hCV
   have hbb:((C:Int) != (C:Int))=false:=by simp
   have h64c:IntKind.i64.wrap (C:Int)=(C:Int):=by rw[IntKind.wrap_i64];omega
   go_enter Tryz.func94, Tryz.ntmps94
   go_wp2_with fail
   refine HU1.out.mono ?_;rintro e1 w1 ⟨rfl,rfl⟩;go_wp2_with fail
   refine HK.out.mono ?_;rintro e1 w1 ⟨rfl,rfl⟩;go_wp2_with fail
   refine HU2.out.mono ?_;rintro e1 w1 ⟨rfl,rfl⟩;have HS0:=Lib.hid (And.intro (HTR.out (w.alloc (.cells #[.int .i64 0,.string ⟨#[]⟩,.int .i64 0,.int .i64 0] 92)).drew ⟨rfl,rfl,rfl,Nat.le_refl _,fun _ _=>rfl⟩) (show Below (w.heap.size+1) (w.alloc (.cells #[.int .i64 0,.string ⟨#[]⟩,.int .i64 0,.int .i64 0] 92)) (w.alloc (.cells #[.int .i64 0,.string ⟨#[]⟩,.int .i64 0,.int .i64 0] 92)).drew from⟨rfl,rfl,rfl,Nat.le_refl _,fun _ _=>rfl⟩));go_wp2_with fail
   generalize w.alloc (.cells #[.int .i64 0,.string ⟨#[]⟩,.int .i64 0,.int .i64 0] 92)=w1 at *
   have HUD:=Lib.hid Tryz.underlying151;have hlz:(Tryz.prog.info? 151).map (·.size)=some Z.length:=by rw[HLEN.out];kernel_rfl
   have hud:=Tryz.underlying151;go_region_held3 (fun wx=>wx.rangeAt g 0 Z/\Below (w.heap.size+1) w1 wx) (first|exact HS0.out|assumption) (first
    |(go_at_call 122;refine(HCR.out _).mono ?_;rintro e2 w2 ⟨rfl,hb2⟩;have hB2:=HS0.out.2.trans (hb2.mono (by have:=HS0.out.2.size;have:=HSZ.out;simp at *;omega));have hS2:=And.intro (HTR.out _ hB2) hB2))
   have hR:=HF0.out.below hS2.2 (by omega);have HR:=Lib.hid hR;have HBE:=Lib.hid (HB0.out.trans (hS2.2.mono (by omega)));have r0:=hR.c0;have r1:=hR.c1;have r2:=hR.c2;have r3:=hR.c3;have f0:=hR.fz 0;have f1:=hR.fz 1;have f2:=hR.fz 2;have f3:=hR.fz 3;clear hR hS2 hB2 hb2 hlz hud;go_wp2_with fail
   go_region_held3 (fun _=>True) (trivial) (fail)
   go_wp2_with fail
   have t1:IntKind.i64.wrap (s[p].toNat:Int)=(s[p].toNat:Int):=by rw[IntKind.wrap_i64];have:=s[p].toNat_lt;omega
   have t2:((p:Int)+1+4).toNat=p+5:=by omega
   have t3:((p:Int)+5+(N:Int)).toNat=p+5+N:=by omega
   refine bodyPost_ret (v:=.tuple #[fagg s[p].toNat (s.extract (p+5) (p+5+N)) p (p+5+N+4),.int .i64 0]) (by simp[results,go_sem,r0,r1,r2,r3,fagg,t1,t2,t3]) rfl ?_;exact⟨.inl ⟨HQ.out.2 trivial,by rw[hk8,HBD.out.1,HBD.out.2]⟩,below_drewN (below_fill4 HBE.out (Nat.le_refl _)) 1⟩
  ·have hne: ¬ (C:Int)=(V:Int):=by omega
   have hbb:((C:Int) != (V:Int))=true:=by simp;omega
   have h64c:IntKind.i64.wrap (C:Int)=(C:Int):=by rw[IntKind.wrap_i64];omega
   go_enter Tryz.func94, Tryz.ntmps94
   go_wp2_with fail
   refine HU1.out.mono ?_;rintro e1 w1 ⟨rfl,rfl⟩;go_wp2_with fail
   refine HK.out.mono ?_;rintro e1 w1 ⟨rfl,rfl⟩;go_wp2_with fail
   refine HU2.out.mono ?_;rintro e1 w1 ⟨rfl,rfl⟩;have HS0:=Lib.hid (And.intro (HTR.out (w.alloc (.cells #[.int .i64 0,.string ⟨#[]⟩,.int .i64 0,.int .i64 0] 92)).drew ⟨rfl,rfl,rfl,Nat.le_refl _,fun _ _=>rfl⟩) (show Below (w.heap.size+1) (w.alloc (.cells #[.int .i64 0,.string ⟨#[]⟩,.int .i64 0,.int .i64 0] 92)) (w.alloc (.cells #[.int .i64 0,.string ⟨#[]⟩,.int .i64 0,.int .i64 0] 92)).drew from⟨rfl,rfl,rfl,Nat.le_refl _,fun _ _=>rfl⟩));go_wp2_with fail
   generalize w.alloc (.cells #[.int .i64 0,.string ⟨#[]⟩,.int .i64 0,.int .i64 0] 92)=w1 at *
   have HUD:=Lib.hid Tryz.underlying151;have hlz:(Tryz.prog.info? 151).map (·.size)=some Z.length:=by rw[HLEN.out];kernel_rfl
   have hud:=Tryz.underlying151;go_region_held3 (fun wx=>wx.rangeAt g 0 Z/\Below (w.heap.size+1) w1 wx) (first|exact HS0.out|assumption) (first
    |(go_at_call 122;refine(HCR.out _).mono ?_;rintro e2 w2 ⟨rfl,hb2⟩;have hB2:=HS0.out.2.trans (hb2.mono (by have:=HS0.out.2.size;have:=HSZ.out;simp at *;omega));have hS2:=And.intro (HTR.out _ hB2) hB2))
   have hR:=HF0.out.below hS2.2 (by omega);have HR:=Lib.hid hR;have HBE:=Lib.hid (HB0.out.trans (hS2.2.mono (by omega)));have r0:=hR.c0;have r1:=hR.c1;have r2:=hR.c2;have r3:=hR.c3;have f0:=hR.fz 0;have f1:=hR.fz 1;have f2:=hR.fz 2;have f3:=hR.fz 3;clear hR hS2 hB2 hb2 hlz hud;go_wp2_with fail
   refine bodyPost_ret (v:=.tuple #[fagg 0 ⟨#[]⟩ 0 0,.int .i64 7]) (by simp[results,go_sem,r0,r1,r2,r3,fagg]) rfl ?_;exact⟨.inr ⟨fun h=>hCV (HQ.out.1 h),7,by omega,rfl⟩,below_fill4 HBE.out (Nat.le_refl _)⟩
 ·have HN:=Lib.hid (show ¬ GF s p from fun h=>h5 h.2.1)
  have HK:=Lib.hid (known_no (by4 s.data.toList p) (w.alloc (.cells #[.int .i64 0,.string ⟨#[]⟩,.int .i64 0,.int .i64 0] 92)) h5);rw[hk8] at HK;clear h5 hk8;generalize fn s p=N at *
  go_enter Tryz.func94, Tryz.ntmps94
  go_wp2_with fail
  refine HU1.out.mono ?_;rintro e1 w1 ⟨rfl,rfl⟩;go_wp2_with fail
  refine HK.out.mono ?_;rintro e1 w1 ⟨rfl,rfl⟩;go_wp2_with fail
  refine bodyPost_ret (v:=.tuple #[fagg 0 ⟨#[]⟩ 0 0,.int .i64 160]) (by simp[results,go_sem,fagg]) rfl ?_;exact⟨.inr ⟨HN.out,160,by omega,rfl⟩,HB0.out⟩
end Fm
end Go.Proofs.YtlnbjikooadmoaaGreat
namespace Go.Proofs.YtlnbjikooadmoaaGreat
namespace Fm
open Go.RowKit Cr
def frA (k:UInt8) (b:ByteArray):ByteArray:=⟨#[k]⟩++⟨(le 4 b.size).toArray⟩++b
def frB (k:UInt8) (b:ByteArray):ByteArray:=frA k b++⟨(le 4 (crc (frA k b).data.toList)).toArray⟩
theorem size_frA (k:UInt8) (b:ByteArray):(frA k b).size=b.size+5:=by
 unfold frA;rw[ByteArray.size_append,ByteArray.size_append];show 1+(le 4 b.size).toArray.size+b.size=_
 rw[List.size_toArray,length_le];omega
set_option maxHeartbeats 3200000 in
set_option maxRecDepth 100000 in
theorem put_any (k:UInt8) (b:ByteArray) (w:World) (hk:1<=k.toNat/\k.toNat<=4) (hb:b.size<=60000) :
  Calls Tryz.prog 85 #[.int .i64 (k.toNat:Int),.string b] w fun e w'=>e=.returned (.tuple #[.string (frB k b),.int .i64 0])/\Below w.heap.size w w':=by
 have mixed:Tryz.prog.follows .mixedOrders=true:=by kernel_rfl
 have HK:=Lib.hid (known_yes k.toNat w hk);have HF:=Lib.hid (fix_any b.size w (by omega));have q1: ¬ (60000:Int)<(b.size:Int):=by omega
 have q2:(k.toNat:Int)%256=(k.toNat:Int):=by omega
 go_enter Tryz.func85, Tryz.ntmps85
 go_wp2_with fail
 refine HK.out.mono ?_;rintro e1 w1 ⟨rfl,rfl⟩;go_wp2_with fail
 refine HF.out.mono ?_;rintro e2 w2 ⟨rfl,hb2⟩;have hrd:Rd (w2.alloc (.cells #[.int .u8 (k.toNat:Int)] 5)) (w2.alloc (.cells #[.int .u8 (k.toNat:Int)] 5)).heap.size 1 (some ⟨w2.heap.size,0,none⟩) 1 (bv [k]):=Rd.of_own (World.ownsRow_lit (base:=w2.heap.size) (e:=5) (size:=1) w2 #[.int .u8 (k.toNat:Int)] 1 (Nat.le_refl _) (by simp[maxLen]) rfl);have hs:=run_str (l:=[k]) (c:=1) hrd;have HW2:=Lib.hid (hb2.trans ((ext_alloc w2 (.cells #[.int .u8 (k.toNat:Int)] 5)).mono hb2.size));have hl1: ¬ 9223372036854775807<1+(le 4 b.size).length:=by rw[length_le];omega
 have hl2: ¬ 9223372036854775807<1+(le 4 b.size).length+b.size:=by rw[length_le];omega
 have HA:=Lib.hid (show({ data:=#[k] }:ByteArray)++{ data:=(le 4 b.size).toArray }++b=frA k b from rfl);have HOF:=Lib.hid (fun(wx:World)=>of_any (frA k b) wx (by rw[size_frA];omega));have HFX:=Lib.hid (fun(wx:World)=>fix_any (crc (frA k b).data.toList) wx (crc_lt _));have HTA:=Lib.hid (table_any (w2.alloc (.cells #[.int .u8 (k.toNat:Int)] 5)));have hc:=crc_lt (frA k b).data.toList;have HB:=Lib.hid (show frB k b=frA k b++⟨(le 4 (crc (frA k b).data.toList)).toArray⟩ from rfl);have hsz:=size_frA k b;clear hb2 hrd;generalize crc (frA k b).data.toList=C at *
 have h64:IntKind.i64.wrap (C:Int)=(C:Int):=by rw[IntKind.wrap_i64];omega
 go_wp2_with fail
 rw[HA.out];generalize frA k b=F at *
 refine HTA.out.mono ?_;rintro e3 w3 ⟨rfl,hb3⟩;have HW3:=Lib.hid (HW2.out.trans (hb3.mono HW2.out.size));clear hb3 hs hl1 hl2;go_wp2_with fail
 refine(HOF.out w3).mono ?_;rintro e4 w4 ⟨rfl,hb4⟩;have HW4:=Lib.hid (HW3.out.trans (hb4.mono HW3.out.size));clear hb4;go_wp2_with fail
 refine(HFX.out w4).mono ?_;rintro e5 w5 ⟨rfl,hb5⟩;have HW5:=Lib.hid (HW4.out.trans (hb5.mono HW4.out.size));have hl3: ¬ 9223372036854775807<F.size+(le 4 C).length:=by rw[length_le];omega
 clear hb5;go_wp2_with fail
 go_ret2
 exact⟨by rw[HB.out];rfl,HW5.out⟩
end Fm
end Go.Proofs.YtlnbjikooadmoaaGreat
namespace Go.Proofs.YtlnbjikooadmoaaGreat
namespace Dk
open Go.RowKit Hd Fm
section
variable {w w':World} {S:Nat->Prop} {bd gN gS:Nat} {v:Value} {D:DS}
set_option maxHeartbeats 3200000 in
set_option maxRecDepth 100000 in
theorem ssync_go (h:DiskAt w S bd D) {i g f:Int} {s:ByteArray} {b:Nat} {p:ByteArray×ByteArray} (ho:D.off=false) (hl:lk s D.now=some b) (hp:D.fl b=some p) :
  Calls Tryz.prog 53 #[.agg (sgc bd i g f s)] w fun e w'=>e=.returned (.int .i64 (opE D))/\ ∃S',DiskAt w' S' bd (opS true (setF b (p.2,p.2)) D)/\Gr S w S' w':=by
 have HS:=Lib.hid (sync_go (h.ext (ext_alloc w (.cells (sgc bd i g f s) 77))) ho hl hp);have HG:=Lib.hid (Gr.alloc (S:=S) (w:=w) (.cells (sgc bd i g f s) 77));clear h ho hl hp;unfold sgc at *
 go_enter Tryz.func53, Tryz.ntmps53
 go_wp2_with (go_at_call 64;refine HS.out.mono ?_;rintro e5 w5 ⟨rfl,S5,hD5,hG5⟩;have HD5:=Lib.hid hD5;have HG5:=Lib.hid hG5;clear hD5 hG5)
 go_ret
 exact⟨rfl,S5,HD5.out,HG.out.trans HG5.out⟩
set_option maxHeartbeats 3200000 in
set_option maxRecDepth 100000 in
theorem sput_go (h:DiskAt w S bd D) {i g f:Int} {s body:ByteArray} {k:UInt8} {b:Nat} {p:ByteArray×ByteArray} (ho:D.off=false) (hl:lk s D.now=some b) (hp:D.fl b=some p) (hk:1<=k.toNat/\k.toNat<=4) (hb:body.size<=60000)
  (h1:p.2.size+(body.size+9)<=1000000) (h2:(body.size:Int)+9+(usedD D:Int)<=D.cap) :
  Calls Tryz.prog 37 #[.agg (sgc bd i g f s),.int .i64 (k.toNat:Int),.string body] w fun e w'=>e=.returned (.int .i64 (opE D))/\ ∃S',DiskAt w' S' bd (opS false (setF b (p.1,p.2++frB k body)) D)/\Gr S w S' w':=by
 have hsz:(frB k body).size=body.size+9:=by
  unfold frB;rw[ByteArray.size_append,size_frA];show _+(le 4 _).toArray.size=_
  rw[List.size_toArray,length_le]
 have HP:=Lib.hid (fun w=>put_any k body w hk hb);have HS:=Lib.hid (show ∀wx,DiskAt wx S bd D->Calls Tryz.prog 28 #[.pointer (some ⟨bd,0,none⟩),.string s,.string (frB k body)] wx fun e w'=>e=.returned (.int .i64 (opE D))/\ ∃S',DiskAt w' S' bd (opS false (setF b (p.1,p.2++frB k body)) D)/\Gr S wx S' w' from
  fun wx hx=>append_go hx ho hl hp (by rw[hsz];exact h1) (by rw[hsz];push_cast;omega))
 have HD:=Lib.hid (fun w1 hb=>h.ext (w':=w1) hb);clear h ho hl hp h1 h2 hk hb hsz;unfold sgc;generalize frB k body=F at *
 have B0:=Blk.new w #[.pointer (some ⟨bd,0,none⟩),.int .i64 i,.int .i64 g,.int .i64 f,.string s] 77;have B2:=ext_alloc w (.cells #[.pointer (some ⟨bd,0,none⟩),.int .i64 i,.int .i64 g,.int .i64 f,.string s] 77)
 go_enter Tryz.func37, Tryz.ntmps37
 go_wp2_with (first
  |(go_at_call 85;refine(HP.out _).mono ?_;rintro e1 w1 ⟨rfl,hb1⟩;have HB1:=Lib.hid (B0.ext hb1);have HW1:=Lib.hid (B2.trans (hb1.mono B2.size));clear hb1 B0 B2;have k0:=HB1.out.cell 0 (v:=.pointer (some ⟨bd,0,none⟩)) rfl;have k4:=HB1.out.cell 4 (v:=.string s) rfl)
  |(go_at_call 28;refine(HS.out _ (HD.out _ HW1.out)).mono ?_;rintro e5 w5 ⟨rfl,S5,hD5,hG5⟩;have HD5:=Lib.hid hD5;have HG5:=Lib.hid hG5;clear hD5 hG5))
 go_ret
 exact⟨rfl,S5,HD5.out,(Gr.of_below HW1.out).trans HG5.out⟩
end
end Dk
end Go.Proofs.YtlnbjikooadmoaaGreat
namespace Go.Proofs
open Go.Shelf
def Tryz.lays170_ren:Go.Shelf.Ren:=⟨fun|170=>70|n=>n,fun|70=>118|3=>3|0=>0|72=>120|37=>96|5=>5|n=>n,fun|n=>n⟩
theorem Tryz.lays170:Go.Proofs.Lays.n170 Tryz.prog Tryz.lays170_ren:={
 mixed:=by kernel_rfl
 f170:=Tryz.func70.trans (congrArg some (by kernel_rfl))
 t0:=Tryz.underlying0
 a0:=Tryz.isAgg0
 z0:=Tryz.sizeOf0
 v0:=Tryz.zeroValue0
 t3:=Tryz.underlying3
 a3:=Tryz.isAgg3
 z3:=Tryz.sizeOf3
 v3:=Tryz.zeroValue3
 t37:=Tryz.underlying96
 a37:=Tryz.isAgg96
 z37:=Tryz.sizeOf96
 v37:=Tryz.zeroValue96
 t70:=Tryz.underlying118
 a70:=Tryz.isAgg118
 z70:=Tryz.sizeOf118
 v70:=Tryz.zeroValue118
 t72:=Tryz.underlying120
 a72:=Tryz.isAgg120
 z72:=Tryz.sizeOf120
 v72:=Tryz.zeroValue120 }
open Go.RowKit in
theorem Tryz.Builder_Len (B b:Nat) (bs:List Value) (w:World) (h:Lib.IsBuilder 120 5 B b bs w) :
  Calls Tryz.prog 70 #[.pointer (some ⟨b,0,none⟩)] w fun e w'=>e=.returned (.int .i64 bs.length)/\w'=w:=Any.Builder_Len Tryz.lays170 B b bs w h
def Tryz.lays169_ren:Go.Shelf.Ren:=⟨fun|169=>72|n=>n,fun|70=>118|9=>9|0=>0|72=>120|37=>96|127=>170|3=>3|5=>5|n=>n,fun|n=>n⟩
theorem Tryz.lays169:Go.Proofs.Lays.n169 Tryz.prog Tryz.lays169_ren:={
 mixed:=by kernel_rfl
 f169:=Tryz.func72.trans (congrArg some (by kernel_rfl))
 t0:=Tryz.underlying0
 a0:=Tryz.isAgg0
 z0:=Tryz.sizeOf0
 v0:=Tryz.zeroValue0
 t3:=Tryz.underlying3
 a3:=Tryz.isAgg3
 z3:=Tryz.sizeOf3
 v3:=Tryz.zeroValue3
 t9:=Tryz.underlying9
 a9:=Tryz.isAgg9
 z9:=Tryz.sizeOf9
 v9:=Tryz.zeroValue9
 t37:=Tryz.underlying96
 a37:=Tryz.isAgg96
 z37:=Tryz.sizeOf96
 v37:=Tryz.zeroValue96
 t70:=Tryz.underlying118
 a70:=Tryz.isAgg118
 z70:=Tryz.sizeOf118
 v70:=Tryz.zeroValue118
 t72:=Tryz.underlying120
 a72:=Tryz.isAgg120
 z72:=Tryz.sizeOf120
 v72:=Tryz.zeroValue120
 t127:=Tryz.underlying170
 a127:=Tryz.isAgg170
 z127:=Tryz.sizeOf170
 v127:=Tryz.zeroValue170 }
theorem Tryz.Builder_Extra_169:Builder.Extra Tryz.prog Tryz.lays169_ren:={
 sizeBuilder:=by kernel_rfl
 liesBuilder:=by kernel_rfl
 t5:=Tryz.underlying5
 a5:=Tryz.isAgg5
 z5:=Tryz.sizeOf5
 v5:=Tryz.zeroValue5
 infoByte:=by kernel_rfl
 cellsByte:=by kernel_rfl
 sizeByte:=by kernel_rfl
 neB5:=by decide }
open Go.RowKit in
theorem Tryz.Builder_String_any (B b:Nat) (l:List UInt8) (w:World) (h:Lib.IsBuilder 120 5 B b (Lib.byteCells l) w) (hBw:B<=w.heap.size) :
  Calls Tryz.prog 72 #[.pointer (some ⟨b,0,none⟩)] w fun e w'=>e=.returned (.string ⟨l.toArray⟩)/\Below B w w':=Any.Builder_String_any Tryz.lays169 Tryz.Builder_Extra_169 B b l w h hBw
end Go.Proofs
namespace Go.Proofs.YtlnbjikooadmoaaGreat
namespace Bd
open Go.RowKit
def Bb (w:World) (B b:Nat) (l:List UInt8):Prop:=Lib.IsBuilder 120 5 B b (bv l) w
theorem bb_size:(Tryz.prog.info? 120).map (·.size)=some 2:=by kernel_rfl
theorem bb_lies:liesAt Tryz.prog Tryz.prog.depth 120 (2/Tryz.prog.cellsOf 120) 0 120 1=true:=by kernel_rfl
theorem bb_ne:120≠5:=by decide
theorem bb_u:Tryz.prog.underlying 118=some (.pointer 120):=by kernel_rfl
theorem bb_p:Tryz.prog.underlying 213=some .unsafePointer:=by kernel_rfl
set_option maxHeartbeats 1600000 in
set_option maxRecDepth 100000 in
theorem copyCheck_used (b:Nat) (w:World) (h0:w.cell? ⟨b,0,none⟩=some (.pointer (some ⟨b,0,none⟩))) :
  Calls Tryz.prog 108 #[.pointer (some ⟨b,0,none⟩)] w fun e w'=>e=.returned (.tuple #[])/\w'=w:=by
 obtain⟨j,hj,_⟩:=Option.map_eq_some_iff.1 bb_size
 go_enter Tryz.func108, Tryz.ntmps108
 go_wp2
 rw[Lib.run_neq_ptr_same w _ bb_u hj];go_wp2
 go_end0
 exact⟨rfl,rfl⟩
set_option maxHeartbeats 1600000 in
set_option maxRecDepth 100000 in
theorem copyCheck_fresh (b:Nat) (w:World) (h0:w.cell? ⟨b,0,none⟩=some (.pointer none)) (hsh:w.shape? b=some (120,2)) (hfz:w.frozen? ⟨b,0,none⟩=false) :
  Calls Tryz.prog 108 #[.pointer (some ⟨b,0,none⟩)] w fun e w'=>e=.returned (.tuple #[])/\w'=w.setCell ⟨b,0,none⟩ (.pointer (some ⟨b,0,none⟩)):=by
 obtain⟨j,hj,hjs⟩:=Option.map_eq_some_iff.1 bb_size
 go_enter Tryz.func108, Tryz.ntmps108
 go_wp2
 rw[Lib.run_to_unsafe w ⟨b,0,none⟩ bb_u bb_p hj (by rw[hjs];decide) hsh (Nat.zero_lt_succ 1)];simp only[Result.andThen];rw[Oper.upon_value];go_wp2
 rw[run_callFunc_extern Tryz.func144 (by kernel_rfl) (by kernel_rfl) (by kernel_rfl) (e:=Extern.AbiNoEscape.same) (by kernel_rfl)];rw[Lib.run_noEscape];simp only[Result.andThen];rw[Oper.upon_value];go_wp2
 rw[Lib.run_from_unsafe w ⟨b,0,none⟩ bb_p bb_u hj hsh bb_lies];simp only[Result.andThen];rw[Oper.upon_value];go_wp2
 go_end0
 exact⟨rfl,rfl⟩
theorem copyCheck_any (B b:Nat) (l:List UInt8) (w:World) (h:Bb w B b l) :
  Calls Tryz.prog 108 #[.pointer (some ⟨b,0,none⟩)] w fun e w'=>e=.returned (.tuple #[])/\(Lib.BuilderAt 120 5 B b (.pointer (some ⟨b,0,none⟩)) (bv l) w'/\Below B w w'):=by
 rcases h with h|h
 ·refine(copyCheck_fresh b w h.cell0 h.shape h.frozen0).mono ?_
  rintro e w' ⟨rfl,rfl⟩;exact⟨rfl,h.used _,(Below.refl B w).setCell (p:=⟨b,0,none⟩) h.1 _⟩
 ·refine(copyCheck_used b w h.cell0).mono ?_
  rintro e w' ⟨rfl,rfl⟩;exact⟨rfl,h,Below.refl B _⟩
theorem strCells_eq (s:ByteArray):Lib.strCells s=bv s.data.toList:=rfl
set_option maxHeartbeats 3200000 in
set_option maxRecDepth 100000 in
theorem write_any (B b:Nat) (l:List UInt8) (s:ByteArray) (w:World) (h:Bb w B b l) (hl:l.length+s.size<=1099511627776) (hBw:B<=w.heap.size) :
  Calls Tryz.prog 71 #[.pointer (some ⟨b,0,none⟩),.string s] w fun e w'=>e=.returned (.tuple #[.int .i64 s.size,.nilIface])/\Bb w' B b (l++s.data.toList)/\Below B w w':=by
 obtain⟨i0,hi,hz0,hz1,hz2⟩:=info_parts byte_info;have hbl:(bv l).length=l.length:=bv_length l;have HC:=Lib.hid (copyCheck_any B b l w h);clear h
 go_enter Tryz.func71, Tryz.ntmps71
 go_wp2_with fail
 refine HC.out.mono ?_;rintro e w1 ⟨rfl,h1,hb1⟩;obtain⟨hB,v,hbk,hown,hne⟩:=h1;have c0:w1.cell? ⟨b,0,none⟩=some (.pointer (some ⟨b,0,none⟩)):=by rw[Lib.cell_of_heap hbk];rfl
 have c1:w1.cell? ⟨b,1,none⟩=some v:=by rw[Lib.cell_of_heap hbk];rfl
 clear HC;go_wp2_with (at_builtin;refine Lib.wpList_append_own_string _ rfl _ _ 96 9 rfl B 5 i0 (by kernel_rfl) (by kernel_rfl) hi hz0 hz1 hz2 _ _ _ rfl hown s rfl ?c3 ?c4 ?c5 ?_)
 case c3=>unfold maxLen;omega
 case c4=>omega
 case c5=>have:=hb1.size;omega
 intro v' w2 hown' hgrow _;have hlt:b<w1.heap.size:=by
  rcases Nat.lt_or_ge b w1.heap.size with h'|h'
  ·exact h'
  ·simp[Array.getElem?_eq_none h'] at hbk
 have hb2:w2.heap[b]? =some (.cells #[.pointer (some ⟨b,0,none⟩),v] 120 (0,0)):=by
  rw[hgrow.block b hlt (fun e=>hne e.symm)];exact hbk
 have d0:w2.cell? ⟨b,0,none⟩=some (.pointer (some ⟨b,0,none⟩)):=by rw[Lib.cell_of_heap hb2];rfl
 have d1:w2.cell? ⟨b,1,none⟩=some v:=by rw[Lib.cell_of_heap hb2];rfl
 have f1:w2.frozen? ⟨b,1,none⟩=false:=Lib.frozen_of_heap hb2 1;obtain⟨ao,n',cap,rfl⟩:∃ao n' cap,v'=.slice ao n' cap:=by
  rcases hown'.2 with ⟨hv,_⟩|⟨g,cap,cur,hv,_⟩
  ·exact⟨_,_,_,hv⟩
  ·exact⟨_,_,_,hv⟩
 have HX:=Lib.hid (show Bb (w2.setCell ⟨b,1,none⟩ (.slice ao n' cap)) B b (l++s.data.toList)/\Below B w (w2.setCell ⟨b,1,none⟩ (.slice ao n' cap)) from by
  refine⟨.inr ?_,((hb1.grown hgrow (by have:=hb1.size;omega) (fun k hk=>(hown.lt k hk).1)).setCell (p:=⟨b,1,none⟩) hB _)⟩;refine Lib.BuilderAt.put (T:=120) (e:=5) hB hb2 (bs':=bv (l++s.data.toList)) ?_ bb_ne;rw[bv_append,List.length_append,hbl,<-strCells_eq];simpa[Lib.strCells_length] using hown')
 clear hown hown' hgrow hb1 hbk hb2 hne hlt;go_wp2_with fail
 go_ret2
 exact⟨rfl,HX.out⟩
theorem len_any (B b:Nat) (l:List UInt8) (w:World) (h:Bb w B b l) :
  Calls Tryz.prog 70 #[.pointer (some ⟨b,0,none⟩)] w fun e w'=>e=.returned (.int .i64 (l.length:Int))/\w=w':=by
 refine(Tryz.Builder_Len B b (bv l) w h).mono ?_;rintro e w' ⟨rfl,rfl⟩;exact⟨by rw[bv_length],rfl⟩
theorem string_any (B b:Nat) (l:List UInt8) (w:World) (h:Bb w B b l) (hB:B<=w.heap.size) :
  Calls Tryz.prog 72 #[.pointer (some ⟨b,0,none⟩)] w fun e w'=>e=.returned (.string ⟨l.toArray⟩)/\Below B w w' :=
 Tryz.Builder_String_any B b l w h hB
theorem bb_new (w:World):Bb (w.alloc (.cells #[.pointer none,.slice none 0 0] 120)) w.heap.size w.heap.size []:=Lib.fresh_isBuilder _ _ w
theorem Bb.lt {w:World} {B b:Nat} {l:List UInt8} (h:Bb w B b l):b<w.heap.size:=by
 rcases h with h|h
 ·exact h.lt
 ·exact h.lt
theorem Bb.keep {w w':World} {B b:Nat} {l:List UInt8} (h:Bb w B b l) (_hs:w.heap.size<=w'.heap.size) (hb:∀k,B<=k->k<w.heap.size->w'.heap[k]? =w.heap[k]?):Bb w' B b l:=by
 have key:∀p,Lib.BuilderAt 120 5 B b p (bv l) w->Lib.BuilderAt 120 5 B b p (bv l) w':=by
  intro p hp;have hlt:=hp.lt;obtain⟨hB,v,hbk,hown,hne⟩:=hp;refine⟨hB,v,(hb b hB hlt).trans hbk,?_,hne⟩;rcases hown with ⟨h1,h2⟩
  refine⟨h1,?_⟩;rcases h2 with h2|⟨g,cap,cur,hv,hg,hc,hr⟩
  ·exact .inl h2
  ·exact .inr ⟨g,cap,cur,hv,hg,(hb g hg (Array.getElem?_eq_some_iff.1 hc).1).trans hc,hr⟩
 rcases h with h|h
 ·exact .inl (key _ h)
 ·exact .inr (key _ h)
end Bd
end Go.Proofs.YtlnbjikooadmoaaGreat
namespace Go.Proofs.YtlnbjikooadmoaaGreat
namespace Rd
open Vi Sq
def ok1 (r:Int×Int×ByteArray):Bool:=decide (1<=r.1/\r.1<=1000000000/\0<=r.2.1/\r.2.1<=1000000000/\r.2.2.size<=2000)
theorem ok1_iff (r:Int×Int×ByteArray):ok1 r=true↔1<=r.1/\r.1<=1000000000/\0<=r.2.1/\r.2.1<=1000000000/\r.2.2.size<=2000:=by simp[ok1]
def off:Option (Int×Int×ByteArray)->Int×Int×ByteArray->Bool
 |none,_=>false
 |some p,r=>decide (r.1≠p.1+1∨r.2.1<p.2.1)
def rowE:Option (Int×Int×ByteArray)->List (Int×Int×ByteArray)->Int
 |_,[]=>0
 |p,r::l=>if ok1 r=false then 150 else if off p r=true then 151 else rowE (some r) l
def recB (r:Int×Int×ByteArray):List UInt8:=putV r.1.toNat++(putV r.2.1.toNat++(putV r.2.2.size++r.2.2.data.toList))
def joinB (l:List (Int×Int×ByteArray)):List UInt8:=l.flatMap recB
def jE (l:List (Int×Int×ByteArray)):Int:=if rowE none l≠0 then rowE none l else if 20000<(joinB l).length then 3 else 0
def fin:Nat->List Nat->List UInt8->Int×List Nat×List UInt8
 |0,acc,b=>(0,acc,b)
 |k+1,acc,b=>if(gv 0 0 b).2.2≠0 then((gv 0 0 b).2.2,acc,[]) else fin k (acc++[(gv 0 0 b).1]) (b.drop (gv 0 0 b).2.1)
def rec1 (b:List UInt8):Option ((Int×Int×ByteArray)×List UInt8):=match fin 3 [] b with
 |(0,[q,t,n],r)=>if q<1∨1000000000<q∨1000000000<t∨2000<n then none else if r.length<n then none else some (((q:Int),(t:Int),⟨(r.take n).toArray⟩),r.drop n)
 |_=>none
def spl:Nat->List UInt8->Option (List (Int×Int×ByteArray))
 |0,b=>if b=[] then some [] else none
 |n+1,b=>if b=[] then some [] else match rec1 b with
  |none=>none
  |some x=>(spl n x.2).map (x.1:: ·)
def split (b:List UInt8):Option (List (Int×Int×ByteArray)):=if 20000<b.length then none else match spl b.length b with
 |none=>none
 |some l=>if rowE none l≠0 then none else some l
theorem fin_put (n:Nat) (hn:n<9223372036854775808) (k:Nat) (acc:List Nat) (r:List UInt8):fin (k+1) acc (putV n++r)=fin k (acc++[n]) r:=by
 rw[fin,gv_put n hn,if_neg (by simp)];simp
theorem recB_length (r:Int×Int×ByteArray):3<=(recB r).length:=by
 have:=length_putV_pos r.1.toNat;have:=length_putV_pos r.2.1.toNat;have:=length_putV_pos r.2.2.size;unfold recB;simp only[List.length_append];omega
theorem rec1_put (r:Int×Int×ByteArray) (h:ok1 r=true) (b:List UInt8):rec1 (recB r++b)=some (r,b):=by
 obtain⟨q,t,d⟩:=r;rw[ok1_iff] at h;simp only at h;obtain⟨q,rfl⟩:=Int.eq_ofNat_of_zero_le (show 0<=q by omega);obtain⟨t,rfl⟩:=Int.eq_ofNat_of_zero_le (show 0<=t by omega);have hd:d.data.toList.length=d.size:=rfl;unfold rec1 recB;simp only[List.append_assoc,Int.toNat_natCast];rw[fin_put q (by omega),fin_put t (by omega),fin_put d.size (by omega)];simp only[fin,List.nil_append,List.cons_append];rw[if_neg (by omega),if_neg (by simp only[List.length_append];omega)];rw[List.take_left' hd,List.drop_left' hd]
theorem fin_some:∀(k:Nat) (acc:List Nat) (b:List UInt8) (ns:List Nat) (r:List UInt8),fin k acc b=(0,ns,r)-> ∃l:List Nat,l.length=k/\ns=acc++l/\b=l.flatMap putV++r/\ ∀n∈l,n<9223372036854775808
 |0,acc,b,ns,r,h=>by
  simp only[fin,Prod.mk.injEq,true_and] at h;exact⟨[],rfl,by simp[h.1],by simp[h.2],by simp⟩
 |k+1,acc,b,ns,r,h=>by
  rw[fin] at h;split at h
  ·rename_i hc
   simp only[Prod.mk.injEq] at h;exact absurd h.1 hc
  rename_i hc
  obtain⟨l,hl,hns,hb,hlt⟩:=fin_some k _ _ _ _ h;obtain⟨n,rest,hb1,hv,hu,hn,-⟩:=gv_some b 0 0 (gv 0 0 b).1 (gv 0 0 b).2.1 (by
   have:(gv 0 0 b).2.2=0:=by simpa using hc
   rw[<-this])
  simp only[Nat.pow_zero,Nat.mul_one,Nat.zero_add] at hv hu;have hdr:b.drop (gv 0 0 b).2.1=rest:=by
   rw[hu]
   conv=>lhs;rw[hb1]
   simp
  rw[hdr] at hb;rw[hv] at hns;refine⟨n::l,by simp[hl],by simp[hns],?_,?_⟩
  ·rw[List.flatMap_cons,List.append_assoc,<-hb];exact hb1
  ·intro x hx
   rcases List.mem_cons.1 hx with rfl|hx
   ·simpa using hn
   ·exact hlt x hx
theorem rec1_some (b:List UInt8) (r:Int×Int×ByteArray) (b':List UInt8) (h:rec1 b=some (r,b')):ok1 r=true/\b=recB r++b':=by
 unfold rec1 at h;split at h
 ·rename_i q t n rr he
  obtain⟨l,hl,hns,hb,-⟩:=fin_some 3 [] b _ _ he;simp only[List.nil_append] at hns;subst hns;split at h
  ·simp at h
  split at h
  ·simp at h
  rename_i h1 h2
  simp only[Option.some.injEq,Prod.mk.injEq] at h;obtain⟨rfl,rfl⟩:=h;have e:(⟨(rr.take n).toArray⟩:ByteArray).size=n:=by
   have:(⟨(rr.take n).toArray⟩:ByteArray).size=(rr.take n).length:=by simp[ByteArray.size]
   rw[this,List.length_take];omega
  refine⟨?_,?_⟩
  ·rw[ok1_iff]
   simp only[e];omega
  ·rw[hb]
   unfold recB;simp only[Int.toNat_natCast,e];simp[List.append_assoc]
 ·simp at h
theorem spl_join:∀(l:List (Int×Int×ByteArray)) (n:Nat),(∀r∈l,ok1 r=true)->(joinB l).length<=n->spl n (joinB l)=some l
 | [],n,_,_=>by cases n<;>simp[spl,joinB]
 |r::l,n,h,hn=>by
  have e:joinB (r::l)=recB r++joinB l:=List.flatMap_cons ..;have h3:=recB_length r;rw[e,List.length_append] at hn;obtain⟨n,rfl⟩:∃m,n=m+1:=⟨n-1,by omega⟩
  rw[e,spl,if_neg (by intro e2;have:=congrArg List.length e2;simp at this;rw[this.1] at h3;simp at h3),rec1_put r (h r (List.mem_cons_self ..))];simp only;rw[spl_join l n (fun x hx=>h x (List.mem_cons_of_mem _ hx)) (by omega)];rfl
theorem spl_some:∀(n:Nat) (b:List UInt8) (l:List (Int×Int×ByteArray)),spl n b=some l->b=joinB l/\ ∀r∈l,ok1 r=true
 |0,b,l,h=>by
  rw[spl] at h;split at h
  ·simp only[Option.some.injEq] at h;subst h;rename_i hb;simp[hb,joinB]
  ·simp at h
 |n+1,b,l,h=>by
  rw[spl] at h;split at h
  ·simp only[Option.some.injEq] at h;subst h;rename_i hb;simp[hb,joinB]
  split at h
  ·simp at h
  rename_i x hx
  obtain⟨l',hl',rfl⟩:=Option.map_eq_some_iff.1 h;obtain⟨h1,h2⟩:=spl_some n x.2 l' hl';obtain⟨h3,h4⟩:=rec1_some b x.1 x.2 hx;refine⟨?_,?_⟩
  ·rw[h4,h1];exact(List.flatMap_cons ..).symm
  ·intro r hr
   rcases List.mem_cons.1 hr with rfl|hr
   ·exact h3
   ·exact h2 r hr
theorem rowE_ok:∀(l:List (Int×Int×ByteArray)) (p:Option (Int×Int×ByteArray)),rowE p l=0-> ∀r∈l,ok1 r=true
 | [],_,_=>by simp
 |r::l,p,h=>by
  rw[rowE] at h;split at h;·simp at h
  split at h;·simp at h
  rename_i h1 _
  intro x hx;rcases List.mem_cons.1 hx with rfl|hx
  ·simpa using h1
  ·exact rowE_ok l _ h x hx
theorem split_join (l:List (Int×Int×ByteArray)) (h:jE l=0):split (joinB l)=some l:=by
 unfold jE at h;split at h
 ·rename_i h1;exact absurd h h1
 split at h;·simp at h
 rename_i h1 h2
 have h1:rowE none l=0:=by simpa using h1
 unfold split;rw[if_neg h2,spl_join l _ (rowE_ok l _ h1) (Nat.le_refl _)];simp[h1]
theorem split_some (b:List UInt8) (l:List (Int×Int×ByteArray)) (h:split b=some l):b=joinB l/\jE l=0:=by
 unfold split at h;split at h;·simp at h
 split at h;·simp at h
 rename_i h2 _ l' hl'
 split at h;·simp at h
 rename_i h3
 simp only[Option.some.injEq] at h;subst h;obtain⟨h4,-⟩:=spl_some _ _ _ hl';refine⟨h4,?_⟩;unfold jE;rw[if_neg h3,if_neg (by rw[<-h4];exact h2)]
end Rd
end Go.Proofs.YtlnbjikooadmoaaGreat
namespace Go.Proofs.YtlnbjikooadmoaaGreat
namespace Rd
open Go.RowKit Vi
def rv (r:Int×Int×ByteArray):Value:=.agg #[.int .i64 r.1,.int .i64 r.2.1,.string r.2.2]
def cE (r:Int×Int×ByteArray):Int:=if ok1 r=true then 0 else 150
theorem cE_ok {r:Int×Int×ByteArray} (h:ok1 r=true):cE r=0:=if_pos h
theorem cE_no {r:Int×Int×ByteArray} (h: ¬ ok1 r=true):cE r=150:=if_neg h
set_option maxHeartbeats 3200000 in
theorem check_any (q t:Int) (d:ByteArray) (w:World) :
  Calls Tryz.prog 68 #[.agg #[.int .i64 q,.int .i64 t,.string d]] w fun e w'=>e=.returned (.int .i64 (cE (q,t,d)))/\Below w.heap.size w w':=by
 by_cases h:ok1 (q,t,d)=true
 ·rw[cE_ok h]
  rw[ok1_iff] at h;simp only at h;have h1: ¬ q<1:=by omega
  have h2: ¬ 1000000000<q:=by omega
  have h3: ¬ t<0:=by omega
  have h4: ¬ 1000000000<t:=by omega
  have h5: ¬ (2000:Int)<(d.size:Int):=by omega
  clear h
  go_enter Tryz.func68, Tryz.ntmps68
  go_wp2_with fail
  go_ret
  exact⟨rfl,ext_alloc w _⟩
 ·rw[cE_no h]
  rw[ok1_iff] at h;simp only at h;by_cases h1:q<1
  ·go_enter Tryz.func68, Tryz.ntmps68
   go_wp2_with fail
   go_ret
   exact⟨rfl,ext_alloc w _⟩
  by_cases h2:1000000000<q
  ·go_enter Tryz.func68, Tryz.ntmps68
   go_wp2_with fail
   go_ret
   exact⟨rfl,ext_alloc w _⟩
  by_cases h3:t<0
  ·go_enter Tryz.func68, Tryz.ntmps68
   go_wp2_with fail
   go_ret
   exact⟨rfl,ext_alloc w _⟩
  by_cases h4:1000000000<t
  ·go_enter Tryz.func68, Tryz.ntmps68
   go_wp2_with fail
   go_ret
   exact⟨rfl,ext_alloc w _⟩
  have h5:(2000:Int)<(d.size:Int):=by omega
  go_enter Tryz.func68, Tryz.ntmps68
  go_wp2_with fail
  go_ret
  exact⟨rfl,ext_alloc w _⟩
end Rd
end Go.Proofs.YtlnbjikooadmoaaGreat
namespace Go.Proofs.YtlnbjikooadmoaaGreat
namespace Rd
open Go.RowKit
def cl3 (r:Int×Int×ByteArray):List Value:=[.int .i64 r.1,.int .i64 r.2.1,.string r.2.2]
def fl3 (l:List (Int×Int×ByteArray)):List Value:=l.flatMap cl3
theorem fl3_cons (r:Int×Int×ByteArray) (l:List (Int×Int×ByteArray)):fl3 (r::l)=.int .i64 r.1:: .int .i64 r.2.1:: .string r.2.2::fl3 l:=rfl
theorem length_fl3 (l:List (Int×Int×ByteArray)):(fl3 l).length=l.length*3:=by
 induction l with
 |nil=>rfl
 |cons x l ih=>rw[fl3_cons,List.length_cons,List.length_cons,List.length_cons,List.length_cons,ih];omega
theorem fl3_append (a b:List (Int×Int×ByteArray)):fl3 (a++b)=fl3 a++fl3 b:=List.flatMap_append ..
theorem fl3_at (l:List (Int×Int×ByteArray)) (k:Nat) (x:Int×Int×ByteArray) (h:l[k]? =some x) :
  (fl3 l)[k*3]? =some (.int .i64 x.1)/\(fl3 l)[k*3+1]? =some (.int .i64 x.2.1)/\(fl3 l)[k*3+2]? =some (.string x.2.2):=by
 induction l generalizing k with
 |nil=>simp at h
 |cons y l ih =>
  rw[fl3_cons];rcases k with _|k
  ·simp at h;subst h;exact⟨rfl,rfl,rfl⟩
  ·have:=ih k (by simpa using h)
   rw[show(k+1)*3=k*3+1+1+1 by omega];simpa using this
theorem rec3 {w:World} {B n k:Nat} {A:Option Addr} {l:List (Int×Int×ByteArray)} (h:Rd w B 3 A n (fl3 l)) (hk:k<n) :
  ∃ad q t d,A=some ad/\ad.block<B/\l[k]? =some (q,t,d)/\w.cell? (ad.add (k*3))=some (.int .i64 q)/\w.cell? ⟨(ad.add (k*3)).block,(ad.add (k*3)).off+1,none⟩=some (.int .i64 t)/\w.cell? ⟨(ad.add (k*3)).block,(ad.add (k*3)).off+2,none⟩=some (.string d):=by
 obtain⟨ad,e,hb,hc⟩:=h.cells (by omega);have hl:l.length=n:=by have:=h.len;rw[length_fl3] at this;omega
 obtain⟨⟨q,t,d⟩,hx⟩:∃x,l[k]? =some x:=⟨l[k]'(by omega),List.getElem?_eq_getElem (by omega)⟩
 obtain⟨h1,h2,h3⟩:=fl3_at l k _ hx;exact⟨ad,q,t,d,e,hb,hx,hc _ _ h1,by have:=hc _ _ h2;rw[<-add_add] at this;exact this,by have:=hc _ _ h3;rw[<-add_add] at this;exact this⟩
theorem rd3_len {w:World} {B n:Nat} {A:Option Addr} {l:List (Int×Int×ByteArray)} (h:Rd w B 3 A n (fl3 l)):l.length=n:=by
 have:=h.len;rw[length_fl3] at this;omega
def pv (l:List (Int×Int×ByteArray)) (k:Nat):Option (Int×Int×ByteArray):=if k=0 then none else l[k-1]?
theorem row_no {l:List (Int×Int×ByteArray)} {k:Nat} {r:Int×Int×ByteArray} (h:l[k]? =some r) (ho: ¬ ok1 r=true):rowE (pv l k) (l.drop k)=150:=by
 rw[drop_at l k r h,rowE,if_pos (by simpa using ho)]
theorem row_off {l:List (Int×Int×ByteArray)} {k:Nat} {r p:Int×Int×ByteArray} (h:l[k+1]? =some r) (hp:l[k]? =some p) (ho:ok1 r=true) (hf:r.1≠p.1+1∨r.2.1<p.2.1):rowE (pv l (k+1)) (l.drop (k+1))=151:=by
 have e:pv l (k+1)=some p:=by unfold pv;rw[if_neg (by omega),Nat.add_sub_cancel,hp]
 rw[drop_at l (k+1) r h,rowE,if_neg (by simp[ho]),e,if_pos (by simp[off];omega)]
theorem row_on {l:List (Int×Int×ByteArray)} {k:Nat} {r p:Int×Int×ByteArray} (h:l[k+1]? =some r) (hp:l[k]? =some p) (ho:ok1 r=true) (hf: ¬ (r.1≠p.1+1∨r.2.1<p.2.1)) :
  rowE (pv l (k+1)) (l.drop (k+1))=rowE (pv l (k+2)) (l.drop (k+2)):=by
 have e:pv l (k+1)=some p:=by unfold pv;rw[if_neg (by omega),Nat.add_sub_cancel,hp]
 have e2:pv l (k+2)=some r:=by unfold pv;rw[if_neg (by omega),show k+2-1=k+1 by omega,h]
 rw[drop_at l (k+1) r h,rowE,if_neg (by simp[ho]),e,if_neg (by simp[off];omega),e2]
theorem row_on0 {l:List (Int×Int×ByteArray)} {r:Int×Int×ByteArray} (h:l[0]? =some r) (ho:ok1 r=true):rowE (pv l 0) (l.drop 0)=rowE (pv l 1) (l.drop 1):=by
 have e2:pv l 1=some r:=by unfold pv;rw[if_neg (by omega)];exact h
 rw[drop_at l 0 r h,rowE,if_neg (by simp[ho]),e2];rfl
theorem row_end {l:List (Int×Int×ByteArray)} {k:Nat} (h:l.length<=k):rowE (pv l k) (l.drop k)=0:=by rw[List.drop_eq_nil_of_le h];rfl
end Rd
end Go.Proofs.YtlnbjikooadmoaaGreat
namespace Go.Proofs.YtlnbjikooadmoaaGreat
namespace Rd
open Go.RowKit
set_option maxHeartbeats 6400000 in
set_option maxRecDepth 100000 in
theorem row_any (A:Option Addr) (n c:Nat) (l:List (Int×Int×ByteArray)) (w:World) (hrd:Rd w w.heap.size 3 A n (fl3 l)) (hn:n<=1099511627776) :
  Calls Tryz.prog 26 #[.slice A n c] w fun e w'=>e=.returned (.int .i64 (rowE none l))/\Below w.heap.size w w':=by
 have mixed:Tryz.prog.follows .mixedOrders=true:=by kernel_rfl
 have hln:=rd3_len hrd;have HC:=Lib.hid (fun q t d w=>check_any q t d w);have HR:=Lib.hid hrd;clear hrd
 go_enter Tryz.func26, Tryz.ntmps26
 go_wp2_with fail
 go_loopw [8] (fun v wr=>∃k:Nat,v=.int .i64 k/\k<=n/\Hid (rowE (pv l k) (l.drop k)=rowE none l/\(∀j r,j<k->l[j]? =some r->ok1 r=true)/\Below w.heap.size w wr)) (fun v _=>n-(intOf v).toNat)
 case atStart=>exact⟨0,by go_num,by omega,rfl,fun j r h=>absurd h (by omega),Below.refl _ _⟩
 case round =>
  obtain⟨k,rfl,hk,HX⟩:=hrel;by_cases hkn:k<n
  ·obtain⟨ad,q,t,d,rfl,hbk,hx,hc0,hc1,hc2⟩:=rec3 (HR.out.below HX.out.2.2) hkn
   by_cases ho:ok1 (q,t,d)=true
   ·have hce:=cE_ok ho
    have hok:∀j r,j<k+1->l[j]? =some r->ok1 r=true:=by
     intro j r hj hr;rcases Nat.lt_or_ge j k with h|h
     ·exact HX.out.2.1 j r h hr
     ·obtain rfl:j=k:=by omega
      rw[hx] at hr;cases hr;exact ho
    have HOK:=Lib.hid hok;clear hok;rcases k with _|k
    ·have HRE:=Lib.hid ((row_on0 hx ho).symm.trans HX.out.1)
     have hz:ad.add (0*3)=ad:=by rw[Nat.zero_mul];rfl
     rw[hz] at hc0 hc1 hc2;clear hz;have HB:=Lib.hid HX.out.2.2;go_wp2_with fail
     refine(HC.out _ _ _ _).mono ?_;rintro e1 w1 ⟨rfl,hb1⟩;rw[hce];have HB1:=Lib.hid (ext_trans HB.out (ext_trans (ext_alloc wr _) hb1));clear hc0 hc1 hc2 hb1 hx HX HB HC;go_wp2_with fail
     go_quiet (fail)
     go_wp2_with fail
     exact⟨⟨1,by go_num,by omega,HRE.out,HOK.out,below_drewN HB1.out _⟩,by simp[intOf];omega⟩
    ·obtain⟨ad',q',t',d',e',hbk',hx',hc0',hc1',-⟩:=rec3 (HR.out.below HX.out.2.2) (show k<n by omega)
     obtain rfl:ad=ad':=by simpa using e'
     have hp:=HX.out.2.1 k _ (by omega) hx';rw[ok1_iff] at hp;simp only at hp;have hp1:=hp.1;have hp2:=hp.2.1;have i1:(((k+1:Nat):Int)-1)=((k:Nat):Int):=by omega
     have i2:(0:Int)<((k+1:Nat):Int):=by omega
     have i3:(k:Int)<(n:Int):=by omega
     have i4:(0:Int)<=(k:Int):=by omega
     have i5:IntKind.i64.wrap (k:Int)=(k:Int):=by rw[IntKind.wrap_i64];omega
     have i6:IntKind.i64.wrap (q'+1)=q'+1:=by rw[IntKind.wrap_i64];omega
     clear hp e';by_cases hf1:q=q'+1
     ·subst hf1
      by_cases hf2:t<t'
      ·have HRE:=Lib.hid ((row_off hx hx' ho (.inr hf2)).symm.trans HX.out.1)
       have HB:=Lib.hid HX.out.2.2;go_wp2_with fail
       refine(HC.out _ _ _ _).mono ?_;rintro e1 w1 ⟨rfl,hb1⟩;rw[hce];have hh:∀p:Addr,p.block<w.heap.size->w1.cell? p=wr.cell? p:=fun p hp=>(hb1.cell (by simp;have:=HB.out.size;omega)).trans (World.cell?_alloc_lt wr _ p (by have:=HB.out.size;omega))
       have c0:w1.cell? ⟨wr.heap.size,0,none⟩=some (.int .i64 (q'+1)):=by rw[hb1.cell (p:=⟨wr.heap.size,0,none⟩) (by simp),World.cell?_alloc_new];rfl
       have c1:w1.cell? ⟨wr.heap.size,1,none⟩=some (.int .i64 t):=by rw[hb1.cell (p:=⟨wr.heap.size,1,none⟩) (by simp),World.cell?_alloc_new];rfl
       have d0:=(hh _ (by rw[add_block];exact hbk')).trans hc0';have d1:=(hh ⟨(ad.add (k*3)).block,(ad.add (k*3)).off+1,none⟩ (by rw[add_block];exact hbk')).trans hc1';have HB1:=Lib.hid (ext_trans HB.out (ext_trans (ext_alloc wr _) hb1));clear hc0 hc1 hc2 hc0' hc1' hb1 hh hx hx' HX HB HC;go_wp2_with fail
       go_quiet (fail)
       go_wp2_with fail
       go_ret
       exact⟨ret_int HRE.out,below_drewN HB1.out _⟩
      ·have HRE:=Lib.hid ((row_on hx hx' ho (by simp only;omega)).symm.trans HX.out.1)
       have HB:=Lib.hid HX.out.2.2;go_wp2_with fail
       refine(HC.out _ _ _ _).mono ?_;rintro e1 w1 ⟨rfl,hb1⟩;rw[hce];have hh:∀p:Addr,p.block<w.heap.size->w1.cell? p=wr.cell? p:=fun p hp=>(hb1.cell (by simp;have:=HB.out.size;omega)).trans (World.cell?_alloc_lt wr _ p (by have:=HB.out.size;omega))
       have c0:w1.cell? ⟨wr.heap.size,0,none⟩=some (.int .i64 (q'+1)):=by rw[hb1.cell (p:=⟨wr.heap.size,0,none⟩) (by simp),World.cell?_alloc_new];rfl
       have c1:w1.cell? ⟨wr.heap.size,1,none⟩=some (.int .i64 t):=by rw[hb1.cell (p:=⟨wr.heap.size,1,none⟩) (by simp),World.cell?_alloc_new];rfl
       have d0:=(hh _ (by rw[add_block];exact hbk')).trans hc0';have d1:=(hh ⟨(ad.add (k*3)).block,(ad.add (k*3)).off+1,none⟩ (by rw[add_block];exact hbk')).trans hc1';have HB1:=Lib.hid (ext_trans HB.out (ext_trans (ext_alloc wr _) hb1));clear hc0 hc1 hc2 hc0' hc1' hb1 hh hx hx' HX HB HC;go_wp2_with fail
       go_quiet (fail)
       go_wp2_with fail
       exact⟨⟨k+2,by go_num,by omega,HRE.out,HOK.out,below_drewN HB1.out _⟩,by simp[intOf];omega⟩
     ·have HRE:=Lib.hid ((row_off hx hx' ho (.inl hf1)).symm.trans HX.out.1)
      have HB:=Lib.hid HX.out.2.2;go_wp2_with fail
      refine(HC.out _ _ _ _).mono ?_;rintro e1 w1 ⟨rfl,hb1⟩;rw[hce];have hh:∀p:Addr,p.block<w.heap.size->w1.cell? p=wr.cell? p:=fun p hp=>(hb1.cell (by simp;have:=HB.out.size;omega)).trans (World.cell?_alloc_lt wr _ p (by have:=HB.out.size;omega))
      have c0:w1.cell? ⟨wr.heap.size,0,none⟩=some (.int .i64 q):=by rw[hb1.cell (p:=⟨wr.heap.size,0,none⟩) (by simp),World.cell?_alloc_new];rfl
      have c1:w1.cell? ⟨wr.heap.size,1,none⟩=some (.int .i64 t):=by rw[hb1.cell (p:=⟨wr.heap.size,1,none⟩) (by simp),World.cell?_alloc_new];rfl
      have d0:=(hh _ (by rw[add_block];exact hbk')).trans hc0';have d1:=(hh ⟨(ad.add (k*3)).block,(ad.add (k*3)).off+1,none⟩ (by rw[add_block];exact hbk')).trans hc1';have HB1:=Lib.hid (ext_trans HB.out (ext_trans (ext_alloc wr _) hb1));clear hc0 hc1 hc2 hc0' hc1' hb1 hh hx hx' HX HB HC;go_wp2_with fail
      go_quiet (fail)
      go_wp2_with fail
      go_ret
      exact⟨ret_int HRE.out,below_drewN HB1.out _⟩
   ·have hce:=cE_no ho
    have HRE:=Lib.hid ((row_no hx ho).symm.trans HX.out.1);have HB:=Lib.hid HX.out.2.2;go_wp2_with fail
    refine(HC.out _ _ _ _).mono ?_;rintro e1 w1 ⟨rfl,hb1⟩;rw[hce];have HB1:=Lib.hid (ext_trans HB.out (ext_trans (ext_alloc wr _) hb1));clear hc0 hc1 hc2 hb1 hx HX HB HC;go_wp2_with fail
    go_ret
    exact⟨ret_int HRE.out,HB1.out⟩
  ·obtain rfl:k=n:=by omega
   have HRE:=Lib.hid ((row_end (l:=l) (k:=k) (by omega)).symm.trans HX.out.1);have HB:=Lib.hid HX.out.2.2;clear HX HC;go_wp2_with fail
   go_ret
   exact⟨ret_int HRE.out,HB.out⟩
end Rd
end Go.Proofs.YtlnbjikooadmoaaGreat
namespace Go.Proofs.YtlnbjikooadmoaaGreat
namespace Rd
open Go.RowKit Vi Bd
theorem Bb_below {w w':World} {B b:Nat} {l:List UInt8} (h:Bb w B b l) (hb:Below w.heap.size w w'):Bb w' B b l:=h.keep hb.size fun k _ hk=>hb.block k hk
theorem vtxt_list (n:Nat):(vtxt n).data.toList=putV n:=by simp[vtxt]
theorem vtxt_size (n:Nat):(vtxt n).size=(putV n).length:=by simp[vtxt,ByteArray.size]
def acc3 (q t d k:Nat):List UInt8:=([q,t,d].take k).flatMap putV
set_option maxHeartbeats 6400000 in
set_option maxRecDepth 100000 in
theorem rput_any (q t:Nat) (d:ByteArray) (w:World) (h:ok1 ((q:Int),(t:Int),d)=true) :
  Calls Tryz.prog 69 #[.agg #[.int .i64 (q:Int),.int .i64 (t:Int),.string d]] w fun e w'=>e=.returned (.tuple #[.string ⟨(recB ((q:Int),(t:Int),d)).toArray⟩,.int .i64 0])/\Below w.heap.size w w':=by
 have mixed:Tryz.prog.follows .mixedOrders=true:=by kernel_rfl
 have hc:=check_any q t d;simp only[cE_ok h] at hc;have HC:=Lib.hid hc;rw[ok1_iff] at h;simp only at h;have l1:(putV q).length<=9:=length_putV_le q 8 (by omega);have l2:(putV t).length<=9:=length_putV_le t 8 (by omega);have l3:(putV d.size).length<=9:=length_putV_le d.size 8 (by omega);have P1:=Lib.hid (fun w=>put_any q w (by omega));have P2:=Lib.hid (fun w=>put_any t w (by omega));have P3:=Lib.hid (fun w=>put_any d.size w (by omega));have hsz:d.size<=2000:=h.2.2.2.2;have hac:acc3 q t d.size 3++d.data.toList=recB ((q:Int),(t:Int),d):=by simp[acc3,recB]
 have HAC:=Lib.hid hac;clear hc h hac
 go_enter Tryz.func69, Tryz.ntmps69
 go_wp2_with fail
 refine(HC.out _).mono ?_;rintro e1 w1 ⟨rfl,hb1⟩;have cc:∀j,w1.cell? ⟨w.heap.size,j,none⟩=(w.alloc (.cells #[.int .i64 (q:Int),.int .i64 (t:Int),.string d] 31)).cell? ⟨w.heap.size,j,none⟩:=fun j=>hb1.cell (p:=⟨w.heap.size,j,none⟩) (by simp)
 have c0:w1.cell? ⟨w.heap.size,0,none⟩=some (.int .i64 (q:Int)):=by rw[cc,World.cell?_alloc_new];rfl
 have c1:w1.cell? ⟨w.heap.size,1,none⟩=some (.int .i64 (t:Int)):=by rw[cc,World.cell?_alloc_new];rfl
 have c2:w1.cell? ⟨w.heap.size,2,none⟩=some (.string d):=by rw[cc,World.cell?_alloc_new];rfl
 have hlt:w.heap.size<w1.heap.size:=by have:=hb1.size;simp at this;omega
 have hbb:=bb_new w1;have hd2:∀o:Obj,(w1.alloc o).cell? ⟨w.heap.size,2,none⟩=some (.string d):=fun o=>(World.cell?_alloc_lt w1 o ⟨w.heap.size,2,none⟩ hlt).trans c2
 have hd1:∀o:Obj,(w1.alloc o).cell? ⟨w.heap.size,1,none⟩=some (.int .i64 (t:Int)):=fun o=>(World.cell?_alloc_lt w1 o ⟨w.heap.size,1,none⟩ hlt).trans c1
 have hd0:∀o:Obj,(w1.alloc o).cell? ⟨w.heap.size,0,none⟩=some (.int .i64 (q:Int)):=fun o=>(World.cell?_alloc_lt w1 o ⟨w.heap.size,0,none⟩ hlt).trans c0
 have HB:=Lib.hid (show Below w.heap.size w (w1.alloc (.cells #[.pointer none,.slice none 0 0] 120)) from(ext_trans (ext_alloc w _) hb1).alloc (by omega) _);have HBB:=Lib.hid hbb;clear hb1 cc HC hbb;generalize hB:w1.heap.size=B at *
 have hB2:B<=(w1.alloc (.cells #[.pointer none,.slice none 0 0] 120)).heap.size:=by simp;omega
 have e0:=hd0 (.cells #[.pointer none,.slice none 0 0] 120);have e1:=hd1 (.cells #[.pointer none,.slice none 0 0] 120);have e2:=hd2 (.cells #[.pointer none,.slice none 0 0] 120);go_wp2_with fail
 clear hB c0 c1 c2 hd0 hd1 hd2 e0 e1;generalize w1.alloc (.cells #[.pointer none,.slice none 0 0] 120)=w4 at *
 have i0:∀w:World,(Instr.index 56 (.agg #[.int .i64 (q:Int),.int .i64 (t:Int),.int .i64 (d.size:Int)]) (.int .i64 0)).run Tryz.prog w=.ok (.int .i64 (q:Int)) w:=fun _=>by kernel_rfl
 have i1:∀w:World,(Instr.index 56 (.agg #[.int .i64 (q:Int),.int .i64 (t:Int),.int .i64 (d.size:Int)]) (.int .i64 1)).run Tryz.prog w=.ok (.int .i64 (t:Int)) w:=fun _=>by kernel_rfl
 have i2:∀w:World,(Instr.index 56 (.agg #[.int .i64 (q:Int),.int .i64 (t:Int),.int .i64 (d.size:Int)]) (.int .i64 2)).run Tryz.prog w=.ok (.int .i64 (d.size:Int)) w:=fun _=>by kernel_rfl
 go_loopw [23] (fun v wr=>∃k:Nat,v=.int .i64 k/\k<=3/\Hid (Bb wr B B (acc3 q t d.size k)/\Below B w4 wr/\B<=wr.heap.size)) (fun v _=>3-(intOf v).toNat)
 case atStart=>exact⟨0,by go_num,by omega,HBB.out,Below.refl _ _,hB2⟩
 case round =>
  obtain⟨k,rfl,hk,HX⟩:=hrel;by_cases hk3:k<3
  ·obtain rfl|rfl|rfl:k=0∨k=1∨k=2:=by omega
   ·skip
    go_wp2_with fail
    refine(P1.out _).mono ?_;rintro e2 w2 ⟨rfl,hb2⟩;have HB2:=Lib.hid hb2;have hbb:=Bb_below HX.out.1 hb2;have hW:=write_any B B (acc3 q t d.size 0) (vtxt q) w2 hbb (by rw[vtxt_size];unfold acc3;simp;omega) (by have:=HX.out.2.2;have:=hb2.size;omega);rw[vtxt_list] at hW;have HW:=Lib.hid hW;clear hW hbb hb2;go_wp2_with fail
    refine HW.out.mono ?_;rintro e3 w3 ⟨rfl,hbb3,hb3⟩;have hacc:acc3 q t d.size 0++putV q=acc3 q t d.size (0+1):=by simp[acc3]
    rw[hacc] at hbb3;have HX3:=Lib.hid (show Bb w3 B B (acc3 q t d.size (0+1))/\Below B w4 w3/\B<=w3.heap.size from⟨hbb3,(HX.out.2.1.trans (HB2.out.mono HX.out.2.2)).trans hb3,by have:=hb3.size;have:=HB2.out.size;have:=HX.out.2.2;omega⟩);clear hbb3 hb3 hacc HW HB2 HX;go_wp2_with fail
    exact⟨⟨0+1,by go_num,by omega,HX3.out⟩,by simp[intOf]⟩
   ·skip
    go_wp2_with fail
    refine(P2.out _).mono ?_;rintro e2 w2 ⟨rfl,hb2⟩;have HB2:=Lib.hid hb2;have hbb:=Bb_below HX.out.1 hb2;have hW:=write_any B B (acc3 q t d.size 1) (vtxt t) w2 hbb (by rw[vtxt_size];unfold acc3;simp;omega) (by have:=HX.out.2.2;have:=hb2.size;omega);rw[vtxt_list] at hW;have HW:=Lib.hid hW;clear hW hbb hb2;go_wp2_with fail
    refine HW.out.mono ?_;rintro e3 w3 ⟨rfl,hbb3,hb3⟩;have hacc:acc3 q t d.size 1++putV t=acc3 q t d.size (1+1):=by simp[acc3]
    rw[hacc] at hbb3;have HX3:=Lib.hid (show Bb w3 B B (acc3 q t d.size (1+1))/\Below B w4 w3/\B<=w3.heap.size from⟨hbb3,(HX.out.2.1.trans (HB2.out.mono HX.out.2.2)).trans hb3,by have:=hb3.size;have:=HB2.out.size;have:=HX.out.2.2;omega⟩);clear hbb3 hb3 hacc HW HB2 HX;go_wp2_with fail
    exact⟨⟨1+1,by go_num,by omega,HX3.out⟩,by simp[intOf]⟩
   ·skip
    go_wp2_with fail
    refine(P3.out _).mono ?_;rintro e2 w2 ⟨rfl,hb2⟩;have HB2:=Lib.hid hb2;have hbb:=Bb_below HX.out.1 hb2;have hW:=write_any B B (acc3 q t d.size 2) (vtxt d.size) w2 hbb (by rw[vtxt_size];unfold acc3;simp;omega) (by have:=HX.out.2.2;have:=hb2.size;omega);rw[vtxt_list] at hW;have HW:=Lib.hid hW;clear hW hbb hb2;go_wp2_with fail
    refine HW.out.mono ?_;rintro e3 w3 ⟨rfl,hbb3,hb3⟩;have hacc:acc3 q t d.size 2++putV d.size=acc3 q t d.size (2+1):=by simp[acc3]
    rw[hacc] at hbb3;have HX3:=Lib.hid (show Bb w3 B B (acc3 q t d.size (2+1))/\Below B w4 w3/\B<=w3.heap.size from⟨hbb3,(HX.out.2.1.trans (HB2.out.mono HX.out.2.2)).trans hb3,by have:=hb3.size;have:=HB2.out.size;have:=HX.out.2.2;omega⟩);clear hbb3 hb3 hacc HW HB2 HX;go_wp2_with fail
    exact⟨⟨2+1,by go_num,by omega,HX3.out⟩,by simp[intOf]⟩
  ·obtain rfl:k=3:=by omega
   have hcd:=(HX.out.2.1.cell (p:=⟨w.heap.size,2,none⟩) hlt).trans e2;have hW:=write_any B B (acc3 q t d.size 3) d wr HX.out.1 (by unfold acc3;simp;omega) HX.out.2.2;rw[HAC.out] at hW;have HW:=Lib.hid hW;clear hW;go_wp2_with fail
   refine HW.out.mono ?_;rintro e3 w3 ⟨rfl,hbb3,hb3⟩;have HS:=Lib.hid (string_any B B _ w3 hbb3 (by have:=hb3.size;have:=HX.out.2.2;omega));have HB3:=Lib.hid ((HX.out.2.1).trans hb3);clear hbb3 hb3 HW;go_wp2_with fail
   refine HS.out.mono ?_;rintro e4 w5 ⟨rfl,hb4⟩;have HB5:=Lib.hid (HB.out.trans ((HB3.out.trans hb4).mono (by omega)));clear hb4 HS HB3 hcd;go_wp2_with fail
   go_ret2
   exact⟨rfl,HB5.out⟩
end Rd
end Go.Proofs.YtlnbjikooadmoaaGreat
namespace Go.Proofs.YtlnbjikooadmoaaGreat
namespace Hd
open Go.RowKit Vi Bd Rd
def nv (l:List Nat):List Value:=l.map fun(n:Nat)=>Value.int .i64 (n:Int)
theorem flat_take (l:List Nat) (k x:Nat) (h:l[k]? =some x):(l.take (k+1)).flatMap putV=(l.take k).flatMap putV++putV x:=by
 rw[List.take_add_one,h,List.flatMap_append];simp
theorem flat_len:∀(l:List Nat),(∀x∈l,x<9223372036854775808)->(l.flatMap putV).length<=9*l.length
 | [],_=>by simp
 |x::l,h=>by
  have h1:=flat_len l (fun y hy=>h y (List.mem_cons_of_mem _ hy))
  have h2:=length_putV_le x 8 (by have:=h x (List.mem_cons_self ..);have:(128:Nat)^(8+1)=9223372036854775808:=by decide
                                  omega)
  rw[List.flatMap_cons,List.length_append,List.length_cons];omega
set_option maxHeartbeats 3200000 in
set_option maxRecDepth 100000 in
theorem numbers_any (A:Option Addr) (n c:Nat) (l:List Nat) (w:World) (hrd:Rd w w.heap.size 1 A n (nv l)) (hn:n<=100000) (hl:∀x∈l,x<9223372036854775808) :
  Calls Tryz.prog 81 #[.slice A n c] w fun e w'=>e=.returned (.tuple #[.string ⟨(l.flatMap putV).toArray⟩,.int .i64 0])/\Below w.heap.size w w':=by
 have mixed:Tryz.prog.follows .mixedOrders=true:=by kernel_rfl
 have hbb:=bb_new w;have HB:=Lib.hid (ext_alloc w (.cells #[.pointer none,.slice none 0 0] 120));have HBB:=Lib.hid hbb;clear hbb
 go_enter Tryz.func81, Tryz.ntmps81
 go_wp2_with fail
 generalize w.alloc (.cells #[.pointer none,.slice none 0 0] 120)=w4 at *
 have hln:l.length=n:=by have:=hrd.len;simpa[nv] using this
 have HL:=Lib.hid hl;have HLN:=Lib.hid hln;have HR:=Lib.hid hrd;have HSZ:=Lib.hid (flat_len l hl);clear hl hln hrd;go_loopg [11] n (fun kx s11 wr=>∃k:Nat,s11=.int .i64 (k:Int)/\k<=n/\n-k<=kx/\Hid (Bb wr w.heap.size w.heap.size ((l.take k).flatMap putV)/\Below w.heap.size w wr))
 case atStart=>exact⟨0,rfl,by omega,by omega,Lib.hid ⟨HBB.out,HB.out⟩⟩
 case round =>
  clear HBB HB;obtain⟨k,rfl,hk,hkx,H⟩:=hrel;by_cases hlt:k<n
  ·have hlk:k<l.length:=by rw[HLN.out];exact hlt
   obtain⟨ad,hA,hbk,hc⟩:=(HR.out.ext H.out.2).cells (by omega);have hx:l[k]? =some l[k]:=List.getElem?_eq_getElem hlk;have hcell:=hc k (.int .i64 ((l[k]:Nat):Int)) (by unfold nv;rw[List.getElem?_map,hx];rfl);have hxl:=HL.out l[k] (List.getElem_mem hlk);have HFT:=Lib.hid (flat_take l k l[k] hx);have HTL:=Lib.hid (show((l.take k).flatMap putV).length<=9*n by
    have:=flat_len (l.take k) (fun x hx=>HL.out x (List.mem_of_mem_take hx));rw[List.length_take] at this;omega)
   have HVL:=Lib.hid (length_putV_le l[k] 8 (by have:(128:Nat)^(8+1)=9223372036854775808:=by decide
                                                omega))
   subst hA;have hki:(k:Int)<(n:Int):=by omega
   clear hc hbk hx;generalize l[k]=x at *
   have HP:=Lib.hid (put_any x wr hxl);clear hlk;go_wp2_with fail
   refine HP.out.mono ?_;rintro e2 w2 ⟨rfl,hb2⟩;have hW:=write_any w.heap.size w.heap.size _ (vtxt x) w2 (Bb_below H.out.1 hb2) (by rw[vtxt_size];have:=HTL.out;have:=HVL.out;omega) (by have:=H.out.2.size;have:=hb2.size;omega);rw[vtxt_list,<-HFT.out] at hW;have HW:=Lib.hid hW;have HB2:=Lib.hid (H.out.2.trans (hb2.mono H.out.2.size));clear hW hb2 H;go_wp2_with fail
   refine HW.out.mono ?_;rintro e3 w3 ⟨rfl,hbb3,hb3⟩;have H3:=Lib.hid (And.intro hbb3 (HB2.out.trans hb3));clear hbb3 hb3 HW;go_wp2_with fail
   go_roundg (n-(k+1))
   case measure=>omega
   case rel=>exact⟨k+1,by go_num,by omega,by omega,H3⟩
  ·obtain rfl:k=n:=by omega
   have h9:=H.out;rw[List.take_of_length_le (by rw[HLN.out];omega)] at h9;have HS:=Lib.hid (Tryz.Builder_String_any w.heap.size w.heap.size _ wr h9.1 h9.2.size);have HB2:=Lib.hid h9.2;clear h9 H;go_wp2_with fail
   refine HS.out.mono ?_;rintro e5 w5 ⟨rfl,hb5⟩;have HB5:=Lib.hid (HB2.out.trans hb5);clear hb5;go_wp2_with fail
   go_ret2
   exact⟨rfl,HB5.out⟩
end Hd
end Go.Proofs.YtlnbjikooadmoaaGreat
namespace Go.Proofs.YtlnbjikooadmoaaGreat
namespace Hd
open Go.RowKit Vi Bd Rd
def hb (i g f:Nat):ByteArray:=⟨(putV i++(putV g++putV f)).toArray⟩
set_option maxHeartbeats 3200000 in
set_option maxRecDepth 100000 in
theorem hput_yes (i g f:Nat) (w:World) (h:1<=i/\i<=999999/\1<=g/\g<=999999/\1<=f/\f<=1000000000) :
  Calls Tryz.prog 32 #[.agg #[.int .i64 (i:Int),.int .i64 (g:Int),.int .i64 (f:Int)]] w fun e w'=>e=.returned (.tuple #[.string (hb i g f),.int .i64 0])/\Below w.heap.size w w':=by
 have mixed:Tryz.prog.follows .mixedOrders=true:=by kernel_rfl
 have HC:=Lib.hid (check_yes i g f (w.alloc (.cells #[.int .i64 (i:Int),.int .i64 (g:Int),.int .i64 (f:Int)] 33)) (by omega));have HB:=Lib.hid (ext_alloc w (.cells #[.int .i64 (i:Int),.int .i64 (g:Int),.int .i64 (f:Int)] 33));have HN:=Lib.hid (show ∀x∈ [i,g,f],x<9223372036854775808 by intro x hx;simp at hx;omega);have k0:(w.alloc (.cells #[.int .i64 (i:Int),.int .i64 (g:Int),.int .i64 (f:Int)] 33)).cell? ⟨w.heap.size,0,none⟩=some (.int .i64 (i:Int)):=by rw[World.cell?_alloc_new];rfl
 have k1:(w.alloc (.cells #[.int .i64 (i:Int),.int .i64 (g:Int),.int .i64 (f:Int)] 33)).cell? ⟨w.heap.size,1,none⟩=some (.int .i64 (g:Int)):=by rw[World.cell?_alloc_new];rfl
 have k2:(w.alloc (.cells #[.int .i64 (i:Int),.int .i64 (g:Int),.int .i64 (f:Int)] 33)).cell? ⟨w.heap.size,2,none⟩=some (.int .i64 (f:Int)):=by rw[World.cell?_alloc_new];rfl
 have hlt:w.heap.size<(w.alloc (.cells #[.int .i64 (i:Int),.int .i64 (g:Int),.int .i64 (f:Int)] 33)).heap.size:=by simp
 have HK:=Lib.hid (And.intro k0 (And.intro k1 (And.intro k2 hlt)));clear k0 k1 k2 hlt h
 go_enter Tryz.func32, Tryz.ntmps32
 go_wp2_with fail
 generalize w.alloc (.cells #[.int .i64 (i:Int),.int .i64 (g:Int),.int .i64 (f:Int)] 33)=w0 at *
 refine HC.out.mono ?_;rintro e1 w1 ⟨rfl,hb1⟩;have c0:=(hb1.cell (p:=⟨w.heap.size,0,none⟩) HK.out.2.2.2).trans HK.out.1;have c1:=(hb1.cell (p:=⟨w.heap.size,1,none⟩) HK.out.2.2.2).trans HK.out.2.1;have c2:=(hb1.cell (p:=⟨w.heap.size,2,none⟩) HK.out.2.2.2).trans HK.out.2.2.1;have hrd:Rd (w1.alloc (.cells #[.int .i64 (i:Int),.int .i64 (g:Int),.int .i64 (f:Int)] 3)) (w1.alloc (.cells #[.int .i64 (i:Int),.int .i64 (g:Int),.int .i64 (f:Int)] 3)).heap.size 1 (some ⟨w1.heap.size,0,none⟩) 3 (nv [i,g,f]) :=
  Rd.of_own (World.ownsRow_lit (base:=w1.heap.size) (e:=3) (size:=1) w1 #[.int .i64 (i:Int),.int .i64 (g:Int),.int .i64 (f:Int)] 3 (Nat.le_refl _) (by simp[maxLen]) rfl)
 have HNU:=Lib.hid (numbers_any _ 3 3 [i,g,f] _ hrd (by omega) HN.out);have HB1:=Lib.hid (HB.out.trans (hb1.mono HB.out.size));have HB2:=Lib.hid (HB1.out.trans ((ext_alloc w1 (.cells #[.int .i64 (i:Int),.int .i64 (g:Int),.int .i64 (f:Int)] 3)).mono HB1.out.size));clear hb1 hrd HC;go_wp2_with fail
 refine HNU.out.mono ?_;rintro e2 w2 ⟨rfl,hb2⟩;have HB3:=Lib.hid (HB2.out.trans (hb2.mono HB2.out.size));clear hb2;go_wp2_with fail
 go_ret2
 exact⟨rfl,HB3.out⟩
set_option maxHeartbeats 3200000 in
set_option maxRecDepth 100000 in
theorem hput_no (i g f:Int) (w:World) (h:okH i g f=false) :
  Calls Tryz.prog 32 #[.agg #[.int .i64 i,.int .i64 g,.int .i64 f]] w fun e w'=>e=.returned (.tuple #[.string ⟨#[]⟩,.int .i64 210])/\Below w.heap.size w w':=by
 have mixed:Tryz.prog.follows .mixedOrders=true:=by kernel_rfl
 have hc:=check_any i g f (w.alloc (.cells #[.int .i64 i,.int .i64 g,.int .i64 f] 33));rw[if_neg (by rw[h];simp)] at hc;have HC:=Lib.hid hc;have HB:=Lib.hid (ext_alloc w (.cells #[.int .i64 i,.int .i64 g,.int .i64 f] 33));clear hc h
 go_enter Tryz.func32, Tryz.ntmps32
 go_wp2_with fail
 refine HC.out.mono ?_;rintro e1 w1 ⟨rfl,hb1⟩;have HB1:=Lib.hid (HB.out.trans (hb1.mono HB.out.size));clear hb1 HC;go_wp2_with fail
 go_ret2
 exact⟨rfl,HB1.out⟩
end Hd
end Go.Proofs.YtlnbjikooadmoaaGreat
namespace Go.Proofs.YtlnbjikooadmoaaGreat
namespace Sn
open Go.RowKit Hd Fm
def preB (s p:ByteArray):Bool:=decide (s.extract 0 p.size=p)
theorem preB_iff (s p:ByteArray):preB s p=true↔s.extract 0 p.size=p:=by unfold preB;rw[decide_eq_true_eq]
set_option maxHeartbeats 1600000 in
set_option maxRecDepth 100000 in
theorem beqL (a b:ByteArray) {r:Bool} (h:decide (a=b)=r):(a.toList==b.toList)=r:=by
 rw[ByteArray.toList_eq,ByteArray.toList_eq];subst h;by_cases hq:a=b
 ·subst hq;simp
 ·rw[decide_eq_false hq,beq_eq_false_iff_ne]
  intro e;obtain⟨⟨a⟩⟩:=a;obtain⟨⟨b⟩⟩:=b;exact hq (by simp only at e;rw[e])
theorem hp1 (s p:ByteArray) (w:World) {b:Bool} (h:preB s p=b):Calls Tryz.prog 154 #[.string s,.string p] w fun e w'=>e=.returned (.bool b)/\w=w':=by
 have mixed:Tryz.prog.follows .mixedOrders=true:=by kernel_rfl
 by_cases hs:p.size<=s.size
 ·have h1:decide (p.size<=s.size)=true:=decide_eq_true hs
  have hb:=Lib.hid (beqL (s.extract 0 p.size) p h);clear h
  go_enter Tryz.func154, Tryz.ntmps154
  go_wp2_with fail
  go_ret
  exact⟨ret_bool hb.out,rfl⟩
 ·have h1:decide (p.size<=s.size)=false:=decide_eq_false hs
  have hb:=Lib.hid (show false=b by
   subst h;rcases hq:preB s p with _|_
   ·rfl
   ·have:=congrArg ByteArray.size ((preB_iff s p).1 hq)
    rw[ByteArray.size_extract] at this;omega)
  clear h
  go_enter Tryz.func154, Tryz.ntmps154
  go_wp2_with fail
  go_ret
  exact⟨ret_bool hb.out,rfl⟩
theorem hp2 (s p:ByteArray) (w:World) {b:Bool} (h:preB s p=b):Calls Tryz.prog 123 #[.string s,.string p] w fun e w'=>e=.returned (.bool b)/\w=w':=by
 have mixed:Tryz.prog.follows .mixedOrders=true:=by kernel_rfl
 have H:=Lib.hid (fun w=>hp1 s p w h);clear h
 go_enter Tryz.func123, Tryz.ntmps123
 go_wp2_with fail
 refine(H.out _).mono ?_;rintro e1 w1 ⟨rfl,rfl⟩;go_wp2_with fail
 go_ret
 exact⟨rfl,rfl⟩
def hdrB (i g f:Nat):ByteArray:=frB 1 (hb i g f)
theorem hb_size (i g f:Nat) (h:1<=i/\i<=999999/\1<=g/\g<=999999/\1<=f/\f<=1000000000):(hb i g f).size<=27:=by
 have h3:=flat_len [i,g,f] (by intro x hx;simp at hx;omega);simp only[List.flatMap_cons,List.flatMap_nil,List.append_nil,List.length_cons,List.length_nil] at h3;unfold hb;show(List.toArray _).size<=27
 rw[List.size_toArray];omega
set_option maxHeartbeats 1600000 in
set_option maxRecDepth 100000 in
theorem begun_ok (s:ByteArray) (i g f:Nat) (w:World) (h:1<=i/\i<=999999/\1<=g/\g<=999999/\1<=f/\f<=1000000000) {b:Bool} (hp:preB s (hdrB i g f)=b) :
  Calls Tryz.prog 87 #[.string s,.agg #[.int .i64 (i:Int),.int .i64 (g:Int),.int .i64 (f:Int)]] w fun e w'=>e=.returned (.tuple #[.int .i64 (if b=true then((hdrB i g f).size:Int) else 0),.bool b])/\Below w.heap.size w w':=by
 have mixed:Tryz.prog.follows .mixedOrders=true:=by kernel_rfl
 have HH:=Lib.hid (hput_yes i g f (w.alloc (.cells #[.int .i64 (i:Int),.int .i64 (g:Int),.int .i64 (f:Int)] 33)) h);have HB:=Lib.hid (ext_alloc w (.cells #[.int .i64 (i:Int),.int .i64 (g:Int),.int .i64 (f:Int)] 33));have HP:=Lib.hid (fun w=>put_any 1 (hb i g f) w (by decide) (by have:=hb_size i g f h;omega));have hsz:=hb_size i g f h;have HX:=Lib.hid (fun w=>hp2 s (hdrB i g f) w hp);have HE:=Lib.hid (show frB 1 (hb i g f)=hdrB i g f from rfl);rw[HE.out] at HP;generalize hdrB i g f=D at *
 generalize hb i g f=E at *
 clear h hp;rcases b with _|_
 all_goals
  go_enter Tryz.func87, Tryz.ntmps87
  go_wp2_with fail
  refine HH.out.mono ?_;rintro e1 w1 ⟨rfl,hb1⟩;have HB1:=Lib.hid (HB.out.trans (hb1.mono HB.out.size));clear hb1;go_wp2_with fail
  refine(HP.out _).mono ?_;rintro e2 w2 ⟨rfl,hb2⟩;have HB2:=Lib.hid (HB1.out.trans (hb2.mono HB1.out.size));clear hb2;go_wp2_with fail
  refine(HX.out _).mono ?_;rintro e3 w3 ⟨rfl,rfl⟩;go_wp2_with fail
  go_ret2
  exact⟨rfl,HB2.out⟩
set_option maxHeartbeats 1600000 in
set_option maxRecDepth 100000 in
theorem begun_no (s:ByteArray) (i g f:Int) (w:World) (h:okH i g f=false) :
  Calls Tryz.prog 87 #[.string s,.agg #[.int .i64 i,.int .i64 g,.int .i64 f]] w fun e w'=>e=.returned (.tuple #[.int .i64 0,.bool false])/\Below w.heap.size w w':=by
 have mixed:Tryz.prog.follows .mixedOrders=true:=by kernel_rfl
 have HH:=Lib.hid (hput_no i g f (w.alloc (.cells #[.int .i64 i,.int .i64 g,.int .i64 f] 33)) h);have HB:=Lib.hid (ext_alloc w (.cells #[.int .i64 i,.int .i64 g,.int .i64 f] 33));clear h
 go_enter Tryz.func87, Tryz.ntmps87
 go_wp2_with fail
 refine HH.out.mono ?_;rintro e1 w1 ⟨rfl,hb1⟩;have HB1:=Lib.hid (HB.out.trans (hb1.mono HB.out.size));clear hb1;go_wp2_with fail
 go_ret2
 exact⟨rfl,HB1.out⟩
end Sn
end Go.Proofs.YtlnbjikooadmoaaGreat
namespace Go.Proofs.YtlnbjikooadmoaaGreat
namespace Dk
open Go.RowKit Hd Fm Sn
section
variable {w w':World} {S:Nat->Prop} {bd gN gS:Nat} {v:Value} {D:DS}
theorem rd_blk {g:Nat} {cs:Array Value} {t:TypeId} (h:Blk w g cs t):Rd w w.heap.size 1 (some ⟨g,0,none⟩) cs.size cs.toList :=
 ⟨by simp,fun _=>⟨_,rfl,h.lt,fun j u hu=>by
  rw[Addr.add_lit,Nat.zero_add];exact h.cell j (by simpa using hu)⟩⟩
structure Calm (D:DS):Prop where
 off:D.off=false
 armed:D.armed=0
theorem Calm.e (h:Calm D):opE D=0:=if_neg (by rw[h.armed];omega)
theorem Calm.s (h:Calm D) (b:Bool) (act:DS->DS):opS b act D=act (tick D):=if_neg (by rw[h.armed];omega)
theorem Calm.tick (h:Calm D):Calm (tick D):=⟨h.off,by show max (D.armed-1) 0=0;rw[h.armed];rfl⟩
theorem Calm.setF (h:Calm D) (b:Nat) (p:ByteArray×ByteArray):Calm (setF b p D):=⟨h.off,h.armed⟩
theorem Calm.chg (h:Calm D) (c:ByteArray×ByteArray×Option Nat):Calm (chgD c D):=⟨h.off,h.armed⟩
theorem Calm.up (h:Calm D):upE D=0:=by unfold upE;rw[h.off];rfl
set_option maxHeartbeats 1600000 in
theorem create1_go (h:DiskAt w S bd D) {bS:Nat} {i g f:Int} {s:ByteArray} (hb:Blk w bS (sgc bd i g f s) 77) (ho:D.off=false) (hs:Nm.check s.data.toList=0) (hl:lk s D.now=none) (hn:D.now.length<200) (hc:D.chg.length<=1000000) :
  Calls Tryz.prog 79 #[.pointer (some ⟨bS,0,none⟩)] w fun e w'=>e=.returned (.int .i64 (opE D))/\ ∃b S',D.fl b=none/\DiskAt w' S' bd (opS false (chgD (s,⟨#[]⟩,some b)) (setF b (⟨#[]⟩,⟨#[]⟩) D))/\Gr S w S' w':=by
 have HC:=Lib.hid (create_go h ho hs hl hn hc);have k0:=hb.cell 0 (v:=.pointer (some ⟨bd,0,none⟩)) rfl;have k4:=hb.cell 4 (v:=.string s) rfl;clear h hb ho hs hl hn hc
 go_enter Tryz.func79, Tryz.ntmps79
 go_wp2_with (go_at_call 63;refine HC.out.mono ?_;rintro e5 w5 ⟨rfl,b,S5,hf5,hD5,hG5⟩;have HD5:=Lib.hid (And.intro hf5 (And.intro hD5 hG5));clear hf5 hD5 hG5)
 go_ret
 exact⟨rfl,b,S5,HD5.out⟩
set_option maxHeartbeats 1600000 in
theorem create2_go (h:DiskAt w S bd D) {bS bB:Nat} {i g f:Int} {s body:ByteArray} (hS:Blk w bS (sgc bd i g f s) 77) (hB:Blk w bB #[.string body] 9) {b:Nat} {p:ByteArray×ByteArray} (ho:D.off=false) (hl:lk s D.now=some b) (hp:D.fl b=some p) (hb:body.size<=60000)
  (h1:p.2.size+(body.size+9)<=1000000) (h2:(body.size:Int)+9+(usedD D:Int)<=D.cap) :
  Calls Tryz.prog 80 #[.pointer (some ⟨bS,0,none⟩),.pointer (some ⟨bB,0,none⟩)] w fun e w'=>e=.returned (.int .i64 (opE D))/\ ∃S',DiskAt w' S' bd (opS false (setF b (p.1,p.2++frB 1 body)) D)/\Gr S w S' w':=by
 have HC:=Lib.hid (sput_go (k:=1) h (i:=i) (g:=g) (f:=f) ho hl hp (by decide) hb h1 h2);rw[show((1:UInt8).toNat:Int)=1 from rfl] at HC;unfold sgc at *
 have k0:=hS.cell 0 (v:=.pointer (some ⟨bd,0,none⟩)) rfl;have k1:=hS.cell 1 (v:=.int .i64 i) rfl;have k2:=hS.cell 2 (v:=.int .i64 g) rfl;have k3:=hS.cell 3 (v:=.int .i64 f) rfl;have k4:=hS.cell 4 (v:=.string s) rfl;have b0:=hB.cell 0 (v:=.string body) rfl;clear h hS hB ho hl hp hb h1 h2
 go_enter Tryz.func80, Tryz.ntmps80
 go_wp2_with (go_at_call 37;refine HC.out.mono ?_;rintro e5 w5 ⟨rfl,S5,hD5,hG5⟩;have HD5:=Lib.hid hD5;have HG5:=Lib.hid hG5;clear hD5 hG5)
 go_ret
 exact⟨rfl,S5,HD5.out,HG5.out⟩
end
end Dk
end Go.Proofs.YtlnbjikooadmoaaGreat
namespace Go.Proofs.YtlnbjikooadmoaaGreat
namespace Dk
open Go.RowKit Hd Fm Sn
theorem lk_pt (s:ByteArray) (b:Nat):∀l,lk s (pt s b l)=some b
 | []=>by rw[pt,lk_cons,if_pos rfl]
 |x::l=>by
  unfold pt;split
  ·rw[lk_cons,if_pos rfl]
  ·rename_i h
   rw[lk_cons,if_neg h,lk_pt s b l]
theorem pt_new (s:ByteArray) (b:Nat):∀l,lk s l=none->pt s b l=l++[(s,b)]
 | [],_=>rfl
 |x::l,h=>by
  rw[lk_cons] at h;split at h
  ·cases h
  ·rename_i hx
   rw[pt,if_neg hx,pt_new s b l h];rfl
theorem szs_other {fl:Nat->Option (ByteArray×ByteArray)} {b:Nat} (p:ByteArray×ByteArray):∀l:List (ByteArray×Nat),(∀x∈l,x.2≠b)->szs (fun k=>if k=b then some p else fl k) l=szs fl l
 | [],_=>rfl
 |x::l,h=>by
  rw[szs,szs,if_neg (h x (List.mem_cons_self ..)),szs_other p l fun y hy=>h y (List.mem_cons_of_mem _ hy)]
def d1 (s:ByteArray) (b:Nat) (D:DS):DS:=chgD (s,⟨#[]⟩,some b) (tick (setF b (⟨#[]⟩,⟨#[]⟩) D))
def d2 (s:ByteArray) (T:ByteArray) (b:Nat) (D:DS):DS:=setF b (⟨#[]⟩,⟨#[]⟩++T) (tick (d1 s b D))
def d3 (s:ByteArray) (T:ByteArray) (b:Nat) (D:DS):DS:=setF b (⟨#[]⟩++T,⟨#[]⟩++T) (tick (d2 s T b D))
theorem d1_now {s:ByteArray} {b:Nat} {D:DS} (hl:lk s D.now=none):(d1 s b D).now=D.now++[(s,b)]:=by
 show app (s,⟨#[]⟩,some b) D.now=_
 unfold app;dsimp only;rw[if_pos rfl,pt_new s b _ hl]
theorem d1_used {s:ByteArray} {b:Nat} {D:DS} (hl:lk s D.now=none) (hf:Fit D) (hb:D.fl b=none):usedD (d1 s b D)=usedD D:=by
 unfold usedD;rw[d1_now hl,szs_append];have e:(d1 s b D).fl=fun k=>if k=b then some (⟨#[]⟩,⟨#[]⟩) else D.fl k:=rfl
 rw[e,szs_other _ _ fun x hx h=>hf.wfN x hx (by rw[h];exact hb)];rw[szs,szs,if_pos rfl];rfl
theorem opS_calm {D:DS} (h:Calm D) (b:Bool) (act:DS->DS):opS b act D=act (tick D):=h.s b act
section
variable {w w':World} {S:Nat->Prop} {bd gN gS:Nat} {v:Value} {D:DS}
theorem DiskAt.fit (h:DiskAt w S bd D):Fit D:=by
 obtain⟨gN,gS,v,h⟩:=h;exact h.fit
set_option maxHeartbeats 1600000 in
theorem create_all (h:DiskAt w S bd D) (hc:Calm D) {bS bB gF:Nat} {i g f:Int} {s body:ByteArray} (hS:Blk w bS (sgc bd i g f s) 77) (hB:Blk w bB #[.string body] 9)
  (hF:Blk w gF #[.func (.func 79) #[] #[.pointer (some ⟨bS,0,none⟩)],.func (.func 80) #[] #[.pointer (some ⟨bS,0,none⟩),.pointer (some ⟨bB,0,none⟩)],.func (.func 53) #[.agg (sgc bd i g f s)] #[]] 57)
  (nS: ¬ S bS) (nB: ¬ S bB) (nF: ¬ S gF) (hs:Nm.check s.data.toList=0) (hl:lk s D.now=none) (hn:D.now.length<200) (hch:D.chg.length<=1000000) (hb:body.size<=60000) (h2:(body.size:Int)+9+(usedD D:Int)<=D.cap) :
  Calls Tryz.prog 47 #[.slice (some ⟨gF,0,none⟩) 3 3] w fun e w'=>e=.returned (.int .i64 0)/\ ∃b S',D.fl b=none/\DiskAt w' S' bd (d3 s (frB 1 body) b D)/\Gr S w S' w':=by
 have hfit:=h.fit
 let R:Nat->DS->Prop:=fun k D'=>match k with
  |0=>D'=D
  |1=>∃b,D.fl b=none/\D'=d1 s b D
  |2=>∃b,D.fl b=none/\D'=d2 s (frB 1 body) b D
  |_=>∃b,D.fl b=none/\D'=d3 s (frB 1 body) b D
 refine(all_any [(79,#[],#[.pointer (some ⟨bS,0,none⟩)]),(80,#[],#[.pointer (some ⟨bS,0,none⟩),.pointer (some ⟨bB,0,none⟩)]),(53,#[.agg (sgc bd i g f s)],#[])]
  (some ⟨gF,0,none⟩) 3 3 w (fun k wx=>∃S' D',Gr S w S' wx/\DiskAt wx S' bd D'/\R k D') (fun _ _=>False) (by omega) ?_ ⟨S,D,Gr.refl _ _,h,rfl⟩ ?_ ?_).mono ?_
 ·rintro k wx ⟨S',D',g1,-⟩
  exact rd_blk (g1.blk hF nF)
 ·intro f' hf'
  simp only[List.mem_cons,List.not_mem_nil,or_false] at hf';rcases hf' with rfl|rfl|rfl
  ·exact enters_of Tryz.func79 (by kernel_rfl) rfl
  ·exact enters_of Tryz.func80 (by kernel_rfl) rfl
  ·exact enters_of Tryz.func53 (by kernel_rfl) rfl
 ·intro k f' hf' wx hJ
  obtain⟨S',D',g1,hD,hR⟩:=hJ;rcases k with _|_|_|k
  ·simp only[List.getElem?_cons_zero,Option.some.injEq] at hf'
   subst hf';obtain rfl:D'=D:=hR;refine(create1_go hD (g1.blk hS nS) hc.off hs hl hn hch).mono ?_;rintro e w2 ⟨rfl,b,S2,hbn,hD2,g2⟩;refine⟨0,by rw[hc.e],.inl ⟨rfl,S2,_,g1.trans g2,hD2,b,hbn,?_⟩⟩;rw[opS_calm (hc.setF b _)];rfl
  ·simp only[List.getElem?_cons_succ,List.getElem?_cons_zero,Option.some.injEq] at hf'
   subst hf';obtain⟨b,hbn,rfl⟩:∃b,D.fl b=none/\D'=d1 s b D:=hR;have c1:Calm (d1 s b D):=((hc.setF b _).tick).chg _;refine(create2_go hD (g1.blk hS nS) (g1.blk hB nB) (b:=b) (p:=(⟨#[]⟩,⟨#[]⟩)) c1.off (by rw[d1_now hl,<-pt_new s b _ hl];exact lk_pt s b _) (by show(if b=b then _ else _)=_;rw[if_pos rfl]) hb (by show 0+_<=_;omega) (by rw[d1_used hl hfit hbn];exact h2)).mono ?_;rintro e w2 ⟨rfl,S2,hD2,g2⟩;refine⟨0,by rw[c1.e],.inl ⟨rfl,S2,_,g1.trans g2,hD2,b,hbn,?_⟩⟩;rw[opS_calm c1];rfl
  ·simp only[List.getElem?_cons_succ,List.getElem?_cons_zero,Option.some.injEq] at hf'
   subst hf';obtain⟨b,hbn,rfl⟩:∃b,D.fl b=none/\D'=d2 s (frB 1 body) b D:=hR;have c1:Calm (d2 s (frB 1 body) b D):=(((hc.setF b _).tick).chg _).tick.setF b _;refine(ssync_go hD (b:=b) (p:=(⟨#[]⟩,⟨#[]⟩++frB 1 body)) c1.off (by show lk s (d1 s b D).now=_;rw[d1_now hl,<-pt_new s b _ hl];exact lk_pt s b _) (by show(if b=b then _ else _)=_;rw[if_pos rfl])).mono ?_;rintro e w2 ⟨rfl,S2,hD2,g2⟩;refine⟨0,by rw[c1.e],.inl ⟨rfl,S2,_,g1.trans g2,hD2,b,hbn,?_⟩⟩;rw[opS_calm c1];rfl
  ·simp at hf'
 ·rintro e w' ⟨x,rfl,⟨rfl,S',D',g1,hD,b,hbn,rfl⟩|⟨-,hF⟩⟩
  ·exact⟨rfl,b,S',hbn,hD,g1⟩
  ·exact hF.elim
end
end Dk
end Go.Proofs.YtlnbjikooadmoaaGreat
namespace Go.Proofs.YtlnbjikooadmoaaGreat
namespace Dk
open Go.RowKit Hd Fm Sn
section
variable {w w':World} {S:Nat->Prop} {bd gN gS:Nat} {v:Value} {D:DS}
set_option maxHeartbeats 3200000 in
set_option maxRecDepth 100000 in
theorem screate_go (h:DiskAt w S bd D) (hc:Calm D) {i g f:Nat} {s:ByteArray} (hh:1<=i/\i<=999999/\1<=g/\g<=999999/\1<=f/\f<=1000000000) (hs:Nm.check s.data.toList=0) (hl:lk s D.now=none) (hn:D.now.length<200) (hch:D.chg.length<=1000000) (h2:(36:Int)+(usedD D:Int)<=D.cap) :
  Calls Tryz.prog 31 #[.agg (sgc bd i g f s)] w fun e w'=>e=.returned (.int .i64 0)/\ ∃b S',D.fl b=none/\DiskAt w' S' bd (d3 s (hdrB i g f) b D)/\Gr S w S' w':=by
 have hbs:=hb_size i g f hh;have HP:=Lib.hid (fun w=>hput_yes i g f w hh);have nlt:∀k,w.heap.size<=k-> ¬ S k:=by
  obtain⟨gN,gS,v,h⟩:=h;exact fun k hk=>h.gt hk
 have HA:=Lib.hid (show ∀w1 w3,Below w.heap.size w w1->Blk w1 w.heap.size (sgc bd i g f s) 77 ->
   w3=(w1.alloc (.cells #[.string (hb i g f)] 9)).alloc (.cells #[.func (.func 79) #[] #[.pointer (some ⟨w.heap.size,0,none⟩)],.func (.func 80) #[] #[.pointer (some ⟨w.heap.size,0,none⟩),.pointer (some ⟨w1.heap.size,0,none⟩)],.func (.func 53) #[.agg (sgc bd i g f s)] #[]] 57) ->
   Calls Tryz.prog 47 #[.slice (some ⟨w1.heap.size+1,0,none⟩) 3 3] w3 fun e w'=>e=.returned (.int .i64 0)/\ ∃b S',D.fl b=none/\DiskAt w' S' bd (d3 s (hdrB i g f) b D)/\Gr S w S' w' from by
  rintro w1 w3 hb1 hS rfl;have e2:=ext_second w1 (.cells #[.string (hb i g f)] 9) (.cells #[.func (.func 79) #[] #[.pointer (some ⟨w.heap.size,0,none⟩)],.func (.func 80) #[] #[.pointer (some ⟨w.heap.size,0,none⟩),.pointer (some ⟨w1.heap.size,0,none⟩)],.func (.func 53) #[.agg (sgc bd i g f s)] #[]] 57);have e3:=hb1.trans (e2.mono hb1.size);refine(create_all (h.ext e3) hc (hS.ext e2) ((Blk.new w1 _ _).alloc _) (blk_second w1 _ _ _) (nlt _ (Nat.le_refl _)) (nlt _ hb1.size) (nlt _ (Nat.le_succ_of_le hb1.size)) hs hl hn hch (by omega) (by omega)).mono ?_;rintro e w' ⟨rfl,b,S',q1,q2,q3⟩;exact⟨rfl,b,S',q1,q2,(Gr.of_below e3).trans q3⟩)
 clear h hc hh hs hl hn hch h2 hbs nlt;unfold sgc at *
 have B0:=Blk.new w #[.pointer (some ⟨bd,0,none⟩),.int .i64 i,.int .i64 g,.int .i64 f,.string s] 77;have B2:=ext_alloc w (.cells #[.pointer (some ⟨bd,0,none⟩),.int .i64 i,.int .i64 g,.int .i64 f,.string s] 77);generalize hb i g f=H at *
 go_enter Tryz.func31, Tryz.ntmps31
 go_wp2_with (first
  |(go_at_call 32;refine(HP.out _).mono ?_;rintro e1 w1 ⟨rfl,hb1⟩;have HB1:=Lib.hid (B0.ext hb1);have HW1:=Lib.hid (B2.trans (hb1.mono B2.size));clear hb1 B0 B2;have k0:=HB1.out.cell 0 (v:=.pointer (some ⟨bd,0,none⟩)) rfl;have k1:=HB1.out.cell 1 (v:=.int .i64 i) rfl;have k2:=HB1.out.cell 2 (v:=.int .i64 g) rfl;have k3:=HB1.out.cell 3 (v:=.int .i64 f) rfl;have k4:=HB1.out.cell 4 (v:=.string s) rfl;have l0:=HB1.out.lt)
  |(go_at_call 47;refine(HA.out _ _ HW1.out HB1.out rfl).mono ?_;rintro e5 w5 ⟨rfl,b,S5,hf5,hD5,hG5⟩;have HD5:=Lib.hid (And.intro hf5 (And.intro hD5 hG5));clear hf5 hD5 hG5))
 go_ret
 exact⟨rfl,b,S5,HD5.out⟩
set_option maxHeartbeats 3200000 in
set_option maxRecDepth 100000 in
theorem Create_go (h:DiskAt w S bd D) (hc:Calm D) {i g f:Nat} (hh:1<=i/\i<=999999/\1<=g/\g<=999999/\1<=f/\f<=1000000000) (hl:lk (segN i g) D.now=none) (hn:D.now.length<200) (hch:D.chg.length<=1000000) (h2:(36:Int)+(usedD D:Int)<=D.cap) :
  Calls Tryz.prog 8 #[.pointer (some ⟨bd,0,none⟩),.agg #[.int .i64 (i:Int),.int .i64 (g:Int),.int .i64 (f:Int)]] w fun e w'=>e=.returned (.int .i64 0)/\ ∃b S',D.fl b=none/\DiskAt w' S' bd (d3 (segN i g) (hdrB i g f) b D)/\Gr S w S' w':=by
 have hs:Nm.check (segN i g).data.toList=0:=Nm.check_seg i g;have HO:=Lib.hid (fun w=>of_ok (bd:=bd) (i:Int) (g:Int) (f:Int) w (by simp only[okH,decide_eq_true_eq];omega));have HC:=Lib.hid (fun(wx:World) (hx:Below w.heap.size w wx)=>screate_go (h.ext hx) hc hh hs hl hn hch h2);clear h hc hh hs hl hn hch h2;unfold sgc at *
 generalize segN i g=s at *
 have B2:=ext_alloc w (.cells #[.int .i64 (i:Int),.int .i64 (g:Int),.int .i64 (f:Int)] 33)
 go_enter Tryz.func8, Tryz.ntmps8
 go_wp2_with (first
  |(go_at_call 30;refine(HO.out _).mono ?_;rintro e1 w1 ⟨rfl,hb1⟩;have HW1:=Lib.hid (B2.trans (hb1.mono B2.size));clear hb1 B2;have HW2:=Lib.hid (HW1.out.trans ((ext_alloc w1 (.cells #[.pointer (some ⟨bd,0,none⟩),.int .i64 i,.int .i64 g,.int .i64 f,.string s] 77)).mono HW1.out.size)))
  |(go_at_call 31;refine(HC.out _ HW2.out).mono ?_;rintro e5 w5 ⟨rfl,b,S5,hf5,hD5,hG5⟩;have HD5:=Lib.hid (And.intro hf5 (And.intro hD5 hG5));clear hf5 hD5 hG5))
 go_ret
 exact⟨rfl,b,S5,HD5.out.1,HD5.out.2.1,(Gr.of_below HW2.out).trans HD5.out.2.2⟩
end
end Dk
end Go.Proofs.YtlnbjikooadmoaaGreat
namespace Go.Proofs.YtlnbjikooadmoaaGreat
namespace Tk
open Go.RowKit
open Bt (Frm)
set_option maxHeartbeats 6400000 in
set_option maxRecDepth 100000 in
theorem caughtB_ok (w:World) (caps:Array Value) (G:World->Prop) (hG:∀w',G w'->Var w' w.heap.size 27 (.int .i64 0)/\Var w' (w.heap.size+1) 3 (.int .i64 0))
  (hf:Calls Tryz.prog 115 caps (wC w) fun e w'=>e=.returned (.tuple #[])/\G w') :
  Calls Tryz.prog 118 #[.func (.func 115) #[] caps] w fun e w'=>e=.returned (.tuple #[.int .i64 0,.int .i64 0])/\ ∃w2,G w2/\Keep w2 w' [w.heap.size,w.heap.size+1]:=by
 have mixed:Tryz.prog.follows .mixedOrders=true:=by kernel_rfl
 have hmf:∀(fn:Fn) (first cap:Array Value) (w:World),(Instr.makeFunc fn first cap).run Tryz.prog w=.ok (.func fn first cap) w:=fun _ _ _ _=>rfl
 have HF:=Lib.hid hf;have HG:=Lib.hid hG;clear hf hG;go_enter_defers Tryz.func118,Tryz.ntmps118
 go_wp2_with fail
 refine HF.out.mono ?_;rintro e1 w1 ⟨rfl,h1⟩;obtain⟨v1,v2⟩:=HG.out w1 h1;have c1:=v1.cell;have f1:=v1.frozen;have c2:=v2.cell;have f2:=v2.frozen;have HX:=Lib.hid (And.intro h1 (And.intro v1 v2));clear h1 v1 v2 HF HG;go_wp2_with fail
 refine leaves_cons (f:=151) (args:=#[.pointer (some ⟨w.heap.size,0,none⟩),.pointer (some ⟨w.heap.size+1,0,none⟩)]) (by simp) (by simp[go_sem]) ?_;refine(catch_idle ⟨w.heap.size,0,none⟩ ⟨w.heap.size+1,0,none⟩ _).mono ?_;rintro e u' w'' ⟨rfl,rfl,rfl⟩;have n1:w.heap.size≠w.heap.size+1:=by omega
 have u1:=(HX.out.2.1.set_ (.int .i64 0)).far (p:=⟨w.heap.size+1,0,none⟩) n1 (.int .i64 0);have u2:=(HX.out.2.2.far (p:=⟨w.heap.size,0,none⟩) (Ne.symm n1) (.int .i64 0)).set_ (.int .i64 0);have hk:Keep w1 ((w1.setCell ⟨w.heap.size,0,none⟩ (.int .i64 0)).setCell ⟨w.heap.size+1,0,none⟩ (.int .i64 0)) [w.heap.size,w.heap.size+1] :=
  ((Keep.refl w1 _).set ⟨w.heap.size,0,none⟩ (.inl (by simp)) _).set ⟨w.heap.size+1,0,none⟩ (.inl (by simp)) _
 have d1:=u1.cell;have d2:=u2.cell;simp[Leaves,settle,results,Tryz.results118,go_sem,d1,d2]
 exact⟨w1,HX.out.1,hk⟩
set_option maxHeartbeats 6400000 in
set_option maxRecDepth 100000 in
theorem caughtB_no (w:World) (caps:Array Value) (x:Int) (G:World->Prop) (hG:∀w',G w'->Var w' w.heap.size 27 (.int .i64 0)/\Var w' (w.heap.size+1) 3 (.int .i64 0))
  (hf:Calls Tryz.prog 115 caps (wC w) fun e w'=>(∃p,e=.panicked [fault x p])/\G w') :
  Calls Tryz.prog 118 #[.func (.func 115) #[] caps] w fun e w'=>(∃p:Int,e=.returned (.tuple #[.int .i64 x,.int .i64 p]))/\ ∃w2,G w2/\Keep w2 w' [w.heap.size,w.heap.size+1]:=by
 have mixed:Tryz.prog.follows .mixedOrders=true:=by kernel_rfl
 have hmf:∀(fn:Fn) (first cap:Array Value) (w:World),(Instr.makeFunc fn first cap).run Tryz.prog w=.ok (.func fn first cap) w:=fun _ _ _ _=>rfl
 have HF:=Lib.hid hf;have HG:=Lib.hid hG;clear hf hG;go_enter_defers Tryz.func118,Tryz.ntmps118
 go_wp2_with fail
 refine HF.out.mono ?_;rintro e1 w1 ⟨⟨p,rfl⟩,h1⟩;obtain⟨v1,v2⟩:=HG.out w1 h1;have n1:w.heap.size≠w.heap.size+1:=by omega
 refine leaves_cons (f:=151) (args:=#[.pointer (some ⟨w.heap.size,0,none⟩),.pointer (some ⟨w.heap.size+1,0,none⟩)]) (by simp) (by simp[go_sem]) ?_;refine(catch_fault w.heap.size (w.heap.size+1) x p w1 _ _ v1 v2 n1).mono ?_;rintro e u' w'' ⟨rfl,rfl,u1,u2,hk⟩;have d1:=u1.cell;have d2:=u2.cell;simp[Leaves,settle,results,Tryz.results118,go_sem,d1,d2]
 exact⟨w1,h1,hk⟩
end Tk
end Go.Proofs.YtlnbjikooadmoaaGreat
namespace Go.Proofs.YtlnbjikooadmoaaGreat
namespace Tk
open Go.RowKit
open Bt (Frm)
set_option maxHeartbeats 3200000 in
theorem ttext1_ok (w:World) (b:Nat) (s:ByteArray) (h:Ta w b s 0) (hs:s.size<=1000000) (hd:1<=s.size) :
  Calls Tryz.prog 149 #[.pointer (some ⟨b,0,none⟩),.int .i64 1] w fun e w'=>e=.returned (.string (s.extract 0 1))/\Ta w' b s 1/\Keep w w' [b]:=by
 have mixed:Tryz.prog.follows .mixedOrders=true:=by kernel_rfl
 have hL:=left_any w b 0 s h hs (by omega);rw[Nat.sub_zero] at hL;have HL:=Lib.hid hL;have H:Aside (Ta w b s 0):=h;have hdp: ¬ (s.size:Int)<1:=by omega
 have hlp:0<s.size:=hd;clear hL h
 go_enter Tryz.func149, Tryz.ntmps149
 go_wp2_with fail
 refine HL.out.mono ?_;rintro e1 w1 ⟨rfl,m,rfl⟩;have hta:Ta (w.drewN m) b s 0:=H.out;have hc1:=hta.c1;have hf1:=hta.fz 1;have hta2:Ta ((w.drewN m).setCell ⟨b,1,none⟩ (.int .i64 1)) b s 1:=hta.set1 1;have hkp:Keep w ((w.drewN m).setCell ⟨b,1,none⟩ (.int .i64 1)) [b]:=((Keep.refl w _).drewN m).set ⟨b,1,none⟩ (.inl (by simp)) _;have HF:=Lib.hid (And.intro hta2 hkp);have d0:=hta2.c0;have d1:((w.drewN m).setCell ⟨b,1,none⟩ (.int .i64 1)).cell? ⟨b,1,none⟩=some (.int .i64 1):=hta2.c1;clear hta hkp hta2;have hc1':(w.drewN m).cell? ⟨b,1,none⟩=some (.int .i64 0):=hc1;clear hc1;go_wp2_with fail
 generalize (w.drewN m).setCell ⟨b,1,none⟩ (.int .i64 1)=w2 at *
 have i1:(1:Int)<=(s.size:Int):=by omega
 clear hc1' hf1;go_quiet (fail)
 go_wp2_with fail
 go_ret
 exact⟨rfl,HF.out.1,HF.out.2.drewN _⟩
set_option maxHeartbeats 3200000 in
theorem ttext1_no (w:World) (b:Nat) (s:ByteArray) (h:Ta w b s 0) (hs:s.size<=1000000) (hd:s.size=0) :
  Calls Tryz.prog 149 #[.pointer (some ⟨b,0,none⟩),.int .i64 1] w fun e w'=>e=.panicked [fault 4 0]/\Keep w w' [b]:=by
 have mixed:Tryz.prog.follows .mixedOrders=true:=by kernel_rfl
 have hL:=left_any w b 0 s h hs (by omega);rw[hd] at hL;have HL:=Lib.hid hL;have HC:=Lib.hid (fun m=>check_no (w.drewN m) b 0 s 4 h (by decide));clear hL h hd
 go_enter Tryz.func149, Tryz.ntmps149
 go_wp2_with fail
 refine HL.out.mono ?_;rintro e1 w1 ⟨rfl,m,rfl⟩;go_wp2_with fail
 refine(HC.out m).mono ?_;rintro e1 w1 ⟨rfl,rfl⟩;exact⟨rfl,rfl,(Keep.refl w _).drewN m⟩
set_option maxHeartbeats 3200000 in
theorem byte_ok (w:World) (b:Nat) (s:ByteArray) (h:Ta w b s 0) (hs:s.size<=1000000) (c:UInt8) (r:List UInt8) (hc:s.data.toList=c::r) :
  Calls Tryz.prog 116 #[.pointer (some ⟨b,0,none⟩)] w fun e w'=>e=.returned (.int .i64 (c.toNat:Int))/\Ta w' b s 1/\Keep w w' [b]:=by
 have mixed:Tryz.prog.follows .mixedOrders=true:=by kernel_rfl
 have hd:1<=s.size:=by
  have:s.data.toList.length=s.size:=rfl;rw[hc,List.length_cons] at this;omega
 have HT:=Lib.hid (ttext1_ok w b s h hs hd);have hx:s.extract 0 1=⟨#[c]⟩:=by
  apply ByteArray.ext
  apply Array.ext'
  rw[ByteArray.data_extract,Array.toList_extract,hc];simp[List.extract_eq_take_drop]
 rw[hx] at HT;have hcb:=c.toNat_lt;clear hx h hc hd
 go_enter Tryz.func116, Tryz.ntmps116
 go_wp2_with fail
 refine HT.out.mono ?_;rintro e1 w1 ⟨rfl,hta,hk⟩;have HX:=Lib.hid (And.intro hta hk);clear hta hk;go_wp2_with fail
 go_ret
 refine⟨ret_int (k:=.i64) ?_,HX.out⟩;exact Vi.wrap64_nat c.toNat (by omega)
set_option maxHeartbeats 3200000 in
theorem byte_no (w:World) (b:Nat) (s:ByteArray) (h:Ta w b s 0) (hs:s.size<=1000000) (hd:s.size=0) :
  Calls Tryz.prog 116 #[.pointer (some ⟨b,0,none⟩)] w fun e w'=>e=.panicked [fault 4 0]/\Keep w w' [b]:=by
 have mixed:Tryz.prog.follows .mixedOrders=true:=by kernel_rfl
 have HT:=Lib.hid (ttext1_no w b s h hs hd);clear h hd
 go_enter Tryz.func116, Tryz.ntmps116
 go_wp2_with fail
 refine HT.out.mono ?_;rintro e1 w1 ⟨rfl,hk⟩;exact⟨rfl,rfl,hk⟩
end Tk
end Go.Proofs.YtlnbjikooadmoaaGreat
namespace Go.Proofs.YtlnbjikooadmoaaGreat
namespace Rd
open Go.RowKit Vi Bd
def jS (l:List (Int×Int×ByteArray)):ByteArray:=if jE l=0 then⟨(joinB l).toArray⟩ else⟨#[]⟩
theorem jS_ok {l:List (Int×Int×ByteArray)} (h:jE l=0):jS l=⟨(joinB l).toArray⟩:=if_pos h
theorem jS_no {l:List (Int×Int×ByteArray)} (h:jE l≠0):jS l=⟨#[]⟩:=if_neg h
theorem recB_le (r:Int×Int×ByteArray) (h:ok1 r=true):(recB r).length<=2027:=by
 rw[ok1_iff] at h;have l1:=length_putV_le r.1.toNat 8 (by omega);have l2:=length_putV_le r.2.1.toNat 8 (by omega);have l3:=length_putV_le r.2.2.size 8 (by omega);have:r.2.2.data.toList.length=r.2.2.size:=rfl;unfold recB;simp only[List.length_append];omega
theorem joinB_append (a b:List (Int×Int×ByteArray)):joinB (a++b)=joinB a++joinB b:=List.flatMap_append ..
theorem joinB_take {l:List (Int×Int×ByteArray)} {k:Nat} {r:Int×Int×ByteArray} (h:l[k]? =some r):joinB (l.take (k+1))=joinB (l.take k)++recB r:=by
 have e:l.take (k+1)=l.take k++[r]:=by rw[List.take_add_one,h];rfl
 rw[e,joinB_append];simp[joinB]
theorem joinB_le (l:List (Int×Int×ByteArray)) (k:Nat):(joinB (l.take k)).length<=(joinB l).length:=by
 conv=>rhs;rw[<-List.take_append_drop k l,joinB_append,List.length_append]
 omega
set_option maxHeartbeats 6400000 in
set_option maxRecDepth 100000 in
theorem join_any (A:Option Addr) (n c:Nat) (l:List (Int×Int×ByteArray)) (w:World) (hrd:Rd w w.heap.size 3 A n (fl3 l)) (hn:n<=1000000) :
  Calls Tryz.prog 27 #[.slice A n c] w fun e w'=>e=.returned (.tuple #[.string (jS l),.int .i64 (jE l)])/\Below w.heap.size w w':=by
 have mixed:Tryz.prog.follows .mixedOrders=true:=by kernel_rfl
 have hln:=rd3_len hrd;have HR:=Lib.hid hrd;have HW:=Lib.hid (row_any A n c l w hrd (by omega));clear hrd;by_cases hr:rowE none l=0
 ·have hok:=rowE_ok l none hr
  have HOK:=Lib.hid hok;have hje:20000<(joinB l).length->jE l=3:=fun h=>by unfold jE;rw[if_neg (by simp[hr]),if_pos h]
  have hje2: ¬ 20000<(joinB l).length->jE l=0:=fun h=>by unfold jE;rw[if_neg (by simp[hr]),if_neg h]
  have HJ:=Lib.hid (And.intro hje hje2);rw[hr] at HW;have P:=Lib.hid (fun q t d w h=>rput_any q t d w h);clear hok hje hje2 hr
  go_enter Tryz.func27, Tryz.ntmps27
  go_wp2_with fail
  refine HW.out.mono ?_;rintro e1 w1 ⟨rfl,hb1⟩;have HB:=Lib.hid (show Below w.heap.size w (w1.alloc (.cells #[.pointer none,.slice none 0 0] 120)) from hb1.alloc hb1.size _);have HBB:=Lib.hid (bb_new w1);have hlt:=hb1.size;clear HW hb1;go_wp2_with fail
  generalize hB:w1.heap.size=B at *
  have hB2:B<=(w1.alloc (.cells #[.pointer none,.slice none 0 0] 120)).heap.size:=by simp;omega
  clear hB;generalize w1.alloc (.cells #[.pointer none,.slice none 0 0] 120)=w4 at *
  go_loopw [17] (fun v wr=>∃k:Nat,v=.int .i64 k/\k<=n/\Hid (Bb wr B B (joinB (l.take k))/\Below B w4 wr/\B<=wr.heap.size/\(joinB (l.take k)).length<=20000)) (fun v _=>n-(intOf v).toNat)
  case atStart=>exact⟨0,by go_num,by omega,HBB.out,Below.refl _ _,hB2,by simp[joinB]⟩
  case round =>
   obtain⟨k,rfl,hk,HX⟩:=hrel;by_cases hkn:k<n
   ·have hbw:=HB.out.trans (HX.out.2.1.mono hlt)
    obtain⟨ad,q,t,d,rfl,hbk,hx,hc0,hc1,hc2⟩:=rec3 (HR.out.below hbw) hkn;have ho:ok1 (q,t,d)=true:=HOK.out _ (List.mem_of_getElem? hx);have hoo:=ho;rw[ok1_iff] at hoo;obtain⟨q,rfl⟩:=Int.eq_ofNat_of_zero_le (show 0<=q by have:=hoo.1;simp only at this;omega);obtain⟨t,rfl⟩:=Int.eq_ofNat_of_zero_le (show 0<=t by have:=hoo.2.2.1;simp only at this;omega);clear hoo hbw;have hle:=recB_le _ ho;have HT:=Lib.hid (joinB_take hx);have hlen:=HX.out.2.2.2;have HL:=Lib.hid (joinB_le l (k+1));go_wp2_with fail
    refine(P.out q t d _ ho).mono ?_;rintro e2 w2 ⟨rfl,hb2⟩;obtain⟨sb,hsb⟩:∃sb:ByteArray,sb=⟨(recB ((q:Int),(t:Int),d)).toArray⟩:=⟨_,rfl⟩
    have hs1:sb.size=(recB ((q:Int),(t:Int),d)).length:=by rw[hsb];simp[ByteArray.size]
    have hs2:sb.data.toList=recB ((q:Int),(t:Int),d):=by rw[hsb]
    have hT2:=congrArg List.length HT.out;rw[List.length_append] at hT2;rw[<-hsb];have HBB2:=Lib.hid (Bb_below (HX.out.1.keep (w':=wr.alloc (.cells #[.int .i64 (q:Int),.int .i64 (t:Int),.string d] 31)) (by simp) fun k _ hk=>Below.heap_alloc wr _ k hk) hb2);have HB2:=Lib.hid (ext_trans (ext_alloc wr _) hb2);have hLen:=Lib.hid (len_any B B _ w2 HBB2.out);have HB3:=Lib.hid (HX.out.2.1.trans (HB2.out.mono HX.out.2.2.1));have hB3:B<=w2.heap.size:=by have:=HB2.out.size;have:=HX.out.2.2.1;omega
    have HBW:=Lib.hid (HB.out.trans (HB3.out.mono hlt));have HS:=Lib.hid hs2;generalize hjl:(joinB (l.take k)).length=jl at *
    have hjl2:jl<=20000:=HX.out.2.2.2;have HJL:=Lib.hid hjl;have hbd:sb.size<=2027:=by omega
    have HT2:=Lib.hid hT2;have HS1:=Lib.hid hs1;clear hsb hs1 hs2 hT2 hb2 hle hjl P HOK ho HX hc0 hc1 hc2;go_wp2_with fail
    by_cases hbig:20000<jl+sb.size
    ·have hj3:jE l=3:=HJ.out.1 (by have:=HL.out;have:=HT2.out;have:=HS1.out;omega)
     have hcmp:(20000:Int)-(jl:Int)<(sb.size:Int):=by omega
     go_wp2_with fail
     refine hLen.out.mono ?_;rintro e3 w3 ⟨rfl,rfl⟩;go_wp2_with fail
     go_ret2
     rw[jS_no (by rw[hj3];decide),hj3];exact⟨rfl,HBW.out⟩
    ·have hcmp: ¬ (20000:Int)-(jl:Int)<(sb.size:Int):=by omega
     have HWr:=Lib.hid (write_any B B (joinB (l.take k)) sb w2 HBB2.out (by have:=HJL.out;omega) hB3);go_wp2_with fail
     refine hLen.out.mono ?_;rintro e3 w3 ⟨rfl,rfl⟩;go_wp2_with fail
     refine HWr.out.mono ?_;rintro e4 w5 ⟨rfl,hbb5,hb5⟩;rw[HS.out,<-HT.out] at hbb5;have HX5:=Lib.hid (show Bb w5 B B (joinB (l.take (k+1)))/\Below B w4 w5/\B<=w5.heap.size/\(joinB (l.take (k+1))).length<=20000 from
      ⟨hbb5,HB3.out.trans hb5,by have:=hb5.size;omega,by have:=HT2.out;have:=HS1.out;omega⟩)
     clear hbb5 hb5 HWr HBB2 HB3 HB2 hLen HS HT HT2 HS1 HJL hx;go_wp2_with fail
     exact⟨⟨k+1,by go_num,by omega,HX5.out⟩,by simp[intOf];omega⟩
   ·obtain rfl:k=n:=by omega
    have ht:l.take k=l:=List.take_of_length_le (by omega);have HX2:=Lib.hid HX.out;rw[ht] at HX2;have hj0:jE l=0:=HJ.out.2 (by have:=HX2.out.2.2.2;omega);have HJ0:=Lib.hid hj0;have HS:=Lib.hid (string_any B B _ wr HX2.out.1 HX2.out.2.2.1);clear HX ht hj0 P HOK;go_wp2_with fail
    refine HS.out.mono ?_;rintro e2 w2 ⟨rfl,hb2⟩;have HB5:=Lib.hid (HB.out.trans ((HX2.out.2.1.trans hb2).mono hlt));clear hb2 HS;go_wp2_with fail
    go_ret2
    rw[jS_ok HJ0.out,HJ0.out];exact⟨rfl,HB5.out⟩
 ·have hje:jE l=rowE none l:=by unfold jE;rw[if_pos hr]
  have hjs:=jS_no (l:=l) (by rw[hje];exact hr);rw[hje,hjs];generalize rowE none l=x at *
  have hb1:(x != 0)=true:=by rw[bne_iff_ne];exact hr
  have hb2:(x==0)=false:=by rw[beq_eq_false_iff_ne];exact hr
  clear hje hjs
  go_enter Tryz.func27, Tryz.ntmps27
  go_wp2_with fail
  refine HW.out.mono ?_;rintro e1 w1 ⟨rfl,hb1⟩;have HB1:=Lib.hid hb1;clear hb1;go_wp2_with fail
  go_ret2
  exact⟨rfl,HB1.out⟩
end Rd
end Go.Proofs.YtlnbjikooadmoaaGreat
namespace Go.Proofs.YtlnbjikooadmoaaGreat
namespace Rd
open Go.RowKit Vi Bd
theorem vget_ok (w:World) (p n len:Nat) (s:ByteArray) (hs:s.size<=1000000) (hp:p<=s.size) (hg:gv 0 0 (s.data.toList.drop p)=(n,len,0)) :
  Calls Tryz.prog 145 #[.string s,.int .i64 (p:Int)] w fun e w'=>e=.returned (.tuple #[.int .i64 (n:Int),.int .i64 ((p+len:Nat):Int),.int .i64 0])/\w=w':=by
 have hl:s.data.toList.length=s.size:=rfl;have hgv:getV s.data.toList (p:Int)=((n:Int),((p+len:Nat):Int),0):=by
  unfold getV;rw[if_neg (by rw[hl];omega),Int.toNat_natCast,hg];simp
 have hv:=get_any s (p:Int) w hs;rw[hgv] at hv;exact hv
theorem vget_no (w:World) (p:Nat) (s:ByteArray) (hs:s.size<=1000000) (hp:p<=s.size) (hg:(gv 0 0 (s.data.toList.drop p)).2.2≠0) :
  Calls Tryz.prog 145 #[.string s,.int .i64 (p:Int)] w fun e w'=>e=.returned (.tuple #[.int .i64 0,.int .i64 0,.int .i64 (gv 0 0 (s.data.toList.drop p)).2.2])/\w=w':=by
 have hl:s.data.toList.length=s.size:=rfl;have hgv:getV s.data.toList (p:Int)=(0,0,(gv 0 0 (s.data.toList.drop p)).2.2):=by
  unfold getV;rw[if_neg (by rw[hl];omega),Int.toNat_natCast,if_neg hg]
 have hv:=get_any s (p:Int) w hs;rw[hgv] at hv;exact hv
theorem gv_in (s:ByteArray) (p n len:Nat) (hp:p<=s.size) (hg:gv 0 0 (s.data.toList.drop p)=(n,len,0)):n<9223372036854775808/\p+len<=s.size:=by
 obtain⟨m,rest,h1,h2,h3,h4,-⟩:=gv_some _ 0 0 n len hg;have:=congrArg List.length h1;rw[List.length_drop,List.length_append] at this;have hl:s.data.toList.length=s.size:=rfl;simp only[Nat.pow_zero,Nat.mul_one,Nat.zero_add,Nat.sub_zero] at h2 h3 h4;have e:(128:Nat)^9=9223372036854775808:=by decide
 omega
theorem extract_mid (s:ByteArray) (p z:Nat):s.extract p (p+z)=⟨((s.data.toList.drop p).take z).toArray⟩:=by
 apply ByteArray.ext
 apply Array.ext'
 rw[ByteArray.data_extract];rw[Array.toList_extract];simp[List.extract_eq_take_drop]
def Row3 (w:World) (b:Nat) (x y z:Nat):Prop:=w.heap[b]? =some (.cells #[.int .i64 (x:Int),.int .i64 (y:Int),.int .i64 (z:Int)] 56 (0,0))
section
variable {w w':World} {b x y z:Nat}
theorem Row3.c0 (h:Row3 w b x y z):w.cell? ⟨b,0,none⟩=some (.int .i64 (x:Int)):=by rw[cell_of_row w b 0 _ _ (0,0) h];rfl
theorem Row3.c1 (h:Row3 w b x y z):w.cell? ⟨b,1,none⟩=some (.int .i64 (y:Int)):=by rw[cell_of_row w b 1 _ _ (0,0) h];rfl
theorem Row3.c2 (h:Row3 w b x y z):w.cell? ⟨b,2,none⟩=some (.int .i64 (z:Int)):=by rw[cell_of_row w b 2 _ _ (0,0) h];rfl
theorem Row3.fz (h:Row3 w b x y z) (j:Nat):w.frozen? ⟨b,j,none⟩=false:=frozen_of_row w b j _ _ h
theorem Row3.set0 (h:Row3 w b x y z) (u:Nat):Row3 (w.setCell ⟨b,0,none⟩ (.int .i64 (u:Int))) b u y z:=by
 unfold Row3 at *
 simp[World.setCell,Array.getElem?_modify,h]
theorem Row3.set1 (h:Row3 w b x y z) (u:Nat):Row3 (w.setCell ⟨b,1,none⟩ (.int .i64 (u:Int))) b x u z:=by
 unfold Row3 at *
 simp[World.setCell,Array.getElem?_modify,h]
theorem Row3.set2 (h:Row3 w b x y z) (u:Nat):Row3 (w.setCell ⟨b,2,none⟩ (.int .i64 (u:Int))) b x y u:=by
 unfold Row3 at *
 simp[World.setCell,Array.getElem?_modify,h]
end
def Res (w:World) (b:Nat):Prop:=w.heap[b]? =some (.cells #[.int .i64 0,.int .i64 0,.string ⟨#[]⟩] 31 (0,0))
section
variable {w w':World} {b:Nat}
theorem Res.c0 (h:Res w b):w.cell? ⟨b,0,none⟩=some (.int .i64 0):=by rw[cell_of_row w b 0 _ _ (0,0) h];rfl
theorem Res.c1 (h:Res w b):w.cell? ⟨b,1,none⟩=some (.int .i64 0):=by rw[cell_of_row w b 1 _ _ (0,0) h];rfl
theorem Res.c2 (h:Res w b):w.cell? ⟨b,2,none⟩=some (.string ⟨#[]⟩):=by rw[cell_of_row w b 2 _ _ (0,0) h];rfl
theorem Res.fz (h:Res w b) (j:Nat):w.frozen? ⟨b,j,none⟩=false:=frozen_of_row w b j _ _ h
end
theorem rec1_at {b r:List UInt8} {x y z:Nat} (h:fin 3 [] b=(0,[x,y,z],r)) :
  rec1 b=if x<1∨1000000000<x∨1000000000<y∨2000<z then none else if r.length<z then none else some (((x:Int),(y:Int),⟨(r.take z).toArray⟩),r.drop z):=by
 simp only[rec1,h]
theorem rec1_err {b:List UInt8} (h:(fin 3 [] b).1≠0):rec1 b=none:=by
 unfold rec1;split
 ·rename_i he;rw[he] at h;exact absurd rfl h
 ·rfl
theorem Res.fill {w w':World} {b:Nat} (h:Res w b) (q t:Int) (d:ByteArray) (hw:w'=((w.setCell ⟨b,0,none⟩ (.int .i64 q)).setCell ⟨b,1,none⟩ (.int .i64 t)).setCell ⟨b,2,none⟩ (.string d)) :
  w'.cell? ⟨b,0,none⟩=some (.int .i64 q)/\w'.cell? ⟨b,1,none⟩=some (.int .i64 t)/\w'.cell? ⟨b,2,none⟩=some (.string d):=by
 have hh:w'.heap[b]? =some (.cells #[.int .i64 q,.int .i64 t,.string d] 31 (0,0)):=by
  rw[hw];unfold Res at h;simp[World.setCell,Array.getElem?_modify,h]
 exact⟨by rw[cell_of_row w' b 0 _ _ (0,0) hh];rfl,by rw[cell_of_row w' b 1 _ _ (0,0) hh];rfl,by rw[cell_of_row w' b 2 _ _ (0,0) hh];rfl⟩
theorem below_fill {w w':World} {b B:Nat} {v0 v1 v2:Value} (h:Below B w w') (hb:B<=b):Below B w (((w'.setCell ⟨b,0,none⟩ v0).setCell ⟨b,1,none⟩ v1).setCell ⟨b,2,none⟩ v2) :=
 ((h.setCell (p:=⟨b,0,none⟩) hb v0).setCell (p:=⟨b,1,none⟩) hb v1).setCell (p:=⟨b,2,none⟩) hb v2
def getQ (b:List UInt8) (p:Nat) (e:Ending):Prop:=(∃r b',rec1 b=some (r,b')/\e=.returned (.tuple #[rv r,.int .i64 ((p+(recB r).length:Nat):Int),.int .i64 0])) ∨
 (rec1 b=none/\ ∃x,e=.returned (.tuple #[rv (0,0,⟨#[]⟩),.int .i64 0,.int .i64 x])/\x≠0)
set_option maxHeartbeats 6400000 in
set_option maxRecDepth 100000 in
theorem rget_any (s:ByteArray) (p:Nat) (w:World) (hs:s.size<=1000000) (hp:p<=s.size) :
  Calls Tryz.prog 157 #[.string s,.int .i64 (p:Int)] w fun e w'=>getQ (s.data.toList.drop p) p e/\Below w.heap.size w w':=by
 have mixed:Tryz.prog.follows .mixedOrders=true:=by kernel_rfl
 obtain⟨F,hF⟩:∃F,F=fin 3 [] (s.data.toList.drop p):=⟨_,rfl⟩
 have HF:=Lib.hid hF;clear hF
 go_enter Tryz.func157, Tryz.ntmps157
 go_wp2_with fail
 go_step3
 go_wp2_with fail
 go_step3
 go_wp2_with fail
 have hr3:Row3 ((w.alloc (.cells #[.int .i64 0,.int .i64 0,.string ⟨#[]⟩] 31)).alloc (.cells #[.int .i64 0,.int .i64 0,.int .i64 0] 56)) (w.heap.size+1) 0 0 0:=by
  have:=heap_alloc_new (w.alloc (.cells #[.int .i64 0,.int .i64 0,.string ⟨#[]⟩] 31)) (.cells #[.int .i64 0,.int .i64 0,.int .i64 0] 56)
  rwa [show(w.alloc (.cells #[.int .i64 0,.int .i64 0,.string ⟨#[]⟩] 31)).heap.size=w.heap.size+1 by simp] at this
 have hrs:Res ((w.alloc (.cells #[.int .i64 0,.int .i64 0,.string ⟨#[]⟩] 31)).alloc (.cells #[.int .i64 0,.int .i64 0,.int .i64 0] 56)) w.heap.size :=
  (Below.heap_alloc _ _ w.heap.size (by simp)).trans (heap_alloc_new w _)
 have hbw:Below w.heap.size w ((w.alloc (.cells #[.int .i64 0,.int .i64 0,.string ⟨#[]⟩] 31)).alloc (.cells #[.int .i64 0,.int .i64 0,.int .i64 0] 56)):=((Below.refl _ _).alloc (Nat.le_refl _) _).alloc (by simp) _;generalize (w.alloc (.cells #[.int .i64 0,.int .i64 0,.string ⟨#[]⟩] 31)).alloc (.cells #[.int .i64 0,.int .i64 0,.int .i64 0] 56)=w0 at *
 have H0:=Lib.hid (And.intro hr3 (And.intro hrs hbw));clear hr3 hrs hbw;go_loopw [1,9] (fun a i wr=>∃(k x y z p':Nat),a=.int .i64 (p':Int)/\i=.int .i64 (k:Int)/\k<=3/\p'<=s.size/\x<9223372036854775808/\y<9223372036854775808/\z<9223372036854775808 /\
  Hid (F=fin (3-k) ([x,y,z].take k) (s.data.toList.drop p')/\Row3 wr (w.heap.size+1) x y z/\Res wr w.heap.size/\Below w.heap.size w wr)) (fun _ i _=>3-(intOf i).toNat)
 case atStart=>exact⟨0,0,0,0,p,rfl,rfl,by omega,hp,by omega,by omega,by omega,HF.out,H0.out⟩
 case round =>
  obtain⟨k,x,y,z,p',rfl,rfl,hk,hp',hx,hy,hz,HX⟩:=hrel;by_cases hk3:k<3
  ·by_cases hg:(gv 0 0 (s.data.toList.drop p')).2.2=0
   ·obtain⟨u,len,hgv⟩:∃u len,gv 0 0 (s.data.toList.drop p')=(u,len,0):=⟨_,_,by rw[<-hg]⟩
    obtain⟨hu,hlen⟩:=gv_in s p' u len hp' hgv;have HG:=Lib.hid (vget_ok wr p' u len s hs hp' hgv);have hstep:fin (3-k) ([x,y,z].take k) (s.data.toList.drop p')=fin (3-(k+1)) ([x,y,z].take k++[u]) (s.data.toList.drop (p'+len)):=by
     rw[show 3-k=(3-(k+1))+1 by omega,fin,if_neg (by simp[hg]),hgv,List.drop_drop]
    have HST:=Lib.hid (HX.out.1.trans hstep);clear hstep hg hgv;obtain rfl|rfl|rfl:k=0∨k=1∨k=2:=by omega
    ·have hc:=HX.out.2.1.c0
     have hf:=HX.out.2.1.fz 0;have HN:=Lib.hid (show Row3 (wr.setCell ⟨w.heap.size+1,0,none⟩ (.int .i64 (u:Int))) (w.heap.size+1) u y z/\Res (wr.setCell ⟨w.heap.size+1,0,none⟩ (.int .i64 (u:Int))) w.heap.size/\Below w.heap.size w (wr.setCell ⟨w.heap.size+1,0,none⟩ (.int .i64 (u:Int))) from
      ⟨HX.out.2.1.set0 u,(Below.heap_setCell wr ⟨w.heap.size+1,0,none⟩ _ w.heap.size (by simp)).trans HX.out.2.2.1,HX.out.2.2.2.setCell (p:=⟨w.heap.size+1,0,none⟩) (by simp) _⟩)
     have HST2:=Lib.hid (show F=fin (3-1) ([u,y,z].take 1) (s.data.toList.drop (p'+len)) from HST.out);clear HX HST;go_wp2_with fail
     refine HG.out.mono ?_;rintro e1 w1 ⟨rfl,rfl⟩;clear HG;go_wp2
     exact⟨⟨1,u,y,z,p'+len,by go_num,rfl,by omega,by omega,by omega,by omega,by omega,HST2.out,HN.out⟩,by simp[intOf]⟩
    ·have hc:=HX.out.2.1.c1
     have hf:=HX.out.2.1.fz 1;have HN:=Lib.hid (show Row3 (wr.setCell ⟨w.heap.size+1,1,none⟩ (.int .i64 (u:Int))) (w.heap.size+1) x u z/\Res (wr.setCell ⟨w.heap.size+1,1,none⟩ (.int .i64 (u:Int))) w.heap.size/\Below w.heap.size w (wr.setCell ⟨w.heap.size+1,1,none⟩ (.int .i64 (u:Int))) from
      ⟨HX.out.2.1.set1 u,(Below.heap_setCell wr ⟨w.heap.size+1,1,none⟩ _ w.heap.size (by simp)).trans HX.out.2.2.1,HX.out.2.2.2.setCell (p:=⟨w.heap.size+1,1,none⟩) (by simp) _⟩)
     have HST2:=Lib.hid (show F=fin (3-2) ([x,u,z].take 2) (s.data.toList.drop (p'+len)) from HST.out);clear HX HST;go_wp2_with fail
     refine HG.out.mono ?_;rintro e1 w1 ⟨rfl,rfl⟩;clear HG;go_wp2
     exact⟨⟨2,x,u,z,p'+len,by go_num,rfl,by omega,by omega,by omega,by omega,by omega,HST2.out,HN.out⟩,by simp[intOf]⟩
    ·have hc:=HX.out.2.1.c2
     have hf:=HX.out.2.1.fz 2;have HN:=Lib.hid (show Row3 (wr.setCell ⟨w.heap.size+1,2,none⟩ (.int .i64 (u:Int))) (w.heap.size+1) x y u/\Res (wr.setCell ⟨w.heap.size+1,2,none⟩ (.int .i64 (u:Int))) w.heap.size/\Below w.heap.size w (wr.setCell ⟨w.heap.size+1,2,none⟩ (.int .i64 (u:Int))) from
      ⟨HX.out.2.1.set2 u,(Below.heap_setCell wr ⟨w.heap.size+1,2,none⟩ _ w.heap.size (by simp)).trans HX.out.2.2.1,HX.out.2.2.2.setCell (p:=⟨w.heap.size+1,2,none⟩) (by simp) _⟩)
     have HST2:=Lib.hid (show F=fin (3-3) ([x,y,u].take 3) (s.data.toList.drop (p'+len)) from HST.out);clear HX HST;go_wp2_with fail
     refine HG.out.mono ?_;rintro e1 w1 ⟨rfl,rfl⟩;clear HG;go_wp2
     exact⟨⟨3,x,y,u,p'+len,by go_num,rfl,by omega,by omega,by omega,by omega,by omega,HST2.out,HN.out⟩,by simp[intOf]⟩
   ·have HG:=Lib.hid (vget_no wr p' s hs hp' hg)
    have hstep:(fin (3-k) ([x,y,z].take k) (s.data.toList.drop p')).1=(gv 0 0 (s.data.toList.drop p')).2.2:=by
     rw[show 3-k=(3-(k+1))+1 by omega,fin,if_pos hg]
    have hno:rec1 (s.data.toList.drop p)=none:=rec1_err (by rw[<-HF.out,HX.out.1,hstep];exact hg);have HNO:=Lib.hid hno;generalize hxx:(gv 0 0 (s.data.toList.drop p')).2.2=xx at *
    have hb0:(xx==0)=false:=by rw[beq_eq_false_iff_ne];exact hg
    clear hstep hno hxx;have cr0:=HX.out.2.2.1.c0;have cr1:=HX.out.2.2.1.c1;have cr2:=HX.out.2.2.1.c2;have fr0:=HX.out.2.2.1.fz 0;have fr1:=HX.out.2.2.1.fz 1;have fr2:=HX.out.2.2.1.fz 2;obtain rfl|rfl|rfl:k=0∨k=1∨k=2:=by omega
    ·have hc:=HX.out.2.1.c0
     have hf:=HX.out.2.1.fz 0;have HRS:=Lib.hid ((Below.heap_setCell wr ⟨w.heap.size+1,0,none⟩ (.int .i64 0) w.heap.size (by simp)).trans HX.out.2.2.1);have HB:=Lib.hid (HX.out.2.2.2.setCell (p:=⟨w.heap.size+1,0,none⟩) (by simp) (.int .i64 0));clear HX;go_wp2_with fail
     refine HG.out.mono ?_;rintro e1 w1 ⟨rfl,rfl⟩;clear HG;go_wp2
     obtain⟨e0,e1,e2⟩:=Res.fill HRS.out 0 0 ⟨#[]⟩ rfl;rw[Exit.noGoto_ret]
     change bodyPost _ _ _ _ _ _
     refine bodyPost_ret (v:=.tuple #[rv (0,0,⟨#[]⟩),.int .i64 0,.int .i64 xx]) ?_ rfl ?_
     ·simp[results,go_sem,e0,e1,e2,rv]
     ·exact⟨.inr ⟨HNO.out,xx,rfl,hg⟩,below_fill HB.out (Nat.le_refl _)⟩
    ·have hc:=HX.out.2.1.c1
     have hf:=HX.out.2.1.fz 1;have HRS:=Lib.hid ((Below.heap_setCell wr ⟨w.heap.size+1,1,none⟩ (.int .i64 0) w.heap.size (by simp)).trans HX.out.2.2.1);have HB:=Lib.hid (HX.out.2.2.2.setCell (p:=⟨w.heap.size+1,1,none⟩) (by simp) (.int .i64 0));clear HX;go_wp2_with fail
     refine HG.out.mono ?_;rintro e1 w1 ⟨rfl,rfl⟩;clear HG;go_wp2
     obtain⟨e0,e1,e2⟩:=Res.fill HRS.out 0 0 ⟨#[]⟩ rfl;rw[Exit.noGoto_ret]
     change bodyPost _ _ _ _ _ _
     refine bodyPost_ret (v:=.tuple #[rv (0,0,⟨#[]⟩),.int .i64 0,.int .i64 xx]) ?_ rfl ?_
     ·simp[results,go_sem,e0,e1,e2,rv]
     ·exact⟨.inr ⟨HNO.out,xx,rfl,hg⟩,below_fill HB.out (Nat.le_refl _)⟩
    ·have hc:=HX.out.2.1.c2
     have hf:=HX.out.2.1.fz 2;have HRS:=Lib.hid ((Below.heap_setCell wr ⟨w.heap.size+1,2,none⟩ (.int .i64 0) w.heap.size (by simp)).trans HX.out.2.2.1);have HB:=Lib.hid (HX.out.2.2.2.setCell (p:=⟨w.heap.size+1,2,none⟩) (by simp) (.int .i64 0));clear HX;go_wp2_with fail
     refine HG.out.mono ?_;rintro e1 w1 ⟨rfl,rfl⟩;clear HG;go_wp2
     obtain⟨e0,e1,e2⟩:=Res.fill HRS.out 0 0 ⟨#[]⟩ rfl;rw[Exit.noGoto_ret]
     change bodyPost _ _ _ _ _ _
     refine bodyPost_ret (v:=.tuple #[rv (0,0,⟨#[]⟩),.int .i64 0,.int .i64 xx]) ?_ rfl ?_
     ·simp[results,go_sem,e0,e1,e2,rv]
     ·exact⟨.inr ⟨HNO.out,xx,rfl,hg⟩,below_fill HB.out (Nat.le_refl _)⟩
  ·obtain rfl:k=3:=by omega
   have hfin:fin 3 [] (s.data.toList.drop p)=(0,[x,y,z],s.data.toList.drop p'):=HF.out.symm.trans HX.out.1;have hrec:=rec1_at hfin;have hl:s.data.toList.length=s.size:=rfl;rw[List.length_drop,hl] at hrec;have HREC:=Lib.hid hrec;have HFIN:=Lib.hid hfin;have c0:=HX.out.2.1.c0;have c1:=HX.out.2.1.c1;have c2:=HX.out.2.1.c2;have cr0:=HX.out.2.2.1.c0;have cr1:=HX.out.2.2.1.c1;have cr2:=HX.out.2.2.1.c2;have fr0:=HX.out.2.2.1.fz 0;have fr1:=HX.out.2.2.1.fz 1;have fr2:=HX.out.2.2.1.fz 2;clear hrec hfin hl;by_cases hbad:x<1∨1000000000<x∨1000000000<y∨2000<z
   ·have hno:rec1 (s.data.toList.drop p)=none:=by rw[HREC.out,if_pos hbad]
    have HNO:=Lib.hid hno;obtain⟨e0,e1,e2⟩:=Res.fill HX.out.2.2.1 0 0 ⟨#[]⟩ rfl;have HB:=Lib.hid (HX.out.2.2.2);clear HX hno HREC HFIN;by_cases h1:(x:Int)<1
    ·skip
     go_wp2
     try rw[Exit.noGoto_ret]
     change bodyPost _ _ _ _ _ _
     refine bodyPost_ret (v:=.tuple #[rv (0,0,⟨#[]⟩),.int .i64 0,.int .i64 150]) ?_ rfl ?_
     ·simp[results,go_sem,e0,e1,e2,rv]
     ·exact⟨.inr ⟨HNO.out,150,rfl,by decide⟩,below_fill HB.out (Nat.le_refl _)⟩
    by_cases h2:(1000000000:Int)<(x:Int)
    ·skip
     go_wp2
     try rw[Exit.noGoto_ret]
     change bodyPost _ _ _ _ _ _
     refine bodyPost_ret (v:=.tuple #[rv (0,0,⟨#[]⟩),.int .i64 0,.int .i64 150]) ?_ rfl ?_
     ·simp[results,go_sem,e0,e1,e2,rv]
     ·exact⟨.inr ⟨HNO.out,150,rfl,by decide⟩,below_fill HB.out (Nat.le_refl _)⟩
    by_cases h3:(1000000000:Int)<(y:Int)
    ·skip
     go_wp2
     try rw[Exit.noGoto_ret]
     change bodyPost _ _ _ _ _ _
     refine bodyPost_ret (v:=.tuple #[rv (0,0,⟨#[]⟩),.int .i64 0,.int .i64 150]) ?_ rfl ?_
     ·simp[results,go_sem,e0,e1,e2,rv]
     ·exact⟨.inr ⟨HNO.out,150,rfl,by decide⟩,below_fill HB.out (Nat.le_refl _)⟩
    have h4:(2000:Int)<(z:Int):=by omega
    go_wp2
    try rw[Exit.noGoto_ret]
    change bodyPost _ _ _ _ _ _
    refine bodyPost_ret (v:=.tuple #[rv (0,0,⟨#[]⟩),.int .i64 0,.int .i64 150]) ?_ rfl ?_
    ·simp[results,go_sem,e0,e1,e2,rv]
    ·exact⟨.inr ⟨HNO.out,150,rfl,by decide⟩,below_fill HB.out (Nat.le_refl _)⟩
   have h1: ¬ (x:Int)<1:=by omega
   have h2: ¬ (1000000000:Int)<(x:Int):=by omega
   have h3: ¬ (1000000000:Int)<(y:Int):=by omega
   have h4: ¬ (2000:Int)<(z:Int):=by omega
   by_cases hsh:s.size-p'<z
   ·have hno:rec1 (s.data.toList.drop p)=none:=by rw[HREC.out,if_neg hbad,if_pos hsh]
    have HNO:=Lib.hid hno;obtain⟨e0,e1,e2⟩:=Res.fill HX.out.2.2.1 0 0 ⟨#[]⟩ rfl;have HB:=Lib.hid (HX.out.2.2.2);have h5:(s.size:Int)-(p':Int)<(z:Int):=by omega
    clear HX hno HREC HFIN;go_wp2
    try rw[Exit.noGoto_ret]
    change bodyPost _ _ _ _ _ _
    refine bodyPost_ret (v:=.tuple #[rv (0,0,⟨#[]⟩),.int .i64 0,.int .i64 4]) ?_ rfl ?_
    ·simp[results,go_sem,e0,e1,e2,rv]
    ·exact⟨.inr ⟨HNO.out,4,rfl,by decide⟩,below_fill HB.out (Nat.le_refl _)⟩
   ·have hyes:rec1 (s.data.toList.drop p)=some (((x:Int),(y:Int),⟨((s.data.toList.drop p').take z).toArray⟩),(s.data.toList.drop p').drop z):=by rw[HREC.out,if_neg hbad,if_neg hsh]
    have HYES:=Lib.hid hyes;have h5: ¬ (s.size:Int)-(p':Int)<(z:Int):=by omega
    clear hyes HREC;go_wp2
    have i1:(p':Int)<=(p':Int)+(z:Int):=by omega
    have i2:(p':Int)+(z:Int)<=(s.size:Int):=by omega
    have i3:((p':Int)+(z:Int)).toNat=p'+z:=by omega
    have i4:(0:Int)<=(p':Int):=by omega
    have i5:IntKind.i64.wrap ((p':Int)+(z:Int))=(p':Int)+(z:Int):=by rw[IntKind.wrap_i64];omega
    have i6:((p':Int)).toNat=p':=by omega
    go_region
    all_goals
     obtain⟨e0,e1,e2⟩:=Res.fill HX.out.2.2.1 (x:Int) (y:Int) (s.extract p' (p'+z)) rfl;have HB:=Lib.hid (HX.out.2.2.2);have hex:=extract_mid s p' z;obtain⟨hok,happ⟩:=rec1_some _ _ _ HYES.out;have hlen:=congrArg List.length happ;have hl:s.data.toList.length=s.size:=rfl;rw[List.length_append,List.length_drop,List.length_drop,List.length_drop,hl] at hlen;have HL:=Lib.hid hlen;have HEX:=Lib.hid hex;clear HX hlen happ hok hex hl;go_wp2
     try rw[Exit.noGoto_ret]
     change bodyPost _ _ _ _ _ _
     refine bodyPost_ret (v:=.tuple #[.agg #[.int .i64 (x:Int),.int .i64 (y:Int),.string (s.extract p' (p'+z))],.int .i64 ((p':Int)+(z:Int)),.int .i64 0]) ?_ rfl ?_
     ·simp[results,go_sem,e0,e1,e2]
     ·refine⟨.inl ⟨_,_,HYES.out,?_⟩,below_drewN (n:=1) (below_fill HB.out (Nat.le_refl _))⟩
      rw[HEX.out];have:=HL.out;have e9:(p':Int)+(z:Int)=((p+(recB ((x:Int),(y:Int),⟨((s.data.toList.drop p').take z).toArray⟩)).length:Nat):Int):=by omega
      rw[e9];rfl
end Rd
end Go.Proofs.YtlnbjikooadmoaaGreat
