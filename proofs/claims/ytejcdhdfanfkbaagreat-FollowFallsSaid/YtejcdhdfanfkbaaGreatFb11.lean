/- An element of a slice of structs loaded in one step, ahead of any unfolding. Over any program. follow.Check. take: New, At, text, Num, Left, End; Caught of a function that ends well. -/
import Derived.Test.YtejcdhdfanfkbaaGreatFb10
import Derived.Test.YtejcdhdfanfkbaaGreatFb03
import Derived.Test.YtejcdhdfanfkbaaGreatFb07
import Derived.Test.YtejcdhdfanfkbaaGreatFb01
import Derived.Test.YtejcdhdfanfkbaaGreatFb02
import Derived.Deep.Cut
import Derived.Test.YtejcdhdfanfkbaaGreatFb05
import Derived.Defers
import Derived.Recover
import Derived.Shelf.Abstract
namespace Go.Proofs.YtejcdhdfanfkbaaGreat
open Go.RowKit
def elAt (w:World) (a:Addr) (n:Nat):Array Value:=((List.range n).map fun j=>(w.cell? (a.add j)).getD undef).toArray
def elOk (w:World) (a:Addr) (n:Nat):Bool:=(List.range n).all fun j=>(w.cell? (a.add j)).isSome
def ElTy (P:Program) (t:TypeId) (n:Nat):Prop:=(P.info? t).map (·.size)=some n/\ ∃fs,P.underlying t=some (.struct fs)
def loadEl (t:TypeId) (n:Nat) (x:Value):Sem Value:=if n=0 then Instr.loadAt t x else Instr.loadAt t x
theorem loadEl_eq (t:TypeId) (n:Nat) (x:Value):Instr.loadAt t x=loadEl t n x:=by unfold loadEl;split<;>rfl
theorem run_loadEl {P:Program} (t:TypeId) (n:Nat) (a:Addr) (w:World) (h:elOk w a n=true) (ht:ElTy P t n):(loadEl t n (.pointer (some a))).run P w=.ok (.agg (elAt w a n)) w:=by
 obtain⟨hi,fs,hu⟩:=ht;rw[<-loadEl_eq];have hlen:(elAt w a n).toList.length=n:=by unfold elAt;simp
 have hl:(loadCells a n).run P w=.ok (elAt w a n) w:=by
  have:=run_loadCells_list (P:=P) w a (elAt w a n).toList (fun j v hv=>by
   unfold elAt at hv;unfold elOk at h;simp only[List.getElem?_map] at hv;rw[List.all_eq_true] at h;rcases hj:(List.range n)[j]? with _|i
   ·rw[hj] at hv;cases hv
   ·rw[hj] at hv
    have hin:=List.mem_of_getElem? hj;obtain⟨hjl,e⟩:=List.getElem?_eq_some_iff.1 hj;rw[List.getElem_range] at e;subst e;have:=h j hin;obtain⟨u,hu⟩:=Option.isSome_iff_exists.1 this;simp only[Option.map_some,hu,Option.getD_some,Option.some.injEq] at hv;rw[hu,hv])
  rw[hlen] at this;exact this
 cases hq:P.info? t with
 |none=>simp[hq] at hi
 |some i =>
  have hs:i.size=n:=by simpa[hq] using hi
  have hagg:(isAgg t).run P w=.ok true w:=by
   unfold isAgg;rw[Sem.run_bind,run_underlying hu w];rfl
  simp[Instr.loadAt,Instr.sureAddr,loadVar,Sem.run_bind,hagg,sizeOf,typeInfo,hq,hs,hl]
theorem el_below {w w':World} {B n:Nat} {a:Addr} (hb:Below B w w') (ha:a.block<B):elOk w' a n=elOk w a n/\elAt w' a n=elAt w a n:=by
 have key:∀j,w'.cell? (a.add j)=w.cell? (a.add j):=fun j=>hb.cell (by rw[add_block];exact ha)
 unfold elOk elAt;simp only[key,and_self]
theorem el_blk {w:World} {g n:Nat} {cs:Array Value} {t:TypeId} (h:Blk w g cs t) (hn:cs.size=n):elOk w ⟨g,0,none⟩ n=true/\elAt w ⟨g,0,none⟩ n=cs:=by
 have key:∀j,j<n->w.cell? ((⟨g,0,none⟩:Addr).add j)=cs[j]? :=fun j hj=>by
  rw[Addr.add_lit,Nat.zero_add];have:j<cs.size:=by omega
  rw[Array.getElem?_eq_getElem this];exact h.cell j (Array.getElem?_eq_getElem this)
 constructor
 ·unfold elOk
  rw[List.all_eq_true];intro j hj;rw[key j (List.mem_range.1 hj),Array.getElem?_eq_getElem (by have:=List.mem_range.1 hj;omega)];rfl
 ·unfold elAt
  apply Array.ext_getElem?
  intro j;rw[List.getElem?_toArray,List.getElem?_map];by_cases hj:j<n
  ·rw[List.getElem?_range hj,Option.map_some,key j hj,Array.getElem?_eq_getElem (by omega)]
   rfl
  ·rw[List.getElem?_eq_none (by simp;omega),Array.getElem?_eq_none (by omega)]
   rfl
section
variable {α:Type} {K:Nat} [Sh α K]
theorem rd_el {w:World} {B n k:Nat} {A:Option Addr} {l:List α} (h:Rd w B K A n (flS l)) (hk:k<n) :
  ∃ad x,A=some ad/\ad.block<B/\l[k]? =some x/\elOk w (ad.add (k*K)) K=true/\elAt w (ad.add (k*K)) K=(Sh.cl x).toArray:=by
 obtain⟨ad,e,hb,hc⟩:=h.cells (by omega);have hl:=rdS_len h;obtain⟨x,hx⟩:∃x,l[k]? =some x:=⟨l[k]'(by omega),List.getElem?_eq_getElem (by omega)⟩
 have key:∀j,j<K->w.cell? ((ad.add (k*K)).add j)=(Sh.cl x)[j]? :=by
  intro j hj;obtain⟨u,hu⟩:∃u,(Sh.cl x)[j]? =some u:=⟨_,List.getElem?_eq_getElem (by rw[Sh.len];exact hj)⟩
  rw[hu,add_add];exact hc _ u ((flS_at l k x hx j hj).trans hu)
 refine⟨ad,x,e,hb,hx,?_,?_⟩
 ·unfold elOk
  rw[List.all_eq_true];intro j hj;rw[key j (List.mem_range.1 hj),List.getElem?_eq_getElem (by rw[Sh.len];exact List.mem_range.1 hj)];rfl
 ·unfold elAt
  apply congrArg List.toArray
  apply List.ext_getElem?
  intro j;rw[List.getElem?_map];by_cases hj:j<K
  ·rw[List.getElem?_range hj,Option.map_some,key j hj,List.getElem?_eq_getElem (by rw[Sh.len];exact hj)]
   rfl
  ·rw[List.getElem?_eq_none (by simp;omega),List.getElem?_eq_none (by rw[Sh.len];omega)]
   rfl
end
end Go.Proofs.YtejcdhdfanfkbaaGreat
namespace Go.Proofs.YtejcdhdfanfkbaaGreat
namespace Fo
open Go.RowKit Rd Dk
def cl2 (p:Pl):List Value:=[.string p.s,.int .i64 p.n]
instance:Sh Pl 2:=⟨cl2,fun _=>rfl,by decide⟩
theorem pl_info:(Tryz.prog.info? 82).map (·.size)=some 2:=by kernel_rfl
theorem loadAt_pl (x:Value):Instr.loadAt 82 x=loadEl 82 2 x:=loadEl_eq _ _ _
theorem tyPl:ElTy Tryz.prog 82 2:=⟨pl_info,_,Tryz.underlying82⟩
def prevN (l:List Pl) (k:Nat):Option (List UInt8):=match k with|0=>none|j+1=>(l[j]?).map bl
theorem rowP_at {l:List Pl} {k:Nat} {p:Pl} (h:l[k]? =some p):rowP (prevN l k) (l.drop k)=(okP p&&((match prevN l k with|none=>true|some x=>_root_.Go.Op.bytesLess x (bl p))&&rowP (prevN l (k+1)) (l.drop (k+1)))):=by
 have hk:=(List.getElem?_eq_some_iff.1 h).1;have e:l.drop k=p::l.drop (k+1):=by
  rw[List.drop_eq_getElem_cons hk];congr 1;exact(List.getElem?_eq_some_iff.1 h).2
 have e2:prevN l (k+1)=some (bl p):=by show(l[k]?).map bl=_;rw[h];rfl
 rw[e,e2];cases prevN l k<;>rfl
attribute [local go_sem ↓] loadAt_pl
attribute [local go_sem] run_loadEl
set_option maxHeartbeats 6400000 in
set_option maxRecDepth 100000 in
theorem fcheck_any (A:Option Addr) (n c:Nat) (l:List Pl) (w:World) (hrd:Rd w w.heap.size 2 A n (flS l)) (hn:n<=1000000) :
  Calls Tryz.prog 15 #[.slice A n c] w fun e w'=>e=.returned (.int .i64 (chkP l))/\Below w.heap.size w w':=by
 have mixed:Tryz.prog.follows .mixedOrders=true:=by kernel_rfl
 have hln:=rdS_len hrd;by_cases hbig:(50:Int)<(n:Int)
 ·have HE:=Lib.hid (show chkP l=180 from if_neg fun h=>by have:=h.1;omega)
  clear hrd hn
  go_enter Tryz.func15, Tryz.ntmps15
  go_wp2_with fail
  go_ret
  exact⟨by rw[HE.out];rfl,Below.refl _ _⟩
 have HE:=Lib.hid (show chkP l=if rowP none l=true then 0 else 180 from by
  unfold chkP;by_cases h:rowP none l=true
  ·rw[if_pos ⟨by omega,h⟩,if_pos h]
  ·rw[if_neg (fun h2=>h h2.2),if_neg h])
 have HNC:=Lib.hid (fun(s:ByteArray) wx=>Nm.check_any s wx);have HR:=Lib.hid hrd;have HLN:=Lib.hid hln;have hn50:n<=50:=by omega
 clear hrd hn hln
 go_enter Tryz.func15, Tryz.ntmps15
 go_wp2_with fail
 go_loopw [10] (fun v wr=>∃k:Nat,v=.int .i64 k/\k<=n/\Hid (Below w.heap.size w wr/\rowP none l=rowP (prevN l k) (l.drop k))) (fun v _=>n-(intOf v).toNat)
 case atStart=>exact⟨0,by go_num,by omega,Lib.hid ⟨Below.refl _ _,by rw[List.drop_zero];rfl⟩⟩
 case round =>
  obtain⟨k,rfl,hk,HX⟩:=hrel;by_cases hkn:k<n
  ·obtain⟨ad,p,rfl,hbk,hx,ok1,at1⟩:=rd_el (HR.out.below HX.out.1) hkn
   rw[show(Sh.cl p).toArray= #[.string p.s,.int .i64 p.n] from rfl] at at1;have HRW:=Lib.hid (rowP_at hx);have hty:=tyPl;have i1:(0:Int)<=(k:Int):=by omega
   have i2:(k:Int)<(n:Int):=by omega
   have i3:IntKind.i64.wrap ((k:Int)+1)=((k+1:Nat):Int):=by rw[IntKind.wrap_i64];omega
   go_upto_region 6 with fail
   have hb6:=ext_alloc wr (.cells #[.string p.s,.int .i64 p.n] 82);have hx6:=Blk.new wr #[.string p.s,.int .i64 p.n] 82;have HB6:=Lib.hid (show ∀q:Bw (wr.alloc (.cells #[.string p.s,.int .i64 p.n] 82)),Below w.heap.size w q.to from fun q=>HX.out.1.trans ((hb6.trans (q.h.mono hb6.size)).mono HX.out.1.size));have HST:=Lib.hid (show ∀(_:(okP p&&(match prevN l k with|none=>true|some x=>_root_.Go.Op.bytesLess x (bl p)))=false),chkP l=180 from fun h=>by
    rw[HE.out,HX.out.2,HRW.out,if_neg];rw[<-Bool.and_assoc,h];simp)
   have HGO:=Lib.hid (show ∀(_:(okP p&&(match prevN l k with|none=>true|some x=>_root_.Go.Op.bytesLess x (bl p)))=true),rowP none l=rowP (prevN l (k+1)) (l.drop (k+1)) from fun h=>by
    rw[HX.out.2,HRW.out,<-Bool.and_assoc,h,Bool.true_and])
   have HP:=Lib.hid (show ∀j pp,k=j+1->l[j]? =some pp-> ∀q:Bw (wr.alloc (.cells #[.string p.s,.int .i64 p.n] 82)),q.to.cell? (ad.add (j*2))=some (.string pp.s) from fun j pp hj hpp=>by
    obtain⟨ad2,p2,e2,hbk2,hx2,c0,-⟩:=sl_at (HR.out.below HX.out.1) (k:=j) (by omega);cases e2
    rw[hpp] at hx2;cases hx2
    exact Op.bw_far hb6 (a:=ad.add (j*2)) (by show(ad.add (j*2)).block<_;rw[add_block];exact Nat.lt_of_lt_of_le hbk HX.out.1.size) c0)
   have a0:=Op.bw_cell hx6 0 (v:=.string p.s) rfl;have a1:=Op.bw_cell hx6 1 (v:=.int .i64 p.n) rfl;have hck:Nm.check (bl p)=0∨Nm.check (bl p)=180:=by
    unfold Nm.check;split
    ·exact .inl rfl
    ·exact .inr rfl
   have hnc:=fun wx=>HNC.out p.s wx
   rw[show p.s.data.toList=bl p from rfl] at hnc;have HOK:=Lib.hid (okP_iff p);clear hb6 hx6 ok1 at1 hty HNC;generalize wr.alloc (.cells #[.string p.s,.int .i64 p.n] 82)=w6 at *
   generalize wr.heap.size=bx at *
   rcases hck with hck|hck
   rotate_left
   ·rw[hck] at hnc
    have HNC2:=Lib.hid hnc;have HOF:=Lib.hid (show okP p=false from by
     rw[Bool.eq_false_iff];intro h;have:=(HOK.out.1 h).1;omega)
    clear hck hnc HP;refine wp_region_quiet_below (by assumption) (by kernel_rfl) ?_
    repeat (first|go_big_quiet_skip|quiet_step (first|(go_at_call 44;refine below_of (HNC2.out _))))
    refine wpQuiet_nil ?_;intro _ hw';obtain⟨q,rfl⟩:=hw';have HBQ:=Lib.hid (HB6.out q);clear a0 a1 HB6 HNC2;generalize q.to=w7 at *
    go_wp2_with fail
    go_ret
    exact⟨by rw[HST.out (by rw[HOF.out];rfl)];rfl,HBQ.out⟩
   rw[hck] at hnc;have HNC2:=Lib.hid hnc;have HCK:=Lib.hid hck;clear hnc hck;by_cases hn1:p.n<1
   ·have HOF:=Lib.hid (show okP p=false from by
     rw[Bool.eq_false_iff];intro h;have:=(HOK.out.1 h).2.1;omega)
    clear HP;refine wp_region_quiet_below (by assumption) (by kernel_rfl) ?_
    repeat (first|go_big_quiet_skip|quiet_step (first|(go_at_call 44;refine below_of (HNC2.out _))))
    refine wpQuiet_nil ?_;intro _ hw';obtain⟨q,rfl⟩:=hw';have HBQ:=Lib.hid (HB6.out q);clear a0 a1 HB6 HNC2;generalize q.to=w7 at *
    go_wp2_with fail
    go_ret
    exact⟨by rw[HST.out (by rw[HOF.out];rfl)];rfl,HBQ.out⟩
   by_cases hn2:1000000001<p.n
   ·have HOF:=Lib.hid (show okP p=false from by
     rw[Bool.eq_false_iff];intro h;have:=(HOK.out.1 h).2.2;omega)
    clear HP;refine wp_region_quiet_below (by assumption) (by kernel_rfl) ?_
    repeat (first|go_big_quiet_skip|quiet_step (first|(go_at_call 44;refine below_of (HNC2.out _))))
    refine wpQuiet_nil ?_;intro _ hw';obtain⟨q,rfl⟩:=hw';have HBQ:=Lib.hid (HB6.out q);clear a0 a1 HB6 HNC2;generalize q.to=w7 at *
    go_wp2_with fail
    go_ret
    exact⟨by rw[HST.out (by rw[HOF.out];rfl)];rfl,HBQ.out⟩
   have HOT:=Lib.hid (show okP p=true from HOK.out.2 ⟨HCK.out,by omega,by omega⟩);rcases k with _|j
   ·have hk0: ¬ (0:Int)<((0:Nat):Int):=by omega
    clear HP;refine wp_region_quiet_below (by assumption) (by kernel_rfl) ?_
    repeat (first|go_big_quiet_skip|quiet_step (first|(go_at_call 44;refine below_of (HNC2.out _))))
    refine wpQuiet_nil ?_;intro _ hw';obtain⟨q,rfl⟩:=hw';have HBQ:=Lib.hid (HB6.out q);clear a0 a1 HB6 HNC2;generalize q.to=w7 at *
    go_wp2_with fail
    go_roundw
    ·exact⟨0+1,by first|rfl|rw[i3],by omega,Lib.hid ⟨HBQ.out,HGO.out (by rw[HOT.out];rfl)⟩⟩
    ·first|(rw[i3];simp[intOf];omega)|(simp[intOf];omega)
   obtain⟨pp,hpp⟩:∃pp,l[j]? =some pp:=⟨l[j]'(by rw[HLN.out];omega),List.getElem?_eq_getElem _⟩
   have c0:=HP.out j pp rfl hpp;have hk0:(0:Int)<((j+1:Nat):Int):=by omega
   have hk0n:0<j+1:=Nat.succ_pos j;have j1:IntKind.i64.wrap (((j+1:Nat):Int)-1)=(j:Int):=by rw[IntKind.wrap_i64];omega
   have j2:(0:Int)<=(j:Int):=by omega
   have j3:(j:Int)<(n:Int):=by omega
   obtain⟨R,hR⟩:∃R,_root_.Go.Op.bytesLess pp.s.toList p.s.toList=R:=⟨_,rfl⟩
   have HC:=Lib.hid (show(match prevN l (j+1) with|none=>true|some x=>_root_.Go.Op.bytesLess x (bl p))=R from by
    show(match (l[j]?).map bl with|none=>true|some x=>_root_.Go.Op.bytesLess x (bl p))=R
    rw[hpp,<-hR,ByteArray.toList_eq,ByteArray.toList_eq];rfl)
   clear HP;generalize hjj:j+1=J at *
   have HJJ:=Lib.hid hjj;clear hjj;rcases R with _|_
   ·refine wp_region_quiet_below (by assumption) (by kernel_rfl) ?_
    repeat (first|go_big_quiet_skip|quiet_step (first|(go_at_call 44;refine below_of (HNC2.out _))))
    refine wpQuiet_nil ?_;intro _ hw';obtain⟨q,rfl⟩:=hw';have HBQ:=Lib.hid (HB6.out q);clear a0 a1 c0 HB6 HNC2;generalize q.to=w7 at *
    go_wp2_with fail
    go_ret
    exact⟨by rw[HST.out (by rw[HC.out];simp)];rfl,HBQ.out⟩
   ·refine wp_region_quiet_below (by assumption) (by kernel_rfl) ?_
    repeat (first|go_big_quiet_skip|quiet_step (first|(go_at_call 44;refine below_of (HNC2.out _))))
    refine wpQuiet_nil ?_;intro _ hw';obtain⟨q,rfl⟩:=hw';have HBQ:=Lib.hid (HB6.out q);clear a0 a1 c0 HB6 HNC2;generalize q.to=w7 at *
    go_wp2_with fail
    go_roundw
    ·exact⟨J+1,by first|rfl|rw[i3],by omega,Lib.hid ⟨HBQ.out,HGO.out (by rw[HC.out,HOT.out];rfl)⟩⟩
    ·have:=HJJ.out;first|(rw[i3];simp[intOf];omega)|(simp[intOf];omega)
  ·obtain rfl:k=n:=by omega
   have HF:=Lib.hid (show chkP l=0 from by rw[HE.out,HX.out.2,List.drop_of_length_le (by rw[HLN.out];omega)];rfl);go_wp2_with fail
   go_ret
   exact⟨by rw[HF.out];rfl,HX.out.1⟩
end Fo
end Go.Proofs.YtejcdhdfanfkbaaGreat
namespace Go.Proofs.YtejcdhdfanfkbaaGreat
namespace Tk
open Go.RowKit
def Ta (w:World) (b:Nat) (s:ByteArray) (p:Nat):Prop:=w.heap[b]? =some (.cells #[.string s,.int .i64 (p:Int)] 176 (0,0))
section
variable {w w':World} {b p:Nat} {s:ByteArray}
theorem Ta.lt (h:Ta w b s p):b<w.heap.size:=(Array.getElem?_eq_some_iff.1 h).1
theorem Ta.c0 (h:Ta w b s p):w.cell? ⟨b,0,none⟩=some (.string s):=by rw[cell_of_row w b 0 _ _ (0,0) h];rfl
theorem Ta.c1 (h:Ta w b s p):w.cell? ⟨b,1,none⟩=some (.int .i64 (p:Int)):=by rw[cell_of_row w b 1 _ _ (0,0) h];rfl
theorem Ta.fz (h:Ta w b s p) (j:Nat):w.frozen? ⟨b,j,none⟩=false:=frozen_of_row w b j _ _ h
theorem Ta.set1 (h:Ta w b s p) (q:Nat):Ta (w.setCell ⟨b,1,none⟩ (.int .i64 (q:Int))) b s q:=by
 unfold Ta at *
 simp[World.setCell,Array.getElem?_modify,h]
end
theorem takeNew_any (s:ByteArray) (w:World) :
  Calls Tryz.prog 35 #[.string s] w fun e w'=>e=.returned (.pointer (some ⟨w.heap.size,0,none⟩))/\Ta w' w.heap.size s 0/\Below w.heap.size w w':=by
 go_enter Tryz.func35, Tryz.ntmps35
 go_wp2_with fail
 go_ret
 exact⟨rfl,heap_alloc_new w _,(Below.refl _ _).alloc (Nat.le_refl _) _⟩
theorem at_any (w:World) (b p:Nat) (s:ByteArray) (h:Ta w b s p) :
  Calls Tryz.prog 89 #[.pointer (some ⟨b,0,none⟩)] w fun e w'=>e=.returned (.int .i64 (p:Int))/\w=w':=by
 have hc:=h.c1
 go_enter Tryz.func89, Tryz.ntmps89
 go_wp2_with fail
 go_ret
 exact⟨rfl,rfl⟩
theorem text_any (w:World) (b p:Nat) (s:ByteArray) (h:Ta w b s p) :
  Calls Tryz.prog 88 #[.pointer (some ⟨b,0,none⟩)] w fun e w'=>e=.returned (.string s)/\w=w':=by
 have hc:=h.c0
 go_enter Tryz.func88, Tryz.ntmps88
 go_wp2_with fail
 go_ret
 exact⟨rfl,rfl⟩
def fault (e:Int) (p:Nat):PanicEntry:={ v:=.iface 102 (.agg #[.int .i64 e,.int .i64 (p:Int)]),recovered:=false }
theorem check_ok (w:World) (b:Nat):Calls Tryz.prog 90 #[.pointer (some ⟨b,0,none⟩),.int .i64 0] w fun e w'=>e=.returned (.tuple #[])/\w=w':=by
 go_enter Tryz.func90, Tryz.ntmps90
 go_wp2_with fail
 go_end0
 exact⟨rfl,rfl⟩
set_option maxHeartbeats 3200000 in
theorem num_ok (w:World) (b p n len:Nat) (s:ByteArray) (h:Ta w b s p) (hs:s.size<=1000000) (hp:p<=s.size) (hg:Vi.gv 0 0 (s.data.toList.drop p)=(n,len,0)) :
  Calls Tryz.prog 36 #[.pointer (some ⟨b,0,none⟩)] w fun e w'=>e=.returned (.int .i64 (n:Int))/\w'=w.setCell ⟨b,1,none⟩ (.int .i64 ((p+len:Nat):Int)):=by
 have mixed:Tryz.prog.follows .mixedOrders=true:=by kernel_rfl
 have hl:s.data.toList.length=s.size:=rfl;have hgv:Vi.getV s.data.toList (p:Int)=((n:Int),((p+len:Nat):Int),0):=by
  unfold Vi.getV;rw[if_neg (by rw[hl];omega),Int.toNat_natCast,hg];simp
 have hv:=Vi.get_any s (p:Int) w hs;rw[hgv] at hv;have HV:=Lib.hid hv;have HT:=Lib.hid (text_any w b p s h);have HA:=Lib.hid (at_any w b p s h);have hc1:=h.c1;have hf1:=h.fz 1;have HC:=Lib.hid (check_ok w b);clear hl hgv hv h hg
 go_enter Tryz.func36, Tryz.ntmps36
 go_wp2_with fail
 refine HT.out.mono ?_;rintro e1 w1 ⟨rfl,rfl⟩;go_wp2_with fail
 refine HA.out.mono ?_;rintro e1 w1 ⟨rfl,rfl⟩;go_wp2_with fail
 refine HV.out.mono ?_;rintro e1 w1 ⟨rfl,rfl⟩;go_wp2_with fail
 refine HC.out.mono ?_;rintro e1 w1 ⟨rfl,rfl⟩;go_wp2_with fail
 go_ret
 exact⟨rfl,rfl⟩
set_option maxHeartbeats 3200000 in
theorem left_any (w:World) (b p:Nat) (s:ByteArray) (h:Ta w b s p) (hs:s.size<=1000000) (hp:p<=s.size) :
  Calls Tryz.prog 93 #[.pointer (some ⟨b,0,none⟩)] w fun e w'=>e=.returned (.int .i64 ((s.size-p:Nat):Int))/\ ∃m,w'=w.drewN m:=by
 have mixed:Tryz.prog.follows .mixedOrders=true:=by kernel_rfl
 have hc0:=h.c0;have hc1:=h.c1;obtain⟨d,hd⟩:∃d,d=s.size-p:=⟨_,rfl⟩
 have e1:(s.size:Int)-(p:Int)=(d:Int):=by omega
 rw[<-hd];clear hd h
 go_enter Tryz.func93, Tryz.ntmps93
 go_wp2_with fail
 go_quiet (fail)
 go_wp2_with fail
 go_ret
 exact⟨rfl,_,rfl⟩
structure Keep (w w':World) (L:List Nat):Prop where
 os:w'.os=w.os
 tape:w'.tape=w.tape
 output:w'.output=w.output
 size:w.heap.size<=w'.heap.size
 blk:∀k,k<w.heap.size->k∉L->w'.heap[k]? =w.heap[k]?
section
variable {w w' w2:World} {L L':List Nat}
theorem Keep.refl (w:World) (L:List Nat):Keep w w L:=⟨rfl,rfl,rfl,Nat.le_refl _,fun _ _ _=>rfl⟩
theorem Keep.trans (h:Keep w w' L) (k:Keep w' w2 L):Keep w w2 L :=
 ⟨k.os.trans h.os,k.tape.trans h.tape,k.output.trans h.output,Nat.le_trans h.size k.size,fun i hi hl=>(k.blk i (Nat.lt_of_lt_of_le hi h.size) hl).trans (h.blk i hi hl)⟩
theorem Keep.more (h:Keep w w' L) (hl:∀k∈L,k∈L'):Keep w w' L':=⟨h.os,h.tape,h.output,h.size,fun k hk hn=>h.blk k hk (fun e=>hn (hl k e))⟩
theorem Keep.set (h:Keep w w' L) (p:Addr) (hp:p.block∈L∨w.heap.size<=p.block) (u:Value):Keep w (w'.setCell p u) L :=
 ⟨h.os,h.tape,h.output,by simpa[World.setCell] using h.size,fun k hk hl=>(Below.heap_setCell w' p u k (by
  intro e;rcases hp with hp|hp
  ·rw[<-e] at hp;exact hl hp
  ·omega)).trans (h.blk k hk hl)⟩
theorem Keep.alloc (h:Keep w w' L) (o:Obj):Keep w (w'.alloc o) L :=
 ⟨h.os,h.tape,h.output,by have:=h.size;simp;omega,fun k hk hl=>(Below.heap_alloc w' o k (by have:=h.size;omega)).trans (h.blk k hk hl)⟩
theorem Keep.drew (h:Keep w w' L):Keep w w'.drew L:=⟨h.os,h.tape,h.output,h.size,h.blk⟩
theorem Keep.drewN (h:Keep w w' L) (n:Nat):Keep w (w'.drewN n) L:=⟨h.os,h.tape,h.output,h.size,h.blk⟩
theorem Keep.of_below (h:Below w.heap.size w w'):Keep w w' L:=⟨h.os,h.tape,h.output,h.size,fun k hk _=>h.block k hk⟩
theorem Keep.below {B:Nat} (h:Keep w w' L) (hB:B<=w.heap.size) (hl:∀k∈L,B<=k):Below B w w':=⟨h.os,h.tape,h.output,h.size,fun k hk=>h.blk k (by omega) (fun e=>by have:=hl k e;omega)⟩
theorem Keep.var {b:Nat} {t:TypeId} {v:Value} (h:Keep w w' L) (hv:Var w b t v) (hb:b∉L):Var w' b t v:=(h.blk b hv.lt hb).trans hv
theorem Keep.ta {b p:Nat} {s:ByteArray} (h:Keep w w' L) (hv:Ta w b s p) (hb:b∉L):Ta w' b s p:=(h.blk b hv.lt hb).trans hv
end
theorem tmps_idle (a b:Addr) (v:Value): #[Value.pointer (some a),Value.pointer (some b)]++((Array.replicate 18 undef).setIfInBounds 3 v).setIfInBounds 0 v= #[.pointer (some a),.pointer (some b),v,undef,undef,v,undef,undef,undef,undef,undef,undef,undef,undef,undef,undef,undef,undef,undef,undef]:=by kernel_rfl
set_option maxHeartbeats 3200000 in
theorem catch_idle (a b:Addr) (w:World) :
  CallsD Tryz.prog 91 #[.pointer (some a),.pointer (some b)] .returning w fun e u' w'=>e=.returned (.tuple #[])/\u'=.returning/\w'=w:=by
 refine callsD_of_wpS Tryz.func91 rfl fun c₀ cs hu=>?_
 apply wpS_seq
 apply wpS_region
 simp[wpOpsS,go_sem,recoverD,hu,Tryz.ntmps91,Exit.thenS]
 rw[tmps_idle];refine wpS_of_wp ?_;go_wp2_with fail
 cases c₀
 simp_all [bodyPostS,results,Tryz.results91]
def wC (w:World):World:=(w.alloc (.cells #[.int .i64 0] 25)).alloc (.cells #[.int .i64 0] 3)
theorem wC_keep (w:World):Below w.heap.size w (wC w):=((Below.refl _ _).alloc (Nat.le_refl _) _).alloc (by simp) _
theorem wC_vars (w:World):Var (wC w) w.heap.size 25 (.int .i64 0)/\Var (wC w) (w.heap.size+1) 3 (.int .i64 0):=by
 constructor
 ·exact(Var.new w _ _).alloc _
 ·have:=Var.new (w.alloc (.cells #[.int .i64 0] 25)) 3 (.int .i64 0)
  rwa [show(w.alloc (.cells #[.int .i64 0] 25)).heap.size=w.heap.size+1 by simp] at this
set_option maxHeartbeats 6400000 in
set_option maxRecDepth 100000 in
theorem caught_ok (fn:FuncId) (w:World) (caps:Array Value) (G:World->Prop) (hG:∀w',G w'->Var w' w.heap.size 25 (.int .i64 0)/\Var w' (w.heap.size+1) 3 (.int .i64 0))
  (hen:∀args w,(callFunc fn args).run Tryz.prog w=.ok (.enter fn args) w)
  (hf:Calls Tryz.prog fn caps (wC w) fun e w'=>e=.returned (.tuple #[])/\G w') :
  Calls Tryz.prog 37 #[.func (.func fn) #[] caps] w fun e w'=>e=.returned (.tuple #[.int .i64 0,.int .i64 0])/\ ∃w2,G w2/\Keep w2 w' [w.heap.size,w.heap.size+1]:=by
 have mixed:Tryz.prog.follows .mixedOrders=true:=by kernel_rfl
 have hmf:∀(fn:Fn) (first cap:Array Value) (w:World),(Instr.makeFunc fn first cap).run Tryz.prog w=.ok (.func fn first cap) w:=fun _ _ _ _=>rfl
 have HF:=Lib.hid hf;have HG:=Lib.hid hG;clear hf hG;go_enter_defers Tryz.func37,Tryz.ntmps37
 go_wp2_with (go_at_fn fn;refine HF.out.mono ?_;rintro e1 w1 ⟨rfl,h1⟩;obtain⟨v1,v2⟩:=HG.out w1 h1;have c1:=v1.cell;have f1:=v1.frozen;have c2:=v2.cell;have f2:=v2.frozen;have HX:=Lib.hid (And.intro h1 (And.intro v1 v2));clear h1 v1 v2)
 refine leaves_cons (f:=91) (args:=#[.pointer (some ⟨w.heap.size,0,none⟩),.pointer (some ⟨w.heap.size+1,0,none⟩)]) (by simp) (by simp[go_sem]) ?_;refine(catch_idle ⟨w.heap.size,0,none⟩ ⟨w.heap.size+1,0,none⟩ _).mono ?_;rintro e u' w'' ⟨rfl,rfl,rfl⟩;have n1:w.heap.size≠w.heap.size+1:=by omega
 have u1:=(HX.out.2.1.set_ (.int .i64 0)).far (p:=⟨w.heap.size+1,0,none⟩) n1 (.int .i64 0);have u2:=(HX.out.2.2.far (p:=⟨w.heap.size,0,none⟩) (Ne.symm n1) (.int .i64 0)).set_ (.int .i64 0);have hk:Keep w1 ((w1.setCell ⟨w.heap.size,0,none⟩ (.int .i64 0)).setCell ⟨w.heap.size+1,0,none⟩ (.int .i64 0)) [w.heap.size,w.heap.size+1] :=
  ((Keep.refl w1 _).set ⟨w.heap.size,0,none⟩ (.inl (by simp)) _).set ⟨w.heap.size+1,0,none⟩ (.inl (by simp)) _
 have d1:=u1.cell;have d2:=u2.cell;simp[Leaves,settle,results,Tryz.results37,go_sem,d1,d2]
 exact⟨w1,HX.out.1,hk⟩
theorem end_ok (w:World) (b:Nat) (s:ByteArray) (h:Ta w b s s.size) (hs:s.size<=1000000) :
  Calls Tryz.prog 40 #[.pointer (some ⟨b,0,none⟩)] w fun e w'=>e=.returned (.tuple #[])/\ ∃m,w'=w.drewN m:=by
 have hL:=left_any w b s.size s h hs (Nat.le_refl _);rw[Nat.sub_self] at hL;have HL:=Lib.hid hL;clear hL h
 go_enter Tryz.func40, Tryz.ntmps40
 go_wp2_with fail
 refine HL.out.mono ?_;rintro e1 w1 ⟨rfl,m,rfl⟩;go_wp2_with fail
 go_end0
 exact⟨rfl,m,rfl⟩
end Tk
end Go.Proofs.YtejcdhdfanfkbaaGreat
