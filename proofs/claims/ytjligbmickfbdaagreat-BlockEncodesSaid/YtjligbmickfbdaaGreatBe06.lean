/- Whole arrays: made, built, boxed, stored, as laws for a walk: no cell is opened. front.begun, rank; slices.Index. front: rank, Ranks, Text; slices.Index. front: Ranks, Text. -/
import Derived.Test.YtjligbmickfbdaaGreatBe01
import Derived.Deep.WholeRow
import Derived.Deep.MidRow
import Derived.Test.YtjligbmickfbdaaGreatBe05
namespace Go.Proofs.YtjligbmickfbdaaGreat
open Go.RowKit
section
variable {P:Program} {ops:Array Oper} {rest:List Oper} {op:Oper} {a:Act} {w:World} {Q:Exit->Act->World->Prop}
theorem wpList_alloc_zero (hgd:op.guard=none) (t:TypeId) (ho:op.op=.alloc t) (z:Value) (n:Nat) (hz:(P.info? t).map (fun i=>(i.zero,i.size))=some (some z,n))
  (h:wpList P ops Q rest (a.put op.dst (.pointer (some ⟨w.heap.size,0,none⟩))) (w.alloc (.cells z.cells t))):wpList P ops Q (op::rest) a w:=by
 refine wpList_plain hgd fun _ hK=>?_
 have hz1:=(zero_of_info hz).1 w;unfold Oper.wp execOp;simp only[ho,Instr.alloc,Sem.run_bind,hz1,Result.andThen_ok];exact hK _ _ h
theorem wpList_build_zero (hgd:op.guard=none) (t:TypeId) (ho:op.op=.build t #[]) (z:Array Value) (hz:(Instr.build t #[]).run P w=.ok (.agg z) w)
  (h:wpList P ops Q rest (a.put op.dst (.agg z)) w):wpList P ops Q (op::rest) a w:=by
 refine wpList_plain hgd fun _ hK=>?_
 unfold Oper.wp execOp;simp only[ho,List.map_toArray,List.map_nil,Sem.run_bind,hz,Result.andThen_ok];exact hK _ _ h
theorem wpList_box_new (hgd:op.guard=none) (t:TypeId) (x:Operand) (ho:op.op=.box t x) (z:Array Value) (hx:a.eval x=.agg z)
  (h:wpList P ops Q rest (a.put op.dst (.pointer (some ⟨w.heap.size,0,none⟩))) (w.alloc (.cells z t))):wpList P ops Q (op::rest) a w:=by
 refine wpList_plain hgd fun _ hK=>?_
 unfold Oper.wp execOp;simp only[ho,hx,Instr.box,Sem.run_bind];exact hK _ _ h
theorem wpList_store_new (w0:World) (c:Array Value) (hgd:op.guard=none) (t:TypeId) (x y:Operand) (ho:op.op=.store t x y) (z:Array Value) (hx:a.eval x=.pointer (some ⟨w0.heap.size,0,none⟩)) (hy:a.eval y=.agg z)
  (hi:(P.info? t).map (·.size)=some z.size) (hc:c.size=z.size) (h1:z.all (·.oneCell')=true)
  (h:wpList P ops Q rest (a.put op.dst undef) (w0.alloc (.cells z t))):wpList P ops Q (op::rest) a (w0.alloc (.cells c t)):=by
 refine wpList_plain hgd fun _ hK=>?_
 unfold Oper.wp execOp;simp only[ho,hx,hy,Instr.storeAt,Instr.sureAddr,Sem.run_bind,Sem.run_pure,Result.andThen_ok,run_storeVar_new w0 t c z hi hc h1];exact hK _ _ h
end
theorem results_cell {P:Program} {fn:Func} {tmps:Array Value} {w:World} {a:Nat} {t:TypeId} {ad:Addr} {v:Value} (hr:fn.results= #[.cell a t]) (ht:tmps.getD a undef=.pointer (some ad)) (hl:(loadVar t ad).run P w=.ok v w) :
  (results fn tmps).run P w=.ok v w:=by
 unfold results;rw[hr];have ht2:tmps[a]?.getD undef=.pointer (some ad):=by rw[<-ht];simp[Array.getD_eq_getD_getElem?]
 simp[ht2,asAddr,hl]
end Go.Proofs.YtjligbmickfbdaaGreat
namespace Go.Proofs.YtjligbmickfbdaaGreat
namespace Fr
open Go.RowKit
open Bt (Frm)
def rowK (k:Nat):List UInt8:=(List.range 256).map fun i=>if i<k then UInt8.ofNat i else 0
theorem length_rowK (k:Nat):(rowK k).length=256:=by simp[rowK]
theorem rowK_zero:bv (rowK 0)=List.replicate 256 (.int .u8 0):=by
 unfold bv rowK;simp only[Nat.not_lt_zero,if_false,List.map_const',List.length_range,List.map_replicate];rfl
theorem rowK_all:rowK 256=row0:=by
 unfold rowK row0;apply List.map_congr_left
 intro i hi;rw[List.mem_range] at hi;rw[if_pos hi]
theorem rowK_set (k:Nat) (_h:k<256):(rowK k).set k (UInt8.ofNat k)=rowK (k+1):=by
 apply List.ext_getElem?
 intro j;unfold rowK;rw[List.getElem?_set,List.getElem?_map,List.getElem?_map,List.length_map,List.length_range];by_cases hj:j<256
 ·rw[List.getElem?_range hj]
  by_cases he:k=j
  ·subst he;simp[hj]
  ·rw[if_neg he]
   simp only[Option.map_some,Option.some.injEq];by_cases hlt:j<k
   ·rw[if_pos hlt,if_pos (by omega)]
   ·rw[if_neg hlt,if_neg (by omega)]
 ·rw[List.getElem?_eq_none (by simp;omega)]
  by_cases he:k=j
  ·subst he;simp[hj]
  ·rw[if_neg he];rfl
set_option maxHeartbeats 3200000 in
set_option maxRecDepth 100000 in
theorem begun_any (w:World) :
  Calls Tryz.prog 53 #[] w fun e w'=>∃g,e=.returned (.pointer (some ⟨g,0,none⟩))/\RowB w' g row0/\w.heap.size<=g/\Below w.heap.size w w':=by
 have mixed:Tryz.prog.follows .mixedOrders=true:=by kernel_rfl
 have hbz:(Instr.build 155 #[]).run Tryz.prog w=.ok (.agg (Array.replicate 256 (.int .u8 0))) w:=by kernel_rfl
 have HBZ:=Lib.hid hbz;clear hbz
 go_enter Tryz.func53, Tryz.ntmps53
 go_wp2_with (refine wpList_build_zero rfl 155 rfl (Array.replicate 256 (.int .u8 0)) HBZ.out ?_)
 have hr0:RowB (w.alloc (.cells (Array.replicate 256 (.int .u8 0)) 155)) w.heap.size (rowK 0):=by
  unfold RowB;rw[heap_alloc_new,rowK_zero,List.toArray_replicate]
 have hb0:Below w.heap.size w (w.alloc (.cells (Array.replicate 256 (.int .u8 0)) 155)):=(Below.refl _ _).alloc (Nat.le_refl _) _;have H0:Aside _:=And.intro hr0 hb0;clear hr0 hb0;generalize w.alloc (.cells (Array.replicate 256 (.int .u8 0)) 155)=w1 at *
 go_loopg [5] 256 (fun kx s5 wr=>∃(k:Nat),s5=.int .i64 (k:Int)/\k<=256/\256-k<=kx/\Aside (RowB wr w.heap.size (rowK k)/\Below w.heap.size w wr))
 case atStart=>exact⟨0,rfl,by omega,by omega,H0.out⟩
 case round =>
  clear H0;obtain⟨k,rfl,hk,hkx,H⟩:=hrel;by_cases hlt:k<256
  ·have hcell:=H.out.1.cell k ((rowK k)[k]'(by rw[length_rowK];exact hlt)) (List.getElem?_eq_getElem _)
   have hfz:=H.out.1.fz k;have hu8:(k:Int)=((UInt8.ofNat k).toNat:Int):=by
    rw[UInt8.toNat_ofNat'];omega
   have hset:=H.out.1.set k (UInt8.ofNat k);rw[rowK_set k hlt] at hset;have hb:=H.out.2.setCell (p:=⟨w.heap.size,k,none⟩) (Nat.le_refl _) (.int .u8 ((UInt8.ofNat k).toNat:Int));have HX:=And.intro hset hb;rw[<-hu8] at HX;have HX2:Aside _:=HX;generalize (((rowK k)[k]'(by rw[length_rowK];exact hlt)).toNat:Int)=y at *
   clear hu8 hset hb HX;go_wp2_with fail
   go_roundg (256-(k+1))
   case measure=>omega
   case rel=>exact⟨k+1,by go_num,by omega,by omega,HX2.out⟩
  ·obtain rfl:k=256:=by omega
   have hres:=H.out.1;rw[rowK_all] at hres;have HX:Aside _:=And.intro hres H.out.2;clear hres;go_wp2_with fail
   go_ret
   exact⟨_,rfl,HX.out.1,Nat.le_refl _,HX.out.2⟩
end Fr
end Go.Proofs.YtjligbmickfbdaaGreat
namespace Go.Proofs.YtjligbmickfbdaaGreat
namespace Fr
open Go.RowKit
open Bt (Frm)
theorem plc_ne (c:UInt8):∀(l:List UInt8) (k:Nat) (d:UInt8),l[k]? =some d->k<plc c l->d≠c
 | [],k,d,h,_=>by simp at h
 |e::l,0,d,h,hk=>by
  simp only[plc] at hk;split at hk
  ·omega
  ·rename_i hne
   simp at h
   subst h;exact hne
 |e::l,k+1,d,h,hk=>by
  simp only[plc] at hk;split at hk
  ·omega
  ·exact plc_ne c l k d (by simpa using h) (by omega)
set_option maxHeartbeats 3200000 in
set_option maxRecDepth 100000 in
theorem index_any (g cap:Nat) (l:List UInt8) (c:UInt8) (w:World) (hl:l.length=256) (hc:c∈l) (h:RowB w g l) :
  Calls Tryz.prog 101 #[.slice (some ⟨g,0,none⟩) 256 cap,.int .u8 (c.toNat:Int)] w fun e w'=>e=.returned (.int .i64 (plc c l:Int))/\w=w':=by
 have mixed:Tryz.prog.follows .mixedOrders=true:=by kernel_rfl
 have H:Aside (RowB w g l):=h;have hpl:=(plc_lt c l hc).1;have HC:=Lib.hid hc;clear h hc
 go_enter Tryz.func101, Tryz.ntmps101
 go_wp2_with fail
 go_loopg [8] 256 (fun kx s8 wr=>∃(k:Nat),s8=.int .i64 (k:Int)/\k<=plc c l/\256-k<=kx/\w=wr)
 case atStart=>exact⟨0,rfl,by omega,by omega,rfl⟩
 case round =>
  obtain⟨k,rfl,hk,hkx,rfl⟩:=hrel;have hlt:k<256:=by omega
  obtain⟨d,hd⟩:∃d,l[k]? =some d:=⟨_,List.getElem?_eq_getElem (by omega)⟩
  have hcell:=H.out.cell k d hd;by_cases he:k=plc c l
  ·have hdc:d=c:=by
    have:=(plc_lt c l HC.out).2;rw[<-he,hd] at this;exact Option.some.inj this
   have HE:=Lib.hid he;rw[hdc] at hcell;clear hd he hdc;go_wp2_with fail
   go_ret
   exact⟨by rw[<-HE.out];rfl,rfl⟩
  ·have hne:d≠c:=plc_ne c l k d hd (by omega)
   have hnn:((c.toNat:Int)==(d.toNat:Int))=false:=by
    rw[beq_eq_false_iff_ne];intro e;exact hne (UInt8.toNat_inj.1 (by omega))
   have hk1:k+1<=plc c l:=by omega
   clear hd hne he;go_wp2_with fail
   go_roundg (256-(k+1))
   case measure=>omega
   case rel=>exact⟨k+1,by go_num,hk1,by omega,by first|rfl|trivial⟩
set_option maxHeartbeats 3200000 in
set_option maxRecDepth 100000 in
theorem rank_any (g:Nat) (l:List UInt8) (c:UInt8) (w:World) (hl:l.length=256) (hc:c∈l) (h:RowB w g l) :
  Calls Tryz.prog 54 #[.pointer (some ⟨g,0,none⟩),.int .u8 (c.toNat:Int)] w fun e w'=>e=.returned (.int .i64 (plc c l:Int))/\RowB w' g (mv l (plc c l))/\Frm w w' g none:=by
 have mixed:Tryz.prog.follows .mixedOrders=true:=by kernel_rfl
 obtain⟨h1,h2⟩:=plc_lt c l hc;have HI:=Lib.hid (index_any g 256 l c w hl hc h);have HA:=Lib.hid (at_any w g (plc c l) c l hl (by omega) h2 h);generalize plc c l=p at *
 clear h2 hc h
 go_enter Tryz.func54, Tryz.ntmps54
 go_wp2_with fail
 refine HI.out.mono ?_;rintro e1 w1 ⟨rfl,rfl⟩;go_wp2_with fail
 refine HA.out.mono ?_;rintro e1 w1 ⟨rfl,hr,hf⟩;have HX:Aside _:=And.intro hr hf;clear hr hf;go_wp2_with fail
 go_ret
 exact⟨rfl,HX.out.1,HX.out.2⟩
end Fr
end Go.Proofs.YtjligbmickfbdaaGreat
namespace Go.Proofs.YtjligbmickfbdaaGreat
namespace Fr
open Go.RowKit
open Bt (Frm)
theorem own_frm {w w':World} {base:Nat} {e:TypeId} {size n b:Nat} {v:Value} {g:Option Nat} {xs:List Value} (h:w.ownsRow base e size v n xs) (hf:Frm w w' b g) (h1:v.ownBlock≠some b) (h2:∀k,v.ownBlock=some k->some k≠g):w'.ownsRow base e size v n xs:=by
 refine⟨h.1,?_⟩;rcases h.2 with ⟨hv,h0⟩|⟨g',cap,cur,hv,hg,hh,hr⟩
 ·exact .inl ⟨hv,h0⟩
 ·subst hv
  exact .inr ⟨g',cap,cur,rfl,hg,(hf.blk g' (Array.getElem?_eq_some_iff.1 hh).1 (fun e=>h1 (by rw[<-e];rfl)) (h2 g' rfl)).trans hh,hr⟩
set_option maxHeartbeats 3200000 in
set_option maxRecDepth 100000 in
theorem ranks_any (s:ByteArray) (w:World) (hs:s.size<=20000) :
  Calls Tryz.prog 23 #[.string s] w fun e w'=>∃v,e=.returned v/\Own w' w.heap.size v (rks row0 s.data.toList)/\Below w.heap.size w w':=by
 have mixed:Tryz.prog.follows .mixedOrders=true:=by kernel_rfl
 go_enter Tryz.func23, Tryz.ntmps23
 go_wp2_with fail
 refine(begun_any w).mono ?_;rintro e1 w1 ⟨g,rfl,hr1,hg1,hb1⟩;have hg1l:=hr1.lt;have HR1:=Lib.hid hr1;have HB1:=Lib.hid hb1;have hs1:=hb1.size;clear hr1 hb1;go_wp2_with (at_make;(refine make0 (n:=s.size) (by omega) (Nat.le_refl w1.heap.size) ?_);intro w2 hown2 hg2 hz2)
 have hr2:RowB w2 g row0:=(hg2.block g hg1l (by simp)).trans HR1.out;have hb2:Below w.heap.size w w2:=HB1.out.grown hg2 hs1 (by simp);have H0:Aside (Own w2 w1.heap.size (.slice (some ⟨w1.heap.size,0,none⟩) 0 s.size) []/\RowB w2 g row0/\Below w.heap.size w w2/\w1.heap.size<=w2.heap.size):=⟨hown2,hr2,hb2,by omega⟩
 clear hown2 hr2 hb2 hg2 hz2;go_wp2_with fail
 go_loopg [4,5] s.size (fun kx s4 s5 wr=>∃(k:Nat) (acc:List Int) (row:List UInt8) (v:Value),v=s4/\s5=.int .i64 (k:Int)/\k<=s.size/\s.size-k<=kx/\Hid (acc++rks row (s.data.toList.drop k)=rks row0 s.data.toList) /\
  Aside (Own wr w1.heap.size v acc/\RowB wr g row/\Below w.heap.size w wr/\w1.heap.size<=wr.heap.size)/\Aside (acc.length=k/\row.length=256/\ ∀c,c∈row))
 case atStart=>exact⟨0,[],row0,_,rfl,rfl,by omega,by omega,(show Hid _ from rfl),H0.out,⟨rfl,length_row0,row0_mem⟩⟩
 case round =>
  clear H0;obtain⟨k,acc,row,v,hv,rfl,hk,hkx,heq,H,HL⟩:=hrel;subst hv;by_cases hlt:k<s.size
  ·have hdr:s.data.toList.drop k=s[k]::s.data.toList.drop (k+1):=List.drop_eq_getElem_cons (show k<s.data.toList.length from hlt)
   have HRK:=Lib.hid (rank_any g row s[k] wr HL.out.2.1 (HL.out.2.2 _) H.out.2.1);have hst:(acc++[(plc s[k] row:Int)])++rks (mv row (plc s[k] row)) (s.data.toList.drop (k+1))=rks row0 s.data.toList:=by
    rw[<-heq.out,hdr,List.append_assoc];rfl
   have HST:=Lib.hid hst;have hown:=H.out.1;have hne:v.ownBlock≠some g:=by
    intro e;have:=(World.ownsRow.lt hown g e).1;omega
   have hmv:(mv row (plc s[k] row)).length=256:=by rw[length_mv];exact HL.out.2.1
   have hmm:∀c,c∈mv row (plc s[k] row):=fun c=>(mv_perm row _).mem_iff.2 (HL.out.2.2 c)
   have HMV:=Lib.hid hmv;have HMM:=Lib.hid hmm;generalize plc s[k] row=p at *
   clear hdr hst hmv hmm hown;go_wp2_with fail
   refine HRK.out.mono ?_;rintro e3 w3 ⟨rfl,hr3,hf3⟩;have hown3:Own w3 w1.heap.size v acc:=own_frm H.out.1 hf3 hne (by simp);have hb3:Below w.heap.size w w3:=H.out.2.2.1.trans (hf3.below (by omega) (by have:=H.out.2.2.2;omega) (by simp));have hs3:w1.heap.size<=w3.heap.size:=Nat.le_trans H.out.2.2.2 hf3.size;have hal:acc.length<=1099511627776:=by have:=HL.out.1;omega
   have H3:Aside _:=And.intro hr3 hb3;have HAL:=Lib.hid hal;have HO3:=Lib.hid hown3;clear hr3 hf3 hb3 hal HRK hown3;go_wp2_with (at_builtin;refine append1 HO3.out HAL.out hs3 ?_;intro A4 n4 c4 w4 hn4 hown4 hb4 hg4 hat4)
   have hr4:RowB w4 g (mv row p):=(hg4.block g (by omega) (fun e=>hne e.symm)).trans H3.out.1;have hb5:Below w.heap.size w w4:=H3.out.2.trans (hb4.mono (by omega));have HN:Aside _:=And.intro hown4 (And.intro hr4 (And.intro hb5 (Nat.le_trans hs3 hb4.size)));clear hown4 hr4 hb5 hb4 hg4 hat4 hn4 HO3;go_wp2_with fail
   go_roundg (s.size-(k+1))
   case measure=>omega
   case rel=>exact⟨k+1,_,mv row p,_,rfl,by go_num,by omega,by omega,HST.out,HN.out,⟨by rw[List.length_append,HL.out.1];rfl,HMV.out,HMM.out⟩⟩
  ·have hd:s.data.toList.drop k=[]:=List.drop_eq_nil_of_le (by show s.size<=k;omega)
   have hres:=heq.out;rw[hd] at hres;have hr2:acc=rks row0 s.data.toList:=by rw[<-hres];simp[rks]
   have HX:Aside (Own wr w.heap.size v (rks row0 s.data.toList)/\Below w.heap.size w wr):=⟨by rw[<-hr2];exact(H.out.1).lower (by omega),H.out.2.2.1⟩
   clear hd hres hr2;go_wp2_with fail
   go_ret
   exact⟨_,rfl,HX.out.1,HX.out.2⟩
end Fr
end Go.Proofs.YtjligbmickfbdaaGreat
