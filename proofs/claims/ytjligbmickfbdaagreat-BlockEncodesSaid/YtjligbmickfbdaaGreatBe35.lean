/- bits.Writer: Put, Gamma, Text: what they make of a writer's bits. bits.Writer.Text. canon.Code: Word, Put. bits.Reader: peek, Left. -/
import Derived.Test.YtjligbmickfbdaaGreatBe05
import Derived.Shelf.Small.Bits
import Derived.Shelf.Lay
import Derived.Ground.NamesProg
import Derived.Test.YtjligbmickfbdaaGreatBe15
namespace Go.Proofs.YtjligbmickfbdaaGreat
namespace Bt
open Go.RowKit Go.Shelf
shelf_lay Lays.n125 Nm 125 at Tryz as BtLen
def Wt (w:World) (B b:Nat) (g:Option Nat) (bs:List Bool):Prop :=
 ∃v l rest n,WrS w B b v l rest n/\n<8/\rest<2^n/\bs=bits l++toB n rest/\v.ownBlock=g
def Nxt (w:World) (g g':Option Nat):Prop:=g'=g∨ ∃m,g'=some m/\w.heap.size<=m
theorem put_bits (w:World) (B b:Nat) (g:Option Nat) (bs:List Bool) (x wd:Nat) (h:Wt w B b g bs) (hx:x<2^wd) (hwd:wd<=32) (hl:bs.length<=8000000) :
  Calls Tryz.prog 130 #[.pointer (some ⟨b,0,none⟩),.int .i64 (x:Int),.int .i64 (wd:Int)] w fun e w'=>e=.returned (.tuple #[]) /\
   ∃g',Wt w' B b g' (bs++toB wd x)/\Frm w w' b g/\Nxt w g g':=by
 obtain⟨v,l,rest,n,hW,hn,hr,rfl,rfl⟩:=h;have hl2:l.length<=1000000:=by rw[List.length_append,length_bits] at hl;omega
 refine(put_any w B b v l rest n x wd hW hn hr hx hwd hl2).mono ?_;rintro e w' ⟨he,v',l',rest',n',h1,h2,h3,h4,_,h6,h7⟩;exact⟨he,v'.ownBlock,⟨v',l',rest',n',h1,h2,h3,h4.symm,rfl⟩,h6,h7⟩
theorem Nxt.trans {w w':World} {g g' g2:Option Nat} (h:Nxt w g g') (k:Nxt w' g' g2) (hs:w.heap.size<=w'.heap.size):Nxt w g g2:=by
 rcases k with rfl|⟨m,rfl,hm⟩
 ·exact h
 ·exact .inr ⟨m,rfl,by omega⟩
set_option maxHeartbeats 1600000 in
set_option maxRecDepth 100000 in
theorem fits_any (w:World) (x wd:Nat) (hx:x<2^wd) (hwd:wd<=32) :
  Calls Tryz.prog 129 #[.int .i64 (x:Int),.int .i64 (wd:Int)] w fun e w'=>e=.returned (.bool true)/\w=w':=by
 have hd:(x:Int)/2^wd=0:=by
  rw[show((2:Int)^wd)=((2^wd:Nat):Int) by simp,<-Int.natCast_ediv,Nat.div_eq_of_lt hx];rfl
 clear hx
 go_enter Tryz.func129, Tryz.ntmps129
 go_wp2
 go_ret
 exact⟨rfl,rfl⟩
set_option maxHeartbeats 1600000 in
set_option maxRecDepth 100000 in
theorem Put_any (w:World) (B b:Nat) (g:Option Nat) (bs:List Bool) (x wd:Nat) (h:Wt w B b g bs) (hx:x<2^wd) (hwd:wd<=32) (hl:bs.length<=8000000) :
  Calls Tryz.prog 89 #[.pointer (some ⟨b,0,none⟩),.int .i64 (x:Int),.int .i64 (wd:Int)] w fun e w'=>e=.returned (.int .i64 0) /\
   ∃g',Wt w' B b g' (bs++toB wd x)/\Frm w w' b g/\Nxt w g g':=by
 have hp:=put_bits w B b g bs x wd h hx hwd hl;have hf:=fits_any w x wd hx hwd;have HP:=Lib.hid hp;clear hp h hl hx
 go_enter Tryz.func89, Tryz.ntmps89
 go_wp2_with fail
 refine hf.mono ?_;rintro e1 w1 ⟨rfl,rfl⟩;go_wp2_with fail
 refine HP.out.mono ?_;rintro e2 w2 ⟨rfl,h2⟩;go_wp2_with fail
 go_ret
 exact⟨rfl,h2⟩
theorem bl_half (n:Nat) (h:n≠0):bl n=1+bl (n/2):=by
 unfold bl;rw[if_neg h];by_cases h2:n<2
 ·have:n=1:=by omega
  subst this;rfl
 ·rw[if_neg (by omega),Nat.log2_def,if_pos (by omega)];omega
theorem bitLen_bl:∀(n:Nat),n<2^64->Lib.bitLen n=bl n:=by
 intro n
 induction n using Nat.strongRecOn with
 |ind n ih =>
  intro h;by_cases h0:n=0
  ·subst h0;rfl
  ·rw[Lib.bitLen_half n h0 h,bl_half n h0,ih (n/2) (by omega) (by omega)]
set_option maxHeartbeats 1600000 in
set_option maxRecDepth 100000 in
theorem gamma_any (w:World) (B b:Nat) (g:Option Nat) (bs:List Bool) (n:Nat) (h:Wt w B b g bs) (hn:0<n) (hn2:n<=1000000) (hl:bs.length<=7000000) :
  Calls Tryz.prog 90 #[.pointer (some ⟨b,0,none⟩),.int .i64 (n:Int)] w fun e w'=>e=.returned (.int .i64 0) /\
   ∃g',Wt w' B b g' (bs++gam n)/\Frm w w' b g/\Nxt w g g':=by
 obtain⟨hb1,hb2,hb3⟩:=bl_spec n hn;have hb20:bl n<=20:=by
  rcases Nat.lt_or_ge 20 (bl n) with hlt|hge
  ·have:2^20<=2^(bl n-1):=Nat.pow_le_pow_right (by omega) (by omega)
   omega
  ·exact hge
 have hf:=fits_any w n 32 (by omega) (by omega);have hlen:=Any.bits_Len BtLen (n:Int) w (by omega) (by omega);rw[Int.toNat_natCast,bitLen_bl n (by omega)] at hlen
 change Calls Tryz.prog 131 _ _ _ at hlen
 have hp:=put_bits w B b g bs 0 (bl n-1) h (Nat.two_pow_pos _) (by omega) (by omega);have hgam:gam n=toB (bl n-1) 0++toB (bl n) n:=rfl;have HG:=Lib.hid hgam;have HP:=Lib.hid hp;have HB2:=Lib.hid hb2;have HLN:=Lib.hid hl;obtain⟨q,hq⟩:∃q,bl n=q+1:=⟨bl n-1,by omega⟩
 rw[hq,Nat.add_sub_cancel] at HP;rw[hq] at hlen hb20 HB2;have HQ:=Lib.hid hq;clear hp h hl hb1 hb2 hb3 hgam hq
 go_enter Tryz.func90, Tryz.ntmps90
 go_wp2_with fail
 refine hf.mono ?_;rintro e1 w1 ⟨rfl,rfl⟩;go_wp2_with fail
 refine hlen.mono ?_;rintro e2 w2 ⟨rfl,rfl⟩;go_wp2_with fail
 refine HP.out.mono ?_;rintro e3 w3 ⟨rfl,g3,hW3,hF3,hN3⟩;have hp2:=put_bits w3 B b g3 _ n (q+1) hW3 HB2.out (by omega) (by rw[List.length_append,length_toB];have:=HLN.out;omega);have HP2:=Lib.hid hp2;have HF3:=Lib.hid hF3;have HN3:=Lib.hid hN3;clear hp2 hW3 hF3 hN3;go_wp2_with fail
 refine HP2.out.mono ?_;rintro e4 w4 ⟨rfl,g4,hW4,hF4,hN4⟩;have HE:Aside (∃g',Wt w4 B b g' (bs++gam n)/\Frm w2 w4 b g/\Nxt w2 g g'):=by
  refine⟨g4,?_,HF3.out.trans hF4 HN3.out,HN3.out.trans hN4 HF3.out.size⟩;rw[HG.out,HQ.out,Nat.add_sub_cancel,<-List.append_assoc];exact hW4
 clear hW4 hF4 hN4;go_wp2_with fail
 go_ret
 exact⟨rfl,HE.out⟩
end Bt
end Go.Proofs.YtjligbmickfbdaaGreat
namespace Go.Proofs.YtjligbmickfbdaaGreat
namespace Bt
open Go.RowKit
def btxt (bs:List Bool):ByteArray:=⟨(byt bs).toArray⟩
theorem OwnB.rd1 {w:World} {B:Nat} {v:Value} {l:List UInt8} (h:OwnB w B v l) (w':World) (hk:∀p:Addr,p.block<w.heap.size->w'.cell? p=w.cell? p) :
  (convert 65 9 v).run Tryz.prog w'=.ok (.string ⟨l.toArray⟩) w':=by
 obtain⟨A,c,rfl,_,_,hr⟩:=h.rd;exact run_str (hr.keep hk)
set_option maxHeartbeats 3200000 in
set_option maxRecDepth 100000 in
theorem text_any (w:World) (B b:Nat) (g:Option Nat) (bs:List Bool) (h:Wt w B b g bs) (hl:bs.length<=8000000) :
  Calls Tryz.prog 47 #[.pointer (some ⟨b,0,none⟩)] w fun e w'=>e=.returned (.string (btxt bs))/\Below w.heap.size w w':=by
 have mixed:Tryz.prog.follows .mixedOrders=true:=by kernel_rfl
 obtain⟨v,l,rest,n,hW,hn,hr,rfl,rfl⟩:=h;have hc0:=hW.c0;have hc1:=hW.c1;have hc2:=hW.c2;have hlt:=hW.lt;have HO:=Lib.hid hW.own;by_cases h0:n=0
 ·subst h0
  have hb:btxt (bits l++toB 0 rest)=⟨l.toArray⟩:=by
   unfold btxt;rw[byt_whole];simp[toB,byt_nil]
  rw[hb];have hcv:=OwnB.rd1 HO.out w (fun _ _=>rfl);clear hW hb
  go_enter Tryz.func47, Tryz.ntmps47
  go_wp2
  go_ret
  exact⟨rfl,Below.refl _ _⟩
 ·have hr2:rest*2^(8-n)<256:=by
   have:=Nat.mul_lt_mul_of_pos_right hr (Nat.two_pow_pos (8-n))
   rwa [<-Nat.pow_add,show n+(8-n)=8 by omega] at this
  have hb:btxt (bits l++toB n rest)=⟨(l++[UInt8.ofNat (rest*2^(8-n))]).toArray⟩:=by
   unfold btxt;rw[byt_whole,byt_part _ (by rw[length_toB];omega) (by rw[length_toB];omega),length_toB,ofB_toB_lt _ _ hr]
  rw[hb];have hz:∀z:Int,z=((rest*2^(8-n):Nat):Int)->z=((UInt8.ofNat (rest*2^(8-n))).toNat:Int):=by
   intro z e;rw[e,UInt8.toNat_ofNat'];omega
  have hZ:IntKind.u64.wrap ((rest:Int)*2^(8-n))%256=((UInt8.ofNat (rest*2^(8-n))).toNat:Int):=by
   apply hz
   rw[show(rest:Int)*2^(8-n)=((rest*2^(8-n):Nat):Int) by simp,IntKind.wrap_u64];omega
  have hcv1:=OwnB.rd1 HO.out w.drew (fun _ _=>rfl);have hcv2:=OwnB.rd1 HO.out (w.alloc (.cells #[.int .u8 (IntKind.u64.wrap ((rest:Int)*2^(8-n))%256)] 5)).drew (fun p hp=>World.cell?_alloc_lt w _ p hp);have hcA:(w.alloc (.cells #[.int .u8 (IntKind.u64.wrap ((rest:Int)*2^(8-n))%256)] 5)).cell? ⟨b,0,none⟩=some v:=(World.cell?_alloc_lt w _ ⟨b,0,none⟩ hlt).trans hc0;have hcv3:(convert 65 9 (.slice (some ⟨w.heap.size,0,none⟩) 1 1)).run Tryz.prog (w.alloc (.cells #[.int .u8 (IntKind.u64.wrap ((rest:Int)*2^(8-n))%256)] 5)).drew=.ok (.string ⟨[UInt8.ofNat (rest*2^(8-n))].toArray⟩) (w.alloc (.cells #[.int .u8 (IntKind.u64.wrap ((rest:Int)*2^(8-n))%256)] 5)).drew:=by
   rw[hZ];exact run_str (B:=w.heap.size+1) (l:=[UInt8.ofNat (rest*2^(8-n))]) ⟨rfl,fun _=>⟨_,rfl,by simp,cell_one_new w _ _⟩⟩
  have hbel:Below w.heap.size w (w.alloc (.cells #[.int .u8 (IntKind.u64.wrap ((rest:Int)*2^(8-n))%256)] 5)).drew:=(ext_alloc w _).drew;have HBL:=Lib.hid hbel;obtain⟨S1,hS1⟩:∃S1:ByteArray,S1=⟨l.toArray⟩:=⟨_,rfl⟩
  obtain⟨S2,hS2⟩:∃S2:ByteArray,S2=⟨[UInt8.ofNat (rest*2^(8-n))].toArray⟩:=⟨_,rfl⟩
  have hs1:S1.size<=1000000:=by
   rw[hS1];show l.toArray.size<=_
   rw[List.size_toArray];rw[List.length_append,length_bits] at hl;omega
  have hs2:S2.size=1:=by rw[hS2];rfl
  rw[<-hS1] at hcv1 hcv2;rw[<-hS2] at hcv3;have hres:(⟨(l++[UInt8.ofNat (rest*2^(8-n))]).toArray⟩:ByteArray)=S1++S2:=by
   rw[hS1,hS2];apply ByteArray.ext
   simp
  rw[hres];clear hW hb hz hr2 hZ hbel hS1 hS2 hres hl
  go_enter Tryz.func47, Tryz.ntmps47
  go_wp2_with fail
  go_region
  go_wp2
  go_ret
  exact⟨rfl,HBL.out⟩
end Bt
end Go.Proofs.YtjligbmickfbdaaGreat
namespace Go.Proofs.YtjligbmickfbdaaGreat
namespace Cn
open Go.RowKit
theorem wds_at (l:List Int) (s:Nat) (hs:s<l.length) (h:0<l[s]):(wds l)[s]? =some ((wd l s:Int),l[s]):=by
 unfold wds;rw[List.getElem?_map,List.getElem?_range hs];have:l.getD s 0=l[s]:=by rw[List.getD_eq_getElem?_getD,List.getElem?_eq_getElem hs];rfl
 simp only[Option.map_some,this];rw[if_pos h]
set_option maxHeartbeats 3200000 in
set_option maxRecDepth 100000 in
theorem word_any (w:World) (b s:Nat) (l:List Int) (h:Cd w b l) (hl:l.length<=1000) (hs:s<l.length) (hp:0<l[s]) :
  Calls Tryz.prog 91 #[.pointer (some ⟨b,0,none⟩),.int .i64 (s:Int)] w fun e w'=>e=.returned (.tuple #[.agg #[.int .i64 (wd l s:Int),.int .i64 l[s]],.int .i64 0])/\Below w.heap.size w w':=by
 have mixed:Tryz.prog.follows .mixedOrders=true:=by kernel_rfl
 obtain⟨g,c,hc0,hr⟩:=h.words;have hm:=h.made;obtain⟨h1,h2⟩:=fl2_at (wds l) s _ (wds_at l s hs hp);have hcell:∀k u,(fl2 (wds l))[k]? =some u->w.cell? ⟨g,k,none⟩=some u:=by
  intro k u hu;obtain⟨ad,e,_,hc⟩:=hr.cells (by omega);cases e
  have:=hc k u hu
  rwa [Addr.add_lit,Nat.zero_add] at this
 have hg:g<w.heap.size:=by
  obtain⟨ad,e,hb,_⟩:=hr.cells (by omega);cases e;exact hb
 have hc1:=hcell _ _ h1;have hc2:=hcell _ _ h2;have hlb:=h.lt;generalize wd l s=x at *
 generalize l[s]=y at *
 rw[show 2*s=s*2 by omega] at hc1 hc2;have b0:(y==0)=false:=by rw[beq_eq_false_iff_ne];omega
 generalize l.length=n at *
 have HR:=Lib.hid hr;clear h hr h1 h2 hcell
 go_enter Tryz.func91, Tryz.ntmps91
 go_wp2_with fail
 refine bodyPost_ret (v:=.tuple #[.agg #[.int .i64 (x:Int),.int .i64 y],.int .i64 0]) ?_ rfl ?_
 ·simp[results,go_sem]
 ·exact⟨rfl,ext_alloc w _⟩
section
open Bt
theorem frm_of_below {w w':World} (h:Below w.heap.size w w') (b:Nat) (g:Option Nat):Frm w w' b g:=⟨h.os,h.tape,h.output,h.size,fun k hk _ _=>h.block k hk⟩
theorem wt_ext {w w':World} {B b:Nat} {g:Option Nat} {bs:List Bool} (h:Wt w B b g bs) (hb:Below w.heap.size w w'):Wt w' B b g bs:=by
 obtain⟨v,l,rest,n,hW,h1,h2,h3,h4⟩:=h;exact⟨v,l,rest,n,⟨(hb.block b hW.lt).trans hW.row,hW.ge,hW.own.below hb (Nat.le_refl _),hW.ne⟩,h1,h2,h3,h4⟩
set_option maxHeartbeats 3200000 in
set_option maxRecDepth 100000 in
theorem cput_any (w:World) (b s:Nat) (l:List Int) (B bw:Nat) (g:Option Nat) (bs:List Bool) (h:Cd w b l) (hok:Ok l) (hl:l.length<=1000) (hs:s<l.length) (hp:0<l[s]) (hW:Wt w B bw g bs) (hbl:bs.length<=8000000) :
  Calls Tryz.prog 46 #[.pointer (some ⟨b,0,none⟩),.pointer (some ⟨bw,0,none⟩),.int .i64 (s:Int)] w fun e w'=>e=.returned (.int .i64 0) /\
   ∃g',Wt w' B bw g' (bs++toB l[s].toNat (wd l s))/\Frm w w' bw g/\Nxt w g g':=by
 have hr:=hok.rng l[s] (List.getElem_mem _);obtain⟨y,hy⟩:∃y:Nat,l[s]=(y:Int):=⟨l[s].toNat,by omega⟩
 obtain⟨hw0,hlt,hy15⟩:=wd_lt l hok s y hs (by omega) hy;clear hw0;have hwd:=word_any w b s l h hl hs hp;have hput:=fun w' (hb:Below w.heap.size w w')=>Put_any w' B bw g bs (wd l s) y (wt_ext hW hb) hlt (by omega) hbl
 rw[hy] at hwd ⊢;rw[Int.toNat_natCast];have HWD:=Lib.hid hwd;have HP:=Lib.hid hput;generalize wd l s=x at *
 clear hwd hput h hok hW hbl hr hy hlt hp
 go_enter Tryz.func46, Tryz.ntmps46
 go_wp2_with fail
 refine HWD.out.mono ?_;rintro e1 w1 ⟨rfl,hb1⟩;have hb2:Below w.heap.size w (w1.alloc (Obj.cells #[.int .i64 (x:Int),.int .i64 (y:Int)] 141)):=ext_trans hb1 (ext_alloc w1 _);have HB2:=Lib.hid hb2;clear hb2;go_wp2_with fail
 refine(HP.out _ HB2.out).mono ?_;rintro e2 w2 ⟨rfl,g',h1,h2,h3⟩;have HE:Aside (∃g',Wt w2 B bw g' (bs++toB y x)/\Frm w w2 bw g/\Nxt w g g'):=⟨g',h1,(frm_of_below HB2.out bw g).trans h2 (.inl rfl),by
  rcases h3 with e|⟨m,e,hm⟩
  ·exact .inl e
  ·exact .inr ⟨m,e,Nat.le_trans HB2.out.size hm⟩⟩
 clear h1 h2 h3;go_wp2_with fail
 go_ret
 exact⟨rfl,HE.out⟩
end
end Cn
end Go.Proofs.YtjligbmickfbdaaGreat
namespace Go.Proofs.YtjligbmickfbdaaGreat
namespace Bt
open Go.RowKit
def RdS (w:World) (b:Nat) (s:ByteArray) (p:Nat):Prop:=w.heap[b]? =some (.cells #[.string s,.int .i64 (p:Int)] 165 (0,0))
section
variable {w w':World} {b p:Nat} {s:ByteArray}
theorem RdS.lt (h:RdS w b s p):b<w.heap.size:=(Array.getElem?_eq_some_iff.1 h).1
theorem RdS.c0 (h:RdS w b s p):w.cell? ⟨b,0,none⟩=some (.string s):=by rw[cell_of_row w b 0 _ _ (0,0) h];rfl
theorem RdS.c1 (h:RdS w b s p):w.cell? ⟨b,1,none⟩=some (.int .i64 (p:Int)):=by rw[cell_of_row w b 1 _ _ (0,0) h];rfl
theorem RdS.fz (h:RdS w b s p) (j:Nat):w.frozen? ⟨b,j,none⟩=false:=frozen_of_row w b j _ _ h
theorem RdS.set1 (h:RdS w b s p) (q:Nat):RdS (w.setCell ⟨b,1,none⟩ (.int .i64 (q:Int))) b s q:=by
 unfold RdS at *
 simp[World.setCell,Array.getElem?_modify,h]
theorem RdS.drewN (h:RdS w b s p) (m:Nat):RdS (w.drewN m) b s p:=h
end
def bnum (s:ByteArray) (p k:Nat):Nat:=ofB (((bits s.data.toList).drop p).take k)
theorem bnum_add (s:ByteArray) (p a k:Nat) (h:p+a+k<=8*s.size):bnum s p (a+k)=bnum s p a*2^k+bnum s (p+a) k:=by
 unfold bnum;rw[take_bits_succ,ofB_append];have hl:(((bits s.data.toList).drop (p+a)).take k).length=k:=by
  rw[List.length_take,List.length_drop,length_bits];have:s.data.toList.length=s.size:=rfl;omega
 rw[hl]
theorem bnum_lt (s:ByteArray) (p k:Nat):bnum s p k<2^k:=by
 unfold bnum;exact Nat.lt_of_lt_of_le (ofB_lt _) (Nat.pow_le_pow_right (by omega) (by rw[List.length_take];omega))
theorem bnum_byte (s:ByteArray) (p k:Nat) (h:p/8<s.size) (hk:p%8+k<=8):bnum s p k=s[p/8].toNat/2^(8-p%8-k)%2^k:=by
 unfold bnum;rw[byte_bits s.data.toList p k s[p/8] (by rw[List.getElem?_eq_getElem (show p/8<s.data.toList.length from h)];rfl) hk,ofB_toB]
theorem w64 (n:Nat) (h:n<9223372036854775808):wrap64 (n:Int)=n:=by unfold wrap64;omega
theorem wraps_i64' (n:Int) (h₀:0<=n) (h₁:n<2^63):IntKind.i64.wrap n=n:=by
 have e:(2:Int)^63=9223372036854775808:=by decide
 rw[IntKind.wrap_i64];omega
theorem pk1 (c:Nat) (hc:c<=8):wrap64 (wrap64 (2^c)-1)=2^c-1:=by
 have:c=0∨c=1∨c=2∨c=3∨c=4∨c=5∨c=6∨c=7∨c=8:=by omega
 rcases this with rfl|rfl|rfl|rfl|rfl|rfl|rfl|rfl|rfl<;>simp[wrap64]
theorem pk2 (B e:Nat) (hB:B<256):wrap64 (B:Int)/2^e=((B/2^e:Nat):Int):=by
 rw[w64 B (by omega),Int.natCast_ediv,Int.natCast_pow];rfl
theorem pk3 (x c:Nat) (hx:x<256) (hc:c<=8):Go.bits .and .i64 (x:Int) (2^c-1)=((x%2^c:Nat):Int):=by
 have h63:(x:Int)<2^63:=by
  have e63:(2:Int)^63=9223372036854775808:=by decide
  rw[e63];omega
 rw[bits_mask .i64 63 (by decide) wraps_i64' c (by omega) _ (by omega) h63,Int.natCast_emod,Int.natCast_pow];rfl
theorem pk4 (q x c:Nat) (hq:q*2^c<1099511627776) (hx:x<2^c) (hc:x<256):Go.bits .or .i64 ((q*2^c:Nat):Int) (x:Int)=((q*2^c+x:Nat):Int):=by
 have h1:q*2^c<2^63:=Nat.lt_of_lt_of_le hq (by decide);have h2:x<2^63:=Nat.lt_of_lt_of_le hc (by decide);rw[(bits_nat .i64 63 (by decide) wraps_i64' (q*2^c) x h1 h2).2,Nat.mul_comm,Nat.two_pow_add_eq_or_of_lt hx]
theorem pk5 (q d c:Nat) (h:q<2^d) (hd:d+c<=40):q*2^c<1099511627776:=by
 have h1:=Nat.mul_lt_mul_of_pos_right h (Nat.two_pow_pos c);rw[<-Nat.pow_add] at h1;exact Nat.lt_of_lt_of_le h1 (Nat.le_trans (Nat.pow_le_pow_right (by omega) hd) (by decide))
theorem pk6 (q c:Nat) (h:q*2^c<1099511627776):wrap64 ((q:Int)*2^c)=((q*2^c:Nat):Int):=by
 have e:(q:Int)*2^c=((q*2^c:Nat):Int):=by rw[Int.natCast_mul,Int.natCast_pow];rfl
 rw[e];generalize q*2^c=z at *
 exact w64 z (by omega)
theorem peekJoin (acc d c f B:Nat) (h:acc<2^d) (hd:d+c<=40) (hc:c<=8) (hB:B<256) :
  Go.bits .or .i64 (wrap64 ((acc:Int)*2^c)) (Go.bits .and .i64 (wrap64 (B:Int)/2^(f-c)) (wrap64 (wrap64 (2^c)-1)))=((acc*2^c+B/2^(f-c)%2^c:Nat):Int):=by
 have hq:B/2^(f-c)<256:=Nat.lt_of_le_of_lt (Nat.div_le_self _ _) hB;have h5:=pk5 acc d c h hd;rw[pk1 c hc,pk2 B _ hB,pk3 _ c hq hc,pk6 acc c h5];exact pk4 acc _ c h5 (Nat.mod_lt _ (Nat.two_pow_pos c)) (Nat.lt_of_le_of_lt (Nat.mod_le _ _) hq)
set_option maxHeartbeats 3200000 in
set_option maxRecDepth 100000 in
theorem peek_any (w:World) (b p0 p wd:Nat) (s:ByteArray) (h:RdS w b s p0) (hs:s.size<=1000000) (hp:p+wd<=8*s.size) (hwd:wd<=40) :
  Calls Tryz.prog 141 #[.pointer (some ⟨b,0,none⟩),.int .i64 (p:Int),.int .i64 (wd:Int)] w fun e w'=>e=.returned (.int .i64 (bnum s p wd:Int))/\ ∃m,w'=w.drewN m:=by
 have mixed:Tryz.prog.follows .mixedOrders=true:=by kernel_rfl
 have hc0:=h.c0;have HP:=Lib.hid hp;clear h
 go_enter Tryz.func141, Tryz.ntmps141
 go_wp2_with fail
 go_loopg [1,2,7] wd (fun kx s1 s2 s7 wr=>∃(d k m:Nat),d+k=wd/\s1=.int .i64 ((p+d:Nat):Int)/\s2=.int .i64 (k:Int)/\s7=.int .i64 (bnum s p d:Int)/\k<=kx/\wr=w.drewN m)
 case atStart=>exact⟨0,wd,0,by omega,rfl,rfl,by simp[bnum,ofB],by omega,rfl⟩
 case round =>
  obtain⟨d,k,m,hdk,rfl,rfl,rfl,hkx,rfl⟩:=hrel;by_cases h0:0<k
  ·obtain⟨t,ht⟩:∃t,t=p+d:=⟨_,rfl⟩
   obtain⟨r,hr⟩:∃r,r=t%8:=⟨_,rfl⟩
   obtain⟨j,hj⟩:∃j,j=t/8:=⟨_,rfl⟩
   have hjs:j<s.size:=by have:=HP.out;omega
   obtain⟨f,hf⟩:∃f,f=8-r:=⟨_,rfl⟩
   obtain⟨c,hc⟩:∃c,c=min f k:=⟨_,rfl⟩
   rw[<-ht];have e1:(t:Int)%8=(r:Int):=by omega
   have e2:(t:Int)/8=(j:Int):=by omega
   have e3:(8:Int)-(r:Int)=(f:Int):=by omega
   have e4:min (f:Int) (k:Int)=(c:Int):=by omega
   have hrb:r<8:=by omega
   have hfb:1<=f:=by omega
   have hf8:f<=8:=by omega
   have hcb:1<=c:=by omega
   have hcf:c<=f:=by omega
   have hck:c<=k:=by omega
   have htb:t<=8000000:=by have:=HP.out;omega
   have hbl:=bnum_lt s p d;have E1:=Lib.hid e1;have E2:=Lib.hid e2;have E3:=Lib.hid e3;have E4:=Lib.hid e4;have HT:=Lib.hid ht;have HR:=Lib.hid hr;have HJ:=Lib.hid hj;have HF:=Lib.hid hf;clear e1 e2 e3 e4 ht hr hj hf hc;go_wp2_with fail
   rw[E1.out,E3.out,E4.out];have e2:=E2.out;have hj:=peekJoin (bnum s p d) d c f s[j].toNat hbl (by omega) (by omega) s[j].toNat_lt;have hbn:bnum s p d*2^c+s[j].toNat/2^(f-c)%2^c=bnum s p (d+c):=by
    rw[bnum_add s p d c (by have:=HP.out;omega),<-HT.out];have hjt:t/8=j:=HJ.out.symm;have:=bnum_byte s t c (by omega) (by have:=HR.out;have:=HF.out;omega);rw[this];subst hjt;rw[show 8-t%8-c=f-c by have:=HR.out;have:=HF.out;omega]
   rw[hbn] at hj;have HJN:=Lib.hid hj;clear hj hbn;go_region
   go_wp2_with fail
   go_roundg (k-c)
   case measure=>omega
   case rel=>exact⟨d+c,k-c,_,by omega,by(have:=HT.out;go_num),by go_num,by rw[HJN.out],by omega,rfl⟩
  ·have hk0:k=0:=by omega
   subst hk0;have hd:d=wd:=by omega
   subst hd;go_wp2_with fail
   go_ret
   exact⟨rfl,m,rfl⟩
end Bt
end Go.Proofs.YtjligbmickfbdaaGreat
