/- seg: create. seg: create, step by step. A manifest's bytes; a new log's manifest and state. Plain. varint.Size, record.Size. buff.Raw, buff.Next. -/
import Derived.Test.YtejcdhdfanfkbaaGreatFb28
import Derived.Test.YtejcdhdfanfkbaaGreatFb22
import Derived.Test.YtejcdhdfanfkbaaGreatFb23
import Derived.Test.YtejcdhdfanfkbaaGreatFb10
import Derived.Test.YtejcdhdfanfkbaaGreatFb24
import Derived.Test.YtejcdhdfanfkbaaGreatFb27
import Derived.Test.YtejcdhdfanfkbaaGreatFb05
import Derived.Test.YtejcdhdfanfkbaaGreatFb19
import Derived.Deep.LoopGhost
namespace Go.Proofs.YtejcdhdfanfkbaaGreat
namespace Dk
open Go.RowKit Hd Fm Sn
section
variable {w w':World} {S:Nat->Prop} {bd gN gS:Nat} {v:Value} {D:DS}
theorem rd_blk {g:Nat} {cs:Array Value} {t:TypeId} (h:Blk w g cs t):Rd w w.heap.size 1 (some ⟨g,0,none⟩) cs.size cs.toList :=
 ⟨by simp,fun _=>⟨_,rfl,h.lt,fun j u hu=>by
  rw[Addr.add_lit,Nat.zero_add];exact h.cell j (by simpa using hu)⟩⟩
structure Calm (D:DS):Prop where
 off:D.off=false
 armed:D.armed=0
theorem Calm.e (h:Calm D):opE D=0:=if_neg (by rw[h.armed];omega)
theorem Calm.s (h:Calm D) (b:Bool) (act:DS->DS):opS b act D=act (tick D):=if_neg (by rw[h.armed];omega)
theorem Calm.tick (h:Calm D):Calm (tick D):=⟨h.off,by show max (D.armed-1) 0=0;rw[h.armed];rfl⟩
theorem Calm.setF (h:Calm D) (b:Nat) (p:ByteArray×ByteArray):Calm (setF b p D):=⟨h.off,h.armed⟩
theorem Calm.chg (h:Calm D) (c:ByteArray×ByteArray×Option Nat):Calm (chgD c D):=⟨h.off,h.armed⟩
theorem Calm.up (h:Calm D):upE D=0:=by unfold upE;rw[h.off];rfl
set_option maxHeartbeats 1600000 in
theorem create1_go (h:DiskAt w S bd D) {bS:Nat} {i g f:Int} {s:ByteArray} (hb:Blk w bS (sgc bd i g f s) 219) (ho:D.off=false) (hs:Nm.check s.data.toList=0) (hl:lk s D.now=none) (hn:D.now.length<200) (hc:D.chg.length<=1000000) :
  Calls Tryz.prog 265 #[.pointer (some ⟨bS,0,none⟩)] w fun e w'=>e=.returned (.int .i64 (opE D))/\ ∃b S',D.fl b=none/\DiskAt w' S' bd (opS false (chgD (s,⟨#[]⟩,some b)) (setF b (⟨#[]⟩,⟨#[]⟩) D))/\Gr S w S' w':=by
 have HC:=Lib.hid (create_go h ho hs hl hn hc);have k0:=hb.cell 0 (v:=.pointer (some ⟨bd,0,none⟩)) rfl;have k4:=hb.cell 4 (v:=.string s) rfl;clear h hb ho hs hl hn hc
 go_enter Tryz.func265, Tryz.ntmps265
 go_wp2_with (go_at_call 58;refine HC.out.mono ?_;rintro e5 w5 ⟨rfl,b,S5,hf5,hD5,hG5⟩;have HD5:=Lib.hid (And.intro hf5 (And.intro hD5 hG5));clear hf5 hD5 hG5)
 go_ret
 exact⟨rfl,b,S5,HD5.out⟩
set_option maxHeartbeats 1600000 in
theorem create2_go (h:DiskAt w S bd D) {bS bB:Nat} {i g f:Int} {s body:ByteArray} (hS:Blk w bS (sgc bd i g f s) 219) (hB:Blk w bB #[.string body] 9) {b:Nat} {p:ByteArray×ByteArray} (ho:D.off=false) (hl:lk s D.now=some b) (hp:D.fl b=some p) (hb:body.size<=60000)
  (h1:p.2.size+(body.size+9)<=1000000) (h2:(body.size:Int)+9+(usedD D:Int)<=D.cap) :
  Calls Tryz.prog 266 #[.pointer (some ⟨bS,0,none⟩),.pointer (some ⟨bB,0,none⟩)] w fun e w'=>e=.returned (.int .i64 (opE D))/\ ∃S',DiskAt w' S' bd (opS false (setF b (p.1,p.2++frB 1 body)) D)/\Gr S w S' w':=by
 have HC:=Lib.hid (sput_go (k:=1) h (i:=i) (g:=g) (f:=f) ho hl hp (by decide) hb h1 h2);rw[show((1:UInt8).toNat:Int)=1 from rfl] at HC;unfold sgc at *
 have k0:=hS.cell 0 (v:=.pointer (some ⟨bd,0,none⟩)) rfl;have k1:=hS.cell 1 (v:=.int .i64 i) rfl;have k2:=hS.cell 2 (v:=.int .i64 g) rfl;have k3:=hS.cell 3 (v:=.int .i64 f) rfl;have k4:=hS.cell 4 (v:=.string s) rfl;have b0:=hB.cell 0 (v:=.string body) rfl;clear h hS hB ho hl hp hb h1 h2
 go_enter Tryz.func266, Tryz.ntmps266
 go_wp2_with (go_at_call 191;refine HC.out.mono ?_;rintro e5 w5 ⟨rfl,S5,hD5,hG5⟩;have HD5:=Lib.hid hD5;have HG5:=Lib.hid hG5;clear hD5 hG5)
 go_ret
 exact⟨rfl,S5,HD5.out,HG5.out⟩
end
end Dk
end Go.Proofs.YtejcdhdfanfkbaaGreat
namespace Go.Proofs.YtejcdhdfanfkbaaGreat
namespace Dk
open Go.RowKit Hd Fm Sn
theorem lk_pt (s:ByteArray) (b:Nat):∀l,lk s (pt s b l)=some b
 | []=>by rw[pt,lk_cons,if_pos rfl]
 |x::l=>by
  unfold pt;split
  ·rw[lk_cons,if_pos rfl]
  ·rename_i h
   rw[lk_cons,if_neg h,lk_pt s b l]
theorem pt_new (s:ByteArray) (b:Nat):∀l,lk s l=none->pt s b l=l++[(s,b)]
 | [],_=>rfl
 |x::l,h=>by
  rw[lk_cons] at h;split at h
  ·cases h
  ·rename_i hx
   rw[pt,if_neg hx,pt_new s b l h];rfl
theorem szs_other {fl:Nat->Option (ByteArray×ByteArray)} {b:Nat} (p:ByteArray×ByteArray):∀l:List (ByteArray×Nat),(∀x∈l,x.2≠b)->szs (fun k=>if k=b then some p else fl k) l=szs fl l
 | [],_=>rfl
 |x::l,h=>by
  rw[szs,szs,if_neg (h x (List.mem_cons_self ..)),szs_other p l fun y hy=>h y (List.mem_cons_of_mem _ hy)]
def d1 (s:ByteArray) (b:Nat) (D:DS):DS:=chgD (s,⟨#[]⟩,some b) (tick (setF b (⟨#[]⟩,⟨#[]⟩) D))
def d2 (s:ByteArray) (T:ByteArray) (b:Nat) (D:DS):DS:=setF b (⟨#[]⟩,⟨#[]⟩++T) (tick (d1 s b D))
def d3 (s:ByteArray) (T:ByteArray) (b:Nat) (D:DS):DS:=setF b (⟨#[]⟩++T,⟨#[]⟩++T) (tick (d2 s T b D))
theorem d1_now {s:ByteArray} {b:Nat} {D:DS} (hl:lk s D.now=none):(d1 s b D).now=D.now++[(s,b)]:=by
 show app (s,⟨#[]⟩,some b) D.now=_
 unfold app;dsimp only;rw[if_pos rfl,pt_new s b _ hl]
theorem d1_used {s:ByteArray} {b:Nat} {D:DS} (hl:lk s D.now=none) (hf:Fit D) (hb:D.fl b=none):usedD (d1 s b D)=usedD D:=by
 unfold usedD;rw[d1_now hl,szs_append];have e:(d1 s b D).fl=fun k=>if k=b then some (⟨#[]⟩,⟨#[]⟩) else D.fl k:=rfl
 rw[e,szs_other _ _ fun x hx h=>hf.wfN x hx (by rw[h];exact hb)];rw[szs,szs,if_pos rfl];rfl
theorem opS_calm {D:DS} (h:Calm D) (b:Bool) (act:DS->DS):opS b act D=act (tick D):=h.s b act
section
variable {w w':World} {S:Nat->Prop} {bd gN gS:Nat} {v:Value} {D:DS}
theorem DiskAt.fit (h:DiskAt w S bd D):Fit D:=by
 obtain⟨gN,gS,v,h⟩:=h;exact h.fit
set_option maxHeartbeats 1600000 in
theorem create_all (h:DiskAt w S bd D) (hc:Calm D) {bS bB gF:Nat} {i g f:Int} {s body:ByteArray} (hS:Blk w bS (sgc bd i g f s) 219) (hB:Blk w bB #[.string body] 9)
  (hF:Blk w gF #[.func (.func 265) #[] #[.pointer (some ⟨bS,0,none⟩)],.func (.func 266) #[] #[.pointer (some ⟨bS,0,none⟩),.pointer (some ⟨bB,0,none⟩)],.func (.func 128) #[.agg (sgc bd i g f s)] #[]] 62)
  (nS: ¬ S bS) (nB: ¬ S bB) (nF: ¬ S gF) (hs:Nm.check s.data.toList=0) (hl:lk s D.now=none) (hn:D.now.length<200) (hch:D.chg.length<=1000000) (hb:body.size<=60000) (h2:(body.size:Int)+9+(usedD D:Int)<=D.cap) :
  Calls Tryz.prog 125 #[.slice (some ⟨gF,0,none⟩) 3 3] w fun e w'=>e=.returned (.int .i64 0)/\ ∃b S',D.fl b=none/\DiskAt w' S' bd (d3 s (frB 1 body) b D)/\Gr S w S' w':=by
 have hfit:=h.fit
 let R:Nat->DS->Prop:=fun k D'=>match k with
  |0=>D'=D
  |1=>∃b,D.fl b=none/\D'=d1 s b D
  |2=>∃b,D.fl b=none/\D'=d2 s (frB 1 body) b D
  |_=>∃b,D.fl b=none/\D'=d3 s (frB 1 body) b D
 refine(all_any [(265,#[],#[.pointer (some ⟨bS,0,none⟩)]),(266,#[],#[.pointer (some ⟨bS,0,none⟩),.pointer (some ⟨bB,0,none⟩)]),(128,#[.agg (sgc bd i g f s)],#[])]
  (some ⟨gF,0,none⟩) 3 3 w (fun k wx=>∃S' D',Gr S w S' wx/\DiskAt wx S' bd D'/\R k D') (fun _ _=>False) (by omega) ?_ ⟨S,D,Gr.refl _ _,h,rfl⟩ ?_ ?_).mono ?_
 ·rintro k wx ⟨S',D',g1,-⟩
  exact rd_blk (g1.blk hF nF)
 ·intro f' hf'
  simp only[List.mem_cons,List.not_mem_nil,or_false] at hf';rcases hf' with rfl|rfl|rfl
  ·exact enters_of Tryz.func265 (by kernel_rfl) rfl
  ·exact enters_of Tryz.func266 (by kernel_rfl) rfl
  ·exact enters_of Tryz.func128 (by kernel_rfl) rfl
 ·intro k f' hf' wx hJ
  obtain⟨S',D',g1,hD,hR⟩:=hJ;rcases k with _|_|_|k
  ·simp only[List.getElem?_cons_zero,Option.some.injEq] at hf'
   subst hf';obtain rfl:D'=D:=hR;refine(create1_go hD (g1.blk hS nS) hc.off hs hl hn hch).mono ?_;rintro e w2 ⟨rfl,b,S2,hbn,hD2,g2⟩;refine⟨0,by rw[hc.e],.inl ⟨rfl,S2,_,g1.trans g2,hD2,b,hbn,?_⟩⟩;rw[opS_calm (hc.setF b _)];rfl
  ·simp only[List.getElem?_cons_succ,List.getElem?_cons_zero,Option.some.injEq] at hf'
   subst hf';obtain⟨b,hbn,rfl⟩:∃b,D.fl b=none/\D'=d1 s b D:=hR;have c1:Calm (d1 s b D):=((hc.setF b _).tick).chg _;refine(create2_go hD (g1.blk hS nS) (g1.blk hB nB) (b:=b) (p:=(⟨#[]⟩,⟨#[]⟩)) c1.off (by rw[d1_now hl,<-pt_new s b _ hl];exact lk_pt s b _) (by show(if b=b then _ else _)=_;rw[if_pos rfl]) hb (by show 0+_<=_;omega) (by rw[d1_used hl hfit hbn];exact h2)).mono ?_;rintro e w2 ⟨rfl,S2,hD2,g2⟩;refine⟨0,by rw[c1.e],.inl ⟨rfl,S2,_,g1.trans g2,hD2,b,hbn,?_⟩⟩;rw[opS_calm c1];rfl
  ·simp only[List.getElem?_cons_succ,List.getElem?_cons_zero,Option.some.injEq] at hf'
   subst hf';obtain⟨b,hbn,rfl⟩:∃b,D.fl b=none/\D'=d2 s (frB 1 body) b D:=hR;have c1:Calm (d2 s (frB 1 body) b D):=(((hc.setF b _).tick).chg _).tick.setF b _;refine(ssync_go hD (b:=b) (p:=(⟨#[]⟩,⟨#[]⟩++frB 1 body)) c1.off (by show lk s (d1 s b D).now=_;rw[d1_now hl,<-pt_new s b _ hl];exact lk_pt s b _) (by show(if b=b then _ else _)=_;rw[if_pos rfl])).mono ?_;rintro e w2 ⟨rfl,S2,hD2,g2⟩;refine⟨0,by rw[c1.e],.inl ⟨rfl,S2,_,g1.trans g2,hD2,b,hbn,?_⟩⟩;rw[opS_calm c1];rfl
  ·simp at hf'
 ·rintro e w' ⟨x,rfl,⟨rfl,S',D',g1,hD,b,hbn,rfl⟩|⟨-,hF⟩⟩
  ·exact⟨rfl,b,S',hbn,hD,g1⟩
  ·exact hF.elim
end
end Dk
end Go.Proofs.YtejcdhdfanfkbaaGreat
namespace Go.Proofs.YtejcdhdfanfkbaaGreat
namespace Op
open Go.RowKit Hd Rd Sn Dk Vi
def en9 (x:En):List Nat:=[x.i.toNat,x.g.toNat,x.f.toNat,(if x.z then 1 else 0),x.c.toNat,x.b.toNat,x.e.toNat,x.l.toNat,x.n.toNat]
def mfN (m:Mf):List Nat:=[m.g.toNat,m.x.toNat,m.t.toNat,m.fl.toNat,m.es.length]++m.es.flatMap en9
def mfB (m:Mf):ByteArray:=⟨((mfN m).flatMap putV).toArray⟩
theorem length_en9:∀(l:List En),(l.flatMap en9).length=l.length*9
 | []=>rfl
 |m::l=>by rw[List.flatMap_cons,List.length_append,length_en9 l,List.length_cons];show 9+_=_;omega
theorem en9_take (l:List En) (k:Nat) (m:En) (h:l[k]? =some m):(l.take (k+1)).flatMap en9=(l.take k).flatMap en9++en9 m:=by
 rw[List.take_add_one,h,List.flatMap_append];simp
structure MfOk (m:Mf):Prop where
 g:1<=m.g/\m.g<=1000000000
 t:0<=m.t/\m.t<=1000000000
 x:1<=m.x/\m.x<=1000000
 f:1<=m.fl/\m.fl<=1000000000
 n:1<=m.es.length/\m.es.length<=100
 e:∀x∈m.es,okE x=true
theorem okMf_ok {m:Mf} (h:okMf m=true):MfOk m:=by
 unfold okMf at h;simp only[Bool.and_eq_true,decide_eq_true_eq] at h;obtain⟨h1,h2,h3⟩:=h;have hn:=okR_len2 h2;have hall:∀x∈m.es,okE x=true:=by
  unfold okR at h2;simp only[Bool.and_eq_true] at h2;exact rowG_mem _ _ h2.2.2
 rcases hx:m.es with _|⟨x,l⟩
 ·rw[hx] at hn;simp at hn
 rcases hy:m.es.getLast? with _|y
 ·rw[hx] at hy;simp at hy
 rw[hy] at h3;rw[hx] at h3;simp only[Bool.and_eq_true,decide_eq_true_eq] at h3;have b1:=okE_bd (hall x (by rw[hx];exact List.mem_cons_self ..));have b2:=okE_bd (hall y (List.mem_of_getLast? hy));exact⟨⟨h1.1,h1.2.1⟩,⟨h1.2.2.1,h1.2.2.2⟩,⟨by omega,by omega⟩,⟨by omega,by omega⟩,hn,hall⟩
theorem en9_lt {x:En} (h:okE x=true):∀y∈en9 x,y<9223372036854775808:=by
 have:=okE_bd h;intro y hy;unfold en9 at hy;simp only[List.mem_cons,List.not_mem_nil,or_false] at hy;rcases hy with rfl|rfl|rfl|rfl|rfl|rfl|rfl|rfl|rfl<;>first|omega|(split<;>omega)
theorem mfN_lt {m:Mf} (h:MfOk m):∀y∈mfN m,y<9223372036854775808:=by
 obtain⟨h1,h2,h3,h4,h5,h6⟩:=h;intro y hy;unfold mfN at hy;rw[List.mem_append] at hy;rcases hy with hy|hy
 ·simp only[List.mem_cons,List.not_mem_nil,or_false] at hy
  rcases hy with rfl|rfl|rfl|rfl|rfl<;>omega
 ·obtain⟨x,hx,hy⟩:=List.mem_flatMap.1 hy
  exact en9_lt (h6 x hx) y hy
theorem mfN_len (m:Mf):(mfN m).length=5+m.es.length*9:=by
 unfold mfN;rw[List.length_append,length_en9];rfl
def e1:En:=⟨1,1,1,false,0,0,0,0,0⟩
def m1:Mf:=⟨1,2,0,1,[e1]⟩
theorem m1_ok:okMf m1=true:=by decide
theorem m1_nums:mfN m1=[1,2,0,1,1,1,1,1,0,0,0,0,0,0]:=by decide
theorem m1_size:(mfB m1).size=14:=by
 unfold mfB;rw[m1_nums];show((_:List UInt8).toArray).size=14
 rw[List.size_toArray];simp only[List.flatMap_cons,List.flatMap_nil,putV_small (show 0<128 by decide),putV_small (show 1<128 by decide),putV_small (show 2<128 by decide)];rfl
def s1 (c:Cf):St:=⟨c,m1,[],12,1,0,[],false⟩
theorem hdr_size:(hdrB 1 1 1).size=12:=by
 unfold hdrB;rw[frB_size];unfold hb;rw[putV_small (show 1<128 by decide)];rfl
theorem s1_ok {c:Cf} (h:okCf c=true):okSt (s1 c)=true:=by
 have hb:(16:Int)<=c.b:=by
  unfold okCf at h;rw[decide_eq_true_eq] at h;exact h.1
 have k1:keptB (s1 c)=true:=by
  unfold keptB;show(okCf c&&okMf m1)=true
  rw[h,m1_ok];rfl
 have k2:laidB (s1 c)=true:=by
  have hz:endI (hdOf (s1 c)) (s1 c).bs=(s1 c).sz:=by
   show((hdrB 1 1 1).size:Int)=12
   rw[hdr_size];rfl
  unfold laidB;rw[hz,decide_eq_true rfl];rfl
 have k3:waitsB (s1 c)=true:=by
  unfold waitsB;have e:((rawR (s1 c).wt:Nat):Int)<(s1 c).cf.b:=by
   show((0:Nat):Int)<c.b
   omega
  rw[decide_eq_true e];rfl
 have k4:timedB (s1 c)=true:=rfl;unfold okSt;rw[k1,k2,k3,k4];rfl
theorem segN_size (i g:Int):(segN i g).size=21:=by
 show(Nm.seg i g).toArray.size=21
 rw[List.size_toArray,Nm.length_seg]
theorem seg_mani (i g:Int):segN i g≠Nf.maniN:=fun h=>by
 have:=congrArg ByteArray.size h;rw[segN_size] at this;exact absurd this (by decide)
theorem seg_temp (i g:Int):segN i g≠Nf.tempN:=fun h=>by
 have:=congrArg ByteArray.size h;rw[segN_size] at this;exact absurd this (by decide)
theorem temp_mani:Nf.tempN≠Nf.maniN:=by decide
end Op
end Go.Proofs.YtejcdhdfanfkbaaGreat
namespace Go.Proofs.YtejcdhdfanfkbaaGreat
namespace Rd
open Go.RowKit Vi
def lenR (m:Nat):Nat:=if m=0 then 0 else(putV m).length
theorem lenR_zero:lenR 0=0:=rfl
theorem lenR_step (n:Nat):(putV n).length=1+lenR (n/128):=by
 unfold lenR;by_cases h:n<128
 ·rw[putV_small h,if_pos (by omega)];rfl
 ·rw[putV_step h,if_neg (by omega),List.length_cons];omega
theorem lenR_pos (n:Nat) (h:0<n):lenR n=1+lenR (n/128):=by rw[<-lenR_step];exact if_neg (by omega)
set_option maxHeartbeats 1600000 in
theorem vsize_any (N:Nat) (w:World) (hN:N<9223372036854775808) :
  Calls Tryz.prog 185 #[.int .i64 (N:Int)] w fun e w'=>e=.returned (.int .i64 ((putV N).length:Int))/\w=w':=by
 have hput:(putV N).length<=9:=length_putV_le N 8 (by omega);have h0:=lenR_step N;have H0:=Lib.hid h0;clear h0
 go_enter Tryz.func185, Tryz.ntmps185
 go_wp2_with fail
 go_loopw [0,3] (fun m k wr=>∃(mk kk:Nat),m=.int .i64 mk/\k=.int .i64 kk/\mk<9223372036854775808/\kk<=9/\Hid (kk+lenR mk=(putV N).length)/\wr=w) (fun m _ _=>(intOf m).toNat)
 case atStart=>exact⟨N/128,1,by go_num,by go_num,by omega,by omega,H0.out.symm,rfl⟩
 case round =>
  obtain⟨mk,kk,rfl,rfl,hm,hk,heq,rfl⟩:=hrel;by_cases hlt:0<mk
  ·have hs:=lenR_pos mk hlt
   have hq:=heq.out;have hkk:kk+1<=9:=by omega
   have hq2:kk+1+lenR (mk/128)=(putV N).length:=by omega
   have HQ:=Lib.hid hq2;clear hs hq hq2;go_wp2_with fail
   exact⟨⟨mk/128,kk+1,by go_num,by go_num,by omega,hkk,HQ.out,trivial⟩,by simp[intOf];omega⟩
  ·obtain rfl:mk=0:=by omega
   have hq:=heq.out;rw[lenR_zero,Nat.add_zero] at hq;clear heq;subst hq;go_wp2_with fail
   go_ret
   exact⟨rfl,rfl⟩
set_option maxHeartbeats 6400000 in
set_option maxRecDepth 100000 in
theorem rsize_any (q t:Nat) (d:ByteArray) (w:World) (h:ok1 ((q:Int),(t:Int),d)=true) :
  Calls Tryz.prog 138 #[.agg #[.int .i64 (q:Int),.int .i64 (t:Int),.string d]] w fun e w'=>e=.returned (.int .i64 ((recB ((q:Int),(t:Int),d)).length:Int))/\Below w.heap.size w w':=by
 have mixed:Tryz.prog.follows .mixedOrders=true:=by kernel_rfl
 have hc:=check_any q t d;simp only[cE_ok h] at hc;have HC:=Lib.hid hc;rw[ok1_iff] at h;simp only at h;have hl:(recB ((q:Int),(t:Int),d)).length=(putV q).length+(putV t).length+(putV d.size).length+d.size:=by
  have:d.data.toList.length=d.size:=rfl;unfold recB;simp only[List.length_append,Int.toNat_natCast,this];omega
 have HL:=Lib.hid hl;have l1:(putV q).length<=9:=length_putV_le q 8 (by omega);have l2:(putV t).length<=9:=length_putV_le t 8 (by omega);have l3:(putV d.size).length<=9:=length_putV_le d.size 8 (by omega);have HS1:=Lib.hid (fun w=>vsize_any q w (by omega));have HS2:=Lib.hid (fun w=>vsize_any t w (by omega));have HS3:=Lib.hid (fun w=>vsize_any d.size w (by omega));generalize (putV q).length=a at *
 generalize (putV t).length=b at *
 generalize (putV d.size).length=c at *
 have hq1:((q:Int)==0)=false:=by rw[beq_eq_false_iff_ne];omega
 have hsz:d.size<=2000:=h.2.2.2.2;clear hc hl h
 go_enter Tryz.func138, Tryz.ntmps138
 go_wp2_with fail
 refine(HC.out _).mono ?_;rintro e1 w1 ⟨rfl,hb1⟩;have cc:∀j,w1.cell? ⟨w.heap.size,j,none⟩=(w.alloc (.cells #[.int .i64 (q:Int),.int .i64 (t:Int),.string d] 84)).cell? ⟨w.heap.size,j,none⟩:=fun j=>hb1.cell (p:=⟨w.heap.size,j,none⟩) (by simp)
 have c0:w1.cell? ⟨w.heap.size,0,none⟩=some (.int .i64 (q:Int)):=by rw[cc,World.cell?_alloc_new];rfl
 have c1:w1.cell? ⟨w.heap.size,1,none⟩=some (.int .i64 (t:Int)):=by rw[cc,World.cell?_alloc_new];rfl
 have c2:w1.cell? ⟨w.heap.size,2,none⟩=some (.string d):=by rw[cc,World.cell?_alloc_new];rfl
 have HB:=Lib.hid (ext_trans (ext_alloc w _) hb1);clear hb1 cc HC;go_wp2_with fail
 go_quiet (first|(go_at_call_of 185 (q:Int);exact(HS1.out _).mono fun _ _ h=>⟨h.1,_,h.2.symm⟩)|(go_at_call_of 185 (t:Int);exact(HS2.out _).mono fun _ _ h=>⟨h.1,_,h.2.symm⟩)|(go_at_call_of 185 (d.size:Int);exact(HS3.out _).mono fun _ _ h=>⟨h.1,_,h.2.symm⟩))
 go_wp2_with fail
 go_ret
 refine⟨ret_int (k:=.i64) (b:=_) ?_,below_drewN HB.out _⟩;rw[HL.out];omega
end Rd
end Go.Proofs.YtejcdhdfanfkbaaGreat
namespace Go.Proofs.YtejcdhdfanfkbaaGreat
namespace Op
open Go.RowKit Hd Rd Vi
theorem rawR_take {l:List Rc} {k:Nat} {r:Rc} (h:l[k]? =some r):rawR (l.take (k+1))=min (rawR (l.take k)+(recB r).length) 1000000:=by
 unfold rawR;rw[List.take_add_one,h,List.foldl_append];rfl
theorem rawR_le (l:List Rc):rawR l<=1000000:=by
 rcases List.eq_nil_or_concat l with rfl|⟨l',x,rfl⟩
 ·exact Nat.zero_le _
 ·unfold rawR
  rw[List.concat_eq_append,List.foldl_append];exact Nat.min_le_right _ _
theorem recB_le {r:Rc} (h:ok1 r=true):(recB r).length<=3000:=by
 rw[ok1_iff] at h;have l1:(putV r.1.toNat).length<=9:=length_putV_le _ 8 (by omega);have l2:(putV r.2.1.toNat).length<=9:=length_putV_le _ 8 (by omega);have l3:(putV r.2.2.size).length<=9:=length_putV_le _ 8 (by omega);have:r.2.2.data.toList.length=r.2.2.size:=rfl;unfold recB;simp only[List.length_append];omega
theorem row_ok1:∀(l:List Rc) (p:Option Rc),Rd.rowE p l=0-> ∀r∈l,ok1 r=true
 | [],_,_,r,h=>by cases h
 |x::l,p,h,r,hr=>by
  rw[Rd.rowE] at h;have h1:ok1 x=true:=by
   rcases hx:ok1 x with _|_
   ·rw[if_pos hx] at h;cases h
   ·rfl
  rw[if_neg (by rw[h1];simp)] at h;split at h
  ·cases h
  ·rcases List.mem_cons.1 hr with rfl|hr
   ·exact h1
   ·exact row_ok1 l (some x) h r hr
set_option maxHeartbeats 3200000 in
set_option maxRecDepth 100000 in
theorem raw_any (A:Option Addr) (n c:Nat) (l:List Rc) (w:World) (hrd:Rd w w.heap.size 3 A n (flS l)) (hn:n<=1000000) (hok:∀r∈l,ok1 r=true) :
  Calls Tryz.prog 81 #[.slice A n c] w fun e w'=>e=.returned (.int .i64 (rawR l:Int))/\Below w.heap.size w w':=by
 have mixed:Tryz.prog.follows .mixedOrders=true:=by kernel_rfl
 have HLN:=Lib.hid (rdS_len hrd);have HR:=Lib.hid hrd;have HO:=Lib.hid hok;clear hrd hok
 go_enter Tryz.func81, Tryz.ntmps81
 go_wp2_with fail
 go_loopw [3,8] (fun s v wr=>∃k a:Nat,v=.int .i64 (k:Int)/\s=.int .i64 (a:Int)/\k<=n/\a<=1000000/\Hid (rawR (l.take k)=a/\Below w.heap.size w wr)) (fun _ v _=>n-(intOf v).toNat)
 case atStart=>exact⟨0,0,by go_num,by go_num,by omega,by omega,Lib.hid ⟨rfl,Below.refl _ _⟩⟩
 case round =>
  obtain⟨k,a,rfl,rfl,hk,ha,HX⟩:=hrel;by_cases hkn:k<n
  ·obtain⟨ad,m,rfl,hbk,hx,e0,ej⟩:=sl_at (HR.out.below HX.out.2) hkn
   have ho:=HO.out m (List.mem_of_getElem? hx);obtain⟨q,t,d⟩:=m;have c0:wr.cell? (ad.add (k*3))=some (.int .i64 q):=e0;have c1:wr.cell? ⟨(ad.add (k*3)).block,(ad.add (k*3)).off+1,none⟩=some (.int .i64 t):=ej 0 (by decide);have c2:wr.cell? ⟨(ad.add (k*3)).block,(ad.add (k*3)).off+2,none⟩=some (.string d):=ej 1 (by decide);have h3:=(ok1_iff _).1 ho;dsimp only at h3;obtain⟨q',rfl⟩:∃q':Nat,q=q':=⟨q.toNat,by omega⟩
   obtain⟨t',rfl⟩:∃t':Nat,t=t':=⟨t.toNat,by omega⟩
   have HS:=Lib.hid (fun w=>rsize_any q' t' d w ho);have hz:=recB_le ho;have HN:=Lib.hid ((rawR_take hx).trans (by rw[HX.out.1]));generalize (recB ((q':Int),(t':Int),d)).length=z at *
   have HB:=Lib.hid (HX.out.2.trans ((ext_alloc wr (.cells #[.int .i64 (q':Int),.int .i64 (t':Int),.string d] 84)).mono HX.out.2.size));clear e0 ej hx hbk ho h3 HX;go_wp2_with (go_at_call 138;refine(HS.out _).mono ?_;rintro e1 w1 ⟨rfl,hb1⟩;have HB1:=Lib.hid (HB.out.trans (hb1.mono HB.out.size));clear hb1)
   all_goals
    go_roundw
    case rel=>exact⟨k+1,min (a+z) 1000000,by go_num,by go_num,by omega,by omega,Lib.hid ⟨HN.out,HB1.out⟩⟩
    case measure=>simp[intOf];omega
  ·obtain rfl:k=n:=by omega
   have HB:=Lib.hid HX.out.2;have HE:=Lib.hid (show rawR l=a from by rw[<-HX.out.1,List.take_of_length_le (by rw[HLN.out];exact Nat.le_refl _)]);clear HX;go_wp2_with fail
   go_ret
   exact⟨by rw[HE.out];rfl,HB.out⟩
def bnext (f:Int) (l:List Rc):Int:=match l.getLast? with
 |none=>f
 |some r=>r.1+1
set_option maxHeartbeats 3200000 in
set_option maxRecDepth 100000 in
theorem bnext_any (A:Option Addr) (n c:Nat) (f:Int) (l:List Rc) (w:World) (hrd:Rd w w.heap.size 3 A n (flS l)) (hn:n<=1000000) (hok:∀r∈l,ok1 r=true) :
  Calls Tryz.prog 180 #[.slice A n c,.int .i64 f] w fun e w'=>e=.returned (.int .i64 (bnext f l))/\Below w.heap.size w w':=by
 have mixed:Tryz.prog.follows .mixedOrders=true:=by kernel_rfl
 have hln:=rdS_len hrd;unfold bnext;rcases hl:l.getLast? with _|m
 ·have hl0:l=[]:=List.getLast?_eq_none_iff.1 hl
  subst hl0;simp only[List.length_nil] at hln;subst hln;dsimp only;clear hrd hn hok hl
  go_enter Tryz.func180, Tryz.ntmps180
  go_wp2_with fail
  go_ret
  exact⟨rfl,Below.refl _ _⟩
 ·dsimp only
  have hn0:0<n:=by
   rcases l with _|⟨x,l⟩
   ·cases hl
   ·simp at hln;omega
  obtain⟨j,hj⟩:∃j,n=j+1:=⟨n-1,by omega⟩
  obtain⟨ad,x,rfl,hbk,hx,e0,ej⟩:=sl_at (k:=j) hrd (by omega);rw[List.getLast?_eq_getElem?,hln,hj,Nat.add_sub_cancel,hx] at hl;obtain rfl:=Option.some.inj hl;have h3:=(ok1_iff _).1 (hok x (List.mem_of_getElem? hx));obtain⟨q,t,d⟩:=x;dsimp only at h3 ⊢;have c0:w.cell? (ad.add (j*3))=some (.int .i64 q):=e0;have b0:((n:Int)==0)=false:=by rw[beq_eq_false_iff_ne];omega
  have b1:(q==9223372036854775807)=false:=by rw[beq_eq_false_iff_ne];omega
  have b2:IntKind.i64.wrap ((n:Int)-1)=(j:Int):=by rw[IntKind.wrap_i64];omega
  have b3:(j:Int)<(n:Int):=by omega
  have b4:IntKind.i64.wrap (q+1)=q+1:=by rw[IntKind.wrap_i64];omega
  have b5:(0:Int)<=(j:Int):=by omega
  have HJ:=Lib.hid hj;clear hrd e0 ej hok hl hx hj h3 hbk hln
  go_enter Tryz.func180, Tryz.ntmps180
  go_wp2_with fail
  go_ret
  exact⟨rfl,Below.refl _ _⟩
end Op
end Go.Proofs.YtejcdhdfanfkbaaGreat
