/- canon: number, New. -/
import Derived.Test.YtjligbmickfbdaaGreatBe16
import Derived.Test.YtjligbmickfbdaaGreatBe36
import Derived.Test.YtjligbmickfbdaaGreatBe32
import Derived.Test.YtjligbmickfbdaaGreatBe06
namespace Go.Proofs.YtjligbmickfbdaaGreat
namespace Cn
open Go.RowKit
open Bt (Frm)
def wdsK (l:List Int) (k:Nat):List (Int×Int):=(List.range l.length).map fun s=>if s<k/\0<l.getD s 0 then((wd l s:Int),l.getD s 0) else(0,0)
theorem rd_row {w:World} {g n size:Nat} {t:TypeId} {xs:List Value} (h:w.heap[g]? =some (.cells xs.toArray t (0,0))) (hl:xs.length=n*size):Rd w w.heap.size size (some ⟨g,0,none⟩) n xs:=by
 refine⟨hl,fun _=>⟨_,rfl,(Array.getElem?_eq_some_iff.1 h).1,fun j u hu=>?_⟩⟩;rw[Addr.add_lit,Nat.zero_add,cell_of_row w g j _ _ (0,0) h];simpa using hu
theorem rd_frm {w w':World} {B size n b:Nat} {g:Option Nat} {A:Option Addr} {xs:List Value} (h:Rd w B size A n xs) (hf:Frm w w' b g) (hB:B<=w.heap.size) (hA:0<n-> ∀ad,A=some ad->ad.block≠b/\some ad.block≠g):Rd w' B size A n xs:=by
 refine⟨h.len,fun hn=>?_⟩;obtain⟨ad,e,hb,hc⟩:=h.cells hn;refine⟨ad,e,hb,fun j u hu=>?_⟩;rw[<-hc j u hu];obtain⟨h1,h2⟩:=hA hn ad e;have e2:=add_block ad j;generalize ad.add j=p at *
 obtain⟨pb,po,pe⟩:=p;simp only at e2;subst e2;exact World.cell?_of_block (hf.blk ad.block (by omega) h1 h2)
theorem wdsK_set (l:List Int) (k:Nat) (h:k<l.length) (hp:0<l[k]):(wdsK l k).set k ((wd l k:Int),l[k])=wdsK l (k+1):=by
 have hk:l.getD k 0=l[k]:=by rw[List.getD_eq_getElem?_getD,List.getElem?_eq_getElem h];rfl
 apply List.ext_getElem?
 intro j;unfold wdsK;rw[List.getElem?_set,List.getElem?_map,List.getElem?_map,List.length_map,List.length_range];by_cases hj:j<l.length
 ·rw[List.getElem?_range hj]
  by_cases he:k=j
  ·subst he;rw[if_pos rfl,if_pos hj];simp only[Option.map_some,hk];rw[if_pos ⟨by omega,hp⟩]
  ·rw[if_neg he]
   simp only[Option.map_some,Option.some.injEq];by_cases hlt:j<k/\0<l.getD j 0
   ·rw[if_pos hlt,if_pos ⟨by omega,hlt.2⟩]
   ·rw[if_neg hlt,if_neg (by intro hh;exact hlt ⟨by omega,hh.2⟩)]
 ·rw[List.getElem?_eq_none (by simp;omega)]
  by_cases he:k=j
  ·subst he;simp[hj]
  ·rw[if_neg he];rfl
theorem wdsK_same (l:List Int) (k:Nat) (hp: ¬ 0<l.getD k 0):wdsK l (k+1)=wdsK l k:=by
 unfold wdsK;apply List.map_congr_left
 intro j _;by_cases hlt:j<k/\0<l.getD j 0
 ·rw[if_pos hlt,if_pos ⟨by omega,hlt.2⟩]
 ·rw[if_neg hlt,if_neg (by
   rintro ⟨h1,h2⟩;by_cases he:j=k
   ·subst he;exact hp h2
   ·exact hlt ⟨by omega,h2⟩)]
theorem wdsK_all (l:List Int):wdsK l l.length=wds l:=by
 unfold wdsK wds;apply List.map_congr_left
 intro j hj;rw[List.mem_range] at hj;by_cases h:0<l.getD j 0
 ·rw[if_pos ⟨hj,h⟩,if_pos h]
 ·rw[if_neg (fun hh=>h hh.2),if_neg h]
theorem length_wdsK (l:List Int) (k:Nat):(wdsK l k).length=l.length:=by simp[wdsK]
def nxt (l:List Int) (k:Nat):List Int:=l16 fun n=>fs l n+rk l k n
theorem nxt_zero (l:List Int):nxt l 0=l16 (fs l):=by
 unfold nxt;apply l16_congr
 intro n _;unfold rk cn;split<;>simp
theorem nxt_set (l:List Int) (k y:Nat) (h:k<l.length) (hy:l[k]=(y:Int)) (h0:0<y):(nxt l k).set y ((fs l y+rk l k y+1:Nat):Int)=nxt l (k+1):=by
 unfold nxt;rw[l16_set];apply l16_congr
 intro n _;rw[rk_succ l k n h];by_cases he:n=y
 ·subst he;rw[if_pos rfl,if_pos ⟨by omega,hy⟩];omega
 ·rw[if_neg he,if_neg (by rintro ⟨_,h2⟩;rw[hy] at h2;omega)];omega
theorem nxt_same (l:List Int) (k:Nat) (h:k<l.length) (hy:l[k]=0):nxt l (k+1)=nxt l k:=by
 unfold nxt;apply l16_congr
 intro n _;rw[rk_succ l k n h,if_neg (by rintro ⟨h1,h2⟩;rw[hy] at h2;omega)];rfl
theorem fl2_set2 (l:List (Int×Int)) (k:Nat) (x y:Int):((fl2 l).set (2*k) (.int .i64 x)).set (2*k+1) (.int .i64 y)=fl2 (l.set k (x,y)):=by
 induction l generalizing k with
 |nil=>simp[fl2]
 |cons a r ih =>
  have e:∀(y:Int×Int) r,fl2 (y::r)=.int .i64 y.1:: .int .i64 y.2::fl2 r:=fun _ _=>rfl
  rcases k with _|k
  ·rw[e];rfl
  ·show Value.int .i64 a.1::Value.int .i64 a.2::(((fl2 r).set (2*k) (.int .i64 x)).set (2*k+1) (.int .i64 y))=Value.int .i64 a.1::Value.int .i64 a.2::fl2 (r.set k (x,y))
   rw[ih]
theorem frm_set_new {w wr:World} {b g:Nat} (hf:Frm w wr b (some g)) (p:Addr) (hp:w.heap.size<=p.block∨p.block=b∨p.block=g) (u:Value):Frm w (wr.setCell p u) b (some g) :=
 ⟨hf.os,hf.tape,hf.output,by simpa[World.setCell] using hf.size,fun k hk hb hg=>by
  have hne:k≠p.block:=by
   rcases hp with h|h|h
   ·omega
   ·rw[h];exact hb
   ·rw[h];exact fun e=>hg (by rw[e])
  exact(Below.heap_setCell wr p u k hne).trans (hf.blk k hk hb hg)⟩
structure Num (w wr:World) (b gN gs gw0 cw:Nat) (l S V:List Int) (D:List (Int×Int)):Prop where
 cx:Cx wr b (.slice (some ⟨gw0,0,none⟩) l.length cw) (.slice (some ⟨gs,0,none⟩) (us l) (us l)) (l16 (cn l)) (l16 (fs l)) (l16 (pl l)) true
 nx:wr.heap[gN]? =some (.cells (vs V).toArray 130 (0,0))
 nl:V.length=16
 so:Own wr w.heap.size (.slice (some ⟨gs,0,none⟩) (us l) (us l)) S
 wd:wr.heap[gw0]? =some (.cells (fl2 D).toArray 141 (0,0))
 wl:D.length=l.length
 fr:Frm w wr b (some gw0)
 ne:b≠gN/\b≠gs/\b≠gw0/\gN≠gs/\gN≠gw0/\gs≠gw0
 ge:w.heap.size<=gN/\w.heap.size<=gs
section
variable {w wr:World} {b gN gs gw0 cw:Nat} {l S V:List Int} {D:List (Int×Int)} (h:Num w wr b gN gs gw0 cw l S V D)
include h
theorem Num.drew:Num w wr.drew b gN gs gw0 cw l S V D:=⟨h.cx.drew,h.nx,h.nl,h.so,h.wd,h.wl,h.fr.drew,h.ne,h.ge⟩
theorem Num.set_so (q:Nat) (x:Int):Num w (wr.setCell ⟨gs,q,none⟩ (.int .i64 x)) b gN gs gw0 cw l (S.set q x) V D :=
 ⟨h.cx.far (q:=⟨gs,q,none⟩) h.ne.2.1 _,(Below.heap_setCell wr ⟨gs,q,none⟩ _ gN h.ne.2.2.2.1).trans h.nx,h.nl,h.so.put x,(Below.heap_setCell wr ⟨gs,q,none⟩ _ gw0 (Ne.symm h.ne.2.2.2.2.2)).trans h.wd,h.wl,
  frm_set_new h.fr ⟨gs,q,none⟩ (.inl h.ge.2) _,h.ne,h.ge⟩
theorem Num.set_nx (q:Nat) (x:Int):Num w (wr.setCell ⟨gN,q,none⟩ (.int .i64 x)) b gN gs gw0 cw l S (V.set q x) D :=
 ⟨h.cx.far (q:=⟨gN,q,none⟩) h.ne.1 _,by rw[row_set h.nx,vs_set],by rw[List.length_set];exact h.nl,own_setCell_far (a:=⟨gN,q,none⟩) h.so (by intro e;exact h.ne.2.2.2.1 (Option.some.inj e).symm) _,(Below.heap_setCell wr ⟨gN,q,none⟩ _ gw0 (Ne.symm h.ne.2.2.2.2.1)).trans h.wd,h.wl,
  frm_set_new h.fr ⟨gN,q,none⟩ (.inl h.ge.1) _,h.ne,h.ge⟩
theorem Num.set_wd (q:Nat) (x y:Int):Num w ((wr.setCell ⟨gw0,2*q,none⟩ (.int .i64 x)).setCell ⟨gw0,2*q+1,none⟩ (.int .i64 y)) b gN gs gw0 cw l S V (D.set q (x,y)) :=
 ⟨(h.cx.far (q:=⟨gw0,2*q,none⟩) h.ne.2.2.1 _).far (q:=⟨gw0,2*q+1,none⟩) h.ne.2.2.1 _,
   (Below.heap_setCell _ ⟨gw0,2*q+1,none⟩ _ gN h.ne.2.2.2.2.1).trans ((Below.heap_setCell wr ⟨gw0,2*q,none⟩ _ gN h.ne.2.2.2.2.1).trans h.nx),h.nl,
   own_setCell_far (a:=⟨gw0,2*q+1,none⟩) (own_setCell_far (a:=⟨gw0,2*q,none⟩) h.so (by intro e;exact h.ne.2.2.2.2.2 (Option.some.inj e)) _) (by intro e;exact h.ne.2.2.2.2.2 (Option.some.inj e)) _,
   by rw[row_set (row_set h.wd),fl2_set2],by rw[List.length_set];exact h.wl,
   frm_set_new (frm_set_new h.fr ⟨gw0,2*q,none⟩ (.inr (.inr rfl)) _) ⟨gw0,2*q+1,none⟩ (.inr (.inr rfl)) _,h.ne,h.ge⟩
theorem Num.cn (k:Nat) (hk:k<=15):wr.cell? ⟨gN,k,none⟩=some (.int .i64 (V.getD k 0)):=by
 rw[cell_of_row wr gN k _ _ (0,0) h.nx];simpa using vs_at V k (by rw[h.nl];omega)
theorem Num.fn (k:Nat):wr.frozen? ⟨gN,k,none⟩=false:=frozen_of_row wr gN k _ _ h.nx
theorem Num.wc (k:Nat) (x:Int×Int) (hk:D[k]? =some x):wr.cell? ⟨gw0,2*k,none⟩=some (.int .i64 x.1)/\wr.cell? ⟨gw0,2*k+1,none⟩=some (.int .i64 x.2):=by
 rw[cell_of_row wr gw0 _ _ _ (0,0) h.wd,cell_of_row wr gw0 _ _ _ (0,0) h.wd];have:=fl2_at D k x hk;simpa using this
theorem Num.fw (k:Nat):wr.frozen? ⟨gw0,k,none⟩=false:=frozen_of_row wr gw0 k _ _ h.wd
theorem Num.set_wd2 (q:Nat) (x y:Int):Num w ((wr.setCell ⟨gw0,q*2,none⟩ (.int .i64 x)).setCell ⟨gw0,q*2+1,none⟩ (.int .i64 y)) b gN gs gw0 cw l S V (D.set q (x,y)):=by
 have:=h.set_wd q x y
 rwa [show 2*q=q*2 by omega] at this
theorem Num.wc2 (k:Nat) (x:Int×Int) (hk:D[k]? =some x):wr.cell? ⟨gw0,k*2,none⟩=some (.int .i64 x.1)/\wr.cell? ⟨gw0,k*2+1,none⟩=some (.int .i64 x.2):=by
 have:=h.wc k x hk
 rwa [show 2*k=k*2 by omega] at this
end
theorem cd_of {w:World} {B b gs gw0 cw:Nat} {l:List Int} (cx:Cx w b (.slice (some ⟨gw0,0,none⟩) l.length cw) (.slice (some ⟨gs,0,none⟩) (us l) (us l)) (l16 (cn l)) (l16 (fs l)) (l16 (pl l)) true)
  (hso:Own w B (.slice (some ⟨gs,0,none⟩) (us l) (us l)) (so l (us l) l.length)) (hwd:w.heap[gw0]? =some (.cells (fl2 (wdsK l l.length)).toArray 141 (0,0))):Cd w b l:=by
 have hl:=length_so l (us l) l.length;refine⟨⟨gw0,cw,cx.c0,?_⟩,⟨some ⟨gs,0,none⟩,us l,cx.c1,?_⟩,fun j hj=>?_,fun j hj=>?_,fun j hj=>?_,cx.cm,cx.lt⟩
 ·rw[<-wdsK_all]
  exact rd_row hwd (by rw[length_fl2,length_wdsK])
 ·have:=hso.rd0.1
  rwa [hl] at this
 ·rw[cx.cc j hj,l16_at _ _ hj]
 ·rw[cx.cf j hj,l16_at _ _ hj]
 ·rw[cx.cp j hj,l16_at _ _ hj]
set_option maxHeartbeats 6400000 in
set_option maxRecDepth 100000 in
theorem number_any (w:World) (b _g gw0 cw n c:Nat) (A:Option Addr) (l:List Int) (u:Value) (hok:Ok l) (hl:l.length<=257) (hn:l.length=n) (hrd:Rd w w.heap.size 1 A n (l.map (Value.int .i64)))
  (hC:Cx w b (.slice (some ⟨gw0,0,none⟩) n cw) u (l16 (cn l)) (l16 (fs l)) (l16 (pl l)) true) (hW:w.heap[gw0]? =some (.cells (fl2 (wdsK l 0)).toArray 141 (0,0))) (hbg:gw0≠b) (hA:0<n-> ∀ad,A=some ad->ad.block≠b/\ad.block≠gw0) :
  Calls Tryz.prog 87 #[.pointer (some ⟨b,0,none⟩),.slice A n c] w fun e w'=>e=.returned (.tuple #[])/\Cd w' b l/\Frm w w' b (some gw0) /\
   (∀w2,w'.heap.size<=w2.heap.size->w2.heap[b]? =w'.heap[b]? ->w2.heap[gw0]? =w'.heap[gw0]? ->(∀k,w.heap.size<=k->k<w'.heap.size->w2.heap[k]? =w'.heap[k]?)->Cd w2 b l):=by
 have mixed:Tryz.prog.follows .mixedOrders=true:=by kernel_rfl
 have hu:=used_any A n c l;have HU:=Lib.hid hu;have hloadA:∀k,k<=15->w.cell? ⟨b,18+k,none⟩=some (.int .i64 (fs l k:Int)):=fun k hk=>by rw[hC.cf k hk,l16_at _ _ hk]
 have hrg:w.rangeAt b 18 (vs (l16 (fs l))):=by
  intro j v hv;have hj:j<16:=by have:=(List.getElem?_eq_some_iff.1 hv).1;rwa [length_vs,length_l16] at this
  rw[hC.cf j (by omega)];rw[vs_at _ _ (by rw[length_l16];exact hj)] at hv;exact hv
 have HRG:=Lib.hid hrg;clear hrg;have H:Aside _:=hC;clear hC hu
 go_enter Tryz.func87, Tryz.ntmps87
 have hz16:(Tryz.prog.info? 130).map (fun i=>(i.zero,i.size))=some (some (.agg (Array.replicate 16 (.int .i64 0))),16):=by kernel_rfl
 have HZ16:=Lib.hid hz16;clear hz16;have HVL:=Lib.hid (show(vs (l16 (fs l))).toArray.size=16 by rw[List.size_toArray,length_vs,length_l16]);have tok1:True:=trivial;go_wp2_with (first|(have _t:=tok1;refine wpList_load_mid rfl 130 (.tmp 9) rfl b 18 (by simp[go_sem,Act.eval]) (vs (l16 (fs l))) _ HRG.out Tryz.underlying130 rfl (by rw[length_vs,length_l16];kernel_rfl) ?_;clear tok1)|(refine wpList_alloc_zero rfl 130 rfl _ _ HZ16.out ?_)|((refine wpList_store_new w (Array.replicate 16 (.int .i64 0)) rfl 130 (.tmp 4) (.tmp 10) rfl (vs (l16 (fs l))).toArray (by simp[go_sem,Act.eval]) (by simp[go_sem,Act.eval]) (by rw[HVL.out];kernel_rfl) (by rw[HVL.out];simp) (all_oneCell_toArray (by intro v hv;obtain⟨_,_,rfl⟩:=List.mem_map.1 hv;rfl)) ?_)))
 have hb1:Below w.heap.size w (w.alloc (.cells (vs (l16 (fs l))).toArray 130)):=(Below.refl _ _).alloc (Nat.le_refl _) _;have hnx:(w.alloc (.cells (vs (l16 (fs l))).toArray 130)).heap[w.heap.size]? =some (.cells (vs (l16 (fs l))).toArray 130 (0,0)):=heap_alloc_new w _;have hsz1:(w.alloc (.cells (vs (l16 (fs l))).toArray 130)).heap.size=w.heap.size+1:=by simp
 generalize w.alloc (.cells (vs (l16 (fs l))).toArray 130)=w1 at *
 refine(HU.out w1 (by omega) ((hrd.below hb1).more hb1.size)).mono ?_;rintro e2 w2 ⟨rfl,rfl⟩;have hcx2:∀w2,w1.grownBy w2 none->Cx w2 b (.slice (some ⟨gw0,0,none⟩) n cw) u (l16 (cn l)) (l16 (fs l)) (l16 (pl l)) true:=fun w2 hg=>H.out.keep ((hg.block b (by have:=H.out.lt;omega) (by simp)).trans (hb1.block b H.out.lt))
 have hpost:∀w2,w1.grownBy w2 none->w2.cell? ⟨b,1,none⟩=some u/\w2.frozen? ⟨b,1,none⟩=false:=fun w2 hg=>⟨(hcx2 w2 hg).c1,(hcx2 w2 hg).fz 1⟩
 have HPO:=Lib.hid hpost;have HCX2:=Lib.hid hcx2;clear hpost hcx2;have hus:us l<=257:=by unfold us;exact Nat.le_trans (List.countP_le_length) hl
 go_wp2_with (at_make;(refine make1 (n:=us l) (by omega) (Nat.le_refl w1.heap.size) ?_);intro w2 hown2 hg2;obtain⟨hu1,hu2⟩:=HPO.out w2 hg2)
 have hcx3:=(HCX2.out w2 hg2).set_s (.slice (some ⟨w1.heap.size,0,none⟩) (us l) (us l));have hblt:=H.out.lt;have hgwlt:gw0<w.heap.size:=(Array.getElem?_eq_some_iff.1 hW).1;have hb2:Below w.heap.size w w2:=hb1.grown hg2 (by omega) (by simp);have hN0:Num w (w2.setCell ⟨b,1,none⟩ (.slice (some ⟨w1.heap.size,0,none⟩) (us l) (us l))) b w.heap.size w1.heap.size gw0 cw l (so l (us l) 0) (nxt l 0) (wdsK l 0):=by
  refine⟨by rw[hn];exact hcx3,?_,by rw[nxt_zero,length_l16],?_,?_,length_wdsK l 0,?_,by omega,by omega⟩
  ·rw[nxt_zero]
   exact(Below.heap_setCell w2 ⟨b,1,none⟩ _ w.heap.size (by show w.heap.size≠b;omega)).trans ((hg2.block w.heap.size (by omega) (by simp)).trans hnx)
  ·exact own_setCell_far (a:=⟨b,1,none⟩) (hown2.lower (by omega)) (by intro e;have e2:w1.heap.size=b:=Option.some.inj e;omega) _
  ·exact(Below.heap_setCell w2 ⟨b,1,none⟩ _ gw0 hbg).trans ((hb2.block gw0 hgwlt).trans hW)
  ·exact(frm_of_below hb2 b (some gw0)).set 1 _
 have HN0:Aside _:=hN0;rw[hsz1] at HN0;generalize w2.setCell ⟨b,1,none⟩ (.slice (some ⟨w.heap.size+1,0,none⟩) (us l) (us l))=w3 at *
 obtain⟨gN,hgN⟩:∃gN,gN=w.heap.size:=⟨_,rfl⟩
 obtain⟨gs,hgs⟩:∃gs,gs=w.heap.size+1:=⟨_,rfl⟩
 rw[<-hgs,<-hgN] at HN0;rw[<-hgs,<-hgN];have HRD:=Lib.hid hrd;have HA:=Lib.hid hA;have HOK:=Lib.hid hok;have HLN:=Lib.hid hn;have hnb:n<=257:=by omega
 clear hN0 hcx3 hown2 hg2 hu1 hu2 hb1 hb2 hnx HPO HCX2 hW HRG HZ16 HVL HU hrd hA hok hloadA hn hgs hgN hsz1;go_wp2_with fail
 go_loopg [19] n (fun kx s19 wr=>∃(k:Nat),s19=.int .i64 (k:Int)/\k<=n/\n-k<=kx/\Aside (Num w wr b gN gs gw0 cw l (so l (us l) k) (nxt l k) (wdsK l k)))
 case atStart=>exact⟨0,rfl,by omega,by omega,HN0.out⟩
 case round =>
  clear HN0;obtain⟨k,rfl,hk,hkx,HV⟩:=hrel;by_cases hlt:k<n
  ·obtain⟨ad,x,rfl,had,hx,hcell⟩:=(rd_frm HRD.out HV.out.fr (Nat.le_refl _) (fun h0 ad e=>⟨(HA.out h0 ad e).1,fun e2=>(HA.out h0 ad e).2 (Option.some.inj e2)⟩)).int1 hlt
   have hkl:k<l.length:=by have:=HLN.out;omega
   have hkx2:l[k]=x:=by rw[List.getElem?_eq_getElem hkl] at hx;exact Option.some.inj hx
   have hkd:l.getD k 0=x:=by rw[List.getD_eq_getElem?_getD,hx];rfl
   have hr:=HOK.out.rng l[k] (List.getElem_mem hkl);rw[hkx2] at hr;have HLT:=Lib.hid hlt;by_cases h0:x=0
   ·subst h0
    have e1:so l (us l) (k+1)=so l (us l) k:=by
     show(if l.getD k 0<=0 then _ else _)=_
     rw[if_pos (by omega)]
    have e2:=nxt_same l k hkl hkx2;have e3:=wdsK_same l k (by omega);have HX:Aside (Num w wr b gN gs gw0 cw l (so l (us l) (k+1)) (nxt l (k+1)) (wdsK l (k+1))):=by rw[e1,e2,e3];exact HV.out
    clear e1 e2 e3 hx hkx2 hkd hkl had;go_wp2_with fail
    go_roundg (n-(k+1))
    case measure=>omega
    case rel=>exact⟨k+1,by simp,HLT.out,by have:=HLT.out;omega,HX.out⟩
   ·obtain⟨y,rfl⟩:∃y:Nat,x=(y:Int):=⟨x.toNat,by omega⟩
    have hy15:y<=15:=by omega
    have hy0:y≠0:=by omega
    have hpl:=place_lt l HOK.out.rng k y hkl hy0 hkx2;have hrk:=rk_lt l k y hkl hy0 hkx2;have hfit:=fits l HOK.out y hy15;have hp15:2^y<=2^15:=Nat.pow_le_pow_right (by omega) hy15;have hp15':2^y<=32768:=hp15;have hwd:wd l k=fs l y+rk l k y:=by
     unfold wd;rw[hkd,Int.toNat_natCast]
    have hso:(so l (us l) k).set (pl l y+rk l k y) (k:Int)=so l (us l) (k+1):=by
     show _=(if l.getD k 0<=0 then _ else _)
     rw[if_neg (by omega),hkd,Int.toNat_natCast]
    have hns:=nxt_set l k y hkl hkx2 (by omega);have hws:=wdsK_set l k hkl (by omega);rw[hwd,hkx2] at hws;have hc1:=HV.out.cx.c1;have hc0:=HV.out.cx.c0;have hcp:=HV.out.cx.cp y hy15;rw[l16_at _ _ hy15] at hcp;have hcf:=HV.out.cx.cf y hy15;rw[l16_at _ _ hy15] at hcf;have hcv:=HV.out.cn y hy15;rw[show(nxt l k).getD y 0=((fs l y+rk l k y:Nat):Int) from l16_at _ _ hy15] at hcv;have hslen:(so l (us l) k).length=us l:=length_so l (us l) k;have hso1:=at_some (so l (us l) k) (pl l y+rk l k y) (by omega);have hsc:=HV.out.so.cell hso1;have hsf:=HV.out.so.frozen (k:=pl l y+rk l k y);have HV1:=(HV.out.set_so (pl l y+rk l k y) (k:Int)).drew;rw[hso] at HV1;obtain⟨R,hR⟩:∃R,R=rk l k y:=⟨_,rfl⟩
    obtain⟨F,hF⟩:∃F,F=fs l y:=⟨_,rfl⟩
    obtain⟨P0,hP⟩:∃P0,P0=pl l y:=⟨_,rfl⟩
    obtain⟨us0,hU⟩:∃us0,us0=us l:=⟨_,rfl⟩
    rw[<-hR,<-hF] at hcv hwd hns hws;rw[<-hP,<-hR] at hsc hsf HV1 hpl;rw[<-hP] at hcp;rw[<-hF] at hcf;rw[<-hU] at hc1 hpl;rw[<-hR] at hrk;rw[<-hF] at hfit;have q1:(P0:Int)+((F+R:Nat):Int)-(F:Int)=((P0+R:Nat):Int):=by omega
    obtain⟨V0,hV0⟩:∃V0,V0=F+R:=⟨_,rfl⟩
    rw[<-hV0] at q1 hcv hws;obtain⟨Q0,hQ0⟩:∃Q0,Q0=P0+R:=⟨_,rfl⟩
    rw[<-hQ0] at q1 hsc hsf HV1 hpl;have i1:IntKind.i64.wrap ((P0:Int)+(V0:Int))=(P0:Int)+(V0:Int):=by rw[IntKind.wrap_i64];omega
    have i2:IntKind.i64.wrap ((Q0:Int))=(Q0:Int):=by rw[IntKind.wrap_i64];omega
    have i3:(Q0:Int)<(us0:Int):=by omega
    have i4:((Q0:Int)).toNat=Q0:=by omega
    have i5:(y:Int)<16:=by omega
    have hyb:((y:Int)==0)=false:=by rw[beq_eq_false_iff_ne];omega
    have HV1':Aside _:=HV1;have HVV:=Lib.hid (show V0=fs l y+rk l k y by rw[hV0,hF,hR]);rw[<-hV0] at hns;have hvb:V0<=100000:=by omega
    have HNS:=Lib.hid hns;have HWS:=Lib.hid hws;have HV0:=Lib.hid hV0;generalize (so l (us l) k).getD Q0 0=so0 at *
    clear hns hws hso hso1 hslen hwd hpl hrk hfit hp15 hp15' hR hF hP hU hV0 hQ0 hx hkx2 hkd hr had HV1 h0 hy0;go_wp2_with fail
    go_region
    generalize (wr.setCell ⟨gs,Q0,none⟩ (.int .i64 (k:Int))).drew=w6 at *
    have hc0:=HV1'.out.cx.c0;have hcv:=HV1'.out.cn y hy15;rw[show(nxt l k).getD y 0=_ from l16_at _ _ hy15] at hcv;obtain⟨x0,hx0⟩:∃x0,(wdsK l k)[k]? =some x0:=⟨_,List.getElem?_eq_getElem (by rw[length_wdsK];exact hkl)⟩
    have hw0:=(HV1'.out.wc2 k x0 hx0).1;have hw1:=(HV1'.out.wc2 k x0 hx0).2;have hf0:=HV1'.out.fw (k*2);have hf1:=HV1'.out.fw (k*2+1);have HV2:=(HV1'.out.set_wd2 k (V0:Int) (y:Int)).drew;rw[HWS.out] at HV2;have hkl2:(k:Int)<(l.length:Int):=by omega
    have HV2':Aside _:=HV2;have hcv':w6.cell? ⟨gN,y,none⟩=some (.int .i64 (V0:Int)):=by rw[hcv,HVV.out]
    clear hx0 HV2 HV1' hcv hc1 hcp hcf hsc hsf q1 i1 i2 i3 i4;go_wp2_with fail
    go_region
    generalize ((w6.setCell ⟨gw0,k*2,none⟩ (.int .i64 (V0:Int))).setCell ⟨gw0,k*2+1,none⟩ (.int .i64 (y:Int))).drew=w7 at *
    have hcv:=HV2'.out.cn y hy15;have hcv7:w7.cell? ⟨gN,y,none⟩=some (.int .i64 (V0:Int)):=by
     rw[hcv,HVV.out,show(nxt l k).getD y 0=_ from l16_at _ _ hy15]
    have hfn:=HV2'.out.fn y;have HV3:=HV2'.out.set_nx y ((V0+1:Nat):Int);rw[HNS.out] at HV3;have HV3':Aside _:=HV3;clear hcv HV3 HV2' hw0 hw1 hf0 hf1 hcv' hc0;go_wp2_with fail
    go_roundg (n-(k+1))
    case measure=>omega
    case rel=>exact⟨k+1,by simp,HLT.out,by have:=HLT.out;omega,HV3'.out⟩
  ·obtain rfl:k=l.length:=by have:=HLN.out;omega
   go_wp2_with fail
   go_end0
   refine⟨rfl,cd_of HV.out.cx HV.out.so HV.out.wd,HV.out.fr,fun w2 hsz hb2 hg2 hk2=>cd_of (HV.out.cx.keep hb2) (B:=w.heap.size) ?_ (hg2.trans HV.out.wd)⟩;have hlt:=(World.ownsRow.lt HV.out.so gs rfl).2;refine⟨HV.out.so.1,?_⟩;rcases HV.out.so.2 with ⟨hv,h0⟩|⟨g',cap,cur,hv,hg,hh,hr⟩
   ·cases hv
   ·have e:gs=g':=by
     simp only[Value.slice.injEq,Option.some.injEq,Addr.mk.injEq] at hv;exact hv.1.1
    exact .inr ⟨g',cap,cur,hv,hg,(by rw[<-e] at hh ⊢;exact(hk2 gs HV.out.ge.2 hlt).trans hh),hr⟩
end Cn
end Go.Proofs.YtjligbmickfbdaaGreat
