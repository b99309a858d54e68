/- follow.Decode's closure: the places of whatever bytes, or a fault. -/
import Derived.Test.YtejcdhdfanfkbaaGreatFb12
import Derived.Deep.RegionHeld3
import Derived.Deep.LoopGhost
namespace Go.Proofs.YtejcdhdfanfkbaaGreat
namespace Fo
open Go.RowKit Rd Dk Vi Tk
open Go.Proofs.YtejcdhdfanfkbaaGreat.Rf
theorem plEl:El 82 28 (.agg #[.string ⟨#[]⟩,.int .i64 0]) 2 24:=⟨by kernel_rfl,Tryz.underlying28,rfl,by decide,by decide⟩
def extP (ps:List Pl) (x:Int×List Pl×List UInt8):Int×List Pl×List UInt8:=if x.1≠0 then(x.1,[],[]) else(0,ps++x.2.1,x.2.2)
theorem extP_nil (k:Nat) (l:List UInt8):extP [] (tkN k l)=tkN k l:=by
 unfold extP;split
 ·rename_i h
  cases k with
  |zero=>exact absurd rfl h
  |succ k =>
   unfold tkN at h ⊢;split
   ·rfl
   ·rename_i h1
    rw[if_neg h1] at h;split
    ·rfl
    ·rename_i h2
     rw[if_neg h2] at h;exact absurd rfl h
 ·rename_i h
  have h0:=Decidable.not_not.1 h;rw[<-h0];rfl
theorem extP_no (ps:List Pl) (k:Nat) (l:List UInt8) (h:(tk1 l).1≠0):extP ps (tkN (k+1) l)=((tk1 l).1,[],[]):=by
 have e:tkN (k+1) l=((tk1 l).1,[],[]):=by unfold tkN;rw[if_pos h]
 rw[e];unfold extP;rw[if_pos h]
theorem extP_yes (ps:List Pl) (k:Nat) (l:List UInt8) (h:(tk1 l).1=0):extP ps (tkN (k+1) l)=extP (ps++[(tk1 l).2.1]) (tkN k (tk1 l).2.2):=by
 have e:tkN (k+1) l=if(tkN k (tk1 l).2.2).1≠0 then((tkN k (tk1 l).2.2).1,[],[]) else(0,(tk1 l).2.1::(tkN k (tk1 l).2.2).2.1,(tkN k (tk1 l).2.2).2.2):=by
  rw[tkN,if_neg (by rw[h];simp)]
 rw[e];by_cases h2:(tkN k (tk1 l).2.2).1≠0
 ·unfold extP
  rw[if_pos h2,if_pos h2,if_pos h2]
 ·unfold extP
  rw[if_neg h2,if_neg h2,if_neg (by simp),List.append_assoc];rfl
theorem own_len {w:World} {B K n:Nat} {t:TypeId} {v:Value} {l:List Value} (h:w.ownsRow B t K v n l):n<=maxLen:=by
 obtain⟨A,c,-,h1,h2⟩:=own_slice h;omega
theorem _root_.Go.Proofs.YtejcdhdfanfkbaaGreat.Tk.Keep.belowK {w w' w2:World} {L:List Nat} (k:Keep w w' L) (hb:Below w.heap.size w' w2):Keep w w2 L :=
 ⟨hb.os.trans k.os,hb.tape.trans k.tape,hb.output.trans k.output,Nat.le_trans k.size hb.size,fun j hj hl=>(hb.block j hj).trans (k.blk j hj hl)⟩
structure Dq (w:World) (b bn bo bt:Nat) (s:ByteArray) (p:Nat) (ps:List Pl) (v:Value) (wx:World):Prop where
 ta:Ta wx b s p
 tk:Var wx bt 96 (.pointer (some ⟨b,0,none⟩))
 ou:Var wx bo 28 v
 own:wx.ownsRow w.heap.size 82 2 v ps.length (flS ps)
 keep:Keep w wx [b,bo]
 few:ps.length<=100
structure Dn (w:World) (b bn bo bt:Nat):Prop where
 lb:b<w.heap.size
 lo:bo<w.heap.size
 lt:bt<w.heap.size
 nbo:b≠bo
 nbt:b≠bt
 nob:bo≠bt
section
variable {w wx w':World} {b bn bo bt p q:Nat} {s:ByteArray} {ps:List Pl} {v:Value}
theorem Dq.step (h:Dq w b bn bo bt s p ps v wx) (hn:Dn w b bn bo bt) (ht:Ta w' b s q) (hk:Keep wx w' [b]):Dq w b bn bo bt s q ps v w' :=
 ⟨ht,hk.var h.tk (by have:=hn.nbt;simp;omega),hk.var h.ou (by have:=hn.nbo;simp;omega),Dk.own_block h.own fun g hg=>hk.blk g (World.ownsRow.lt h.own g hg).2 (by have:=(World.ownsRow.lt h.own g hg).1;have:=hn.lb;simp;omega),h.keep.trans (hk.more (by simp)),h.few⟩
theorem Dq.drew (h:Dq w b bn bo bt s p ps v wx):Dq w b bn bo bt s p ps v wx.drew:=⟨h.ta,h.tk,h.ou,h.own,h.keep.drew,h.few⟩
end
set_option maxHeartbeats 6400000 in
set_option maxRecDepth 100000 in
theorem fdec1_any (s:ByteArray) (w:World) (b bn bo bt:Nat) (hn:Dn w b bn bo bt) (hnum:Var w bn 98 (.func (.func 36) #[.pointer (some ⟨b,0,none⟩)] #[])) (hD:Dq w b bn bo bt s 0 [] (.slice none 0 0) w) (hs:s.size<=1000000) :
  Calls Tryz.prog 38 #[.pointer (some ⟨bn,0,none⟩),.pointer (some ⟨bo,0,none⟩),.pointer (some ⟨bt,0,none⟩)] w fun e w'=>Keep w w' [b,bo] /\
   (((rdP s.data.toList).1=0/\e=.returned (.tuple #[])/\ ∃v,Var w' bo 28 v/\w'.ownsRow w.heap.size 82 2 v (rdP s.data.toList).2.length (flS (rdP s.data.toList).2)) ∨
     ((rdP s.data.toList).1≠0/\ ∃p',e=.panicked [fault (rdP s.data.toList).1 p'])):=by
 have mixed:Tryz.prog.follows .mixedOrders=true:=by kernel_rfl
 have c0:=hnum.cell;have hgd:gv 0 0 (s.data.toList.drop 0)=gv 0 0 s.data.toList:=by rw[List.drop_zero]
 by_cases h1:(gv 0 0 s.data.toList).2.2=0
 rotate_left
 ·have HR:=Lib.hid (show rdP s.data.toList=((gv 0 0 s.data.toList).2.2,[]) from if_pos h1)
  have hno:=num_no w b 0 s hD.ta hs (Nat.zero_le _) (by rw[hgd];exact h1);rw[hgd] at hno;have HN:=Lib.hid hno;have H1:=Lib.hid h1;have HK:=Lib.hid hD.keep;clear hno h1 hD hnum hgd;generalize (gv 0 0 s.data.toList).2.2=x at *
  go_enter Tryz.func38, Tryz.ntmps38
  go_wp2_with (go_at_call 36;refine HN.out.mono ?_;rintro e2 w2 ⟨rfl,rfl⟩)
  rw[HR.out];exact⟨rfl,HK.out,.inr ⟨H1.out,0,rfl⟩⟩
 obtain⟨n,hnn⟩:∃n,(gv 0 0 s.data.toList).1=n:=⟨_,rfl⟩
 obtain⟨u,huu⟩:∃u,(gv 0 0 s.data.toList).2.1=u:=⟨_,rfl⟩
 have hul:=gv_len h1;rw[huu] at hul;have hgp:=gv_prod h1;rw[hnn,huu] at hgp;have hus:u<=s.size:=hul;have hN:=num_ok w b 0 n u s hD.ta hs (Nat.zero_le _) (by rw[hgd];exact hgp);have HN:=Lib.hid (show Calls Tryz.prog 36 #[.pointer (some ⟨b,0,none⟩)] w fun e w'=>e=.returned (.int .i64 (n:Int))/\Dq w b bn bo bt s u [] (.slice none 0 0) w' from hN.mono (by
  rintro e w' ⟨rfl,rfl⟩;rw[Nat.zero_add];exact⟨rfl,hD.step hn (hD.ta.set1 u) ((Keep.refl w [b]).set ⟨b,1,none⟩ (.inl (by simp)) _)⟩))
 have HDn:=Lib.hid hn;clear hN hD hnum hn;by_cases h2:50<n
 ·have HR:=Lib.hid (show rdP s.data.toList=(3,[]) from by unfold rdP;rw[if_neg (by rw[h1];simp),if_pos (by rw[hnn];exact h2)])
  have h2i:(50:Int)<(n:Int):=by omega
  clear h1 hgp hul hnn huu hgd
  go_enter Tryz.func38, Tryz.ntmps38
  go_wp2_with (go_at_call 36;refine HN.out.mono ?_;rintro e2 w2 ⟨rfl,hd2⟩;have HK:=Lib.hid hd2;clear hd2)
  rw[HR.out];exact⟨rfl,HK.out.keep,.inr ⟨by simp,0,rfl⟩⟩
 have h2i: ¬ (50:Int)<(n:Int):=by omega
 have HRT:=Lib.hid (show ∀x,tkN n (s.data.toList.drop u)=x->rdP s.data.toList=if x.1≠0 then(x.1,[]) else if x.2.2≠ [] then(6,[]) else(0,x.2.1) from fun x hx=>by
  unfold rdP;rw[if_neg (by rw[h1];simp),if_neg (by rw[hnn];exact h2),hnn,huu,hx])
 have HPA:=Lib.hid (fun(wx:World) (p:Nat) (ht:Ta wx b s p) (hp:p<=s.size)=>fplace_any s wx b p ht hs hp);have HEO:=Lib.hid (fun(wx:World) (ht:Ta wx b s s.size)=>end_ok wx b s ht hs);have HEN:=Lib.hid (fun(wx:World) (p:Nat) (ht:Ta wx b s p) (hp:p<s.size)=>end_no wx b p s ht hs hp);have HSZ:=Lib.hid hus;clear h1 hgp hul hnn huu hgd hus hs
 go_enter Tryz.func38, Tryz.ntmps38
 go_wp2_with (go_at_call 36;refine HN.out.mono ?_;rintro e2 w2 ⟨rfl,hd2⟩;have HD2:=Lib.hid hd2;clear hd2)
 clear c0;go_loopw [11] (fun sv wr=>∃i:Nat,sv=.int .i64 (i:Int)/\i<=n/\ ∃(p:Nat) (ps:List Pl) (v:Value),Hid (Dq w b bn bo bt s p ps v wr/\p<=s.size/\ps.length=i/\tkN n (s.data.toList.drop u)=extP ps (tkN (n-i) (s.data.toList.drop p)))) (fun sv _=>n-(intOf sv).toNat)
 case atStart=>exact⟨0,by go_num,by omega,u,[],.slice none 0 0,Lib.hid ⟨HD2.out,HSZ.out,rfl,by rw[Nat.sub_zero,extP_nil]⟩⟩
 case round =>
  obtain⟨i,rfl,hi,p,ps,v,HX⟩:=hrel;have HLP:=Lib.hid HX.out.2.2.1;by_cases hin:i<n
  ·obtain⟨k,hk⟩:∃k,n-i=k+1:=⟨n-i-1,by omega⟩
   have hki:n-(i+1)=k:=by omega
   have i2:(i:Int)<(n:Int):=by omega
   have i3:IntKind.i64.wrap ((i:Int)+1)=((i+1:Nat):Int):=by rw[IntKind.wrap_i64];omega
   have HPL:=Lib.hid (HPA.out wr.drew p HX.out.1.drew.ta HX.out.2.1);unfold PlAns at HPL;obtain⟨L,hL⟩:∃L,s.data.toList.drop p=L:=⟨_,rfl⟩
   have hTK:=HX.out.2.2.2;rw[hk,hL] at hTK;rw[hL] at HPL;by_cases hz:(tk1 L).1=0
   ·have hNX:=extP_yes ps k L hz
    rw[hNX] at hTK;obtain⟨pl,hpl⟩:∃pl,(tk1 L).2.1=pl:=⟨_,rfl⟩
    obtain⟨L2,hL2⟩:∃L2,(tk1 L).2.2=L2:=⟨_,rfl⟩
    rw[hpl,hL2] at hTK HPL;have HNX:=Lib.hid (show tkN n (s.data.toList.drop u)=extP (ps++[pl]) (tkN (n-(i+1)) L2) from by rw[hki];exact hTK);have HZ:=Lib.hid hz;have HST:=Lib.hid (fun(w8:World) (q:Nat) (ht8:Ta w8 b s q) (k8:Keep wr.drew w8 [b])=>HX.out.1.drew.step HDn.out ht8 k8);have HRV:=Lib.hid (fun(w8:World)=>rdV_new (sz:=2) 82 w8 [.string pl.s,.int .i64 pl.n] rfl);have HNO:=Lib.hid (fun(g:Nat) (h:some (⟨g,0,none⟩:Addr)=none)=>show(1:Nat)=0 from by cases h);have HONE:=Lib.hid (show ∀u∈([.string pl.s,.int .i64 pl.n]:List Value),u.oneCell'=true from by intro u hu;simp only[List.mem_cons,List.not_mem_nil,or_false] at hu;rcases hu with rfl|rfl<;>rfl);have HLE:=Lib.hid (fun(w8:World)=>show w8.heap.size<=(w8.alloc (.cells [.string pl.s,.int .i64 pl.n].toArray 82)).heap.size by simp);have hfew:ps.length<50:=by have:=HX.out.2.2.1;omega
    have HAP:=Lib.hid (show ∀(w8 w9:World) (v9:Value) (q:Nat),Dq w b bn bo bt s q ps v w8->Below w.heap.size (w8.alloc (.cells #[.string pl.s,.int .i64 pl.n] 82)) w9->w9.ownsRow w.heap.size 82 2 v9 (ps.length+1) (flS ps++[.string pl.s,.int .i64 pl.n]) ->
      w9.cell? ⟨bo,0,none⟩=some v/\w9.frozen? ⟨bo,0,none⟩=false/\w9.cell? ⟨bt,0,none⟩=some (.pointer (some ⟨b,0,none⟩))/\(w9.setCell ⟨bo,0,none⟩ v9).cell? ⟨bt,0,none⟩=some (.pointer (some ⟨b,0,none⟩))/\Dq w b bn bo bt s q (ps++[pl]) v9 (w9.setCell ⟨bo,0,none⟩ v9) from fun w8 w9 v9 q h8 hb9 ho9=>by
     have hn:=HDn.out;have hou:=(h8.ou.alloc (.cells #[.string pl.s,.int .i64 pl.n] 82)).below hb9 hn.lo;have htk:=(h8.tk.alloc (.cells #[.string pl.s,.int .i64 pl.n] 82)).below hb9 hn.lt;have hta:Ta w9 b s q:=(hb9.block b hn.lb).trans ((Below.heap_alloc w8 _ b h8.ta.lt).trans h8.ta);have htk2:=htk.far (p:=⟨bo,0,none⟩) hn.nob.symm v9;refine⟨hou.cell,hou.frozen,htk.cell,htk2.cell,(Below.heap_setCell w9 ⟨bo,0,none⟩ v9 b hn.nbo).trans hta,htk2,hou.set_ v9,?_,?_,by rw[List.length_append];simp only[List.length_singleton];omega⟩
     ·have e1:(ps++[pl]).length=ps.length+1:=by simp
      have e2:flS (ps++[pl])=flS ps++[.string pl.s,.int .i64 pl.n]:=by rw[flS_append];rfl
      rw[e1,e2];exact own_setCell_far ho9 (a:=⟨bo,0,none⟩) (fun e=>by have:=(World.ownsRow.lt ho9 bo e).1;have:=hn.lo;omega) _
     ·exact(((h8.keep.alloc _).belowK hb9).set ⟨bo,0,none⟩ (.inl (by simp)) _))
    clear hz hTK hNX hL hpl hL2 hki hk HPA HEO HEN HRT;have hS0:wr.drew.cell? ⟨bt,0,none⟩=some (.pointer (some ⟨b,0,none⟩)):=HX.out.1.tk.cell;have co0:wr.drew.cell? ⟨bo,0,none⟩=some v:=HX.out.1.ou.cell;go_wp2_with fail
    refine wp_region_held_drew (S:=(fun wx:World=>wx.cell? ⟨bt,0,none⟩=some (.pointer (some ⟨b,0,none⟩)))) (by kernel_rfl) hS0 (fun hHeld=>?_);refine wpAnyH_take (i:=1) (v:=.pointer (some ⟨b,0,none⟩)) rfl (by kernel_rfl) (by kernel_rfl) (by kernel_rfl) (fun _ _ _ h=>h) (Or.inl ⟨by rfl,by(intro w hSw;(try dsimp only at hSw);go_simp)⟩) (by assumption) ?_
    try simp only[Act.put,List.setIfInBounds_toArray,List.set_cons_zero,List.set_cons_succ]
    refine wpAnyH_ready (rs:=[0,2]) (by kernel_rfl) (by simp) ?_;refine AllReadyH.cons rfl (fun K hK=>?_) (AllReadyH.cons rfl (fun K hK=>?_) AllReadyH.nil)
    ·go_simp
     refine hK.out _ _ hS0 (fun hHeld=>?_);clear hK K
     try simp only[Act.put,List.setIfInBounds_toArray,List.set_cons_zero,List.set_cons_succ]
     refine wpAnyH_ready (rs:=[2]) (by kernel_rfl) (by simp) ?_;refine AllReadyH.cons rfl (fun K hK=>?_) AllReadyH.nil;go_simp
     refine HPL.out.mono ?_;rintro e8 w8 ⟨k8,⟨-,rfl,q,ht8,hq,hd⟩|⟨h,-⟩⟩
     rotate_left
     ·exact absurd HZ.out h
     have hD8:=HST.out w8 q ht8 k8;have co8:=hD8.ou.cell;have hS8:=hD8.tk.cell;have co8b:=(hD8.ou.alloc (.cells #[.string pl.s,.int .i64 pl.n] 82)).cell;have hS8b:=(hD8.tk.alloc (.cells #[.string pl.s,.int .i64 pl.n] 82)).cell;have HD8:=Lib.hid (And.intro hD8 (And.intro hq hd));clear hD8 k8 ht8 hq hd;refine hK.out _ _ hS8 (fun hHeld=>?_);clear hK K
     try simp only[Act.put,List.setIfInBounds_toArray,List.set_cons_zero,List.set_cons_succ]
     refine wpAnyH_ready (rs:=[3]) (by kernel_rfl) (by simp) ?_;refine AllReadyH.cons rfl (fun K hK=>?_) AllReadyH.nil;go_simp
     refine hK.out _ _ hS8b (fun hHeld=>?_);clear hK K
     try simp only[Act.put,List.setIfInBounds_toArray,List.set_cons_zero,List.set_cons_succ]
     refine wpAnyH_ready (rs:=[4]) (by kernel_rfl) (by simp) ?_;refine AllReadyH.cons rfl (fun K hK=>?_) AllReadyH.nil;refine step_appV plEl (.tmp 13) (.tmp 16) rfl rfl (HD8.out.1.own.alloc _) (HRV.out w8) (HNO.out w8.heap.size) HONE.out (by have:=HD8.out.1.few;omega) (by decide) (Nat.le_trans HD8.out.1.keep.size (HLE.out w8)) (by rfl) (by rfl) ?_;intro v9 w9 hown9 hb9 _;obtain⟨A9,c9,rfl,-,-⟩:=own_slice hown9;have hx9:=HAP.out w8 w9 _ q HD8.out.1 hb9 hown9;have co9:=hx9.1;have cz9:=hx9.2.1;have hS9:=hx9.2.2.1;have hS9b:=hx9.2.2.2.1;have HD9:=Lib.hid hx9.2.2.2.2;clear hx9 hown9 hb9;refine hK.out _ _ hS9 (fun hHeld=>?_);clear hK K
     try simp only[Act.put,List.setIfInBounds_toArray,List.set_cons_zero,List.set_cons_succ]
     refine wpAnyH_ready (rs:=[5]) (by kernel_rfl) (by simp) ?_;refine AllReadyH.cons rfl (fun K hK=>?_) AllReadyH.nil;go_simp
     refine hK.out _ _ hS9b (fun _=>?_);refine wpAnyH_done (by kernel_rfl) ?_ _;have HDD:=Lib.hid HD8.out.2;clear hS0 hS8 hS8b hS9 hS9b co0 co8 co8b co9 cz9 HD8;go_wp2_with fail
     exact⟨⟨i+1,by first|rfl|rw[i3],by omega,q,ps++[pl],_,Lib.hid ⟨HD9.out,HDD.out.1,by rw[List.length_append,HLP.out];rfl,by rw[HNX.out,HDD.out.2]⟩⟩,by first|(rw[i3];simp[intOf];omega)|(simp[intOf];omega)⟩
    ·go_simp
     refine HPL.out.mono ?_;rintro e8 w8 ⟨k8,⟨-,rfl,q,ht8,hq,hd⟩|⟨h,-⟩⟩
     rotate_left
     ·exact absurd HZ.out h
     have hD8:=HST.out w8 q ht8 k8;have co8:=hD8.ou.cell;have hS8:=hD8.tk.cell;have co8b:=(hD8.ou.alloc (.cells #[.string pl.s,.int .i64 pl.n] 82)).cell;have hS8b:=(hD8.tk.alloc (.cells #[.string pl.s,.int .i64 pl.n] 82)).cell;have HD8:=Lib.hid (And.intro hD8 (And.intro hq hd));clear hD8 k8 ht8 hq hd;refine hK.out _ _ hS8 (fun hHeld=>?_);clear hK K
     try simp only[Act.put,List.setIfInBounds_toArray,List.set_cons_zero,List.set_cons_succ]
     refine wpAnyH_ready (rs:=[0,3]) (by kernel_rfl) (by simp) ?_;refine AllReadyH.cons rfl (fun K hK=>?_) (AllReadyH.cons rfl (fun K hK=>?_) AllReadyH.nil)
     ·go_simp
      refine hK.out _ _ hS8 (fun hHeld=>?_);clear hK K
      try simp only[Act.put,List.setIfInBounds_toArray,List.set_cons_zero,List.set_cons_succ]
      refine wpAnyH_ready (rs:=[3]) (by kernel_rfl) (by simp) ?_;refine AllReadyH.cons rfl (fun K hK=>?_) AllReadyH.nil;go_simp
      refine hK.out _ _ hS8b (fun hHeld=>?_);clear hK K
      try simp only[Act.put,List.setIfInBounds_toArray,List.set_cons_zero,List.set_cons_succ]
      refine wpAnyH_ready (rs:=[4]) (by kernel_rfl) (by simp) ?_;refine AllReadyH.cons rfl (fun K hK=>?_) AllReadyH.nil;refine step_appV plEl (.tmp 13) (.tmp 16) rfl rfl (HD8.out.1.own.alloc _) (HRV.out w8) (HNO.out w8.heap.size) HONE.out (by have:=HD8.out.1.few;omega) (by decide) (Nat.le_trans HD8.out.1.keep.size (HLE.out w8)) (by rfl) (by rfl) ?_;intro v9 w9 hown9 hb9 _;obtain⟨A9,c9,rfl,-,-⟩:=own_slice hown9;have hx9:=HAP.out w8 w9 _ q HD8.out.1 hb9 hown9;have co9:=hx9.1;have cz9:=hx9.2.1;have hS9:=hx9.2.2.1;have hS9b:=hx9.2.2.2.1;have HD9:=Lib.hid hx9.2.2.2.2;clear hx9 hown9 hb9;refine hK.out _ _ hS9 (fun hHeld=>?_);clear hK K
      try simp only[Act.put,List.setIfInBounds_toArray,List.set_cons_zero,List.set_cons_succ]
      refine wpAnyH_ready (rs:=[5]) (by kernel_rfl) (by simp) ?_;refine AllReadyH.cons rfl (fun K hK=>?_) AllReadyH.nil;go_simp
      refine hK.out _ _ hS9b (fun _=>?_);refine wpAnyH_done (by kernel_rfl) ?_ _;have HDD:=Lib.hid HD8.out.2;clear hS0 hS8 hS8b hS9 hS9b co0 co8 co8b co9 cz9 HD8;go_wp2_with fail
      exact⟨⟨i+1,by first|rfl|rw[i3],by omega,q,ps++[pl],_,Lib.hid ⟨HD9.out,HDD.out.1,by rw[List.length_append,HLP.out];rfl,by rw[HNX.out,HDD.out.2]⟩⟩,by first|(rw[i3];simp[intOf];omega)|(simp[intOf];omega)⟩
     ·go_simp
      refine hK.out _ _ hS8b (fun hHeld=>?_);clear hK K
      try simp only[Act.put,List.setIfInBounds_toArray,List.set_cons_zero,List.set_cons_succ]
      refine wpAnyH_ready (rs:=[0]) (by kernel_rfl) (by simp) ?_;refine AllReadyH.cons rfl (fun K hK=>?_) AllReadyH.nil;go_simp
      refine hK.out _ _ hS8b (fun hHeld=>?_);clear hK K
      try simp only[Act.put,List.setIfInBounds_toArray,List.set_cons_zero,List.set_cons_succ]
      refine wpAnyH_ready (rs:=[4]) (by kernel_rfl) (by simp) ?_;refine AllReadyH.cons rfl (fun K hK=>?_) AllReadyH.nil;refine step_appV plEl (.tmp 13) (.tmp 16) rfl rfl (HD8.out.1.own.alloc _) (HRV.out w8) (HNO.out w8.heap.size) HONE.out (by have:=HD8.out.1.few;omega) (by decide) (Nat.le_trans HD8.out.1.keep.size (HLE.out w8)) (by rfl) (by rfl) ?_;intro v9 w9 hown9 hb9 _;obtain⟨A9,c9,rfl,-,-⟩:=own_slice hown9;have hx9:=HAP.out w8 w9 _ q HD8.out.1 hb9 hown9;have co9:=hx9.1;have cz9:=hx9.2.1;have hS9:=hx9.2.2.1;have hS9b:=hx9.2.2.2.1;have HD9:=Lib.hid hx9.2.2.2.2;clear hx9 hown9 hb9;refine hK.out _ _ hS9 (fun hHeld=>?_);clear hK K
      try simp only[Act.put,List.setIfInBounds_toArray,List.set_cons_zero,List.set_cons_succ]
      refine wpAnyH_ready (rs:=[5]) (by kernel_rfl) (by simp) ?_;refine AllReadyH.cons rfl (fun K hK=>?_) AllReadyH.nil;go_simp
      refine hK.out _ _ hS9b (fun _=>?_);refine wpAnyH_done (by kernel_rfl) ?_ _;have HDD:=Lib.hid HD8.out.2;clear hS0 hS8 hS8b hS9 hS9b co0 co8 co8b co9 cz9 HD8;go_wp2_with fail
      exact⟨⟨i+1,by first|rfl|rw[i3],by omega,q,ps++[pl],_,Lib.hid ⟨HD9.out,HDD.out.1,by rw[List.length_append,HLP.out];rfl,by rw[HNX.out,HDD.out.2]⟩⟩,by first|(rw[i3];simp[intOf];omega)|(simp[intOf];omega)⟩
   ·have hNX:=extP_no ps k L hz
    rw[hNX] at hTK;have HRE:=Lib.hid (show rdP s.data.toList=((tk1 L).1,[]) from by rw[HRT.out _ hTK,if_pos hz]);have HZ:=Lib.hid hz;clear hz hTK hNX hL hki hk HPA HEO HEN HRT;have hS0:wr.drew.cell? ⟨bt,0,none⟩=some (.pointer (some ⟨b,0,none⟩)):=HX.out.1.tk.cell;have co0:wr.drew.cell? ⟨bo,0,none⟩=some v:=HX.out.1.ou.cell;go_wp2_with fail
    refine wp_region_held_drew (S:=(fun wx:World=>wx.cell? ⟨bt,0,none⟩=some (.pointer (some ⟨b,0,none⟩)))) (by kernel_rfl) hS0 (fun hHeld=>?_);refine wpAnyH_take (i:=1) (v:=.pointer (some ⟨b,0,none⟩)) rfl (by kernel_rfl) (by kernel_rfl) (by kernel_rfl) (fun _ _ _ h=>h) (Or.inl ⟨by rfl,by(intro w hSw;(try dsimp only at hSw);go_simp)⟩) (by assumption) ?_
    try simp only[Act.put,List.setIfInBounds_toArray,List.set_cons_zero,List.set_cons_succ]
    refine wpAnyH_ready (rs:=[0,2]) (by kernel_rfl) (by simp) ?_;refine AllReadyH.cons rfl (fun K hK=>?_) (AllReadyH.cons rfl (fun K hK=>?_) AllReadyH.nil)
    ·go_simp
     refine hK.out _ _ hS0 (fun hHeld=>?_);clear hK K
     try simp only[Act.put,List.setIfInBounds_toArray,List.set_cons_zero,List.set_cons_succ]
     refine wpAnyH_ready (rs:=[2]) (by kernel_rfl) (by simp) ?_;refine AllReadyH.cons rfl (fun K hK=>?_) AllReadyH.nil;go_simp
     refine HPL.out.mono ?_;rintro e8 w8 ⟨k8,⟨h,-⟩|⟨-,p',rfl⟩⟩
     ·exact absurd h HZ.out
     exact⟨rfl,HX.out.1.keep.trans (Keep.trans (Keep.refl _ _).drew (k8.more (by simp))),.inr ⟨by rw[HRE.out];exact HZ.out,p',by rw[HRE.out]⟩⟩
    ·go_simp
     refine HPL.out.mono ?_;rintro e8 w8 ⟨k8,⟨h,-⟩|⟨-,p',rfl⟩⟩
     ·exact absurd h HZ.out
     exact⟨rfl,HX.out.1.keep.trans (Keep.trans (Keep.refl _ _).drew (k8.more (by simp))),.inr ⟨by rw[HRE.out];exact HZ.out,p',by rw[HRE.out]⟩⟩
  ·obtain rfl:i=n:=by omega
   have hTK:=HX.out.2.2.2;rw[Nat.sub_self,show extP ps (tkN 0 (s.data.toList.drop p))=(0,ps,s.data.toList.drop p) from by show(0,ps++[],s.data.toList.drop p)=_;rw[List.append_nil]] at hTK;have cbt:=HX.out.1.tk.cell;by_cases hps:p=s.size
   ·subst hps
    have HR:=Lib.hid (show rdP s.data.toList=(0,ps) from by
     rw[HRT.out _ hTK,if_neg (by simp),if_neg (by
      have:s.data.toList.drop s.size=[]:=List.drop_eq_nil_of_le (Nat.le_refl _);simp[this])])
    clear hTK HRT;go_wp2_with (go_at_call 40;refine(HEO.out _ HX.out.1.ta).mono ?_;rintro e8 w8 ⟨rfl,m,rfl⟩)
    go_end0
    rw[HR.out];exact⟨HX.out.1.keep.drewN m,.inl ⟨rfl,rfl,v,HX.out.1.ou,HX.out.1.own⟩⟩
   ·have hlt:p<s.size:=by have:=HX.out.2.1;omega
    have HR:=Lib.hid (show rdP s.data.toList=(6,[]) from by
     rw[HRT.out _ hTK,if_neg (by simp),if_pos (by
      intro h;have h2:=congrArg List.length h;rw[List.length_drop,List.length_nil] at h2;have:s.data.toList.length=s.size:=rfl;omega)])
    have HEN2:=Lib.hid (HEN.out wr p HX.out.1.ta hlt);clear hTK HRT hlt hps;go_wp2_with (go_at_call 40;refine HEN2.out.mono ?_;rintro e8 w8 ⟨rfl,k8⟩;have HK8:=Lib.hid (HX.out.1.keep.trans (k8.more (by simp)));clear k8)
    rw[HR.out];exact⟨rfl,HK8.out,.inr ⟨by simp,p,rfl⟩⟩
end Fo
end Go.Proofs.YtejcdhdfanfkbaaGreat
