/- disk: New, Create. disk: Read; the closures that turn a file. disk: used. disk: Sync's closure. disk: Append, where nothing stands against it. -/
import Derived.Test.YtphfmgapiimliaaGreatSc18
import Derived.Test.YtphfmgapiimliaaGreatSc08
import Derived.Deep.LoopGhost
import Derived.Test.YtphfmgapiimliaaGreatSc06
import Derived.Deep.RegionHeld3
import Derived.Deep.RegionWith
namespace Go.Proofs.YtphfmgapiimliaaGreat
namespace Dk
open Go.RowKit
section
variable {w w':World} {S:Nat->Prop} {bd gN gS:Nat} {v:Value} {D:DS}
theorem Dat.newF (h:Dat w S bd gN gS v D):Dat (w.alloc (.cells #[.string ⟨#[]⟩,.string ⟨#[]⟩] 186)) (fun k=>S k∨k=w.heap.size) bd gN gS v (setF w.heap.size (⟨#[]⟩,⟨#[]⟩) D):=by
 have h':=h.ext (ext_alloc w (.cells #[.string ⟨#[]⟩,.string ⟨#[]⟩] 186));have hn:∀k,D.fl k≠none->(setF w.heap.size (⟨#[]⟩,⟨#[]⟩) D).fl k≠none:=by
  intro k hk;unfold setF;dsimp only;split
  ·simp
  ·exact hk
 have hc:∀k p,(setF w.heap.size (⟨#[]⟩,⟨#[]⟩) D).fl k=some p->(k=w.heap.size/\p=(⟨#[]⟩,⟨#[]⟩))∨D.fl k=some p:=by
  intro k p hk;unfold setF at hk;dsimp only at hk;split at hk
  ·cases hk;exact .inl ⟨‹_›,rfl⟩
  ·exact .inr hk
 refine⟨h'.box,h'.now,h'.safe,h'.chg,fun b p hp=>?_,h.ne,.inl h.sB,.inl h.sN,.inl h.sS,fun g hg=>.inl (h.sC g hg),fun b p hp=>?_,fun b hb=>?_,?_⟩
 ·rcases hc b p hp with ⟨rfl,rfl⟩|hp
  ·exact Blk.new w _ _
  ·exact h'.fl b p hp
 ·rcases hc b p hp with ⟨rfl,rfl⟩|hp
  ·exact .inr rfl
  ·exact .inl (h.sF b p hp)
 ·rcases hb with hb|rfl
  ·exact h'.lt b hb
  ·simp
 ·have f:=h.fit
  refine⟨fun x hx=>hn _ (f.wfN x hx),fun x hx=>hn _ (f.wfS x hx),fun c hc b hb=>hn _ (f.wfC c hc b hb),f.cap0,f.cap1,f.arm0,f.arm1,f.ops,fun b p hp=>?_,f.few,f.run⟩;rcases hc b p hp with ⟨rfl,rfl⟩|hp
  ·exact⟨Nat.zero_le _,Nat.zero_le _⟩
  ·exact f.big b p hp
def newD (cap:Int):DS:=⟨[],[],[],fun _=>none,cap,0,0,false⟩
theorem new_at (cap:Int) (w:World) (h0:0<=cap) (h1:cap<=10000000):∃bd,Ending.returned (.tuple #[.pointer (some ⟨w.heap.size+1+1,0,none⟩),.int .i64 0])=.returned (.tuple #[.pointer (some ⟨bd,0,none⟩),.int .i64 0])/\ ∃S',
  DiskAt (((w.alloc (.map #[] 0)).alloc (.map #[] 0)).alloc (.cells #[.map (some w.heap.size),.map (some (w.heap.size+1)),.slice none 0 0,.int .i64 cap,.int .i64 0,.int .i64 0,.bool false,.bool true] 89)) S' bd (newD cap) /\
  Gr (fun _=>False) w S' (((w.alloc (.map #[] 0)).alloc (.map #[] 0)).alloc (.cells #[.map (some w.heap.size),.map (some (w.heap.size+1)),.slice none 0 0,.int .i64 cap,.int .i64 0,.int .i64 0,.bool false,.bool true] 89)):=by
 have s1:(w.alloc (.map #[] 0)).heap.size=w.heap.size+1:=by simp
 have s2:((w.alloc (.map #[] 0)).alloc (.map #[] 0)).heap.size=w.heap.size+1+1:=by simp
 have m1:((w.alloc (.map #[] 0)).alloc (.map #[] 0)).heap[w.heap.size+1]? =some (.map #[] 0):=by
  have:=heap_alloc_new (w.alloc (.map #[] 0)) (.map #[] 0)
  rwa [s1] at this
 have m0:((w.alloc (.map #[] 0)).alloc (.map #[] 0)).heap[w.heap.size]? =some (.map #[] 0) :=
  (Below.heap_alloc (w.alloc (.map #[] 0)) _ w.heap.size (by omega)).trans (heap_alloc_new w (.map #[] 0))
 have e3:∀o k,k<w.heap.size+1+1->(((w.alloc (.map #[] 0)).alloc (.map #[] 0)).alloc o).heap[k]? =((w.alloc (.map #[] 0)).alloc (.map #[] 0)).heap[k]? :=fun o k hk=>Below.heap_alloc ((w.alloc (.map #[] 0)).alloc (.map #[] 0)) o k (by omega)
 have nl:∀(wx:World) (g:Nat),wx.heap[g]? =some (.map #[] 0)->Mp wx g (vs []):=fun wx g h=>⟨#[],0,h,⟨by simp,by simp,by simp⟩,rfl⟩
 refine⟨w.heap.size+1+1,rfl,fun k=>w.heap.size<=k/\k<w.heap.size+1+1+1,⟨w.heap.size,w.heap.size+1,.slice none 0 0,?_,nl _ _ ?_,nl _ _ ?_,?_,fun b p hp=>?_,by omega,by omega,by omega,by omega,fun g hg=>?_,fun b p hp=>?_,fun b hb=>by simp;omega,?_⟩,?_⟩
 ·have:=Blk.new ((w.alloc (.map #[] 0)).alloc (.map #[] 0)) (dcells w.heap.size (w.heap.size+1) (.slice none 0 0) (newD cap)) 89
  rw[s2] at this;exact this
 ·rw[e3 _ _ (by omega)];exact m0
 ·rw[e3 _ _ (by omega)];exact m1
 ·exact World.ownsRow_nil _ _ _ _
 ·cases hp
 ·cases hg
 ·cases hp
 ·refine⟨fun x hx=>?_,fun x hx=>?_,fun x hx=>?_,h0,h1,Int.le_refl 0,?_,rfl,fun b p hp=>?_,fun k=>?_,rfl⟩
  ·cases hx
  ·cases hx
  ·cases hx
  ·show(0:Int)<=9223372036854775807;omega
  ·cases hp
  ·show(apps (List.take k []) []).length<=200
   rw[List.take_nil];exact Nat.zero_le _
 ·exact⟨rfl,rfl,rfl,by simp;omega,fun k hk _=>by rw[e3 _ _ (by omega),Below.heap_alloc (w.alloc (.map #[] 0)) _ k (by omega),Below.heap_alloc w _ k hk],fun k hk=>.inr hk.1⟩
set_option maxHeartbeats 3200000 in
set_option maxRecDepth 100000 in
theorem new_ok (cap:Int) (w:World) (h0:0<=cap) (h1:cap<=10000000):Calls Tryz.prog 19 #[.int .i64 cap] w fun e w'=>∃bd,e=.returned (.tuple #[.pointer (some ⟨bd,0,none⟩),.int .i64 0])/\ ∃S',DiskAt w' S' bd (newD cap)/\Gr (fun _=>False) w S' w':=by
 have t0: ¬ cap<0:=by omega
 have t1: ¬ cap>10000000:=by omega
 have hmm:∀w,(Instr.makeMap 86 none).run Tryz.prog w=.ok (.map (some w.heap.size)) (w.alloc (.map #[] 0)):=fun _=>rfl
 go_enter Tryz.func19, Tryz.ntmps19
 go_wp2_with fail
 go_ret2
 exact new_at cap w h0 h1
set_option maxHeartbeats 3200000 in
set_option maxRecDepth 100000 in
theorem create_go (h:DiskAt w S bd D) {s:ByteArray} (ho:D.off=false) (hs:Nm.check s.data.toList=0) (hl:lk s D.now=none) (hn:D.now.length<200) (hc:D.chg.length<=1000000) :
  Calls Tryz.prog 152 #[.pointer (some ⟨bd,0,none⟩),.string s] w fun e w'=>e=.returned (.int .i64 (opE D))/\ ∃b S',D.fl b=none/\DiskAt w' S' bd (opS false (chgD (s,⟨#[]⟩,some b)) (setF b (⟨#[]⟩,⟨#[]⟩) D))/\Gr S w S' w':=by
 have HU:=Lib.hid (fun wx (h:DiskAt wx S bd D)=>up_any h);have HN:=Lib.hid (fun wx=>Nm.check_any s wx);rw[hs] at HN;have hup:upE D=0:=by unfold upE;rw[ho];rfl
 rw[hup] at HU;have HC:=Lib.hid (show ∀wx,DiskAt wx S bd D->Below w.heap.size w wx->Calls Tryz.prog 71 #[.pointer (some ⟨bd,0,none⟩),.agg #[.string s,.string ⟨#[]⟩,.pointer (some ⟨wx.heap.size,0,none⟩)]] (wx.alloc (.cells #[.string ⟨#[]⟩,.string ⟨#[]⟩] 186))
   fun e w'=>e=.returned (.int .i64 (opE D))/\ ∃b S',D.fl b=none/\DiskAt w' S' bd (opS false (chgD (s,⟨#[]⟩,some b)) (setF b (⟨#[]⟩,⟨#[]⟩) D))/\Gr S w S' w' from by
  rintro wx ⟨gN,gS,v,hx⟩ hb;refine(changed_any (D:=setF wx.heap.size (⟨#[]⟩,⟨#[]⟩) D) ⟨gN,gS,v,hx.newF⟩ (s,⟨#[]⟩,some wx.heap.size) (fun b e=>?_) ?_ hc).mono ?_
  ·cases e
   unfold setF;simp
  ·show(app (s,⟨#[]⟩,some wx.heap.size) D.now).length<=200
   unfold app;dsimp only;rw[if_pos rfl,pt_len,hl];simp only[Option.isSome_none,Bool.false_eq_true,if_false];omega
  ·rintro e w' ⟨rfl,S',h2,g2⟩
   refine⟨rfl,wx.heap.size,S',?_,h2,?_⟩
   ·rcases hf:D.fl wx.heap.size with _|p
    ·rfl
    ·exact absurd (hx.lt _ (hx.sF _ _ hf)) (by omega)
   ·exact(Gr.of_below hb).trans (((Gr.alloc _).more fun k hk=>hk.imp_right (by omega)).trans g2))
 have HD:=Lib.hid h;have HX:=Lib.hid (show ∀wx,Below w.heap.size w wx->DiskAt wx S bd D from fun wx hb=>h.ext hb);obtain⟨gN,gS,v,h⟩:=h;have HM:=Lib.hid h;have c0:=h.c0;have HL:=Lib.hid (show find1 s (vs D.now)=none from by rw[vs_find,hl];rfl);have hlen:(vs D.now).length=D.now.length:=by unfold vs;rw[List.length_map]
 have hge: ¬ ((vs D.now).length:Int)>=200:=by omega
 clear h ho hs hl hn hc hup
 go_enter Tryz.func152, Tryz.ntmps152
 go_wp2_with (first
  |(go_at_call 54;refine(HU.out _ HD.out).mono ?_;rintro e1 w1 ⟨rfl,rfl⟩)
  |(go_at_call 163;refine(HN.out _).mono ?_;rintro e2 w2 ⟨rfl,hb2⟩;have HB2:=Lib.hid hb2;have HM2:=Lib.hid (HM.out.ext hb2);have k0:=HM2.out.c0;clear hb2 c0)
  |(at_lookup;refine wpList_lookupS Tryz.underlying86 Tryz.underlying9 ptr_zero HM2.out.now s _ _ ?_;rw[HL.out])
  |(at_len;refine wpList_lenS Tryz.underlying86 HM2.out.now _ ?_)
  |(go_at_call 71;refine(HC.out _ (HX.out _ HB2.out) HB2.out).mono ?_;rintro e5 w5 ⟨rfl,b,S5,hf5,hD5,hG5⟩;have HD5:=Lib.hid (And.intro hf5 (And.intro hD5 hG5));clear hf5 hD5 hG5))
 go_ret
 exact⟨rfl,b,S5,HD5.out⟩
end
end Dk
end Go.Proofs.YtphfmgapiimliaaGreat
namespace Go.Proofs.YtphfmgapiimliaaGreat
namespace Dk
open Go.RowKit
section
variable {w w':World} {S:Nat->Prop} {bd gN gS:Nat} {v:Value} {D:DS}
def readP (D:DS) (s:ByteArray):ByteArray×Int:=if D.off then(⟨#[]⟩,200) else match lk s D.now with
 |none=>(⟨#[]⟩,201)
 |some b=>(((D.fl b).map (·.2)).getD ⟨#[]⟩,0)
theorem lk_file (h:Dat w S bd gN gS v D) {s:ByteArray} {b:Nat} (hl:lk s D.now=some b):∃p,D.fl b=some p/\S b/\Blk w b #[.string p.1,.string p.2] 186:=by
 have:=h.fit.wfN _ (lk_mem hl);obtain⟨p,hp⟩:=Option.ne_none_iff_exists'.1 this;exact⟨p,hp,h.sF b p hp,h.fl b p hp⟩
set_option maxHeartbeats 1600000 in
theorem read_any (h:DiskAt w S bd D) (s:ByteArray):Calls Tryz.prog 87 #[.pointer (some ⟨bd,0,none⟩),.string s] w fun e w'=>e=.returned (.tuple #[.string (readP D s).1,.int .i64 (readP D s).2])/\w=w':=by
 have hF:=find_any h s;obtain⟨gN,gS,v,h⟩:=h;unfold findP at hF;unfold readP;rcases ho:D.off with _|_
 ·rw[ho] at hF
  simp only[Bool.false_eq_true,if_false] at hF ⊢;rcases hl:lk s D.now with _|b
  ·rw[hl] at hF
   dsimp only at hF ⊢;clear h ho hl
   go_enter Tryz.func87, Tryz.ntmps87
   go_wp2_with (go_at_call 70;refine hF.mono ?_;rintro e1 w1 ⟨rfl,rfl⟩)
   go_ret2
   exact⟨rfl,rfl⟩
  ·obtain⟨p,hp,-,hb⟩:=lk_file h hl
   rw[hl] at hF;dsimp only at hF ⊢;rw[hp];unfold ptr at hF;have c1:=hb.cell 1 (v:=.string p.2) rfl;clear h ho hl hp hb
   go_enter Tryz.func87, Tryz.ntmps87
   go_wp2_with (go_at_call 70;refine hF.mono ?_;rintro e1 w1 ⟨rfl,rfl⟩)
   go_ret2
   exact⟨rfl,rfl⟩
 ·rw[ho] at hF
  simp only[if_true] at hF ⊢;clear h ho
  go_enter Tryz.func87, Tryz.ntmps87
  go_wp2_with (go_at_call 70;refine hF.mono ?_;rintro e1 w1 ⟨rfl,rfl⟩)
  go_ret2
  exact⟨rfl,rfl⟩
set_option maxHeartbeats 1600000 in
theorem app1_any (h:DiskAt w S bd D) {b cg cf:Nat} {p:ByteArray×ByteArray} (hb:D.fl b≠none) (hg:Blk w cg #[.string p.1,.string p.2] 186) (hf:w.cell? ⟨cf,0,none⟩=some (.pointer (some ⟨b,0,none⟩)))
  (h1:p.1.size<=1000000) (h2:p.2.size<=1000000) :
  Calls Tryz.prog 243 #[.pointer (some ⟨cg,0,none⟩),.pointer (some ⟨cf,0,none⟩)] w fun e w'=>e=.returned (.tuple #[])/\ ∃S2,DiskAt w' S2 bd (setF b p D)/\Gr S w S2 w':=by
 obtain⟨gN,gS,v,h⟩:=h;obtain⟨q,hq⟩:=Option.ne_none_iff_exists'.1 hb;have hB:=h.fl b q hq;have b0:=hB.cell 0 rfl;have b1:=hB.cell 1 rfl;have x0:=hB.fz 0;have x1:=hB.fz 1;have g0:=hg.cell 0 rfl;have g1:=hg.cell 1 rfl;have sb:=h.sF b q hq;have HH:=Lib.hid (show Dat ((w.setCell ⟨b,0,none⟩ (.string p.1)).setCell ⟨b,1,none⟩ (.string p.2)) S bd gN gS v (setF b p D) from
  h.bytes (by simp) (fun k _ hk=>by rw[Below.heap_setCell _ ⟨b,1,none⟩ _ k hk,Below.heap_setCell _ ⟨b,0,none⟩ _ k hk]) hb ((hB.put 0 _).put 1 _) h1 h2)
 clear h hb hq
 go_enter Tryz.func243, Tryz.ntmps243
 go_wp2_with fail
 go_end0
 exact⟨rfl,S,⟨gN,gS,v,HH.out⟩,(Gr.setCell sb 0 _).trans (Gr.setCell sb 1 _)⟩
set_option maxHeartbeats 1600000 in
theorem cut1_any (h:DiskAt w S bd D) {b cg cf:Nat} {p:ByteArray×ByteArray} (hb:D.fl b≠none) (hg:Blk w cg #[.string p.1,.string p.2] 186) (hf:w.cell? ⟨cf,0,none⟩=some (.pointer (some ⟨b,0,none⟩)))
  (h1:p.1.size<=1000000) (h2:p.2.size<=1000000) :
  Calls Tryz.prog 140 #[.pointer (some ⟨cg,0,none⟩),.pointer (some ⟨cf,0,none⟩)] w fun e w'=>e=.returned (.tuple #[])/\ ∃S2,DiskAt w' S2 bd (setF b p D)/\Gr S w S2 w':=by
 obtain⟨gN,gS,v,h⟩:=h;obtain⟨q,hq⟩:=Option.ne_none_iff_exists'.1 hb;have hB:=h.fl b q hq;have b0:=hB.cell 0 rfl;have b1:=hB.cell 1 rfl;have x0:=hB.fz 0;have x1:=hB.fz 1;have g0:=hg.cell 0 rfl;have g1:=hg.cell 1 rfl;have sb:=h.sF b q hq;have HH:=Lib.hid (show Dat ((w.setCell ⟨b,0,none⟩ (.string p.1)).setCell ⟨b,1,none⟩ (.string p.2)) S bd gN gS v (setF b p D) from
  h.bytes (by simp) (fun k _ hk=>by rw[Below.heap_setCell _ ⟨b,1,none⟩ _ k hk,Below.heap_setCell _ ⟨b,0,none⟩ _ k hk]) hb ((hB.put 0 _).put 1 _) h1 h2)
 clear h hb hq
 go_enter Tryz.func140, Tryz.ntmps140
 go_wp2_with fail
 go_end0
 exact⟨rfl,S,⟨gN,gS,v,HH.out⟩,(Gr.setCell sb 0 _).trans (Gr.setCell sb 1 _)⟩
end
end Dk
end Go.Proofs.YtphfmgapiimliaaGreat
namespace Go.Proofs.YtphfmgapiimliaaGreat
namespace Dk
open Go.RowKit
theorem vs_split {c b:List (ByteArray×Value)} {s:ByteArray} {v:Value} {r:List (ByteArray×Nat)} (h:vs r=c++(s,v)::b):∃r1 k r2,r=r1++(s,k)::r2/\c=vs r1/\v=ptr k/\b=vs r2:=by
 unfold vs at h;obtain⟨r1,r3,e1,e2,e3⟩:=List.map_eq_append_iff.1 h;obtain⟨y,r2,e4,e5,e6⟩:=List.map_eq_cons_iff.1 e3;simp only[Prod.mk.injEq] at e5;exact⟨r1,y.2,r2,by rw[e1,e4,<-e5.1],e2.symm,e5.2.symm,e6.symm⟩
theorem vs_append (a b:List (ByteArray×Nat)):vs (a++b)=vs a++vs b:=List.map_append ..
section
variable {w w':World} {S:Nat->Prop} {bd gN gS:Nat} {v:Value} {D:DS}
structure Us (D:DS) (gN it:Nat) (w:World) (r:List (ByteArray×Nat)) (m:Nat) (wr:World):Prop where
 sum:m+szs D.fl r=usedD D
 it:Itr wr gN it (vs D.now) (vs r)
 sub:∀x∈r,D.fl x.2≠none
 below:Below w.heap.size w wr
theorem us_step {r:List (ByteArray×Nat)} {m:Nat} {wr w2:World} {c b:List (ByteArray×Value)} {s:ByteArray} {z:Value} (h:Dat w S bd gN gS v D) (hx:Us D gN w.heap.size w r m wr)
  (e:vs r=c++(s,z)::b) (hi:Itr w2 gN w.heap.size (vs D.now) (c++b)) (hg:wr.grownBy w2 (some w.heap.size)) :
  ∃(k m2:Nat) (r2:List (ByteArray×Nat)) (p:ByteArray×ByteArray),z=.pointer (some ⟨k,0,none⟩)/\w2.cell? ⟨k,1,none⟩=some (.string p.2)/\(m2=m+p.2.size/\m2<=usedD D)/\r2.length<r.length/\Aside (Us D gN w.heap.size w r2 m2 w2):=by
 obtain⟨r1,k,r2,rfl,rfl,rfl,rfl⟩:=vs_split e;obtain⟨p,hp⟩:=Option.ne_none_iff_exists'.1 (hx.sub (s,k) (by simp));have hb2:Below w.heap.size w w2:=hx.below.grown hg hx.below.size (by intro k hk;cases hk;exact Nat.le_refl _);have hs:=hx.sum;rw[szs_append,szs,hp,Option.map_some,Option.getD_some] at hs;refine⟨k,m+p.2.size,r1++r2,p,rfl,((h.ext hb2).fl k p hp).cell 1 rfl,⟨rfl,by omega⟩,by simp,⟨by rw[szs_append];omega,by rw[vs_append];exact hi,fun x hx'=>hx.sub x ?_,hb2⟩⟩;rw[List.mem_append] at hx' ⊢;exact hx'.imp_right (List.mem_cons_of_mem _)
set_option maxHeartbeats 3200000 in
set_option maxRecDepth 100000 in
theorem used_any (h:DiskAt w S bd D):Calls Tryz.prog 242 #[.pointer (some ⟨bd,0,none⟩)] w fun e w'=>e=.returned (.int .i64 (usedD D:Int))/\Below w.heap.size w w':=by
 obtain⟨gN,gS,v,h⟩:=h;have c0:=h.c0;have HM:=Lib.hid h.now;have HH:=Lib.hid h;have HT:=Lib.hid (show usedD D<=200*1000000 from Nat.le_trans (szs_le (fun b p hp=>(h.fit.big b p hp).2) D.now) (Nat.mul_le_mul_right _ h.fit.now_few));have H0:∀w1,Itr w1 gN w.heap.size (vs D.now) (vs D.now)->Below w.heap.size w w1->Aside (Us D gN w.heap.size w D.now 0 w1):=fun w1 h1 h2=>⟨by rw[Nat.zero_add];rfl,h1,h.fit.wfN,h2⟩
 have HLn:=Lib.hid (show D.now.length<=200 from h.fit.now_few);clear h
 go_enter Tryz.func242, Tryz.ntmps242
 go_wp2_with (at_range;refine wpList_rangeS Tryz.underlying86 HM.out _ ?_;intro w1 hit1 hb1 hs1)
 have H1:=H0 w1 hit1 hb1;clear hit1 hb1 hs1 H0 c0;go_frame
 go_loopg [3] 1000 (fun kx s3 wr=>∃(r:List (ByteArray×Nat)) (m:Nat),s3=.int .i64 (m:Int)/\Hid (r.length<=kx)/\Aside (Us D gN w.heap.size w r m wr))
 case atStart=>exact⟨D.now,0,rfl,by have:=HLn.out;exact Lib.hid (by omega),H1⟩
 case round =>
  clear H1;obtain⟨r,m,rfl,hk,HX⟩:=hrel;rcases r with _|⟨x0,r0⟩
  ·have hs:=HX.out.sum
   simp only[szs,Nat.add_zero] at hs;have HS:=Lib.hid hs;clear hs;go_wp2_with (at_next;refine wpList_nextS0 HX.out.it _ ?_)
   go_ret
   exact⟨by rw[HS.out];rfl,HX.out.below⟩
  ·go_wp2_with (at_next;refine wpList_nextS1 HX.out.it (by simp[vs]) _ ?_;intro c s z b w2 e2 hi2 hg2 hs2 hen;obtain⟨k,m2,r2,p,rfl,hc,hm2,hl2,H2⟩:=us_step HH.out HX.out e2 hi2 hg2;have HM2:=Lib.hid hm2;have hT2:=Nat.le_trans hm2.2 HT.out;have HL2:=Lib.hid hl2;have hw:wrap64 ((m:Int)+(p.2.size:Int))=(m:Int)+(p.2.size:Int):=(by unfold wrap64;omega);clear hm2 hT2 hl2 e2 hi2 hg2 hs2)
   go_roundg (gk-1)
   case measure=>have:=HL2.out;have:=hk.out;omega
   case rel=>exact⟨r2,m2,by rw[HM2.out.1];go_num,by have:=HL2.out;have:=hk.out;exact Lib.hid (by omega),H2⟩
end
end Dk
end Go.Proofs.YtphfmgapiimliaaGreat
namespace Go.Proofs.YtphfmgapiimliaaGreat
namespace Dk
open Go.RowKit
section
variable {w w':World} {S:Nat->Prop} {bd gN gS:Nat} {v:Value} {D:DS}
set_option maxHeartbeats 3200000 in
set_option maxRecDepth 100000 in
theorem sync1_any (h:DiskAt w S bd D) {b cf:Nat} {p:ByteArray×ByteArray} (hp:D.fl b=some p) (hc:cf<w.heap.size) (hcs: ¬ S cf) (hf:w.cell? ⟨cf,0,none⟩=some (.pointer (some ⟨b,0,none⟩))) :
  Calls Tryz.prog 191 #[.pointer (some ⟨cf,0,none⟩)] w fun e w'=>e=.returned (.tuple #[])/\ ∃S2,DiskAt w' S2 bd (setF b (p.2,p.2) D)/\Gr S w S2 w':=by
 have mixed:Tryz.prog.follows .mixedOrders=true:=by kernel_rfl
 obtain⟨gN,gS,v,h⟩:=h;have hB:=h.fl b p hp;have sb:=h.sF b p hp;have b0:=hB.cell 0 rfl;have b1:=hB.cell 1 rfl;have HSO:=Lib.hid (show ∀wx,Below w.heap.size w wx->(fun wx=>wx.cell? ⟨cf,0,none⟩=some (.pointer (some ⟨b,0,none⟩))/\wx.frozen? ⟨b,0,none⟩=false/\wx.frozen? ⟨b,1,none⟩=false) wx from fun wx hb =>
  ⟨(hb.cell (p:=⟨cf,0,none⟩) hc).trans hf,(hB.ext hb).fz 0,(hB.ext hb).fz 1⟩)
 have HS0:=Lib.hid (HSO.out w.drew ⟨rfl,rfl,rfl,Nat.le_refl _,fun _ _=>rfl⟩);have HB0:=Lib.hid (show Below w.heap.size w w.drew from⟨rfl,rfl,rfl,Nat.le_refl _,fun _ _=>rfl⟩);have HC:=Lib.hid (show ∀wx,Below w.heap.size w wx->wx.cell? ⟨b,0,none⟩=some (.string p.1)/\wx.cell? ⟨b,1,none⟩=some (.string p.2) from fun wx hb=>⟨(hB.ext hb).cell 0 rfl,(hB.ext hb).cell 1 rfl⟩);have HS7:=Lib.hid (show ∀wx,Below w.heap.size w wx->(fun wx=>wx.cell? ⟨cf,0,none⟩=some (.pointer (some ⟨b,0,none⟩))/\wx.frozen? ⟨b,0,none⟩=false/\wx.frozen? ⟨b,1,none⟩=false) ((wx.setCell ⟨b,0,none⟩ (.string p.2)).setCell ⟨b,1,none⟩ (.string p.2)) from fun wx hb=>by
  have q:Blk ((wx.setCell ⟨b,0,none⟩ (.string p.2)).setCell ⟨b,1,none⟩ (.string p.2)) b #[.string p.2,.string p.2] 186:=((hB.ext hb).put 0 _).put 1 _;have hne:cf≠b:=by rintro rfl;exact hcs sb
  refine⟨?_,q.fz 0,q.fz 1⟩;rw[World.cell?_of_block (w:=wx) (a:=⟨cf,0,none⟩) (by rw[Below.heap_setCell _ ⟨b,1,none⟩ _ cf hne,Below.heap_setCell _ ⟨b,0,none⟩ _ cf hne])];exact(hb.cell (p:=⟨cf,0,none⟩) hc).trans hf)
 have HH:=Lib.hid (show ∀wx,Below w.heap.size w wx->Dat ((wx.setCell ⟨b,0,none⟩ (.string p.2)).setCell ⟨b,1,none⟩ (.string p.2)) S bd gN gS v (setF b (p.2,p.2) D)/\Gr S w S ((wx.setCell ⟨b,0,none⟩ (.string p.2)).setCell ⟨b,1,none⟩ (.string p.2)) from fun wx hb=>by
  have h':=h.ext hb;have hbg:=(h.fit.big b p hp).2;exact⟨h'.bytes (by simp) (fun k _ hk=>by rw[Below.heap_setCell _ ⟨b,1,none⟩ _ k hk,Below.heap_setCell _ ⟨b,0,none⟩ _ k hk]) (by rw[hp];simp) (((hB.ext hb).put 0 _).put 1 _) hbg hbg,(Gr.of_below hb).trans ((Gr.setCell sb 0 _).trans (Gr.setCell sb 1 _))⟩)
 have HF:=Lib.hid (fun w=>fsync_any p.1 p.2 w);unfold fagg at HF;clear h hB hp hf
 go_enter Tryz.func191, Tryz.ntmps191
 have k2:=HS0.out.1;go_region_with (first
  |(go_at_call 192;refine(HF.out _).mono ?_;rintro e5 w5 ⟨rfl,hb5⟩;have hb6:=HB0.out.trans (hb5.mono HB0.out.size);have hS5:=HSO.out _ hb6;have k0:=(HC.out _ hb6).1;have k1:=(HC.out _ hb6).2;have k3:=hS5.1;have k4:=hS5.2.1;have k5:=hS5.2.2))
 all_goals go_end0
 all_goals exact⟨rfl,S,⟨gN,gS,v,(HH.out _ hb6).1⟩,(HH.out _ hb6).2⟩
end
end Dk
end Go.Proofs.YtphfmgapiimliaaGreat
namespace Go.Proofs.YtphfmgapiimliaaGreat
namespace Dk
open Go.RowKit
section
variable {w w':World} {S:Nat->Prop} {bd gN gS:Nat} {v:Value} {D:DS}
structure Ap (w:World) (S:Nat->Prop) (bd cf cg b:Nat) (p:ByteArray×ByteArray) (D:DS) (wx:World):Prop where
 disk:DiskAt wx S bd D
 gr:Gr S w S wx
 vf:Blk wx cf #[.pointer (some ⟨b,0,none⟩)] 108
 vg:Blk wx cg #[.string p.1,.string p.2] 186
 nf: ¬ S cf
 ng: ¬ S cg
theorem Ap.ext {cf cg b:Nat} {p:ByteArray×ByteArray} {wx wy:World} (h:Ap w S bd cf cg b p D wx) (hb:Below wx.heap.size wx wy):Ap w S bd cf cg b p D wy :=
 ⟨h.disk.ext hb,h.gr.trans (Gr.of_below hb),h.vf.ext hb,h.vg.ext hb,h.nf,h.ng⟩
theorem ap_new (h:DiskAt w S bd D) (b:Nat) (p:ByteArray×ByteArray) {w2:World} (hb:Below (w.alloc (.cells #[.pointer (some ⟨b,0,none⟩)] 108)).heap.size (w.alloc (.cells #[.pointer (some ⟨b,0,none⟩)] 108)) w2) :
  Ap w S bd w.heap.size w2.heap.size b p D (w2.alloc (.cells #[.string p.1,.string p.2] 186)):=by
 obtain⟨gN,gS,v,h⟩:=h;have h1:Below w.heap.size w w2:=(ext_alloc w _).trans (hb.mono (by simp));refine⟨⟨gN,gS,v,(h.ext h1).ext (ext_alloc w2 _)⟩,(Gr.of_below h1).trans (Gr.of_below (ext_alloc w2 _)),((Blk.new w _ _).ext hb).alloc _,Blk.new w2 _ _,h.gt (Nat.le_refl _),h.gt h1.size⟩
theorem op_file {fid:FuncId} {cf cg b:Nat} {p:ByteArray×ByteArray} {wx:World} (hen:∀args w,(callFunc fid args).run Tryz.prog w=.ok (.enter fid args) w)
  (hc:∀(w1:World) (D1:DS),DiskAt w1 S bd D1->D1.fl b≠none->Blk w1 cg #[.string p.1,.string p.2] 186->w1.cell? ⟨cf,0,none⟩=some (.pointer (some ⟨b,0,none⟩))->Calls Tryz.prog fid #[.pointer (some ⟨cg,0,none⟩),.pointer (some ⟨cf,0,none⟩)] w1 fun e w'=>e=.returned (.tuple #[])/\ ∃S2,DiskAt w' S2 bd (setF b p D1)/\Gr S w1 S2 w')
  (h:Ap w S bd cf cg b p D wx) (hb:D.fl b≠none) :
  Calls Tryz.prog 117 #[.pointer (some ⟨bd,0,none⟩),.bool false,.func (.func fid) #[] #[.pointer (some ⟨cg,0,none⟩),.pointer (some ⟨cf,0,none⟩)]] wx fun e w'=>e=.returned (.int .i64 (opE D))/\ ∃S',DiskAt w' S' bd (opS false (setF b p) D)/\Gr S w S' w':=by
 refine(op_any false fid #[] #[.pointer (some ⟨cg,0,none⟩),.pointer (some ⟨cf,0,none⟩)] (setF b p) h.disk hen fun w1 h1 g1=>?_).mono ?_
 ·exact hc w1 (tick D) h1 hb (g1.blk h.vg h.ng) ((g1.blk h.vf h.nf).cell 0 rfl)
 ·rintro e w' ⟨rfl,S',h2,g2⟩
  exact⟨rfl,S',h2,h.gr.trans g2⟩
set_option maxHeartbeats 3200000 in
set_option maxRecDepth 100000 in
theorem append_go (h:DiskAt w S bd D) {s text:ByteArray} {b:Nat} {p:ByteArray×ByteArray} (ho:D.off=false) (hl:lk s D.now=some b) (hp:D.fl b=some p) (h1:p.2.size+text.size<=1000000) (h2:(text.size:Int)+(usedD D:Int)<=D.cap) :
  Calls Tryz.prog 195 #[.pointer (some ⟨bd,0,none⟩),.string s,.string text] w fun e w'=>e=.returned (.int .i64 (opE D))/\ ∃S',DiskAt w' S' bd (opS false (setF b (p.1,p.2++text)) D)/\Gr S w S' w':=by
 have mixed:Tryz.prog.follows .mixedOrders=true:=by kernel_rfl
 have hF:=find_any h s;unfold findP at hF;rw[ho,hl] at hF;simp only[Bool.false_eq_true,if_false] at hF;unfold ptr at hF;have HA:=Lib.hid (fun w=>fapp_ok p.1 p.2 text w h1);unfold fagg at HA;have HN:=Lib.hid (fun w2 hb=>ap_new h b (p.1,p.2++text) (w2:=w2) hb);have HO:=Lib.hid (fun(cf cg:Nat) (wx:World) (ha:Ap w S bd cf cg b (p.1,p.2++text) D wx)=>op_file (enters_of Tryz.func243 (by kernel_rfl) rfl) (fun w1 D1 q1 q2 q3 q4=>app1_any q1 q2 q3 q4 (by
  obtain⟨gN,gS,v,h⟩:=h;exact(h.fit.big b p hp).1) (by rw[ByteArray.size_append];exact h1)) ha (by rw[hp];simp))
 have HU:=Lib.hid (fun(wx:World) (hd:DiskAt wx S bd D)=>used_any hd);have hcp:0<=D.cap/\D.cap<=10000000:=by
  obtain⟨gN,gS,v,h⟩:=h;exact⟨h.fit.cap0,h.fit.cap1⟩
 have HC3:=Lib.hid (fun(wx:World) (hd:DiskAt wx S bd D)=>show wx.cell? ⟨bd,3,none⟩=some (.int .i64 D.cap) from by
  obtain⟨gN,gS,v,hd⟩:=hd;exact hd.c3)
 have HGT:=Lib.hid (show decide (IntKind.i64.wrap (D.cap-(usedD D:Int))<(text.size:Int))=false from by
  rw[wrap_in (by omega) (by omega)];exact decide_eq_false (by omega))
 obtain⟨gN,gS,v,h⟩:=h;have hB:=h.fl b p hp;have b0:=hB.cell 0 (v:=.string p.1) rfl;have b1:=hB.cell 1 (v:=.string p.2) rfl;have lB:=hB.lt;clear h hB hp hl ho h1 h2;generalize p.2++text=T at *
 generalize usedD D=U at *
 generalize D.cap=C at *
 go_enter Tryz.func195, Tryz.ntmps195
 go_wp2_with (first
  |(go_at_call 70;refine hF.mono ?_;rintro e1 w1 ⟨rfl,rfl⟩)
  |(go_at_call 241;refine(HA.out _).mono ?_;rintro e2 w2 ⟨rfl,hb2⟩;have HA2:=Lib.hid (HN.out w2 hb2);clear hb2))
 generalize w2.alloc (.cells #[.string p.1,.string T] 186)=w3 at *
 have k3:∀q:Bw w3,q.to.cell? ⟨bd,3,none⟩=some (.int .i64 C):=fun q=>HC3.out _ (HA2.out.disk.ext q.h)
 have HU2:=Lib.hid (fun q:Bw w3=>HU.out q.to (HA2.out.disk.ext q.h));refine wp_region_quiet_below (by assumption) (by kernel_rfl) ?_
 repeat (first|go_big_quiet_skip|quiet_step (first|(go_at_call 242;refine below_of (HU2.out _))))
 refine wpQuiet_nil ?_;intro _ hw';obtain⟨q,rfl⟩:=hw';have HO2:=Lib.hid (HO.out _ _ q.to (HA2.out.ext q.h));clear k3 HU2;rw[HGT.out];go_wp2_with (go_at_call 117;refine HO2.out.mono ?_;rintro e5 w5 ⟨rfl,S5,hD5,hG5⟩;have HD5:=Lib.hid hD5;have HG5:=Lib.hid hG5;clear hD5 hG5)
 go_ret
 exact⟨rfl,S5,HD5.out,HG5.out⟩
end
end Dk
end Go.Proofs.YtphfmgapiimliaaGreat
