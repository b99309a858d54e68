/- disk: New, Create. slices.Sorted of maps.Keys: the shelf's contracts at this dump (written by the kit's lay-iter.mjs, lay-plain.mjs). disk: names of a directory, in order. -/
import Derived.Test.YtphfmgapiimliaaGreatOl31
import Derived.Shelf.SlIter.Nil
import Derived.Shelf.SortM.Plain
import Derived.Shelf.SortM.SortNone
import Derived.Ground.GgzProg
import Derived.Ground.SlgmProg
import Derived.Test.YtphfmgapiimliaaGreatRows
import Derived.Test.YtphfmgapiimliaaGreatOl10
import Derived.StringKeys
import Derived.CallsIn
namespace Go.Proofs.YtphfmgapiimliaaGreat
namespace Dk
open Go.RowKit
section
variable {w w':World} {S:Nat->Prop} {bd gN gS:Nat} {v:Value} {D:DS}
theorem Dat.newF (h:Dat w S bd gN gS v D):Dat (w.alloc (.cells #[.string ⟨#[]⟩,.string ⟨#[]⟩] 186)) (fun k=>S k∨k=w.heap.size) bd gN gS v (setF w.heap.size (⟨#[]⟩,⟨#[]⟩) D):=by
 have h':=h.ext (ext_alloc w (.cells #[.string ⟨#[]⟩,.string ⟨#[]⟩] 186));have hn:∀k,D.fl k≠none->(setF w.heap.size (⟨#[]⟩,⟨#[]⟩) D).fl k≠none:=by
  intro k hk;unfold setF;dsimp only;split
  ·simp
  ·exact hk
 have hc:∀k p,(setF w.heap.size (⟨#[]⟩,⟨#[]⟩) D).fl k=some p->(k=w.heap.size/\p=(⟨#[]⟩,⟨#[]⟩))∨D.fl k=some p:=by
  intro k p hk;unfold setF at hk;dsimp only at hk;split at hk
  ·cases hk;exact .inl ⟨‹_›,rfl⟩
  ·exact .inr hk
 refine⟨h'.box,h'.now,h'.safe,h'.chg,fun b p hp=>?_,h.ne,.inl h.sB,.inl h.sN,.inl h.sS,fun g hg=>.inl (h.sC g hg),fun b p hp=>?_,fun b hb=>?_,?_⟩
 ·rcases hc b p hp with ⟨rfl,rfl⟩|hp
  ·exact Blk.new w _ _
  ·exact h'.fl b p hp
 ·rcases hc b p hp with ⟨rfl,rfl⟩|hp
  ·exact .inr rfl
  ·exact .inl (h.sF b p hp)
 ·rcases hb with hb|rfl
  ·exact h'.lt b hb
  ·simp
 ·have f:=h.fit
  refine⟨fun x hx=>hn _ (f.wfN x hx),fun x hx=>hn _ (f.wfS x hx),fun c hc b hb=>hn _ (f.wfC c hc b hb),f.cap0,f.cap1,f.arm0,f.arm1,f.ops,fun b p hp=>?_,f.few,f.run⟩;rcases hc b p hp with ⟨rfl,rfl⟩|hp
  ·exact⟨Nat.zero_le _,Nat.zero_le _⟩
  ·exact f.big b p hp
def newD (cap:Int):DS:=⟨[],[],[],fun _=>none,cap,0,0,false⟩
theorem new_at (cap:Int) (w:World) (h0:0<=cap) (h1:cap<=10000000):∃bd,Ending.returned (.tuple #[.pointer (some ⟨w.heap.size+1+1,0,none⟩),.int .i64 0])=.returned (.tuple #[.pointer (some ⟨bd,0,none⟩),.int .i64 0])/\ ∃S',
  DiskAt (((w.alloc (.map #[] 0)).alloc (.map #[] 0)).alloc (.cells #[.map (some w.heap.size),.map (some (w.heap.size+1)),.slice none 0 0,.int .i64 cap,.int .i64 0,.int .i64 0,.bool false,.bool true] 89)) S' bd (newD cap) /\
  Gr (fun _=>False) w S' (((w.alloc (.map #[] 0)).alloc (.map #[] 0)).alloc (.cells #[.map (some w.heap.size),.map (some (w.heap.size+1)),.slice none 0 0,.int .i64 cap,.int .i64 0,.int .i64 0,.bool false,.bool true] 89)):=by
 have s1:(w.alloc (.map #[] 0)).heap.size=w.heap.size+1:=by simp
 have s2:((w.alloc (.map #[] 0)).alloc (.map #[] 0)).heap.size=w.heap.size+1+1:=by simp
 have m1:((w.alloc (.map #[] 0)).alloc (.map #[] 0)).heap[w.heap.size+1]? =some (.map #[] 0):=by
  have:=heap_alloc_new (w.alloc (.map #[] 0)) (.map #[] 0)
  rwa [s1] at this
 have m0:((w.alloc (.map #[] 0)).alloc (.map #[] 0)).heap[w.heap.size]? =some (.map #[] 0) :=
  (Below.heap_alloc (w.alloc (.map #[] 0)) _ w.heap.size (by omega)).trans (heap_alloc_new w (.map #[] 0))
 have e3:∀o k,k<w.heap.size+1+1->(((w.alloc (.map #[] 0)).alloc (.map #[] 0)).alloc o).heap[k]? =((w.alloc (.map #[] 0)).alloc (.map #[] 0)).heap[k]? :=fun o k hk=>Below.heap_alloc ((w.alloc (.map #[] 0)).alloc (.map #[] 0)) o k (by omega)
 have nl:∀(wx:World) (g:Nat),wx.heap[g]? =some (.map #[] 0)->Mp wx g (vs []):=fun wx g h=>⟨#[],0,h,⟨by simp,by simp,by simp⟩,rfl⟩
 refine⟨w.heap.size+1+1,rfl,fun k=>w.heap.size<=k/\k<w.heap.size+1+1+1,⟨w.heap.size,w.heap.size+1,.slice none 0 0,?_,nl _ _ ?_,nl _ _ ?_,?_,fun b p hp=>?_,by omega,by omega,by omega,by omega,fun g hg=>?_,fun b p hp=>?_,fun b hb=>by simp;omega,?_⟩,?_⟩
 ·have:=Blk.new ((w.alloc (.map #[] 0)).alloc (.map #[] 0)) (dcells w.heap.size (w.heap.size+1) (.slice none 0 0) (newD cap)) 89
  rw[s2] at this;exact this
 ·rw[e3 _ _ (by omega)];exact m0
 ·rw[e3 _ _ (by omega)];exact m1
 ·exact World.ownsRow_nil _ _ _ _
 ·cases hp
 ·cases hg
 ·cases hp
 ·refine⟨fun x hx=>?_,fun x hx=>?_,fun x hx=>?_,h0,h1,Int.le_refl 0,?_,rfl,fun b p hp=>?_,fun k=>?_,rfl⟩
  ·cases hx
  ·cases hx
  ·cases hx
  ·show(0:Int)<=9223372036854775807;omega
  ·cases hp
  ·show(apps (List.take k []) []).length<=200
   rw[List.take_nil];exact Nat.zero_le _
 ·exact⟨rfl,rfl,rfl,by simp;omega,fun k hk _=>by rw[e3 _ _ (by omega),Below.heap_alloc (w.alloc (.map #[] 0)) _ k (by omega),Below.heap_alloc w _ k hk],fun k hk=>.inr hk.1⟩
set_option maxHeartbeats 3200000 in
set_option maxRecDepth 100000 in
theorem new_ok (cap:Int) (w:World) (h0:0<=cap) (h1:cap<=10000000):Calls Tryz.prog 19 #[.int .i64 cap] w fun e w'=>∃bd,e=.returned (.tuple #[.pointer (some ⟨bd,0,none⟩),.int .i64 0])/\ ∃S',DiskAt w' S' bd (newD cap)/\Gr (fun _=>False) w S' w':=by
 have t0: ¬ cap<0:=by omega
 have t1: ¬ cap>10000000:=by omega
 have hmm:∀w,(Instr.makeMap 86 none).run Tryz.prog w=.ok (.map (some w.heap.size)) (w.alloc (.map #[] 0)):=fun _=>rfl
 go_enter Tryz.func19, Tryz.ntmps19
 go_wp2_with fail
 go_ret2
 exact new_at cap w h0 h1
set_option maxHeartbeats 3200000 in
set_option maxRecDepth 100000 in
theorem create_go (h:DiskAt w S bd D) {s:ByteArray} (ho:D.off=false) (hs:Nm.check s.data.toList=0) (hl:lk s D.now=none) (hn:D.now.length<200) (hc:D.chg.length<=1000000) :
  Calls Tryz.prog 152 #[.pointer (some ⟨bd,0,none⟩),.string s] w fun e w'=>e=.returned (.int .i64 (opE D))/\ ∃b S',D.fl b=none/\DiskAt w' S' bd (opS false (chgD (s,⟨#[]⟩,some b)) (setF b (⟨#[]⟩,⟨#[]⟩) D))/\Gr S w S' w':=by
 have HU:=Lib.hid (fun wx (h:DiskAt wx S bd D)=>up_any h);have HN:=Lib.hid (fun wx=>Nm.check_any s wx);rw[hs] at HN;have hup:upE D=0:=by unfold upE;rw[ho];rfl
 rw[hup] at HU;have HC:=Lib.hid (show ∀wx,DiskAt wx S bd D->Below w.heap.size w wx->Calls Tryz.prog 71 #[.pointer (some ⟨bd,0,none⟩),.agg #[.string s,.string ⟨#[]⟩,.pointer (some ⟨wx.heap.size,0,none⟩)]] (wx.alloc (.cells #[.string ⟨#[]⟩,.string ⟨#[]⟩] 186))
   fun e w'=>e=.returned (.int .i64 (opE D))/\ ∃b S',D.fl b=none/\DiskAt w' S' bd (opS false (chgD (s,⟨#[]⟩,some b)) (setF b (⟨#[]⟩,⟨#[]⟩) D))/\Gr S w S' w' from by
  rintro wx ⟨gN,gS,v,hx⟩ hb;refine(changed_any (D:=setF wx.heap.size (⟨#[]⟩,⟨#[]⟩) D) ⟨gN,gS,v,hx.newF⟩ (s,⟨#[]⟩,some wx.heap.size) (fun b e=>?_) ?_ hc).mono ?_
  ·cases e
   unfold setF;simp
  ·show(app (s,⟨#[]⟩,some wx.heap.size) D.now).length<=200
   unfold app;dsimp only;rw[if_pos rfl,pt_len,hl];simp only[Option.isSome_none,Bool.false_eq_true,if_false];omega
  ·rintro e w' ⟨rfl,S',h2,g2⟩
   refine⟨rfl,wx.heap.size,S',?_,h2,?_⟩
   ·rcases hf:D.fl wx.heap.size with _|p
    ·rfl
    ·exact absurd (hx.lt _ (hx.sF _ _ hf)) (by omega)
   ·exact(Gr.of_below hb).trans (((Gr.alloc _).more fun k hk=>hk.imp_right (by omega)).trans g2))
 have HD:=Lib.hid h;have HX:=Lib.hid (show ∀wx,Below w.heap.size w wx->DiskAt wx S bd D from fun wx hb=>h.ext hb);obtain⟨gN,gS,v,h⟩:=h;have HM:=Lib.hid h;have c0:=h.c0;have HL:=Lib.hid (show find1 s (vs D.now)=none from by rw[vs_find,hl];rfl);have hlen:(vs D.now).length=D.now.length:=by unfold vs;rw[List.length_map]
 have hge: ¬ ((vs D.now).length:Int)>=200:=by omega
 clear h ho hs hl hn hc hup
 go_enter Tryz.func152, Tryz.ntmps152
 go_wp2_with (first
  |(go_at_call 54;refine(HU.out _ HD.out).mono ?_;rintro e1 w1 ⟨rfl,rfl⟩)
  |(go_at_call 163;refine(HN.out _).mono ?_;rintro e2 w2 ⟨rfl,hb2⟩;have HB2:=Lib.hid hb2;have HM2:=Lib.hid (HM.out.ext hb2);have k0:=HM2.out.c0;clear hb2 c0)
  |(at_lookup;refine wpList_lookupS Tryz.underlying86 Tryz.underlying9 ptr_zero HM2.out.now s _ _ ?_;rw[HL.out])
  |(at_len;refine wpList_lenS Tryz.underlying86 HM2.out.now _ ?_)
  |(go_at_call 71;refine(HC.out _ (HX.out _ HB2.out) HB2.out).mono ?_;rintro e5 w5 ⟨rfl,b,S5,hf5,hD5,hG5⟩;have HD5:=Lib.hid (And.intro hf5 (And.intro hD5 hG5));clear hf5 hD5 hG5))
 go_ret
 exact⟨rfl,b,S5,HD5.out⟩
end
end Dk
end Go.Proofs.YtphfmgapiimliaaGreat
namespace Go.Proofs
open Go.Shelf
def Tryz.keys95_ren:Go.Shelf.Ren:=⟨fun|7=>95|10=>143|n=>n,fun|23=>86|26=>9|3=>108|28=>145|0=>0|27=>144|33=>199|4=>4|n=>n,fun|n=>n⟩
theorem Tryz.keys95:Go.Proofs.SlLaysZ.n7 Tryz.prog Tryz.keys95_ren:={
 mixed:=by kernel_rfl
 f7:=⟨Tryz.f95.name,by decide,Tryz.func95.trans (congrArg some (by kernel_rfl))⟩
 f10:=⟨Tryz.f143.name,by decide,Tryz.func143.trans (congrArg some (by kernel_rfl))⟩
 t0:=Tryz.underlying0
 a0:=Tryz.isAgg0
 z0:=Tryz.sizeOf0
 v0:=Tryz.zeroValue0
 t4:=Tryz.underlying4
 a4:=Tryz.isAgg4
 z4:=Tryz.sizeOf4
 v4:=Tryz.zeroValue4
 t23:=Tryz.underlying86
 a23:=Tryz.isAgg86
 z23:=Tryz.sizeOf86
 v23:=Tryz.zeroValue86
 t26:=Tryz.underlying9
 a26:=Tryz.isAgg9
 z26:=Tryz.sizeOf9
 v26:=Tryz.zeroValue9
 t27:=Tryz.underlying144
 a27:=Tryz.isAgg144
 z27:=Tryz.sizeOf144
 v27:=Tryz.zeroValue144
 t28:=Tryz.underlying145
 a28:=Tryz.isAgg145
 z28:=Tryz.sizeOf145
 v28:=Tryz.zeroValue145
 t33:=Tryz.underlying199
 a33:=Tryz.isAgg199
 z33:=Tryz.sizeOf199
 v33:=Tryz.zeroValue199 }
def Tryz.sorted94_ren:Go.Shelf.Ren:=⟨fun|6=>94|8=>142|9=>133|11=>193|13=>170|12=>184|23=>215|24=>216|14=>224|15=>225|16=>226|17=>227|18=>228|19=>229|20=>230|21=>231|22=>232|25=>253|26=>248|27=>249|28=>254|29=>255|30=>256|31=>262|n=>n,fun|26=>9|28=>145|24=>56|0=>0|3=>3|37=>228|48=>215|50=>277|4=>4|40=>270|39=>269|45=>187|5=>5|9=>9|51=>298|55=>302|57=>310|58=>63|33=>199|n=>n,fun|n=>n⟩
theorem Tryz.sorted94:Go.Proofs.SlLaysZ.n6 Tryz.prog Tryz.sorted94_ren:={
 mixed:=by kernel_rfl
 f6:=⟨Tryz.f94.name,by decide,Tryz.func94.trans (congrArg some (by kernel_rfl))⟩
 f8:=⟨Tryz.f142.name,by decide,Tryz.func142.trans (congrArg some (by kernel_rfl))⟩
 f11:=⟨Tryz.f193.name,by decide,Tryz.func193.trans (congrArg some (by kernel_rfl))⟩
 t0:=Tryz.underlying0
 a0:=Tryz.isAgg0
 z0:=Tryz.sizeOf0
 v0:=Tryz.zeroValue0
 t24:=Tryz.underlying56
 a24:=Tryz.isAgg56
 z24:=Tryz.sizeOf56
 v24:=Tryz.zeroValue56
 t26:=Tryz.underlying9
 a26:=Tryz.isAgg9
 z26:=Tryz.sizeOf9
 v26:=Tryz.zeroValue9
 t28:=Tryz.underlying145
 a28:=Tryz.isAgg145
 z28:=Tryz.sizeOf145
 v28:=Tryz.zeroValue145
 i26:=by kernel_rfl }
def Tryz.sort133_ren:Go.Shelf.Ren:=⟨fun|6=>133|8=>170|9=>184|19=>215|20=>216|21=>224|22=>225|23=>226|24=>227|25=>228|26=>229|27=>230|28=>231|29=>232|36=>253|31=>248|32=>249|37=>254|38=>255|39=>256|41=>262|n=>n,fun|27=>56|29=>9|3=>3|32=>228|26=>56|0=>0|44=>215|46=>277|4=>4|36=>270|35=>269|41=>187|5=>5|9=>9|53=>298|57=>302|63=>310|64=>63|n=>n,fun|n=>n⟩
theorem Tryz.sort133:Go.Proofs.SlLaysM.n6 Tryz.prog Tryz.sort133_ren:={
 mixed:=by kernel_rfl
 f6:=⟨Tryz.f133.name,by decide,Tryz.func133.trans (congrArg some (by kernel_rfl))⟩
 f8:=Tryz.func170.trans (congrArg some (by kernel_rfl))
 f9:=⟨Tryz.f184.name,by decide,Tryz.func184.trans (congrArg some (by kernel_rfl))⟩
 f19:=Tryz.func215.trans (congrArg some (by kernel_rfl))
 f20:=Tryz.func216.trans (congrArg some (by kernel_rfl))
 f21:=⟨Tryz.f224.name,by decide,Tryz.func224.trans (congrArg some (by kernel_rfl))⟩
 f22:=⟨Tryz.f225.name,by decide,Tryz.func225.trans (congrArg some (by kernel_rfl))⟩
 f23:=⟨Tryz.f226.name,by decide,Tryz.func226.trans (congrArg some (by kernel_rfl))⟩
 f24:=⟨Tryz.f227.name,by decide,Tryz.func227.trans (congrArg some (by kernel_rfl))⟩
 f25:=⟨Tryz.f228.name,by decide,Tryz.func228.trans (congrArg some (by kernel_rfl))⟩
 f26:=⟨Tryz.f229.name,by decide,Tryz.func229.trans (congrArg some (by kernel_rfl))⟩
 f27:=⟨Tryz.f230.name,by decide,Tryz.func230.trans (congrArg some (by kernel_rfl))⟩
 f28:=⟨Tryz.f231.name,by decide,Tryz.func231.trans (congrArg some (by kernel_rfl))⟩
 f29:=⟨Tryz.f232.name,by decide,Tryz.func232.trans (congrArg some (by kernel_rfl))⟩
 f31:=Tryz.func248.trans (congrArg some (by kernel_rfl))
 f32:=Tryz.func249.trans (congrArg some (by kernel_rfl))
 f36:=⟨Tryz.f253.name,by decide,Tryz.func253.trans (congrArg some (by kernel_rfl))⟩
 f37:=⟨Tryz.f254.name,by decide,Tryz.func254.trans (congrArg some (by kernel_rfl))⟩
 f38:=⟨Tryz.f255.name,by decide,Tryz.func255.trans (congrArg some (by kernel_rfl))⟩
 f39:=⟨Tryz.f256.name,by decide,Tryz.func256.trans (congrArg some (by kernel_rfl))⟩
 f41:=⟨Tryz.f262.name,by decide,Tryz.func262.trans (congrArg some (by kernel_rfl))⟩
 t0:=Tryz.underlying0
 a0:=Tryz.isAgg0
 z0:=Tryz.sizeOf0
 v0:=Tryz.zeroValue0
 t3:=Tryz.underlying3
 a3:=Tryz.isAgg3
 z3:=Tryz.sizeOf3
 v3:=Tryz.zeroValue3
 t4:=Tryz.underlying4
 a4:=Tryz.isAgg4
 z4:=Tryz.sizeOf4
 v4:=Tryz.zeroValue4
 t5:=Tryz.underlying5
 a5:=Tryz.isAgg5
 z5:=Tryz.sizeOf5
 v5:=Tryz.zeroValue5
 t9:=Tryz.underlying9
 a9:=Tryz.isAgg9
 z9:=Tryz.sizeOf9
 v9:=Tryz.zeroValue9
 t26:=Tryz.underlying56
 a26:=Tryz.isAgg56
 z26:=Tryz.sizeOf56
 v26:=Tryz.zeroValue56
 t27:=Tryz.underlying56
 a27:=Tryz.isAgg56
 z27:=Tryz.sizeOf56
 v27:=Tryz.zeroValue56
 t29:=Tryz.underlying9
 a29:=Tryz.isAgg9
 z29:=Tryz.sizeOf9
 v29:=Tryz.zeroValue9
 t32:=Tryz.underlying228
 a32:=Tryz.isAgg228
 z32:=Tryz.sizeOf228
 v32:=Tryz.zeroValue228
 t35:=Tryz.underlying269
 a35:=Tryz.isAgg269
 z35:=Tryz.sizeOf269
 v35:=Tryz.zeroValue269
 t36:=Tryz.underlying270
 a36:=Tryz.isAgg270
 z36:=Tryz.sizeOf270
 v36:=Tryz.zeroValue270
 t41:=Tryz.underlying187
 a41:=Tryz.isAgg187
 z41:=Tryz.sizeOf187
 v41:=Tryz.zeroValue187
 t44:=Tryz.underlying215
 a44:=Tryz.isAgg215
 z44:=Tryz.sizeOf215
 v44:=Tryz.zeroValue215
 t46:=Tryz.underlying277
 a46:=Tryz.isAgg277
 z46:=Tryz.sizeOf277
 v46:=Tryz.zeroValue277
 t53:=Tryz.underlying298
 a53:=Tryz.isAgg298
 z53:=Tryz.sizeOf298
 v53:=Tryz.zeroValue298
 t57:=Tryz.underlying302
 a57:=Tryz.isAgg302
 z57:=Tryz.sizeOf302
 v57:=Tryz.zeroValue302
 t63:=Tryz.underlying310
 a63:=Tryz.isAgg310
 z63:=Tryz.sizeOf310
 v63:=Tryz.zeroValue310
 t64:=Tryz.underlying63
 a64:=Tryz.isAgg63
 z64:=Tryz.sizeOf63
 v64:=Tryz.zeroValue63 }
open Go.RowKit Go.Maps Go.Sort Go.Shelf in
theorem Tryz.sorts94 (m:Nat):AnyZ.SortsIn Tryz.prog Tryz.sorted94_ren Fence.wide m :=
 ⟨fun blk off cap ss W hH hblk hsz=>callsIn_wide.2 (AnyM.slices_Sort_string Tryz.sort133 blk off cap ss W hH hblk hsz),
  fun p cap W=>callsIn_wide.2 (AnyM.slices_Sort_string_none Tryz.sort133 p cap W)⟩
open Go.RowKit Go.Maps Go.Sort Go.Shelf in
theorem Tryz.maps_Keys_95 (mb:Option Nat) (W:World):CallsIn Fence.wide 5 Tryz.prog 95 #[.map mb] W fun e w'=>e=.returned (.func (.func 143) #[] #[.pointer (some ⟨W.heap.size,0,none⟩)])/\w'=W.alloc (.cells #[.map mb] 86) :=
 AnyZ.keys_in Tryz.keys95 Fence.wide 5 trivial rfl mb W
set_option maxHeartbeats 1000000 in
open Go.RowKit Go.Maps Go.Sort Go.Shelf in
theorem Tryz.slices_Sorted_keys_94_95 {H:Type} (b nn:Nat) (D0:DataW H) (R:Value->Option (DataW H×List MemPlace)) (w:World) (hown:w.ownsMap Tryz.prog 9 R b nn D0) (hmax:Maps.size D0<=maxLen) (hbytes:Maps.size D0*16<=140737488355328) :
  CallsIn Fence.wide 5 Tryz.prog 94 #[.func (.func 143) #[] #[.pointer (some ⟨w.heap.size,0,none⟩)]] (w.alloc (.cells #[.map (some b)] 86)) fun e w'=>∃(v:Value) (ss:List (List UInt8)),e=.returned v/\ss.Perm (strKeys D0) /\
   w'.ownsRow (w.alloc (.cells #[.map (some b)] 86)).heap.size 9 1 v ss.length ((ss.mergeSort (fun x y=>decide (x<=y))).map encStr)/\(v=.slice none 0 0↔ss=[])/\Below (w.alloc (.cells #[.map (some b)] 86)).heap.size (w.alloc (.cells #[.map (some b)] 86)) w':=by
 have hbl:=hown.lt;have hseq:SeqGives Fence.wide 2 Tryz.prog 143 #[.pointer (some ⟨w.heap.size,0,none⟩)] encStr (fun ss=>ss.Perm (strKeys D0)) (Maps.size D0) (w.alloc (.cells #[.map (some b)] 86)) :=
  AnyZ.keys_gives (ρ:=Tryz.keys95_ren) { Tryz.keys95 with } Fence.wide _ trivial rfl (by omega) w.heap.size b nn D0 _ (by simp) (by simp) (by
   obtain⟨es,clock,hb,Ft,hs,hD⟩:=hown;exact⟨es,clock,(Below.heap_alloc _ _ b hbl).trans hb,Ft,hs,hD⟩)
 exact AnyZ.sorted_in Tryz.sorted94 Fence.wide 5 trivial trivial trivial trivial rfl (by omega) (Tryz.sorts94 _) (enters_of Tryz.func133 (by kernel_rfl) rfl) 143 #[.pointer (some ⟨w.heap.size,0,none⟩)] trivial (enters_of Tryz.func143 (by kernel_rfl) rfl) _ _ hmax hbytes _ hseq
set_option maxHeartbeats 1000000 in
open Go.RowKit Go.Maps Go.Sort Go.Shelf in
theorem Tryz.slices_Sorted_keys_nil_94_95 (w:World) :
  CallsIn Fence.wide 5 Tryz.prog 94 #[.func (.func 143) #[] #[.pointer (some ⟨w.heap.size,0,none⟩)]] (w.alloc (.cells #[.map none] 86)) fun e w'=>∃(v:Value) (ss:List (List UInt8)),e=.returned v/\ss=[] /\
   w'.ownsRow (w.alloc (.cells #[.map none] 86)).heap.size 9 1 v ss.length ((ss.mergeSort (fun x y=>decide (x<=y))).map encStr)/\(v=.slice none 0 0↔ss=[])/\Below (w.alloc (.cells #[.map none] 86)).heap.size (w.alloc (.cells #[.map none] 86)) w':=by
 have hseq:SeqGives Fence.wide 2 Tryz.prog 143 #[.pointer (some ⟨w.heap.size,0,none⟩)] encStr (fun ss:List (List UInt8)=>ss=[]) 0 (w.alloc (.cells #[.map none] 86)) :=
  AnyZ.keys_gives_nil (ρ:=Tryz.keys95_ren) { Tryz.keys95 with } Fence.wide _ trivial rfl w.heap.size _ (by simp) (by simp)
 exact AnyZ.sorted_in Tryz.sorted94 Fence.wide 5 trivial trivial trivial trivial rfl (by omega) (Tryz.sorts94 _) (enters_of Tryz.func133 (by kernel_rfl) rfl) 143 #[.pointer (some ⟨w.heap.size,0,none⟩)] trivial (enters_of Tryz.func143 (by kernel_rfl) rfl) _ 0 (Nat.zero_le _) (by omega) _ hseq
end Go.Proofs
namespace Go.Proofs.YtphfmgapiimliaaGreat
namespace Dk
open Go.RowKit Go.Maps Go.ChangeMaps Go.MapKept Go.WideMaps Go.WideShapes
open Go.WideElems (rg rd_mk rg_of)
def rdP (_:Value):Option (DataW Unit×List MemPlace):=some (.nil,[])
set_option maxRecDepth 100000 in
theorem mp_owns {w:World} {g:Nat} {l:List (ByteArray×Value)} (hm:Mp w g l) (hl:l.length<=1000) (hk:∀x∈l,x.1.size<=maxLen) :
  ∃D0:DataW Unit,w.ownsMap Tryz.prog 9 rdP g 1000 D0/\(strKeys D0).Perm (l.map fun x=>x.1.data.toList)/\size D0=l.length:=by
 obtain⟨es,clock,h1,h2,h3⟩:=hm;have hlen:es.size=l.length:=by
  have:=congrArg List.length h3;simpa using this
 have hr:∀x∈es.toList,∃s:ByteArray,x.key=.string s/\s.size<=maxLen/\rg Tryz.prog 9 rdP x=(.string s.data.toList,.nil)/\ ∃y,WideElems.rd Tryz.prog 9 rdP x=some y:=by
  intro x hx;obtain⟨j,hj,rfl⟩:=List.getElem_of_mem hx;have hkj:=keys_at h3 j;rw[List.getElem?_eq_getElem hj] at hkj;rcases hlj:l[j]? with _|y
  ·rw[hlj] at hkj;cases hkj
  ·rw[hlj] at hkj
   simp only[Option.map_some,Option.some.injEq,Prod.mk.injEq] at hkj;have hy:=hk y (List.mem_of_getElem? hlj);have e0:=keyOf_string_mk (P:=Tryz.prog) (k:=9) Tryz.underlying9 hy;have e1:rdP es.toList[j].val=some (.nil,[]):=rfl;have e:=rd_mk (born:=es.toList[j].born) e0 e1;rw[<-hkj.1] at e;exact⟨y.1,hkj.1,hy,rg_of e,_,e⟩
 refine⟨.map ((es.toList.map (rg Tryz.prog 9 rdP)).foldr DataW.insert []),⟨es,clock,h1,⟨by rw[hlen];unfold maxLen;omega,h2,fun x hx=>(hr x hx).choose_spec.2.2.2⟩,by omega,rfl⟩,?_,?_⟩
 ·have hp:=(sorted_perm (es.toList.map (rg Tryz.prog 9 rdP))).map fun p=>strOf p.1
  refine hp.trans (List.Perm.of_eq ?_);refine List.ext_getElem? fun j=>?_
  rw[List.getElem?_map,List.getElem?_map,List.getElem?_map];have hkj:=keys_at h3 j;rcases hej:es.toList[j]? with _|x
  ·rw[hej] at hkj
   rcases hlj:l[j]? with _|y
   ·rfl
   ·rw[hlj] at hkj;cases hkj
  ·obtain⟨s,e1,-,e2,-⟩:=hr x (List.mem_of_getElem? hej)
   rw[hej] at hkj;rcases hlj:l[j]? with _|y
   ·rw[hlj] at hkj;cases hkj
   ·rw[hlj] at hkj
    simp only[Option.map_some,Option.some.injEq,Prod.mk.injEq] at hkj;rw[e1] at hkj;have e3:s=y.1:=by injection hkj.1
    simp only[Option.map_some,e2];rw[e3];rfl
 ·rw[size_eq,(sorted_perm _).length_eq,List.length_map,Array.length_toList,hlen]
def srt (l:List (ByteArray×Nat)):List ByteArray:=((l.map fun x=>x.1.data.toList).mergeSort fun x y=>decide (x<=y)).map fun b=>⟨b.toArray⟩
theorem srt_len (l:List (ByteArray×Nat)):(srt l).length=l.length:=by unfold srt;rw[List.length_map,(List.mergeSort_perm _ _).length_eq,List.length_map]
theorem srt_one (s:ByteArray) (b:Nat):srt [(s,b)]=[s]:=by
 unfold srt;rw[List.map_cons,List.map_nil,List.mergeSort_singleton];rfl
set_option maxHeartbeats 1600000 in
theorem names_any (w:World) {g:Nat} {l:List (ByteArray×Nat)} (hm:Mp w g (vs l)) (hl:l.length<=1000) (hk:∀x∈l,x.1.size<=maxLen) :
  Calls Tryz.prog 55 #[.map (some g)] w fun e w'=>∃v,e=.returned v/\w'.ownsRow w.heap.size 9 1 v (srt l).length ((srt l).map Value.string)/\Below w.heap.size w w':=by
 obtain⟨D0,hown,hp,hz⟩:=mp_owns hm (by unfold vs;rw[List.length_map];exact hl) (by intro x hx;unfold vs at hx;obtain⟨y,hy,rfl⟩:=List.mem_map.1 hx;exact hk y hy);have hz':size D0<=1000:=by rw[hz];unfold vs;rw[List.length_map];exact hl
 have hpl:∀ss:List (List UInt8),ss.Perm (strKeys D0)->(ss.mergeSort (fun x y=>decide (x<=y))).map encStr=(srt l).map Value.string/\ss.length=(srt l).length:=by
  intro ss h;have e:(vs l).map (fun x=>x.1.data.toList)=l.map fun x=>x.1.data.toList:=by unfold vs;rw[List.map_map];rfl
  have h2:=(h.trans hp).trans (List.Perm.of_eq e);refine⟨?_,by rw[srt_len,h2.length_eq,List.length_map]⟩;rw[mergeSort_of_perm h2];unfold srt;rw[List.map_map];rfl
 refine(callsIn_wide (n:=6)).1 ?_;have hfK:Fence.wide.fn 95:=trivial;have hfS:Fence.wide.fn 94:=trivial;refine callsIn_of_wp Tryz.func55 rfl trivial ?_ rfl;simp only[Tryz.ntmps55,Tryz.f55]
 gi_wp2_with (first
  |(gi_at_call 95;refine(Tryz.maps_Keys_95 _ _).mono ?_;rintro e w' ⟨rfl,rfl⟩)
  |(gi_at_call 94;refine(Tryz.slices_Sorted_keys_94_95 g 1000 D0 rdP w hown (by unfold maxLen;omega) (by omega)).mono ?_;rintro e w' ⟨v,ss,rfl,hS,hrow,hnil,hb⟩))
 go_ret
 rw[(hpl ss hS).1,(hpl ss hS).2] at hrow;exact⟨v,rfl,own_lower hrow (by simp),(ext_alloc w _).trans (hb.mono (by simp))⟩
end Dk
end Go.Proofs.YtphfmgapiimliaaGreat
