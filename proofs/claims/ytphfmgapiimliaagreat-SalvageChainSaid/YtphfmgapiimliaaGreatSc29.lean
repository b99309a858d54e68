/- The law of SalvageChains: of any entries; the probe as a hypothesis. slices.Sorted of maps.Keys: the shelf's contracts at this dump (written by the kit's lay-iter.mjs, lay-plain.mjs). disk: names of a directory, in order. disk: Rename, Remove, List. -/
import Derived.Test.YtphfmgapiimliaaGreatSc27
import Derived.Test.YtphfmgapiimliaaGreatSc28
import Derived.Shelf.SlIter.Nil
import Derived.Shelf.SortM.Plain
import Derived.Shelf.SortM.SortNone
import Derived.Ground.GgzProg
import Derived.Ground.SlgmProg
import Derived.Test.YtphfmgapiimliaaGreatRows
import Derived.Test.YtphfmgapiimliaaGreatSc08
import Derived.StringKeys
import Derived.CallsIn
import Derived.Test.YtphfmgapiimliaaGreatSc19
import Derived.Test.YtphfmgapiimliaaGreatSc13
namespace Go.Proofs.YtphfmgapiimliaaGreat
namespace Op
open Go.RowKit Hd Rd Vi Dk
set_option maxHeartbeats 3200000 in
set_option maxRecDepth 100000 in
theorem schains_x (HAW:Hid (∀w,Calls Tryz.prog 14 #[] w fun e w'=>e=.returned (.bool true)/\Below w.heap.size w w'))
  (s:Sl) (l:List En) (w:World) (hrd:Rd w w.heap.size 9 s.A s.n (flS l)) (hnc:s.n<=s.c) (hA:s.A=none->s.c=0) :
  Calls Tryz.prog 4 #[s.v] w fun e w'=>e=.returned (.bool true)/\Below w.heap.size w w':=by
 have mixed:Tryz.prog.follows .mixedOrders=true:=by kernel_rfl
 obtain⟨A,n,c⟩:=s;unfold Sl.v;dsimp only at *
 by_cases hbig:(200:Int)<(n:Int)
 ·clear hrd hnc hA
  go_enter Tryz.func4, Tryz.ntmps4
  go_wp2_with (go_at_call 14;refine(HAW.out _).mono ?_;rintro e1 w1 ⟨rfl,hb1⟩;have HB1:=Lib.hid hb1;clear hb1)
  go_ret
  exact⟨rfl,HB1.out⟩
 ·have HCH:=Lib.hid (chain_any A n c l w hrd (by omega) hnc hA)
  have HRC:=Lib.hid (fun wx (hb:Below w.heap.size w wx)=>rchain_any A n c l wx ((hrd.below hb).more hb.size) (by omega));have hle:(chE l).length<=200:=by have:=rdS_len hrd;have:=chE_len l;omega
  have HSM:=Lib.hid (show ∀(A1 A2:Option Addr) (c1 c2:Nat) wx,Rd wx wx.heap.size 9 A1 (chE l).length (flS (chE l))->Rd wx wx.heap.size 9 A2 (chE l).length (flS (chE l))->Calls Tryz.prog 15 #[.slice A1 (chE l).length c1,.slice A2 (chE l).length c2] wx fun e w'=>e=.returned (.bool true)/\Below wx.heap.size wx w' from fun A1 A2 c1 c2 wx h1 h2=>by
   have:=rsame_en A1 A2 (chE l).length (chE l).length c1 c2 (chE l) (chE l) wx h1 h2 (by omega) (by omega)
   rwa [decide_eq_true rfl] at this)
  clear hrd hnc hA hle;generalize chE l=L at *
  go_enter Tryz.func4, Tryz.ntmps4
  go_wp2_with (first
   |(go_at_call 16;refine HCH.out.mono ?_;rintro e1 w1 ⟨⟨A1,c1,rfl,ho1,-⟩,hb1⟩;have HO1:=Lib.hid (Rd.of_own ho1);have HB1:=Lib.hid hb1;clear ho1 hb1)
   |(go_at_call 17;refine(HRC.out _ HB1.out).mono ?_;rintro e2 w2 ⟨⟨A2,c2,rfl,hr2⟩,hb2⟩;have HO2:=Lib.hid hr2;have HO1:=Lib.hid ((HO1.out.below hb2).more hb2.size);have HB2:=Lib.hid (HB1.out.trans (hb2.mono HB1.out.size));clear hr2 hb2)
   |(go_at_call 15;refine(HSM.out _ _ _ _ _ HO1.out HO2.out).mono ?_;rintro e3 w3 ⟨rfl,hb3⟩;have HB3:=Lib.hid (HB2.out.trans (hb3.mono HB2.out.size));clear hb3)
   |(go_at_call 14;refine(HAW.out _).mono ?_;rintro e4 w4 ⟨rfl,hb4⟩;have HB4:=Lib.hid (HB3.out.trans (hb4.mono HB3.out.size));clear hb4))
  go_ret
  exact⟨rfl,HB4.out⟩
end Op
end Go.Proofs.YtphfmgapiimliaaGreat
namespace Go.Proofs
open Go.Shelf
def Tryz.keys95_ren:Go.Shelf.Ren:=⟨fun|7=>95|10=>143|n=>n,fun|23=>86|26=>9|3=>108|28=>145|0=>0|27=>144|33=>199|4=>4|n=>n,fun|n=>n⟩
theorem Tryz.keys95:Go.Proofs.SlLaysZ.n7 Tryz.prog Tryz.keys95_ren:={
 mixed:=by kernel_rfl
 f7:=⟨Tryz.f95.name,by decide,Tryz.func95.trans (congrArg some (by kernel_rfl))⟩
 f10:=⟨Tryz.f143.name,by decide,Tryz.func143.trans (congrArg some (by kernel_rfl))⟩
 t0:=Tryz.underlying0
 a0:=Tryz.isAgg0
 z0:=Tryz.sizeOf0
 v0:=Tryz.zeroValue0
 t4:=Tryz.underlying4
 a4:=Tryz.isAgg4
 z4:=Tryz.sizeOf4
 v4:=Tryz.zeroValue4
 t23:=Tryz.underlying86
 a23:=Tryz.isAgg86
 z23:=Tryz.sizeOf86
 v23:=Tryz.zeroValue86
 t26:=Tryz.underlying9
 a26:=Tryz.isAgg9
 z26:=Tryz.sizeOf9
 v26:=Tryz.zeroValue9
 t27:=Tryz.underlying144
 a27:=Tryz.isAgg144
 z27:=Tryz.sizeOf144
 v27:=Tryz.zeroValue144
 t28:=Tryz.underlying145
 a28:=Tryz.isAgg145
 z28:=Tryz.sizeOf145
 v28:=Tryz.zeroValue145
 t33:=Tryz.underlying199
 a33:=Tryz.isAgg199
 z33:=Tryz.sizeOf199
 v33:=Tryz.zeroValue199 }
def Tryz.sorted94_ren:Go.Shelf.Ren:=⟨fun|6=>94|8=>142|9=>133|11=>193|13=>170|12=>184|23=>215|24=>216|14=>224|15=>225|16=>226|17=>227|18=>228|19=>229|20=>230|21=>231|22=>232|25=>253|26=>248|27=>249|28=>254|29=>255|30=>256|31=>262|n=>n,fun|26=>9|28=>145|24=>56|0=>0|3=>3|37=>228|48=>215|50=>277|4=>4|40=>270|39=>269|45=>187|5=>5|9=>9|51=>298|55=>302|57=>310|58=>63|33=>199|n=>n,fun|n=>n⟩
theorem Tryz.sorted94:Go.Proofs.SlLaysZ.n6 Tryz.prog Tryz.sorted94_ren:={
 mixed:=by kernel_rfl
 f6:=⟨Tryz.f94.name,by decide,Tryz.func94.trans (congrArg some (by kernel_rfl))⟩
 f8:=⟨Tryz.f142.name,by decide,Tryz.func142.trans (congrArg some (by kernel_rfl))⟩
 f11:=⟨Tryz.f193.name,by decide,Tryz.func193.trans (congrArg some (by kernel_rfl))⟩
 t0:=Tryz.underlying0
 a0:=Tryz.isAgg0
 z0:=Tryz.sizeOf0
 v0:=Tryz.zeroValue0
 t24:=Tryz.underlying56
 a24:=Tryz.isAgg56
 z24:=Tryz.sizeOf56
 v24:=Tryz.zeroValue56
 t26:=Tryz.underlying9
 a26:=Tryz.isAgg9
 z26:=Tryz.sizeOf9
 v26:=Tryz.zeroValue9
 t28:=Tryz.underlying145
 a28:=Tryz.isAgg145
 z28:=Tryz.sizeOf145
 v28:=Tryz.zeroValue145
 i26:=by kernel_rfl }
def Tryz.sort133_ren:Go.Shelf.Ren:=⟨fun|6=>133|8=>170|9=>184|19=>215|20=>216|21=>224|22=>225|23=>226|24=>227|25=>228|26=>229|27=>230|28=>231|29=>232|36=>253|31=>248|32=>249|37=>254|38=>255|39=>256|41=>262|n=>n,fun|27=>56|29=>9|3=>3|32=>228|26=>56|0=>0|44=>215|46=>277|4=>4|36=>270|35=>269|41=>187|5=>5|9=>9|53=>298|57=>302|63=>310|64=>63|n=>n,fun|n=>n⟩
theorem Tryz.sort133:Go.Proofs.SlLaysM.n6 Tryz.prog Tryz.sort133_ren:={
 mixed:=by kernel_rfl
 f6:=⟨Tryz.f133.name,by decide,Tryz.func133.trans (congrArg some (by kernel_rfl))⟩
 f8:=Tryz.func170.trans (congrArg some (by kernel_rfl))
 f9:=⟨Tryz.f184.name,by decide,Tryz.func184.trans (congrArg some (by kernel_rfl))⟩
 f19:=Tryz.func215.trans (congrArg some (by kernel_rfl))
 f20:=Tryz.func216.trans (congrArg some (by kernel_rfl))
 f21:=⟨Tryz.f224.name,by decide,Tryz.func224.trans (congrArg some (by kernel_rfl))⟩
 f22:=⟨Tryz.f225.name,by decide,Tryz.func225.trans (congrArg some (by kernel_rfl))⟩
 f23:=⟨Tryz.f226.name,by decide,Tryz.func226.trans (congrArg some (by kernel_rfl))⟩
 f24:=⟨Tryz.f227.name,by decide,Tryz.func227.trans (congrArg some (by kernel_rfl))⟩
 f25:=⟨Tryz.f228.name,by decide,Tryz.func228.trans (congrArg some (by kernel_rfl))⟩
 f26:=⟨Tryz.f229.name,by decide,Tryz.func229.trans (congrArg some (by kernel_rfl))⟩
 f27:=⟨Tryz.f230.name,by decide,Tryz.func230.trans (congrArg some (by kernel_rfl))⟩
 f28:=⟨Tryz.f231.name,by decide,Tryz.func231.trans (congrArg some (by kernel_rfl))⟩
 f29:=⟨Tryz.f232.name,by decide,Tryz.func232.trans (congrArg some (by kernel_rfl))⟩
 f31:=Tryz.func248.trans (congrArg some (by kernel_rfl))
 f32:=Tryz.func249.trans (congrArg some (by kernel_rfl))
 f36:=⟨Tryz.f253.name,by decide,Tryz.func253.trans (congrArg some (by kernel_rfl))⟩
 f37:=⟨Tryz.f254.name,by decide,Tryz.func254.trans (congrArg some (by kernel_rfl))⟩
 f38:=⟨Tryz.f255.name,by decide,Tryz.func255.trans (congrArg some (by kernel_rfl))⟩
 f39:=⟨Tryz.f256.name,by decide,Tryz.func256.trans (congrArg some (by kernel_rfl))⟩
 f41:=⟨Tryz.f262.name,by decide,Tryz.func262.trans (congrArg some (by kernel_rfl))⟩
 t0:=Tryz.underlying0
 a0:=Tryz.isAgg0
 z0:=Tryz.sizeOf0
 v0:=Tryz.zeroValue0
 t3:=Tryz.underlying3
 a3:=Tryz.isAgg3
 z3:=Tryz.sizeOf3
 v3:=Tryz.zeroValue3
 t4:=Tryz.underlying4
 a4:=Tryz.isAgg4
 z4:=Tryz.sizeOf4
 v4:=Tryz.zeroValue4
 t5:=Tryz.underlying5
 a5:=Tryz.isAgg5
 z5:=Tryz.sizeOf5
 v5:=Tryz.zeroValue5
 t9:=Tryz.underlying9
 a9:=Tryz.isAgg9
 z9:=Tryz.sizeOf9
 v9:=Tryz.zeroValue9
 t26:=Tryz.underlying56
 a26:=Tryz.isAgg56
 z26:=Tryz.sizeOf56
 v26:=Tryz.zeroValue56
 t27:=Tryz.underlying56
 a27:=Tryz.isAgg56
 z27:=Tryz.sizeOf56
 v27:=Tryz.zeroValue56
 t29:=Tryz.underlying9
 a29:=Tryz.isAgg9
 z29:=Tryz.sizeOf9
 v29:=Tryz.zeroValue9
 t32:=Tryz.underlying228
 a32:=Tryz.isAgg228
 z32:=Tryz.sizeOf228
 v32:=Tryz.zeroValue228
 t35:=Tryz.underlying269
 a35:=Tryz.isAgg269
 z35:=Tryz.sizeOf269
 v35:=Tryz.zeroValue269
 t36:=Tryz.underlying270
 a36:=Tryz.isAgg270
 z36:=Tryz.sizeOf270
 v36:=Tryz.zeroValue270
 t41:=Tryz.underlying187
 a41:=Tryz.isAgg187
 z41:=Tryz.sizeOf187
 v41:=Tryz.zeroValue187
 t44:=Tryz.underlying215
 a44:=Tryz.isAgg215
 z44:=Tryz.sizeOf215
 v44:=Tryz.zeroValue215
 t46:=Tryz.underlying277
 a46:=Tryz.isAgg277
 z46:=Tryz.sizeOf277
 v46:=Tryz.zeroValue277
 t53:=Tryz.underlying298
 a53:=Tryz.isAgg298
 z53:=Tryz.sizeOf298
 v53:=Tryz.zeroValue298
 t57:=Tryz.underlying302
 a57:=Tryz.isAgg302
 z57:=Tryz.sizeOf302
 v57:=Tryz.zeroValue302
 t63:=Tryz.underlying310
 a63:=Tryz.isAgg310
 z63:=Tryz.sizeOf310
 v63:=Tryz.zeroValue310
 t64:=Tryz.underlying63
 a64:=Tryz.isAgg63
 z64:=Tryz.sizeOf63
 v64:=Tryz.zeroValue63 }
open Go.RowKit Go.Maps Go.Sort Go.Shelf in
theorem Tryz.sorts94 (m:Nat):AnyZ.SortsIn Tryz.prog Tryz.sorted94_ren Fence.wide m :=
 ⟨fun blk off cap ss W hH hblk hsz=>callsIn_wide.2 (AnyM.slices_Sort_string Tryz.sort133 blk off cap ss W hH hblk hsz),
  fun p cap W=>callsIn_wide.2 (AnyM.slices_Sort_string_none Tryz.sort133 p cap W)⟩
open Go.RowKit Go.Maps Go.Sort Go.Shelf in
theorem Tryz.maps_Keys_95 (mb:Option Nat) (W:World):CallsIn Fence.wide 5 Tryz.prog 95 #[.map mb] W fun e w'=>e=.returned (.func (.func 143) #[] #[.pointer (some ⟨W.heap.size,0,none⟩)])/\w'=W.alloc (.cells #[.map mb] 86) :=
 AnyZ.keys_in Tryz.keys95 Fence.wide 5 trivial rfl mb W
set_option maxHeartbeats 1000000 in
open Go.RowKit Go.Maps Go.Sort Go.Shelf in
theorem Tryz.slices_Sorted_keys_94_95 {H:Type} (b nn:Nat) (D0:DataW H) (R:Value->Option (DataW H×List MemPlace)) (w:World) (hown:w.ownsMap Tryz.prog 9 R b nn D0) (hmax:Maps.size D0<=maxLen) (hbytes:Maps.size D0*16<=140737488355328) :
  CallsIn Fence.wide 5 Tryz.prog 94 #[.func (.func 143) #[] #[.pointer (some ⟨w.heap.size,0,none⟩)]] (w.alloc (.cells #[.map (some b)] 86)) fun e w'=>∃(v:Value) (ss:List (List UInt8)),e=.returned v/\ss.Perm (strKeys D0) /\
   w'.ownsRow (w.alloc (.cells #[.map (some b)] 86)).heap.size 9 1 v ss.length ((ss.mergeSort (fun x y=>decide (x<=y))).map encStr)/\(v=.slice none 0 0↔ss=[])/\Below (w.alloc (.cells #[.map (some b)] 86)).heap.size (w.alloc (.cells #[.map (some b)] 86)) w':=by
 have hbl:=hown.lt;have hseq:SeqGives Fence.wide 2 Tryz.prog 143 #[.pointer (some ⟨w.heap.size,0,none⟩)] encStr (fun ss=>ss.Perm (strKeys D0)) (Maps.size D0) (w.alloc (.cells #[.map (some b)] 86)) :=
  AnyZ.keys_gives (ρ:=Tryz.keys95_ren) { Tryz.keys95 with } Fence.wide _ trivial rfl (by omega) w.heap.size b nn D0 _ (by simp) (by simp) (by
   obtain⟨es,clock,hb,Ft,hs,hD⟩:=hown;exact⟨es,clock,(Below.heap_alloc _ _ b hbl).trans hb,Ft,hs,hD⟩)
 exact AnyZ.sorted_in Tryz.sorted94 Fence.wide 5 trivial trivial trivial trivial rfl (by omega) (Tryz.sorts94 _) (enters_of Tryz.func133 (by kernel_rfl) rfl) 143 #[.pointer (some ⟨w.heap.size,0,none⟩)] trivial (enters_of Tryz.func143 (by kernel_rfl) rfl) _ _ hmax hbytes _ hseq
set_option maxHeartbeats 1000000 in
open Go.RowKit Go.Maps Go.Sort Go.Shelf in
theorem Tryz.slices_Sorted_keys_nil_94_95 (w:World) :
  CallsIn Fence.wide 5 Tryz.prog 94 #[.func (.func 143) #[] #[.pointer (some ⟨w.heap.size,0,none⟩)]] (w.alloc (.cells #[.map none] 86)) fun e w'=>∃(v:Value) (ss:List (List UInt8)),e=.returned v/\ss=[] /\
   w'.ownsRow (w.alloc (.cells #[.map none] 86)).heap.size 9 1 v ss.length ((ss.mergeSort (fun x y=>decide (x<=y))).map encStr)/\(v=.slice none 0 0↔ss=[])/\Below (w.alloc (.cells #[.map none] 86)).heap.size (w.alloc (.cells #[.map none] 86)) w':=by
 have hseq:SeqGives Fence.wide 2 Tryz.prog 143 #[.pointer (some ⟨w.heap.size,0,none⟩)] encStr (fun ss:List (List UInt8)=>ss=[]) 0 (w.alloc (.cells #[.map none] 86)) :=
  AnyZ.keys_gives_nil (ρ:=Tryz.keys95_ren) { Tryz.keys95 with } Fence.wide _ trivial rfl w.heap.size _ (by simp) (by simp)
 exact AnyZ.sorted_in Tryz.sorted94 Fence.wide 5 trivial trivial trivial trivial rfl (by omega) (Tryz.sorts94 _) (enters_of Tryz.func133 (by kernel_rfl) rfl) 143 #[.pointer (some ⟨w.heap.size,0,none⟩)] trivial (enters_of Tryz.func143 (by kernel_rfl) rfl) _ 0 (Nat.zero_le _) (by omega) _ hseq
end Go.Proofs
namespace Go.Proofs.YtphfmgapiimliaaGreat
namespace Dk
open Go.RowKit Go.Maps Go.ChangeMaps Go.MapKept Go.WideMaps Go.WideShapes
open Go.WideElems (rg rd_mk rg_of)
def rdP (_:Value):Option (DataW Unit×List MemPlace):=some (.nil,[])
set_option maxRecDepth 100000 in
theorem mp_owns {w:World} {g:Nat} {l:List (ByteArray×Value)} (hm:Mp w g l) (hl:l.length<=1000) (hk:∀x∈l,x.1.size<=maxLen) :
  ∃D0:DataW Unit,w.ownsMap Tryz.prog 9 rdP g 1000 D0/\(strKeys D0).Perm (l.map fun x=>x.1.data.toList)/\size D0=l.length:=by
 obtain⟨es,clock,h1,h2,h3⟩:=hm;have hlen:es.size=l.length:=by
  have:=congrArg List.length h3;simpa using this
 have hr:∀x∈es.toList,∃s:ByteArray,x.key=.string s/\s.size<=maxLen/\rg Tryz.prog 9 rdP x=(.string s.data.toList,.nil)/\ ∃y,WideElems.rd Tryz.prog 9 rdP x=some y:=by
  intro x hx;obtain⟨j,hj,rfl⟩:=List.getElem_of_mem hx;have hkj:=keys_at h3 j;rw[List.getElem?_eq_getElem hj] at hkj;rcases hlj:l[j]? with _|y
  ·rw[hlj] at hkj;cases hkj
  ·rw[hlj] at hkj
   simp only[Option.map_some,Option.some.injEq,Prod.mk.injEq] at hkj;have hy:=hk y (List.mem_of_getElem? hlj);have e0:=keyOf_string_mk (P:=Tryz.prog) (k:=9) Tryz.underlying9 hy;have e1:rdP es.toList[j].val=some (.nil,[]):=rfl;have e:=rd_mk (born:=es.toList[j].born) e0 e1;rw[<-hkj.1] at e;exact⟨y.1,hkj.1,hy,rg_of e,_,e⟩
 refine⟨.map ((es.toList.map (rg Tryz.prog 9 rdP)).foldr DataW.insert []),⟨es,clock,h1,⟨by rw[hlen];unfold maxLen;omega,h2,fun x hx=>(hr x hx).choose_spec.2.2.2⟩,by omega,rfl⟩,?_,?_⟩
 ·have hp:=(sorted_perm (es.toList.map (rg Tryz.prog 9 rdP))).map fun p=>strOf p.1
  refine hp.trans (List.Perm.of_eq ?_);refine List.ext_getElem? fun j=>?_
  rw[List.getElem?_map,List.getElem?_map,List.getElem?_map];have hkj:=keys_at h3 j;rcases hej:es.toList[j]? with _|x
  ·rw[hej] at hkj
   rcases hlj:l[j]? with _|y
   ·rfl
   ·rw[hlj] at hkj;cases hkj
  ·obtain⟨s,e1,-,e2,-⟩:=hr x (List.mem_of_getElem? hej)
   rw[hej] at hkj;rcases hlj:l[j]? with _|y
   ·rw[hlj] at hkj;cases hkj
   ·rw[hlj] at hkj
    simp only[Option.map_some,Option.some.injEq,Prod.mk.injEq] at hkj;rw[e1] at hkj;have e3:s=y.1:=by injection hkj.1
    simp only[Option.map_some,e2];rw[e3];rfl
 ·rw[size_eq,(sorted_perm _).length_eq,List.length_map,Array.length_toList,hlen]
def srt (l:List (ByteArray×Nat)):List ByteArray:=((l.map fun x=>x.1.data.toList).mergeSort fun x y=>decide (x<=y)).map fun b=>⟨b.toArray⟩
theorem srt_len (l:List (ByteArray×Nat)):(srt l).length=l.length:=by unfold srt;rw[List.length_map,(List.mergeSort_perm _ _).length_eq,List.length_map]
theorem srt_one (s:ByteArray) (b:Nat):srt [(s,b)]=[s]:=by
 unfold srt;rw[List.map_cons,List.map_nil,List.mergeSort_singleton];rfl
set_option maxHeartbeats 1600000 in
theorem names_any (w:World) {g:Nat} {l:List (ByteArray×Nat)} (hm:Mp w g (vs l)) (hl:l.length<=1000) (hk:∀x∈l,x.1.size<=maxLen) :
  Calls Tryz.prog 55 #[.map (some g)] w fun e w'=>∃v,e=.returned v/\w'.ownsRow w.heap.size 9 1 v (srt l).length ((srt l).map Value.string)/\Below w.heap.size w w':=by
 obtain⟨D0,hown,hp,hz⟩:=mp_owns hm (by unfold vs;rw[List.length_map];exact hl) (by intro x hx;unfold vs at hx;obtain⟨y,hy,rfl⟩:=List.mem_map.1 hx;exact hk y hy);have hz':size D0<=1000:=by rw[hz];unfold vs;rw[List.length_map];exact hl
 have hpl:∀ss:List (List UInt8),ss.Perm (strKeys D0)->(ss.mergeSort (fun x y=>decide (x<=y))).map encStr=(srt l).map Value.string/\ss.length=(srt l).length:=by
  intro ss h;have e:(vs l).map (fun x=>x.1.data.toList)=l.map fun x=>x.1.data.toList:=by unfold vs;rw[List.map_map];rfl
  have h2:=(h.trans hp).trans (List.Perm.of_eq e);refine⟨?_,by rw[srt_len,h2.length_eq,List.length_map]⟩;rw[mergeSort_of_perm h2];unfold srt;rw[List.map_map];rfl
 refine(callsIn_wide (n:=6)).1 ?_;have hfK:Fence.wide.fn 95:=trivial;have hfS:Fence.wide.fn 94:=trivial;refine callsIn_of_wp Tryz.func55 rfl trivial ?_ rfl;simp only[Tryz.ntmps55,Tryz.f55]
 gi_wp2_with (first
  |(gi_at_call 95;refine(Tryz.maps_Keys_95 _ _).mono ?_;rintro e w' ⟨rfl,rfl⟩)
  |(gi_at_call 94;refine(Tryz.slices_Sorted_keys_94_95 g 1000 D0 rdP w hown (by unfold maxLen;omega) (by omega)).mono ?_;rintro e w' ⟨v,ss,rfl,hS,hrow,hnil,hb⟩))
 go_ret
 rw[(hpl ss hS).1,(hpl ss hS).2] at hrow;exact⟨v,rfl,own_lower hrow (by simp),(ext_alloc w _).trans (hb.mono (by simp))⟩
end Dk
end Go.Proofs.YtphfmgapiimliaaGreat
namespace Go.Proofs.YtphfmgapiimliaaGreat
namespace Dk
open Go.RowKit Sn
section
variable {w w':World} {S:Nat->Prop} {bd gN gS:Nat} {v:Value} {D:DS}
theorem app_ren {s t:ByteArray} {b:Nat} {l:List (ByteArray×Nat)} (h0:s≠⟨#[]⟩) (hl:lk s l=some b):(app (t,s,some b) l).length<=l.length:=by
 unfold app;dsimp only;rw[if_neg h0,pt_len,dl_len,hl];have:0<l.length:=List.length_pos_of_mem (lk_mem hl);simp only[Option.isSome_some,if_true];split<;>omega
theorem app_rem {s:ByteArray} {b:Nat} {l:List (ByteArray×Nat)} (hl:lk s l=some b):(app (⟨#[]⟩,s,none) l).length<=l.length:=by
 unfold app;dsimp only;split
 ·omega
 ·rw[dl_len,hl]
  simp only[Option.isSome_some,if_true];omega
set_option maxHeartbeats 3200000 in
set_option maxRecDepth 100000 in
theorem rename_go (h:DiskAt w S bd D) {s t:ByteArray} {b:Nat} (ho:D.off=false) (h0:s≠⟨#[]⟩) (hl:lk s D.now=some b) (ht:Nm.check t.data.toList=0) (hne:s≠t) (hc:D.chg.length<=1000000) :
  Calls Tryz.prog 112 #[.pointer (some ⟨bd,0,none⟩),.string s,.string t] w fun e w'=>e=.returned (.int .i64 (opE D))/\ ∃S',DiskAt w' S' bd (opS false (chgD (t,s,some b)) D)/\Gr S w S' w':=by
 have hF:=find_any h s;unfold findP at hF;rw[ho,hl] at hF;simp only[Bool.false_eq_true,if_false] at hF;unfold ptr at hF;have HN:=Lib.hid (fun wx=>Nm.check_any t wx);rw[ht] at HN;have HC:=Lib.hid (show ∀wx,Below w.heap.size w wx->Calls Tryz.prog 71 #[.pointer (some ⟨bd,0,none⟩),.agg #[.string t,.string s,.pointer (some ⟨b,0,none⟩)]] wx fun e w'=>e=.returned (.int .i64 (opE D))/\ ∃S',DiskAt w' S' bd (opS false (chgD (t,s,some b)) D)/\Gr S w S' w' from fun wx hb=>by
  have hfw:D.fl b≠none:=by
   obtain⟨gN,gS,v,h⟩:=h;exact h.fit.wfN _ (lk_mem hl)
  have hfew:D.now.length<=200:=by
   obtain⟨gN,gS,v,h⟩:=h;exact h.fit.now_few
  refine(changed_any (h.ext hb) (t,s,some b) (fun b' e=>by cases e;exact hfw) (Nat.le_trans (app_ren h0 hl) hfew) hc).mono ?_;rintro e w' ⟨rfl,S',h2,g2⟩;exact⟨rfl,S',h2,(Gr.of_below hb).trans g2⟩)
 have hst:(s.toList==t.toList)=false:=beqL s t (decide_eq_false hne);clear h ho hl ht hc h0
 go_enter Tryz.func112, Tryz.ntmps112
 go_wp2_with (first
  |(go_at_call 70;refine hF.mono ?_;rintro e1 w1 ⟨rfl,rfl⟩)
  |(go_at_call 163;refine(HN.out _).mono ?_;rintro e2 w2 ⟨rfl,hb2⟩;have HB2:=Lib.hid hb2;clear hb2)
  |(go_at_call 71;refine(HC.out _ HB2.out).mono ?_;rintro e5 w5 ⟨rfl,S5,hD5,hG5⟩;have HD5:=Lib.hid (And.intro hD5 hG5);clear hD5 hG5))
 go_ret
 exact⟨rfl,S5,HD5.out⟩
set_option maxHeartbeats 3200000 in
set_option maxRecDepth 100000 in
theorem remove_go (h:DiskAt w S bd D) {s:ByteArray} {b:Nat} (ho:D.off=false) (hl:lk s D.now=some b) (hc:D.chg.length<=1000000) :
  Calls Tryz.prog 45 #[.pointer (some ⟨bd,0,none⟩),.string s] w fun e w'=>e=.returned (.int .i64 (opE D))/\ ∃S',DiskAt w' S' bd (opS false (chgD (⟨#[]⟩,s,none)) D)/\Gr S w S' w':=by
 have hF:=find_any h s;unfold findP at hF;rw[ho,hl] at hF;simp only[Bool.false_eq_true,if_false] at hF;unfold ptr at hF;have HC:=Lib.hid (show Calls Tryz.prog 71 #[.pointer (some ⟨bd,0,none⟩),.agg #[.string ⟨#[]⟩,.string s,.pointer none]] w fun e w'=>e=.returned (.int .i64 (opE D))/\ ∃S',DiskAt w' S' bd (opS false (chgD (⟨#[]⟩,s,none)) D)/\Gr S w S' w' from by
  have hfew:D.now.length<=200:=by
   obtain⟨gN,gS,v,h⟩:=h;exact h.fit.now_few
  exact changed_any h (⟨#[]⟩,s,none) (fun b' e=>by cases e) (Nat.le_trans (app_rem hl) hfew) hc)
 clear h ho hl hc
 go_enter Tryz.func45, Tryz.ntmps45
 go_wp2_with (first
  |(go_at_call 70;refine hF.mono ?_;rintro e1 w1 ⟨rfl,rfl⟩)
  |(go_at_call 71;refine HC.out.mono ?_;rintro e5 w5 ⟨rfl,S5,hD5,hG5⟩;have HD5:=Lib.hid (And.intro hD5 hG5);clear hD5 hG5))
 go_ret
 exact⟨rfl,S5,HD5.out⟩
set_option maxHeartbeats 1600000 in
theorem list_any (h:DiskAt w S bd D) (ho:D.off=false) (hk:∀x∈D.now,x.1.size<=maxLen) :
  Calls Tryz.prog 22 #[.pointer (some ⟨bd,0,none⟩)] w fun e w'=>∃v,e=.returned v/\w'.ownsRow w.heap.size 9 1 v (srt D.now).length ((srt D.now).map Value.string)/\Below w.heap.size w w':=by
 have HU:=Lib.hid (up_any h);have hup:upE D=0:=by unfold upE;rw[ho];rfl
 rw[hup] at HU;obtain⟨gN,gS,v,h⟩:=h;have c0:=h.c0;have HN:=Lib.hid (names_any w h.now (by have:=h.fit.now_few;omega) hk);clear h ho hup hk
 go_enter Tryz.func22, Tryz.ntmps22
 go_wp2_with (first
  |(go_at_call 54;refine HU.out.mono ?_;rintro e1 w1 ⟨rfl,rfl⟩)
  |(go_at_call 55;refine HN.out.mono ?_;rintro e2 w2 ⟨v2,rfl,hown2,hb2⟩;have HO2:=Lib.hid hown2;have HB2:=Lib.hid hb2;clear hown2 hb2))
 go_ret
 exact⟨v2,rfl,HO2.out,HB2.out⟩
end
end Dk
end Go.Proofs.YtphfmgapiimliaaGreat
