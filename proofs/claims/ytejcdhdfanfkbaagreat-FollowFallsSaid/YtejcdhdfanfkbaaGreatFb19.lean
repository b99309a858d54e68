/- slices.Sorted of maps.Keys: the shelf's contracts at this dump (written by the kit's lay-iter.mjs, lay-plain.mjs). disk: names of a directory, in order. record.Row. strings.Builder: numbers' bytes. head.numbers. -/
import Derived.Shelf.SlIter.Nil
import Derived.Shelf.SortM.Plain
import Derived.Shelf.SortM.SortNone
import Derived.Ground.GgzProg
import Derived.Ground.SlgmProg
import Derived.Test.YtejcdhdfanfkbaaGreatRows
import Derived.Test.YtejcdhdfanfkbaaGreatFb09
import Derived.StringKeys
import Derived.CallsIn
import Derived.Test.YtejcdhdfanfkbaaGreatFb05
import Derived.Deep.LoopGhost
namespace Go.Proofs
open Go.Shelf
def Tryz.keys115_ren:Go.Shelf.Ren:=⟨fun|7=>115|10=>159|n=>n,fun|23=>117|26=>9|3=>127|28=>206|0=>0|27=>205|33=>259|4=>4|n=>n,fun|n=>n⟩
theorem Tryz.keys115:Go.Proofs.SlLaysZ.n7 Tryz.prog Tryz.keys115_ren:={
 mixed:=by kernel_rfl
 f7:=⟨Tryz.f115.name,by decide,Tryz.func115.trans (congrArg some (by kernel_rfl))⟩
 f10:=⟨Tryz.f159.name,by decide,Tryz.func159.trans (congrArg some (by kernel_rfl))⟩
 t0:=Tryz.underlying0
 a0:=Tryz.isAgg0
 z0:=Tryz.sizeOf0
 v0:=Tryz.zeroValue0
 t4:=Tryz.underlying4
 a4:=Tryz.isAgg4
 z4:=Tryz.sizeOf4
 v4:=Tryz.zeroValue4
 t23:=Tryz.underlying117
 a23:=Tryz.isAgg117
 z23:=Tryz.sizeOf117
 v23:=Tryz.zeroValue117
 t26:=Tryz.underlying9
 a26:=Tryz.isAgg9
 z26:=Tryz.sizeOf9
 v26:=Tryz.zeroValue9
 t27:=Tryz.underlying205
 a27:=Tryz.isAgg205
 z27:=Tryz.sizeOf205
 v27:=Tryz.zeroValue205
 t28:=Tryz.underlying206
 a28:=Tryz.isAgg206
 z28:=Tryz.sizeOf206
 v28:=Tryz.zeroValue206
 t33:=Tryz.underlying259
 a33:=Tryz.isAgg259
 z33:=Tryz.sizeOf259
 v33:=Tryz.zeroValue259 }
def Tryz.sorted114_ren:Go.Shelf.Ren:=⟨fun|6=>114|8=>157|9=>158|11=>206|13=>208|12=>207|23=>261|24=>262|14=>252|15=>253|16=>254|17=>255|18=>256|19=>257|20=>258|21=>259|22=>260|25=>291|26=>292|27=>293|28=>294|29=>295|30=>296|31=>313|n=>n,fun|26=>9|28=>206|24=>48|0=>0|3=>3|37=>254|48=>190|50=>305|4=>4|40=>346|39=>345|45=>108|5=>5|9=>9|51=>374|55=>378|57=>404|58=>405|33=>259|n=>n,fun|n=>n⟩
theorem Tryz.sorted114:Go.Proofs.SlLaysZ.n6 Tryz.prog Tryz.sorted114_ren:={
 mixed:=by kernel_rfl
 f6:=⟨Tryz.f114.name,by decide,Tryz.func114.trans (congrArg some (by kernel_rfl))⟩
 f8:=⟨Tryz.f157.name,by decide,Tryz.func157.trans (congrArg some (by kernel_rfl))⟩
 f11:=⟨Tryz.f206.name,by decide,Tryz.func206.trans (congrArg some (by kernel_rfl))⟩
 t0:=Tryz.underlying0
 a0:=Tryz.isAgg0
 z0:=Tryz.sizeOf0
 v0:=Tryz.zeroValue0
 t24:=Tryz.underlying48
 a24:=Tryz.isAgg48
 z24:=Tryz.sizeOf48
 v24:=Tryz.zeroValue48
 t26:=Tryz.underlying9
 a26:=Tryz.isAgg9
 z26:=Tryz.sizeOf9
 v26:=Tryz.zeroValue9
 t28:=Tryz.underlying206
 a28:=Tryz.isAgg206
 z28:=Tryz.sizeOf206
 v28:=Tryz.zeroValue206
 i26:=by kernel_rfl }
def Tryz.sort158_ren:Go.Shelf.Ren:=⟨fun|6=>158|8=>208|9=>207|19=>261|20=>262|21=>252|22=>253|23=>254|24=>255|25=>256|26=>257|27=>258|28=>259|29=>260|36=>291|31=>292|32=>293|37=>294|38=>295|39=>296|41=>313|n=>n,fun|27=>48|29=>9|3=>3|32=>254|26=>48|0=>0|44=>190|46=>305|4=>4|36=>346|35=>345|41=>108|5=>5|9=>9|53=>374|57=>378|63=>404|64=>405|n=>n,fun|n=>n⟩
theorem Tryz.sort158:Go.Proofs.SlLaysM.n6 Tryz.prog Tryz.sort158_ren:={
 mixed:=by kernel_rfl
 f6:=⟨Tryz.f158.name,by decide,Tryz.func158.trans (congrArg some (by kernel_rfl))⟩
 f8:=Tryz.func208.trans (congrArg some (by kernel_rfl))
 f9:=⟨Tryz.f207.name,by decide,Tryz.func207.trans (congrArg some (by kernel_rfl))⟩
 f19:=Tryz.func261.trans (congrArg some (by kernel_rfl))
 f20:=Tryz.func262.trans (congrArg some (by kernel_rfl))
 f21:=⟨Tryz.f252.name,by decide,Tryz.func252.trans (congrArg some (by kernel_rfl))⟩
 f22:=⟨Tryz.f253.name,by decide,Tryz.func253.trans (congrArg some (by kernel_rfl))⟩
 f23:=⟨Tryz.f254.name,by decide,Tryz.func254.trans (congrArg some (by kernel_rfl))⟩
 f24:=⟨Tryz.f255.name,by decide,Tryz.func255.trans (congrArg some (by kernel_rfl))⟩
 f25:=⟨Tryz.f256.name,by decide,Tryz.func256.trans (congrArg some (by kernel_rfl))⟩
 f26:=⟨Tryz.f257.name,by decide,Tryz.func257.trans (congrArg some (by kernel_rfl))⟩
 f27:=⟨Tryz.f258.name,by decide,Tryz.func258.trans (congrArg some (by kernel_rfl))⟩
 f28:=⟨Tryz.f259.name,by decide,Tryz.func259.trans (congrArg some (by kernel_rfl))⟩
 f29:=⟨Tryz.f260.name,by decide,Tryz.func260.trans (congrArg some (by kernel_rfl))⟩
 f31:=Tryz.func292.trans (congrArg some (by kernel_rfl))
 f32:=Tryz.func293.trans (congrArg some (by kernel_rfl))
 f36:=⟨Tryz.f291.name,by decide,Tryz.func291.trans (congrArg some (by kernel_rfl))⟩
 f37:=⟨Tryz.f294.name,by decide,Tryz.func294.trans (congrArg some (by kernel_rfl))⟩
 f38:=⟨Tryz.f295.name,by decide,Tryz.func295.trans (congrArg some (by kernel_rfl))⟩
 f39:=⟨Tryz.f296.name,by decide,Tryz.func296.trans (congrArg some (by kernel_rfl))⟩
 f41:=⟨Tryz.f313.name,by decide,Tryz.func313.trans (congrArg some (by kernel_rfl))⟩
 t0:=Tryz.underlying0
 a0:=Tryz.isAgg0
 z0:=Tryz.sizeOf0
 v0:=Tryz.zeroValue0
 t3:=Tryz.underlying3
 a3:=Tryz.isAgg3
 z3:=Tryz.sizeOf3
 v3:=Tryz.zeroValue3
 t4:=Tryz.underlying4
 a4:=Tryz.isAgg4
 z4:=Tryz.sizeOf4
 v4:=Tryz.zeroValue4
 t5:=Tryz.underlying5
 a5:=Tryz.isAgg5
 z5:=Tryz.sizeOf5
 v5:=Tryz.zeroValue5
 t9:=Tryz.underlying9
 a9:=Tryz.isAgg9
 z9:=Tryz.sizeOf9
 v9:=Tryz.zeroValue9
 t26:=Tryz.underlying48
 a26:=Tryz.isAgg48
 z26:=Tryz.sizeOf48
 v26:=Tryz.zeroValue48
 t27:=Tryz.underlying48
 a27:=Tryz.isAgg48
 z27:=Tryz.sizeOf48
 v27:=Tryz.zeroValue48
 t29:=Tryz.underlying9
 a29:=Tryz.isAgg9
 z29:=Tryz.sizeOf9
 v29:=Tryz.zeroValue9
 t32:=Tryz.underlying254
 a32:=Tryz.isAgg254
 z32:=Tryz.sizeOf254
 v32:=Tryz.zeroValue254
 t35:=Tryz.underlying345
 a35:=Tryz.isAgg345
 z35:=Tryz.sizeOf345
 v35:=Tryz.zeroValue345
 t36:=Tryz.underlying346
 a36:=Tryz.isAgg346
 z36:=Tryz.sizeOf346
 v36:=Tryz.zeroValue346
 t41:=Tryz.underlying108
 a41:=Tryz.isAgg108
 z41:=Tryz.sizeOf108
 v41:=Tryz.zeroValue108
 t44:=Tryz.underlying190
 a44:=Tryz.isAgg190
 z44:=Tryz.sizeOf190
 v44:=Tryz.zeroValue190
 t46:=Tryz.underlying305
 a46:=Tryz.isAgg305
 z46:=Tryz.sizeOf305
 v46:=Tryz.zeroValue305
 t53:=Tryz.underlying374
 a53:=Tryz.isAgg374
 z53:=Tryz.sizeOf374
 v53:=Tryz.zeroValue374
 t57:=Tryz.underlying378
 a57:=Tryz.isAgg378
 z57:=Tryz.sizeOf378
 v57:=Tryz.zeroValue378
 t63:=Tryz.underlying404
 a63:=Tryz.isAgg404
 z63:=Tryz.sizeOf404
 v63:=Tryz.zeroValue404
 t64:=Tryz.underlying405
 a64:=Tryz.isAgg405
 z64:=Tryz.sizeOf405
 v64:=Tryz.zeroValue405 }
open Go.RowKit Go.Maps Go.Sort Go.Shelf in
theorem Tryz.sorts114 (m:Nat):AnyZ.SortsIn Tryz.prog Tryz.sorted114_ren Fence.wide m :=
 ⟨fun blk off cap ss W hH hblk hsz=>callsIn_wide.2 (AnyM.slices_Sort_string Tryz.sort158 blk off cap ss W hH hblk hsz),
  fun p cap W=>callsIn_wide.2 (AnyM.slices_Sort_string_none Tryz.sort158 p cap W)⟩
open Go.RowKit Go.Maps Go.Sort Go.Shelf in
theorem Tryz.maps_Keys_115 (mb:Option Nat) (W:World):CallsIn Fence.wide 5 Tryz.prog 115 #[.map mb] W fun e w'=>e=.returned (.func (.func 159) #[] #[.pointer (some ⟨W.heap.size,0,none⟩)])/\w'=W.alloc (.cells #[.map mb] 117) :=
 AnyZ.keys_in Tryz.keys115 Fence.wide 5 trivial rfl mb W
set_option maxHeartbeats 1000000 in
open Go.RowKit Go.Maps Go.Sort Go.Shelf in
theorem Tryz.slices_Sorted_keys_114_115 {H:Type} (b nn:Nat) (D0:DataW H) (R:Value->Option (DataW H×List MemPlace)) (w:World) (hown:w.ownsMap Tryz.prog 9 R b nn D0) (hmax:Maps.size D0<=maxLen) (hbytes:Maps.size D0*16<=140737488355328) :
  CallsIn Fence.wide 5 Tryz.prog 114 #[.func (.func 159) #[] #[.pointer (some ⟨w.heap.size,0,none⟩)]] (w.alloc (.cells #[.map (some b)] 117)) fun e w'=>∃(v:Value) (ss:List (List UInt8)),e=.returned v/\ss.Perm (strKeys D0) /\
   w'.ownsRow (w.alloc (.cells #[.map (some b)] 117)).heap.size 9 1 v ss.length ((ss.mergeSort (fun x y=>decide (x<=y))).map encStr)/\(v=.slice none 0 0↔ss=[])/\Below (w.alloc (.cells #[.map (some b)] 117)).heap.size (w.alloc (.cells #[.map (some b)] 117)) w':=by
 have hbl:=hown.lt;have hseq:SeqGives Fence.wide 2 Tryz.prog 159 #[.pointer (some ⟨w.heap.size,0,none⟩)] encStr (fun ss=>ss.Perm (strKeys D0)) (Maps.size D0) (w.alloc (.cells #[.map (some b)] 117)) :=
  AnyZ.keys_gives (ρ:=Tryz.keys115_ren) { Tryz.keys115 with } Fence.wide _ trivial rfl (by omega) w.heap.size b nn D0 _ (by simp) (by simp) (by
   obtain⟨es,clock,hb,Ft,hs,hD⟩:=hown;exact⟨es,clock,(Below.heap_alloc _ _ b hbl).trans hb,Ft,hs,hD⟩)
 exact AnyZ.sorted_in Tryz.sorted114 Fence.wide 5 trivial trivial trivial trivial rfl (by omega) (Tryz.sorts114 _) (enters_of Tryz.func158 (by kernel_rfl) rfl) 159 #[.pointer (some ⟨w.heap.size,0,none⟩)] trivial (enters_of Tryz.func159 (by kernel_rfl) rfl) _ _ hmax hbytes _ hseq
set_option maxHeartbeats 1000000 in
open Go.RowKit Go.Maps Go.Sort Go.Shelf in
theorem Tryz.slices_Sorted_keys_nil_114_115 (w:World) :
  CallsIn Fence.wide 5 Tryz.prog 114 #[.func (.func 159) #[] #[.pointer (some ⟨w.heap.size,0,none⟩)]] (w.alloc (.cells #[.map none] 117)) fun e w'=>∃(v:Value) (ss:List (List UInt8)),e=.returned v/\ss=[] /\
   w'.ownsRow (w.alloc (.cells #[.map none] 117)).heap.size 9 1 v ss.length ((ss.mergeSort (fun x y=>decide (x<=y))).map encStr)/\(v=.slice none 0 0↔ss=[])/\Below (w.alloc (.cells #[.map none] 117)).heap.size (w.alloc (.cells #[.map none] 117)) w':=by
 have hseq:SeqGives Fence.wide 2 Tryz.prog 159 #[.pointer (some ⟨w.heap.size,0,none⟩)] encStr (fun ss:List (List UInt8)=>ss=[]) 0 (w.alloc (.cells #[.map none] 117)) :=
  AnyZ.keys_gives_nil (ρ:=Tryz.keys115_ren) { Tryz.keys115 with } Fence.wide _ trivial rfl w.heap.size _ (by simp) (by simp)
 exact AnyZ.sorted_in Tryz.sorted114 Fence.wide 5 trivial trivial trivial trivial rfl (by omega) (Tryz.sorts114 _) (enters_of Tryz.func158 (by kernel_rfl) rfl) 159 #[.pointer (some ⟨w.heap.size,0,none⟩)] trivial (enters_of Tryz.func159 (by kernel_rfl) rfl) _ 0 (Nat.zero_le _) (by omega) _ hseq
end Go.Proofs
namespace Go.Proofs.YtejcdhdfanfkbaaGreat
namespace Dk
open Go.RowKit Go.Maps Go.ChangeMaps Go.MapKept Go.WideMaps Go.WideShapes
open Go.WideElems (rg rd_mk rg_of)
def rdP (_:Value):Option (DataW Unit×List MemPlace):=some (.nil,[])
set_option maxRecDepth 100000 in
theorem mp_owns {w:World} {g:Nat} {l:List (ByteArray×Value)} (hm:Mp w g l) (hl:l.length<=1000) (hk:∀x∈l,x.1.size<=maxLen) :
  ∃D0:DataW Unit,w.ownsMap Tryz.prog 9 rdP g 1000 D0/\(strKeys D0).Perm (l.map fun x=>x.1.data.toList)/\size D0=l.length:=by
 obtain⟨es,clock,h1,h2,h3⟩:=hm;have hlen:es.size=l.length:=by
  have:=congrArg List.length h3;simpa using this
 have hr:∀x∈es.toList,∃s:ByteArray,x.key=.string s/\s.size<=maxLen/\rg Tryz.prog 9 rdP x=(.string s.data.toList,.nil)/\ ∃y,WideElems.rd Tryz.prog 9 rdP x=some y:=by
  intro x hx;obtain⟨j,hj,rfl⟩:=List.getElem_of_mem hx;have hkj:=keys_at h3 j;rw[List.getElem?_eq_getElem hj] at hkj;rcases hlj:l[j]? with _|y
  ·rw[hlj] at hkj;cases hkj
  ·rw[hlj] at hkj
   simp only[Option.map_some,Option.some.injEq,Prod.mk.injEq] at hkj;have hy:=hk y (List.mem_of_getElem? hlj);have e0:=keyOf_string_mk (P:=Tryz.prog) (k:=9) Tryz.underlying9 hy;have e1:rdP es.toList[j].val=some (.nil,[]):=rfl;have e:=rd_mk (born:=es.toList[j].born) e0 e1;rw[<-hkj.1] at e;exact⟨y.1,hkj.1,hy,rg_of e,_,e⟩
 refine⟨.map ((es.toList.map (rg Tryz.prog 9 rdP)).foldr DataW.insert []),⟨es,clock,h1,⟨by rw[hlen];unfold maxLen;omega,h2,fun x hx=>(hr x hx).choose_spec.2.2.2⟩,by omega,rfl⟩,?_,?_⟩
 ·have hp:=(sorted_perm (es.toList.map (rg Tryz.prog 9 rdP))).map fun p=>strOf p.1
  refine hp.trans (List.Perm.of_eq ?_);refine List.ext_getElem? fun j=>?_
  rw[List.getElem?_map,List.getElem?_map,List.getElem?_map];have hkj:=keys_at h3 j;rcases hej:es.toList[j]? with _|x
  ·rw[hej] at hkj
   rcases hlj:l[j]? with _|y
   ·rfl
   ·rw[hlj] at hkj;cases hkj
  ·obtain⟨s,e1,-,e2,-⟩:=hr x (List.mem_of_getElem? hej)
   rw[hej] at hkj;rcases hlj:l[j]? with _|y
   ·rw[hlj] at hkj;cases hkj
   ·rw[hlj] at hkj
    simp only[Option.map_some,Option.some.injEq,Prod.mk.injEq] at hkj;rw[e1] at hkj;have e3:s=y.1:=by injection hkj.1
    simp only[Option.map_some,e2];rw[e3];rfl
 ·rw[size_eq,(sorted_perm _).length_eq,List.length_map,Array.length_toList,hlen]
def srt (l:List (ByteArray×Nat)):List ByteArray:=((l.map fun x=>x.1.data.toList).mergeSort fun x y=>decide (x<=y)).map fun b=>⟨b.toArray⟩
theorem srt_len (l:List (ByteArray×Nat)):(srt l).length=l.length:=by unfold srt;rw[List.length_map,(List.mergeSort_perm _ _).length_eq,List.length_map]
theorem srt_one (s:ByteArray) (b:Nat):srt [(s,b)]=[s]:=by
 unfold srt;rw[List.map_cons,List.map_nil,List.mergeSort_singleton];rfl
set_option maxHeartbeats 1600000 in
theorem names_any (w:World) {g:Nat} {l:List (ByteArray×Nat)} (hm:Mp w g (vs l)) (hl:l.length<=1000) (hk:∀x∈l,x.1.size<=maxLen) :
  Calls Tryz.prog 64 #[.map (some g)] w fun e w'=>∃v,e=.returned v/\w'.ownsRow w.heap.size 9 1 v (srt l).length ((srt l).map Value.string)/\Below w.heap.size w w':=by
 obtain⟨D0,hown,hp,hz⟩:=mp_owns hm (by unfold vs;rw[List.length_map];exact hl) (by intro x hx;unfold vs at hx;obtain⟨y,hy,rfl⟩:=List.mem_map.1 hx;exact hk y hy);have hz':size D0<=1000:=by rw[hz];unfold vs;rw[List.length_map];exact hl
 have hpl:∀ss:List (List UInt8),ss.Perm (strKeys D0)->(ss.mergeSort (fun x y=>decide (x<=y))).map encStr=(srt l).map Value.string/\ss.length=(srt l).length:=by
  intro ss h;have e:(vs l).map (fun x=>x.1.data.toList)=l.map fun x=>x.1.data.toList:=by unfold vs;rw[List.map_map];rfl
  have h2:=(h.trans hp).trans (List.Perm.of_eq e);refine⟨?_,by rw[srt_len,h2.length_eq,List.length_map]⟩;rw[mergeSort_of_perm h2];unfold srt;rw[List.map_map];rfl
 refine(callsIn_wide (n:=6)).1 ?_;have hfK:Fence.wide.fn 115:=trivial;have hfS:Fence.wide.fn 114:=trivial;refine callsIn_of_wp Tryz.func64 rfl trivial ?_ rfl;simp only[Tryz.ntmps64,Tryz.f64]
 gi_wp2_with (first
  |(gi_at_call 115;refine(Tryz.maps_Keys_115 _ _).mono ?_;rintro e w' ⟨rfl,rfl⟩)
  |(gi_at_call 114;refine(Tryz.slices_Sorted_keys_114_115 g 1000 D0 rdP w hown (by unfold maxLen;omega) (by omega)).mono ?_;rintro e w' ⟨v,ss,rfl,hS,hrow,hnil,hb⟩))
 go_ret
 rw[(hpl ss hS).1,(hpl ss hS).2] at hrow;exact⟨v,rfl,own_lower hrow (by simp),(ext_alloc w _).trans (hb.mono (by simp))⟩
end Dk
end Go.Proofs.YtejcdhdfanfkbaaGreat
namespace Go.Proofs.YtejcdhdfanfkbaaGreat
namespace Rd
open Go.RowKit
set_option maxHeartbeats 6400000 in
set_option maxRecDepth 100000 in
theorem row_any (A:Option Addr) (n c:Nat) (l:List (Int×Int×ByteArray)) (w:World) (hrd:Rd w w.heap.size 3 A n (fl3 l)) (hn:n<=1099511627776) :
  Calls Tryz.prog 136 #[.slice A n c] w fun e w'=>e=.returned (.int .i64 (rowE none l))/\Below w.heap.size w w':=by
 have mixed:Tryz.prog.follows .mixedOrders=true:=by kernel_rfl
 have hln:=rd3_len hrd;have HC:=Lib.hid (fun q t d w=>check_any q t d w);have HR:=Lib.hid hrd;clear hrd
 go_enter Tryz.func136, Tryz.ntmps136
 go_wp2_with fail
 go_loopw [8] (fun v wr=>∃k:Nat,v=.int .i64 k/\k<=n/\Hid (rowE (pv l k) (l.drop k)=rowE none l/\(∀j r,j<k->l[j]? =some r->ok1 r=true)/\Below w.heap.size w wr)) (fun v _=>n-(intOf v).toNat)
 case atStart=>exact⟨0,by go_num,by omega,rfl,fun j r h=>absurd h (by omega),Below.refl _ _⟩
 case round =>
  obtain⟨k,rfl,hk,HX⟩:=hrel;by_cases hkn:k<n
  ·obtain⟨ad,q,t,d,rfl,hbk,hx,hc0,hc1,hc2⟩:=rec3 (HR.out.below HX.out.2.2) hkn
   by_cases ho:ok1 (q,t,d)=true
   ·have hce:=cE_ok ho
    have hok:∀j r,j<k+1->l[j]? =some r->ok1 r=true:=by
     intro j r hj hr;rcases Nat.lt_or_ge j k with h|h
     ·exact HX.out.2.1 j r h hr
     ·obtain rfl:j=k:=by omega
      rw[hx] at hr;cases hr;exact ho
    have HOK:=Lib.hid hok;clear hok;rcases k with _|k
    ·have HRE:=Lib.hid ((row_on0 hx ho).symm.trans HX.out.1)
     have hz:ad.add (0*3)=ad:=by rw[Nat.zero_mul];rfl
     rw[hz] at hc0 hc1 hc2;clear hz;have HB:=Lib.hid HX.out.2.2;go_wp2_with fail
     refine(HC.out _ _ _ _).mono ?_;rintro e1 w1 ⟨rfl,hb1⟩;rw[hce];have HB1:=Lib.hid (ext_trans HB.out (ext_trans (ext_alloc wr _) hb1));clear hc0 hc1 hc2 hb1 hx HX HB HC;go_wp2_with fail
     go_quiet (fail)
     go_wp2_with fail
     exact⟨⟨1,by go_num,by omega,HRE.out,HOK.out,below_drewN HB1.out _⟩,by simp[intOf];omega⟩
    ·obtain⟨ad',q',t',d',e',hbk',hx',hc0',hc1',-⟩:=rec3 (HR.out.below HX.out.2.2) (show k<n by omega)
     obtain rfl:ad=ad':=by simpa using e'
     have hp:=HX.out.2.1 k _ (by omega) hx';rw[ok1_iff] at hp;simp only at hp;have hp1:=hp.1;have hp2:=hp.2.1;have i1:(((k+1:Nat):Int)-1)=((k:Nat):Int):=by omega
     have i2:(0:Int)<((k+1:Nat):Int):=by omega
     have i3:(k:Int)<(n:Int):=by omega
     have i4:(0:Int)<=(k:Int):=by omega
     have i5:IntKind.i64.wrap (k:Int)=(k:Int):=by rw[IntKind.wrap_i64];omega
     have i6:IntKind.i64.wrap (q'+1)=q'+1:=by rw[IntKind.wrap_i64];omega
     clear hp e';by_cases hf1:q=q'+1
     ·subst hf1
      by_cases hf2:t<t'
      ·have HRE:=Lib.hid ((row_off hx hx' ho (.inr hf2)).symm.trans HX.out.1)
       have HB:=Lib.hid HX.out.2.2;go_wp2_with fail
       refine(HC.out _ _ _ _).mono ?_;rintro e1 w1 ⟨rfl,hb1⟩;rw[hce];have hh:∀p:Addr,p.block<w.heap.size->w1.cell? p=wr.cell? p:=fun p hp=>(hb1.cell (by simp;have:=HB.out.size;omega)).trans (World.cell?_alloc_lt wr _ p (by have:=HB.out.size;omega))
       have c0:w1.cell? ⟨wr.heap.size,0,none⟩=some (.int .i64 (q'+1)):=by rw[hb1.cell (p:=⟨wr.heap.size,0,none⟩) (by simp),World.cell?_alloc_new];rfl
       have c1:w1.cell? ⟨wr.heap.size,1,none⟩=some (.int .i64 t):=by rw[hb1.cell (p:=⟨wr.heap.size,1,none⟩) (by simp),World.cell?_alloc_new];rfl
       have d0:=(hh _ (by rw[add_block];exact hbk')).trans hc0';have d1:=(hh ⟨(ad.add (k*3)).block,(ad.add (k*3)).off+1,none⟩ (by rw[add_block];exact hbk')).trans hc1';have HB1:=Lib.hid (ext_trans HB.out (ext_trans (ext_alloc wr _) hb1));clear hc0 hc1 hc2 hc0' hc1' hb1 hh hx hx' HX HB HC;go_wp2_with fail
       go_quiet (fail)
       go_wp2_with fail
       go_ret
       exact⟨ret_int HRE.out,below_drewN HB1.out _⟩
      ·have HRE:=Lib.hid ((row_on hx hx' ho (by simp only;omega)).symm.trans HX.out.1)
       have HB:=Lib.hid HX.out.2.2;go_wp2_with fail
       refine(HC.out _ _ _ _).mono ?_;rintro e1 w1 ⟨rfl,hb1⟩;rw[hce];have hh:∀p:Addr,p.block<w.heap.size->w1.cell? p=wr.cell? p:=fun p hp=>(hb1.cell (by simp;have:=HB.out.size;omega)).trans (World.cell?_alloc_lt wr _ p (by have:=HB.out.size;omega))
       have c0:w1.cell? ⟨wr.heap.size,0,none⟩=some (.int .i64 (q'+1)):=by rw[hb1.cell (p:=⟨wr.heap.size,0,none⟩) (by simp),World.cell?_alloc_new];rfl
       have c1:w1.cell? ⟨wr.heap.size,1,none⟩=some (.int .i64 t):=by rw[hb1.cell (p:=⟨wr.heap.size,1,none⟩) (by simp),World.cell?_alloc_new];rfl
       have d0:=(hh _ (by rw[add_block];exact hbk')).trans hc0';have d1:=(hh ⟨(ad.add (k*3)).block,(ad.add (k*3)).off+1,none⟩ (by rw[add_block];exact hbk')).trans hc1';have HB1:=Lib.hid (ext_trans HB.out (ext_trans (ext_alloc wr _) hb1));clear hc0 hc1 hc2 hc0' hc1' hb1 hh hx hx' HX HB HC;go_wp2_with fail
       go_quiet (fail)
       go_wp2_with fail
       exact⟨⟨k+2,by go_num,by omega,HRE.out,HOK.out,below_drewN HB1.out _⟩,by simp[intOf];omega⟩
     ·have HRE:=Lib.hid ((row_off hx hx' ho (.inl hf1)).symm.trans HX.out.1)
      have HB:=Lib.hid HX.out.2.2;go_wp2_with fail
      refine(HC.out _ _ _ _).mono ?_;rintro e1 w1 ⟨rfl,hb1⟩;rw[hce];have hh:∀p:Addr,p.block<w.heap.size->w1.cell? p=wr.cell? p:=fun p hp=>(hb1.cell (by simp;have:=HB.out.size;omega)).trans (World.cell?_alloc_lt wr _ p (by have:=HB.out.size;omega))
      have c0:w1.cell? ⟨wr.heap.size,0,none⟩=some (.int .i64 q):=by rw[hb1.cell (p:=⟨wr.heap.size,0,none⟩) (by simp),World.cell?_alloc_new];rfl
      have c1:w1.cell? ⟨wr.heap.size,1,none⟩=some (.int .i64 t):=by rw[hb1.cell (p:=⟨wr.heap.size,1,none⟩) (by simp),World.cell?_alloc_new];rfl
      have d0:=(hh _ (by rw[add_block];exact hbk')).trans hc0';have d1:=(hh ⟨(ad.add (k*3)).block,(ad.add (k*3)).off+1,none⟩ (by rw[add_block];exact hbk')).trans hc1';have HB1:=Lib.hid (ext_trans HB.out (ext_trans (ext_alloc wr _) hb1));clear hc0 hc1 hc2 hc0' hc1' hb1 hh hx hx' HX HB HC;go_wp2_with fail
      go_quiet (fail)
      go_wp2_with fail
      go_ret
      exact⟨ret_int HRE.out,below_drewN HB1.out _⟩
   ·have hce:=cE_no ho
    have HRE:=Lib.hid ((row_no hx ho).symm.trans HX.out.1);have HB:=Lib.hid HX.out.2.2;go_wp2_with fail
    refine(HC.out _ _ _ _).mono ?_;rintro e1 w1 ⟨rfl,hb1⟩;rw[hce];have HB1:=Lib.hid (ext_trans HB.out (ext_trans (ext_alloc wr _) hb1));clear hc0 hc1 hc2 hb1 hx HX HB HC;go_wp2_with fail
    go_ret
    exact⟨ret_int HRE.out,HB1.out⟩
  ·obtain rfl:k=n:=by omega
   have HRE:=Lib.hid ((row_end (l:=l) (k:=k) (by omega)).symm.trans HX.out.1);have HB:=Lib.hid HX.out.2.2;clear HX HC;go_wp2_with fail
   go_ret
   exact⟨ret_int HRE.out,HB.out⟩
end Rd
end Go.Proofs.YtejcdhdfanfkbaaGreat
namespace Go.Proofs.YtejcdhdfanfkbaaGreat
namespace Rd
open Go.RowKit Vi Bd
theorem Bb_below {w w':World} {B b:Nat} {l:List UInt8} (h:Bb w B b l) (hb:Below w.heap.size w w'):Bb w' B b l:=h.keep hb.size fun k _ hk=>hb.block k hk
theorem vtxt_list (n:Nat):(vtxt n).data.toList=putV n:=by simp[vtxt]
theorem vtxt_size (n:Nat):(vtxt n).size=(putV n).length:=by simp[vtxt,ByteArray.size]
end Rd
end Go.Proofs.YtejcdhdfanfkbaaGreat
namespace Go.Proofs.YtejcdhdfanfkbaaGreat
namespace Hd
open Go.RowKit Vi Bd Rd
def nv (l:List Nat):List Value:=l.map fun(n:Nat)=>Value.int .i64 (n:Int)
theorem flat_take (l:List Nat) (k x:Nat) (h:l[k]? =some x):(l.take (k+1)).flatMap putV=(l.take k).flatMap putV++putV x:=by
 rw[List.take_add_one,h,List.flatMap_append];simp
theorem flat_len:∀(l:List Nat),(∀x∈l,x<9223372036854775808)->(l.flatMap putV).length<=9*l.length
 | [],_=>by simp
 |x::l,h=>by
  have h1:=flat_len l (fun y hy=>h y (List.mem_cons_of_mem _ hy))
  have h2:=length_putV_le x 8 (by have:=h x (List.mem_cons_self ..);have:(128:Nat)^(8+1)=9223372036854775808:=by decide
                                  omega)
  rw[List.flatMap_cons,List.length_append,List.length_cons];omega
set_option maxHeartbeats 3200000 in
set_option maxRecDepth 100000 in
theorem numbers_any (A:Option Addr) (n c:Nat) (l:List Nat) (w:World) (hrd:Rd w w.heap.size 1 A n (nv l)) (hn:n<=100000) (hl:∀x∈l,x<9223372036854775808) :
  Calls Tryz.prog 268 #[.slice A n c] w fun e w'=>e=.returned (.tuple #[.string ⟨(l.flatMap putV).toArray⟩,.int .i64 0])/\Below w.heap.size w w':=by
 have mixed:Tryz.prog.follows .mixedOrders=true:=by kernel_rfl
 have hbb:=bb_new w;have HB:=Lib.hid (ext_alloc w (.cells #[.pointer none,.slice none 0 0] 88));have HBB:=Lib.hid hbb;clear hbb
 go_enter Tryz.func268, Tryz.ntmps268
 go_wp2_with fail
 generalize w.alloc (.cells #[.pointer none,.slice none 0 0] 88)=w4 at *
 have hln:l.length=n:=by have:=hrd.len;simpa[nv] using this
 have HL:=Lib.hid hl;have HLN:=Lib.hid hln;have HR:=Lib.hid hrd;have HSZ:=Lib.hid (flat_len l hl);clear hl hln hrd;go_loopg [11] n (fun kx s11 wr=>∃k:Nat,s11=.int .i64 (k:Int)/\k<=n/\n-k<=kx/\Hid (Bb wr w.heap.size w.heap.size ((l.take k).flatMap putV)/\Below w.heap.size w wr))
 case atStart=>exact⟨0,rfl,by omega,by omega,Lib.hid ⟨HBB.out,HB.out⟩⟩
 case round =>
  clear HBB HB;obtain⟨k,rfl,hk,hkx,H⟩:=hrel;by_cases hlt:k<n
  ·have hlk:k<l.length:=by rw[HLN.out];exact hlt
   obtain⟨ad,hA,hbk,hc⟩:=(HR.out.ext H.out.2).cells (by omega);have hx:l[k]? =some l[k]:=List.getElem?_eq_getElem hlk;have hcell:=hc k (.int .i64 ((l[k]:Nat):Int)) (by unfold nv;rw[List.getElem?_map,hx];rfl);have hxl:=HL.out l[k] (List.getElem_mem hlk);have HFT:=Lib.hid (flat_take l k l[k] hx);have HTL:=Lib.hid (show((l.take k).flatMap putV).length<=9*n by
    have:=flat_len (l.take k) (fun x hx=>HL.out x (List.mem_of_mem_take hx));rw[List.length_take] at this;omega)
   have HVL:=Lib.hid (length_putV_le l[k] 8 (by have:(128:Nat)^(8+1)=9223372036854775808:=by decide
                                                omega))
   subst hA;have hki:(k:Int)<(n:Int):=by omega
   clear hc hbk hx;generalize l[k]=x at *
   have HP:=Lib.hid (put_any x wr hxl);clear hlk;go_wp2_with fail
   refine HP.out.mono ?_;rintro e2 w2 ⟨rfl,hb2⟩;have hW:=write_any w.heap.size w.heap.size _ (vtxt x) w2 (Bb_below H.out.1 hb2) (by rw[vtxt_size];have:=HTL.out;have:=HVL.out;omega) (by have:=H.out.2.size;have:=hb2.size;omega);rw[vtxt_list,<-HFT.out] at hW;have HW:=Lib.hid hW;have HB2:=Lib.hid (H.out.2.trans (hb2.mono H.out.2.size));clear hW hb2 H;go_wp2_with fail
   refine HW.out.mono ?_;rintro e3 w3 ⟨rfl,hbb3,hb3⟩;have H3:=Lib.hid (And.intro hbb3 (HB2.out.trans hb3));clear hbb3 hb3 HW;go_wp2_with fail
   go_roundg (n-(k+1))
   case measure=>omega
   case rel=>exact⟨k+1,by go_num,by omega,by omega,H3⟩
  ·obtain rfl:k=n:=by omega
   have h9:=H.out;rw[List.take_of_length_le (by rw[HLN.out];omega)] at h9;have HS:=Lib.hid (Tryz.Builder_String_any w.heap.size w.heap.size _ wr h9.1 h9.2.size);have HB2:=Lib.hid h9.2;clear h9 H;go_wp2_with fail
   refine HS.out.mono ?_;rintro e5 w5 ⟨rfl,hb5⟩;have HB5:=Lib.hid (HB2.out.trans hb5);clear hb5;go_wp2_with fail
   go_ret2
   exact⟨rfl,HB5.out⟩
end Hd
end Go.Proofs.YtejcdhdfanfkbaaGreat
