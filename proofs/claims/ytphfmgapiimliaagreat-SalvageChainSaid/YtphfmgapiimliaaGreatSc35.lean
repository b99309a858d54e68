/- slices.Sorted of maps.Keys: the shelf's contracts at this dump (written by the kit's lay-iter.mjs, lay-plain.mjs). salvage.Entries of a disk with no file, or with one segment's. salvage.Entries, whole. -/
import Derived.Shelf.SlIterI.Nil
import Derived.Shelf.SortM.Plain
import Derived.Shelf.SortM.SortNone
import Derived.Ground.GgzProg
import Derived.Ground.SlgmProg
import Derived.Test.YtphfmgapiimliaaGreatRows
import Derived.Test.YtphfmgapiimliaaGreatSc32
import Derived.Test.YtphfmgapiimliaaGreatSc34
import Derived.Test.YtphfmgapiimliaaGreatSc25
import Derived.Maps.OwnOps
namespace Go.Proofs
open Go.Shelf
def Tryz.keysE_ren:Go.Shelf.Ren:=⟨fun|7=>77|10=>125|n=>n,fun|23=>118|26=>3|3=>48|28=>124|0=>0|27=>123|33=>127|4=>4|n=>n,fun|n=>n⟩
theorem Tryz.keysE:Go.Proofs.SlLaysZI.n7 Tryz.prog Tryz.keysE_ren:={
 mixed:=by kernel_rfl
 f7:=⟨Tryz.f77.name,by decide,Tryz.func77.trans (congrArg some (by kernel_rfl))⟩
 f10:=⟨Tryz.f125.name,by decide,Tryz.func125.trans (congrArg some (by kernel_rfl))⟩
 t0:=Tryz.underlying0
 a0:=Tryz.isAgg0
 z0:=Tryz.sizeOf0
 v0:=Tryz.zeroValue0
 t4:=Tryz.underlying4
 a4:=Tryz.isAgg4
 z4:=Tryz.sizeOf4
 v4:=Tryz.zeroValue4
 t23:=Tryz.underlying118
 a23:=Tryz.isAgg118
 z23:=Tryz.sizeOf118
 v23:=Tryz.zeroValue118
 t26:=Tryz.underlying3
 a26:=Tryz.isAgg3
 z26:=Tryz.sizeOf3
 v26:=Tryz.zeroValue3
 t27:=Tryz.underlying123
 a27:=Tryz.isAgg123
 z27:=Tryz.sizeOf123
 v27:=Tryz.zeroValue123
 t28:=Tryz.underlying124
 a28:=Tryz.isAgg124
 z28:=Tryz.sizeOf124
 v28:=Tryz.zeroValue124
 t33:=Tryz.underlying127
 a33:=Tryz.isAgg127
 z33:=Tryz.sizeOf127
 v33:=Tryz.zeroValue127 }
def Tryz.sortedE_ren:Go.Shelf.Ren:=⟨fun|6=>76|8=>123|9=>124|11=>168|13=>170|12=>169|23=>215|24=>216|14=>206|15=>207|16=>208|17=>209|18=>210|19=>211|20=>212|21=>213|22=>214|25=>247|26=>248|27=>249|28=>250|29=>251|30=>252|31=>261|n=>n,fun|26=>3|28=>124|24=>121|0=>0|3=>3|37=>228|48=>215|50=>277|4=>4|40=>270|39=>269|45=>187|5=>5|9=>9|51=>298|55=>302|57=>310|58=>63|33=>127|n=>n,fun|n=>n⟩
theorem Tryz.sortedE:Go.Proofs.SlLaysZI.n6 Tryz.prog Tryz.sortedE_ren:={
 mixed:=by kernel_rfl
 f6:=⟨Tryz.f76.name,by decide,Tryz.func76.trans (congrArg some (by kernel_rfl))⟩
 f8:=⟨Tryz.f123.name,by decide,Tryz.func123.trans (congrArg some (by kernel_rfl))⟩
 f11:=⟨Tryz.f168.name,by decide,Tryz.func168.trans (congrArg some (by kernel_rfl))⟩
 t0:=Tryz.underlying0
 a0:=Tryz.isAgg0
 z0:=Tryz.sizeOf0
 v0:=Tryz.zeroValue0
 t24:=Tryz.underlying121
 a24:=Tryz.isAgg121
 z24:=Tryz.sizeOf121
 v24:=Tryz.zeroValue121
 t26:=Tryz.underlying3
 a26:=Tryz.isAgg3
 z26:=Tryz.sizeOf3
 v26:=Tryz.zeroValue3
 t28:=Tryz.underlying124
 a28:=Tryz.isAgg124
 z28:=Tryz.sizeOf124
 v28:=Tryz.zeroValue124
 i26:=by kernel_rfl }
def Tryz.sortE_ren:Go.Shelf.Ren:=⟨fun|5=>124|8=>170|7=>169|19=>215|20=>216|10=>206|11=>207|12=>208|13=>209|14=>210|15=>211|16=>212|17=>213|18=>214|30=>247|31=>248|32=>249|33=>250|34=>251|35=>252|40=>261|n=>n,fun|23=>121|25=>3|3=>3|32=>228|22=>121|0=>0|44=>215|46=>277|4=>4|36=>270|35=>269|41=>187|5=>5|9=>9|53=>298|57=>302|63=>310|64=>63|n=>n,fun|n=>n⟩
theorem Tryz.sortE:Go.Proofs.SlLaysM.n5 Tryz.prog Tryz.sortE_ren:={
 mixed:=by kernel_rfl
 f5:=⟨Tryz.f124.name,by decide,Tryz.func124.trans (congrArg some (by kernel_rfl))⟩
 f7:=⟨Tryz.f169.name,by decide,Tryz.func169.trans (congrArg some (by kernel_rfl))⟩
 f8:=Tryz.func170.trans (congrArg some (by kernel_rfl))
 f10:=⟨Tryz.f206.name,by decide,Tryz.func206.trans (congrArg some (by kernel_rfl))⟩
 f11:=⟨Tryz.f207.name,by decide,Tryz.func207.trans (congrArg some (by kernel_rfl))⟩
 f12:=⟨Tryz.f208.name,by decide,Tryz.func208.trans (congrArg some (by kernel_rfl))⟩
 f13:=⟨Tryz.f209.name,by decide,Tryz.func209.trans (congrArg some (by kernel_rfl))⟩
 f14:=⟨Tryz.f210.name,by decide,Tryz.func210.trans (congrArg some (by kernel_rfl))⟩
 f15:=⟨Tryz.f211.name,by decide,Tryz.func211.trans (congrArg some (by kernel_rfl))⟩
 f16:=⟨Tryz.f212.name,by decide,Tryz.func212.trans (congrArg some (by kernel_rfl))⟩
 f17:=⟨Tryz.f213.name,by decide,Tryz.func213.trans (congrArg some (by kernel_rfl))⟩
 f18:=⟨Tryz.f214.name,by decide,Tryz.func214.trans (congrArg some (by kernel_rfl))⟩
 f19:=Tryz.func215.trans (congrArg some (by kernel_rfl))
 f20:=Tryz.func216.trans (congrArg some (by kernel_rfl))
 f30:=⟨Tryz.f247.name,by decide,Tryz.func247.trans (congrArg some (by kernel_rfl))⟩
 f31:=Tryz.func248.trans (congrArg some (by kernel_rfl))
 f32:=Tryz.func249.trans (congrArg some (by kernel_rfl))
 f33:=⟨Tryz.f250.name,by decide,Tryz.func250.trans (congrArg some (by kernel_rfl))⟩
 f34:=⟨Tryz.f251.name,by decide,Tryz.func251.trans (congrArg some (by kernel_rfl))⟩
 f35:=⟨Tryz.f252.name,by decide,Tryz.func252.trans (congrArg some (by kernel_rfl))⟩
 f40:=⟨Tryz.f261.name,by decide,Tryz.func261.trans (congrArg some (by kernel_rfl))⟩
 t0:=Tryz.underlying0
 a0:=Tryz.isAgg0
 z0:=Tryz.sizeOf0
 v0:=Tryz.zeroValue0
 t3:=Tryz.underlying3
 a3:=Tryz.isAgg3
 z3:=Tryz.sizeOf3
 v3:=Tryz.zeroValue3
 t4:=Tryz.underlying4
 a4:=Tryz.isAgg4
 z4:=Tryz.sizeOf4
 v4:=Tryz.zeroValue4
 t5:=Tryz.underlying5
 a5:=Tryz.isAgg5
 z5:=Tryz.sizeOf5
 v5:=Tryz.zeroValue5
 t9:=Tryz.underlying9
 a9:=Tryz.isAgg9
 z9:=Tryz.sizeOf9
 v9:=Tryz.zeroValue9
 t22:=Tryz.underlying121
 a22:=Tryz.isAgg121
 z22:=Tryz.sizeOf121
 v22:=Tryz.zeroValue121
 t23:=Tryz.underlying121
 a23:=Tryz.isAgg121
 z23:=Tryz.sizeOf121
 v23:=Tryz.zeroValue121
 t25:=Tryz.underlying3
 a25:=Tryz.isAgg3
 z25:=Tryz.sizeOf3
 v25:=Tryz.zeroValue3
 t32:=Tryz.underlying228
 a32:=Tryz.isAgg228
 z32:=Tryz.sizeOf228
 v32:=Tryz.zeroValue228
 t35:=Tryz.underlying269
 a35:=Tryz.isAgg269
 z35:=Tryz.sizeOf269
 v35:=Tryz.zeroValue269
 t36:=Tryz.underlying270
 a36:=Tryz.isAgg270
 z36:=Tryz.sizeOf270
 v36:=Tryz.zeroValue270
 t41:=Tryz.underlying187
 a41:=Tryz.isAgg187
 z41:=Tryz.sizeOf187
 v41:=Tryz.zeroValue187
 t44:=Tryz.underlying215
 a44:=Tryz.isAgg215
 z44:=Tryz.sizeOf215
 v44:=Tryz.zeroValue215
 t46:=Tryz.underlying277
 a46:=Tryz.isAgg277
 z46:=Tryz.sizeOf277
 v46:=Tryz.zeroValue277
 t53:=Tryz.underlying298
 a53:=Tryz.isAgg298
 z53:=Tryz.sizeOf298
 v53:=Tryz.zeroValue298
 t57:=Tryz.underlying302
 a57:=Tryz.isAgg302
 z57:=Tryz.sizeOf302
 v57:=Tryz.zeroValue302
 t63:=Tryz.underlying310
 a63:=Tryz.isAgg310
 z63:=Tryz.sizeOf310
 v63:=Tryz.zeroValue310
 t64:=Tryz.underlying63
 a64:=Tryz.isAgg63
 z64:=Tryz.sizeOf63
 v64:=Tryz.zeroValue63 }
open Go.RowKit Go.Maps Go.Sort Go.Shelf in
theorem Tryz.sortsE (m:Nat):AnyZI.SortsIn Tryz.prog Tryz.sortedE_ren Fence.wide m :=
 ⟨fun blk off cap ss W hH hblk hsz=>callsIn_wide.2 (AnyM.slices_Sort_int Tryz.sortE blk off cap ss W hH hblk hsz),
  fun p cap W=>callsIn_wide.2 (AnyM.slices_Sort_int_none Tryz.sortE p cap W)⟩
open Go.RowKit Go.Maps Go.Sort Go.Shelf in
theorem Tryz.keysE_any (mb:Option Nat) (W:World):Calls Tryz.prog 77 #[.map mb] W fun e w'=>e=.returned (.func (.func 125) #[] #[.pointer (some ⟨W.heap.size,0,none⟩)])/\w'=W.alloc (.cells #[.map mb] 118) :=
 (callsIn_wide (n:=5)).1 (AnyZI.keys_in Tryz.keysE Fence.wide 5 trivial rfl mb W)
open Go.RowKit Go.Maps Go.Sort Go.Shelf in
theorem Tryz.sortedE_any {H:Type} (b nn:Nat) (D0:DataW H) (R:Value->Option (DataW H×List MemPlace)) (w:World) (hown:w.ownsMap Tryz.prog 3 R b nn D0) (hmax:Maps.size D0<=maxLen) (hbytes:Maps.size D0*8<=140737488355328) :
  Calls Tryz.prog 76 #[.func (.func 125) #[] #[.pointer (some ⟨w.heap.size,0,none⟩)]] (w.alloc (.cells #[.map (some b)] 118)) fun e w'=>∃(v:Value) (ss:List Int),e=.returned v/\ss.Perm (intKeys D0) /\
   w'.ownsRow w.heap.size 3 1 v ss.length ((ss.mergeSort (fun x y=>decide (x<=y))).map encZ)/\(v=.slice none 0 0↔ss=[])/\Below w.heap.size w w':=by
 have hbl:=hown.lt;have hseq:SeqGives Fence.wide 2 Tryz.prog 125 #[.pointer (some ⟨w.heap.size,0,none⟩)] encZ (fun ss=>ss.Perm (intKeys D0)) (Maps.size D0) (w.alloc (.cells #[.map (some b)] 118)) :=
  AnyZI.keys_gives (ρ:=Tryz.keysE_ren) { Tryz.keysE with } Fence.wide _ trivial rfl (by omega) w.heap.size b nn D0 _ (by simp) (by simp) (by
   obtain⟨es,clock,hb,Ft,hs,hD⟩:=hown;exact⟨es,clock,(Below.heap_alloc _ _ b hbl).trans hb,Ft,hs,hD⟩)
 have cS:=AnyZI.sorted_in Tryz.sortedE Fence.wide 5 trivial trivial trivial trivial rfl (by omega) (Tryz.sortsE _) (enters_of Tryz.func124 (by kernel_rfl) rfl) 125 #[.pointer (some ⟨w.heap.size,0,none⟩)] trivial (enters_of Tryz.func125 (by kernel_rfl) rfl) _ _ hmax hbytes _ hseq
 change CallsIn _ _ Tryz.prog 76 _ _ _ at cS
 refine(callsIn_wide.1 cS).mono ?_;rintro e w' ⟨v,ss,rfl,hS,hrow,hnil,hb⟩;exact⟨v,ss,rfl,hS,ownsRow_base_a hrow (by simp),hnil,((Below.refl _ w).alloc (Nat.le_refl _) _).trans (hb.mono (by simp))⟩
end Go.Proofs
namespace Go.Proofs.YtphfmgapiimliaaGreat
namespace Sv
open Go.RowKit Go.Maps Hd Rd Fm Sn Nf Dk Gp
open Go.Proofs.YtphfmgapiimliaaGreat.Op Go.Proofs.YtphfmgapiimliaaGreat.Rf
def eW (x:En):DataW Unit:=.agg [.lit (.int .i64 x.i),.lit (.int .i64 x.g),.lit (.int .i64 x.f),.lit (.bool x.z),.lit (.int .i64 x.c),.lit (.int .i64 x.b),.lit (.int .i64 x.e),.lit (.int .i64 x.l),.lit (.int .i64 x.n)]
def eR (v:Value):Option (DataW Unit×List MemPlace):=match v with
 |.agg ⟨[.int .i64 a,.int .i64 b,.int .i64 c,.bool z,.int .i64 d,.int .i64 e,.int .i64 f,.int .i64 g,.int .i64 h]⟩=>some (eW ⟨a,b,c,z,d,e,f,g,h⟩,[])
 |_=>none
theorem eR_mk (x:En):eR (eagg x)=some (eW x,[]):=rfl
theorem eR_inv {v:Value} {x:En} {ps:List MemPlace} (h:eR v=some (eW x,ps)):v=eagg x:=by
 unfold eR at h;split at h
 ·simp only[Option.some.injEq,Prod.mk.injEq,eW,DataW.agg.injEq,List.cons.injEq,DataW.lit.injEq,Lit.int.injEq,Lit.bool.injEq,true_and,and_true] at h
  obtain⟨⟨h1,h2,h3,h4,h5,h6,h7,h8,h9⟩,-⟩:=h;rw[h1,h2,h3,h4,h5,h6,h7,h8,h9];rfl
 ·cases h
def e0:En:=⟨0,0,0,false,0,0,0,0,0⟩
def D1:DataW Unit:=.map [(.int .i64 1,eW e1)]
theorem put_D1:(DataW.map []).put (.int .i64 1) (eW e1)=D1:=rfl
theorem at_D1 (d:DataW Unit):D1.atKey (.int .i64 1) d=eW e1:=rfl
theorem zero_en (w:World):(zeroValue 48).run Tryz.prog w=.ok (eagg e0) w:=Tryz.zeroValue48 w
theorem wf_1:(Lit.int .i64 1).wf=true:=by decide
theorem map_below {w w':World} {b n:Nat} {D:DataW Unit} (h:w.ownsMap Tryz.prog 3 eR b n D) (hb:Below w.heap.size w w'):w'.ownsMap Tryz.prog 3 eR b n D:=by
 have hl:=h.lt;obtain⟨es,clock,h0,F,hs,hD⟩:=h;exact⟨es,clock,(hb.block b hl).trans h0,F,hs,hD⟩
set_option maxHeartbeats 6400000 in
set_option maxRecDepth 100000 in
theorem ents1 (w:World) (bm bo:Nat) (hv:Var w bo 118 (.map (some bm))) (hm:w.ownsMap Tryz.prog 3 eR bm 0 (.map [])) (hne:bm<bo) :
  Calls Tryz.prog 74 #[.agg #[.int .i64 1,.int .i64 1,.int .i64 1,.string (hdrB 1 1 1)],.pointer (some ⟨bo,0,none⟩)] w fun e w'=>e=.returned (.tuple #[])/\w'.ownsMap Tryz.prog 3 eR bm 1 D1/\Var w' bo 118 (.map (some bm))/\Below bm w w':=by
 have mixed:Tryz.prog.follows .mixedOrders=true:=by kernel_rfl
 have HFE:=Lib.hid (fun wx=>fentry_head wx);rw[show(Sh.cl e1).toArray= #[.int .i64 1,.int .i64 1,.int .i64 1,.bool false,.int .i64 0,.int .i64 0,.int .i64 0,.int .i64 0,.int .i64 0] from rfl] at HFE;generalize hdrB 1 1 1=T at *
 have HV:=Lib.hid (hv.alloc (.cells #[.int .i64 1,.int .i64 1,.int .i64 1,.string T] 116));have HM:=Lib.hid (hm.alloc (.cells #[.int .i64 1,.int .i64 1,.int .i64 1,.string T] 116));have HC:=Lib.hid (Blk.new w #[.int .i64 1,.int .i64 1,.int .i64 1,.string T] 116);have HB:=Lib.hid ((ext_alloc w (.cells #[.int .i64 1,.int .i64 1,.int .i64 1,.string T] 116)).mono (Nat.le_of_lt hm.lt));have HNE:=Lib.hid hne;clear hv hm hne
 go_enter Tryz.func74, Tryz.ntmps74
 go_upto_region 1 with fail
 generalize w.alloc (.cells #[.int .i64 1,.int .i64 1,.int .i64 1,.string T] 116)=w0 at *
 generalize w.heap.size=bf at *
 go_upto_region 2 with (first
  |(refine wpList_load_row rfl 116 (.tmp 2) rfl bf #[.int .i64 1,.int .i64 1,.int .i64 1,.string T] _ (by simp[go_sem,Act.eval]) HC.out Tryz.underlying116 rfl fo_info ?_)
  |(go_at_call 75;refine(HFE.out _).mono ?_;rintro e2 w2 ⟨rfl,hb2⟩;have HB2:=Lib.hid hb2;clear hb2))
 have hb3:=HB2.out.trans ((ext_alloc w2 (.cells #[.int .i64 1,.int .i64 1,.int .i64 1,.bool false,.int .i64 0,.int .i64 0,.int .i64 0,.int .i64 0,.int .i64 0] 48)).mono HB2.out.size);have HV3:=Lib.hid (HV.out.below hb3 HV.out.lt);have HM3:=Lib.hid (map_below HM.out hb3);have HB3:=Lib.hid (HB.out.trans (hb3.mono (Nat.le_of_lt HM.out.lt)));have HX3:=Lib.hid (Blk.new w2 #[.int .i64 1,.int .i64 1,.int .i64 1,.bool false,.int .i64 0,.int .i64 0,.int .i64 0,.int .i64 0,.int .i64 0] 48);clear hb3 HB2 HV HM HB HC;generalize w2.alloc (.cells #[.int .i64 1,.int .i64 1,.int .i64 1,.bool false,.int .i64 0,.int .i64 0,.int .i64 0,.int .i64 0,.int .i64 0] 48)=w3 at *
 generalize w2.heap.size=bx at *
 have c0:=HV3.out.cell;have x0:=HX3.out.cell 0 (v:=.int .i64 1) rfl;obtain⟨v,ps,hrun,hR⟩:=World.ownsMap.look_ok HM3.out (int_keyed Tryz.underlying3) Tryz.underlying118 (zero_en w3) (eR_mk e0) (keyOf_int_mk (a:=1) Tryz.underlying3 wf_1);rw[show(DataW.map ([]:List (Lit×DataW Unit))).atKey (.int .i64 1) (eW e0)=eW e0 from rfl] at hR;rw[show Maps.has (DataW.map ([]:List (Lit×DataW Unit))) (.int .i64 1)=false from rfl,eR_inv hR] at hrun;unfold eagg e0 at hrun;dsimp only at hrun;clear hR;go_upto_region 4 with fail
 clear hrun;have hb4:=ext_alloc w3 (.cells #[.int .i64 0,.int .i64 0,.int .i64 0,.bool false,.int .i64 0,.int .i64 0,.int .i64 0,.int .i64 0,.int .i64 0] 48);have HV4:=Lib.hid (HV3.out.below hb4 HV3.out.lt);have HM4:=Lib.hid (map_below HM3.out hb4);have HB4:=Lib.hid (HB3.out.trans (hb4.mono (Nat.le_of_lt HM3.out.lt)));have HX4:=Lib.hid (HX3.out.ext hb4);clear hb4 HV3 HM3 HB3 HX3 c0 x0;generalize w3.alloc (.cells #[.int .i64 0,.int .i64 0,.int .i64 0,.bool false,.int .i64 0,.int .i64 0,.int .i64 0,.int .i64 0,.int .i64 0] 48)=w4 at *
 have c0:=HV4.out.cell;have x0:=HX4.out.cell 0 (v:=.int .i64 1) rfl;obtain⟨w5,hrun,hm5,hg5⟩:=World.ownsMap.update HM4.out (int_keyed Tryz.underlying3) Tryz.underlying118 (by simp only[maxLen];omega) (keyOf_int_mk (a:=1) Tryz.underlying3 wf_1) (eR_mk e1);rw[put_D1] at hm5;unfold eagg e1 at hrun;dsimp only at hrun;have HF:=Lib.hid (show w5.ownsMap Tryz.prog 3 eR bm 1 D1/\Var w5 bo 118 (.map (some bm))/\Below bm w w5 from⟨hm5,HV4.out.grown hg5 (by have:=HNE.out;intro e;cases e;omega),HB4.out.grown hg5 (Nat.le_of_lt HM4.out.lt) (fun g hg=>by cases hg;exact Nat.le_refl _)⟩);clear hm5 hg5;go_wp2_with (refine wpList_load_row rfl 48 (.tmp 3) rfl bx #[.int .i64 1,.int .i64 1,.int .i64 1,.bool false,.int .i64 0,.int .i64 0,.int .i64 0,.int .i64 0,.int .i64 0] _ (by simp[go_sem,Act.eval]) HX4.out Tryz.underlying48 rfl en_info ?_)
 go_end0
 exact⟨rfl,HF.out⟩
end Sv
end Go.Proofs.YtphfmgapiimliaaGreat
namespace Go.Proofs.YtphfmgapiimliaaGreat
namespace Sv
open Go.RowKit Go.Maps Hd Rd Fm Sn Nf Dk Gp
open Go.Proofs.YtphfmgapiimliaaGreat.Op Go.Proofs.YtphfmgapiimliaaGreat.Rf
section
variable {w w':World} {S:Nat->Prop} {bd gN gS:Nat} {v:Value} {D:DS}
theorem map_start (w:World):((w.alloc (.map #[] 0)).alloc (.cells #[.map (some w.heap.size)] 118)).ownsMap Tryz.prog 3 eR w.heap.size 0 (.map [])/\Var ((w.alloc (.map #[] 0)).alloc (.cells #[.map (some w.heap.size)] 118)) (w.heap.size+1) 118 (.map (some w.heap.size)):=by
 refine⟨(World.ownsMap_made w _ _ _).alloc _,?_⟩;have:=Var.new (w.alloc (.map #[] 0)) 118 (.map (some w.heap.size))
 rwa [show(w.alloc (.map #[] 0)).heap.size=w.heap.size+1 by simp] at this
theorem own_some {w:World} {B n c K:Nat} {t:TypeId} {A:Option Addr} {l:List Value} (h:w.ownsRow B t K (.slice A (0+(n+1)) c) (0+(n+1)) l):∃g,A=some ⟨g,0,none⟩:=by
 rcases h.2 with ⟨-,hn⟩|⟨g,cap,cur,hv,-⟩
 ·omega
 ·simp only[Value.slice.injEq] at hv
  exact⟨g,hv.1⟩
set_option maxHeartbeats 6400000 in
set_option maxRecDepth 100000 in
theorem entries_none (h:DiskAt w S bd D) (ho:D.off=false) (hn:D.now=[]) :
  Calls Tryz.prog 47 #[.pointer (some ⟨bd,0,none⟩)] w fun e w'=>e=.returned (.tuple #[.slice none 0 0,.int .i64 0])/\Below w.heap.size w w':=by
 have mixed:Tryz.prog.follows .mixedOrders=true:=by kernel_rfl
 have hmk:=run_makeMap (P:=Tryz.prog) 118 w;have HB:=Lib.hid (ext_second w (.map #[] 0) (.cells #[.map (some w.heap.size)] 118));have HM:=Lib.hid (map_start w).1;have HV:=Lib.hid (map_start w).2;have HE:=Lib.hid (fun f=>each_none (h.ext HB.out) ho hn f);clear h ho hn
 go_enter Tryz.func47, Tryz.ntmps47
 go_upto_region 6 with (go_at_call 72;refine(HE.out _).mono ?_;rintro e1 w1 ⟨rfl,hb1⟩;have HB1:=Lib.hid (HB.out.trans (hb1.mono HB.out.size));have HM1:=Lib.hid (map_below HM.out hb1);have HV1:=Lib.hid (HV.out.below hb1 HV.out.lt);clear hb1)
 have c1:=HV1.out.cell;have HS:=Lib.hid (Tryz.sortedE_any w.heap.size 0 (.map []) eR w1 HM1.out (by decide) (by decide));go_wp2_with (first
  |(go_at_call 77;refine(Tryz.keysE_any _ _).mono ?_;rintro e2 w2 ⟨rfl,rfl⟩)
  |(go_at_call 76;refine HS.out.mono ?_;rintro e3 w3 ⟨v3,ss,rfl,hS,-,hnil,hb3⟩;obtain rfl:ss=[]:=List.perm_nil.1 hS;obtain rfl:=hnil.2 rfl;have HB3:=Lib.hid (HB1.out.trans (hb3.mono HB1.out.size));clear hS hnil hb3))
 go_loopw [6,20] (fun s6 s20 wr=>s6=.slice none 0 0/\s20=.int .i64 0/\wr=w3) (fun _ _ _=>0)
 case atStart=>exact⟨rfl,by go_num,rfl⟩
 case round =>
  obtain⟨rfl,rfl,rfl⟩:=hrel;go_wp2_with fail
  go_ret2
  exact⟨rfl,HB3.out⟩
set_option maxHeartbeats 6400000 in
set_option maxRecDepth 100000 in
theorem entries_one (h:DiskAt w S bd D) (h1:One1 D) :
  Calls Tryz.prog 47 #[.pointer (some ⟨bd,0,none⟩)] w fun e w'=>(∃g c,e=.returned (.tuple #[.slice (some ⟨g,0,none⟩) 1 c,.int .i64 0])/\w'.ownsRow w.heap.size 48 9 (.slice (some ⟨g,0,none⟩) 1 c) 1 (flS [e1]))/\Below w.heap.size w w':=by
 have mixed:Tryz.prog.follows .mixedOrders=true:=by kernel_rfl
 have hmk:=run_makeMap (P:=Tryz.prog) 118 w;have hb:=ext_second w (.map #[] 0) (.cells #[.map (some w.heap.size)] 118);have hm:=(map_start w).1;have hv:=(map_start w).2;have HE:=Lib.hid (each_one (Lib.hid begun_any) (h.ext hb) h1 74 #[.pointer (some ⟨w.heap.size+1,0,none⟩)] (fun w'=>w'.ownsMap Tryz.prog 3 eR w.heap.size 1 D1/\Var w' (w.heap.size+1) 118 (.map (some w.heap.size))/\Below w.heap.size w w') (enters_of Tryz.func74 (by kernel_rfl) rfl) (fun wx hx=>(ents1 wx w.heap.size (w.heap.size+1) (hv.below hx hv.lt) (map_below hm hx) (Nat.lt_succ_self _)).mono (by
  rintro e w' ⟨rfl,q1,q2,q3⟩;exact⟨rfl,q1,q2,hb.trans ((hx.mono hb.size).trans q3)⟩)))
 clear hb hm hv h h1
 go_enter Tryz.func47, Tryz.ntmps47
 go_upto_region 6 with (go_at_call 72;refine HE.out.mono ?_;rintro e1 w1 ⟨rfl,hm1,hv1,hb1⟩;have HB1:=Lib.hid hb1;have HM1:=Lib.hid hm1;have HV1:=Lib.hid hv1;clear hm1 hv1 hb1)
 have c1:=HV1.out.cell;have HS:=Lib.hid (Tryz.sortedE_any w.heap.size 1 D1 eR w1 HM1.out (by decide) (by decide));go_wp2_with (first
  |(go_at_call 77;refine(Tryz.keysE_any _ _).mono ?_;rintro e2 w2 ⟨rfl,rfl⟩)
  |(go_at_call 76;refine HS.out.mono ?_;rintro e3 w3 ⟨v3,ss,rfl,hS,hown,-,hb3⟩;obtain rfl:ss=[1]:=List.perm_singleton.1 hS;obtain⟨A3,c3,rfl,-,-⟩:=own_slice hown;have HR3:=Lib.hid (Rd.of_own hown);have HB3:=Lib.hid (HB1.out.trans (hb3.mono HB1.out.size));have HM3:=Lib.hid (map_below HM1.out hb3);have HV3:=Lib.hid (HV1.out.below hb3 HV1.out.lt);clear hS hown hb3))
 simp only[List.length_cons,List.length_nil,List.map_cons,List.map_nil,Nat.zero_add] at *
 go_loopw [6,20] (fun s6 s20 wr=>(s6=.slice none 0 0/\s20=.int .i64 0/\wr=w3)∨(s20=.int .i64 1/\ ∃g c,s6=.slice (some ⟨g,0,none⟩) 1 c/\Hid (wr.ownsRow w.heap.size 48 9 (.slice (some ⟨g,0,none⟩) 1 c) 1 (flS [e1])/\Below w.heap.size w wr))) (fun _ v _=>1-(intOf v).toNat)
 case atStart=>exact .inl ⟨rfl,by go_num,rfl⟩
 case round =>
  rcases hrel with ⟨rfl,rfl,rfl⟩|⟨rfl,g,c,rfl,HX⟩
  ·obtain⟨ad,u,hA,hbk,hx,hc⟩:=HR3.out.at1 (k:=0) (by simp)
   obtain rfl:Value.int .i64 1=u:=by simpa[List.mergeSort_singleton] using hx
   cases hA
   rw[Addr.add_zero'] at hc;have c4:=HV3.out.cell;obtain⟨v,ps,hrun,hR⟩:=World.ownsMap.lookup HM3.out (int_keyed Tryz.underlying3) Tryz.underlying118 (zero_en wr) (eR_mk e0) (keyOf_int_mk (a:=1) Tryz.underlying3 wf_1);rw[at_D1] at hR;rw[eR_inv hR] at hrun;unfold eagg e1 at hrun;dsimp only at hrun;clear hx hbk hR;go_wp2_with (at_builtin;(refine wpList_appV enEl (World.ownsRow_nil _ wr.heap.size _ _) (rdV_new 48 wr [.int .i64 1,.int .i64 1,.int .i64 1,.bool false,.int .i64 0,.int .i64 0,.int .i64 0,.int .i64 0,.int .i64 0] rfl) (by intro h;cases h) (by intro u hu;simp only[List.mem_cons,List.not_mem_nil,or_false] at hu;rcases hu with rfl|rfl|rfl|rfl|rfl|rfl|rfl|rfl|rfl<;>rfl) (by omega) (by omega) (by simp) ?_);intro v5 w5 hown5 hb5 hg5;obtain⟨A5,c5,rfl,-,-⟩:=own_slice hown5;obtain⟨g5,rfl⟩:∃g5,A5=some ⟨g5,0,none⟩:=own_some hown5;have HO5:=Lib.hid hown5;have HB5:=Lib.hid (HB3.out.trans (((ext_alloc wr (.cells #[.int .i64 1,.int .i64 1,.int .i64 1,.bool false,.int .i64 0,.int .i64 0,.int .i64 0,.int .i64 0,.int .i64 0] 48)).trans hb5).mono HB3.out.size));clear hown5 hb5 hg5 hrun hc c4)
   go_roundw
   ·exact .inr ⟨by go_num,g5,c5,rfl,Lib.hid ⟨own_lower HO5.out HB3.out.size,HB5.out⟩⟩
   ·simp[intOf]
  ·go_wp2_with fail
   go_ret2
   exact⟨⟨g,c,rfl,HX.out.1⟩,HX.out.2⟩
end
end Sv
end Go.Proofs.YtphfmgapiimliaaGreat
