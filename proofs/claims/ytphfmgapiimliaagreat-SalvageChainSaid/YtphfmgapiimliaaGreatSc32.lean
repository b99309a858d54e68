/- append of several numbers at once onto a slice of the call's own. head.PutFoot. scan.Sealed, found.entry: of a header alone. salvage: readable, each: of a disk with no file, or with one segment's. -/
import Derived.Test.YtphfmgapiimliaaGreatSc02
import Derived.Test.YtphfmgapiimliaaGreatSc15
import Derived.Test.YtphfmgapiimliaaGreatSc11
import Derived.Test.YtphfmgapiimliaaGreatSc31
import Derived.Test.YtphfmgapiimliaaGreatSc26
import Derived.Test.YtphfmgapiimliaaGreatSc21
import Derived.Deep.Cut
import Derived.Test.YtphfmgapiimliaaGreatSc19
import Derived.Test.YtphfmgapiimliaaGreatSc29
import Derived.Test.YtphfmgapiimliaaGreatSc30
namespace Go.Proofs.YtphfmgapiimliaaGreat
open Go.RowKit
section
variable {ops:Array Oper} {rest:List Oper} {o:Oper} {a:Act} {Q:Exit->Act->World->Prop}
theorem cell_lit_new (w:World) (t:TypeId) (l:List Value) (j:Nat) (u:Value) (h:l[j]? =some u):(w.alloc (.cells l.toArray t)).cell? ((⟨w.heap.size,0,none⟩:Addr).add j)=some u:=by
 rw[Addr.add_lit,Nat.zero_add,World.cell?_alloc_new];simpa using h
theorem appendL {s x:Operand} {B g m:Nat} {v:Value} {l:List Int} {w0:World} (ys:List Int) (hgw:w0.heap.size=g) (hm:ys.length=m) (hown:Own w0 B v l) (hl:l.length<=1099511627776) (hy:ys.length<=1000) (hp:0<ys.length) (hB:B<=w0.heap.size)
  (h:∀A' n' c' w',Hid (n'=l.length+ys.length)->Own w' B (.slice A' n' c') (l++ys)->Below B w0 w'->w0.grownBy w' v.ownBlock->(Value.ownBlock (.slice A' n' c')=v.ownBlock∨ ∃g,Value.ownBlock (.slice A' n' c')=some g/\w0.heap.size<=g)->wpList Tryz.prog ops Q rest (a.put o.dst (.slice A' n' c')) w')
  (hgd:o.guard=none:=by exact rfl) (ho:o.op=.call { callee:=.builtin .append,args:=#[s,x],argTypes:=#[121,121] }:=by exact rfl)
  (hs:a.eval s=v:=by exact rfl) (hx:a.eval x=.slice (some ⟨g,0,none⟩) m m:=by exact rfl) :
  wpList Tryz.prog ops Q (o::rest) a (w0.alloc (.cells (ys.map (Value.int .i64)).toArray 3)):=by
 subst hgw hm;obtain⟨i0,hi,hz0,hz1,hz2⟩:=info_parts int_info;refine wpList_append_own_at _ hgd s x 121 ho B 3 i0 (.int .i64 0) 1 8 Tryz.underlying121 hi hz0 hz1 hz2 rfl (by omega) v l.length (l.map (Value.int .i64)) hs (hown.alloc _)
  ⟨w0.heap.size,0,none⟩ ys.length ys.length (ys.map (Value.int .i64)) hx (by simp) (fun j u hu=>cell_lit_new w0 _ _ j u hu) (by intro u hu;rw[List.mem_map] at hu;obtain⟨y,-,rfl⟩:=hu;rfl) (by simp only[maxLen];omega) (by omega) (by simp;omega) ?_
 intro v' w' hown' hg _ hat;have hg0:w0.grownBy w' v.ownBlock:=(World.grownBy_alloc w0 _ v.ownBlock).trans hg;have hlt:=World.ownsRow.lt hown;obtain⟨A',c',rfl,_,_⟩:=own_slice hown';refine h A' _ c' w' rfl (by unfold Own;simpa using hown') ((Below.refl _ _).grown hg0 hB (fun k hk=>(hlt k hk).1)) hg0 ?_;rcases hat with e|e
 ·exact .inl e
 ·exact .inr ⟨_,e,by simp⟩
end
end Go.Proofs.YtphfmgapiimliaaGreat
namespace Go.Proofs.YtphfmgapiimliaaGreat
namespace Sn
open Go.RowKit Hd Bk Vi Rd
def nums (m:Mt):List Nat:=[m.a,m.s,m.r,m.c,m.f,m.e,m.l-m.e]
def ftN (l:List Mt):List Nat:=l.length::l.flatMap nums
def ftB (l:List Mt):ByteArray:=⟨((ftN l).flatMap putV).toArray⟩
def ints (l:List Nat):List Int:=l.map fun(n:Nat)=>(n:Int)
theorem ints_nv (l:List Nat):(ints l).map (Value.int .i64)=nv l:=by unfold ints nv;rw[List.map_map];rfl
theorem ints_append (a b:List Nat):ints (a++b)=ints a++ints b:=List.map_append ..
theorem length_ints (l:List Nat):(ints l).length=l.length:=List.length_map ..
theorem length_nums:∀(l:List Mt),(l.flatMap nums).length=l.length*7
 | []=>rfl
 |m::l=>by rw[List.flatMap_cons,List.length_append,length_nums l,List.length_cons];show 7+_=_;omega
theorem nums_take (l:List Mt) (k:Nat) (m:Mt) (h:l[k]? =some m):(l.take (k+1)).flatMap nums=(l.take k).flatMap nums++nums m:=by
 rw[List.take_add_one,h,List.flatMap_append];simp
set_option maxHeartbeats 6400000 in
set_option maxRecDepth 100000 in
theorem foot_any (A:Option Addr) (n c:Nat) (l:List Mt) (w:World) (hrd:Rd w w.heap.size 7 A n (fl7 l)) (hn:n<=100000) (ho:okBl l=true) :
  Calls Tryz.prog 167 #[.slice A n c] w fun e w'=>e=.returned (.tuple #[.string (ftB l),.int .i64 0])/\Below w.heap.size w w':=by
 have mixed:Tryz.prog.follows .mixedOrders=true:=by kernel_rfl
 have hln:=mt_len hrd;have hbl:=blocks_any A n c l w hrd (by omega);rw[blE_yes ho] at hbl;have HBL:=Lib.hid hbl;obtain⟨hl0,hrow⟩:=okBl_row ho;have HOK:=Lib.hid (rowM_mem l none hrow);have hn1:n<=1000:=by omega
 have HLN:=Lib.hid hln;have HR:=Lib.hid hrd;clear hbl hrd hln hl0 hrow ho
 go_enter Tryz.func167, Tryz.ntmps167
 go_wp2_with fail
 refine HBL.out.mono ?_;rintro e1 w1 ⟨rfl,hb1⟩;have HB1:=Lib.hid hb1;have HW:=Lib.hid (World.ownsRow_lit (base:=w.heap.size) (e:=3) (size:=1) w1 #[.int .i64 (n:Int)] 1 hb1.size (by simp[maxLen]) rfl);have HB2:=Lib.hid (hb1.trans ((ext_alloc w1 (.cells #[.int .i64 (n:Int)] 3)).mono hb1.size));clear hb1 HBL;go_wp2_with fail
 go_loopw [5,18] (fun s5 s18 wr=>∃(k:Nat) (A1:Option Addr) (n1 c1:Nat),s18=.int .i64 (k:Int)/\s5=.slice A1 n1 c1/\k<=n/\Hid (Own wr w.heap.size (.slice A1 n1 c1) (ints (n::(l.take k).flatMap nums))/\Below w.heap.size w wr)) (fun _ v _=>n-(intOf v).toNat)
 case atStart=>exact⟨0,_,_,_,by go_num,rfl,by omega,Lib.hid ⟨HW.out,HB2.out⟩⟩
 case round =>
  obtain⟨k,A5,n5,c5,rfl,rfl,hk,HX⟩:=hrel;by_cases hkn:k<n
  ·obtain⟨ad,m,hA,hbk,hx,hc0,hc1,hc2,hc3,hc4,hc5,hc6⟩:=mt_at (HR.out.below HX.out.2) hkn
   have hok:=(okM_iff m).1 (HOK.out m (List.mem_of_getElem? hx));have HNT:=Lib.hid (nums_take l k m hx);obtain⟨ma,ms,mr,mc,mf,me,ml⟩:=m;dsimp only at hok;obtain⟨d,hd⟩:∃d,ml-me=d:=⟨_,rfl⟩
   have hs:IntKind.i64.wrap ((ml:Int)-(me:Int))=(d:Int):=by rw[IntKind.wrap_i64];omega
   have HD:=Lib.hid (show nums ⟨ma,ms,mr,mc,mf,me,ml⟩=[ma,ms,mr,mc,mf,me,d] by unfold nums;rw[hd]);have hown:Own (wr.alloc (.cells #[.int .i64 (ma:Int),.int .i64 (ms:Int),.int .i64 (mr:Int),.int .i64 (mc:Int),.int .i64 (mf:Int),.int .i64 (me:Int),.int .i64 (ml:Int)] 66)) w.heap.size (.slice A5 n5 c5) (ints (n::(l.take k).flatMap nums)):=HX.out.1.below (ext_alloc wr _) (Nat.le_refl _);have HO:=Lib.hid hown;have HLE:=Lib.hid (show(ints (n::(l.take k).flatMap nums)).length<=1099511627776 by rw[length_ints,List.length_cons,length_nums,List.length_take];omega);have HB3:=Lib.hid (HX.out.2.trans ((ext_alloc wr (.cells #[.int .i64 (ma:Int),.int .i64 (ms:Int),.int .i64 (mr:Int),.int .i64 (mc:Int),.int .i64 (mf:Int),.int .i64 (me:Int),.int .i64 (ml:Int)] 66)).mono HX.out.2.size));subst hA;clear hown hx hd hok HX hbk;go_wp2_with (at_builtin;go_loud (refine appendL (g:=wr.heap.size+1) [ma,ms,mr,mc,mf,me,d] (by simp) rfl HO.out HLE.out (by simp) (by simp) HB3.out.size ?_;intro A1 n1 c1 w3 hn1 hown1 hb1 hg1 hat1))
   have HF:=Lib.hid (show ints (n::(l.take (k+1)).flatMap nums)=ints (n::(l.take k).flatMap nums)++[(ma:Int),(ms:Int),(mr:Int),(mc:Int),(mf:Int),(me:Int),(d:Int)] by
    rw[HNT.out,HD.out,<-List.cons_append,ints_append];rfl)
   go_roundw
   case rel=>exact⟨k+1,A1,n1,c1,by go_num,rfl,by omega,Lib.hid ⟨by rw[HF.out];exact hown1,HB3.out.trans hb1⟩⟩
   case measure=>simp[intOf];omega
  ·obtain rfl:k=n:=by omega
   have h9:=HX.out;rw[List.take_of_length_le (by rw[HLN.out];omega)] at h9;have hrd:Rd wr wr.heap.size 1 A5 n5 (nv (ftN l)):=by
    obtain⟨h,h2⟩:=h9.1.rd0;rw[<-h2,ints_nv,show k::l.flatMap nums=ftN l by unfold ftN;rw[HLN.out]] at h;exact h
   have hn5:n5<=7001:=by
    obtain⟨-,h2⟩:=h9.1.rd0;rw[length_ints,List.length_cons,length_nums,HLN.out] at h2;omega
   have hall:∀x∈ftN l,x<9223372036854775808:=by
    intro x hx;unfold ftN at hx;rcases List.mem_cons.1 hx with rfl|hx
    ·rw[HLN.out];omega
    ·obtain⟨m,hm,hx⟩:=List.mem_flatMap.1 hx
     have:=(okM_iff m).1 (HOK.out m hm);simp only[nums,List.mem_cons,List.not_mem_nil,or_false] at hx;omega
   have HN:=Lib.hid (numbers_any A5 n5 c5 (ftN l) wr hrd (by omega) hall);have HB2:=Lib.hid h9.2;clear h9 HX hrd hall hn5;go_wp2_with fail
   refine HN.out.mono ?_;rintro e5 w5 ⟨rfl,hb5⟩;have HB5:=Lib.hid (HB2.out.trans (hb5.mono HB2.out.size));clear hb5;go_wp2_with fail
   go_ret2
   exact⟨rfl,HB5.out⟩
end Sn
end Go.Proofs.YtphfmgapiimliaaGreat
namespace Go.Proofs.YtphfmgapiimliaaGreat
namespace Sv
open Go.RowKit Hd Rd Fm Sn Nf Dk Gp
open Go.Proofs.YtphfmgapiimliaaGreat.Op
theorem fr_info:(Tryz.prog.info? 177).map (·.size)=some 4:=by kernel_rfl
theorem hd_inf:(Tryz.prog.info? 35).map (·.size)=some 3:=by kernel_rfl
theorem fo_info:(Tryz.prog.info? 116).map (·.size)=some 4:=by kernel_rfl
theorem getEnd_any (s:ByteArray) (w:World) (hs:s.size<=1000000):Calls Tryz.prog 128 #[.string s,.int .i64 (s.size:Int)] w fun e w'=>(∃x:Int,x≠0/\e=.returned (.tuple #[.agg #[.int .i64 0,.string ⟨#[]⟩,.int .i64 0,.int .i64 0],.int .i64 x]))/\Below w.heap.size w w':=by
 refine(Fm.Get_any s s.size w hs (by omega)).mono ?_;rintro e w' ⟨h,hb⟩;exact⟨frAns_end h,hb⟩
set_option maxHeartbeats 3200000 in
set_option maxRecDepth 100000 in
theorem sealed_head (w:World):Calls Tryz.prog 121 #[.string (hdrB 1 1 1),.agg #[.int .i64 1,.int .i64 1,.int .i64 1]] w fun e w'=>e=.returned (.tuple #[.slice none 0 0,.int .i64 211])/\Below w.heap.size w w':=by
 have mixed:Tryz.prog.follows .mixedOrders=true:=by kernel_rfl
 have HTL:=Lib.hid (show ∀wx,Calls Tryz.prog 88 #[.string (hdrB 1 1 1),.agg #[.int .i64 1,.int .i64 1,.int .i64 1]] wx fun e w'=>e=.returned (.tuple #[.slice none 0 0,.int .i64 ((hdrB 1 1 1).size:Int),.int .i64 0])/\Below wx.heap.size wx w' from fun wx=>tail_head 1 1 1 wx (by omega));have HPF:=Lib.hid (fun wx=>foot_any none 0 0 [] wx Rd.nil (by omega) rfl);have HGE:=Lib.hid (fun wx=>getEnd_any (hdrB 1 1 1) wx (by rw[hdr_size];omega));have HD:=Lib.hid (Blk.new w #[.int .i64 1,.int .i64 1,.int .i64 1] 35);have HB:=Lib.hid (ext_alloc w (.cells #[.int .i64 1,.int .i64 1,.int .i64 1] 35));generalize hdrB 1 1 1=T at *
 generalize ftB []=F at *
 go_enter Tryz.func121, Tryz.ntmps121
 go_upto_region 6 with (first
  |(refine wpList_load_row rfl 35 (.tmp 3) rfl w.heap.size #[.int .i64 1,.int .i64 1,.int .i64 1] _ (by simp[go_sem,Act.eval]) HD.out Tryz.underlying35 rfl hd_inf ?_)
  |(go_at_call 88;refine(HTL.out _).mono ?_;rintro e1 w1 ⟨rfl,hb1⟩;have HB1:=Lib.hid (HB.out.trans (hb1.mono HB.out.size));clear hb1)
  |(go_at_call 167;refine(HPF.out _).mono ?_;rintro e2 w2 ⟨rfl,hb2⟩;have HB2:=Lib.hid (HB1.out.trans (hb2.mono HB1.out.size));clear hb2)
  |(go_at_call 128;refine(HGE.out _).mono ?_;rintro e3 w3 ⟨⟨x,hx,rfl⟩,hb3⟩;have HB3:=Lib.hid ((HB2.out.trans (hb3.mono HB2.out.size)).trans ((ext_alloc w3 (.cells #[.int .i64 0,.string ⟨#[]⟩,.int .i64 0,.int .i64 0] 177)).mono (HB2.out.trans (hb3.mono HB2.out.size)).size));clear hb3))
 go_wp2_with fail
 go_ret2
 exact⟨rfl,HB3.out⟩
set_option maxHeartbeats 3200000 in
set_option maxRecDepth 100000 in
theorem fentry_head (w:World):Calls Tryz.prog 75 #[.agg #[.int .i64 1,.int .i64 1,.int .i64 1,.string (hdrB 1 1 1)]] w fun e w'=>e=.returned (.agg (Sh.cl e1).toArray)/\Below w.heap.size w w':=by
 have mixed:Tryz.prog.follows .mixedOrders=true:=by kernel_rfl
 have HS:=Lib.hid (fun wx=>sealed_head wx);have HC:=Lib.hid ((Blk.new w #[.int .i64 1,.int .i64 1,.int .i64 1,.string (hdrB 1 1 1)] 116).alloc (.cells #[.int .i64 0,.int .i64 0,.int .i64 0,.bool false,.int .i64 0,.int .i64 0,.int .i64 0,.int .i64 0,.int .i64 0] 48));have HR:=Lib.hid (blk_second w (.cells #[.int .i64 1,.int .i64 1,.int .i64 1,.string (hdrB 1 1 1)] 116) #[.int .i64 0,.int .i64 0,.int .i64 0,.bool false,.int .i64 0,.int .i64 0,.int .i64 0,.int .i64 0,.int .i64 0] 48);have HB:=Lib.hid (ext_second w (.cells #[.int .i64 1,.int .i64 1,.int .i64 1,.string (hdrB 1 1 1)] 116) (.cells #[.int .i64 0,.int .i64 0,.int .i64 0,.bool false,.int .i64 0,.int .i64 0,.int .i64 0,.int .i64 0,.int .i64 0] 48));generalize hdrB 1 1 1=T at *
 go_enter Tryz.func75, Tryz.ntmps75
 go_upto_region 1 with fail
 generalize (w.alloc (.cells #[.int .i64 1,.int .i64 1,.int .i64 1,.string T] 116)).alloc (.cells #[.int .i64 0,.int .i64 0,.int .i64 0,.bool false,.int .i64 0,.int .i64 0,.int .i64 0,.int .i64 0,.int .i64 0] 48)=w0 at *
 have k0:=HC.out.cell 0 (v:=.int .i64 1) rfl;have k1:=HC.out.cell 1 (v:=.int .i64 1) rfl;have k2:=HC.out.cell 2 (v:=.int .i64 1) rfl;have k3:=HC.out.cell 3 (v:=.string T) rfl;go_upto_region 6 with (go_at_call 121;refine(HS.out _).mono ?_;rintro e1 w1 ⟨rfl,hb1⟩;have HC1:=Lib.hid (HC.out.ext hb1);have HR1:=Lib.hid (HR.out.ext hb1);have HB1:=Lib.hid (HB.out.trans (hb1.mono HB.out.size));clear hb1 k0 k1 k2 k3)
 have k0:=HC1.out.cell 0 (v:=.int .i64 1) rfl;have k1:=HC1.out.cell 1 (v:=.int .i64 1) rfl;have k2:=HC1.out.cell 2 (v:=.int .i64 1) rfl;go_wp2_with (refine wpList_store_row rfl 48 (.tmp 2) (.tmp 32) rfl (w.heap.size+1) #[.int .i64 1,.int .i64 1,.int .i64 1,.bool false,.int .i64 0,.int .i64 0,.int .i64 0,.int .i64 0,.int .i64 0] #[.int .i64 0,.int .i64 0,.int .i64 0,.bool false,.int .i64 0,.int .i64 0,.int .i64 0,.int .i64 0,.int .i64 0] (by simp[go_sem,Act.eval]) (by simp[go_sem,Act.eval]) HR1.out en_info rfl (by simp[Value.oneCell']) ?_)
 refine bodyPost_ret (v:=.agg #[.int .i64 1,.int .i64 1,.int .i64 1,.bool false,.int .i64 0,.int .i64 0,.int .i64 0,.int .i64 0,.int .i64 0]) (by exact results_cell1 rfl rfl (HR1.out.set #[.int .i64 1,.int .i64 1,.int .i64 1,.bool false,.int .i64 0,.int .i64 0,.int .i64 0,.int .i64 0,.int .i64 0]) Tryz.underlying48 rfl en_info) (by exact rfl) ?_;exact⟨rfl,ext_setRow HB1.out (Nat.le_succ _) _⟩
end Sv
end Go.Proofs.YtphfmgapiimliaaGreat
namespace Go.Proofs.YtphfmgapiimliaaGreat
namespace Sv
open Go.RowKit Hd Rd Fm Sn Nf Dk Gp
open Go.Proofs.YtphfmgapiimliaaGreat.Op
section
variable {w w':World} {S:Nat->Prop} {bd gN gS:Nat} {v:Value} {D:DS}
set_option maxHeartbeats 1600000 in
theorem readable_ok (h:DiskAt w S bd D) (ho:D.off=false) (hl:lk maniN D.now=none) :
  Calls Tryz.prog 119 #[.pointer (some ⟨bd,0,none⟩)] w fun e w'=>e=.returned (.int .i64 0)/\w=w':=by
 have hrp:readP D maniN=(⟨#[]⟩,201):=by
  unfold readP;rw[ho,hl];rfl
 have HRD:=read_any h maniN;rw[hrp] at HRD;replace HRD:=Lib.hid HRD;have HM:=Lib.hid (fun w=>manifest_any (w:=w));clear h ho hl hrp
 go_enter Tryz.func119, Tryz.ntmps119
 go_wp2_with (first
  |(go_at_call 114;refine(HM.out _).mono ?_;rintro e1 w1 ⟨rfl,rfl⟩)
  |(go_at_call 87;refine HRD.out.mono ?_;rintro e2 w2 ⟨rfl,rfl⟩))
 go_ret
 exact⟨rfl,rfl⟩
set_option maxHeartbeats 1600000 in
theorem each_none (h:DiskAt w S bd D) (ho:D.off=false) (hn:D.now=[]) (f:Value) :
  Calls Tryz.prog 72 #[.pointer (some ⟨bd,0,none⟩),f] w fun e w'=>e=.returned (.int .i64 0)/\Below w.heap.size w w':=by
 have HRB:=Lib.hid (readable_ok h ho (by rw[hn];rfl));have hL:=list_any h ho (by rw[hn];intro x hx;cases hx);rw[hn,show(srt []).length=0 from srt_len []] at hL;have HL:=Lib.hid hL;clear h ho hn hL
 go_enter Tryz.func72, Tryz.ntmps72
 go_wp2_with (first
  |(go_at_call 119;refine HRB.out.mono ?_;rintro e1 w1 ⟨rfl,rfl⟩)
  |(go_at_call 22;refine HL.out.mono ?_;rintro e1 w1 ⟨v1,rfl,hown,hb1⟩;obtain⟨A1,c1,rfl,-,-⟩:=own_slice hown;have HB1:=Lib.hid hb1;clear hown hb1))
 go_loopw [20] (fun s20 wr=>s20=.int .i64 0/\wr=w1) (fun _ _=>0)
 case atStart=>exact⟨by go_num,rfl⟩
 case round =>
  obtain⟨rfl,rfl⟩:=hrel;go_wp2_with fail
  go_ret
  exact⟨rfl,HB1.out⟩
structure One1 (D:DS):Prop where
 off:D.off=false
 now:∃b q,D.now=[(segN 1 1,b)]/\D.fl b=some (q,hdrB 1 1 1)
theorem one_readM (h:One1 D):lk maniN D.now=none:=by
 obtain⟨b,q,hn,-⟩:=h.now;rw[hn,lk_cons,if_neg (seg_mani 1 1)];rfl
theorem one_read (h:One1 D):readP D (segN 1 1)=(hdrB 1 1 1,0):=by
 obtain⟨b,q,hn,hp⟩:=h.now;unfold readP;rw[h.off,hn,lk_cons,if_pos rfl];simp[hp]
set_option maxHeartbeats 6400000 in
set_option maxRecDepth 100000 in
theorem each_one (HBG:Hid (∀wx,Calls Tryz.prog 120 #[.string (segN 1 1),.string (hdrB 1 1 1)] wx fun e w'=>e=.returned (.tuple #[.agg #[.int .i64 1,.int .i64 1,.int .i64 1],.bool true])/\Below wx.heap.size wx w'))
  (h:DiskAt w S bd D) (h1:One1 D) (fn:FuncId) (caps:Array Value) (G:World->Prop)
  (hen:∀args w,(callFunc fn args).run Tryz.prog w=.ok (.enter fn args) w)
  (hf:∀wx,Below w.heap.size w wx->Calls Tryz.prog fn (#[.agg #[.int .i64 1,.int .i64 1,.int .i64 1,.string (hdrB 1 1 1)]]++caps) wx fun e w'=>e=.returned (.tuple #[])/\G w') :
  Calls Tryz.prog 72 #[.pointer (some ⟨bd,0,none⟩),.func (.func fn) #[] caps] w fun e w'=>e=.returned (.int .i64 0)/\G w':=by
 have mixed:Tryz.prog.follows .mixedOrders=true:=by kernel_rfl
 have HRB:=Lib.hid (readable_ok h h1.off (one_readM h1));have hL:=list_any h h1.off (by
  obtain⟨b,q,hn,-⟩:=h1.now;rw[hn];intro x hx;obtain rfl:=List.mem_singleton.1 hx;show(segN 1 1).size<=_
  rw[segN_size];decide)
 rw[show srt D.now=[segN 1 1] from by
  obtain⟨b,q,hn,-⟩:=h1.now;rw[hn];exact srt_one _ _] at hL
 have HL:=Lib.hid hL;have HRD:=fun(wx:World) (hx:Below w.heap.size w wx)=>read_any (h.ext hx) (segN 1 1)
 rw[one_read h1] at HRD;replace HRD:=Lib.hid HRD;have HF:=Lib.hid hf;clear h h1 hL hf;generalize hdrB 1 1 1=T at *
 generalize segN 1 1=s at *
 go_enter Tryz.func72, Tryz.ntmps72
 go_wp2_with (first
  |(go_at_call 119;refine HRB.out.mono ?_;rintro e1 w1 ⟨rfl,rfl⟩)
  |(go_at_call 22;refine HL.out.mono ?_;rintro e1 w1 ⟨v1,rfl,hown,hb1⟩;obtain⟨A1,c1,rfl,-,-⟩:=own_slice hown;have HR1:=Lib.hid (Rd.of_own hown);have HB1:=Lib.hid hb1;clear hown hb1))
 simp only[List.length_cons,List.length_nil,List.map_cons,List.map_nil,Nat.zero_add] at *
 go_loopw [20] (fun s20 wr=>(s20=.int .i64 0/\wr=w1)∨(s20=.int .i64 1/\Hid (G wr))) (fun v _=>1-(intOf v).toNat)
 case atStart=>exact .inl ⟨by go_num,rfl⟩
 case round =>
  rcases hrel with ⟨rfl,rfl⟩|⟨rfl,HX⟩
  ·obtain⟨ad,u,hA,hbk,hx,hc⟩:=HR1.out.at1 (k:=0) (by omega)
   obtain rfl:Value.string s=u:=by simpa using hx
   cases hA
   rw[Addr.add_zero'] at hc;clear hx hbk;go_upto_region 12 with (first
    |(go_at_call 87;refine(HRD.out _ HB1.out).mono ?_;rintro e2 w2 ⟨rfl,rfl⟩)
    |(go_at_call 120;refine(HBG.out _).mono ?_;rintro e3 w3 ⟨rfl,hb3⟩;have HB3:=Lib.hid ((HB1.out.trans (hb3.mono HB1.out.size)).trans ((ext_alloc w3 (.cells #[.int .i64 1,.int .i64 1,.int .i64 1] 35)).mono (HB1.out.trans (hb3.mono HB1.out.size)).size));have HH3:=Lib.hid (Blk.new w3 #[.int .i64 1,.int .i64 1,.int .i64 1] 35);clear hb3))
   generalize w3.alloc (.cells #[.int .i64 1,.int .i64 1,.int .i64 1] 35)=w4 at *
   generalize w3.heap.size=bh at *
   clear hc;go_wp2_with (first
    |(refine wpList_load_row rfl 35 (.tmp 10) rfl bh #[.int .i64 1,.int .i64 1,.int .i64 1] _ (by simp[go_sem,Act.eval]) HH3.out Tryz.underlying35 rfl hd_inf ?_)
    |(go_at_fn fn;refine(HF.out _ HB3.out).mono ?_;rintro e4 w4 ⟨rfl,hg4⟩;have HG4:=Lib.hid hg4;clear hg4))
   go_roundw
   ·exact .inr ⟨by go_num,HG4.out⟩
   ·simp[intOf]
  ·go_wp2_with fail
   go_ret
   exact⟨rfl,HX.out⟩
end
end Sv
end Go.Proofs.YtphfmgapiimliaaGreat
