/- varvelaw33.awake. -/
import Derived.Test.YtphfmgapiimliaaGreatSc40
import Derived.Test.YtphfmgapiimliaaGreatSc25
import Derived.Test.YtphfmgapiimliaaGreatSc45
import Derived.Test.YtphfmgapiimliaaGreatSc46
import Derived.Test.YtphfmgapiimliaaGreatSc26
import Derived.Deep.Cut
import Derived.Deep.RegionWith
namespace Go.Proofs.YtphfmgapiimliaaGreat
namespace Dk
open Go.RowKit Hd Rd Fm Sn Nf
open Go.Proofs.YtphfmgapiimliaaGreat.Op
section
variable {w w':World} {S:Nat->Prop} {bd gN gS:Nat} {v:Value} {D:DS}
set_option maxHeartbeats 3200000 in
set_option maxRecDepth 100000 in
theorem Open_conf (p:Value) (hp:∃b,p=.pointer (some ⟨b,0,none⟩)) (w:World) :
  Calls Tryz.prog 20 #[p,.agg #[.int .i64 0,.int .i64 0,.int .i64 0,.int .i64 0,.int .i64 0,.int .i64 0,.int .i64 0]] w fun e w'=>e=.returned (.tuple #[.agg #[.int .i64 0,.int .i64 0,.int .i64 0,.int .i64 0,.int .i64 0,.int .i64 0,.int .i64 0,.int .i64 0,.int .i64 0,.int .i64 0,.int .i64 0,.slice none 0 0,.slice none 0 0,.int .i64 0,.int .i64 0,.int .i64 0,.slice none 0 0,.bool false],.int .i64 270])/\Below w.heap.size w w':=by
 have HPK:=Lib.hid (show ∀wx,Calls Tryz.prog 50 #[.agg #[.int .i64 0,.int .i64 0,.int .i64 0,.int .i64 0,.int .i64 0,.int .i64 0,.int .i64 0]] wx fun e w'=>e=.returned (.int .i64 270)/\Below wx.heap.size wx w' from fun wx=>pcheck_any ⟨0,0,0,0,0,0,0⟩ wx);have HB:=Lib.hid (ext_second w (.cells #[.int .i64 0,.int .i64 0,.int .i64 0,.int .i64 0,.int .i64 0,.int .i64 0,.int .i64 0] 23) (.cells #[.int .i64 0,.int .i64 0,.int .i64 0,.int .i64 0,.int .i64 0,.int .i64 0,.int .i64 0,.int .i64 0,.int .i64 0,.int .i64 0,.int .i64 0,.slice none 0 0,.slice none 0 0,.int .i64 0,.int .i64 0,.int .i64 0,.slice none 0 0,.bool false] 30));have HC:=Lib.hid ((Blk.new w #[.int .i64 0,.int .i64 0,.int .i64 0,.int .i64 0,.int .i64 0,.int .i64 0,.int .i64 0] 23).alloc (.cells #[.int .i64 0,.int .i64 0,.int .i64 0,.int .i64 0,.int .i64 0,.int .i64 0,.int .i64 0,.int .i64 0,.int .i64 0,.int .i64 0,.int .i64 0,.slice none 0 0,.slice none 0 0,.int .i64 0,.int .i64 0,.int .i64 0,.slice none 0 0,.bool false] 30));have HR:=Lib.hid (blk_second w (.cells #[.int .i64 0,.int .i64 0,.int .i64 0,.int .i64 0,.int .i64 0,.int .i64 0,.int .i64 0] 23) #[.int .i64 0,.int .i64 0,.int .i64 0,.int .i64 0,.int .i64 0,.int .i64 0,.int .i64 0,.int .i64 0,.int .i64 0,.int .i64 0,.int .i64 0,.slice none 0 0,.slice none 0 0,.int .i64 0,.int .i64 0,.int .i64 0,.slice none 0 0,.bool false] 30);obtain⟨b,rfl⟩:=hp
 go_enter Tryz.func20, Tryz.ntmps20
 go_wp2_with (first
  |(go_at_call 50;refine(HPK.out _).mono ?_;rintro e1 w1 ⟨rfl,hb1⟩;have HB:=Lib.hid (HB.out.trans (hb1.mono HB.out.size));have HR:=Lib.hid (HR.out.ext hb1);clear hb1)
  |(refine wpList_load_row rfl 23 (.tmp 3) rfl w.heap.size #[.int .i64 0,.int .i64 0,.int .i64 0,.int .i64 0,.int .i64 0,.int .i64 0,.int .i64 0] _ (by simp[go_sem,Act.eval]) HC.out Tryz.underlying23 rfl cf_info ?_)
  |(refine wpList_store_row rfl 30 (.tmp 4) (.tmp 17) rfl (w.heap.size+1) #[.int .i64 0,.int .i64 0,.int .i64 0,.int .i64 0,.int .i64 0,.int .i64 0,.int .i64 0,.int .i64 0,.int .i64 0,.int .i64 0,.int .i64 0,.slice none 0 0,.slice none 0 0,.int .i64 0,.int .i64 0,.int .i64 0,.slice none 0 0,.bool false] #[.int .i64 0,.int .i64 0,.int .i64 0,.int .i64 0,.int .i64 0,.int .i64 0,.int .i64 0,.int .i64 0,.int .i64 0,.int .i64 0,.int .i64 0,.slice none 0 0,.slice none 0 0,.int .i64 0,.int .i64 0,.int .i64 0,.slice none 0 0,.bool false] (by simp[go_sem,Act.eval]) (by simp[go_sem,Act.eval]) HR.out st_info rfl (by simp[Value.oneCell']) ?_))
 refine bodyPost_ret (v:=.tuple #[.agg #[.int .i64 0,.int .i64 0,.int .i64 0,.int .i64 0,.int .i64 0,.int .i64 0,.int .i64 0,.int .i64 0,.int .i64 0,.int .i64 0,.int .i64 0,.slice none 0 0,.slice none 0 0,.int .i64 0,.int .i64 0,.int .i64 0,.slice none 0 0,.bool false],.int .i64 270]) (by exact results_cell2 rfl rfl rfl (HR.out.set #[.int .i64 0,.int .i64 0,.int .i64 0,.int .i64 0,.int .i64 0,.int .i64 0,.int .i64 0,.int .i64 0,.int .i64 0,.int .i64 0,.int .i64 0,.slice none 0 0,.slice none 0 0,.int .i64 0,.int .i64 0,.int .i64 0,.slice none 0 0,.bool false]) Tryz.underlying30 rfl st_info) (by exact rfl) ?_;exact⟨rfl,ext_setRow HB.out (Nat.le_succ _) _⟩
theorem conf_any (w:World):Calls Tryz.prog 21 #[] w fun e w'=>e=.returned (.agg #[.int .i64 40,.int .i64 100,.int .i64 300,.int .i64 0,.int .i64 0,.int .i64 0,.int .i64 0])/\Below w.heap.size w w':=by
 have HR:=Lib.hid (Blk.new w #[.int .i64 0,.int .i64 0,.int .i64 0,.int .i64 0,.int .i64 0,.int .i64 0,.int .i64 0] 23);have HB:=Lib.hid (ext_alloc w (.cells #[.int .i64 0,.int .i64 0,.int .i64 0,.int .i64 0,.int .i64 0,.int .i64 0,.int .i64 0] 23))
 go_enter Tryz.func21, Tryz.ntmps21
 go_wp2_with (refine wpList_store_row rfl 23 (.tmp 0) (.tmp 1) rfl w.heap.size #[.int .i64 40,.int .i64 100,.int .i64 300,.int .i64 0,.int .i64 0,.int .i64 0,.int .i64 0] #[.int .i64 0,.int .i64 0,.int .i64 0,.int .i64 0,.int .i64 0,.int .i64 0,.int .i64 0] (by simp[go_sem,Act.eval]) (by simp[go_sem,Act.eval]) HR.out cf_info rfl (by simp[Value.oneCell']) ?_)
 refine bodyPost_ret (v:=.agg #[.int .i64 40,.int .i64 100,.int .i64 300,.int .i64 0,.int .i64 0,.int .i64 0,.int .i64 0]) (by exact results_cell1 rfl rfl (HR.out.set #[.int .i64 40,.int .i64 100,.int .i64 300,.int .i64 0,.int .i64 0,.int .i64 0,.int .i64 0]) Tryz.underlying23 rfl cf_info) (by exact rfl) ?_;exact⟨rfl,ext_setRow HB.out (Nat.le_refl _) _⟩
def z0:St:=⟨⟨0,0,0,0,0,0,0⟩,⟨0,0,0,0,[]⟩,[],0,0,0,[],false⟩
theorem ocheck_zero (w:World):Calls Tryz.prog 10 #[.agg #[.int .i64 0,.int .i64 0,.int .i64 0,.int .i64 0,.int .i64 0,.int .i64 0,.int .i64 0,.int .i64 0,.int .i64 0,.int .i64 0,.int .i64 0,.slice none 0 0,.slice none 0 0,.int .i64 0,.int .i64 0,.int .i64 0,.slice none 0 0,.bool false]] w fun e w'=>e=.returned (.int .i64 330)/\Below w.heap.size w w' :=
 ocheck_any z0 ⟨none,0,0⟩ ⟨none,0,0⟩ ⟨none,0,0⟩ w ⟨Rd.nil,Rd.nil,Rd.nil,⟨Nat.le_refl _,Nat.le_refl _,Nat.le_refl _⟩,⟨by show 0<=maxLen;decide,by show 0<=maxLen;decide,by show 0<=maxLen;decide⟩,⟨(fun _=>rfl),(fun _=>rfl),(fun _=>rfl)⟩⟩ (by show 0<=1000000;omega) (by show 0<=100000;omega) (by show 0<=1000000;omega)
end
theorem loadAt_st (x:Value):Instr.loadAt 30 x=loadRow 30 x:=rfl
attribute [local go_sem ↓] loadAt_st
attribute [local go_sem] run_loadRow
theorem sameSt_refl (s:St):sameSt s s=true:=by
 unfold sameSt sameMf;simp
set_option maxHeartbeats 16000000 in
set_option maxRecDepth 100000 in
theorem awake33_any (w:World):Calls Tryz.prog 6 #[] w fun e w'=>e=.returned (.bool true)/\Below w.heap.size w w':=by
 have mixed:Tryz.prog.follows .mixedOrders=true:=by kernel_rfl
 have HNW:=Lib.hid (fun w=>new_ok 5000 w (by omega) (by omega));have HCN:=Lib.hid (fun w=>conf_any w);have HOP:=Lib.hid (show ∀(wx:World) (S1:Nat->Prop) (bd:Nat),DiskAt wx S1 bd (newD 5000)->Calls Tryz.prog 20 #[.pointer (some ⟨bd,0,none⟩),.agg #[.int .i64 40,.int .i64 100,.int .i64 300,.int .i64 0,.int .i64 0,.int .i64 0,.int .i64 0]] wx fun e w'=>∃(G b bm:Nat) (S':Nat->Prop),e=.returned (.tuple #[.agg #[.int .i64 40,.int .i64 100,.int .i64 300,.int .i64 0,.int .i64 0,.int .i64 0,.int .i64 0,.int .i64 1,.int .i64 2,.int .i64 0,.int .i64 1,.slice (some ⟨G,0,none⟩) 1 1,.slice none 0 0,.int .i64 12,.int .i64 1,.int .i64 0,.slice none 0 0,.bool false],.int .i64 0])/\wx.heap.size<=G/\ ¬ S' G/\Blk w' G (Sh.cl e1).toArray 48/\(newD 5000).fl b=none/\b≠bm/\DiskAt w' S' bd (freshD b bm (newD 5000))/\Gr S1 wx S' w' from
  fun wx S1 bd hD=>Open_go hD ⟨rfl,rfl⟩ rfl (by show(100:Int)<=5000;omega) (by show 0<=1000;omega) ⟨40,100,300,0,0,0,0⟩ (by decide))
 have HOC:=Lib.hid (fun(wx:World) (bd:Nat)=>Open_conf (.pointer (some ⟨bd,0,none⟩)) ⟨bd,rfl⟩ wx);have HOH:=Lib.hid (show ∀(wx:World) (G:Nat),Blk wx G (Sh.cl e1).toArray 48->Calls Tryz.prog 7 #[.agg #[.int .i64 40,.int .i64 100,.int .i64 300,.int .i64 0,.int .i64 0,.int .i64 0,.int .i64 0,.int .i64 1,.int .i64 2,.int .i64 0,.int .i64 1,.slice (some ⟨G,0,none⟩) 1 1,.slice none 0 0,.int .i64 12,.int .i64 1,.int .i64 0,.slice none 0 0,.bool false]] wx fun e w'=>e=.returned (.tuple #[.agg #[.int .i64 1,.int .i64 1,.int .i64 1],.int .i64 0])/\Below wx.heap.size wx w' from fun wx G hG=>by
  have:=ohead_any (s1 ⟨40,100,300,0,0,0,0⟩) ⟨some ⟨G,0,none⟩,1,1⟩ ⟨none,0,0⟩ ⟨none,0,0⟩ wx (str1 rfl rfl rfl hG) (by show 1<=1000000;omega) (by show 0<=100000;omega) (by show 0<=1000000;omega);rw[s1_ok (by decide)] at this;exact this)
 have HCK:=Lib.hid (show ∀(wx:World) (G:Nat),Blk wx G (Sh.cl e1).toArray 48->Calls Tryz.prog 10 #[.agg #[.int .i64 40,.int .i64 100,.int .i64 300,.int .i64 0,.int .i64 0,.int .i64 0,.int .i64 0,.int .i64 1,.int .i64 2,.int .i64 0,.int .i64 1,.slice (some ⟨G,0,none⟩) 1 1,.slice none 0 0,.int .i64 12,.int .i64 1,.int .i64 0,.slice none 0 0,.bool false]] wx fun e w'=>e=.returned (.int .i64 0)/\Below wx.heap.size wx w' from fun wx G hG=>by
  have:=ocheck_any (s1 ⟨40,100,300,0,0,0,0⟩) ⟨some ⟨G,0,none⟩,1,1⟩ ⟨none,0,0⟩ ⟨none,0,0⟩ wx (str1 rfl rfl rfl hG) (by show 1<=1000000;omega) (by show 0<=100000;omega) (by show 0<=1000000;omega);rw[s1_ok (by decide)] at this;exact this)
 have HZ:=Lib.hid (fun w=>ocheck_zero w);have HCP:=Lib.hid (show ∀(wx:World) (G:Nat),Blk wx G (Sh.cl e1).toArray 48->Calls Tryz.prog 13 #[.agg #[.int .i64 40,.int .i64 100,.int .i64 300,.int .i64 0,.int .i64 0,.int .i64 0,.int .i64 0,.int .i64 1,.int .i64 2,.int .i64 0,.int .i64 1,.slice (some ⟨G,0,none⟩) 1 1,.slice none 0 0,.int .i64 12,.int .i64 1,.int .i64 0,.slice none 0 0,.bool false]] wx fun e w'=>∃(x y z:Sl),e=.returned (sagg (s1 ⟨40,100,300,0,0,0,0⟩) x y z)/\Str w' w'.heap.size (s1 ⟨40,100,300,0,0,0,0⟩) x y z/\(x.n<=1000000/\y.n<=1000000/\z.n<=1000000)/\Below wx.heap.size wx w' from fun wx G hG=>by
  refine(ocopy_any (s1 ⟨40,100,300,0,0,0,0⟩) ⟨some ⟨G,0,none⟩,1,1⟩ ⟨none,0,0⟩ ⟨none,0,0⟩ wx (str1 rfl rfl rfl hG) (by show 1<=1000000;omega) (by show 0<=1000000;omega) (by show 0<=1000000;omega)).mono ?_;rintro e w' ⟨⟨xA,xc,yA,yc,zA,zc,rfl,o1,o2,o3,n1,n2,n3⟩,hb⟩;refine⟨_,_,_,rfl,⟨Rd.of_own o1,Rd.of_own o2,Rd.of_own o3,?_,?_,n1,n2,n3⟩,⟨by show 1<=1000000;omega,by show 0<=1000000;omega,by show 0<=1000000;omega⟩,hb⟩
  ·obtain⟨_,_,e1,q1,-⟩:=own_slice o1
   obtain⟨_,_,e2,q2,-⟩:=own_slice o2;obtain⟨_,_,e3,q3,-⟩:=own_slice o3;cases e1;cases e2;cases e3
   exact⟨q1,q2,q3⟩
  ·obtain⟨_,_,e1,-,q1⟩:=own_slice o1
   obtain⟨_,_,e2,-,q2⟩:=own_slice o2;obtain⟨_,_,e3,-,q3⟩:=own_slice o3;cases e1;cases e2;cases e3
   exact⟨q1,q2,q3⟩)
 have HSM:=Lib.hid (show ∀(wx:World) (G:Nat) (x y z:Sl),Blk wx G (Sh.cl e1).toArray 48->Str wx wx.heap.size (s1 ⟨40,100,300,0,0,0,0⟩) x y z->(x.n<=1000000/\y.n<=1000000/\z.n<=1000000)->Calls Tryz.prog 11 #[sagg (s1 ⟨40,100,300,0,0,0,0⟩) x y z,.agg #[.int .i64 40,.int .i64 100,.int .i64 300,.int .i64 0,.int .i64 0,.int .i64 0,.int .i64 0,.int .i64 1,.int .i64 2,.int .i64 0,.int .i64 1,.slice (some ⟨G,0,none⟩) 1 1,.slice none 0 0,.int .i64 12,.int .i64 1,.int .i64 0,.slice none 0 0,.bool false]] wx fun e w'=>e=.returned (.bool true)/\Below wx.heap.size wx w' from fun wx G x y z hG hx hn=>by
  have:=osame_any (s1 ⟨40,100,300,0,0,0,0⟩) (s1 ⟨40,100,300,0,0,0,0⟩) x y z ⟨some ⟨G,0,none⟩,1,1⟩ ⟨none,0,0⟩ ⟨none,0,0⟩ wx hx (str1 rfl rfl rfl hG) hn ⟨by show 1<=1000000;omega,by show 0<=1000000;omega,by show 0<=1000000;omega⟩;rw[sameSt_refl] at this;exact this)
 have HLS:=Lib.hid (show ∀(wx:World) (S1:Nat->Prop) (bd b bm:Nat),DiskAt wx S1 bd (freshD b bm (newD 5000))->Calls Tryz.prog 22 #[.pointer (some ⟨bd,0,none⟩)] wx fun e w'=>∃(A:Option Addr) (c:Nat),e=.returned (.slice A 2 c)/\Below wx.heap.size wx w' from fun wx S1 bd b bm hD=>by
  have hnow:=fresh_now (D:=newD 5000) rfl b bm;refine(list_any hD rfl (by
   rw[hnow];intro x hx;simp only[List.mem_cons,List.not_mem_nil,or_false] at hx;rcases hx with rfl|rfl
   ·show(segN 1 1).size<=_
    rw[segN_size];decide
   ·show maniN.size<=_
    decide)).mono ?_
  rintro e w' ⟨v,rfl,hown,hb⟩;rw[srt_len,hnow] at hown;obtain⟨A,c,rfl,-,-⟩:=own_slice hown;exact⟨A,c,rfl,hb⟩)
 go_enter Tryz.func6, Tryz.ntmps6
 go_upto_region 4 with (go_at_call 19;refine(HNW.out _).mono ?_;rintro e1 w1 ⟨bd,rfl,S1,hD1,hg1⟩;have HD1:=Lib.hid hD1;have HG1:=Lib.hid hg1;clear hD1 hg1)
 clear HNW;go_upto_region 5 with (first
  |(go_at_call 21;refine(HCN.out _).mono ?_;rintro e2 w2 ⟨rfl,hb2⟩;have HB2:=Lib.hid hb2;clear hb2)
  |(go_at_call 20;refine(HOP.out _ S1 bd (HD1.out.ext HB2.out)).mono ?_;rintro e3 w3 ⟨G,b,bm,S3,rfl,hlG,hnG,hG,hbn,hbb,hD3,hg3⟩;have HG3:=Lib.hid (And.intro hnG hG);have HD3:=Lib.hid hD3;have HGR3:=Lib.hid hg3;clear hlG hnG hG hbn hbb hD3 hg3)
  |(refine wpList_store_new w3 #[.int .i64 0,.int .i64 0,.int .i64 0,.int .i64 0,.int .i64 0,.int .i64 0,.int .i64 0,.int .i64 0,.int .i64 0,.int .i64 0,.int .i64 0,.slice none 0 0,.slice none 0 0,.int .i64 0,.int .i64 0,.int .i64 0,.slice none 0 0,.bool false] rfl 30 (.tmp 3) (.tmp 23) rfl #[.int .i64 40,.int .i64 100,.int .i64 300,.int .i64 0,.int .i64 0,.int .i64 0,.int .i64 0,.int .i64 1,.int .i64 2,.int .i64 0,.int .i64 1,.slice (some ⟨G,0,none⟩) 1 1,.slice none 0 0,.int .i64 12,.int .i64 1,.int .i64 0,.slice none 0 0,.bool false] (by simp[go_sem,Act.eval]) (by simp[go_sem,Act.eval]) st_info rfl (by simp[Value.oneCell']) ?_))
 have HW4:=Lib.hid ((((HG1.out.trans (Gr.of_below HB2.out)).trans HGR3.out).below (Nat.le_refl _) (fun k h=>h.elim)).trans ((ext_alloc w3 (.cells #[.int .i64 40,.int .i64 100,.int .i64 300,.int .i64 0,.int .i64 0,.int .i64 0,.int .i64 0,.int .i64 1,.int .i64 2,.int .i64 0,.int .i64 1,.slice (some ⟨G,0,none⟩) 1 1,.slice none 0 0,.int .i64 12,.int .i64 1,.int .i64 0,.slice none 0 0,.bool false] 30)).mono (((HG1.out.trans (Gr.of_below HB2.out)).trans HGR3.out).size)));have HT4:=Lib.hid (Blk.new w3 #[.int .i64 40,.int .i64 100,.int .i64 300,.int .i64 0,.int .i64 0,.int .i64 0,.int .i64 0,.int .i64 1,.int .i64 2,.int .i64 0,.int .i64 1,.slice (some ⟨G,0,none⟩) 1 1,.slice none 0 0,.int .i64 12,.int .i64 1,.int .i64 0,.slice none 0 0,.bool false] 30);have HE4:=Lib.hid (HG3.out.2.alloc (.cells #[.int .i64 40,.int .i64 100,.int .i64 300,.int .i64 0,.int .i64 0,.int .i64 0,.int .i64 0,.int .i64 1,.int .i64 2,.int .i64 0,.int .i64 1,.slice (some ⟨G,0,none⟩) 1 1,.slice none 0 0,.int .i64 12,.int .i64 1,.int .i64 0,.slice none 0 0,.bool false] 30));have HD4:=Lib.hid (HD3.out.ext (ext_alloc w3 (.cells #[.int .i64 40,.int .i64 100,.int .i64 300,.int .i64 0,.int .i64 0,.int .i64 0,.int .i64 0,.int .i64 1,.int .i64 2,.int .i64 0,.int .i64 1,.slice (some ⟨G,0,none⟩) 1 1,.slice none 0 0,.int .i64 12,.int .i64 1,.int .i64 0,.slice none 0 0,.bool false] 30)));clear HD1 HG1 HB2 HG3 HD3 HGR3 HCN HOP;generalize w3.alloc (.cells #[.int .i64 40,.int .i64 100,.int .i64 300,.int .i64 0,.int .i64 0,.int .i64 0,.int .i64 0,.int .i64 1,.int .i64 2,.int .i64 0,.int .i64 1,.slice (some ⟨G,0,none⟩) 1 1,.slice none 0 0,.int .i64 12,.int .i64 1,.int .i64 0,.slice none 0 0,.bool false] 30)=w4 at *
 generalize w3.heap.size=b3 at *
 go_upto_region 6 with (first
  |(go_at_call 20;refine(HOC.out _ bd).mono ?_;rintro e5 w5 ⟨rfl,hb5⟩;have HB5:=Lib.hid hb5;clear hb5)
  |(refine wpList_store_new w5 #[.int .i64 0,.int .i64 0,.int .i64 0,.int .i64 0,.int .i64 0,.int .i64 0,.int .i64 0,.int .i64 0,.int .i64 0,.int .i64 0,.int .i64 0,.slice none 0 0,.slice none 0 0,.int .i64 0,.int .i64 0,.int .i64 0,.slice none 0 0,.bool false] rfl 30 (.tmp 5) (.tmp 29) rfl #[.int .i64 0,.int .i64 0,.int .i64 0,.int .i64 0,.int .i64 0,.int .i64 0,.int .i64 0,.int .i64 0,.int .i64 0,.int .i64 0,.int .i64 0,.slice none 0 0,.slice none 0 0,.int .i64 0,.int .i64 0,.int .i64 0,.slice none 0 0,.bool false] (by simp[go_sem,Act.eval]) (by simp[go_sem,Act.eval]) st_info rfl (by simp[Value.oneCell']) ?_))
 have HB6:=Lib.hid (HB5.out.trans ((ext_alloc w5 (.cells #[.int .i64 0,.int .i64 0,.int .i64 0,.int .i64 0,.int .i64 0,.int .i64 0,.int .i64 0,.int .i64 0,.int .i64 0,.int .i64 0,.int .i64 0,.slice none 0 0,.slice none 0 0,.int .i64 0,.int .i64 0,.int .i64 0,.slice none 0 0,.bool false] 30)).mono HB5.out.size));have HW6:=Lib.hid (HW4.out.trans (HB6.out.mono HW4.out.size));have HT6:=Lib.hid (HT4.out.ext HB6.out);have HE6:=Lib.hid (HE4.out.ext HB6.out);have HD6:=Lib.hid (HD4.out.ext HB6.out);clear HB5 HB6 HW4 HT4 HE4 HD4 HOC;generalize w5.alloc (.cells #[.int .i64 0,.int .i64 0,.int .i64 0,.int .i64 0,.int .i64 0,.int .i64 0,.int .i64 0,.int .i64 0,.int .i64 0,.int .i64 0,.int .i64 0,.slice none 0 0,.slice none 0 0,.int .i64 0,.int .i64 0,.int .i64 0,.slice none 0 0,.bool false] 30)=w6 at *
 generalize w5.heap.size=b5 at *
 go_upto_region 7 with (first
  |(refine wpList_load_row rfl 30 (.tmp 3) rfl b3 #[.int .i64 40,.int .i64 100,.int .i64 300,.int .i64 0,.int .i64 0,.int .i64 0,.int .i64 0,.int .i64 1,.int .i64 2,.int .i64 0,.int .i64 1,.slice (some ⟨G,0,none⟩) 1 1,.slice none 0 0,.int .i64 12,.int .i64 1,.int .i64 0,.slice none 0 0,.bool false] _ (by simp[go_sem,Act.eval]) HT6.out Tryz.underlying30 rfl st_info ?_)
  |(go_at_call 7;refine(HOH.out _ G HE6.out).mono ?_;rintro e7 w7 ⟨rfl,hb7⟩;have HB7:=Lib.hid hb7;clear hb7))
 have HB8:=Lib.hid (HB7.out.trans ((ext_alloc w7 (.cells #[.int .i64 1,.int .i64 1,.int .i64 1] 35)).mono HB7.out.size));have HW8:=Lib.hid (HW6.out.trans (HB8.out.mono HW6.out.size));have HT8:=Lib.hid (HT6.out.ext HB8.out);have HE8:=Lib.hid (HE6.out.ext HB8.out);have HD8:=Lib.hid (HD6.out.ext HB8.out);have HH8:=Lib.hid (Blk.new w7 #[.int .i64 1,.int .i64 1,.int .i64 1] 35);clear HB7 HB8 HW6 HT6 HE6 HD6 HOH;generalize w7.alloc (.cells #[.int .i64 1,.int .i64 1,.int .i64 1] 35)=w8 at *
 generalize w7.heap.size=b7 at *
 obtain⟨Z,hZ⟩:∃Z:Array Value,Z= #[.int .i64 40,.int .i64 100,.int .i64 300,.int .i64 0,.int .i64 0,.int .i64 0,.int .i64 0,.int .i64 1,.int .i64 2,.int .i64 0,.int .i64 1,.slice (some ⟨G,0,none⟩) 1 1,.slice none 0 0,.int .i64 12,.int .i64 1,.int .i64 0,.slice none 0 0,.bool false]:=⟨_,rfl⟩
 have hck:=fun(wx:World) hG=>HCK.out wx G hG
 have hcp:=fun(wx:World) hG=>HCP.out wx G hG
 have hsm:=fun(wx:World) x y z hG=>HSM.out wx G x y z hG
 rw[<-hZ] at hck hcp hsm;have HCK2:=Lib.hid (fun(wx:World) (hb:Below w8.heap.size w8 wx)=>hck wx (HE8.out.ext hb));have HCP2:=Lib.hid (fun(wx:World) (hb:Below w8.heap.size w8 wx)=>hcp wx (HE8.out.ext hb));have HSM2:=Lib.hid (fun(wx:World) x y z (hb:Below w8.heap.size w8 wx)=>hsm wx x y z (HE8.out.ext hb));have HLS2:=Lib.hid (fun(wx:World) (hb:Below w8.heap.size w8 wx)=>HLS.out wx S3 bd b bm (HD8.out.ext hb));have hzz:Z.size=18:=by rw[hZ];rfl
 have hrt:RowTy Tryz.prog 30 18:=⟨st_info,_,Tryz.underlying30⟩
 have HN:=Lib.hid (show ∀wx,Below w8.heap.size w8 wx->(fun wx=>((isRowAt wx b3=true/\rowAt wx b3=Z)/\wx.cell? ⟨b3,14,none⟩=some (.int .i64 1)/\wx.cell? ⟨b3,13,none⟩=some (.int .i64 12)/\wx.cell? ⟨b3,11,none⟩=some (.slice (some ⟨G,0,none⟩) 1 1)/\wx.cell? ⟨b7,0,none⟩=some (.int .i64 1)/\wx.cell? ⟨b7,1,none⟩=some (.int .i64 1)/\wx.cell? ⟨b7,2,none⟩=some (.int .i64 1))/\Below w8.heap.size w8 wx) wx from fun wx hb =>
  ⟨⟨by rw[hZ];exact(HT8.out.ext hb).rowAt,(HT8.out.ext hb).cell 14 rfl,(HT8.out.ext hb).cell 13 rfl,(HT8.out.ext hb).cell 11 rfl,(HH8.out.ext hb).cell 0 rfl,(HH8.out.ext hb).cell 1 rfl,(HH8.out.ext hb).cell 2 rfl⟩,hb⟩)
 have HSd:=Lib.hid (HN.out w8.drew ⟨rfl,rfl,rfl,Nat.le_refl _,fun _ _=>rfl⟩);clear hZ hck hcp hsm HT8 HE8 HD8 HH8 HCK HCP HSM HLS;go_region_held3 (fun wx=>((isRowAt wx b3=true/\rowAt wx b3=Z)/\wx.cell? ⟨b3,14,none⟩=some (.int .i64 1)/\wx.cell? ⟨b3,13,none⟩=some (.int .i64 12)/\wx.cell? ⟨b3,11,none⟩=some (.slice (some ⟨G,0,none⟩) 1 1)/\wx.cell? ⟨b7,0,none⟩=some (.int .i64 1)/\wx.cell? ⟨b7,1,none⟩=some (.int .i64 1)/\wx.cell? ⟨b7,2,none⟩=some (.int .i64 1))/\Below w8.heap.size w8 wx) (first|exact HSd.out|assumption) (first
  |(go_at_call_of 10 Z;refine(HCK2.out _ HSd.out.2).mono ?_;rintro ea wa ⟨rfl,hba⟩;have hSa:=HN.out wa (HSd.out.2.trans (hba.mono HSd.out.2.size)))
  |(go_at_call 10;refine(HZ.out _).mono ?_;rintro eb wb ⟨rfl,hbb⟩;have hSb:=HN.out wb (hSa.2.trans (hbb.mono hSa.2.size)))
  |(go_at_call 13;refine(HCP2.out _ hSb.2).mono ?_;rintro ec wc ⟨x,y,z,rfl,hst,hnn,hbc⟩;have hSc:=HN.out wc (hSb.2.trans (hbc.mono hSb.2.size));have HST:=Lib.hid (And.intro hst hnn);clear hst hnn)
  |(go_at_call 11;refine(HSM2.out _ x y z hSc.2 HST.out.1 HST.out.2).mono ?_;rintro ed wd ⟨rfl,hbd⟩;have hSd:=HN.out wd (hSc.2.trans (hbd.mono hSc.2.size)))
  |(go_at_call 22;refine(HLS2.out _ hSd.2).mono ?_;rintro ee we ⟨A,c,rfl,hbe⟩;have hSe:=HN.out we (hSd.2.trans (hbe.mono hSd.2.size))))
 all_goals
  go_wp2_with fail
  go_ret
  exact⟨rfl,HW8.out.trans (hSe.2.mono HW8.out.size)⟩
end Dk
end Go.Proofs.YtphfmgapiimliaaGreat
