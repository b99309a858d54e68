/- open.Open of a disk that has the first segment and the first manifest. open.Open of a disk that has the first segment and the first manifest: the whole. The disk of the probe: without its manifest; rebuilt. -/
import Derived.Test.YtphfmgapiimliaaGreatSc40
import Derived.Test.YtphfmgapiimliaaGreatSc43
import Derived.Test.YtphfmgapiimliaaGreatSc41
namespace Go.Proofs.YtphfmgapiimliaaGreat
namespace Oa
open Go.RowKit Hd Rd Fm Sn Nf Dk Sv
open Go.Proofs.YtphfmgapiimliaaGreat.Op
structure Two (D:DS):Prop where
 off:D.off=false
 now:∃b bm q q2,D.now=[(segN 1 1,b),(maniN,bm)]/\D.fl b=some (q,hdrB 1 1 1)/\D.fl bm=some (q2,frB 4 (mfB m1))
def Ow (w:World) (G c:Nat):Prop:=w.ownsRow 0 48 9 (.slice (some ⟨G,0,none⟩) 1 c) 1 (flS [e1])
section
variable {w w' wx:World} {S:Nat->Prop} {bd gN gS G c:Nat} {v:Value} {D:DS}
theorem Ow.of {B:Nat} (h:w.ownsRow B 48 9 (.slice (some ⟨G,0,none⟩) 1 c) 1 (flS [e1])):Ow w G c:=own_lower h (Nat.zero_le _)
theorem Ow.lt (h:Ow w G c):G<w.heap.size:=(World.ownsRow.lt h G rfl).2
theorem Ow.rd (h:Ow w G c):Rd w w.heap.size 9 (some ⟨G,0,none⟩) 1 (flS [e1]):=Rd.of_own h
theorem Ow.cap (h:Ow w G c):1<=c/\c<=maxLen:=by
 obtain⟨A,c',e,h1,h2⟩:=own_slice h;cases e
 exact⟨h1,h2⟩
theorem Ow.ext (h:Ow w G c) (hb:Below w.heap.size w w'):Ow w' G c:=own_block h fun g hg=>hb.block g (World.ownsRow.lt h g hg).2
theorem own_blk {v:Value} {g:Nat} (hv:v=.slice (some ⟨G,0,none⟩) 1 c) (hg:v.ownBlock=some g):g=G:=by
 subst hv;simp only[Value.ownBlock,Option.map_some,Option.some.injEq] at hg;exact hg.symm
theorem Ow.far (h:Ow w G c) {k:Nat} (hk:G≠k) (j:Nat) (u:Value):Ow (w.setCell ⟨k,j,none⟩ u) G c :=
 own_block h fun g hg=>Below.heap_setCell w ⟨k,j,none⟩ u g (by rw[own_blk rfl hg];exact hk)
theorem Ow.farRow (h:Ow w G c) {k:Nat} (hk:G≠k) (z:Array Value):Ow (w.setRow k z) G c :=
 own_block h fun g hg=>setRow_other w k g z (by rw[own_blk rfl hg];exact hk)
theorem Ow.str {s:St} (h:Ow w G c) (h1:s.mf.es=[e1]) (h2:s.bs=[]) (h3:s.wt=[]):Str w w.heap.size s ⟨some ⟨G,0,none⟩,1,c⟩ ⟨none,0,0⟩ ⟨none,0,0⟩ :=
 ⟨by rw[h1];exact h.rd,by rw[h2];exact Rd.nil,by rw[h3];exact Rd.nil,⟨h.cap.1,Nat.le_refl _,Nat.le_refl _⟩,⟨h.cap.2,by show 0<=maxLen;decide,by show 0<=maxLen;decide⟩,⟨(fun h=>by cases h),(fun _=>rfl),(fun _=>rfl)⟩⟩
theorem two_sizes (h:Two D):∀x∈D.now,x.1.size<=maxLen:=by
 obtain⟨b,bm,q,q2,hn,-⟩:=h.now;rw[hn];intro x hx;simp only[List.mem_cons,List.not_mem_nil,or_false] at hx;rcases hx with rfl|rfl
 ·show(segN 1 1).size<=_
  rw[segN_size];decide
 ·show maniN.size<=_
  decide
set_option maxHeartbeats 6400000 in
set_option maxRecDepth 100000 in
theorem found_two (h:DiskAt w S bd D) (h2:Two D) :
  Calls Tryz.prog 51 #[.pointer (some ⟨bd,0,none⟩)] w fun e w'=>(∃G c,e=.returned (.tuple #[.agg #[.int .i64 1,.int .i64 2,.int .i64 0,.int .i64 1,.slice (some ⟨G,0,none⟩) 1 c],.int .i64 0])/\Ow w' G c/\w.heap.size<=G)/\Below w.heap.size w w':=by
 have mixed:Tryz.prog.follows .mixedOrders=true:=by kernel_rfl
 have HLD:=Lib.hid (fun(wx:World) (hx:Below w.heap.size w wx)=>by
  obtain⟨b,bm,q,q2,hn,hp,hp2⟩:=h2.now;exact Tn.load_one (h.ext hx) h2.off (b:=bm) (q:=q2) (by rw[hn,lk_cons,if_neg (seg_mani 1 1),lk_cons,if_pos rfl]) hp2)
 have HNM:=Lib.hid (fun(wx:World) (G c:Nat) (ho:Ow wx G c)=>Tn.names1 G c wx ho.rd);have HCL:=Lib.hid (fun(wx:World) (hx:Below w.heap.size w wx) (g c:Nat) (hr:Rd wx wx.heap.size 1 (some ⟨g,0,none⟩) 2 (txv [maniN,segN 1 1]))=>Tn.clean_keep (h.ext hx) h2.off (two_sizes h2) [maniN,segN 1 1] (by
  obtain⟨b,bm,q,q2,hn,-⟩:=h2.now;rw[hn];intro x hx;simp only[List.mem_cons,List.not_mem_nil,or_false] at hx ⊢;rcases hx with rfl|rfl
  ·exact .inr rfl
  ·exact .inl rfl) (some ⟨g,0,none⟩) 2 c hr (by omega))
 clear h h2;have HN:=Lib.hid (Blk.new w #[.int .i64 0,.int .i64 0,.int .i64 0,.int .i64 0,.slice none 0 0] 26);have HB:=Lib.hid (ext_alloc w (.cells #[.int .i64 0,.int .i64 0,.int .i64 0,.int .i64 0,.slice none 0 0] 26));generalize txv [maniN,segN 1 1]=TX at *
 go_enter Tryz.func51, Tryz.ntmps51
 go_upto_region 2 with (go_at_call 82;refine(HLD.out _ HB.out).mono ?_;rintro e1 w1 ⟨⟨G,c,rfl,ho1⟩,hb1⟩;have HO1:=Lib.hid ho1;have HB1:=Lib.hid hb1;clear ho1 hb1)
 have hb2:=HB1.out.trans ((ext_alloc w1 (.cells #[.int .i64 1,.int .i64 2,.int .i64 0,.int .i64 1,.slice (some ⟨G,0,none⟩) 1 c] 26)).mono HB1.out.size);have HN2:=Lib.hid (HN.out.ext hb2);have HB2:=Lib.hid (HB.out.trans (hb2.mono HB.out.size));have HO2:=Lib.hid ((Ow.of HO1.out).ext (ext_alloc w1 (.cells #[.int .i64 1,.int .i64 2,.int .i64 0,.int .i64 1,.slice (some ⟨G,0,none⟩) 1 c] 26)));have HX2:=Lib.hid (Blk.new w1 #[.int .i64 1,.int .i64 2,.int .i64 0,.int .i64 1,.slice (some ⟨G,0,none⟩) 1 c] 26);have HGN:=Lib.hid (show w.heap.size<G from Nat.lt_of_lt_of_le HN.out.lt (World.ownsRow.lt HO1.out G rfl).1);clear hb2 HN HB HB1 HO1;generalize w1.alloc (.cells #[.int .i64 1,.int .i64 2,.int .i64 0,.int .i64 1,.slice (some ⟨G,0,none⟩) 1 c] 26)=w2 at *
 generalize w1.heap.size=bx at *
 go_wp2_with (first
  |(refine wpList_load_row rfl 26 (.tmp 4) rfl bx #[.int .i64 1,.int .i64 2,.int .i64 0,.int .i64 1,.slice (some ⟨G,0,none⟩) 1 c] _ (by simp[go_sem,Act.eval]) HX2.out Tryz.underlying26 rfl mf_info ?_)
  |(go_at_call 85;refine(HNM.out _ _ _ HO2.out).mono ?_;rintro e3 w3 ⟨⟨g3,c3,rfl,hr3⟩,hb3⟩;have HR3:=Lib.hid hr3;have HB3:=Lib.hid (HB2.out.trans (hb3.mono HB2.out.size));have HO3:=Lib.hid (HO2.out.ext hb3);have HX3:=Lib.hid (HX2.out.ext hb3);have HN3:=Lib.hid (HN2.out.ext hb3);clear hr3 hb3)
  |(go_at_call 84;refine(HCL.out _ HB3.out _ _ HR3.out).mono ?_;rintro e4 w4 ⟨rfl,hb4⟩;have HB4:=Lib.hid (HB3.out.trans (hb4.mono HB3.out.size));have HO4:=Lib.hid (HO3.out.ext hb4);have HX4:=Lib.hid (HX3.out.ext hb4);have HN4:=Lib.hid (HN3.out.ext hb4);clear hb4)
  |(refine wpList_load_row rfl 26 (.tmp 4) rfl bx #[.int .i64 1,.int .i64 2,.int .i64 0,.int .i64 1,.slice (some ⟨G,0,none⟩) 1 c] _ (by simp[go_sem,Act.eval]) HX4.out Tryz.underlying26 rfl mf_info ?_)
  |(refine wpList_store_row rfl 26 (.tmp 2) (.tmp 28) rfl w.heap.size #[.int .i64 1,.int .i64 2,.int .i64 0,.int .i64 1,.slice (some ⟨G,0,none⟩) 1 c] #[.int .i64 0,.int .i64 0,.int .i64 0,.int .i64 0,.slice none 0 0] (by simp[go_sem,Act.eval]) (by simp[go_sem,Act.eval]) HN4.out mf_info rfl (by simp[Value.oneCell']) ?_))
 refine bodyPost_ret (v:=.tuple #[.agg #[.int .i64 1,.int .i64 2,.int .i64 0,.int .i64 1,.slice (some ⟨G,0,none⟩) 1 c],.int .i64 0]) (by exact results_cell2 rfl rfl rfl (HN4.out.set #[.int .i64 1,.int .i64 2,.int .i64 0,.int .i64 1,.slice (some ⟨G,0,none⟩) 1 c]) Tryz.underlying26 rfl mf_info) (by exact rfl) ?_;exact⟨⟨G,c,rfl,HO4.out.farRow (Ne.symm (Nat.ne_of_lt HGN.out)) _,Nat.le_of_lt HGN.out⟩,ext_setRow HB4.out (Nat.le_refl _) _⟩
end
end Oa
end Go.Proofs.YtphfmgapiimliaaGreat
namespace Go.Proofs.YtphfmgapiimliaaGreat
namespace Oa
open Go.RowKit Hd Rd Fm Sn Nf Dk Sv
open Go.Proofs.YtphfmgapiimliaaGreat.Op
theorem build_st2 (cb ct cs ca ck cy co:Int) (G cG:Nat) (w:World):(Instr.build 30 #[(0,.agg #[.int .i64 cb,.int .i64 ct,.int .i64 cs,.int .i64 ca,.int .i64 ck,.int .i64 cy,.int .i64 co]),(1,.agg #[.int .i64 1,.int .i64 2,.int .i64 0,.int .i64 1,.slice (some ⟨G,0,none⟩) 1 cG]),(5,.int .i64 0)]).run Tryz.prog w=.ok (.agg #[.int .i64 cb,.int .i64 ct,.int .i64 cs,.int .i64 ca,.int .i64 ck,.int .i64 cy,.int .i64 co,.int .i64 1,.int .i64 2,.int .i64 0,.int .i64 1,.slice (some ⟨G,0,none⟩) 1 cG,.slice none 0 0,.int .i64 0,.int .i64 0,.int .i64 0,.slice none 0 0,.bool false]) w:=by
 simp[go_sem,Instr.build]
section
variable {w w':World} {S:Nat->Prop} {bd gN gS:Nat} {v:Value} {D:DS}
set_option maxHeartbeats 16000000 in
set_option maxRecDepth 100000 in
theorem Open_two (h:DiskAt w S bd D) (h2:Two D) (c:Cf) (hcf:okCf c=true) :
  Calls Tryz.prog 20 #[.pointer (some ⟨bd,0,none⟩),.agg (cfl c).toArray] w fun e w'=>(∃G cG,e=.returned (.tuple #[.agg (stc (s1 c) ⟨some ⟨G,0,none⟩,1,cG⟩ ⟨none,0,0⟩ ⟨none,0,0⟩),.int .i64 0])/\Ow w' G cG)/\Below w.heap.size w w':=by
 have mixed:Tryz.prog.follows .mixedOrders=true:=by kernel_rfl
 have HPK:=fun wx=>pcheck_any c wx
 rw[show cfE c=0 from if_pos hcf] at HPK;replace HPK:=Lib.hid HPK;have HFD:=Lib.hid (fun(wx:World) (hx:Below w.heap.size w wx)=>found_two (h.ext hx) h2);have HTR:=Lib.hid (show ∀(wx:World),Below w.heap.size w wx->Calls Tryz.prog 52 #[.pointer (some ⟨bd,0,none⟩),.agg #[.int .i64 1,.int .i64 1,.int .i64 1]] wx fun e w'=>e=.returned (.tuple #[.slice none 0 0,.int .i64 12,.int .i64 0])/\Below wx.heap.size wx w' from fun wx hx=>by
  obtain⟨b,bm,q,q2,hn,hp,hp2⟩:=h2.now;have:=Trim_head (h.ext hx) h2.off (i:=1) (g:=1) (f:=1) (b:=b) (q:=q) (by omega) (by show lk (segN 1 1) _=_;rw[hn,lk_cons,if_pos rfl]) hp;rw[hdr_size] at this;exact this)
 have HOK:=Lib.hid (s1_ok hcf);obtain⟨cb,ct,cs,ca,ck,cy,co⟩:=c;have HHD:=Lib.hid (show ∀(wx:World) (G cG:Nat),Ow wx G cG->Calls Tryz.prog 23 #[.agg #[.int .i64 cb,.int .i64 ct,.int .i64 cs,.int .i64 ca,.int .i64 ck,.int .i64 cy,.int .i64 co,.int .i64 1,.int .i64 2,.int .i64 0,.int .i64 1,.slice (some ⟨G,0,none⟩) 1 cG,.slice none 0 0,.int .i64 0,.int .i64 0,.int .i64 0,.slice none 0 0,.bool false]] wx fun e w'=>e=.returned (.agg #[.int .i64 1,.int .i64 1,.int .i64 1])/\Below wx.heap.size wx w' from fun wx G cG hG=>lhead_any (s0 ⟨cb,ct,cs,ca,ck,cy,co⟩) ⟨some ⟨G,0,none⟩,1,cG⟩ ⟨none,0,0⟩ ⟨none,0,0⟩ wx (hG.str rfl rfl rfl) (by show 0<1;omega) (by show 1<=1000000;omega));have HNX:=Lib.hid (show ∀(wx:World),Calls Tryz.prog 53 #[.agg #[.int .i64 1,.int .i64 1,.int .i64 1],.slice none 0 0] wx fun e w'=>e=.returned (.int .i64 1)/\Below wx.heap.size wx w' from fun wx=>nextI_any none 0 0 1 1 1 [] wx Rd.nil (by omega) rfl (by omega));have HCK:=Lib.hid (show ∀(wx:World) (G cG:Nat),Ow wx G cG->Calls Tryz.prog 10 #[.agg #[.int .i64 cb,.int .i64 ct,.int .i64 cs,.int .i64 ca,.int .i64 ck,.int .i64 cy,.int .i64 co,.int .i64 1,.int .i64 2,.int .i64 0,.int .i64 1,.slice (some ⟨G,0,none⟩) 1 cG,.slice none 0 0,.int .i64 12,.int .i64 1,.int .i64 0,.slice none 0 0,.bool false]] wx fun e w'=>e=.returned (.int .i64 0)/\Below wx.heap.size wx w' from fun wx G cG hG=>by
  have:=ocheck_any (s1 ⟨cb,ct,cs,ca,ck,cy,co⟩) ⟨some ⟨G,0,none⟩,1,cG⟩ ⟨none,0,0⟩ ⟨none,0,0⟩ wx (hG.str rfl rfl rfl) (by show 1<=1000000;omega) (by show 0<=100000;omega) (by show 0<=1000000;omega);rw[HOK.out] at this;exact this)
 unfold cfl;dsimp only;clear h h2 hcf HOK;have HB:=Lib.hid (ext_second w (.cells #[.int .i64 cb,.int .i64 ct,.int .i64 cs,.int .i64 ca,.int .i64 ck,.int .i64 cy,.int .i64 co] 23) (.cells #[.int .i64 0,.int .i64 0,.int .i64 0,.int .i64 0,.int .i64 0,.int .i64 0,.int .i64 0,.int .i64 0,.int .i64 0,.int .i64 0,.int .i64 0,.slice none 0 0,.slice none 0 0,.int .i64 0,.int .i64 0,.int .i64 0,.slice none 0 0,.bool false] 30));have HC:=Lib.hid ((Blk.new w #[.int .i64 cb,.int .i64 ct,.int .i64 cs,.int .i64 ca,.int .i64 ck,.int .i64 cy,.int .i64 co] 23).alloc (.cells #[.int .i64 0,.int .i64 0,.int .i64 0,.int .i64 0,.int .i64 0,.int .i64 0,.int .i64 0,.int .i64 0,.int .i64 0,.int .i64 0,.int .i64 0,.slice none 0 0,.slice none 0 0,.int .i64 0,.int .i64 0,.int .i64 0,.slice none 0 0,.bool false] 30));have HR:=Lib.hid (blk_second w (.cells #[.int .i64 cb,.int .i64 ct,.int .i64 cs,.int .i64 ca,.int .i64 ck,.int .i64 cy,.int .i64 co] 23) #[.int .i64 0,.int .i64 0,.int .i64 0,.int .i64 0,.int .i64 0,.int .i64 0,.int .i64 0,.int .i64 0,.int .i64 0,.int .i64 0,.int .i64 0,.slice none 0 0,.slice none 0 0,.int .i64 0,.int .i64 0,.int .i64 0,.slice none 0 0,.bool false] 30)
 go_enter Tryz.func20, Tryz.ntmps20
 go_upto_region 7 with (first
  |(go_at_call 50;refine(HPK.out _).mono ?_;rintro e1 w1 ⟨rfl,hb1⟩;have HB:=Lib.hid (HB.out.trans (hb1.mono HB.out.size));have HC:=Lib.hid (HC.out.ext hb1);have HR:=Lib.hid (HR.out.ext hb1);clear hb1)
  |(go_at_call 51;refine(HFD.out _ HB.out).mono ?_;rintro e2 w2 ⟨⟨G,cG,rfl,hO,hlG⟩,hb2⟩;have hb2b:=hb2.trans ((ext_alloc w2 (.cells #[.int .i64 1,.int .i64 2,.int .i64 0,.int .i64 1,.slice (some ⟨G,0,none⟩) 1 cG] 26)).mono hb2.size);have HG:=Lib.hid (hO.ext (ext_alloc w2 (.cells #[.int .i64 1,.int .i64 2,.int .i64 0,.int .i64 1,.slice (some ⟨G,0,none⟩) 1 cG] 26)));have HGR:=Lib.hid (HB.out.trans (hb2b.mono HB.out.size));have HC:=Lib.hid (HC.out.ext hb2b);have HGL:=Lib.hid (show w.heap.size+1<G from Nat.lt_of_lt_of_le HR.out.lt hlG);have HGK:=Lib.hid hO.lt;have HR:=Lib.hid (HR.out.ext hb2b);have HM:=Lib.hid (Blk.new w2 #[.int .i64 1,.int .i64 2,.int .i64 0,.int .i64 1,.slice (some ⟨G,0,none⟩) 1 cG] 26);clear hO hlG hb2 hb2b)
  |(refine wpList_load_row rfl 23 (.tmp 3) rfl w.heap.size #[.int .i64 cb,.int .i64 ct,.int .i64 cs,.int .i64 ca,.int .i64 ck,.int .i64 cy,.int .i64 co] _ (by simp[go_sem,Act.eval]) HC.out Tryz.underlying23 rfl cf_info ?_))
 have hBL:=fun(w:World)=>build_st2 cb ct cs ca ck cy co G cG w
 go_upto_region 8 with (first
  |(refine wpList_load_row rfl 23 (.tmp 3) rfl w.heap.size #[.int .i64 cb,.int .i64 ct,.int .i64 cs,.int .i64 ca,.int .i64 ck,.int .i64 cy,.int .i64 co] _ (by simp[go_sem,Act.eval]) HC.out Tryz.underlying23 rfl cf_info ?_)
  |(refine wpList_load_row rfl 26 (.tmp 7) rfl w2.heap.size #[.int .i64 1,.int .i64 2,.int .i64 0,.int .i64 1,.slice (some ⟨G,0,none⟩) 1 cG] _ (by simp[go_sem,Act.eval]) HM.out Tryz.underlying26 rfl mf_info ?_)
  |(refine wpList_store_new (w2.alloc (.cells #[.int .i64 1,.int .i64 2,.int .i64 0,.int .i64 1,.slice (some ⟨G,0,none⟩) 1 cG] 26)) #[.int .i64 0,.int .i64 0,.int .i64 0,.int .i64 0,.int .i64 0,.int .i64 0,.int .i64 0,.int .i64 0,.int .i64 0,.int .i64 0,.int .i64 0,.slice none 0 0,.slice none 0 0,.int .i64 0,.int .i64 0,.int .i64 0,.slice none 0 0,.bool false] rfl 59 (.tmp 9) (.tmp 33) rfl #[.int .i64 cb,.int .i64 ct,.int .i64 cs,.int .i64 ca,.int .i64 ck,.int .i64 cy,.int .i64 co,.int .i64 1,.int .i64 2,.int .i64 0,.int .i64 1,.slice (some ⟨G,0,none⟩) 1 cG,.slice none 0 0,.int .i64 0,.int .i64 0,.int .i64 0,.slice none 0 0,.bool false] (by simp[go_sem,Act.eval]) (by simp[go_sem,Act.eval]) lg_info rfl (by simp[Value.oneCell']) ?_)
  |(refine wpList_build1 rfl 59 (.tmp 32) rfl #[.int .i64 cb,.int .i64 ct,.int .i64 cs,.int .i64 ca,.int .i64 ck,.int .i64 cy,.int .i64 co,.int .i64 1,.int .i64 2,.int .i64 0,.int .i64 1,.slice (some ⟨G,0,none⟩) 1 cG,.slice none 0 0,.int .i64 0,.int .i64 0,.int .i64 0,.slice none 0 0,.bool false] (by simp[go_sem,Act.eval]) (fun w=>build_lg _ rfl w) ?_))
 clear hBL;have HB3:=Lib.hid (ext_second w2 (.cells #[.int .i64 1,.int .i64 2,.int .i64 0,.int .i64 1,.slice (some ⟨G,0,none⟩) 1 cG] 26) (.cells #[.int .i64 cb,.int .i64 ct,.int .i64 cs,.int .i64 ca,.int .i64 ck,.int .i64 cy,.int .i64 co,.int .i64 1,.int .i64 2,.int .i64 0,.int .i64 1,.slice (some ⟨G,0,none⟩) 1 cG,.slice none 0 0,.int .i64 0,.int .i64 0,.int .i64 0,.slice none 0 0,.bool false] 59));have HL:=Lib.hid (blk_second w2 (.cells #[.int .i64 1,.int .i64 2,.int .i64 0,.int .i64 1,.slice (some ⟨G,0,none⟩) 1 cG] 26) #[.int .i64 cb,.int .i64 ct,.int .i64 cs,.int .i64 ca,.int .i64 ck,.int .i64 cy,.int .i64 co,.int .i64 1,.int .i64 2,.int .i64 0,.int .i64 1,.slice (some ⟨G,0,none⟩) 1 cG,.slice none 0 0,.int .i64 0,.int .i64 0,.int .i64 0,.slice none 0 0,.bool false] 59);have HR3:=Lib.hid (HR.out.alloc (.cells #[.int .i64 cb,.int .i64 ct,.int .i64 cs,.int .i64 ca,.int .i64 ck,.int .i64 cy,.int .i64 co,.int .i64 1,.int .i64 2,.int .i64 0,.int .i64 1,.slice (some ⟨G,0,none⟩) 1 cG,.slice none 0 0,.int .i64 0,.int .i64 0,.int .i64 0,.slice none 0 0,.bool false] 59));have HG3:=Lib.hid (HG.out.ext (ext_alloc _ (.cells #[.int .i64 cb,.int .i64 ct,.int .i64 cs,.int .i64 ca,.int .i64 ck,.int .i64 cy,.int .i64 co,.int .i64 1,.int .i64 2,.int .i64 0,.int .i64 1,.slice (some ⟨G,0,none⟩) 1 cG,.slice none 0 0,.int .i64 0,.int .i64 0,.int .i64 0,.slice none 0 0,.bool false] 59)));have HGR3:=Lib.hid (HGR.out.trans ((ext_alloc _ (.cells #[.int .i64 cb,.int .i64 ct,.int .i64 cs,.int .i64 ca,.int .i64 ck,.int .i64 cy,.int .i64 co,.int .i64 1,.int .i64 2,.int .i64 0,.int .i64 1,.slice (some ⟨G,0,none⟩) 1 cG,.slice none 0 0,.int .i64 0,.int .i64 0,.int .i64 0,.slice none 0 0,.bool false] 59)).mono HGR.out.size));have HLN:=Lib.hid (show True/\w2.heap.size+1≠G/\w2.heap.size+1≠w.heap.size+1/\w.heap.size<=w2.heap.size+1 from⟨trivial,by have:=HGK.out;omega,by have:=HGL.out;have:=HGK.out;omega,by have:=HGL.out;have:=HGK.out;omega⟩);clear HB HC HR HM HB3 HGR HG HFD HPK;generalize (w2.alloc (.cells #[.int .i64 1,.int .i64 2,.int .i64 0,.int .i64 1,.slice (some ⟨G,0,none⟩) 1 cG] 26)).alloc (.cells #[.int .i64 cb,.int .i64 ct,.int .i64 cs,.int .i64 ca,.int .i64 ck,.int .i64 cy,.int .i64 co,.int .i64 1,.int .i64 2,.int .i64 0,.int .i64 1,.slice (some ⟨G,0,none⟩) 1 cG,.slice none 0 0,.int .i64 0,.int .i64 0,.int .i64 0,.slice none 0 0,.bool false] 59)=w3 at *
 generalize w2.heap.size+1=bl at *
 generalize w2.heap.size=bmf at *
 go_upto_region 10 with (first
  |(refine wpList_load_row rfl 59 (.tmp 9) rfl bl #[.int .i64 cb,.int .i64 ct,.int .i64 cs,.int .i64 ca,.int .i64 ck,.int .i64 cy,.int .i64 co,.int .i64 1,.int .i64 2,.int .i64 0,.int .i64 1,.slice (some ⟨G,0,none⟩) 1 cG,.slice none 0 0,.int .i64 0,.int .i64 0,.int .i64 0,.slice none 0 0,.bool false] _ (by simp[go_sem,Act.eval]) HL.out Tryz.underlying59 rfl lg_info ?_)
  |(go_at_call 23;refine(HHD.out _ G cG HG3.out).mono ?_;rintro e4 w4 ⟨rfl,hb4⟩;have HB4:=Lib.hid (hb4.trans ((ext_alloc w4 (.cells #[.int .i64 1,.int .i64 1,.int .i64 1] 35)).mono hb4.size));have HH4:=Lib.hid (Blk.new w4 #[.int .i64 1,.int .i64 1,.int .i64 1] 35);have HL4:=Lib.hid (HL.out.ext HB4.out);have HN4:=Lib.hid (show bl≠w4.heap.size/\w.heap.size+1≠w4.heap.size/\G≠w4.heap.size from⟨by have:=HL.out.lt;have:=hb4.size;omega,by have:=HR3.out.lt;have:=hb4.size;omega,by have:=HG3.out.lt;have:=hb4.size;omega⟩);clear hb4)
  |(refine wpList_load_row rfl 35 (.tmp 10) rfl w4.heap.size #[.int .i64 1,.int .i64 1,.int .i64 1] _ (by simp[go_sem,Act.eval]) HH4.out Tryz.underlying35 rfl hd_info ?_)
  |(go_at_call 52;refine(HTR.out _ (HGR3.out.trans (HB4.out.mono HGR3.out.size))).mono ?_;rintro e5 w5 ⟨rfl,hb5⟩;have HB5:=Lib.hid (HB4.out.trans (hb5.mono HB4.out.size));have HL5:=Lib.hid (HL4.out.ext hb5);have HH5:=Lib.hid (HH4.out.ext hb5);have l12:=HL5.out.cell 12 (v:=.slice none 0 0) rfl;have l13:=HL5.out.cell 13 (v:=.int .i64 0) rfl;have z12:=HL5.out.fz 12;have z13:=HL5.out.fz 13;clear hb5))
 clear l12 l13 z12 z13;have HL6:=Lib.hid (show Blk _ bl #[.int .i64 cb,.int .i64 ct,.int .i64 cs,.int .i64 ca,.int .i64 ck,.int .i64 cy,.int .i64 co,.int .i64 1,.int .i64 2,.int .i64 0,.int .i64 1,.slice (some ⟨G,0,none⟩) 1 cG,.slice none 0 0,.int .i64 12,.int .i64 0,.int .i64 0,.slice none 0 0,.bool false] 59 from(HL5.out.put 12 (.slice none 0 0)).put 13 (.int .i64 12));have HH6:=Lib.hid ((HH5.out.setCell (j:=12) HN4.out.1.symm (.slice none 0 0)).setCell (j:=13) HN4.out.1.symm (.int .i64 12));have HR6:=Lib.hid (((HR3.out.ext HB5.out).setCell (j:=12) HLN.out.2.2.1.symm (.slice none 0 0)).setCell (j:=13) HLN.out.2.2.1.symm (.int .i64 12));have HG6:=Lib.hid (((HG3.out.ext HB5.out).far HLN.out.2.1.symm 12 (.slice none 0 0)).far HLN.out.2.1.symm 13 (.int .i64 12));have HGR6:=Lib.hid (((HGR3.out.trans (HB5.out.mono HGR3.out.size)).setCell (p:=⟨bl,12,none⟩) HLN.out.2.2.2 (.slice none 0 0)).setCell (p:=⟨bl,13,none⟩) HLN.out.2.2.2 (.int .i64 12));clear HL5 HH5 HR3 HG3 HGR3 HB4 HB5 HL4 HH4 HL HTR HHD;generalize (w5.setCell ⟨bl,12,none⟩ (.slice none 0 0)).setCell ⟨bl,13,none⟩ (.int .i64 12)=w6 at *
 generalize w4.heap.size=bh at *
 have l12:=HL6.out.cell 12 (v:=.slice none 0 0) rfl;go_upto_region 13 with (first
  |(refine wpList_load_row rfl 35 (.tmp 10) rfl bh #[.int .i64 1,.int .i64 1,.int .i64 1] _ (by simp[go_sem,Act.eval]) HH6.out Tryz.underlying35 rfl hd_info ?_)
  |(go_at_call 53;refine(HNX.out _).mono ?_;rintro e7 w7 ⟨rfl,hb7⟩;have HB7:=Lib.hid hb7;have HL7:=Lib.hid (HL6.out.ext hb7);have l14:=HL7.out.cell 14 (v:=.int .i64 0) rfl;have z14:=HL7.out.fz 14;clear hb7 l12))
 clear l14 z14;have HL8:=Lib.hid (show Blk _ bl #[.int .i64 cb,.int .i64 ct,.int .i64 cs,.int .i64 ca,.int .i64 ck,.int .i64 cy,.int .i64 co,.int .i64 1,.int .i64 2,.int .i64 0,.int .i64 1,.slice (some ⟨G,0,none⟩) 1 cG,.slice none 0 0,.int .i64 12,.int .i64 1,.int .i64 0,.slice none 0 0,.bool false] 59 from HL7.out.put 14 (.int .i64 1));have HR8:=Lib.hid ((HR6.out.ext HB7.out).setCell (j:=14) HLN.out.2.2.1.symm (.int .i64 1));have HG8:=Lib.hid ((HG6.out.ext HB7.out).far HLN.out.2.1.symm 14 (.int .i64 1));have HGR8:=Lib.hid ((HGR6.out.trans (HB7.out.mono HGR6.out.size)).setCell (p:=⟨bl,14,none⟩) HLN.out.2.2.2 (.int .i64 1));clear HL6 HH6 HR6 HG6 HGR6 HL7 HB7 HNX;generalize w7.setCell ⟨bl,14,none⟩ (.int .i64 1)=w8 at *
 have l12:=HL8.out.cell 12 (v:=.slice none 0 0) rfl;go_wp2_with (first
  |(refine wpList_load_rowT rfl 30 59 (.tmp 78) rfl bl #[.int .i64 cb,.int .i64 ct,.int .i64 cs,.int .i64 ca,.int .i64 ck,.int .i64 cy,.int .i64 co,.int .i64 1,.int .i64 2,.int .i64 0,.int .i64 1,.slice (some ⟨G,0,none⟩) 1 cG,.slice none 0 0,.int .i64 12,.int .i64 1,.int .i64 0,.slice none 0 0,.bool false] _ (by simp[go_sem,Act.eval]) HL8.out Tryz.underlying30 rfl st_info ?_)
  |(go_at_call 10;refine(HCK.out _ G cG HG8.out).mono ?_;rintro e9 w9 ⟨rfl,hb9⟩;have HL9:=Lib.hid (HL8.out.ext hb9);have HR9:=Lib.hid (HR8.out.ext hb9);have HG9:=Lib.hid (HG8.out.ext hb9);have HGR9:=Lib.hid (HGR8.out.trans (hb9.mono HGR8.out.size));clear hb9 l12)
  |(refine wpList_load_rowT rfl 30 59 (.tmp 85) rfl bl #[.int .i64 cb,.int .i64 ct,.int .i64 cs,.int .i64 ca,.int .i64 ck,.int .i64 cy,.int .i64 co,.int .i64 1,.int .i64 2,.int .i64 0,.int .i64 1,.slice (some ⟨G,0,none⟩) 1 cG,.slice none 0 0,.int .i64 12,.int .i64 1,.int .i64 0,.slice none 0 0,.bool false] _ (by simp[go_sem,Act.eval]) HL9.out Tryz.underlying30 rfl st_info ?_)
  |(refine wpList_store_row rfl 30 (.tmp 4) (.tmp 86) rfl (w.heap.size+1) #[.int .i64 cb,.int .i64 ct,.int .i64 cs,.int .i64 ca,.int .i64 ck,.int .i64 cy,.int .i64 co,.int .i64 1,.int .i64 2,.int .i64 0,.int .i64 1,.slice (some ⟨G,0,none⟩) 1 cG,.slice none 0 0,.int .i64 12,.int .i64 1,.int .i64 0,.slice none 0 0,.bool false] #[.int .i64 0,.int .i64 0,.int .i64 0,.int .i64 0,.int .i64 0,.int .i64 0,.int .i64 0,.int .i64 0,.int .i64 0,.int .i64 0,.int .i64 0,.slice none 0 0,.slice none 0 0,.int .i64 0,.int .i64 0,.int .i64 0,.slice none 0 0,.bool false] (by simp[go_sem,Act.eval]) (by simp[go_sem,Act.eval]) HR9.out st_info rfl (by simp[Value.oneCell']) ?_))
 refine bodyPost_ret (v:=.tuple #[.agg #[.int .i64 cb,.int .i64 ct,.int .i64 cs,.int .i64 ca,.int .i64 ck,.int .i64 cy,.int .i64 co,.int .i64 1,.int .i64 2,.int .i64 0,.int .i64 1,.slice (some ⟨G,0,none⟩) 1 cG,.slice none 0 0,.int .i64 12,.int .i64 1,.int .i64 0,.slice none 0 0,.bool false],.int .i64 0]) (by exact results_cell2 rfl rfl rfl (HR9.out.set #[.int .i64 cb,.int .i64 ct,.int .i64 cs,.int .i64 ca,.int .i64 ck,.int .i64 cy,.int .i64 co,.int .i64 1,.int .i64 2,.int .i64 0,.int .i64 1,.slice (some ⟨G,0,none⟩) 1 cG,.slice none 0 0,.int .i64 12,.int .i64 1,.int .i64 0,.slice none 0 0,.bool false]) Tryz.underlying30 rfl st_info) (by exact rfl) ?_;exact⟨⟨G,cG,rfl,HG9.out.farRow (by have:=HGL.out;omega) _⟩,ext_setRow HGR9.out (Nat.le_succ _) _⟩
end
end Oa
end Go.Proofs.YtphfmgapiimliaaGreat
namespace Go.Proofs.YtphfmgapiimliaaGreat
namespace Sv
open Go.RowKit Hd Rd Fm Sn Nf Dk Gp Oa
open Go.Proofs.YtphfmgapiimliaaGreat.Op
def goneD (b bm:Nat) (D:DS):DS:=chgD (⟨#[]⟩,maniN,none) (tick (freshD b bm D))
section
variable {D:DS} {b bm b2:Nat}
theorem gone_calm (hc:Dk.Calm D):Dk.Calm (goneD b bm D):=(fresh_calm hc b bm).tick.chg _
theorem gone_now (hn:D.now=[]):(goneD b bm D).now=[(segN 1 1,b)]:=by
 show app (⟨#[]⟩,maniN,none) (freshD b bm D).now=_
 rw[fresh_now hn];unfold app;dsimp only;rw[if_neg (by decide),dl,if_neg (seg_mani 1 1),dl,if_pos rfl]
theorem gone_one (hc:Dk.Calm D) (hn:D.now=[]) (hne:b≠bm):One1 (goneD b bm D) :=
 ⟨(gone_calm hc).off,b,hdrB 1 1 1,gone_now hn,fresh_seg b bm hne⟩
theorem back_two (hc:Dk.Calm D) (hn:D.now=[]) (hne:b≠bm) (hb2:(goneD b bm D).fl b2=none):Two (saveD (frB 4 (mfB m1)) b2 (goneD b bm D)):=by
 have hs:(goneD b bm D).fl b=some (hdrB 1 1 1,hdrB 1 1 1):=fresh_seg b bm hne;have hne2:b≠b2:=by
  rintro rfl;rw[hs] at hb2;cases hb2
 have hg:=gone_now (b:=b) (bm:=bm) hn;refine⟨?_,b,b2,hdrB 1 1 1,frB 4 (mfB m1),?_,?_,?_⟩
 ·exact((((calm_d3 (gone_calm (b:=b) (bm:=bm) hc) tempN (frB 4 (mfB m1)) b2).tick).chg (maniN,tempN,some b2)).tick).off
 ·show app (maniN,tempN,some b2) (d3 tempN (frB 4 (mfB m1)) b2 (goneD b bm D)).now=_
  rw[d3_now (by rw[hg,lk_cons,if_neg (seg_temp 1 1)];rfl),hg];unfold app;dsimp only;rw[if_neg (by decide)];show pt maniN b2 (dl tempN [(segN 1 1,b),(tempN,b2)])=_
  rw[dl,if_neg (seg_temp 1 1),dl,if_pos rfl,pt,if_neg (seg_mani 1 1),pt]
 ·show(if b=b2 then _ else if b=b2 then _ else if b=b2 then _ else _)=_
  rw[if_neg hne2,if_neg hne2,if_neg hne2];exact hs
 ·show(if b2=b2 then _ else _)=_
  rw[if_pos rfl,empty_app]
end
end Sv
end Go.Proofs.YtphfmgapiimliaaGreat
