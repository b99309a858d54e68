/- open.Open of an empty disk: a new log. follow: the probe's place, its bytes, its disk. -/
import Derived.Test.YtejcdhdfanfkbaaGreatFb41
import Derived.Test.YtejcdhdfanfkbaaGreatFb33
import Derived.Test.YtejcdhdfanfkbaaGreatFb17
import Derived.Test.YtejcdhdfanfkbaaGreatFb40
namespace Go.Proofs.YtejcdhdfanfkbaaGreat
section
variable {P:Program} {ops:Array Oper} {rest:List Oper} {op:Oper} {a:Act} {w:World} {Q:Exit->Act->World->Prop}
open Go.RowKit in
theorem wpList_load_rowT (hgd:op.guard=none) (t t':TypeId) (x:Operand) (ho:op.op=.load t x) (g:Nat) (c:Array Value) (d:TypeDesc) (hx:a.eval x=.pointer (some ⟨g,0,none⟩))
  (hh:Blk w g c t') (hu:P.underlying t=some d) (hd:(match d with|.struct _|.array _ _=>true|_=>false)=true) (hi:(P.info? t).map (·.size)=some c.size)
  (h:wpList P ops Q rest (a.put op.dst (.agg c)) w):wpList P ops Q (op::rest) a w:=by
 refine wpList_plain hgd fun _ hK=>?_
 unfold Oper.wp execOp;simp only[ho,hx,Instr.loadAt,Instr.sureAddr,Sem.run_bind,Sem.run_pure,Result.andThen_ok,run_loadVar_row w g t' t c (0,0) d hh hu hd hi];exact hK _ _ h
end
namespace Dk
open Go.RowKit Hd Rd Fm Sn Nf
open Go.Proofs.YtejcdhdfanfkbaaGreat.Op
theorem str1 {wx:World} {G:Nat} {s:St} (h1:s.mf.es=[e1]) (h2:s.bs=[]) (h3:s.wt=[]) (hG:Blk wx G (Sh.cl e1).toArray 217):Str wx wx.heap.size s ⟨some ⟨G,0,none⟩,1,1⟩ ⟨none,0,0⟩ ⟨none,0,0⟩ :=
 ⟨by rw[h1];exact rdK_blk (n:=1) (K:=9) hG rfl,by rw[h2];exact Rd.nil,by rw[h3];exact Rd.nil,⟨Nat.le_refl _,Nat.le_refl _,Nat.le_refl _⟩,⟨by show 1<=maxLen;decide,by show 0<=maxLen;decide,by show 0<=maxLen;decide⟩,⟨(fun h=>by cases h),(fun _=>rfl),(fun _=>rfl)⟩⟩
theorem cf_info:(Tryz.prog.info? 67).map (·.size)=some 7:=by kernel_rfl
def s0 (c:Cf):St:=⟨c,m1,[],0,0,0,[],false⟩
theorem build_st (cb ct cs ca ck cy co:Int) (G:Nat) (w:World):(Instr.build 74 #[(0,.agg #[.int .i64 cb,.int .i64 ct,.int .i64 cs,.int .i64 ca,.int .i64 ck,.int .i64 cy,.int .i64 co]),(1,.agg #[.int .i64 1,.int .i64 2,.int .i64 0,.int .i64 1,.slice (some ⟨G,0,none⟩) 1 1]),(5,.int .i64 0)]).run Tryz.prog w=.ok (.agg #[.int .i64 cb,.int .i64 ct,.int .i64 cs,.int .i64 ca,.int .i64 ck,.int .i64 cy,.int .i64 co,.int .i64 1,.int .i64 2,.int .i64 0,.int .i64 1,.slice (some ⟨G,0,none⟩) 1 1,.slice none 0 0,.int .i64 0,.int .i64 0,.int .i64 0,.slice none 0 0,.bool false]) w:=by
 simp[go_sem,Instr.build]
section
variable {w w':World} {S:Nat->Prop} {bd gN gS:Nat} {v:Value} {D:DS}
theorem fresh_calm (hc:Calm D) (b bm:Nat):Calm (freshD b bm D):=⟨hc.off,by
 have h1:=(((calm_d3 (calm_d3 hc (segN 1 1) (hdrB 1 1 1) b) tempN (frB 4 (mfB m1)) bm).tick.chg (maniN,tempN,some bm)).tick).armed;exact h1⟩
theorem empty_app (T:ByteArray):(⟨#[]⟩:ByteArray)++T=T:=ByteArray.ext (by rw[ByteArray.data_append];simp)
theorem fresh_now (hn:D.now=[]) (b bm:Nat):(freshD b bm D).now=[(segN 1 1,b),(maniN,bm)]:=by
 show app (maniN,tempN,some bm) (d3 tempN (frB 4 (mfB m1)) bm (d3 (segN 1 1) (hdrB 1 1 1) b D)).now=_
 have e1:(d3 (segN 1 1) (hdrB 1 1 1) b D).now=[(segN 1 1,b)]:=by rw[d3_now (by rw[hn];rfl),hn];rfl
 rw[d3_now (by rw[e1,lk_cons,if_neg (seg_temp 1 1)];rfl),e1];unfold app;dsimp only;rw[if_neg (by decide)];show pt maniN bm (dl tempN [(segN 1 1,b),(tempN,bm)])=_
 rw[dl,if_neg (seg_temp 1 1),dl,if_pos rfl,pt,if_neg (seg_mani 1 1),pt]
theorem fresh_seg (b bm:Nat) (hne:b≠bm):(freshD b bm D).fl b=some (hdrB 1 1 1,hdrB 1 1 1):=by
 show(if b=bm then _ else if b=bm then _ else if b=bm then _ else _)=_
 rw[if_neg hne,if_neg hne,if_neg hne];show(if b=b then _ else _)=_
 rw[if_pos rfl,empty_app]
theorem fresh_mani (b bm:Nat):(freshD b bm D).fl bm=some (frB 4 (mfB m1),frB 4 (mfB m1)):=by
 show(if bm=bm then _ else _)=_
 rw[if_pos rfl,empty_app]
theorem fresh_ne {b bm:Nat} (h:(d3 (segN 1 1) (hdrB 1 1 1) b D).fl bm=none):b≠bm:=by
 rintro rfl;have e:(d3 (segN 1 1) (hdrB 1 1 1) b D).fl b=some (⟨#[]⟩++hdrB 1 1 1,⟨#[]⟩++hdrB 1 1 1):=by
  show(if b=b then _ else _)=_
  rw[if_pos rfl]
 rw[e] at h;cases h
set_option maxHeartbeats 16000000 in
set_option maxRecDepth 100000 in
theorem Open_go (h:DiskAt w S bd D) (hc:Calm D) (hn:D.now=[]) (hcap:100<=D.cap) (hch:D.chg.length<=1000) (c:Cf) (hcf:okCf c=true) :
  Calls Tryz.prog 27 #[.pointer (some ⟨bd,0,none⟩),.agg (cfl c).toArray] w fun e w'=>∃(G b bm:Nat) (S':Nat->Prop),e=.returned (.tuple #[.agg (stc (s1 c) ⟨some ⟨G,0,none⟩,1,1⟩ ⟨none,0,0⟩ ⟨none,0,0⟩),.int .i64 0])/\w.heap.size<=G/\ ¬ S' G/\Blk w' G (Sh.cl e1).toArray 217/\D.fl b=none/\b≠bm/\DiskAt w' S' bd (freshD b bm D)/\Gr S w S' w':=by
 have mixed:Tryz.prog.follows .mixedOrders=true:=by kernel_rfl
 have HNS:=Lib.hid (show ∀k,w.heap.size<=k-> ¬ S k from fun k hk=>by
  obtain⟨gN,gS,v,h⟩:=h;exact h.gt hk)
 have HPK:=fun wx=>pcheck_any c wx
 rw[show cfE c=0 from if_pos hcf] at HPK;replace HPK:=Lib.hid HPK;have HFD:=Lib.hid (fun(wx:World) (hx:Below w.heap.size w wx)=>found_go (h.ext hx) hc hn hcap hch);have HTR:=Lib.hid (show ∀(wx:World) (S':Nat->Prop) (b bm:Nat),DiskAt wx S' bd (freshD b bm D)->(d3 (segN 1 1) (hdrB 1 1 1) b D).fl bm=none->Calls Tryz.prog 75 #[.pointer (some ⟨bd,0,none⟩),.agg #[.int .i64 1,.int .i64 1,.int .i64 1]] wx fun e w'=>e=.returned (.tuple #[.slice none 0 0,.int .i64 12,.int .i64 0])/\Below wx.heap.size wx w' from fun wx S' b bm hD hbm=>by
  have hne:=fresh_ne hbm;have:=Trim_head hD (fresh_calm hc b bm).off (i:=1) (g:=1) (f:=1) (b:=b) (q:=hdrB 1 1 1) (by omega) (by show lk (segN 1 1) _=_;rw[fresh_now hn,lk_cons,if_pos rfl]) (fresh_seg b bm hne);rw[hdr_size] at this;exact this)
 have HOK:=Lib.hid (s1_ok hcf);obtain⟨cb,ct,cs,ca,ck,cy,co⟩:=c;have HHD:=Lib.hid (show ∀(wx:World) (G:Nat),Blk wx G (Sh.cl e1).toArray 217->Calls Tryz.prog 74 #[.agg #[.int .i64 cb,.int .i64 ct,.int .i64 cs,.int .i64 ca,.int .i64 ck,.int .i64 cy,.int .i64 co,.int .i64 1,.int .i64 2,.int .i64 0,.int .i64 1,.slice (some ⟨G,0,none⟩) 1 1,.slice none 0 0,.int .i64 0,.int .i64 0,.int .i64 0,.slice none 0 0,.bool false]] wx fun e w'=>e=.returned (.agg #[.int .i64 1,.int .i64 1,.int .i64 1])/\Below wx.heap.size wx w' from fun wx G hG=>lhead_any (s0 ⟨cb,ct,cs,ca,ck,cy,co⟩) ⟨some ⟨G,0,none⟩,1,1⟩ ⟨none,0,0⟩ ⟨none,0,0⟩ wx (str1 rfl rfl rfl hG) (by show 0<1;omega) (by show 1<=1000000;omega));have HNX:=Lib.hid (show ∀(wx:World),Calls Tryz.prog 76 #[.agg #[.int .i64 1,.int .i64 1,.int .i64 1],.slice none 0 0] wx fun e w'=>e=.returned (.int .i64 1)/\Below wx.heap.size wx w' from fun wx=>nextI_any none 0 0 1 1 1 [] wx Rd.nil (by omega) rfl (by omega));have HCK:=Lib.hid (show ∀(wx:World) (G:Nat),Blk wx G (Sh.cl e1).toArray 217->Calls Tryz.prog 77 #[.agg #[.int .i64 cb,.int .i64 ct,.int .i64 cs,.int .i64 ca,.int .i64 ck,.int .i64 cy,.int .i64 co,.int .i64 1,.int .i64 2,.int .i64 0,.int .i64 1,.slice (some ⟨G,0,none⟩) 1 1,.slice none 0 0,.int .i64 12,.int .i64 1,.int .i64 0,.slice none 0 0,.bool false]] wx fun e w'=>e=.returned (.int .i64 0)/\Below wx.heap.size wx w' from fun wx G hG=>by
  have:=ocheck_any (s1 ⟨cb,ct,cs,ca,ck,cy,co⟩) ⟨some ⟨G,0,none⟩,1,1⟩ ⟨none,0,0⟩ ⟨none,0,0⟩ wx (str1 rfl rfl rfl hG) (by show 1<=1000000;omega) (by show 0<=100000;omega) (by show 0<=1000000;omega);rw[HOK.out] at this;exact this)
 unfold cfl;dsimp only;clear h hc hn hcap hch hcf HOK;have HB:=Lib.hid (ext_second w (.cells #[.int .i64 cb,.int .i64 ct,.int .i64 cs,.int .i64 ca,.int .i64 ck,.int .i64 cy,.int .i64 co] 67) (.cells #[.int .i64 0,.int .i64 0,.int .i64 0,.int .i64 0,.int .i64 0,.int .i64 0,.int .i64 0,.int .i64 0,.int .i64 0,.int .i64 0,.int .i64 0,.slice none 0 0,.slice none 0 0,.int .i64 0,.int .i64 0,.int .i64 0,.slice none 0 0,.bool false] 74));have HC:=Lib.hid ((Blk.new w #[.int .i64 cb,.int .i64 ct,.int .i64 cs,.int .i64 ca,.int .i64 ck,.int .i64 cy,.int .i64 co] 67).alloc (.cells #[.int .i64 0,.int .i64 0,.int .i64 0,.int .i64 0,.int .i64 0,.int .i64 0,.int .i64 0,.int .i64 0,.int .i64 0,.int .i64 0,.int .i64 0,.slice none 0 0,.slice none 0 0,.int .i64 0,.int .i64 0,.int .i64 0,.slice none 0 0,.bool false] 74));have HR:=Lib.hid (blk_second w (.cells #[.int .i64 cb,.int .i64 ct,.int .i64 cs,.int .i64 ca,.int .i64 ck,.int .i64 cy,.int .i64 co] 67) #[.int .i64 0,.int .i64 0,.int .i64 0,.int .i64 0,.int .i64 0,.int .i64 0,.int .i64 0,.int .i64 0,.int .i64 0,.int .i64 0,.int .i64 0,.slice none 0 0,.slice none 0 0,.int .i64 0,.int .i64 0,.int .i64 0,.slice none 0 0,.bool false] 74)
 go_enter Tryz.func27, Tryz.ntmps27
 go_upto_region 7 with (first
  |(go_at_call 72;refine(HPK.out _).mono ?_;rintro e1 w1 ⟨rfl,hb1⟩;have HB:=Lib.hid (HB.out.trans (hb1.mono HB.out.size));have HC:=Lib.hid (HC.out.ext hb1);have HR:=Lib.hid (HR.out.ext hb1);clear hb1)
  |(go_at_call 73;refine(HFD.out _ HB.out).mono ?_;rintro e2 w2 ⟨G,b,bm,S2,rfl,hlG,hnG,hG,hbn,hbm,hD,hg⟩;have HG:=Lib.hid (And.intro (Nat.le_trans HB.out.size hlG) (And.intro hnG (And.intro hG (And.intro hbn (And.intro hbm hD)))));have HGR:=Lib.hid ((Gr.of_below HB.out).trans hg);have HC:=Lib.hid ((hg.blk HC.out (HNS.out _ (Nat.le_refl _))).alloc (.cells #[.int .i64 1,.int .i64 2,.int .i64 0,.int .i64 1,.slice (some ⟨G,0,none⟩) 1 1] 70));have HNN:=Lib.hid (hg.out HR.out.lt (HNS.out _ (Nat.le_succ _)));have HGL:=Lib.hid (show w.heap.size+1<G from Nat.lt_of_lt_of_le HR.out.lt hlG);have HR:=Lib.hid ((hg.blk HR.out (HNS.out _ (Nat.le_succ _))).alloc (.cells #[.int .i64 1,.int .i64 2,.int .i64 0,.int .i64 1,.slice (some ⟨G,0,none⟩) 1 1] 70));have HM:=Lib.hid (Blk.new w2 #[.int .i64 1,.int .i64 2,.int .i64 0,.int .i64 1,.slice (some ⟨G,0,none⟩) 1 1] 70);clear hlG hnG hG hbn hbm hD hg)
  |(refine wpList_load_row rfl 67 (.tmp 3) rfl w.heap.size #[.int .i64 cb,.int .i64 ct,.int .i64 cs,.int .i64 ca,.int .i64 ck,.int .i64 cy,.int .i64 co] _ (by simp[go_sem,Act.eval]) HC.out Tryz.underlying67 rfl cf_info ?_))
 have hBL:=fun(w:World)=>build_st cb ct cs ca ck cy co G w
 go_upto_region 8 with (first
  |(refine wpList_load_row rfl 67 (.tmp 3) rfl w.heap.size #[.int .i64 cb,.int .i64 ct,.int .i64 cs,.int .i64 ca,.int .i64 ck,.int .i64 cy,.int .i64 co] _ (by simp[go_sem,Act.eval]) HC.out Tryz.underlying67 rfl cf_info ?_)
  |(refine wpList_load_row rfl 70 (.tmp 7) rfl w2.heap.size #[.int .i64 1,.int .i64 2,.int .i64 0,.int .i64 1,.slice (some ⟨G,0,none⟩) 1 1] _ (by simp[go_sem,Act.eval]) HM.out Tryz.underlying70 rfl mf_info ?_)
  |(refine wpList_store_new (w2.alloc (.cells #[.int .i64 1,.int .i64 2,.int .i64 0,.int .i64 1,.slice (some ⟨G,0,none⟩) 1 1] 70)) #[.int .i64 0,.int .i64 0,.int .i64 0,.int .i64 0,.int .i64 0,.int .i64 0,.int .i64 0,.int .i64 0,.int .i64 0,.int .i64 0,.int .i64 0,.slice none 0 0,.slice none 0 0,.int .i64 0,.int .i64 0,.int .i64 0,.slice none 0 0,.bool false] rfl 146 (.tmp 9) (.tmp 33) rfl #[.int .i64 cb,.int .i64 ct,.int .i64 cs,.int .i64 ca,.int .i64 ck,.int .i64 cy,.int .i64 co,.int .i64 1,.int .i64 2,.int .i64 0,.int .i64 1,.slice (some ⟨G,0,none⟩) 1 1,.slice none 0 0,.int .i64 0,.int .i64 0,.int .i64 0,.slice none 0 0,.bool false] (by simp[go_sem,Act.eval]) (by simp[go_sem,Act.eval]) lg_info rfl (by simp[Value.oneCell']) ?_)
  |(refine wpList_build1 rfl 146 (.tmp 32) rfl #[.int .i64 cb,.int .i64 ct,.int .i64 cs,.int .i64 ca,.int .i64 ck,.int .i64 cy,.int .i64 co,.int .i64 1,.int .i64 2,.int .i64 0,.int .i64 1,.slice (some ⟨G,0,none⟩) 1 1,.slice none 0 0,.int .i64 0,.int .i64 0,.int .i64 0,.slice none 0 0,.bool false] (by simp[go_sem,Act.eval]) (fun w=>build_lg _ rfl w) ?_))
 clear hBL;have HB3:=Lib.hid (ext_second w2 (.cells #[.int .i64 1,.int .i64 2,.int .i64 0,.int .i64 1,.slice (some ⟨G,0,none⟩) 1 1] 70) (.cells #[.int .i64 cb,.int .i64 ct,.int .i64 cs,.int .i64 ca,.int .i64 ck,.int .i64 cy,.int .i64 co,.int .i64 1,.int .i64 2,.int .i64 0,.int .i64 1,.slice (some ⟨G,0,none⟩) 1 1,.slice none 0 0,.int .i64 0,.int .i64 0,.int .i64 0,.slice none 0 0,.bool false] 146));have HL:=Lib.hid (blk_second w2 (.cells #[.int .i64 1,.int .i64 2,.int .i64 0,.int .i64 1,.slice (some ⟨G,0,none⟩) 1 1] 70) #[.int .i64 cb,.int .i64 ct,.int .i64 cs,.int .i64 ca,.int .i64 ck,.int .i64 cy,.int .i64 co,.int .i64 1,.int .i64 2,.int .i64 0,.int .i64 1,.slice (some ⟨G,0,none⟩) 1 1,.slice none 0 0,.int .i64 0,.int .i64 0,.int .i64 0,.slice none 0 0,.bool false] 146);have HR3:=Lib.hid (HR.out.alloc (.cells #[.int .i64 cb,.int .i64 ct,.int .i64 cs,.int .i64 ca,.int .i64 ck,.int .i64 cy,.int .i64 co,.int .i64 1,.int .i64 2,.int .i64 0,.int .i64 1,.slice (some ⟨G,0,none⟩) 1 1,.slice none 0 0,.int .i64 0,.int .i64 0,.int .i64 0,.slice none 0 0,.bool false] 146));have HG3:=Lib.hid ((HG.out.2.2.1.alloc (.cells #[.int .i64 1,.int .i64 2,.int .i64 0,.int .i64 1,.slice (some ⟨G,0,none⟩) 1 1] 70)).alloc (.cells #[.int .i64 cb,.int .i64 ct,.int .i64 cs,.int .i64 ca,.int .i64 ck,.int .i64 cy,.int .i64 co,.int .i64 1,.int .i64 2,.int .i64 0,.int .i64 1,.slice (some ⟨G,0,none⟩) 1 1,.slice none 0 0,.int .i64 0,.int .i64 0,.int .i64 0,.slice none 0 0,.bool false] 146));have HD3:=Lib.hid (HG.out.2.2.2.2.2.ext HB3.out);have HGR3:=Lib.hid (HGR.out.trans (Gr.of_below HB3.out));have HLN:=Lib.hid (show ¬ S2 (w2.heap.size+1)/\w2.heap.size+1≠G/\w2.heap.size+1≠w.heap.size+1/\w.heap.size<=w2.heap.size+1 from⟨fun hs=>by
   obtain⟨gN,gS,u,hd⟩:=HG.out.2.2.2.2.2;have:=hd.lt _ hs;omega,by have:=HG.out.2.2.1.lt;omega,by have:=HGL.out;have:=HG.out.2.2.1.lt;omega,by have:=HGL.out;have:=HG.out.2.2.1.lt;omega⟩)
 have HGG:=Lib.hid (And.intro HG.out.1 (And.intro HG.out.2.1 (And.intro HG.out.2.2.2.1 HG.out.2.2.2.2.1)));clear HB HC HR HM HB3 HGR HG HFD HPK;generalize (w2.alloc (.cells #[.int .i64 1,.int .i64 2,.int .i64 0,.int .i64 1,.slice (some ⟨G,0,none⟩) 1 1] 70)).alloc (.cells #[.int .i64 cb,.int .i64 ct,.int .i64 cs,.int .i64 ca,.int .i64 ck,.int .i64 cy,.int .i64 co,.int .i64 1,.int .i64 2,.int .i64 0,.int .i64 1,.slice (some ⟨G,0,none⟩) 1 1,.slice none 0 0,.int .i64 0,.int .i64 0,.int .i64 0,.slice none 0 0,.bool false] 146)=w3 at *
 generalize w2.heap.size+1=bl at *
 generalize w2.heap.size=bmf at *
 go_upto_region 10 with (first
  |(refine wpList_load_row rfl 146 (.tmp 9) rfl bl #[.int .i64 cb,.int .i64 ct,.int .i64 cs,.int .i64 ca,.int .i64 ck,.int .i64 cy,.int .i64 co,.int .i64 1,.int .i64 2,.int .i64 0,.int .i64 1,.slice (some ⟨G,0,none⟩) 1 1,.slice none 0 0,.int .i64 0,.int .i64 0,.int .i64 0,.slice none 0 0,.bool false] _ (by simp[go_sem,Act.eval]) HL.out Tryz.underlying146 rfl lg_info ?_)
  |(go_at_call 74;refine(HHD.out _ G HG3.out).mono ?_;rintro e4 w4 ⟨rfl,hb4⟩;have HB4:=Lib.hid (hb4.trans ((ext_alloc w4 (.cells #[.int .i64 1,.int .i64 1,.int .i64 1] 148)).mono hb4.size));have HH4:=Lib.hid (Blk.new w4 #[.int .i64 1,.int .i64 1,.int .i64 1] 148);have HL4:=Lib.hid (HL.out.ext HB4.out);have HN4:=Lib.hid (show bl≠w4.heap.size/\w.heap.size+1≠w4.heap.size/\G≠w4.heap.size from⟨by have:=HL.out.lt;have:=hb4.size;omega,by have:=HR3.out.lt;have:=hb4.size;omega,by have:=HG3.out.lt;have:=hb4.size;omega⟩);clear hb4)
  |(refine wpList_load_row rfl 148 (.tmp 10) rfl w4.heap.size #[.int .i64 1,.int .i64 1,.int .i64 1] _ (by simp[go_sem,Act.eval]) HH4.out Tryz.underlying148 rfl hd_info ?_)
  |(go_at_call 75;refine(HTR.out _ S2 b bm (HD3.out.ext HB4.out) HGG.out.2.2.2).mono ?_;rintro e5 w5 ⟨rfl,hb5⟩;have HB5:=Lib.hid (HB4.out.trans (hb5.mono HB4.out.size));have HL5:=Lib.hid (HL4.out.ext hb5);have HH5:=Lib.hid (HH4.out.ext hb5);have l12:=HL5.out.cell 12 (v:=.slice none 0 0) rfl;have l13:=HL5.out.cell 13 (v:=.int .i64 0) rfl;have z12:=HL5.out.fz 12;have z13:=HL5.out.fz 13;clear hb5))
 clear l12 l13 z12 z13;have HL6:=Lib.hid (show Blk _ bl #[.int .i64 cb,.int .i64 ct,.int .i64 cs,.int .i64 ca,.int .i64 ck,.int .i64 cy,.int .i64 co,.int .i64 1,.int .i64 2,.int .i64 0,.int .i64 1,.slice (some ⟨G,0,none⟩) 1 1,.slice none 0 0,.int .i64 12,.int .i64 0,.int .i64 0,.slice none 0 0,.bool false] 146 from(HL5.out.put 12 (.slice none 0 0)).put 13 (.int .i64 12));have HH6:=Lib.hid ((HH5.out.setCell (j:=12) HN4.out.1.symm (.slice none 0 0)).setCell (j:=13) HN4.out.1.symm (.int .i64 12));have HR6:=Lib.hid (((HR3.out.ext HB5.out).setCell (j:=12) HLN.out.2.2.1.symm (.slice none 0 0)).setCell (j:=13) HLN.out.2.2.1.symm (.int .i64 12));have HG6:=Lib.hid (((HG3.out.ext HB5.out).setCell (j:=12) HLN.out.2.1.symm (.slice none 0 0)).setCell (j:=13) HLN.out.2.1.symm (.int .i64 12));have HD6:=Lib.hid (((HD3.out.ext HB5.out).far HLN.out.1 12 (.slice none 0 0)).far HLN.out.1 13 (.int .i64 12));have HGR6:=Lib.hid (((HGR3.out.trans (Gr.of_below HB5.out)).far HLN.out.2.2.2 12 (.slice none 0 0)).far HLN.out.2.2.2 13 (.int .i64 12));clear HL5 HH5 HR3 HG3 HD3 HGR3 HB4 HB5 HL4 HH4 HL HTR HHD;generalize (w5.setCell ⟨bl,12,none⟩ (.slice none 0 0)).setCell ⟨bl,13,none⟩ (.int .i64 12)=w6 at *
 generalize w4.heap.size=bh at *
 have l12:=HL6.out.cell 12 (v:=.slice none 0 0) rfl;go_upto_region 13 with (first
  |(refine wpList_load_row rfl 148 (.tmp 10) rfl bh #[.int .i64 1,.int .i64 1,.int .i64 1] _ (by simp[go_sem,Act.eval]) HH6.out Tryz.underlying148 rfl hd_info ?_)
  |(go_at_call 76;refine(HNX.out _).mono ?_;rintro e7 w7 ⟨rfl,hb7⟩;have HB7:=Lib.hid hb7;have HL7:=Lib.hid (HL6.out.ext hb7);have l14:=HL7.out.cell 14 (v:=.int .i64 0) rfl;have z14:=HL7.out.fz 14;clear hb7 l12))
 clear l14 z14;have HL8:=Lib.hid (show Blk _ bl #[.int .i64 cb,.int .i64 ct,.int .i64 cs,.int .i64 ca,.int .i64 ck,.int .i64 cy,.int .i64 co,.int .i64 1,.int .i64 2,.int .i64 0,.int .i64 1,.slice (some ⟨G,0,none⟩) 1 1,.slice none 0 0,.int .i64 12,.int .i64 1,.int .i64 0,.slice none 0 0,.bool false] 146 from HL7.out.put 14 (.int .i64 1));have HR8:=Lib.hid ((HR6.out.ext HB7.out).setCell (j:=14) HLN.out.2.2.1.symm (.int .i64 1));have HG8:=Lib.hid ((HG6.out.ext HB7.out).setCell (j:=14) HLN.out.2.1.symm (.int .i64 1));have HD8:=Lib.hid ((HD6.out.ext HB7.out).far HLN.out.1 14 (.int .i64 1));have HGR8:=Lib.hid ((HGR6.out.trans (Gr.of_below HB7.out)).far HLN.out.2.2.2 14 (.int .i64 1));clear HL6 HH6 HR6 HG6 HD6 HGR6 HL7 HB7 HNX;generalize w7.setCell ⟨bl,14,none⟩ (.int .i64 1)=w8 at *
 have l12:=HL8.out.cell 12 (v:=.slice none 0 0) rfl;go_wp2_with (first
  |(refine wpList_load_rowT rfl 74 146 (.tmp 78) rfl bl #[.int .i64 cb,.int .i64 ct,.int .i64 cs,.int .i64 ca,.int .i64 ck,.int .i64 cy,.int .i64 co,.int .i64 1,.int .i64 2,.int .i64 0,.int .i64 1,.slice (some ⟨G,0,none⟩) 1 1,.slice none 0 0,.int .i64 12,.int .i64 1,.int .i64 0,.slice none 0 0,.bool false] _ (by simp[go_sem,Act.eval]) HL8.out Tryz.underlying74 rfl st_info ?_)
  |(go_at_call 77;refine(HCK.out _ G HG8.out).mono ?_;rintro e9 w9 ⟨rfl,hb9⟩;have HL9:=Lib.hid (HL8.out.ext hb9);have HR9:=Lib.hid (HR8.out.ext hb9);have HG9:=Lib.hid (HG8.out.ext hb9);have HD9:=Lib.hid (HD8.out.ext hb9);have HGR9:=Lib.hid (HGR8.out.trans (Gr.of_below hb9));clear hb9 l12)
  |(refine wpList_load_rowT rfl 74 146 (.tmp 85) rfl bl #[.int .i64 cb,.int .i64 ct,.int .i64 cs,.int .i64 ca,.int .i64 ck,.int .i64 cy,.int .i64 co,.int .i64 1,.int .i64 2,.int .i64 0,.int .i64 1,.slice (some ⟨G,0,none⟩) 1 1,.slice none 0 0,.int .i64 12,.int .i64 1,.int .i64 0,.slice none 0 0,.bool false] _ (by simp[go_sem,Act.eval]) HL9.out Tryz.underlying74 rfl st_info ?_)
  |(refine wpList_store_row rfl 74 (.tmp 4) (.tmp 86) rfl (w.heap.size+1) #[.int .i64 cb,.int .i64 ct,.int .i64 cs,.int .i64 ca,.int .i64 ck,.int .i64 cy,.int .i64 co,.int .i64 1,.int .i64 2,.int .i64 0,.int .i64 1,.slice (some ⟨G,0,none⟩) 1 1,.slice none 0 0,.int .i64 12,.int .i64 1,.int .i64 0,.slice none 0 0,.bool false] #[.int .i64 0,.int .i64 0,.int .i64 0,.int .i64 0,.int .i64 0,.int .i64 0,.int .i64 0,.int .i64 0,.int .i64 0,.int .i64 0,.int .i64 0,.slice none 0 0,.slice none 0 0,.int .i64 0,.int .i64 0,.int .i64 0,.slice none 0 0,.bool false] (by simp[go_sem,Act.eval]) (by simp[go_sem,Act.eval]) HR9.out st_info rfl (by simp[Value.oneCell']) ?_))
 refine bodyPost_ret (v:=.tuple #[.agg #[.int .i64 cb,.int .i64 ct,.int .i64 cs,.int .i64 ca,.int .i64 ck,.int .i64 cy,.int .i64 co,.int .i64 1,.int .i64 2,.int .i64 0,.int .i64 1,.slice (some ⟨G,0,none⟩) 1 1,.slice none 0 0,.int .i64 12,.int .i64 1,.int .i64 0,.slice none 0 0,.bool false],.int .i64 0]) (by exact results_cell2 rfl rfl rfl (HR9.out.set #[.int .i64 cb,.int .i64 ct,.int .i64 cs,.int .i64 ca,.int .i64 ck,.int .i64 cy,.int .i64 co,.int .i64 1,.int .i64 2,.int .i64 0,.int .i64 1,.slice (some ⟨G,0,none⟩) 1 1,.slice none 0 0,.int .i64 12,.int .i64 1,.int .i64 0,.slice none 0 0,.bool false]) Tryz.underlying74 rfl st_info) (by exact rfl) ?_;exact⟨G,b,bm,S2,rfl,HGG.out.1,HGG.out.2.1,HG9.out.setOther (by have:=HGL.out;omega) _,HGG.out.2.2.1,fresh_ne HGG.out.2.2.2,HD9.out.farRow HNN.out _,HGR9.out.farRow (Nat.le_succ _) _⟩
end
end Dk
end Go.Proofs.YtejcdhdfanfkbaaGreat
namespace Go.Proofs.YtejcdhdfanfkbaaGreat
namespace Fo
open Go.RowKit Hd Rd Fm Sn Dk Vi
open Go.Proofs.YtejcdhdfanfkbaaGreat.Op
theorem chk_p6:chkP [p6]=0:=by decide
theorem pL_p6:pL [p6]=[1,1,97,6]:=by
 have e:pL [p6]=putV 1++((putV 1++([97]++putV 6))++[]):=rfl;rw[e,putV_small (show 1<128 by decide),putV_small (show 6<128 by decide)];rfl
theorem deP_p6:deP [1,1,97,6]=(0,[p6]):=by
 have:=deP_put [p6] chk_p6
 rwa [pL_p6] at this
section
variable {D:DS}
theorem fs_now (hn:D.now=[]) (T:ByteArray) (b:Nat):(fsaveD T b D).now=[(keptN,b)]:=by
 show app (keptN,tmpN,some b) (d3 tmpN T b D).now=_
 rw[d3_now (by rw[hn];rfl),hn];unfold app;dsimp only;rw[if_neg (by decide)];show pt keptN b (dl tmpN [(tmpN,b)])=_
 rw[dl,if_pos rfl,pt]
theorem fs_fl (T:ByteArray) (b:Nat):(fsaveD T b D).fl b=some (T,T):=by
 show(if b=b then _ else _)=_
 rw[if_pos rfl,empty_app]
theorem fs_read (ho:D.off=false) (hn:D.now=[]) (T:ByteArray) (b:Nat):readP (fsaveD T b D) keptN=(T,0):=by
 unfold readP;have e1:(fsaveD T b D).off=false:=ho;rw[e1,fs_now hn,lk_cons,if_pos rfl];simp only[Bool.false_eq_true,if_false,fs_fl];rfl
end
end Fo
end Go.Proofs.YtejcdhdfanfkbaaGreat
