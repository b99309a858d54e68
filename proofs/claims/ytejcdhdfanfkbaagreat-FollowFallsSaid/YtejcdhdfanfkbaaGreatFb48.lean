/- grep: check, asked, parts at the probe's log. grep: the parts of the probe's log are what waits, alone. -/
import Derived.Test.YtejcdhdfanfkbaaGreatFb47
import Derived.Test.YtejcdhdfanfkbaaGreatFb33
import Derived.Test.YtejcdhdfanfkbaaGreatFb38
import Derived.Test.YtejcdhdfanfkbaaGreatFb11
import Derived.Sort.QuietThIn
import Derived.Sort.BigQuietIn
namespace Go.Proofs.YtejcdhdfanfkbaaGreat
namespace Gq
open Go.RowKit Hd Rd Lg Dk Sn
open Go.Proofs.YtejcdhdfanfkbaaGreat.Op Go.Proofs.YtejcdhdfanfkbaaGreat.Rf
structure W2 (w:World) (G c g k:Nat):Prop where
 E:w.ownsRow 0 217 9 (.slice (some ⟨G,0,none⟩) 1 c) 1 (flS [e1])
 R:w.ownsRow 0 84 3 (.slice (some ⟨g,0,none⟩) 1 k) 1 (flS [r1])
section
variable {w w':World} {G c g k:Nat}
theorem W2.ext (h:W2 w G c g k) (hb:Below w.heap.size w w'):W2 w' G c g k :=
 ⟨own_block h.E fun b hg=>hb.block b (World.ownsRow.lt h.E b hg).2,own_block h.R fun b hg=>hb.block b (World.ownsRow.lt h.R b hg).2⟩
theorem own_cap {t:TypeId} {sz n:Nat} {A:Option Addr} {c:Nat} {l:List Value} {B:Nat} (h:w.ownsRow B t sz (.slice A n c) n l):n<=c/\c<=maxLen:=by
 obtain⟨A,c',e,h1,h2⟩:=own_slice h;cases e
 exact⟨h1,h2⟩
theorem W2.str (h:W2 w G c g k):Str w w.heap.size s2 ⟨some ⟨G,0,none⟩,1,c⟩ ⟨none,0,0⟩ ⟨some ⟨g,0,none⟩,1,k⟩ :=
 ⟨Rd.of_own h.E,Rd.nil,Rd.of_own h.R,⟨(own_cap h.E).1,Nat.le_refl _,(own_cap h.R).1⟩,⟨(own_cap h.E).2,by show 0<=maxLen;decide,(own_cap h.R).2⟩,⟨(fun h=>by cases h),(fun _=>rfl),(fun h=>by cases h)⟩⟩
end
theorem s2_ok:okSt s2=true:=by
 have k1:keptB s2=true:=by
  unfold keptB;show(okCf c40&&okMf m1)=true
  rw[m1_ok,show okCf c40=true from by decide];rfl
 have k2:laidB s2=true:=by
  have hz:endI (hdOf s2) s2.bs=s2.sz:=by
   show((hdrB 1 1 1).size:Int)=12
   rw[hdr_size];rfl
  unfold laidB;rw[hz,decide_eq_true rfl];rfl
 have k3:waitsB s2=true:=by
  unfold waitsB;have e:((rawR s2.wt:Nat):Int)<s2.cf.b:=by
   show((rawR [r1]:Nat):Int)<40
   rw[r1_raw];omega
  have e0:Rd.rowE none s2.wt=0:=r1_row;rw[decide_eq_true e,decide_eq_true e0];rfl
 have k4:timedB s2=true:=by decide
 unfold okSt;rw[k1,k2,k3,k4];rfl
theorem st_eq (G c g k:Nat):stc s2 ⟨some ⟨G,0,none⟩,1,c⟩ ⟨none,0,0⟩ ⟨some ⟨g,0,none⟩,1,k⟩=cs2 G c g k:=rfl
theorem loadAt_q4 (x:Value):Instr.loadAt 168 x=loadRow 168 x:=rfl
theorem loadAt_e4 (x:Value):Instr.loadAt 217 x=loadRow 217 x:=rfl
theorem loadAt_s4 (x:Value):Instr.loadAt 74 x=loadRow 74 x:=rfl
attribute [local go_sem ↓] loadAt_q4
attribute [local go_sem ↓] loadAt_e4
attribute [local go_sem ↓] loadAt_s4
attribute [local go_sem] run_loadRow
set_option maxHeartbeats 3200000 in
set_option maxRecDepth 100000 in
theorem check_q (w:World) {G c g k:Nat} (h:W2 w G c g k) :
  Calls Tryz.prog 144 #[.agg (cs2 G c g k),.agg qv] w fun e w'=>e=.returned (.int .i64 0)/\Below w.heap.size w w':=by
 have mixed:Tryz.prog.follows .mixedOrders=true:=by kernel_rfl
 have HOC:=Lib.hid (fun(wx:World) (hb:Below w.heap.size w wx)=>show Calls Tryz.prog 77 #[.agg (cs2 G c g k)] wx fun e w'=>e=.returned (.int .i64 0)/\Below wx.heap.size wx w' from by
  have:=ocheck_any s2 ⟨some ⟨G,0,none⟩,1,c⟩ ⟨none,0,0⟩ ⟨some ⟨g,0,none⟩,1,k⟩ wx (h.ext hb).str (by show 1<=1000000;omega) (by show 0<=100000;omega) (by show 1<=1000000;omega);rw[s2_ok,if_pos rfl] at this;exact this)
 have HSC:=Lib.hid (fun wx=>scheck_q wx);have hz18:(cs2 G c g k).size=18:=rfl;have hq7:qv.size=7:=rfl;have hrt:RowTy Tryz.prog 168 7:=⟨q_info,_,Tryz.underlying168⟩
 have hrt18:RowTy Tryz.prog 74 18:=⟨st_info,_,Tryz.underlying74⟩
 clear h;generalize cs2 G c g k=Z at *
 generalize qv=QV at *
 have HB0:=Lib.hid (ext_second w (.cells Z 74) (.cells QV 168));have HZ0:=Lib.hid ((Blk.new w Z 74).alloc (.cells QV 168));have HQ0:=Lib.hid (blk_second w (.cells Z 74) QV 168)
 go_enter Tryz.func144, Tryz.ntmps144
 go_upto_region 1 with fail
 generalize (w.alloc (.cells Z 74)).alloc (.cells QV 168)=w0 at *
 have r1:=HZ0.out.rowAt.1;have r2:=HZ0.out.rowAt.2;go_wp2_with (first
  |(go_at_call 77;refine(HOC.out _ HB0.out).mono ?_;rintro e1 w1 ⟨rfl,hb1⟩;have HB1:=Lib.hid (HB0.out.trans (hb1.mono HB0.out.size));have q1:=(HQ0.out.ext hb1).rowAt.1;have q2:=(HQ0.out.ext hb1).rowAt.2;clear hb1)
  |(go_at_call 192;refine(HSC.out _).mono ?_;rintro e2 w2 ⟨rfl,hb2⟩;have HB2:=Lib.hid (HB1.out.trans (hb2.mono HB1.out.size));clear hb2))
 go_ret
 exact⟨rfl,HB2.out⟩
set_option maxHeartbeats 3200000 in
set_option maxRecDepth 100000 in
theorem asked1_q (bq:Nat) (w:World) (hq:Blk w bq qv 168) :
  Calls Tryz.prog 193 #[.agg E1,.pointer (some ⟨bq,0,none⟩)] w fun e w'=>e=.returned (.bool true)/\Below w.heap.size w w':=by
 have mixed:Tryz.prog.follows .mixedOrders=true:=by kernel_rfl
 have HSE:=Lib.hid (fun wx=>show Calls Tryz.prog 194 #[.agg qv,.agg E1] wx fun e w'=>e=.returned (.bool true)/\Below wx.heap.size wx w' from seg_q wx);have hq7:qv.size=7:=rfl;have he9:E1.size=9:=rfl;have hrt:RowTy Tryz.prog 168 7:=⟨q_info,_,Tryz.underlying168⟩
 have hrt9:RowTy Tryz.prog 217 9:=⟨e_info,_,Tryz.underlying217⟩
 generalize qv=QV at *
 generalize E1=E at *
 have HB0:=Lib.hid (ext_alloc w (.cells E 217));have hx:=Blk.new w E 217;have hy:=hq.alloc (.cells E 217);have r1:=hx.rowAt.1;have r2:=hx.rowAt.2;have r3:=hy.rowAt.1;have r4:=hy.rowAt.2;clear hx hy hq
 go_enter Tryz.func193, Tryz.ntmps193
 go_upto_region 1 with fail
 generalize w.alloc (.cells E 217)=w0 at *
 go_wp2_with (go_at_call 194;refine(HSE.out _).mono ?_;rintro e1 w1 ⟨rfl,hb1⟩;have HB1:=Lib.hid (HB0.out.trans (hb1.mono HB0.out.size));clear hb1)
 go_ret
 exact⟨rfl,HB1.out⟩
def buildR (l:Array (Nat×Value)):Sem Value:=Instr.build 249 l
theorem build_r (l:Array (Nat×Value)):Instr.build 249 l=buildR l:=rfl
theorem run_buildR (bd G c g k bq:Nat) (w:World):(buildR #[(0,.pointer (some ⟨bd,0,none⟩)),(1,.agg (cs2 G c g k)),(2,.func (.func 193) #[] #[.pointer (some ⟨bq,0,none⟩)]),(3,.func (.func 195) #[] #[.pointer (some ⟨bq,0,none⟩)])]).run Tryz.prog w=.ok (.agg (rdC bd G c g k bq)) w:=by kernel_rfl
attribute [local go_sem ↓] build_r
set_option maxHeartbeats 3200000 in
set_option maxRecDepth 100000 in
theorem asked_q (bd G c g k:Nat) (w:World) :
  Calls Tryz.prog 145 #[.pointer (some ⟨bd,0,none⟩),.agg (cs2 G c g k),.agg qv] w fun e w'=>(∃R bq,e=.returned (.pointer (some ⟨R,0,none⟩))/\Blk w' R (rdC bd G c g k bq) 249/\Blk w' bq qv 168/\w.heap.size<=R/\w.heap.size<=bq)/\Below w.heap.size w w':=by
 have mixed:Tryz.prog.follows .mixedOrders=true:=by kernel_rfl
 have HBU:=Lib.hid (fun bq w=>run_buildR bd G c g k bq w);have HRD:=Lib.hid (show ∀bq,(rdC bd G c g k bq).size=23 from fun _=>rfl);have HEQ:=Lib.hid (show ∀bq,rdC bd G c g k bq=rdC bd G c g k bq from fun _=>rfl);have hz18:(cs2 G c g k).size=18:=rfl;have hrt18:RowTy Tryz.prog 74 18:=⟨st_info,_,Tryz.underlying74⟩
 generalize cs2 G c g k=Z at *
 generalize qv=QV at *
 have HB0:=Lib.hid (ext_second w (.cells Z 74) (.cells QV 168));have HZ0:=Lib.hid ((Blk.new w Z 74).alloc (.cells QV 168));have HQ0:=Lib.hid (blk_second w (.cells Z 74) QV 168)
 go_enter Tryz.func145, Tryz.ntmps145
 go_upto_region 1 with fail
 generalize (w.alloc (.cells Z 74)).alloc (.cells QV 168)=w0 at *
 have r1:=HZ0.out.rowAt.1;have r2:=HZ0.out.rowAt.2;have hbu:=HBU.out (w.heap.size+1);go_wp2_with fail
 go_ret
 exact⟨⟨w0.heap.size,rfl,w.heap.size+1,Blk.new w0 _ _,HQ0.out.alloc _,HB0.out.size,Nat.le_succ _⟩,HB0.out.trans ((ext_alloc w0 _).mono HB0.out.size)⟩
theorem parts_q (R:Nat) (w:World) :
  Calls Tryz.prog 146 #[.pointer (some ⟨R,0,none⟩)] w fun e w'=>e=.returned (.func (.func 197) #[] #[.pointer (some ⟨w.heap.size,0,none⟩)])/\w'=w.alloc (.cells #[.pointer (some ⟨R,0,none⟩)] 240):=by
 go_enter Tryz.func146, Tryz.ntmps146
 go_wp2_with fail
 go_ret
 exact⟨rfl,rfl⟩
end Gq
end Go.Proofs.YtejcdhdfanfkbaaGreat
namespace Go.Proofs.YtejcdhdfanfkbaaGreat
namespace Gq
open Go.RowKit Go.Shelf Hd Rd Lg Dk Sn Rg Fm
open Go.Proofs.YtejcdhdfanfkbaaGreat.Op Go.Proofs.YtejcdhdfanfkbaaGreat.Rf
theorem wpIn_region_quiet_below {F:Fence} {n:Nat} {P:Program} {id:Nat} {Q:Exit->Act->World->Prop} {a:Act} {w:World} {l:List Oper} (hro:F.round=none) (hm:P.follows .mixedOrders=true) (hB:Region.lexB .any l.toArray=true)
  (h:wpQuietIn F n P l.toArray (fun w'=>∃p:Bw w,w'=p.to) (fun a'=>∀w',(∃p:Bw w,w'=p.to)->Q .normal a' w') l a):(Code.region id l.toArray true).wpIn F n P Q a w :=
 wpIn_region_quiet (C:=fun w'=>∃p:Bw w,w'=p.to) hro hm hB ⟨⟨{ w with drawn:=w.drawn+1 },⟨rfl,rfl,rfl,Nat.le_refl _,fun _ _=>rfl⟩⟩,rfl⟩ (by simpa using h)
theorem belowIn_of {n:Nat} {P:Program} {f:FuncId} {args:Array Value} {w:World} {p:Bw w} {v:Value} (h:Calls P f args p.to fun e w'=>e=.returned v/\Below p.to.heap.size p.to w') :
  CallsIn Fence.wide n P f args p.to fun e w'=>e=.returned v/\ ∃q:Bw w,w'=q.to :=
 (callsIn_wide.2 h).mono fun _ w' ⟨he,hb⟩=>⟨he,⟨w',p.h.trans (hb.mono p.h.size)⟩,rfl⟩
theorem loadAt_e5 (x:Value):Instr.loadAt 217 x=loadEl 217 9 x:=loadEl_eq _ _ _
theorem wide_fn (f:FuncId):Fence.wide.fn f↔True:=⟨fun _=>trivial,fun _=>trivial⟩
attribute [local go_sem] wide_fn
attribute [local go_sem ↓] loadAt_e5
attribute [local go_sem] run_loadEl
structure It (w:World) (b1 R bd G c g k bq:Nat) (S:Nat->Prop) (D:DS):Prop where
 P:One w b1 (.pointer (some ⟨R,0,none⟩)) 240
 R:Blk w R (rdC bd G c g k bq) 249
 Q:Blk w bq qv 168
 W:W2 w G c g k
 D:DiskAt w S bd D
theorem It.ext {w w':World} {b1 R bd G c g k bq:Nat} {S:Nat->Prop} {D:DS} (h:It w b1 R bd G c g k bq S D) (hb:Below w.heap.size w w'):It w' b1 R bd G c g k bq S D :=
 ⟨h.P.below hb h.P.lt,h.R.ext hb,h.Q.ext hb,h.W.ext hb,h.D.ext hb⟩
set_option maxHeartbeats 6400000 in
set_option maxRecDepth 100000 in
theorem parts1_gives (n b1 R bd G c g k bq b:Nat) (S:Nat->Prop) (D:DS) (w:World) (h:It w b1 R bd G c g k bq S D) (hz:(readP D (segN 1 1)).2=0) :
  Gives Fence.wide n Tryz.prog 197 #[.pointer (some ⟨b1,0,none⟩)] (fun v:Value=>v) (fun _=>False) b [.slice (some ⟨g,0,none⟩) 1 k] w:=by
 intro l J W hW hJ hY h0;have mixed:Tryz.prog.follows .mixedOrders=true:=by kernel_rfl
 have HJ:=Lib.hid (fun(pre:List Value) (W1 W2:World) (h:J pre (fun _=>False) W1) (hb:Below W1.heap.size W1 W2)=>hJ pre _ (fun _=>False) W1 W2 h (grown_below hb) (fun _ h=>.inl h));have HY:=Lib.hid hY;have HI0:=Lib.hid (h.ext hW);have HA1:=Lib.hid (fun(wx:World) (h:It wx b1 R bd G c g k bq S D)=>asked1_q bq wx h.Q);have HSG:=Lib.hid (fun(wx:World) (h:It wx b1 R bd G c g k bq S D) (y:Value)=>segments_q h.D R G c g k bq y h.R hz);have HEL:=Lib.hid (show ∀wx,It wx b1 R bd G c g k bq S D->elOk wx ⟨G,0,none⟩ 9=true/\elAt wx ⟨G,0,none⟩ 9= #[.int .i64 1,.int .i64 1,.int .i64 1,.bool false,.int .i64 0,.int .i64 0,.int .i64 0,.int .i64 0,.int .i64 0] from fun wx h=>by
  obtain⟨ad,x,e,-,hx,h1,h2⟩:=rd_el (Rd.of_own h.W.E) (k:=0) (by omega);cases e
  cases hx
  rw[Nat.zero_mul,Addr.add_lit] at h1 h2;exact⟨h1,h2⟩)
 have het:ElTy Tryz.prog 217 9:=⟨e_info,_,Tryz.underlying217⟩
 unfold E1 at HA1 HSG;have hE1:(Sh.cl e1).toArray= #[.int .i64 1,.int .i64 1,.int .i64 1,.bool false,.int .i64 0,.int .i64 0,.int .i64 0,.int .i64 0,.int .i64 0]:=rfl;rw[hE1] at HA1 HSG;clear hE1;have H0:=Lib.hid h0;clear hJ hY h0 h hW hz;refine callsIn_of_wp Tryz.func197 rfl trivial ?_ rfl;simp only[Tryz.ntmps197,List.size_toArray,List.length_cons,List.length_nil,Nat.reduceAdd,Nat.reduceSub,Array.replicate_succ,Array.replicate_zero,List.push_toArray,List.append_toArray,List.nil_append,List.cons_append];have k0:=HI0.out.P.cell;have k12:=HI0.out.R.cell 12 (v:=.slice (some ⟨G,0,none⟩) 1 c) rfl
 gi_wp2_with fail
 gi_loopg [12] 3 (fun kx s12 wr=>∃j:Nat,s12=.int .i64 (j:Int)/\j<=1/\1-j<kx/\Hid (It wr b1 R bd G c g k bq S D/\J [] (fun _=>False) wr))
 case atStart=>exact⟨0,rfl,by omega,by omega,Lib.hid ⟨HI0.out,H0.out⟩⟩
 case round =>
  clear HI0 H0 k0 k12;obtain⟨j,rfl,hj,hjk,HX⟩:=hrel;by_cases hj0:j=0
  ·subst hj0
   have e1:=(HEL.out _ HX.out.1).1;have e2:=(HEL.out _ HX.out.1).2
   gi_upto_region 3 with fail
   have HB1:=Lib.hid (ext_alloc wr (.cells #[.int .i64 1,.int .i64 1,.int .i64 1,.bool false,.int .i64 0,.int .i64 0,.int .i64 0,.int .i64 0,.int .i64 0] 217));have HX1:=Lib.hid (HX.out.1.ext HB1.out);have HJ1:=Lib.hid (HJ.out _ _ _ HX.out.2 HB1.out);have HE1:=Lib.hid (Blk.new wr #[.int .i64 1,.int .i64 1,.int .i64 1,.bool false,.int .i64 0,.int .i64 0,.int .i64 0,.int .i64 0,.int .i64 0] 217);clear HX e1 e2;generalize wr.alloc (.cells #[.int .i64 1,.int .i64 1,.int .i64 1,.bool false,.int .i64 0,.int .i64 0,.int .i64 0,.int .i64 0,.int .i64 0] 217)=w1 at *
   have q0:=fun q:Bw w1=>(HX1.out.ext q.h).P.cell
   have q1:=fun q:Bw w1=>(HX1.out.ext q.h).R.cell 19 (v:=.func (.func 193) #[] #[.pointer (some ⟨bq,0,none⟩)]) rfl
   have q2:=fun q:Bw w1=>(el_blk (n:=9) (HE1.out.ext q.h) rfl).1
   have q3:=fun q:Bw w1=>(el_blk (n:=9) (HE1.out.ext q.h) rfl).2
   have HA2:=Lib.hid (fun q:Bw w1=>HA1.out q.to (HX1.out.ext q.h));have HS2:=Lib.hid (fun q:Bw w1=>HSG.out q.to (HX1.out.ext q.h));refine wpIn_region_quiet_below rfl (by assumption) (by kernel_rfl) ?_
   repeat (gi_big_quiet_step (first|(refine⟨(fun h=>by cases h),belowIn_of (HA2.out _)⟩)|(refine⟨(fun h=>by cases h),belowIn_of (HS2.out _ _)⟩)))
   refine wpQuietIn_nil ?_;intro _ hw';obtain⟨q,rfl⟩:=hw';have HX2:=Lib.hid (HX1.out.ext q.h);have HJ2:=Lib.hid (HJ.out _ _ _ HJ1.out q.h);clear q0 q1 q2 q3 HA2 HS2
   gi_wp2_with fail
   gi_roundg 1
   case measure=>omega
   case rel=>exact⟨1,by first|rfl|go_num,by omega,by omega,Lib.hid ⟨HX2.out,HJ2.out⟩⟩
  ·obtain rfl:j=1:=by omega
   have k0:=HX.out.1.P.cell;have k17:=HX.out.1.R.cell 17 (v:=.slice (some ⟨g,0,none⟩) 1 k) rfl;obtain⟨fnn,tmps,assign,body,hy,hR⟩:=HY.out [] (.slice (some ⟨g,0,none⟩) 1 k) [] (fun _=>False) wr rfl HX.out.2;have HR:=Lib.hid hR;clear hR HX
   gi_wp2_with fail
   refine⟨(fun h=>by cases h),HR.out.mono ?_⟩;rintro e5 w5 ⟨rfl,hJ5,hk5⟩
   gi_wp2_with fail
   refine bodyPost_end (results_none rfl _ _ _) rfl ?_;exact⟨⟨_,rfl⟩,_,hJ5⟩
end Gq
end Go.Proofs.YtejcdhdfanfkbaaGreat
