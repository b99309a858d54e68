/- open.log: head, kept. A whole struct loaded in a quiet region: one step, no cell is opened. -/
import Derived.Test.YtejcdhdfanfkbaaGreatFb29
import Derived.Test.YtejcdhdfanfkbaaGreatFb24
import Derived.Test.YtejcdhdfanfkbaaGreatFb07
namespace Go.Proofs.YtejcdhdfanfkbaaGreat
namespace Op
open Go.RowKit Hd Rd Vi Dk
def sagg (s:St) (x y z:Sl):Value:=.agg (stc s x y z)
theorem Str.ext {w w':World} {s:St} {x y z:Sl} (h:Str w w.heap.size s x y z) (hb:Below w.heap.size w w'):Str w' w'.heap.size s x y z:=⟨(h.es.below hb).more hb.size,(h.bs.below hb).more hb.size,(h.wt.below hb).more hb.size,h.le,h.mx,h.no⟩
theorem hdOf_at {s:St} {j:Nat} {h:En} (hy:s.mf.es[j]? =some h) (hl:s.mf.es.length=j+1):hdOf s=h:=by
 unfold hdOf;rw[List.getLast?_eq_getElem?,hl,Nat.add_sub_cancel,hy];rfl
set_option maxHeartbeats 3200000 in
set_option maxRecDepth 100000 in
theorem lhead_any (s:St) (x y z:Sl) (w:World) (h:Str w w.heap.size s x y z) (h0:0<s.mf.es.length) (hx1:x.n<=1000000) :
  Calls Tryz.prog 74 #[sagg s x y z] w fun e w'=>e=.returned (.agg #[.int .i64 (hdOf s).i,.int .i64 (hdOf s).g,.int .i64 (hdOf s).f])/\Below w.heap.size w w':=by
 have hln:=rdS_len h.es;obtain⟨j,hj⟩:∃j,x.n=j+1:=⟨x.n-1,by omega⟩
 obtain⟨ad,e,hA,hbk,hy,f0,fj⟩:=sl_at (k:=j) h.es (by omega);rw[hdOf_at hy (by omega)];clear h hy h0 hln;obtain⟨⟨cb,ct,cs,ca,ck,cy,co⟩,⟨mg,mx,mt,mf,es⟩,bs,sz,nx,nw,wt,rd⟩:=s;obtain⟨A1,n1,c1⟩:=x;obtain⟨A2,n2,c2⟩:=y;obtain⟨A3,n3,c3⟩:=z;unfold sagg stc Sl.v;dsimp only at *
 obtain⟨ei,eg,ef,ez,ec,eb,ee,el,en⟩:=e;have HW:=Lib.hid (ext_second w (.cells #[.int .i64 cb,.int .i64 ct,.int .i64 cs,.int .i64 ca,.int .i64 ck,.int .i64 cy,.int .i64 co,.int .i64 mg,.int .i64 mx,.int .i64 mt,.int .i64 mf,.slice A1 n1 c1,.slice A2 n2 c2,.int .i64 sz,.int .i64 nx,.int .i64 nw,.slice A3 n3 c3,.bool rd] 146) (.cells #[.int .i64 0,.int .i64 0,.int .i64 0] 148));have u0:w.cell? (ad.add (j*9))=some (.int .i64 ei):=f0;have u1:w.cell? ⟨(ad.add (j*9)).block,(ad.add (j*9)).off+1,none⟩=some (.int .i64 eg):=fj 0 (by decide);have u2:w.cell? ⟨(ad.add (j*9)).block,(ad.add (j*9)).off+2,none⟩=some (.int .i64 ef):=fj 1 (by decide);subst hA;have hlt:(ad.add (j*9)).block<w.heap.size:=by rw[add_block];exact hbk
 have k0:=(HW.out.cell hlt).trans u0;have k1:=(HW.out.cell (p:=⟨(ad.add (j*9)).block,(ad.add (j*9)).off+1,none⟩) hlt).trans u1;have k2:=(HW.out.cell (p:=⟨(ad.add (j*9)).block,(ad.add (j*9)).off+2,none⟩) hlt).trans u2;have b2:IntKind.i64.wrap ((n1:Int)-1)=(j:Int):=by rw[IntKind.wrap_i64];omega
 have b3:(j:Int)<(n1:Int):=by omega
 have b5:(0:Int)<=(j:Int):=by omega
 have HJ:=Lib.hid hj;clear hj f0 fj u0 u1 u2 hbk hlt
 go_enter Tryz.func74, Tryz.ntmps74
 go_wp2_with fail
 refine bodyPost_ret (v:=.agg #[.int .i64 ei,.int .i64 eg,.int .i64 ef]) (by simp[results,go_sem]) rfl ?_;exact⟨rfl,ext_second w _ _⟩
set_option maxHeartbeats 3200000 in
set_option maxRecDepth 100000 in
theorem kept_any (s:St) (x y z:Sl) (w:World) (h:Str w w.heap.size s x y z) (hx1:x.n<=1000000) :
  Calls Tryz.prog 130 #[sagg s x y z] w fun e w'=>e=.returned (.bool (keptB s))/\Below w.heap.size w w':=by
 have HM:=Lib.hid (fun(wx:World) (hb:Below w.heap.size w wx)=>mcheck_any s.mf x wx (h.ext hb).es hx1);have HC:=Lib.hid (fun wx=>pcheck_any s.cf wx);have HE:=Lib.hid (show keptB s=(okCf s.cf&&okMf s.mf) from rfl);unfold mfE at HM;unfold cfE at HC;unfold cagg at HC;unfold magg at HM;generalize okCf s.cf=K at *
 generalize okMf s.mf=M at *
 generalize keptB s=E at *
 clear h;obtain⟨⟨cb,ct,cs,ca,ck,cy,co⟩,⟨mg,mx,mt,mf,es⟩,bs,sz,nx,nw,wt,rd⟩:=s;obtain⟨A1,n1,c1⟩:=x;obtain⟨A2,n2,c2⟩:=y;obtain⟨A3,n3,c3⟩:=z;unfold sagg stc Sl.v;dsimp only at *
 have HK:=Lib.hid (Blk.new w #[.int .i64 cb,.int .i64 ct,.int .i64 cs,.int .i64 ca,.int .i64 ck,.int .i64 cy,.int .i64 co,.int .i64 mg,.int .i64 mx,.int .i64 mt,.int .i64 mf,.slice A1 n1 c1,.slice A2 n2 c2,.int .i64 sz,.int .i64 nx,.int .i64 nw,.slice A3 n3 c3,.bool rd] 146);have HW:=Lib.hid (ext_alloc w (.cells #[.int .i64 cb,.int .i64 ct,.int .i64 cs,.int .i64 ca,.int .i64 ck,.int .i64 cy,.int .i64 co,.int .i64 mg,.int .i64 mx,.int .i64 mt,.int .i64 mf,.slice A1 n1 c1,.slice A2 n2 c2,.int .i64 sz,.int .i64 nx,.int .i64 nw,.slice A3 n3 c3,.bool rd] 146));have hE:=HE.out;clear HE;rcases K with _|_
 all_goals
  rcases M with _|_
  all_goals
   subst hE;simp only[Bool.false_eq_true,if_false,if_true] at HM HC
   go_enter Tryz.func130, Tryz.ntmps130
   go_wp2_with (first
    |(go_at_call 72;refine(HC.out _).mono ?_;rintro e1 w1 ⟨rfl,hb1⟩;have HW:=Lib.hid (HW.out.trans (hb1.mono HW.out.size));have HK:=Lib.hid (HK.out.ext hb1);clear hb1;have k7:=HK.out.cell 7 (v:=.int .i64 mg) rfl;have k8:=HK.out.cell 8 (v:=.int .i64 mx) rfl;have k9:=HK.out.cell 9 (v:=.int .i64 mt) rfl;have k10:=HK.out.cell 10 (v:=.int .i64 mf) rfl;have k11:=HK.out.cell 11 (v:=.slice A1 n1 c1) rfl)
    |(go_at_call 178;refine(HM.out _ HW.out).mono ?_;rintro e2 w2 ⟨rfl,hb2⟩;have HW:=Lib.hid (HW.out.trans (hb2.mono HW.out.size));clear hb2))
   go_ret
   exact⟨rfl,HW.out⟩
end Op
end Go.Proofs.YtejcdhdfanfkbaaGreat
namespace Go.Proofs.YtejcdhdfanfkbaaGreat
open Go.RowKit
theorem wpQuiet_load_row {P:Program} {ops:Array Oper} {C:World->Prop} {Q:Act->Prop} {rest:List Oper} {o:Oper} {a:Act} (t:TypeId) (x:Operand) (ho:o.op=.load t x) (hw:Region.wanted o (yielded ops a.tmps)=true)
  (g:Nat) (c:Array Value) (d:TypeDesc) (hx:a.eval x=.pointer (some ⟨g,0,none⟩)) (hh:∀w,C w->Blk w g c t) (hu:P.underlying t=some d) (hd:(match d with|.struct _|.array _ _=>true|_=>false)=true) (hi:(P.info? t).map (·.size)=some c.size)
  (h:wpQuiet P ops C Q rest (a.put o.dst (.agg c))):wpQuiet P ops C Q (o::rest) a:=by
 refine wpQuiet_step fun K hK=>?_
 rw[if_pos hw];refine⟨.agg c,fun w hC=>?_,hK _ h⟩;unfold Oper.quietAt execOp;simp only[ho,hx,Instr.loadAt,Instr.sureAddr,Sem.run_bind,Sem.run_pure,Result.andThen_ok,run_loadVar_row w g t t c (0,0) d (hh w hC) hu hd hi];exact⟨rfl,rfl⟩
theorem quiet_load_row {P:Program} {C:World->Prop} {K:Act->Prop} {o:Oper} {a:Act} (t:TypeId) (x:Operand) (ho:o.op=.load t x)
  (g:Nat) (c:Array Value) (d:TypeDesc) (hx:a.eval x=.pointer (some ⟨g,0,none⟩)) (hh:∀w,C w->Blk w g c t) (hu:P.underlying t=some d) (hd:(match d with|.struct _|.array _ _=>true|_=>false)=true) (hi:(P.info? t).map (·.size)=some c.size)
  (h:K (a.put o.dst (.agg c))):o.quiet P a C K:=by
 refine⟨.agg c,fun w hC=>?_,h⟩;unfold Oper.quietAt execOp;simp only[ho,hx,Instr.loadAt,Instr.sureAddr,Sem.run_bind,Sem.run_pure,Result.andThen_ok,run_loadVar_row w g t t c (0,0) d (hh w hC) hu hd hi];exact⟨rfl,rfl⟩
end Go.Proofs.YtejcdhdfanfkbaaGreat
