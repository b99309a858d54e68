/- log.Append of "hi" to a fresh log. seg: Read. grep: a reader of the probe's log; its segment has no block. -/
import Derived.Test.YtejcdhdfanfkbaaGreatFb46
import Derived.Test.YtejcdhdfanfkbaaGreatFb11
import Derived.Test.YtejcdhdfanfkbaaGreatFb40
namespace Go.Proofs.YtejcdhdfanfkbaaGreat
namespace Lg
open Go.RowKit Hd Rd Fm Sn Nf Dk Vi
open Go.Proofs.YtejcdhdfanfkbaaGreat.Op Go.Proofs.YtejcdhdfanfkbaaGreat.Rf
theorem results_cell3 {P:Program} {fn:Func} {tmps:Array Value} {w:World} {a b b2:Nat} {t:TypeId} {g:Nat} {c:Array Value} {u u2:Value} {d:TypeDesc} (hr:fn.results= #[.cell a t,.tmp b,.tmp b2]) (ht:tmps.getD a undef=.pointer (some ⟨g,0,none⟩)) (hb:tmps.getD b undef=u) (hb2:tmps.getD b2 undef=u2)
  (hh:Blk w g c t) (hu:P.underlying t=some d) (hd:(match d with|.struct _|.array _ _=>true|_=>false)=true) (hi:(P.info? t).map (·.size)=some c.size) :
  (results fn tmps).run P w=.ok (.tuple #[.agg c,u,u2]) w:=by
 unfold results;rw[hr];have ht2:tmps[a]?.getD undef=.pointer (some ⟨g,0,none⟩):=by rw[<-ht];simp[Array.getD_eq_getD_getElem?]
 have hb3:tmps[b]?.getD undef=u:=by rw[<-hb];simp[Array.getD_eq_getD_getElem?]
 have hb4:tmps[b2]?.getD undef=u2:=by rw[<-hb2];simp[Array.getD_eq_getD_getElem?]
 simp[ht2,hb3,hb4,asAddr,run_loadVar_row w g t t c (0,0) d hh hu hd hi]
def storeRow (t:TypeId) (x y:Value):Sem Unit:=Instr.storeAt t x y
def StOk (P:Program) (t:TypeId) (w:World) (b:Nat) (z:Array Value):Prop:=∃cs,Blk w b cs t/\(P.info? t).map (·.size)=some z.size/\cs.size=z.size/\z.all (·.oneCell')=true
theorem run_storeRow {P:Program} (t:TypeId) (b:Nat) (z:Array Value) (w:World) (h:StOk P t w b z):(storeRow t (.pointer (some ⟨b,0,none⟩)) (.agg z)).run P w=.ok () (w.setRow b z):=by
 obtain⟨cs,h1,h2,h3,h4⟩:=h;unfold storeRow;simp only[Instr.storeAt,Instr.sureAddr,Sem.run_bind,Sem.run_pure,Result.andThen_ok,run_storeVar_row w b t t cs z h1 h2 h3 h4]
theorem storeAt_st (x y:Value):Instr.storeAt 74 x y=storeRow 74 x y:=rfl
theorem loadAt_el (x:Value):Instr.loadAt 74 x=loadEl 74 18 x:=loadEl_eq _ _ _
def wrC (bd G c g k:Nat):Array Value:=#[.pointer (some ⟨bd,0,none⟩),.int .i64 40,.int .i64 100,.int .i64 300,.int .i64 0,.int .i64 0,.int .i64 0,.int .i64 0,.int .i64 1,.int .i64 2,.int .i64 0,.int .i64 1,.slice (some ⟨G,0,none⟩) 1 c,.slice none 0 0,.int .i64 12,.int .i64 2,.int .i64 0,.slice (some ⟨g,0,none⟩) 1 k,.bool false,.int .i64 1,.int .i64 1,.int .i64 1]
def s2:St:={ s1 c40 with nx:=2,wt:=[r1] }
def cs2 (G c g k:Nat):Array Value:=#[.int .i64 40,.int .i64 100,.int .i64 300,.int .i64 0,.int .i64 0,.int .i64 0,.int .i64 0,.int .i64 1,.int .i64 2,.int .i64 0,.int .i64 1,.slice (some ⟨G,0,none⟩) 1 c,.slice none 0 0,.int .i64 12,.int .i64 2,.int .i64 0,.slice (some ⟨g,0,none⟩) 1 k,.bool false]
attribute [local go_sem ↓] storeAt_st
attribute [local go_sem ↓] loadAt_el
attribute [local go_sem] run_storeRow
attribute [local go_sem] run_loadEl
theorem el_mid {w:World} {bd W G c g k:Nat} {t:TypeId} (h:Blk w W (wrC bd G c g k) t):elOk w ⟨W,1,none⟩ 18=true/\elAt w ⟨W,1,none⟩ 18=cs2 G c g k:=by
 have key:∀j v,(cs2 G c g k)[j]? =some v->w.cell? ((⟨W,1,none⟩:Addr).add j)=some v:=by
  intro j v hv;have hj:j<18:=(Array.getElem?_eq_some_iff.1 hv).1;have e:(wrC bd G c g k)[1+j]? =(cs2 G c g k)[j]? :=by
   rcases j with _|_|_|_|_|_|_|_|_|_|_|_|_|_|_|_|_|_|j<;>first|rfl|omega
  rw[Addr.add_lit];exact h.cell (1+j) (e.trans hv)
 have hs:(cs2 G c g k).size=18:=rfl
 constructor
 ·unfold elOk
  rw[List.all_eq_true];intro j hj;rw[key j _ (Array.getElem?_eq_getElem (by rw[hs];exact List.mem_range.1 hj))];rfl
 ·unfold elAt
  apply Array.ext_getElem?
  intro j;rw[List.getElem?_toArray,List.getElem?_map];by_cases hj:j<18
  ·rw[List.getElem?_range hj,Option.map_some,key j _ (Array.getElem?_eq_getElem (by rw[hs];exact hj)),Array.getElem?_eq_getElem (by rw[hs];exact hj)]
   rfl
  ·rw[List.getElem?_eq_none (by simp;omega),Array.getElem?_eq_none (by rw[hs];omega)]
   rfl
set_option maxHeartbeats 16000000 in
set_option maxRecDepth 100000 in
theorem app_go (bd G:Nat) (w:World) (hG:Blk w G (Sh.cl e1).toArray 217) :
  Calls Tryz.prog 29 #[.pointer (some ⟨bd,0,none⟩),.agg (cs1 G 1),.string ⟨#[104,105]⟩] w fun e w'=>(∃G' c' g k,e=.returned (.tuple #[.agg (cs2 G' c' g k),.int .i64 1,.int .i64 0])/\w'.ownsRow w.heap.size 217 9 (.slice (some ⟨G',0,none⟩) 1 c') 1 (flS [e1])/\w'.ownsRow w.heap.size 84 3 (.slice (some ⟨g,0,none⟩) 1 k) 1 (flS [r1]))/\Below w.heap.size w w':=by
 have mixed:Tryz.prog.follows .mixedOrders=true:=by kernel_rfl
 have HOF:=Lib.hid (fun(wx:World) (hb:Below w.heap.size w wx)=>of_go bd G wx (hG.ext hb));have HAD:=Lib.hid (fun wx=>add_go wx);have HRA:=Lib.hid (fun(A:Option Addr) (c:Nat) (wx:World) (hr:Rd wx wx.heap.size 3 A 1 (flS [r1]))=>show Calls Tryz.prog 81 #[.slice A 1 c] wx fun e w'=>e=.returned (.int .i64 5)/\Below wx.heap.size wx w' from by
  have:=raw_any A 1 c [r1] wx hr (by omega) r1_ok
  rwa [r1_raw] at this)
 have HFL:=Lib.hid (fun wx=>flush_no wx);have k14:(cs1 G 1)[14]? =some (.int .i64 1):=rfl;have k15:(cs1 G 1)[15]? =some (.int .i64 0):=rfl;have kcf:∀(j:Nat) (v:Value),(#[.int .i64 40,.int .i64 100,.int .i64 300,.int .i64 0,.int .i64 0,.int .i64 0,.int .i64 0]:Array Value)[j]? =some v->(cs1 G 1)[j]? =some v:=by
  intro j v h;have hj:j<7:=(Array.getElem?_eq_some_iff.1 h).1;rcases j with _|_|_|_|_|_|_|j<;>first|exact h|omega
 have KCF:=Lib.hid kcf;have hZs:(cs1 G 1).size=18:=rfl;generalize hZ:cs1 G 1=Z at *
 have HB0:=Lib.hid (ext_second w (.cells Z 74) (.cells #[.int .i64 0,.int .i64 0,.int .i64 0,.int .i64 0,.int .i64 0,.int .i64 0,.int .i64 0,.int .i64 0,.int .i64 0,.int .i64 0,.int .i64 0,.slice none 0 0,.slice none 0 0,.int .i64 0,.int .i64 0,.int .i64 0,.slice none 0 0,.bool false] 74));have HT0:=Lib.hid ((Blk.new w Z 74).alloc (.cells #[.int .i64 0,.int .i64 0,.int .i64 0,.int .i64 0,.int .i64 0,.int .i64 0,.int .i64 0,.int .i64 0,.int .i64 0,.int .i64 0,.int .i64 0,.slice none 0 0,.slice none 0 0,.int .i64 0,.int .i64 0,.int .i64 0,.slice none 0 0,.bool false] 74));have HN0:=Lib.hid (blk_second w (.cells Z 74) #[.int .i64 0,.int .i64 0,.int .i64 0,.int .i64 0,.int .i64 0,.int .i64 0,.int .i64 0,.int .i64 0,.int .i64 0,.int .i64 0,.int .i64 0,.slice none 0 0,.slice none 0 0,.int .i64 0,.int .i64 0,.int .i64 0,.slice none 0 0,.bool false] 74);have hb00:w.heap.size<(w.alloc (.cells Z 74)).heap.size:=by simp
 clear hZ kcf hG hb00
 go_enter Tryz.func29, Tryz.ntmps29
 go_upto_region 8 with (first
  |(refine wpList_load_row rfl 74 (.tmp 4) rfl w.heap.size Z _ (by simp[go_sem,Act.eval]) HT0.out Tryz.underlying74 rfl (by rw[hZs];exact st_info) ?_)
  |(go_at_call 78;refine(HOF.out _ HB0.out).mono ?_;rintro e1 w1 ⟨⟨W,G',c',rfl,hW,hG',hWB,ho⟩,hb1⟩;have HB1:=Lib.hid (HB0.out.trans (hb1.mono HB0.out.size));have HT1:=Lib.hid (HT0.out.ext hb1);have HN1:=Lib.hid (HN0.out.ext hb1);have HW1:=Lib.hid hWB;have HGE:=Lib.hid (And.intro hW (And.intro hG' ho));have l14:=HT1.out.cell 14 k14;clear hb1 hWB hW hG' ho))
 generalize hb0:w.heap.size=b0 at *
 have hb0s:b0<=w1.heap.size:=hb0▸HB1.out.size;have HN:=Lib.hid (show ∀wx,Below w1.heap.size w1 wx->(fun wx=>(wx.cell? ⟨W,17,none⟩=some (.slice none 0 0)/\wx.cell? ⟨b0,14,none⟩=some (.int .i64 1)/\wx.cell? ⟨b0,15,none⟩=some (.int .i64 0))/\Below w1.heap.size w1 wx) wx from fun wx hb =>
  ⟨⟨(HW1.out.ext hb).cell 17 rfl,(HT1.out.ext hb).cell 14 k14,(HT1.out.ext hb).cell 15 k15⟩,hb⟩)
 have hSd:=HN.out w1.drew (Below.refl _ _).drew;clear l14;go_region_held3 (fun wx=>(wx.cell? ⟨W,17,none⟩=some (.slice none 0 0)/\wx.cell? ⟨b0,14,none⟩=some (.int .i64 1)/\wx.cell? ⟨b0,15,none⟩=some (.int .i64 0))/\Below w1.heap.size w1 wx) (first|with_reducible exact hSd|with_reducible assumption) (first
  |(go_at_call 79;refine(HAD.out _).mono ?_;rintro e2 w2 ⟨⟨g,k,rfl,ho⟩,hb2⟩;have hS2:=HN.out w2 (hSd.2.trans (hb2.mono hSd.2.size));have HO2:=Lib.hid (own_lower ho hSd.2.size);clear ho hb2))
 have HW2:=Lib.hid (HW1.out.ext hS2.2);have HT2:=Lib.hid (HT1.out.ext hS2.2);have HN2:=Lib.hid (HN1.out.ext hS2.2);have HB2:=Lib.hid (HB1.out.trans (hS2.2.mono (hb0▸HB1.out.size)));have HE2:=Lib.hid (own_below HGE.out.2.2 hS2.2 (Nat.le_refl _));have l17:=hS2.1.1;have HWlt:W<w1.heap.size:=HW1.out.lt;clear hSd hS2 HN HW1 HT1 HN1 HB1;go_upto_region 12 with fail
 have hWb:b0+2<=W:=by
  have:=HGE.out.1;simp at this
  omega
 have hne:W≠b0:=by omega
 have hWb1:W≠b0+1:=by omega
 have hne2:b0≠W:=by omega
 have d14:w2.drew.cell? ⟨b0,14,none⟩=some (.int .i64 1):=HT2.out.cell 14 k14;have d15:w2.drew.cell? ⟨W,15,none⟩=some (.int .i64 1):=HW2.out.cell 15 rfl;have d17:w2.drew.cell? ⟨W,17,none⟩=some (.slice none 0 0):=l17;have f15:w2.drew.frozen? ⟨W,15,none⟩=false:=HW2.out.fz 15;have f17:w2.drew.frozen? ⟨W,17,none⟩=false:=HW2.out.fz 17;have hWd:Blk w2.drew W (wrB bd G' c') 160:=HW2.out;have e15:(w2.setCell ⟨W,17,none⟩ (.slice (some ⟨g,0,none⟩) 1 k)).drew.cell? ⟨W,15,none⟩=some (.int .i64 1):=(hWd.put 17 _).cell 15 rfl;have g15:(w2.setCell ⟨W,17,none⟩ (.slice (some ⟨g,0,none⟩) 1 k)).drew.frozen? ⟨W,15,none⟩=false:=(hWd.put 17 _).fz 15;have e17:(w2.setCell ⟨W,15,none⟩ (.int .i64 (IntKind.i64.wrap 2))).drew.cell? ⟨W,17,none⟩=some (.slice none 0 0):=(hWd.put 15 _).cell 17 rfl;have g17:(w2.setCell ⟨W,15,none⟩ (.int .i64 (IntKind.i64.wrap 2))).drew.frozen? ⟨W,17,none⟩=false:=(hWd.put 15 _).fz 17;have e14:(w2.setCell ⟨W,17,none⟩ (.slice (some ⟨g,0,none⟩) 1 k)).drew.cell? ⟨b0,14,none⟩=some (.int .i64 1):=(Blk.setCell (show Blk w2.drew b0 Z _ from HT2.out) hne2 _).cell 14 k14;have e14b:(w2.setCell ⟨W,15,none⟩ (.int .i64 (IntKind.i64.wrap 2))).drew.cell? ⟨b0,14,none⟩=some (.int .i64 1):=(Blk.setCell (show Blk w2.drew b0 Z _ from HT2.out) hne2 _).cell 14 k14;have e14c:((w2.setCell ⟨W,15,none⟩ (.int .i64 (IntKind.i64.wrap 2))).setCell ⟨W,17,none⟩ (.slice (some ⟨g,0,none⟩) 1 k)).drew.cell? ⟨b0,14,none⟩=some (.int .i64 1):=(Blk.setCell (Blk.setCell (show Blk w2.drew b0 Z _ from HT2.out) hne2 _) hne2 _).cell 14 k14;have e14d:((w2.setCell ⟨W,17,none⟩ (.slice (some ⟨g,0,none⟩) 1 k)).setCell ⟨W,15,none⟩ (.int .i64 (IntKind.i64.wrap 2))).drew.cell? ⟨b0,14,none⟩=some (.int .i64 1):=(Blk.setCell (Blk.setCell (show Blk w2.drew b0 Z _ from HT2.out) hne2 _) hne2 _).cell 14 k14;clear hWd;go_region_held3 (fun wx=>wx.cell? ⟨b0,14,none⟩=some (.int .i64 1)) (first|with_reducible exact d14|with_reducible assumption) (fail)
 have hGW:G'≠W:=by
  rintro rfl;obtain⟨q1,q3⟩:∃q1,w2.heap[G']? =some (.cells q1 217 (0,0)):=by
   rcases HE2.out.2 with ⟨hv,-⟩|⟨g',cap,cur,hv,-,hg,-⟩
   ·cases hv
   ·cases hv;exact⟨cur,hg⟩
  have q4:=HW2.out;unfold Blk at q4;rw[q3] at q4;simp only[Option.some.injEq,Obj.cells.injEq] at q4;exact absurd q4.2.1 (by decide)
 have hgW:g≠W:=by
  have h1:=(World.ownsRow.lt HO2.out g rfl).1;have h2:=HWlt;omega
 have HW3:=Lib.hid (show Blk ((w2.setCell ⟨W,17,none⟩ (.slice (some ⟨g,0,none⟩) 1 k)).setCell ⟨W,15,none⟩ (.int .i64 (IntKind.i64.wrap 2))).drew W (wrC bd G' c' g k) 160 from(HW2.out.put 17 _).put 15 _);have HT3:=Lib.hid (show Blk ((w2.setCell ⟨W,17,none⟩ (.slice (some ⟨g,0,none⟩) 1 k)).setCell ⟨W,15,none⟩ (.int .i64 (IntKind.i64.wrap 2))).drew b0 Z 74 from Blk.setCell (Blk.setCell HT2.out hne2 _) hne2 _);have HN3:=Lib.hid (show Blk ((w2.setCell ⟨W,17,none⟩ (.slice (some ⟨g,0,none⟩) 1 k)).setCell ⟨W,15,none⟩ (.int .i64 (IntKind.i64.wrap 2))).drew (b0+1) _ 74 from Blk.setCell (Blk.setCell HN2.out (by omega) _) (by omega) _);have HB3:=Lib.hid (show Below b0 w ((w2.setCell ⟨W,17,none⟩ (.slice (some ⟨g,0,none⟩) 1 k)).setCell ⟨W,15,none⟩ (.int .i64 (IntKind.i64.wrap 2))).drew from((HB2.out.setCell (p:=⟨W,17,none⟩) (by show b0<=W;omega) _).setCell (p:=⟨W,15,none⟩) (by show b0<=W;omega) _).drew);have HE3:=Lib.hid (show((w2.setCell ⟨W,17,none⟩ (.slice (some ⟨g,0,none⟩) 1 k)).setCell ⟨W,15,none⟩ (.int .i64 (IntKind.i64.wrap 2))).drew.ownsRow _ 217 9 (.slice (some ⟨G',0,none⟩) 1 c') 1 (flS [e1]) from World.ownsRow.drew (own_setCell_far (a:=⟨W,15,none⟩) (own_setCell_far (a:=⟨W,17,none⟩) HE2.out (fun h=>hGW (Option.some.inj h)) _) (fun h=>hGW (Option.some.inj h)) _));have HO3:=Lib.hid (show((w2.setCell ⟨W,17,none⟩ (.slice (some ⟨g,0,none⟩) 1 k)).setCell ⟨W,15,none⟩ (.int .i64 (IntKind.i64.wrap 2))).drew.ownsRow _ 84 3 (.slice (some ⟨g,0,none⟩) 1 k) 1 (flS [r1]) from World.ownsRow.drew (own_setCell_far (a:=⟨W,15,none⟩) (own_setCell_far (a:=⟨W,17,none⟩) HO2.out (fun h=>hgW (Option.some.inj h)) _) (fun h=>hgW (Option.some.inj h)) _));have HB3s:=HB3.out.size;clear d14 d15 d17 f15 f17 e14 e14b e14c e14d e15 g15 e17 g17 HW2 HT2 HN2 HB2 HE2 HO2 l17 hGW hgW;generalize ((w2.setCell ⟨W,17,none⟩ (.slice (some ⟨g,0,none⟩) 1 k)).setCell ⟨W,15,none⟩ (.int .i64 (IntKind.i64.wrap 2))).drew=w3 at *
 go_upto_region 13 with fail
 have HR3:=Lib.hid (Rd.of_own HO3.out);have HN:=Lib.hid (show ∀wx,Below w3.heap.size w3 wx->(fun wx=>(wx.cell? ⟨b0,0,none⟩=some (.int .i64 40)/\wx.cell? ⟨b0,1,none⟩=some (.int .i64 100)/\wx.cell? ⟨b0,2,none⟩=some (.int .i64 300)/\wx.cell? ⟨b0,3,none⟩=some (.int .i64 0)/\wx.cell? ⟨b0,4,none⟩=some (.int .i64 0)/\wx.cell? ⟨b0,5,none⟩=some (.int .i64 0)/\wx.cell? ⟨b0,6,none⟩=some (.int .i64 0))/\Below w3.heap.size w3 wx) wx from fun wx hb =>
  ⟨⟨(HT3.out.ext hb).cell 0 (KCF.out 0 _ rfl),(HT3.out.ext hb).cell 1 (KCF.out 1 _ rfl),(HT3.out.ext hb).cell 2 (KCF.out 2 _ rfl),(HT3.out.ext hb).cell 3 (KCF.out 3 _ rfl),(HT3.out.ext hb).cell 4 (KCF.out 4 _ rfl),(HT3.out.ext hb).cell 5 (KCF.out 5 _ rfl),(HT3.out.ext hb).cell 6 (KCF.out 6 _ rfl)⟩,hb⟩)
 have hSd:=HN.out w3.drew (Below.refl _ _).drew;go_region_held3 (fun wx=>(wx.cell? ⟨b0,0,none⟩=some (.int .i64 40)/\wx.cell? ⟨b0,1,none⟩=some (.int .i64 100)/\wx.cell? ⟨b0,2,none⟩=some (.int .i64 300)/\wx.cell? ⟨b0,3,none⟩=some (.int .i64 0)/\wx.cell? ⟨b0,4,none⟩=some (.int .i64 0)/\wx.cell? ⟨b0,5,none⟩=some (.int .i64 0)/\wx.cell? ⟨b0,6,none⟩=some (.int .i64 0))/\Below w3.heap.size w3 wx) (first|with_reducible exact hSd|with_reducible assumption) (first
  |(go_at_call 81;refine(HRA.out _ _ _ ((HR3.out.below hSd.2).more hSd.2.size)).mono ?_;rintro e4 w4 ⟨rfl,hb4⟩;have hS4:=HN.out w4 (hSd.2.trans (hb4.mono hSd.2.size));clear hb4)
  |(go_at_call 80;refine(HFL.out _).mono ?_;rintro e5 w5 ⟨rfl,hb5⟩;have hS5:=HN.out w5 (hS4.2.trans (hb5.mono hS4.2.size));clear hb5))
 have HBZ:=Lib.hid hS5.2;have HW5:=Lib.hid (HW3.out.ext hS5.2);have HT5:=Lib.hid (HT3.out.ext hS5.2);have HN5:=Lib.hid (HN3.out.ext hS5.2);have HB5:=Lib.hid (HB3.out.trans (hS5.2.mono (hb0▸HB3s)));have HE5:=Lib.hid (own_below HE3.out hS5.2 (Nat.le_refl _));have HO5:=Lib.hid (own_below HO3.out hS5.2 (Nat.le_refl _));clear hSd hS4 hS5 HN HW3 HT3 HN3 HB3 HE3 HO3 HR3;go_upto_region 14 with fail
 have hEl:=el_mid HW5.out;have het:ElTy Tryz.prog 74 18:=⟨st_info,_,Tryz.underlying74⟩
 have hst:StOk Tryz.prog 74 w5.drew (b0+1) (cs2 G' c' g k):=⟨_,HN5.out,st_info,rfl,by simp[cs2,Value.oneCell']⟩
 have hHW6:=Blk.setOther (show Blk w5.drew W (wrC bd G' c' g k) _ from HW5.out) hWb1 (cs2 G' c' g k);have hS5:(elOk w5.drew ⟨W,1,none⟩ 18=true/\elAt w5.drew ⟨W,1,none⟩ 18=cs2 G' c' g k)/\w5.drew.cell? ⟨b0,14,none⟩=some (.int .i64 1):=⟨hEl,HT5.out.cell 14 k14⟩
 have hS6:(elOk (w5.drew.setRow (b0+1) (cs2 G' c' g k)) ⟨W,1,none⟩ 18=true/\elAt (w5.drew.setRow (b0+1) (cs2 G' c' g k)) ⟨W,1,none⟩ 18=cs2 G' c' g k)/\(w5.drew.setRow (b0+1) (cs2 G' c' g k)).cell? ⟨b0,14,none⟩=some (.int .i64 1):=⟨el_mid hHW6,(Blk.setOther (show Blk w5.drew b0 Z _ from HT5.out) (by omega) (cs2 G' c' g k)).cell 14 k14⟩
 have HN6:=Lib.hid (Blk.set (show Blk w5.drew (b0+1) _ _ from HN5.out) (cs2 G' c' g k));generalize hZ2:cs2 G' c' g k=Z2 at *
 have HZ2:=Lib.hid hZ2;clear hHW6 hEl hZ2;go_region_held3 (fun wx=>(elOk wx ⟨W,1,none⟩ 18=true/\elAt wx ⟨W,1,none⟩ 18=Z2)/\wx.cell? ⟨b0,14,none⟩=some (.int .i64 1)) (first|with_reducible exact hS5|with_reducible exact hS6|with_reducible assumption) (fail)
 have hz18:Z2.size=18:=by rw[<-HZ2.out];rfl
 clear hS5 hS6 hst;go_wp2_with fail
 refine bodyPost_ret (v:=.tuple #[.agg Z2,.int .i64 1,.int .i64 0]) (by exact results_cell3 rfl rfl rfl rfl HN6.out Tryz.underlying74 rfl (by rw[hz18];exact st_info)) (by exact rfl) ?_;have hO:∀{t:TypeId} {sz:Nat} {v:Value} {l:List Value} {B:Nat},w5.ownsRow B t sz v 1 l->b0<=B->v.ownBlock≠some (b0+1)->(w5.drew.setRow (b0+1) Z2).ownsRow b0 t sz v 1 l:=fun h hB hn =>
  own_lower (own_block (World.ownsRow.drew h) fun g hg=>setRow_other _ _ _ _ (by rintro rfl;exact hn hg)) hB
 have hG2:G'≠b0+1:=by have h:=HGE.out.2.1;simp at h;omega
 have hg1:=(World.ownsRow.lt HO5.out g rfl).1;have hGl:=HGE.out.2.1;refine⟨⟨G',c',g,k,by rw[HZ2.out],?_,?_⟩,by rw[hb0];exact ext_setRow HB5.out.drew (Nat.le_succ _) _⟩
 ·rw[hb0]
  exact hO HE5.out (by rw[<-hb0];simp;omega) (fun h=>hG2 (Option.some.inj h))
 ·rw[hb0]
  exact hO HO5.out hb0s (fun h=>by have:g=b0+1:=Option.some.inj h;omega)
end Lg
end Go.Proofs.YtejcdhdfanfkbaaGreat
namespace Go.Proofs.YtejcdhdfanfkbaaGreat
namespace Dk
open Go.RowKit Hd Fm Sn
section
variable {w w':World} {S:Nat->Prop} {bd gN gS:Nat} {v:Value} {D:DS}
set_option maxHeartbeats 3200000 in
set_option maxRecDepth 100000 in
theorem Read_go (h:DiskAt w S bd D) {i g f:Int} (hh:okH i g f=true) :
  Calls Tryz.prog 288 #[.pointer (some ⟨bd,0,none⟩),.agg #[.int .i64 i,.int .i64 g,.int .i64 f]] w fun e w'=>e=.returned (.tuple #[.string (readP D (segN i g)).1,.int .i64 (readP D (segN i g)).2])/\Below w.heap.size w w':=by
 have HO:=Lib.hid (fun w=>of_ok (bd:=bd) i g f w hh);have HC:=Lib.hid (fun(wx:World) (hx:Below w.heap.size w wx)=>read_any (h.ext hx) (segN i g));clear h hh;unfold sgc at *
 generalize segN i g=s at *
 have B2:=ext_alloc w (.cells #[.int .i64 i,.int .i64 g,.int .i64 f] 148)
 go_enter Tryz.func288, Tryz.ntmps288
 go_wp2_with (first
  |(go_at_call 123;refine(HO.out _).mono ?_;rintro e1 w1 ⟨rfl,hb1⟩;have HW1:=Lib.hid (B2.trans (hb1.mono B2.size));clear hb1 B2;have HW2:=Lib.hid (HW1.out.trans ((ext_alloc w1 (.cells #[.pointer (some ⟨bd,0,none⟩),.int .i64 i,.int .i64 g,.int .i64 f,.string s] 219)).mono HW1.out.size)))
  |(go_at_call 70;refine(HC.out _ HW2.out).mono ?_;rintro e5 w5 ⟨rfl,rfl⟩))
 go_ret2
 exact⟨rfl,HW2.out⟩
end
end Dk
end Go.Proofs.YtejcdhdfanfkbaaGreat
namespace Go.Proofs.YtejcdhdfanfkbaaGreat
namespace Gq
open Go.RowKit Hd Rd Lg Dk
open Go.Proofs.YtejcdhdfanfkbaaGreat.Op Go.Proofs.YtejcdhdfanfkbaaGreat.Rf
def rdC (bd G c g k bq:Nat):Array Value:=#[.pointer (some ⟨bd,0,none⟩),.int .i64 40,.int .i64 100,.int .i64 300,.int .i64 0,.int .i64 0,.int .i64 0,.int .i64 0,.int .i64 1,.int .i64 2,.int .i64 0,.int .i64 1,.slice (some ⟨G,0,none⟩) 1 c,.slice none 0 0,.int .i64 12,.int .i64 2,.int .i64 0,.slice (some ⟨g,0,none⟩) 1 k,.bool false,.func (.func 193) #[] #[.pointer (some ⟨bq,0,none⟩)],.func (.func 195) #[] #[.pointer (some ⟨bq,0,none⟩)],.int .i64 0,.int .i64 0]
theorem loadAt_e3 (x:Value):Instr.loadAt 217 x=loadRow 217 x:=rfl
attribute [local go_sem ↓] loadAt_e3
attribute [local go_sem] run_loadRow
def E1:Array Value:=(Sh.cl e1).toArray
section
variable {w:World} {S:Nat->Prop} {bd:Nat} {D:DS}
set_option maxHeartbeats 3200000 in
set_option maxRecDepth 100000 in
theorem blocks_q (h:DiskAt w S bd D) (R G c g k bq:Nat) (hR:Blk w R (rdC bd G c g k bq) 249) (hz:(readP D (segN 1 1)).2=0) :
  Calls Tryz.prog 246 #[.pointer (some ⟨R,0,none⟩),.agg E1] w fun e w'=>e=.returned (.tuple #[.string (readP D (segN 1 1)).1,.slice none 0 0])/\Below w.heap.size w w':=by
 have mixed:Tryz.prog.follows .mixedOrders=true:=by kernel_rfl
 have HRE:=Lib.hid (fun(wx:World) (hx:Below w.heap.size w wx)=>Read_go (h.ext hx) (i:=1) (g:=1) (f:=1) rfl);rw[hz] at HRE;generalize (readP D (segN 1 1)).1=T at *
 have HB0:=Lib.hid (ext_alloc w (.cells E1 217));have HE0:=Lib.hid (Blk.new w E1 217);have HR0:=Lib.hid (hR.alloc (.cells E1 217));have HF:=Lib.hid (show E1[0]? =some (.int .i64 1)/\E1[1]? =some (.int .i64 1)/\E1[2]? =some (.int .i64 1)/\E1[3]? =some (.bool false) from⟨rfl,rfl,rfl,rfl⟩);clear h hR hz;generalize E1=E at *
 go_enter Tryz.func246, Tryz.ntmps246
 go_upto_region 1 with fail
 generalize w.alloc (.cells E 217)=w0 at *
 have q0:=fun q:Bw w0=>(HR0.out.ext q.h).cell 0 (v:=.pointer (some ⟨bd,0,none⟩)) rfl
 have q1:=fun q:Bw w0=>(HE0.out.ext q.h).cell 0 HF.out.1
 have q2:=fun q:Bw w0=>(HE0.out.ext q.h).cell 1 HF.out.2.1
 have q3:=fun q:Bw w0=>(HE0.out.ext q.h).cell 2 HF.out.2.2.1
 have HRE2:=Lib.hid (fun q:Bw w0=>HRE.out q.to (HB0.out.trans (q.h.mono HB0.out.size)));refine wp_region_quiet_below (by assumption) (by kernel_rfl) ?_
 repeat (go_big_quiet_step ((go_at_call 288;refine below_of (HRE2.out _))))
 refine wpQuiet_nil ?_;intro _ hw';obtain⟨q,rfl⟩:=hw';have k13:=(HR0.out.ext q.h).cell 13 (v:=.slice none 0 0) rfl;have k3:=(HE0.out.ext q.h).cell 3 HF.out.2.2.2;clear q0 q1 q2 q3;go_wp2_with fail
 go_ret2
 exact⟨rfl,HB0.out.trans (q.h.mono HB0.out.size)⟩
set_option maxHeartbeats 3200000 in
set_option maxRecDepth 100000 in
theorem segments_q (h:DiskAt w S bd D) (R G c g k bq:Nat) (y:Value) (hR:Blk w R (rdC bd G c g k bq) 249) (hz:(readP D (segN 1 1)).2=0) :
  Calls Tryz.prog 198 #[.pointer (some ⟨R,0,none⟩),.agg E1,y] w fun e w'=>e=.returned (.bool true)/\Below w.heap.size w w':=by
 have mixed:Tryz.prog.follows .mixedOrders=true:=by kernel_rfl
 have HBL:=Lib.hid (fun(wx:World) (hx:Below w.heap.size w wx)=>blocks_q (h.ext hx) R G c g k bq (hR.ext hx) hz);generalize (readP D (segN 1 1)).1=T at *
 have HB0:=Lib.hid (ext_alloc w (.cells E1 217));have HE0:=Lib.hid (Blk.new w E1 217);have HR0:=Lib.hid (hR.alloc (.cells E1 217));have he9:E1.size=9:=rfl;have hrt9:RowTy Tryz.prog 217 9:=⟨e_info,_,Tryz.underlying217⟩
 clear h hR hz;generalize E1=E at *
 go_enter Tryz.func198, Tryz.ntmps198
 go_upto_region 1 with fail
 generalize w.alloc (.cells E 217)=w0 at *
 have r1:=HE0.out.rowAt.1;have r2:=HE0.out.rowAt.2;go_wp2_with (go_at_call 246;refine(HBL.out _ HB0.out).mono ?_;rintro e1 w1 ⟨rfl,hb1⟩;have HB1:=Lib.hid (HB0.out.trans (hb1.mono HB0.out.size));have k21:=(HR0.out.ext hb1).cell 21 (v:=.int .i64 0) rfl;clear hb1)
 clear r1 r2;go_loopw [26] (fun v wr=>v=.int .i64 0/\wr=w1) (fun v _=>0)
 case atStart=>exact⟨rfl,rfl⟩
 case round =>
  obtain⟨rfl,rfl⟩:=hrel;go_wp2_with fail
  go_ret
  exact⟨rfl,HB1.out⟩
end
end Gq
end Go.Proofs.YtejcdhdfanfkbaaGreat
