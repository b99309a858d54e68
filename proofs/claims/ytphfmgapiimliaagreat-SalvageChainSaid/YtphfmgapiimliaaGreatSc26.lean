/- entry.Open, mani.New. A whole struct loaded in one step, ahead of any unfolding: for regions that draw. Over any program. An element of a slice of structs loaded in one step, ahead of any unfolding. Over any program. entry.Next, salvage.links; varveref24.Next, varveref43.goes. -/
import Derived.Test.YtphfmgapiimliaaGreatSc21
import Derived.Test.YtphfmgapiimliaaGreatSc25
import Derived.Test.YtphfmgapiimliaaGreatSc06
import Derived.Test.YtphfmgapiimliaaGreatSc02
import Derived.Test.YtphfmgapiimliaaGreatSc09
import Derived.Test.YtphfmgapiimliaaGreatSc11
import Derived.Deep.Cut
namespace Go.Proofs.YtphfmgapiimliaaGreat
namespace Op
open Go.RowKit Hd Rd Vi Dk
theorem en_info:(Tryz.prog.info? 48).map (·.size)=some 9:=by kernel_rfl
theorem mf_info:(Tryz.prog.info? 26).map (·.size)=some 5:=by kernel_rfl
def enO (i g f:Int):En:=⟨i,g,f,false,0,0,0,0,0⟩
theorem rdK_blk {w:World} {g n K:Nat} {cs:Array Value} {t:TypeId} (h:Blk w g cs t) (hs:cs.size=n*K):Rd w w.heap.size K (some ⟨g,0,none⟩) n cs.toList :=
 ⟨by rw[Array.length_toList,hs],fun _=>⟨⟨g,0,none⟩,rfl,h.lt,fun j u hu=>by
  rw[Addr.add_lit,Nat.zero_add];exact h.cell j (by rwa [Array.getElem?_toList] at hu)⟩⟩
set_option maxHeartbeats 3200000 in
set_option maxRecDepth 100000 in
theorem eopen_go (i g f:Int) (w:World) (h:okH i g f=true) :
  Calls Tryz.prog 180 #[.agg #[.int .i64 i,.int .i64 g,.int .i64 f]] w fun e w'=>e=.returned (.tuple #[.agg #[.int .i64 i,.int .i64 g,.int .i64 f,.bool false,.int .i64 0,.int .i64 0,.int .i64 0,.int .i64 0,.int .i64 0],.int .i64 0])/\Below w.heap.size w w':=by
 have HC:=Lib.hid (fun w=>check_any i g f w);rw[h] at HC;simp only[if_true] at HC;clear h;have HK:=Lib.hid ((Blk.new w #[.int .i64 i,.int .i64 g,.int .i64 f] 35).alloc (.cells #[.int .i64 0,.int .i64 0,.int .i64 0,.bool false,.int .i64 0,.int .i64 0,.int .i64 0,.int .i64 0,.int .i64 0] 48));have HN:=Lib.hid (blk_second w (.cells #[.int .i64 i,.int .i64 g,.int .i64 f] 35) #[.int .i64 0,.int .i64 0,.int .i64 0,.bool false,.int .i64 0,.int .i64 0,.int .i64 0,.int .i64 0,.int .i64 0] 48);have HB:=Lib.hid (ext_second w (.cells #[.int .i64 i,.int .i64 g,.int .i64 f] 35) (.cells #[.int .i64 0,.int .i64 0,.int .i64 0,.bool false,.int .i64 0,.int .i64 0,.int .i64 0,.int .i64 0,.int .i64 0] 48))
 go_enter Tryz.func180, Tryz.ntmps180
 go_wp2_with (first
  |(refine wpList_load_row rfl 35 (.tmp 1) rfl w.heap.size #[.int .i64 i,.int .i64 g,.int .i64 f] _ (by simp[go_sem,Act.eval]) HK.out Tryz.underlying35 rfl hd_info ?_)
  |(go_at_call 126;refine(HC.out _).mono ?_;rintro e1 w1 ⟨rfl,hb1⟩;have HB:=Lib.hid (HB.out.trans (hb1.mono HB.out.size));have HN:=Lib.hid (HN.out.ext hb1);have HK:=Lib.hid (HK.out.ext hb1);clear hb1)
  |(refine wpList_store_row rfl 48 (.tmp 2) (.tmp 12) rfl (w.heap.size+1) #[.int .i64 i,.int .i64 g,.int .i64 f,.bool false,.int .i64 0,.int .i64 0,.int .i64 0,.int .i64 0,.int .i64 0] #[.int .i64 0,.int .i64 0,.int .i64 0,.bool false,.int .i64 0,.int .i64 0,.int .i64 0,.int .i64 0,.int .i64 0] (by simp[go_sem,Act.eval]) (by simp[go_sem,Act.eval]) HN.out en_info rfl (by simp[Value.oneCell']) ?_))
 refine bodyPost_ret (v:=.tuple #[.agg #[.int .i64 i,.int .i64 g,.int .i64 f,.bool false,.int .i64 0,.int .i64 0,.int .i64 0,.int .i64 0,.int .i64 0],.int .i64 0]) (by exact results_cell2 rfl rfl rfl (HN.out.set #[.int .i64 i,.int .i64 g,.int .i64 f,.bool false,.int .i64 0,.int .i64 0,.int .i64 0,.int .i64 0,.int .i64 0]) Tryz.underlying48 rfl en_info) (by exact rfl) ?_;exact⟨rfl,ext_setRow HB.out (Nat.le_succ _) _⟩
set_option maxHeartbeats 6400000 in
set_option maxRecDepth 100000 in
theorem mnew_go (i g f:Int) (w:World) (h:okH i g f=true) (hi:i≠999999) :
  Calls Tryz.prog 130 #[.agg #[.int .i64 i,.int .i64 g,.int .i64 f]] w fun e w'=>∃G:Nat,e=.returned (.tuple #[.agg #[.int .i64 1,.int .i64 (i+1),.int .i64 0,.int .i64 f,.slice (some ⟨G,0,none⟩) 1 1],.int .i64 0])/\Blk w' G #[.int .i64 i,.int .i64 g,.int .i64 f,.bool false,.int .i64 0,.int .i64 0,.int .i64 0,.int .i64 0,.int .i64 0] 48/\w.heap.size<=G/\Below w.heap.size w w':=by
 have HO:=Lib.hid (fun w=>eopen_go i g f w h);have hb:1<=i/\i<=999999:=by
  simp only[okH,decide_eq_true_eq] at h;omega
 have hw:IntKind.i64.wrap (i+1)=i+1:=by rw[IntKind.wrap_i64];omega
 have hne:(i==999999)=false:=by rw[beq_eq_false_iff_ne];exact hi
 clear h hb hi;have HK:=Lib.hid ((Blk.new w #[.int .i64 i,.int .i64 g,.int .i64 f] 35).alloc (.cells #[.int .i64 0,.int .i64 0,.int .i64 0,.int .i64 0,.slice none 0 0] 26));have HN:=Lib.hid (blk_second w (.cells #[.int .i64 i,.int .i64 g,.int .i64 f] 35) #[.int .i64 0,.int .i64 0,.int .i64 0,.int .i64 0,.slice none 0 0] 26);have HB:=Lib.hid (ext_second w (.cells #[.int .i64 i,.int .i64 g,.int .i64 f] 35) (.cells #[.int .i64 0,.int .i64 0,.int .i64 0,.int .i64 0,.slice none 0 0] 26))
 go_enter Tryz.func130, Tryz.ntmps130
 go_wp2_with (first
  |(refine wpList_load_row rfl 35 (.tmp 1) rfl w.heap.size #[.int .i64 i,.int .i64 g,.int .i64 f] _ (by simp[go_sem,Act.eval]) HK.out Tryz.underlying35 rfl hd_info ?_)
  |(go_at_call 180;refine(HO.out _).mono ?_;rintro e1 w1 ⟨rfl,hb1⟩;have HE:=Lib.hid (Blk.new w1 #[.int .i64 i,.int .i64 g,.int .i64 f,.bool false,.int .i64 0,.int .i64 0,.int .i64 0,.int .i64 0,.int .i64 0] 48);have HB:=Lib.hid ((HB.out.trans (hb1.mono HB.out.size)).trans ((ext_alloc w1 (.cells #[.int .i64 i,.int .i64 g,.int .i64 f,.bool false,.int .i64 0,.int .i64 0,.int .i64 0,.int .i64 0,.int .i64 0] 48)).mono (HB.out.trans (hb1.mono HB.out.size)).size));have HN:=Lib.hid ((HN.out.ext hb1).alloc (.cells #[.int .i64 i,.int .i64 g,.int .i64 f,.bool false,.int .i64 0,.int .i64 0,.int .i64 0,.int .i64 0,.int .i64 0] 48));have HK:=Lib.hid ((HK.out.ext hb1).alloc (.cells #[.int .i64 i,.int .i64 g,.int .i64 f,.bool false,.int .i64 0,.int .i64 0,.int .i64 0,.int .i64 0,.int .i64 0] 48));clear hb1;have k0:=HK.out.cell 0 (v:=.int .i64 i) rfl;have k2:=HK.out.cell 2 (v:=.int .i64 f) rfl)
  |(refine wpList_load_row rfl 48 (.tmp 4) rfl w1.heap.size #[.int .i64 i,.int .i64 g,.int .i64 f,.bool false,.int .i64 0,.int .i64 0,.int .i64 0,.int .i64 0,.int .i64 0] _ (by simp[go_sem,Act.eval]) HE.out Tryz.underlying48 rfl en_info ?_)
  |(refine wpList_store_row rfl 26 (.tmp 2) (.tmp 26) rfl (w.heap.size+1) #[.int .i64 1,.int .i64 (i+1),.int .i64 0,.int .i64 f,.slice (some ⟨w1.heap.size+1,0,none⟩) 1 1] #[.int .i64 0,.int .i64 0,.int .i64 0,.int .i64 0,.slice none 0 0] (by simp[go_sem,Act.eval]) (by simp[go_sem,Act.eval]) (HN.out.alloc _) mf_info rfl (by simp[Value.oneCell']) ?_))
 refine bodyPost_ret (v:=.tuple #[.agg #[.int .i64 1,.int .i64 (i+1),.int .i64 0,.int .i64 f,.slice (some ⟨w1.heap.size+1,0,none⟩) 1 1],.int .i64 0]) (by exact results_cell2 rfl rfl rfl ((HN.out.alloc _).set #[.int .i64 1,.int .i64 (i+1),.int .i64 0,.int .i64 f,.slice (some ⟨w1.heap.size+1,0,none⟩) 1 1]) Tryz.underlying26 rfl mf_info) (by exact rfl) ?_;have HX:=Lib.hid ((Blk.new (w1.alloc (.cells #[.int .i64 i,.int .i64 g,.int .i64 f,.bool false,.int .i64 0,.int .i64 0,.int .i64 0,.int .i64 0,.int .i64 0] 48)) #[.int .i64 i,.int .i64 g,.int .i64 f,.bool false,.int .i64 0,.int .i64 0,.int .i64 0,.int .i64 0,.int .i64 0] 48).setOther (k:=w.heap.size+1) (by have:=HB.out.size;have:=HN.out.lt;omega) #[.int .i64 1,.int .i64 (i+1),.int .i64 0,.int .i64 f,.slice (some ⟨w1.heap.size+1,0,none⟩) 1 1]);have hsz:(w1.alloc (.cells #[.int .i64 i,.int .i64 g,.int .i64 f,.bool false,.int .i64 0,.int .i64 0,.int .i64 0,.int .i64 0,.int .i64 0] 48)).heap.size=w1.heap.size+1:=by simp
 rw[hsz] at HX;exact⟨w1.heap.size+1,rfl,HX.out,by have:=HN.out.lt;have:=HB.out.size;omega,ext_setRow (HB.out.trans ((ext_alloc _ _).mono HB.out.size)) (Nat.le_succ _) _⟩
end Op
end Go.Proofs.YtphfmgapiimliaaGreat
namespace Go.Proofs.YtphfmgapiimliaaGreat
open Go.RowKit
def rowAt (w:World) (b:Nat):Array Value:=match w.heap[b]? with
 |some (.cells cs _ (0,0))=>cs
 |_=>#[]
def isRowAt (w:World) (b:Nat):Bool:=match w.heap[b]? with
 |some (.cells _ _ (0,0))=>true
 |_=>false
def RowTy (P:Program) (t:TypeId) (n:Nat):Prop:=(P.info? t).map (·.size)=some n/\ ∃fs,P.underlying t=some (.struct fs)
theorem Blk.rowAt {w:World} {b:Nat} {cs:Array Value} {t:TypeId} (h:Blk w b cs t):isRowAt w b=true/\rowAt w b=cs:=by
 unfold Blk at h;unfold isRowAt Go.Proofs.YtphfmgapiimliaaGreat.rowAt;rw[h];exact⟨rfl,rfl⟩
theorem loadVar_row_pre {P:Program} (t:TypeId) (b:Nat) (w:World) (h:isRowAt w b=true) (ht:RowTy P t (rowAt w b).size):(loadVar t ⟨b,0,none⟩).run P w=.ok (.agg (rowAt w b)) w:=by
 obtain⟨hi,fs,hu⟩:=ht;have hb:∃cs t',w.heap[b]? =some (.cells cs t' (0,0)):=by
  unfold isRowAt at h;split at h
  ·exact⟨_,_,by assumption⟩
  ·cases h
 obtain⟨cs,t',hb⟩:=hb;have e:rowAt w b=cs:=by unfold rowAt;simp only[hb]
 rw[e] at hi ⊢;exact run_loadVar_row w b t' t cs (0,0) _ hb hu rfl hi
def loadRow (t:TypeId) (x:Value):Sem Value:=Instr.loadAt t x
theorem run_loadRow {P:Program} (t:TypeId) (b:Nat) (w:World) (h:isRowAt w b=true) (ht:RowTy P t (rowAt w b).size):(loadRow t (.pointer (some ⟨b,0,none⟩))).run P w=.ok (.agg (rowAt w b)) w:=by
 unfold loadRow;simp only[Instr.loadAt,Instr.sureAddr,Sem.run_bind,Sem.run_pure,Result.andThen_ok,loadVar_row_pre t b w h ht]
end Go.Proofs.YtphfmgapiimliaaGreat
namespace Go.Proofs.YtphfmgapiimliaaGreat
open Go.RowKit
def elAt (w:World) (a:Addr) (n:Nat):Array Value:=((List.range n).map fun j=>(w.cell? (a.add j)).getD undef).toArray
def elOk (w:World) (a:Addr) (n:Nat):Bool:=(List.range n).all fun j=>(w.cell? (a.add j)).isSome
def ElTy (P:Program) (t:TypeId) (n:Nat):Prop:=(P.info? t).map (·.size)=some n/\ ∃fs,P.underlying t=some (.struct fs)
def loadEl (t:TypeId) (n:Nat) (x:Value):Sem Value:=if n=0 then Instr.loadAt t x else Instr.loadAt t x
theorem loadEl_eq (t:TypeId) (n:Nat) (x:Value):Instr.loadAt t x=loadEl t n x:=by unfold loadEl;split<;>rfl
theorem run_loadEl {P:Program} (t:TypeId) (n:Nat) (a:Addr) (w:World) (h:elOk w a n=true) (ht:ElTy P t n):(loadEl t n (.pointer (some a))).run P w=.ok (.agg (elAt w a n)) w:=by
 obtain⟨hi,fs,hu⟩:=ht;rw[<-loadEl_eq];have hlen:(elAt w a n).toList.length=n:=by unfold elAt;simp
 have hl:(loadCells a n).run P w=.ok (elAt w a n) w:=by
  have:=run_loadCells_list (P:=P) w a (elAt w a n).toList (fun j v hv=>by
   unfold elAt at hv;unfold elOk at h;simp only[List.getElem?_map] at hv;rw[List.all_eq_true] at h;rcases hj:(List.range n)[j]? with _|i
   ·rw[hj] at hv;cases hv
   ·rw[hj] at hv
    have hin:=List.mem_of_getElem? hj;obtain⟨hjl,e⟩:=List.getElem?_eq_some_iff.1 hj;rw[List.getElem_range] at e;subst e;have:=h j hin;obtain⟨u,hu⟩:=Option.isSome_iff_exists.1 this;simp only[Option.map_some,hu,Option.getD_some,Option.some.injEq] at hv;rw[hu,hv])
  rw[hlen] at this;exact this
 cases hq:P.info? t with
 |none=>simp[hq] at hi
 |some i =>
  have hs:i.size=n:=by simpa[hq] using hi
  have hagg:(isAgg t).run P w=.ok true w:=by
   unfold isAgg;rw[Sem.run_bind,run_underlying hu w];rfl
  simp[Instr.loadAt,Instr.sureAddr,loadVar,Sem.run_bind,hagg,sizeOf,typeInfo,hq,hs,hl]
theorem el_below {w w':World} {B n:Nat} {a:Addr} (hb:Below B w w') (ha:a.block<B):elOk w' a n=elOk w a n/\elAt w' a n=elAt w a n:=by
 have key:∀j,w'.cell? (a.add j)=w.cell? (a.add j):=fun j=>hb.cell (by rw[add_block];exact ha)
 unfold elOk elAt;simp only[key,and_self]
theorem el_blk {w:World} {g n:Nat} {cs:Array Value} {t:TypeId} (h:Blk w g cs t) (hn:cs.size=n):elOk w ⟨g,0,none⟩ n=true/\elAt w ⟨g,0,none⟩ n=cs:=by
 have key:∀j,j<n->w.cell? ((⟨g,0,none⟩:Addr).add j)=cs[j]? :=fun j hj=>by
  rw[Addr.add_lit,Nat.zero_add];have:j<cs.size:=by omega
  rw[Array.getElem?_eq_getElem this];exact h.cell j (Array.getElem?_eq_getElem this)
 constructor
 ·unfold elOk
  rw[List.all_eq_true];intro j hj;rw[key j (List.mem_range.1 hj),Array.getElem?_eq_getElem (by have:=List.mem_range.1 hj;omega)];rfl
 ·unfold elAt
  apply Array.ext_getElem?
  intro j;rw[List.getElem?_toArray,List.getElem?_map];by_cases hj:j<n
  ·rw[List.getElem?_range hj,Option.map_some,key j hj,Array.getElem?_eq_getElem (by omega)]
   rfl
  ·rw[List.getElem?_eq_none (by simp;omega),Array.getElem?_eq_none (by omega)]
   rfl
section
variable {α:Type} {K:Nat} [Sh α K]
theorem rd_el {w:World} {B n k:Nat} {A:Option Addr} {l:List α} (h:Rd w B K A n (flS l)) (hk:k<n) :
  ∃ad x,A=some ad/\ad.block<B/\l[k]? =some x/\elOk w (ad.add (k*K)) K=true/\elAt w (ad.add (k*K)) K=(Sh.cl x).toArray:=by
 obtain⟨ad,e,hb,hc⟩:=h.cells (by omega);have hl:=rdS_len h;obtain⟨x,hx⟩:∃x,l[k]? =some x:=⟨l[k]'(by omega),List.getElem?_eq_getElem (by omega)⟩
 have key:∀j,j<K->w.cell? ((ad.add (k*K)).add j)=(Sh.cl x)[j]? :=by
  intro j hj;obtain⟨u,hu⟩:∃u,(Sh.cl x)[j]? =some u:=⟨_,List.getElem?_eq_getElem (by rw[Sh.len];exact hj)⟩
  rw[hu,add_add];exact hc _ u ((flS_at l k x hx j hj).trans hu)
 refine⟨ad,x,e,hb,hx,?_,?_⟩
 ·unfold elOk
  rw[List.all_eq_true];intro j hj;rw[key j (List.mem_range.1 hj),List.getElem?_eq_getElem (by rw[Sh.len];exact List.mem_range.1 hj)];rfl
 ·unfold elAt
  apply congrArg List.toArray
  apply List.ext_getElem?
  intro j;rw[List.getElem?_map];by_cases hj:j<K
  ·rw[List.getElem?_range hj,Option.map_some,key j hj,List.getElem?_eq_getElem (by rw[Sh.len];exact hj)]
   rfl
  ·rw[List.getElem?_eq_none (by simp;omega),List.getElem?_eq_none (by rw[Sh.len];omega)]
   rfl
end
end Go.Proofs.YtphfmgapiimliaaGreat
namespace Go.Proofs.YtphfmgapiimliaaGreat
namespace Op
open Go.RowKit Hd Rd Vi Dk
set_option maxHeartbeats 1600000 in
theorem enext_ok (x:En) (w:World) (h:okE x=true):Calls Tryz.prog 18 #[eagg x] w fun e w'=>e=.returned (.int .i64 (x.f+x.c))/\Below w.heap.size w w':=by
 have hb:=okE_bd h;obtain⟨ai,ag,af,az,ac,ab,ae,al,an⟩:=x;unfold eagg;dsimp only at *
 have t1:IntKind.i64.wrap (9223372036854775807-ac)=9223372036854775807-ac:=by rw[IntKind.wrap_i64];omega
 have t2:IntKind.i64.wrap (af+ac)=af+ac:=by rw[IntKind.wrap_i64];omega
 have t3: ¬ af>9223372036854775807-ac:=by omega
 have t4: ¬ 9223372036854775807-ac<af:=by omega
 have HB:=Lib.hid (ext_alloc w (.cells #[.int .i64 ai,.int .i64 ag,.int .i64 af,.bool az,.int .i64 ac,.int .i64 ab,.int .i64 ae,.int .i64 al,.int .i64 an] 48));clear h hb;by_cases h0:(0:Int)<ac
 all_goals
  go_enter Tryz.func18, Tryz.ntmps18
  go_wp2_with fail
  go_ret
  exact⟨rfl,HB.out⟩
set_option maxHeartbeats 1600000 in
theorem r24next_ok (x:En) (w:World) (h:okE x=true):Calls Tryz.prog 80 #[eagg x] w fun e w'=>e=.returned (.int .i64 (x.f+x.c))/\Below w.heap.size w w':=by
 have hb:=okE_bd h;obtain⟨ai,ag,af,az,ac,ab,ae,al,an⟩:=x;unfold eagg;dsimp only at *
 have t1:IntKind.i64.wrap (9223372036854775807-ac)=9223372036854775807-ac:=by rw[IntKind.wrap_i64];omega
 have t2:IntKind.i64.wrap (af+ac)=af+ac:=by rw[IntKind.wrap_i64];omega
 have t3: ¬ af>9223372036854775807-ac:=by omega
 have t4: ¬ 9223372036854775807-ac<af:=by omega
 have HB:=Lib.hid (ext_alloc w (.cells #[.int .i64 ai,.int .i64 ag,.int .i64 af,.bool az,.int .i64 ac,.int .i64 ab,.int .i64 ae,.int .i64 al,.int .i64 an] 48));clear h hb;by_cases h0:(0:Int)<ac
 all_goals
  go_enter Tryz.func80, Tryz.ntmps80
  go_wp2_with fail
  go_ret
  exact⟨rfl,HB.out⟩
theorem loadAt_en (x:Value):Instr.loadAt 48 x=loadEl 48 9 x:=loadEl_eq _ _ _
attribute [local go_sem ↓] loadAt_en
attribute [local go_sem] run_loadEl
set_option maxHeartbeats 6400000 in
set_option maxRecDepth 100000 in
theorem links_any (x y:En) (w:World):Calls Tryz.prog 48 #[eagg x,eagg y] w fun e w'=>e=.returned (.bool (lnk x y))/\Below w.heap.size w w':=by
 have mixed:Tryz.prog.follows .mixedOrders=true:=by kernel_rfl
 have HC:=Lib.hid (fun wx=>echeck_any x wx);have HN:=Lib.hid (fun wx (hx:okE x=true)=>enext_ok x wx hx);obtain⟨R,hR⟩:∃R,R=lnk x y:=⟨_,rfl⟩
 rw[<-hR];have HR:=Lib.hid hR;unfold lnk at HR;unfold eE at HC;clear hR;obtain⟨ai,ag,af,az,ac,ab,ae,al,an⟩:=x;obtain⟨bi,bg,bf,bz,bc,bb,be,bl,bn⟩:=y;unfold eagg at *
 dsimp only at *
 have HA:=Lib.hid ((Blk.new w #[.int .i64 ai,.int .i64 ag,.int .i64 af,.bool az,.int .i64 ac,.int .i64 ab,.int .i64 ae,.int .i64 al,.int .i64 an] 48).alloc (.cells #[.int .i64 bi,.int .i64 bg,.int .i64 bf,.bool bz,.int .i64 bc,.int .i64 bb,.int .i64 be,.int .i64 bl,.int .i64 bn] 48));have HB:=Lib.hid (blk_second w (.cells #[.int .i64 ai,.int .i64 ag,.int .i64 af,.bool az,.int .i64 ac,.int .i64 ab,.int .i64 ae,.int .i64 al,.int .i64 an] 48) #[.int .i64 bi,.int .i64 bg,.int .i64 bf,.bool bz,.int .i64 bc,.int .i64 bb,.int .i64 be,.int .i64 bl,.int .i64 bn] 48);have HW:=Lib.hid (ext_second w (.cells #[.int .i64 ai,.int .i64 ag,.int .i64 af,.bool az,.int .i64 ac,.int .i64 ab,.int .i64 ae,.int .i64 al,.int .i64 an] 48) (.cells #[.int .i64 bi,.int .i64 bg,.int .i64 bf,.bool bz,.int .i64 bc,.int .i64 bb,.int .i64 be,.int .i64 bl,.int .i64 bn] 48));have hty:ElTy Tryz.prog 48 9:=⟨en_info,_,Tryz.underlying48⟩
 go_enter Tryz.func48, Tryz.ntmps48
 go_upto_region 1 with (fail)
 generalize (w.alloc (.cells #[.int .i64 ai,.int .i64 ag,.int .i64 af,.bool az,.int .i64 ac,.int .i64 ab,.int .i64 ae,.int .i64 al,.int .i64 an] 48)).alloc (.cells #[.int .i64 bi,.int .i64 bg,.int .i64 bf,.bool bz,.int .i64 bc,.int .i64 bb,.int .i64 be,.int .i64 bl,.int .i64 bn] 48)=w2 at *
 have HQ:=Lib.hid (show ∀q:Bw w2,Below w.heap.size w q.to from fun q=>HW.out.trans (q.h.mono HW.out.size));have a0:=bw_cell HA.out 0 (v:=.int .i64 ai) rfl;have a3:=bw_cell HA.out 3 (v:=.bool az) rfl;have b0:=bw_cell HB.out 0 (v:=.int .i64 bi) rfl;have b2:=bw_cell HB.out 2 (v:=.int .i64 bf) rfl;have hel:∀q:Bw w2,elOk q.to ⟨w.heap.size,0,none⟩ 9=true/\elAt q.to ⟨w.heap.size,0,none⟩ 9= #[.int .i64 ai,.int .i64 ag,.int .i64 af,.bool az,.int .i64 ac,.int .i64 ab,.int .i64 ae,.int .i64 al,.int .i64 an]:=fun q=>el_blk (HA.out.ext q.h) rfl
 rcases az with _|_
 ·have HE:=Lib.hid (show R=false from by rw[HR.out];rfl)
  clear HR;refine wp_region_quiet_below (by assumption) (by kernel_rfl) ?_
  repeat (first|go_big_quiet_skip|quiet_step (first|(go_at_call 78;refine below_of (HC.out _))|(go_at_call 18;refine below_of (HN.out _))))
  refine wpQuiet_nil ?_;intro _ hw';obtain⟨q,rfl⟩:=hw';go_wp2_with fail
  go_ret
  exact⟨by first|rfl|(rw[HE.out];rfl),HQ.out q⟩
 rcases hok:okE ⟨ai,ag,af,true,ac,ab,ae,al,an⟩ with _|_
 ·have HE:=Lib.hid (show R=false from by rw[HR.out,hok];rfl)
  rw[hok] at HC;simp only[Bool.false_eq_true,if_false] at HC;clear HR hok;refine wp_region_quiet_below (by assumption) (by kernel_rfl) ?_
  repeat (first|go_big_quiet_skip|quiet_step (first|(go_at_call 78;refine below_of (HC.out _))|(go_at_call 18;refine below_of (HN.out _))))
  refine wpQuiet_nil ?_;intro _ hw';obtain⟨q,rfl⟩:=hw';go_wp2_with fail
  go_ret
  exact⟨by first|rfl|(rw[HE.out];rfl),HQ.out q⟩
 rw[hok] at HC;simp only[if_true] at HC;replace HN:=Lib.hid (fun wx=>HN.out wx hok);rw[hok] at HR;clear hok;by_cases t1:bi<=ai
 ·have HE:=Lib.hid (show R=false from by rw[HR.out,decide_eq_false (show ¬ (ai<bi/\bf=af+ac) by omega)];rfl)
  clear HR;refine wp_region_quiet_below (by assumption) (by kernel_rfl) ?_
  repeat (first|go_big_quiet_skip|quiet_step (first|(go_at_call 78;refine below_of (HC.out _))|(go_at_call 18;refine below_of (HN.out _))))
  refine wpQuiet_nil ?_;intro _ hw';obtain⟨q,rfl⟩:=hw';go_wp2_with fail
  go_ret
  exact⟨by first|rfl|(rw[HE.out];rfl),HQ.out q⟩
 by_cases t2:bf=af+ac
 case neg =>
  have HE:=Lib.hid (show R=false from by rw[HR.out,decide_eq_false (show ¬ (ai<bi/\bf=af+ac) by omega)];rfl);have t2':(bf != af+ac)=true:=by rw[bne_iff_ne];exact t2
  clear HR t2;refine wp_region_quiet_below (by assumption) (by kernel_rfl) ?_
  repeat (first|go_big_quiet_skip|quiet_step (first|(go_at_call 78;refine below_of (HC.out _))|(go_at_call 18;refine below_of (HN.out _))))
  refine wpQuiet_nil ?_;intro _ hw';obtain⟨q,rfl⟩:=hw';go_wp2_with fail
  go_ret
  exact⟨by first|rfl|(rw[HE.out];rfl),HQ.out q⟩
 have t2':(bf != af+ac)=false:=by rw[t2];simp
 have HR2:=Lib.hid (show R=(!bz||decide (al<=be)) from by rw[HR.out,decide_eq_true (show ai<bi/\bf=af+ac from⟨by omega,t2⟩)];rfl);clear HR t2;refine wp_region_quiet_below (by assumption) (by kernel_rfl) ?_
 repeat (first|go_big_quiet_skip|quiet_step (first|(go_at_call 78;refine below_of (HC.out _))|(go_at_call 18;refine below_of (HN.out _))))
 refine wpQuiet_nil ?_;intro _ hw';obtain⟨q,rfl⟩:=hw';have k3:=(HB.out.ext q.h).cell 3 (v:=.bool bz) rfl;have k6:=(HB.out.ext q.h).cell 6 (v:=.int .i64 be) rfl;have k7:=(HA.out.ext q.h).cell 7 (v:=.int .i64 al) rfl;clear a0 a3 b0 b2 hel;generalize hqt:q.to=wq at *
 have HQ2:=Lib.hid (show Below w.heap.size w wq from hqt▸HQ.out q);clear hqt;rcases bz with _|_
 ·have HE:=Lib.hid (show R=true from by rw[HR2.out];rfl)
  go_wp2_with fail
  go_ret
  exact⟨by rw[HE.out];rfl,HQ2.out⟩
 ·have HE:=Lib.hid (show R=decide (al<=be) from by rw[HR2.out];rfl)
  go_wp2_with fail
  go_ret
  exact⟨by rw[HE.out];rfl,HQ2.out⟩
end Op
end Go.Proofs.YtphfmgapiimliaaGreat
