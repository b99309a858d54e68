/- open.Check. A whole struct loaded in one step, ahead of any unfolding: for regions that draw. Over any program. -/
import Derived.Test.YtphfmgapiimliaaGreatOl26
import Derived.Test.YtphfmgapiimliaaGreatOl27
import Derived.Test.YtphfmgapiimliaaGreatOl08
namespace Go.Proofs.YtphfmgapiimliaaGreat
namespace Op
open Go.RowKit Hd Rd Vi Dk
theorem st_info:(Tryz.prog.info? 30).map (·.size)=some 18:=by kernel_rfl
theorem build_lg (c:Array Value) (hc:c.size=18) (w:World):(Instr.build 59 #[(0,.agg c)]).run Tryz.prog w=.ok (.agg c) w:=by
 have h1:(Tryz.prog.info? 59).map (fun i=>(i.zero.map (·.cells.size),i.size))=some (some 18,18):=by kernel_rfl
 have h2:(Tryz.prog.info? 30).map (·.size)=some 18:=st_info;rcases h3:Tryz.prog.info? 59 with _|i
 ·rw[h3] at h1;cases h1
 rcases h4:Tryz.prog.info? 30 with _|fi
 ·rw[h4] at h2;cases h2
 rw[h3] at h1;rw[h4] at h2;simp only[Option.map_some,Option.some.injEq,Prod.mk.injEq] at h1 h2;rcases hz:i.zero with _|z
 ·rw[hz] at h1;cases h1.1
 rw[hz] at h1;simp only[Option.map_some,Option.some.injEq] at h1;exact run_build1 w Tryz.underlying59 h3 hz (by rw[h1.1,hc]) h4 (by rw[h2,hc]) rfl
def chkE (K L W T:Bool):Int:=if(K&&(L&&(W&&T)))=true then 0 else 330
set_option maxHeartbeats 6400000 in
set_option maxRecDepth 100000 in
theorem ocheck_x {cs:Array Value} {w:World} (hcs:cs.size=18) (hone:cs.all (·.oneCell')=true) (K L W T:Bool)
  (H0:Hid (∀wx,Below w.heap.size w wx->Calls Tryz.prog 31 #[.agg cs] wx fun e w'=>e=.returned (.bool K)/\Below wx.heap.size wx w'))
  (H1:Hid (K=true-> ∀wx,Below w.heap.size w wx->Calls Tryz.prog 32 #[.agg cs] wx fun e w'=>e=.returned (.bool L)/\Below wx.heap.size wx w'))
  (H2:Hid (K=true->L=true-> ∀wx,Below w.heap.size w wx->Calls Tryz.prog 33 #[.agg cs] wx fun e w'=>e=.returned (.bool W)/\Below wx.heap.size wx w'))
  (H3:Hid (∀wx,Below w.heap.size w wx->Calls Tryz.prog 34 #[.agg cs] wx fun e w'=>e=.returned (.bool T)/\Below wx.heap.size wx w')) :
  Calls Tryz.prog 10 #[.agg cs] w fun e w'=>e=.returned (.int .i64 (chkE K L W T))/\Below w.heap.size w w':=by
 have HE:=Lib.hid (show chkE K L W T=if(K&&(L&&(W&&T)))=true then 0 else 330 from rfl);generalize chkE K L W T=E at *
 have HK:=Lib.hid (Blk.new w cs 30);have HN:=Lib.hid (blk_second w (.cells cs 30) cs 59);have HW2:=Lib.hid (ext_second w (.cells cs 30) (.cells cs 59));have hsz:(w.alloc (.cells cs 30)).heap.size=w.heap.size+1:=by simp
 go_enter Tryz.func10, Tryz.ntmps10
 go_wp2_with (first
  |(refine wpList_load_row rfl 30 (.tmp 1) rfl w.heap.size cs _ (by simp[go_sem,Act.eval]) HK.out Tryz.underlying30 rfl (by rw[hcs];exact st_info) ?_)
  |(refine wpList_build1 rfl 59 (.tmp 6) rfl cs (by simp[go_sem,Act.eval]) (fun w=>build_lg _ hcs w) ?_)
  |(refine wpList_store_new (w.alloc (.cells cs 30)) #[.int .i64 0,.int .i64 0,.int .i64 0,.int .i64 0,.int .i64 0,.int .i64 0,.int .i64 0,.int .i64 0,.int .i64 0,.int .i64 0,.int .i64 0,.slice none 0 0,.slice none 0 0,.int .i64 0,.int .i64 0,.int .i64 0,.slice none 0 0,.bool false] rfl 59 (.tmp 3) (.tmp 7) rfl cs (by simp[go_sem,Act.eval]) (by simp[go_sem,Act.eval]) (by rw[hcs];exact lg_info) (by rw[hcs];rfl) hone ?_)
  |(refine wpList_load_row rfl 59 (.tmp 3) rfl (w.heap.size+1) cs _ (by simp[go_sem,Act.eval]) HN.out Tryz.underlying59 rfl (by rw[hcs];exact lg_info) ?_))
 have HF:=Lib.hid (show Blk (((w.alloc (.cells cs 30)).alloc (.cells cs 59)).alloc (.cells #[.func (.func 31) #[.agg cs] #[],.func (.func 32) #[.agg cs] #[],.func (.func 33) #[.agg cs] #[],.func (.func 34) #[.agg cs] #[]] 31)) (w.heap.size+1+1) #[.func (.func 31) #[.agg cs] #[],.func (.func 32) #[.agg cs] #[],.func (.func 33) #[.agg cs] #[],.func (.func 34) #[.agg cs] #[]] 31 from by
  have:=Blk.new ((w.alloc (.cells cs 30)).alloc (.cells cs 59)) #[.func (.func 31) #[.agg cs] #[],.func (.func 32) #[.agg cs] #[],.func (.func 33) #[.agg cs] #[],.func (.func 34) #[.agg cs] #[]] 31
  rwa [show((w.alloc (.cells cs 30)).alloc (.cells cs 59)).heap.size=w.heap.size+1+1 from by simp] at this)
 have HB:=Lib.hid (HW2.out.trans ((ext_alloc ((w.alloc (.cells cs 30)).alloc (.cells cs 59)) (.cells #[.func (.func 31) #[.agg cs] #[],.func (.func 32) #[.agg cs] #[],.func (.func 33) #[.agg cs] #[],.func (.func 34) #[.agg cs] #[]] 31)).mono HW2.out.size));generalize ((w.alloc (.cells cs 30)).alloc (.cells cs 59)).alloc (.cells #[.func (.func 31) #[.agg cs] #[],.func (.func 32) #[.agg cs] #[],.func (.func 33) #[.agg cs] #[],.func (.func 34) #[.agg cs] #[]] 31)=w3 at *
 clear HK HN HW2 hsz hone hcs;go_loopw [18] (fun v wr=>∃kk:Nat,v=.int .i64 (kk:Int)/\kk<=4/\Hid (((0<kk->K=true)/\(1<kk->L=true)/\(2<kk->W=true)/\(3<kk->T=true))/\Below w.heap.size w wr/\Blk wr (w.heap.size+1+1) #[.func (.func 31) #[.agg cs] #[],.func (.func 32) #[.agg cs] #[],.func (.func 33) #[.agg cs] #[],.func (.func 34) #[.agg cs] #[]] 31)) (fun v _=>4-(intOf v).toNat)
 case atStart=>exact⟨0,by go_num,by omega,Lib.hid ⟨⟨fun h=>absurd h (by omega),fun h=>absurd h (by omega),fun h=>absurd h (by omega),fun h=>absurd h (by omega)⟩,HB.out,HF.out⟩⟩
 case round =>
  clear HB HF;obtain⟨kk,rfl,hk,HX⟩:=hrel;by_cases hk4:kk=4
  ·subst hk4
   have HR:=Lib.hid (show E=0 from by rw[HE.out,HX.out.1.1 (by omega),HX.out.1.2.1 (by omega),HX.out.1.2.2.1 (by omega),HX.out.1.2.2.2 (by omega)];rfl);have HB:=Lib.hid HX.out.2.1;clear HX;go_wp2_with fail
   go_ret
   exact⟨by rw[HR.out];rfl,HB.out⟩
  by_cases h0:kk=0
  ·clear hk4
   obtain rfl:kk=0:=by omega
   have cf:=HX.out.2.2.cell 0 (v:=.func (.func 31) #[.agg cs] #[]) rfl;have HC:=Lib.hid (H0.out _ HX.out.2.1);rcases K with _|_
   ·have HR:=Lib.hid (show E=330 from by rw[HE.out];simp)
    have HB:=Lib.hid HX.out.2.1;clear HX;go_wp2_with (go_at_call 31;refine HC.out.mono ?_;rintro e1 w1 ⟨rfl,hb1⟩;have HB1:=Lib.hid (HB.out.trans (hb1.mono HB.out.size));clear hb1)
    go_ret
    exact⟨by rw[HR.out];rfl,HB1.out⟩
   ·have HB:=Lib.hid HX.out.2.1
    have HF:=Lib.hid HX.out.2.2;have HP:=Lib.hid HX.out.1;clear HX;go_wp2_with (go_at_call 31;refine HC.out.mono ?_;rintro e1 w1 ⟨rfl,hb1⟩;have HB1:=Lib.hid (HB.out.trans (hb1.mono HB.out.size));have HF1:=Lib.hid (HF.out.ext hb1);clear hb1)
    go_roundw
    case rel=>exact⟨1,by go_num,by omega,Lib.hid ⟨⟨fun _=>by first|rfl|trivial,fun h=>absurd h (by omega),fun h=>absurd h (by omega),fun h=>absurd h (by omega)⟩,HB1.out,HF1.out⟩⟩
    case measure=>simp[intOf]
  by_cases h1:kk=1
  ·clear hk4
   obtain rfl:kk=1:=by omega
   have cf:=HX.out.2.2.cell 1 (v:=.func (.func 32) #[.agg cs] #[]) rfl;have HC:=Lib.hid (H1.out (HX.out.1.1 (by omega)) _ HX.out.2.1);rcases L with _|_
   ·have HR:=Lib.hid (show E=330 from by rw[HE.out];simp)
    have HB:=Lib.hid HX.out.2.1;clear HX;go_wp2_with (go_at_call 32;refine HC.out.mono ?_;rintro e1 w1 ⟨rfl,hb1⟩;have HB1:=Lib.hid (HB.out.trans (hb1.mono HB.out.size));clear hb1)
    go_ret
    exact⟨by rw[HR.out];rfl,HB1.out⟩
   ·have HB:=Lib.hid HX.out.2.1
    have HF:=Lib.hid HX.out.2.2;have HP:=Lib.hid HX.out.1;clear HX;go_wp2_with (go_at_call 32;refine HC.out.mono ?_;rintro e1 w1 ⟨rfl,hb1⟩;have HB1:=Lib.hid (HB.out.trans (hb1.mono HB.out.size));have HF1:=Lib.hid (HF.out.ext hb1);clear hb1)
    go_roundw
    case rel=>exact⟨2,by go_num,by omega,Lib.hid ⟨⟨fun _=>HP.out.1 (by omega),fun _=>by first|rfl|trivial,fun h=>absurd h (by omega),fun h=>absurd h (by omega)⟩,HB1.out,HF1.out⟩⟩
    case measure=>simp[intOf]
  by_cases h2:kk=2
  ·clear hk4
   obtain rfl:kk=2:=by omega
   have cf:=HX.out.2.2.cell 2 (v:=.func (.func 33) #[.agg cs] #[]) rfl;have HC:=Lib.hid (H2.out (HX.out.1.1 (by omega)) (HX.out.1.2.1 (by omega)) _ HX.out.2.1);rcases W with _|_
   ·have HR:=Lib.hid (show E=330 from by rw[HE.out];simp)
    have HB:=Lib.hid HX.out.2.1;clear HX;go_wp2_with (go_at_call 33;refine HC.out.mono ?_;rintro e1 w1 ⟨rfl,hb1⟩;have HB1:=Lib.hid (HB.out.trans (hb1.mono HB.out.size));clear hb1)
    go_ret
    exact⟨by rw[HR.out];rfl,HB1.out⟩
   ·have HB:=Lib.hid HX.out.2.1
    have HF:=Lib.hid HX.out.2.2;have HP:=Lib.hid HX.out.1;clear HX;go_wp2_with (go_at_call 33;refine HC.out.mono ?_;rintro e1 w1 ⟨rfl,hb1⟩;have HB1:=Lib.hid (HB.out.trans (hb1.mono HB.out.size));have HF1:=Lib.hid (HF.out.ext hb1);clear hb1)
    go_roundw
    case rel=>exact⟨3,by go_num,by omega,Lib.hid ⟨⟨fun _=>HP.out.1 (by omega),fun _=>HP.out.2.1 (by omega),fun _=>by first|rfl|trivial,fun h=>absurd h (by omega)⟩,HB1.out,HF1.out⟩⟩
    case measure=>simp[intOf]
  ·have h3:kk=3:=by omega
   clear hk4;obtain rfl:kk=3:=by omega
   have cf:=HX.out.2.2.cell 3 (v:=.func (.func 34) #[.agg cs] #[]) rfl;have HC:=Lib.hid (H3.out _ HX.out.2.1);rcases T with _|_
   ·have HR:=Lib.hid (show E=330 from by rw[HE.out];simp)
    have HB:=Lib.hid HX.out.2.1;clear HX;go_wp2_with (go_at_call 34;refine HC.out.mono ?_;rintro e1 w1 ⟨rfl,hb1⟩;have HB1:=Lib.hid (HB.out.trans (hb1.mono HB.out.size));clear hb1)
    go_ret
    exact⟨by rw[HR.out];rfl,HB1.out⟩
   ·have HB:=Lib.hid HX.out.2.1
    have HF:=Lib.hid HX.out.2.2;have HP:=Lib.hid HX.out.1;clear HX;go_wp2_with (go_at_call 34;refine HC.out.mono ?_;rintro e1 w1 ⟨rfl,hb1⟩;have HB1:=Lib.hid (HB.out.trans (hb1.mono HB.out.size));have HF1:=Lib.hid (HF.out.ext hb1);clear hb1)
    go_roundw
    case rel=>exact⟨4,by go_num,by omega,Lib.hid ⟨⟨fun _=>HP.out.1 (by omega),fun _=>HP.out.2.1 (by omega),fun _=>HP.out.2.2.1 (by omega),fun _=>by first|rfl|trivial⟩,HB1.out,HF1.out⟩⟩
    case measure=>simp[intOf]
theorem ocheck_any (s:St) (x y z:Sl) (w:World) (h:Str w w.heap.size s x y z) (hx1:x.n<=1000000) (hy1:y.n<=100000) (hz1:z.n<=1000000) :
  Calls Tryz.prog 10 #[sagg s x y z] w fun e w'=>e=.returned (.int .i64 (if okSt s=true then 0 else 330))/\Below w.heap.size w w':=by
 refine ocheck_x (cs:=stc s x y z) rfl (by simp[stc,Sl.v,Value.oneCell']) (keptB s) (laidB s) (waitsB s) (timedB s) ?_ ?_ ?_ ?_
 ·exact fun wx hb=>kept_any s x y z wx (h.ext hb) hx1
 ·exact fun hk wx hb=>laid_any s x y z wx (h.ext hb) hx1 hy1 hk
 ·intro hk hl wx hb
  have hbi:okBi s.bs=true:=by
   unfold laidB at hl;simp only[Bool.and_eq_true] at hl;exact hl.1
  exact waits_any s x y z wx (h.ext hb) hx1 hy1 hz1 hk hbi
 ·exact fun wx hb=>timed_any s x y z wx (h.ext hb) hx1 (by omega) hz1
end Op
end Go.Proofs.YtphfmgapiimliaaGreat
namespace Go.Proofs.YtphfmgapiimliaaGreat
open Go.RowKit
def rowAt (w:World) (b:Nat):Array Value:=match w.heap[b]? with
 |some (.cells cs _ (0,0))=>cs
 |_=>#[]
def isRowAt (w:World) (b:Nat):Bool:=match w.heap[b]? with
 |some (.cells _ _ (0,0))=>true
 |_=>false
def RowTy (P:Program) (t:TypeId) (n:Nat):Prop:=(P.info? t).map (·.size)=some n/\ ∃fs,P.underlying t=some (.struct fs)
theorem Blk.rowAt {w:World} {b:Nat} {cs:Array Value} {t:TypeId} (h:Blk w b cs t):isRowAt w b=true/\rowAt w b=cs:=by
 unfold Blk at h;unfold isRowAt Go.Proofs.YtphfmgapiimliaaGreat.rowAt;rw[h];exact⟨rfl,rfl⟩
theorem loadVar_row_pre {P:Program} (t:TypeId) (b:Nat) (w:World) (h:isRowAt w b=true) (ht:RowTy P t (rowAt w b).size):(loadVar t ⟨b,0,none⟩).run P w=.ok (.agg (rowAt w b)) w:=by
 obtain⟨hi,fs,hu⟩:=ht;have hb:∃cs t',w.heap[b]? =some (.cells cs t' (0,0)):=by
  unfold isRowAt at h;split at h
  ·exact⟨_,_,by assumption⟩
  ·cases h
 obtain⟨cs,t',hb⟩:=hb;have e:rowAt w b=cs:=by unfold rowAt;simp only[hb]
 rw[e] at hi ⊢;exact run_loadVar_row w b t' t cs (0,0) _ hb hu rfl hi
def loadRow (t:TypeId) (x:Value):Sem Value:=Instr.loadAt t x
theorem run_loadRow {P:Program} (t:TypeId) (b:Nat) (w:World) (h:isRowAt w b=true) (ht:RowTy P t (rowAt w b).size):(loadRow t (.pointer (some ⟨b,0,none⟩))).run P w=.ok (.agg (rowAt w b)) w:=by
 unfold loadRow;simp only[Instr.loadAt,Instr.sureAddr,Sem.run_bind,Sem.run_pure,Result.andThen_ok,loadVar_row_pre t b w h ht]
end Go.Proofs.YtphfmgapiimliaaGreat
