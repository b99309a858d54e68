/- disk: Rename, Remove, List. slices.Contains of texts. maps.Clone of a directory; disk: settle, DirSync. name.Manifest, name.Temp. seg.all: things in turn, up to the first that tells an error. -/
import Derived.Test.YtphfmgapiimliaaGreatOl32
import Derived.Test.YtphfmgapiimliaaGreatOl20
import Derived.Deep.LoopGhost
import Derived.Test.YtphfmgapiimliaaGreatOl30
import Derived.Shelf.SlMaps.Clone
import Derived.Test.YtphfmgapiimliaaGreatOl31
namespace Go.Proofs.YtphfmgapiimliaaGreat
namespace Dk
open Go.RowKit Sn
section
variable {w w':World} {S:Nat->Prop} {bd gN gS:Nat} {v:Value} {D:DS}
theorem app_ren {s t:ByteArray} {b:Nat} {l:List (ByteArray×Nat)} (h0:s≠⟨#[]⟩) (hl:lk s l=some b):(app (t,s,some b) l).length<=l.length:=by
 unfold app;dsimp only;rw[if_neg h0,pt_len,dl_len,hl];have:0<l.length:=List.length_pos_of_mem (lk_mem hl);simp only[Option.isSome_some,if_true];split<;>omega
theorem app_rem {s:ByteArray} {b:Nat} {l:List (ByteArray×Nat)} (hl:lk s l=some b):(app (⟨#[]⟩,s,none) l).length<=l.length:=by
 unfold app;dsimp only;split
 ·omega
 ·rw[dl_len,hl]
  simp only[Option.isSome_some,if_true];omega
set_option maxHeartbeats 3200000 in
set_option maxRecDepth 100000 in
theorem rename_go (h:DiskAt w S bd D) {s t:ByteArray} {b:Nat} (ho:D.off=false) (h0:s≠⟨#[]⟩) (hl:lk s D.now=some b) (ht:Nm.check t.data.toList=0) (hne:s≠t) (hc:D.chg.length<=1000000) :
  Calls Tryz.prog 112 #[.pointer (some ⟨bd,0,none⟩),.string s,.string t] w fun e w'=>e=.returned (.int .i64 (opE D))/\ ∃S',DiskAt w' S' bd (opS false (chgD (t,s,some b)) D)/\Gr S w S' w':=by
 have hF:=find_any h s;unfold findP at hF;rw[ho,hl] at hF;simp only[Bool.false_eq_true,if_false] at hF;unfold ptr at hF;have HN:=Lib.hid (fun wx=>Nm.check_any t wx);rw[ht] at HN;have HC:=Lib.hid (show ∀wx,Below w.heap.size w wx->Calls Tryz.prog 71 #[.pointer (some ⟨bd,0,none⟩),.agg #[.string t,.string s,.pointer (some ⟨b,0,none⟩)]] wx fun e w'=>e=.returned (.int .i64 (opE D))/\ ∃S',DiskAt w' S' bd (opS false (chgD (t,s,some b)) D)/\Gr S w S' w' from fun wx hb=>by
  have hfw:D.fl b≠none:=by
   obtain⟨gN,gS,v,h⟩:=h;exact h.fit.wfN _ (lk_mem hl)
  have hfew:D.now.length<=200:=by
   obtain⟨gN,gS,v,h⟩:=h;exact h.fit.now_few
  refine(changed_any (h.ext hb) (t,s,some b) (fun b' e=>by cases e;exact hfw) (Nat.le_trans (app_ren h0 hl) hfew) hc).mono ?_;rintro e w' ⟨rfl,S',h2,g2⟩;exact⟨rfl,S',h2,(Gr.of_below hb).trans g2⟩)
 have hst:(s.toList==t.toList)=false:=beqL s t (decide_eq_false hne);clear h ho hl ht hc h0
 go_enter Tryz.func112, Tryz.ntmps112
 go_wp2_with (first
  |(go_at_call 70;refine hF.mono ?_;rintro e1 w1 ⟨rfl,rfl⟩)
  |(go_at_call 163;refine(HN.out _).mono ?_;rintro e2 w2 ⟨rfl,hb2⟩;have HB2:=Lib.hid hb2;clear hb2)
  |(go_at_call 71;refine(HC.out _ HB2.out).mono ?_;rintro e5 w5 ⟨rfl,S5,hD5,hG5⟩;have HD5:=Lib.hid (And.intro hD5 hG5);clear hD5 hG5))
 go_ret
 exact⟨rfl,S5,HD5.out⟩
set_option maxHeartbeats 3200000 in
set_option maxRecDepth 100000 in
theorem remove_go (h:DiskAt w S bd D) {s:ByteArray} {b:Nat} (ho:D.off=false) (hl:lk s D.now=some b) (hc:D.chg.length<=1000000) :
  Calls Tryz.prog 45 #[.pointer (some ⟨bd,0,none⟩),.string s] w fun e w'=>e=.returned (.int .i64 (opE D))/\ ∃S',DiskAt w' S' bd (opS false (chgD (⟨#[]⟩,s,none)) D)/\Gr S w S' w':=by
 have hF:=find_any h s;unfold findP at hF;rw[ho,hl] at hF;simp only[Bool.false_eq_true,if_false] at hF;unfold ptr at hF;have HC:=Lib.hid (show Calls Tryz.prog 71 #[.pointer (some ⟨bd,0,none⟩),.agg #[.string ⟨#[]⟩,.string s,.pointer none]] w fun e w'=>e=.returned (.int .i64 (opE D))/\ ∃S',DiskAt w' S' bd (opS false (chgD (⟨#[]⟩,s,none)) D)/\Gr S w S' w' from by
  have hfew:D.now.length<=200:=by
   obtain⟨gN,gS,v,h⟩:=h;exact h.fit.now_few
  exact changed_any h (⟨#[]⟩,s,none) (fun b' e=>by cases e) (Nat.le_trans (app_rem hl) hfew) hc)
 clear h ho hl hc
 go_enter Tryz.func45, Tryz.ntmps45
 go_wp2_with (first
  |(go_at_call 70;refine hF.mono ?_;rintro e1 w1 ⟨rfl,rfl⟩)
  |(go_at_call 71;refine HC.out.mono ?_;rintro e5 w5 ⟨rfl,S5,hD5,hG5⟩;have HD5:=Lib.hid (And.intro hD5 hG5);clear hD5 hG5))
 go_ret
 exact⟨rfl,S5,HD5.out⟩
set_option maxHeartbeats 1600000 in
theorem list_any (h:DiskAt w S bd D) (ho:D.off=false) (hk:∀x∈D.now,x.1.size<=maxLen) :
  Calls Tryz.prog 22 #[.pointer (some ⟨bd,0,none⟩)] w fun e w'=>∃v,e=.returned v/\w'.ownsRow w.heap.size 9 1 v (srt D.now).length ((srt D.now).map Value.string)/\Below w.heap.size w w':=by
 have HU:=Lib.hid (up_any h);have hup:upE D=0:=by unfold upE;rw[ho];rfl
 rw[hup] at HU;obtain⟨gN,gS,v,h⟩:=h;have c0:=h.c0;have HN:=Lib.hid (names_any w h.now (by have:=h.fit.now_few;omega) hk);clear h ho hup hk
 go_enter Tryz.func22, Tryz.ntmps22
 go_wp2_with (first
  |(go_at_call 54;refine HU.out.mono ?_;rintro e1 w1 ⟨rfl,rfl⟩)
  |(go_at_call 55;refine HN.out.mono ?_;rintro e2 w2 ⟨v2,rfl,hown2,hb2⟩;have HO2:=Lib.hid hown2;have HB2:=Lib.hid hb2;clear hown2 hb2))
 go_ret
 exact⟨v2,rfl,HO2.out,HB2.out⟩
end
end Dk
end Go.Proofs.YtphfmgapiimliaaGreat
namespace Go.Proofs.YtphfmgapiimliaaGreat
namespace Dk
open Go.RowKit Sn
def txv (l:List ByteArray):List Value:=l.map Value.string
def atT (l:List ByteArray) (x:ByteArray):Int:=match l.findIdx? (fun y=>decide (y=x)) with|none=> -1|some k=>k
def inT (x:ByteArray) (l:List ByteArray):Bool:=l.any fun y=>decide (y=x)
theorem inT_iff {x:ByteArray} {l:List ByteArray}:inT x l=true↔x∈l:=by
 unfold inT;rw[List.any_eq_true]
 constructor
 ·rintro ⟨y,hy,e⟩
  rwa [<-of_decide_eq_true e]
 ·exact fun h=>⟨x,h,decide_eq_true rfl⟩
theorem inT_no {x:ByteArray} {l:List ByteArray} (h:x∉l):inT x l=false:=by
 rcases e:inT x l with _|_
 ·rfl
 ·exact absurd (inT_iff.1 e) h
theorem atT_no {l:List ByteArray} {x:ByteArray} (h:∀y∈l,y≠x):atT l x= -1:=by
 unfold atT;rw[List.findIdx?_eq_none_iff.2 (by intro y hy;simpa using h y hy)]
theorem atT_yes {l:List ByteArray} {x:ByteArray} {k:Nat} (h:l[k]? =some x) (hb:∀j y,j<k->l[j]? =some y->y≠x):atT l x=k:=by
 unfold atT;obtain⟨hk,hx⟩:=List.getElem?_eq_some_iff.1 h;rw[(List.findIdx?_eq_some_iff_getElem (p:=fun y=>decide (y=x))).2 ⟨hk,by simpa using hx,fun j hj=>by
  have:=hb j l[j] hj (List.getElem?_eq_getElem (by omega));simpa using this⟩]
theorem atT_mem (l:List ByteArray) (x:ByteArray):0<=atT l x↔x∈l:=by
 unfold atT;rcases h:l.findIdx? (fun y=>decide (y=x)) with _|k
 ·rw[List.findIdx?_eq_none_iff] at h
  simp only[decide_eq_false_iff_not] at h
  constructor
  ·intro hh;exact absurd hh (by decide)
  ·intro hm;exact absurd rfl (h x hm)
 ·obtain⟨hk,hx,-⟩:=List.findIdx?_eq_some_iff_getElem.1 h
  simp only[decide_eq_true_eq] at hx
  constructor
  ·intro _;rw[<-hx];exact List.getElem_mem hk
  ·intro _;simp only;omega
set_option maxHeartbeats 1600000 in
theorem index_any (A:Option Addr) (n c:Nat) (l:List ByteArray) (x:ByteArray) (w:World) (hrd:Rd w w.heap.size 1 A n (txv l)) (hn:n<=1000000) :
  Calls Tryz.prog 181 #[.slice A n c,.string x] w fun e w'=>e=.returned (.int .i64 (atT l x))/\Below w.heap.size w w':=by
 have mixed:Tryz.prog.follows .mixedOrders=true:=by kernel_rfl
 have hln:l.length=n:=by have:=hrd.len;simpa[txv] using this
 have HR:=Lib.hid hrd;have HLN:=Lib.hid hln;clear hrd hln
 go_enter Tryz.func181, Tryz.ntmps181
 go_wp2_with fail
 go_loopw [8] (fun v wr=>∃k:Nat,v=.int .i64 (k:Int)/\k<=n/\Hid ((∀j y,j<k->l[j]? =some y->y≠x)/\Below w.heap.size w wr)) (fun v _=>n-(intOf v).toNat)
 case atStart=>exact⟨0,by go_num,by omega,Lib.hid ⟨fun j y h=>absurd h (by omega),Below.refl _ _⟩⟩
 case round =>
  obtain⟨k,rfl,hk,HX⟩:=hrel;by_cases hkn:k<n
  ·obtain⟨ad,u,hA,hbk,hx,hc⟩:=(HR.out.below HX.out.2).at1 hkn
   obtain⟨y,hy,rfl⟩:∃y,l[k]? =some y/\Value.string y=u:=by
    unfold txv at hx;rw[List.getElem?_map] at hx;rcases hf:l[k]? with _|y
    ·rw[hf] at hx;cases hx
    ·rw[hf] at hx
     exact⟨y,rfl,by simpa using hx⟩
   have HB:=Lib.hid HX.out.2;subst hA;have hki:(k:Int)<(n:Int):=by omega
   by_cases hyx:y=x
   ·have HE:=Lib.hid (show atT l x=(k:Int) from atT_yes (hyx▸hy) HX.out.1)
    have hxy:(x.toList==y.toList)=true:=beqL x y (decide_eq_true hyx.symm);clear hx hy hbk HX hyx;go_wp2_with fail
    go_ret
    exact⟨by rw[HE.out];rfl,HB.out⟩
   ·have HN:=Lib.hid (show ∀j z,j<k+1->l[j]? =some z->z≠x from fun j z hj hz=>by
     rcases Nat.lt_or_ge j k with h|h
     ·exact HX.out.1 j z h hz
     ·obtain rfl:j=k:=by omega
      rw[hy] at hz;cases hz;exact hyx)
    have hxy:(x.toList==y.toList)=false:=beqL x y (decide_eq_false fun e=>hyx e.symm);clear hx hy hbk HX hyx;go_wp2_with fail
    go_roundw
    ·exact⟨k+1,by go_num,by omega,Lib.hid ⟨HN.out,HB.out⟩⟩
    ·simp[intOf];omega
  ·obtain rfl:k=n:=by omega
   have HE:=Lib.hid (show atT l x= -1 from atT_no fun y hy=>by
    obtain⟨j,hj,rfl⟩:=List.getElem_of_mem hy;exact HX.out.1 j _ (by rw[<-HLN.out];exact hj) (List.getElem?_eq_getElem hj))
   have HB:=Lib.hid HX.out.2;clear HX;go_wp2_with fail
   go_ret
   exact⟨by rw[HE.out];rfl,HB.out⟩
set_option maxHeartbeats 1600000 in
theorem contains_any (A:Option Addr) (n c:Nat) (l:List ByteArray) (x:ByteArray) (w:World) (hrd:Rd w w.heap.size 1 A n (txv l)) (hn:n<=1000000) :
  Calls Tryz.prog 131 #[.slice A n c,.string x] w fun e w'=>e=.returned (.bool (inT x l))/\Below w.heap.size w w':=by
 have HI:=Lib.hid (index_any A n c l x w hrd hn);obtain⟨k,hk⟩:∃k,atT l x=k:=⟨_,rfl⟩
 have hm:=atT_mem l x;rw[hk] at HI hm;clear hrd hn hk;by_cases h0:x∈l
 ·rw[inT_iff.2 h0]
  have hk0:=hm.2 h0;clear hm h0
  go_enter Tryz.func131, Tryz.ntmps131
  go_wp2_with (go_at_call 181;refine HI.out.mono ?_;rintro e1 w1 ⟨rfl,hb1⟩;have HB1:=Lib.hid hb1;clear hb1)
  go_ret
  exact⟨by simp,HB1.out⟩
 ·rw[inT_no h0]
  have hk0: ¬ 0<=k:=fun h=>h0 (hm.1 h)
  clear hm h0
  go_enter Tryz.func131, Tryz.ntmps131
  go_wp2_with (go_at_call 181;refine HI.out.mono ?_;rintro e1 w1 ⟨rfl,hb1⟩;have HB1:=Lib.hid hb1;clear hb1)
  go_ret
  exact⟨by simpa using hk0,HB1.out⟩
end Dk
end Go.Proofs.YtphfmgapiimliaaGreat
namespace Go.Proofs.YtphfmgapiimliaaGreat
namespace Dk
open Go.RowKit
set_option maxHeartbeats 1600000 in
set_option maxRecDepth 100000 in
theorem clone_any (w:World) {g:Nat} {l:List (ByteArray×Value)} (hm:Mp w g l) :
  Calls Tryz.prog 203 #[.map (some g)] w fun e w'=>e=.returned (.map (some w.heap.size))/\Mp w' w.heap.size l/\Below w.heap.size w w'/\w'.heap.size=w.heap.size+1:=by
 obtain⟨es,clock,h1,h2,h3⟩:=hm;have hq:=fun w=>run_eql_map_nil_sl (P:=Tryz.prog) w 86 _ _ (some g) Tryz.underlying86
 have hr:=run_maps_clone_sl (P:=Tryz.prog) w 86 h1;have ht:=fun w' xT=>run_typeAssert_map_sl (P:=Tryz.prog) w' 86 xT _ _ (.map (some w.heap.size)) Tryz.underlying86
 go_enter Tryz.func203, Tryz.ntmps203
 go_wp2
 rw[run_callFunc_extern Tryz.func246 (by kernel_rfl) (by kernel_rfl) (by kernel_rfl) (e:=Extern.MapsClone.clone) (by kernel_rfl),hr];simp only[Result.andThen];rw[Oper.upon_value];go_wp2
 go_ret
 exact⟨rfl,⟨es,_,heap_alloc_new w _,h2,h3⟩,ext_alloc w _,by simp⟩
section
variable {w w':World} {S:Nat->Prop} {bd gN gS:Nat} {v:Value} {D:DS}
theorem Fit.settle (h:Fit D):Fit (settleD D) :=
 ⟨h.wfN,h.wfN,fun c hc=>(by cases hc),h.cap0,h.cap1,h.arm0,h.arm1,h.ops,h.big,fun k=>by
  show(apps (List.take k []) D.now).length<=200
  rw[List.take_nil];exact h.now_few,rfl⟩
theorem Dat.settle (h:Dat w S bd gN gS v D) {w1:World} (hm:Mp w1 w.heap.size (vs D.now)) (hb:Below w.heap.size w w1) (hs:w1.heap.size=w.heap.size+1) :
  Dat ((w1.setCell ⟨bd,1,none⟩ (.map (some w.heap.size))).setCell ⟨bd,2,none⟩ (.slice none 0 0)) (fun k=>S k∨k=w.heap.size) bd gN w.heap.size (.slice none 0 0) (settleD D):=by
 have h1:=h.ext hb;have hne:w.heap.size≠bd:=by have:=h.lt _ h.sB;omega
 have hk:∀k,k≠bd->((w1.setCell ⟨bd,1,none⟩ (.map (some w.heap.size))).setCell ⟨bd,2,none⟩ (.slice none 0 0)).heap[k]? =w1.heap[k]? :=fun k hk=>by
  rw[Below.heap_setCell _ ⟨bd,2,none⟩ _ k hk,Below.heap_setCell _ ⟨bd,1,none⟩ _ k hk]
 refine⟨(h1.box.put 1 _).put 2 _,h1.now.same (hk _ h.bN),hm.same (hk _ hne),World.ownsRow_nil _ _ _ _,fun b p hp=>(hk _ (h.bF hp).1).trans (h1.fl b p hp),?_,.inl h.sB,.inl h.sN,.inr rfl,fun g hg=>(by cases hg),fun b p hp=>.inl (h.sF b p hp),fun b hb'=>?_,h.fit.settle⟩
 ·have:=h.lt _ h.sN;omega
 ·show b<_
  rw[show((w1.setCell ⟨bd,1,none⟩ (.map (some w.heap.size))).setCell ⟨bd,2,none⟩ (.slice none 0 0)).heap.size=w1.heap.size from by simp];rcases hb' with hb'|rfl
  ·have:=h.lt b hb';omega
  ·omega
theorem gr_settle (h:S bd) {w1:World} (hb:Below w.heap.size w w1) (x y:Value) :
  Gr S w (fun k=>S k∨k=w.heap.size) ((w1.setCell ⟨bd,1,none⟩ x).setCell ⟨bd,2,none⟩ y) :=
 ((Gr.of_below hb).trans ((Gr.setCell h 1 x).trans (Gr.setCell h 2 y))).more fun k hk=>hk.imp_right (by omega)
set_option maxHeartbeats 1600000 in
theorem settle_raw (hx:Blk w bd (dcells gN gS v D) 89) {l:List (ByteArray×Value)} (hm:Mp w gN l) :
  Calls Tryz.prog 164 #[.pointer (some ⟨bd,0,none⟩)] w fun e w'=>e=.returned (.tuple #[])/\ ∃w1,Mp w1 w.heap.size l/\Below w.heap.size w w1/\w1.heap.size=w.heap.size+1/\w'=(w1.setCell ⟨bd,1,none⟩ (.map (some w.heap.size))).setCell ⟨bd,2,none⟩ (.slice none 0 0):=by
 have c0:=hx.cell 0 (v:=.map (some gN)) rfl;have HC:=Lib.hid (clone_any w hm);have HX:=Lib.hid (fun w1 (hb:Below w.heap.size w w1)=>hx.ext hb);clear hx hm
 go_enter Tryz.func164, Tryz.ntmps164
 go_wp2_with (go_at_call 203;refine HC.out.mono ?_;rintro e1 w1 ⟨rfl,hm,hb,hs⟩;have f1:=(HX.out w1 hb).fz 1;have f2:=(HX.out w1 hb).fz 2;have k1:=(HX.out w1 hb).cell 1 rfl;have k2:=(HX.out w1 hb).cell 2 rfl;have H1:=Lib.hid (And.intro hm (And.intro hb hs));clear hm hb hs)
 go_end0
 exact⟨rfl,w1,H1.out.1,H1.out.2.1,H1.out.2.2,rfl⟩
theorem settle_any (h:DiskAt w S bd D):Calls Tryz.prog 164 #[.pointer (some ⟨bd,0,none⟩)] w fun e w'=>e=.returned (.tuple #[])/\ ∃S2,DiskAt w' S2 bd (settleD D)/\Gr S w S2 w':=by
 obtain⟨gN,gS,v,h⟩:=h;refine(settle_raw h.box h.now).mono ?_;rintro e w' ⟨rfl,w1,h1,h2,h3,rfl⟩;exact⟨rfl,_,⟨gN,_,_,h.settle h1 h2 h3⟩,gr_settle h.sB h2 _ _⟩
theorem dirsync_go (h:DiskAt w S bd D) (ho:D.off=false):Calls Tryz.prog 115 #[.pointer (some ⟨bd,0,none⟩)] w fun e w'=>e=.returned (.int .i64 (opE D))/\ ∃S',DiskAt w' S' bd (opS true settleD D)/\Gr S w S' w':=by
 have HU:=Lib.hid (up_any h);have hup:upE D=0:=by unfold upE;rw[ho];rfl
 rw[hup] at HU;have HO:=Lib.hid (op_any true 164 #[.pointer (some ⟨bd,0,none⟩)] #[] settleD h (enters_of Tryz.func164 (by kernel_rfl) rfl) fun w1 h1 g1=>settle_any h1);clear h ho hup
 go_enter Tryz.func115, Tryz.ntmps115
 go_wp2_with (first
  |(go_at_call 54;refine HU.out.mono ?_;rintro e1 w1 ⟨rfl,rfl⟩)
  |(go_at_call 117;refine HO.out.mono ?_;rintro e5 w5 ⟨rfl,S5,hD5,hG5⟩;have HD5:=Lib.hid (And.intro hD5 hG5);clear hD5 hG5))
 go_ret
 exact⟨rfl,S5,HD5.out⟩
end
end Dk
end Go.Proofs.YtphfmgapiimliaaGreat
namespace Go.Proofs.YtphfmgapiimliaaGreat
namespace Nf
open Go.RowKit
def maniN:ByteArray:=⟨#[109,97,110,105,102,101,115,116]⟩
def tempN:ByteArray:=⟨#[109,97,110,105,102,101,115,116,46,110,101,119]⟩
theorem manifest_any (w:World):Calls Tryz.prog 114 #[] w fun e w'=>e=.returned (.string maniN)/\w=w':=by
 go_enter Tryz.func114, Tryz.ntmps114
 go_wp2_with fail
 go_ret
 exact⟨rfl,rfl⟩
theorem temp_any (w:World):Calls Tryz.prog 113 #[] w fun e w'=>e=.returned (.string tempN)/\w=w':=by
 go_enter Tryz.func113, Tryz.ntmps113
 go_wp2_with fail
 go_ret
 exact⟨rfl,rfl⟩
end Nf
end Go.Proofs.YtphfmgapiimliaaGreat
namespace Go.Proofs.YtphfmgapiimliaaGreat
namespace Dk
open Go.RowKit
def fv (f:FuncId×Array Value×Array Value):Value:=.func (.func f.1) f.2.1 f.2.2
set_option maxHeartbeats 3200000 in
set_option maxRecDepth 100000 in
theorem all_any (fs:List (FuncId×Array Value×Array Value)) (A:Option Addr) (n c:Nat) (w:World) (J:Nat->World->Prop) (F:Int->World->Prop) (hn:n<=1000)
  (hrd:∀k wx,J k wx->Rd wx wx.heap.size 1 A n (fs.map fv)) (h0:J 0 w) (hen:∀f∈fs,∀args w,(callFunc f.1 args).run Tryz.prog w=.ok (.enter f.1 args) w)
  (hstep:∀k f,fs[k]? =some f-> ∀wx,J k wx->Calls Tryz.prog f.1 (f.2.1++f.2.2) wx fun e w'=>∃x,e=.returned (.int .i64 x)/\((x=0/\J (k+1) w')∨(x≠0/\F x w'))) :
  Calls Tryz.prog 89 #[.slice A n c] w fun e w'=>∃x,e=.returned (.int .i64 x)/\((x=0/\J n w')∨(x≠0/\F x w')):=by
 have HR:=Lib.hid hrd;have HS:=Lib.hid hstep;have HE:=Lib.hid hen;have H0:=Lib.hid h0;clear hrd hstep hen h0
 go_enter Tryz.func89, Tryz.ntmps89
 go_wp2_with fail
 go_loopw [8] (fun v wr=>∃k:Nat,v=.int .i64 k/\k<=n/\Hid (J k wr)) (fun v _=>n-(intOf v).toNat)
 case atStart=>exact⟨0,by go_num,by omega,H0.out⟩
 case round =>
  obtain⟨k,rfl,hk,HX⟩:=hrel;by_cases hkn:k<n
  ·obtain⟨ad,u,hA,hbk,hx,hc⟩:=(HR.out k wr HX.out).at1 hkn
   obtain⟨f,hf,rfl⟩:∃f,fs[k]? =some f/\fv f=u:=by
    rw[List.getElem?_map] at hx;rcases hf:fs[k]? with _|f
    ·rw[hf] at hx;cases hx
    ·rw[hf] at hx
     exact⟨f,rfl,by simpa using hx⟩
   have hen2:=HE.out f (List.mem_of_getElem? hf);have HC:=Lib.hid (HS.out k f hf wr HX.out);obtain⟨fid,first,caps⟩:=f;unfold fv at hc;dsimp only at hc hen2 HC;subst hA;clear hx hf hbk;go_wp2_with (go_at_fn fid;refine HC.out.mono ?_;rintro e1 w1 ⟨x,rfl,⟨rfl,hJ⟩|⟨hx0,hJ⟩⟩<;>have HJ:=Lib.hid hJ<;>clear hJ<;>try (have hb:(x != 0)=true:=(by rw[bne_iff_ne];exact hx0)))
   ·go_roundw
    ·exact⟨k+1,by go_num,by omega,HJ.out⟩
    ·simp[intOf];omega
   ·go_ret
    exact⟨x,rfl,.inr ⟨hx0,HJ.out⟩⟩
  ·have e:k=n:=by omega
   subst e;go_wp2_with fail
   go_ret
   exact⟨0,rfl,.inl ⟨rfl,HX.out⟩⟩
end Dk
end Go.Proofs.YtphfmgapiimliaaGreat
