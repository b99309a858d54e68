/- varvelaw23: awake. varvelaw23: awake, walked. What is found of a beginning of bytes, plainly; Tail where it answers, where not. file: Loose, left, Fall, where no mark is. maps.Clone of a directory; disk: settle, DirSync, Off. slices.Sorted of maps.Keys: the shelf's contracts at this dump (written by the kit's lay-iter.mjs, lay-plain.mjs). disk: names of a directory, in order. disk: Boot's plain part; nth. SegFalls: what is left of a segment, plainly. disk: Boot, where no change waits. SegFalls: a disk with one file, its directory synced; what Boot leaves of it. varvelaw20.Do: Boot, with nothing chosen. varvelaw15.Few, varveref15.Same. varvelaw23: parts. scan.Records, where the blocks stand. varveref21.Same, at rows that are the same. -/
import Derived.Test.YtlnbjikooadmoaaGreatKf52
import Derived.Test.YtlnbjikooadmoaaGreatKf48
import Derived.Deep.Cut
import Derived.Test.YtlnbjikooadmoaaGreatKf49
import Derived.Laws.IdiomStrings
import Derived.Laws.IdiomCopy
import Derived.Deep.RegionLaw
import Derived.Deep.RegionWith
import Derived.Shelf.SlMaps.Clone
import Derived.Shelf.SlIter.Nil
import Derived.Shelf.SortM.Plain
import Derived.Shelf.SortM.SortNone
import Derived.Ground.GgzProg
import Derived.Ground.SlgmProg
import Derived.Test.YtlnbjikooadmoaaGreatRows
import Derived.StringKeys
import Derived.CallsIn
import Derived.Deep.LoopGhost
import Derived.Deep.CutBlock
import Derived.Deep.RegionHeld3
import Derived.Deep.QuietTactic
import Derived.BigQuiet
import Derived.Test.YtlnbjikooadmoaaGreatKf51
namespace Go.Proofs.YtlnbjikooadmoaaGreat
namespace Dk
open Go.RowKit Hd Fm Sn Bk Rd Bd
structure Onc (c:Int) (D:DS) (b:Nat) (s:ByteArray) (p:ByteArray×ByteArray):Prop where
 calm:Calm D
 now:D.now=[(s,b)]
 fl:D.fl b=some p
 cap:D.cap=c
section
variable {c:Int} {D:DS} {b:Nat} {s:ByteArray} {p:ByteArray×ByteArray} (h:Onc c D b s p)
include h
theorem Onc.lk:lk s D.now=some b:=by rw[h.now,lk_cons,if_pos rfl]
theorem Onc.used:usedD D=p.2.size:=by
 unfold usedD;rw[h.now,szs,szs,h.fl];rfl
theorem Onc.set (q:ByteArray×ByteArray):Onc c (setF b q (tick D)) b s q:=⟨h.calm.tick.setF b _,h.now,fl_set b _ _,h.cap⟩
theorem Onc.read:readP D s=(p.2,0):=by
 unfold readP;rw[h.calm.off,h.lk];simp[h.fl]
end
theorem onc_new (c:Int) (s hd:ByteArray) (b:Nat):Onc c (d3 s hd b (newD c)) b s (hd,hd):=by
 have:Onc c (d3 s hd b (newD c)) b s (⟨#[]⟩++hd,⟨#[]⟩++hd):=⟨calm_d3 ⟨rfl,rfl⟩ s hd b,d3_now (D:=newD c) rfl,fl_set b _ _,rfl⟩
 rwa [emp_app] at this
structure Aw (w0:World) (bd b:Nat) (p:ByteArray×ByteArray) (K:List (Nat×Array Value×TypeId)) (wx:World):Prop where
 ex:∃(S:Nat->Prop) (D:DS),DiskAt wx S bd D/\Onc 1000 D b (segN 1 1) p/\(∀j,S j->w0.heap.size<=j)/\(∀x∈K,¬ S x.1)
 kp:∀x∈K,Blk wx x.1 x.2.1 x.2.2
 below:Below w0.heap.size w0 wx
theorem Aw.ext {w0 wx wy:World} {bd b:Nat} {p:ByteArray×ByteArray} {K:List (Nat×Array Value×TypeId)} (h:Aw w0 bd b p K wx) (hb:Below wx.heap.size wx wy):Aw w0 bd b p K wy:=by
 obtain⟨⟨S,D,h1,h2,h3,h4⟩,h5,h6⟩:=h;exact⟨⟨S,D,h1.ext hb,h2,h3,h4⟩,fun x hx=>(h5 x hx).ext hb,h6.trans (hb.mono h6.size)⟩
theorem Aw.add {w0 wx:World} {bd b:Nat} {p:ByteArray×ByteArray} {K:List (Nat×Array Value×TypeId)} (h:Aw w0 bd b p K wx) (cs:Array Value) (t:TypeId):Aw w0 bd b p ((wx.heap.size,cs,t)::K) (wx.alloc (.cells cs t)):=by
 have h':=h.ext (ext_alloc wx (.cells cs t));obtain⟨⟨S,D,h1,h2,h3,h4⟩,h5,h6⟩:=h;refine⟨⟨S,D,h1.ext (ext_alloc wx _),h2,h3,fun x hx=>?_⟩,fun x hx=>?_,h'.below⟩
 ·rcases List.mem_cons.1 hx with rfl|hx
  ·exact h1.gt (Nat.le_refl _)
  ·exact h4 x hx
 ·rcases List.mem_cons.1 hx with rfl|hx
  ·exact Blk.new wx cs t
  ·exact h'.kp x hx
theorem Aw.step {w0 wx wy:World} {bd b:Nat} {p':ByteArray×ByteArray} {K:List (Nat×Array Value×TypeId)} {S S':Nat->Prop} {D':DS} (h3:∀j,S j->w0.heap.size<=j) (h4:∀x∈K,¬ S x.1) (h5:∀x∈K,Blk wx x.1 x.2.1 x.2.2) (h6:Below w0.heap.size w0 wx)
  (hd:DiskAt wy S' bd D') (ho:Onc 1000 D' b (segN 1 1) p') (hg:Gr S wx S' wy):Aw w0 bd b p' K wy :=
 ⟨⟨S',D',hd,ho,hg.ge h6.size h3,fun x hx=>hg.out (h5 x hx).lt (h4 x hx)⟩,fun x hx=>hg.blk (h5 x hx) (h4 x hx),h6.trans (hg.below h6.size h3)⟩
theorem seg11:segN 1 1=⟨#[115,101,103,45,48,48,48,48,48,49,45,48,48,48,48,48,49,46,108,111,103]⟩:=by decide
def junk:ByteArray:=⟨#[106,117,110,107]⟩
theorem tl_junk:tl (s0++junk) 1 1 1=some ([mt0],32):=by
 rw[tl_of_rn (pre_s0 _),rn_behind];intro hg;have:=GF_to hg;have h33:(s0++junk).size=36:=by rw[ByteArray.size_append,s0_size];rfl
 omega
theorem junk_cut:(s0++junk).extract 0 32=s0:=by
 refine ba_ext ?_;rw[ext_list,List.drop_zero,Nat.sub_zero,ByteArray.data_append,Array.toList_append,List.take_append_of_le_length (by rw[size_list,s0_size];exact Nat.le_refl _),List.take_of_length_le (by rw[size_list,s0_size];exact Nat.le_refl _)]
theorem blk_c0 {B:ByteArray} (h:BlkOf r0 B):B=c0:=by
 obtain⟨A,-,h⟩:=h;rw[blk_r0] at h;exact ba_ext h
def hd3:Array Value:=#[.int .i64 1,.int .i64 1,.int .i64 1]
def rc3:Array Value:=#[.int .i64 1,.int .i64 5,.string hi]
section
variable {w0 wx w1:World} {bd b g4:Nat} {p:ByteArray×ByteArray} {K:List (Nat×Array Value×TypeId)}
theorem rd_r0 (h:Blk wx g4 rc3 31):Rd wx wx.heap.size 3 (some ⟨g4,0,none⟩) 1 (fl3 r0) :=
 ⟨rfl,fun _=>⟨_,rfl,h.lt,fun j u hu=>by
  rw[Addr.add_lit,Nat.zero_add];exact h.cell j (by simpa[rc3,r0,fl3,cl3] using hu)⟩⟩
theorem hh1:1<=1/\1<=999999/\1<=1/\1<=999999/\1<=1/\1<=1000000000:=by omega
theorem okH1:okH 1 1 1=true:=by decide
theorem aw_create {S:Nat->Prop} (hd:DiskAt w1 S bd (newD 1000)) (hg:Gr (fun _=>False) w0 S w1) :
  Calls Tryz.prog 8 #[.pointer (some ⟨bd,0,none⟩),.agg hd3] ((w1.alloc (.cells hd3 33)).alloc (.cells rc3 31)) fun e w'=>e=.returned (.int .i64 0)/\ ∃b,Aw w0 bd b (h0B,h0B) [(w1.heap.size+1,rc3,31),(w1.heap.size,hd3,33)] w':=by
 have yy:=Create_go (i:=1) (g:=1) (f:=1) (hd.ext (ext_second w1 (.cells hd3 33) (.cells rc3 31))) ⟨rfl,rfl⟩ hh1 rfl (by show 0<200;omega) (by show 0<=1000000;omega) (by show(36:Int)+((0:Nat):Int)<=1000;omega);rw[show((1:Nat):Int)=1 from rfl] at yy;refine yy.mono ?_;rintro e w' ⟨rfl,b,S',-,q1,q2⟩;have h0:Below w0.heap.size w0 w1:=hg.below (Nat.le_refl _) (fun _ h=>h.elim);have h1:=h0.trans ((ext_second w1 (.cells hd3 33) (.cells rc3 31)).mono h0.size);refine⟨rfl,b,Aw.step (hg.ge (Nat.le_refl _) (fun _ h=>h.elim)) (fun x hx=>?_) (fun x hx=>?_) h1 q1 (onc_new 1000 (segN 1 1) h0B b) q2⟩
 ·simp only[List.mem_cons,List.not_mem_nil,or_false] at hx
  rcases hx with rfl|rfl
  ·exact hd.gt (Nat.le_succ _)
  ·exact hd.gt (Nat.le_refl _)
 ·simp only[List.mem_cons,List.not_mem_nil,or_false] at hx
  rcases hx with rfl|rfl
  ·exact blk_second w1 _ _ _
  ·exact(Blk.new w1 _ _).alloc _
theorem aw_add (h:Aw w0 bd b (h0B,h0B) K wx) (hr:Blk wx g4 rc3 31) :
  Calls Tryz.prog 10 #[.pointer (some ⟨bd,0,none⟩),.agg hd3,.int .i64 12,.slice (some ⟨g4,0,none⟩) 1 1] wx fun e w'=>e=.returned (.tuple #[.agg #[.int .i64 12,.int .i64 20,.int .i64 5,.int .i64 1,.int .i64 1,.int .i64 5,.int .i64 5],.int .i64 0])/\Aw w0 bd b (h0B,s0) K w':=by
 obtain⟨⟨S,D,h1,h2,h3,h4⟩,h5,h6⟩:=h;have hj5:(joinB r0).length=5:=by rw[joinB_r0];rfl
 have yy:=Add_go (i:=1) (g:=1) (f:=1) (at':=12) (c:=1) h1 h2.calm okH1 h2.lk h2.fl (rd_r0 hr) (by omega) jE_r0 (by decide) (by rw[hj5];show h0B.size+_<=_;rw[h0B_size];decide) (by rw[hj5,h2.used,h2.cap];show _+((h0B.size:Nat):Int)<=_;rw[h0B_size];decide);rw[show((12:Nat):Int)=12 from rfl] at yy;refine yy.mono ?_;rintro e w' ⟨B,hB,rfl,S',q1,q2⟩;obtain rfl:=blk_c0 hB;refine⟨?_,Aw.step h3 h4 h5 h6 q1 (h2.set _) q2⟩;unfold mv mtOf;dsimp only;rw[hj5];rfl
theorem aw_sync (h:Aw w0 bd b p K wx):Calls Tryz.prog 20 #[.pointer (some ⟨bd,0,none⟩),.agg hd3] wx fun e w'=>e=.returned (.int .i64 0)/\Aw w0 bd b (p.2,p.2) K w':=by
 obtain⟨⟨S,D,h1,h2,h3,h4⟩,h5,h6⟩:=h;refine(Sync_go (i:=1) (g:=1) (f:=1) h1 okH1 h2.calm.off h2.lk h2.fl).mono ?_;rintro e w' ⟨rfl,S',q1,q2⟩;rw[h2.calm.e];rw[h2.calm.s] at q1;exact⟨rfl,Aw.step h3 h4 h5 h6 q1 (h2.set _) q2⟩
theorem aw_app (h:Aw w0 bd b (s0,s0) K wx):Calls Tryz.prog 28 #[.pointer (some ⟨bd,0,none⟩),.string (segN 1 1),.string junk] wx fun e w'=>e=.returned (.int .i64 0)/\Aw w0 bd b (s0,s0++junk) K w':=by
 obtain⟨⟨S,D,h1,h2,h3,h4⟩,h5,h6⟩:=h;have hj:junk.size=4:=rfl;refine(append_go h1 h2.calm.off h2.lk h2.fl (by show s0.size+_<=_;rw[s0_size,hj];decide) (by rw[h2.used,h2.cap,hj];show _+((s0.size:Nat):Int)<=_;rw[s0_size];decide)).mono ?_;rintro e w' ⟨rfl,S',q1,q2⟩;rw[h2.calm.e];rw[h2.calm.s] at q1;exact⟨rfl,Aw.step h3 h4 h5 h6 q1 (h2.set _) q2⟩
theorem aw_trim (h:Aw w0 bd b (s0,s0++junk) K wx):Calls Tryz.prog 23 #[.pointer (some ⟨bd,0,none⟩),.agg hd3] wx fun e w'=>∃(g cap:Nat) (cur:Array Value),e=.returned (.tuple #[.slice (some ⟨g,0,none⟩) 1 cap,.int .i64 32,.int .i64 0])/\cur.toList.take 7=fl7 [mt0]/\Aw w0 bd b (s0,s0) ((g,cur,39)::K) w':=by
 obtain⟨⟨S,D,h1,h2,h3,h4⟩,h5,h6⟩:=h;have hz:(s0++junk).size=36:=by rw[ByteArray.size_append,s0_size];rfl
 have yy:=Trim_cut (i:=1) (g:=1) (f:=1) h1 h2.calm okH1 h2.lk h2.fl tl_junk (by show 32<(s0++junk).size;rw[hz];decide);rw[show((32:Nat):Int)=32 from rfl] at yy;refine yy.mono ?_;rintro e w' ⟨A',n',c',rfl,hown,S',q1,q2,q3⟩;have ho:Onc 1000 (trimD b (s0,s0++junk) 32 D) b (segN 1 1) (s0,s0):=by
  have:=(h2.set (s0,s0)).set (s0,s0);unfold trimD syncD;dsimp only;rw[junk_cut];exact this
 have hA:=Aw.step h3 h4 h5 h6 q1 ho q2;have hn:n'=1:=by
  obtain⟨A1,c1,e1,-⟩:=hown.rd;cases e1;rfl
 subst hn;rcases hown.2 with ⟨-,e⟩|⟨g,cap,cur,e1,-,hc,-,-,-,ht⟩
 ·cases e
 ·cases e1
  refine⟨g,c',cur,rfl,ht,⟨S',_,q1,ho,q2.ge h6.size h3,fun x hx=>?_⟩,fun x hx=>?_,hA.below⟩
  ·rcases List.mem_cons.1 hx with rfl|hx
   ·exact q3 _ rfl
   ·exact q2.out (h5 x hx).lt (h4 x hx)
  ·rcases List.mem_cons.1 hx with rfl|hx
   ·exact hc
   ·exact q2.blk (h5 x hx) (h4 x hx)
theorem end_1:endM (hdrB 1 1 1).size [mt0]+((ftB [mt0]).size+9)=s1.size:=by
 unfold s1;rw[ByteArray.size_append,size_frB,s0_size];rfl
theorem ok_1:okBl [mt0]=true:=by decide
theorem ft_1:(ftB [mt0]).size<=40:=by have:=ft_le ok_1;simpa using this
theorem rd_row {g cap:Nat} {cur:Array Value} (hk:Blk wx g cur 39) (ht:cur.toList.take 7=fl7 [mt0]):Rd wx wx.heap.size 7 (some ⟨g,0,none⟩) 1 (fl7 [mt0]) :=
 ⟨rfl,fun _=>⟨_,rfl,hk.lt,fun j u hu=>by
  rw[Addr.add_lit,Nat.zero_add];refine hk.cell j ?_;rw[<-ht,List.getElem?_take] at hu;split at hu
  ·simpa using hu
  ·cases hu⟩⟩
theorem aw_seal {g cap:Nat} {cur:Array Value} (h:Aw w0 bd b (s0,s0) K wx) (hk:Blk wx g cur 39) (ht:cur.toList.take 7=fl7 [mt0]) :
  Calls Tryz.prog 11 #[.pointer (some ⟨bd,0,none⟩),.agg hd3,.slice (some ⟨g,0,none⟩) 1 cap] wx fun e w'=>e=.returned (.tuple #[.int .i64 (s1.size:Int),.int .i64 0])/\Aw w0 bd b (s1,s1) K w':=by
 obtain⟨⟨S,D,h1,h2,h3,h4⟩,h5,h6⟩:=h;have hf:=ft_1;have hs:=s0_size;have yy:=Seal_go (i:=1) (g:=1) (f:=1) (c:=cap) h1 h2.calm hh1 (rd_row (cap:=cap) hk ht) (by omega) ok_1 h2.lk h2.fl (by omega) (by show s0.size+_<=_;omega) (by rw[h2.used,h2.cap];show _+_+((s0.size:Nat):Int)<=_;omega) (by show 32<=2000000;omega);rw[show((1:Nat):Int)=1 from rfl,end_1] at yy;refine yy.mono ?_;rintro e w' ⟨rfl,S',q1,q2⟩;exact⟨rfl,Aw.step h3 h4 h5 h6 q1 ((h2.set _).set _) q2⟩
theorem aw_read (h:Aw w0 bd b p K wx):Calls Tryz.prog 12 #[.pointer (some ⟨bd,0,none⟩),.agg hd3] wx fun e w'=>e=.returned (.tuple #[.string p.2,.int .i64 0])/\Aw w0 bd b p K w':=by
 have h':=h;obtain⟨⟨S,D,h1,h2,h3,h4⟩,h5,h6⟩:=h;have yy:=Read_go (i:=1) (g:=1) (f:=1) h1 okH1;rw[h2.read] at yy;refine yy.mono ?_;rintro e w' ⟨rfl,hb⟩;exact⟨rfl,h'.ext hb⟩
theorem aw_exist (h:Aw w0 bd b p K wx):Calls Tryz.prog 8 #[.pointer (some ⟨bd,0,none⟩),.agg hd3] wx fun e w'=>e=.returned (.int .i64 202)/\Below wx.heap.size wx w':=by
 obtain⟨⟨S,D,h1,h2,h3,h4⟩,h5,h6⟩:=h;have yy:=Create_exist (i:=1) (g:=1) (f:=1) h1 hh1 h2.calm.off h2.lk;rw[show((1:Nat):Int)=1 from rfl] at yy;exact yy
theorem aw_bad:Calls Tryz.prog 8 #[.pointer (some ⟨bd,0,none⟩),.agg #[.int .i64 0,.int .i64 0,.int .i64 0]] wx fun e w'=>e=.returned (.int .i64 210)/\Below wx.heap.size wx w':=Create_bad 0 0 0 wx (by decide)
theorem aw_size (hr:Blk wx g4 rc3 31):Calls Tryz.prog 29 #[.slice (some ⟨g4,0,none⟩) 1 1] wx fun e w'=>e=.returned (.int .i64 20)/\Below wx.heap.size wx w' :=
 Size_go wx 20 (rd_r0 hr) (by omega) jE_r0 (by decide) fun B hB=>by rw[blk_c0 hB];rfl
end
end Dk
end Go.Proofs.YtlnbjikooadmoaaGreat
namespace Go.Proofs.YtlnbjikooadmoaaGreat
namespace Dk
open Go.RowKit Hd Fm Sn Bk Rd Bd
theorem Aw.hd {w0 wx:World} {bd b:Nat} {p:ByteArray×ByteArray} {K:List (Nat×Array Value×TypeId)} (h:Aw w0 bd b p K wx) {j:Nat} {cs:Array Value} {t:TypeId} (hx:(j,cs,t)∈K):Blk wx j cs t:=h.kp _ hx
def mtv:Array Value:=#[.int .i64 12,.int .i64 20,.int .i64 5,.int .i64 1,.int .i64 1,.int .i64 5,.int .i64 5]
set_option maxHeartbeats 6400000 in
set_option maxRecDepth 100000 in
theorem awake_any (w:World):Calls Tryz.prog 6 #[] w fun e w'=>e=.returned (.bool true)/\Below w.heap.size w w':=by
 have mixed:Tryz.prog.follows .mixedOrders=true:=by kernel_rfl
 have HN:=Lib.hid (new_ok 1000 w (by omega) (by omega))
 go_enter Tryz.func6, Tryz.ntmps6
 go_wp2_with fail
 refine HN.out.mono ?_;rintro e1 w1 ⟨bd,rfl,S1,hd1,hg1⟩;have HC:=Lib.hid (aw_create hd1 hg1);unfold hd3 rc3 hi at HC;clear hd1 hg1 HN;go_wp2_with fail
 refine HC.out.mono ?_;rintro e2 w2 ⟨rfl,b,hA⟩;have HA2:=Lib.hid hA;have HH2:=Lib.hid (hA.kp _ (.tail _ (.head _)));have HR2:=Lib.hid (hA.kp _ (.head _));clear hA HC;have HM:=Lib.hid (show(w1.heap.size,hd3,33)∈ [(w1.heap.size+1,rc3,31),(w1.heap.size,hd3,33)]/\(w1.heap.size+1,rc3,31)∈ [(w1.heap.size+1,rc3,31),(w1.heap.size,hd3,33)] from⟨.tail _ (.head _),.head _⟩);unfold hd3 rc3 hi at HM;generalize hK:(_::_:List (Nat×Array Value×TypeId))=K at HA2 HM;clear hK;have k0:=HH2.out.cell 0 rfl;have k1:=HH2.out.cell 1 rfl;have k2:=HH2.out.cell 2 rfl;go_wp2_with fail
 refine(aw_add HA2.out HR2.out).mono ?_;rintro e3 w3 ⟨rfl,hA⟩;have HA3:=Lib.hid (hA.add mtv 39);have HM3:=Lib.hid (hA.add mtv 39).below.size;clear hA HA2 HH2 HR2 k0 k1 k2;unfold mtv at HA3;have HH3:=Lib.hid (HA3.out.kp _ (.tail _ HM.out.1));have k0:=HH3.out.cell 0 rfl;have k1:=HH3.out.cell 1 rfl;have k2:=HH3.out.cell 2 rfl;go_wp2_with fail
 refine(aw_sync HA3.out).mono ?_;rintro e4 w4 ⟨rfl,hA⟩;have HA4:=Lib.hid hA;clear hA HA3 HH3 k0 k1 k2;have HAP:=Lib.hid (aw_app HA4.out);rw[seg11] at HAP;unfold junk at HAP;go_wp2_with fail
 refine HAP.out.mono ?_;rintro e5 w5 ⟨rfl,hA⟩;have HA5:=Lib.hid hA;clear hA HA4 HAP;have HH5:=Lib.hid (HA5.out.kp _ (.tail _ HM.out.1));have k0:=HH5.out.cell 0 rfl;have k1:=HH5.out.cell 1 rfl;have k2:=HH5.out.cell 2 rfl;go_wp2_with fail
 refine(aw_trim HA5.out).mono ?_;rintro e6 w6 ⟨g,cap,cur,rfl,ht,hA⟩;have HA6:=Lib.hid hA;have HT:=Lib.hid ht;clear hA ht HA5 HH5 k0 k1 k2;have HH6:=Lib.hid (HA6.out.kp _ (.tail _ (.tail _ HM.out.1)));have k0:=HH6.out.cell 0 rfl;have k1:=HH6.out.cell 1 rfl;have k2:=HH6.out.cell 2 rfl;go_wp2_with fail
 refine(aw_seal HA6.out (HA6.out.kp _ (.head _)) HT.out).mono ?_;rintro e7 w7 ⟨rfl,hA⟩;have HA7:=Lib.hid hA;clear hA HA6 HH6 k0 k1 k2;have HH7:=Lib.hid (HA7.out.kp _ (.tail _ (.tail _ HM.out.1)));have k0:=HH7.out.cell 0 rfl;have k1:=HH7.out.cell 1 rfl;have k2:=HH7.out.cell 2 rfl;go_wp2_with fail
 refine(aw_read HA7.out).mono ?_;rintro e8 w8 ⟨rfl,hA⟩;have HA8:=Lib.hid hA;clear hA HA7 HH7 k0 k1 k2;dsimp only at HA8 ⊢;generalize s1=S at HA8 ⊢;have HQ:=Lib.hid (show ∀q:Bw w8,Blk q.to w1.heap.size hd3 33/\Blk q.to (w1.heap.size+1) rc3 31/\Blk q.to w3.heap.size mtv 39/\Blk q.to g cur 39 from fun q =>
  ⟨(HA8.out.kp _ (.tail _ (.tail _ HM.out.1))).ext q.h,(HA8.out.kp _ (.tail _ (.tail _ HM.out.2))).ext q.h,(HA8.out.kp _ (.tail _ (.head _))).ext q.h,(HA8.out.kp _ (.head _)).ext q.h⟩)
 have HE:=Lib.hid (show ∀q:Bw w8,Calls Tryz.prog 8 #[.pointer (some ⟨bd,0,none⟩),.agg hd3] q.to fun e w'=>e=.returned (.int .i64 202)/\Below q.to.heap.size q.to w' from fun q=>aw_exist (HA8.out.ext q.h));have HBD:=Lib.hid (show ∀q:Bw w8,Calls Tryz.prog 8 #[.pointer (some ⟨bd,0,none⟩),.agg #[.int .i64 0,.int .i64 0,.int .i64 0]] q.to fun e w'=>e=.returned (.int .i64 210)/\Below q.to.heap.size q.to w' from fun q=>aw_bad);have HSZ:=Lib.hid (show ∀q:Bw w8,Calls Tryz.prog 29 #[.slice (some ⟨w1.heap.size+1,0,none⟩) 1 1] q.to fun e w'=>e=.returned (.int .i64 20)/\Below q.to.heap.size q.to w' from fun q=>aw_size (HQ.out q).2.1);unfold hd3 at HE;have cu:∀(q:Bw w8) (k:Nat) (u:Value),(fl7 [mt0])[k]? =some u->q.to.cell? ⟨g,k,none⟩=some u:=fun q k u hu=>by
  refine(HQ.out q).2.2.2.cell k ?_;rw[<-HT.out,List.getElem?_take] at hu;split at hu
  ·simpa using hu
  ·cases hu
 have h0:=fun q:Bw w8=>(HQ.out q).1.cell 0 (v:=.int .i64 1) rfl
 have h1:=fun q:Bw w8=>(HQ.out q).1.cell 1 (v:=.int .i64 1) rfl
 have h2:=fun q:Bw w8=>(HQ.out q).1.cell 2 (v:=.int .i64 1) rfl
 have c0:=fun q=>cu q 0 (.int .i64 12) rfl
 have c1:=fun q=>cu q 1 (.int .i64 20) rfl
 have c2:=fun q=>cu q 2 (.int .i64 5) rfl
 have c3:=fun q=>cu q 3 (.int .i64 1) rfl
 have c4:=fun q=>cu q 4 (.int .i64 1) rfl
 have c5:=fun q=>cu q 5 (.int .i64 5) rfl
 have c6:=fun q=>cu q 6 (.int .i64 5) rfl
 have m0:=fun q:Bw w8=>(HQ.out q).2.2.1.cell 0 (v:=.int .i64 12) rfl
 have m1:=fun q:Bw w8=>(HQ.out q).2.2.1.cell 1 (v:=.int .i64 20) rfl
 have m2:=fun q:Bw w8=>(HQ.out q).2.2.1.cell 2 (v:=.int .i64 5) rfl
 have m3:=fun q:Bw w8=>(HQ.out q).2.2.1.cell 3 (v:=.int .i64 1) rfl
 have m4:=fun q:Bw w8=>(HQ.out q).2.2.1.cell 4 (v:=.int .i64 1) rfl
 have m5:=fun q:Bw w8=>(HQ.out q).2.2.1.cell 5 (v:=.int .i64 5) rfl
 have m6:=fun q:Bw w8=>(HQ.out q).2.2.1.cell 6 (v:=.int .i64 5) rfl
 clear cu;go_upto_region 15 with (fail)
 refine wp_region_quiet_below (by assumption) (by kernel_rfl) ?_
 iterate 58 (go_big_quiet_step (first|(go_at_call 29;refine below_of (HSZ.out _))|(go_at_call 8;refine below_of (HE.out _))))
 clear HE HSZ c0 c1 c2 c3 c4 c5 c6 m0 m1 m2 m3 m4 m5 m6 h0 h1 h2
 repeat (go_big_quiet_step ((go_at_call 8;refine below_of (HBD.out _))))
 refine wpQuiet_nil ?_;intro _ hw';obtain⟨q,rfl⟩:=hw';go_wp2_with fail
 go_ret
 exact⟨rfl,HA8.out.below.trans (q.h.mono HA8.out.below.size)⟩
end Dk
end Go.Proofs.YtlnbjikooadmoaaGreat
namespace Go.Proofs.YtlnbjikooadmoaaGreat
namespace Sn
open Go.RowKit Hd Fm Bk
theorem size_cut {s:ByteArray} {c:Nat} (hc:c<=s.size):(s.extract 0 c).size=c:=by rw[ByteArray.size_extract];omega
theorem pre_cut {s p:ByteArray} {c:Nat} (hc:c<=s.size):preB (s.extract 0 c) p=true↔preB s p=true/\p.size<=c:=by
 constructor
 ·intro h
  have h1:=pre_size h;rw[size_cut hc] at h1;refine⟨?_,h1⟩;rw[preB_iff] at h ⊢;rw[(agree_cut s c hc).extract h1];exact h
 ·rintro ⟨h,h1⟩
  rw[preB_iff] at h ⊢;rw[<-(agree_cut s c hc).extract h1];exact h
theorem cut_some {s:ByteArray} {i g f:Int} {c:Nat} {L:List Mt} {E:Nat} (h:tl s i g f=some (L,E)) (hc:c<=s.size) :
  (tl (s.extract 0 c) i g f=none/\c<E)∨ ∃L' E' l2,tl (s.extract 0 c) i g f=some (L',E')/\L=L'++l2/\E'<=E/\E'<=c/\(E<=c->l2=[]/\E'=E):=by
 unfold tl at h;split at h
 ·rename_i hk
  have hr:=Option.some.inj h;by_cases hz:(hdrB i.toNat g.toNat f.toNat).size<=c
  ·right
   have ha:=agree_cut s c hc;have ha2:Agree s (s.extract 0 c) (s.extract 0 c).size:=by rw[size_cut hc];exact ha
   obtain⟨⟨l2,c1⟩,c2,c3⟩:=rn_cut f.toNat s (s.extract 0 c) ha2 [] (hdrB i.toNat g.toNat f.toNat).size (by rw[size_cut hc];exact hz);rw[hr] at c1 c2;rw[size_cut hc] at c3;refine⟨_,_,l2,by unfold tl;rw[if_pos ⟨hk.1,(pre_cut hc).2 ⟨hk.2,hz⟩⟩],c1,c2,c3,fun hE=>?_⟩;have ht:=rn_to f.toNat s (s.extract 0 c) c ha [] (hdrB i.toNat g.toNat f.toNat).size (by rw[hr];exact hE);rw[hr] at ht;obtain⟨l3,p1,p2,-⟩:=rn_pre f.toNat (s.extract 0 c) L E;rw[ht] at c1 c2;have e1:L.length=(L++l3).length+l2.length:=by
    have:=congrArg List.length c1;rw[p1,List.length_append] at this;exact this
   rw[List.length_append] at e1;refine⟨List.length_eq_zero_iff.1 (by omega),?_⟩;rw[ht];exact Nat.le_antisymm c2 p2
  ·left
   refine⟨?_,?_⟩
   ·unfold tl
    rw[if_neg];rintro ⟨-,h2⟩;exact hz ((pre_cut hc).1 h2).2
   ·obtain⟨l2,-,p2,-⟩:=rn_pre f.toNat s [] (hdrB i.toNat g.toNat f.toNat).size
    rw[hr] at p2;dsimp only at p2;omega
 ·cases h
end Sn
end Go.Proofs.YtlnbjikooadmoaaGreat
namespace Go.Proofs.YtlnbjikooadmoaaGreat
namespace Dk
open Go.RowKit Hd Fm Sn
theorem run_copy_str0 {P:Program} (w:World) (dT sT ty elem:TypeId) (d:Option Addr) (dLen dCap:Nat) (s:ByteArray) (hu:P.underlying dT=some (.slice elem)) (hs:(P.info? elem).map (·.size)=some 1) (hn:Nat.min s.size dLen=0) :
  (Builtin.copy_ #[dT,sT] ty #[.slice d dLen dCap,.string s]).run P w=.ok (goInt 0) w:=by
 cases hq:P.info? elem with
 |none=>simp[hq] at hs
 |some i =>
  cases d<;>simp[Builtin.copy_,run_underlying hu,Builtin.lenOf,Builtin.firstCells,sizeOf,typeInfo,hq,hn,storeCells]
theorem step_copy_str0 {P:Program} {ops:Array Oper} {o:Oper} {a:Act} {w:World} {K:Act->World->Prop} {Q:Exit->Act->World->Prop} {E:Prop} (hgd:o.guard=none) (d s:Operand) (dT sT:TypeId)
  (ho:o.op=.call { callee:=.builtin .copy,args:=#[d,s],argTypes:=#[dT,sT] }) (elem:TypeId) (hu:P.underlying dT=some (.slice elem)) (hsz:(P.info? elem).map (·.size)=some 1)
  (dp:Option Addr) (dLen dCap:Nat) (u:ByteArray) (hd:a.eval d=.slice dp dLen dCap) (hs:a.eval s=.string u) (hn:Nat.min u.size dLen=0)
  (h:K (a.put o.dst (goInt 0)) w):if Region.wanted o (yielded ops a.tmps)=true then Oper.wp P o a w K Q else E:=by
 have hw:Region.wanted o (yielded ops a.tmps)=true:=by simp[Region.wanted,hgd]
 rw[if_pos hw];have hrun:=run_copy_str0 (P:=P) w dT sT o.type elem dp dLen dCap u hu hsz hn;unfold Oper.wp;simp[execOp,ho,resolve,invoke,builtin,hd,hs,hrun,Result.andThen]
 exact h
theorem byte_size:(Tryz.prog.info? 5).map (·.size)=some 1:=by kernel_rfl
theorem loose_any (a b:ByteArray) (w:World):Calls Tryz.prog 57 #[fagg a b] w fun e w'=>e=.returned (.bool (!decide (a=b)))/\Below w.heap.size w w':=by
 have mixed:Tryz.prog.follows .mixedOrders=true:=by kernel_rfl
 unfold fagg;have hB:=Blk.new w #[.string a,.string b] 110;have hE:=ext_alloc w (.cells #[.string a,.string b] 110);have c0:=fun q:Bw (w.alloc (.cells #[.string a,.string b] 110))=>(hB.ext q.h).cell 0 (v:=.string a) rfl
 have c1:=fun q:Bw (w.alloc (.cells #[.string a,.string b] 110))=>(hB.ext q.h).cell 1 (v:=.string b) rfl
 have HS:=Lib.hid (show ∀q:Bw (w.alloc (.cells #[.string a,.string b] 110)),Calls Tryz.prog 101 #[.agg #[.string a,.string b]] q.to fun e w'=>e=.returned (.agg #[.string b,.string b])/\Below q.to.heap.size q.to w' from fun q=>fsync_any a b q.to);have hq:∀w,(binOp .neq 110 (.agg #[.string a,.string b]) (.agg #[.string b,.string b])).run Tryz.prog w=.ok (.bool (decide (a≠b))) w:=fun w=>by
  have e:=beqL a b (r:=decide (a=b)) rfl;by_cases hab:a=b
  ·subst hab
   simp[go_sem]
  ·have e':(a.toList==b.toList)=false:=by rw[e];exact decide_eq_false hab
   simp[go_sem,e',hab]
 go_enter Tryz.func57, Tryz.ntmps57
 go_wp2_with fail
 refine wp_region_quiet_below (by assumption) (by kernel_rfl) ?_
 repeat (go_big_quiet_step ((go_at_call 101;refine below_of (HS.out _))))
 refine wpQuiet_nil ?_;intro _ hw';obtain⟨q,rfl⟩:=hw';go_wp2_with fail
 go_ret
 exact⟨rfl,hE.trans (q.h.mono hE.size)⟩
def leftB (p:ByteArray×ByteArray) (cut:Int):ByteArray :=
 if preB p.2 p.1=true then p.1++(p.2.extract p.1.size p.2.size).extract 0 (min (max cut 0).toNat (p.2.size-p.1.size)) else if 0<cut then p.2 else p.1
theorem cutp_any (s p:ByteArray) (w:World):Calls Tryz.prog 140 #[.string s,.string p] w fun e w'=>e=.returned (.tuple #[.string (if preB s p=true then s.extract p.size s.size else s),.bool (preB s p)])/\w=w':=by
 have mixed:Tryz.prog.follows .mixedOrders=true:=by kernel_rfl
 have H1:∀w,Calls Tryz.prog 174 #[.string s,.string p] w fun e w'=>e=.returned (.tuple #[.string (if preB s p=true then s.extract p.size s.size else s),.bool (preB s p)])/\w=w':=by
  intro w;have HH:=Lib.hid (fun w=>hp1 s p w (b:=preB s p) rfl);rcases hb:preB s p with _|_
  ·rw[hb] at HH
   go_enter Tryz.func174, Tryz.ntmps174
   go_wp2_with (go_at_call 154;refine(HH.out _).mono ?_;rintro e1 w1 ⟨rfl,rfl⟩)
   go_ret2
   exact⟨rfl,rfl⟩
  ·rw[hb] at HH
   have hz:p.size<=s.size:=by
    have:=congrArg ByteArray.size ((preB_iff s p).1 hb);rw[ByteArray.size_extract] at this;omega
   have hz1:(p.size:Int)<=(s.size:Int):=by omega
   have hz2:(0:Int)<=(p.size:Int):=by omega
   go_enter Tryz.func174, Tryz.ntmps174
   go_wp2_with (go_at_call 154;refine(HH.out _).mono ?_;rintro e1 w1 ⟨rfl,rfl⟩)
   go_ret2
   exact⟨rfl,rfl⟩
 have H2:=Lib.hid H1;clear H1;generalize (if preB s p=true then s.extract p.size s.size else s)=T at *
 generalize preB s p=b at *
 go_enter Tryz.func140, Tryz.ntmps140
 go_wp2_with (go_at_call 174;refine(H2.out _).mono ?_;rintro e1 w1 ⟨rfl,rfl⟩)
 go_ret2
 exact⟨rfl,rfl⟩
set_option maxHeartbeats 1600000 in
set_option maxRecDepth 100000 in
theorem garb_nil (s:ByteArray) (w:World) (hz:s.size<=1000000):Calls Tryz.prog 141 #[.string s,.string ⟨#[]⟩] w fun e w'=>e=.returned (.string s)/\Below w.heap.size w w':=by
 have mixed:Tryz.prog.follows .mixedOrders=true:=by kernel_rfl
 have hcv:=run_bytes_of_string (P:=Tryz.prog) w 9 96 5 s Tryz.underlying9 Tryz.underlying96 Tryz.underlying5;have hcap:=grownCap_ge w s.size 0 5;have hw1:IntKind.i64.wrap (s.size:Int)=(s.size:Int):=by rw[IntKind.wrap_i64];omega
 have hw2:(0:Int)<=(s.size:Int):=by omega
 have hw3:IntKind.i64.wrap 0=0:=by decide
 have HX:=Lib.hid (show ∀c,(fun wx:World=>wx.heap[w.heap.size]? =some (.cells (bytesRow s c) 5 ((bytesRow s c).size,(bytesRow s c).size+1))) (w.alloc (.cells (bytesRow s c) 5 ((bytesRow s c).size,(bytesRow s c).size+1))).drew from fun c=>heap_alloc_new w _);have hb:=(ext_alloc w (.cells (bytesRow s (grownCap w s.size 0 5)) 5 ((bytesRow s (grownCap w s.size 0 5)).size,(bytesRow s (grownCap w s.size 0 5)).size+1))).drew
 go_enter Tryz.func141, Tryz.ntmps141
 go_wp2_with fail
 have HW:=Lib.hid (And.intro hb (HX.out (grownCap w s.size 0 5)));clear hb HX hcv;generalize grownCap w s.size 0 5=C at *
 generalize (w.alloc (.cells (bytesRow s C) 5 ((bytesRow s C).size,(bytesRow s C).size+1))).drew=w1 at *
 have hback:∀wx:World,wx.heap[w.heap.size]? =some (.cells (bytesRow s C) 5 ((bytesRow s C).size,(bytesRow s C).size+1))->(convert 96 9 (.slice (some ⟨w.heap.size,0,none⟩) s.size C)).run Tryz.prog wx=.ok (.string s) wx:=fun wx hx=>by
  have hl:s.data.toList.length=s.size:=rfl;rw[<-hl];have:=run_convert_bytes_back (P:=Tryz.prog) wx 96 9 5 ⟨w.heap.size,0,none⟩ C s.data.toList Tryz.underlying96 Tryz.underlying5 Tryz.underlying9 (fun j hj=>by
   rw[Addr.add_lit,Nat.zero_add,cell_of_row wx w.heap.size j _ _ _ hx,bytesRow_at s C j (by simpa using hj)];simp)
  rw[this]
 have hbk:=hback w1.drew HW.out.2;have hbk2:=hback w1 HW.out.2;have HE:=Lib.hid (show Below w.heap.size w w1.drew from HW.out.1.drew);clear hback;by_cases hC:C=s.size
 ·subst hC
  go_region_law (refine step_copy_str0 rfl (.tmp 19) (.tmp 25) 96 9 rfl 5 Tryz.underlying96 byte_size (some ⟨w.heap.size,0,none⟩) 0 0 ⟨#[]⟩ (by simp[go_sem,Act.eval]) (by simp[go_sem,Act.eval];rfl) rfl ?_)
  all_goals
   go_wp2_with fail
   go_ret
   exact⟨rfl,HE.out⟩
 ·go_region_law (refine step_copy_str0 rfl (.tmp 19) (.tmp 25) 96 9 rfl 5 Tryz.underlying96 byte_size (some ⟨w.heap.size,s.size,none⟩) 0 (C-s.size) ⟨#[]⟩ (by simp[go_sem,Act.eval,hC]) (by simp[go_sem,Act.eval];rfl) rfl ?_)
  all_goals
   go_wp2_with fail
   go_ret
   exact⟨rfl,HE.out⟩
set_option maxHeartbeats 1600000 in
set_option maxRecDepth 100000 in
theorem left_any (a b:ByteArray) (cut:Int) (w:World) (h1:a.size<=1000000) (h2:b.size<=1000000) :
  Calls Tryz.prog 102 #[fagg a b,.int .i64 cut,.string ⟨#[]⟩] w fun e w'=>e=.returned (.string (leftB (a,b) cut))/\Below w.heap.size w w':=by
 have mixed:Tryz.prog.follows .mixedOrders=true:=by kernel_rfl
 have hB:=Blk.new w #[.string a,.string b] 110;have hE:=ext_alloc w (.cells #[.string a,.string b] 110);have c0:=fun q:Bw (w.alloc (.cells #[.string a,.string b] 110))=>(hB.ext q.h).cell 0 (v:=.string a) rfl
 have HC:=Lib.hid (fun w=>cutp_any b a w);unfold fagg leftB;dsimp only;rcases hb:preB b a with _|_
 ·rw[hb] at HC
  simp only[Bool.false_eq_true,if_false] at HC ⊢;by_cases hc:0<cut
  ·have hc':cut>0:=hc
   rw[if_pos hc]
   go_enter Tryz.func102, Tryz.ntmps102
   go_wp2_with (go_at_call 140;refine(HC.out _).mono ?_;rintro e1 w1 ⟨rfl,rfl⟩)
   go_ret
   exact⟨rfl,hE⟩
  ·have hc': ¬ cut>0:=hc
   rw[if_neg hc]
   go_enter Tryz.func102, Tryz.ntmps102
   go_wp2_with (go_at_call 140;refine(HC.out _).mono ?_;rintro e1 w1 ⟨rfl,rfl⟩)
   go_ret
   exact⟨rfl,hE⟩
 ·rw[hb] at HC
  simp only[if_true] at HC ⊢;have hz:a.size<=b.size:=by
   have:=congrArg ByteArray.size ((preB_iff b a).1 hb);rw[ByteArray.size_extract] at this;omega
  obtain⟨T,hT⟩:∃T,T=b.extract a.size b.size:=⟨_,rfl⟩
  have hts:T.size=b.size-a.size:=by rw[hT,ByteArray.size_extract];omega
  rw[<-hT,<-hts];rw[<-hT] at HC;have hT9:T.size<=1000000:=by omega
  clear hT hts hb hz h2;have HG:=Lib.hid (show ∀q:Bw (w.alloc (.cells #[.string a,.string b] 110)),Calls Tryz.prog 141 #[.string (T.extract 0 (min (max cut 0).toNat T.size)),.string ⟨#[]⟩] q.to fun e w'=>e=.returned (.string (T.extract 0 (min (max cut 0).toNat T.size)))/\Below q.to.heap.size q.to w' from fun q=>garb_nil _ q.to (by rw[ByteArray.size_extract];omega));generalize hX:T.extract 0 (min (max cut 0).toNat T.size)=X at *
  have q0:(0:Int)<=min (max cut 0) (T.size:Int):=by omega
  have q1:min (max cut 0) (T.size:Int)<=(T.size:Int):=by omega
  have hsl:T.extract 0 (min (max cut 0) (T.size:Int)).toNat=X:=by
   rw[<-hX];congr 1;omega
  have hlen:a.size+X.size<=9223372036854775807:=by
   have:X.size<=T.size:=by rw[<-hX,ByteArray.size_extract];omega
   omega
  clear hX h1
  go_enter Tryz.func102, Tryz.ntmps102
  go_wp2_with (go_at_call 140;refine(HC.out _).mono ?_;rintro e1 w1 ⟨rfl,rfl⟩)
  refine wp_region_quiet_below (by assumption) (by kernel_rfl) ?_
  repeat (go_big_quiet_step ((go_at_call 141;refine below_of (HG.out _))))
  refine wpQuiet_nil ?_;intro _ hw';obtain⟨q,rfl⟩:=hw';go_wp2_with fail
  go_ret
  exact⟨rfl,hE.trans (q.h.mono hE.size)⟩
theorem fall_any (a b:ByteArray) (cut:Int) (w:World) (h1:a.size<=1000000) (h2:b.size<=1000000) :
  Calls Tryz.prog 58 #[fagg a b,.int .i64 cut,.string ⟨#[]⟩] w fun e w'=>e=.returned (fagg (leftB (a,b) cut) (leftB (a,b) cut))/\Below w.heap.size w w':=by
 have HL:=Lib.hid (fun w=>left_any a b cut w h1 h2);unfold fagg at *
 generalize leftB (a,b) cut=X at *
 have e2:=ext_second w (.cells #[.string a,.string b] 110) (.cells #[.string ⟨#[]⟩,.string ⟨#[]⟩] 110);have hB:=blk_second w (.cells #[.string a,.string b] 110) #[.string ⟨#[]⟩,.string ⟨#[]⟩] 110;have hA:=(Blk.new w #[.string a,.string b] 110).alloc (.cells #[.string ⟨#[]⟩,.string ⟨#[]⟩] 110)
 go_enter Tryz.func58, Tryz.ntmps58
 go_wp2_with (go_at_call 102;refine(HL.out _).mono ?_;rintro e1 w1 ⟨rfl,hb⟩;have hx:=hB.ext hb;have k0:=hx.cell 0 rfl;have k1:=hx.cell 1 rfl;have f0:=hx.fz 0;have f1:=hx.fz 1;have HX:=Lib.hid (And.intro hx hb);clear hx hb)
 refine bodyPost_ret (v:=.agg #[.string X,.string X]) (by exact results_cell1 rfl rfl (((HX.out.1).put 0 (.string X)).put 1 (.string X)) Tryz.underlying110 rfl file_info) (by exact rfl) ?_;refine⟨rfl,?_⟩;exact((e2.trans (HX.out.2.mono e2.size)).setCell (p:=⟨w.heap.size+1,0,none⟩) (by show w.heap.size<=w.heap.size+1;omega) _).setCell (p:=⟨w.heap.size+1,1,none⟩) (by show w.heap.size<=w.heap.size+1;omega) _
end Dk
end Go.Proofs.YtlnbjikooadmoaaGreat
namespace Go.Proofs.YtlnbjikooadmoaaGreat
namespace Dk
open Go.RowKit
set_option maxHeartbeats 1600000 in
set_option maxRecDepth 100000 in
theorem clone_any (w:World) {g:Nat} {l:List (ByteArray×Value)} (hm:Mp w g l) :
  Calls Tryz.prog 54 #[.map (some g)] w fun e w'=>e=.returned (.map (some w.heap.size))/\Mp w' w.heap.size l/\Below w.heap.size w w'/\w'.heap.size=w.heap.size+1:=by
 obtain⟨es,clock,h1,h2,h3⟩:=hm;have hq:=fun w=>run_eql_map_nil_sl (P:=Tryz.prog) w 72 _ _ (some g) Tryz.underlying72
 have hr:=run_maps_clone_sl (P:=Tryz.prog) w 72 h1;have ht:=fun w' xT=>run_typeAssert_map_sl (P:=Tryz.prog) w' 72 xT _ _ (.map (some w.heap.size)) Tryz.underlying72
 go_enter Tryz.func54, Tryz.ntmps54
 go_wp2
 rw[run_callFunc_extern Tryz.func98 (by kernel_rfl) (by kernel_rfl) (by kernel_rfl) (e:=Extern.MapsClone.clone) (by kernel_rfl),hr];simp only[Result.andThen];rw[Oper.upon_value];go_wp2
 go_ret
 exact⟨rfl,⟨es,_,heap_alloc_new w _,h2,h3⟩,ext_alloc w _,by simp⟩
def offD (D:DS):DS:={ D with off:=true,armed:=0 }
section
variable {w w':World} {S:Nat->Prop} {bd gN gS:Nat} {v:Value} {D:DS}
theorem Fit.settle (h:Fit D):Fit (settleD D) :=
 ⟨h.wfN,h.wfN,fun c hc=>(by cases hc),h.cap0,h.cap1,h.arm0,h.arm1,h.ops,h.big,fun k=>by
  show(apps (List.take k []) D.now).length<=200
  rw[List.take_nil];exact h.now_few,rfl⟩
theorem Dat.settle (h:Dat w S bd gN gS v D) {w1:World} (hm:Mp w1 w.heap.size (vs D.now)) (hb:Below w.heap.size w w1) (hs:w1.heap.size=w.heap.size+1) :
  Dat ((w1.setCell ⟨bd,1,none⟩ (.map (some w.heap.size))).setCell ⟨bd,2,none⟩ (.slice none 0 0)) (fun k=>S k∨k=w.heap.size) bd gN w.heap.size (.slice none 0 0) (settleD D):=by
 have h1:=h.ext hb;have hne:w.heap.size≠bd:=by have:=h.lt _ h.sB;omega
 have hk:∀k,k≠bd->((w1.setCell ⟨bd,1,none⟩ (.map (some w.heap.size))).setCell ⟨bd,2,none⟩ (.slice none 0 0)).heap[k]? =w1.heap[k]? :=fun k hk=>by
  rw[Below.heap_setCell _ ⟨bd,2,none⟩ _ k hk,Below.heap_setCell _ ⟨bd,1,none⟩ _ k hk]
 refine⟨(h1.box.put 1 _).put 2 _,h1.now.same (hk _ h.bN),hm.same (hk _ hne),World.ownsRow_nil _ _ _ _,fun b p hp=>(hk _ (h.bF hp).1).trans (h1.fl b p hp),?_,.inl h.sB,.inl h.sN,.inr rfl,fun g hg=>(by cases hg),fun b p hp=>.inl (h.sF b p hp),fun b hb'=>?_,h.fit.settle⟩
 ·have:=h.lt _ h.sN;omega
 ·show b<_
  rw[show((w1.setCell ⟨bd,1,none⟩ (.map (some w.heap.size))).setCell ⟨bd,2,none⟩ (.slice none 0 0)).heap.size=w1.heap.size from by simp];rcases hb' with hb'|rfl
  ·have:=h.lt b hb';omega
  ·omega
theorem gr_settle (h:S bd) {w1:World} (hb:Below w.heap.size w w1) (x y:Value) :
  Gr S w (fun k=>S k∨k=w.heap.size) ((w1.setCell ⟨bd,1,none⟩ x).setCell ⟨bd,2,none⟩ y) :=
 ((Gr.of_below hb).trans ((Gr.setCell h 1 x).trans (Gr.setCell h 2 y))).more fun k hk=>hk.imp_right (by omega)
set_option maxHeartbeats 1600000 in
theorem settle_raw (hx:Blk w bd (dcells gN gS v D) 75) {l:List (ByteArray×Value)} (hm:Mp w gN l) :
  Calls Tryz.prog 52 #[.pointer (some ⟨bd,0,none⟩)] w fun e w'=>e=.returned (.tuple #[])/\ ∃w1,Mp w1 w.heap.size l/\Below w.heap.size w w1/\w1.heap.size=w.heap.size+1/\w'=(w1.setCell ⟨bd,1,none⟩ (.map (some w.heap.size))).setCell ⟨bd,2,none⟩ (.slice none 0 0):=by
 have c0:=hx.cell 0 (v:=.map (some gN)) rfl;have HC:=Lib.hid (clone_any w hm);have HX:=Lib.hid (fun w1 (hb:Below w.heap.size w w1)=>hx.ext hb);clear hx hm
 go_enter Tryz.func52, Tryz.ntmps52
 go_wp2_with (go_at_call 54;refine HC.out.mono ?_;rintro e1 w1 ⟨rfl,hm,hb,hs⟩;have f1:=(HX.out w1 hb).fz 1;have f2:=(HX.out w1 hb).fz 2;have k1:=(HX.out w1 hb).cell 1 rfl;have k2:=(HX.out w1 hb).cell 2 rfl;have H1:=Lib.hid (And.intro hm (And.intro hb hs));clear hm hb hs)
 go_end0
 exact⟨rfl,w1,H1.out.1,H1.out.2.1,H1.out.2.2,rfl⟩
theorem settle_any (h:DiskAt w S bd D):Calls Tryz.prog 52 #[.pointer (some ⟨bd,0,none⟩)] w fun e w'=>e=.returned (.tuple #[])/\ ∃S2,DiskAt w' S2 bd (settleD D)/\Gr S w S2 w':=by
 obtain⟨gN,gS,v,h⟩:=h;refine(settle_raw h.box h.now).mono ?_;rintro e w' ⟨rfl,w1,h1,h2,h3,rfl⟩;exact⟨rfl,_,⟨gN,_,_,h.settle h1 h2 h3⟩,gr_settle h.sB h2 _ _⟩
theorem dirsync_go (h:DiskAt w S bd D) (ho:D.off=false):Calls Tryz.prog 19 #[.pointer (some ⟨bd,0,none⟩)] w fun e w'=>e=.returned (.int .i64 (opE D))/\ ∃S',DiskAt w' S' bd (opS true settleD D)/\Gr S w S' w':=by
 have HU:=Lib.hid (up_any h);have hup:upE D=0:=by unfold upE;rw[ho];rfl
 rw[hup] at HU;have HO:=Lib.hid (op_any true 52 #[.pointer (some ⟨bd,0,none⟩)] #[] settleD h (enters_of Tryz.func52 (by kernel_rfl) rfl) fun w1 h1 g1=>settle_any h1);clear h ho hup
 go_enter Tryz.func19, Tryz.ntmps19
 go_wp2_with (first
  |(go_at_call 50;refine HU.out.mono ?_;rintro e1 w1 ⟨rfl,rfl⟩)
  |(go_at_call 51;refine HO.out.mono ?_;rintro e5 w5 ⟨rfl,S5,hD5,hG5⟩;have HD5:=Lib.hid (And.intro hD5 hG5);clear hD5 hG5))
 go_ret
 exact⟨rfl,S5,HD5.out⟩
theorem Fit.offD (h:Fit D):Fit (offD D):=⟨h.wfN,h.wfS,h.wfC,h.cap0,h.cap1,Int.le_refl 0,(by show(0:Int)<=9223372036854775807;omega),h.ops,h.big,h.few,h.run⟩
theorem off_any (h:DiskAt w S bd D):Calls Tryz.prog 21 #[.pointer (some ⟨bd,0,none⟩)] w fun e w'=>e=.returned (.int .i64 0)/\DiskAt w' S bd (offD D)/\Gr S w S w':=by
 have HU:=Lib.hid (up_any h);have hup:upE D=0∨upE D=200:=by unfold upE;split<;>simp
 obtain⟨gN,gS,v,h⟩:=h;have f5:=h.fz 5;have f6:=h.fz 6;have c5:=h.c5;have c6:=h.c6;have HT:=Lib.hid (show Dat ((w.setCell ⟨bd,6,none⟩ (.bool true)).setCell ⟨bd,5,none⟩ (.int .i64 0)) S bd gN gS v (offD D) from by
  refine h.turn (by simp) (fun k _ hk=>?_) ?_ rfl rfl rfl rfl h.fit.offD
  ·rw[Below.heap_setCell _ ⟨bd,5,none⟩ _ k hk,Below.heap_setCell _ ⟨bd,6,none⟩ _ k hk]
  ·exact(h.box.put 6 _).put 5 _)
 have sB:=h.sB;have HG:=Lib.hid ((Gr.setCell (w:=w) sB 6 (.bool true)).trans (Gr.setCell sB 5 (.int .i64 0)));clear h;rcases hup with hup|hup
 all_goals
  rw[hup] at HU;clear hup
  go_enter Tryz.func21, Tryz.ntmps21
  go_wp2_with (go_at_call 50;refine HU.out.mono ?_;rintro e1 w1 ⟨rfl,rfl⟩)
  go_ret
  exact⟨rfl,⟨gN,gS,v,HT.out⟩,HG.out⟩
end
end Dk
end Go.Proofs.YtlnbjikooadmoaaGreat
namespace Go.Proofs
open Go.Shelf
def Tryz.keys100_ren:Go.Shelf.Ren:=⟨fun|7=>100|10=>139|n=>n,fun|23=>72|26=>9|3=>103|28=>163|0=>0|27=>162|33=>208|4=>4|n=>n,fun|n=>n⟩
theorem Tryz.keys100:Go.Proofs.SlLaysZ.n7 Tryz.prog Tryz.keys100_ren:={
 mixed:=by kernel_rfl
 f7:=⟨Tryz.f100.name,by decide,Tryz.func100.trans (congrArg some (by kernel_rfl))⟩
 f10:=⟨Tryz.f139.name,by decide,Tryz.func139.trans (congrArg some (by kernel_rfl))⟩
 t0:=Tryz.underlying0
 a0:=Tryz.isAgg0
 z0:=Tryz.sizeOf0
 v0:=Tryz.zeroValue0
 t4:=Tryz.underlying4
 a4:=Tryz.isAgg4
 z4:=Tryz.sizeOf4
 v4:=Tryz.zeroValue4
 t23:=Tryz.underlying72
 a23:=Tryz.isAgg72
 z23:=Tryz.sizeOf72
 v23:=Tryz.zeroValue72
 t26:=Tryz.underlying9
 a26:=Tryz.isAgg9
 z26:=Tryz.sizeOf9
 v26:=Tryz.zeroValue9
 t27:=Tryz.underlying162
 a27:=Tryz.isAgg162
 z27:=Tryz.sizeOf162
 v27:=Tryz.zeroValue162
 t28:=Tryz.underlying163
 a28:=Tryz.isAgg163
 z28:=Tryz.sizeOf163
 v28:=Tryz.zeroValue163
 t33:=Tryz.underlying208
 a33:=Tryz.isAgg208
 z33:=Tryz.sizeOf208
 v33:=Tryz.zeroValue208 }
def Tryz.sorted99_ren:Go.Shelf.Ren:=⟨fun|6=>99|8=>137|9=>138|11=>171|13=>173|12=>172|23=>202|24=>203|14=>193|15=>194|16=>195|17=>196|18=>197|19=>198|20=>199|21=>200|22=>201|25=>217|26=>218|27=>219|28=>220|29=>221|30=>222|31=>239|n=>n,fun|26=>9|28=>163|24=>49|0=>0|3=>3|37=>187|48=>150|50=>202|4=>4|40=>276|39=>275|45=>142|5=>5|9=>9|51=>292|55=>296|57=>310|58=>311|33=>208|n=>n,fun|n=>n⟩
theorem Tryz.sorted99:Go.Proofs.SlLaysZ.n6 Tryz.prog Tryz.sorted99_ren:={
 mixed:=by kernel_rfl
 f6:=⟨Tryz.f99.name,by decide,Tryz.func99.trans (congrArg some (by kernel_rfl))⟩
 f8:=⟨Tryz.f137.name,by decide,Tryz.func137.trans (congrArg some (by kernel_rfl))⟩
 f11:=⟨Tryz.f171.name,by decide,Tryz.func171.trans (congrArg some (by kernel_rfl))⟩
 t0:=Tryz.underlying0
 a0:=Tryz.isAgg0
 z0:=Tryz.sizeOf0
 v0:=Tryz.zeroValue0
 t24:=Tryz.underlying49
 a24:=Tryz.isAgg49
 z24:=Tryz.sizeOf49
 v24:=Tryz.zeroValue49
 t26:=Tryz.underlying9
 a26:=Tryz.isAgg9
 z26:=Tryz.sizeOf9
 v26:=Tryz.zeroValue9
 t28:=Tryz.underlying163
 a28:=Tryz.isAgg163
 z28:=Tryz.sizeOf163
 v28:=Tryz.zeroValue163
 i26:=by kernel_rfl }
def Tryz.sort138_ren:Go.Shelf.Ren:=⟨fun|6=>138|8=>173|9=>172|19=>202|20=>203|21=>193|22=>194|23=>195|24=>196|25=>197|26=>198|27=>199|28=>200|29=>201|36=>217|31=>218|32=>219|37=>220|38=>221|39=>222|41=>239|n=>n,fun|27=>49|29=>9|3=>3|32=>187|26=>49|0=>0|44=>150|46=>202|4=>4|36=>276|35=>275|41=>142|5=>5|9=>9|53=>292|57=>296|63=>310|64=>311|n=>n,fun|n=>n⟩
theorem Tryz.sort138:Go.Proofs.SlLaysM.n6 Tryz.prog Tryz.sort138_ren:={
 mixed:=by kernel_rfl
 f6:=⟨Tryz.f138.name,by decide,Tryz.func138.trans (congrArg some (by kernel_rfl))⟩
 f8:=Tryz.func173.trans (congrArg some (by kernel_rfl))
 f9:=⟨Tryz.f172.name,by decide,Tryz.func172.trans (congrArg some (by kernel_rfl))⟩
 f19:=Tryz.func202.trans (congrArg some (by kernel_rfl))
 f20:=Tryz.func203.trans (congrArg some (by kernel_rfl))
 f21:=⟨Tryz.f193.name,by decide,Tryz.func193.trans (congrArg some (by kernel_rfl))⟩
 f22:=⟨Tryz.f194.name,by decide,Tryz.func194.trans (congrArg some (by kernel_rfl))⟩
 f23:=⟨Tryz.f195.name,by decide,Tryz.func195.trans (congrArg some (by kernel_rfl))⟩
 f24:=⟨Tryz.f196.name,by decide,Tryz.func196.trans (congrArg some (by kernel_rfl))⟩
 f25:=⟨Tryz.f197.name,by decide,Tryz.func197.trans (congrArg some (by kernel_rfl))⟩
 f26:=⟨Tryz.f198.name,by decide,Tryz.func198.trans (congrArg some (by kernel_rfl))⟩
 f27:=⟨Tryz.f199.name,by decide,Tryz.func199.trans (congrArg some (by kernel_rfl))⟩
 f28:=⟨Tryz.f200.name,by decide,Tryz.func200.trans (congrArg some (by kernel_rfl))⟩
 f29:=⟨Tryz.f201.name,by decide,Tryz.func201.trans (congrArg some (by kernel_rfl))⟩
 f31:=Tryz.func218.trans (congrArg some (by kernel_rfl))
 f32:=Tryz.func219.trans (congrArg some (by kernel_rfl))
 f36:=⟨Tryz.f217.name,by decide,Tryz.func217.trans (congrArg some (by kernel_rfl))⟩
 f37:=⟨Tryz.f220.name,by decide,Tryz.func220.trans (congrArg some (by kernel_rfl))⟩
 f38:=⟨Tryz.f221.name,by decide,Tryz.func221.trans (congrArg some (by kernel_rfl))⟩
 f39:=⟨Tryz.f222.name,by decide,Tryz.func222.trans (congrArg some (by kernel_rfl))⟩
 f41:=⟨Tryz.f239.name,by decide,Tryz.func239.trans (congrArg some (by kernel_rfl))⟩
 t0:=Tryz.underlying0
 a0:=Tryz.isAgg0
 z0:=Tryz.sizeOf0
 v0:=Tryz.zeroValue0
 t3:=Tryz.underlying3
 a3:=Tryz.isAgg3
 z3:=Tryz.sizeOf3
 v3:=Tryz.zeroValue3
 t4:=Tryz.underlying4
 a4:=Tryz.isAgg4
 z4:=Tryz.sizeOf4
 v4:=Tryz.zeroValue4
 t5:=Tryz.underlying5
 a5:=Tryz.isAgg5
 z5:=Tryz.sizeOf5
 v5:=Tryz.zeroValue5
 t9:=Tryz.underlying9
 a9:=Tryz.isAgg9
 z9:=Tryz.sizeOf9
 v9:=Tryz.zeroValue9
 t26:=Tryz.underlying49
 a26:=Tryz.isAgg49
 z26:=Tryz.sizeOf49
 v26:=Tryz.zeroValue49
 t27:=Tryz.underlying49
 a27:=Tryz.isAgg49
 z27:=Tryz.sizeOf49
 v27:=Tryz.zeroValue49
 t29:=Tryz.underlying9
 a29:=Tryz.isAgg9
 z29:=Tryz.sizeOf9
 v29:=Tryz.zeroValue9
 t32:=Tryz.underlying187
 a32:=Tryz.isAgg187
 z32:=Tryz.sizeOf187
 v32:=Tryz.zeroValue187
 t35:=Tryz.underlying275
 a35:=Tryz.isAgg275
 z35:=Tryz.sizeOf275
 v35:=Tryz.zeroValue275
 t36:=Tryz.underlying276
 a36:=Tryz.isAgg276
 z36:=Tryz.sizeOf276
 v36:=Tryz.zeroValue276
 t41:=Tryz.underlying142
 a41:=Tryz.isAgg142
 z41:=Tryz.sizeOf142
 v41:=Tryz.zeroValue142
 t44:=Tryz.underlying150
 a44:=Tryz.isAgg150
 z44:=Tryz.sizeOf150
 v44:=Tryz.zeroValue150
 t46:=Tryz.underlying202
 a46:=Tryz.isAgg202
 z46:=Tryz.sizeOf202
 v46:=Tryz.zeroValue202
 t53:=Tryz.underlying292
 a53:=Tryz.isAgg292
 z53:=Tryz.sizeOf292
 v53:=Tryz.zeroValue292
 t57:=Tryz.underlying296
 a57:=Tryz.isAgg296
 z57:=Tryz.sizeOf296
 v57:=Tryz.zeroValue296
 t63:=Tryz.underlying310
 a63:=Tryz.isAgg310
 z63:=Tryz.sizeOf310
 v63:=Tryz.zeroValue310
 t64:=Tryz.underlying311
 a64:=Tryz.isAgg311
 z64:=Tryz.sizeOf311
 v64:=Tryz.zeroValue311 }
open Go.RowKit Go.Maps Go.Sort Go.Shelf in
theorem Tryz.sorts99 (m:Nat):AnyZ.SortsIn Tryz.prog Tryz.sorted99_ren Fence.wide m :=
 ⟨fun blk off cap ss W hH hblk hsz=>callsIn_wide.2 (AnyM.slices_Sort_string Tryz.sort138 blk off cap ss W hH hblk hsz),
  fun p cap W=>callsIn_wide.2 (AnyM.slices_Sort_string_none Tryz.sort138 p cap W)⟩
open Go.RowKit Go.Maps Go.Sort Go.Shelf in
theorem Tryz.maps_Keys_100 (mb:Option Nat) (W:World):CallsIn Fence.wide 5 Tryz.prog 100 #[.map mb] W fun e w'=>e=.returned (.func (.func 139) #[] #[.pointer (some ⟨W.heap.size,0,none⟩)])/\w'=W.alloc (.cells #[.map mb] 72) :=
 AnyZ.keys_in Tryz.keys100 Fence.wide 5 trivial rfl mb W
set_option maxHeartbeats 1000000 in
open Go.RowKit Go.Maps Go.Sort Go.Shelf in
theorem Tryz.slices_Sorted_keys_99_100 {H:Type} (b nn:Nat) (D0:DataW H) (R:Value->Option (DataW H×List MemPlace)) (w:World) (hown:w.ownsMap Tryz.prog 9 R b nn D0) (hmax:Maps.size D0<=maxLen) (hbytes:Maps.size D0*16<=140737488355328) :
  CallsIn Fence.wide 5 Tryz.prog 99 #[.func (.func 139) #[] #[.pointer (some ⟨w.heap.size,0,none⟩)]] (w.alloc (.cells #[.map (some b)] 72)) fun e w'=>∃(v:Value) (ss:List (List UInt8)),e=.returned v/\ss.Perm (strKeys D0) /\
   w'.ownsRow (w.alloc (.cells #[.map (some b)] 72)).heap.size 9 1 v ss.length ((ss.mergeSort (fun x y=>decide (x<=y))).map encStr)/\(v=.slice none 0 0↔ss=[])/\Below (w.alloc (.cells #[.map (some b)] 72)).heap.size (w.alloc (.cells #[.map (some b)] 72)) w':=by
 have hbl:=hown.lt;have hseq:SeqGives Fence.wide 2 Tryz.prog 139 #[.pointer (some ⟨w.heap.size,0,none⟩)] encStr (fun ss=>ss.Perm (strKeys D0)) (Maps.size D0) (w.alloc (.cells #[.map (some b)] 72)) :=
  AnyZ.keys_gives (ρ:=Tryz.keys100_ren) { Tryz.keys100 with } Fence.wide _ trivial rfl (by omega) w.heap.size b nn D0 _ (by simp) (by simp) (by
   obtain⟨es,clock,hb,Ft,hs,hD⟩:=hown;exact⟨es,clock,(Below.heap_alloc _ _ b hbl).trans hb,Ft,hs,hD⟩)
 exact AnyZ.sorted_in Tryz.sorted99 Fence.wide 5 trivial trivial trivial trivial rfl (by omega) (Tryz.sorts99 _) (enters_of Tryz.func138 (by kernel_rfl) rfl) 139 #[.pointer (some ⟨w.heap.size,0,none⟩)] trivial (enters_of Tryz.func139 (by kernel_rfl) rfl) _ _ hmax hbytes _ hseq
set_option maxHeartbeats 1000000 in
open Go.RowKit Go.Maps Go.Sort Go.Shelf in
theorem Tryz.slices_Sorted_keys_nil_99_100 (w:World) :
  CallsIn Fence.wide 5 Tryz.prog 99 #[.func (.func 139) #[] #[.pointer (some ⟨w.heap.size,0,none⟩)]] (w.alloc (.cells #[.map none] 72)) fun e w'=>∃(v:Value) (ss:List (List UInt8)),e=.returned v/\ss=[] /\
   w'.ownsRow (w.alloc (.cells #[.map none] 72)).heap.size 9 1 v ss.length ((ss.mergeSort (fun x y=>decide (x<=y))).map encStr)/\(v=.slice none 0 0↔ss=[])/\Below (w.alloc (.cells #[.map none] 72)).heap.size (w.alloc (.cells #[.map none] 72)) w':=by
 have hseq:SeqGives Fence.wide 2 Tryz.prog 139 #[.pointer (some ⟨w.heap.size,0,none⟩)] encStr (fun ss:List (List UInt8)=>ss=[]) 0 (w.alloc (.cells #[.map none] 72)) :=
  AnyZ.keys_gives_nil (ρ:=Tryz.keys100_ren) { Tryz.keys100 with } Fence.wide _ trivial rfl w.heap.size _ (by simp) (by simp)
 exact AnyZ.sorted_in Tryz.sorted99 Fence.wide 5 trivial trivial trivial trivial rfl (by omega) (Tryz.sorts99 _) (enters_of Tryz.func138 (by kernel_rfl) rfl) 139 #[.pointer (some ⟨w.heap.size,0,none⟩)] trivial (enters_of Tryz.func139 (by kernel_rfl) rfl) _ 0 (Nat.zero_le _) (by omega) _ hseq
end Go.Proofs
namespace Go.Proofs.YtlnbjikooadmoaaGreat
namespace Dk
open Go.RowKit Go.Maps Go.ChangeMaps Go.MapKept Go.WideMaps Go.WideShapes
open Go.WideElems (rg rd_mk rg_of)
def rdP (_:Value):Option (DataW Unit×List MemPlace):=some (.nil,[])
set_option maxRecDepth 100000 in
theorem mp_owns {w:World} {g:Nat} {l:List (ByteArray×Value)} (hm:Mp w g l) (hl:l.length<=1000) (hk:∀x∈l,x.1.size<=maxLen) :
  ∃D0:DataW Unit,w.ownsMap Tryz.prog 9 rdP g 1000 D0/\(strKeys D0).Perm (l.map fun x=>x.1.data.toList)/\size D0=l.length:=by
 obtain⟨es,clock,h1,h2,h3⟩:=hm;have hlen:es.size=l.length:=by
  have:=congrArg List.length h3;simpa using this
 have hr:∀x∈es.toList,∃s:ByteArray,x.key=.string s/\s.size<=maxLen/\rg Tryz.prog 9 rdP x=(.string s.data.toList,.nil)/\ ∃y,WideElems.rd Tryz.prog 9 rdP x=some y:=by
  intro x hx;obtain⟨j,hj,rfl⟩:=List.getElem_of_mem hx;have hkj:=keys_at h3 j;rw[List.getElem?_eq_getElem hj] at hkj;rcases hlj:l[j]? with _|y
  ·rw[hlj] at hkj;cases hkj
  ·rw[hlj] at hkj
   simp only[Option.map_some,Option.some.injEq,Prod.mk.injEq] at hkj;have hy:=hk y (List.mem_of_getElem? hlj);have e0:=keyOf_string_mk (P:=Tryz.prog) (k:=9) Tryz.underlying9 hy;have e1:rdP es.toList[j].val=some (.nil,[]):=rfl;have e:=rd_mk (born:=es.toList[j].born) e0 e1;rw[<-hkj.1] at e;exact⟨y.1,hkj.1,hy,rg_of e,_,e⟩
 refine⟨.map ((es.toList.map (rg Tryz.prog 9 rdP)).foldr DataW.insert []),⟨es,clock,h1,⟨by rw[hlen];unfold maxLen;omega,h2,fun x hx=>(hr x hx).choose_spec.2.2.2⟩,by omega,rfl⟩,?_,?_⟩
 ·have hp:=(sorted_perm (es.toList.map (rg Tryz.prog 9 rdP))).map fun p=>strOf p.1
  refine hp.trans (List.Perm.of_eq ?_);refine List.ext_getElem? fun j=>?_
  rw[List.getElem?_map,List.getElem?_map,List.getElem?_map];have hkj:=keys_at h3 j;rcases hej:es.toList[j]? with _|x
  ·rw[hej] at hkj
   rcases hlj:l[j]? with _|y
   ·rfl
   ·rw[hlj] at hkj;cases hkj
  ·obtain⟨s,e1,-,e2,-⟩:=hr x (List.mem_of_getElem? hej)
   rw[hej] at hkj;rcases hlj:l[j]? with _|y
   ·rw[hlj] at hkj;cases hkj
   ·rw[hlj] at hkj
    simp only[Option.map_some,Option.some.injEq,Prod.mk.injEq] at hkj;rw[e1] at hkj;have e3:s=y.1:=by injection hkj.1
    simp only[Option.map_some,e2];rw[e3];rfl
 ·rw[size_eq,(sorted_perm _).length_eq,List.length_map,Array.length_toList,hlen]
def srt (l:List (ByteArray×Nat)):List ByteArray:=((l.map fun x=>x.1.data.toList).mergeSort fun x y=>decide (x<=y)).map fun b=>⟨b.toArray⟩
theorem srt_len (l:List (ByteArray×Nat)):(srt l).length=l.length:=by unfold srt;rw[List.length_map,(List.mergeSort_perm _ _).length_eq,List.length_map]
theorem srt_one (s:ByteArray) (b:Nat):srt [(s,b)]=[s]:=by
 unfold srt;rw[List.map_cons,List.map_nil,List.mergeSort_singleton];rfl
set_option maxHeartbeats 1600000 in
theorem names_any (w:World) {g:Nat} {l:List (ByteArray×Nat)} (hm:Mp w g (vs l)) (hl:l.length<=1000) (hk:∀x∈l,x.1.size<=maxLen) :
  Calls Tryz.prog 56 #[.map (some g)] w fun e w'=>∃v,e=.returned v/\w'.ownsRow w.heap.size 9 1 v (srt l).length ((srt l).map Value.string)/\Below w.heap.size w w':=by
 obtain⟨D0,hown,hp,hz⟩:=mp_owns hm (by unfold vs;rw[List.length_map];exact hl) (by intro x hx;unfold vs at hx;obtain⟨y,hy,rfl⟩:=List.mem_map.1 hx;exact hk y hy);have hz':size D0<=1000:=by rw[hz];unfold vs;rw[List.length_map];exact hl
 have hpl:∀ss:List (List UInt8),ss.Perm (strKeys D0)->(ss.mergeSort (fun x y=>decide (x<=y))).map encStr=(srt l).map Value.string/\ss.length=(srt l).length:=by
  intro ss h;have e:(vs l).map (fun x=>x.1.data.toList)=l.map fun x=>x.1.data.toList:=by unfold vs;rw[List.map_map];rfl
  have h2:=(h.trans hp).trans (List.Perm.of_eq e);refine⟨?_,by rw[srt_len,h2.length_eq,List.length_map]⟩;rw[mergeSort_of_perm h2];unfold srt;rw[List.map_map];rfl
 refine(callsIn_wide (n:=6)).1 ?_;have hfK:Fence.wide.fn 100:=trivial;have hfS:Fence.wide.fn 99:=trivial;refine callsIn_of_wp Tryz.func56 rfl trivial ?_ rfl;simp only[Tryz.ntmps56,Tryz.f56]
 gi_wp2_with (first
  |(gi_at_call 100;refine(Tryz.maps_Keys_100 _ _).mono ?_;rintro e w' ⟨rfl,rfl⟩)
  |(gi_at_call 99;refine(Tryz.slices_Sorted_keys_99_100 g 1000 D0 rdP w hown (by unfold maxLen;omega) (by omega)).mono ?_;rintro e w' ⟨v,ss,rfl,hS,hrow,hnil,hb⟩))
 go_ret
 rw[(hpl ss hS).1,(hpl ss hS).2] at hrow;exact⟨v,rfl,own_lower hrow (by simp),(ext_alloc w _).trans (hb.mono (by simp))⟩
end Dk
end Go.Proofs.YtlnbjikooadmoaaGreat
namespace Go.Proofs.YtlnbjikooadmoaaGreat
namespace Dk
open Go.RowKit Sn
def nthI (l:List Int) (k:Nat):Int:=(l[k]?).getD 0
theorem nth_int {A:Option Addr} {n c:Nat} {l:List Int} {w:World} (h:Rd w w.heap.size 1 A n (l.map (Value.int .i64))) (k:Nat) (hk:k<=1000000) (hn:n<=1000000) :
  Calls Tryz.prog 59 #[.slice A n c,.int .i64 (k:Int)] w fun e w'=>e=.returned (.int .i64 (nthI l k))/\w=w':=by
 have hln:l.length=n:=by simpa using h.len
 by_cases hkn:k<n
 ·obtain⟨ad,x,rfl,hb,hx,hc⟩:=h.int1 hkn
  have hv:nthI l k=x:=by unfold nthI;rw[hx];rfl
  rw[hv];have h1: ¬ (k:Int)>=(n:Int):=by omega
  have h2:(k:Int)<(n:Int):=by omega
  have h3:(0:Int)<=(k:Int):=by omega
  clear h hln hv hx
  go_enter Tryz.func59, Tryz.ntmps59
  go_wp2_with fail
  go_ret
  exact⟨rfl,rfl⟩
 ·have hv:nthI l k=0:=by unfold nthI;rw[List.getElem?_eq_none (by omega)];rfl
  rw[hv];have h1:(k:Int)>=(n:Int):=by omega
  clear h hln hv
  go_enter Tryz.func59, Tryz.ntmps59
  go_wp2_with fail
  go_ret
  exact⟨rfl,rfl⟩
theorem nth_str (k:Nat) (w:World) (hk:k<=1000000):Calls Tryz.prog 60 #[.slice none 0 0,.int .i64 (k:Int)] w fun e w'=>e=.returned (.string ⟨#[]⟩)/\w=w':=by
 have h1:(k:Int)>=0:=by omega
 go_enter Tryz.func60, Tryz.ntmps60
 go_wp2_with fail
 go_ret
 exact⟨rfl,rfl⟩
def fstep (cuts:List Int) (st:Nat×List (ByteArray×Nat)×(Nat->Option (ByteArray×ByteArray))) (x:ByteArray×Nat):Nat×List (ByteArray×Nat)×(Nat->Option (ByteArray×ByteArray)) :=
 match (lk x.1 st.2.1).bind st.2.2 with
 |none=>st
 |some p=>if p.1=p.2 then st else(st.1+1,pt x.1 x.2 st.2.1,fun j=>if j=x.2 then some (leftB p (nthI cuts st.1),leftB p (nthI cuts st.1)) else st.2.2 j)
theorem leftB_size {p:ByteArray×ByteArray} (cut:Int) (h1:p.1.size<=1000000) (h2:p.2.size<=1000000):(leftB p cut).size<=1000000:=by
 unfold leftB;split
 ·rename_i h
  have:=congrArg ByteArray.size ((preB_iff p.2 p.1).1 h);rw[ByteArray.size_extract] at this;rw[ByteArray.size_append,ByteArray.size_extract,ByteArray.size_extract];omega
 ·split
  ·exact h2
  ·exact h1
theorem pt_keys (s:ByteArray) (b:Nat):∀{l:List (ByteArray×Nat)},lk s l≠none->(pt s b l).map (·.1)=l.map (·.1)
 | [],h=>absurd rfl h
 |x::l,h=>by
  rw[lk_cons] at h;rw[pt];by_cases hx:x.1=s
  ·rw[if_pos hx,List.map_cons,List.map_cons,hx]
  ·rw[if_neg hx] at h
   rw[if_neg hx,List.map_cons,List.map_cons,pt_keys s b h]
theorem lk_key (s:ByteArray):∀{l:List (ByteArray×Nat)},s∈l.map (·.1)->lk s l≠none
 | [],h=>by simp at h
 |x::l,h=>by
  rw[lk_cons];split
  ·simp
  ·rename_i hx
   rw[List.map_cons,List.mem_cons] at h;exact lk_key s (h.resolve_left fun e=>hx e.symm)
structure Fw (keys:List ByteArray) (st:Nat×List (ByteArray×Nat)×(Nat->Option (ByteArray×ByteArray))):Prop where
 wf:∀x∈st.2.1,st.2.2 x.2≠none
 big:∀b p,st.2.2 b=some p->p.1.size<=1000000/\p.2.size<=1000000
 keys:st.2.1.map (·.1)=keys
theorem Fw.step {keys:List ByteArray} {st:Nat×List (ByteArray×Nat)×(Nat->Option (ByteArray×ByteArray))} (h:Fw keys st) (cuts:List Int) (x:ByteArray×Nat) (hx:st.2.2 x.2=none):Fw keys (fstep cuts st x):=by
 unfold fstep;split
 ·exact h
 ·rename_i p hp
  split
  ·exact h
  ·obtain⟨b,hb,hp⟩:=Option.bind_eq_some_iff.1 hp
   have hg:=h.big b p hp;refine⟨fun y hy=>?_,fun b' p' hp'=>?_,?_⟩
   ·dsimp only at hy ⊢
    split
    ·simp
    ·rename_i hne
     rcases pt_mem hy with rfl|hy
     ·exact absurd rfl hne
     ·exact h.wf y hy
   ·dsimp only at hp'
    split at hp'
    ·cases hp'
     have:=leftB_size (nthI cuts st.1) hg.1 hg.2;exact⟨this,this⟩
    ·exact h.big b' p' hp'
   ·exact(pt_keys _ _ (by rw[hb];simp)).trans h.keys
def Fx (cuts:List Int):List (ByteArray×Nat)->Nat×List (ByteArray×Nat)×(Nat->Option (ByteArray×ByteArray))->Nat×List (ByteArray×Nat)×(Nat->Option (ByteArray×ByteArray))->Prop
 | [],s,t=>t=s
 |x::l,s,t=>s.2.2 x.2=none/\Fx cuts l (fstep cuts s x) t
theorem Fx.snoc {cuts:List Int} {x:ByteArray×Nat}:∀{l s t},Fx cuts l s t->t.2.2 x.2=none->Fx cuts (l++[x]) s (fstep cuts t x)
 | [],s,t,h,hx=>by
   obtain rfl:t=s:=h;exact⟨hx,rfl⟩
 |y::l,s,t,h,hx=>⟨h.1,Fx.snoc h.2 hx⟩
theorem run_lookupS0 {P:Program} {w:World} {g:Nat} {l:List (ByteArray×Value)} {t k e:TypeId} (ht:P.underlying t=some (.map k e)) (hk:P.underlying k=some .string) {z:Value} (hz:(P.info? e).map (·.zero)=some (some z)) (h:Mp w g l) (s:ByteArray) :
  (Instr.lookup t (.map (some g)) (.string s) false).run P w=.ok ((find1 s l).getD z) w:=by
 obtain⟨es,clock,h1,h2,h3⟩:=h;rcases find_spec h2 h3 s with ⟨f1,f2,f3⟩|⟨j,x,f1,f2,f3,f4⟩
 ·have hf:=(find_none l s f3).1
  have hzr:(zeroValue e).run P w=.ok z w:=by
   unfold zeroValue typeInfo;rcases hi:P.info? e with _|i
   ·rw[hi] at hz;cases hz
   ·rw[hi] at hz
    simp only[Option.map_some,Option.some.injEq] at hz;simp[hi,hz]
  simp[Instr.lookup,run_underlying ht,MapKept.run_getObj_map h1,MapKept.run_checkKey hk (k:=.string s) trivial,MapKept.run_findKey hk f1,Result.andThen,hf,hzr]
 ·have hf:=(find_at l j s x.val (nodup_keys h2 h3) f4).1
  simp[Instr.lookup,run_underlying ht,MapKept.run_getObj_map h1,MapKept.run_checkKey hk (k:=.string s) trivial,MapKept.run_findKey hk f1,Result.andThen,hf]
theorem wpList_lookupS0 {P:Program} {ops:Array Oper} {rest:List Oper} {op:Oper} {a:Act} {w:World} {Q:Exit->Act->World->Prop} {g:Nat} {l:List (ByteArray×Value)} {t k e:TypeId} (ht:P.underlying t=some (.map k e)) (hk:P.underlying k=some .string) {z:Value} (hz:(P.info? e).map (·.zero)=some (some z)) (h:Mp w g l) (s:ByteArray) (x y:Operand)
  (hh:wpList P ops Q rest (a.put op.dst ((find1 s l).getD z)) w)
  (hgd:op.guard=none:=by exact rfl) (ho:op.op=.lookup t x y false:=by exact rfl) (hx:a.eval x=.map (some g):=by exact rfl) (hy:a.eval y=.string s:=by exact rfl):wpList P ops Q (op::rest) a w:=by
 refine wpList_plain hgd fun _ hK=>?_
 unfold Oper.wp execOp;simp only[ho,hx,hy,Sem.run_bind,Result.andThen_ok,run_lookupS0 ht hk hz h s];exact hK _ _ hh
structure Bt (wn:World) (gL:Nat) (cuts:List Int) (s0:Nat×List (ByteArray×Nat)×(Nat->Option (ByteArray×ByteArray))) (names:List ByteArray) (j k:Nat) (wx:World):Prop where
 ex:∃(pairs:List (ByteArray×Nat)) (T:Nat->Prop) (L:List (ByteArray×Nat)) (fl:Nat->Option (ByteArray×ByteArray)),pairs.map (·.1)=names.take j/\Fx cuts pairs s0 (k,L,fl)/\Mp wx gL (vs L)/\Gr (fun x=>x=gL) wn T wx/\T gL/\(∀b p,fl b=some p->Blk wx b #[.string p.1,.string p.2] 110)/\(∀b p,fl b=some p->s0.2.2 b=some p∨T b)/\Fw (s0.2.1.map (·.1)) (k,L,fl)/\ ∀b,T b->b<wx.heap.size
 le:k<=j
theorem take_succ {α:Type} {l:List α} {j:Nat} {x:α} (h:l[j]? =some x):l.take (j+1)=l.take j++[x]:=by
 rw[List.take_add_one,h];rfl
section
variable {wn wr wz wy:World} {gL:Nat} {cuts:List Int} {s0:Nat×List (ByteArray×Nat)×(Nat->Option (ByteArray×ByteArray))} {NS:List ByteArray} {j k b:Nat} {s:ByteArray} {pairs:List (ByteArray×Nat)} {T:Nat->Prop} {L:List (ByteArray×Nat)} {fl:Nat->Option (ByteArray×ByteArray)}
theorem bt_none (q6:∀b p,fl b=some p->Blk wr b #[.string p.1,.string p.2] 110) {g:Nat} (hg:wr.heap.size<=g):fl g=none:=by
 rcases h:fl g with _|p
 ·rfl
 ·exact absurd (q6 g p h).lt (by omega)
theorem bt_keep (q1:pairs.map (·.1)=NS.take j) (q2:Fx cuts pairs s0 (k,L,fl)) (q3:Mp wr gL (vs L)) (q4:Gr (fun x=>x=gL) wn T wr) (q5:T gL) (q6:∀b p,fl b=some p->Blk wr b #[.string p.1,.string p.2] 110)
  (q7:∀b p,fl b=some p->s0.2.2 b=some p∨T b) (q8:Fw (s0.2.1.map (·.1)) (k,L,fl)) (q10:∀b,T b->b<wr.heap.size) (q9:k<=j) (hs:NS[j]? =some s) (hb:lk s L=some b) {a:ByteArray} (hp:fl b=some (a,a)) (hy:Below wr.heap.size wr wy):Bt wn gL cuts s0 NS (j+1) k wy:=by
 have hst:fstep cuts (k,L,fl) (s,wr.heap.size)=(k,L,fl):=by
  unfold fstep;dsimp only;rw[hb];simp[hp]
 refine⟨⟨pairs++[(s,wr.heap.size)],T,L,fl,?_,?_,q3.same (hy.block _ q3.lt),q4.trans (Gr.of_below hy),q5,fun b p h=>(q6 b p h).ext hy,q7,q8,fun b h=>Nat.lt_of_lt_of_le (q10 b h) hy.size⟩,by omega⟩
 ·rw[List.map_append,q1,take_succ hs];rfl
 ·have:=Fx.snoc (x:=(s,wr.heap.size)) q2 (bt_none q6 (Nat.le_refl _))
  rwa [hst] at this
theorem bt_fall (q1:pairs.map (·.1)=NS.take j) (q2:Fx cuts pairs s0 (k,L,fl)) (q3:Mp wr gL (vs L)) (q4:Gr (fun x=>x=gL) wn T wr) (q5:T gL) (q6:∀b p,fl b=some p->Blk wr b #[.string p.1,.string p.2] 110)
  (q7:∀b p,fl b=some p->s0.2.2 b=some p∨T b) (q8:Fw (s0.2.1.map (·.1)) (k,L,fl)) (q10:∀b,T b->b<wr.heap.size) (q9:k<=j) (hs:NS[j]? =some s) (hb:lk s L=some b) {a a':ByteArray} (hp:fl b=some (a,a')) (hne:a≠a') {G:Nat} (hG:wr.heap.size<=G)
  (hz:Below wr.heap.size wr wz) (hg:Blk wz G #[.string (leftB (a,a') (nthI cuts k)),.string (leftB (a,a') (nthI cuts k))] 110) (hm:Mp wy gL (put1 s (ptr G) (vs L))) (hy:wz.grownBy wy (some gL)):Bt wn gL cuts s0 NS (j+1) (k+1) wy:=by
 have hst:fstep cuts (k,L,fl) (s,G)=(k+1,pt s G L,fun i=>if i=G then some (leftB (a,a') (nthI cuts k),leftB (a,a') (nthI cuts k)) else fl i):=by
  unfold fstep;dsimp only;rw[hb];simp[hp,hne]
 have hno:=bt_none q6 hG;have hlt:gL<wr.heap.size:=q3.lt;have g1:Gr (fun x=>x=gL) wn (fun i=>T i∨i=G) wy:=by
  refine q4.trans (((Gr.of_below hz).trans (Gr.of_grown hy fun i hi=>by cases hi;exact q5)).more fun i hi=>hi.imp_right (by omega))
 have hfs:=q8.step cuts (s,G) hno;rw[hst] at hfs;refine⟨⟨pairs++[(s,G)],fun i=>T i∨i=G,pt s G L,fun i=>if i=G then some (leftB (a,a') (nthI cuts k),leftB (a,a') (nthI cuts k)) else fl i,?_,?_,?_,g1,.inl q5,?_,?_,hfs,fun b h=>?_⟩,by omega⟩
 ·rw[List.map_append,q1,take_succ hs];rfl
 ·have:=Fx.snoc (x:=(s,G)) q2 hno
  rwa [hst] at this
 ·rw[<-vs_put];exact hm
 ·intro i p hi
  have hne:∀i,Blk wz i #[.string p.1,.string p.2] 110->i≠gL:=by
   rintro i hi rfl;obtain⟨es,c,h1,-⟩:=q3;have:=(hz.block _ hlt).trans h1;unfold Blk at hi;rw[this] at hi;cases hi
  dsimp only at hi;split at hi
  ·rename_i hiG
   cases hi
   subst hiG;exact hg.grown hy (by intro e;exact hne _ hg (by cases e;rfl))
  ·have:=(q6 i p hi).ext hz
   exact this.grown hy (by intro e;exact hne _ this (by cases e;rfl))
 ·intro i p hi
  dsimp only at hi;split at hi
  ·rename_i hiG
   exact .inr (.inr hiG)
  ·exact(q7 i p hi).imp_right .inl
 ·rcases h with h|rfl
  ·exact Nat.lt_of_lt_of_le (q10 b h) (Nat.le_trans hz.size hy.size)
  ·exact Nat.lt_of_lt_of_le hg.lt hy.size
end
def bootD (D:DS) (L:List (ByteArray×Nat)) (fl:Nat->Option (ByteArray×ByteArray)):DS:={ D with now:=L,safe:=L,chg:=[],fl:=fl,armed:=0,off:=false }
section
variable {wr w1:World} {S T:Nat->Prop} {bd gN gS gL:Nat} {v:Value} {D:DS} {L:List (ByteArray×Nat)} {fl:Nat->Option (ByteArray×ByteArray)} {k:Nat}
theorem Fit.boot (h:Fit D) (q8:Fw (D.safe.map (·.1)) (k,L,fl)):Fit (bootD D L fl):=by
 have hl:L.length<=200:=by
  have h1:=h.few 0;rw[List.take_zero] at h1;have h2:=congrArg List.length q8.keys;rw[List.length_map,List.length_map] at h2;exact h2▸h1
 exact⟨q8.wf,q8.wf,fun c hc=>(by cases hc),h.cap0,h.cap1,Int.le_refl 0,(by show(0:Int)<=9223372036854775807;omega),h.ops,q8.big,fun i=>by
  show(apps (List.take i []) L).length<=200
  rw[List.take_nil];exact hl,rfl⟩
def wA (wr:World) (bd gL:Nat):World:=((wr.setCell ⟨bd,0,none⟩ (.map (some gL))).setCell ⟨bd,6,none⟩ (.bool false)).setCell ⟨bd,5,none⟩ (.int .i64 0)
theorem wA_size (wr:World) (bd gL:Nat):(wA wr bd gL).heap.size=wr.heap.size:=by unfold wA;simp
theorem wA_block (wr:World) {bd i:Nat} (gL:Nat) (h:i≠bd):(wA wr bd gL).heap[i]? =wr.heap[i]? :=by
 unfold wA;rw[Below.heap_setCell _ ⟨bd,5,none⟩ _ i h,Below.heap_setCell _ ⟨bd,6,none⟩ _ i h,Below.heap_setCell _ ⟨bd,0,none⟩ _ i h]
theorem wA_box (h:Dat wr S bd gN gS v D):Blk (wA wr bd gL) bd (dcells gL gS v (bootD D L fl)) 75:=((h.box.put 0 _).put 6 _).put 5 _
theorem Dat.boot (h:Dat wr S bd gN gS v D) (q3:Mp wr gL (vs L)) (q5:T gL) (q6:∀b p,fl b=some p->Blk wr b #[.string p.1,.string p.2] 110) (q7:∀b p,fl b=some p->D.fl b=some p∨T b) (q8:Fw (D.safe.map (·.1)) (k,L,fl)) (q10:∀b,T b->b<wr.heap.size)
  (hm:Mp w1 (wA wr bd gL).heap.size (vs L)) (hb:Below (wA wr bd gL).heap.size (wA wr bd gL) w1) (hs:w1.heap.size=(wA wr bd gL).heap.size+1) :
  Dat ((w1.setCell ⟨bd,1,none⟩ (.map (some (wA wr bd gL).heap.size))).setCell ⟨bd,2,none⟩ (.slice none 0 0)) (fun i=>S i∨T i∨i=wr.heap.size) bd gL (wA wr bd gL).heap.size (.slice none 0 0) (bootD D L fl):=by
 have hbx:=(wA_box (gL:=gL) (L:=L) (fl:=fl) h).ext hb;rw[wA_size] at hm hb hs ⊢;have hlt:=h.lt _ h.sB;have hk:∀i,i≠bd->((w1.setCell ⟨bd,1,none⟩ (.map (some wr.heap.size))).setCell ⟨bd,2,none⟩ (.slice none 0 0)).heap[i]? =w1.heap[i]? :=fun i hi=>by
  rw[Below.heap_setCell _ ⟨bd,2,none⟩ _ i hi,Below.heap_setCell _ ⟨bd,1,none⟩ _ i hi]
 have hw:∀i,i≠bd->i<wr.heap.size->((w1.setCell ⟨bd,1,none⟩ (.map (some wr.heap.size))).setCell ⟨bd,2,none⟩ (.slice none 0 0)).heap[i]? =wr.heap[i]? :=fun i hi hl=>by
  rw[hk i hi,hb.block i hl,wA_block wr gL hi]
 have hg:gL≠bd:=by
  rintro rfl;obtain⟨es,c,h1,-⟩:=q3;have:=h.box;unfold Blk at this;rw[h1] at this;cases this
 have hf:∀b p,fl b=some p->b≠bd:=by
  rintro b p hp rfl;have h1:=q6 _ p hp;have h2:=h.box;unfold Blk at h1 h2;rw[h1] at h2;simp at h2
 refine⟨(hbx.put 1 _).put 2 _,q3.same (hw _ hg q3.lt),hm.same (hk _ (by omega)),World.ownsRow_nil _ _ _ _,fun b p hp=>(hw _ (hf b p hp) (q6 b p hp).lt).trans (q6 b p hp),?_,.inl h.sB,.inr (.inl q5),.inr (.inr rfl),fun g hg=>(by cases hg),fun b p hp=>?_,fun b hb'=>?_,h.fit.boot q8⟩
 ·have:=q3.lt;omega
 ·rcases q7 b p hp with h1|h1
  ·exact .inl (h.sF b p h1)
  ·exact .inr (.inl h1)
 ·show b<_
  rw[show((w1.setCell ⟨bd,1,none⟩ (.map (some wr.heap.size))).setCell ⟨bd,2,none⟩ (.slice none 0 0)).heap.size=w1.heap.size from by simp];rcases hb' with h1|h1|rfl
  ·have:=h.lt b h1;omega
  ·have:=q10 b h1;omega
  ·omega
end
end Dk
end Go.Proofs.YtlnbjikooadmoaaGreat
namespace Go.Proofs.YtlnbjikooadmoaaGreat
namespace Dk
open Go.RowKit Hd Fm Sn Bk Rd Bd
theorem cat_app:∀a b:List Pb,cat (a++b)=cat a++cat b
 | [],b=>rfl
 |x::a,b=>by rw[List.cons_append,cat,cat,cat_app a b,List.append_assoc]
theorem tot_app:∀a b:List Pb,tot (a++b)=tot a+tot b
 | [],b=>by simp[tot]
 |x::a,b=>by rw[List.cons_append,tot,tot,tot_app a b];omega
theorem fileB_app (hd:ByteArray) (a b:List Pb):fileB hd (a++b)=fileB hd a++⟨(cat b).toArray⟩:=ba_ext (by simp[fileB,cat_app])
theorem fileB_pre (hd:ByteArray) (a b:List Pb):(fileB hd (a++b)).extract 0 (fileB hd a).size=fileB hd a:=by
 rw[fileB_app];refine ba_ext ?_;rw[ext_list,List.drop_zero,Nat.sub_zero,ByteArray.data_append,Array.toList_append,List.take_append_of_le_length (by rw[size_list];exact Nat.le_refl _),List.take_of_length_le (by rw[size_list];exact Nat.le_refl _)]
theorem tl_file {i g F:Nat} {pb:List Pb} (hh:1<=i/\i<=999999/\1<=g/\g<=999999/\1<=F/\F<=1000000000) (hg:Good pb) (hr:rowE none (fls pb)=0) (hf:pb≠ []->(at3 (fls pb) 0).1=(F:Int)) (hl:pb.length<=1000) (ht:(hdrB i g F).size+tot pb<=1000000) :
  tl (fileB (hdrB i g F) pb) i g F=some (lay (hdrB i g F).size pb,(hdrB i g F).size+tot pb):=by
 obtain⟨h1,-⟩:=run_lay F (hdrB i g F) pb hg hr hf hl ht;have hpre:preB (fileB (hdrB i g F) pb) (hdrB i g F)=true:=by
  rw[preB_iff];have:=fileB_pre (hdrB i g F) [] pb
  rwa [fileB_nil,List.nil_append] at this
 unfold tl;rw[if_pos ⟨by simp only[okH,decide_eq_true_eq];omega,by simpa using hpre⟩];simp only[Int.toNat_natCast];rw[h1]
theorem falls_tl {i g F n c:Nat} {pb:List Pb} (hh:1<=i/\i<=999999/\1<=g/\g<=999999/\1<=F/\F<=1000000000) (hg:Good pb) (hr:rowE none (fls pb)=0) (hf:pb≠ []->(at3 (fls pb) 0).1=(F:Int)) (hl:pb.length<=1000) (ht:(hdrB i g F).size+tot pb<=1000000)
  (hn:n<=pb.length) (h1:(fileB (hdrB i g F) (pb.take n)).size<=c) (h2:c<=(fileB (hdrB i g F) pb).size) :
  ∃q E,tl ((fileB (hdrB i g F) pb).extract 0 c) i g F=some ((lay (hdrB i g F).size pb).take q,E)/\n<=q/\q<=pb.length/\E<=c:=by
 have hw:=tl_file hh hg hr hf hl ht;have hsp:pb=pb.take n++pb.drop n:=(List.take_append_drop n pb).symm;have hgt:Good (pb.take n):=fun z hz=>hg z (List.mem_of_mem_take hz)
 have hflt:fls pb=fls (pb.take n)++fls (pb.drop n):=by
  unfold fls;rw[<-List.flatten_append,<-List.map_append,List.take_append_drop]
 have htt:tot pb=tot (pb.take n)+tot (pb.drop n):=by rw[<-tot_app,List.take_append_drop]
 have hz1:(fileB (hdrB i g F) (pb.take n)).size=(hdrB i g F).size+tot (pb.take n):=fileB_size _ _;have hft:pb.take n≠ []->(at3 (fls (pb.take n)) 0).1=(F:Int):=by
  intro hne;have hne':fls (pb.take n)≠ []:=by
   intro e;rcases hq:pb.take n with _|⟨x,l'⟩
   ·exact hne hq
   ·rw[hq] at e hgt
    have:=(hgt x (List.mem_cons_self ..)).2.1;unfold fls at e;simp only[List.map_cons,List.flatten_cons,List.append_eq_nil_iff] at e;exact this e.1
  rw[<-at3_pre (B:=fls (pb.drop n)) hne',<-hflt];exact hf (by rintro rfl;simp at hne)
 have hw1:=tl_file hh hgt (row_pre _ none _ (by rw[<-hflt];exact hr)) hft (by rw[List.length_take];omega) (by omega);rcases cut_some hw h2 with ⟨q1,-⟩|⟨L',E',l2,q1,q2,-,q4,-⟩
 ·exfalso
  have hp: ¬ tl ((fileB (hdrB i g F) pb).extract 0 c) i g F=none:=by
   unfold tl at hw ⊢;split at hw
   ·rename_i hk
    rw[if_pos ⟨hk.1,(pre_cut h2).2 ⟨hk.2,by simp only[Int.toNat_natCast];omega⟩⟩];simp
   ·cases hw
  exact hp q1
 ·have hc1:(fileB (hdrB i g F) (pb.take n)).size<=((fileB (hdrB i g F) pb).extract 0 c).size:=by rw[size_cut h2];exact h1
  have he:((fileB (hdrB i g F) pb).extract 0 c).extract 0 (fileB (hdrB i g F) (pb.take n)).size=fileB (hdrB i g F) (pb.take n):=by
   have h3:=fileB_pre (hdrB i g F) (pb.take n) (pb.drop n);rw[List.take_append_drop] at h3;have ha:=agree_cut (fileB (hdrB i g F) pb) c h2;rw[<-ha.extract h1];exact h3
  rcases cut_some q1 hc1 with ⟨r1,-⟩|⟨L2,E2,l3,r1,r2,-⟩
  ·rw[he,hw1] at r1;cases r1
  ·rw[he,hw1] at r1
   obtain⟨rfl,-⟩:lay (hdrB i g F).size (pb.take n)=L2/\_=E2:=by simpa using r1
   refine⟨L'.length,E',?_,?_,?_,q4⟩
   ·rw[q1,q2,List.take_left'];rfl
   ·rw[r2,List.length_append,length_lay,List.length_take];omega
   ·have:=congrArg List.length q2
    rw[length_lay,List.length_append] at this;omega
theorem left_pre {a b:ByteArray} (cut:Int) (h:b.extract 0 a.size=a):∃c,a.size<=c/\c<=b.size/\leftB (a,b) cut=b.extract 0 c:=by
 have hz:a.size<=b.size:=by
  have:=congrArg ByteArray.size h;rw[ByteArray.size_extract] at this;omega
 refine⟨a.size+min (max cut 0).toNat (b.size-a.size),by omega,by omega,?_⟩;unfold leftB;rw[if_pos ((preB_iff b a).2 h)];dsimp only;obtain⟨k,hk,hk2⟩:∃k,min (max cut 0).toNat (b.size-a.size)=k/\k<=b.size-a.size:=⟨_,rfl,by omega⟩
 rw[hk];refine ba_ext ?_;have ha:a.data.toList=b.data.toList.take a.size:=by
  have:=congrArg (fun x:ByteArray=>x.data.toList) h;simp only[ext_list,List.drop_zero,Nat.sub_zero] at this;exact this.symm
 rw[ByteArray.data_append,Array.toList_append,ext_list,ext_list,ext_list,List.drop_zero,List.drop_zero,Nat.sub_zero,Nat.sub_zero,List.take_take];rw[ha,List.take_add,Nat.min_eq_left hk2]
end Dk
end Go.Proofs.YtlnbjikooadmoaaGreat
namespace Go.Proofs.YtlnbjikooadmoaaGreat
namespace Dk
open Go.RowKit Sn
theorem str_rd {w:World} {B n k:Nat} {A:Option Addr} {l:List ByteArray} (h:Rd w B 1 A n (l.map Value.string)) (hk:k<n):∃ad x,A=some ad/\ad.block<B/\l[k]? =some x/\w.cell? (ad.add k)=some (.string x):=by
 obtain⟨ad,u,e,hb,hu,hc⟩:=h.at1 hk;rw[List.getElem?_map] at hu;rcases hx:l[k]? with _|x
 ·rw[hx] at hu;cases hu
 ·rw[hx] at hu
  simp only[Option.map_some,Option.some.injEq] at hu;exact⟨ad,x,e,hb,rfl,by rw[hu];exact hc⟩
theorem srt_mem {l:List (ByteArray×Nat)} {s:ByteArray} (h:s∈srt l):s∈l.map (·.1):=by
 unfold srt at h;obtain⟨x,hx,rfl⟩:=List.mem_map.1 h;obtain⟨y,hy,rfl⟩:=List.mem_map.1 ((List.mergeSort_perm _ _).mem_iff.1 hx);exact List.mem_map.2 ⟨y,hy,rfl⟩
theorem bt_start {w4:World} {gL:Nat} {cuts:List Int} {D:DS} {names:List ByteArray} (hm:Mp w4 gL (vs D.safe)) (hf:∀b p,D.fl b=some p->Blk w4 b #[.string p.1,.string p.2] 110) (h:Fit D):Bt w4 gL cuts (0,D.safe,D.fl) names 0 0 w4 :=
 ⟨⟨[],fun x=>x=gL,D.safe,D.fl,by simp,rfl,hm,Gr.refl _ _,rfl,hf,fun _ _ hp=>.inl hp,⟨h.wfS,h.big,rfl⟩,fun b hb=>by obtain rfl:b=gL:=hb;exact hm.lt⟩,Nat.le_refl _⟩
theorem bel_al {w wx:World} (h:Below w.heap.size w wx) (o:Obj):Below w.heap.size w (wx.alloc o):=h.trans ((ext_alloc wx o).mono h.size)
section
variable {w w':World} {S:Nat->Prop} {bd gN gS:Nat} {v:Value} {D:DS}
set_option maxHeartbeats 3200000 in
set_option maxRecDepth 100000 in
theorem boot_any (h:DiskAt w S bd D) {NS:List ByteArray} (hNS:srt D.safe=NS) (hch:D.chg=[]) (A:Option Addr) (n c:Nat) (cuts:List Int) (dir:Int) (hcut:Rd w w.heap.size 1 A n (cuts.map (Value.int .i64))) (hn:n<=1000000) (hk:∀x∈D.safe,x.1.size<=maxLen) :
  Calls Tryz.prog 22 #[.pointer (some ⟨bd,0,none⟩),.agg #[.int .i64 dir,.slice A n c,.slice none 0 0]] w fun e w'=>e=.returned (.int .i64 0)/\ ∃(pairs:List (ByteArray×Nat)) (k:Nat) (L:List (ByteArray×Nat)) (fl:Nat->Option (ByteArray×ByteArray)) (S':Nat->Prop),pairs.map (·.1)=NS/\Fx cuts pairs (0,D.safe,D.fl) (k,L,fl)/\DiskAt w' S' bd (bootD D L fl)/\Gr S w S' w':=by
 have mixed:Tryz.prog.follows .mixedOrders=true:=by kernel_rfl
 obtain⟨x0,hx0,hx1⟩:∃x0,upE D=x0/\(x0==1)=false:=⟨_,rfl,by unfold upE;split<;>decide⟩
 have HU:=Lib.hid (fun wx (h:DiskAt wx S bd D)=>up_any h);rw[hx0] at HU;clear hx0;have HX:=Lib.hid (show ∀wx,Below w.heap.size w wx->DiskAt wx S bd D from fun wx hb=>h.ext hb);obtain⟨gN,gS,v,h⟩:=h;have HD:=Lib.hid (show ∀wx,Below w.heap.size w wx->Dat wx S bd gN gS v D from fun wx hb=>h.ext hb);have hcl:=h.chg;rw[hch] at hcl;obtain⟨Av,cv,rfl,hcv,hcv2⟩:=own_slice hcl;simp only[List.length_nil] at HD;clear hcv hcv2;have HC:=Lib.hid (fun wx (hb:Below w.heap.size w wx)=>clone_any wx (HD.out wx hb).safe);have HB1:=Lib.hid (ext_alloc w (.cells #[.int .i64 dir,.slice A n c,.slice none 0 0] 61));have HK1:=Lib.hid (Blk.new w #[.int .i64 dir,.slice A n c,.slice none 0 0] 61);have hm0:min (max dir 0) ((0:Nat):Int)=0:=by omega
 have hm1:min (max dir 0) 0=0:=by omega
 have HRC:=Lib.hid (show ∀wx,Below w.heap.size w wx->Rd wx wx.heap.size 1 A n (cuts.map (Value.int .i64)) from fun wx hb=>(hcut.below hb).more hb.size);have HSF:=Lib.hid (show D.safe.length<=1000/\ ∀x∈D.safe,x.1.size<=maxLen from⟨by have:=h.fit.few 0;rw[List.take_zero] at this;exact Nat.le_trans this (by omega),hk⟩);clear h hcl hcut
 go_enter Tryz.func22, Tryz.ntmps22
 go_wp2_with (first
  |(go_at_call 50;refine(HU.out _ (HX.out _ HB1.out)).mono ?_;rintro e1 w1 ⟨rfl,rfl⟩;have k1:=(HD.out _ HB1.out).c1)
  |(go_at_call 54;refine(HC.out _ HB1.out).mono ?_;rintro e2 w2 ⟨rfl,hm2,hb2,hs2⟩;have HB2:=Lib.hid (ext_trans HB1.out hb2);have HM2:=Lib.hid (And.intro hm2 hs2);have HK2:=Lib.hid (HK1.out.ext hb2);clear k1 hm2 hs2 hb2 HK1 HB1 HC HU HX;have k2:=(HD.out _ HB2.out).c2;have b0:=HK2.out.cell 0 (v:=.int .i64 dir) rfl))
 go_region
 go_wp2_with fail
 have hgl:(w.alloc (.cells #[.int .i64 dir,.slice A n c,.slice none 0 0] 61)).heap.size=w.heap.size+1:=by simp
 have HM3:=Lib.hid (show Mp w2.drew (w.heap.size+1) (vs D.safe)/\w2.drew.heap.size=w.heap.size+1+1 from by rw[<-hgl];exact⟨HM2.out.1.same rfl,HM2.out.2⟩);have HB3:=Lib.hid (show Below w.heap.size w w2.drew from HB2.out.drew);have HK3:=Lib.hid (show Blk w2.drew w.heap.size #[.int .i64 dir,.slice A n c,.slice none 0 0] 61 from HK2.out);clear k2 b0 HM2 HB2 HK2 hgl hm0 hm1;have HNM:=Lib.hid (names_any w2.drew HM3.out.1 HSF.out.1 HSF.out.2);rw[hNS] at HNM;generalize w2.drew=w3 at *
 go_loopg [36] 0 (fun kx s36 wr=>s36=.int .i64 0/\w3=wr)
 case atStart=>exact⟨rfl,rfl⟩
 case round =>
  obtain⟨rfl,rfl⟩:=hrel;go_wp2_with (go_at_call 56;refine HNM.out.mono ?_;rintro e4 w4 ⟨vN,rfl,hrow,hb4⟩;obtain⟨AN,cN,rfl,hcN,-⟩:=own_slice hrow;have HN4:=Lib.hid (And.intro hrow hb4);clear hrow hb4 hcN)
  have HB4:=Lib.hid (HB3.out.trans (HN4.out.2.mono HB3.out.size));have HK4:=Lib.hid (HK3.out.ext HN4.out.2);have hlN:NS.length<=1000:=by rw[<-hNS,srt_len];exact HSF.out.1
  have H4:Aside (Bt w4 (w.heap.size+1) cuts (0,D.safe,D.fl) NS 0 0 w4):=bt_start (HM3.out.1.same (HN4.out.2.block _ HM3.out.1.lt)) (fun b p hp=>(HD.out w4 HB4.out).fl b p hp) (HD.out w4 HB4.out).fit;have HN5:=Lib.hid (show w.heap.size+1<w3.heap.size from by have:=HM3.out.2;omega);have HR4:=Lib.hid HN4.out.1;clear HNM HN4;have HSM:=Lib.hid (show ∀s,s∈NS->s∈D.safe.map (·.1) from fun s h=>srt_mem (by rw[hNS];exact h));clear hNS;go_loopg [8,47] NS.length (fun kx s8 s47 wr=>∃(j k:Nat),s8=.int .i64 (k:Int)/\s47=.int .i64 (j:Int)/\j<=NS.length/\NS.length-j<=kx/\Aside (Bt w4 (w.heap.size+1) cuts (0,D.safe,D.fl) NS j k wr))
  case atStart=>exact⟨0,0,rfl,rfl,by omega,by omega,H4⟩
  case round =>
   clear H4;obtain⟨j,k,rfl,rfl,hj,hjx,H⟩:=hrel;by_cases hlt:j<NS.length
   ·obtain⟨⟨pairs,T,L,fl,q1,q2,q3,q4,q5,q6,q7,q8,q10⟩,q9⟩:=H.out
    obtain⟨aN,s,rfl,haN,hs,hcs⟩:=str_rd (Rd.of_own (own_block HR4.out fun g hg=>q4.block g (World.ownsRow.lt HR4.out g hg).2 (by have:=(World.ownsRow.lt HR4.out g hg).1;have:=HN5.out;show g≠w.heap.size+1;omega))) hlt;obtain⟨b,hb⟩:=Option.ne_none_iff_exists'.1 (lk_key s (l:=L) (by rw[show L.map (·.1)=D.safe.map (·.1) from q8.keys];exact HSM.out s (List.mem_of_getElem? hs)));obtain⟨⟨pa,pb⟩,hp⟩:=Option.ne_none_iff_exists'.1 (q8.wf _ (lk_mem hb));have hpb:=q6 b _ hp;have p0:=hpb.cell 0 (v:=.string pa) rfl;have p1:=hpb.cell 1 (v:=.string pb) rfl;have HLK:=Lib.hid (show find1 s (vs L)=some (.pointer (some ⟨b,0,none⟩)) from by rw[vs_find,hb];rfl);have HMP:=Lib.hid q3;have HLO:=Lib.hid (fun w=>loose_any pa pb w);unfold fagg at HLO;have hlt2:(j:Int)<(NS.length:Int):=by omega
    by_cases hpp:pa=pb
    ·rw[decide_eq_true hpp] at HLO
     subst hpp;have HKP:=Lib.hid (fun wy=>bt_keep (wy:=wy) q1 q2 q3 q4 q5 q6 q7 q8 q10 q9 hs hb hp);clear q1 q2 q3 q4 q5 q6 q7 q8 q10 hs hb hp hpb;go_wp2_with (first
      |(at_lookup;refine wpList_lookupS0 Tryz.underlying72 Tryz.underlying9 ptr_zero HMP.out s _ _ ?_;rw[HLK.out])
      |(go_at_call 57;refine(HLO.out _).mono ?_;rintro e5 w5 ⟨rfl,hb5⟩;have H5:Aside _:=HKP.out w5 hb5;clear hb5))
     go_roundg (NS.length-(j+1))
     case measure=>omega
     case rel=>exact⟨j+1,k,by go_num,by go_num,by omega,by omega,H5⟩
    ·rw[decide_eq_false hpp] at HLO
     have HFL:=Lib.hid (fun wz wy G=>bt_fall (wz:=wz) (wy:=wy) (G:=G) q1 q2 q3 q4 q5 q6 q7 q8 q10 q9 hs hb hp hpp);have q4b:=q4;have hbig:=q8.big b _ hp;clear q1 q2 q3 q4 q5 q6 q7 q8 q10 hs hb hp;go_upto_region 15 with (first
      |(at_lookup;refine wpList_lookupS0 Tryz.underlying72 Tryz.underlying9 ptr_zero HMP.out s _ _ ?_;rw[HLK.out])
      |(go_at_call 57;refine(HLO.out _).mono ?_;rintro e5 w5 ⟨rfl,hb5⟩;have HB5:=Lib.hid hb5;clear hb5))
     have HBB5:=Lib.hid (HB4.out.trans ((q4b.below HB4.out.size (by rintro i rfl;exact Nat.le_succ _)).trans (HB5.out.mono (Nat.le_trans HB4.out.size q4b.size))));have HPB5:=Lib.hid (hpb.ext HB5.out);have HKB5:=Lib.hid (show Blk w5 w.heap.size #[.int .i64 dir,.slice A n c,.slice none 0 0] 61 from(q4b.blk HK4.out (by show w.heap.size≠w.heap.size+1;omega)).ext HB5.out);clear hpb q4b p0 p1;have hS:∀wx,Below w5.heap.size w5 wx->(fun wx:World=>(wx.cell? ⟨w.heap.size,1,none⟩=some (.slice A n c)/\wx.cell? ⟨w.heap.size,2,none⟩=some (.slice none 0 0)/\wx.cell? ⟨b,0,none⟩=some (.string pa)/\wx.cell? ⟨b,1,none⟩=some (.string pb))/\Below w5.heap.size w5 wx) wx:=fun wx hb =>
      ⟨⟨(HKB5.out.ext hb).cell 1 rfl,(HKB5.out.ext hb).cell 2 rfl,(HPB5.out.ext hb).cell 0 rfl,(HPB5.out.ext hb).cell 1 rfl⟩,hb⟩
     have HS:=Lib.hid hS;clear hS;have HS0:=Lib.hid (HS.out w5.drew (ext_drew w5));have HS1:=Lib.hid (HS.out (w5.alloc (.cells #[.string ⟨#[]⟩,.string ⟨#[]⟩] 110)).drew (ext_alloc w5 _).drew);have HNI:=Lib.hid (fun(wx:World) (hb:Below w5.heap.size w5 wx)=>nth_int (c:=c) (HRC.out wx (HBB5.out.trans (hb.mono HBB5.out.size))) k (by omega) hn);have HNS:=Lib.hid (fun wx=>nth_str k wx (by omega));have HFA:=Lib.hid (fun wx=>fall_any pa pb (nthI cuts k) wx hbig.1 hbig.2);unfold fagg at HFA;generalize leftB (pa,pb) (nthI cuts k)=X at *
     go_cut [12] from 59 to 75 (fun s12 wx=>∃G,s12=.pointer (some ⟨G,0,none⟩)/\Aside (Blk wx G #[.string X,.string X] 110/\Below w5.heap.size w5 wx/\w5.heap.size<=G))
     case first =>
      go_region_held3 (fun wx=>(wx.cell? ⟨w.heap.size,1,none⟩=some (.slice A n c)/\wx.cell? ⟨w.heap.size,2,none⟩=some (.slice none 0 0)/\wx.cell? ⟨b,0,none⟩=some (.string pa)/\wx.cell? ⟨b,1,none⟩=some (.string pb))/\Below w5.heap.size w5 wx) (with_reducible first|exact HS0.out|exact HS1.out|assumption|exact HS.out _ (bel_al hS6.2 _)|exact HS.out _ ((hS6.2.setCell (p:=⟨w5.heap.size,0,none⟩) (Nat.le_refl _) _).setCell (p:=⟨w5.heap.size,1,none⟩) (Nat.le_refl _) _)) (first
       |(go_at_call 59;refine(HNI.out _ (by with_reducible first|exact HS0.out.2|exact HS1.out.2)).mono ?_;rintro e7 w7 ⟨rfl,rfl⟩)
       |(go_at_call 60;refine(HNS.out _).mono ?_;rintro e7 w7 ⟨rfl,rfl⟩)
       |(go_at_call 58;refine(HFA.out _).mono ?_;rintro e6 w6 ⟨rfl,hb6⟩;(try (have z6:=Blk.ext (show Blk (w5.alloc (.cells #[.string ⟨#[]⟩,.string ⟨#[]⟩] 110)).drew w5.heap.size #[.string ⟨#[]⟩,.string ⟨#[]⟩] 110 from Blk.new w5 _ _) hb6;have z0:=z6.cell 0 rfl;have z1:=z6.cell 1 rfl;have f0:=z6.fz 0;have f1:=z6.fz 1));have hS6:=HS.out w6 (by with_reducible first|exact HS0.out.2.trans (hb6.mono HS0.out.2.size)|exact HS1.out.2.trans (hb6.mono HS1.out.2.size))))
      all_goals
       go_wp2_with fail
       go_meet
       case rel=>first
        |exact⟨w6.heap.size,rfl,Blk.new w6 _ _,bel_al hS6.2 _,hS6.2.size⟩
        |exact⟨w5.heap.size,rfl,(z6.put 0 _).put 1 _,(hS6.2.setCell (p:=⟨w5.heap.size,0,none⟩) (Nat.le_refl _) _).setCell (p:=⟨w5.heap.size,1,none⟩) (Nat.le_refl _) _,Nat.le_refl _⟩
     case rest =>
      obtain⟨G,rfl,HG⟩:=hcut;have HZ:=Lib.hid (show ∀wx,Aside (Blk wx G #[.string X,.string X] 110/\Below w5.heap.size w5 wx/\w5.heap.size<=G)->Mp wx (w.heap.size+1) (vs L) from fun wx h=>HMP.out.same ((ext_trans HB5.out h.out.2.1).block _ HMP.out.lt));clear HS HS0 HS1 HNI HNS HFA HRC HLO;go_wp2_with (at_mapUpdate;refine wpList_updateS Tryz.underlying72 Tryz.underlying9 (HZ.out _ HG) s (.pointer (some ⟨G,0,none⟩)) _ _ _ ?_;intro wy hmy hgy hsy;have H6:Aside _:=HFL.out _ wy G (Nat.le_trans HB5.out.size HG.out.2.2) (ext_trans HB5.out HG.out.2.1) HG.out.1 hmy hgy;clear hmy hgy hsy)
      go_roundg (NS.length-(j+1))
      case measure=>omega
      case rel=>exact⟨j+1,k+1,by go_num,by go_num,by omega,by omega,H6⟩
   ·obtain rfl:j=NS.length:=by omega
    obtain⟨⟨pairs,T,L,fl,q1,q2,q3,q4,q5,q6,q7,q8,q10⟩,q9⟩:=H.out;rw[List.take_length] at q1;have hge:∀i,T i->w.heap.size<=i:=q4.ge HB4.out.size (by rintro i rfl;exact Nat.le_succ _);have hbr:Below w.heap.size w wr:=HB4.out.trans (q4.below HB4.out.size (by rintro i rfl;exact Nat.le_succ _));have hD:=HD.out wr hbr;have k0:=hD.c0;have k5:=hD.c5;have k6:=hD.c6;have f0:=hD.fz 0;have f5:=hD.fz 5;have f6:=hD.fz 6;have HST:=Lib.hid (settle_raw (wA_box (gL:=w.heap.size+1) (L:=L) (fl:=fl) hD) (q3.same (wA_block wr (w.heap.size+1) (by rintro e;have:=q3;rw[e] at this;obtain⟨es,c,h1,-⟩:=this;have h2:=hD.box;unfold Blk at h2;rw[h1] at h2;cases h2))));have HFIN:=Lib.hid (show ∀w1,Mp w1 (wA wr bd (w.heap.size+1)).heap.size (vs L)->Below (wA wr bd (w.heap.size+1)).heap.size (wA wr bd (w.heap.size+1)) w1->w1.heap.size=(wA wr bd (w.heap.size+1)).heap.size+1-> ∃(pairs:List (ByteArray×Nat)) (k:Nat) (L:List (ByteArray×Nat)) (fl:Nat->Option (ByteArray×ByteArray)) (S':Nat->Prop),pairs.map (·.1)=NS/\Fx cuts pairs (0,D.safe,D.fl) (k,L,fl)/\DiskAt ((w1.setCell ⟨bd,1,none⟩ (.map (some (wA wr bd (w.heap.size+1)).heap.size))).setCell ⟨bd,2,none⟩ (.slice none 0 0)) S' bd (bootD D L fl)/\Gr S w S' ((w1.setCell ⟨bd,1,none⟩ (.map (some (wA wr bd (w.heap.size+1)).heap.size))).setCell ⟨bd,2,none⟩ (.slice none 0 0)) from fun w1 e1 e2 e3=>by
     refine⟨pairs,k,L,fl,fun i=>S i∨T i∨i=wr.heap.size,q1,q2,⟨_,_,_,hD.boot q3 q5 q6 q7 q8 q10 e1 e2 e3⟩,?_⟩;refine((Gr.of_below hbr).trans (((Gr.setCell hD.sB 0 _).trans ((Gr.setCell hD.sB 6 _).trans (Gr.setCell hD.sB 5 _))).trans ((Gr.of_below e2).trans ((Gr.setCell hD.sB 1 _).trans (Gr.setCell hD.sB 2 _))))).more fun i hi=>?_
     rcases hi with hi|hi|rfl
     ·exact .inl hi
     ·exact .inr (hge i hi)
     ·exact .inr hbr.size)
    simp only[wA_size] at HST HFIN;unfold wA at HST HFIN;clear q1 q2 q3 q4 q5 q6 q7 q8 q10 hD H;go_wp2_with (go_at_call 52;refine HST.out.mono ?_;rintro e9 w9 ⟨rfl,w8,e1,e2,e3,rfl⟩;have HE:=Lib.hid (HFIN.out w8 e1 e2 e3);clear e1 e2 e3)
    go_ret
    exact⟨rfl,HE.out⟩
end
end Dk
end Go.Proofs.YtlnbjikooadmoaaGreat
namespace Go.Proofs.YtlnbjikooadmoaaGreat
namespace Dk
open Go.RowKit Hd Fm Sn Bk Rd Bd
structure Of1 (D:DS) (b:Nat) (s:ByteArray) (p:ByteArray×ByteArray):Prop where
 one:One D b s p
 safe:D.safe=[(s,b)]
 chg:D.chg=[]
section
variable {D:DS} {b:Nat} {s:ByteArray} {p:ByteArray×ByteArray}
theorem of1_new (s hd:ByteArray) (b:Nat):Of1 (opS true settleD (d3 s hd b (newD 1000000))) b s (hd,hd):=by
 have h:=one_new s hd b;rw[emp_app] at h;rw[opS_calm h.calm];exact⟨⟨⟨h.calm.tick.off,h.calm.tick.armed⟩,h.now,h.fl,h.cap⟩,h.now,rfl⟩
theorem Of1.put (h:Of1 D b s p) (F:ByteArray):Of1 (putD b p F D) b s (p.1,p.2++F):=⟨h.one.put F,h.safe,h.chg⟩
theorem Of1.sync (h:Of1 D b s p) (T:ByteArray):Of1 (syncD b T D) b s (T,T):=⟨h.one.sync,h.safe,h.chg⟩
theorem Of1.sync' (h:Of1 D b s p):Of1 (opS true (setF b (p.2,p.2)) D) b s (p.2,p.2):=by
 rw[opS_calm h.one.calm];exact h.sync p.2
theorem Of1.set (h:Of1 D b s p) (q:ByteArray×ByteArray):Of1 (setF b q (tick D)) b s q:=⟨⟨h.one.calm.tick.setF b _,h.one.now,fl_set b _ _,h.one.cap⟩,h.safe,h.chg⟩
theorem Of1.trim (h:Of1 D b s p) (n:Nat):Of1 (trimD b p n D) b s (p.2.extract 0 n,p.2.extract 0 n):=(h.set (p.1,p.2.extract 0 n)).sync _
theorem of1_boot (h:Of1 D b s p) {cuts:List Int} {pairs:List (ByteArray×Nat)} {k:Nat} {L:List (ByteArray×Nat)} {fl:Nat->Option (ByteArray×ByteArray)} (hp:pairs.map (·.1)=[s]) (hx:Fx cuts pairs (0,D.safe,D.fl) (k,L,fl)) :
  ∃b' X,Of1 (bootD (offD D) L fl) b' s (X,X)/\(p.1=p.2/\X=p.2∨p.1≠p.2/\X=leftB p (nthI cuts 0)):=by
 rcases pairs with _|⟨⟨s',g⟩,_|⟨y,l⟩⟩
 ·simp at hp
 ·simp only[List.map_cons,List.map_nil,List.cons.injEq,and_true] at hp
  subst hp;obtain⟨-,hx⟩:=hx;have hst:(k,L,fl)=fstep cuts (0,D.safe,D.fl) (s',g):=hx;have hlk:lk s' D.safe=some b:=by rw[h.safe,lk_cons,if_pos rfl]
  unfold fstep at hst;dsimp only at hst;rw[hlk] at hst;simp only[Option.bind_some,h.one.fl] at hst;by_cases hpp:p.1=p.2
  ·rw[if_pos hpp] at hst
   simp only[Prod.mk.injEq] at hst;obtain⟨-,rfl,rfl⟩:=hst;refine⟨b,p.2,⟨⟨⟨rfl,rfl⟩,h.safe,?_,h.one.cap⟩,h.safe,rfl⟩,.inl ⟨hpp,rfl⟩⟩;show D.fl b=_
   rw[h.one.fl];exact congrArg some (Prod.ext hpp rfl)
  ·rw[if_neg hpp] at hst
   simp only[Prod.mk.injEq] at hst;obtain⟨-,rfl,rfl⟩:=hst;have hpt:pt s' g D.safe=[(s',g)]:=by rw[h.safe,pt,if_pos rfl]
   refine⟨g,leftB p (nthI cuts 0),⟨⟨⟨rfl,rfl⟩,hpt,?_,h.one.cap⟩,hpt,rfl⟩,.inr ⟨hpp,rfl⟩⟩;show(if g=g then _ else _)=_
   rw[if_pos rfl]
 ·simp at hp
end
section
variable {w w':World} {S:Nat->Prop} {bd gN gS:Nat} {v:Value} {D:DS}
set_option maxHeartbeats 6400000 in
set_option maxRecDepth 100000 in
theorem Trim_keep (h:DiskAt w S bd D) (hc:Calm D) {i g f:Int} {b E:Nat} {L:List Mt} {p:ByteArray×ByteArray} (hh:okH i g f=true) (hl:lk (segN i g) D.now=some b) (hp:D.fl b=some p) (ht:tl p.2 i g f=some (L,E)) (hE: ¬ E<p.2.size) :
  Calls Tryz.prog 23 #[.pointer (some ⟨bd,0,none⟩),.agg #[.int .i64 i,.int .i64 g,.int .i64 f]] w fun e w'=>∃(A':Option Addr) (n' c':Nat),e=.returned (.tuple #[.slice A' n' c',.int .i64 (E:Int),.int .i64 0])/\OwnM w' w.heap.size (.slice A' n' c') L/\Below w.heap.size w w':=by
 have mixed:Tryz.prog.follows .mixedOrders=true:=by kernel_rfl
 have hbg:=h.fit.big b p hp;have HO:=Lib.hid (fun w=>of_ok (bd:=bd) i g f w hh);have hrp:readP D (segN i g)=(p.2,0):=by
  unfold readP;rw[hc.off,hl];simp[hp]
 have HRD:=Lib.hid (fun(wx:World) (hx:Below w.heap.size w wx)=>read_any (h.ext hx) (segN i g));rw[hrp] at HRD;have HTL:=Lib.hid (fun wx=>(tail_any p.2 i g f wx hbg.2).mono (R':=fun e w'=>∃(A':Option Addr) (n' c':Nat),e=.returned (.tuple #[.slice A' n' c',.int .i64 (E:Int),.int .i64 0])/\OwnM w' wx.heap.size (.slice A' n' c') L/\Below wx.heap.size wx w') (by
  rintro e w' ⟨⟨L',E',v,hl',rfl,hown⟩|⟨hl',-⟩,hb⟩
  ·rw[ht] at hl'
   cases hl'
   obtain⟨A',c',rfl,-,-,-⟩:=hown.rd;exact⟨A',_,c',rfl,hown,hb⟩
  ·rw[ht] at hl';cases hl'))
 have hE2: ¬ (E:Int)<(p.2.size:Int):=by omega
 clear h hc hh hl hp ht hbg hrp hE;unfold sgc at *
 generalize segN i g=s at *
 have B2:=ext_alloc w (.cells #[.int .i64 i,.int .i64 g,.int .i64 f] 33);have B0:=Blk.new w #[.int .i64 i,.int .i64 g,.int .i64 f] 33
 go_enter Tryz.func23, Tryz.ntmps23
 go_wp2_with (first
  |(go_at_call 30;refine(HO.out _).mono ?_;rintro e1 w1 ⟨rfl,hb1⟩;have HW1:=Lib.hid (B2.trans (hb1.mono B2.size));have HB1:=Lib.hid ((B0.ext hb1).alloc (.cells #[.pointer (some ⟨bd,0,none⟩),.int .i64 i,.int .i64 g,.int .i64 f,.string s] 77));clear hb1 B2 B0;have HW2:=Lib.hid (HW1.out.trans ((ext_alloc w1 (.cells #[.pointer (some ⟨bd,0,none⟩),.int .i64 i,.int .i64 g,.int .i64 f,.string s] 77)).mono HW1.out.size));have HS2:=Lib.hid (Blk.new w1 #[.pointer (some ⟨bd,0,none⟩),.int .i64 i,.int .i64 g,.int .i64 f,.string s] 77);have k0:=HB1.out.cell 0 (v:=.int .i64 i) rfl;have k1:=HB1.out.cell 1 (v:=.int .i64 g) rfl;have k2:=HB1.out.cell 2 (v:=.int .i64 f) rfl)
  |(go_at_call 39;refine(HRD.out _ HW2.out).mono ?_;rintro e2 w2 ⟨rfl,rfl⟩)
  |(go_at_call 40;refine(HTL.out _).mono ?_;rintro e3 w3 ⟨A',n',c',rfl,hown,hb3⟩;have HO3:=Lib.hid (And.intro (hown.lower HW2.out.size) (HW2.out.trans (hb3.mono HW2.out.size)));clear hown hb3 k0 k1 k2;have HZ3:=Lib.hid (Blk.new w3 #[.int .i64 (E:Int)] 3);have z0:=HZ3.out.cell 0 (v:=.int .i64 (E:Int)) rfl))
 go_region
 all_goals
  go_wp2_with fail
  go_ret3
  refine⟨_,_,_,rfl,own_block HO3.out.1 fun j e=>?_,(HO3.out.2.trans ((ext_alloc w3 _).mono HO3.out.2.size)).trans ⟨rfl,rfl,rfl,Nat.le_refl _,fun _ _=>rfl⟩⟩;exact Below.heap_alloc w3 _ j (World.ownsRow.lt HO3.out.1 j e).2
end
end Dk
end Go.Proofs.YtlnbjikooadmoaaGreat
namespace Go.Proofs.YtlnbjikooadmoaaGreat
namespace Dk
open Go.RowKit Hd Fm Sn Bk Rd Bd
section
variable {w w':World} {S:Nat->Prop} {bd gN gS:Nat} {v:Value} {D:DS}
set_option maxHeartbeats 1600000 in
set_option maxRecDepth 100000 in
theorem do_boot (h:DiskAt w S bd D) (hch:D.chg=[]) (hk:∀x∈D.safe,x.1.size<=maxLen) :
  Calls Tryz.prog 24 #[.pointer (some ⟨bd,0,none⟩),.agg #[.int .i64 9,.int .i64 0,.string ⟨#[]⟩,.string ⟨#[]⟩,.int .i64 0,.slice none 0 0,.slice none 0 0]] w fun e w'=>e=.returned (.int .i64 0)/\ ∃S',Gr S w S' w':=by
 have HB:=Lib.hid (show ∀wx,Below w.heap.size w wx->Calls Tryz.prog 22 #[.pointer (some ⟨bd,0,none⟩),.agg #[.int .i64 0,.slice none 0 0,.slice none 0 0]] wx fun e w'=>e=.returned (.int .i64 0)/\ ∃S',Gr S w S' w' from fun wx hb=>by
  refine(boot_any (h.ext hb) rfl hch none 0 0 [] 0 Rd.nil (by omega) hk).mono ?_;rintro e w' ⟨rfl,pairs,k,L,fl,S',-,-,-,hg⟩;exact⟨rfl,S',(Gr.of_below hb).trans hg⟩)
 have HE:=Lib.hid (fun o=>ext_alloc w o);clear h hch hk
 go_enter Tryz.func24, Tryz.ntmps24
 go_wp2_with (go_at_call 22;refine(HB.out _ (HE.out _)).mono ?_;rintro e1 w1 ⟨rfl,S1,hg⟩;have HG:=Lib.hid hg;clear hg)
 go_ret
 exact⟨rfl,S1,HG.out⟩
end
end Dk
end Go.Proofs.YtlnbjikooadmoaaGreat
namespace Go.Proofs.YtlnbjikooadmoaaGreat
namespace Rd
open Go.RowKit
def few (l:List (Int×Int×ByteArray)):Bool:=decide (l.length<=200)&&l.all fun r=>decide (r.2.2.size<=3000)
theorem few_big {l:List (Int×Int×ByteArray)} (h:200<l.length):few l=false:=by unfold few;rw[decide_eq_false (by omega)];rfl
theorem few_no {l:List (Int×Int×ByteArray)} {k:Nat} {q t:Int} {d:ByteArray} (h:l[k]? =some (q,t,d)) (hd:3000<d.size):few l=false:=by
 unfold few;rw[Bool.and_eq_false_iff]
 right
 rw[List.all_eq_false];exact⟨_,List.mem_of_getElem? h,by simp only[decide_eq_true_eq];omega⟩
theorem few_yes {l:List (Int×Int×ByteArray)} (h:l.length<=200) (hd:∀k r,k<l.length->l[k]? =some r->r.2.2.size<=3000):few l=true:=by
 unfold few;rw[Bool.and_eq_true];refine⟨decide_eq_true h,List.all_eq_true.2 fun x hx=>?_⟩;obtain⟨k,hk,rfl⟩:=List.getElem_of_mem hx;exact decide_eq_true (hd k _ hk (List.getElem?_eq_getElem hk))
theorem few_len {l:List (Int×Int×ByteArray)} (h:few l=true):l.length<=200:=by
 unfold few at h;rw[Bool.and_eq_true] at h;exact of_decide_eq_true h.1
set_option maxHeartbeats 6400000 in
set_option maxRecDepth 100000 in
theorem few_any (A:Option Addr) (n c:Nat) (l:List (Int×Int×ByteArray)) (w:World) (hrd:Rd w w.heap.size 3 A n (fl3 l)) (hn:n<=c) (hc:c<=maxLen) :
  Calls Tryz.prog 25 #[.slice A n c] w fun e w'=>e=.returned (.bool (few l))/\w=w':=by
 have mixed:Tryz.prog.follows .mixedOrders=true:=by kernel_rfl
 have hln:=rd3_len hrd;have hnm:n<=9223372036854775807:=by unfold maxLen at hc;omega
 clear hn hc;by_cases hb:200<n
 ·have HF:=Lib.hid (few_big (l:=l) (by omega))
  have hb2:(200:Int)<(n:Int):=by omega
  clear hb hrd hln
  go_enter Tryz.func25, Tryz.ntmps25
  go_wp2_with fail
  go_ret
  exact⟨ret_bool HF.out.symm,rfl⟩
 ·have HR:=Lib.hid hrd
  clear hrd
  go_enter Tryz.func25, Tryz.ntmps25
  go_wp2_with fail
  go_loopw [3] (fun v wr=>∃k:Nat,v=.int .i64 k/\k<=n/\w=wr/\Hid (∀j r,j<k->l[j]? =some r->r.2.2.size<=3000)) (fun v _=>n-(intOf v).toNat)
  case atStart=>exact⟨0,by go_num,by omega,rfl,fun j r h=>absurd h (by omega)⟩
  case round =>
   obtain⟨k,rfl,hk,rfl,HX⟩:=hrel;by_cases hkn:k<n
   ·obtain⟨ad,q,t,d,rfl,hbk,hx,hc0,hc1,hc2⟩:=rec3 HR.out hkn
    by_cases hd:d.size<=3000
    ·have hok:∀j r,j<k+1->l[j]? =some r->r.2.2.size<=3000:=by
      intro j r hj hr;rcases Nat.lt_or_ge j k with h|h
      ·exact HX.out j r h hr
      ·obtain rfl:j=k:=by omega
       rw[hx] at hr;cases hr;exact hd
     have HOK:=Lib.hid hok;have hd2: ¬ (3000:Int)<(d.size:Int):=by omega
     clear hok hx hc0 hc1 HX;go_wp2_with fail
     exact⟨⟨k+1,by go_num,by omega,trivial,HOK.out⟩,by simp[intOf];omega⟩
    ·have HF:=Lib.hid (few_no hx (by omega))
     have hd2:(3000:Int)<(d.size:Int):=by omega
     clear hx hc0 hc1 HX;go_wp2_with fail
     go_ret
     exact⟨ret_bool HF.out.symm,rfl⟩
   ·obtain rfl:k=n:=by omega
    have HF:=Lib.hid (few_yes (l:=l) (by omega) (by rw[hln];exact HX.out));clear HX HR;go_wp2_with fail
    go_ret
    exact⟨ret_bool HF.out.symm,rfl⟩
set_option maxHeartbeats 6400000 in
set_option maxRecDepth 100000 in
theorem same_yes (A B:Option Addr) (n c d:Nat) (l:List (Int×Int×ByteArray)) (w:World) (hrd:Rd w w.heap.size 3 A n (fl3 l)) (hrd2:Rd w w.heap.size 3 B n (fl3 l)) (hn:n<=100000) :
  Calls Tryz.prog 18 #[.slice A n c,.slice B n d] w fun e w'=>e=.returned (.bool true)/\Below w.heap.size w w':=by
 have mixed:Tryz.prog.follows .mixedOrders=true:=by kernel_rfl
 have HR:=Lib.hid (And.intro hrd hrd2);clear hrd hrd2
 go_enter Tryz.func18, Tryz.ntmps18
 go_wp2_with fail
 go_loopw [5] (fun v wr=>∃k:Nat,v=.int .i64 k/\k<=n/\Hid (Below w.heap.size w wr)) (fun v _=>n-(intOf v).toNat)
 case atStart=>exact⟨0,by go_num,by omega,Below.refl _ _⟩
 case round =>
  obtain⟨k,rfl,hk,HX⟩:=hrel;by_cases hkn:k<n
  ·obtain⟨ad,q,t,x,rfl,hbk,hx,hc0,hc1,hc2⟩:=rec3 (HR.out.1.below HX.out) hkn
   obtain⟨ad',q',t',x',rfl,hbk',hx',hd0,hd1,hd2⟩:=rec3 (HR.out.2.below HX.out) hkn;rw[hx] at hx';simp only[Option.some.injEq,Prod.mk.injEq] at hx';obtain⟨rfl,rfl,rfl⟩:=hx';have i1:(0:Int)<=(k:Int):=by omega
   have i2:(k:Int)<(n:Int):=by omega
   have i3:IntKind.i64.wrap (k:Int)=(k:Int):=by rw[IntKind.wrap_i64];omega
   have HB:=Lib.hid HX.out;clear hx hbk hbk' HX HR;go_wp2_with fail
   go_quiet (fail)
   go_wp2_with fail
   exact⟨⟨k+1,by go_num,by omega,below_drewN HB.out _⟩,by simp[intOf];omega⟩
  ·obtain rfl:k=n:=by omega
   have HB:=Lib.hid HX.out;clear HX HR;go_wp2_with fail
   go_ret
   exact⟨rfl,HB.out⟩
end Rd
end Go.Proofs.YtlnbjikooadmoaaGreat
namespace Go.Proofs.YtlnbjikooadmoaaGreat
namespace Dk
open Go.RowKit Rd
def OwnR (w:World) (B:Nat) (v:Value) (V:List Value):Prop:=w.ownsRow B 22 1 v V.length V
theorem ownR_info:(Tryz.prog.info? 22).map (fun i=>(i.zero,i.size,i.bytes))=some (some (.slice none 0 0),1,24):=by kernel_rfl
theorem appendR {ops:Array Oper} {rest:List Oper} {o:Oper} {a:Act} {Q:Exit->Act->World->Prop} {s x:Operand} {B:Nat} {v u:Value} {V:List Value} {w0:World} (hu:u.oneCell'=true) (hown:OwnR w0 B v V) (hl:V.length<=1000000) (hB:B<=w0.heap.size)
  (h:∀v' w',OwnR w' B v' (V++[u])->Below B w0 w'->wpList Tryz.prog ops Q rest (a.put o.dst v') w')
  (hgd:o.guard=none:=by exact rfl) (ho:o.op=.call { callee:=.builtin .append,args:=#[s,x],argTypes:=#[23,23] }:=by exact rfl)
  (hs:a.eval s=v:=by exact rfl) (hx:a.eval x=.slice (some ⟨w0.heap.size,0,none⟩) 1 1:=by exact rfl) :
  wpList Tryz.prog ops Q (o::rest) a (w0.alloc (.cells #[u] 22)):=by
 obtain⟨i0,hi,hz0,hz1,hz2⟩:=info_parts ownR_info;refine wpList_append_own_at _ hgd s x 23 ho B 22 i0 (.slice none 0 0) 1 24 Tryz.underlying23 hi hz0 hz1 hz2 rfl (by omega) v V.length V hs (World.ownsRow.alloc hown _)
  ⟨w0.heap.size,0,none⟩ 1 1 [u] hx rfl (cell_one_new w0 _ _) (by intro z hz;simp at hz;subst hz;exact hu) (by simp only[maxLen];omega) (by omega) (by simp;omega) ?_
 intro v' w' hown' hg _ hat;have hg0:w0.grownBy w' v.ownBlock:=(World.grownBy_alloc w0 _ v.ownBlock).trans hg;have hlt:=World.ownsRow.lt hown;refine h v' w' ?_ ((Below.refl _ _).grown hg0 hB (fun k hk=>(hlt k hk).1));unfold OwnR;rw[List.length_append];exact hown'
def Pts (w:World) (cs:List Value) (Q:List (List (Int×Int×ByteArray))):Prop :=
 cs.length=Q.length/\ ∀(j:Nat) (R:List (Int×Int×ByteArray)),Q[j]? =some R-> ∃(A:Option Addr) (n c:Nat),cs[j]? =some (Value.slice A n c)/\Rd w w.heap.size 3 A n (fl3 R)/\n<=100000
theorem Pts.snoc {w:World} {cs:List Value} {Q:List (List (Int×Int×ByteArray))} (h:Pts w cs Q) {A:Option Addr} {n c:Nat} {R:List (Int×Int×ByteArray)} (hr:Rd w w.heap.size 3 A n (fl3 R)) (hn:n<=100000):Pts w (cs++[Value.slice A n c]) (Q++[R]):=by
 refine⟨by simp[h.1],fun j R' hj=>?_⟩;by_cases hlt:j<Q.length
 ·rw[List.getElem?_append_left hlt] at hj
  obtain⟨A',n',c',q1,q2⟩:=h.2 j R' hj;exact⟨A',n',c',by rw[List.getElem?_append_left (by rw[h.1];exact hlt)];exact q1,q2⟩
 ·have hj':j=Q.length:=by
   have:=(List.getElem?_eq_some_iff.1 hj).1;simp at this;omega
  subst hj';simp only[List.getElem?_concat_length,Option.some.injEq] at hj;subst hj;exact⟨A,n,c,by rw[<-h.1,List.getElem?_concat_length],hr,hn⟩
theorem Pts.ext {w w':World} {cs:List Value} {Q:List (List (Int×Int×ByteArray))} (h:Pts w cs Q) (hb:Below w.heap.size w w'):Pts w' cs Q :=
 ⟨h.1,fun j R hj=>by
   obtain⟨A,n,c,q1,q2,q3⟩:=h.2 j R hj;exact⟨A,n,c,q1,q2.ext hb,q3⟩⟩
theorem fl3_cut' (l:List (Int×Int×ByteArray)) (k:Nat) (h:k<=l.length):(fl3 l).take (k*3)=fl3 (l.take k)/\(fl3 l).drop (k*3)=fl3 (l.drop k):=by
 have e:fl3 l=fl3 (l.take k)++fl3 (l.drop k):=by rw[<-fl3_append,List.take_append_drop]
 have hl:(fl3 (l.take k)).length=k*3:=by rw[length_fl3,List.length_take,Nat.min_eq_left h]
 constructor
 ·rw[e,<-hl,List.take_left]
 ·rw[e,<-hl,List.drop_left]
structure Pa (w:World) (l:List (Int×Int×ByteArray)) (A:Option Addr) (n c:Nat) (v:Value) (wr:World):Prop where
 rd:∃off,off<=l.length/\n=l.length-off/\Rd w w.heap.size 3 A n (fl3 (l.drop off))/\ ∃cs Q,OwnR wr w.heap.size v cs/\Pts w cs Q/\Q.flatten=l.take off/\(∀R∈Q,jE R=0/\R≠ [])/\cs.length<=off
 nc:n<=c/\c<=maxLen
 below:Below w.heap.size w wr
def PtsAns (l:List (Int×Int×ByteArray)) (m:Int) (w:World) (v:Value) (w':World):Prop :=
 (∃A c,v=.slice A 0 c)∨ ∃cs Q,OwnR w' w.heap.size v cs/\Pts w cs Q/\Q≠ []/\Q.flatten=l/\(∀R∈Q,jE R=0/\R≠ [])/\l.length<=200/\rowE none l=0
set_option maxHeartbeats 6400000 in
set_option maxRecDepth 100000 in
theorem parts_any (A:Option Addr) (n c:Nat) (l:List (Int×Int×ByteArray)) (m:Int) (w:World) (hrd:Rd w w.heap.size 3 A n (fl3 l)) (hnc:n<=c) (hcm:c<=maxLen) (hm:m<=9223372036854775807) :
  Calls Tryz.prog 5 #[.slice A n c,.int .i64 m] w fun e w'=>∃v,e=.returned v/\PtsAns l m w v w'/\Below w.heap.size w w':=by
 have hln:=rd3_len hrd;have HF:=Lib.hid (few_any A n c l w hrd hnc hcm);by_cases hf:few l=true
 ·have hl2:=few_len hf
  have HW:=Lib.hid (row_any A n c l w hrd (by omega));rw[hf] at HF;by_cases hm1:m<1
  ·clear hrd hf hl2
   go_enter Tryz.func5, Tryz.ntmps5
   go_wp2_with (first
    |(go_at_call 25;refine HF.out.mono ?_;rintro e1 w1 ⟨rfl,rfl⟩)
    |(go_at_call 26;refine HW.out.mono ?_;rintro e2 w2 ⟨rfl,hb2⟩))
   go_ret
   exact⟨_,rfl,.inl ⟨_,_,rfl⟩,Below.refl _ _⟩
  ·by_cases hr:rowE none l=0
   ·rw[hr] at HW
    have H0:∀w2,Below w.heap.size w w2->Aside (Pa w l A n c (.slice none 0 0) w2):=fun w2 hb2 =>
     ⟨⟨0,Nat.zero_le _,by omega,hrd,[],[],World.ownsRow_nil _ _ _ _,⟨rfl,fun j R hj=>(by simp at hj)⟩,rfl,fun R hR=>(by cases hR),Nat.le_refl _⟩,⟨hnc,hcm⟩,hb2⟩
    have HL2:=Lib.hid hl2;have HR:=Lib.hid hr;have hn200:n<=200:=by omega
    clear hrd hf hl2 hr
    go_enter Tryz.func5, Tryz.ntmps5
    go_wp2_with (first
     |(go_at_call 25;refine HF.out.mono ?_;rintro e1 w1 ⟨rfl,rfl⟩)
     |(go_at_call 26;refine HW.out.mono ?_;rintro e2 w2 ⟨rfl,hb2⟩;have H1:=H0 w2 hb2;clear hb2 H0))
    go_loopg [0,5] 201 (fun kx s0 s5 wr=>∃(A':Option Addr) (n' c':Nat),s0=.slice A' n' c'/\n'<=kx/\n'<=200/\Aside (Pa w l A' n' c' s5 wr))
    case atStart=>exact⟨A,n,c,rfl,by omega,hn200,H1⟩
    case round =>
     clear H1 HW HF;obtain⟨A',n',c',rfl,hk,hk2,H⟩:=hrel;by_cases h0:0<n'
     ·obtain⟨off,ho1,ho2,hrd',cs,Q,hown,hpts,hfl,hjs,hcl⟩:=H.out.rd
      have hnc':=H.out.nc;obtain⟨k,hk1,hk3,hmin⟩:∃k:Nat,1<=k/\k<=n'/\min m (n':Int)=(k:Int):=by
       by_cases hmn:m<=(n':Int)
       ·exact⟨m.toNat,by omega,by omega,by omega⟩
       ·exact⟨n',by omega,Nat.le_refl _,by omega⟩
      have hcut:=fl3_cut' (l.drop off) k (by rw[List.length_drop];omega);have hrT:=hrd'.take (k:=k) hk3;rw[hcut.1] at hrT;have hrD:=hrd'.drop (k:=k) (cap:=c') hk3 hnc'.1;rw[hcut.2,List.drop_drop] at hrD;have HJ:=Lib.hid (join_any A' k c' ((l.drop off).take k) wr ((hrT.below H.out.below).more H.out.below.size) (by omega));have hRne:(l.drop off).take k≠ []:=by
       intro e;have:=congrArg List.length e;rw[List.length_take,List.length_drop] at this;simp at this;omega
      have hkc:(k:Int)<=(c':Int):=by omega
      have hk0:(0:Int)<=(k:Int):=by omega
      have hkn:(k:Int)<=(n':Int):=by omega
      by_cases hj:jE ((l.drop off).take k)=0
      ·have HN:=Lib.hid (show ∀(v':Value) (w5:World),OwnR w5 w.heap.size v' (cs++[Value.slice A' k c'])->Below w.heap.size w w5->Pa w l (if c'=k then A' else A'.map (·.add (k*3))) (n'-k) (c'-k) v' w5 from fun v' w5 hv hb =>
        ⟨⟨off+k,by omega,by omega,hrD,cs++[Value.slice A' k c'],Q++[(l.drop off).take k],hv,hpts.snoc hrT (by omega),by rw[List.flatten_append,hfl,List.flatten_singleton,List.take_add],fun R hR=>by
          rcases List.mem_append.1 hR with hR|hR
          ·exact hjs R hR
          ·rw[List.mem_singleton] at hR;subst hR;exact⟨hj,hRne⟩,by rw[List.length_append,List.length_singleton];omega⟩,⟨by omega,by have:=hnc'.2;omega⟩,hb⟩)
       rw[hj] at HJ;have HOW:=Lib.hid hown;have HB:=Lib.hid H.out.below;have hcl2:cs.length<=200:=by have:=HL2.out;omega
       clear hrd' hown hpts hfl hjs hcl hcut hrT hrD hRne hj H hnc' ho1 ho2 hln;go_wp2_with (first
        |(go_at_call 27;refine HJ.out.mono ?_;rintro e1 w1 ⟨rfl,hb1⟩;have HB1:=Lib.hid (HB.out.trans (hb1.mono HB.out.size));have HO1:=Lib.hid (own_below (B:=wr.heap.size) HOW.out hb1 (Nat.le_refl _));clear hb1)
        |(at_builtin;refine appendR rfl HO1.out (by omega) HB1.out.size ?_;intro v' w5 hv5 hb5;have HN5:Aside _:=HN.out v' w5 hv5 (HB1.out.trans hb5);clear hv5 hb5))
       all_goals
        go_roundg (gk-1)
        case measure=>omega
        case rel=>exact⟨_,_,_,rfl,by omega,by omega,by first|(have hck:c'=k:=(by omega);have h5:=HN5.out;rw[if_pos hck,show c'-k=0 by omega] at h5;exact h5)|(have hck: ¬ c'=k:=(by omega);have h5:=HN5.out;rw[if_neg hck] at h5;exact h5)⟩
      ·have hj':(jE ((l.drop off).take k) != 0)=true:=by rw[bne_iff_ne];exact hj
       have HB:=Lib.hid H.out.below;clear hrd' hown hpts hfl hjs hcl hcut hrT hrD hRne hj H hnc' ho1 ho2 hln;go_wp2_with (first
        |(go_at_call 27;refine HJ.out.mono ?_;rintro e1 w1 ⟨rfl,hb1⟩;have HB1:=Lib.hid (HB.out.trans (hb1.mono HB.out.size));clear hb1))
       go_ret
       exact⟨_,rfl,.inl ⟨_,_,rfl⟩,HB1.out⟩
     ·obtain rfl:n'=0:=by omega
      have HE:=Lib.hid (show PtsAns l m w u5 wr/\Below w.heap.size w wr from by
       obtain⟨off,ho1,ho2,-,cs,Q,hown,hpts,hfl,hjs,hcl⟩:=H.out.rd;refine⟨?_,H.out.below⟩;have e:off=l.length:=by omega
       rw[e,List.take_length] at hfl;rcases hQ:Q with _|⟨q,Q'⟩
       ·rw[hQ] at hpts
        have:cs=[]:=List.eq_nil_of_length_eq_zero hpts.1;subst this;rcases hown.2 with ⟨e1,-⟩|⟨g,cap,cur,e1,q1,q2,q3,q4,q5⟩
        ·exact .inl ⟨_,_,e1⟩
        ·exact .inl ⟨_,_,e1⟩
       ·exact .inr ⟨cs,Q,hown,hpts,by rw[hQ];simp,hfl,hjs,HL2.out,HR.out⟩)
      clear H;go_wp2_with fail
      go_ret
      exact⟨_,rfl,HE.out⟩
   ·have hr':(rowE none l != 0)=true:=by rw[bne_iff_ne];exact hr
    clear hrd hf hl2
    go_enter Tryz.func5, Tryz.ntmps5
    go_wp2_with (first
     |(go_at_call 25;refine HF.out.mono ?_;rintro e1 w1 ⟨rfl,rfl⟩)
     |(go_at_call 26;refine HW.out.mono ?_;rintro e2 w2 ⟨rfl,hb2⟩))
    go_ret
    exact⟨_,rfl,.inl ⟨_,_,rfl⟩,hb2⟩
 ·have hf0:few l=false:=by simpa using hf
  rw[hf0] at HF;clear hrd hf hf0
  go_enter Tryz.func5, Tryz.ntmps5
  go_wp2_with (go_at_call 25;refine HF.out.mono ?_;rintro e1 w1 ⟨rfl,rfl⟩)
  go_ret
  exact⟨_,rfl,.inl ⟨_,_,rfl⟩,Below.refl _ _⟩
end Dk
end Go.Proofs.YtlnbjikooadmoaaGreat
namespace Go.Proofs.YtlnbjikooadmoaaGreat
namespace Sn
open Go.RowKit Hd Fm Bk Rd
section
variable {ops:Array Oper} {rest:List Oper} {o:Oper} {a:Act} {Q:Exit->Act->World->Prop}
end
end Sn
end Go.Proofs.YtlnbjikooadmoaaGreat
namespace Go.Proofs.YtlnbjikooadmoaaGreat
namespace Sn
open Go.RowKit Hd Bk
set_option maxHeartbeats 3200000 in
set_option maxRecDepth 100000 in
theorem same_mt (A A':Option Addr) (n c c':Nat) (l:List Mt) (w:World) (h1:Rd w w.heap.size 7 A n (fl7 l)) (h2:Rd w w.heap.size 7 A' n (fl7 l)) (hn:n<=1000000) :
  Calls Tryz.prog 17 #[.slice A n c,.slice A' n c'] w fun e w'=>e=.returned (.bool true)/\Below w.heap.size w w':=by
 have mixed:Tryz.prog.follows .mixedOrders=true:=by kernel_rfl
 have HR1:=Lib.hid h1;have HR2:=Lib.hid h2;have hb0:=(show((n:Int) != (n:Int))=false by simp)
 clear h1 h2
 go_enter Tryz.func17, Tryz.ntmps17
 go_wp2_with fail
 go_loopw [5] (fun v wr=>∃k:Nat,v=.int .i64 k/\k<=n/\Hid (Below w.heap.size w wr)) (fun v _=>n-(intOf v).toNat)
 case atStart=>exact⟨0,by go_num,by omega,Lib.hid (Below.refl _ _)⟩
 case round =>
  obtain⟨k,rfl,hk,HX⟩:=hrel;by_cases hkn:k<n
  ·obtain⟨ad,m,rfl,hbk,hx,c0,c1,c2,c3,c4,c5,c6⟩:=mt_at (HR1.out.below HX.out) hkn
   obtain⟨ad',m',rfl,hbk',hx',d0,d1,d2,d3,d4,d5,d6⟩:=mt_at (HR2.out.below HX.out) hkn;obtain rfl:m=m':=by rw[hx] at hx';exact Option.some.inj hx'
   clear hx hx';obtain⟨ma,ms,mr,mc,mf,me,ml⟩:=m;dsimp only at *
   go_wp2_with fail
   go_quiet (fail)
   have HP:=Lib.hid (HX.out.trans (ext_drewN wr nq |>.mono HX.out.size));go_wp2_with fail
   go_roundw
   case rel=>exact⟨k+1,by go_num,by omega,HP⟩
   case measure=>simp[intOf];omega
  ·obtain rfl:k=n:=by omega
   have HB:=HX;go_wp2_with fail
   go_ret
   exact⟨rfl,HB.out⟩
end Sn
end Go.Proofs.YtlnbjikooadmoaaGreat
