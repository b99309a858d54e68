/- The probe of scan, plainly: a header, one block. varvelaw23: awake. varvelaw23: awake, walked. varvelaw15.Few, varveref15.Same. varvelaw23: parts. scan.Records, where the blocks stand. varveref21.Same, at rows that are the same. SegKeeps: the walk, block by block. SegKeeps: every row of records, every number. An argument that is a slice of records. -/
import Derived.Test.YtlnbjikooadmoaaGreatKe54
import Derived.Test.YtlnbjikooadmoaaGreatKe49
import Derived.Deep.Cut
import Derived.Test.YtlnbjikooadmoaaGreatKe50
import Derived.Deep.LoopGhost
import Derived.Deep.QuietTactic
import Derived.BigQuiet
import Derived.Test.YtlnbjikooadmoaaGreatKe53
import Derived.Test.YtlnbjikooadmoaaGreatKe52
import Derived.Deep.RegionWith
import Derived.Deep.Slices
import Derived.Deep.Fields
import Derived.ChangeSame
namespace Go.Proofs.YtlnbjikooadmoaaGreat
namespace Sn
open Go.RowKit Hd Fm Bk Vi Rd
def r0:List (Int×Int×ByteArray):=[(1,5,hi)]
def c0:ByteArray:=⟨#[0,5,1,1,5,0,1,5,2,104,105]⟩
theorem put5:putV 5=[5]:=by rw[putV_small (by omega)];rfl
theorem joinB_r0:joinB r0=[1,5,2,104,105]:=by
 show recB (1,5,hi)++[]=_
 unfold recB
 show(putV 1++(putV 5++(putV 2++[104,105])))++[]=_
 rw[Bk.put1,put5,put2];rfl
theorem row_r0:rowE none r0=0:=by decide
theorem jE_r0:jE r0=0:=by
 unfold jE
 rw[if_neg (by rw[row_r0];decide),if_neg (by rw[joinB_r0];decide)]
theorem blk_r0 (A:List Nat):blk r0 A=c0.data.toList:=by
 have h1:isP r0 A=false:=isP_short A (by rw[joinB_r0];decide)
 have h2:(joinB r0).length=5:=by rw[joinB_r0];rfl
 have h3:hd5 r0=[5,1,1,5,0]:=by unfold hd5;rw[h2];rfl
 unfold blk mode body
 rw[if_neg (by rw[h1];decide),if_neg (by rw[h1];decide),h3,joinB_r0]
 show _::((putV 5++(putV 1++(putV 1++(putV 5++(putV 0++[])))))++_)=_
 rw[put5,Bk.put1,put0];rfl
theorem sorted_r0:Sx.Sorted (joinB r0) [5,0,2,1,3,4]:=by rw[joinB_r0];exact⟨by decide,by decide⟩
def h0B:ByteArray:=hdrB 1 1 1
theorem hb111:(hb 1 1 1).size=3:=by
 unfold hb
 rw[Bk.put1];rfl
theorem h0B_size:h0B.size=12:=by unfold h0B hdrB;rw[size_frB,hb111]
def s0:ByteArray:=h0B++frB 2 c0
theorem s0_size:s0.size=32:=by
 unfold s0
 rw[ByteArray.size_append,size_frB,h0B_size];rfl
def mt0:Mt:=⟨12,20,5,1,1,5,5⟩
theorem rn_s0:Sn.rn 1 s0 [] 12=([mt0],32):=by
 have hr:Sn.rn 1 h0B [] 12=([],12):=rn_end 1 h0B [] 12 (by rw[h0B_size];exact Nat.le_refl _)
 have h:=rn_more (h1:=1) (e0:=12) (F:=1) (E:=5) (L:=5) (s:=h0B) (B:=c0) (A:=[5,0,2,1,3,4]) (R:=r0) (by rw[h0B_size];decide) (by rw[h0B_size];exact Nat.le_refl _) (blk_r0 _).symm jE_r0 (by decide) sorted_r0 rfl rfl rfl
  (by rw[hr];decide) (by rw[hr];rfl) (by rw[hr];decide)
 rw[hr] at h
 have he:h0B.extract 0 12=h0B:=ba_ext (by rw[ext_list,List.drop_zero,Nat.sub_zero,List.take_of_length_le (by rw[size_list,h0B_size];exact Nat.le_refl _)])
 rw[he] at h
 rw[show(frB 2 c0)=frB 2 c0 from rfl] at h
 unfold s0
 rw[h]
 unfold mtOf mt0
 rw[joinB_r0];rfl
theorem rn_behind (x:ByteArray) (h:GF (s0++x) 32->good 1 [mt0] (fr (s0++x) 32)=none):Sn.rn 1 (s0++x) [] 12=([mt0],32):=by
 have he:s0.extract 0 32=s0:=ba_ext (by rw[ext_list,List.drop_zero,Nat.sub_zero,List.take_of_length_le (by rw[size_list,s0_size];exact Nat.le_refl _)])
 have ha:=agree_app s0 x 32 (by rw[s0_size];exact Nat.le_refl _)
 rw[he] at ha
 have hr:=rn_to 1 s0 (s0++x) 32 ha [] 12 (by rw[rn_s0];exact Nat.le_refl _)
 rw[rn_s0] at hr
 rw[hr,rn_stop h]
theorem pre_s0 (x:ByteArray):preB (s0++x) (hdrB 1 1 1)=true:=by
 rw[preB_iff]
 refine ba_ext ?_
 have h12:(hdrB 1 1 1).size=12:=h0B_size
 rw[ext_list,List.drop_zero,Nat.sub_zero,h12]
 unfold s0
 rw[ByteArray.data_append,Array.toList_append,ByteArray.data_append,Array.toList_append,List.append_assoc,List.take_append_of_le_length (by rw[size_list,h0B_size];exact Nat.le_refl _),List.take_of_length_le (by rw[size_list,h0B_size];exact Nat.le_refl _)]
 rfl
theorem tl_of_rn {s:ByteArray} (hp:preB s (hdrB 1 1 1)=true):tl s 1 1 1=some (Sn.rn 1 s [] 12):=by
 unfold tl
 rw[if_pos ⟨by decide,hp⟩]
 have h12:(hdrB 1 1 1).size=12:=h0B_size
 show some (Sn.rn 1 s [] (hdrB 1 1 1).size)=_
 rw[h12]
def s1:ByteArray:=s0++frB 3 (ftB [mt0])
end Sn
end Go.Proofs.YtlnbjikooadmoaaGreat
namespace Go.Proofs.YtlnbjikooadmoaaGreat
namespace Dk
open Go.RowKit Hd Fm Sn Bk Rd Bd
structure Onc (c:Int) (D:DS) (b:Nat) (s:ByteArray) (p:ByteArray×ByteArray):Prop where
 calm:Calm D
 now:D.now=[(s,b)]
 fl:D.fl b=some p
 cap:D.cap=c
section
variable {c:Int} {D:DS} {b:Nat} {s:ByteArray} {p:ByteArray×ByteArray} (h:Onc c D b s p)
include h
theorem Onc.lk:lk s D.now=some b:=by rw[h.now,lk_cons,if_pos rfl]
theorem Onc.used:usedD D=p.2.size:=by
 unfold usedD
 rw[h.now,szs,szs,h.fl];rfl
theorem Onc.set (q:ByteArray×ByteArray):Onc c (setF b q (tick D)) b s q:=⟨h.calm.tick.setF b _,h.now,fl_set b _ _,h.cap⟩
theorem Onc.read:readP D s=(p.2,0):=by
 unfold readP
 rw[h.calm.off,h.lk]
 simp[h.fl]
end
theorem onc_new (c:Int) (s hd:ByteArray) (b:Nat):Onc c (d3 s hd b (newD c)) b s (hd,hd):=by
 have:Onc c (d3 s hd b (newD c)) b s (⟨#[]⟩++hd,⟨#[]⟩++hd):=⟨calm_d3 ⟨rfl,rfl⟩ s hd b,d3_now (D:=newD c) rfl,fl_set b _ _,rfl⟩
 rwa [emp_app] at this
structure Aw (w0:World) (bd b:Nat) (p:ByteArray×ByteArray) (K:List (Nat×Array Value×TypeId)) (wx:World):Prop where
 ex:∃(S:Nat->Prop) (D:DS),DiskAt wx S bd D/\Onc 1000 D b (segN 1 1) p/\(∀j,S j->w0.heap.size<=j)/\(∀x∈K,¬ S x.1)
 kp:∀x∈K,Blk wx x.1 x.2.1 x.2.2
 below:Below w0.heap.size w0 wx
theorem Aw.ext {w0 wx wy:World} {bd b:Nat} {p:ByteArray×ByteArray} {K:List (Nat×Array Value×TypeId)} (h:Aw w0 bd b p K wx) (hb:Below wx.heap.size wx wy):Aw w0 bd b p K wy:=by
 obtain⟨⟨S,D,h1,h2,h3,h4⟩,h5,h6⟩:=h
 exact⟨⟨S,D,h1.ext hb,h2,h3,h4⟩,fun x hx=>(h5 x hx).ext hb,h6.trans (hb.mono h6.size)⟩
theorem Aw.add {w0 wx:World} {bd b:Nat} {p:ByteArray×ByteArray} {K:List (Nat×Array Value×TypeId)} (h:Aw w0 bd b p K wx) (cs:Array Value) (t:TypeId):Aw w0 bd b p ((wx.heap.size,cs,t)::K) (wx.alloc (.cells cs t)):=by
 have h':=h.ext (ext_alloc wx (.cells cs t))
 obtain⟨⟨S,D,h1,h2,h3,h4⟩,h5,h6⟩:=h
 refine⟨⟨S,D,h1.ext (ext_alloc wx _),h2,h3,fun x hx=>?_⟩,fun x hx=>?_,h'.below⟩
 ·rcases List.mem_cons.1 hx with rfl|hx
  ·exact h1.gt (Nat.le_refl _)
  ·exact h4 x hx
 ·rcases List.mem_cons.1 hx with rfl|hx
  ·exact Blk.new wx cs t
  ·exact h'.kp x hx
theorem Aw.step {w0 wx wy:World} {bd b:Nat} {p':ByteArray×ByteArray} {K:List (Nat×Array Value×TypeId)} {S S':Nat->Prop} {D':DS} (h3:∀j,S j->w0.heap.size<=j) (h4:∀x∈K,¬ S x.1) (h5:∀x∈K,Blk wx x.1 x.2.1 x.2.2) (h6:Below w0.heap.size w0 wx)
  (hd:DiskAt wy S' bd D') (ho:Onc 1000 D' b (segN 1 1) p') (hg:Gr S wx S' wy):Aw w0 bd b p' K wy :=
 ⟨⟨S',D',hd,ho,hg.ge h6.size h3,fun x hx=>hg.out (h5 x hx).lt (h4 x hx)⟩,fun x hx=>hg.blk (h5 x hx) (h4 x hx),h6.trans (hg.below h6.size h3)⟩
theorem seg11:segN 1 1=⟨#[115,101,103,45,48,48,48,48,48,49,45,48,48,48,48,48,49,46,108,111,103]⟩:=by decide
def junk:ByteArray:=⟨#[106,117,110,107]⟩
theorem tl_junk:tl (s0++junk) 1 1 1=some ([mt0],32):=by
 rw[tl_of_rn (pre_s0 _),rn_behind]
 intro hg
 have:=GF_to hg
 have h33:(s0++junk).size=36:=by rw[ByteArray.size_append,s0_size];rfl
 omega
theorem junk_cut:(s0++junk).extract 0 32=s0:=by
 refine ba_ext ?_
 rw[ext_list,List.drop_zero,Nat.sub_zero,ByteArray.data_append,Array.toList_append,List.take_append_of_le_length (by rw[size_list,s0_size];exact Nat.le_refl _),List.take_of_length_le (by rw[size_list,s0_size];exact Nat.le_refl _)]
theorem blk_c0 {B:ByteArray} (h:BlkOf r0 B):B=c0:=by
 obtain⟨A,-,h⟩:=h
 rw[blk_r0] at h
 exact ba_ext h
def hd3:Array Value:=#[.int .i64 1,.int .i64 1,.int .i64 1]
def rc3:Array Value:=#[.int .i64 1,.int .i64 5,.string hi]
section
variable {w0 wx w1:World} {bd b g4:Nat} {p:ByteArray×ByteArray} {K:List (Nat×Array Value×TypeId)}
theorem rd_r0 (h:Blk wx g4 rc3 31):Rd wx wx.heap.size 3 (some ⟨g4,0,none⟩) 1 (fl3 r0) :=
 ⟨rfl,fun _=>⟨_,rfl,h.lt,fun j u hu=>by
  rw[Addr.add_lit,Nat.zero_add]
  exact h.cell j (by simpa[rc3,r0,fl3,cl3] using hu)⟩⟩
theorem hh1:1<=1/\1<=999999/\1<=1/\1<=999999/\1<=1/\1<=1000000000:=by omega
theorem okH1:okH 1 1 1=true:=by decide
theorem aw_create {S:Nat->Prop} (hd:DiskAt w1 S bd (newD 1000)) (hg:Gr (fun _=>False) w0 S w1) :
  Calls Tryz.prog 8 #[.pointer (some ⟨bd,0,none⟩),.agg hd3] ((w1.alloc (.cells hd3 33)).alloc (.cells rc3 31)) fun e w'=>e=.returned (.int .i64 0)/\ ∃b,Aw w0 bd b (h0B,h0B) [(w1.heap.size+1,rc3,31),(w1.heap.size,hd3,33)] w':=by
 have yy:=Create_go (i:=1) (g:=1) (f:=1) (hd.ext (ext_second w1 (.cells hd3 33) (.cells rc3 31))) ⟨rfl,rfl⟩ hh1 rfl (by show 0<200;omega) (by show 0<=1000000;omega) (by show(36:Int)+((0:Nat):Int)<=1000;omega)
 rw[show((1:Nat):Int)=1 from rfl] at yy
 refine yy.mono ?_
 rintro e w' ⟨rfl,b,S',-,q1,q2⟩
 have h0:Below w0.heap.size w0 w1:=hg.below (Nat.le_refl _) (fun _ h=>h.elim)
 have h1:=h0.trans ((ext_second w1 (.cells hd3 33) (.cells rc3 31)).mono h0.size)
 refine⟨rfl,b,Aw.step (hg.ge (Nat.le_refl _) (fun _ h=>h.elim)) (fun x hx=>?_) (fun x hx=>?_) h1 q1 (onc_new 1000 (segN 1 1) h0B b) q2⟩
 ·simp only[List.mem_cons,List.not_mem_nil,or_false] at hx
  rcases hx with rfl|rfl
  ·exact hd.gt (Nat.le_succ _)
  ·exact hd.gt (Nat.le_refl _)
 ·simp only[List.mem_cons,List.not_mem_nil,or_false] at hx
  rcases hx with rfl|rfl
  ·exact blk_second w1 _ _ _
  ·exact(Blk.new w1 _ _).alloc _
theorem aw_add (h:Aw w0 bd b (h0B,h0B) K wx) (hr:Blk wx g4 rc3 31) :
  Calls Tryz.prog 10 #[.pointer (some ⟨bd,0,none⟩),.agg hd3,.int .i64 12,.slice (some ⟨g4,0,none⟩) 1 1] wx fun e w'=>e=.returned (.tuple #[.agg #[.int .i64 12,.int .i64 20,.int .i64 5,.int .i64 1,.int .i64 1,.int .i64 5,.int .i64 5],.int .i64 0])/\Aw w0 bd b (h0B,s0) K w':=by
 obtain⟨⟨S,D,h1,h2,h3,h4⟩,h5,h6⟩:=h
 have hj5:(joinB r0).length=5:=by rw[joinB_r0];rfl
 have yy:=Add_go (i:=1) (g:=1) (f:=1) (at':=12) (c:=1) h1 h2.calm okH1 h2.lk h2.fl (rd_r0 hr) (by omega) jE_r0 (by decide) (by rw[hj5];show h0B.size+_<=_;rw[h0B_size];decide) (by rw[hj5,h2.used,h2.cap];show _+((h0B.size:Nat):Int)<=_;rw[h0B_size];decide)
 rw[show((12:Nat):Int)=12 from rfl] at yy
 refine yy.mono ?_
 rintro e w' ⟨B,hB,rfl,S',q1,q2⟩
 obtain rfl:=blk_c0 hB
 refine⟨?_,Aw.step h3 h4 h5 h6 q1 (h2.set _) q2⟩
 unfold mv mtOf
 dsimp only
 rw[hj5];rfl
theorem aw_sync (h:Aw w0 bd b p K wx):Calls Tryz.prog 20 #[.pointer (some ⟨bd,0,none⟩),.agg hd3] wx fun e w'=>e=.returned (.int .i64 0)/\Aw w0 bd b (p.2,p.2) K w':=by
 obtain⟨⟨S,D,h1,h2,h3,h4⟩,h5,h6⟩:=h
 refine(Sync_go (i:=1) (g:=1) (f:=1) h1 okH1 h2.calm.off h2.lk h2.fl).mono ?_
 rintro e w' ⟨rfl,S',q1,q2⟩
 rw[h2.calm.e]
 rw[h2.calm.s] at q1
 exact⟨rfl,Aw.step h3 h4 h5 h6 q1 (h2.set _) q2⟩
theorem aw_app (h:Aw w0 bd b (s0,s0) K wx):Calls Tryz.prog 28 #[.pointer (some ⟨bd,0,none⟩),.string (segN 1 1),.string junk] wx fun e w'=>e=.returned (.int .i64 0)/\Aw w0 bd b (s0,s0++junk) K w':=by
 obtain⟨⟨S,D,h1,h2,h3,h4⟩,h5,h6⟩:=h
 have hj:junk.size=4:=rfl
 refine(append_go h1 h2.calm.off h2.lk h2.fl (by show s0.size+_<=_;rw[s0_size,hj];decide) (by rw[h2.used,h2.cap,hj];show _+((s0.size:Nat):Int)<=_;rw[s0_size];decide)).mono ?_
 rintro e w' ⟨rfl,S',q1,q2⟩
 rw[h2.calm.e]
 rw[h2.calm.s] at q1
 exact⟨rfl,Aw.step h3 h4 h5 h6 q1 (h2.set _) q2⟩
theorem aw_trim (h:Aw w0 bd b (s0,s0++junk) K wx):Calls Tryz.prog 23 #[.pointer (some ⟨bd,0,none⟩),.agg hd3] wx fun e w'=>∃(g cap:Nat) (cur:Array Value),e=.returned (.tuple #[.slice (some ⟨g,0,none⟩) 1 cap,.int .i64 32,.int .i64 0])/\cur.toList.take 7=fl7 [mt0]/\Aw w0 bd b (s0,s0) ((g,cur,39)::K) w':=by
 obtain⟨⟨S,D,h1,h2,h3,h4⟩,h5,h6⟩:=h
 have hz:(s0++junk).size=36:=by rw[ByteArray.size_append,s0_size];rfl
 have yy:=Trim_cut (i:=1) (g:=1) (f:=1) h1 h2.calm okH1 h2.lk h2.fl tl_junk (by show 32<(s0++junk).size;rw[hz];decide)
 rw[show((32:Nat):Int)=32 from rfl] at yy
 refine yy.mono ?_
 rintro e w' ⟨A',n',c',rfl,hown,S',q1,q2,q3⟩
 have ho:Onc 1000 (trimD b (s0,s0++junk) 32 D) b (segN 1 1) (s0,s0):=by
  have:=(h2.set (s0,s0)).set (s0,s0)
  unfold trimD syncD
  dsimp only
  rw[junk_cut];exact this
 have hA:=Aw.step h3 h4 h5 h6 q1 ho q2
 have hn:n'=1:=by
  obtain⟨A1,c1,e1,-⟩:=hown.rd
  cases e1;rfl
 subst hn
 rcases hown.2 with ⟨-,e⟩|⟨g,cap,cur,e1,-,hc,-,-,-,ht⟩
 ·cases e
 ·cases e1
  refine⟨g,c',cur,rfl,ht,⟨S',_,q1,ho,q2.ge h6.size h3,fun x hx=>?_⟩,fun x hx=>?_,hA.below⟩
  ·rcases List.mem_cons.1 hx with rfl|hx
   ·exact q3 _ rfl
   ·exact q2.out (h5 x hx).lt (h4 x hx)
  ·rcases List.mem_cons.1 hx with rfl|hx
   ·exact hc
   ·exact q2.blk (h5 x hx) (h4 x hx)
theorem end_1:endM (hdrB 1 1 1).size [mt0]+((ftB [mt0]).size+9)=s1.size:=by
 unfold s1
 rw[ByteArray.size_append,size_frB,s0_size];rfl
theorem ok_1:okBl [mt0]=true:=by decide
theorem ft_1:(ftB [mt0]).size<=40:=by have:=ft_le ok_1;simpa using this
theorem rd_row {g cap:Nat} {cur:Array Value} (hk:Blk wx g cur 39) (ht:cur.toList.take 7=fl7 [mt0]):Rd wx wx.heap.size 7 (some ⟨g,0,none⟩) 1 (fl7 [mt0]) :=
 ⟨rfl,fun _=>⟨_,rfl,hk.lt,fun j u hu=>by
  rw[Addr.add_lit,Nat.zero_add]
  refine hk.cell j ?_
  rw[<-ht,List.getElem?_take] at hu
  split at hu
  ·simpa using hu
  ·cases hu⟩⟩
theorem aw_seal {g cap:Nat} {cur:Array Value} (h:Aw w0 bd b (s0,s0) K wx) (hk:Blk wx g cur 39) (ht:cur.toList.take 7=fl7 [mt0]) :
  Calls Tryz.prog 11 #[.pointer (some ⟨bd,0,none⟩),.agg hd3,.slice (some ⟨g,0,none⟩) 1 cap] wx fun e w'=>e=.returned (.tuple #[.int .i64 (s1.size:Int),.int .i64 0])/\Aw w0 bd b (s1,s1) K w':=by
 obtain⟨⟨S,D,h1,h2,h3,h4⟩,h5,h6⟩:=h
 have hf:=ft_1
 have hs:=s0_size
 have yy:=Seal_go (i:=1) (g:=1) (f:=1) (c:=cap) h1 h2.calm hh1 (rd_row (cap:=cap) hk ht) (by omega) ok_1 h2.lk h2.fl (by omega) (by show s0.size+_<=_;omega) (by rw[h2.used,h2.cap];show _+_+((s0.size:Nat):Int)<=_;omega) (by show 32<=2000000;omega)
 rw[show((1:Nat):Int)=1 from rfl,end_1] at yy
 refine yy.mono ?_
 rintro e w' ⟨rfl,S',q1,q2⟩
 exact⟨rfl,Aw.step h3 h4 h5 h6 q1 ((h2.set _).set _) q2⟩
theorem aw_read (h:Aw w0 bd b p K wx):Calls Tryz.prog 12 #[.pointer (some ⟨bd,0,none⟩),.agg hd3] wx fun e w'=>e=.returned (.tuple #[.string p.2,.int .i64 0])/\Aw w0 bd b p K w':=by
 have h':=h
 obtain⟨⟨S,D,h1,h2,h3,h4⟩,h5,h6⟩:=h
 have yy:=Read_go (i:=1) (g:=1) (f:=1) h1 okH1
 rw[h2.read] at yy
 refine yy.mono ?_
 rintro e w' ⟨rfl,hb⟩
 exact⟨rfl,h'.ext hb⟩
theorem aw_exist (h:Aw w0 bd b p K wx):Calls Tryz.prog 8 #[.pointer (some ⟨bd,0,none⟩),.agg hd3] wx fun e w'=>e=.returned (.int .i64 202)/\Below wx.heap.size wx w':=by
 obtain⟨⟨S,D,h1,h2,h3,h4⟩,h5,h6⟩:=h
 have yy:=Create_exist (i:=1) (g:=1) (f:=1) h1 hh1 h2.calm.off h2.lk
 rw[show((1:Nat):Int)=1 from rfl] at yy
 exact yy
theorem aw_bad:Calls Tryz.prog 8 #[.pointer (some ⟨bd,0,none⟩),.agg #[.int .i64 0,.int .i64 0,.int .i64 0]] wx fun e w'=>e=.returned (.int .i64 210)/\Below wx.heap.size wx w':=Create_bad 0 0 0 wx (by decide)
theorem aw_size (hr:Blk wx g4 rc3 31):Calls Tryz.prog 29 #[.slice (some ⟨g4,0,none⟩) 1 1] wx fun e w'=>e=.returned (.int .i64 20)/\Below wx.heap.size wx w' :=
 Size_go wx 20 (rd_r0 hr) (by omega) jE_r0 (by decide) fun B hB=>by rw[blk_c0 hB];rfl
end
end Dk
end Go.Proofs.YtlnbjikooadmoaaGreat
namespace Go.Proofs.YtlnbjikooadmoaaGreat
namespace Dk
open Go.RowKit Hd Fm Sn Bk Rd Bd
theorem Aw.hd {w0 wx:World} {bd b:Nat} {p:ByteArray×ByteArray} {K:List (Nat×Array Value×TypeId)} (h:Aw w0 bd b p K wx) {j:Nat} {cs:Array Value} {t:TypeId} (hx:(j,cs,t)∈K):Blk wx j cs t:=h.kp _ hx
def mtv:Array Value:=#[.int .i64 12,.int .i64 20,.int .i64 5,.int .i64 1,.int .i64 1,.int .i64 5,.int .i64 5]
set_option maxHeartbeats 6400000 in
set_option maxRecDepth 100000 in
theorem awake_any (w:World):Calls Tryz.prog 6 #[] w fun e w'=>e=.returned (.bool true)/\Below w.heap.size w w':=by
 have mixed:Tryz.prog.follows .mixedOrders=true:=by kernel_rfl
 have HN:=Lib.hid (new_ok 1000 w (by omega) (by omega))
 go_enter Tryz.func6, Tryz.ntmps6
 go_wp2_with fail
 refine HN.out.mono ?_
 rintro e1 w1 ⟨bd,rfl,S1,hd1,hg1⟩
 have HC:=Lib.hid (aw_create hd1 hg1)
 unfold hd3 rc3 hi at HC
 clear hd1 hg1 HN
 go_wp2_with fail
 refine HC.out.mono ?_
 rintro e2 w2 ⟨rfl,b,hA⟩
 have HA2:=Lib.hid hA
 have HH2:=Lib.hid (hA.kp _ (.tail _ (.head _)))
 have HR2:=Lib.hid (hA.kp _ (.head _))
 clear hA HC
 have HM:=Lib.hid (show(w1.heap.size,hd3,33)∈ [(w1.heap.size+1,rc3,31),(w1.heap.size,hd3,33)]/\(w1.heap.size+1,rc3,31)∈ [(w1.heap.size+1,rc3,31),(w1.heap.size,hd3,33)] from⟨.tail _ (.head _),.head _⟩)
 unfold hd3 rc3 hi at HM
 generalize hK:(_::_:List (Nat×Array Value×TypeId))=K at HA2 HM
 clear hK
 have k0:=HH2.out.cell 0 rfl
 have k1:=HH2.out.cell 1 rfl
 have k2:=HH2.out.cell 2 rfl
 go_wp2_with fail
 refine(aw_add HA2.out HR2.out).mono ?_
 rintro e3 w3 ⟨rfl,hA⟩
 have HA3:=Lib.hid (hA.add mtv 39)
 have HM3:=Lib.hid (hA.add mtv 39).below.size
 clear hA HA2 HH2 HR2 k0 k1 k2
 unfold mtv at HA3
 have HH3:=Lib.hid (HA3.out.kp _ (.tail _ HM.out.1))
 have k0:=HH3.out.cell 0 rfl
 have k1:=HH3.out.cell 1 rfl
 have k2:=HH3.out.cell 2 rfl
 go_wp2_with fail
 refine(aw_sync HA3.out).mono ?_
 rintro e4 w4 ⟨rfl,hA⟩
 have HA4:=Lib.hid hA
 clear hA HA3 HH3 k0 k1 k2
 have HAP:=Lib.hid (aw_app HA4.out)
 rw[seg11] at HAP
 unfold junk at HAP
 go_wp2_with fail
 refine HAP.out.mono ?_
 rintro e5 w5 ⟨rfl,hA⟩
 have HA5:=Lib.hid hA
 clear hA HA4 HAP
 have HH5:=Lib.hid (HA5.out.kp _ (.tail _ HM.out.1))
 have k0:=HH5.out.cell 0 rfl
 have k1:=HH5.out.cell 1 rfl
 have k2:=HH5.out.cell 2 rfl
 go_wp2_with fail
 refine(aw_trim HA5.out).mono ?_
 rintro e6 w6 ⟨g,cap,cur,rfl,ht,hA⟩
 have HA6:=Lib.hid hA
 have HT:=Lib.hid ht
 clear hA ht HA5 HH5 k0 k1 k2
 have HH6:=Lib.hid (HA6.out.kp _ (.tail _ (.tail _ HM.out.1)))
 have k0:=HH6.out.cell 0 rfl
 have k1:=HH6.out.cell 1 rfl
 have k2:=HH6.out.cell 2 rfl
 go_wp2_with fail
 refine(aw_seal HA6.out (HA6.out.kp _ (.head _)) HT.out).mono ?_
 rintro e7 w7 ⟨rfl,hA⟩
 have HA7:=Lib.hid hA
 clear hA HA6 HH6 k0 k1 k2
 have HH7:=Lib.hid (HA7.out.kp _ (.tail _ (.tail _ HM.out.1)))
 have k0:=HH7.out.cell 0 rfl
 have k1:=HH7.out.cell 1 rfl
 have k2:=HH7.out.cell 2 rfl
 go_wp2_with fail
 refine(aw_read HA7.out).mono ?_
 rintro e8 w8 ⟨rfl,hA⟩
 have HA8:=Lib.hid hA
 clear hA HA7 HH7 k0 k1 k2
 dsimp only at HA8 ⊢
 generalize s1=S at HA8 ⊢
 have HQ:=Lib.hid (show ∀q:Bw w8,Blk q.to w1.heap.size hd3 33/\Blk q.to (w1.heap.size+1) rc3 31/\Blk q.to w3.heap.size mtv 39/\Blk q.to g cur 39 from fun q =>
  ⟨(HA8.out.kp _ (.tail _ (.tail _ HM.out.1))).ext q.h,(HA8.out.kp _ (.tail _ (.tail _ HM.out.2))).ext q.h,(HA8.out.kp _ (.tail _ (.head _))).ext q.h,(HA8.out.kp _ (.head _)).ext q.h⟩)
 have HE:=Lib.hid (show ∀q:Bw w8,Calls Tryz.prog 8 #[.pointer (some ⟨bd,0,none⟩),.agg hd3] q.to fun e w'=>e=.returned (.int .i64 202)/\Below q.to.heap.size q.to w' from fun q=>aw_exist (HA8.out.ext q.h))
 have HBD:=Lib.hid (show ∀q:Bw w8,Calls Tryz.prog 8 #[.pointer (some ⟨bd,0,none⟩),.agg #[.int .i64 0,.int .i64 0,.int .i64 0]] q.to fun e w'=>e=.returned (.int .i64 210)/\Below q.to.heap.size q.to w' from fun q=>aw_bad)
 have HSZ:=Lib.hid (show ∀q:Bw w8,Calls Tryz.prog 29 #[.slice (some ⟨w1.heap.size+1,0,none⟩) 1 1] q.to fun e w'=>e=.returned (.int .i64 20)/\Below q.to.heap.size q.to w' from fun q=>aw_size (HQ.out q).2.1)
 unfold hd3 at HE
 have cu:∀(q:Bw w8) (k:Nat) (u:Value),(fl7 [mt0])[k]? =some u->q.to.cell? ⟨g,k,none⟩=some u:=fun q k u hu=>by
  refine(HQ.out q).2.2.2.cell k ?_
  rw[<-HT.out,List.getElem?_take] at hu
  split at hu
  ·simpa using hu
  ·cases hu
 have h0:=fun q:Bw w8=>(HQ.out q).1.cell 0 (v:=.int .i64 1) rfl
 have h1:=fun q:Bw w8=>(HQ.out q).1.cell 1 (v:=.int .i64 1) rfl
 have h2:=fun q:Bw w8=>(HQ.out q).1.cell 2 (v:=.int .i64 1) rfl
 have c0:=fun q=>cu q 0 (.int .i64 12) rfl
 have c1:=fun q=>cu q 1 (.int .i64 20) rfl
 have c2:=fun q=>cu q 2 (.int .i64 5) rfl
 have c3:=fun q=>cu q 3 (.int .i64 1) rfl
 have c4:=fun q=>cu q 4 (.int .i64 1) rfl
 have c5:=fun q=>cu q 5 (.int .i64 5) rfl
 have c6:=fun q=>cu q 6 (.int .i64 5) rfl
 have m0:=fun q:Bw w8=>(HQ.out q).2.2.1.cell 0 (v:=.int .i64 12) rfl
 have m1:=fun q:Bw w8=>(HQ.out q).2.2.1.cell 1 (v:=.int .i64 20) rfl
 have m2:=fun q:Bw w8=>(HQ.out q).2.2.1.cell 2 (v:=.int .i64 5) rfl
 have m3:=fun q:Bw w8=>(HQ.out q).2.2.1.cell 3 (v:=.int .i64 1) rfl
 have m4:=fun q:Bw w8=>(HQ.out q).2.2.1.cell 4 (v:=.int .i64 1) rfl
 have m5:=fun q:Bw w8=>(HQ.out q).2.2.1.cell 5 (v:=.int .i64 5) rfl
 have m6:=fun q:Bw w8=>(HQ.out q).2.2.1.cell 6 (v:=.int .i64 5) rfl
 clear cu
 go_upto_region 15 with (fail)
 refine wp_region_quiet_below (by assumption) (by kernel_rfl) ?_
 iterate 58 (go_big_quiet_step (first|(go_at_call 29;refine below_of (HSZ.out _))|(go_at_call 8;refine below_of (HE.out _))))
 clear HE HSZ c0 c1 c2 c3 c4 c5 c6 m0 m1 m2 m3 m4 m5 m6 h0 h1 h2
 repeat (go_big_quiet_step ((go_at_call 8;refine below_of (HBD.out _))))
 refine wpQuiet_nil ?_
 intro _ hw'
 obtain⟨q,rfl⟩:=hw'
 go_wp2_with fail
 go_ret
 exact⟨rfl,HA8.out.below.trans (q.h.mono HA8.out.below.size)⟩
end Dk
end Go.Proofs.YtlnbjikooadmoaaGreat
namespace Go.Proofs.YtlnbjikooadmoaaGreat
namespace Rd
open Go.RowKit
def few (l:List (Int×Int×ByteArray)):Bool:=decide (l.length<=200)&&l.all fun r=>decide (r.2.2.size<=3000)
theorem few_big {l:List (Int×Int×ByteArray)} (h:200<l.length):few l=false:=by unfold few;rw[decide_eq_false (by omega)];rfl
theorem few_no {l:List (Int×Int×ByteArray)} {k:Nat} {q t:Int} {d:ByteArray} (h:l[k]? =some (q,t,d)) (hd:3000<d.size):few l=false:=by
 unfold few
 rw[Bool.and_eq_false_iff]
 right
 rw[List.all_eq_false]
 exact⟨_,List.mem_of_getElem? h,by simp only[decide_eq_true_eq];omega⟩
theorem few_yes {l:List (Int×Int×ByteArray)} (h:l.length<=200) (hd:∀k r,k<l.length->l[k]? =some r->r.2.2.size<=3000):few l=true:=by
 unfold few
 rw[Bool.and_eq_true]
 refine⟨decide_eq_true h,List.all_eq_true.2 fun x hx=>?_⟩
 obtain⟨k,hk,rfl⟩:=List.getElem_of_mem hx
 exact decide_eq_true (hd k _ hk (List.getElem?_eq_getElem hk))
theorem few_len {l:List (Int×Int×ByteArray)} (h:few l=true):l.length<=200:=by
 unfold few at h
 rw[Bool.and_eq_true] at h
 exact of_decide_eq_true h.1
set_option maxHeartbeats 6400000 in
set_option maxRecDepth 100000 in
theorem few_any (A:Option Addr) (n c:Nat) (l:List (Int×Int×ByteArray)) (w:World) (hrd:Rd w w.heap.size 3 A n (fl3 l)) (hn:n<=c) (hc:c<=maxLen) :
  Calls Tryz.prog 25 #[.slice A n c] w fun e w'=>e=.returned (.bool (few l))/\w=w':=by
 have mixed:Tryz.prog.follows .mixedOrders=true:=by kernel_rfl
 have hln:=rd3_len hrd
 have hnm:n<=9223372036854775807:=by unfold maxLen at hc;omega
 clear hn hc
 by_cases hb:200<n
 ·have HF:=Lib.hid (few_big (l:=l) (by omega))
  have hb2:(200:Int)<(n:Int):=by omega
  clear hb hrd hln
  go_enter Tryz.func25, Tryz.ntmps25
  go_wp2_with fail
  go_ret
  exact⟨ret_bool HF.out.symm,rfl⟩
 ·have HR:=Lib.hid hrd
  clear hrd
  go_enter Tryz.func25, Tryz.ntmps25
  go_wp2_with fail
  go_loopw [3] (fun v wr=>∃k:Nat,v=.int .i64 k/\k<=n/\w=wr/\Hid (∀j r,j<k->l[j]? =some r->r.2.2.size<=3000)) (fun v _=>n-(intOf v).toNat)
  case atStart=>exact⟨0,by go_num,by omega,rfl,fun j r h=>absurd h (by omega)⟩
  case round =>
   obtain⟨k,rfl,hk,rfl,HX⟩:=hrel
   by_cases hkn:k<n
   ·obtain⟨ad,q,t,d,rfl,hbk,hx,hc0,hc1,hc2⟩:=rec3 HR.out hkn
    by_cases hd:d.size<=3000
    ·have hok:∀j r,j<k+1->l[j]? =some r->r.2.2.size<=3000:=by
      intro j r hj hr
      rcases Nat.lt_or_ge j k with h|h
      ·exact HX.out j r h hr
      ·obtain rfl:j=k:=by omega
       rw[hx] at hr;cases hr;exact hd
     have HOK:=Lib.hid hok
     have hd2: ¬ (3000:Int)<(d.size:Int):=by omega
     clear hok hx hc0 hc1 HX
     go_wp2_with fail
     exact⟨⟨k+1,by go_num,by omega,trivial,HOK.out⟩,by simp[intOf];omega⟩
    ·have HF:=Lib.hid (few_no hx (by omega))
     have hd2:(3000:Int)<(d.size:Int):=by omega
     clear hx hc0 hc1 HX
     go_wp2_with fail
     go_ret
     exact⟨ret_bool HF.out.symm,rfl⟩
   ·obtain rfl:k=n:=by omega
    have HF:=Lib.hid (few_yes (l:=l) (by omega) (by rw[hln];exact HX.out))
    clear HX HR
    go_wp2_with fail
    go_ret
    exact⟨ret_bool HF.out.symm,rfl⟩
set_option maxHeartbeats 6400000 in
set_option maxRecDepth 100000 in
theorem same_yes (A B:Option Addr) (n c d:Nat) (l:List (Int×Int×ByteArray)) (w:World) (hrd:Rd w w.heap.size 3 A n (fl3 l)) (hrd2:Rd w w.heap.size 3 B n (fl3 l)) (hn:n<=100000) :
  Calls Tryz.prog 18 #[.slice A n c,.slice B n d] w fun e w'=>e=.returned (.bool true)/\Below w.heap.size w w':=by
 have mixed:Tryz.prog.follows .mixedOrders=true:=by kernel_rfl
 have HR:=Lib.hid (And.intro hrd hrd2)
 clear hrd hrd2
 go_enter Tryz.func18, Tryz.ntmps18
 go_wp2_with fail
 go_loopw [5] (fun v wr=>∃k:Nat,v=.int .i64 k/\k<=n/\Hid (Below w.heap.size w wr)) (fun v _=>n-(intOf v).toNat)
 case atStart=>exact⟨0,by go_num,by omega,Below.refl _ _⟩
 case round =>
  obtain⟨k,rfl,hk,HX⟩:=hrel
  by_cases hkn:k<n
  ·obtain⟨ad,q,t,x,rfl,hbk,hx,hc0,hc1,hc2⟩:=rec3 (HR.out.1.below HX.out) hkn
   obtain⟨ad',q',t',x',rfl,hbk',hx',hd0,hd1,hd2⟩:=rec3 (HR.out.2.below HX.out) hkn
   rw[hx] at hx'
   simp only[Option.some.injEq,Prod.mk.injEq] at hx'
   obtain⟨rfl,rfl,rfl⟩:=hx'
   have i1:(0:Int)<=(k:Int):=by omega
   have i2:(k:Int)<(n:Int):=by omega
   have i3:IntKind.i64.wrap (k:Int)=(k:Int):=by rw[IntKind.wrap_i64];omega
   have HB:=Lib.hid HX.out
   clear hx hbk hbk' HX HR
   go_wp2_with fail
   go_quiet (fail)
   go_wp2_with fail
   exact⟨⟨k+1,by go_num,by omega,below_drewN HB.out _⟩,by simp[intOf];omega⟩
  ·obtain rfl:k=n:=by omega
   have HB:=Lib.hid HX.out
   clear HX HR
   go_wp2_with fail
   go_ret
   exact⟨rfl,HB.out⟩
end Rd
end Go.Proofs.YtlnbjikooadmoaaGreat
namespace Go.Proofs.YtlnbjikooadmoaaGreat
namespace Dk
open Go.RowKit Rd
def OwnR (w:World) (B:Nat) (v:Value) (V:List Value):Prop:=w.ownsRow B 22 1 v V.length V
theorem ownR_info:(Tryz.prog.info? 22).map (fun i=>(i.zero,i.size,i.bytes))=some (some (.slice none 0 0),1,24):=by kernel_rfl
theorem appendR {ops:Array Oper} {rest:List Oper} {o:Oper} {a:Act} {Q:Exit->Act->World->Prop} {s x:Operand} {B:Nat} {v u:Value} {V:List Value} {w0:World} (hu:u.oneCell'=true) (hown:OwnR w0 B v V) (hl:V.length<=1000000) (hB:B<=w0.heap.size)
  (h:∀v' w',OwnR w' B v' (V++[u])->Below B w0 w'->wpList Tryz.prog ops Q rest (a.put o.dst v') w')
  (hgd:o.guard=none:=by exact rfl) (ho:o.op=.call { callee:=.builtin .append,args:=#[s,x],argTypes:=#[23,23] }:=by exact rfl)
  (hs:a.eval s=v:=by exact rfl) (hx:a.eval x=.slice (some ⟨w0.heap.size,0,none⟩) 1 1:=by exact rfl) :
  wpList Tryz.prog ops Q (o::rest) a (w0.alloc (.cells #[u] 22)):=by
 obtain⟨i0,hi,hz0,hz1,hz2⟩:=info_parts ownR_info
 refine wpList_append_own_at _ hgd s x 23 ho B 22 i0 (.slice none 0 0) 1 24 Tryz.underlying23 hi hz0 hz1 hz2 rfl (by omega) v V.length V hs (World.ownsRow.alloc hown _)
  ⟨w0.heap.size,0,none⟩ 1 1 [u] hx rfl (cell_one_new w0 _ _) (by intro z hz;simp at hz;subst hz;exact hu) (by simp only[maxLen];omega) (by omega) (by simp;omega) ?_
 intro v' w' hown' hg _ hat
 have hg0:w0.grownBy w' v.ownBlock:=(World.grownBy_alloc w0 _ v.ownBlock).trans hg
 have hlt:=World.ownsRow.lt hown
 refine h v' w' ?_ ((Below.refl _ _).grown hg0 hB (fun k hk=>(hlt k hk).1))
 unfold OwnR;rw[List.length_append];exact hown'
def Pts (w:World) (cs:List Value) (Q:List (List (Int×Int×ByteArray))):Prop :=
 cs.length=Q.length/\ ∀(j:Nat) (R:List (Int×Int×ByteArray)),Q[j]? =some R-> ∃(A:Option Addr) (n c:Nat),cs[j]? =some (Value.slice A n c)/\Rd w w.heap.size 3 A n (fl3 R)/\n<=100000
theorem Pts.snoc {w:World} {cs:List Value} {Q:List (List (Int×Int×ByteArray))} (h:Pts w cs Q) {A:Option Addr} {n c:Nat} {R:List (Int×Int×ByteArray)} (hr:Rd w w.heap.size 3 A n (fl3 R)) (hn:n<=100000):Pts w (cs++[Value.slice A n c]) (Q++[R]):=by
 refine⟨by simp[h.1],fun j R' hj=>?_⟩
 by_cases hlt:j<Q.length
 ·rw[List.getElem?_append_left hlt] at hj
  obtain⟨A',n',c',q1,q2⟩:=h.2 j R' hj
  exact⟨A',n',c',by rw[List.getElem?_append_left (by rw[h.1];exact hlt)];exact q1,q2⟩
 ·have hj':j=Q.length:=by
   have:=(List.getElem?_eq_some_iff.1 hj).1
   simp at this;omega
  subst hj'
  simp only[List.getElem?_concat_length,Option.some.injEq] at hj
  subst hj
  exact⟨A,n,c,by rw[<-h.1,List.getElem?_concat_length],hr,hn⟩
theorem Pts.ext {w w':World} {cs:List Value} {Q:List (List (Int×Int×ByteArray))} (h:Pts w cs Q) (hb:Below w.heap.size w w'):Pts w' cs Q :=
 ⟨h.1,fun j R hj=>by
   obtain⟨A,n,c,q1,q2,q3⟩:=h.2 j R hj
   exact⟨A,n,c,q1,q2.ext hb,q3⟩⟩
theorem fl3_cut' (l:List (Int×Int×ByteArray)) (k:Nat) (h:k<=l.length):(fl3 l).take (k*3)=fl3 (l.take k)/\(fl3 l).drop (k*3)=fl3 (l.drop k):=by
 have e:fl3 l=fl3 (l.take k)++fl3 (l.drop k):=by rw[<-fl3_append,List.take_append_drop]
 have hl:(fl3 (l.take k)).length=k*3:=by rw[length_fl3,List.length_take,Nat.min_eq_left h]
 constructor
 ·rw[e,<-hl,List.take_left]
 ·rw[e,<-hl,List.drop_left]
structure Pa (w:World) (l:List (Int×Int×ByteArray)) (A:Option Addr) (n c:Nat) (v:Value) (wr:World):Prop where
 rd:∃off,off<=l.length/\n=l.length-off/\Rd w w.heap.size 3 A n (fl3 (l.drop off))/\ ∃cs Q,OwnR wr w.heap.size v cs/\Pts w cs Q/\Q.flatten=l.take off/\(∀R∈Q,jE R=0/\R≠ [])/\cs.length<=off
 nc:n<=c/\c<=maxLen
 below:Below w.heap.size w wr
def PtsAns (l:List (Int×Int×ByteArray)) (m:Int) (w:World) (v:Value) (w':World):Prop :=
 (∃A c,v=.slice A 0 c)∨ ∃cs Q,OwnR w' w.heap.size v cs/\Pts w cs Q/\Q≠ []/\Q.flatten=l/\(∀R∈Q,jE R=0/\R≠ [])/\l.length<=200/\rowE none l=0
set_option maxHeartbeats 6400000 in
set_option maxRecDepth 100000 in
theorem parts_any (A:Option Addr) (n c:Nat) (l:List (Int×Int×ByteArray)) (m:Int) (w:World) (hrd:Rd w w.heap.size 3 A n (fl3 l)) (hnc:n<=c) (hcm:c<=maxLen) (hm:m<=9223372036854775807) :
  Calls Tryz.prog 5 #[.slice A n c,.int .i64 m] w fun e w'=>∃v,e=.returned v/\PtsAns l m w v w'/\Below w.heap.size w w':=by
 have hln:=rd3_len hrd
 have HF:=Lib.hid (few_any A n c l w hrd hnc hcm)
 by_cases hf:few l=true
 ·have hl2:=few_len hf
  have HW:=Lib.hid (row_any A n c l w hrd (by omega))
  rw[hf] at HF
  by_cases hm1:m<1
  ·clear hrd hf hl2
   go_enter Tryz.func5, Tryz.ntmps5
   go_wp2_with (first
    |(go_at_call 25;refine HF.out.mono ?_;rintro e1 w1 ⟨rfl,rfl⟩)
    |(go_at_call 26;refine HW.out.mono ?_;rintro e2 w2 ⟨rfl,hb2⟩))
   go_ret
   exact⟨_,rfl,.inl ⟨_,_,rfl⟩,Below.refl _ _⟩
  ·by_cases hr:rowE none l=0
   ·rw[hr] at HW
    have H0:∀w2,Below w.heap.size w w2->Aside (Pa w l A n c (.slice none 0 0) w2):=fun w2 hb2 =>
     ⟨⟨0,Nat.zero_le _,by omega,hrd,[],[],World.ownsRow_nil _ _ _ _,⟨rfl,fun j R hj=>(by simp at hj)⟩,rfl,fun R hR=>(by cases hR),Nat.le_refl _⟩,⟨hnc,hcm⟩,hb2⟩
    have HL2:=Lib.hid hl2
    have HR:=Lib.hid hr
    have hn200:n<=200:=by omega
    clear hrd hf hl2 hr
    go_enter Tryz.func5, Tryz.ntmps5
    go_wp2_with (first
     |(go_at_call 25;refine HF.out.mono ?_;rintro e1 w1 ⟨rfl,rfl⟩)
     |(go_at_call 26;refine HW.out.mono ?_;rintro e2 w2 ⟨rfl,hb2⟩;have H1:=H0 w2 hb2;clear hb2 H0))
    go_loopg [0,5] 201 (fun kx s0 s5 wr=>∃(A':Option Addr) (n' c':Nat),s0=.slice A' n' c'/\n'<=kx/\n'<=200/\Aside (Pa w l A' n' c' s5 wr))
    case atStart=>exact⟨A,n,c,rfl,by omega,hn200,H1⟩
    case round =>
     clear H1 HW HF
     obtain⟨A',n',c',rfl,hk,hk2,H⟩:=hrel
     by_cases h0:0<n'
     ·obtain⟨off,ho1,ho2,hrd',cs,Q,hown,hpts,hfl,hjs,hcl⟩:=H.out.rd
      have hnc':=H.out.nc
      obtain⟨k,hk1,hk3,hmin⟩:∃k:Nat,1<=k/\k<=n'/\min m (n':Int)=(k:Int):=by
       by_cases hmn:m<=(n':Int)
       ·exact⟨m.toNat,by omega,by omega,by omega⟩
       ·exact⟨n',by omega,Nat.le_refl _,by omega⟩
      have hcut:=fl3_cut' (l.drop off) k (by rw[List.length_drop];omega)
      have hrT:=hrd'.take (k:=k) hk3
      rw[hcut.1] at hrT
      have hrD:=hrd'.drop (k:=k) (cap:=c') hk3 hnc'.1
      rw[hcut.2,List.drop_drop] at hrD
      have HJ:=Lib.hid (join_any A' k c' ((l.drop off).take k) wr ((hrT.below H.out.below).more H.out.below.size) (by omega))
      have hRne:(l.drop off).take k≠ []:=by
       intro e
       have:=congrArg List.length e
       rw[List.length_take,List.length_drop] at this
       simp at this;omega
      have hkc:(k:Int)<=(c':Int):=by omega
      have hk0:(0:Int)<=(k:Int):=by omega
      have hkn:(k:Int)<=(n':Int):=by omega
      by_cases hj:jE ((l.drop off).take k)=0
      ·have HN:=Lib.hid (show ∀(v':Value) (w5:World),OwnR w5 w.heap.size v' (cs++[Value.slice A' k c'])->Below w.heap.size w w5->Pa w l (if c'=k then A' else A'.map (·.add (k*3))) (n'-k) (c'-k) v' w5 from fun v' w5 hv hb =>
        ⟨⟨off+k,by omega,by omega,hrD,cs++[Value.slice A' k c'],Q++[(l.drop off).take k],hv,hpts.snoc hrT (by omega),by rw[List.flatten_append,hfl,List.flatten_singleton,List.take_add],fun R hR=>by
          rcases List.mem_append.1 hR with hR|hR
          ·exact hjs R hR
          ·rw[List.mem_singleton] at hR;subst hR;exact⟨hj,hRne⟩,by rw[List.length_append,List.length_singleton];omega⟩,⟨by omega,by have:=hnc'.2;omega⟩,hb⟩)
       rw[hj] at HJ
       have HOW:=Lib.hid hown
       have HB:=Lib.hid H.out.below
       have hcl2:cs.length<=200:=by have:=HL2.out;omega
       clear hrd' hown hpts hfl hjs hcl hcut hrT hrD hRne hj H hnc' ho1 ho2 hln
       go_wp2_with (first
        |(go_at_call 27;refine HJ.out.mono ?_;rintro e1 w1 ⟨rfl,hb1⟩;have HB1:=Lib.hid (HB.out.trans (hb1.mono HB.out.size));have HO1:=Lib.hid (own_below (B:=wr.heap.size) HOW.out hb1 (Nat.le_refl _));clear hb1)
        |(at_builtin;refine appendR rfl HO1.out (by omega) HB1.out.size ?_;intro v' w5 hv5 hb5;have HN5:Aside _:=HN.out v' w5 hv5 (HB1.out.trans hb5);clear hv5 hb5))
       all_goals
        go_roundg (gk-1)
        case measure=>omega
        case rel=>exact⟨_,_,_,rfl,by omega,by omega,by first|(have hck:c'=k:=(by omega);have h5:=HN5.out;rw[if_pos hck,show c'-k=0 by omega] at h5;exact h5)|(have hck: ¬ c'=k:=(by omega);have h5:=HN5.out;rw[if_neg hck] at h5;exact h5)⟩
      ·have hj':(jE ((l.drop off).take k) != 0)=true:=by rw[bne_iff_ne];exact hj
       have HB:=Lib.hid H.out.below
       clear hrd' hown hpts hfl hjs hcl hcut hrT hrD hRne hj H hnc' ho1 ho2 hln
       go_wp2_with (first
        |(go_at_call 27;refine HJ.out.mono ?_;rintro e1 w1 ⟨rfl,hb1⟩;have HB1:=Lib.hid (HB.out.trans (hb1.mono HB.out.size));clear hb1))
       go_ret
       exact⟨_,rfl,.inl ⟨_,_,rfl⟩,HB1.out⟩
     ·obtain rfl:n'=0:=by omega
      have HE:=Lib.hid (show PtsAns l m w u5 wr/\Below w.heap.size w wr from by
       obtain⟨off,ho1,ho2,-,cs,Q,hown,hpts,hfl,hjs,hcl⟩:=H.out.rd
       refine⟨?_,H.out.below⟩
       have e:off=l.length:=by omega
       rw[e,List.take_length] at hfl
       rcases hQ:Q with _|⟨q,Q'⟩
       ·rw[hQ] at hpts
        have:cs=[]:=List.eq_nil_of_length_eq_zero hpts.1
        subst this
        rcases hown.2 with ⟨e1,-⟩|⟨g,cap,cur,e1,q1,q2,q3,q4,q5⟩
        ·exact .inl ⟨_,_,e1⟩
        ·exact .inl ⟨_,_,e1⟩
       ·exact .inr ⟨cs,Q,hown,hpts,by rw[hQ];simp,hfl,hjs,HL2.out,HR.out⟩)
      clear H
      go_wp2_with fail
      go_ret
      exact⟨_,rfl,HE.out⟩
   ·have hr':(rowE none l != 0)=true:=by rw[bne_iff_ne];exact hr
    clear hrd hf hl2
    go_enter Tryz.func5, Tryz.ntmps5
    go_wp2_with (first
     |(go_at_call 25;refine HF.out.mono ?_;rintro e1 w1 ⟨rfl,rfl⟩)
     |(go_at_call 26;refine HW.out.mono ?_;rintro e2 w2 ⟨rfl,hb2⟩))
    go_ret
    exact⟨_,rfl,.inl ⟨_,_,rfl⟩,hb2⟩
 ·have hf0:few l=false:=by simpa using hf
  rw[hf0] at HF
  clear hrd hf hf0
  go_enter Tryz.func5, Tryz.ntmps5
  go_wp2_with (go_at_call 25;refine HF.out.mono ?_;rintro e1 w1 ⟨rfl,rfl⟩)
  go_ret
  exact⟨_,rfl,.inl ⟨_,_,rfl⟩,Below.refl _ _⟩
end Dk
end Go.Proofs.YtlnbjikooadmoaaGreat
namespace Go.Proofs.YtlnbjikooadmoaaGreat
namespace Sn
open Go.RowKit Hd Fm Bk Rd
section
variable {ops:Array Oper} {rest:List Oper} {o:Oper} {a:Act} {Q:Exit->Act->World->Prop}
theorem append3All {s x:Operand} {B m c:Nat} {A:Option Addr} {v:Value} {l k:List (Int×Int×ByteArray)} {w0:World} (hown:Own3 w0 B v l) (hrd:Rd w0 w0.heap.size 3 A m (fl3 k)) (hm:0<m) (hl:l.length+m<=1099511627776) (hB:B<=w0.heap.size)
  (h:∀A' n' c' w',Own3 w' B (.slice A' n' c') (l++k)->Below B w0 w'->wpList Tryz.prog ops Q rest (a.put o.dst (.slice A' n' c')) w')
  (hgd:o.guard=none:=by exact rfl) (ho:o.op=.call { callee:=.builtin .append,args:=#[s,x],argTypes:=#[22,22] }:=by exact rfl)
  (hs:a.eval s=v:=by exact rfl) (hx:a.eval x=.slice A m c:=by exact rfl) :
  wpList Tryz.prog ops Q (o::rest) a w0:=by
 obtain⟨i0,hi,hz0,hz1,hz2⟩:=info_parts rec_info
 obtain⟨ad,rfl,-,hc⟩:=hrd.cells hm
 have hk:=rd3_len hrd
 refine wpList_append_own_at _ hgd s x 22 ho B 31 i0 (.agg #[.int .i64 0,.int .i64 0,.string ⟨#[]⟩]) 3 32 Tryz.underlying22 hi hz0 hz1 hz2 rfl (by omega) v l.length (fl3 l) hs hown
  ad m c (fl3 k) hx hrd.len hc (fl3_one k) (by simp only[maxLen];omega) (by omega) (by omega) ?_
 intro v' w' hown' hg _ hat
 have hlt:=World.ownsRow.lt hown
 obtain⟨A',c',rfl,_,_⟩:=own_slice hown'
 refine h A' _ c' w' (by unfold Own3;rw[List.length_append,fl3_append,hk];exact hown') ((Below.refl _ _).grown hg hB (fun k hk=>(hlt k hk).1))
end
theorem recs_take (s:ByteArray) (l:List Mt) (k:Nat) (m:Mt) (R:List (Int×Int×ByteArray)) (h:l[k]? =some m) (hd:dec (fbody s m.a).data.toList=some R):recs s (l.take (k+1))=recs s (l.take k)++R:=by
 rw[List.take_add_one,h]
 show recs s (l.take k++[m])=_
 rw[recs_snoc,hd];rfl
theorem recs_len (s:ByteArray):∀(l:List Mt),(recs s l).length<=l.length*6667
 | []=>Nat.zero_le _
 |m::l=>by
  have h:=recs_len s l
  show((dec (fbody s m.a).data.toList).getD []++recs s l).length<=_
  rw[List.length_append,List.length_cons]
  rcases hd:dec (fbody s m.a).data.toList with _|R
  ·rw[Option.getD_none,List.length_nil];omega
  ·have h1:R.length<=6667:=by
    obtain⟨d1,d2⟩:=dec_some hd
    exact(ends d1 d2).2.2.2.2.2
   rw[Option.getD_some];omega
set_option maxHeartbeats 6400000 in
set_option maxRecDepth 100000 in
theorem records_ok (s:ByteArray) (A:Option Addr) (n c:Nat) (l:List Mt) (w:World) (hs:s.size<=1000000) (hrd:Rd w w.heap.size 7 A n (fl7 l)) (hn:n<=100000) (ho:okBl l=true) (h:∀m∈l,∃R,Stands s m R) :
  Calls Tryz.prog 14 #[.string s,.slice A n c] w fun e w'=>(∃v,e=.returned (.tuple #[v,.int .i64 0])/\Own3 w' w.heap.size v (recs s l))/\Below w.heap.size w w':=by
 have mixed:Tryz.prog.follows .mixedOrders=true:=by kernel_rfl
 have hln:=mt_len hrd
 have hbl:=blocks_any A n c l w hrd (by omega)
 rw[blE_yes ho] at hbl
 have HBL:=Lib.hid hbl
 have HLN:=Lib.hid hln
 have HR:=Lib.hid hrd
 have HST:=Lib.hid h
 clear hbl hrd hln h ho
 go_enter Tryz.func14, Tryz.ntmps14
 go_wp2_with fail
 refine HBL.out.mono ?_
 rintro e1 w1 ⟨rfl,hb1⟩
 have HB1:=Lib.hid hb1
 clear hb1 HBL
 go_wp2_with fail
 go_loopw [7,19] (fun s7 s19 wr=>∃(k:Nat) (A1:Option Addr) (n1 c1:Nat),s19=.int .i64 (k:Int)/\s7=.slice A1 n1 c1/\k<=n/\Hid (Own3 wr w.heap.size (.slice A1 n1 c1) (recs s (l.take k))/\Below w.heap.size w wr)) (fun _ v _=>n-(intOf v).toNat)
 case atStart=>exact⟨0,none,0,0,by go_num,rfl,by omega,Lib.hid ⟨own3_nil _ _,HB1.out⟩⟩
 case round =>
  obtain⟨k,A5,n5,c5,rfl,rfl,hk,HX⟩:=hrel
  by_cases hkn:k<n
  ·obtain⟨ad,m,hA,hbk,hx,hc0,hc1,hc2,hc3,hc4,hc5,hc6⟩:=mt_at (HR.out.below HX.out.2) hkn
   obtain⟨R,hst⟩:=HST.out m (List.mem_of_getElem? hx)
   have HLO:=Lib.hid (fun w=>load_ok s m R w hs hst)
   have HTK:=Lib.hid (recs_take s l k m R hx hst.2.2)
   have HRL:=Lib.hid (show 0<R.length/\(recs s (l.take k)).length+R.length<=1099511627776 by
    obtain⟨d1,d2⟩:=dec_some hst.2.2
    have h1:=(ends d1 d2).2.2.2.2.2
    have h2:=recs_len s (l.take k)
    rw[List.length_take] at h2
    have:0<R.length:=List.length_pos_iff.2 d2
    omega)
   have HAL:=Lib.hid (ext_alloc wr (.cells #[.int .i64 m.a,.int .i64 m.s,.int .i64 m.r,.int .i64 m.c,.int .i64 m.f,.int .i64 m.e,.int .i64 m.l] 39))
   have HO1:=Lib.hid (HX.out.1.below HAL.out (Nat.le_refl _))
   have HB2:=Lib.hid (HX.out.2.trans (HAL.out.mono HX.out.2.size))
   obtain⟨ma,ms,mr,mc,mf,me,ml⟩:=m
   unfold mv magg at HLO
   dsimp only at *
   subst hA
   clear hx HX hbk hst
   go_wp2_with fail
   generalize wr.alloc (.cells #[.int .i64 (ma:Int),.int .i64 (ms:Int),.int .i64 (mr:Int),.int .i64 (mc:Int),.int .i64 (mf:Int),.int .i64 (me:Int),.int .i64 (ml:Int)] 39)=w2 at *
   refine(HLO.out _).mono ?_
   rintro e3 w3 ⟨⟨v3,rfl,hown3⟩,hb3⟩
   obtain⟨A3,c3,rfl,-,-,hr3⟩:=hown3.rd
   have HR3:=Lib.hid hr3
   have HO3:=Lib.hid (HO1.out.below hb3 (Nat.le_refl _))
   have HB3:=Lib.hid (HB2.out.trans (hb3.mono HB2.out.size))
   obtain⟨m3,hm3⟩:∃m3,R.length=m3:=⟨_,rfl⟩
   rw[hm3] at HR3 HRL ⊢
   clear hb3 hown3 hr3 hm3 HLO HO1
   go_wp2_with (at_builtin;refine append3All HO3.out HR3.out HRL.out.1 HRL.out.2 HB3.out.size ?_;intro A1 n1 c1 w4 hown4 hb4)
   have HP:=Lib.hid (show Own3 w4 w.heap.size (.slice A1 n1 c1) (recs s (l.take (k+1)))/\Below w.heap.size w w4 from⟨by rw[HTK.out];exact hown4,HB3.out.trans hb4⟩)
   clear hown4 hb4
   go_roundw
   case rel=>exact⟨k+1,A1,n1,c1,by go_num,rfl,by omega,HP⟩
   case measure=>simp[intOf];omega
  ·obtain rfl:k=n:=by omega
   have h9:=HX.out
   rw[List.take_of_length_le (by rw[HLN.out];omega)] at h9
   have H9:=Lib.hid h9
   clear h9 HX
   go_wp2_with fail
   go_ret2
   exact⟨⟨_,rfl,H9.out.1⟩,H9.out.2⟩
end Sn
end Go.Proofs.YtlnbjikooadmoaaGreat
namespace Go.Proofs.YtlnbjikooadmoaaGreat
namespace Sn
open Go.RowKit Hd Bk
set_option maxHeartbeats 3200000 in
set_option maxRecDepth 100000 in
theorem same_mt (A A':Option Addr) (n c c':Nat) (l:List Mt) (w:World) (h1:Rd w w.heap.size 7 A n (fl7 l)) (h2:Rd w w.heap.size 7 A' n (fl7 l)) (hn:n<=1000000) :
  Calls Tryz.prog 17 #[.slice A n c,.slice A' n c'] w fun e w'=>e=.returned (.bool true)/\Below w.heap.size w w':=by
 have mixed:Tryz.prog.follows .mixedOrders=true:=by kernel_rfl
 have HR1:=Lib.hid h1
 have HR2:=Lib.hid h2
 have hb0:=(show((n:Int) != (n:Int))=false by simp)
 clear h1 h2
 go_enter Tryz.func17, Tryz.ntmps17
 go_wp2_with fail
 go_loopw [5] (fun v wr=>∃k:Nat,v=.int .i64 k/\k<=n/\Hid (Below w.heap.size w wr)) (fun v _=>n-(intOf v).toNat)
 case atStart=>exact⟨0,by go_num,by omega,Lib.hid (Below.refl _ _)⟩
 case round =>
  obtain⟨k,rfl,hk,HX⟩:=hrel
  by_cases hkn:k<n
  ·obtain⟨ad,m,rfl,hbk,hx,c0,c1,c2,c3,c4,c5,c6⟩:=mt_at (HR1.out.below HX.out) hkn
   obtain⟨ad',m',rfl,hbk',hx',d0,d1,d2,d3,d4,d5,d6⟩:=mt_at (HR2.out.below HX.out) hkn
   obtain rfl:m=m':=by rw[hx] at hx';exact Option.some.inj hx'
   clear hx hx'
   obtain⟨ma,ms,mr,mc,mf,me,ml⟩:=m
   dsimp only at *
   go_wp2_with fail
   go_quiet (fail)
   have HP:=Lib.hid (HX.out.trans (ext_drewN wr nq |>.mono HX.out.size))
   go_wp2_with fail
   go_roundw
   case rel=>exact⟨k+1,by go_num,by omega,HP⟩
   case measure=>simp[intOf];omega
  ·obtain rfl:k=n:=by omega
   have HB:=HX
   go_wp2_with fail
   go_ret
   exact⟨rfl,HB.out⟩
end Sn
end Go.Proofs.YtlnbjikooadmoaaGreat
namespace Go.Proofs.YtlnbjikooadmoaaGreat
namespace Dk
open Go.RowKit Hd Fm Sn Bk Rd Bd
structure Lw (w1:World) (Q:List (List (Int×Int×ByteArray))) (bd b8 F k:Nat) (v:Value) (wr:World):Prop where
 ex:∃(pb:List Pb) (S:Nat->Prop) (D:DS) (b:Nat),pb.map (·.1)=Q.take k/\Good pb/\DiskAt wr S bd D/\One D b (segN 2 1) (hdrB 2 1 F,fileB (hdrB 2 1 F) pb)/\OwnM wr w1.heap.size v (lay (hdrB 2 1 F).size pb)/\(∀j,v.ownBlock=some j-> ¬ S j)/\(∀j,S j->w1.heap.size<=j)/\ ¬ S b8
 below:Below w1.heap.size w1 wr
 box:Blk wr b8 #[.int .i64 2,.int .i64 1,.int .i64 (F:Int)] 33
theorem lw_start {w1 w2 w3 w4:World} {Q:List (List (Int×Int×ByteArray))} {bd b8 F b:Nat} {S2 S4:Nat->Prop} (hg:Gr (fun _=>False) w1 S2 w2) (h3:w3=w2.alloc (.cells #[.int .i64 2,.int .i64 1,.int .i64 (F:Int)] 33)) (h8:b8=w2.heap.size) (hd2:DiskAt w2 S2 bd (newD 1000000))
  (hd:DiskAt w4 S4 bd (d3 (segN 2 1) (hdrB 2 1 F) b (newD 1000000))) (hg4:Gr S2 w3 S4 w4):Lw w1 Q bd b8 F 0 (.slice none 0 0) w4:=by
 subst h3 h8
 have hB:=Blk.new w2 #[.int .i64 2,.int .i64 1,.int .i64 (F:Int)] 33
 have n8: ¬ S2 w2.heap.size:=hd2.gt (Nat.le_refl _)
 have g2:∀j,S2 j->w1.heap.size<=j:=fun j hj=>(hg.sub j hj).elim False.elim id
 have e3:=ext_alloc w2 (.cells #[.int .i64 2,.int .i64 1,.int .i64 (F:Int)] 33)
 have b12:Below w1.heap.size w1 w2:=hg.below (Nat.le_refl _) (fun k hk=>hk.elim)
 have b13:=b12.trans (e3.mono b12.size)
 refine⟨⟨[],S4,_,b,rfl,fun x hx=>(by cases hx),hd,?_,ownM_nil _ _,fun j hj=>(by cases hj),?_,hg4.out hB.lt n8⟩,b13.trans (hg4.below b13.size g2),hg4.blk hB n8⟩
 ·have:=one_new (segN 2 1) (hdrB 2 1 F) b
  rw[emp_app] at this
  rwa [fileB_nil]
 ·exact hg4.ge b13.size g2
theorem lw_step {w1 wr wx w4 w5 w6:World} {Q:List (List (Int×Int×ByteArray))} {bd b8 F k b g n c b13:Nat} {v:Value} {S S4:Nat->Prop} {D:DS} {pb:List Pb} {R:List (Int×Int×ByteArray)} {B:ByteArray}
  (h1:pb.map (·.1)=Q.take k) (h2:Good pb) (h4:One D b (segN 2 1) (hdrB 2 1 F,fileB (hdrB 2 1 F) pb)) (h5:OwnM wr w1.heap.size v (lay (hdrB 2 1 F).size pb)) (h6:∀j,v.ownBlock=some j-> ¬ S j) (h7:∀j,S j->w1.heap.size<=j) (h8: ¬ S b8)
  (hb:Below w1.heap.size w1 wr) (hbx:Blk wr b8 #[.int .i64 2,.int .i64 1,.int .i64 (F:Int)] 33) (hQ:Q[k]? =some R) (hj:jE R=0/\R≠ []) (hB:BlkOf R B) (hx:Below wr.heap.size wr wx)
  (hd:DiskAt w4 S4 bd (putD b (hdrB 2 1 F,fileB (hdrB 2 1 F) pb) (frB 2 B) D)) (hg:Gr S wx S4 w4) (h13:Gr (fun j=>j=b13) w4 (fun j=>j=b13) w5) (hr13:wr.heap.size<=b13) (n13: ¬ S4 b13)
  (ho:OwnM w6 w1.heap.size (.slice (some ⟨g,0,none⟩) n c) (lay (hdrB 2 1 F).size pb++[mt1 ((hdrB 2 1 F).size+tot pb) (R,B)])) (hgr:w5.grownBy w6 v.ownBlock) (hat:v.ownBlock=some g∨w5.heap.size<=g) :
  Lw w1 Q bd b8 F (k+1) (.slice (some ⟨g,0,none⟩) n c) w6:=by
 have hv:∀j,v.ownBlock=some j->j<wr.heap.size:=fun j e=>(World.ownsRow.lt h5 j e).2
 have hv4:∀j,v.ownBlock=some j-> ¬ S4 j:=fun j e=>hg.out (Nat.lt_of_lt_of_le (hv j e) hx.size) (h6 j e)
 have hk5:DiskAt w5 S4 bd (putD b (hdrB 2 1 F,fileB (hdrB 2 1 F) pb) (frB 2 B) D):=hd.kept h13.size fun j hj'=>h13.block j (hd.lt hj') (by rintro rfl;exact n13 hj')
 have hs4:∀j,S4 j->w1.heap.size<=j:=hg.ge (Nat.le_trans hb.size hx.size) h7
 have hb8:b8<wx.heap.size:=Nat.lt_of_lt_of_le hbx.lt hx.size
 have hx8:=h13.blk (hg.blk (hbx.ext hx) h8) (by have:=hbx.lt;show b8≠b13;omega)
 refine⟨⟨pb++[(R,B)],S4,_,b,?_,?_,hk5.kept hgr.size fun j hj'=>hgr.block j (hk5.lt hj') fun e=>hv4 j e.symm hj',?_,?_,?_,hs4,hg.out hb8 h8⟩,?_,?_⟩
 ·rw[List.map_append,h1,take_next hQ];rfl
 ·intro z hz
  rcases List.mem_append.1 hz with hz|hz
  ·exact h2 z hz
  ·rw[List.mem_singleton] at hz;subst hz;exact⟨hj.1,hj.2,hB⟩
 ·have:=h4.put (frB 2 B)
  rw[fileB_snoc];exact this
 ·rw[lay_snoc];exact ho
 ·intro j hj'
  simp only[Value.ownBlock,Option.some.injEq] at hj'
  subst hj'
  rcases hat with e|e
  ·exact hv4 _ e
  ·intro hs
   have:=hk5.lt hs
   omega
 ·have hbw:Below w1.heap.size w1 wx:=hb.trans (hx.mono hb.size)
  have hb4:Below w1.heap.size w1 w4:=hbw.trans (hg.below hbw.size h7)
  have hb5:=hb4.trans (h13.below hb4.size (by rintro j rfl;exact Nat.le_trans hb.size hr13))
  exact hb5.grown hgr hb5.size fun j e=>(World.ownsRow.lt h5 j e).1
 ·refine hx8.grown hgr fun e=>?_
  rcases h5.2 with ⟨e1,-⟩|⟨g',cap,cur,e1,-,q2,-⟩
  ·rw[e1] at e;cases e
  ·rw[e1] at e
   have:g'=b8:=by simpa[Value.ownBlock] using e
   subst this
   unfold Blk at hbx
   rw[hbx] at q2
   simp at q2
theorem gr7 (w:World) (b:Nat) (v0 v1 v2 v3 v4 v5 v6:Value):Gr (fun j=>j=b) w (fun j=>j=b) (((((((w.setCell ⟨b,0,none⟩ v0).setCell ⟨b,1,none⟩ v1).setCell ⟨b,2,none⟩ v2).setCell ⟨b,3,none⟩ v3).setCell ⟨b,4,none⟩ v4).setCell ⟨b,5,none⟩ v5).setCell ⟨b,6,none⟩ v6) :=
 ((((((Gr.setCell (S:=fun j=>j=b) rfl 0 v0).trans (Gr.setCell (S:=fun j=>j=b) rfl 1 v1)).trans (Gr.setCell (S:=fun j=>j=b) rfl 2 v2)).trans (Gr.setCell (S:=fun j=>j=b) rfl 3 v3)).trans (Gr.setCell (S:=fun j=>j=b) rfl 4 v4)).trans (Gr.setCell (S:=fun j=>j=b) rfl 5 v5)).trans (Gr.setCell (S:=fun j=>j=b) rfl 6 v6)
theorem pf {Q:List (List (Int×Int×ByteArray))} {l:List (Int×Int×ByteArray)} {F k:Nat} {t:Int} {s:ByteArray} {pb:List Pb} (hfl:Q.flatten=l) (hrow:rowE none l=0) (hx0:l[0]? =some ((F:Int),t,s)) (hl2:l.length<=200) (h1:pb.map (·.1)=Q.take k) (h2:Good pb) (hF:1<=F/\F<=1000000000) :
  rowE none (fls pb)=0/\(pb≠ []->(at3 (fls pb) 0).1=(F:Int))/\(fls pb).length<=200/\pb.length<=200/\tot pb<=409400/\(hdrB 2 1 F).size<=36:=by
 have hsp:l=fls pb++(Q.drop k).flatten:=by
  unfold fls
  rw[h1,<-hfl,<-List.flatten_append,List.take_append_drop]
 obtain⟨t1,t2⟩:=tot_le pb h2
 have hle:(fls pb).length<=l.length:=by rw[hsp,List.length_append];omega
 have hbs:=hb_size 2 1 F (by omega)
 have hsz:(hdrB 2 1 F).size=(hb 2 1 F).size+9:=size_frB 1 (hb 2 1 F)
 refine⟨row_pre (fls pb) none (Q.drop k).flatten (by rw[<-hsp];exact hrow),fun hne=>?_,by omega,by omega,by omega,by omega⟩
 have hf:fls pb≠ []:=by
  intro e
  rcases pb with _|⟨x,l'⟩
  ·exact hne rfl
  ·have:=(h2 x (List.mem_cons_self ..)).2.1
   unfold fls at e
   simp only[List.map_cons,List.flatten_cons,List.append_eq_nil_iff] at e
   exact this e.1
 rw[<-at3_pre (B:=(Q.drop k).flatten) hf,<-hsp]
 have:=at3_get l 0 (by rcases l with _|⟨x,l⟩;simp at hx0;simp)
 rw[hx0] at this
 exact(congrArg (fun x:Int×Int×ByteArray=>x.1) (Option.some.inj this)).symm
def OwnStr (w:World) (B:Nat) (v:Value) (V:List ByteArray):Prop:=w.ownsRow B 9 1 v V.length (V.map Value.string)
theorem str_info:(Tryz.prog.info? 9).map (fun i=>(i.zero,i.size,i.bytes))=some (some (.string ⟨#[]⟩),1,16):=by kernel_rfl
theorem appendStr {ops:Array Oper} {rest:List Oper} {o:Oper} {a:Act} {Q:Exit->Act->World->Prop} {s x:Operand} {B:Nat} {v:Value} {u:ByteArray} {V:List ByteArray} {w0:World} (hown:OwnStr w0 B v V) (hl:V.length<=1000000) (hB:B<=w0.heap.size)
  (h:∀v' w',OwnStr w' B v' (V++[u])->Below B w0 w'->wpList Tryz.prog ops Q rest (a.put o.dst v') w')
  (hgd:o.guard=none:=by exact rfl) (ho:o.op=.call { callee:=.builtin .append,args:=#[s,x],argTypes:=#[49,49] }:=by exact rfl)
  (hs:a.eval s=v:=by exact rfl) (hx:a.eval x=.slice (some ⟨w0.heap.size,0,none⟩) 1 1:=by exact rfl) :
  wpList Tryz.prog ops Q (o::rest) a (w0.alloc (.cells #[.string u] 9)):=by
 obtain⟨i0,hi,hz0,hz1,hz2⟩:=info_parts str_info
 refine wpList_append_own_at _ hgd s x 49 ho B 9 i0 (.string ⟨#[]⟩) 1 16 Tryz.underlying49 hi hz0 hz1 hz2 rfl (by omega) v V.length (V.map Value.string) hs (World.ownsRow.alloc hown _)
  ⟨w0.heap.size,0,none⟩ 1 1 [.string u] hx rfl (cell_one_new w0 _ _) (by intro z hz;simp at hz;subst hz;rfl) (by simp only[maxLen];omega) (by omega) (by simp;omega) ?_
 intro v' w' hown' hg _ hat
 have hg0:w0.grownBy w' v.ownBlock:=(World.grownBy_alloc w0 _ v.ownBlock).trans hg
 have hlt:=World.ownsRow.lt hown
 refine h v' w' ?_ ((Below.refl _ _).grown hg0 hB (fun k hk=>(hlt k hk).1))
 unfold OwnStr;rw[List.length_append,List.map_append];exact hown'
structure Bo (w8:World) (Q:List (List (Int×Int×ByteArray))) (k:Nat) (v:Value) (wr:World):Prop where
 ex:∃pb':List Pb,pb'.map (·.1)=Q.take k/\Good pb'/\OwnStr wr w8.heap.size v (pb'.map (·.2))
 below:Below w8.heap.size w8 wr
theorem Bo.ext {w8 wr wx:World} {Q:List (List (Int×Int×ByteArray))} {k:Nat} {v:Value} (h:Bo w8 Q k v wr) (hb:Below wr.heap.size wr wx):Bo w8 Q k v wx:=by
 obtain⟨⟨pb',h1,h2,h3⟩,h4⟩:=h
 exact⟨⟨pb',h1,h2,own_below h3 hb (Nat.le_refl _)⟩,h4.trans (hb.mono h4.size)⟩
theorem one_write (s hd:ByteArray) (b:Nat) (pb:List Pb):One (w3D s hd ⟨(cat pb).toArray⟩ (frB 3 (ftB (lay hd.size pb))) b (newD 1000000)) b s (sealB hd pb,sealB hd pb):=by
 have ho:One (w3D s hd ⟨(cat pb).toArray⟩ (frB 3 (ftB (lay hd.size pb))) b (newD 1000000)) b s _:=(((one_new s hd b).put ⟨(cat pb).toArray⟩).put (frB 3 (ftB (lay hd.size pb)))).sync (T:=(⟨#[]⟩:ByteArray)++hd++(⟨(cat pb).toArray⟩:ByteArray)++frB 3 (ftB (lay hd.size pb)))
 have hT:(⟨#[]⟩:ByteArray)++hd++(⟨(cat pb).toArray⟩:ByteArray)++frB 3 (ftB (lay hd.size pb))=sealB hd pb:=by rw[emp_app];rfl
 exact⟨ho.calm,ho.now,by rw[<-hT];exact ho.fl,ho.cap⟩
theorem add_zero_addr (a:Addr):a.add 0=a:=by cases a;rfl
theorem pts_norm {l:List (Int×Int×ByteArray)} {m:Int} {w:World} {v:Value} {w':World} (h:PtsAns l m w v w'):∃(A:Option Addr) (n c:Nat),v=.slice A n c/\(n=0∨ ∃cs Q,0<n/\n<=200/\OwnR w' w.heap.size (.slice A n c) cs/\cs.length=n/\Q.length=n/\Pts w cs Q/\Q.flatten=l/\(∀R∈Q,jE R=0/\R≠ [])/\l.length<=200/\rowE none l=0):=by
 rcases h with ⟨A,c,rfl⟩|⟨cs,Q,h1,h2,h3,h4,h5,h6,h7⟩
 ·exact⟨A,0,c,rfl,.inl rfl⟩
 ·obtain⟨A,c,rfl,-,-⟩:=own_slice h1
  have hq:0<Q.length:=List.length_pos_iff.2 h3
  have hle:Q.length<=Q.flatten.length:=by
   clear h2 h3 h4 hq
   induction Q with
   |nil=>simp
   |cons R Q ih =>
    have:=ih fun z hz=>h5 z (List.mem_cons_of_mem _ hz)
    have h0:0<R.length:=List.length_pos_iff.2 (h5 R (List.mem_cons_self ..)).2
    rw[List.flatten_cons,List.length_append,List.length_cons];omega
  rw[h4] at hle
  exact⟨A,cs.length,c,rfl,.inr ⟨cs,Q,by rw[h2.1];exact hq,by rw[h2.1];omega,h1,rfl,h2.1.symm,h2,h4,h5,h6,h7⟩⟩
set_option maxHeartbeats 12800000 in
set_option maxRecDepth 100000 in
theorem keeps_any (HAW:∀w,Calls Tryz.prog 6 #[] w fun e w'=>e=.returned (.bool true)/\Below w.heap.size w w') (A:Option Addr) (n c:Nat) (l:List (Int×Int×ByteArray)) (m:Int) (w:World) (hrd:Rd w w.heap.size 3 A n (fl3 l)) (hnc:n<=c) (hcm:c<=maxLen) (hm:m<=9223372036854775807) :
  Calls Tryz.prog 3 #[.slice A n c,.int .i64 m] w fun e w'=>e=.returned (.bool true)/\Below w.heap.size w w':=by
 have mixed:Tryz.prog.follows .mixedOrders=true:=by kernel_rfl
 have hln:=rd3_len hrd
 have HP:=Lib.hid (parts_any A n c l m w hrd hnc hcm hm)
 have HA:=Lib.hid HAW
 by_cases hcase:0<n/\rowE none l=0
 ·obtain⟨hn0,hr0⟩:=hcase
  obtain⟨ad,q0,t0,s0,rfl,hadb,hx0,hc0,-,-⟩:=rec3 hrd hn0
  have hq:=(ok1_iff _).1 (row_seq0 l hr0 0 _ hx0).2.2.1
  obtain⟨F,rfl⟩:∃F:Nat,q0=F:=⟨q0.toNat,by omega⟩
  have hF:1<=F/\F<=1000000000:=by have:=hq.1;have:=hq.2.1;omega
  rw[Nat.zero_mul,add_zero_addr] at hc0
  have HC0:=Lib.hid (fun wx (hb:Below w.heap.size w wx)=>(show wx.cell? ad=some (.int .i64 (F:Int)) from(hb.cell (p:=ad) hadb).trans hc0))
  have hn0':(0:Int)<(n:Int):=by omega
  have HN:=Lib.hid (fun w=>new_ok 1000000 w (by omega) (by omega))
  have HX:=Lib.hid (And.intro hln hx0)
  have HRL:=Lib.hid hrd
  have HF:=Lib.hid hF
  have HCR:=Lib.hid (show ∀(w1 w3:World) (bd:Nat) (S2:Nat->Prop),DiskAt w3 S2 bd (newD 1000000)->Gr (fun _=>False) w1 S2 w3-> ∀Q,Calls Tryz.prog 8 #[.pointer (some ⟨bd,0,none⟩),.agg #[.int .i64 2,.int .i64 1,.int .i64 (F:Int)]] (w3.alloc (.cells #[.int .i64 2,.int .i64 1,.int .i64 (F:Int)] 33)) fun e w'=>e=.returned (.int .i64 0)/\Lw w1 Q bd w3.heap.size F 0 (.slice none 0 0) w' from by
   intro w1 w3 bd S2 hd hg Q
   refine(Create_go (i:=2) (g:=1) (f:=F) (hd.ext (ext_alloc w3 _)) ⟨rfl,rfl⟩ (by omega) rfl (by show 0<200;omega) (by show 0<=1000000;omega) (by show(36:Int)+((0:Nat):Int)<=1000000;omega)).mono ?_
   rintro e w' ⟨rfl,b,S',-,q1,q2⟩
   exact⟨rfl,lw_start hg rfl rfl hd q1 q2⟩)
  clear hrd hnc hcm hm HAW hln hc0 hx0 hr0 hq hF
  go_enter Tryz.func3, Tryz.ntmps3
  go_wp2_with (first
   |(go_at_call 5;refine HP.out.mono ?_;rintro e1 w1 ⟨v1,rfl,hpa,hb1⟩;have HB1:=Lib.hid hb1;clear hb1;obtain⟨A1,n1,c1,rfl,rfl|⟨cs,Q,hn1,hn2,hpa⟩⟩:=pts_norm hpa<;>have HPA:=Lib.hid hpa<;>clear hpa)
   |(go_at_call 6;refine(HA.out _).mono ?_;rintro e2 w2 ⟨rfl,hb2⟩)
   |(go_at_call 7;refine(HN.out _).mono ?_;rintro e3 w3 ⟨bd,rfl,S2,hd2,hg2⟩;have HD2:=Lib.hid (And.intro hd2 hg2);have k0:=HC0.out w3 (HB1.out.trans ((hg2.below (Nat.le_refl _) (fun _ h=>h.elim)).mono HB1.out.size));clear hd2 hg2)
   |(go_at_call 8;refine(HCR.out w1 w3 bd S2 HD2.out.1 HD2.out.2 Q).mono ?_;rintro e4 w4 ⟨rfl,hL⟩;have HL4:Aside _:=hL;clear hL k0))
  ·go_ret
   exact⟨rfl,HB1.out.trans (hb2.mono HB1.out.size)⟩
  ·clear HP HN HCR HD2
   go_loopg [9,10] n1 (fun kx s9 s10 wr=>∃(k:Nat),s10=.int .i64 (k:Int)/\k<=n1/\n1-k<=kx/\Aside (Lw w1 Q bd w3.heap.size F k s9 wr))
   case atStart=>exact⟨0,rfl,by omega,by omega,HL4⟩
   case round =>
    clear HL4
    obtain⟨k,rfl,hk,hkx,H⟩:=hrel
    by_cases hlt:k<n1
    ·obtain⟨⟨pb,S,D,b,h1,h2,h3,h4,h5,h6,h7,h8⟩,hbw,hbx⟩:=H.out
     obtain⟨q1,q2,q3,q4,q5,q6,q7,q8⟩:=HPA.out
     obtain⟨f1,f2,f3,f4,f5,f6⟩:=pf q5 q8 HX.out.2 q7 h1 h2 HF.out
     have hok:=okBl_lay (hd:=hdrB 2 1 F) h2 f1 f2 (by omega) (by omega)
     obtain⟨A9,c9,rfl,-,-⟩:=own_slice h5
     have hrd9:=Rd.of_own h5
     have hl9:(lay (hdrB 2 1 F).size pb).length=pb.length:=length_lay _ _
     have HEND:=Lib.hid (End_ok A9 _ c9 2 1 F _ wr (by have:=HF.out;omega) hrd9 (by omega) hok)
     rw[endM_lay] at HEND
     have q1':w1.ownsRow w.heap.size 22 1 (.slice A1 n1 c1) n1 cs:=by
      have:=q1
      unfold OwnR at this
      rwa [q2] at this
     obtain⟨adp,u,rfl,hadp,hcs,hcell⟩:=(Rd.of_own q1').at1 hlt
     obtain⟨R,hR⟩:∃R,Q[k]? =some R:=⟨Q[k]'(by omega),List.getElem?_eq_getElem (by omega)⟩
     obtain⟨AR,nR,cR,hcR,hrdR,hnR⟩:=q4.2 k R hR
     obtain rfl:u=.slice AR nR cR:=Option.some.inj (hcs.symm.trans hcR)
     have hjR:=q6 R (List.mem_of_getElem? hR)
     have hjb:=joinB_jE hjR.1
     have hRl:R.length<=200:=by
      have:=(List.sublist_flatten_of_mem (List.mem_of_getElem? hR)).length_le
      rw[q5] at this;omega
     have hbw0:Below w.heap.size w wr:=HB1.out.trans (hbw.mono HB1.out.size)
     have HADD:=Lib.hid (show ∀wx,Below wr.heap.size wr wx->Calls Tryz.prog 10 #[.pointer (some ⟨bd,0,none⟩),.agg #[.int .i64 2,.int .i64 1,.int .i64 (F:Int)],.int .i64 (((hdrB 2 1 F).size+tot pb:Nat):Int),.slice AR nR cR] wx fun e w' =>
       ∃(mm:Mt) (B:ByteArray) (S4:Nat->Prop),e=.returned (.tuple #[.agg #[.int .i64 (mm.a:Int),.int .i64 (mm.s:Int),.int .i64 (mm.r:Int),.int .i64 (mm.c:Int),.int .i64 (mm.f:Int),.int .i64 (mm.e:Int),.int .i64 (mm.l:Int)],.int .i64 0])/\mm=mt1 ((hdrB 2 1 F).size+tot pb) (R,B)/\BlkOf R B /\
        DiskAt w' S4 bd (putD b (hdrB 2 1 F,fileB (hdrB 2 1 F) pb) (frB 2 B) D)/\Gr S wx S4 w' from by
      intro wx hx
      refine(Add_go (i:=2) (g:=1) (f:=(F:Int)) (h3.ext hx) h4.calm (by simp only[okH,decide_eq_true_eq];have:=HF.out;omega) h4.lk h4.fl ((hrdR.below (hbw0.trans (hx.mono hbw0.size))).more (Nat.le_trans hbw0.size hx.size)) hnR hjR.1 hjR.2 (by dsimp only;rw[fileB_size];omega) (by rw[h4.used,h4.cap];dsimp only;rw[fileB_size];omega)).mono ?_
      rintro e w' ⟨B,hB,rfl,S4,g1,g2⟩
      exact⟨_,B,S4,rfl,rfl,hB,g1,g2⟩)
     have HST:=Lib.hid (fun(wx w4 w5 w6:World) (B:ByteArray) (S4:Nat->Prop) (g' n' c' b13:Nat) (hB:BlkOf R B) hx hd hg h13 hr13 n13 ho hgr hat=>lw_step (bd:=bd) (w6:=w6) (g:=g') (n:=n') (c:=c') (b13:=b13) (wx:=wx) (w4:=w4) (w5:=w5) (S4:=S4) h1 h2 h4 h5 h6 h7 h8 hbw hbx hR hjR hB hx hd hg h13 hr13 n13 ho hgr hat)
     have HOWN:=Lib.hid (show ∀(wx w4 w5:World) (S4:Nat->Prop) (b13:Nat),Below wr.heap.size wr wx->Gr S wx S4 w4->Gr (fun j=>j=b13) w4 (fun j=>j=b13) w5->wr.heap.size<=b13->OwnM w5 w1.heap.size (.slice A9 (lay (hdrB 2 1 F).size pb).length c9) (lay (hdrB 2 1 F).size pb)/\w1.heap.size<=w5.heap.size from fun wx w4 w5 S4 b13 hx hg h13 hr13=>by
      have hlt:=World.ownsRow.lt h5
      have h9:OwnM w4 w1.heap.size (.slice A9 (lay (hdrB 2 1 F).size pb).length c9) (lay (hdrB 2 1 F).size pb):=own_block (h5.below hx (Nat.le_refl _)) fun j e=>hg.block j (Nat.lt_of_lt_of_le (hlt j e).2 hx.size) (h6 j e)
      exact⟨own_block h9 fun j e=>h13.block j (Nat.lt_of_lt_of_le (hlt j e).2 (Nat.le_trans hx.size hg.size)) (by rintro rfl;have:=(hlt _ e).2;omega),Nat.le_trans hbw.size (Nat.le_trans hx.size (Nat.le_trans hg.size h13.size))⟩)
     have HNS:=Lib.hid (show ∀wx,Below wr.heap.size wr wx-> ∀j,wr.heap.size<=j-> ¬ S j from fun wx _ j hj=>h3.gt hj)
     have HLE:=Lib.hid (show(lay (hdrB 2 1 F).size pb).length<=1000000 by omega)
     have HCL:=Lib.hid (show ∀wx,Below wr.heap.size wr wx->wx.cell? (adp.add k)=some (.slice AR nR cR)/\wx.cell? ⟨w3.heap.size,0,none⟩=some (.int .i64 2)/\wx.cell? ⟨w3.heap.size,1,none⟩=some (.int .i64 1)/\wx.cell? ⟨w3.heap.size,2,none⟩=some (.int .i64 (F:Int)) from fun wx hx=>by
      have hb':=hbw.trans (hx.mono hbw.size)
      exact⟨(hb'.cell (p:=adp.add k) (by rw[add_block];exact hadp)).trans hcell,(hbx.ext hx).cell 0 rfl,(hbx.ext hx).cell 1 rfl,(hbx.ext hx).cell 2 rfl⟩)
     have k0:=hbx.cell 0 (v:=.int .i64 2) rfl
     have k1:=hbx.cell 1 (v:=.int .i64 1) rfl
     have k2:=hbx.cell 2 (v:=.int .i64 (F:Int)) rfl
     clear h1 h2 h3 h4 h5 h6 h7 h8 hbw hbx q1 q1' q2 q3 q4 q5 q6 q7 q8 f1 f2 f3 f4 f5 f6 hok hrd9 hl9 hcs hcell hR hcR hrdR hnR hjR hjb hRl hbw0 H hadp
     generalize (hdrB 2 1 F).size+tot pb=T at *
     generalize lay (hdrB 2 1 F).size pb=L9 at *
     generalize hN9:L9.length=n9 at *
     have HN9:=Lib.hid hN9
     clear hN9
     go_wp2_with (first
      |(go_at_call 9;refine HEND.out.mono ?_;rintro e5 w5 ⟨rfl,hb5⟩;have HB5:=Lib.hid hb5;have HB5d:=Lib.hid (show Below wr.heap.size wr w5.drew from hb5.trans ⟨rfl,rfl,rfl,Nat.le_refl _,fun _ _=>rfl⟩);clear hb5))
     clear k0 k1 k2
     have k0:=(HCL.out _ HB5d.out).2.1
     have k1:=(HCL.out _ HB5d.out).2.2.1
     have k2:=(HCL.out _ HB5d.out).2.2.2
     have k3:=(HCL.out _ HB5d.out).1
     have HB5a:=Lib.hid (show Below wr.heap.size wr (w5.alloc (.cells #[.int .i64 0,.int .i64 0,.int .i64 0,.int .i64 0,.int .i64 0,.int .i64 0,.int .i64 0] 39)).drew from(HB5.out.trans ((ext_alloc w5 (.cells #[.int .i64 0,.int .i64 0,.int .i64 0,.int .i64 0,.int .i64 0,.int .i64 0,.int .i64 0] 39)).mono HB5.out.size)).trans ⟨rfl,rfl,rfl,Nat.le_refl _,fun _ _=>rfl⟩)
     have HZ5:=Lib.hid (show Blk (w5.alloc (.cells #[.int .i64 0,.int .i64 0,.int .i64 0,.int .i64 0,.int .i64 0,.int .i64 0,.int .i64 0] 39)).drew w5.heap.size #[.int .i64 0,.int .i64 0,.int .i64 0,.int .i64 0,.int .i64 0,.int .i64 0,.int .i64 0] 39 from Blk.new w5 _ _)
     have j0:=(HCL.out _ HB5a.out).2.1
     have j1:=(HCL.out _ HB5a.out).2.2.1
     have j2:=(HCL.out _ HB5a.out).2.2.2
     have j3:=(HCL.out _ HB5a.out).1
     go_region_with (first
      |(go_at_call 10;first
       |(refine(HADD.out _ HB5d.out).mono ?_;rintro e6 w6 ⟨mm,B,S4,rfl,hmm,hB,hd6,hg6⟩;have HD6:=Lib.hid (And.intro hmm (And.intro hB (And.intro hd6 hg6)));clear hmm hB hd6 hg6)
       |(refine(HADD.out _ HB5a.out).mono ?_;rintro e6 w6 ⟨mm,B,S4,rfl,hmm,hB,hd6,hg6⟩;have hz:=hg6.blk HZ5.out (HNS.out _ HB5a.out _ HB5.out.size);have y0:=hz.cell 0 (v:=.int .i64 0) rfl;have y1:=hz.cell 1 (v:=.int .i64 0) rfl;have y2:=hz.cell 2 (v:=.int .i64 0) rfl;have y3:=hz.cell 3 (v:=.int .i64 0) rfl;have y4:=hz.cell 4 (v:=.int .i64 0) rfl;have y5:=hz.cell 5 (v:=.int .i64 0) rfl;have y6:=hz.cell 6 (v:=.int .i64 0) rfl;have x0:=hz.fz 0;have x1:=hz.fz 1;have x2:=hz.fz 2;have x3:=hz.fz 3;have x4:=hz.fz 4;have x5:=hz.fz 5;have x6:=hz.fz 6;have HD6:=Lib.hid (And.intro hmm (And.intro hB (And.intro hd6 hg6)));clear hmm hB hd6 hg6 hz)))
     all_goals clear j0 j1 j2 j3 k0 k1 k2 k3
     all_goals
      go_wp2_with (first
       |(at_builtin;first
        |(refine appendM mm rfl rfl rfl rfl rfl rfl rfl (HOWN.out _ w6 _ S4 w6.heap.size HB5d.out HD6.out.2.2.2 (Gr.of_below (ext_alloc w6 _)) (Nat.le_trans HB5d.out.size HD6.out.2.2.2.size)).1 (by rw[HN9.out];exact HLE.out) (HOWN.out _ w6 _ S4 w6.heap.size HB5d.out HD6.out.2.2.2 (Gr.of_below (ext_alloc w6 _)) (Nat.le_trans HB5d.out.size HD6.out.2.2.2.size)).2 ?_ (hx:=by simp[Act.eval]);intro g7 cap w7 hown7 hg7 hat7;have HL7:Aside _:=HST.out _ w6 _ w7 B S4 g7 _ cap w6.heap.size HD6.out.2.1 HB5d.out HD6.out.2.2.1 HD6.out.2.2.2 (Gr.of_below (ext_alloc w6 _)) (Nat.le_trans HB5d.out.size HD6.out.2.2.2.size) (HD6.out.2.2.1.gt (Nat.le_refl _)) (by rw[<-HD6.out.1];exact hown7) hg7 hat7;clear hown7 hg7 hat7)
        |(refine appendM mm rfl rfl rfl rfl rfl rfl rfl (HOWN.out _ w6 _ S4 w5.heap.size HB5a.out HD6.out.2.2.2 (gr7 _ _ _ _ _ _ _ _ _) HB5.out.size).1 (by rw[HN9.out];exact HLE.out) (HOWN.out _ w6 _ S4 w5.heap.size HB5a.out HD6.out.2.2.2 (gr7 _ _ _ _ _ _ _ _ _) HB5.out.size).2 ?_ (hx:=by simp[Act.eval]);intro g7 cap w7 hown7 hg7 hat7;have HL7:Aside _:=HST.out _ w6 _ w7 B S4 g7 _ cap w5.heap.size HD6.out.2.1 HB5a.out HD6.out.2.2.1 HD6.out.2.2.2 (gr7 _ _ _ _ _ _ _ _ _) HB5.out.size (HD6.out.2.2.2.out (by simp) (HNS.out _ HB5a.out _ HB5.out.size)) (by rw[<-HD6.out.1];exact hown7) hg7 hat7;clear hown7 hg7 hat7)))
      go_roundg (n1-(k+1))
      case measure=>omega
      case rel=>exact⟨k+1,by go_num,by omega,by omega,HL7⟩
    ·obtain rfl:k=n1:=by omega
     obtain⟨⟨pb,S,D,b,h1,h2,h3,h4,h5,h6,h7,h8⟩,hbw,hbx⟩:=H.out
     obtain⟨q1,q2,q3,q4,q5,q6,q7,q8⟩:=HPA.out
     obtain⟨f1,f2,f3,f4,f5,f6⟩:=pf q5 q8 HX.out.2 q7 h1 h2 HF.out
     have hmp:pb.map (·.1)=Q:=by rw[h1,List.take_of_length_le (by omega)]
     have hfp:fls pb=l:=by unfold fls;rw[hmp,q5]
     have hpl:pb.length=k:=by have:=congrArg List.length hmp;rw[List.length_map] at this;omega
     have hpne:pb≠ []:=by rintro rfl;simp at hpl;omega
     have hok:=okBl_lay (hd:=hdrB 2 1 F) h2 f1 f2 (by omega) (by omega)
     have hft:=ft_le hok
     rw[length_lay] at hft
     obtain⟨A9,c9,rfl,-,-⟩:=own_slice h5
     have hrd9:=Rd.of_own h5
     have hhF:1<=2/\2<=999999/\1<=1/\1<=999999/\1<=F/\F<=1000000000:=by have:=HF.out;omega
     obtain⟨s1,s2⟩:=sealed_lay (i:=2) (g:=1) (F:=F) hhF h2 f1 f2 (by omega) (by omega) hpne (by omega)
     have hzs:endM (hdrB 2 1 F).size (lay (hdrB 2 1 F).size pb)+((ftB (lay (hdrB 2 1 F).size pb)).size+9)=(sealB (hdrB 2 1 F) pb).size:=by
      rw[endM_lay]
      unfold sealB
      rw[ByteArray.size_append,size_frB,fileB_size]
     have hss:(sealB (hdrB 2 1 F) pb).size<=1000000:=by rw[<-hzs,endM_lay];omega
     have HSEAL:=Lib.hid (show Calls Tryz.prog 11 #[.pointer (some ⟨bd,0,none⟩),.agg #[.int .i64 2,.int .i64 1,.int .i64 (F:Int)],.slice A9 (lay (hdrB 2 1 F).size pb).length c9] wr fun e w' =>
       e=.returned (.tuple #[.int .i64 ((sealB (hdrB 2 1 F) pb).size:Int),.int .i64 0])/\ ∃S' D',DiskAt w' S' bd D'/\One D' b (segN 2 1) (sealB (hdrB 2 1 F) pb,sealB (hdrB 2 1 F) pb)/\Gr S wr S' w' from by
      refine(Seal_go (i:=2) (g:=1) (f:=F) h3 h4.calm hhF hrd9 (by rw[length_lay];omega) hok h4.lk h4.fl (by omega) (by dsimp only;rw[fileB_size];omega) (by rw[h4.used,h4.cap];dsimp only;rw[fileB_size];omega) (by rw[endM_lay];omega)).mono ?_
      rintro e w' ⟨rfl,S',g1,g2⟩
      exact⟨by rw[hzs],S',_,g1,(h4.put _).sync,g2⟩)
     have HREAD:=Lib.hid (show ∀(wx:World) (S':Nat->Prop) (D':DS),DiskAt wx S' bd D'->One D' b (segN 2 1) (sealB (hdrB 2 1 F) pb,sealB (hdrB 2 1 F) pb)->Calls Tryz.prog 12 #[.pointer (some ⟨bd,0,none⟩),.agg #[.int .i64 2,.int .i64 1,.int .i64 (F:Int)]] wx fun e w'=>e=.returned (.tuple #[.string (sealB (hdrB 2 1 F) pb),.int .i64 0])/\Below wx.heap.size wx w' from fun wx S' D' hd ho=>by
      have:=Read_go (i:=2) (g:=1) (f:=(F:Int)) hd (by simp only[okH,decide_eq_true_eq];omega)
      have hrp:=ho.read
      rw[show(segN 2 1:ByteArray)=segN 2 1 from rfl] at hrp
      rw[hrp] at this
      exact this)
     have HSLD:=Lib.hid (show ∀wx,Calls Tryz.prog 13 #[.string (sealB (hdrB 2 1 F) pb),.agg #[.int .i64 2,.int .i64 1,.int .i64 (F:Int)]] wx fun e w'=>∃(Ak:Option Addr) (ck:Nat),e=.returned (.tuple #[.slice Ak (lay (hdrB 2 1 F).size pb).length ck,.int .i64 0])/\Rd w' w'.heap.size 7 Ak (lay (hdrB 2 1 F).size pb).length (fl7 (lay (hdrB 2 1 F).size pb))/\Below wx.heap.size wx w' from fun wx=>by
      refine(sealed_any (sealB (hdrB 2 1 F) pb) 2 1 (F:Int) wx hss).mono ?_
      rintro e w' ⟨⟨L,E,v,hl,hx,rfl,hown⟩|⟨L,E,hl,hx,rfl⟩|⟨hl,-⟩,hb⟩
      ·have hl':=hl.symm.trans s1
       cases hl'
       obtain⟨A',c',rfl,-,-,hr⟩:=hown.rd
       exact⟨A',c',rfl,hr,hb⟩
      ·have hl':=hl.symm.trans s1
       cases hl'
       exact absurd s2 hx
      ·have hl':=hl.symm.trans s1
       cases hl')
     have hstd:∀m∈lay (hdrB 2 1 F).size pb,∃R,Stands (sealB (hdrB 2 1 F) pb) m R:=by
      obtain⟨f',e0,-,-,-,-,-,-,hst,-⟩:=tl_some s1
      exact St_stands hst
     have HREC:=Lib.hid (show ∀wx,Rd wx wx.heap.size 7 A9 (lay (hdrB 2 1 F).size pb).length (fl7 (lay (hdrB 2 1 F).size pb))->Calls Tryz.prog 14 #[.string (sealB (hdrB 2 1 F) pb),.slice A9 (lay (hdrB 2 1 F).size pb).length c9] wx fun e w'=>∃(Ar:Option Addr) (cr:Nat),e=.returned (.tuple #[.slice Ar n cr,.int .i64 0])/\Rd w' w'.heap.size 3 Ar n (fl3 l)/\Below wx.heap.size wx w' from fun wx hr=>by
      refine(records_ok (sealB (hdrB 2 1 F) pb) A9 _ c9 _ wx hss hr (by rw[length_lay];omega) hok hstd).mono ?_
      rintro e w' ⟨⟨v,rfl,hown⟩,hb⟩
      rw[recs_seal h2,hfp] at hown
      obtain⟨A',c',rfl,-,-,hr⟩:=hown.rd
      rw[HX.out.1] at hr
      exact⟨A',c',by rw[HX.out.1],hr,hb⟩)
     have HBD:=Lib.hid (show ∀(w5:World) (S5:Nat->Prop),Gr S wr S5 w5->Blk w5 w3.heap.size #[.int .i64 2,.int .i64 1,.int .i64 (F:Int)] 33/\Rd w5 w5.heap.size 7 A9 (lay (hdrB 2 1 F).size pb).length (fl7 (lay (hdrB 2 1 F).size pb))/\Below w1.heap.size w1 w5 from fun w5 S5 hg =>
      ⟨hg.blk hbx h8,Rd.of_own (own_block h5 fun j e=>hg.block j (World.ownsRow.lt h5 j e).2 (h6 j e)),hbw.trans (hg.below hbw.size h7)⟩)
     have k0:=hbx.cell 0 (v:=.int .i64 2) rfl
     have k1:=hbx.cell 1 (v:=.int .i64 1) rfl
     have k2:=hbx.cell 2 (v:=.int .i64 (F:Int)) rfl
     have HPB:=Lib.hid (And.intro hmp (And.intro h2 (And.intro hok (And.intro hft (And.intro hpl (And.intro f5 (And.intro hpne f6)))))))
     have HFP:=Lib.hid hfp
     have hZ:((sealB (hdrB 2 1 F) pb).size:Int)=((sealB (hdrB 2 1 F) pb).size:Int):=rfl
     clear h1 h2 h3 h4 h5 h6 h7 h8 hbw hbx q1 q2 q3 q4 q5 q6 q7 q8 f1 f2 f3 f4 f5 f6 hmp hfp hpl hpne hok hft hrd9 hhF s1 s2 hzs hss hstd H hZ
     generalize hLL:lay (hdrB 2 1 F).size pb=L9 at *
     generalize hSS:sealB (hdrB 2 1 F) pb=SB at *
     have HLS:=Lib.hid (And.intro hLL hSS)
     clear hLL hSS
     go_wp2_with (first
      |(go_at_call 11;refine HSEAL.out.mono ?_;rintro e5 w5 ⟨rfl,S5,D5,hd5,ho5,hg5⟩;have HD5:=Lib.hid (And.intro hd5 (And.intro ho5 hg5));have HM5:=Lib.hid (HBD.out w5 S5 hg5);clear hd5 ho5 hg5 k0 k1 k2;have k0:=HM5.out.1.cell 0 (v:=.int .i64 2) rfl;have k1:=HM5.out.1.cell 1 (v:=.int .i64 1) rfl;have k2:=HM5.out.1.cell 2 (v:=.int .i64 (F:Int)) rfl)
      |(go_at_call 12;refine(HREAD.out w5 S5 D5 HD5.out.1 HD5.out.2.1).mono ?_;rintro e6 w6 ⟨rfl,hb6⟩;have HM6:=Lib.hid (And.intro (HM5.out.1.ext hb6) (And.intro (HM5.out.2.1.ext hb6) (HM5.out.2.2.trans (hb6.mono HM5.out.2.2.size))));clear hb6 k0 k1 k2;have k0:=HM6.out.1.cell 0 (v:=.int .i64 2) rfl;have k1:=HM6.out.1.cell 1 (v:=.int .i64 1) rfl;have k2:=HM6.out.1.cell 2 (v:=.int .i64 (F:Int)) rfl)
      |(go_at_call 13;refine(HSLD.out _).mono ?_;rintro e7 w7 ⟨Ak,ck,rfl,hrk,hb7⟩;have HM7:=Lib.hid (And.intro (HM6.out.1.ext hb7) (And.intro (HM6.out.2.1.ext hb7) (And.intro hrk (HM6.out.2.2.trans (hb7.mono HM6.out.2.2.size)))));clear hb7 k0 k1 k2 hrk)
      |(go_at_call 14;refine(HREC.out _ HM7.out.2.1).mono ?_;rintro e8 w8 ⟨Ar,cr,rfl,hrr,hb8⟩;have HM8:=Lib.hid (And.intro (HM7.out.1.ext hb8) (And.intro (HM7.out.2.1.ext hb8) (And.intro (HM7.out.2.2.1.ext hb8) (And.intro hrr (HM7.out.2.2.2.trans (hb8.mono HM7.out.2.2.2.size))))));clear hb8 hrr))
     have H8:Aside (Bo w8 Q 0 (.slice none 0 0) w8):=⟨⟨[],rfl,fun x hx=>(by cases hx),World.ownsRow_nil _ _ _ _⟩,Below.refl _ _⟩
     clear HSEAL HREAD HSLD HREC HBD HD5 HM5 HM6 HM7
     go_loopg [23,24] k (fun kx s23 s24 wr=>∃(j:Nat),s24=.int .i64 (j:Int)/\j<=k/\k-j<=kx/\Aside (Bo w8 Q j s23 wr))
     case atStart=>exact⟨0,rfl,by omega,by omega,H8⟩
     case round =>
      clear H8
      obtain⟨j,rfl,hj,hjx,H⟩:=hrel
      by_cases hlt2:j<k
      ·obtain⟨q1,q2,q3,q4,q5,q6,q7,q8⟩:=HPA.out
       have q1':w1.ownsRow w.heap.size 22 1 (.slice A1 k c1) k cs:=by
        have:=q1
        unfold OwnR at this
        rwa [q2] at this
       obtain⟨adp,u,rfl,hadp,hcs,hcell⟩:=(Rd.of_own q1').at1 hlt2
       obtain⟨R,hR⟩:∃R,Q[j]? =some R:=⟨Q[j]'(by omega),List.getElem?_eq_getElem (by omega)⟩
       obtain⟨AR,nR,cR,hcR,hrdR,hnR⟩:=q4.2 j R hR
       obtain rfl:u=.slice AR nR cR:=Option.some.inj (hcs.symm.trans hcR)
       have hjR:=q6 R (List.mem_of_getElem? hR)
       have hbq:Below w1.heap.size w1 wr:=HM8.out.2.2.2.2.trans (H.out.below.mono HM8.out.2.2.2.2.size)
       have hbq0:Below w.heap.size w wr:=HB1.out.trans (hbq.mono HB1.out.size)
       have k3:wr.cell? (adp.add j)=some (.slice AR nR cR):=(hbq.cell (p:=adp.add j) (by rw[add_block];exact hadp)).trans hcell
       have HENC:=Lib.hid (encode_blk AR nR cR R wr ((hrdR.below hbq0).more hbq0.size) hnR hjR.1 hjR.2)
       have HNX:=Lib.hid (show ∀(B:ByteArray) (v':Value) (wx wy:World) (pb':List Pb),BlkOf R B->pb'.map (·.1)=Q.take j->Good pb'->Below w8.heap.size w8 wx->OwnStr wy w8.heap.size v' (pb'.map (·.2)++[B])->Below w8.heap.size wx wy->Bo w8 Q (j+1) v' wy from fun B v' wx wy pb' hB e1 e2 hb1 ho hb2 =>
        ⟨⟨pb'++[(R,B)],by rw[List.map_append,e1,take_next hR];rfl,fun z hz=>by
          rcases List.mem_append.1 hz with hz|hz
          ·exact e2 z hz
          ·rw[List.mem_singleton] at hz;subst hz;exact⟨hjR.1,hjR.2,hB⟩,by rw[List.map_append];exact ho⟩,hb1.trans hb2⟩)
       have hjk:j<=200:=by omega
       clear q1 q1' q2 q3 q4 q5 q6 q7 q8 hcs hcell hR hcR hrdR hnR hjR hbq hbq0 hadp
       go_wp2_with (first
        |(go_at_call 15;refine HENC.out.mono ?_;rintro e9 w9 ⟨⟨B,hB,rfl⟩,hb9⟩;have HB9:=Lib.hid hB;have H9:Aside _:=H.out.ext hb9;clear hB hb9)
        |(at_builtin;obtain⟨⟨pb',e1,e2,e3⟩,e4⟩:=H9.out;refine appendStr e3 (by have:=congrArg List.length e1;rw[List.length_map,List.length_take] at this;rw[List.length_map];omega) e4.size ?_;intro v' wy ho hby;have HN9:Aside _:=HNX.out B v' _ wy pb' HB9.out e1 e2 e4 ho hby;clear e1 e2 e3 e4 ho hby))
       go_roundg (k-(j+1))
       case measure=>omega
       case rel=>exact⟨j+1,by go_num,by omega,by omega,HN9⟩
      ·obtain rfl:j=k:=by omega
       obtain⟨g1,g2,g3,g4,g5,g6,g7,g8⟩:=HPB.out
       obtain⟨⟨pb',e1,e2,e3⟩,e4⟩:=H.out
       have hpp:pb'=pb:=good_unique e2 g2 (by rw[e1,g1,List.take_of_length_le (by rw[<-g1,List.length_map];omega)])
       rw[hpp] at e3
       obtain⟨Ab,cb,rfl,-,-⟩:=own_slice e3
       have hrb:=Rd.of_own e3
       rw[List.map_map] at hrb
       have hnb:(pb.map (·.2)).length<=1000:=by rw[List.length_map];omega
       generalize (pb.map (·.2)).length=nb at *
       have hhF:1<=2/\2<=999999/\1<=1/\1<=999999/\1<=F/\F<=1000000000:=by have:=HF.out;omega
       have hL:=HLS.out.1
       have hS:=HLS.out.2
       rw[<-hL] at g3 g4
       have hzs:endM (hdrB 2 1 F).size (lay (hdrB 2 1 F).size pb)+((ftB (lay (hdrB 2 1 F).size pb)).size+9)=(sealB (hdrB 2 1 F) pb).size:=by
        rw[endM_lay]
        unfold sealB
        rw[ByteArray.size_append,size_frB,fileB_size]
       have HN2:=Lib.hid (fun w=>new_ok 1000000 w (by omega) (by omega))
       have HWR:=Lib.hid (show ∀(bd2:Nat) (S10:Nat->Prop) (w10:World),DiskAt w10 S10 bd2 (newD 1000000)->Gr (fun _=>False) wr S10 w10->Calls Tryz.prog 16 #[.pointer (some ⟨bd2,0,none⟩),.agg #[.int .i64 2,.int .i64 1,.int .i64 (F:Int)],.slice Ab nb cb] w10 fun e w' =>
         ∃(Av:Option Addr) (cv:Nat) (b2:Nat) (S':Nat->Prop) (D':DS),e=.returned (.tuple #[.slice Av L9.length cv,.int .i64 (SB.size:Int),.int .i64 0])/\Rd w' w'.heap.size 7 Av L9.length (fl7 L9)/\DiskAt w' S' bd2 D'/\One D' b2 (segN 2 1) (SB,SB)/\Below wr.heap.size wr w' from fun bd2 S10 w10 hd hg=>by
        have hb10:Below wr.heap.size wr w10:=hg.below (Nat.le_refl _) (fun _ h=>h.elim)
        have hs10:∀j,S10 j->wr.heap.size<=j:=hg.ge (Nat.le_refl _) (fun _ h=>h.elim)
        have hfz:=g4
        have y2:Rd w10 w10.heap.size 1 Ab nb (pb.map fun x=>.string x.2):=hrb.ext hb10
        have y4:tot pb<=900000:=by omega
        have y6:(ftB (lay (hdrB 2 1 F).size pb)).size<=60000:=by omega
        have y7:(36:Int)+(tot pb:Int)+((ftB (lay (hdrB 2 1 F).size pb)).size:Int)+9+((usedD (newD 1000000):Nat):Int)<=(newD 1000000).cap:=by
         have e1:usedD (newD 1000000)=0:=rfl
         have e2:(newD 1000000).cap=1000000:=rfl
         rw[e1,e2];omega
        have y8:endM (hdrB 2 1 F).size (lay (hdrB 2 1 F).size pb)<=2000000:=by rw[endM_lay];omega
        have y9:lk (segN ((2:Nat):Int) ((1:Nat):Int)) (newD 1000000).now=none:=rfl
        have y10:Calm (newD 1000000):=⟨rfl,rfl⟩
        have y11:(newD 1000000).now.length<200:=by show 0<200;omega
        have y12:(newD 1000000).chg.length<=1000000:=by show 0<=1000000;omega
        have yy:=Write_go (i:=2) (g:=1) (f:=F) (n:=nb) (c:=cb) (pb:=pb) hd y10 y2 hnb g7 g2 y4 hhF y9 y11 y12 g3 y6 y7 y8
        rw[show((2:Nat):Int)=2 from rfl,show((1:Nat):Int)=1 from rfl] at yy
        refine yy.mono ?_
        rintro e w' ⟨v,rfl,hov,-,b2,S',-,hd',hg',-⟩
        obtain⟨Av,cv,rfl,-,-,hrv⟩:=hov.rd
        rw[hL] at hrv
        refine⟨Av,cv,b2,S',_,by rw[hzs,hS,hL],hrv,hd',?_,hb10.trans (hg'.below hb10.size hs10)⟩
        rw[<-hS]
        exact one_write (segN 2 1) (hdrB 2 1 F) b2 pb)
       have HRD2:=Lib.hid (show ∀(bd2 b2:Nat) (wx:World) (S':Nat->Prop) (D':DS),DiskAt wx S' bd2 D'->One D' b2 (segN 2 1) (SB,SB)->Calls Tryz.prog 12 #[.pointer (some ⟨bd2,0,none⟩),.agg #[.int .i64 2,.int .i64 1,.int .i64 (F:Int)]] wx fun e w'=>e=.returned (.tuple #[.string SB,.int .i64 0])/\Below wx.heap.size wx w' from fun bd2 b2 wx S' D' hd ho=>by
        have:=Read_go (i:=2) (g:=1) (f:=(F:Int)) hd (by simp only[okH,decide_eq_true_eq];have:=HF.out;omega)
        rw[ho.read] at this
        exact this)
       have hb8:Below w1.heap.size w1 wr:=HM8.out.2.2.2.2.trans (e4.mono HM8.out.2.2.2.2.size)
       have HK:=Lib.hid (show ∀wx,Below wr.heap.size wr wx->Rd wx wx.heap.size 7 A9 L9.length (fl7 L9)/\Rd wx wx.heap.size 7 Ak L9.length (fl7 L9)/\Rd wx wx.heap.size 3 Ar n (fl3 l)/\Rd wx wx.heap.size 3 (some ad) n (fl3 l)/\Blk wx w3.heap.size #[.int .i64 2,.int .i64 1,.int .i64 (F:Int)] 33 from fun wx hx=>by
        have e5:=e4.trans (hx.mono e4.size)
        have e6:=HB1.out.trans ((hb8.trans (hx.mono hb8.size)).mono HB1.out.size)
        exact⟨HM8.out.2.1.ext e5,HM8.out.2.2.1.ext e5,HM8.out.2.2.2.1.ext e5,(HRL.out.below e6).more e6.size,HM8.out.1.ext e5⟩)
       have HBW:=Lib.hid (show Below w.heap.size w wr from HB1.out.trans (hb8.mono HB1.out.size))
       have HNN:=Lib.hid (show L9.length<=1000000/\n<=100000 from by
        refine⟨by rw[<-hL,length_lay];omega,?_⟩
        obtain⟨q1,q2,q3,q4,q5,q6,q7,q8⟩:=HPA.out
        have:=HX.out.1
        omega)
       have tok1:True:=trivial
       clear g1 g2 g3 g4 g5 g6 g7 g8 e1 e2 e3 e4 hrb hnb hhF hL hS hzs hb8 hpp H HPB HLS
       go_wp2_with (first
        |(go_at_call 7;refine(HN2.out _).mono ?_;rintro e10 w10 ⟨bd2,rfl,S10,hd10,hg10⟩;have HD10:=Lib.hid (And.intro hd10 hg10);have hx10:=(HK.out w10 (hg10.below (Nat.le_refl _) (fun _ h=>h.elim))).2.2.2.2;have k0:=hx10.cell 0 (v:=.int .i64 2) rfl;have k1:=hx10.cell 1 (v:=.int .i64 1) rfl;have k2:=hx10.cell 2 (v:=.int .i64 (F:Int)) rfl;clear hd10 hg10 hx10)
        |(go_at_call 16;refine(HWR.out bd2 S10 w10 HD10.out.1 HD10.out.2).mono ?_;rintro e11 w11 ⟨Av,cv,b2,S11,D11,rfl,hrv,hd11,ho11,hb11⟩;have HD11:=Lib.hid (And.intro hrv (And.intro hd11 (And.intro ho11 hb11)));have hx11:=(HK.out w11 hb11).2.2.2.2;clear k0 k1 k2;have k0:=hx11.cell 0 (v:=.int .i64 2) rfl;have k1:=hx11.cell 1 (v:=.int .i64 1) rfl;have k2:=hx11.cell 2 (v:=.int .i64 (F:Int)) rfl;clear hrv hd11 ho11 hb11 hx11)
        |(go_at_call 12;refine(HRD2.out bd2 b2 w11 S11 D11 HD11.out.2.1 HD11.out.2.2.1).mono ?_;rintro e12 w12 ⟨rfl,hb12⟩;have HB12:=Lib.hid (HD11.out.2.2.2.trans (hb12.mono HD11.out.2.2.2.size));have HV12:=Lib.hid (HD11.out.1.ext hb12);clear hb12 k0 k1 k2)
        |(have _t:=tok1;go_at_call 17;refine(same_mt Ak A9 _ ck c9 L9 _ (HK.out _ HB12.out).2.1 (HK.out _ HB12.out).1 HNN.out.1).mono ?_;rintro e13 w13 ⟨rfl,hb13⟩;have HB13:=Lib.hid (HB12.out.trans (hb13.mono HB12.out.size));have HV13:=Lib.hid (HV12.out.ext hb13);clear hb13 tok1)
        |(go_at_call 18;refine(same_yes Ar (some ad) n cr c l _ (HK.out _ HB13.out).2.2.1 (HK.out _ HB13.out).2.2.2.1 HNN.out.2).mono ?_;rintro e14 w14 ⟨rfl,hb14⟩;have HB14:=Lib.hid (HB13.out.trans (hb14.mono HB13.out.size));have HV14:=Lib.hid (HV13.out.ext hb14);clear hb14)
        |(go_at_call 17;refine(same_mt Av A9 _ cv c9 L9 _ HV14.out (HK.out _ HB14.out).1 HNN.out.1).mono ?_;rintro e15 w15 ⟨rfl,hb15⟩;have HB15:=Lib.hid (HB14.out.trans (hb15.mono HB14.out.size));clear hb15)
        |(go_at_call 6;refine(HA.out _).mono ?_;rintro e16 w16 ⟨rfl,hb16⟩;have HB16:=Lib.hid (HB15.out.trans (hb16.mono HB15.out.size));clear hb16))
       go_ret
       exact⟨rfl,HBW.out.trans (HB16.out.mono HBW.out.size)⟩
 ·have HP2:=Lib.hid (HP.out.mono (R':=fun e w'=>(∃(A1:Option Addr) (c1:Nat),e=.returned (.slice A1 0 c1))/\Below w.heap.size w w') (by
   rintro e w' ⟨v,rfl,hpa,hb⟩
   obtain⟨A1,n1,c1,rfl,rfl|⟨cs,Q,hn1,hn2,q1,q2,q3,q4,q5,q6,q7,q8⟩⟩:=pts_norm hpa
   ·exact⟨⟨A1,c1,rfl⟩,hb⟩
   ·exfalso
    refine hcase ⟨?_,q8⟩
    rcases hQ:Q with _|⟨R,Q'⟩
    ·rw[hQ] at q3;simp at q3;omega
    ·have hR:R∈Q:=by rw[hQ];exact List.mem_cons_self ..
     have h1:=(List.sublist_flatten_of_mem hR).length_le
     have h2:=List.length_pos_iff.2 (q6 R hR).2
     rw[q5] at h1
     omega))
  clear HP hrd hnc hcm hm HAW hln hcase
  go_enter Tryz.func3, Tryz.ntmps3
  go_wp2_with (first
   |(go_at_call 5;refine HP2.out.mono ?_;rintro e1 w1 ⟨⟨A1,c1,rfl⟩,hb1⟩;have HB1:=Lib.hid hb1;clear hb1)
   |(go_at_call 6;refine(HA.out _).mono ?_;rintro e2 w2 ⟨rfl,hb2⟩))
  go_ret
  exact⟨rfl,HB1.out.trans (hb2.mono HB1.out.size)⟩
end Dk
end Go.Proofs.YtlnbjikooadmoaaGreat
namespace Go.Proofs.YtlnbjikooadmoaaGreat
namespace Dk
open Go.RowKit Hd Fm Sn Bk Rd Bd
theorem int_le {m:Int} (h:(Lit.int .i64 m).wf=true):m<=9223372036854775807:=by
 simp only[Lit.wf,IntKind.min,IntKind.max,IntKind.signed,IntKind.bits,Bool.and_eq_true,decide_eq_true_eq,if_true] at h
 omega
theorem keeps_law (A:Option Addr) (n c:Nat) (l:List (Int×Int×ByteArray)) (m:Int) (w:World) (hrd:Rd w w.heap.size 3 A n (fl3 l)) (hnc:n<=c) (hcm:c<=maxLen) (hm:(Lit.int .i64 m).wf=true) :
  Calls Tryz.prog 3 #[.slice A n c,.int .i64 m] w fun e w'=>e=.returned (.bool true)/\Below w.heap.size w w' :=
 keeps_any awake_any A n c l m w hrd hnc hcm (int_le hm)
end Dk
end Go.Proofs.YtlnbjikooadmoaaGreat
namespace Go.Proofs.YtlnbjikooadmoaaGreat
namespace Rd
open Go.RowKit Go.ChangeShapes Go.WideShapes Go.Deep
theorem fl3_inv {l:List (Int×Int×ByteArray)} {j:Nat} {u:Value} (h:(fl3 l)[j]? =some u):∃(k s:Nat) (x:Int×Int×ByteArray),j=k*3+s/\s<3/\l[k]? =some x/\(cl3 x)[s]? =some u:=by
 have hj:j<l.length*3:=by rw[<-length_fl3];exact(List.getElem?_eq_some_iff.1 h).1
 have hk:j/3<l.length:=by omega
 obtain⟨x,hx⟩:∃x,l[j/3]? =some x:=⟨_,List.getElem?_eq_getElem hk⟩
 obtain⟨h1,h2,h3⟩:=fl3_at l (j/3) x hx
 have hs:j%3<3:=Nat.mod_lt _ (by omega)
 refine⟨j/3,j%3,x,by omega,hs,hx,?_⟩
 rw[show j=j/3*3+j%3 by omega] at h
 generalize j%3=s at *
 rcases s with _|_|_|s
 ·rw[Nat.add_zero] at h;exact h1.symm.trans h
 ·exact h2.symm.trans h
 ·exact h3.symm.trans h
 ·omega
theorem open_recs {H:Type} {enc:TypeId×Value->H} {P:Program} {w:World} {base:Nat} {r:Reach} {t e:TypeId} {f0 f1 f2:Field} {v:Value} {d:DataW H} {p:List MemPlace}
  (ht:P.underlying t=some (.slice e)) (he:P.underlying e=some (.struct #[f0,f1,f2])) (hone:oneCellFields P #[f0,f1,f2]=true) (hc:P.cellsOf e=3)
  (t0:P.underlying f0.type=some (.int .i64)) (t1:P.underlying f1.type=some (.int .i64)) (t2:P.underlying f2.type=some .string)
  (hv:Value.okWide P w r base t v) (h:DataW.Trod enc P w 0 (fun _=>true) true t v d p) :
  ∃(A:Option Addr) (n c:Nat) (l:List (Int×Int×ByteArray)),v=.slice A n c/\Rd w w.heap.size 3 A n (fl3 l)/\n<=c/\c<=maxLen/\l.length=n:=by
 obtain⟨a0,len,cap,rfl⟩:=okWide_slice ht hv
 obtain⟨fuel,hf⟩:=h
 rcases Go.Deep.open_slice ht hf with ⟨hcs,-⟩|⟨a,len',cap',m,n,D,Pl,hcs,-,hl,hm,hmm,-,hx⟩
 ·simp[Value.cells] at hcs
  obtain⟨rfl,rfl,rfl⟩:=hcs
  exact⟨none,0,0,[],rfl,Rd.nil,Nat.le_refl _,by simp[maxLen],rfl⟩
 ·simp[Value.cells] at hcs
  obtain⟨rfl,rfl,rfl⟩:=hcs
  rw[hc] at hx
  have hlm:len<=m:=by rw[hmm,if_pos rfl];exact hl
  have hex:∀i,i<len-> ∃x:Int×Int×ByteArray,∀s u,(cl3 x)[s]? =some u->w.cell? (a.add (i*3+s))=some u:=by
   intro i hi
   obtain⟨cs',hcl,htr⟩:=hx i (by omega)
   obtain⟨-,hlen,hat⟩:=World.cells?_some hcl
   obtain⟨ys,k,-,-,-,hyl,hfl⟩:=DataW.trod_struct he htr
   match cs',hlen with
   | [c0,c1,c2],_ =>
     have g:∀(j:Nat) (f:Field),#[f0,f1,f2][j]? =some f-> ∃y,DataW.trod enc P w 0 (fun _=>true) true k f.type (([c0,c1,c2].drop j).take 1)=some y:=by
      intro j f hj
      obtain⟨o1,o2⟩:=Go.Deep.hone_of hone j f hj
      have:=hfl j f hj
      rw[o1,o2] at this
      have hjl:j<ys.length:=by rw[hyl];exact(Array.getElem?_eq_some_iff.1 hj).1
      exact⟨_,this.trans (List.getElem?_eq_getElem hjl)⟩
     obtain⟨y0,g0⟩:=g 0 f0 rfl
     obtain⟨y1,g1⟩:=g 1 f1 rfl
     obtain⟨y2,g2⟩:=g 2 f2 rfl
     obtain⟨q,hq,-,-⟩:=DataW.trod_int t0 g0
     obtain⟨tk,htk,-,-⟩:=DataW.trod_int t1 g1
     obtain⟨d,hd,-,-⟩:=DataW.trod_string t2 g2
     simp at hq htk hd
     subst hq;subst htk;subst hd
     refine⟨(q,tk,d),fun s u hu=>?_⟩
     rw[<-add_add]
     have hs:s<3:=(List.getElem?_eq_some_iff.1 hu).1
     rw[hat s hs];exact hu
  obtain⟨R,hR⟩:=Go.Deep.choose_lt hex
  refine⟨some a,len,cap,(List.range len).map R,rfl,⟨by rw[length_fl3];simp,fun hn=>⟨a,rfl,?_,?_⟩⟩,hl,hm,by simp⟩
  ·have h0:=World.block_lt_of_cell? w _ (hR 0 hn 0 _ rfl)
   rwa [add_block] at h0
  ·intro j u hu
   obtain⟨k,s,x,rfl,hs,hk,hc⟩:=fl3_inv hu
   rw[List.getElem?_map] at hk
   rcases Nat.lt_or_ge k len with hkl|hkl
   ·rw[List.getElem?_eq_getElem (by simpa using hkl)] at hk
    simp at hk
    subst hk
    exact hR k hkl s u hc
   ·rw[List.getElem?_eq_none (by simpa using hkl)] at hk
    cases hk
end Rd
end Go.Proofs.YtlnbjikooadmoaaGreat
