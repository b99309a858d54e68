/- squash.Unpack. -/
import Derived.Test.YtjligbmickfbdaaGreatBe24
import Derived.Test.YtjligbmickfbdaaGreatBe42
import Derived.Test.YtjligbmickfbdaaGreatBe43
import Derived.Test.YtjligbmickfbdaaGreatBe45
import Derived.Test.YtjligbmickfbdaaGreatBe06
namespace Go.Proofs.YtjligbmickfbdaaGreat
namespace Sq
open Go.RowKit Zr Vi Tk
open Bt (Frm)
theorem gv_le:∀(l:List UInt8) (k n:Nat),(gv k n l).2.2=0->k<(gv k n l).2.1/\(gv k n l).2.1<=k+l.length
 | [],k,n,h=>by simp only[gv] at h;split at h<;>omega
 |c::l,k,n,h=>by
  simp only[gv] at h ⊢;by_cases h1:9<=k
  ·rw[if_pos h1] at h;simp at h
  ·rw[if_neg h1] at h ⊢
   by_cases h2:128<=c.toNat
   ·rw[if_pos h2] at h ⊢
    have:=gv_le l (k+1) _ h;simp only[List.length_cons];omega
   ·rw[if_neg h2] at h ⊢
    by_cases h3:c.toNat=0/\0<k
    ·rw[if_pos h3] at h;simp at h
    ·rw[if_neg h3]
     simp only[List.length_cons];omega
theorem getN_len (l:List Int):∀(k:Nat) (b:List Bool) (s:List Int) (r:List Bool),Cn.getN l k b=some (s,r)->s.length=k
 |0,b,s,r,h=>by simp only[Cn.getN] at h;cases h;rfl
 |k+1,b,s,r,h=>by
  simp only[Cn.getN] at h;split at h
  ·cases h
  ·split at h
   ·cases h
   ·rename_i hg
    cases h
    rw[List.length_cons,getN_len l k _ _ _ hg]
theorem hd_len (b:List Bool) (k:Nat) (s:List Int) (h:Hf.hd b k=some s):s.length=k:=by
 unfold Hf.hd at h;split at h
 ·cases h
 ·split at h
  ·split at h
   ·cases h
   ·rename_i hg
    split at h
    ·cases h;exact getN_len _ _ _ _ _ hg
    ·cases h
  ·cases h
theorem head_e1 {l:List UInt8} {n1 k1:Nat} {x:Int} (h1:gv 0 0 l=(n1,k1,x)) (hx:x≠0):head l=(x,0,0,0,[]):=by
 unfold head;rw[h1,if_pos hx]
theorem head_e2 {l:List UInt8} {n1 k1 n2 k2:Nat} {x:Int} (h1:gv 0 0 l=(n1,k1,0)) (h2:gv 0 0 (l.drop k1)=(n2,k2,x)) (hx:x≠0):head l=(x,0,0,0,[]):=by
 unfold head;rw[h1,if_neg (by simp)];simp only[h2];rw[if_pos hx]
theorem head_e3 {l:List UInt8} {n1 k1 n2 k2 n3 k3:Nat} {x:Int} (h1:gv 0 0 l=(n1,k1,0)) (h2:gv 0 0 (l.drop k1)=(n2,k2,0)) (h3:gv 0 0 (l.drop (k1+k2))=(n3,k3,x)) (hx:x≠0):head l=(x,0,0,0,[]):=by
 unfold head;rw[h1,if_neg (by simp)];simp only[h2];rw[if_neg (by simp),List.drop_drop];simp only[h3];rw[if_pos hx]
theorem head_ok {l:List UInt8} {n1 k1 n2 k2 n3 k3:Nat} (h1:gv 0 0 l=(n1,k1,0)) (h2:gv 0 0 (l.drop k1)=(n2,k2,0)) (h3:gv 0 0 (l.drop (k1+k2))=(n3,k3,0)):head l=(0,n1,n2,n3,l.drop (k1+k2+k3)):=by
 unfold head;rw[h1,if_neg (by simp)];simp only[h2];rw[if_neg (by simp),List.drop_drop];simp only[h3];rw[if_neg (by simp),List.drop_drop]
theorem un_caught_ok (w:World) (b bN bS bP bM bR bB n1 k1 n2 k2 n3 k3:Nat) (s:ByteArray) (hV:Vs w b bN bS bP bM bR bB s 0 0 0 0 ⟨#[]⟩) (hs:s.size<=1000000) (hk:k1+k2+k3<=s.size)
  (h1:gv 0 0 s.data.toList=(n1,k1,0)) (h2:gv 0 0 (s.data.toList.drop k1)=(n2,k2,0)) (h3:gv 0 0 (s.data.toList.drop (k1+k2))=(n3,k3,0)) :
  Calls Tryz.prog 38 #[.func (.func 39) #[] #[.pointer (some ⟨bN,0,none⟩),.pointer (some ⟨bS,0,none⟩),.pointer (some ⟨bP,0,none⟩),.pointer (some ⟨bM,0,none⟩),.pointer (some ⟨bR,0,none⟩),.pointer (some ⟨bB,0,none⟩)]] w fun e w' =>
   e=.returned (.tuple #[.int .i64 0,.int .i64 0])/\Var w' bS 3 (.int .i64 (n1:Int))/\Var w' bP 3 (.int .i64 (n2:Int))/\Var w' bM 3 (.int .i64 (n3:Int))/\Var w' bB 9 (.string ⟨(s.data.toList.drop (k1+k2+k3)).toArray⟩)/\Keep w w' [b,bS,bP,bM,bB]:=by
 have hl:∀k∈ [b,bS,bP,bM,bB],k<w.heap.size:=by
  intro k hk;simp at hk
  rcases hk with rfl|rfl|rfl|rfl|rfl
  ·exact hV.ta.lt
  ·exact hV.vS.lt
  ·exact hV.vP.lt
  ·exact hV.vM.lt
  ·exact hV.vB.lt
 have hb:=wC_keep w;have hc:=un1_ok (wC w) b bN bS bP bM bR bB n1 k1 n2 k2 n3 k3 s (hV.keep (Keep.of_below hb)) hs hk h1 h2 h3;have hwc:=wC_vars w;have h:=caught_ok w _ (fun w'=>Var w' bS 3 (.int .i64 (n1:Int))/\Var w' bP 3 (.int .i64 (n2:Int))/\Var w' bM 3 (.int .i64 (n3:Int))/\Var w' bB 9 (.string ⟨(s.data.toList.drop (k1+k2+k3)).toArray⟩)/\Keep (wC w) w' [b,bS,bP,bM,bB])
  (fun w' hG=>⟨hG.2.2.2.2.var hwc.1 (fun hm=>by have:=hl _ hm;omega),hG.2.2.2.2.var hwc.2 (fun hm=>by have:=hl _ hm;omega)⟩) hc
 refine h.mono ?_;rintro e w' ⟨rfl,w2,⟨g1,g2,g3,g4,g5⟩,hkp⟩;have hn:∀k∈ [b,bS,bP,bM,bB],k∉ [w.heap.size,w.heap.size+1]:=by
  intro k hk hm;have:=hl k hk;simp at hm
  omega
 refine⟨rfl,hkp.var g1 (hn _ (by simp)),hkp.var g2 (hn _ (by simp)),hkp.var g3 (hn _ (by simp)),hkp.var g4 (hn _ (by simp)),?_⟩;have hkk:Keep w w2 [b,bS,bP,bM,bB]:=(Keep.of_below hb).trans (w':=wC w) g5;exact⟨hkp.os.trans hkk.os,hkp.tape.trans hkk.tape,hkp.output.trans hkk.output,Nat.le_trans hkk.size hkp.size,fun k hk hm=>(hkp.blk k (Nat.lt_of_lt_of_le hk hkk.size) (by simp;omega)).trans (hkk.blk k hk hm)⟩
theorem un_caught_no (w:World) (b bN bS bP bM bR bB:Nat) (x:Int) (s:ByteArray) (hV:Vs w b bN bS bP bM bR bB s 0 0 0 0 ⟨#[]⟩)
  (hc:∀w1,Vs w1 b bN bS bP bM bR bB s 0 0 0 0 ⟨#[]⟩->Calls Tryz.prog 39 #[.pointer (some ⟨bN,0,none⟩),.pointer (some ⟨bS,0,none⟩),.pointer (some ⟨bP,0,none⟩),.pointer (some ⟨bM,0,none⟩),.pointer (some ⟨bR,0,none⟩),.pointer (some ⟨bB,0,none⟩)] w1 fun e w' =>
   (∃p,e=.panicked [fault x p])/\Keep w1 w' [b,bS,bP,bM,bB]) :
  Calls Tryz.prog 38 #[.func (.func 39) #[] #[.pointer (some ⟨bN,0,none⟩),.pointer (some ⟨bS,0,none⟩),.pointer (some ⟨bP,0,none⟩),.pointer (some ⟨bM,0,none⟩),.pointer (some ⟨bR,0,none⟩),.pointer (some ⟨bB,0,none⟩)]] w fun e w' =>
   (∃p:Int,e=.returned (.tuple #[.int .i64 x,.int .i64 p]))/\Keep w w' [b,bS,bP,bM,bB]:=by
 have hl:∀k∈ [b,bS,bP,bM,bB],k<w.heap.size:=by
  intro k hk;simp at hk
  rcases hk with rfl|rfl|rfl|rfl|rfl
  ·exact hV.ta.lt
  ·exact hV.vS.lt
  ·exact hV.vP.lt
  ·exact hV.vM.lt
  ·exact hV.vB.lt
 have hb:=wC_keep w;have hwc:=wC_vars w;have h:=caught_no w _ x (fun w'=>Keep (wC w) w' [b,bS,bP,bM,bB])
  (fun w' hG=>⟨hG.var hwc.1 (fun hm=>by have:=hl _ hm;omega),hG.var hwc.2 (fun hm=>by have:=hl _ hm;omega)⟩) (hc (wC w) (hV.keep (Keep.of_below hb)))
 refine h.mono ?_;rintro e w' ⟨he,w2,g5,hkp⟩;refine⟨he,?_⟩;have hkk:Keep w w2 [b,bS,bP,bM,bB]:=(Keep.of_below hb).trans (w':=wC w) g5;exact⟨hkp.os.trans hkk.os,hkp.tape.trans hkk.tape,hkp.output.trans hkk.output,Nat.le_trans hkk.size hkp.size,fun k hk hm=>(hkp.blk k (Nat.lt_of_lt_of_le hk hkk.size) (by simp;omega)).trans (hkk.blk k hk hm)⟩
theorem wpList_alloc_var {P:Program} {ops:Array Oper} {rest:List Oper} {op:Oper} {a:Act} {w:World} {Q:Exit->Act->World->Prop} (hgd:op.guard=none) (t:TypeId) (ho:op.op=.alloc t) (z:Value) (hz:(P.info? t).map (fun i=>(i.zero,i.size))=some (some z,1)) (hc:z.cells= #[z])
  (h:∀w',Var w' w.heap.size t z->Below w.heap.size w w'->w.heap.size<w'.heap.size->wpList P ops Q rest (a.put op.dst (.pointer (some ⟨w.heap.size,0,none⟩))) w'):wpList P ops Q (op::rest) a w:=by
 refine wpList_alloc_zero hgd t ho z 1 hz ?_;refine h _ ?_ ((Below.refl _ _).alloc (Nat.le_refl _) _) (by simp);rw[hc];exact Var.new w t z
theorem store_one {P:Program} {w:World} {a:Addr} {v old:Value} (h1:v.oneCell'=true) (hc:w.cell? a=some old) (hf:w.frozen? a=false):(store a v).run P w=.ok () (w.setCell a v):=by
 rw[run_store P w a v _ h1,hc];simp[hf]
theorem z_fi:(Tryz.prog.info? 68).map (fun i=>(i.zero,i.size))=some (some .nilFunc,1):=by kernel_rfl
theorem z_fs:(Tryz.prog.info? 69).map (fun i=>(i.zero,i.size))=some (some .nilFunc,1):=by kernel_rfl
theorem z_i:(Tryz.prog.info? 3).map (fun i=>(i.zero,i.size))=some (some (.int .i64 0),1):=by kernel_rfl
theorem z_s:(Tryz.prog.info? 9).map (fun i=>(i.zero,i.size))=some (some (.string ⟨#[]⟩),1):=by kernel_rfl
def w4 (w:World):World:=(((w.alloc (.cells #[.int .i64 0] 3)).alloc (.cells #[.int .i64 0] 3)).alloc (.cells #[.int .i64 0] 3)).alloc (.cells #[.string ⟨#[]⟩] 9)
theorem four_vars (w:World):Var (w4 w) w.heap.size 3 (.int .i64 0)/\Var (w4 w) (w.heap.size+1) 3 (.int .i64 0)/\Var (w4 w) (w.heap.size+1+1) 3 (.int .i64 0)/\Var (w4 w) (w.heap.size+1+1+1) 9 (.string ⟨#[]⟩)/\Below w.heap.size w (w4 w):=by
 have s1:(w.alloc (.cells #[.int .i64 0] 3)).heap.size=w.heap.size+1:=by simp
 have s2:((w.alloc (.cells #[.int .i64 0] 3)).alloc (.cells #[.int .i64 0] 3)).heap.size=w.heap.size+1+1:=by simp
 have s3:(((w.alloc (.cells #[.int .i64 0] 3)).alloc (.cells #[.int .i64 0] 3)).alloc (.cells #[.int .i64 0] 3)).heap.size=w.heap.size+1+1+1:=by simp
 refine⟨(((Var.new w _ _).alloc _).alloc _).alloc _,?_,?_,?_,(((((Below.refl _ _).alloc (Nat.le_refl _) _).alloc (by omega) _).alloc (by omega) _).alloc (by omega) _)⟩
 ·have:=((Var.new (w.alloc (.cells #[.int .i64 0] 3)) 3 (.int .i64 0)).alloc (.cells #[.int .i64 0] 3)).alloc (.cells #[.string ⟨#[]⟩] 9)
  rw[s1] at this;exact this
 ·have:=(Var.new ((w.alloc (.cells #[.int .i64 0] 3)).alloc (.cells #[.int .i64 0] 3)) 3 (.int .i64 0)).alloc (.cells #[.string ⟨#[]⟩] 9)
  rw[s2] at this;exact this
 ·have:=Var.new (((w.alloc (.cells #[.int .i64 0] 3)).alloc (.cells #[.int .i64 0] 3)).alloc (.cells #[.int .i64 0] 3)) 9 (.string ⟨#[]⟩)
  rw[s3] at this;exact this
set_option maxHeartbeats 6400000 in
set_option maxRecDepth 100000 in
theorem unpack_any (b:ByteArray) (w:World) (hs:b.size<=1000000) :
  Calls Tryz.prog 16 #[.string b] w fun e w' =>
   ((∃r,unS b.data.toList=some r/\e=.returned (.tuple #[.string ⟨r.toArray⟩,.int .i64 0])) ∨
    (unS b.data.toList=none/\ ∃x,e=.returned (.tuple #[.string ⟨#[]⟩,.int .i64 x])/\x≠0/\((head b.data.toList).1≠0->x=(head b.data.toList).1)))/\Below w.heap.size w w':=by
 have mixed:Tryz.prog.follows .mixedOrders=true:=by kernel_rfl
 obtain⟨T,hT⟩:∃T,T=unS b.data.toList:=⟨_,rfl⟩
 obtain⟨H1,hH1⟩:∃H1,H1=(head b.data.toList).1:=⟨_,rfl⟩
 simp only[<-hT,<-hH1];have HT:=Lib.hid hT;have HH1:=Lib.hid hH1;clear hT hH1
 go_enter Tryz.func16, Tryz.ntmps16
 go_wp2_with fail
 refine(takeNew_any b w).mono ?_;rintro e1 w1 ⟨rfl,hta,hb1⟩;have HTA:=Lib.hid (And.intro hta hb1);clear hta hb1;have tk1:True:=trivial;have tk2:True:=trivial;go_wp2_with (first|(have _t:=tk1;refine wpList_alloc_var rfl 68 rfl _ z_fi rfl ?_;intro wa va ba la;clear tk1)|(have _t:=tk2;refine wpList_alloc_var rfl 69 rfl _ z_fs rfl ?_;intro wb vb bb lb;clear tk2;have c1:=(va.below bb la).cell;have f1:=(va.below bb la).frozen;have c2:=vb.cell;have f2:=vb.frozen;have n1:w1.heap.size≠wa.heap.size:=Nat.ne_of_lt la;have d1:=store_one (P:=Tryz.prog) (v:=.func (.func 36) #[.pointer (some ⟨w.heap.size,0,none⟩)] #[]) rfl c1 f1;have d2:=store_one (P:=Tryz.prog) (v:=.func (.func 37) #[.pointer (some ⟨w.heap.size,0,none⟩)] #[]) rfl (vb.far (p:=⟨w1.heap.size,0,none⟩) (Ne.symm n1) (.func (.func 36) #[.pointer (some ⟨w.heap.size,0,none⟩)] #[])).cell (vb.far (p:=⟨w1.heap.size,0,none⟩) (Ne.symm n1) _).frozen))
 obtain⟨wc,hwc⟩:∃wc,wc=(wb.setCell ⟨w1.heap.size,0,none⟩ (.func (.func 36) #[.pointer (some ⟨w.heap.size,0,none⟩)] #[])).setCell ⟨wa.heap.size,0,none⟩ (.func (.func 37) #[.pointer (some ⟨w.heap.size,0,none⟩)] #[]):=⟨_,rfl⟩
 have hbl:w.heap.size<w1.heap.size:=HTA.out.1.lt;have uN:Var wc w1.heap.size 68 (.func (.func 36) #[.pointer (some ⟨w.heap.size,0,none⟩)] #[]):=by
  rw[hwc];exact((va.below bb la).set_ _).far (p:=⟨wa.heap.size,0,none⟩) n1 _
 have uR:Var wc wa.heap.size 69 (.func (.func 37) #[.pointer (some ⟨w.heap.size,0,none⟩)] #[]):=by
  rw[hwc];exact(vb.far (p:=⟨w1.heap.size,0,none⟩) (Ne.symm n1) _).set_ _
 have uT:Ta wc w.heap.size b 0:=by
  rw[hwc];exact(Below.heap_setCell _ ⟨wa.heap.size,0,none⟩ _ w.heap.size (by show w.heap.size≠wa.heap.size;omega)).trans ((Below.heap_setCell _ ⟨w1.heap.size,0,none⟩ _ w.heap.size (by show w.heap.size≠w1.heap.size;omega)).trans ((bb.block w.heap.size (by omega)).trans ((ba.block w.heap.size (by omega)).trans HTA.out.1)))
 have hsz:wc.heap.size=wb.heap.size:=by rw[hwc];simp[World.setCell]
 have hbel:Below w.heap.size w wc:=by
  rw[hwc];exact(((HTA.out.2.trans (ba.mono (by omega))).trans (bb.mono (by omega))).setCell (p:=⟨w1.heap.size,0,none⟩) (by show w.heap.size<=w1.heap.size;omega) _).setCell (p:=⟨wa.heap.size,0,none⟩) (by show w.heap.size<=wa.heap.size;omega) _
 have h4:=four_vars wc;rw[hsz] at h4;have hV:Vs (w4 wc) w.heap.size w1.heap.size wb.heap.size (wb.heap.size+1) (wb.heap.size+1+1) wa.heap.size (wb.heap.size+1+1+1) b 0 0 0 0 ⟨#[]⟩ :=
  ⟨(h4.2.2.2.2.block w.heap.size (by omega)).trans uT,uN.below h4.2.2.2.2 (by omega),uR.below h4.2.2.2.2 (by omega),h4.1,h4.2.1,h4.2.2.1,h4.2.2.2.1,by refine⟨?_,?_,?_,?_,?_,?_,?_,?_,?_,?_,?_,?_,?_,?_,?_,?_,?_,?_,?_,?_,?_⟩<;>omega⟩
 have hbW:Below w.heap.size w (w4 wc):=hbel.trans (h4.2.2.2.2.mono (by omega));have hW:w4 wc=(((wc.alloc (.cells #[.int .i64 0] 3)).alloc (.cells #[.int .i64 0] 3)).alloc (.cells #[.int .i64 0] 3)).alloc (.cells #[.string ⟨#[]⟩] 9):=rfl;rw[<-hwc,<-hW];generalize w4 wc=W at *
 obtain⟨b0,hb0⟩:∃b0,b0=w.heap.size:=⟨_,rfl⟩
 obtain⟨bN,hbN⟩:∃bN,bN=w1.heap.size:=⟨_,rfl⟩
 obtain⟨bR,hbR⟩:∃bR,bR=wa.heap.size:=⟨_,rfl⟩
 obtain⟨bS,hbS⟩:∃bS,bS=wb.heap.size:=⟨_,rfl⟩
 rw[<-hb0,<-hbN,<-hbR,<-hbS] at hV ⊢;obtain⟨bP,hbP⟩:∃bP,bP=bS+1:=⟨_,rfl⟩
 rw[<-hbP] at hV ⊢;obtain⟨bM,hbM⟩:∃bM,bM=bP+1:=⟨_,rfl⟩
 rw[<-hbM] at hV ⊢;obtain⟨bB,hbB⟩:∃bB,bB=bM+1:=⟨_,rfl⟩
 rw[<-hbB] at hV ⊢;have HK:=Lib.hid (show ∀k∈ [b0,bS,bP,bM,bB],w.heap.size<=k by intro k hk;simp at hk;omega);have HV:=Lib.hid (And.intro hV hbW);clear hwc uN uR uT hsz hbel h4 hV hbW hW hb0 hbN hbR hbS hbP hbM hbB hbl va ba la vb bb lb c1 f1 c2 f2 n1 d1 d2 HTA;obtain⟨l,hl⟩:∃l,l=b.data.toList:=⟨_,rfl⟩
 have hll:l.length=b.size:=by rw[hl];rfl
 have HL:=Lib.hid hl;rw[<-hl] at HT HH1;obtain⟨g1,hg1⟩:∃g1,gv 0 0 l=g1:=⟨_,rfl⟩
 obtain⟨n1,k1,x1⟩:=g1;by_cases x1n:x1≠0
 ·skip
  have hh:=head_e1 hg1 x1n;have hTn:T=none:=by rw[HT.out];unfold unS;rw[hh,if_pos x1n]
  have hHx:H1=x1:=by rw[HH1.out,hh]
  have HC:=Lib.hid (un_caught_no W b0 bN bS bP bM bR bB x1 b HV.out.1 (fun w1 hv=>by have:=un1_no1 w1 b0 bN bS bP bM bR bB b hv hs (by rw[<-HL.out,hg1];exact x1n);rw[<-HL.out,hg1] at this;exact this));have HTN:=Lib.hid hTn;have HHX:=Lib.hid hHx;have HXN:=Lib.hid x1n;have hb1:(x1==0)=false:=by rw[beq_eq_false_iff_ne];exact x1n
  have hb2:(x1 != 0)=true:=by rw[bne_iff_ne];exact x1n
  clear hh hTn hHx x1n;refine HC.out.mono ?_;rintro e2 w2 ⟨⟨p,rfl⟩,hk⟩;have HB:=Lib.hid (HV.out.2.trans (hk.below HV.out.2.size HK.out));clear hk HC;go_wp2_with fail
  go_ret2
  exact⟨.inr ⟨HTN.out,x1,rfl,HXN.out,fun _=>HHX.out.symm⟩,HB.out⟩
 ·have hx1:x1=0:=by simpa using x1n
  subst hx1;clear x1n;have hk1:=gv_le l 0 0 (by rw[hg1]);rw[hg1] at hk1;simp only at hk1;obtain⟨g2,hg2⟩:∃g2,gv 0 0 (l.drop k1)=g2:=⟨_,rfl⟩
  obtain⟨n2,k2,x2⟩:=g2;by_cases x2n:x2≠0
  ·skip
   have hh:=head_e2 hg1 hg2 x2n;have hTn:T=none:=by rw[HT.out];unfold unS;rw[hh,if_pos x2n]
   have hHx:H1=x2:=by rw[HH1.out,hh]
   have HC:=Lib.hid (un_caught_no W b0 bN bS bP bM bR bB x2 b HV.out.1 (fun w1 hv=>by have:=un1_no2 w1 b0 bN bS bP bM bR bB n1 k1 b hv hs (by omega) (by rw[<-HL.out];exact hg1) (by rw[<-HL.out,hg2];exact x2n);rw[<-HL.out,hg2] at this;exact this));have HTN:=Lib.hid hTn;have HHX:=Lib.hid hHx;have HXN:=Lib.hid x2n;have hb1:(x2==0)=false:=by rw[beq_eq_false_iff_ne];exact x2n
   have hb2:(x2 != 0)=true:=by rw[bne_iff_ne];exact x2n
   clear hh hTn hHx x2n;refine HC.out.mono ?_;rintro e2 w2 ⟨⟨p,rfl⟩,hk⟩;have HB:=Lib.hid (HV.out.2.trans (hk.below HV.out.2.size HK.out));clear hk HC;go_wp2_with fail
   go_ret2
   exact⟨.inr ⟨HTN.out,x2,rfl,HXN.out,fun _=>HHX.out.symm⟩,HB.out⟩
  ·have hx2:x2=0:=by simpa using x2n
   subst hx2;clear x2n;have hk2:=gv_le (l.drop k1) 0 0 (by rw[hg2]);rw[hg2,List.length_drop] at hk2;simp only at hk2;obtain⟨g3,hg3⟩:∃g3,gv 0 0 (l.drop (k1+k2))=g3:=⟨_,rfl⟩
   obtain⟨n3,k3,x3⟩:=g3;by_cases x3n:x3≠0
   ·skip
    have hh:=head_e3 hg1 hg2 hg3 x3n;have hTn:T=none:=by rw[HT.out];unfold unS;rw[hh,if_pos x3n]
    have hHx:H1=x3:=by rw[HH1.out,hh]
    have HC:=Lib.hid (un_caught_no W b0 bN bS bP bM bR bB x3 b HV.out.1 (fun w1 hv=>by have:=un1_no3 w1 b0 bN bS bP bM bR bB n1 k1 n2 k2 b hv hs (by omega) (by rw[<-HL.out];exact hg1) (by rw[<-HL.out];exact hg2) (by rw[<-HL.out,hg3];exact x3n);rw[<-HL.out,hg3] at this;exact this));have HTN:=Lib.hid hTn;have HHX:=Lib.hid hHx;have HXN:=Lib.hid x3n;have hb1:(x3==0)=false:=by rw[beq_eq_false_iff_ne];exact x3n
    have hb2:(x3 != 0)=true:=by rw[bne_iff_ne];exact x3n
    clear hh hTn hHx x3n;refine HC.out.mono ?_;rintro e2 w2 ⟨⟨p,rfl⟩,hk⟩;have HB:=Lib.hid (HV.out.2.trans (hk.below HV.out.2.size HK.out));clear hk HC;go_wp2_with fail
    go_ret2
    exact⟨.inr ⟨HTN.out,x3,rfl,HXN.out,fun _=>HHX.out.symm⟩,HB.out⟩
   ·have hx3:x3=0:=by simpa using x3n
    subst hx3;clear x3n;have hk3:=gv_le (l.drop (k1+k2)) 0 0 (by rw[hg3]);rw[hg3,List.length_drop] at hk3;simp only at hk3;have hh:=head_ok hg1 hg2 hg3;have hTb:T=bodyS n1 n2 n3 (l.drop (k1+k2+k3)):=by rw[HT.out];unfold unS;rw[hh,if_neg (by simp)]
    have hH0:H1=0:=by rw[HH1.out,hh]
    have HC:=un_caught_ok W b0 bN bS bP bM bR bB n1 k1 n2 k2 n3 k3 b HV.out.1 hs (by omega) (by rw[<-HL.out];exact hg1) (by rw[<-HL.out];exact hg2) (by rw[<-HL.out];exact hg3);rw[<-HL.out] at HC;obtain⟨rs,hrs⟩:∃rs:ByteArray,rs=⟨(l.drop (k1+k2+k3)).toArray⟩:=⟨_,rfl⟩
    have hrl:rs.data.toList=l.drop (k1+k2+k3):=by rw[hrs]
    have hrsz:rs.size<=1000000:=by
     have:rs.size=rs.data.toList.length:=rfl;rw[this,hrl,List.length_drop];omega
    rw[<-hrs] at HC;rw[<-hrl] at hTb;have HC':=Lib.hid HC;have HTB:=Lib.hid hTb;have HH0:=Lib.hid hH0;clear hg1 hg2 hg3 hk1 hk2 hk3 hh hTb hH0 HC hrs hrl hll;refine HC'.out.mono ?_;rintro e2 w2 ⟨rfl,vS,vP,vM,vB,hk⟩;have HB:=Lib.hid (HV.out.2.trans (hk.below HV.out.2.size HK.out));have cS:=vS.cell;have cP:=vP.cell;have cM:=vM.cell;have cB:=vB.cell;have HVS:=Lib.hid (And.intro vS vP);clear hk HC' vS vP vM vB HV HK HT HH1;by_cases hbig:20000<n1
    ·have hTn:T=none:=by rw[HTB.out];unfold bodyS;rw[if_pos (.inl hbig)]
     have HTN:=Lib.hid hTn;have hbi:(20000:Int)<(n1:Int):=by omega
     clear hTn hbig;go_wp2_with fail
     go_ret2
     exact⟨.inr ⟨HTN.out,3,rfl,by decide,fun h=>absurd HH0.out h⟩,HB.out⟩
    ·by_cases hmany:n1<n3
     ·have hTn:T=none:=by rw[HTB.out];unfold bodyS;rw[if_pos (.inr hmany)]
      have HTN:=Lib.hid hTn;have hbi: ¬ (20000:Int)<(n1:Int):=by omega
      have hmi:(n1:Int)<(n3:Int):=by omega
      clear hTn hbig;go_wp2_with fail
      go_ret2
      exact⟨.inr ⟨HTN.out,3,rfl,by decide,fun h=>absurd HH0.out h⟩,HB.out⟩
     ·have hTb2:T=match Hf.hd (Bt.bits rs.data.toList) n3 with|none=>none|some l=>txtS l n2 n1:=by
       rw[HTB.out];unfold bodyS;rw[if_neg (by omega)];cases Hf.hd (Bt.bits rs.data.toList) n3<;>rfl
      have HT2:=Lib.hid hTb2;have hbi: ¬ (20000:Int)<(n1:Int):=by omega
      have hmi: ¬ (n1:Int)<(n3:Int):=by omega
      have HD:=Lib.hid (Hf.decode_any rs n3 w2 hrsz (by omega));clear hTb2;go_wp2_with fail
      refine HD.out.mono ?_;rintro e3 w3 ⟨hcase,hb3⟩;have HB3:=Lib.hid (HB.out.trans (hb3.mono HB.out.size));have cS3:=(HVS.out.1.below hb3 HVS.out.1.lt).cell;have cP3:=(HVS.out.2.below hb3 HVS.out.2.lt).cell;rcases hcase with ⟨ls,v3,hhd,rfl,hown3⟩|⟨hhd,x,rfl,hx⟩
      ·have hlen:=hd_len _ _ _ hhd
       have hTb3:T=txtS ls n2 n1:=by rw[HT2.out,hhd]
       obtain⟨A3,c3,rfl,hc3,hm3,hr3⟩:=hown3.rd;rw[hlen] at hr3 hc3 ⊢;have HS:=Lib.hid (stext_any A3 n3 c3 ls n2 n1 w3 (by omega) hc3 hm3 (by omega) hr3);rw[<-hTb3] at HS;clear hlen hTb3 hhd hown3 hr3 hb3 HD;go_wp2_with fail
       refine HS.out.mono ?_;rintro e4 w4 ⟨hcase,hb4⟩;have HB4:=Lib.hid (HB3.out.trans (hb4.mono HB3.out.size));clear hb4 HS;rcases hcase with ⟨r,hr,rfl⟩|⟨hr,x,rfl,hx⟩
       ·have HR:=Lib.hid hr
        clear hr;go_wp2_with fail
        go_ret2
        exact⟨.inl ⟨r,HR.out,rfl⟩,HB4.out⟩
       ·have HR:=Lib.hid hr
        have HX:=Lib.hid hx;clear hr hx;go_wp2_with fail
        go_ret2
        exact⟨.inr ⟨HR.out,x,rfl,HX.out,fun h=>absurd HH0.out h⟩,HB4.out⟩
      ·have hTn:T=none:=by rw[HT2.out,hhd]
       have HTN:=Lib.hid hTn;have hb1:(x==0)=false:=by rw[beq_eq_false_iff_ne];exact hx
       have hb2:(x != 0)=true:=by rw[bne_iff_ne];exact hx
       have HX:=Lib.hid hx;clear hTn hhd hx hb3 HD;go_wp2_with fail
       go_ret2
       exact⟨.inr ⟨HTN.out,x,rfl,HX.out,fun h=>absurd HH0.out h⟩,HB3.out⟩
end Sq
end Go.Proofs.YtjligbmickfbdaaGreat
