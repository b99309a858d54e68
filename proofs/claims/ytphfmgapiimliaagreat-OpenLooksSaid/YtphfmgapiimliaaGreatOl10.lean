/- A disk's state, and what its calls do to it, as plain functions. No conditions. A disk in the heap. -/
import Derived.Test.YtphfmgapiimliaaGreatOl09
import Derived.Laws.AppendOwn
namespace Go.Proofs.YtphfmgapiimliaaGreat
namespace Dk
open Go.RowKit
structure DS where
 now:List (ByteArray×Nat)
 safe:List (ByteArray×Nat)
 chg:List (ByteArray×ByteArray×Option Nat)
 fl:Nat->Option (ByteArray×ByteArray)
 cap:Int
 ops:Int
 armed:Int
 off:Bool
def lk (s:ByteArray) (l:List (ByteArray×Nat)):Option Nat:=(l.find? fun x=>decide (x.1=s)).map (·.2)
def pt (s:ByteArray) (b:Nat):List (ByteArray×Nat)->List (ByteArray×Nat)
 | []=>[(s,b)]
 |x::l=>if x.1=s then(s,b)::l else x::pt s b l
def dl (s:ByteArray):List (ByteArray×Nat)->List (ByteArray×Nat)
 | []=>[]
 |x::l=>if x.1=s then l else x::dl s l
def app (c:ByteArray×ByteArray×Option Nat) (l:List (ByteArray×Nat)):List (ByteArray×Nat) :=
 match c.2.2 with
 |some b=>pt c.1 b (if c.2.1=⟨#[]⟩ then l else dl c.2.1 l)
 |none=>if c.2.1=⟨#[]⟩ then l else dl c.2.1 l
def ptr (b:Nat):Value:=.pointer (some ⟨b,0,none⟩)
def vs (l:List (ByteArray×Nat)):List (ByteArray×Value):=l.map fun x=>(x.1,ptr x.2)
theorem vs_find (s:ByteArray):∀l,find1 s (vs l)=(lk s l).map ptr
 | []=>rfl
 |x::l=>by
  have:=vs_find s l;unfold find1 lk vs at *
  by_cases h:x.1=s
  ·rw[List.map_cons,List.find?_cons_of_pos (by simpa using h),List.find?_cons_of_pos (by simpa using h)];rfl
  ·rw[List.map_cons,List.find?_cons_of_neg (by simpa using h),List.find?_cons_of_neg (by simpa using h)];exact this
theorem vs_put (s:ByteArray) (b:Nat):∀l,put1 s (ptr b) (vs l)=vs (pt s b l)
 | []=>rfl
 |x::l=>by
  have:=vs_put s b l;unfold vs at *
  by_cases h:x.1=s
  ·rw[List.map_cons,put1,if_pos h,pt,if_pos h];rfl
  ·rw[List.map_cons,put1,if_neg h,pt,if_neg h,List.map_cons,this]
theorem vs_del (s:ByteArray):∀l,del1 s (vs l)=vs (dl s l)
 | []=>rfl
 |x::l=>by
  have:=vs_del s l;unfold vs at *
  by_cases h:x.1=s
  ·rw[List.map_cons,del1,if_pos h,dl,if_pos h]
  ·rw[List.map_cons,del1,if_neg h,dl,if_neg h,List.map_cons,this]
theorem pt_mem {s:ByteArray} {b:Nat}:∀{l:List (ByteArray×Nat)} {x},x∈pt s b l->x=(s,b)∨x∈l
 | [],x,h=>by simpa[pt] using h
 |y::l,x,h=>by
  unfold pt at h;split at h
  ·rcases List.mem_cons.1 h with h|h
   ·exact .inl h
   ·exact .inr (List.mem_cons_of_mem _ h)
  ·rcases List.mem_cons.1 h with h|h
   ·exact .inr (h▸List.mem_cons_self ..)
   ·exact(pt_mem h).imp_right (List.mem_cons_of_mem _)
theorem dl_mem {s:ByteArray}:∀{l:List (ByteArray×Nat)} {x},x∈dl s l->x∈l
 | [],x,h=>h
 |y::l,x,h=>by
  unfold dl at h;split at h
  ·exact List.mem_cons_of_mem _ h
  ·rcases List.mem_cons.1 h with h|h
   ·exact h▸List.mem_cons_self ..
   ·exact List.mem_cons_of_mem _ (dl_mem h)
theorem app_mem {c:ByteArray×ByteArray×Option Nat} {l:List (ByteArray×Nat)} {x} (h:x∈app c l):c.2.2=some x.2∨x∈l:=by
 have key:∀{x},x∈(if c.2.1=⟨#[]⟩ then l else dl c.2.1 l)->x∈l:=by
  intro x h;split at h
  ·exact h
  ·exact dl_mem h
 unfold app at h;rcases hc:c.2.2 with _|b
 ·rw[hc] at h;exact .inr (key h)
 ·rw[hc] at h
  rcases pt_mem h with rfl|h
  ·exact .inl rfl
  ·exact .inr (key h)
theorem lk_cons (s:ByteArray) (x:ByteArray×Nat) (l:List (ByteArray×Nat)):lk s (x::l)=if x.1=s then some x.2 else lk s l:=by
 unfold lk;by_cases h:x.1=s
 ·rw[List.find?_cons_of_pos (by simpa using h),if_pos h];rfl
 ·rw[List.find?_cons_of_neg (by simpa using h),if_neg h]
theorem pt_len (s:ByteArray) (b:Nat):∀l:List (ByteArray×Nat),(pt s b l).length=if(lk s l).isSome then l.length else l.length+1
 | []=>rfl
 |x::l=>by
  have:=pt_len s b l;rw[pt,lk_cons];by_cases h:x.1=s
  ·rw[if_pos h,if_pos h];simp
  ·rw[if_neg h,if_neg h,List.length_cons,this,List.length_cons];split<;>rfl
theorem dl_len (s:ByteArray):∀l:List (ByteArray×Nat),(dl s l).length=if(lk s l).isSome then l.length-1 else l.length
 | []=>rfl
 |x::l=>by
  have:=dl_len s l;rw[dl,lk_cons];by_cases h:x.1=s
  ·rw[if_pos h,if_pos h];simp
  ·rw[if_neg h,if_neg h,List.length_cons,this,List.length_cons]
   split
   ·rename_i h1
    have:0<l.length:=by
     rcases l with _|⟨y,l⟩
     ·simp[lk] at h1
     ·simp
    omega
   ·rfl
theorem lk_mem {s:ByteArray} {b:Nat}:∀{l:List (ByteArray×Nat)},lk s l=some b->(s,b)∈l
 | [],h=>by cases h
 |x::l,h=>by
  unfold lk at h;by_cases hx:x.1=s
  ·rw[List.find?_cons_of_pos (by simpa using hx)] at h
   simp only[Option.map_some,Option.some.injEq] at h;rw[<-hx,<-h];exact List.mem_cons_self ..
  ·rw[List.find?_cons_of_neg (by simpa using hx)] at h
   exact List.mem_cons_of_mem _ (lk_mem (l:=l) h)
def tick (D:DS):DS:={ D with ops:=IntKind.i64.wrap (D.ops+1),armed:=max (D.armed-1) 0 }
def opS (syncs:Bool) (act:DS->DS) (D:DS):DS :=
 if D.armed=1 then { (if syncs then tick D else act (tick D)) with off:=true } else act (tick D)
def opE (D:DS):Int:=if D.armed=1 then 200 else 0
def upE (D:DS):Int:=if D.off then 200 else 0
def setF (b:Nat) (p:ByteArray×ByteArray) (D:DS):DS:={ D with fl:=fun k=>if k=b then some p else D.fl k }
def chgD (c:ByteArray×ByteArray×Option Nat) (D:DS):DS:={ D with now:=app c D.now,chg:=D.chg++[c] }
def settleD (D:DS):DS:={ D with safe:=D.now,chg:=[] }
def szs (fl:Nat->Option (ByteArray×ByteArray)):List (ByteArray×Nat)->Nat
 | []=>0
 |x::l=>((fl x.2).map (·.2.size)).getD 0+szs fl l
theorem szs_append (fl:Nat->Option (ByteArray×ByteArray)):∀a b:List (ByteArray×Nat),szs fl (a++b)=szs fl a+szs fl b
 | [],b=>by simp[szs]
 |x::a,b=>by rw[List.cons_append,szs,szs,szs_append fl a b];omega
def usedD (D:DS):Nat:=szs D.fl D.now
theorem szs_le {fl:Nat->Option (ByteArray×ByteArray)} {m:Nat} (h:∀b p,fl b=some p->p.2.size<=m):∀l:List (ByteArray×Nat),szs fl l<=l.length*m
 | []=>by simp[szs]
 |x::l=>by
  have:=szs_le h l;rw[szs,List.length_cons,Nat.succ_mul];rcases hx:fl x.2 with _|p
  ·simp only[Option.map_none,Option.getD_none];omega
  ·have:=h _ _ hx
   simp only[Option.map_some,Option.getD_some];omega
end Dk
end Go.Proofs.YtphfmgapiimliaaGreat
namespace Go.Proofs.YtphfmgapiimliaaGreat
namespace Dk
open Go.RowKit
def chv:Option Nat->Value
 |some b=>ptr b
 |none=>.pointer none
def ch3 (c:ByteArray×ByteArray×Option Nat):List Value:=[.string c.1,.string c.2.1,chv c.2.2]
def chl:List (ByteArray×ByteArray×Option Nat)->List Value
 | []=>[]
 |c::l=>ch3 c++chl l
theorem chl_append:∀a b,chl (a++b)=chl a++chl b
 | [],b=>rfl
 |c::a,b=>by rw[List.cons_append,chl,chl,chl_append a b,List.append_assoc]
theorem chl_len:∀a,(chl a).length=a.length*3
 | []=>rfl
 |c::a=>by rw[chl,List.length_append,chl_len a,List.length_cons,Nat.succ_mul];simp[ch3];omega
def apps (l:List (ByteArray×ByteArray×Option Nat)) (m:List (ByteArray×Nat)):List (ByteArray×Nat):=l.foldl (fun m c=>app c m) m
def dcells (gN gS:Nat) (v:Value) (D:DS):Array Value:=#[.map (some gN),.map (some gS),v,.int .i64 D.cap,.int .i64 D.ops,.int .i64 D.armed,.bool D.off,.bool true]
structure Fit (D:DS):Prop where
 wfN:∀x∈D.now,D.fl x.2≠none
 wfS:∀x∈D.safe,D.fl x.2≠none
 wfC:∀c∈D.chg,∀b,c.2.2=some b->D.fl b≠none
 cap0:0<=D.cap
 cap1:D.cap<=10000000
 arm0:0<=D.armed
 arm1:D.armed<=9223372036854775807
 ops:IntKind.i64.wrap D.ops=D.ops
 big:∀b p,D.fl b=some p->p.1.size<=1000000/\p.2.size<=1000000
 few:∀k,(apps (D.chg.take k) D.safe).length<=200
 run:apps D.chg D.safe=D.now
theorem Fit.now_few {D:DS} (h:Fit D):D.now.length<=200:=by have:=h.few D.chg.length;rwa [List.take_length,h.run] at this
structure Dat (w:World) (S:Nat->Prop) (bd gN gS:Nat) (v:Value) (D:DS):Prop where
 box:Blk w bd (dcells gN gS v D) 89
 now:Mp w gN (vs D.now)
 safe:Mp w gS (vs D.safe)
 chg:w.ownsRow 0 113 3 v D.chg.length (chl D.chg)
 fl:∀b p,D.fl b=some p->Blk w b #[.string p.1,.string p.2] 186
 ne:gN≠gS
 sB:S bd
 sN:S gN
 sS:S gS
 sC:∀g,v.ownBlock=some g->S g
 sF:∀b p,D.fl b=some p->S b
 lt:∀b,S b->b<w.heap.size
 fit:Fit D
def DiskAt (w:World) (S:Nat->Prop) (bd:Nat) (D:DS):Prop:=∃gN gS v,Dat w S bd gN gS v D
section
variable {w w':World} {S:Nat->Prop} {bd gN gS:Nat} {v:Value} {D:DS}
theorem own_block {w w':World} {B:Nat} {e:TypeId} {n k:Nat} {v:Value} {l:List Value} (h:w.ownsRow B e n v k l) (hs:∀g,v.ownBlock=some g->w'.heap[g]? =w.heap[g]?):w'.ownsRow B e n v k l:=by
 obtain⟨h1,h2⟩:=h;refine⟨h1,?_⟩;rcases h2 with h2|⟨g,cap,cur,rfl,h3,h4,h5⟩
 ·exact .inl h2
 ·exact .inr ⟨g,cap,cur,rfl,h3,(hs g rfl).trans h4,h5⟩
theorem Dat.kept (h:Dat w S bd gN gS v D) (hs:w.heap.size<=w'.heap.size) (hb:∀k,S k->w'.heap[k]? =w.heap[k]?):Dat w' S bd gN gS v D :=
 ⟨(hb _ h.sB).trans h.box,h.now.same (hb _ h.sN),h.safe.same (hb _ h.sS),own_block h.chg fun g hg=>hb _ (h.sC g hg),fun b p hp=>(hb _ (h.sF b p hp)).trans (h.fl b p hp),h.ne,h.sB,h.sN,h.sS,h.sC,h.sF,fun b hb=>Nat.lt_of_lt_of_le (h.lt b hb) hs,h.fit⟩
theorem Dat.ext (h:Dat w S bd gN gS v D) (hb:Below w.heap.size w w'):Dat w' S bd gN gS v D:=h.kept hb.size fun k hk=>hb.block k (h.lt k hk)
theorem DiskAt.ext (h:DiskAt w S bd D) (hb:Below w.heap.size w w'):DiskAt w' S bd D:=by
 obtain⟨gN,gS,v,h⟩:=h;exact⟨gN,gS,v,h.ext hb⟩
theorem Dat.c0 (h:Dat w S bd gN gS v D):w.cell? ⟨bd,0,none⟩=some (.map (some gN)):=h.box.cell 0 rfl
theorem Dat.c1 (h:Dat w S bd gN gS v D):w.cell? ⟨bd,1,none⟩=some (.map (some gS)):=h.box.cell 1 rfl
theorem Dat.c2 (h:Dat w S bd gN gS v D):w.cell? ⟨bd,2,none⟩=some v:=h.box.cell 2 rfl
theorem Dat.c3 (h:Dat w S bd gN gS v D):w.cell? ⟨bd,3,none⟩=some (.int .i64 D.cap):=h.box.cell 3 rfl
theorem Dat.c4 (h:Dat w S bd gN gS v D):w.cell? ⟨bd,4,none⟩=some (.int .i64 D.ops):=h.box.cell 4 rfl
theorem Dat.c5 (h:Dat w S bd gN gS v D):w.cell? ⟨bd,5,none⟩=some (.int .i64 D.armed):=h.box.cell 5 rfl
theorem Dat.c6 (h:Dat w S bd gN gS v D):w.cell? ⟨bd,6,none⟩=some (.bool D.off):=h.box.cell 6 rfl
theorem Dat.c7 (h:Dat w S bd gN gS v D):w.cell? ⟨bd,7,none⟩=some (.bool true):=h.box.cell 7 rfl
theorem Dat.fz (h:Dat w S bd gN gS v D) (k:Nat):w.frozen? ⟨bd,k,none⟩=false:=h.box.fz k
theorem Dat.gt (h:Dat w S bd gN gS v D) {k:Nat} (hk:w.heap.size<=k): ¬ S k:=fun hs=>by have:=h.lt k hs;omega
theorem Dat.bN (h:Dat w S bd gN gS v D):gN≠bd:=by
 rintro rfl;obtain⟨es,c,h1,-⟩:=h.now;have:=h.box;unfold Blk at this;rw[h1] at this;cases this
theorem Dat.bS (h:Dat w S bd gN gS v D):gS≠bd:=by
 rintro rfl;obtain⟨es,c,h1,-⟩:=h.safe;have:=h.box;unfold Blk at this;rw[h1] at this;cases this
theorem Dat.bC (h:Dat w S bd gN gS v D) {g:Nat} (hg:v.ownBlock=some g):g≠bd/\g≠gN/\g≠gS/\ ∀b p,D.fl b=some p->g≠b:=by
 obtain⟨-,h2⟩:=h.chg;rcases h2 with ⟨rfl,-⟩|⟨g',cap,cur,rfl,h3,h4,h5⟩
 ·cases hg
 ·have:g'=g:=by simpa[Value.ownBlock] using hg
  subst this;refine⟨?_,?_,?_,?_⟩
  ·rintro rfl
   have:=h.box;unfold Blk at this;rw[h4] at this;simp at this
  ·rintro rfl
   obtain⟨es,c,h1,-⟩:=h.now;rw[h1] at h4;cases h4
  ·rintro rfl
   obtain⟨es,c,h1,-⟩:=h.safe;rw[h1] at h4;cases h4
  ·rintro b p hp rfl
   have:=h.fl _ p hp;unfold Blk at this;rw[h4] at this;simp at this
theorem Dat.bF (h:Dat w S bd gN gS v D) {b:Nat} {p} (hp:D.fl b=some p):b≠bd/\b≠gN/\b≠gS:=by
 have hf:=h.fl b p hp;unfold Blk at hf;refine⟨?_,?_,?_⟩
 ·rintro rfl
  have:=h.box;unfold Blk at this;rw[hf] at this;simp at this
 ·rintro rfl
  obtain⟨es,c,h1,-⟩:=h.now;rw[h1] at hf;cases hf
 ·rintro rfl
  obtain⟨es,c,h1,-⟩:=h.safe;rw[h1] at hf;cases hf
theorem Dat.turn (h:Dat w S bd gN gS v D) {D':DS} (hs:w.heap.size<=w'.heap.size) (hb:∀k,S k->k≠bd->w'.heap[k]? =w.heap[k]?) (hx:Blk w' bd (dcells gN gS v D') 89)
  (e1:D'.now=D.now) (e2:D'.safe=D.safe) (e3:D'.chg=D.chg) (e4:D'.fl=D.fl) (hf:Fit D'):Dat w' S bd gN gS v D':=by
 refine⟨hx,?_,?_,?_,?_,h.ne,h.sB,h.sN,h.sS,h.sC,?_,fun b hb=>Nat.lt_of_lt_of_le (h.lt b hb) hs,hf⟩
 ·rw[e1];exact h.now.same (hb _ h.sN h.bN)
 ·rw[e2];exact h.safe.same (hb _ h.sS h.bS)
 ·rw[e3];exact own_block h.chg fun g hg=>hb _ (h.sC g hg) (h.bC hg).1
 ·rw[e4];exact fun b p hp=>(hb _ (h.sF b p hp) (h.bF hp).1).trans (h.fl b p hp)
 ·rw[e4];exact h.sF
theorem wrap_idem (x:Int):IntKind.i64.wrap (IntKind.i64.wrap x)=IntKind.i64.wrap x:=by
 rw[IntKind.wrap_i64,IntKind.wrap_i64];omega
theorem wrap_in {x:Int} (h0: -9223372036854775808<=x) (h1:x<=9223372036854775807):IntKind.i64.wrap x=x:=by
 rw[IntKind.wrap_i64];omega
theorem Fit.tick (h:Fit D):Fit (tick D) :=
 ⟨h.wfN,h.wfS,h.wfC,h.cap0,h.cap1,by show 0<=max (D.armed-1) 0;omega,by have:=h.arm1;show max (D.armed-1) 0<=_;omega,wrap_idem _,h.big,h.few,h.run⟩
theorem Fit.off (h:Fit D):Fit { D with off:=true }:=⟨h.wfN,h.wfS,h.wfC,h.cap0,h.cap1,h.arm0,h.arm1,h.ops,h.big,h.few,h.run⟩
theorem Dat.bytes (h:Dat w S bd gN gS v D) {b:Nat} {p:ByteArray×ByteArray} (hs:w.heap.size<=w'.heap.size) (hb:∀k,S k->k≠b->w'.heap[k]? =w.heap[k]?) (h0:D.fl b≠none) (hx:Blk w' b #[.string p.1,.string p.2] 186)
  (h1:p.1.size<=1000000) (h2:p.2.size<=1000000):Dat w' S bd gN gS v (setF b p D):=by
 obtain⟨p0,hp0⟩:∃p0,D.fl b=some p0:=Option.ne_none_iff_exists'.1 h0;obtain⟨q1,q2,q3⟩:=h.bF hp0;have hfl:∀k p',(setF b p D).fl k=some p'->(k=b/\p'=p)∨(k≠b/\D.fl k=some p'):=by
  intro k p' hk;unfold setF at hk;dsimp only at hk;split at hk
  ·rename_i hkb
   exact .inl ⟨hkb,by cases hk;rfl⟩
  ·rename_i hkb
   exact .inr ⟨hkb,hk⟩
 have hn:∀k,D.fl k≠none->(setF b p D).fl k≠none:=by
  intro k hk;unfold setF;dsimp only;split
  ·simp
  ·exact hk
 refine⟨(hb _ h.sB (Ne.symm q1)).trans h.box,h.now.same (hb _ h.sN (Ne.symm q2)),h.safe.same (hb _ h.sS (Ne.symm q3)),own_block h.chg fun g hg=>hb _ (h.sC g hg) ((h.bC hg).2.2.2 b p0 hp0),?_,h.ne,h.sB,h.sN,h.sS,h.sC,?_,fun b hb=>Nat.lt_of_lt_of_le (h.lt b hb) hs,?_⟩
 ·intro k p' hk
  rcases hfl k p' hk with ⟨rfl,rfl⟩|⟨hne,hk⟩
  ·exact hx
  ·exact(hb _ (h.sF k p' hk) hne).trans (h.fl k p' hk)
 ·intro k p' hk
  rcases hfl k p' hk with ⟨rfl,rfl⟩|⟨hne,hk⟩
  ·exact h.sF k p0 hp0
  ·exact h.sF k p' hk
 ·have f:=h.fit
  refine⟨fun x hx=>hn _ (f.wfN x hx),fun x hx=>hn _ (f.wfS x hx),fun c hc b hb=>hn _ (f.wfC c hc b hb),f.cap0,f.cap1,f.arm0,f.arm1,f.ops,?_,f.few,f.run⟩;intro k p' hk;rcases hfl k p' hk with ⟨rfl,rfl⟩|⟨hne,hk⟩
  ·exact⟨h1,h2⟩
  ·exact f.big k p' hk
end
end Dk
end Go.Proofs.YtphfmgapiimliaaGreat
