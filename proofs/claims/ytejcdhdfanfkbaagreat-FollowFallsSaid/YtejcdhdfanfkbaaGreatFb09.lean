/- A disk in the heap. A range over a map keyed by texts: whichever entry the tape says comes out. Over any program. disk: up, op. file: Append, Sync, Cut. -/
import Derived.Test.YtejcdhdfanfkbaaGreatFb08
import Derived.Laws.AppendOwn
import Derived.Maps.RangeRun
import Derived.Test.YtejcdhdfanfkbaaGreatFb03
import Derived.Maps.OwnOps
import Derived.Maps.OwnSet
import Derived.Maps.RangeWalk
namespace Go.Proofs.YtejcdhdfanfkbaaGreat
namespace Dk
open Go.RowKit
def chv:Option Nat->Value
 |some b=>ptr b
 |none=>.pointer none
def ch3 (c:ByteArray×ByteArray×Option Nat):List Value:=[.string c.1,.string c.2.1,chv c.2.2]
def chl:List (ByteArray×ByteArray×Option Nat)->List Value
 | []=>[]
 |c::l=>ch3 c++chl l
theorem chl_append:∀a b,chl (a++b)=chl a++chl b
 | [],b=>rfl
 |c::a,b=>by rw[List.cons_append,chl,chl,chl_append a b,List.append_assoc]
theorem chl_len:∀a,(chl a).length=a.length*3
 | []=>rfl
 |c::a=>by rw[chl,List.length_append,chl_len a,List.length_cons,Nat.succ_mul];simp[ch3];omega
def apps (l:List (ByteArray×ByteArray×Option Nat)) (m:List (ByteArray×Nat)):List (ByteArray×Nat):=l.foldl (fun m c=>app c m) m
def dcells (gN gS:Nat) (v:Value) (D:DS):Array Value:=#[.map (some gN),.map (some gS),v,.int .i64 D.cap,.int .i64 D.ops,.int .i64 D.armed,.bool D.off,.bool true]
structure Fit (D:DS):Prop where
 wfN:∀x∈D.now,D.fl x.2≠none
 wfS:∀x∈D.safe,D.fl x.2≠none
 wfC:∀c∈D.chg,∀b,c.2.2=some b->D.fl b≠none
 cap0:0<=D.cap
 cap1:D.cap<=10000000
 arm0:0<=D.armed
 arm1:D.armed<=9223372036854775807
 ops:IntKind.i64.wrap D.ops=D.ops
 big:∀b p,D.fl b=some p->p.1.size<=1000000/\p.2.size<=1000000
 few:∀k,(apps (D.chg.take k) D.safe).length<=200
 run:apps D.chg D.safe=D.now
theorem Fit.now_few {D:DS} (h:Fit D):D.now.length<=200:=by have:=h.few D.chg.length;rwa [List.take_length,h.run] at this
structure Dat (w:World) (S:Nat->Prop) (bd gN gS:Nat) (v:Value) (D:DS):Prop where
 box:Blk w bd (dcells gN gS v D) 120
 now:Mp w gN (vs D.now)
 safe:Mp w gS (vs D.safe)
 chg:w.ownsRow 0 129 3 v D.chg.length (chl D.chg)
 fl:∀b p,D.fl b=some p->Blk w b #[.string p.1,.string p.2] 133
 ne:gN≠gS
 sB:S bd
 sN:S gN
 sS:S gS
 sC:∀g,v.ownBlock=some g->S g
 sF:∀b p,D.fl b=some p->S b
 lt:∀b,S b->b<w.heap.size
 fit:Fit D
def DiskAt (w:World) (S:Nat->Prop) (bd:Nat) (D:DS):Prop:=∃gN gS v,Dat w S bd gN gS v D
section
variable {w w':World} {S:Nat->Prop} {bd gN gS:Nat} {v:Value} {D:DS}
theorem own_block {w w':World} {B:Nat} {e:TypeId} {n k:Nat} {v:Value} {l:List Value} (h:w.ownsRow B e n v k l) (hs:∀g,v.ownBlock=some g->w'.heap[g]? =w.heap[g]?):w'.ownsRow B e n v k l:=by
 obtain⟨h1,h2⟩:=h;refine⟨h1,?_⟩;rcases h2 with h2|⟨g,cap,cur,rfl,h3,h4,h5⟩
 ·exact .inl h2
 ·exact .inr ⟨g,cap,cur,rfl,h3,(hs g rfl).trans h4,h5⟩
theorem Dat.kept (h:Dat w S bd gN gS v D) (hs:w.heap.size<=w'.heap.size) (hb:∀k,S k->w'.heap[k]? =w.heap[k]?):Dat w' S bd gN gS v D :=
 ⟨(hb _ h.sB).trans h.box,h.now.same (hb _ h.sN),h.safe.same (hb _ h.sS),own_block h.chg fun g hg=>hb _ (h.sC g hg),fun b p hp=>(hb _ (h.sF b p hp)).trans (h.fl b p hp),h.ne,h.sB,h.sN,h.sS,h.sC,h.sF,fun b hb=>Nat.lt_of_lt_of_le (h.lt b hb) hs,h.fit⟩
theorem Dat.ext (h:Dat w S bd gN gS v D) (hb:Below w.heap.size w w'):Dat w' S bd gN gS v D:=h.kept hb.size fun k hk=>hb.block k (h.lt k hk)
theorem DiskAt.ext (h:DiskAt w S bd D) (hb:Below w.heap.size w w'):DiskAt w' S bd D:=by
 obtain⟨gN,gS,v,h⟩:=h;exact⟨gN,gS,v,h.ext hb⟩
theorem Dat.c0 (h:Dat w S bd gN gS v D):w.cell? ⟨bd,0,none⟩=some (.map (some gN)):=h.box.cell 0 rfl
theorem Dat.c1 (h:Dat w S bd gN gS v D):w.cell? ⟨bd,1,none⟩=some (.map (some gS)):=h.box.cell 1 rfl
theorem Dat.c2 (h:Dat w S bd gN gS v D):w.cell? ⟨bd,2,none⟩=some v:=h.box.cell 2 rfl
theorem Dat.c3 (h:Dat w S bd gN gS v D):w.cell? ⟨bd,3,none⟩=some (.int .i64 D.cap):=h.box.cell 3 rfl
theorem Dat.c4 (h:Dat w S bd gN gS v D):w.cell? ⟨bd,4,none⟩=some (.int .i64 D.ops):=h.box.cell 4 rfl
theorem Dat.c5 (h:Dat w S bd gN gS v D):w.cell? ⟨bd,5,none⟩=some (.int .i64 D.armed):=h.box.cell 5 rfl
theorem Dat.c6 (h:Dat w S bd gN gS v D):w.cell? ⟨bd,6,none⟩=some (.bool D.off):=h.box.cell 6 rfl
theorem Dat.c7 (h:Dat w S bd gN gS v D):w.cell? ⟨bd,7,none⟩=some (.bool true):=h.box.cell 7 rfl
theorem Dat.fz (h:Dat w S bd gN gS v D) (k:Nat):w.frozen? ⟨bd,k,none⟩=false:=h.box.fz k
theorem Dat.gt (h:Dat w S bd gN gS v D) {k:Nat} (hk:w.heap.size<=k): ¬ S k:=fun hs=>by have:=h.lt k hs;omega
theorem Dat.bN (h:Dat w S bd gN gS v D):gN≠bd:=by
 rintro rfl;obtain⟨es,c,h1,-⟩:=h.now;have:=h.box;unfold Blk at this;rw[h1] at this;cases this
theorem Dat.bS (h:Dat w S bd gN gS v D):gS≠bd:=by
 rintro rfl;obtain⟨es,c,h1,-⟩:=h.safe;have:=h.box;unfold Blk at this;rw[h1] at this;cases this
theorem Dat.bC (h:Dat w S bd gN gS v D) {g:Nat} (hg:v.ownBlock=some g):g≠bd/\g≠gN/\g≠gS/\ ∀b p,D.fl b=some p->g≠b:=by
 obtain⟨-,h2⟩:=h.chg;rcases h2 with ⟨rfl,-⟩|⟨g',cap,cur,rfl,h3,h4,h5⟩
 ·cases hg
 ·have:g'=g:=by simpa[Value.ownBlock] using hg
  subst this;refine⟨?_,?_,?_,?_⟩
  ·rintro rfl
   have:=h.box;unfold Blk at this;rw[h4] at this;simp at this
  ·rintro rfl
   obtain⟨es,c,h1,-⟩:=h.now;rw[h1] at h4;cases h4
  ·rintro rfl
   obtain⟨es,c,h1,-⟩:=h.safe;rw[h1] at h4;cases h4
  ·rintro b p hp rfl
   have:=h.fl _ p hp;unfold Blk at this;rw[h4] at this;simp at this
theorem Dat.bF (h:Dat w S bd gN gS v D) {b:Nat} {p} (hp:D.fl b=some p):b≠bd/\b≠gN/\b≠gS:=by
 have hf:=h.fl b p hp;unfold Blk at hf;refine⟨?_,?_,?_⟩
 ·rintro rfl
  have:=h.box;unfold Blk at this;rw[hf] at this;simp at this
 ·rintro rfl
  obtain⟨es,c,h1,-⟩:=h.now;rw[h1] at hf;cases hf
 ·rintro rfl
  obtain⟨es,c,h1,-⟩:=h.safe;rw[h1] at hf;cases hf
theorem Dat.turn (h:Dat w S bd gN gS v D) {D':DS} (hs:w.heap.size<=w'.heap.size) (hb:∀k,S k->k≠bd->w'.heap[k]? =w.heap[k]?) (hx:Blk w' bd (dcells gN gS v D') 120)
  (e1:D'.now=D.now) (e2:D'.safe=D.safe) (e3:D'.chg=D.chg) (e4:D'.fl=D.fl) (hf:Fit D'):Dat w' S bd gN gS v D':=by
 refine⟨hx,?_,?_,?_,?_,h.ne,h.sB,h.sN,h.sS,h.sC,?_,fun b hb=>Nat.lt_of_lt_of_le (h.lt b hb) hs,hf⟩
 ·rw[e1];exact h.now.same (hb _ h.sN h.bN)
 ·rw[e2];exact h.safe.same (hb _ h.sS h.bS)
 ·rw[e3];exact own_block h.chg fun g hg=>hb _ (h.sC g hg) (h.bC hg).1
 ·rw[e4];exact fun b p hp=>(hb _ (h.sF b p hp) (h.bF hp).1).trans (h.fl b p hp)
 ·rw[e4];exact h.sF
theorem wrap_idem (x:Int):IntKind.i64.wrap (IntKind.i64.wrap x)=IntKind.i64.wrap x:=by
 rw[IntKind.wrap_i64,IntKind.wrap_i64];omega
theorem wrap_in {x:Int} (h0: -9223372036854775808<=x) (h1:x<=9223372036854775807):IntKind.i64.wrap x=x:=by
 rw[IntKind.wrap_i64];omega
theorem Fit.tick (h:Fit D):Fit (tick D) :=
 ⟨h.wfN,h.wfS,h.wfC,h.cap0,h.cap1,by show 0<=max (D.armed-1) 0;omega,by have:=h.arm1;show max (D.armed-1) 0<=_;omega,wrap_idem _,h.big,h.few,h.run⟩
theorem Fit.off (h:Fit D):Fit { D with off:=true }:=⟨h.wfN,h.wfS,h.wfC,h.cap0,h.cap1,h.arm0,h.arm1,h.ops,h.big,h.few,h.run⟩
theorem Dat.bytes (h:Dat w S bd gN gS v D) {b:Nat} {p:ByteArray×ByteArray} (hs:w.heap.size<=w'.heap.size) (hb:∀k,S k->k≠b->w'.heap[k]? =w.heap[k]?) (h0:D.fl b≠none) (hx:Blk w' b #[.string p.1,.string p.2] 133)
  (h1:p.1.size<=1000000) (h2:p.2.size<=1000000):Dat w' S bd gN gS v (setF b p D):=by
 obtain⟨p0,hp0⟩:∃p0,D.fl b=some p0:=Option.ne_none_iff_exists'.1 h0;obtain⟨q1,q2,q3⟩:=h.bF hp0;have hfl:∀k p',(setF b p D).fl k=some p'->(k=b/\p'=p)∨(k≠b/\D.fl k=some p'):=by
  intro k p' hk;unfold setF at hk;dsimp only at hk;split at hk
  ·rename_i hkb
   exact .inl ⟨hkb,by cases hk;rfl⟩
  ·rename_i hkb
   exact .inr ⟨hkb,hk⟩
 have hn:∀k,D.fl k≠none->(setF b p D).fl k≠none:=by
  intro k hk;unfold setF;dsimp only;split
  ·simp
  ·exact hk
 refine⟨(hb _ h.sB (Ne.symm q1)).trans h.box,h.now.same (hb _ h.sN (Ne.symm q2)),h.safe.same (hb _ h.sS (Ne.symm q3)),own_block h.chg fun g hg=>hb _ (h.sC g hg) ((h.bC hg).2.2.2 b p0 hp0),?_,h.ne,h.sB,h.sN,h.sS,h.sC,?_,fun b hb=>Nat.lt_of_lt_of_le (h.lt b hb) hs,?_⟩
 ·intro k p' hk
  rcases hfl k p' hk with ⟨rfl,rfl⟩|⟨hne,hk⟩
  ·exact hx
  ·exact(hb _ (h.sF k p' hk) hne).trans (h.fl k p' hk)
 ·intro k p' hk
  rcases hfl k p' hk with ⟨rfl,rfl⟩|⟨hne,hk⟩
  ·exact h.sF k p0 hp0
  ·exact h.sF k p' hk
 ·have f:=h.fit
  refine⟨fun x hx=>hn _ (f.wfN x hx),fun x hx=>hn _ (f.wfS x hx),fun c hc b hb=>hn _ (f.wfC c hc b hb),f.cap0,f.cap1,f.arm0,f.arm1,f.ops,?_,f.few,f.run⟩;intro k p' hk;rcases hfl k p' hk with ⟨rfl,rfl⟩|⟨hne,hk⟩
  ·exact⟨h1,h2⟩
  ·exact f.big k p' hk
end
end Dk
end Go.Proofs.YtejcdhdfanfkbaaGreat
namespace Go.Proofs.YtejcdhdfanfkbaaGreat
open Go.RowKit Go.ChangeMaps Go.MapKept
def kvs (l:List MapEntry):List (Value×Value):=l.map fun e=>(e.key,e.val)
def svs (l:List (ByteArray×Value)):List (Value×Value):=l.map fun x=>(Value.string x.1,x.2)
def Itr (w:World) (g r:Nat) (l rest:List (ByteArray×Value)):Prop :=
 ∃es clock since c0 seen,w.heap[g]? =some (.map es clock)/\Stamped es clock/\kvs es.toList=svs l/\w.heap[r]? =some (.mapIter (some g) since seen c0)/\since<=c0/\(∀x∈es.toList,x.born<since)/\since<=clock/\kvs (leftOf es seen).toList=svs rest
theorem Itr.mp {w:World} {g r:Nat} {l rest:List (ByteArray×Value)} (h:Itr w g r l rest):Mp w g l:=by
 obtain⟨es,clock,since,c0,seen,h1,h2,h3,-⟩:=h;exact⟨es,clock,h1,h2,h3⟩
theorem Itr.lt {w:World} {g r:Nat} {l rest:List (ByteArray×Value)} (h:Itr w g r l rest):r<w.heap.size/\r≠g:=by
 obtain⟨es,clock,since,c0,seen,h1,-,-,h4,-⟩:=h;refine⟨(Array.getElem?_eq_some_iff.1 h4).1,?_⟩;rintro rfl;rw[h1] at h4;cases h4
theorem Itr.same {w w':World} {g r:Nat} {l rest:List (ByteArray×Value)} (h:Itr w g r l rest) (hg:w'.heap[g]? =w.heap[g]?) (hr:w'.heap[r]? =w.heap[r]?):Itr w' g r l rest:=by
 obtain⟨es,clock,since,c0,seen,h1,h2,h3,h4,h5⟩:=h;exact⟨es,clock,since,c0,seen,hg.trans h1,h2,h3,hr.trans h4,h5⟩
theorem left_push (es:Array MapEntry) (seen:Array Nat) (b:Nat):(leftOf es (seen.push b)).toList=(leftOf es seen).toList.filter (fun e=>e.born != b):=by
 unfold leftOf;rw[Array.toList_filter,Array.toList_filter,List.filter_filter];congr 1
 funext e
 simp only[Array.contains_push,Bool.not_or];rw[Bool.and_comm];congr 1
theorem filter_one:∀(l:List MapEntry) (e:MapEntry),(l.map (·.born)).Nodup->e∈l-> ∃pre post,l=pre++e::post/\l.filter (fun x=>x.born != e.born)=pre++post
 | [],e,_,h=>by cases h
 |x::l,e,hn,h=>by
  rw[List.map_cons,List.nodup_cons] at hn;rcases List.mem_cons.1 h with rfl|h
  ·refine⟨[],l,rfl,?_⟩
   rw[List.filter_cons_of_neg (by simp),List.nil_append,List.filter_eq_self];intro y hy;rw[bne_iff_ne];intro e1;exact hn.1 (e1▸List.mem_map.2 ⟨y,hy,rfl⟩)
  ·obtain⟨pre,post,h1,h2⟩:=filter_one l e hn.2 h
   refine⟨x::pre,post,by rw[h1];rfl,?_⟩;have hx:x.born≠e.born:=fun e1=>hn.1 (e1▸List.mem_map.2 ⟨e,h,rfl⟩)
   rw[List.filter_cons_of_pos (by rw[bne_iff_ne];exact hx),h2];rfl
theorem svs_split {pre post:List (Value×Value)} {x:Value×Value} {rest:List (ByteArray×Value)} (h:pre++x::post=svs rest):∃a s v b,rest=a++(s,v)::b/\pre=svs a/\x=(Value.string s,v)/\post=svs b:=by
 unfold svs at h;obtain⟨a,c,h1,h2,h3⟩:=List.map_eq_append_iff.1 h.symm;obtain⟨y,b,h4,h5,h6⟩:=List.map_eq_cons_iff.1 h3;exact⟨a,y.1,y.2,b,by rw[h1,h4],h2.symm,h5.symm,h6.symm⟩
theorem kvs_append (a b:List MapEntry):kvs (a++b)=kvs a++kvs b:=List.map_append ..
theorem svs_append (a b:List (ByteArray×Value)):svs (a++b)=svs a++svs b:=List.map_append ..
theorem Itr.next {P:Program} {w:World} {g r:Nat} {l rest:List (ByteArray×Value)} (h:Itr w g r l rest) (ty:TypeId) :
  (rest=[]/\(Instr.next (.pointer (some ⟨r,0,none⟩)) false ty).run P w=.ok (.tuple #[.bool false]) w) ∨
  ∃a s v b w',rest=a++(s,v)::b/\(Instr.next (.pointer (some ⟨r,0,none⟩)) false ty).run P w=.ok (.tuple #[.bool true,.string s,v]) w'/\Itr w' g r l (a++b)/\w.grownBy w' (some r)/\w'.heap.size=w.heap.size/\(Instr.entry (.pointer (some ⟨r,0,none⟩))).run P w'=.ok (.tuple #[.string s,v]) w':=by
 obtain⟨hlt,hne⟩:=h.lt;obtain⟨es,clock,since,c0,seen,h1,h2,h3,h4,h5,h6,h8,h7⟩:=h;rcases run_next_at (P:=P) w ty r g since c0 seen es clock h4 h1 h6 h5 with ⟨hz,hrun⟩|⟨e,he,w1,hw1,hrun⟩
 ·left
  refine⟨?_,hrun⟩;have hl:(leftOf es seen).toList=[]:=by rw[<-List.length_eq_zero_iff];simpa using hz
  rw[hl] at h7;unfold kvs svs at h7;exact(List.map_eq_nil_iff.1 h7.symm)
 ·right
  have hsub:((leftOf es seen).toList.map (·.born)).Nodup:=by
   unfold leftOf;rw[Array.toList_filter];exact(List.filter_sublist.map _).nodup h2.2.1
  obtain⟨pre,post,hp1,hp2⟩:=filter_one _ e hsub he;rw[hp1,kvs_append] at h7;obtain⟨a,s,v,b,q1,q2,q3,q4⟩:=svs_split (x:=(e.key,e.val)) (post:=kvs post) h7;simp only[Prod.mk.injEq] at q3;have hsame:w1.heap=w.heap:=by rcases hw1 with rfl|rfl<;>rfl
  have hos:w1.os=w.os/\w1.tape=w.tape/\w1.output=w.output:=by rcases hw1 with rfl|rfl<;>exact⟨rfl,rfl,rfl⟩
  obtain⟨g1,g2⟩:=setBlock_grown w1 r (.mapIter (some g) since (seen.push e.born) clock);have hlt1:r<w1.heap.size:=by rw[hsame];exact hlt
  have hgr:w.grownBy (setBlock w1 r (.mapIter (some g) since (seen.push e.born) clock)) (some r) :=
   ⟨g1.os.trans hos.1,g1.tape.trans hos.2.1,g1.output.trans hos.2.2,by rw[g2,hsame];exact Nat.le_refl _,fun k hk hn=>by rw[g1.block k (by rw[hsame];exact hk) hn,hsame]⟩
  have hb':(setBlock w1 r (.mapIter (some g) since (seen.push e.born) clock)).heap[g]? =some (.map es clock):=by
   rw[hgr.block g (Array.getElem?_eq_some_iff.1 h1).1 (by intro e2;cases e2;exact hne rfl)];exact h1
  refine⟨a,s,v,b,_,q1,by rw[hrun,q3.1,q3.2],⟨es,clock,since,clock,seen.push e.born,hb',h2,h3,setBlock_at _ hlt1,h8,h6,h8,?_⟩,hgr,by rw[g2,hsame],?_⟩
  rotate_left
  ·rw[run_entry_at _ r g since seen es clock e (setBlock_at _ hlt1) hb' (mem_left he).1 h2.2.1,q3.1,q3.2]
  ·rw[left_push,hp2,kvs_append,svs_append,q2,q4]
theorem Mp.itr {w:World} {g:Nat} {l:List (ByteArray×Value)} (h:Mp w g l):∃clock,Itr (w.alloc (.mapIter (some g) clock #[] clock)) g w.heap.size l l/\ ∀(P:Program) (t:TypeId) (k e:TypeId),P.underlying t=some (.map k e) ->
  (Instr.range t (.map (some g))).run P w=.ok (.pointer (some ⟨w.heap.size,0,none⟩)) (w.alloc (.mapIter (some g) clock #[] clock)):=by
 have hlt:=h.lt;obtain⟨es,clock,h1,h2,h3⟩:=h;refine⟨clock,⟨es,clock,clock,clock,#[],?_,h2,h3,heap_alloc_new w _,Nat.le_refl _,h2.1,Nat.le_refl _,?_⟩,fun P t k e ht=>?_⟩
 ·exact(Below.heap_alloc w _ g hlt).trans h1
 ·unfold leftOf
  rw[Array.filter_eq_self.2 (by simp)];exact h3
 ·simp[Instr.range,run_underlying ht,MapKept.run_getObj_map h1,Result.andThen]
section
variable {P:Program} {ops:Array Oper} {rest:List Oper} {op:Oper} {a:Act} {w:World} {Q:Exit->Act->World->Prop} {g r:Nat} {l lf:List (ByteArray×Value)} {t k e:TypeId}
theorem wpList_rangeS (ht:P.underlying t=some (.map k e)) (h:Mp w g l) (x:Operand)
  (hh:∀w',Itr w' g w.heap.size l l->Below w.heap.size w w'->w'.heap.size=w.heap.size+1->wpList P ops Q rest (a.put op.dst (.pointer (some ⟨w.heap.size,0,none⟩))) w')
  (hgd:op.guard=none:=by exact rfl) (ho:op.op=.range t x:=by exact rfl) (hx:a.eval x=.map (some g):=by exact rfl):wpList P ops Q (op::rest) a w:=by
 refine wpList_plain hgd fun _ hK=>?_
 obtain⟨clock,h1,h2⟩:=h.itr;unfold Oper.wp execOp;simp only[ho,hx,Sem.run_bind,Result.andThen_ok,h2 P t k e ht];exact hK _ _ (hh _ h1 (ext_alloc w _) (by simp))
theorem wpList_nextS (h:Itr w g r l lf) (x:Operand)
  (h0:lf=[]->wpList P ops Q rest (a.put op.dst (.tuple #[.bool false])) w)
  (h1:∀c s v b w',lf=c++(s,v)::b->Itr w' g r l (c++b)->w.grownBy w' (some r)->w'.heap.size=w.heap.size->(Instr.entry (.pointer (some ⟨r,0,none⟩))).run P w'=.ok (.tuple #[.string s,v]) w'->wpList P ops Q rest (a.put op.dst (.tuple #[.bool true,.string s,v])) w')
  (hgd:op.guard=none:=by exact rfl) (ho:op.op=.next x false:=by exact rfl) (hx:a.eval x=.pointer (some ⟨r,0,none⟩):=by exact rfl):wpList P ops Q (op::rest) a w:=by
 refine wpList_plain hgd fun _ hK=>?_
 rcases h.next (P:=P) op.type with ⟨hz,hrun⟩|⟨c,s,v,b,w',q1,q2,q3,q4,q5,q6⟩
 ·unfold Oper.wp execOp
  simp only[ho,hx,Sem.run_bind,Result.andThen_ok,hrun];exact hK _ _ (h0 hz)
 ·unfold Oper.wp execOp
  simp only[ho,hx,Sem.run_bind,Result.andThen_ok,q2];exact hK _ _ (h1 c s v b w' q1 q3 q4 q5 q6)
theorem wpList_nextS0 (h:Itr w g r l []) (x:Operand) (h0:wpList P ops Q rest (a.put op.dst (.tuple #[.bool false])) w)
  (hgd:op.guard=none:=by exact rfl) (ho:op.op=.next x false:=by exact rfl) (hx:a.eval x=.pointer (some ⟨r,0,none⟩):=by exact rfl):wpList P ops Q (op::rest) a w :=
 wpList_nextS h x (fun _=>h0) (fun _ _ _ _ _ e=>by simp at e) hgd ho hx
theorem wpList_nextS1 (h:Itr w g r l lf) (hne:lf≠ []) (x:Operand)
  (h1:∀c s v b w',lf=c++(s,v)::b->Itr w' g r l (c++b)->w.grownBy w' (some r)->w'.heap.size=w.heap.size->(Instr.entry (.pointer (some ⟨r,0,none⟩))).run P w'=.ok (.tuple #[.string s,v]) w'->wpList P ops Q rest (a.put op.dst (.tuple #[.bool true,.string s,v])) w')
  (hgd:op.guard=none:=by exact rfl) (ho:op.op=.next x false:=by exact rfl) (hx:a.eval x=.pointer (some ⟨r,0,none⟩):=by exact rfl):wpList P ops Q (op::rest) a w :=
 wpList_nextS h x (fun e=>absurd e hne) h1 hgd ho hx
end
end Go.Proofs.YtejcdhdfanfkbaaGreat
namespace Go.Proofs.YtejcdhdfanfkbaaGreat
namespace Dk
open Go.RowKit
section
variable {w w':World} {S:Nat->Prop} {bd gN gS:Nat} {v:Value} {D:DS}
set_option maxHeartbeats 1600000 in
theorem up_any (h:DiskAt w S bd D):Calls Tryz.prog 61 #[.pointer (some ⟨bd,0,none⟩)] w fun e w'=>e=.returned (.int .i64 (upE D))/\w=w':=by
 obtain⟨gN,gS,v,h⟩:=h;have c6:=h.c6;have c7:=h.c7;unfold upE;rcases ho:D.off with _|_
 all_goals
  rw[ho] at c6;clear h ho
  go_enter Tryz.func61, Tryz.ntmps61
  go_wp2_with fail
  go_ret
  exact⟨rfl,rfl⟩
def findP (D:DS) (s:ByteArray):Value×Int:=if D.off then(.pointer none,200) else match lk s D.now with
 |none=>(.pointer none,201)
 |some b=>(ptr b,0)
theorem ptr_zero:(Tryz.prog.info? 127).map (·.zero)=some (some (.pointer none)):=by kernel_rfl
set_option maxHeartbeats 1600000 in
theorem find_any (h:DiskAt w S bd D) (s:ByteArray):Calls Tryz.prog 105 #[.pointer (some ⟨bd,0,none⟩),.string s] w fun e w'=>e=.returned (.tuple #[(findP D s).1,.int .i64 (findP D s).2])/\w=w':=by
 have hU:=up_any h;obtain⟨gN,gS,v,h⟩:=h;have c0:=h.c0;have HM:=Lib.hid h.now;have HF:=Lib.hid (vs_find s D.now);unfold findP;unfold upE at hU;rcases ho:D.off with _|_
 ·rw[ho] at hU
  simp only[Bool.false_eq_true,if_false] at hU ⊢;rcases hl:lk s D.now with _|b
  all_goals
   rw[hl] at HF;clear h ho hl
   go_enter Tryz.func105, Tryz.ntmps105
   go_wp2_with (first
    |(go_at_call 61;refine hU.mono ?_;rintro e1 w1 ⟨rfl,rfl⟩)
    |(at_lookup;refine wpList_lookupS Tryz.underlying117 Tryz.underlying9 ptr_zero HM.out s _ _ ?_;rw[HF.out]))
   go_ret2
   exact⟨rfl,rfl⟩
 ·rw[ho] at hU
  simp only[if_true] at hU ⊢;clear h ho
  go_enter Tryz.func105, Tryz.ntmps105
  go_wp2_with (first
    |(go_at_call 61;refine hU.mono ?_;rintro e1 w1 ⟨rfl,rfl⟩))
  go_ret2
  exact⟨rfl,rfl⟩
end
end Dk
end Go.Proofs.YtejcdhdfanfkbaaGreat
namespace Go.Proofs.YtejcdhdfanfkbaaGreat
namespace Dk
open Go.RowKit
def fagg (a b:ByteArray):Value:=.agg #[.string a,.string b]
theorem file_info:(Tryz.prog.info? 133).map (·.size)=some 2:=by kernel_rfl
theorem blk_second (w:World) (o:Obj) (cs:Array Value) (t:TypeId):Blk ((w.alloc o).alloc (.cells cs t)) (w.heap.size+1) cs t:=by
 have:=Blk.new (w.alloc o) cs t
 rwa [show(w.alloc o).heap.size=w.heap.size+1 from by simp] at this
theorem ext_second (w:World) (o p:Obj):Below w.heap.size w ((w.alloc o).alloc p):=(ext_alloc w o).trans ((ext_alloc (w.alloc o) p).mono (by simp))
set_option maxHeartbeats 1600000 in
theorem fapp_ok (a b s:ByteArray) (w:World) (h:b.size+s.size<=1000000) :
  Calls Tryz.prog 107 #[fagg a b,.string s] w fun e w'=>e=.returned (.tuple #[fagg a (b++s),.int .i64 0])/\Below w.heap.size w w':=by
 have h1: ¬ (s.size:Int)>1000000-(b.size:Int):=by omega
 have h2:wrap64 (1000000-(b.size:Int))=1000000-(b.size:Int):=by unfold wrap64;omega
 unfold fagg
 go_enter Tryz.func107, Tryz.ntmps107
 go_wp2_with fail
 refine bodyPost_ret (v:=.tuple #[.agg #[.string a,.string (b++s)],.int .i64 0]) (by exact results_cell2 rfl rfl rfl (blk_second _ _ _ _) Tryz.underlying133 rfl file_info) (by exact rfl) ?_;exact⟨rfl,ext_second w _ _⟩
theorem fapp_big (a b s:ByteArray) (w:World) (hb:b.size<=1000000) (h: ¬ b.size+s.size<=1000000) :
  Calls Tryz.prog 107 #[fagg a b,.string s] w fun e w'=>e=.returned (.tuple #[fagg ⟨#[]⟩ ⟨#[]⟩,.int .i64 3])/\Below w.heap.size w w':=by
 have h1:(s.size:Int)>1000000-(b.size:Int):=by omega
 have h2:wrap64 (1000000-(b.size:Int))=1000000-(b.size:Int):=by unfold wrap64;omega
 unfold fagg
 go_enter Tryz.func107, Tryz.ntmps107
 go_wp2_with fail
 refine bodyPost_ret (v:=.tuple #[.agg #[.string ⟨#[]⟩,.string ⟨#[]⟩],.int .i64 3]) (by exact results_cell2 rfl rfl rfl (blk_second _ _ _ _) Tryz.underlying133 rfl file_info) (by exact rfl) ?_;exact⟨rfl,ext_second w _ _⟩
theorem fsync_any (a b:ByteArray) (w:World) :
  Calls Tryz.prog 112 #[fagg a b] w fun e w'=>e=.returned (fagg b b)/\Below w.heap.size w w':=by
 unfold fagg
 go_enter Tryz.func112, Tryz.ntmps112
 go_wp2_with fail
 refine bodyPost_ret (v:=.agg #[.string b,.string b]) (by exact results_cell1 rfl rfl (blk_second _ _ _ _) Tryz.underlying133 rfl file_info) (by exact rfl) ?_;exact⟨rfl,ext_second w _ _⟩
set_option maxHeartbeats 1600000 in
theorem fcut_ok (a b:ByteArray) (n:Nat) (w:World) (hb:b.size<=1000000) (h:n<=b.size) :
  Calls Tryz.prog 176 #[fagg a b,.int .i64 (n:Int)] w fun e w'=>e=.returned (.tuple #[fagg a (b.extract 0 n),.int .i64 0])/\Below w.heap.size w w':=by
 have h1: ¬ (n:Int)<0:=by omega
 have h2: ¬ (n:Int)>(b.size:Int):=by omega
 have h3:(n:Int)<=(b.size:Int):=by omega
 unfold fagg
 go_enter Tryz.func176, Tryz.ntmps176
 go_wp2_with fail
 refine bodyPost_ret (v:=.tuple #[.agg #[.string a,.string (b.extract 0 n)],.int .i64 0]) (by exact results_cell2 rfl rfl rfl (blk_second _ _ _ _) Tryz.underlying133 rfl file_info) (by exact rfl) ?_;exact⟨rfl,ext_second w _ _⟩
set_option maxHeartbeats 1600000 in
theorem fcut_arg (a b:ByteArray) (n:Int) (w:World) (hb:b.size<=1000000) (h:n<0∨b.size<n) :
  Calls Tryz.prog 176 #[fagg a b,.int .i64 n] w fun e w'=>e=.returned (.tuple #[fagg ⟨#[]⟩ ⟨#[]⟩,.int .i64 2])/\Below w.heap.size w w':=by
 unfold fagg;rcases(show n<0∨(¬ n<0/\n>(b.size:Int)) by omega) with h1|⟨h1,h2⟩
 all_goals
  clear h
  go_enter Tryz.func176, Tryz.ntmps176
  go_wp2_with fail
  refine bodyPost_ret (v:=.tuple #[.agg #[.string ⟨#[]⟩,.string ⟨#[]⟩],.int .i64 2]) (by exact results_cell2 rfl rfl rfl (blk_second _ _ _ _) Tryz.underlying133 rfl file_info) (by exact rfl) ?_;exact⟨rfl,ext_second w _ _⟩
end Dk
end Go.Proofs.YtejcdhdfanfkbaaGreat
