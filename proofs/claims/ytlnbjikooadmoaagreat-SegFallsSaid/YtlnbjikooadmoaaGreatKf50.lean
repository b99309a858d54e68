/- block: what its functions compute: plain lists, no program. block.peek$1: what stands ahead of a block's records is taken. block.peek$1 is walked. api.Meta as a value, and in a block. block.head.may; block.peek, Peek. block.Peek; block.head.raw. Slices of records that the call itself makes. record.Split. block.Decode. block.Encode. block.Encode: a block. block: what the laws ask of it: plain lists, no program. block: Encode, Decode, Peek where they answer. A range over an iterator that turns a variable of its own; the body never leaves the loop. frame.frames$1: it gives the frames that stand one behind the other. -/
import Derived.Test.YtlnbjikooadmoaaGreatKf49
import Derived.Deep.RegionHeld3
import Derived.Test.YtlnbjikooadmoaaGreatRows
import Derived.Test.YtlnbjikooadmoaaGreatKf01
import Derived.Test.YtlnbjikooadmoaaGreatKf02
import Derived.Test.YtlnbjikooadmoaaGreatKf06
import Derived.Test.YtlnbjikooadmoaaGreatKf46
import Derived.Test.YtlnbjikooadmoaaGreatKf15
import Derived.Deep.QuietTactic
import Derived.BigQuiet
import Derived.Test.YtlnbjikooadmoaaGreatKf47
import Derived.RangeFuncNested
import Derived.RangeFuncBound
import Derived.RangeFuncCalls
import Derived.RangeFuncLeaves
import Derived.Shelf.Abstract
import Derived.Shelf.RegionOpen
import Derived.WalkKit
import Derived.OwnWalkIn
import Derived.TacticsInMore
import Derived.LoopNIn
import Derived.LoopIn
import Derived.Sort.LoopGhostIn
namespace Go.Proofs.YtlnbjikooadmoaaGreat
namespace Bk
open Vi Sq Rd
def at3 (l:List (Int×Int×ByteArray)) (k:Nat):Int×Int×ByteArray:=l.getD k (0,0,⟨#[]⟩)
def isP (l:List (Int×Int×ByteArray)) (A:List Nat):Bool:=decide ((packed (joinB l) A).length<(joinB l).length)
def body (l:List (Int×Int×ByteArray)) (A:List Nat):List UInt8:=if isP l A=true then packed (joinB l) A else joinB l
def mode (l:List (Int×Int×ByteArray)) (A:List Nat):Nat:=if isP l A=true then 1 else 0
def hd5 (l:List (Int×Int×ByteArray)):List Nat:=[(joinB l).length,l.length,(at3 l 0).1.toNat,(at3 l 0).2.1.toNat,((at3 l (l.length-1)).2.1-(at3 l 0).2.1).toNat]
def blk (l:List (Int×Int×ByteArray)) (A:List Nat):List UInt8:=UInt8.ofNat (mode l A)::((hd5 l).flatMap putV++body l A)
def encE (l:List (Int×Int×ByteArray)):Int:=if l=[] then 2 else jE l
def lateOf (early more:Nat):Nat:=if more<=1000000000/\early<=1000000000 then early+more else 9223372036854775807
def mayH (md raw count first early late:Nat):Bool:=decide (md<=1/\raw<=20000/\1<=count/\count<=raw/\1<=first/\first+count<=1000000001/\early<=1000000000/\late<=1000000000)
def peekB:List UInt8->Option (Nat×Nat×Nat×Nat×Nat×Nat×List UInt8)
 | []=>none
 |m::b=>match fin 5 [] b with
  |(0,[raw,count,first,early,more],r)=>if mayH m.toNat raw count first early (lateOf early more)=true then some (m.toNat,raw,count,first,early,lateOf early more,r) else none
  |_=>none
def rawB (md raw:Nat) (b:List UInt8):Option (List UInt8):=match (if md=1 then unS b else some b) with
 |none=>none
 |some s=>if s.length≠raw then none else some s
def fits (l:List (Int×Int×ByteArray)) (count first early late:Nat):Bool:=decide (l.length=count/\(at3 l 0).1=first/\(at3 l 0).2.1=early/\(at3 l (l.length-1)).2.1=late)
def dec (b:List UInt8):Option (List (Int×Int×ByteArray)):=match peekB b with
 |none=>none
 |some (md,raw,count,first,early,late,r)=>match rawB md raw r with
  |none=>none
  |some s=>match split s with
   |none=>none
   |some l=>if fits l count first early late=true then some l else none
theorem row_seq:∀(l:List (Int×Int×ByteArray)) (p:Int×Int×ByteArray),rowE (some p) l=0-> ∀(k:Nat) (r:Int×Int×ByteArray),l[k]? =some r->r.1=p.1+(k:Int)+1/\p.2.1<=r.2.1/\ok1 r=true/\ ∀(j:Nat) (r':Int×Int×ByteArray),k<=j->l[j]? =some r'->r.2.1<=r'.2.1
 | [],_,_,k,r,h=>by simp at h
 |x::l,p,h,k,r,hk=>by
  rw[rowE] at h;split at h;·simp at h
  rename_i ho
  split at h;·simp at h
  rename_i hf
  have ho:ok1 x=true:=by simpa using ho
  have hx:x.1=p.1+1/\p.2.1<=x.2.1:=by
   simp only[off,decide_eq_true_eq] at hf;omega
  have ih:=row_seq l x h;rcases k with _|k
  ·simp at hk;subst hk
   refine⟨by simp;omega,hx.2,ho,?_⟩;intro j r' _ hj;rcases j with _|j
   ·simp at hj;subst hj;exact Int.le_refl _
   ·exact(ih j r' (by simpa using hj)).2.1
  ·obtain⟨h1,h2,h3,h4⟩:=ih k r (by simpa using hk)
   refine⟨by rw[h1,hx.1];push_cast;omega,by omega,h3,?_⟩;intro j r' hkj hj;obtain⟨j,rfl⟩:∃i,j=i+1:=⟨j-1,by omega⟩
   exact h4 j r' (by omega) (by simpa using hj)
theorem row_seq0 (l:List (Int×Int×ByteArray)) (h:rowE none l=0) (k:Nat) (r:Int×Int×ByteArray) (hk:l[k]? =some r) :
  r.1=(at3 l 0).1+(k:Int)/\(at3 l 0).2.1<=r.2.1/\ok1 r=true/\ ∀(j:Nat) (r':Int×Int×ByteArray),k<=j->l[j]? =some r'->r.2.1<=r'.2.1:=by
 rcases l with _|⟨x,l⟩
 ·simp at hk
 rw[rowE] at h;split at h;·simp at h
 rename_i ho
 split at h;·simp at h
 have ho:ok1 x=true:=by simpa using ho
 have e:at3 (x::l) 0=x:=rfl;rw[e];have ih:=row_seq l x h;rcases k with _|k
 ·simp at hk;subst hk
  refine⟨by simp,Int.le_refl _,ho,?_⟩;intro j r' _ hj;rcases j with _|j
  ·simp at hj;subst hj;exact Int.le_refl _
  ·exact(ih j r' (by simpa using hj)).2.1
 ·obtain⟨h1,h2,h3,h4⟩:=ih k r (by simpa using hk)
  refine⟨by rw[h1];push_cast;omega,h2,h3,?_⟩;intro j r' hkj hj;obtain⟨j,rfl⟩:∃i,j=i+1:=⟨j-1,by omega⟩
  exact h4 j r' (by omega) (by simpa using hj)
theorem at3_get (l:List (Int×Int×ByteArray)) (k:Nat) (h:k<l.length):l[k]? =some (at3 l k):=by
 unfold at3;rw[List.getD_eq_getElem?_getD,List.getElem?_eq_getElem h];rfl
theorem joinB_ge:∀(l:List (Int×Int×ByteArray)),3*l.length<=(joinB l).length
 | []=>by simp
 |r::l=>by
  have e:joinB (r::l)=recB r++joinB l:=List.flatMap_cons ..;have:=recB_length r;have:=joinB_ge l;rw[e,List.length_append,List.length_cons];omega
theorem jE_row {l:List (Int×Int×ByteArray)} (h:jE l=0):rowE none l=0/\(joinB l).length<=20000:=by
 unfold jE at h;split at h
 ·rename_i h1;exact absurd h h1
 split at h;·simp at h
 rename_i h1 h2
 exact⟨by simpa using h1,by omega⟩
theorem ends {l:List (Int×Int×ByteArray)} (h:jE l=0) (hn:l≠ []) :
  1<=(at3 l 0).1/\(at3 l 0).1+l.length<=1000000001/\0<=(at3 l 0).2.1/\(at3 l 0).2.1<=(at3 l (l.length-1)).2.1/\(at3 l (l.length-1)).2.1<=1000000000/\l.length<=6667:=by
 obtain⟨h1,h2⟩:=jE_row h;have hp:0<l.length:=List.length_pos_iff.2 hn;have h3:=joinB_ge l;obtain⟨a1,a2,a3,a4⟩:=row_seq0 l h1 0 _ (at3_get l 0 hp);obtain⟨b1,b2,b3,b4⟩:=row_seq0 l h1 (l.length-1) _ (at3_get l (l.length-1) (by omega));rw[ok1_iff] at a3 b3;refine⟨a3.1,?_,a3.2.2.1,b2,b3.2.2.2.1,by omega⟩;have:=b3.2.1;omega
theorem hd5_lt {l:List (Int×Int×ByteArray)} (h:jE l=0) (hn:l≠ []):∀n∈hd5 l,n<9223372036854775808:=by
 obtain⟨e1,e2,e3,e4,e5,e6⟩:=ends h hn;obtain⟨h1,h2⟩:=jE_row h;intro n hm;simp only[hd5,List.mem_cons,List.not_mem_nil,or_false] at hm;omega
theorem fin_flat:∀(l acc:List Nat) (r:List UInt8),(∀n∈l,n<9223372036854775808)->fin l.length acc (l.flatMap putV++r)=(0,acc++l,r)
 | [],acc,r,_=>by simp[fin]
 |n::l,acc,r,h=>by
  rw[List.flatMap_cons,List.append_assoc,List.length_cons,fin_put n (h n (List.mem_cons_self ..)),fin_flat l _ r (fun x hx=>h x (List.mem_cons_of_mem _ hx))];simp
theorem mode_le (l:List (Int×Int×ByteArray)) (A:List Nat):mode l A<=1:=by unfold mode;split<;>omega
theorem peek_blk {l:List (Int×Int×ByteArray)} (A:List Nat) (h:jE l=0) (hn:l≠ []) :
  peekB (blk l A)=some (mode l A,(joinB l).length,l.length,(at3 l 0).1.toNat,(at3 l 0).2.1.toNat,(at3 l (l.length-1)).2.1.toNat,body l A):=by
 obtain⟨e1,e2,e3,e4,e5,e6⟩:=ends h hn;obtain⟨h1,h2⟩:=jE_row h;have hp:0<l.length:=List.length_pos_iff.2 hn;have hm:=mode_le l A;have h3:=joinB_ge l;have hf:=fin_flat (hd5 l) [] (body l A) (hd5_lt h hn);have h5:(hd5 l).length=5:=rfl;rw[h5,List.nil_append] at hf;unfold blk;simp only[peekB,hf];simp only[hd5];have hl:lateOf (at3 l 0).2.1.toNat ((at3 l (l.length-1)).2.1-(at3 l 0).2.1).toNat=(at3 l (l.length-1)).2.1.toNat:=by
  unfold lateOf;rw[if_pos (by omega)];omega
 rw[hl,toNat_ofNat _ (by omega),if_pos];unfold mayH;simp only[decide_eq_true_eq];omega
theorem raw_blk {l:List (Int×Int×ByteArray)} {A:List Nat} (h:jE l=0) (hA:Sx.Sorted (joinB l) A):rawB (mode l A) (joinB l).length (body l A)=some (joinB l):=by
 obtain⟨h1,h2⟩:=jE_row h;unfold rawB mode body;by_cases hp:isP l A=true
 ·rw[if_pos hp,if_pos hp,if_pos rfl,back hA h2];simp
 ·rw[if_neg hp,if_neg hp,if_neg (by decide)];simp
theorem dec_blk {l:List (Int×Int×ByteArray)} {A:List Nat} (h:jE l=0) (hn:l≠ []) (hA:Sx.Sorted (joinB l) A):dec (blk l A)=some l:=by
 obtain⟨e1,e2,e3,e4,e5,e6⟩:=ends h hn;unfold dec;rw[peek_blk A h hn];simp only;rw[raw_blk h hA];simp only;rw[split_join l h];simp only;rw[if_pos];unfold fits;simp only[decide_eq_true_eq];refine⟨trivial,by omega,by omega,by omega⟩
theorem dec_some {b:List UInt8} {l:List (Int×Int×ByteArray)} (h:dec b=some l):jE l=0/\l≠ []:=by
 unfold dec at h;split at h;·simp at h
 rename_i md raw count first early late r hp
 split at h;·simp at h
 split at h;·simp at h
 rename_i s hs l' hl'
 split at h
 ·rename_i hf
  simp only[Option.some.injEq] at h;subst h;refine⟨(split_some _ _ hl').2,?_⟩;rintro rfl;simp only[fits,decide_eq_true_eq] at hf;unfold peekB at hp;split at hp;·simp at hp
  split at hp
  ·split at hp
   ·rename_i hm
    simp only[Option.some.injEq,Prod.mk.injEq] at hp;simp only[mayH,decide_eq_true_eq] at hm;have:=hf.1;simp at this
    omega
   ·simp at hp
  ·simp at hp
 ·simp at h
theorem blk_len {l:List (Int×Int×ByteArray)} {A:List Nat} (h:jE l=0) (hn:l≠ []):(blk l A).length<=(joinB l).length+26:=by
 obtain⟨e1,e2,e3,e4,e5,e6⟩:=ends h hn;obtain⟨h1,h2⟩:=jE_row h;have l1:=length_putV_le (joinB l).length 2 (by omega);have l2:=length_putV_le l.length 2 (by omega);have l3:=length_putV_le (at3 l 0).1.toNat 4 (by omega);have l4:=length_putV_le (at3 l 0).2.1.toNat 4 (by omega);have l5:=length_putV_le ((at3 l (l.length-1)).2.1-(at3 l 0).2.1).toNat 4 (by omega);have hb:(body l A).length<=(joinB l).length:=by
  unfold body;split
  ·rename_i hp
   simp only[isP,decide_eq_true_eq] at hp;omega
  ·exact Nat.le_refl _
 unfold blk hd5;simp only[List.length_cons,List.length_append,List.flatMap_cons,List.flatMap_nil,List.length_nil];omega
theorem enc_ok {l:List (Int×Int×ByteArray)} (h:encE l=0):jE l=0/\l≠ []:=by
 unfold encE at h;split at h;·simp at h
 exact⟨h,by assumption⟩
end Bk
end Go.Proofs.YtlnbjikooadmoaaGreat
namespace Go.Proofs.YtlnbjikooadmoaaGreat
namespace Bk
open Go.RowKit Tk Vi Sq Rd
open Bt (Frm)
def Hb (w:World) (b:Nat) (raw count first early late md:Int) (bd:ByteArray):Prop :=
 w.heap[b]? =some (.cells #[.int .i64 0,.int .i64 0,.int .i64 raw,.int .i64 count,.int .i64 first,.int .i64 early,.int .i64 late,.int .i64 md,.string bd] 138 (0,0))
section
variable {w w':World} {b:Nat} {raw count first early late md:Int} {bd:ByteArray} (h:Hb w b raw count first early late md bd)
include h
theorem Hb.lt:b<w.heap.size:=(Array.getElem?_eq_some_iff.1 h).1
theorem Hb.c0:w.cell? ⟨b,0,none⟩=some (.int .i64 0):=by rw[cell_of_row w b 0 _ _ (0,0) h];rfl
theorem Hb.c1:w.cell? ⟨b,1,none⟩=some (.int .i64 0):=by rw[cell_of_row w b 1 _ _ (0,0) h];rfl
theorem Hb.c2:w.cell? ⟨b,2,none⟩=some (.int .i64 raw):=by rw[cell_of_row w b 2 _ _ (0,0) h];rfl
theorem Hb.c3:w.cell? ⟨b,3,none⟩=some (.int .i64 count):=by rw[cell_of_row w b 3 _ _ (0,0) h];rfl
theorem Hb.c4:w.cell? ⟨b,4,none⟩=some (.int .i64 first):=by rw[cell_of_row w b 4 _ _ (0,0) h];rfl
theorem Hb.c5:w.cell? ⟨b,5,none⟩=some (.int .i64 early):=by rw[cell_of_row w b 5 _ _ (0,0) h];rfl
theorem Hb.c6:w.cell? ⟨b,6,none⟩=some (.int .i64 late):=by rw[cell_of_row w b 6 _ _ (0,0) h];rfl
theorem Hb.c7:w.cell? ⟨b,7,none⟩=some (.int .i64 md):=by rw[cell_of_row w b 7 _ _ (0,0) h];rfl
theorem Hb.c8:w.cell? ⟨b,8,none⟩=some (.string bd):=by rw[cell_of_row w b 8 _ _ (0,0) h];rfl
theorem Hb.fz (j:Nat):w.frozen? ⟨b,j,none⟩=false:=frozen_of_row w b j _ _ h
theorem Hb.set2 (x:Int):Hb (w.setCell ⟨b,2,none⟩ (.int .i64 x)) b x count first early late md bd:=by
 unfold Hb at *;simp[World.setCell,Array.getElem?_modify,h]
theorem Hb.set3 (x:Int):Hb (w.setCell ⟨b,3,none⟩ (.int .i64 x)) b raw x first early late md bd:=by
 unfold Hb at *;simp[World.setCell,Array.getElem?_modify,h]
theorem Hb.set4 (x:Int):Hb (w.setCell ⟨b,4,none⟩ (.int .i64 x)) b raw count x early late md bd:=by
 unfold Hb at *;simp[World.setCell,Array.getElem?_modify,h]
theorem Hb.set5 (x:Int):Hb (w.setCell ⟨b,5,none⟩ (.int .i64 x)) b raw count first x late md bd:=by
 unfold Hb at *;simp[World.setCell,Array.getElem?_modify,h]
theorem Hb.set6 (x:Int):Hb (w.setCell ⟨b,6,none⟩ (.int .i64 x)) b raw count first early x md bd:=by
 unfold Hb at *;simp[World.setCell,Array.getElem?_modify,h]
theorem Hb.set7 (x:Int):Hb (w.setCell ⟨b,7,none⟩ (.int .i64 x)) b raw count first early late x bd:=by
 unfold Hb at *;simp[World.setCell,Array.getElem?_modify,h]
theorem Hb.set8 (x:ByteArray):Hb (w.setCell ⟨b,8,none⟩ (.string x)) b raw count first early late md x:=by
 unfold Hb at *;simp[World.setCell,Array.getElem?_modify,h]
theorem Hb.far {p:Addr} (hp:b≠p.block) (u:Value):Hb (w.setCell p u) b raw count first early late md bd:=(Below.heap_setCell w p u b hp).trans h
theorem Hb.keep {L:List Nat} (hk:Keep w w' L) (hb:b∉L):Hb w' b raw count first early late md bd:=(hk.blk b (Array.getElem?_eq_some_iff.1 h).1 hb).trans h
theorem Hb.below {B:Nat} (hk:Below B w w') (hb:b<B):Hb w' b raw count first early late md bd:=(hk.block b hb).trans h
end
theorem Hb.new (w:World):Hb (w.alloc (.cells #[.int .i64 0,.int .i64 0,.int .i64 0,.int .i64 0,.int .i64 0,.int .i64 0,.int .i64 0,.int .i64 0,.string ⟨#[]⟩] 138)) w.heap.size 0 0 0 0 0 0 ⟨#[]⟩:=heap_alloc_new w _
structure Vp (w:World) (bV bT bH bF:Nat) (s:ByteArray) (p:Nat) (raw count first early late md:Int) (bd:ByteArray):Prop where
 vV:Var w bV 177 (.pointer (some ⟨bT,0,none⟩))
 ta:Ta w bT s p
 vF:Var w bF 122 (.func (.func 114) #[.pointer (some ⟨bT,0,none⟩)] #[])
 hb:Hb w bH raw count first early late md bd
 ne:bV≠bT/\bV≠bH/\bV≠bF/\bT≠bH/\bT≠bF/\bH≠bF
section
variable {w w':World} {bV bT bH bF p:Nat} {s:ByteArray} {raw count first early late md:Int} {bd:ByteArray} (h:Vp w bV bT bH bF s p raw count first early late md bd)
include h
theorem Vp.drew:Vp w.drew bV bT bH bF s p raw count first early late md bd:=⟨h.vV,h.ta,h.vF,h.hb,h.ne⟩
theorem Vp.keep (hk:Keep w w' []):Vp w' bV bT bH bF s p raw count first early late md bd :=
 ⟨hk.var h.vV (by simp),hk.ta h.ta (by simp),hk.var h.vF (by simp),h.hb.keep hk (by simp),h.ne⟩
theorem Vp.set_p (q:Nat):Vp (w.setCell ⟨bT,1,none⟩ (.int .i64 (q:Int))) bV bT bH bF s q raw count first early late md bd:=by
 obtain⟨n1,n2,n3,n4,n5,n6⟩:=h.ne;exact⟨h.vV.far (p:=⟨bT,1,none⟩) n1 _,h.ta.set1 q,h.vF.far (p:=⟨bT,1,none⟩) (Ne.symm n5) _,h.hb.far (p:=⟨bT,1,none⟩) (Ne.symm n4) _,h.ne⟩
theorem Vp.put {raw' count' first' early' late' md':Int} {bd':ByteArray} (hk:Keep w w' [bH]) (hH:Hb w' bH raw' count' first' early' late' md' bd'):Vp w' bV bT bH bF s p raw' count' first' early' late' md' bd':=by
 obtain⟨n1,n2,n3,n4,n5,n6⟩:=h.ne;exact⟨hk.var h.vV (by simpa using n2),hk.ta h.ta (by simpa using n4),hk.var h.vF (by simpa using Ne.symm n6),hH,h.ne⟩
theorem Vp.went {q:Nat} (hk:Keep w w' [bT]) (hT:Ta w' bT s q):Vp w' bV bT bH bF s q raw count first early late md bd:=by
 obtain⟨n1,n2,n3,n4,n5,n6⟩:=h.ne;exact⟨hk.var h.vV (by simpa using n1),hT,hk.var h.vF (by simpa using Ne.symm n5),h.hb.keep hk (by simpa using Ne.symm n4),h.ne⟩
end
def perr:List UInt8->Int
 | []=>4
 |_::b=>(fin 5 [] b).1
def PkA (s:ByteArray) (bT bH:Nat) (w:World) (e:Ending) (w':World):Prop:=Keep w w' [bT,bH] /\
 ((∃(m:UInt8) (b':List UInt8) (n1 n2 n3 n4 n5:Nat) (r:ByteArray),s.data.toList=m::b'/\fin 5 [] b'=(0,[n1,n2,n3,n4,n5],r.data.toList)/\e=.returned (.tuple #[])/\Hb w' bH n1 n2 n3 n4 (lateOf n4 n5) m.toNat r) ∨
  (perr s.data.toList≠0/\ ∃q,e=.panicked [fault (perr s.data.toList) q]))
theorem num_any (w:World) (b p:Nat) (s:ByteArray) (h:Ta w b s p) (hs:s.size<=1000000) (hp:p<=s.size) :
  Calls Tryz.prog 114 #[.pointer (some ⟨b,0,none⟩)] w fun e w' =>
   (∃n k,gv 0 0 (s.data.toList.drop p)=(n,k,0)/\p+k<=s.size/\n<9223372036854775808/\e=.returned (.int .i64 (n:Int))/\w'=w.setCell ⟨b,1,none⟩ (.int .i64 ((p+k:Nat):Int))) ∨
   ((gv 0 0 (s.data.toList.drop p)).2.2≠0/\e=.panicked [fault (gv 0 0 (s.data.toList.drop p)).2.2 p]/\w=w'):=by
 by_cases hg:(gv 0 0 (s.data.toList.drop p)).2.2=0
 ·obtain⟨n,k,hgv⟩:∃n k,gv 0 0 (s.data.toList.drop p)=(n,k,0):=⟨_,_,by rw[<-hg]⟩
  obtain⟨hn,hk⟩:=gv_in s p n k hp hgv;refine(num_ok w b p n k s h hs hp hgv).mono ?_;rintro e w' ⟨he,hw⟩;exact .inl ⟨n,k,hgv,hk,hn,he,hw⟩
 ·refine(num_no w b p s h hs hp hg).mono ?_
  rintro e w' ⟨he,hw⟩;exact .inr ⟨hg,he,hw⟩
theorem fin_go {b:List UInt8} {k n u:Nat} {acc:List Nat} (h:gv 0 0 b=(n,u,0)):fin (k+1) acc b=fin k (acc++[n]) (b.drop u):=by
 rw[fin,if_neg (by simp[h]),h]
theorem fin_stop {b:List UInt8} {k:Nat} {acc:List Nat} (h:(gv 0 0 b).2.2≠0):(fin (k+1) acc b).1=(gv 0 0 b).2.2:=by
 rw[fin,if_pos h]
end Bk
end Go.Proofs.YtlnbjikooadmoaaGreat
namespace Go.Proofs.YtlnbjikooadmoaaGreat
namespace Bk
open Go.RowKit Tk Vi Sq Rd
open Bt (Frm)
def Pn (w0 w:World) (bV bT bH bF:Nat) (s:ByteArray) (b':List UInt8) (k:Nat) (acc:List Nat) (p:Nat) (raw count first early late md:Int) (bd:ByteArray):Prop :=
 Vp w bV bT bH bF s p raw count first early late md bd/\Keep w0 w [bT,bH]/\p<=s.size/\fin 5 [] b'=fin k acc (s.data.toList.drop p)
theorem Pn.num {w0 w:World} {bV bT bH bF p k:Nat} {s:ByteArray} {b':List UInt8} {acc:List Nat} {raw count first early late md:Int} {bd:ByteArray} (m:UInt8) (hb:s.data.toList=m::b')
  (h:Pn w0 w bV bT bH bF s b' (k+1) acc p raw count first early late md bd) (hs:s.size<=1000000) :
  Calls Tryz.prog 114 #[.pointer (some ⟨bT,0,none⟩)] w fun e w' =>
   (∃n q:Nat,n<9223372036854775808/\e=.returned (.int .i64 (n:Int))/\w'.cell? ⟨bF,0,none⟩=some (.func (.func 114) #[.pointer (some ⟨bT,0,none⟩)] #[])/\Hid (Pn w0 w' bV bT bH bF s b' k (acc++[(n:Nat)]) q raw count first early late md bd)) ∨
   (Keep w0 w' [bT,bH]/\perr s.data.toList≠0/\ ∃q,e=.panicked [fault (perr s.data.toList) q]):=by
 obtain⟨hv,hk,hp,hf⟩:=h;refine(num_any w bT p s hv.ta hs hp).mono ?_;rintro e w' (⟨n,u,hg,hu,hn,he,hw⟩|⟨hg,he,hw⟩)
 ·subst hw
  have h2:=hv.set_p (p+u);refine .inl ⟨n,p+u,hn,he,h2.vF.cell,h2,hk.set ⟨bT,1,none⟩ (.inl (by simp)) _,hu,?_⟩;rw[hf,fin_go hg,List.drop_drop]
 ·subst hw
  have hpe:perr s.data.toList=(gv 0 0 (s.data.toList.drop p)).2.2:=by
   have:perr s.data.toList=(fin 5 [] b').1:=by rw[hb];rfl
   rw[this,hf,fin_stop hg]
  exact .inr ⟨hk,by rw[hpe];exact hg,p,by rw[hpe];exact he⟩
set_option maxHeartbeats 6400000 in
set_option maxRecDepth 100000 in
theorem peek1_any (w:World) (bV bT bH bF:Nat) (s:ByteArray) (hV:Vp w bV bT bH bF s 0 0 0 0 0 0 0 ⟨#[]⟩) (hs:s.size<=1000000) :
  Calls Tryz.prog 115 #[.pointer (some ⟨bV,0,none⟩),.pointer (some ⟨bH,0,none⟩),.pointer (some ⟨bF,0,none⟩)] w fun e w'=>PkA s bT bH w e w':=by
 have mixed:Tryz.prog.follows .mixedOrders=true:=by kernel_rfl
 rcases hb:s.data.toList with _|⟨m,b'⟩
 ·have hd:s.size=0:=by
   have:s.data.toList.length=s.size:=rfl;rw[hb] at this;simpa using this.symm
  have HB:=Lib.hid (byte_no w bT s hV.ta hs hd);have hcV:=hV.vV.cell;have HE:=Lib.hid hb;clear hV hb hd
  go_enter Tryz.func115, Tryz.ntmps115
  go_wp2_with fail
  refine HB.out.mono ?_;rintro e1 w1 ⟨rfl,hk⟩;exact⟨rfl,hk.more (by simp),.inr (by rw[HE.out];exact⟨by decide,0,rfl⟩)⟩
 ·have hsz:1<=s.size:=by
   have:s.data.toList.length=s.size:=rfl;rw[hb,List.length_cons] at this;omega
  have HB:=Lib.hid (byte_ok w bT s hV.ta hs m b' hb);have hcV:=hV.vV.cell;have HE:=Lib.hid hb;have HV:=Lib.hid hV;obtain⟨nVT,nVH,nVF,nTH,nTF,nHF⟩:=hV.ne;clear hV hb
  go_enter Tryz.func115, Tryz.ntmps115
  go_wp2_with fail
  refine HB.out.mono ?_;rintro e1 w1 ⟨rfl,hta,hk⟩;have hv1:=HV.out.went hk hta;have hc7:=hv1.hb.c7;have hf7:=hv1.hb.fz 7;have hk2:Keep w1 (w1.setCell ⟨bH,7,none⟩ (.int .i64 (m.toNat:Int))) [bH]:=(Keep.refl w1 _).set ⟨bH,7,none⟩ (.inl (by simp)) _;have hv2:=hv1.put hk2 (hv1.hb.set7 (m.toNat:Int));have hp2:Pn w (w1.setCell ⟨bH,7,none⟩ (.int .i64 (m.toNat:Int))) bV bT bH bF s b' 5 [] 1 0 0 0 0 0 m.toNat ⟨#[]⟩ :=
   ⟨hv2,(hk.more (by simp)).trans (hk2.more (by simp)),hsz,by rw[HE.out];rfl⟩
  have HP2:=Lib.hid hp2;have hcF:=hv2.vF.cell;clear hta hk hv1 hk2 hv2 hp2 HB hcV;go_wp2_with fail
  clear hc7 hf7;generalize w1.setCell ⟨bH,7,none⟩ (.int .i64 (m.toNat:Int))=w2 at *
  have hSd:w2.drew.cell? ⟨bF,0,none⟩=some (.func (.func 114) #[.pointer (some ⟨bT,0,none⟩)] #[]):=hcF;have HSd:=Lib.hid hSd;have HP2d:=Lib.hid (show Pn w w2.drew bV bT bH bF s b' 5 [] 1 0 0 0 0 0 m.toNat ⟨#[]⟩ from⟨HP2.out.1.drew,HP2.out.2.1.drew,HP2.out.2.2⟩);clear hSd hcF HP2;refine wp_region_held (S:=fun wx=>wx.cell? ⟨bF,0,none⟩=some (.func (.func 114) #[.pointer (some ⟨bT,0,none⟩)] #[])) (by kernel_rfl) ?_
  change wpAnyH _ _ _ _ _ _ _ _ (World.drew _)
  refine wpAnyH_take (i:=0) (v:=(.func (.func 114) #[.pointer (some ⟨bT,0,none⟩)] #[])) rfl (by kernel_rfl) (by kernel_rfl) (by kernel_rfl) (fun _ _ _ h=>h) (Or.inl ⟨by rfl,fun w hS=>?_⟩) HSd.out ?_
  ·go_simp
  refine wpAnyH_take (i:=2) (v:=(.func (.func 114) #[.pointer (some ⟨bT,0,none⟩)] #[])) rfl (by kernel_rfl) (by kernel_rfl) (by kernel_rfl) (fun _ _ _ h=>h) (Or.inl ⟨by rfl,fun w hS=>?_⟩) HSd.out ?_
  ·go_simp
  refine wpAnyH_take (i:=4) (v:=(.func (.func 114) #[.pointer (some ⟨bT,0,none⟩)] #[])) rfl (by kernel_rfl) (by kernel_rfl) (by kernel_rfl) (fun _ _ _ h=>h) (Or.inl ⟨by rfl,fun w hS=>?_⟩) HSd.out ?_
  ·go_simp
  refine wpAnyH_take (i:=6) (v:=(.func (.func 114) #[.pointer (some ⟨bT,0,none⟩)] #[])) rfl (by kernel_rfl) (by kernel_rfl) (by kernel_rfl) (fun _ _ _ h=>h) (Or.inl ⟨by rfl,fun w hS=>?_⟩) HSd.out ?_
  ·go_simp
  refine wpAnyH_all (rs:=[1]) (by kernel_rfl) (by simp) ?_;intro i hi;obtain rfl:i=1:=by simpa using hi
  clear hi;unfold wpOp;go_simp
  refine Or.inl ((Pn.num m HE.out HP2d.out hs).mono ?_);rintro e3 v3 (⟨n1,q1,hn1,rfl,hS1,hA1⟩|⟨hkx,hnx,q,rfl⟩)
  rotate_left
  ·exact⟨rfl,hkx,.inr ⟨hnx,q,rfl⟩⟩
  refine⟨hS1,?_⟩;clear HP2d;refine wpAnyH_take (i:=8) (v:=.pointer (some ⟨bH,0,none⟩)) rfl (by kernel_rfl) (by kernel_rfl) (by kernel_rfl) (fun _ _ _ h=>h) (Or.inl ⟨by rfl,fun w hS=>?_⟩) hS1 ?_
  ·go_simp
  refine wpAnyH_take (i:=9) (v:=.pointer (some ⟨bH,2,none⟩)) rfl (by kernel_rfl) (by kernel_rfl) (by kernel_rfl) (fun _ _ _ h=>h) (Or.inl ⟨by rfl,fun w hS=>?_⟩) hS1 ?_
  ·go_simp
  refine wpAnyH_all (rs:=[3]) (by kernel_rfl) (by simp) ?_;intro i hi;obtain rfl:i=3:=by simpa using hi
  clear hi;unfold wpOp;go_simp
  refine Or.inl ((Pn.num m HE.out hA1.out hs).mono ?_);rintro e4 v4 (⟨n2,q2,hn2,rfl,hS2,hA2⟩|⟨hkx,hnx,q,rfl⟩)
  rotate_left
  ·exact⟨rfl,hkx,.inr ⟨hnx,q,rfl⟩⟩
  refine⟨hS2,?_⟩;clear hA1;refine wpAnyH_all (rs:=[5]) (by kernel_rfl) (by simp) ?_;intro i hi;obtain rfl:i=5:=by simpa using hi
  clear hi;unfold wpOp;go_simp
  refine Or.inl ((Pn.num m HE.out hA2.out hs).mono ?_);rintro e5 v5 (⟨n3,q3,hn3,rfl,hS3,hA3⟩|⟨hkx,hnx,q,rfl⟩)
  rotate_left
  ·exact⟨rfl,hkx,.inr ⟨hnx,q,rfl⟩⟩
  refine⟨hS3,?_⟩;clear hA2;refine wpAnyH_all (rs:=[7]) (by kernel_rfl) (by simp) ?_;intro i hi;obtain rfl:i=7:=by simpa using hi
  clear hi;unfold wpOp;go_simp
  refine Or.inl ((Pn.num m HE.out hA3.out hs).mono ?_);rintro e6 v6 (⟨n4,q4,hn4,rfl,hS4,hA4⟩|⟨hkx,hnx,q,rfl⟩)
  rotate_left
  ·exact⟨rfl,hkx,.inr ⟨hnx,q,rfl⟩⟩
  refine⟨hS4,?_⟩;clear hA3;have b0:=hA4.out.1.hb;have c0:=b0.c2;have f0:=b0.fz 2;refine wpAnyH_all (rs:=[10]) (by kernel_rfl) (by simp) ?_;intro i hi;obtain rfl:i=10:=by simpa using hi
  clear hi;unfold wpOp;go_simp
  have b1:=b0.set2 (n1:Int);have s1:(v6.setCell ⟨bH,2,none⟩ (.int .i64 (n1:Int))).cell? ⟨bF,0,none⟩=some (.func (.func 114) #[.pointer (some ⟨bT,0,none⟩)] #[]):=(World.cell?_setCell_other v6 ⟨bH,2,none⟩ ⟨bF,0,none⟩ _ (by intro e;injection e with e;exact nHF e)).trans hS4;refine Or.inl ?_;clear c0 f0;refine wpAnyH_take (i:=11) (v:=.pointer (some ⟨bH,0,none⟩)) rfl (by kernel_rfl) (by kernel_rfl) (by kernel_rfl) (fun _ _ _ h=>h) (Or.inl ⟨by rfl,fun w hS=>?_⟩) s1 ?_
  ·go_simp
  refine wpAnyH_take (i:=12) (v:=.pointer (some ⟨bH,3,none⟩)) rfl (by kernel_rfl) (by kernel_rfl) (by kernel_rfl) (fun _ _ _ h=>h) (Or.inl ⟨by rfl,fun w hS=>?_⟩) s1 ?_
  ·go_simp
  have c1:=b1.c3;have f1:=b1.fz 3;refine wpAnyH_all (rs:=[13]) (by kernel_rfl) (by simp) ?_;intro i hi;obtain rfl:i=13:=by simpa using hi
  clear hi;unfold wpOp;go_simp
  have b2:=b1.set3 (n2:Int);have s2:((v6.setCell ⟨bH,2,none⟩ (.int .i64 (n1:Int))).setCell ⟨bH,3,none⟩ (.int .i64 (n2:Int))).cell? ⟨bF,0,none⟩=some (.func (.func 114) #[.pointer (some ⟨bT,0,none⟩)] #[]):=(World.cell?_setCell_other (v6.setCell ⟨bH,2,none⟩ (.int .i64 (n1:Int))) ⟨bH,3,none⟩ ⟨bF,0,none⟩ _ (by intro e;injection e with e;exact nHF e)).trans s1;refine Or.inl ?_;clear c1 f1;refine wpAnyH_take (i:=14) (v:=.pointer (some ⟨bH,0,none⟩)) rfl (by kernel_rfl) (by kernel_rfl) (by kernel_rfl) (fun _ _ _ h=>h) (Or.inl ⟨by rfl,fun w hS=>?_⟩) s2 ?_
  ·go_simp
  refine wpAnyH_take (i:=15) (v:=.pointer (some ⟨bH,4,none⟩)) rfl (by kernel_rfl) (by kernel_rfl) (by kernel_rfl) (fun _ _ _ h=>h) (Or.inl ⟨by rfl,fun w hS=>?_⟩) s2 ?_
  ·go_simp
  have c2:=b2.c4;have f2:=b2.fz 4;refine wpAnyH_all (rs:=[16]) (by kernel_rfl) (by simp) ?_;intro i hi;obtain rfl:i=16:=by simpa using hi
  clear hi;unfold wpOp;go_simp
  have b3:=b2.set4 (n3:Int);have s3:(((v6.setCell ⟨bH,2,none⟩ (.int .i64 (n1:Int))).setCell ⟨bH,3,none⟩ (.int .i64 (n2:Int))).setCell ⟨bH,4,none⟩ (.int .i64 (n3:Int))).cell? ⟨bF,0,none⟩=some (.func (.func 114) #[.pointer (some ⟨bT,0,none⟩)] #[]):=(World.cell?_setCell_other ((v6.setCell ⟨bH,2,none⟩ (.int .i64 (n1:Int))).setCell ⟨bH,3,none⟩ (.int .i64 (n2:Int))) ⟨bH,4,none⟩ ⟨bF,0,none⟩ _ (by intro e;injection e with e;exact nHF e)).trans s2;refine Or.inl ?_;clear c2 f2;refine wpAnyH_take (i:=17) (v:=.pointer (some ⟨bH,0,none⟩)) rfl (by kernel_rfl) (by kernel_rfl) (by kernel_rfl) (fun _ _ _ h=>h) (Or.inl ⟨by rfl,fun w hS=>?_⟩) s3 ?_
  ·go_simp
  refine wpAnyH_take (i:=18) (v:=.pointer (some ⟨bH,5,none⟩)) rfl (by kernel_rfl) (by kernel_rfl) (by kernel_rfl) (fun _ _ _ h=>h) (Or.inl ⟨by rfl,fun w hS=>?_⟩) s3 ?_
  ·go_simp
  have c3:=b3.c5;have f3:=b3.fz 5;refine wpAnyH_all (rs:=[19]) (by kernel_rfl) (by simp) ?_;intro i hi;obtain rfl:i=19:=by simpa using hi
  clear hi;unfold wpOp;go_simp
  have b4:=b3.set5 (n4:Int);have s4:((((v6.setCell ⟨bH,2,none⟩ (.int .i64 (n1:Int))).setCell ⟨bH,3,none⟩ (.int .i64 (n2:Int))).setCell ⟨bH,4,none⟩ (.int .i64 (n3:Int))).setCell ⟨bH,5,none⟩ (.int .i64 (n4:Int))).cell? ⟨bF,0,none⟩=some (.func (.func 114) #[.pointer (some ⟨bT,0,none⟩)] #[]):=(World.cell?_setCell_other (((v6.setCell ⟨bH,2,none⟩ (.int .i64 (n1:Int))).setCell ⟨bH,3,none⟩ (.int .i64 (n2:Int))).setCell ⟨bH,4,none⟩ (.int .i64 (n3:Int))) ⟨bH,5,none⟩ ⟨bF,0,none⟩ _ (by intro e;injection e with e;exact nHF e)).trans s3;refine Or.inl ?_;clear c3 f3;refine wpAnyH_done (by kernel_rfl) ?_ _;have hk4:Keep v6 ((((v6.setCell ⟨bH,2,none⟩ (.int .i64 (n1:Int))).setCell ⟨bH,3,none⟩ (.int .i64 (n2:Int))).setCell ⟨bH,4,none⟩ (.int .i64 (n3:Int))).setCell ⟨bH,5,none⟩ (.int .i64 (n4:Int))) [bH]:=((((Keep.refl v6 _).set ⟨bH,2,none⟩ (.inl (by simp)) _).set ⟨bH,3,none⟩ (.inl (by simp)) _).set ⟨bH,4,none⟩ (.inl (by simp)) _).set ⟨bH,5,none⟩ (.inl (by simp)) _;have HP7:=Lib.hid (show Pn w ((((v6.setCell ⟨bH,2,none⟩ (.int .i64 (n1:Int))).setCell ⟨bH,3,none⟩ (.int .i64 (n2:Int))).setCell ⟨bH,4,none⟩ (.int .i64 (n3:Int))).setCell ⟨bH,5,none⟩ (.int .i64 (n4:Int))) bV bT bH bF s b' 1 ([]++[n1]++[n2]++[n3]++[n4]) q4 n1 n2 n3 n4 0 m.toNat ⟨#[]⟩ from⟨hA4.out.1.put hk4 b4,hA4.out.2.1.trans (hk4.more (by simp)),hA4.out.2.2⟩);clear b0 b1 b2 b3 b4 s1 s2 s3 hA4 hS1 hS2 hS3 hS4 hk4;have hcF:=HP7.out.1.vF.cell;generalize ((((v6.setCell ⟨bH,2,none⟩ (.int .i64 (n1:Int))).setCell ⟨bH,3,none⟩ (.int .i64 (n2:Int))).setCell ⟨bH,4,none⟩ (.int .i64 (n3:Int))).setCell ⟨bH,5,none⟩ (.int .i64 (n4:Int)))=w7 at *
  go_wp2_with fail
  refine(Pn.num m HE.out HP7.out hs).mono ?_;rintro e8 w8 (⟨n5,q5,hn5,rfl,hS8,hA8⟩|⟨hkx,hnx,q,rfl⟩)
  rotate_left
  ·exact⟨rfl,hkx,.inr ⟨hnx,q,rfl⟩⟩
  have hcV8:=hA8.out.1.vV.cell;have b8:=hA8.out.1.hb;have c5:=b8.c5;have c6:=b8.c6;have f6:=b8.fz 6;have B8:=Lib.hid b8;clear b8 hS8 hcF HP7;by_cases h1:n5<=1000000000
  ·by_cases h2:n4<=1000000000
   ·have i1:(n5:Int)<=1000000000:=by omega
    have i2:(n4:Int)<=1000000000:=by omega
    have hlo:((n4:Int)+(n5:Int))=((lateOf n4 n5:Nat):Int):=by unfold lateOf;rw[if_pos (by omega)];push_cast;rfl
    have HLO:=Lib.hid hlo;have hkA:Keep w8 ((w8.setCell ⟨bH,6,none⟩ (.int .i64 9223372036854775807)).setCell ⟨bH,6,none⟩ (.int .i64 ((n4:Int)+(n5:Int)))) [bH]:=((Keep.refl w8 _).set ⟨bH,6,none⟩ (.inl (by simp)) _).set ⟨bH,6,none⟩ (.inl (by simp)) _;have HA:=Lib.hid (And.intro (hA8.out.1.put hkA ((B8.out.set6 9223372036854775807).set6 ((n4:Int)+(n5:Int)))) (And.intro (hA8.out.2.1.trans (hkA.more (L':=[bT,bH]) (by simp))) ((B8.out.set6 9223372036854775807).set6 ((n4:Int)+(n5:Int)))));have HR:=Lib.hid (rest_any ((w8.setCell ⟨bH,6,none⟩ (.int .i64 9223372036854775807)).setCell ⟨bH,6,none⟩ (.int .i64 ((n4:Int)+(n5:Int)))) bT q5 s HA.out.1.ta hs hA8.out.2.2.1);have hff:fin 5 [] b'=(0,[n1,n2,n3,n4,n5],s.data.toList.drop q5):=hA8.out.2.2.2;have HFF:=Lib.hid hff;have hcVA:((w8.setCell ⟨bH,6,none⟩ (.int .i64 9223372036854775807)).setCell ⟨bH,6,none⟩ (.int .i64 ((n4:Int)+(n5:Int)))).cell? ⟨bV,0,none⟩=some (.pointer (some ⟨bT,0,none⟩)):=HA.out.1.vV.cell;clear hlo hkA hA8 hff;go_wp2_with fail
    refine HR.out.mono ?_;rintro e9 w9 ⟨rfl,hfr⟩;have hk9:Keep ((w8.setCell ⟨bH,6,none⟩ (.int .i64 9223372036854775807)).setCell ⟨bH,6,none⟩ (.int .i64 ((n4:Int)+(n5:Int)))) w9 [bT]:=Keep.of_frm hfr (by simp);have b9:=HA.out.2.2.keep hk9 (by simpa using Ne.symm nTH);have c8:=b9.c8;have f8:=b9.fz 8;have HK9:=Lib.hid (HA.out.2.1.trans (hk9.more (by simp)));obtain⟨r,hr⟩:∃r:ByteArray,r=⟨(s.data.toList.drop q5).toArray⟩:=⟨_,rfl⟩
    have hr2:r.data.toList=s.data.toList.drop q5:=by rw[hr]
    rw[<-hr];rw[<-hr2] at HFF;have HB9:=Lib.hid (b9.set8 r);rw[HLO.out] at HB9;clear hr hr2 hfr hk9 b9 HR HA HLO c5 c6 f6 hcVA;go_wp2_with fail
    go_end0
    exact⟨HK9.out.set ⟨bH,8,none⟩ (.inl (by simp)) _,.inl ⟨m,b',n1,n2,n3,n4,n5,r,HE.out,HFF.out,rfl,HB9.out⟩⟩
   ·have i1:(n5:Int)<=1000000000:=by omega
    have i2: ¬ (n4:Int)<=1000000000:=by omega
    have hlo:9223372036854775807=((lateOf n4 n5:Nat):Int):=by unfold lateOf;rw[if_neg (by omega)];rfl
    have HLO:=Lib.hid hlo;have hkA:Keep w8 (w8.setCell ⟨bH,6,none⟩ (.int .i64 9223372036854775807)) [bH]:=(Keep.refl w8 _).set ⟨bH,6,none⟩ (.inl (by simp)) _;have HA:=Lib.hid (And.intro (hA8.out.1.put hkA (B8.out.set6 9223372036854775807)) (And.intro (hA8.out.2.1.trans (hkA.more (L':=[bT,bH]) (by simp))) (B8.out.set6 9223372036854775807)));have HR:=Lib.hid (rest_any (w8.setCell ⟨bH,6,none⟩ (.int .i64 9223372036854775807)) bT q5 s HA.out.1.ta hs hA8.out.2.2.1);have hff:fin 5 [] b'=(0,[n1,n2,n3,n4,n5],s.data.toList.drop q5):=hA8.out.2.2.2;have HFF:=Lib.hid hff;have hcVA:(w8.setCell ⟨bH,6,none⟩ (.int .i64 9223372036854775807)).cell? ⟨bV,0,none⟩=some (.pointer (some ⟨bT,0,none⟩)):=HA.out.1.vV.cell;clear hlo hkA hA8 hff;go_wp2_with fail
    refine HR.out.mono ?_;rintro e9 w9 ⟨rfl,hfr⟩;have hk9:Keep (w8.setCell ⟨bH,6,none⟩ (.int .i64 9223372036854775807)) w9 [bT]:=Keep.of_frm hfr (by simp);have b9:=HA.out.2.2.keep hk9 (by simpa using Ne.symm nTH);have c8:=b9.c8;have f8:=b9.fz 8;have HK9:=Lib.hid (HA.out.2.1.trans (hk9.more (by simp)));obtain⟨r,hr⟩:∃r:ByteArray,r=⟨(s.data.toList.drop q5).toArray⟩:=⟨_,rfl⟩
    have hr2:r.data.toList=s.data.toList.drop q5:=by rw[hr]
    rw[<-hr];rw[<-hr2] at HFF;have HB9:=Lib.hid (b9.set8 r);rw[HLO.out] at HB9;clear hr hr2 hfr hk9 b9 HR HA HLO c5 c6 f6 hcVA;go_wp2_with fail
    go_end0
    exact⟨HK9.out.set ⟨bH,8,none⟩ (.inl (by simp)) _,.inl ⟨m,b',n1,n2,n3,n4,n5,r,HE.out,HFF.out,rfl,HB9.out⟩⟩
  ·have i1: ¬ (n5:Int)<=1000000000:=by omega
   have hlo:9223372036854775807=((lateOf n4 n5:Nat):Int):=by unfold lateOf;rw[if_neg (by omega)];rfl
   have HLO:=Lib.hid hlo;have hkA:Keep w8 (w8.setCell ⟨bH,6,none⟩ (.int .i64 9223372036854775807)) [bH]:=(Keep.refl w8 _).set ⟨bH,6,none⟩ (.inl (by simp)) _;have HA:=Lib.hid (And.intro (hA8.out.1.put hkA (B8.out.set6 9223372036854775807)) (And.intro (hA8.out.2.1.trans (hkA.more (L':=[bT,bH]) (by simp))) (B8.out.set6 9223372036854775807)));have HR:=Lib.hid (rest_any (w8.setCell ⟨bH,6,none⟩ (.int .i64 9223372036854775807)) bT q5 s HA.out.1.ta hs hA8.out.2.2.1);have hff:fin 5 [] b'=(0,[n1,n2,n3,n4,n5],s.data.toList.drop q5):=hA8.out.2.2.2;have HFF:=Lib.hid hff;have hcVA:(w8.setCell ⟨bH,6,none⟩ (.int .i64 9223372036854775807)).cell? ⟨bV,0,none⟩=some (.pointer (some ⟨bT,0,none⟩)):=HA.out.1.vV.cell;clear hlo hkA hA8 hff;go_wp2_with fail
   refine HR.out.mono ?_;rintro e9 w9 ⟨rfl,hfr⟩;have hk9:Keep (w8.setCell ⟨bH,6,none⟩ (.int .i64 9223372036854775807)) w9 [bT]:=Keep.of_frm hfr (by simp);have b9:=HA.out.2.2.keep hk9 (by simpa using Ne.symm nTH);have c8:=b9.c8;have f8:=b9.fz 8;have HK9:=Lib.hid (HA.out.2.1.trans (hk9.more (by simp)));obtain⟨r,hr⟩:∃r:ByteArray,r=⟨(s.data.toList.drop q5).toArray⟩:=⟨_,rfl⟩
   have hr2:r.data.toList=s.data.toList.drop q5:=by rw[hr]
   rw[<-hr];rw[<-hr2] at HFF;have HB9:=Lib.hid (b9.set8 r);rw[HLO.out] at HB9;clear hr hr2 hfr hk9 b9 HR HA HLO c5 c6 f6 hcVA;go_wp2_with fail
   go_end0
   exact⟨HK9.out.set ⟨bH,8,none⟩ (.inl (by simp)) _,.inl ⟨m,b',n1,n2,n3,n4,n5,r,HE.out,HFF.out,rfl,HB9.out⟩⟩
end Bk
end Go.Proofs.YtlnbjikooadmoaaGreat
namespace Go.Proofs.YtlnbjikooadmoaaGreat
namespace Bk
open Go.RowKit
def magg (at_ size raw count first early late:Int):Value:=.agg #[.int .i64 at_,.int .i64 size,.int .i64 raw,.int .i64 count,.int .i64 first,.int .i64 early,.int .i64 late]
def Mb (w:World) (b:Nat) (at_ size raw count first early late:Int):Prop :=
 w.heap[b]? =some (.cells #[.int .i64 at_,.int .i64 size,.int .i64 raw,.int .i64 count,.int .i64 first,.int .i64 early,.int .i64 late] 39 (0,0))
section
variable {w w':World} {b:Nat} {at_ size raw count first early late:Int} (h:Mb w b at_ size raw count first early late)
include h
theorem Mb.lt:b<w.heap.size:=(Array.getElem?_eq_some_iff.1 h).1
theorem Mb.c0:w.cell? ⟨b,0,none⟩=some (.int .i64 at_):=by rw[cell_of_row w b 0 _ _ (0,0) h];rfl
theorem Mb.c1:w.cell? ⟨b,1,none⟩=some (.int .i64 size):=by rw[cell_of_row w b 1 _ _ (0,0) h];rfl
theorem Mb.c2:w.cell? ⟨b,2,none⟩=some (.int .i64 raw):=by rw[cell_of_row w b 2 _ _ (0,0) h];rfl
theorem Mb.c3:w.cell? ⟨b,3,none⟩=some (.int .i64 count):=by rw[cell_of_row w b 3 _ _ (0,0) h];rfl
theorem Mb.c4:w.cell? ⟨b,4,none⟩=some (.int .i64 first):=by rw[cell_of_row w b 4 _ _ (0,0) h];rfl
theorem Mb.c5:w.cell? ⟨b,5,none⟩=some (.int .i64 early):=by rw[cell_of_row w b 5 _ _ (0,0) h];rfl
theorem Mb.c6:w.cell? ⟨b,6,none⟩=some (.int .i64 late):=by rw[cell_of_row w b 6 _ _ (0,0) h];rfl
theorem Mb.fz (j:Nat):w.frozen? ⟨b,j,none⟩=false:=frozen_of_row w b j _ _ h
theorem Mb.below {B:Nat} (hk:Below B w w') (hb:b<B):Mb w' b at_ size raw count first early late:=(hk.block b hb).trans h
theorem Mb.set0 (x:Int):Mb (w.setCell ⟨b,0,none⟩ (.int .i64 x)) b x size raw count first early late:=by
 unfold Mb at *;simp[World.setCell,Array.getElem?_modify,h]
theorem Mb.set1 (x:Int):Mb (w.setCell ⟨b,1,none⟩ (.int .i64 x)) b at_ x raw count first early late:=by
 unfold Mb at *;simp[World.setCell,Array.getElem?_modify,h]
theorem Mb.set2 (x:Int):Mb (w.setCell ⟨b,2,none⟩ (.int .i64 x)) b at_ size x count first early late:=by
 unfold Mb at *;simp[World.setCell,Array.getElem?_modify,h]
theorem Mb.set3 (x:Int):Mb (w.setCell ⟨b,3,none⟩ (.int .i64 x)) b at_ size raw x first early late:=by
 unfold Mb at *;simp[World.setCell,Array.getElem?_modify,h]
theorem Mb.set4 (x:Int):Mb (w.setCell ⟨b,4,none⟩ (.int .i64 x)) b at_ size raw count x early late:=by
 unfold Mb at *;simp[World.setCell,Array.getElem?_modify,h]
theorem Mb.set5 (x:Int):Mb (w.setCell ⟨b,5,none⟩ (.int .i64 x)) b at_ size raw count first x late:=by
 unfold Mb at *;simp[World.setCell,Array.getElem?_modify,h]
theorem Mb.set6 (x:Int):Mb (w.setCell ⟨b,6,none⟩ (.int .i64 x)) b at_ size raw count first early x:=by
 unfold Mb at *;simp[World.setCell,Array.getElem?_modify,h]
theorem Mb.fill (a s r c f e l:Int) :
  Mb (((((((w.setCell ⟨b,0,none⟩ (.int .i64 a)).setCell ⟨b,1,none⟩ (.int .i64 s)).setCell ⟨b,2,none⟩ (.int .i64 r)).setCell ⟨b,3,none⟩ (.int .i64 c)).setCell ⟨b,4,none⟩ (.int .i64 f)).setCell ⟨b,5,none⟩ (.int .i64 e)).setCell ⟨b,6,none⟩ (.int .i64 l)) b a s r c f e l :=
 ((((((h.set0 a).set1 s).set2 r).set3 c).set4 f).set5 e).set6 l
end
theorem Mb.new (w:World):Mb (w.alloc (.cells #[.int .i64 0,.int .i64 0,.int .i64 0,.int .i64 0,.int .i64 0,.int .i64 0,.int .i64 0] 39)) w.heap.size 0 0 0 0 0 0 0:=heap_alloc_new w _
theorem below_put {w w':World} {b B:Nat} (h:Below B w w') (hb:B<=b) (k:Nat) (v:Value):Below B w (w'.setCell ⟨b,k,none⟩ v):=h.setCell (p:=⟨b,k,none⟩) hb v
theorem below_fill7 {w w':World} {b B:Nat} {v0 v1 v2 v3 v4 v5 v6:Value} (h:Below B w w') (hb:B<=b):Below B w (((((((w'.setCell ⟨b,0,none⟩ v0).setCell ⟨b,1,none⟩ v1).setCell ⟨b,2,none⟩ v2).setCell ⟨b,3,none⟩ v3).setCell ⟨b,4,none⟩ v4).setCell ⟨b,5,none⟩ v5).setCell ⟨b,6,none⟩ v6) :=
 below_put (below_put (below_put (below_put (below_put (below_put (below_put h hb 0 v0) hb 1 v1) hb 2 v2) hb 3 v3) hb 4 v4) hb 5 v5) hb 6 v6
end Bk
end Go.Proofs.YtlnbjikooadmoaaGreat
namespace Go.Proofs.YtlnbjikooadmoaaGreat
namespace Bk
open Go.RowKit Tk Vi Sq Rd
open Bt (Frm)
def hagg (raw count first early late md:Int) (bd:ByteArray):Value:=.agg #[.int .i64 0,.int .i64 0,.int .i64 raw,.int .i64 count,.int .i64 first,.int .i64 early,.int .i64 late,.int .i64 md,.string bd]
theorem mayH_iff (md raw count first early late:Nat):mayH md raw count first early late=true↔md<=1/\raw<=20000/\1<=count/\count<=raw/\1<=first/\first+count<=1000000001/\early<=1000000000/\late<=1000000000:=by simp[mayH]
theorem mayH_no (md raw count first early late:Nat) (h: ¬ (md<=1/\raw<=20000/\1<=count/\count<=raw/\1<=first/\first+count<=1000000001/\early<=1000000000/\late<=1000000000)):mayH md raw count first early late=false:=by
 rw[<-Bool.not_eq_true,mayH_iff];exact h
theorem mayH_yes (md raw count first early late:Nat) (h:md<=1/\raw<=20000/\1<=count/\count<=raw/\1<=first/\first+count<=1000000001/\early<=1000000000/\late<=1000000000):mayH md raw count first early late=true:=(mayH_iff ..).2 h
set_option maxHeartbeats 3200000 in
theorem may0 (raw count first early late:Nat) (bd:ByteArray) (w:World) :
  Calls Tryz.prog 119 #[hagg raw count first early late 0 bd] w fun e w'=>e=.returned (.bool (mayH 0 raw count first early late))/\Below w.heap.size w w':=by
 unfold hagg;by_cases h0:20000<raw
 ·rw[mayH_no _ _ _ _ _ _ (by omega)]
  have a1:(20000:Int)<(raw:Int):=by omega
  go_enter Tryz.func119, Tryz.ntmps119
  go_wp2_with fail
  go_ret
  exact⟨rfl,ext_alloc w _⟩
 have a1: ¬ (20000:Int)<(raw:Int):=by omega
 by_cases h1:count<1
 ·rw[mayH_no _ _ _ _ _ _ (by omega)]
  have a2:(count:Int)<1:=by omega
  go_enter Tryz.func119, Tryz.ntmps119
  go_wp2_with fail
  go_ret
  exact⟨rfl,ext_alloc w _⟩
 have a2: ¬ (count:Int)<1:=by omega
 by_cases h2:raw<count
 ·rw[mayH_no _ _ _ _ _ _ (by omega)]
  have a3:(raw:Int)<(count:Int):=by omega
  go_enter Tryz.func119, Tryz.ntmps119
  go_wp2_with fail
  go_ret
  exact⟨rfl,ext_alloc w _⟩
 have a3: ¬ (raw:Int)<(count:Int):=by omega
 by_cases h3:1<=first
 rotate_left
 ·rw[mayH_no _ _ _ _ _ _ (by omega)]
  have a4: ¬ (1:Int)<=(first:Int):=by omega
  go_enter Tryz.func119, Tryz.ntmps119
  go_wp2_with fail
  go_ret
  exact⟨rfl,ext_alloc w _⟩
 have a4:(1:Int)<=(first:Int):=by omega
 by_cases h4:first+count<=1000000001
 rotate_left
 ·rw[mayH_no _ _ _ _ _ _ (by omega)]
  have a5: ¬ (first:Int)<=1000000001-(count:Int):=by omega
  go_enter Tryz.func119, Tryz.ntmps119
  go_wp2_with fail
  go_ret
  exact⟨rfl,ext_alloc w _⟩
 have a5:(first:Int)<=1000000001-(count:Int):=by omega
 by_cases h5:early<=1000000000
 rotate_left
 ·rw[mayH_no _ _ _ _ _ _ (by omega)]
  have a6: ¬ (early:Int)<=1000000000:=by omega
  go_enter Tryz.func119, Tryz.ntmps119
  go_wp2_with fail
  go_ret
  exact⟨rfl,ext_alloc w _⟩
 have a6:(early:Int)<=1000000000:=by omega
 by_cases h6:late<=1000000000
 rotate_left
 ·rw[mayH_no _ _ _ _ _ _ (by omega)]
  have a7: ¬ (late:Int)<=1000000000:=by omega
  go_enter Tryz.func119, Tryz.ntmps119
  go_wp2_with fail
  go_ret
  exact⟨rfl,ext_alloc w _⟩
 have a7:(late:Int)<=1000000000:=by omega
 rw[mayH_yes _ _ _ _ _ _ (by omega)]
 go_enter Tryz.func119, Tryz.ntmps119
 go_wp2_with fail
 go_ret
 exact⟨rfl,ext_alloc w _⟩
set_option maxHeartbeats 3200000 in
theorem may1 (raw count first early late:Nat) (bd:ByteArray) (w:World) :
  Calls Tryz.prog 119 #[hagg raw count first early late 1 bd] w fun e w'=>e=.returned (.bool (mayH 1 raw count first early late))/\Below w.heap.size w w':=by
 unfold hagg;by_cases h0:20000<raw
 ·rw[mayH_no _ _ _ _ _ _ (by omega)]
  have a1:(20000:Int)<(raw:Int):=by omega
  go_enter Tryz.func119, Tryz.ntmps119
  go_wp2_with fail
  go_ret
  exact⟨rfl,ext_alloc w _⟩
 have a1: ¬ (20000:Int)<(raw:Int):=by omega
 by_cases h1:count<1
 ·rw[mayH_no _ _ _ _ _ _ (by omega)]
  have a2:(count:Int)<1:=by omega
  go_enter Tryz.func119, Tryz.ntmps119
  go_wp2_with fail
  go_ret
  exact⟨rfl,ext_alloc w _⟩
 have a2: ¬ (count:Int)<1:=by omega
 by_cases h2:raw<count
 ·rw[mayH_no _ _ _ _ _ _ (by omega)]
  have a3:(raw:Int)<(count:Int):=by omega
  go_enter Tryz.func119, Tryz.ntmps119
  go_wp2_with fail
  go_ret
  exact⟨rfl,ext_alloc w _⟩
 have a3: ¬ (raw:Int)<(count:Int):=by omega
 by_cases h3:1<=first
 rotate_left
 ·rw[mayH_no _ _ _ _ _ _ (by omega)]
  have a4: ¬ (1:Int)<=(first:Int):=by omega
  go_enter Tryz.func119, Tryz.ntmps119
  go_wp2_with fail
  go_ret
  exact⟨rfl,ext_alloc w _⟩
 have a4:(1:Int)<=(first:Int):=by omega
 by_cases h4:first+count<=1000000001
 rotate_left
 ·rw[mayH_no _ _ _ _ _ _ (by omega)]
  have a5: ¬ (first:Int)<=1000000001-(count:Int):=by omega
  go_enter Tryz.func119, Tryz.ntmps119
  go_wp2_with fail
  go_ret
  exact⟨rfl,ext_alloc w _⟩
 have a5:(first:Int)<=1000000001-(count:Int):=by omega
 by_cases h5:early<=1000000000
 rotate_left
 ·rw[mayH_no _ _ _ _ _ _ (by omega)]
  have a6: ¬ (early:Int)<=1000000000:=by omega
  go_enter Tryz.func119, Tryz.ntmps119
  go_wp2_with fail
  go_ret
  exact⟨rfl,ext_alloc w _⟩
 have a6:(early:Int)<=1000000000:=by omega
 by_cases h6:late<=1000000000
 rotate_left
 ·rw[mayH_no _ _ _ _ _ _ (by omega)]
  have a7: ¬ (late:Int)<=1000000000:=by omega
  go_enter Tryz.func119, Tryz.ntmps119
  go_wp2_with fail
  go_ret
  exact⟨rfl,ext_alloc w _⟩
 have a7:(late:Int)<=1000000000:=by omega
 rw[mayH_yes _ _ _ _ _ _ (by omega)]
 go_enter Tryz.func119, Tryz.ntmps119
 go_wp2_with fail
 go_ret
 exact⟨rfl,ext_alloc w _⟩
set_option maxHeartbeats 3200000 in
theorem may_any (raw count first early late md:Nat) (bd:ByteArray) (w:World) :
  Calls Tryz.prog 119 #[hagg raw count first early late md bd] w fun e w'=>e=.returned (.bool (mayH md raw count first early late))/\Below w.heap.size w w':=by
 by_cases hm:md<=1
 ·obtain rfl|rfl:md=0∨md=1:=by omega
  ·exact may0 raw count first early late bd w
  ·exact may1 raw count first early late bd w
 ·rw[mayH_no _ _ _ _ _ _ (by omega)]
  have n0:((md:Int) != 0)=true:=by rw[bne_iff_ne];omega
  have n1:((md:Int) != 1)=true:=by rw[bne_iff_ne];omega
  have n2:((md:Int)==0)=false:=by rw[beq_eq_false_iff_ne];omega
  have n3:((md:Int)==1)=false:=by rw[beq_eq_false_iff_ne];omega
  unfold hagg
  go_enter Tryz.func119, Tryz.ntmps119
  go_wp2_with fail
  go_ret
  exact⟨rfl,ext_alloc w _⟩
theorem peekB_err {b:List UInt8} (h:perr b≠0):peekB b=none:=by
 rcases b with _|⟨m,b⟩
 ·rfl
 ·simp only[perr] at h
  unfold peekB;split
  ·rfl
  ·rename_i m2 b2 he
   injection he with e1 e2
   subst e1 e2;split
   ·rename_i hf;rw[hf] at h;exact absurd rfl h
   ·rfl
theorem peekB_at {b b':List UInt8} {m:UInt8} {n1 n2 n3 n4 n5:Nat} {r:List UInt8} (h:b=m::b') (hf:fin 5 [] b'=(0,[n1,n2,n3,n4,n5],r)) :
  peekB b=if mayH m.toNat n1 n2 n3 n4 (lateOf n4 n5)=true then some (m.toNat,n1,n2,n3,n4,lateOf n4 n5,r) else none:=by
 subst h;simp only[peekB,hf]
theorem perr_ok {b b':List UInt8} {m:UInt8} {ns r} (h:b=m::b') (hf:fin 5 [] b'=(0,ns,r)):perr b=0:=by
 subst h;simp only[perr,hf]
def PcA (s:ByteArray) (bH:Nat) (e:Ending) (w':World):Prop :=
 (∃(m:UInt8) (b':List UInt8) (n1 n2 n3 n4 n5:Nat) (r:ByteArray),s.data.toList=m::b'/\fin 5 [] b'=(0,[n1,n2,n3,n4,n5],r.data.toList)/\e=.returned (.tuple #[.int .i64 0,.int .i64 0])/\Hb w' bH n1 n2 n3 n4 (lateOf n4 n5) m.toNat r) ∨
 (perr s.data.toList≠0/\ ∃q:Int,e=.returned (.tuple #[.int .i64 (perr s.data.toList),.int .i64 q]))
theorem pk_caught (w:World) (bV bT bH bF:Nat) (s:ByteArray) (hV:Vp w bV bT bH bF s 0 0 0 0 0 0 0 ⟨#[]⟩) (hs:s.size<=1000000) :
  Calls Tryz.prog 118 #[.func (.func 115) #[] #[.pointer (some ⟨bV,0,none⟩),.pointer (some ⟨bH,0,none⟩),.pointer (some ⟨bF,0,none⟩)]] w fun e w'=>PcA s bH e w'/\Keep w w' [bT,bH]:=by
 have hl:∀k∈ [bT,bH],k<w.heap.size:=by
  intro k hk;simp at hk
  rcases hk with rfl|rfl
  ·exact hV.ta.lt
  ·exact hV.hb.lt
 have hn:∀k∈ [bT,bH],k∉ [w.heap.size,w.heap.size+1]:=by
  intro k hk hm;have:=hl k hk;simp at hm
  omega
 have hb:=wC_keep w;have hwc:=wC_vars w;have hc:=peek1_any (wC w) bV bT bH bF s (hV.keep (Keep.of_below hb)) hs;have hkk:∀w2 w',Keep (wC w) w2 [bT,bH]->Keep w2 w' [w.heap.size,w.heap.size+1]->Keep w w' [bT,bH]:=by
  intro w2 w' g5 hkp;have hkk:Keep w w2 [bT,bH]:=(Keep.of_below hb).trans (w':=wC w) g5;exact⟨hkp.os.trans hkk.os,hkp.tape.trans hkk.tape,hkp.output.trans hkk.output,Nat.le_trans hkk.size hkp.size,fun k hk hm=>(hkp.blk k (Nat.lt_of_lt_of_le hk hkk.size) (by simp;omega)).trans (hkk.blk k hk hm)⟩
 by_cases he:perr s.data.toList=0
 ·have h:=caughtB_ok w _ (fun w'=>Keep (wC w) w' [bT,bH]/\ ∃(m:UInt8) (b':List UInt8) (n1 n2 n3 n4 n5:Nat) (r:ByteArray),s.data.toList=m::b'/\fin 5 [] b'=(0,[n1,n2,n3,n4,n5],r.data.toList)/\Hb w' bH n1 n2 n3 n4 (lateOf n4 n5) m.toNat r)
   (fun w' hG=>⟨hG.1.var hwc.1 (fun hm=>by have:=hl _ hm;omega),hG.1.var hwc.2 (fun hm=>by have:=hl _ hm;omega)⟩) (hc.mono (by
    rintro e w' ⟨hk,⟨m,b',n1,n2,n3,n4,n5,r,h1,h2,h3,h4⟩|⟨hx,-⟩⟩
    ·exact⟨h3,hk,m,b',n1,n2,n3,n4,n5,r,h1,h2,h4⟩
    ·exact absurd he hx))
  refine h.mono ?_;rintro e w' ⟨rfl,w2,⟨g5,m,b',n1,n2,n3,n4,n5,r,h1,h2,h4⟩,hkp⟩;exact⟨.inl ⟨m,b',n1,n2,n3,n4,n5,r,h1,h2,rfl,h4.keep hkp (hn _ (by simp))⟩,hkk w2 w' g5 hkp⟩
 ·have h:=caughtB_no w _ (perr s.data.toList) (fun w'=>Keep (wC w) w' [bT,bH])
   (fun w' hG=>⟨hG.var hwc.1 (fun hm=>by have:=hl _ hm;omega),hG.var hwc.2 (fun hm=>by have:=hl _ hm;omega)⟩) (hc.mono (by
    rintro e w' ⟨hk,⟨m,b',n1,n2,n3,n4,n5,r,h1,h2,h3,h4⟩|⟨hx,q,hq⟩⟩
    ·exact absurd (perr_ok h1 h2) he
    ·exact⟨⟨q,hq⟩,hk⟩))
  refine h.mono ?_;rintro e w' ⟨⟨p,he'⟩,w2,g5,hkp⟩;exact⟨.inr ⟨he,p,he'⟩,hkk w2 w' g5 hkp⟩
def PeekAns (s:ByteArray) (e:Ending):Prop:=(∃(md raw count first early late:Nat) (r:ByteArray),peekB s.data.toList=some (md,raw,count,first,early,late,r.data.toList)/\e=.returned (.tuple #[hagg raw count first early late md r,.int .i64 0])) ∨
 (peekB s.data.toList=none/\ ∃x,e=.returned (.tuple #[hagg 0 0 0 0 0 0 ⟨#[]⟩,.int .i64 x])/\x≠0)
theorem Hb.fill {w:World} {b:Nat} (h:Hb w b 0 0 0 0 0 0 ⟨#[]⟩) (raw count first early late md:Int) (bd:ByteArray) :
  Hb (((((((((w.setCell ⟨b,0,none⟩ (.int .i64 0)).setCell ⟨b,1,none⟩ (.int .i64 0)).setCell ⟨b,2,none⟩ (.int .i64 raw)).setCell ⟨b,3,none⟩ (.int .i64 count)).setCell ⟨b,4,none⟩ (.int .i64 first)).setCell ⟨b,5,none⟩ (.int .i64 early)).setCell ⟨b,6,none⟩ (.int .i64 late)).setCell ⟨b,7,none⟩ (.int .i64 md)).setCell ⟨b,8,none⟩ (.string bd)) b raw count first early late md bd:=by
 have h0:Hb (w.setCell ⟨b,0,none⟩ (.int .i64 0)) b 0 0 0 0 0 0 ⟨#[]⟩:=by unfold Hb at *;simp[World.setCell,Array.getElem?_modify,h]
 have h1:Hb ((w.setCell ⟨b,0,none⟩ (.int .i64 0)).setCell ⟨b,1,none⟩ (.int .i64 0)) b 0 0 0 0 0 0 ⟨#[]⟩:=by
  generalize w.setCell ⟨b,0,none⟩ (.int .i64 0)=w at *
  unfold Hb at *;simp[World.setCell,Array.getElem?_modify,h0]
 exact((((((h1.set2 raw).set3 count).set4 first).set5 early).set6 late).set7 md).set8 bd
theorem below_fill9 {w w':World} {b B:Nat} {v0 v1 v2 v3 v4 v5 v6 v7 v8:Value} (h:Below B w w') (hb:B<=b):Below B w (((((((((w'.setCell ⟨b,0,none⟩ v0).setCell ⟨b,1,none⟩ v1).setCell ⟨b,2,none⟩ v2).setCell ⟨b,3,none⟩ v3).setCell ⟨b,4,none⟩ v4).setCell ⟨b,5,none⟩ v5).setCell ⟨b,6,none⟩ v6).setCell ⟨b,7,none⟩ v7).setCell ⟨b,8,none⟩ v8):=below_put (below_put (below_put (below_put (below_put (below_put (below_put (below_put (below_put (h) hb 0 v0) hb 1 v1) hb 2 v2) hb 3 v3) hb 4 v4) hb 5 v5) hb 6 v6) hb 7 v7) hb 8 v8
set_option maxHeartbeats 6400000 in
set_option maxRecDepth 100000 in
theorem peek_any (s:ByteArray) (w:World) (hs:s.size<=1000000) :
  Calls Tryz.prog 84 #[.string s] w fun e w'=>PeekAns s e/\Below w.heap.size w w':=by
 have mixed:Tryz.prog.follows .mixedOrders=true:=by kernel_rfl
 go_enter Tryz.func84, Tryz.ntmps84
 go_wp2_with fail
 refine(takeNew_any s _).mono ?_;rintro e1 w1 ⟨rfl,hta,hb1⟩;have e0:(w.alloc (.cells #[.int .i64 0,.int .i64 0,.int .i64 0,.int .i64 0,.int .i64 0,.int .i64 0,.int .i64 0,.int .i64 0,.string ⟨#[]⟩] 138)).heap.size=w.heap.size+1:=by simp
 rw[e0] at hta hb1;have hR1:Hb w1 w.heap.size 0 0 0 0 0 0 ⟨#[]⟩:=(Hb.new w).below hb1 (by omega);have hw1:Below w.heap.size w w1:=((Below.refl _ _).alloc (Nat.le_refl _) _).trans (hb1.mono (by omega));have hsz:w.heap.size+1<w1.heap.size:=hta.lt;have vV:=Var.new w1 177 (.pointer (some ⟨w.heap.size+1,0,none⟩));have vF:=Var.new (w1.alloc (.cells #[.pointer (some ⟨w.heap.size+1,0,none⟩)] 177)) 122 .nilFunc;rw[show(w1.alloc (.cells #[.pointer (some ⟨w.heap.size+1,0,none⟩)] 177)).heap.size=w1.heap.size+1 by simp] at vF;have d1:=store_one (P:=Tryz.prog) (v:=(.func (.func 114) #[.pointer (some ⟨w.heap.size+1,0,none⟩)] #[])) rfl vF.cell vF.frozen;have uV:=vV.alloc (.cells #[(.func (.func 114) #[.pointer (some ⟨w.heap.size+1,0,none⟩)] #[])] 122);have uF:=Var.new (w1.alloc (.cells #[.pointer (some ⟨w.heap.size+1,0,none⟩)] 177)) 122 (.func (.func 114) #[.pointer (some ⟨w.heap.size+1,0,none⟩)] #[]);rw[show(w1.alloc (.cells #[.pointer (some ⟨w.heap.size+1,0,none⟩)] 177)).heap.size=w1.heap.size+1 by simp] at uF;have hsB:((w1.alloc (.cells #[.pointer (some ⟨w.heap.size+1,0,none⟩)] 177)).alloc (.cells #[(.func (.func 114) #[.pointer (some ⟨w.heap.size+1,0,none⟩)] #[])] 122)).heap.size=w1.heap.size+1+1:=by simp
 have uH:=Hb.new ((w1.alloc (.cells #[.pointer (some ⟨w.heap.size+1,0,none⟩)] 177)).alloc (.cells #[(.func (.func 114) #[.pointer (some ⟨w.heap.size+1,0,none⟩)] #[])] 122));rw[hsB] at uH;have hbW:Below w1.heap.size w1 (((w1.alloc (.cells #[.pointer (some ⟨w.heap.size+1,0,none⟩)] 177)).alloc (.cells #[(.func (.func 114) #[.pointer (some ⟨w.heap.size+1,0,none⟩)] #[])] 122)).alloc (.cells #[.int .i64 0,.int .i64 0,.int .i64 0,.int .i64 0,.int .i64 0,.int .i64 0,.int .i64 0,.int .i64 0,.string ⟨#[]⟩] 138)):=(((Below.refl _ _).alloc (Nat.le_refl _) _).alloc (by simp) _).alloc (by rw[hsB];omega) _;have hVp:Vp (((w1.alloc (.cells #[.pointer (some ⟨w.heap.size+1,0,none⟩)] 177)).alloc (.cells #[(.func (.func 114) #[.pointer (some ⟨w.heap.size+1,0,none⟩)] #[])] 122)).alloc (.cells #[.int .i64 0,.int .i64 0,.int .i64 0,.int .i64 0,.int .i64 0,.int .i64 0,.int .i64 0,.int .i64 0,.string ⟨#[]⟩] 138)) w1.heap.size (w.heap.size+1) (w1.heap.size+1+1) (w1.heap.size+1) s 0 0 0 0 0 0 0 ⟨#[]⟩ :=
  ⟨uV.alloc _,(hbW.block _ hsz).trans hta,uF.alloc _,uH,by omega,by omega,by omega,by omega,by omega,by omega⟩
 have HC:=Lib.hid (pk_caught _ _ _ _ _ s hVp hs);have hRW:Hb (((w1.alloc (.cells #[.pointer (some ⟨w.heap.size+1,0,none⟩)] 177)).alloc (.cells #[(.func (.func 114) #[.pointer (some ⟨w.heap.size+1,0,none⟩)] #[])] 122)).alloc (.cells #[.int .i64 0,.int .i64 0,.int .i64 0,.int .i64 0,.int .i64 0,.int .i64 0,.int .i64 0,.int .i64 0,.string ⟨#[]⟩] 138)) w.heap.size 0 0 0 0 0 0 ⟨#[]⟩:=hR1.below hbW (by omega);have HW:=Lib.hid (And.intro (hw1.trans (hbW.mono (by omega))) hRW);have HS:=Lib.hid hsz;have HSB:=Lib.hid hsB;clear e0 hta hb1 hR1 hw1 hsz vV vF uV uF hsB uH hbW hVp hRW;go_wp2_with fail
 clear d1;refine HC.out.mono ?_;rintro e2 w2 ⟨hpc,hk⟩;have hkb:=HW.out.1.trans (hk.below HW.out.1.size (by intro k hk;have:=HS.out;simp at hk;omega));have hR2:=HW.out.2.keep hk (by have:=HS.out;simp;omega);have HK:=Lib.hid (And.intro hkb hR2);have f0:=hR2.fz 0;have f1:=hR2.fz 1;have f2:=hR2.fz 2;have f3:=hR2.fz 3;have f4:=hR2.fz 4;have f5:=hR2.fz 5;have f6:=hR2.fz 6;have f7:=hR2.fz 7;have f8:=hR2.fz 8;have r0:=hR2.c0;have r1:=hR2.c1;have r2:=hR2.c2;have r3:=hR2.c3;have r4:=hR2.c4;have r5:=hR2.c5;have r6:=hR2.c6;have r7:=hR2.c7;have r8:=hR2.c8;clear HC hk hkb hR2 HW HSB;rcases hpc with ⟨m,b',n1,n2,n3,n4,n5,r,h1,h2,rfl,h4⟩|⟨hx,q,rfl⟩
 ·have HM:=Lib.hid (may_any n1 n2 n3 n4 (lateOf n4 n5) m.toNat r w2)
  unfold hagg at HM;have HPB:=Lib.hid (peekB_at h1 h2);have k0:=h4.c0;have k1:=h4.c1;have k2:=h4.c2;have k3:=h4.c3;have k4:=h4.c4;have k5:=h4.c5;have k6:=h4.c6;have k7:=h4.c7;have k8:=h4.c8;have hH:=Lib.hid h4;clear h1 h2 h4;by_cases hm:mayH m.toNat n1 n2 n3 n4 (lateOf n4 n5)=true
  ·rw[if_pos hm] at HPB
   rw[hm] at HM;clear hm;generalize lateOf n4 n5=L at *
   clear f0 r0 f1 r1 f2 r2 f3 r3 f4 r4 f5 r5 f6 r6 f7 r7 f8 r8;go_wp2_with fail
   refine HM.out.mono ?_;rintro e3 w3 ⟨rfl,hb3⟩;have HK3:=Lib.hid (And.intro (HK.out.1.trans (hb3.mono HK.out.1.size)) (HK.out.2.below hb3 HK.out.2.lt));have f0:=HK3.out.2.fz 0;have f1:=HK3.out.2.fz 1;have f2:=HK3.out.2.fz 2;have f3:=HK3.out.2.fz 3;have f4:=HK3.out.2.fz 4;have f5:=HK3.out.2.fz 5;have f6:=HK3.out.2.fz 6;have f7:=HK3.out.2.fz 7;have f8:=HK3.out.2.fz 8;have r0:=HK3.out.2.c0;have r1:=HK3.out.2.c1;have r2:=HK3.out.2.c2;have r3:=HK3.out.2.c3;have r4:=HK3.out.2.c4;have r5:=HK3.out.2.c5;have r6:=HK3.out.2.c6;have r7:=HK3.out.2.c7;have r8:=HK3.out.2.c8;have hh:=hH.out.below hb3 hH.out.lt;clear hb3 HM k0 k1 k2 k3 k4 k5 k6 k7 k8;have k0:=hh.c0;have k1:=hh.c1;have k2:=hh.c2;have k3:=hh.c3;have k4:=hh.c4;have k5:=hh.c5;have k6:=hh.c6;have k7:=hh.c7;have k8:=hh.c8;clear hh;have HF:=Lib.hid (HK3.out.2.fill n1 n2 n3 n4 L m.toNat r);go_wp2_with fail
   have g0:=HF.out.c0;have g1:=HF.out.c1;have g2:=HF.out.c2;have g3:=HF.out.c3;have g4:=HF.out.c4;have g5:=HF.out.c5;have g6:=HF.out.c6;have g7:=HF.out.c7;have g8:=HF.out.c8;refine bodyPost_ret (v:=.tuple #[hagg n1 n2 n3 n4 L m.toNat r,.int .i64 0]) (by simp[results,go_sem,g0,g1,g2,g3,g4,g5,g6,g7,g8,hagg]) rfl ?_;exact⟨.inl ⟨m.toNat,n1,n2,n3,n4,L,r,HPB.out,rfl⟩,below_fill9 HK3.out.1 (Nat.le_refl _)⟩
  ·rw[if_neg hm] at HPB
   rw[Bool.not_eq_true] at hm;rw[hm] at HM;clear hm;generalize lateOf n4 n5=L at *
   clear f0 r0 f1 r1 f2 r2 f3 r3 f4 r4 f5 r5 f6 r6 f7 r7 f8 r8;go_wp2_with fail
   refine HM.out.mono ?_;rintro e3 w3 ⟨rfl,hb3⟩;have HK3:=Lib.hid (And.intro (HK.out.1.trans (hb3.mono HK.out.1.size)) (HK.out.2.below hb3 HK.out.2.lt));have f0:=HK3.out.2.fz 0;have f1:=HK3.out.2.fz 1;have f2:=HK3.out.2.fz 2;have f3:=HK3.out.2.fz 3;have f4:=HK3.out.2.fz 4;have f5:=HK3.out.2.fz 5;have f6:=HK3.out.2.fz 6;have f7:=HK3.out.2.fz 7;have f8:=HK3.out.2.fz 8;have r0:=HK3.out.2.c0;have r1:=HK3.out.2.c1;have r2:=HK3.out.2.c2;have r3:=HK3.out.2.c3;have r4:=HK3.out.2.c4;have r5:=HK3.out.2.c5;have r6:=HK3.out.2.c6;have r7:=HK3.out.2.c7;have r8:=HK3.out.2.c8;clear hb3 HM k0 k1 k2 k3 k4 k5 k6 k7 k8;have HF:=Lib.hid (HK3.out.2.fill 0 0 0 0 0 0 ⟨#[]⟩);go_wp2_with fail
   have g0:=HF.out.c0;have g1:=HF.out.c1;have g2:=HF.out.c2;have g3:=HF.out.c3;have g4:=HF.out.c4;have g5:=HF.out.c5;have g6:=HF.out.c6;have g7:=HF.out.c7;have g8:=HF.out.c8;refine bodyPost_ret (v:=.tuple #[hagg 0 0 0 0 0 0 ⟨#[]⟩,.int .i64 170]) (by simp[results,go_sem,g0,g1,g2,g3,g4,g5,g6,g7,g8,hagg]) rfl ?_;exact⟨.inr ⟨HPB.out,170,rfl,by decide⟩,below_fill9 HK3.out.1 (Nat.le_refl _)⟩
 ·have HP:=Lib.hid (And.intro (peekB_err hx) hx)
  generalize perr s.data.toList=x at *
  have hb1:(x != 0)=true:=by rw[bne_iff_ne];exact hx
  have hb2:(x==0)=false:=by rw[beq_eq_false_iff_ne];exact hx
  have HF:=Lib.hid (HK.out.2.fill 0 0 0 0 0 0 ⟨#[]⟩);go_wp2_with fail
  have g0:=HF.out.c0;have g1:=HF.out.c1;have g2:=HF.out.c2;have g3:=HF.out.c3;have g4:=HF.out.c4;have g5:=HF.out.c5;have g6:=HF.out.c6;have g7:=HF.out.c7;have g8:=HF.out.c8;refine bodyPost_ret (v:=.tuple #[hagg 0 0 0 0 0 0 ⟨#[]⟩,.int .i64 x]) (by simp[results,go_sem,g0,g1,g2,g3,g4,g5,g6,g7,g8,hagg]) rfl ?_;exact⟨.inr ⟨HP.out.1,x,rfl,hx⟩,below_fill9 HK.out.1 (Nat.le_refl _)⟩
end Bk
end Go.Proofs.YtlnbjikooadmoaaGreat
namespace Go.Proofs.YtlnbjikooadmoaaGreat
namespace Bk
open Go.RowKit Tk Vi Sq Rd
def MetaAns (s:ByteArray) (e:Ending):Prop:=(∃(md raw count first early late:Nat) (r:List UInt8),peekB s.data.toList=some (md,raw,count,first,early,late,r)/\e=.returned (.tuple #[magg 0 0 raw count first early late,.int .i64 0])) ∨
 (peekB s.data.toList=none/\ ∃x,e=.returned (.tuple #[magg 0 0 0 0 0 0 0,.int .i64 x])/\x≠0)
set_option maxHeartbeats 6400000 in
set_option maxRecDepth 100000 in
theorem Peek_any (s:ByteArray) (w:World) (hs:s.size<=1000000) :
  Calls Tryz.prog 36 #[.string s] w fun e w'=>MetaAns s e/\Below w.heap.size w w':=by
 have mixed:Tryz.prog.follows .mixedOrders=true:=by kernel_rfl
 have HP:=Lib.hid (fun w=>peek_any s w hs)
 go_enter Tryz.func36, Tryz.ntmps36
 go_wp2_with fail
 refine(HP.out _).mono ?_;rintro e1 w1 ⟨hp,hb1⟩;have hR:=(Mb.new w).below hb1 (by simp);have hB:=(ext_alloc w _).trans (hb1.mono (by simp));have hlt:w.heap.size<w1.heap.size:=by have:=hb1.size;simp at this;omega
 clear HP hb1;rcases hp with ⟨md,raw,count,first,early,late,r,hpk,rfl⟩|⟨hpk,x,rfl,hx⟩
 ·have HPK:=Lib.hid hpk
  have hR2:Mb (w1.alloc (.cells #[.int .i64 0,.int .i64 0,.int .i64 raw,.int .i64 count,.int .i64 first,.int .i64 early,.int .i64 late,.int .i64 md,.string r] 138)) w.heap.size 0 0 0 0 0 0 0:=hR.below (ext_alloc w1 _) hlt;have HB:=Lib.hid (hB.alloc (o:=(.cells #[.int .i64 0,.int .i64 0,.int .i64 raw,.int .i64 count,.int .i64 first,.int .i64 early,.int .i64 late,.int .i64 md,.string r] 138)) (by omega));have HF:=Lib.hid (hR2.fill 0 0 raw count first early late);have r0:=hR2.c0;have r1:=hR2.c1;have r2:=hR2.c2;have r3:=hR2.c3;have r4:=hR2.c4;have r5:=hR2.c5;have r6:=hR2.c6;have f0:=hR2.fz 0;have f1:=hR2.fz 1;have f2:=hR2.fz 2;have f3:=hR2.fz 3;have f4:=hR2.fz 4;have f5:=hR2.fz 5;have f6:=hR2.fz 6;clear hR hB hR2 hpk hlt;unfold hagg;go_wp2_with fail
  have g0:=HF.out.c0;have g1:=HF.out.c1;have g2:=HF.out.c2;have g3:=HF.out.c3;have g4:=HF.out.c4;have g5:=HF.out.c5;have g6:=HF.out.c6;refine bodyPost_ret (v:=.tuple #[magg 0 0 raw count first early late,.int .i64 0]) (by simp[results,go_sem,g0,g1,g2,g3,g4,g5,g6,magg]) rfl ?_;exact⟨.inl ⟨md,raw,count,first,early,late,r.data.toList,HPK.out,rfl⟩,below_fill7 HB.out (Nat.le_refl _)⟩
 ·have HPK:=Lib.hid hpk
  have hR2:Mb (w1.alloc (.cells #[.int .i64 0,.int .i64 0,.int .i64 0,.int .i64 0,.int .i64 0,.int .i64 0,.int .i64 0,.int .i64 0,.string ⟨#[]⟩] 138)) w.heap.size 0 0 0 0 0 0 0:=hR.below (ext_alloc w1 _) hlt;have HB:=Lib.hid (hB.alloc (o:=(.cells #[.int .i64 0,.int .i64 0,.int .i64 0,.int .i64 0,.int .i64 0,.int .i64 0,.int .i64 0,.int .i64 0,.string ⟨#[]⟩] 138)) (by omega));have HF:=Lib.hid (hR2.fill 0 0 0 0 0 0 0);have r0:=hR2.c0;have r1:=hR2.c1;have r2:=hR2.c2;have r3:=hR2.c3;have r4:=hR2.c4;have r5:=hR2.c5;have r6:=hR2.c6;have f0:=hR2.fz 0;have f1:=hR2.fz 1;have f2:=hR2.fz 2;have f3:=hR2.fz 3;have f4:=hR2.fz 4;have f5:=hR2.fz 5;have f6:=hR2.fz 6;clear hR hB hR2 hpk hlt;unfold hagg;go_wp2_with fail
  have g0:=HF.out.c0;have g1:=HF.out.c1;have g2:=HF.out.c2;have g3:=HF.out.c3;have g4:=HF.out.c4;have g5:=HF.out.c5;have g6:=HF.out.c6;refine bodyPost_ret (v:=.tuple #[magg 0 0 0 0 0 0 0,.int .i64 x]) (by simp[results,go_sem,g0,g1,g2,g3,g4,g5,g6,magg]) rfl ?_;exact⟨.inr ⟨HPK.out,x,rfl,hx⟩,below_fill7 HB.out (Nat.le_refl _)⟩
theorem rawB_plain {md raw:Nat} {b:List UInt8} (h:md≠1):rawB md raw b=if b.length≠raw then none else some b:=by
 unfold rawB;rw[if_neg h]
theorem rawB_packed {raw:Nat} {b:List UInt8}:rawB 1 raw b=match unS b with|none=>none|some s=>if s.length≠raw then none else some s:=by
 unfold rawB;first|(rw[if_pos rfl];done)|(rw[if_pos rfl];rcases unS b with _|s<;>rfl)
def RawAns (o:Option (List UInt8)) (e:Ending):Prop:=(∃t:ByteArray,o=some t.data.toList/\e=.returned (.tuple #[.string t,.int .i64 0]))∨(o=none/\ ∃x,e=.returned (.tuple #[.string ⟨#[]⟩,.int .i64 x])/\x≠0)
set_option maxHeartbeats 6400000 in
set_option maxRecDepth 100000 in
theorem raw_any (raw count first early late md:Nat) (bd:ByteArray) (w:World) (hs:bd.size<=1000000) :
  Calls Tryz.prog 125 #[hagg raw count first early late md bd] w fun e w'=>RawAns (rawB md raw bd.data.toList) e/\Below w.heap.size w w':=by
 have mixed:Tryz.prog.follows .mixedOrders=true:=by kernel_rfl
 have hl:bd.data.toList.length=bd.size:=rfl;by_cases hm:md=1
 ·subst hm
  have HU:=Lib.hid (unpack_any bd (w.alloc (.cells #[.int .i64 0,.int .i64 0,.int .i64 (raw:Int),.int .i64 (count:Int),.int .i64 (first:Int),.int .i64 (early:Int),.int .i64 (late:Int),.int .i64 1,.string bd] 138)) hs);obtain⟨R,hR⟩:∃R,R=rawB 1 raw bd.data.toList:=⟨_,rfl⟩
  rw[<-hR];rw[rawB_packed] at hR;have HR:=Lib.hid hR;have cc:(w.alloc (.cells #[.int .i64 0,.int .i64 0,.int .i64 (raw:Int),.int .i64 (count:Int),.int .i64 (first:Int),.int .i64 (early:Int),.int .i64 (late:Int),.int .i64 1,.string bd] 138)).cell? ⟨w.heap.size,2,none⟩=some (.int .i64 (raw:Int)):=by rw[World.cell?_alloc_new];rfl
  have HC:=Lib.hid cc;have HB0:=Lib.hid (ext_alloc w (.cells #[.int .i64 0,.int .i64 0,.int .i64 (raw:Int),.int .i64 (count:Int),.int .i64 (first:Int),.int .i64 (early:Int),.int .i64 (late:Int),.int .i64 1,.string bd] 138));clear hR hl cc;unfold hagg
  go_enter Tryz.func125, Tryz.ntmps125
  go_wp2_with fail
  refine HU.out.mono ?_;rintro e1 w1 ⟨hc,hb1⟩;have c2:=(hb1.cell (p:=⟨w.heap.size,2,none⟩) (by simp)).trans HC.out;have HB:=Lib.hid (HB0.out.trans (hb1.mono (by simp)));clear hb1 HU HC HB0;rcases hc with ⟨t,ht,rfl⟩|⟨ht,x,rfl,hx,-⟩
  ·have hR2:R=if t.length≠raw then none else some t:=by rw[HR.out,ht]
   obtain⟨sb,hsb⟩:∃sb:ByteArray,sb=⟨t.toArray⟩:=⟨_,rfl⟩
   have hsz:sb.size=t.length:=by rw[hsb];simp[ByteArray.size]
   have hst:sb.data.toList=t:=by rw[hsb]
   rw[<-hsb];rw[<-hsz,<-hst] at hR2;clear hsb hsz hst ht HR;by_cases hn:sb.size=raw
   ·rw[if_neg (by simpa using hn)] at hR2
    have HR2:=Lib.hid hR2;clear hR2;subst hn;go_wp2_with fail
    go_ret2
    exact⟨.inl ⟨sb,HR2.out,rfl⟩,HB.out⟩
   ·rw[if_pos hn] at hR2
    have HR2:=Lib.hid hR2;have hb1:((sb.size:Int) != (raw:Int))=true:=by rw[bne_iff_ne];omega
    have hb2:((sb.size:Int)==(raw:Int))=false:=by rw[beq_eq_false_iff_ne];omega
    have hb3:(sb.size==raw)=false:=by rw[beq_eq_false_iff_ne];omega
    have hb4:(sb.size != raw)=true:=by rw[bne_iff_ne];omega
    clear hR2;go_wp2_with fail
    go_ret2
    exact⟨.inr ⟨HR2.out,5,rfl,by decide⟩,HB.out⟩
  ·have hR2:R=none:=by rw[HR.out,ht]
   have HR2:=Lib.hid hR2;have hb1:(x != 0)=true:=by rw[bne_iff_ne];exact hx
   have hb2:(x==0)=false:=by rw[beq_eq_false_iff_ne];exact hx
   clear hR2 ht HR;go_wp2_with fail
   go_ret2
   exact⟨.inr ⟨HR2.out,x,rfl,hx⟩,HB.out⟩
 ·rw[rawB_plain hm]
  have hb1:((md:Int)==1)=false:=by rw[beq_eq_false_iff_ne];omega
  have hb2:((md:Int) != 1)=true:=by rw[bne_iff_ne];omega
  clear hm;by_cases hn:bd.size=raw
  ·rw[if_neg (by rw[hl];simpa using hn)]
   subst hn;clear hl;unfold hagg
   go_enter Tryz.func125, Tryz.ntmps125
   go_wp2_with fail
   go_ret2
   exact⟨.inl ⟨bd,rfl,rfl⟩,ext_alloc w _⟩
  ·rw[if_pos (by rw[hl];exact hn)]
   have hb3:((bd.size:Int) != (raw:Int))=true:=by rw[bne_iff_ne];omega
   have hb4:((bd.size:Int)==(raw:Int))=false:=by rw[beq_eq_false_iff_ne];omega
   have hb5:(bd.size==raw)=false:=by rw[beq_eq_false_iff_ne];omega
   have hb6:(bd.size != raw)=true:=by rw[bne_iff_ne];omega
   clear hl hn;unfold hagg
   go_enter Tryz.func125, Tryz.ntmps125
   go_wp2_with fail
   go_ret2
   exact⟨.inr ⟨rfl,5,rfl,by decide⟩,ext_alloc w _⟩
end Bk
end Go.Proofs.YtlnbjikooadmoaaGreat
namespace Go.Proofs.YtlnbjikooadmoaaGreat
namespace Rd
open Go.RowKit
def Own3 (w:World) (B:Nat) (v:Value) (l:List (Int×Int×ByteArray)):Prop:=w.ownsRow B 31 3 v l.length (fl3 l)
theorem rec_info:(Tryz.prog.info? 31).map (fun i=>(i.zero,i.size,i.bytes))=some (some (.agg #[.int .i64 0,.int .i64 0,.string ⟨#[]⟩]),3,32):=by kernel_rfl
theorem fl3_one (l:List (Int×Int×ByteArray)):∀u∈fl3 l,u.oneCell'=true:=by
 induction l with
 |nil=>simp[fl3]
 |cons x l ih =>
  intro u hu;rw[fl3_cons] at hu;simp only[List.mem_cons] at hu;rcases hu with rfl|rfl|rfl|hu
  ·rfl
  ·rfl
  ·rfl
  ·exact ih u hu
section
variable {ops:Array Oper} {rest:List Oper} {o:Oper} {a:Act} {Q:Exit->Act->World->Prop}
theorem append3 {s x:Operand} {B:Nat} {v:Value} {l:List (Int×Int×ByteArray)} {w0:World} {y z:Int} {d:ByteArray} (hown:Own3 w0 B v l) (hl:l.length<=1099511627776) (hB:B<=w0.heap.size)
  (h:∀A' n' c' w',Hid (n'=l.length+1)->Own3 w' B (.slice A' n' c') (l++[(y,z,d)])->Below B w0 w'->wpList Tryz.prog ops Q rest (a.put o.dst (.slice A' n' c')) w')
  (hgd:o.guard=none:=by exact rfl) (ho:o.op=.call { callee:=.builtin .append,args:=#[s,x],argTypes:=#[22,22] }:=by exact rfl)
  (hs:a.eval s=v:=by exact rfl) (hx:a.eval x=.slice (some ⟨w0.heap.size,0,none⟩) 1 1:=by exact rfl) :
  wpList Tryz.prog ops Q (o::rest) a (w0.alloc (.cells #[.int .i64 y,.int .i64 z,.string d] 31)):=by
 obtain⟨i0,hi,hz0,hz1,hz2⟩:=info_parts rec_info;refine wpList_append_own_at _ hgd s x 22 ho B 31 i0 (.agg #[.int .i64 0,.int .i64 0,.string ⟨#[]⟩]) 3 32 Tryz.underlying22 hi hz0 hz1 hz2 rfl (by omega) v l.length (fl3 l) hs (hown.alloc _)
  ⟨w0.heap.size,0,none⟩ 1 1 [.int .i64 y,.int .i64 z,.string d] hx rfl ?_ (by intro u hu;simp at hu;rcases hu with rfl|rfl|rfl<;>rfl) (by simp only[maxLen];omega) (by omega) (by simp;omega) ?_
 ·intro j u hu
  rw[Addr.add_lit,Nat.zero_add,World.cell?_alloc_new];simpa using hu
 intro v' w' hown' hg _ hat;have hg0:w0.grownBy w' v.ownBlock:=(World.grownBy_alloc w0 _ v.ownBlock).trans hg;have hlt:=World.ownsRow.lt hown;obtain⟨A',c',rfl,_,_⟩:=own_slice hown';refine h A' _ c' w' rfl ?_ ((Below.refl _ _).grown hg0 hB (fun k hk=>(hlt k hk).1));unfold Own3;rw[List.length_append,fl3_append];exact hown'
end
section
variable {w w':World} {B C:Nat} {v:Value} {l:List (Int×Int×ByteArray)}
theorem Own3.below (h:Own3 w B v l) (hb:Below C w w') (hC:w.heap.size<=C):Own3 w' B v l:=own_below h hb hC
theorem Own3.lower (h:Own3 w B v l) (hC:C<=B):Own3 w C v l:=own_lower h hC
theorem Own3.rd (h:Own3 w B v l):∃A c,v=.slice A l.length c/\l.length<=c/\c<=maxLen/\Rd w w.heap.size 3 A l.length (fl3 l):=by
 have h0:=h;obtain⟨A,c,rfl,h1,h2⟩:=own_slice h0;exact⟨A,c,rfl,h1,h2,Rd.of_own h⟩
theorem own3_nil (w:World) (B:Nat):Own3 w B (.slice none 0 0) []:=World.ownsRow_nil _ _ _ _
end
end Rd
end Go.Proofs.YtlnbjikooadmoaaGreat
namespace Go.Proofs.YtlnbjikooadmoaaGreat
namespace Rd
open Go.RowKit Vi Bd
theorem rec1_lt {b b':List UInt8} {r:Int×Int×ByteArray} (h:rec1 b=some (r,b')):b=recB r++b'/\b'.length+3<=b.length:=by
 obtain⟨-,h2⟩:=rec1_some b r b' h;refine⟨h2,?_⟩;have:=congrArg List.length h2;rw[List.length_append] at this;have:=recB_length r;omega
theorem spl_fuel:∀(n m:Nat) (b:List UInt8),b.length<=n->b.length<=m->spl n b=spl m b
 |0,m,b,hn,_=>by
  have hb:b=[]:=List.length_eq_zero_iff.1 (by omega);subst hb;cases m<;>simp[spl]
 |n+1,m,b,hn,hm=>by
  by_cases hb:b=[]
  ·subst hb;cases m<;>simp[spl]
  ·have h0:0<b.length:=List.length_pos_iff.2 hb
   obtain⟨m,rfl⟩:∃k,m=k+1:=⟨m-1,by omega⟩
   rw[spl,spl,if_neg hb,if_neg hb];rcases hr:rec1 b with _|⟨r,b'⟩
   ·rfl
   ·have:=(rec1_lt hr).2
    simp only;rw[spl_fuel n m b' (by omega) (by omega)]
def Sp (b:List UInt8) (l:List (Int×Int×ByteArray)) (rest:List UInt8):Prop:=(spl rest.length rest).map (l++ ·)=spl b.length b
theorem sp_start (b:List UInt8):Sp b [] b:=by unfold Sp;simp
theorem sp_end {b:List UInt8} {l:List (Int×Int×ByteArray)} (h:Sp b l []):spl b.length b=some l:=by unfold Sp at h;rw[<-h];simp[spl]
theorem sp_none {b rest:List UInt8} {l:List (Int×Int×ByteArray)} (h:Sp b l rest) (hr:rest≠ []) (h1:rec1 rest=none):spl b.length b=none:=by
 unfold Sp at h;rw[<-h];obtain⟨n,hn⟩:∃n,rest.length=n+1:=⟨rest.length-1,by have:=List.length_pos_iff.2 hr;omega⟩
 rw[hn,spl,if_neg hr,h1];rfl
theorem sp_step {b rest rest':List UInt8} {l:List (Int×Int×ByteArray)} {r:Int×Int×ByteArray} (h:Sp b l rest) (hr:rest≠ []) (h1:rec1 rest=some (r,rest')):Sp b (l++[r]) rest':=by
 unfold Sp at *
 rw[<-h];obtain⟨n,hn⟩:∃n,rest.length=n+1:=⟨rest.length-1,by have:=List.length_pos_iff.2 hr;omega⟩
 have:=(rec1_lt h1).2;rw[hn,spl,if_neg hr,h1];simp only;rw[spl_fuel n rest'.length rest' (by omega) (Nat.le_refl _),Option.map_map];congr 1
 funext x
 simp
theorem split_none {b:List UInt8} (h:spl b.length b=none):split b=none:=by unfold split;rw[h];split<;>rfl
theorem split_big {b:List UInt8} (h:20000<b.length):split b=none:=if_pos h
theorem split_row {b:List UInt8} {l:List (Int×Int×ByteArray)} (h:spl b.length b=some l) (hr:rowE none l≠0):split b=none:=by
 unfold split;rw[h];simp only;rw[if_pos hr];split<;>rfl
theorem split_yes {b:List UInt8} {l:List (Int×Int×ByteArray)} (h0: ¬ 20000<b.length) (h:spl b.length b=some l) (hr:rowE none l=0):split b=some l:=by
 unfold split;rw[if_neg h0,h];simp only;rw[if_neg (by simp[hr])]
set_option maxHeartbeats 6400000 in
set_option maxRecDepth 100000 in
theorem split_any (s:ByteArray) (w:World) (hs:s.size<=1000000) :
  Calls Tryz.prog 126 #[.string s] w fun e w'=>((∃l,split s.data.toList=some l/\ ∃v,e=.returned (.tuple #[v,.int .i64 0])/\Own3 w' w.heap.size v l) ∨
   (split s.data.toList=none/\ ∃x,e=.returned (.tuple #[.slice none 0 0,.int .i64 x])/\x≠0))/\Below w.heap.size w w':=by
 have mixed:Tryz.prog.follows .mixedOrders=true:=by kernel_rfl
 have hl:s.data.toList.length=s.size:=rfl;by_cases hb:20000<s.size
 ·have HN:=Lib.hid (split_big (b:=s.data.toList) (by omega))
  have hb1:(20000:Int)<(s.size:Int):=by omega
  go_enter Tryz.func126, Tryz.ntmps126
  go_wp2_with fail
  go_ret2
  exact⟨.inr ⟨HN.out,3,rfl,by decide⟩,Below.refl _ _⟩
 ·have hb1: ¬ (20000:Int)<(s.size:Int):=by omega
  have HL:=Lib.hid hl;clear hl
  go_enter Tryz.func126, Tryz.ntmps126
  go_wp2_with fail
  go_loopw [4,5] (fun v a wr=>∃(p:Nat) (l:List (Int×Int×ByteArray)) (v0:Value),v0=v/\a=.int .i64 (p:Int)/\p<=s.size/\l.length<=p/\Hid (Sp s.data.toList l (s.data.toList.drop p)/\Own3 wr w.heap.size v l/\Below w.heap.size w wr)) (fun _ a _=>s.size-(intOf a).toNat)
  case atStart=>exact⟨0,[],.slice none 0 0,rfl,rfl,by omega,by simp,by rw[List.drop_zero];exact sp_start _,own3_nil _ _,Below.refl _ _⟩
  case round =>
   obtain⟨p,l,v,hv,rfl,hp,hlp,HX⟩:=hrel;subst hv;by_cases hps:p<s.size
   ·have hrest:s.data.toList.drop p≠ []:=by
     intro e;have:=congrArg List.length e;rw[List.length_drop,HL.out] at this;simp at this;omega
    have HG:=Lib.hid (rget_any s p wr hs hp);have HRE:=Lib.hid hrest;have hi:(p:Int)<(s.size:Int):=by omega
    clear hrest;go_wp2_with fail
    refine HG.out.mono ?_;rintro e1 w1 ⟨⟨r,b',hr,rfl⟩|⟨hr,x,rfl,hx⟩,hb2⟩
    ·obtain⟨q,t,d⟩:=r
     obtain⟨h1,h2⟩:=rec1_lt hr;have h3:=congrArg List.length h1;have h4:=recB_length (q,t,d);rw[List.length_append,List.length_drop,HL.out] at h3;have hdr:b'=s.data.toList.drop (p+(recB (q,t,d)).length):=by
      rw[<-List.drop_drop,h1];simp
     have HST:=Lib.hid (sp_step HX.out.1 HRE.out hr);rw[hdr] at HST;generalize (recB (q,t,d)).length=m at *
     have hown:=HX.out.2.1.below hb2 (Nat.le_refl _);have hB:=HX.out.2.2.trans (hb2.mono HX.out.2.2.size);have HO:=Lib.hid (And.intro hown hB);have hle:=hB.size;clear hdr h1 h2 HG HX HRE hr hown hB hb2;unfold rv;have ho2:Own3 (w1.alloc (.cells #[.int .i64 q,.int .i64 t,.string d] 31)) w.heap.size v l:=HO.out.1.below ((Below.refl _ _).alloc (Nat.le_refl _) _) (Nat.le_refl _);have hll:l.length<=1099511627776:=by omega
     have hB3:w.heap.size<=(w1.alloc (.cells #[.int .i64 q,.int .i64 t,.string d] 31)).heap.size:=by simp;omega
     have HO2:=Lib.hid (And.intro ho2 (And.intro hll hB3));clear ho2 hll hB3;go_wp2_with (at_builtin;refine append3 HO2.out.1 HO2.out.2.1 HO2.out.2.2 ?_ (hx:=by simp[go_sem,Act.eval]);intro A1 n1 c1 w3 hn1 hown3 hb3)
     exact⟨⟨p+m,l++[(q,t,d)],_,rfl,by go_num,by omega,by simp;omega,HST.out,hown3,(HO.out.2.alloc hle _).trans hb3⟩,by simp[intOf];omega⟩
    ·have HN:=Lib.hid (split_none (sp_none HX.out.1 HRE.out hr))
     have HB:=Lib.hid (HX.out.2.2.trans (hb2.mono HX.out.2.2.size));have hx1:(x != 0)=true:=by rw[bne_iff_ne];exact hx
     have hx2:(x==0)=false:=by rw[beq_eq_false_iff_ne];exact hx
     have hle:=HB.out.size;clear HG HX HRE hr hb2;unfold rv;go_wp2_with fail
     go_ret2
     exact⟨.inr ⟨HN.out,x,rfl,hx⟩,HB.out.alloc hle _⟩
   ·obtain rfl:p=s.size:=by omega
    have hnil:s.data.toList.drop s.size=[]:=List.drop_eq_nil_of_le (by rw[HL.out];exact Nat.le_refl _);have hsp:=HX.out.1;rw[hnil] at hsp;have HE:=Lib.hid (sp_end hsp);obtain⟨A,c,rfl,hc1,hc2,hrd⟩:=HX.out.2.1.rd;have HW:=Lib.hid (row_any A l.length c l wr hrd (by omega));clear hnil hsp hrd;by_cases hr:rowE none l=0
    ·have HY:=Lib.hid (split_yes (by rw[HL.out];exact hb) HE.out hr)
     rw[hr] at HW;clear HE hr;go_wp2_with fail
     refine HW.out.mono ?_;rintro e2 w2 ⟨rfl,hb2⟩;have HB:=Lib.hid (HX.out.2.2.trans (hb2.mono HX.out.2.2.size));have HO:=Lib.hid (HX.out.2.1.below hb2 (Nat.le_refl _));clear HX hb2 HW;go_wp2_with fail
     go_ret2
     exact⟨.inl ⟨l,HY.out,_,rfl,HO.out⟩,HB.out⟩
    ·have HN:=Lib.hid (split_row HE.out hr)
     generalize rowE none l=x at *
     have hx1:(x != 0)=true:=by rw[bne_iff_ne];exact hr
     have hx2:(x==0)=false:=by rw[beq_eq_false_iff_ne];exact hr
     go_wp2_with fail
     refine HW.out.mono ?_;rintro e2 w2 ⟨rfl,hb2⟩;have HB:=Lib.hid (HX.out.2.2.trans (hb2.mono HX.out.2.2.size));clear HX hb2 HW;go_wp2_with fail
     go_ret2
     exact⟨.inr ⟨HN.out,x,rfl,hr⟩,HB.out⟩
end Rd
end Go.Proofs.YtlnbjikooadmoaaGreat
namespace Go.Proofs.YtlnbjikooadmoaaGreat
namespace Bk
open Go.RowKit Tk Vi Sq Rd
theorem dec_peek {b:List UInt8} (h:peekB b=none):dec b=none:=by unfold dec;rw[h]
theorem dec_at {b r:List UInt8} {md raw count first early late:Nat} (h:peekB b=some (md,raw,count,first,early,late,r)) :
  dec b=match rawB md raw r with
   |none=>none
   |some s=>match split s with
    |none=>none
    |some l=>if fits l count first early late=true then some l else none:=by unfold dec;first|(rw[h];done)|(rw[h];rfl)
theorem dec_raw {b r:List UInt8} {md raw count first early late:Nat} (h:peekB b=some (md,raw,count,first,early,late,r)) (h2:rawB md raw r=none):dec b=none:=by rw[dec_at h,h2]
theorem dec_split {b r s:List UInt8} {md raw count first early late:Nat} (h:peekB b=some (md,raw,count,first,early,late,r)) (h2:rawB md raw r=some s) (h3:split s=none):dec b=none:=by
 rw[dec_at h,h2];simp only[h3]
theorem dec_fits {b r s:List UInt8} {md raw count first early late:Nat} {l:List (Int×Int×ByteArray)} (h:peekB b=some (md,raw,count,first,early,late,r)) (h2:rawB md raw r=some s) (h3:split s=some l) :
  dec b=if fits l count first early late=true then some l else none:=by
 rw[dec_at h,h2];simp only[h3]
theorem peek_le {b r:List UInt8} {md raw count first early late:Nat} (h:peekB b=some (md,raw,count,first,early,late,r)):r.length<=b.length/\raw<=20000/\1<=count/\count<=raw:=by
 unfold peekB at h;split at h;·simp at h
 rename_i m b'
 split at h
 ·rename_i raw' count' first' early' more r' hf
  split at h
  ·rename_i hm
   simp only[Option.some.injEq,Prod.mk.injEq] at h;obtain⟨-,rfl,rfl,-,-,-,rfl⟩:=h;rw[mayH_iff] at hm;obtain⟨l,-,-,hb,-⟩:=fin_some 5 [] b' _ _ hf;refine⟨?_,hm.2.1,hm.2.2.1,hm.2.2.2.1⟩;rw[hb,List.length_cons,List.length_append];omega
  ·simp at h
 ·simp at h
theorem fits_iff (l:List (Int×Int×ByteArray)) (count first early late:Nat):fits l count first early late=true↔l.length=count/\(at3 l 0).1=first/\(at3 l 0).2.1=early/\(at3 l (l.length-1)).2.1=late:=by simp[fits]
def DecAns (s:ByteArray) (w:World) (e:Ending) (w':World):Prop:=(∃l v,dec s.data.toList=some l/\e=.returned (.tuple #[v,.int .i64 0])/\Own3 w' w.heap.size v l) ∨
 (dec s.data.toList=none/\ ∃x,e=.returned (.tuple #[.slice none 0 0,.int .i64 x])/\x≠0)
set_option maxHeartbeats 6400000 in
set_option maxRecDepth 100000 in
theorem Decode_any (s:ByteArray) (w:World) (hs:s.size<=1000000) :
  Calls Tryz.prog 92 #[.string s] w fun e w'=>DecAns s w e w'/\Below w.heap.size w w':=by
 have mixed:Tryz.prog.follows .mixedOrders=true:=by kernel_rfl
 have HP:=Lib.hid (fun w=>peek_any s w hs);have hsl:s.data.toList.length=s.size:=rfl
 go_enter Tryz.func92, Tryz.ntmps92
 go_wp2_with fail
 refine(HP.out _).mono ?_;rintro e1 w1 ⟨hp,hb1⟩;have HB1:=Lib.hid hb1;clear HP hb1;rcases hp with ⟨md,raw,count,first,early,late,r,hpk,rfl⟩|⟨hpk,x,rfl,hx⟩
 ·have hle:=peek_le hpk
  have hrl:r.data.toList.length=r.size:=rfl;have HRW:=Lib.hid (fun w=>raw_any raw count first early late md r w (by omega));unfold hagg at HRW ⊢;have hH:Hb (w1.alloc (.cells #[.int .i64 0,.int .i64 0,.int .i64 raw,.int .i64 count,.int .i64 first,.int .i64 early,.int .i64 late,.int .i64 md,.string r] 138)) w1.heap.size raw count first early late md r:=heap_alloc_new w1 _;have hbw:=HB1.out.alloc (o:=.cells #[.int .i64 0,.int .i64 0,.int .i64 raw,.int .i64 count,.int .i64 first,.int .i64 early,.int .i64 late,.int .i64 md,.string r] 138) HB1.out.size;have HH:=Lib.hid (And.intro hH hbw);have HPK:=Lib.hid hpk;have HLE:=Lib.hid hle.2;clear hsl hle hrl hpk hH hbw;go_wp2_with fail
  refine(HRW.out _).mono ?_;rintro e2 w2 ⟨hrw,hb2⟩;have hH2:=HH.out.1.below hb2 HH.out.1.lt;have HB2:=Lib.hid (HH.out.2.trans (hb2.mono HH.out.2.size));clear HRW HH hb2 HB1;rcases hrw with ⟨t,hrt,rfl⟩|⟨hrt,x,rfl,hx⟩
  ·have HRT:=Lib.hid hrt
   have htl:t.size<=20000:=by
    have h2:=HRT.out;unfold rawB at h2;split at h2;·simp at h2
    split at h2;·simp at h2
    rename_i hne
    simp only[Option.some.injEq] at h2;subst h2;have:t.data.toList.length=t.size:=rfl;have:=HLE.out.1;omega
   have HS:=Lib.hid (split_any t w2 (by omega));have HH2:=Lib.hid hH2;clear hrt htl hH2;go_wp2_with fail
   refine HS.out.mono ?_;rintro e3 w3 ⟨hsp,hb3⟩;have hH3:=HH2.out.below hb3 HH2.out.lt;have HB3:=Lib.hid (HB2.out.trans (hb3.mono HB2.out.size));clear HS HH2 hb3;rcases hsp with ⟨l,hl,v,rfl,hown⟩|⟨hl,x,rfl,hx⟩
   ·have hdf:=dec_fits HPK.out HRT.out hl
    have HO:=Lib.hid (Own3.lower hown HB2.out.size);obtain⟨A,c,rfl,hc1,hc2,hrd⟩:=hown.rd;have k3:=hH3.c3;have k4:=hH3.c4;have k5:=hH3.c5;have k6:=hH3.c6;have HLN:=Lib.hid HLE.out.2;clear hH3 hown hl HRT HPK;by_cases h1:l.length=count
    ·have HLL:=Lib.hid h1
     obtain⟨m,hm⟩:∃m,l.length=m+1:=⟨l.length-1,by have:=HLN.out.1;omega⟩
     obtain⟨ad,q0,t0,d0,rfl,hbk,hx0,hc00,hc01,-⟩:=rec3 hrd (show 0<l.length by omega);obtain⟨ad',q1,t1,d1,hA',-,hx1,-,hc11,-⟩:=rec3 hrd (show m<l.length by omega);obtain rfl:ad=ad':=by simpa using hA'
     have ha0:at3 l 0=(q0,t0,d0):=Option.some.inj ((at3_get l 0 (by omega)).symm.trans hx0);have ha1:at3 l (l.length-1)=(q1,t1,d1):=Option.some.inj ((at3_get l (l.length-1) (by omega)).symm.trans (by rw[hm];exact hx1));have hft:fits l count first early late=true↔q0=first/\t0=early/\t1=late:=by rw[fits_iff,ha0,ha1];simp only;exact⟨fun h=>h.2,fun h=>⟨h1,h⟩⟩
     have hz:ad.add (0*3)=ad:=by rw[Nat.zero_mul];rfl
     rw[hz] at hc00 hc01;have hcm:c<=9223372036854775807:=by unfold maxLen at hc2;omega
     subst h1;have HO4:=Lib.hid (show Own3 w3 w.heap.size (.slice (some ad) (m+1) c) l by have:=HO.out;rwa [hm] at this);rw[hm] at hc1 k3 ⊢;clear hm hx0 hx1 hA' ha0 ha1 hz hrd hc2 HLN HLL;have i1:(0:Int)<(m:Int)+1:=by omega
     have i2:IntKind.i64.wrap (((m:Int)+1)-1)=(m:Int):=by rw[IntKind.wrap_i64];omega
     by_cases h2:q0=first
     ·subst h2
      by_cases h3:t0=early
      ·subst h3
       by_cases h4:t1=late
       ·subst h4
        rw[if_pos (hft.2 ⟨rfl,rfl,rfl⟩)] at hdf;have HD:=Lib.hid hdf;clear hdf hft;go_wp2_with fail
        go_quiet (fail)
        go_wp2_with fail
        go_ret2
        exact⟨.inl ⟨l,.slice (some ad) (m+1) c,HD.out,rfl,HO4.out⟩,below_drewN HB3.out _⟩
       ·rw[if_neg (fun h=>h4 (hft.1 h).2.2)] at hdf
        have HD:=Lib.hid hdf;have b4:((t1:Int)==(late:Int))=false:=by rw[beq_eq_false_iff_ne];exact h4
        have c4:((t1:Int) != (late:Int))=true:=by rw[bne_iff_ne];exact h4
        clear hdf hft h4;go_wp2_with fail
        go_quiet (fail)
        go_wp2_with fail
        go_ret2
        exact⟨.inr ⟨HD.out,170,rfl,by decide⟩,below_drewN HB3.out _⟩
      ·rw[if_neg (fun h=>h3 (hft.1 h).2.1)] at hdf
       have HD:=Lib.hid hdf;have b3:((t0:Int)==(early:Int))=false:=by rw[beq_eq_false_iff_ne];exact h3
       have c3:((t0:Int) != (early:Int))=true:=by rw[bne_iff_ne];exact h3
       clear hdf hft h3;go_wp2_with fail
       go_quiet (fail)
       go_wp2_with fail
       go_ret2
       exact⟨.inr ⟨HD.out,170,rfl,by decide⟩,below_drewN HB3.out _⟩
     ·rw[if_neg (fun h=>h2 (hft.1 h).1)] at hdf
      have HD:=Lib.hid hdf;have b2:((q0:Int)==(first:Int))=false:=by rw[beq_eq_false_iff_ne];exact h2
      have c2:((q0:Int) != (first:Int))=true:=by rw[bne_iff_ne];exact h2
      clear hdf hft h2;go_wp2_with fail
      go_quiet (fail)
      go_wp2_with fail
      go_ret2
      exact⟨.inr ⟨HD.out,170,rfl,by decide⟩,below_drewN HB3.out _⟩
    ·rw[if_neg (by rw[fits_iff];exact fun h=>h1 h.1)] at hdf
     have HD:=Lib.hid hdf;have b1:((l.length:Int)==(count:Int))=false:=by rw[beq_eq_false_iff_ne];omega
     have b2:((l.length:Int) != (count:Int))=true:=by rw[bne_iff_ne];omega
     have b3:(l.length==count)=false:=by rw[beq_eq_false_iff_ne];omega
     have b4:(l.length != count)=true:=by rw[bne_iff_ne];omega
     clear hdf h1 hrd;go_wp2_with fail
     go_quiet (fail)
     go_wp2_with fail
     go_ret2
     exact⟨.inr ⟨HD.out,170,rfl,by decide⟩,below_drewN HB3.out _⟩
   ·have HD:=Lib.hid (dec_split HPK.out HRT.out hl)
    have hb1:(x != 0)=true:=by rw[bne_iff_ne];exact hx
    have hb2:(x==0)=false:=by rw[beq_eq_false_iff_ne];exact hx
    clear hl;go_wp2_with fail
    go_ret2
    exact⟨.inr ⟨HD.out,x,rfl,hx⟩,HB3.out⟩
  ·have HD:=Lib.hid (dec_raw HPK.out hrt)
   have hb1:(x != 0)=true:=by rw[bne_iff_ne];exact hx
   have hb2:(x==0)=false:=by rw[beq_eq_false_iff_ne];exact hx
   clear hrt;go_wp2_with fail
   go_ret2
   exact⟨.inr ⟨HD.out,x,rfl,hx⟩,HB2.out⟩
 ·have HD:=Lib.hid (dec_peek hpk)
  have hb1:(x != 0)=true:=by rw[bne_iff_ne];exact hx
  have hb2:(x==0)=false:=by rw[beq_eq_false_iff_ne];exact hx
  have HB2:=Lib.hid (HB1.out.alloc (o:=.cells #[.int .i64 0,.int .i64 0,.int .i64 0,.int .i64 0,.int .i64 0,.int .i64 0,.int .i64 0,.int .i64 0,.string ⟨#[]⟩] 138) HB1.out.size);clear hpk;unfold hagg;go_wp2_with fail
  go_ret2
  exact⟨.inr ⟨HD.out,x,rfl,hx⟩,HB2.out⟩
end Bk
end Go.Proofs.YtlnbjikooadmoaaGreat
namespace Go.Proofs.YtlnbjikooadmoaaGreat
namespace Bk
open Go.RowKit Vi Sq Rd
section
variable {ops:Array Oper} {rest:List Oper} {o:Oper} {a:Act} {Q:Exit->Act->World->Prop}
theorem appendS {s x:Operand} {B:Nat} {v:Value} {l:List UInt8} {w0:World} (d:ByteArray) (hown:OwnB w0 B v l) (hl:l.length+d.size<=1099511627776) (hB:B<=w0.heap.size)
  (h:∀A' n' c' w',Hid (n'=l.length+d.size)->OwnB w' B (.slice A' n' c') (l++d.data.toList)->Below B w0 w'->w0.grownBy w' v.ownBlock->wpList Tryz.prog ops Q rest (a.put o.dst (.slice A' n' c')) w')
  (hgd:o.guard=none:=by exact rfl) (ho:o.op=.call { callee:=.builtin .append,args:=#[s,x],argTypes:=#[96,9] }:=by exact rfl)
  (hs:a.eval s=v:=by exact rfl) (hx:a.eval x=.string d:=by exact rfl) :
  wpList Tryz.prog ops Q (o::rest) a w0:=by
 obtain⟨i0,hi,hz0,hz1,hz2⟩:=info_parts byte_info;refine Lib.wpList_append_own_string _ hgd s x 96 9 ho B 5 i0 Tryz.underlying96 Tryz.underlying9 hi hz0 hz1 hz2 v l.length (bv l) hs hown d hx (by simp only[maxLen];omega) (by omega) hB ?_;intro v' w' hown' hg _;have hlt:=World.ownsRow.lt hown;obtain⟨A',c',rfl,_,_⟩:=own_slice hown';refine h A' _ c' w' rfl ?_ ((Below.refl _ _).grown hg hB (fun k hk=>(hlt k hk).1)) hg;unfold OwnB;rw[bv_append,List.length_append];exact hown'
end
theorem ownB_lit (w:World) (m:UInt8):OwnB (w.alloc (.cells #[.int .u8 (m.toNat:Int)] 5)) w.heap.size (.slice (some ⟨w.heap.size,0,none⟩) 1 1) [m] :=
 ⟨rfl,.inr ⟨w.heap.size,1,_,rfl,Nat.le_refl _,heap_alloc_new w _,Nat.le_refl _,by unfold maxLen;decide,rfl,rfl⟩⟩
def EncAns (l:List (Int×Int×ByteArray)) (e:Ending):Prop:=∃S:ByteArray,e=.returned (.tuple #[.string S,.int .i64 (encE l)])/\(encE l≠0->S=⟨#[]⟩)/\(encE l=0-> ∃arr,Sx.Sorted (joinB l) arr/\S=⟨(blk l arr).toArray⟩)
set_option maxHeartbeats 6400000 in
set_option maxRecDepth 100000 in
theorem enc_err (A:Option Addr) (n c:Nat) (l:List (Int×Int×ByteArray)) (w:World) (hrd:Rd w w.heap.size 3 A n (fl3 l)) (hn:n<=100000) (hne:encE l≠0) :
  Calls Tryz.prog 15 #[.slice A n c] w fun e w'=>EncAns l e/\Below w.heap.size w w':=by
 have mixed:Tryz.prog.follows .mixedOrders=true:=by kernel_rfl
 have hln:=rd3_len hrd;by_cases hl:l=[]
 ·have hE:encE l=2:=if_pos hl
  have HE:=Lib.hid hE;obtain rfl:n=0:=by rw[<-hln,hl];rfl
  clear hrd hl hln hE hne
  go_enter Tryz.func15, Tryz.ntmps15
  go_wp2_with fail
  go_ret2
  exact⟨⟨⟨#[]⟩,by rw[HE.out];rfl,fun _=>rfl,fun h=>absurd (HE.out.symm.trans h) (by decide)⟩,Below.refl _ _⟩
 ·have hE:encE l=jE l:=if_neg hl
  rw[hE] at hne;have HE:=Lib.hid hE;have hJ:=join_any A n c l w hrd (by omega);rw[jS_no hne] at hJ;have hn0:0<n:=by rw[<-hln];exact List.length_pos_iff.2 hl
  have hn1:((n:Int)==0)=false:=by rw[beq_eq_false_iff_ne];omega
  generalize jE l=x at *
  have HJ:=Lib.hid hJ;have hx1:(x != 0)=true:=by rw[bne_iff_ne];exact hne
  have hx2:(x==0)=false:=by rw[beq_eq_false_iff_ne];exact hne
  clear hJ hrd hE hl hln
  go_enter Tryz.func15, Tryz.ntmps15
  go_wp2_with fail
  refine HJ.out.mono ?_;rintro e1 w1 ⟨rfl,hb1⟩;have HB:=Lib.hid hb1;clear hb1;go_wp2_with fail
  go_ret2
  exact⟨⟨⟨#[]⟩,by rw[HE.out];rfl,fun _=>rfl,fun h=>absurd (HE.out.symm.trans h) hne⟩,HB.out⟩
end Bk
end Go.Proofs.YtlnbjikooadmoaaGreat
namespace Go.Proofs.YtlnbjikooadmoaaGreat
namespace Bk
open Go.RowKit Vi Sq Rd
theorem flat_le:∀(l:List Nat),(∀x∈l,x<9223372036854775808)->(l.flatMap putV).length<=9*l.length
 | [],_=>by simp
 |n::l,h=>by
  have h1:=length_putV_le n 8 (h n (List.mem_cons_self ..));have h2:=flat_le l fun x hx=>h x (List.mem_cons_of_mem _ hx)
  rw[List.flatMap_cons,List.length_append,List.length_cons];omega
def Five (w:World) (b x0 x1 x2 x3 x4:Nat):Prop:=w.heap[b]? =some (.cells #[.int .i64 (x0:Int),.int .i64 (x1:Int),.int .i64 (x2:Int),.int .i64 (x3:Int),.int .i64 (x4:Int)] 3 (0,0))
theorem Five.cell {w:World} {b x0 x1 x2 x3 x4 k N:Nat} (h:Five w b x0 x1 x2 x3 x4) (hk:[x0,x1,x2,x3,x4][k]? =some N):w.cell? ⟨b,k,none⟩=some (.int .i64 (N:Int)):=by
 rw[cell_of_row w b k _ _ (0,0) h];rcases k with _|_|_|_|_|k
 all_goals simp at hk
 all_goals subst hk;rfl
set_option maxHeartbeats 6400000 in
set_option maxRecDepth 100000 in
theorem enc_yes (A:Option Addr) (n c:Nat) (l:List (Int×Int×ByteArray)) (w:World) (hrd:Rd w w.heap.size 3 A n (fl3 l)) (hn:n<=100000) (he:encE l=0) :
  Calls Tryz.prog 15 #[.slice A n c] w fun e w'=>EncAns l e/\Below w.heap.size w w':=by
 have mixed:Tryz.prog.follows .mixedOrders=true:=by kernel_rfl
 have hln:=rd3_len hrd;obtain⟨hj,hl⟩:=enc_ok he;have hn0:0<n:=by rw[<-hln];exact List.length_pos_iff.2 hl
 obtain⟨m,rfl⟩:∃m,n=m+1:=⟨n-1,by omega⟩
 have hJ:=join_any A (m+1) c l w hrd (by omega);rw[jS_ok hj,hj] at hJ;obtain⟨raw,hraw⟩:∃raw:ByteArray,raw=⟨(joinB l).toArray⟩:=⟨_,rfl⟩
 rw[<-hraw] at hJ;have hr1:raw.data.toList=joinB l:=by rw[hraw]
 have hr2:raw.size=(joinB l).length:=by rw[hraw];simp[ByteArray.size]
 have hr3:raw.size<=20000:=by rw[hr2];exact(jE_row hj).2
 have HJ:=Lib.hid hJ;have hP:=fun w=>pack_un raw w hr3
 rw[hr1] at hP;have HP:=Lib.hid hP;have HE:=Lib.hid he;have HR:=Lib.hid hrd;have hn1:(((m:Nat):Int)+1==0)=false:=by rw[beq_eq_false_iff_ne];omega
 have hn2:(((m+1:Nat):Int)==0)=false:=by rw[beq_eq_false_iff_ne];omega
 obtain⟨e1,e2,e3,e4,e5,e6⟩:=ends hj hl;obtain⟨ad,q0,t0,d0,rfl,hbk,hx0,hc00,hc01,-⟩:=rec3 hrd (show 0<m+1 by omega);obtain⟨ad',q1,t1,d1,hA',-,hx1,hc10,hc11,hc12⟩:=rec3 hrd (show m<m+1 by omega);obtain rfl:ad=ad':=by simpa using hA'
 have ha0:at3 l 0=(q0,t0,d0):=Option.some.inj ((at3_get l 0 (by omega)).symm.trans hx0);have ha1:at3 l (l.length-1)=(q1,t1,d1):=Option.some.inj ((at3_get l (l.length-1) (by omega)).symm.trans (by rw[hln];exact hx1));rw[ha0,ha1] at e4;rw[ha0] at e1 e2 e3;rw[ha1] at e5;simp only at e1 e2 e3 e4 e5;obtain⟨Q,rfl⟩:=Int.eq_ofNat_of_zero_le (show 0<=q0 by omega);obtain⟨T,rfl⟩:=Int.eq_ofNat_of_zero_le (show 0<=t0 by omega);obtain⟨D,hD⟩:=Int.eq_ofNat_of_zero_le (show 0<=t1-(T:Int) by omega);have h5:hd5 l=[raw.size,m+1,Q,T,D]:=by unfold hd5;rw[ha0,ha1,hr2,hln];simp only;rw[hD];simp
 have H5:=Lib.hid h5;have HRR:=Lib.hid (And.intro hr1 hr2);have hz:ad.add (0*3)=ad:=by rw[Nat.zero_mul];rfl
 rw[hz] at hc00 hc01;have hlq:l.length=m+1:=hln;rw[hlq] at e2;have HC:=Lib.hid (And.intro hc00 (And.intro hc01 (And.intro hc10 (And.intro hc11 hc12))));clear hJ hP he hraw hr1 hr2 hx0 hx1 hA' ha0 ha1 h5 hz hlq hj hl hrd hc00 hc01 hc10 hc11 hc12 hln
 go_enter Tryz.func15, Tryz.ntmps15
 go_wp2_with fail
 refine HJ.out.mono ?_;rintro e1 w1 ⟨rfl,hb1⟩;have HB1:=Lib.hid hb1;clear hb1 HJ;go_wp2_with fail
 refine(HP.out _).mono ?_;rintro e2 w2 ⟨sh,arr,hso,hsh,hshz,rfl,hb2⟩;have HB2:=Lib.hid (ext_trans HB1.out hb2);have hcl:∀p:Addr,p.block<w.heap.size->w2.cell? p=w.cell? p:=fun p hp=>HB2.out.cell hp
 have c00:=(hcl ad hbk).trans HC.out.1;have c01:=(hcl ⟨ad.block,ad.off+1,none⟩ hbk).trans HC.out.2.1;have c10:=(hcl (ad.add (m*3)) (by rw[add_block];exact hbk)).trans HC.out.2.2.1;have c11:=(hcl ⟨(ad.add (m*3)).block,(ad.add (m*3)).off+1,none⟩ (by rw[add_block];exact hbk)).trans HC.out.2.2.2.1;have c12:=(hcl ⟨(ad.add (m*3)).block,(ad.add (m*3)).off+2,none⟩ (by rw[add_block];exact hbk)).trans HC.out.2.2.2.2;have hbk2:ad.block<w2.heap.size:=by have:=HB2.out.size;omega
 have HSO:=Lib.hid hso;have hsl:sh.size=(packed (joinB l) arr).length:=by rw[hsh];simp[ByteArray.size]
 have hip:isP l arr=decide (sh.size<raw.size):=by unfold isP;rw[hsl,HRR.out.2]
 have HIP:=Lib.hid hip;have HSH:=Lib.hid hsh;clear hso hsh hip hsl hb2 HP hcl HR;by_cases hlt:sh.size<raw.size
 ·have hlt2:(sh.size:Int)<(raw.size:Int):=by omega
  go_wp2_with fail
  have hown:OwnB ((w2.alloc (.cells #[.int .i64 q1,.int .i64 t1,.string d1] 31)).alloc (.cells #[.int .u8 1] 5)) (w2.heap.size+1) (.slice (some ⟨w2.heap.size+1,0,none⟩) 1 1) [1]:=by
   have:=ownB_lit (w2.alloc (.cells #[.int .i64 q1,.int .i64 t1,.string d1] 31)) 1
   rwa [show(w2.alloc (.cells #[.int .i64 q1,.int .i64 t1,.string d1] 31)).heap.size=w2.heap.size+1 by simp] at this
  have hbw:Below w2.heap.size w2 ((w2.alloc (.cells #[.int .i64 q1,.int .i64 t1,.string d1] 31)).alloc (.cells #[.int .u8 1] 5)):=((Below.refl _ _).alloc (Nat.le_refl _) _).alloc (by simp) _;have hl1:((w2.alloc (.cells #[.int .i64 q1,.int .i64 t1,.string d1] 31)).alloc (.cells #[.int .u8 1] 5)).cell? ⟨w2.heap.size,1,none⟩=some (.int .i64 t1) :=
   (World.cell?_alloc_lt _ _ ⟨w2.heap.size,1,none⟩ (by simp)).trans (by rw[World.cell?_alloc_new];rfl)
  have hsz5:((w2.alloc (.cells #[.int .i64 q1,.int .i64 t1,.string d1] 31)).alloc (.cells #[.int .u8 1] 5)).heap.size=w2.heap.size+2:=by simp
  generalize (w2.alloc (.cells #[.int .i64 q1,.int .i64 t1,.string d1] 31)).alloc (.cells #[.int .u8 1] 5)=w5 at *
  have f00:=(hbw.cell (p:=ad) hbk2).trans c00;have f01:=(hbw.cell (p:=⟨ad.block,ad.off+1,none⟩) hbk2).trans c01;have i1:(0:Int)<(m:Int)+1:=by omega
  have i2:IntKind.i64.wrap (t1-(T:Int))=(D:Int):=by rw[IntKind.wrap_i64];omega
  have HO:=Lib.hid (And.intro hown hbw);have hDlt:D<=1000000000:=by omega
  have HDD:=Lib.hid hD;have HSZ:=Lib.hid hsz5;clear c00 c01 c10 c11 c12 hown hbw hD hsz5;go_region
  all_goals
   have hfive:Five (w5.alloc (.cells #[.int .i64 (raw.size:Int),.int .i64 ((m:Int)+1),.int .i64 (Q:Int),.int .i64 (T:Int),.int .i64 (D:Int)] 3)) w5.heap.size raw.size (m+1) Q T D:=by
    have:=heap_alloc_new w5 (.cells #[.int .i64 (raw.size:Int),.int .i64 ((m:Int)+1),.int .i64 (Q:Int),.int .i64 (T:Int),.int .i64 (D:Int)] 3);unfold Five;exact this
   have hsz5:=HSZ.out;have hb6:=HO.out.2.alloc (o:=(.cells #[.int .i64 (raw.size:Int),.int .i64 ((m:Int)+1),.int .i64 (Q:Int),.int .i64 (T:Int),.int .i64 (D:Int)] 3)) (by omega);have ho6:OwnB (w5.alloc (.cells #[.int .i64 (raw.size:Int),.int .i64 ((m:Int)+1),.int .i64 (Q:Int),.int .i64 (T:Int),.int .i64 (D:Int)] 3)) (w2.heap.size+1) (.slice (some ⟨w2.heap.size+1,0,none⟩) 1 1) [1]:=HO.out.1.below (ext_alloc _ _) (Nat.le_refl _);have HX0:=Lib.hid (And.intro hfive (And.intro ho6 hb6));have hs6:w2.heap.size+1<=(w5.alloc (.cells #[.int .i64 (raw.size:Int),.int .i64 ((m:Int)+1),.int .i64 (Q:Int),.int .i64 (T:Int),.int .i64 (D:Int)] 3)).heap.size:=by simp;omega
   clear hfive hb6 ho6 HO f00 f01 hl1;generalize w5.alloc (.cells #[.int .i64 (raw.size:Int),.int .i64 ((m:Int)+1),.int .i64 (Q:Int),.int .i64 (T:Int),.int .i64 (D:Int)] 3)=w6 at *
   clear hsz5;generalize w5.heap.size=F at *
   have HL5:=Lib.hid (show ∀x∈ [raw.size,m+1,Q,T,D],x<9223372036854775808 by intro x hx;simp at hx;omega);clear e1 e2 e3 e4 e5 e6 hDlt;go_wp2_with fail
   go_loopw [10,71] (fun v a wr=>∃(k:Nat) (v0:Value),v0=v/\a=.int .i64 (k:Int)/\k<=5/\Hid (Five wr F raw.size (m+1) Q T D/\OwnB wr (w2.heap.size+1) v0 (1::([raw.size,m+1,Q,T,D].take k).flatMap putV)/\Below w2.heap.size w2 wr/\w2.heap.size+1<=wr.heap.size)) (fun _ a _=>5-(intOf a).toNat)
   case atStart=>exact⟨0,_,rfl,rfl,by omega,HX0.out.1,HX0.out.2.1,below_drewN (n:=1) HX0.out.2.2,hs6⟩
   case round =>
    obtain⟨k,v,hv,rfl,hk,HX⟩:=hrel;subst hv;by_cases hk5:k<5
    ·obtain⟨N,hN⟩:∃N,[raw.size,m+1,Q,T,D][k]? =some N:=⟨_,List.getElem?_eq_getElem (by simpa using hk5)⟩
     have hlt5:=HL5.out;have hP:=put_any N wr (hlt5 _ (List.mem_of_getElem? hN));have hflat:=flat_le ([raw.size,m+1,Q,T,D].take k) (fun x hx=>hlt5 x (List.mem_of_mem_take hx));have htk:([raw.size,m+1,Q,T,D].take (k+1)).flatMap putV=([raw.size,m+1,Q,T,D].take k).flatMap putV++putV N:=by
      rw[List.take_add_one,hN];simp
     have hNl:=length_putV_le N 8 (hlt5 _ (List.mem_of_getElem? hN));have hll:([raw.size,m+1,Q,T,D].take k).length<=5:=by rw[List.length_take];simp;omega
     have hcell:=HX.out.1.cell hN;have HTK:=Lib.hid htk;have HP:=Lib.hid hP;have hacc:(1::([raw.size,m+1,Q,T,D].take k).flatMap putV).length+(vtxt N).size<=1099511627776:=by rw[vtxt_size,List.length_cons];omega
     have HAC:=Lib.hid hacc;clear hlt5 hP hflat htk hNl hll hacc hN;have i9:(k:Int)<5:=by omega
     go_wp2_with fail
     refine HP.out.mono ?_;rintro e3 w7 ⟨rfl,hb7⟩;have ho7:OwnB w7 (w2.heap.size+1) v (1::([raw.size,m+1,Q,T,D].take k).flatMap putV):=HX.out.2.1.below hb7 (Nat.le_refl _);have hf7:Five w7 F raw.size (m+1) Q T D:=(hb7.block _ (Array.getElem?_eq_some_iff.1 HX.out.1).1).trans HX.out.1;have hs7:w2.heap.size+1<=w7.heap.size:=by have:=hb7.size;have:=HX.out.2.2.2;omega
     have hb77:Below w2.heap.size w2 w7:=HX.out.2.2.1.trans (hb7.mono (by have:=HX.out.2.2.2;omega));have HX7:=Lib.hid (And.intro hf7 (And.intro ho7 (And.intro hs7 hb77)));clear hb7 ho7 hf7 hs7 hb77 HX hcell HP;go_wp2_with (at_builtin;refine appendS (vtxt N) HX7.out.2.1 HAC.out HX7.out.2.2.1 ?_;intro A1 n1 c1 w8 hn1 hown8 hb8 hg8)
     have hne:v.ownBlock≠some F:=Lib.ownBlock_ne HX7.out.2.1 HX7.out.1 (by decide);have hf8:Five w8 F raw.size (m+1) Q T D:=(hg8.block _ (Array.getElem?_eq_some_iff.1 HX7.out.1).1 (fun e=>hne e.symm)).trans HX7.out.1;rw[vtxt_list] at hown8;exact⟨⟨k+1,_,rfl,by go_num,by omega,hf8,by rw[HTK.out];exact hown8,HX7.out.2.2.2.trans (hb8.mono (by omega)),by have:=hb8.size;have:=HX7.out.2.2.1;omega⟩,by simp[intOf];omega⟩
    ·obtain rfl:k=5:=by omega
     have hflat:=flat_le [raw.size,m+1,Q,T,D] HL5.out;have HO:=Lib.hid (show OwnB wr (w2.heap.size+1) v (1::(hd5 l).flatMap putV) by rw[H5.out];exact HX.out.2.1);have hacc:(1::(hd5 l).flatMap putV).length+sh.size<=1099511627776:=by rw[List.length_cons,H5.out];simp only[List.length_cons,List.length_nil] at hflat;omega
     have HAC:=Lib.hid hacc;have HB:=Lib.hid (And.intro HX.out.2.2.1 HX.out.2.2.2);clear hflat hacc HX;go_wp2_with (at_builtin;refine appendS sh HO.out HAC.out HB.out.2 ?_;intro A1 n1 c1 w8 hn1 hown8 hb8 hg8)
     obtain⟨A',c',hv',hc1,hc2,hrd8⟩:=hown8.rd;cases hv'
     have hstr:=run_str (c:=c1) hrd8;obtain⟨S,hS⟩:∃S:ByteArray,S=⟨((1::(hd5 l).flatMap putV)++sh.data.toList).toArray⟩:=⟨_,rfl⟩
     have hblk:S=⟨(blk l arr).toArray⟩:=by
      rw[hS];unfold blk mode body;rw[if_pos (by rw[HIP.out];simpa using hlt),if_pos (by rw[HIP.out];simpa using hlt),HSH.out];rfl
     have HBK:=Lib.hid hblk;have HB8:=Lib.hid (HB2.out.trans ((HB.out.1.trans (hb8.mono (by omega))).mono HB2.out.size));rw[hstr,<-hS];clear hstr hS hblk hown8 hb8 hg8 hrd8 hc1 hc2;go_wp2_with fail
     go_ret2
     exact⟨⟨S,by rw[HE.out];rfl,fun h=>absurd HE.out h,fun _=>⟨arr,HSO.out,HBK.out⟩⟩,HB8.out⟩
 ·have hlt2: ¬ (sh.size:Int)<(raw.size:Int):=by omega
  go_wp2_with fail
  have hown:OwnB ((w2.alloc (.cells #[.int .i64 q1,.int .i64 t1,.string d1] 31)).alloc (.cells #[.int .u8 0] 5)) (w2.heap.size+1) (.slice (some ⟨w2.heap.size+1,0,none⟩) 1 1) [0]:=by
   have:=ownB_lit (w2.alloc (.cells #[.int .i64 q1,.int .i64 t1,.string d1] 31)) 0
   rwa [show(w2.alloc (.cells #[.int .i64 q1,.int .i64 t1,.string d1] 31)).heap.size=w2.heap.size+1 by simp] at this
  have hbw:Below w2.heap.size w2 ((w2.alloc (.cells #[.int .i64 q1,.int .i64 t1,.string d1] 31)).alloc (.cells #[.int .u8 0] 5)):=((Below.refl _ _).alloc (Nat.le_refl _) _).alloc (by simp) _;have hl1:((w2.alloc (.cells #[.int .i64 q1,.int .i64 t1,.string d1] 31)).alloc (.cells #[.int .u8 0] 5)).cell? ⟨w2.heap.size,1,none⟩=some (.int .i64 t1) :=
   (World.cell?_alloc_lt _ _ ⟨w2.heap.size,1,none⟩ (by simp)).trans (by rw[World.cell?_alloc_new];rfl)
  have hsz5:((w2.alloc (.cells #[.int .i64 q1,.int .i64 t1,.string d1] 31)).alloc (.cells #[.int .u8 0] 5)).heap.size=w2.heap.size+2:=by simp
  generalize (w2.alloc (.cells #[.int .i64 q1,.int .i64 t1,.string d1] 31)).alloc (.cells #[.int .u8 0] 5)=w5 at *
  have f00:=(hbw.cell (p:=ad) hbk2).trans c00;have f01:=(hbw.cell (p:=⟨ad.block,ad.off+1,none⟩) hbk2).trans c01;have i1:(0:Int)<(m:Int)+1:=by omega
  have i2:IntKind.i64.wrap (t1-(T:Int))=(D:Int):=by rw[IntKind.wrap_i64];omega
  have HO:=Lib.hid (And.intro hown hbw);have hDlt:D<=1000000000:=by omega
  have HDD:=Lib.hid hD;have HSZ:=Lib.hid hsz5;clear c00 c01 c10 c11 c12 hown hbw hD hsz5;go_region
  all_goals
   have hfive:Five (w5.alloc (.cells #[.int .i64 (raw.size:Int),.int .i64 ((m:Int)+1),.int .i64 (Q:Int),.int .i64 (T:Int),.int .i64 (D:Int)] 3)) w5.heap.size raw.size (m+1) Q T D:=by
    have:=heap_alloc_new w5 (.cells #[.int .i64 (raw.size:Int),.int .i64 ((m:Int)+1),.int .i64 (Q:Int),.int .i64 (T:Int),.int .i64 (D:Int)] 3);unfold Five;exact this
   have hsz5:=HSZ.out;have hb6:=HO.out.2.alloc (o:=(.cells #[.int .i64 (raw.size:Int),.int .i64 ((m:Int)+1),.int .i64 (Q:Int),.int .i64 (T:Int),.int .i64 (D:Int)] 3)) (by omega);have ho6:OwnB (w5.alloc (.cells #[.int .i64 (raw.size:Int),.int .i64 ((m:Int)+1),.int .i64 (Q:Int),.int .i64 (T:Int),.int .i64 (D:Int)] 3)) (w2.heap.size+1) (.slice (some ⟨w2.heap.size+1,0,none⟩) 1 1) [0]:=HO.out.1.below (ext_alloc _ _) (Nat.le_refl _);have HX0:=Lib.hid (And.intro hfive (And.intro ho6 hb6));have hs6:w2.heap.size+1<=(w5.alloc (.cells #[.int .i64 (raw.size:Int),.int .i64 ((m:Int)+1),.int .i64 (Q:Int),.int .i64 (T:Int),.int .i64 (D:Int)] 3)).heap.size:=by simp;omega
   clear hfive hb6 ho6 HO f00 f01 hl1;generalize w5.alloc (.cells #[.int .i64 (raw.size:Int),.int .i64 ((m:Int)+1),.int .i64 (Q:Int),.int .i64 (T:Int),.int .i64 (D:Int)] 3)=w6 at *
   clear hsz5;generalize w5.heap.size=F at *
   have HL5:=Lib.hid (show ∀x∈ [raw.size,m+1,Q,T,D],x<9223372036854775808 by intro x hx;simp at hx;omega);clear e1 e2 e3 e4 e5 e6 hDlt;go_wp2_with fail
   go_loopw [10,71] (fun v a wr=>∃(k:Nat) (v0:Value),v0=v/\a=.int .i64 (k:Int)/\k<=5/\Hid (Five wr F raw.size (m+1) Q T D/\OwnB wr (w2.heap.size+1) v0 (0::([raw.size,m+1,Q,T,D].take k).flatMap putV)/\Below w2.heap.size w2 wr/\w2.heap.size+1<=wr.heap.size)) (fun _ a _=>5-(intOf a).toNat)
   case atStart=>exact⟨0,_,rfl,rfl,by omega,HX0.out.1,HX0.out.2.1,below_drewN (n:=1) HX0.out.2.2,hs6⟩
   case round =>
    obtain⟨k,v,hv,rfl,hk,HX⟩:=hrel;subst hv;by_cases hk5:k<5
    ·obtain⟨N,hN⟩:∃N,[raw.size,m+1,Q,T,D][k]? =some N:=⟨_,List.getElem?_eq_getElem (by simpa using hk5)⟩
     have hlt5:=HL5.out;have hP:=put_any N wr (hlt5 _ (List.mem_of_getElem? hN));have hflat:=flat_le ([raw.size,m+1,Q,T,D].take k) (fun x hx=>hlt5 x (List.mem_of_mem_take hx));have htk:([raw.size,m+1,Q,T,D].take (k+1)).flatMap putV=([raw.size,m+1,Q,T,D].take k).flatMap putV++putV N:=by
      rw[List.take_add_one,hN];simp
     have hNl:=length_putV_le N 8 (hlt5 _ (List.mem_of_getElem? hN));have hll:([raw.size,m+1,Q,T,D].take k).length<=5:=by rw[List.length_take];simp;omega
     have hcell:=HX.out.1.cell hN;have HTK:=Lib.hid htk;have HP:=Lib.hid hP;have hacc:(0::([raw.size,m+1,Q,T,D].take k).flatMap putV).length+(vtxt N).size<=1099511627776:=by rw[vtxt_size,List.length_cons];omega
     have HAC:=Lib.hid hacc;clear hlt5 hP hflat htk hNl hll hacc hN;have i9:(k:Int)<5:=by omega
     go_wp2_with fail
     refine HP.out.mono ?_;rintro e3 w7 ⟨rfl,hb7⟩;have ho7:OwnB w7 (w2.heap.size+1) v (0::([raw.size,m+1,Q,T,D].take k).flatMap putV):=HX.out.2.1.below hb7 (Nat.le_refl _);have hf7:Five w7 F raw.size (m+1) Q T D:=(hb7.block _ (Array.getElem?_eq_some_iff.1 HX.out.1).1).trans HX.out.1;have hs7:w2.heap.size+1<=w7.heap.size:=by have:=hb7.size;have:=HX.out.2.2.2;omega
     have hb77:Below w2.heap.size w2 w7:=HX.out.2.2.1.trans (hb7.mono (by have:=HX.out.2.2.2;omega));have HX7:=Lib.hid (And.intro hf7 (And.intro ho7 (And.intro hs7 hb77)));clear hb7 ho7 hf7 hs7 hb77 HX hcell HP;go_wp2_with (at_builtin;refine appendS (vtxt N) HX7.out.2.1 HAC.out HX7.out.2.2.1 ?_;intro A1 n1 c1 w8 hn1 hown8 hb8 hg8)
     have hne:v.ownBlock≠some F:=Lib.ownBlock_ne HX7.out.2.1 HX7.out.1 (by decide);have hf8:Five w8 F raw.size (m+1) Q T D:=(hg8.block _ (Array.getElem?_eq_some_iff.1 HX7.out.1).1 (fun e=>hne e.symm)).trans HX7.out.1;rw[vtxt_list] at hown8;exact⟨⟨k+1,_,rfl,by go_num,by omega,hf8,by rw[HTK.out];exact hown8,HX7.out.2.2.2.trans (hb8.mono (by omega)),by have:=hb8.size;have:=HX7.out.2.2.1;omega⟩,by simp[intOf];omega⟩
    ·obtain rfl:k=5:=by omega
     have hflat:=flat_le [raw.size,m+1,Q,T,D] HL5.out;have HO:=Lib.hid (show OwnB wr (w2.heap.size+1) v (0::(hd5 l).flatMap putV) by rw[H5.out];exact HX.out.2.1);have hacc:(0::(hd5 l).flatMap putV).length+raw.size<=1099511627776:=by rw[List.length_cons,H5.out];simp only[List.length_cons,List.length_nil] at hflat;omega
     have HAC:=Lib.hid hacc;have HB:=Lib.hid (And.intro HX.out.2.2.1 HX.out.2.2.2);clear hflat hacc HX;go_wp2_with (at_builtin;refine appendS raw HO.out HAC.out HB.out.2 ?_;intro A1 n1 c1 w8 hn1 hown8 hb8 hg8)
     obtain⟨A',c',hv',hc1,hc2,hrd8⟩:=hown8.rd;cases hv'
     have hstr:=run_str (c:=c1) hrd8;obtain⟨S,hS⟩:∃S:ByteArray,S=⟨((0::(hd5 l).flatMap putV)++raw.data.toList).toArray⟩:=⟨_,rfl⟩
     have hblk:S=⟨(blk l arr).toArray⟩:=by
      rw[hS];unfold blk mode body;rw[if_neg (by rw[HIP.out];simpa using hlt),if_neg (by rw[HIP.out];simpa using hlt),HRR.out.1];rfl
     have HBK:=Lib.hid hblk;have HB8:=Lib.hid (HB2.out.trans ((HB.out.1.trans (hb8.mono (by omega))).mono HB2.out.size));rw[hstr,<-hS];clear hstr hS hblk hown8 hb8 hg8 hrd8 hc1 hc2;go_wp2_with fail
     go_ret2
     exact⟨⟨S,by rw[HE.out];rfl,fun h=>absurd HE.out h,fun _=>⟨arr,HSO.out,HBK.out⟩⟩,HB8.out⟩
theorem enc_any (A:Option Addr) (n c:Nat) (l:List (Int×Int×ByteArray)) (w:World) (hrd:Rd w w.heap.size 3 A n (fl3 l)) (hn:n<=100000) :
  Calls Tryz.prog 15 #[.slice A n c] w fun e w'=>EncAns l e/\Below w.heap.size w w':=by
 by_cases he:encE l=0
 ·exact enc_yes A n c l w hrd hn he
 ·exact enc_err A n c l w hrd hn he
end Bk
end Go.Proofs.YtlnbjikooadmoaaGreat
namespace Go.Proofs.YtlnbjikooadmoaaGreat
namespace Bt
theorem bl_le {n k:Nat} (h:n<2^k):bl n<=k:=by
 rcases Nat.eq_zero_or_pos n with rfl|hn
 ·simp[bl]
 ·obtain⟨h1,-,h3⟩:=bl_spec n hn
  have h4:2^(bl n-1)<2^k:=by omega
  have:=(Nat.pow_lt_pow_iff_right (by omega)).1 h4;omega
theorem bl_add (a b:Nat):bl (a+b)<=bl a+bl b+1:=by
 rcases Nat.eq_zero_or_pos a with rfl|ha
 ·rw[Nat.zero_add];omega
 rcases Nat.eq_zero_or_pos b with rfl|hb
 ·rw[Nat.add_zero];omega
 obtain⟨-,h1,-⟩:=bl_spec a ha;obtain⟨-,h2,-⟩:=bl_spec b hb;refine bl_le ?_;have e1:2^bl a<=2^(bl a+bl b):=Nat.pow_le_pow_right (by omega) (by omega);have e2:2^bl b<=2^(bl a+bl b):=Nat.pow_le_pow_right (by omega) (by omega);rw[Nat.pow_succ];omega
end Bt
namespace Tb
def gl (m:Nat):Nat:=if m=0 then 0 else 3+2*Bt.bl m
theorem tb_len:∀(R:List (Int×Int)) (last:Int),Good last R->gl (flat R).length<=(tb R).length
 | [],_,_=>by simp[gl,flat]
 |x::R,last,h=>by
  have ih:=tb_len R x.1 h.2.2.2.2;have hx:=h.2.2.2.1;have e:tb (x::R)=(Bt.toB 4 x.1.toNat++Bt.gam x.2.toNat)++tb R:=rfl;have e2:(flat (x::R)).length=x.2.toNat+(flat R).length:=by
   show(List.replicate x.2.toNat x.1++flat R).length=_
   simp
  rw[e,e2,List.length_append,List.length_append,Bt.length_toB,Bt.length_gam _ (by omega)];have h1:=(Bt.bl_spec x.2.toNat (by omega)).2.2;have h2:=Bt.bl_add x.2.toNat (flat R).length;unfold gl at *
  rw[if_neg (by omega)];split at ih
  ·rename_i h0
   rw[h0,Nat.add_zero];omega
  ·omega
end Tb
namespace Hf
theorem hb_big (syms:List Int):21<=(hb syms).length:=by
 have hg:=Tb.runs_good (lns syms) (lns_good syms).rng;have h1:=Tb.tb_len _ _ hg.1;rw[hg.2,length_lns] at h1;have h2:Tb.gl 257=21:=by decide +kernel
 unfold hb;rw[List.length_append];omega
end Hf
namespace Bk
open Vi Sq Rd
theorem packed_big (s:List UInt8) (A:List Nat):6<=(packed s A).length:=by
 have h3:=Hf.hb_big (sy s A);have h4:=Bt.length_byt (Hf.hb (sy s A));have:=length_putV_pos s.length;have:=length_putV_pos (Bw.pri A);have:=length_putV_pos (sy s A).length;have:Hf.hbyt (sy s A)=Bt.byt (Hf.hb (sy s A)):=rfl;unfold packed;simp only[List.length_append,this];omega
theorem isP_short {l:List (Int×Int×ByteArray)} (A:List Nat) (h:(joinB l).length<=6):isP l A=false:=by
 have:=packed_big (joinB l) A;unfold isP;rw[decide_eq_false_iff_not];omega
def hi:ByteArray:=⟨#[104,105]⟩
def l0:List (Int×Int×ByteArray):=[(1,300,hi)]
def b0:ByteArray:=⟨#[0,6,1,1,172,2,0,1,172,2,2,104,105]⟩
theorem put1:putV 1=[1]:=by rw[putV_small (by omega)];rfl
theorem put2:putV 2=[2]:=by rw[putV_small (by omega)];rfl
theorem put0:putV 0=[0]:=by rw[putV_small (by omega)];rfl
end Bk
end Go.Proofs.YtlnbjikooadmoaaGreat
namespace Go.Proofs.YtlnbjikooadmoaaGreat
namespace Bk
open Go.RowKit Tk Vi Sq Rd
theorem peek_yes (s:ByteArray) {md raw count first early late:Nat} {r:List UInt8} (w:World) (hs:s.size<=1000000) (h:peekB s.data.toList=some (md,raw,count,first,early,late,r)) :
  Calls Tryz.prog 36 #[.string s] w fun e w'=>e=.returned (.tuple #[magg 0 0 raw count first early late,.int .i64 0])/\Below w.heap.size w w':=by
 refine(Peek_any s w hs).mono ?_;rintro e w' ⟨⟨md',raw',count',first',early',late',r',h',rfl⟩|⟨h',-⟩,hb⟩
 ·rw[h] at h'
  simp only[Option.some.injEq,Prod.mk.injEq] at h';obtain⟨-,rfl,rfl,rfl,rfl,rfl,-⟩:=h';exact⟨rfl,hb⟩
 ·rw[h] at h';cases h'
end Bk
end Go.Proofs.YtlnbjikooadmoaaGreat
namespace Go.Proofs.YtlnbjikooadmoaaGreat
namespace Rg
open Go.RowKit Go.Shelf
variable {F:Fence} {n:Nat} {P:Program}
structure Ks (S:Nat->Prop) (W W':World):Prop where
 size:W.heap.size<=W'.heap.size
 same:∀k o,W.heap[k]? =some o->o.isCells=true->S k->W'.heap[k]? =some o
theorem Ks.trans {S:Nat->Prop} {A B C:World} (h:Ks S A B) (k:Ks S B C):Ks S A C:=⟨Nat.le_trans h.size k.size,fun i o hi ho hS=>k.same i o (h.same i o hi ho hS) ho hS⟩
theorem Ks.putObj {S:Nat->Prop} {W:World} {l:Nat} {o:Obj} (o':Obj) (h:W.heap[l]? =some o) (ho:o.isCells=false):Ks S W (W.putObj l o'):=by
 refine⟨(grownBy_putObj' W l o').size,fun k p hk hp _=>?_⟩;rw[World.putObj_heap_other (by rintro rfl;rw[h] at hk;cases hk;rw[ho] at hp;cases hp)];exact hk
def Gives {α:Type} (F:Fence) (n:Nat) (P:Program) (g:Nat) (lb:Array Value) (enc:α->Value) (R:Nat->Prop) (b:Nat) (xs:List α) (w:World):Prop :=
 ∀(l:Nat) (J:List α->(Nat->Prop)->World->Prop) (W:World),Below w.heap.size w W ->
  (∀pre S S' W1 W2,J pre S W1->W1.grownBy W2 (some b)->(∀k,S' k->S k∨W1.heap.size<=k/\k<W2.heap.size)->J pre S' W2) ->
  (∀pre x rest S W1,xs=pre++x::rest->J pre S W1->YieldAt F (n-1) P l #[enc x] W1 fun e W'=>e=.returned (.bool true)/\J (pre++[x]) S W'/\Ks S W1 W') ->
  J [] R W ->
  CallsIn F n P g (#[.func (.yield l) #[] #[]]++lb) W fun e W'=>(∃v,e=.returned v)/\ ∃S,J xs S W'
theorem wpIn_range_own {α:Type} {g:Operand} {p:Tmp} {assign body:Code} {Q:Exit->Act->World->Prop} {a:Act} {w:World}
  (hro:F.round=none) (h1:1<=n) {gf:Nat} {lb:Array Value} (hg:a.eval g=.func (.func gf) #[] lb) (hFg:F.fn gf) (eg:∀args w,(callFunc gf args).run P w=.ok (.enter gf args) w)
  {enc:α->Value} {R:Nat->Prop} {b:Nat} {xs:List α} (hb:b<w.heap.size) (hseq:Gives F (n-1) P gf lb enc R b xs w)
  (I:List α->(Nat->Prop)->World->Prop) (hI:∀pre S S' W W' row,I pre S W->W.grownBy W' row->(∀r,row=some r->r=b∨w.heap.size<=r/\ ∃o:Obj,W.heap[r]? =some o/\o.isCells=false) ->
   (∀k,S' k->S k∨W.heap.size<=k/\k<W'.heap.size)->I pre S' W')
  (h0:I [] R w) (Ax:List α->α->(Nat->Prop)->Act->World->Prop)
  (hAx:∀pre x S a' W W' row,Ax pre x S a' W->W.grownBy W' row->(∀r,row=some r->r=b∨w.heap.size<=r/\ ∃o:Obj,W.heap[r]? =some o/\o.isCells=false)->Ax pre x S a' W')
  (hassign:∀(l:Nat) (pre:List α) (x:α) (rest:List α) (S:Nat->Prop) (W:World),xs=pre++x::rest->I pre S W ->
   assign.wpIn (F.inRound l) (n-1-1) P (Exit.then (fun a' W'=>KeepsOthers W W'/\Ks S W W'/\Ax pre x S a' W') (fun _ _ _=>False)) { tmps:=(#[p].zip #[enc x]).foldl (fun t (p,v)=>t.setIfInBounds p v) a.tmps,defers:=[] } W)
  (hbody:∀(l:Nat) (pre:List α) (x:α) (rest:List α) (S:Nat->Prop) (a':Act) (W:World),xs=pre++x::rest->Ax pre x S a' W ->
   body.wpIn (F.inRound l) (n-1-1) P (fun e _ W'=>e=.normal/\KeepsOthers W W'/\Ks S W W'/\I (pre++[x]) S W') a' W)
  (hdone:∀(D:Nat) (S:Nat->Prop) (W:World),w.heap.size<=D->I xs S W->W.heap[D]? =some (.deferred (some []))->Q .normal { a with defers:={ target:=.collected D,args:=#[] }::a.defers } W) :
  (Code.rangeFunc g #[p] assign body).wpIn F n P Q a w:=by
 refine wpIn_rangeFunc ?_;intro fn hfn;rw[hro];obtain⟨rec,hrec⟩:∃rec:LoopState->Option Code->Loop,rec=fun st pe=>{ state:=st,pending:=pe,fn,tmps:=a.tmps,params:=#[p],assign,body,defers:=w.heap.size }:=⟨_,rfl⟩
 obtain⟨W1,hW1⟩:∃W1,(w.alloc (.deferred (some []))).alloc (.loop (rec .ready none))=W1:=⟨_,rfl⟩
 have hL1:W1.heap[w.heap.size+1]? =some (.loop (rec .ready none)):=by
  rw[<-hW1];have:=World.alloc_heap_new (w.alloc (.deferred (some []))) (.loop (rec .ready none));rwa [World.size_alloc] at this
 have hK1:W1.heap[w.heap.size]? =some (.deferred (some [])):=by
  rw[<-hW1];exact(Below.heap_alloc _ _ _ (by simp)).trans (World.alloc_heap_new w _)
 have hIa:∀pre S W o,I pre S W->I pre S (W.alloc o):=fun pre S W o h=>hI pre S S W _ none h (World.grownBy_alloc W o none) (fun r e=>by cases e) (fun _ h=>.inl h)
 have hIp:∀pre S W l (o o':Obj),I pre S W->w.heap.size<=l->W.heap[l]? =some o->o.isCells=false->I pre S (W.putObj l o'):=fun pre S W l o o' h hl ho hc =>
  hI pre S S W _ (some l) h (grownBy_putObj' W l o') (fun r e=>by cases e;exact .inr ⟨hl,o,ho,hc⟩) (fun _ h=>.inl h)
 have hI1:I [] R W1:=by rw[<-hW1];exact hIa _ _ _ _ (hIa _ _ _ _ h0)
 have hb1:Below w.heap.size w W1:=by
  rw[<-hW1];exact((Below.refl _ w).alloc (Nat.le_refl _) _).alloc (by simp) _
 refine⟨w.heap.size+1,[{ target:=.collected w.heap.size,args:=#[] }],W1,{ target:=.fn (.func gf) lb,args:=#[.func (.yield (w.heap.size+1)) #[] #[]] },W1,gf,
  #[.func (.yield (w.heap.size+1)) #[] #[]]++lb,W1,?_,?_,?_,?_,fun _=>h1,?_⟩
 ·rw[<-hW1,hrec];exact run_enterLoop_outer _ _ _ _ _
 ·simp only[resolve,hg]
  simp[go_sem]
 ·intro f' hf';simp[Target.leads] at hf';subst hf';exact hFg
 ·simp[invoke,go_sem,eg]
 ·have hst:∀{A B:World} {k:Nat} {o:Obj},A.grownBy B (some b)->w.heap.size<=k->A.heap[k]? =some o->B.heap[k]? =some o:=fun hgr hk ho =>
   (hgr.block _ (Array.getElem?_eq_some_iff.1 ho).1 (by intro e;cases e;omega)).trans ho
  refine(hseq (w.heap.size+1)
   (fun pre S W=>I pre S W/\W.heap[w.heap.size+1]? =some (.loop (rec .ready none))/\W.heap[w.heap.size]? =some (.deferred (some [])))
   W1 hb1 (fun pre S S' A B hs hgr hS=>⟨hI pre S S' A B _ hs.1 hgr (fun r e=>by cases e;exact .inl rfl) hS,hst hgr (by omega) hs.2.1,hst hgr (by omega) hs.2.2⟩) ?_ ⟨hI1,hL1,hK1⟩).mono ?_
  ·rintro pre x rest S W hxs ⟨hi,hl,hk⟩
   have hlt:w.heap.size+1<W.heap.size:=(Array.getElem?_eq_some_iff.1 hl).1;have hy:=run_yield (P:=P) (args:=#[enc x]) hl (by rw[hrec];rfl);rw[hrec] at hy;refine⟨fn,_,assign,body,hy,roundIn_of_wpIn hfn (wpIn_mono (hassign (w.heap.size+1) pre x rest S W hxs hi) ?_)⟩;rintro e a' W' hp;cases e with
   |normal =>
    obtain⟨hk0,hkc0,hax⟩:=hp;have hl0:=hk0.same _ _ hl rfl;have hk00:=hk0.same _ _ hk rfl;have hlt0:w.heap.size+1<W'.heap.size:=(Array.getElem?_eq_some_iff.1 hl0).1;refine⟨_,run_beginRound hl0 (by rw[hrec]),?_⟩;have hl2:(W'.putObj (w.heap.size+1) (.loop { rec .ready none with state:=.busy })).heap[w.heap.size+1]? =some (.loop { rec .ready none with state:=.busy }):=World.putObj_heap_same hlt0;have hk2:(W'.putObj (w.heap.size+1) (.loop { rec .ready none with state:=.busy })).heap[w.heap.size]? =some (.deferred (some [])):=(World.putObj_heap_other (by omega)).trans hk00;have hw2:Ks S W (W'.putObj (w.heap.size+1) (.loop { rec .ready none with state:=.busy })):=hkc0.trans (Ks.putObj _ hl0 rfl);refine wpIn_mono (hbody _ pre x rest S a' _ hxs (hAx _ _ _ _ _ _ (some (w.heap.size+1)) hax (grownBy_putObj' _ _ _) (fun r e=>by cases e;exact .inr ⟨by omega,_,hl0,rfl⟩))) ?_;rintro e a3 W3 ⟨rfl,hk3,hkp3,hi3⟩;have hl3:=hk3.same _ _ hl2 rfl;have hr:=run_endRound (P:=P) none hl3;rw[hrec] at hr hl3;refine⟨_,_,hr,rfl,⟨hIp _ _ _ _ _ _ hi3 (by omega) hl3 rfl,?_,(World.putObj_heap_other (by omega)).trans (hk3.same _ _ hk2 rfl)⟩,(hw2.trans hkp3).trans (Ks.putObj _ hl3 rfl)⟩;rw[hrec];exact World.putObj_heap_same (Array.getElem?_eq_some_iff.1 hl3).1
   |ret=>exact hp.elim
   |exit id=>exact hp.elim
   |goto t=>exact hp.elim
   |panic ch=>exact hp.elim
   |outgrown=>exact hp.elim
  ·rintro e W2 ⟨⟨v,rfl⟩,S,hi,hl,hk⟩
   exact⟨none,_,by have:=run_endLoop (P:=P) hl (by rw[hrec];simp);rw[hrec] at this;exact this,hdone _ S _ (Nat.le_refl _) (hIp _ _ _ _ _ _ hi (by omega) hl rfl) ((World.putObj_heap_other (by omega)).trans hk)⟩
end Rg
end Go.Proofs.YtlnbjikooadmoaaGreat
namespace Go.Proofs.YtlnbjikooadmoaaGreat
namespace Fm
open Go.RowKit Go.Shelf Cr Rg
section
variable {F:Fence} {n:Nat} {P:Program} {ops:Array Oper} {rest:List Oper} {op:Oper} {a:Act} {w:World} {Q:Exit->Act->World->Prop}
theorem wpListIn_alloc_zero (hgd:op.guard=none) (t:TypeId) (ho:op.op=.alloc t) (z:Value) (k:Nat) (hz:(P.info? t).map (fun i=>(i.zero,i.size))=some (some z,k))
  (h:wpListIn F n P ops Q rest (a.put op.dst (.pointer (some ⟨w.heap.size,0,none⟩))) (w.alloc (.cells z.cells t))):wpListIn F n P ops Q (op::rest) a w:=by
 refine wpListIn_plain hgd fun K hK=>?_
 have hz1:=(zero_of_info hz).1 w;unfold Oper.wpIn;refine⟨?_,?_⟩
 ·simp[Oper.about,ho]
 ·rw[Oper.semAt_plain F _ _ (by rw[ho];intro c hc';cases hc')]
  simp only[execOp,ho,Instr.alloc,Sem.run_bind,hz1,Result.andThen_ok];exact hK _ _ h
theorem wpListIn_store_new (w0:World) (c:Array Value) (hgd:op.guard=none) (t:TypeId) (x y:Operand) (ho:op.op=.store t x y) (z:Array Value) (hx:a.eval x=.pointer (some ⟨w0.heap.size,0,none⟩)) (hy:a.eval y=.agg z)
  (hi:(P.info? t).map (·.size)=some z.size) (hc:c.size=z.size) (h1:z.all (·.oneCell')=true)
  (h:wpListIn F n P ops Q rest (a.put op.dst undef) (w0.alloc (.cells z t))):wpListIn F n P ops Q (op::rest) a (w0.alloc (.cells c t)):=by
 refine wpListIn_plain hgd fun K hK=>?_
 unfold Oper.wpIn;refine⟨?_,?_⟩
 ·simp[Oper.about,ho]
 ·rw[Oper.semAt_plain F _ _ (by rw[ho];intro c hc';cases hc')]
  simp only[execOp,ho,hx,hy,Instr.storeAt,Instr.sureAddr,Sem.run_bind,Sem.run_pure,Result.andThen_ok,run_storeVar_new w0 t c z hi hc h1];exact hK _ _ h
end
abbrev Fr:=Nat×ByteArray×Nat×Nat
def fr (s:ByteArray) (p:Nat):Fr:=(by4 s.data.toList p,fbody s p,p,fto s p)
def fv (x:Fr):Value:=fagg x.1 x.2.1 x.2.2.1 x.2.2.2
theorem GF_to {s:ByteArray} {p:Nat} (h:GF s p):p+9<=fto s p/\fto s p<=s.size:=by
 have:=h.2.2.2.1;unfold fto fn;omega
def frs (s:ByteArray) (p:Nat):List Fr:=if _h:GF s p then fr s p::frs s (fto s p) else[]
termination_by s.size-p
decreasing_by have:=GF_to _h;omega
theorem frs_yes {s:ByteArray} {p:Nat} (h:GF s p):frs s p=fr s p::frs s (fto s p):=by rw[frs,dif_pos h]
theorem frs_no {s:ByteArray} {p:Nat} (h: ¬ GF s p):frs s p=[]:=by rw[frs,dif_neg h]
def One (w:World) (b:Nat) (v:Value) (t:TypeId):Prop:=w.heap[b]? =some (.cells #[v] t (0,0))
theorem One.cell {w:World} {b:Nat} {v:Value} {t:TypeId} (h:One w b v t):w.cell? ⟨b,0,none⟩=some v:=by rw[cell_of_row w b 0 _ _ (0,0) h];rfl
theorem One.fz {w:World} {b:Nat} {v:Value} {t:TypeId} (h:One w b v t):w.frozen? ⟨b,0,none⟩=false:=frozen_of_row w b 0 _ _ h
theorem One.lt {w:World} {b:Nat} {v:Value} {t:TypeId} (h:One w b v t):b<w.heap.size:=(Array.getElem?_eq_some_iff.1 h).1
theorem One.below {w w':World} {b B:Nat} {v:Value} {t:TypeId} (h:One w b v t) (hb:Below B w w') (hB:b<B):One w' b v t:=(hb.block b hB).trans h
theorem One.set {w:World} {b:Nat} {v:Value} {t:TypeId} (h:One w b v t) (u:Value):One (w.setCell ⟨b,0,none⟩ u) b u t:=by
 unfold One at *;simp[World.setCell,Array.getElem?_modify,h]
theorem One.far {w:World} {b g j:Nat} {v:Value} {t:TypeId} (h:One w b v t) (hn:b≠g) (u:Value):One (w.setCell ⟨g,j,none⟩ u) b v t:=(Below.heap_setCell w ⟨g,j,none⟩ u b hn).trans h
theorem One.ks {w w':World} {b:Nat} {v:Value} {t:TypeId} {S:Nat->Prop} (h:One w b v t) (hk:Ks S w w') (hS:S b):One w' b v t:=hk.same _ _ h rfl hS
theorem grown_one (W:World) (b:Nat) (v:Value):W.grownBy (W.setCell ⟨b,0,none⟩ v) (some b):=by
 refine⟨rfl,rfl,rfl,by simp,fun k _ hk=>?_⟩;exact Below.heap_setCell W ⟨b,0,none⟩ v k (by rintro rfl;exact hk rfl)
theorem grown_below {W W':World} {r:Option Nat} (h:Below W.heap.size W W'):W.grownBy W' r:=⟨h.os,h.tape,h.output,h.size,fun k hk _=>h.block k hk⟩
set_option maxHeartbeats 6400000 in
set_option maxRecDepth 100000 in
theorem frames1_gives (n bs ba:Nat) (s:ByteArray) (p:Nat) (w:World) (hs:s.size<=1000000) (hp:p<=1000000)
  (cs:One w bs (.string s) 9) (ca:One w ba (.int .i64 (p:Int)) 3) (hne:bs≠ba) :
  Gives Fence.wide n Tryz.prog 155 #[.pointer (some ⟨bs,0,none⟩),.pointer (some ⟨ba,0,none⟩)] fv (fun k=>k=bs∨k=ba) ba (frs s p) w:=by
 intro l J W hW hJ hY h0;have hz:(Tryz.prog.info? 151).map (fun i=>(i.zero,i.size))=some (some (.agg (Array.replicate 256 (.int .u32 0))),256):=by kernel_rfl
 have hsz:(Tryz.prog.info? 151).map (·.size)=some 256:=by kernel_rfl
 have HZ:=Lib.hid hz;have HSI:=Lib.hid hsz;have HTL:=Lib.hid (show TB.size=256 by unfold TB;rw[List.size_toArray,length_vu,length_n256]);have HT1:=Lib.hid (show TB.all (·.oneCell')=true from all_oneCell_toArray (vu_one _));have HT:=Lib.hid (table_any W);have HJb:=Lib.hid (fun(pre:List Fr) (S:Nat->Prop) (W1 W2:World) (h:J pre S W1) (hb:Below W1.heap.size W1 W2)=>hJ pre S S W1 W2 h (grown_below hb) (fun _ h=>.inl h));have HJ:=Lib.hid hJ;have HY:=Lib.hid hY;have H0:=Lib.hid (And.intro h0 (And.intro (cs.below hW cs.lt) (ca.below hW ca.lt)));clear hz hsz hJ hY h0 cs ca hW;refine callsIn_of_wp Tryz.func155 rfl trivial ?_ rfl;simp only[Tryz.ntmps155,List.size_toArray,List.length_cons,List.length_nil,Nat.reduceAdd,Nat.reduceSub,Array.replicate_succ,Array.replicate_zero,List.push_toArray,List.append_toArray,List.nil_append,List.cons_append]
 gi_wp2_with fail
 refine⟨trivial,(fun h=>by cases h),(callsIn_wide.2 HT.out).mono ?_⟩;rintro e1 w1 ⟨rfl,hb1⟩;have H1:=Lib.hid (And.intro (HJb.out _ _ _ _ H0.out.1 hb1) (And.intro (H0.out.2.1.below hb1 H0.out.2.1.lt) (H0.out.2.2.below hb1 H0.out.2.2.lt)));have HB2:=Lib.hid (ext_alloc w1 (.cells TB 151));have H2:=Lib.hid (And.intro (HJ.out _ _ (fun k=>k=bs∨k=ba∨k=w1.heap.size) _ _ H1.out.1 (grown_below HB2.out) (by rintro k (h|h|h);exact .inl (.inl h);exact .inl (.inr h);exact .inr (by subst h;simp))) (And.intro (H1.out.2.1.below HB2.out H1.out.2.1.lt) (And.intro (H1.out.2.2.below HB2.out H1.out.2.2.lt) (tb_row w1))));clear hb1 HT H0 H1 HB2;generalize TB=Z at *
 gi_wp2_with (first|(refine wpListIn_alloc_zero rfl 151 rfl _ _ HZ.out ?_)|(refine wpListIn_store_new w1 (Array.replicate 256 (.int .u32 0)) rfl 151 (.tmp 4) (.tmp 7) rfl Z (by simp[go_sem,Act.eval]) (by simp[go_sem,Act.eval]) (by rw[HTL.out];exact HSI.out) (by rw[HTL.out];simp) HT1.out ?_))
 obtain⟨T,hT⟩:∃T,T=w1.heap.size:=⟨_,rfl⟩
 rw[<-hT] at H2 ⊢;generalize w1.alloc (.cells Z 151)=w2 at *
 clear hT;simp only[Act.put,List.setIfInBounds_toArray,List.set_cons_zero,List.set_cons_succ]
 gi_loopg [] (s.size+2) (fun kx wr=>∃(q:Nat) (pre:List Fr),q<=1000000/\s.size+1-q<kx/\Hid (frs s p=pre++frs s q/\J pre (fun k=>k=bs∨k=ba∨k=T) wr/\One wr bs (.string s) 9/\One wr ba (.int .i64 (q:Int)) 3/\Au wr T (n256 tb)))
 case atStart=>exact⟨p,[],by omega,by omega,Lib.hid ⟨rfl,H2.out.1,H2.out.2.1,H2.out.2.2.1,H2.out.2.2.2⟩⟩
 case round =>
  clear H2;obtain⟨q,pre,hq,hkx,H⟩:=hrel;have hc1:=H.out.2.2.1.cell;have hc2:=H.out.2.2.2.1.cell;have HG:=Lib.hid (get_any T s q wr H.out.2.2.2.2 hs (by omega))
  gi_wp2_with fail
  refine⟨trivial,(fun h=>by cases h),(callsIn_wide.2 HG.out).mono ?_⟩;rintro e3 w3 ⟨ha,hb3⟩;have hT3:T<w3.heap.size:=Nat.lt_of_lt_of_le H.out.2.2.2.2.lt hb3.size;have H3:=Lib.hid (And.intro (HJb.out _ _ _ _ H.out.2.1 hb3) (And.intro (H.out.2.2.1.below hb3 H.out.2.2.1.lt) (And.intro (H.out.2.2.2.1.below hb3 H.out.2.2.2.1.lt) (H.out.2.2.2.2.below hb3 H.out.2.2.2.2.lt))));have HE:=Lib.hid H.out.1;clear hb3 HG H hc1 hc2;rcases ha with ⟨hgf,rfl⟩|⟨hgf,x,hx,rfl⟩
  ·have hto:=GF_to hgf
   have HX:=Lib.hid (show frs s p=pre++fr s q::frs s (fto s q) by rw[HE.out,frs_yes hgf]);have hb4:=ext_alloc w3 (.cells #[.int .i64 ((by4 s.data.toList q:Nat):Int),.string (fbody s q),.int .i64 (q:Int),.int .i64 ((fto s q:Nat):Int)] 92);have H4:=Lib.hid (And.intro (HJ.out _ _ (fun k=>k=bs∨k=ba∨k=T∨k=w3.heap.size) _ _ H3.out.1 (grown_below hb4) (by rintro k (h|h|h|h);exact .inl (.inl h);exact .inl (.inr (.inl h));exact .inl (.inr (.inr h));exact .inr (by subst h;simp))) (And.intro (H3.out.2.1.below hb4 H3.out.2.1.lt) (And.intro (H3.out.2.2.1.below hb4 H3.out.2.2.1.lt) (And.intro (H3.out.2.2.2.below hb4 H3.out.2.2.2.lt) (show Fb _ w3.heap.size _ _ _ _ from heap_alloc_new w3 (.cells #[.int .i64 ((by4 s.data.toList q:Nat):Int),.string (fbody s q),.int .i64 (q:Int),.int .i64 ((fto s q:Nat):Int)] 92))))));obtain⟨fnn,tmps,assign,body,hy,hR⟩:=HY.out pre (fr s q) (frs s (fto s q)) _ _ HX.out H4.out.1;have HR:=Lib.hid hR;dsimp only[fv,fr,fagg] at hy;unfold fagg;clear hb4 hgf H3 hR
   gi_wp2_with fail
   refine⟨(fun h=>by cases h),HR.out.mono ?_⟩;rintro e5 w5 ⟨rfl,hJ5,hk5⟩;have hs5:=H4.out.2.1.ks hk5 (.inl rfl);have ha5:=H4.out.2.2.1.ks hk5 (.inr (.inl rfl));have ht5:Au w5 T (n256 tb):=⟨hk5.same _ _ H4.out.2.2.2.1.1 rfl (.inr (.inr (.inl rfl))),H4.out.2.2.2.1.2⟩
   have hf5:Fb w5 w3.heap.size _ _ _ _:=hk5.same _ _ H4.out.2.2.2.2 rfl (.inr (.inr (.inr rfl)));have hc3:=hf5.c3;have hcA:=ha5.cell;have hfA:=ha5.fz;have hTba:T≠ba:=by
    rintro rfl;have h1:=ha5;have h2:=ht5.1;unfold One at h1;rw[h1] at h2;simp at h2
   have H5:=Lib.hid (And.intro (HJ.out _ _ (fun k=>k=bs∨k=ba∨k=T) _ _ hJ5 (grown_one w5 ba (.int .i64 ((fto s q:Nat):Int))) (by rintro k (h|h|h);exact .inl (.inl h);exact .inl (.inr (.inl h));exact .inl (.inr (.inr (.inl h))))) (And.intro (hs5.far (j:=0) hne (.int .i64 ((fto s q:Nat):Int))) (And.intro (ha5.set (.int .i64 ((fto s q:Nat):Int))) (show Au (w5.setCell ⟨ba,0,none⟩ (.int .i64 ((fto s q:Nat):Int))) T (n256 tb) from⟨(Below.heap_setCell w5 ⟨ba,0,none⟩ _ T hTba).trans ht5.1,ht5.2⟩))));have HX2:=Lib.hid (show frs s p=(pre++[fr s q])++frs s (fto s q) by rw[HX.out];simp);clear hJ5 hk5 hs5 ha5 ht5 hf5 hTba H4 HR HX HE hy
   gi_wp2_with fail
   gi_roundg (s.size+1-fto s q+1)
   case measure=>omega
   case rel=>exact⟨fto s q,pre++[fr s q],by omega,by omega,Lib.hid ⟨HX2.out,H5.out⟩⟩
  ·have HX:=Lib.hid (show frs s p=pre by rw[HE.out,frs_no hgf,List.append_nil])
   have hb4:=ext_alloc w3 (.cells #[.int .i64 0,.string ⟨#[]⟩,.int .i64 0,.int .i64 0] 92);have H4:=Lib.hid (HJb.out _ _ _ _ H3.out.1 hb4);have hxb:(x != 0)=true:=by simp[hx]
   unfold fagg;clear hb4 hgf H3
   gi_wp2_with fail
   refine⟨(fun _ h=>by cases h),?_⟩
   gi_wp2_with fail
   refine bodyPost_ret (results_none rfl _ _ _) rfl ?_;exact⟨⟨_,rfl⟩,_,by rw[HX.out];exact H4.out⟩
end Fm
end Go.Proofs.YtlnbjikooadmoaaGreat
