/- strings.Builder: Len, String: the shelf's contracts at this dump (written by the kit's lay-shelf.mjs and lay-plain.mjs; cut to two). strings.Builder: copyCheck, WriteString. record: what its functions compute: plain lists, no program. record.Check. Slices of records (structs of three cells). varveref15: Check, Row. varveref02.Put. The reference's words, runs and bits: the same numbers. Plain lists, no program. varveref04: Digits, Gamma. varveref04: Gamma; append of all numbers of a slice. varveref04.Text. varveref06: begun, place, moved, Ranks. record.Row. -/
import Derived.Shelf.Strings.Builder1
import Derived.Test.YtjligbmickfbdaaGreatRows
import Derived.Test.YtjligbmickfbdaaGreatBe15
import Derived.Test.YtjligbmickfbdaaGreatBe24
import Derived.Test.YtjligbmickfbdaaGreatBe40
import Derived.Deep.LoopGhost
import Derived.Test.YtjligbmickfbdaaGreatBe39
import Derived.Test.YtjligbmickfbdaaGreatBe14
import Derived.Test.YtjligbmickfbdaaGreatBe23
import Derived.Test.YtjligbmickfbdaaGreatBe03
import Derived.BigRegion
import Derived.Test.YtjligbmickfbdaaGreatBe01
namespace Go.Proofs
open Go.Shelf
def Tryz.lays170_ren:Go.Shelf.Ren:=⟨fun|170=>65|n=>n,fun|70=>101|3=>3|0=>0|72=>103|37=>65|5=>5|n=>n,fun|n=>n⟩
theorem Tryz.lays170:Go.Proofs.Lays.n170 Tryz.prog Tryz.lays170_ren:={
 mixed:=by kernel_rfl
 f170:=Tryz.func65.trans (congrArg some (by kernel_rfl))
 t0:=Tryz.underlying0
 a0:=Tryz.isAgg0
 z0:=Tryz.sizeOf0
 v0:=Tryz.zeroValue0
 t3:=Tryz.underlying3
 a3:=Tryz.isAgg3
 z3:=Tryz.sizeOf3
 v3:=Tryz.zeroValue3
 t37:=Tryz.underlying65
 a37:=Tryz.isAgg65
 z37:=Tryz.sizeOf65
 v37:=Tryz.zeroValue65
 t70:=Tryz.underlying101
 a70:=Tryz.isAgg101
 z70:=Tryz.sizeOf101
 v70:=Tryz.zeroValue101
 t72:=Tryz.underlying103
 a72:=Tryz.isAgg103
 z72:=Tryz.sizeOf103
 v72:=Tryz.zeroValue103 }
open Go.RowKit in
theorem Tryz.Builder_Len (B b:Nat) (bs:List Value) (w:World) (h:Lib.IsBuilder 103 5 B b bs w) :
  Calls Tryz.prog 65 #[.pointer (some ⟨b,0,none⟩)] w fun e w'=>e=.returned (.int .i64 bs.length)/\w'=w:=Any.Builder_Len Tryz.lays170 B b bs w h
def Tryz.lays169_ren:Go.Shelf.Ren:=⟨fun|169=>67|n=>n,fun|70=>101|9=>9|0=>0|72=>103|37=>65|127=>162|3=>3|5=>5|n=>n,fun|n=>n⟩
theorem Tryz.lays169:Go.Proofs.Lays.n169 Tryz.prog Tryz.lays169_ren:={
 mixed:=by kernel_rfl
 f169:=Tryz.func67.trans (congrArg some (by kernel_rfl))
 t0:=Tryz.underlying0
 a0:=Tryz.isAgg0
 z0:=Tryz.sizeOf0
 v0:=Tryz.zeroValue0
 t3:=Tryz.underlying3
 a3:=Tryz.isAgg3
 z3:=Tryz.sizeOf3
 v3:=Tryz.zeroValue3
 t9:=Tryz.underlying9
 a9:=Tryz.isAgg9
 z9:=Tryz.sizeOf9
 v9:=Tryz.zeroValue9
 t37:=Tryz.underlying65
 a37:=Tryz.isAgg65
 z37:=Tryz.sizeOf65
 v37:=Tryz.zeroValue65
 t70:=Tryz.underlying101
 a70:=Tryz.isAgg101
 z70:=Tryz.sizeOf101
 v70:=Tryz.zeroValue101
 t72:=Tryz.underlying103
 a72:=Tryz.isAgg103
 z72:=Tryz.sizeOf103
 v72:=Tryz.zeroValue103
 t127:=Tryz.underlying162
 a127:=Tryz.isAgg162
 z127:=Tryz.sizeOf162
 v127:=Tryz.zeroValue162 }
theorem Tryz.Builder_Extra_169:Builder.Extra Tryz.prog Tryz.lays169_ren:={
 sizeBuilder:=by kernel_rfl
 liesBuilder:=by kernel_rfl
 t5:=Tryz.underlying5
 a5:=Tryz.isAgg5
 z5:=Tryz.sizeOf5
 v5:=Tryz.zeroValue5
 infoByte:=by kernel_rfl
 cellsByte:=by kernel_rfl
 sizeByte:=by kernel_rfl
 neB5:=by decide }
open Go.RowKit in
theorem Tryz.Builder_String_any (B b:Nat) (l:List UInt8) (w:World) (h:Lib.IsBuilder 103 5 B b (Lib.byteCells l) w) (hBw:B<=w.heap.size) :
  Calls Tryz.prog 67 #[.pointer (some ⟨b,0,none⟩)] w fun e w'=>e=.returned (.string ⟨l.toArray⟩)/\Below B w w':=Any.Builder_String_any Tryz.lays169 Tryz.Builder_Extra_169 B b l w h hBw
end Go.Proofs
namespace Go.Proofs.YtjligbmickfbdaaGreat
namespace Bd
open Go.RowKit
def Bb (w:World) (B b:Nat) (l:List UInt8):Prop:=Lib.IsBuilder 103 5 B b (bv l) w
theorem bb_size:(Tryz.prog.info? 103).map (·.size)=some 2:=by kernel_rfl
theorem bb_lies:liesAt Tryz.prog Tryz.prog.depth 103 (2/Tryz.prog.cellsOf 103) 0 103 1=true:=by kernel_rfl
theorem bb_ne:103≠5:=by decide
theorem bb_u:Tryz.prog.underlying 101=some (.pointer 103):=by kernel_rfl
theorem bb_p:Tryz.prog.underlying 196=some .unsafePointer:=by kernel_rfl
set_option maxHeartbeats 1600000 in
set_option maxRecDepth 100000 in
theorem copyCheck_used (b:Nat) (w:World) (h0:w.cell? ⟨b,0,none⟩=some (.pointer (some ⟨b,0,none⟩))) :
  Calls Tryz.prog 108 #[.pointer (some ⟨b,0,none⟩)] w fun e w'=>e=.returned (.tuple #[])/\w'=w:=by
 obtain⟨j,hj,_⟩:=Option.map_eq_some_iff.1 bb_size
 go_enter Tryz.func108, Tryz.ntmps108
 go_wp2
 rw[Lib.run_neq_ptr_same w _ bb_u hj];go_wp2
 go_end0
 exact⟨rfl,rfl⟩
set_option maxHeartbeats 1600000 in
set_option maxRecDepth 100000 in
theorem copyCheck_fresh (b:Nat) (w:World) (h0:w.cell? ⟨b,0,none⟩=some (.pointer none)) (hsh:w.shape? b=some (103,2)) (hfz:w.frozen? ⟨b,0,none⟩=false) :
  Calls Tryz.prog 108 #[.pointer (some ⟨b,0,none⟩)] w fun e w'=>e=.returned (.tuple #[])/\w'=w.setCell ⟨b,0,none⟩ (.pointer (some ⟨b,0,none⟩)):=by
 obtain⟨j,hj,hjs⟩:=Option.map_eq_some_iff.1 bb_size
 go_enter Tryz.func108, Tryz.ntmps108
 go_wp2
 rw[Lib.run_to_unsafe w ⟨b,0,none⟩ bb_u bb_p hj (by rw[hjs];decide) hsh (Nat.zero_lt_succ 1)];simp only[Result.andThen];rw[Oper.upon_value];go_wp2
 rw[run_callFunc_extern Tryz.func140 (by kernel_rfl) (by kernel_rfl) (by kernel_rfl) (e:=Extern.AbiNoEscape.same) (by kernel_rfl)];rw[Lib.run_noEscape];simp only[Result.andThen];rw[Oper.upon_value];go_wp2
 rw[Lib.run_from_unsafe w ⟨b,0,none⟩ bb_p bb_u hj hsh bb_lies];simp only[Result.andThen];rw[Oper.upon_value];go_wp2
 go_end0
 exact⟨rfl,rfl⟩
theorem copyCheck_any (B b:Nat) (l:List UInt8) (w:World) (h:Bb w B b l) :
  Calls Tryz.prog 108 #[.pointer (some ⟨b,0,none⟩)] w fun e w'=>e=.returned (.tuple #[])/\(Lib.BuilderAt 103 5 B b (.pointer (some ⟨b,0,none⟩)) (bv l) w'/\Below B w w'):=by
 rcases h with h|h
 ·refine(copyCheck_fresh b w h.cell0 h.shape h.frozen0).mono ?_
  rintro e w' ⟨rfl,rfl⟩;exact⟨rfl,h.used _,(Below.refl B w).setCell (p:=⟨b,0,none⟩) h.1 _⟩
 ·refine(copyCheck_used b w h.cell0).mono ?_
  rintro e w' ⟨rfl,rfl⟩;exact⟨rfl,h,Below.refl B _⟩
theorem strCells_eq (s:ByteArray):Lib.strCells s=bv s.data.toList:=rfl
set_option maxHeartbeats 3200000 in
set_option maxRecDepth 100000 in
theorem write_any (B b:Nat) (l:List UInt8) (s:ByteArray) (w:World) (h:Bb w B b l) (hl:l.length+s.size<=1099511627776) (hBw:B<=w.heap.size) :
  Calls Tryz.prog 66 #[.pointer (some ⟨b,0,none⟩),.string s] w fun e w'=>e=.returned (.tuple #[.int .i64 s.size,.nilIface])/\Bb w' B b (l++s.data.toList)/\Below B w w':=by
 obtain⟨i0,hi,hz0,hz1,hz2⟩:=info_parts byte_info;have hbl:(bv l).length=l.length:=bv_length l;have HC:=Lib.hid (copyCheck_any B b l w h);clear h
 go_enter Tryz.func66, Tryz.ntmps66
 go_wp2_with fail
 refine HC.out.mono ?_;rintro e w1 ⟨rfl,h1,hb1⟩;obtain⟨hB,v,hbk,hown,hne⟩:=h1;have c0:w1.cell? ⟨b,0,none⟩=some (.pointer (some ⟨b,0,none⟩)):=by rw[Lib.cell_of_heap hbk];rfl
 have c1:w1.cell? ⟨b,1,none⟩=some v:=by rw[Lib.cell_of_heap hbk];rfl
 clear HC;go_wp2_with (at_builtin;refine Lib.wpList_append_own_string _ rfl _ _ 65 9 rfl B 5 i0 (by kernel_rfl) (by kernel_rfl) hi hz0 hz1 hz2 _ _ _ rfl hown s rfl ?c3 ?c4 ?c5 ?_)
 case c3=>unfold maxLen;omega
 case c4=>omega
 case c5=>have:=hb1.size;omega
 intro v' w2 hown' hgrow _;have hlt:b<w1.heap.size:=by
  rcases Nat.lt_or_ge b w1.heap.size with h'|h'
  ·exact h'
  ·simp[Array.getElem?_eq_none h'] at hbk
 have hb2:w2.heap[b]? =some (.cells #[.pointer (some ⟨b,0,none⟩),v] 103 (0,0)):=by
  rw[hgrow.block b hlt (fun e=>hne e.symm)];exact hbk
 have d0:w2.cell? ⟨b,0,none⟩=some (.pointer (some ⟨b,0,none⟩)):=by rw[Lib.cell_of_heap hb2];rfl
 have d1:w2.cell? ⟨b,1,none⟩=some v:=by rw[Lib.cell_of_heap hb2];rfl
 have f1:w2.frozen? ⟨b,1,none⟩=false:=Lib.frozen_of_heap hb2 1;obtain⟨ao,n',cap,rfl⟩:∃ao n' cap,v'=.slice ao n' cap:=by
  rcases hown'.2 with ⟨hv,_⟩|⟨g,cap,cur,hv,_⟩
  ·exact⟨_,_,_,hv⟩
  ·exact⟨_,_,_,hv⟩
 have HX:=Lib.hid (show Bb (w2.setCell ⟨b,1,none⟩ (.slice ao n' cap)) B b (l++s.data.toList)/\Below B w (w2.setCell ⟨b,1,none⟩ (.slice ao n' cap)) from by
  refine⟨.inr ?_,((hb1.grown hgrow (by have:=hb1.size;omega) (fun k hk=>(hown.lt k hk).1)).setCell (p:=⟨b,1,none⟩) hB _)⟩;refine Lib.BuilderAt.put (T:=103) (e:=5) hB hb2 (bs':=bv (l++s.data.toList)) ?_ bb_ne;rw[bv_append,List.length_append,hbl,<-strCells_eq];simpa[Lib.strCells_length] using hown')
 clear hown hown' hgrow hb1 hbk hb2 hne hlt;go_wp2_with fail
 go_ret2
 exact⟨rfl,HX.out⟩
theorem byteCells_eq (l:List UInt8):Lib.byteCells l=bv l:=rfl
theorem len_any (B b:Nat) (l:List UInt8) (w:World) (h:Bb w B b l) :
  Calls Tryz.prog 65 #[.pointer (some ⟨b,0,none⟩)] w fun e w'=>e=.returned (.int .i64 (l.length:Int))/\w=w':=by
 refine(Tryz.Builder_Len B b (bv l) w h).mono ?_;rintro e w' ⟨rfl,rfl⟩;exact⟨by rw[bv_length],rfl⟩
theorem string_any (B b:Nat) (l:List UInt8) (w:World) (h:Bb w B b l) (hB:B<=w.heap.size) :
  Calls Tryz.prog 67 #[.pointer (some ⟨b,0,none⟩)] w fun e w'=>e=.returned (.string ⟨l.toArray⟩)/\Below B w w' :=
 Tryz.Builder_String_any B b l w h hB
theorem bb_new (w:World):Bb (w.alloc (.cells #[.pointer none,.slice none 0 0] 103)) w.heap.size w.heap.size []:=Lib.fresh_isBuilder _ _ w
theorem Bb.lt {w:World} {B b:Nat} {l:List UInt8} (h:Bb w B b l):b<w.heap.size:=by
 rcases h with h|h
 ·exact h.lt
 ·exact h.lt
theorem Bb.keep {w w':World} {B b:Nat} {l:List UInt8} (h:Bb w B b l) (_hs:w.heap.size<=w'.heap.size) (hb:∀k,B<=k->k<w.heap.size->w'.heap[k]? =w.heap[k]?):Bb w' B b l:=by
 have key:∀p,Lib.BuilderAt 103 5 B b p (bv l) w->Lib.BuilderAt 103 5 B b p (bv l) w':=by
  intro p hp;have hlt:=hp.lt;obtain⟨hB,v,hbk,hown,hne⟩:=hp;refine⟨hB,v,(hb b hB hlt).trans hbk,?_,hne⟩;rcases hown with ⟨h1,h2⟩
  refine⟨h1,?_⟩;rcases h2 with h2|⟨g,cap,cur,hv,hg,hc,hr⟩
  ·exact .inl h2
  ·exact .inr ⟨g,cap,cur,hv,hg,(hb g hg (Array.getElem?_eq_some_iff.1 hc).1).trans hc,hr⟩
 rcases h with h|h
 ·exact .inl (key _ h)
 ·exact .inr (key _ h)
end Bd
end Go.Proofs.YtjligbmickfbdaaGreat
namespace Go.Proofs.YtjligbmickfbdaaGreat
namespace Rd
open Vi Sq
def ok1 (r:Int×Int×ByteArray):Bool:=decide (1<=r.1/\r.1<=1000000000/\0<=r.2.1/\r.2.1<=1000000000/\r.2.2.size<=2000)
theorem ok1_iff (r:Int×Int×ByteArray):ok1 r=true↔1<=r.1/\r.1<=1000000000/\0<=r.2.1/\r.2.1<=1000000000/\r.2.2.size<=2000:=by simp[ok1]
def off:Option (Int×Int×ByteArray)->Int×Int×ByteArray->Bool
 |none,_=>false
 |some p,r=>decide (r.1≠p.1+1∨r.2.1<p.2.1)
def rowE:Option (Int×Int×ByteArray)->List (Int×Int×ByteArray)->Int
 |_,[]=>0
 |p,r::l=>if ok1 r=false then 150 else if off p r=true then 151 else rowE (some r) l
def recB (r:Int×Int×ByteArray):List UInt8:=putV r.1.toNat++(putV r.2.1.toNat++(putV r.2.2.size++r.2.2.data.toList))
def joinB (l:List (Int×Int×ByteArray)):List UInt8:=l.flatMap recB
def jE (l:List (Int×Int×ByteArray)):Int:=if rowE none l≠0 then rowE none l else if 20000<(joinB l).length then 3 else 0
def fin:Nat->List Nat->List UInt8->Int×List Nat×List UInt8
 |0,acc,b=>(0,acc,b)
 |k+1,acc,b=>if(gv 0 0 b).2.2≠0 then((gv 0 0 b).2.2,acc,[]) else fin k (acc++[(gv 0 0 b).1]) (b.drop (gv 0 0 b).2.1)
def rec1 (b:List UInt8):Option ((Int×Int×ByteArray)×List UInt8):=match fin 3 [] b with
 |(0,[q,t,n],r)=>if q<1∨1000000000<q∨1000000000<t∨2000<n then none else if r.length<n then none else some (((q:Int),(t:Int),⟨(r.take n).toArray⟩),r.drop n)
 |_=>none
def spl:Nat->List UInt8->Option (List (Int×Int×ByteArray))
 |0,b=>if b=[] then some [] else none
 |n+1,b=>if b=[] then some [] else match rec1 b with
  |none=>none
  |some x=>(spl n x.2).map (x.1:: ·)
def split (b:List UInt8):Option (List (Int×Int×ByteArray)):=if 20000<b.length then none else match spl b.length b with
 |none=>none
 |some l=>if rowE none l≠0 then none else some l
theorem fin_put (n:Nat) (hn:n<9223372036854775808) (k:Nat) (acc:List Nat) (r:List UInt8):fin (k+1) acc (putV n++r)=fin k (acc++[n]) r:=by
 rw[fin,gv_put n hn,if_neg (by simp)];simp
theorem recB_length (r:Int×Int×ByteArray):3<=(recB r).length:=by
 have:=length_putV_pos r.1.toNat;have:=length_putV_pos r.2.1.toNat;have:=length_putV_pos r.2.2.size;unfold recB;simp only[List.length_append];omega
theorem rec1_put (r:Int×Int×ByteArray) (h:ok1 r=true) (b:List UInt8):rec1 (recB r++b)=some (r,b):=by
 obtain⟨q,t,d⟩:=r;rw[ok1_iff] at h;simp only at h;obtain⟨q,rfl⟩:=Int.eq_ofNat_of_zero_le (show 0<=q by omega);obtain⟨t,rfl⟩:=Int.eq_ofNat_of_zero_le (show 0<=t by omega);have hd:d.data.toList.length=d.size:=rfl;unfold rec1 recB;simp only[List.append_assoc,Int.toNat_natCast];rw[fin_put q (by omega),fin_put t (by omega),fin_put d.size (by omega)];simp only[fin,List.nil_append,List.cons_append];rw[if_neg (by omega),if_neg (by simp only[List.length_append];omega)];rw[List.take_left' hd,List.drop_left' hd]
theorem fin_some:∀(k:Nat) (acc:List Nat) (b:List UInt8) (ns:List Nat) (r:List UInt8),fin k acc b=(0,ns,r)-> ∃l:List Nat,l.length=k/\ns=acc++l/\b=l.flatMap putV++r/\ ∀n∈l,n<9223372036854775808
 |0,acc,b,ns,r,h=>by
  simp only[fin,Prod.mk.injEq,true_and] at h;exact⟨[],rfl,by simp[h.1],by simp[h.2],by simp⟩
 |k+1,acc,b,ns,r,h=>by
  rw[fin] at h;split at h
  ·rename_i hc
   simp only[Prod.mk.injEq] at h;exact absurd h.1 hc
  rename_i hc
  obtain⟨l,hl,hns,hb,hlt⟩:=fin_some k _ _ _ _ h;obtain⟨n,rest,hb1,hv,hu,hn,-⟩:=gv_some b 0 0 (gv 0 0 b).1 (gv 0 0 b).2.1 (by
   have:(gv 0 0 b).2.2=0:=by simpa using hc
   rw[<-this])
  simp only[Nat.pow_zero,Nat.mul_one,Nat.zero_add] at hv hu;have hdr:b.drop (gv 0 0 b).2.1=rest:=by
   rw[hu]
   conv=>lhs;rw[hb1]
   simp
  rw[hdr] at hb;rw[hv] at hns;refine⟨n::l,by simp[hl],by simp[hns],?_,?_⟩
  ·rw[List.flatMap_cons,List.append_assoc,<-hb];exact hb1
  ·intro x hx
   rcases List.mem_cons.1 hx with rfl|hx
   ·simpa using hn
   ·exact hlt x hx
theorem rec1_some (b:List UInt8) (r:Int×Int×ByteArray) (b':List UInt8) (h:rec1 b=some (r,b')):ok1 r=true/\b=recB r++b':=by
 unfold rec1 at h;split at h
 ·rename_i q t n rr he
  obtain⟨l,hl,hns,hb,-⟩:=fin_some 3 [] b _ _ he;simp only[List.nil_append] at hns;subst hns;split at h
  ·simp at h
  split at h
  ·simp at h
  rename_i h1 h2
  simp only[Option.some.injEq,Prod.mk.injEq] at h;obtain⟨rfl,rfl⟩:=h;have e:(⟨(rr.take n).toArray⟩:ByteArray).size=n:=by
   have:(⟨(rr.take n).toArray⟩:ByteArray).size=(rr.take n).length:=by simp[ByteArray.size]
   rw[this,List.length_take];omega
  refine⟨?_,?_⟩
  ·rw[ok1_iff]
   simp only[e];omega
  ·rw[hb]
   unfold recB;simp only[Int.toNat_natCast,e];simp[List.append_assoc]
 ·simp at h
theorem spl_join:∀(l:List (Int×Int×ByteArray)) (n:Nat),(∀r∈l,ok1 r=true)->(joinB l).length<=n->spl n (joinB l)=some l
 | [],n,_,_=>by cases n<;>simp[spl,joinB]
 |r::l,n,h,hn=>by
  have e:joinB (r::l)=recB r++joinB l:=List.flatMap_cons ..;have h3:=recB_length r;rw[e,List.length_append] at hn;obtain⟨n,rfl⟩:∃m,n=m+1:=⟨n-1,by omega⟩
  rw[e,spl,if_neg (by intro e2;have:=congrArg List.length e2;simp at this;rw[this.1] at h3;simp at h3),rec1_put r (h r (List.mem_cons_self ..))];simp only;rw[spl_join l n (fun x hx=>h x (List.mem_cons_of_mem _ hx)) (by omega)];rfl
theorem spl_some:∀(n:Nat) (b:List UInt8) (l:List (Int×Int×ByteArray)),spl n b=some l->b=joinB l/\ ∀r∈l,ok1 r=true
 |0,b,l,h=>by
  rw[spl] at h;split at h
  ·simp only[Option.some.injEq] at h;subst h;rename_i hb;simp[hb,joinB]
  ·simp at h
 |n+1,b,l,h=>by
  rw[spl] at h;split at h
  ·simp only[Option.some.injEq] at h;subst h;rename_i hb;simp[hb,joinB]
  split at h
  ·simp at h
  rename_i x hx
  obtain⟨l',hl',rfl⟩:=Option.map_eq_some_iff.1 h;obtain⟨h1,h2⟩:=spl_some n x.2 l' hl';obtain⟨h3,h4⟩:=rec1_some b x.1 x.2 hx;refine⟨?_,?_⟩
  ·rw[h4,h1];exact(List.flatMap_cons ..).symm
  ·intro r hr
   rcases List.mem_cons.1 hr with rfl|hr
   ·exact h3
   ·exact h2 r hr
theorem rowE_ok:∀(l:List (Int×Int×ByteArray)) (p:Option (Int×Int×ByteArray)),rowE p l=0-> ∀r∈l,ok1 r=true
 | [],_,_=>by simp
 |r::l,p,h=>by
  rw[rowE] at h;split at h;·simp at h
  split at h;·simp at h
  rename_i h1 _
  intro x hx;rcases List.mem_cons.1 hx with rfl|hx
  ·simpa using h1
  ·exact rowE_ok l _ h x hx
theorem split_join (l:List (Int×Int×ByteArray)) (h:jE l=0):split (joinB l)=some l:=by
 unfold jE at h;split at h
 ·rename_i h1;exact absurd h h1
 split at h;·simp at h
 rename_i h1 h2
 have h1:rowE none l=0:=by simpa using h1
 unfold split;rw[if_neg h2,spl_join l _ (rowE_ok l _ h1) (Nat.le_refl _)];simp[h1]
theorem split_some (b:List UInt8) (l:List (Int×Int×ByteArray)) (h:split b=some l):b=joinB l/\jE l=0:=by
 unfold split at h;split at h;·simp at h
 split at h;·simp at h
 rename_i h2 _ l' hl'
 split at h;·simp at h
 rename_i h3
 simp only[Option.some.injEq] at h;subst h;obtain⟨h4,-⟩:=spl_some _ _ _ hl';refine⟨h4,?_⟩;unfold jE;rw[if_neg h3,if_neg (by rw[<-h4];exact h2)]
end Rd
end Go.Proofs.YtjligbmickfbdaaGreat
namespace Go.Proofs.YtjligbmickfbdaaGreat
namespace Rd
open Go.RowKit Vi
def rv (r:Int×Int×ByteArray):Value:=.agg #[.int .i64 r.1,.int .i64 r.2.1,.string r.2.2]
def cE (r:Int×Int×ByteArray):Int:=if ok1 r=true then 0 else 150
theorem cE_ok {r:Int×Int×ByteArray} (h:ok1 r=true):cE r=0:=if_pos h
theorem cE_no {r:Int×Int×ByteArray} (h: ¬ ok1 r=true):cE r=150:=if_neg h
set_option maxHeartbeats 3200000 in
theorem check_any (q t:Int) (d:ByteArray) (w:World) :
  Calls Tryz.prog 107 #[.agg #[.int .i64 q,.int .i64 t,.string d]] w fun e w'=>e=.returned (.int .i64 (cE (q,t,d)))/\Below w.heap.size w w':=by
 by_cases h:ok1 (q,t,d)=true
 ·rw[cE_ok h]
  rw[ok1_iff] at h;simp only at h;have h1: ¬ q<1:=by omega
  have h2: ¬ 1000000000<q:=by omega
  have h3: ¬ t<0:=by omega
  have h4: ¬ 1000000000<t:=by omega
  have h5: ¬ (2000:Int)<(d.size:Int):=by omega
  clear h
  go_enter Tryz.func107, Tryz.ntmps107
  go_wp2_with fail
  go_ret
  exact⟨rfl,ext_alloc w _⟩
 ·rw[cE_no h]
  rw[ok1_iff] at h;simp only at h;by_cases h1:q<1
  ·go_enter Tryz.func107, Tryz.ntmps107
   go_wp2_with fail
   go_ret
   exact⟨rfl,ext_alloc w _⟩
  by_cases h2:1000000000<q
  ·go_enter Tryz.func107, Tryz.ntmps107
   go_wp2_with fail
   go_ret
   exact⟨rfl,ext_alloc w _⟩
  by_cases h3:t<0
  ·go_enter Tryz.func107, Tryz.ntmps107
   go_wp2_with fail
   go_ret
   exact⟨rfl,ext_alloc w _⟩
  by_cases h4:1000000000<t
  ·go_enter Tryz.func107, Tryz.ntmps107
   go_wp2_with fail
   go_ret
   exact⟨rfl,ext_alloc w _⟩
  have h5:(2000:Int)<(d.size:Int):=by omega
  go_enter Tryz.func107, Tryz.ntmps107
  go_wp2_with fail
  go_ret
  exact⟨rfl,ext_alloc w _⟩
end Rd
end Go.Proofs.YtjligbmickfbdaaGreat
namespace Go.Proofs.YtjligbmickfbdaaGreat
namespace Rd
open Go.RowKit
def cl3 (r:Int×Int×ByteArray):List Value:=[.int .i64 r.1,.int .i64 r.2.1,.string r.2.2]
def fl3 (l:List (Int×Int×ByteArray)):List Value:=l.flatMap cl3
theorem fl3_cons (r:Int×Int×ByteArray) (l:List (Int×Int×ByteArray)):fl3 (r::l)=.int .i64 r.1:: .int .i64 r.2.1:: .string r.2.2::fl3 l:=rfl
theorem length_fl3 (l:List (Int×Int×ByteArray)):(fl3 l).length=l.length*3:=by
 induction l with
 |nil=>rfl
 |cons x l ih=>rw[fl3_cons,List.length_cons,List.length_cons,List.length_cons,List.length_cons,ih];omega
theorem fl3_append (a b:List (Int×Int×ByteArray)):fl3 (a++b)=fl3 a++fl3 b:=List.flatMap_append ..
theorem fl3_at (l:List (Int×Int×ByteArray)) (k:Nat) (x:Int×Int×ByteArray) (h:l[k]? =some x) :
  (fl3 l)[k*3]? =some (.int .i64 x.1)/\(fl3 l)[k*3+1]? =some (.int .i64 x.2.1)/\(fl3 l)[k*3+2]? =some (.string x.2.2):=by
 induction l generalizing k with
 |nil=>simp at h
 |cons y l ih =>
  rw[fl3_cons];rcases k with _|k
  ·simp at h;subst h;exact⟨rfl,rfl,rfl⟩
  ·have:=ih k (by simpa using h)
   rw[show(k+1)*3=k*3+1+1+1 by omega];simpa using this
theorem rec3 {w:World} {B n k:Nat} {A:Option Addr} {l:List (Int×Int×ByteArray)} (h:Rd w B 3 A n (fl3 l)) (hk:k<n) :
  ∃ad q t d,A=some ad/\ad.block<B/\l[k]? =some (q,t,d)/\w.cell? (ad.add (k*3))=some (.int .i64 q)/\w.cell? ⟨(ad.add (k*3)).block,(ad.add (k*3)).off+1,none⟩=some (.int .i64 t)/\w.cell? ⟨(ad.add (k*3)).block,(ad.add (k*3)).off+2,none⟩=some (.string d):=by
 obtain⟨ad,e,hb,hc⟩:=h.cells (by omega);have hl:l.length=n:=by have:=h.len;rw[length_fl3] at this;omega
 obtain⟨⟨q,t,d⟩,hx⟩:∃x,l[k]? =some x:=⟨l[k]'(by omega),List.getElem?_eq_getElem (by omega)⟩
 obtain⟨h1,h2,h3⟩:=fl3_at l k _ hx;exact⟨ad,q,t,d,e,hb,hx,hc _ _ h1,by have:=hc _ _ h2;rw[<-add_add] at this;exact this,by have:=hc _ _ h3;rw[<-add_add] at this;exact this⟩
theorem rd3_len {w:World} {B n:Nat} {A:Option Addr} {l:List (Int×Int×ByteArray)} (h:Rd w B 3 A n (fl3 l)):l.length=n:=by
 have:=h.len;rw[length_fl3] at this;omega
def pv (l:List (Int×Int×ByteArray)) (k:Nat):Option (Int×Int×ByteArray):=if k=0 then none else l[k-1]?
theorem row_no {l:List (Int×Int×ByteArray)} {k:Nat} {r:Int×Int×ByteArray} (h:l[k]? =some r) (ho: ¬ ok1 r=true):rowE (pv l k) (l.drop k)=150:=by
 rw[drop_at l k r h,rowE,if_pos (by simpa using ho)]
theorem row_off {l:List (Int×Int×ByteArray)} {k:Nat} {r p:Int×Int×ByteArray} (h:l[k+1]? =some r) (hp:l[k]? =some p) (ho:ok1 r=true) (hf:r.1≠p.1+1∨r.2.1<p.2.1):rowE (pv l (k+1)) (l.drop (k+1))=151:=by
 have e:pv l (k+1)=some p:=by unfold pv;rw[if_neg (by omega),Nat.add_sub_cancel,hp]
 rw[drop_at l (k+1) r h,rowE,if_neg (by simp[ho]),e,if_pos (by simp[off];omega)]
theorem row_on {l:List (Int×Int×ByteArray)} {k:Nat} {r p:Int×Int×ByteArray} (h:l[k+1]? =some r) (hp:l[k]? =some p) (ho:ok1 r=true) (hf: ¬ (r.1≠p.1+1∨r.2.1<p.2.1)) :
  rowE (pv l (k+1)) (l.drop (k+1))=rowE (pv l (k+2)) (l.drop (k+2)):=by
 have e:pv l (k+1)=some p:=by unfold pv;rw[if_neg (by omega),Nat.add_sub_cancel,hp]
 have e2:pv l (k+2)=some r:=by unfold pv;rw[if_neg (by omega),show k+2-1=k+1 by omega,h]
 rw[drop_at l (k+1) r h,rowE,if_neg (by simp[ho]),e,if_neg (by simp[off];omega),e2]
theorem row_on0 {l:List (Int×Int×ByteArray)} {r:Int×Int×ByteArray} (h:l[0]? =some r) (ho:ok1 r=true):rowE (pv l 0) (l.drop 0)=rowE (pv l 1) (l.drop 1):=by
 have e2:pv l 1=some r:=by unfold pv;rw[if_neg (by omega)];exact h
 rw[drop_at l 0 r h,rowE,if_neg (by simp[ho]),e2];rfl
theorem row_end {l:List (Int×Int×ByteArray)} {k:Nat} (h:l.length<=k):rowE (pv l k) (l.drop k)=0:=by rw[List.drop_eq_nil_of_le h];rfl
end Rd
end Go.Proofs.YtjligbmickfbdaaGreat
namespace Go.Proofs.YtjligbmickfbdaaGreat
namespace Rd
open Go.RowKit Vi
set_option maxHeartbeats 3200000 in
theorem refcheck15_any (q t:Int) (d:ByteArray) (w:World) :
  Calls Tryz.prog 109 #[.agg #[.int .i64 q,.int .i64 t,.string d]] w fun e w'=>e=.returned (.int .i64 (cE (q,t,d)))/\Below w.heap.size w w':=by
 by_cases h:ok1 (q,t,d)=true
 ·rw[cE_ok h]
  rw[ok1_iff] at h;simp only at h;have h1: ¬ q<1:=by omega
  have h2: ¬ 1000000000<q:=by omega
  have h3: ¬ t<0:=by omega
  have h4: ¬ 1000000000<t:=by omega
  have h5: ¬ (2000:Int)<(d.size:Int):=by omega
  clear h
  go_enter Tryz.func109, Tryz.ntmps109
  go_wp2_with fail
  go_ret
  exact⟨rfl,ext_alloc w _⟩
 ·rw[cE_no h]
  rw[ok1_iff] at h;simp only at h;by_cases h1:q<1
  ·go_enter Tryz.func109, Tryz.ntmps109
   go_wp2_with fail
   go_ret
   exact⟨rfl,ext_alloc w _⟩
  by_cases h2:1000000000<q
  ·go_enter Tryz.func109, Tryz.ntmps109
   go_wp2_with fail
   go_ret
   exact⟨rfl,ext_alloc w _⟩
  by_cases h3:t<0
  ·go_enter Tryz.func109, Tryz.ntmps109
   go_wp2_with fail
   go_ret
   exact⟨rfl,ext_alloc w _⟩
  by_cases h4:1000000000<t
  ·go_enter Tryz.func109, Tryz.ntmps109
   go_wp2_with fail
   go_ret
   exact⟨rfl,ext_alloc w _⟩
  have h5:(2000:Int)<(d.size:Int):=by omega
  go_enter Tryz.func109, Tryz.ntmps109
  go_wp2_with fail
  go_ret
  exact⟨rfl,ext_alloc w _⟩
set_option maxHeartbeats 6400000 in
set_option maxRecDepth 100000 in
theorem refrow_any (A:Option Addr) (n c:Nat) (l:List (Int×Int×ByteArray)) (w:World) (hrd:Rd w w.heap.size 3 A n (fl3 l)) (hn:n<=1099511627776) :
  Calls Tryz.prog 68 #[.slice A n c] w fun e w'=>e=.returned (.int .i64 (rowE none l))/\Below w.heap.size w w':=by
 have mixed:Tryz.prog.follows .mixedOrders=true:=by kernel_rfl
 have hln:=rd3_len hrd;have HC:=Lib.hid (fun q t d w=>refcheck15_any q t d w);have HR:=Lib.hid hrd;clear hrd
 go_enter Tryz.func68, Tryz.ntmps68
 go_wp2_with fail
 go_loopw [3] (fun v wr=>∃k:Nat,v=.int .i64 k/\k<=n/\Hid (rowE (pv l k) (l.drop k)=rowE none l/\(∀j r,j<k->l[j]? =some r->ok1 r=true)/\Below w.heap.size w wr)) (fun v _=>n-(intOf v).toNat)
 case atStart=>exact⟨0,by go_num,by omega,rfl,fun j r h=>absurd h (by omega),Below.refl _ _⟩
 case round =>
  obtain⟨k,rfl,hk,HX⟩:=hrel;by_cases hkn:k<n
  ·obtain⟨ad,q,t,d,rfl,hbk,hx,hc0,hc1,hc2⟩:=rec3 (HR.out.below HX.out.2.2) hkn
   by_cases ho:ok1 (q,t,d)=true
   ·have hce:=cE_ok ho
    have hok:∀j r,j<k+1->l[j]? =some r->ok1 r=true:=by
     intro j r hj hr;rcases Nat.lt_or_ge j k with h|h
     ·exact HX.out.2.1 j r h hr
     ·obtain rfl:j=k:=by omega
      rw[hx] at hr;cases hr;exact ho
    have HOK:=Lib.hid hok;clear hok;rcases k with _|k
    ·have HRE:=Lib.hid ((row_on0 hx ho).symm.trans HX.out.1)
     have hz:ad.add (0*3)=ad:=by rw[Nat.zero_mul];rfl
     rw[hz] at hc0 hc1 hc2;clear hz;have HB:=Lib.hid HX.out.2.2;go_wp2_with fail
     refine(HC.out _ _ _ _).mono ?_;rintro e1 w1 ⟨rfl,hb1⟩;rw[hce];have HB1:=Lib.hid (ext_trans HB.out hb1);clear hc0 hc1 hc2 hb1 hx HX HB HC;go_wp2_with fail
     go_quiet (fail)
     go_wp2_with fail
     exact⟨⟨1,by go_num,by omega,HRE.out,HOK.out,below_drewN HB1.out _⟩,by simp[intOf];omega⟩
    ·obtain⟨ad',q',t',d',e',hbk',hx',hc0',hc1',-⟩:=rec3 (HR.out.below HX.out.2.2) (show k<n by omega)
     obtain rfl:ad=ad':=by simpa using e'
     have hp:=HX.out.2.1 k _ (by omega) hx';rw[ok1_iff] at hp;simp only at hp;have hp1:=hp.1;have hp2:=hp.2.1;have i1:(((k+1:Nat):Int)-1)=((k:Nat):Int):=by omega
     have i2:(0:Int)<((k+1:Nat):Int):=by omega
     have i3:(k:Int)<(n:Int):=by omega
     have i4:(0:Int)<=(k:Int):=by omega
     have i5:IntKind.i64.wrap (k:Int)=(k:Int):=by rw[IntKind.wrap_i64];omega
     have i6:IntKind.i64.wrap (q'+1)=q'+1:=by rw[IntKind.wrap_i64];omega
     clear hp e';by_cases hf1:q=q'+1
     ·subst hf1
      by_cases hf2:t<t'
      ·have HRE:=Lib.hid ((row_off hx hx' ho (.inr hf2)).symm.trans HX.out.1)
       have HB:=Lib.hid HX.out.2.2;go_wp2_with fail
       refine(HC.out _ _ _ _).mono ?_;rintro e1 w1 ⟨rfl,hb1⟩;rw[hce];have hh:∀p:Addr,p.block<w.heap.size->w1.cell? p=wr.cell? p:=fun p hp=>hb1.cell (by have:=HB.out.size;omega)
       have c0:=(hh _ (by rw[add_block];exact hbk)).trans hc0;have c1:=(hh ⟨(ad.add ((k+1)*3)).block,(ad.add ((k+1)*3)).off+1,none⟩ (by rw[add_block];exact hbk)).trans hc1;have d0:=(hh _ (by rw[add_block];exact hbk')).trans hc0';have d1:=(hh ⟨(ad.add (k*3)).block,(ad.add (k*3)).off+1,none⟩ (by rw[add_block];exact hbk')).trans hc1';have HB1:=Lib.hid (ext_trans HB.out hb1);clear hc0 hc1 hc2 hc0' hc1' hb1 hh hx hx' HX HB HC;go_wp2_with fail
       go_quiet (fail)
       go_wp2_with fail
       go_ret
       exact⟨ret_int HRE.out,below_drewN HB1.out _⟩
      ·have HRE:=Lib.hid ((row_on hx hx' ho (by simp only;omega)).symm.trans HX.out.1)
       have HB:=Lib.hid HX.out.2.2;go_wp2_with fail
       refine(HC.out _ _ _ _).mono ?_;rintro e1 w1 ⟨rfl,hb1⟩;rw[hce];have hh:∀p:Addr,p.block<w.heap.size->w1.cell? p=wr.cell? p:=fun p hp=>hb1.cell (by have:=HB.out.size;omega)
       have c0:=(hh _ (by rw[add_block];exact hbk)).trans hc0;have c1:=(hh ⟨(ad.add ((k+1)*3)).block,(ad.add ((k+1)*3)).off+1,none⟩ (by rw[add_block];exact hbk)).trans hc1;have d0:=(hh _ (by rw[add_block];exact hbk')).trans hc0';have d1:=(hh ⟨(ad.add (k*3)).block,(ad.add (k*3)).off+1,none⟩ (by rw[add_block];exact hbk')).trans hc1';have HB1:=Lib.hid (ext_trans HB.out hb1);clear hc0 hc1 hc2 hc0' hc1' hb1 hh hx hx' HX HB HC;go_wp2_with fail
       go_quiet (fail)
       go_wp2_with fail
       exact⟨⟨k+2,by go_num,by omega,HRE.out,HOK.out,below_drewN HB1.out _⟩,by simp[intOf];omega⟩
     ·have hf4:(q != q'+1)=true:=by rw[bne_iff_ne];exact hf1
      have HRE:=Lib.hid ((row_off hx hx' ho (.inl hf1)).symm.trans HX.out.1);have HB:=Lib.hid HX.out.2.2;go_wp2_with fail
      refine(HC.out _ _ _ _).mono ?_;rintro e1 w1 ⟨rfl,hb1⟩;rw[hce];have hh:∀p:Addr,p.block<w.heap.size->w1.cell? p=wr.cell? p:=fun p hp=>hb1.cell (by have:=HB.out.size;omega)
      have c0:=(hh _ (by rw[add_block];exact hbk)).trans hc0;have c1:=(hh ⟨(ad.add ((k+1)*3)).block,(ad.add ((k+1)*3)).off+1,none⟩ (by rw[add_block];exact hbk)).trans hc1;have d0:=(hh _ (by rw[add_block];exact hbk')).trans hc0';have d1:=(hh ⟨(ad.add (k*3)).block,(ad.add (k*3)).off+1,none⟩ (by rw[add_block];exact hbk')).trans hc1';have HB1:=Lib.hid (ext_trans HB.out hb1);clear hc0 hc1 hc2 hc0' hc1' hb1 hh hx hx' HX HB HC;go_wp2_with fail
      go_quiet (fail)
      go_wp2_with fail
      go_ret
      exact⟨ret_int HRE.out,below_drewN HB1.out _⟩
   ·have hce:=cE_no ho
    have HRE:=Lib.hid ((row_no hx ho).symm.trans HX.out.1);have HB:=Lib.hid HX.out.2.2;go_wp2_with fail
    refine(HC.out _ _ _ _).mono ?_;rintro e1 w1 ⟨rfl,hb1⟩;rw[hce];have HB1:=Lib.hid (ext_trans HB.out hb1);clear hc0 hc1 hc2 hb1 hx HX HB HC;go_wp2_with fail
    go_ret
    exact⟨ret_int HRE.out,HB1.out⟩
  ·obtain rfl:k=n:=by omega
   have HRE:=Lib.hid ((row_end (l:=l) (k:=k) (by omega)).symm.trans HX.out.1);have HB:=Lib.hid HX.out.2.2;clear HX HC;go_wp2_with fail
   go_ret
   exact⟨ret_int HRE.out,HB.out⟩
end Rd
end Go.Proofs.YtjligbmickfbdaaGreat
namespace Go.Proofs.YtjligbmickfbdaaGreat
namespace Rf
open Go.RowKit Vi
theorem conv1 (w:World) (c:UInt8):(convert 65 9 (.slice (some ⟨w.heap.size,0,none⟩) 1 1)).run Tryz.prog (w.alloc (.cells #[.int .u8 (c.toNat:Int)] 5))=.ok (.string ⟨#[c]⟩) (w.alloc (.cells #[.int .u8 (c.toNat:Int)] 5)):=by
 have h:Rd (w.alloc (.cells #[.int .u8 (c.toNat:Int)] 5)) (w.alloc (.cells #[.int .u8 (c.toNat:Int)] 5)).heap.size 1 (some ⟨w.heap.size,0,none⟩) 1 (bv [c]) :=
  ⟨rfl,fun _=>⟨_,rfl,by simp,fun j u hu=>cell_one_new w _ _ j u hu⟩⟩
 exact run_str (c:=1) h
set_option maxHeartbeats 1600000 in
set_option maxRecDepth 100000 in
theorem refput_any:∀(n N:Nat) (w:World),N<n->N<9223372036854775808->Calls Tryz.prog 19 #[.int .i64 (N:Int)] w fun e w'=>e=.returned (.tuple #[.string (vtxt N),.int .i64 0])/\Below w.heap.size w w'
 |0,N,_,h,_=>absurd h (by omega)
 |n+1,N,w,h,hN=>by
  have h0: ¬ (N:Int)<0:=by omega
  by_cases hs:N<128
  ·have h1:(N:Int)<128:=by omega
   have e:vtxt N=⟨#[UInt8.ofNat N]⟩:=by unfold vtxt;rw[putV_small hs]
   rw[e];have hc:=conv1 w (UInt8.ofNat N);rw[<-low7 N hs] at hc
   go_enter Tryz.func19, Tryz.ntmps19
   go_wp2_with fail
   go_ret2
   exact⟨rfl,ext_alloc w _⟩
  ·have h1: ¬ (N:Int)<128:=by omega
   have IH:=Lib.hid (fun w=>refput_any n (N/128) w (by omega) (by omega));have hcc:∀wv:World,(convert 65 9 (.slice (some ⟨wv.heap.size,0,none⟩) 1 1)).run Tryz.prog (wv.alloc (.cells #[.int .u8 (128+(N:Int)%128)] 5))=.ok (.string ⟨#[UInt8.ofNat (N%128+128)]⟩) (wv.alloc (.cells #[.int .u8 (128+(N:Int)%128)] 5)):=fun wv=>by
    have hh:=conv1 wv (UInt8.ofNat (N%128+128));rw[show((UInt8.ofNat (N%128+128)).toNat:Int)=128+(N:Int)%128 by rw[toNat_ofNat _ (by omega)];omega] at hh;exact hh
   have hcc:=Lib.hid hcc;have hl:(vtxt (N/128)).size<=9:=length_putV_le _ 8 (by omega);have hz:(⟨#[UInt8.ofNat (N%128+128)]⟩:ByteArray).size+(vtxt (N/128)).size<=9223372036854775807:=by
    have:(⟨#[UInt8.ofNat (N%128+128)]⟩:ByteArray).size=1:=rfl;omega
   have he:(⟨#[UInt8.ofNat (N%128)+128]⟩:ByteArray)++vtxt (N/128)=vtxt N:=by
    apply ByteArray.ext;rw[ByteArray.data_append];simp[vtxt,putV_step hs]
   generalize hV:vtxt (N/128)=V at *
   generalize hM:vtxt N=M at *
   clear hV hM
   go_enter Tryz.func19, Tryz.ntmps19
   go_wp2_with (go_at_call 19;refine(IH.out _).mono ?_;rintro e1 w1 ⟨rfl,hb1⟩;have hc:=hcc.out w1)
   go_ret2
   exact⟨rfl,ext_trans hb1 (ext_alloc w1 _)⟩
end Rf
end Go.Proofs.YtjligbmickfbdaaGreat
namespace Go.Proofs.YtjligbmickfbdaaGreat
namespace Rf
open Bt Cn Tb
def ib (l:List Bool):List Int:=l.map fun b=>if b then 1 else 0
theorem ib_append (a b:List Bool):ib (a++b)=ib a++ib b:=List.map_append ..
theorem length_ib (l:List Bool):(ib l).length=l.length:=List.length_map ..
structure Wst (l:List Int) (n s next last:Nat):Prop where
 le:last<=n
 eq:next*2^(n-last)=fs l n+rk l s n
section
variable {l:List Int} {n s next last:Nat}
theorem wst_start:Wst l 1 0 0 0:=by
 refine⟨by omega,?_⟩;rw[Nat.zero_mul];unfold rk;rw[List.take_zero];unfold fs fs cn;simp
theorem Wst.miss (h:Wst l n s next last) (hs:s<l.length) (hn:l[s]≠(n:Int)):Wst l n (s+1) next last:=by
 refine⟨h.le,?_⟩;rw[h.eq,rk_succ l s n hs,if_neg (fun x=>hn x.2)];rfl
theorem Wst.two (h:Wst l n s next last) (hl:last<n):Wst l n s (2*next) (last+1):=by
 refine⟨hl,?_⟩;rw[<-h.eq,show n-last=(n-(last+1))+1 by omega,Nat.pow_succ];generalize 2^(n-(last+1))=P;rw[Nat.mul_comm 2 next,Nat.mul_assoc,Nat.mul_comm P 2]
theorem Wst.hit (h:Wst l n s next n) (hs:s<l.length) (h0:n≠0) (hn:l[s]=(n:Int)):next=wd l s/\Wst l n (s+1) (next+1) n:=by
 have e:=h.eq;rw[Nat.sub_self,Nat.pow_zero,Nat.mul_one] at e;refine⟨?_,Nat.le_refl _,?_⟩
 ·unfold wd
  rw[List.getD_eq_getElem?_getD,List.getElem?_eq_getElem hs,Option.getD_some,hn];simpa using e
 ·rw[Nat.sub_self,Nat.pow_zero,Nat.mul_one,rk_succ l s n hs,if_pos ⟨h0,hn⟩];omega
theorem Wst.row (h:Wst l n l.length next last):Wst l (n+1) 0 next last:=by
 refine⟨by have:=h.le;omega,?_⟩;rw[show n+1-last=(n-last)+1 by have:=h.le;omega,Nat.pow_succ,<-Nat.mul_assoc,h.eq];unfold rk;rw[List.take_length,List.take_zero,fs];unfold cn;split<;>simp
theorem Wst.small (h:Wst l n s next last) (hok:Ok l) (hn:n<=15):next<=32768:=by
 have h1:=fits l hok n hn;have h2:=cn_take_le l s n;have h3:=h.eq;have h4:2^n<=2^15:=Nat.pow_le_pow_right (by omega) hn;have h5:1<=2^(n-last):=Nat.one_le_two_pow;have h6:next*1<=next*2^(n-last):=Nat.mul_le_mul_left _ h5;unfold rk at h3;omega
end
theorem runs_take {l:List Int} {i k:Nat} {R:List (Int×Int)} {x:Int} (h:runs (l.take k)=R++[(x,((k-i:Nat):Int))]) (hk:k<l.length) (hx:l[k]=x) (hik:i<k):runs (l.take (k+1))=R++[(x,((k+1-i:Nat):Int))]:=by
 unfold runs at *
 rw[List.take_add_one,List.getElem?_eq_getElem hk,List.foldl_append,h];simp only[Option.toList_some,List.foldl_cons,List.foldl_nil];unfold stepR;rw[List.getLast?_concat];simp only;rw[if_pos hx.symm,List.dropLast_concat];congr 3;omega
theorem runs_new {l:List Int} {k:Nat} {R:List (Int×Int)} (h:runs (l.take k)=R) (hk:k<l.length) (hl:∀y∈R.getLast?,y.1≠l[k]):runs (l.take (k+1))=R++[(l[k],1)]:=by
 unfold runs at *
 rw[List.take_add_one,List.getElem?_eq_getElem hk,List.foldl_append,h];simp only[Option.toList_some,List.foldl_cons,List.foldl_nil];unfold stepR;rcases hg:R.getLast? with _|⟨y,c⟩
 ·rfl
 ·simp only
  rw[if_neg (hl (y,c) hg)]
theorem tb_snoc (R:List (Int×Int)) (x:Int×Int):tb (R++[x])=tb R++(toB 4 x.1.toNat++gam x.2.toNat):=by unfold tb;rw[List.flatMap_append];simp
def addB:Nat->List Bool->Nat
 |0,_=>0
 |k+1,l=>2*addB k l+(if l[k]?.getD false then 1 else 0)
theorem addB_eq (l:List Bool):∀k,addB k l=ofB (l.take k++List.replicate (k-l.length) false)
 |0=>by simp[addB,ofB]
 |k+1=>by
  rw[addB,addB_eq l k];by_cases h:k<l.length
  ·rw[List.take_add_one,List.getElem?_eq_getElem h,show k-l.length=0 by omega,show k+1-l.length=0 by omega]
   simp only[Option.toList_some,List.replicate_zero,List.append_nil,Option.getD_some];rw[ofB_append];simp only[List.length_cons,List.length_nil,ofB];cases l[k]<;>simp<;>omega
  ·rw[List.getElem?_eq_none (by omega),List.take_of_length_le (by omega),List.take_of_length_le (by omega),show k+1-l.length=(k-l.length)+1 by omega,List.replicate_succ',<-List.append_assoc,ofB_append (l++_)]
   simp[ofB];omega
theorem addB_lt (l:List Bool) (k:Nat):addB k l<2^k:=by
 rw[addB_eq];have:=ofB_lt (l.take k++List.replicate (k-l.length) false)
 rwa [show(l.take k++List.replicate (k-l.length) false).length=k by simp;omega] at this
theorem byt_step {l:List Bool} {i:Nat} (h:i<l.length):byt (l.drop i)=UInt8.ofNat (addB 8 (l.drop i))::byt (l.drop (i+8)):=by
 rw[byt,dif_neg (by rw[List.length_drop];omega),addB_eq,List.drop_drop]
end Rf
end Go.Proofs.YtjligbmickfbdaaGreat
namespace Go.Proofs.YtjligbmickfbdaaGreat
namespace Rf
open Go.RowKit Bt
theorem digits_set {wd k N:Nat} (hk:0<k) (hw:k<=wd):(List.replicate k 0++ib (toB (wd-k) N)).set (k-1) ((N/2^(wd-k)%2:Nat):Int)=List.replicate (k-1) 0++ib (toB (wd-(k-1)) N):=by
 obtain⟨j,rfl⟩:∃j,k=j+1:=⟨k-1,by omega⟩
 rw[Nat.add_sub_cancel,List.replicate_succ',List.append_assoc,List.set_append_right _ _ (by simp),List.length_replicate,Nat.sub_self,show wd-j=(wd-(j+1))+1 by omega,toB];congr 1;unfold ib;rw[List.map_cons];show _::_=_
 congr 1;have:N/2^(wd-(j+1))%2=0∨N/2^(wd-(j+1))%2=1:=by omega
 rcases this with h|h<;>rw[h]<;>rfl
set_option maxHeartbeats 3200000 in
set_option maxRecDepth 100000 in
theorem digits_any (N wd:Nat) (w:World) (hw:wd<=32) (hN:N<=4294967295) :
  Calls Tryz.prog 136 #[.int .i64 (N:Int),.int .i64 (wd:Int)] w fun e w'=>∃v b,e=.returned (.tuple #[v,.bool b])/\Own w' w.heap.size v (ib (toB wd N))/\Below w.heap.size w w':=by
 have h0: ¬ (wd:Int)<0:=by omega
 have h1: ¬ (wd:Int)>32:=by omega
 have h2: ¬ (N:Int)<0:=by omega
 go_enter Tryz.func136, Tryz.ntmps136
 go_wp2_with (at_make;(refine make1 (n:=wd) (by omega) (Nat.le_refl w.heap.size) ?_);intro w1 hown1 hg1)
 have hb1:Below w.heap.size w w1:=(Below.refl _ _).grown hg1 (Nat.le_refl _) (by simp);have H0:Aside (Own w1 w.heap.size (.slice (some ⟨w.heap.size,0,none⟩) wd wd) (List.replicate wd 0++ib (toB (wd-wd) N))/\Below w.heap.size w w1):=⟨by rw[Nat.sub_self];simpa[toB,ib] using hown1,hb1⟩
 clear hg1 hown1 hb1;go_loopg [0,7] wd (fun kx s0 s7 wr=>∃(k:Nat),s7=.int .i64 ((k:Int)-1)/\s0=.int .i64 ((N/2^(wd-k):Nat):Int)/\k<=wd/\k<=kx/\Aside (Own wr w.heap.size (.slice (some ⟨w.heap.size,0,none⟩) wd wd) (List.replicate k 0++ib (toB (wd-k) N))/\Below w.heap.size w wr))
 case atStart=>exact⟨wd,by go_num,by rw[Nat.sub_self,Nat.pow_zero,Nat.div_one],by omega,by omega,H0.out⟩
 case round =>
  clear H0;obtain⟨k,rfl,rfl,hk,hkx,H⟩:=hrel;rcases k with _|k
  ·go_wp2_with fail
   go_ret2
   refine⟨_,_,rfl,?_,H.out.2⟩;have:=H.out.1;simpa using this
  ·have hle:N/2^(wd-(k+1))<=N:=Nat.div_le_self _ _
   have hc:=H.out.1.cell (k:=k) (x:=0) (by rw[List.getElem?_append_left (by simp)];simp);have hf:=H.out.1.frozen (k:=k);have HN:Aside _:=Own.put2 (k:=k) H.out ((N/2^(wd-(k+1))%2:Nat):Int);have hs:=digits_set (wd:=wd) (k:=k+1) (N:=N) (by omega) hk;rw[Nat.add_sub_cancel] at hs;rw[hs] at HN;have hn2:N/2^(wd-k)=N/2^(wd-(k+1))/2:=by
    rw[Nat.div_div_eq_div_mul,<-Nat.pow_succ];congr 2;omega
   have HN2:=Lib.hid hn2;generalize N/2^(wd-(k+1))=y at *
   have i1:((k+1:Nat):Int)-1=(k:Int):=by omega
   have i2:(k:Int)>=0:=by omega
   have i3:(k:Int)<(wd:Int):=by omega
   have i4:(0:Int)<=(k:Int):=by omega
   clear hs hn2;rw[i1];go_wp2_with fail
   go_roundg k
   case measure=>omega
   case rel=>exact⟨k,by go_num,by rw[HN2.out];go_num,by omega,by omega,HN.out⟩
end Rf
end Go.Proofs.YtjligbmickfbdaaGreat
namespace Go.Proofs.YtjligbmickfbdaaGreat
namespace Rf
open Go.RowKit Bt
theorem appendAll {ops:Array Oper} {rest:List Oper} {o:Oper} {a:Act} {Q:Exit->Act->World->Prop} {s x:Operand} {B n c:Nat} {A:Option Addr} {v:Value} {l r:List Int} {w:World} (hown:Own w B v l) (hr:Rd w w.heap.size 1 A n (r.map (Value.int .i64))) (hl:l.length<=1099511627776) (hn:n<=1099511627776) (hB:B<=w.heap.size)
  (h:∀A' n' c' w',Hid (n'=l.length+n)->Own w' B (.slice A' n' c') (l++r)->Below B w w'->w.grownBy w' v.ownBlock->wpList Tryz.prog ops Q rest (a.put o.dst (.slice A' n' c')) w')
  (hgd:o.guard=none:=by exact rfl) (ho:o.op=.call { callee:=.builtin .append,args:=#[s,x],argTypes:=#[28,28] }:=by exact rfl)
  (hs:a.eval s=v:=by exact rfl) (hx:a.eval x=.slice A n c:=by exact rfl) :
  wpList Tryz.prog ops Q (o::rest) a w:=by
 obtain⟨i0,hi,hz0,hz1,hz2⟩:=info_parts int_info;refine wpList_append_rd w hgd s x 28 ho B 3 i0 (.int .i64 0) 1 8 Tryz.underlying28 hi hz0 hz1 hz2 rfl (by omega) v l.length (l.map (Value.int .i64)) hs hown
  w.heap.size _ n c (r.map (Value.int .i64)) hx hr ?_ (by simp only[maxLen];omega) (by omega) hB ?_
 ·intro u hu
  obtain⟨y,_,rfl⟩:=List.mem_map.1 hu;rfl
 intro v' w' hown' hg _;have hlt:=World.ownsRow.lt hown;obtain⟨A',c',rfl,_,_⟩:=own_slice hown';have hrl:=hr.len;rw[List.length_map] at hrl;refine h A' _ c' w' rfl ?_ ((Below.refl _ _).grown hg hB (fun k hk=>(hlt k hk).1)) hg;unfold Own;rw[List.length_append,List.map_append,show r.length=n by omega];exact hown'
theorem bl_half {n:Nat} (h:1<n):bl n=bl (n/2)+1:=by
 unfold bl;rw[if_neg (by omega),if_neg (by omega),Nat.log2_def n,if_pos (by omega)]
theorem bl_one:bl 1=1:=by unfold bl;rw[if_neg (by omega)];rfl
theorem bl_le32 {n:Nat} (h0:0<n) (h:n<=4294967295):bl n<=32:=by
 have h1:=(bl_spec n h0).1;have h2:=(bl_spec n h0).2.2;by_cases hh:bl n<=32
 ·exact hh
 ·have:2^32<=2^(bl n-1):=Nat.pow_le_pow_right (by omega) (by omega)
  omega
theorem ib_gam (n:Nat):List.replicate (bl n-1) 0++ib (toB (bl n) n)=ib (gam n):=by
 unfold gam;rw[ib_append,toB_zero];congr 1;unfold ib;rw[List.map_replicate];rfl
set_option maxHeartbeats 3200000 in
set_option maxRecDepth 100000 in
theorem gamma_any (N:Nat) (w:World) (h0:0<N) (hN:N<=4294967295) :
  Calls Tryz.prog 137 #[.int .i64 (N:Int)] w fun e w'=>∃v b,e=.returned (.tuple #[v,.bool b])/\Own w' w.heap.size v (ib (gam N))/\Below w.heap.size w w':=by
 have h1: ¬ (N:Int)<1:=by omega
 have h2: ¬ (N:Int)>4294967295:=by omega
 have hb:=bl_le32 h0 hN;have hb0:=(bl_spec N h0).2.2;have HG:=Lib.hid (ib_gam N);have HD:=Lib.hid (fun w=>digits_any N (bl N) w hb hN);generalize hK:bl N=K at *
 have HK:=Lib.hid hK;clear hK
 go_enter Tryz.func137, Tryz.ntmps137
 go_wp2_with fail
 go_loopg [4,5] N (fun kx s4 s5 wr=>∃(k m:Nat),s4=.int .i64 (k:Int)/\s5=.int .i64 (m:Int)/\m<=kx/\m<=N/\0<m/\k<=31/\Hid (bl m+k=K)/\Aside (w=wr))
 case atStart=>exact⟨0,N,by go_num,by go_num,by omega,by omega,by omega,by omega,HK.out,rfl⟩
 case round =>
  obtain⟨k,m,rfl,rfl,hm,hmN,hm0,hk31,hk,hw⟩:=hrel;obtain rfl:=hw.out;by_cases hm1:1<m
  ·have hbh:=bl_half hm1
   have hkk:=hk.out;have hp:=(bl_spec (m/2) (by omega)).2.2;have hk2:k+1<=31:=by omega
   have hk3:Hid (bl (m/2)+(k+1)=K):=by show _=_;omega
   clear hbh hkk hp;go_wp2_with fail
   go_roundg (m/2)
   case measure=>omega
   case rel=>exact⟨k+1,m/2,by go_num,by go_num,by omega,by omega,by omega,hk2,hk3,rfl⟩
  ·obtain rfl:m=1:=by omega
   have hkk:=hk.out;rw[bl_one] at hkk;obtain rfl:K=k+1:=by omega
   have HG2:=HG.out;rw[Nat.add_sub_cancel] at HG2;have HG2:=Lib.hid HG2;clear hkk HG;go_wp2_with (first|(go_at_call 136;refine(HD.out _).mono ?_;rintro e1 w1 ⟨v1,b1,rfl,hown1,hb1⟩;obtain⟨A1,c1,rfl,-,-,hrd1⟩:=hown1.rd)|(at_make;(refine make1 (n:=k) (by omega) hb1.size ?_);intro w2 hown2 hg2;have hb2:Below w.heap.size w w2:=hb1.grown hg2 hb1.size (by simp);have hbb:=(Below.refl w1.heap.size w1).grown hg2 (Nat.le_refl _) (by simp);have hrd2:=hrd1.ext hbb)|(at_builtin;refine appendAll hown2 hrd2 (by simp;omega) (by rw[length_ib,length_toB];omega) hb2.size ?_;intro A3 n3 c3 w3 hn3 hown3 hb3 hg3))
   go_ret2
   exact⟨_,_,rfl,HG2.out▸hown3,hb2.trans hb3⟩
end Rf
end Go.Proofs.YtjligbmickfbdaaGreat
namespace Go.Proofs.YtjligbmickfbdaaGreat
namespace Rf
open Go.RowKit Bt
theorem ib_at {L:List Bool} {k:Nat} (h:k<L.length):(ib L)[k]? =some (if L[k]?.getD false then 1 else 0):=by
 unfold ib;rw[List.getElem?_map,List.getElem?_eq_getElem h];rfl
theorem byt_none {L:List Bool} {i:Nat} (h:L.length<=i):byt (L.drop i)=[]:=by
 rw[List.drop_eq_nil_of_le h,byt_nil]
theorem addB_in {L:List Bool} {i k:Nat} (h:i+k<L.length):∃y:Nat,(ib L)[i+k]? =some (y:Int)/\y<=1/\addB (k+1) (L.drop i)=2*addB k (L.drop i)+y:=by
 refine⟨if L[i+k]?.getD false then 1 else 0,?_,?_,?_⟩
 ·rw[ib_at h];split<;>rfl
 ·split<;>omega
 ·rw[addB,List.getElem?_drop]
theorem addB_out {L:List Bool} {i k:Nat} (h: ¬ i+k<L.length):addB (k+1) (L.drop i)=2*addB k (L.drop i):=by
 rw[addB,List.getElem?_drop,List.getElem?_eq_none (by omega)];rfl
set_option maxHeartbeats 6400000 in
set_option maxRecDepth 100000 in
theorem text_any (L:List Bool) (A:Option Addr) (n c:Nat) (w:World) (hr:Rd w w.heap.size 1 A n ((ib L).map (Value.int .i64))) (hn:n<=10000000) :
  Calls Tryz.prog 49 #[.slice A n c] w fun e w'=>e=.returned (.string ⟨(byt L).toArray⟩)/\Below w.heap.size w w':=by
 have hL:L.length=n:=by have:=hr.len;rw[List.length_map,length_ib] at this;omega
 have HR:=Lib.hid hr;clear hr
 go_enter Tryz.func49, Tryz.ntmps49
 go_wp2_with fail
 go_loopg [3,4] n (fun kx s3 s4 wr=>∃(i:Nat) (acc:List UInt8),s4=.int .i64 (i:Int)/\i<=n+7/\n-i<=kx/\acc.length<=i/\Hid (acc++byt (L.drop i)=byt L)/\Aside (OwnB wr w.heap.size s3 acc/\Below w.heap.size w wr))
 case atStart=>exact⟨0,[],by go_num,by omega,by omega,by simp,(by show _=_;simp),World.ownsRow_nil _ _ _ _,Below.refl _ _⟩
 case round =>
  obtain⟨i,acc,rfl,hi,hik,hacc,he,H⟩:=hrel;by_cases hlt:i<n
  ·obtain⟨ad,rfl,hblk,hcs⟩:=(HR.out.below H.out.2).cells (show 0<n by omega)
   have hcs:=Lib.hid hcs;go_wp2_with fail
   go_loopg [5,6] 8 (fun kx2 s5 s6 wr2=>∃(k:Nat),s5=.int .i64 (addB k (L.drop i):Int)/\s6=.int .i64 (k:Int)/\k<=8/\8-k<=kx2/\Aside (wr=wr2))
   case atStart=>exact⟨0,by simp[addB],by go_num,by omega,by omega,rfl⟩
   case round =>
    obtain⟨k,rfl,rfl,hk,hk2,hw⟩:=hrel;obtain rfl:=hw.out;have hbd:=addB_lt (L.drop i) k;have hbd2:addB k (L.drop i)<256:=Nat.lt_of_lt_of_le hbd (Nat.pow_le_pow_right (n:=2) (j:=8) (by omega) hk);clear hbd;by_cases hk8:k<8
    ·by_cases hin:i+k<n
     ·obtain⟨y,hy,hy1,hst⟩:=addB_in (L:=L) (i:=i) (k:=k) (by omega)
      have hcell:=hcs.out (i+k) (.int .i64 (y:Int)) (by rw[List.getElem?_map,hy];rfl);have hst:=Lib.hid hst;clear hy;generalize hB:addB k (L.drop i)=B at *
      clear hB;go_wp2_with fail
      go_roundg (7-k)
      case measure=>omega
      case rel=>exact⟨k+1,by rw[hst.out];go_num,by go_num,by omega,by omega,rfl⟩
     ·have hst:=Lib.hid (addB_out (L:=L) (i:=i) (k:=k) (by omega))
      generalize hB:addB k (L.drop i)=B at *
      clear hB;go_wp2_with fail
      go_roundg (7-k)
      case measure=>omega
      case rel=>exact⟨k+1,by rw[hst.out];go_num,by go_num,by omega,by omega,rfl⟩
    ·have hbs:Hid (byt (L.drop i)=UInt8.ofNat (addB k (L.drop i))::byt (L.drop (i+8))):=by rw[show k=8 by omega];exact byt_step (by omega)
     have hzz:Hid (((addB k (L.drop i):Nat):Int)=((UInt8.ofNat (addB k (L.drop i))).toNat:Int)):=by show _=_;simp only[UInt8.toNat_ofNat'];omega
     have h8: ¬ (k:Int)<8:=by omega
     clear hw hk2 hk hk8;generalize hB:addB k (L.drop i)=B at *
     clear hB;go_wp2_with (at_builtin;refine appendB (UInt8.ofNat B) hzz.out H.out.1 (by omega) H.out.2.size ?_;intro A1 n1 c1 w1 _ hown1 hb1 _ _)
     go_roundg (n-(i+8))
     case measure=>omega
     case rel=>exact⟨i+8,acc++[UInt8.ofNat B],by go_num,by omega,by omega,by simp;omega,(by show _=_;rw[<-he.out,hbs.out];simp),hown1,H.out.2.trans hb1⟩
  ·have hby:=byt_none (L:=L) (i:=i) (by omega)
   have hee:=he.out;rw[hby,List.append_nil] at hee;subst hee;obtain⟨A2,c2,rfl,-,-,hrd2⟩:=H.out.1.rd;have hs2:=run_str (c:=c2) hrd2;go_wp2_with fail
   go_ret
   exact⟨rfl,H.out.2⟩
end Rf
end Go.Proofs.YtjligbmickfbdaaGreat
namespace Go.Proofs.YtjligbmickfbdaaGreat
namespace Rf
open Go.RowKit Fr
def rowT (l:List UInt8):ByteArray:=⟨l.toArray⟩
theorem rowT_list (l:List UInt8):(rowT l).data.toList=l:=rfl
theorem rowT_size (l:List UInt8):(rowT l).size=l.length:=by unfold rowT;simp[ByteArray.size]
theorem rowT_get {l:List UInt8} {i:Nat} (h:i<(rowT l).size):(rowT l)[i]=l[i]'(by rw[<-rowT_size];exact h):=rfl
theorem plc_hit {c:UInt8} {l:List UInt8} {i:Nat} (h:i<l.length) (hx:l[i]=c):plc c (l.drop i)=0:=by
 rw[List.drop_eq_getElem_cons h,plc];exact if_pos hx
theorem plc_miss {c:UInt8} {l:List UInt8} {i:Nat} (h:i<l.length) (hx:l[i]≠c):plc c (l.drop i)=plc c (l.drop (i+1))+1:=by
 rw[List.drop_eq_getElem_cons h,plc];exact if_neg hx
set_option maxHeartbeats 1600000 in
set_option maxRecDepth 100000 in
theorem begun_any (w:World):Calls Tryz.prog 57 #[] w fun e w'=>e=.returned (.string (rowT row0))/\Below w.heap.size w w':=by
 go_enter Tryz.func57, Tryz.ntmps57
 go_wp2_with fail
 go_loopg [1,2] 256 (fun kx s1 s2 wr=>∃(i:Nat),s2=.int .i64 (i:Int)/\i<=256/\256-i<=kx/\Aside (OwnB wr w.heap.size s1 ((List.range i).map UInt8.ofNat)/\Below w.heap.size w wr))
 case atStart=>exact⟨0,by go_num,by omega,by omega,World.ownsRow_nil _ _ _ _,Below.refl _ _⟩
 case round =>
  obtain⟨i,rfl,hi,hik,H⟩:=hrel;by_cases hlt:i<256
  ·have hzz:Hid ((i:Int)=((UInt8.ofNat i).toNat:Int)):=by show _=_;simp only[UInt8.toNat_ofNat'];omega
   have hll:((List.range i).map UInt8.ofNat).length<=256:=by simp;omega
   go_wp2_with (at_builtin;refine appendB (UInt8.ofNat i) hzz.out H.out.1 (by omega) H.out.2.size ?_;intro A1 n1 c1 w1 _ hown1 hb1 _ _)
   go_roundg (255-i)
   case measure=>omega
   case rel=>exact⟨i+1,by go_num,by omega,by omega,by rw[List.range_succ,List.map_append];exact hown1,H.out.2.trans hb1⟩
  ·have h2: ¬ (i:Int)<256:=by omega
   obtain⟨A2,c2,rfl,-,-,hrd2⟩:=H.out.1.rd;have hs2:=run_str (c:=c2) hrd2;have hH:=H.out.2;have he:(List.range i).map UInt8.ofNat=row0:=by rw[show i=256 by omega];rfl
   rw[show((List.range i).map UInt8.ofNat).length=i by simp,he] at hs2;have hs2:_=Result.ok (Value.string (rowT row0)) _:=hs2;clear H he hi hik hlt;go_wp2_with fail
   go_ret
   exact⟨rfl,hH⟩
set_option maxHeartbeats 1600000 in
set_option maxRecDepth 100000 in
theorem place_any (l:List UInt8) (c:UInt8) (w:World) (hc:c∈l) (hs:l.length<=256) :
  Calls Tryz.prog 58 #[.string (rowT l),.int .u8 (c.toNat:Int)] w fun e w'=>e=.returned (.int .i64 (plc c l:Int))/\w=w':=by
 obtain⟨hp,-⟩:=plc_lt c l hc
 go_enter Tryz.func58, Tryz.ntmps58
 go_wp2_with fail
 go_loopg [5] 256 (fun kx s5 wr=>∃(i:Nat),s5=.int .i64 (i:Int)/\i<=plc c l/\256-i<=kx/\Hid (plc c (l.drop i)+i=plc c l)/\Aside (w=wr))
 case atStart=>exact⟨0,by go_num,by omega,by omega,by show _=_;simp,rfl⟩
 case round =>
  obtain⟨i,rfl,hi,hik,he,hw⟩:=hrel;obtain rfl:=hw.out;have hil:i<l.length:=by omega
  have hsz:i<(rowT l).size:=by rw[rowT_size];exact hil
  have hg:=rowT_get hsz;have hee:=he.out;by_cases hx:l[i]=c
  ·rw[plc_hit hil hx,Nat.zero_add] at hee
   have hq:((rowT l)[i].toNat:Int)=(c.toNat:Int):=by rw[hg.trans hx]
   have hee2:=Lib.hid hee;clear hee he hg;go_wp2_with fail
   go_ret
   exact⟨by rw[<-hee2.out];rfl,rfl⟩
  ·rw[plc_miss hil hx] at hee
   have hne: ¬ ((rowT l)[i].toNat:Int)=(c.toNat:Int):=by
    rw[hg];intro h;exact hx (UInt8.toNat_inj.1 (by omega))
   have hee:Hid (plc c (l.drop (i+1))+(i+1)=plc c l):=by show _=_;omega
   have hi2:i+1<=plc c l:=by have:=hee.out;omega
   clear hg;go_wp2_with fail
   go_roundg (255-i)
   case measure=>omega
   case rel=>exact⟨i+1,by go_num,hi2,by omega,hee,rfl⟩
theorem rowT_mv {l:List UInt8} {i:Nat} (h:i<l.length):(rowT l).extract i (i+1)++(rowT l).extract 0 i++(rowT l).extract (i+1) (rowT l).size=rowT (mv l i):=by
 rw[mv_some (List.getElem?_eq_getElem h)];apply ByteArray.ext
 apply Array.toList_inj.1
 have e:∀a b,((rowT l).extract a b).data.toList=(l.drop a).take (b-a):=fun a b=>by
  rw[ByteArray.data_extract,Array.toList_extract];exact List.extract_eq_take_drop ..
 rw[ByteArray.data_append,ByteArray.data_append,Array.toList_append,Array.toList_append,e,e,e,rowT_size,rowT_list,List.drop_zero,Nat.sub_zero,show i+1-i=1 by omega,List.take_of_length_le (l:=l.drop (i+1)) (by simp),List.append_assoc];rw[List.drop_eq_getElem_cons h];rfl
set_option maxHeartbeats 3200000 in
set_option maxRecDepth 100000 in
theorem moved_any (l:List UInt8) (i:Nat) (w:World) (h:i<l.length) (hs:l.length<=256) :
  Calls Tryz.prog 59 #[.string (rowT l),.int .i64 (i:Int)] w fun e w'=>e=.returned (.string (rowT (mv l i)))/\Below w.heap.size w w':=by
 have he:=rowT_mv h;have hz:=rowT_size l;rw[hz] at he;have e1:((rowT l).extract i (i+1)).size=1:=by rw[ByteArray.size_extract];omega
 have e2:((rowT l).extract 0 i).size=i:=by rw[ByteArray.size_extract];omega
 have e3:((rowT l).extract (i+1) l.length).size=l.length-(i+1):=by rw[ByteArray.size_extract];omega
 have e4:((rowT l).extract i (i+1)++(rowT l).extract 0 i).size=1+i:=by rw[ByteArray.size_append];omega
 have f1:((rowT l).extract i (i+1)).size+((rowT l).extract 0 i).size<=9223372036854775807:=by omega
 have f2:((rowT l).extract i (i+1)++(rowT l).extract 0 i).size+((rowT l).extract (i+1) l.length).size<=9223372036854775807:=by omega
 clear e1 e2 e3 e4;have mixed:Tryz.prog.follows .mixedOrders=true:=by kernel_rfl
 have g1:(0:Int)<=(i:Int):=by omega
 have g2:(i:Int)<=(i:Int)+1:=by omega
 have g3:(i:Int)+1<=(l.length:Int):=by omega
 have g4:(i:Int)<=(l.length:Int):=by omega
 have g5:(0:Int)<=(i:Int)+1:=by omega
 go_enter Tryz.func59, Tryz.ntmps59
 go_wp2_with fail
 go_quiet (fail)
 go_wp2_with fail
 go_ret
 exact⟨rfl,ext_drewN _ _⟩
end Rf
end Go.Proofs.YtjligbmickfbdaaGreat
namespace Go.Proofs.YtjligbmickfbdaaGreat
namespace Rd
open Go.RowKit
set_option maxHeartbeats 6400000 in
set_option maxRecDepth 100000 in
theorem row_any (A:Option Addr) (n c:Nat) (l:List (Int×Int×ByteArray)) (w:World) (hrd:Rd w w.heap.size 3 A n (fl3 l)) (hn:n<=1099511627776) :
  Calls Tryz.prog 63 #[.slice A n c] w fun e w'=>e=.returned (.int .i64 (rowE none l))/\Below w.heap.size w w':=by
 have mixed:Tryz.prog.follows .mixedOrders=true:=by kernel_rfl
 have hln:=rd3_len hrd;have HC:=Lib.hid (fun q t d w=>check_any q t d w);have HR:=Lib.hid hrd;clear hrd
 go_enter Tryz.func63, Tryz.ntmps63
 go_wp2_with fail
 go_loopw [8] (fun v wr=>∃k:Nat,v=.int .i64 k/\k<=n/\Hid (rowE (pv l k) (l.drop k)=rowE none l/\(∀j r,j<k->l[j]? =some r->ok1 r=true)/\Below w.heap.size w wr)) (fun v _=>n-(intOf v).toNat)
 case atStart=>exact⟨0,by go_num,by omega,rfl,fun j r h=>absurd h (by omega),Below.refl _ _⟩
 case round =>
  obtain⟨k,rfl,hk,HX⟩:=hrel;by_cases hkn:k<n
  ·obtain⟨ad,q,t,d,rfl,hbk,hx,hc0,hc1,hc2⟩:=rec3 (HR.out.below HX.out.2.2) hkn
   by_cases ho:ok1 (q,t,d)=true
   ·have hce:=cE_ok ho
    have hok:∀j r,j<k+1->l[j]? =some r->ok1 r=true:=by
     intro j r hj hr;rcases Nat.lt_or_ge j k with h|h
     ·exact HX.out.2.1 j r h hr
     ·obtain rfl:j=k:=by omega
      rw[hx] at hr;cases hr;exact ho
    have HOK:=Lib.hid hok;clear hok;rcases k with _|k
    ·have HRE:=Lib.hid ((row_on0 hx ho).symm.trans HX.out.1)
     have hz:ad.add (0*3)=ad:=by rw[Nat.zero_mul];rfl
     rw[hz] at hc0 hc1 hc2;clear hz;have HB:=Lib.hid HX.out.2.2;go_wp2_with fail
     refine(HC.out _ _ _ _).mono ?_;rintro e1 w1 ⟨rfl,hb1⟩;rw[hce];have HB1:=Lib.hid (ext_trans HB.out (ext_trans (ext_alloc wr _) hb1));clear hc0 hc1 hc2 hb1 hx HX HB HC;go_wp2_with fail
     go_quiet (fail)
     go_wp2_with fail
     exact⟨⟨1,by go_num,by omega,HRE.out,HOK.out,below_drewN HB1.out _⟩,by simp[intOf];omega⟩
    ·obtain⟨ad',q',t',d',e',hbk',hx',hc0',hc1',-⟩:=rec3 (HR.out.below HX.out.2.2) (show k<n by omega)
     obtain rfl:ad=ad':=by simpa using e'
     have hp:=HX.out.2.1 k _ (by omega) hx';rw[ok1_iff] at hp;simp only at hp;have hp1:=hp.1;have hp2:=hp.2.1;have i1:(((k+1:Nat):Int)-1)=((k:Nat):Int):=by omega
     have i2:(0:Int)<((k+1:Nat):Int):=by omega
     have i3:(k:Int)<(n:Int):=by omega
     have i4:(0:Int)<=(k:Int):=by omega
     have i5:IntKind.i64.wrap (k:Int)=(k:Int):=by rw[IntKind.wrap_i64];omega
     have i6:IntKind.i64.wrap (q'+1)=q'+1:=by rw[IntKind.wrap_i64];omega
     clear hp e';by_cases hf1:q=q'+1
     ·subst hf1
      by_cases hf2:t<t'
      ·have HRE:=Lib.hid ((row_off hx hx' ho (.inr hf2)).symm.trans HX.out.1)
       have HB:=Lib.hid HX.out.2.2;go_wp2_with fail
       refine(HC.out _ _ _ _).mono ?_;rintro e1 w1 ⟨rfl,hb1⟩;rw[hce];have hh:∀p:Addr,p.block<w.heap.size->w1.cell? p=wr.cell? p:=fun p hp=>(hb1.cell (by simp;have:=HB.out.size;omega)).trans (World.cell?_alloc_lt wr _ p (by have:=HB.out.size;omega))
       have c0:w1.cell? ⟨wr.heap.size,0,none⟩=some (.int .i64 (q'+1)):=by rw[hb1.cell (p:=⟨wr.heap.size,0,none⟩) (by simp),World.cell?_alloc_new];rfl
       have c1:w1.cell? ⟨wr.heap.size,1,none⟩=some (.int .i64 t):=by rw[hb1.cell (p:=⟨wr.heap.size,1,none⟩) (by simp),World.cell?_alloc_new];rfl
       have d0:=(hh _ (by rw[add_block];exact hbk')).trans hc0';have d1:=(hh ⟨(ad.add (k*3)).block,(ad.add (k*3)).off+1,none⟩ (by rw[add_block];exact hbk')).trans hc1';have HB1:=Lib.hid (ext_trans HB.out (ext_trans (ext_alloc wr _) hb1));clear hc0 hc1 hc2 hc0' hc1' hb1 hh hx hx' HX HB HC;go_wp2_with fail
       go_quiet (fail)
       go_wp2_with fail
       go_ret
       exact⟨ret_int HRE.out,below_drewN HB1.out _⟩
      ·have HRE:=Lib.hid ((row_on hx hx' ho (by simp only;omega)).symm.trans HX.out.1)
       have HB:=Lib.hid HX.out.2.2;go_wp2_with fail
       refine(HC.out _ _ _ _).mono ?_;rintro e1 w1 ⟨rfl,hb1⟩;rw[hce];have hh:∀p:Addr,p.block<w.heap.size->w1.cell? p=wr.cell? p:=fun p hp=>(hb1.cell (by simp;have:=HB.out.size;omega)).trans (World.cell?_alloc_lt wr _ p (by have:=HB.out.size;omega))
       have c0:w1.cell? ⟨wr.heap.size,0,none⟩=some (.int .i64 (q'+1)):=by rw[hb1.cell (p:=⟨wr.heap.size,0,none⟩) (by simp),World.cell?_alloc_new];rfl
       have c1:w1.cell? ⟨wr.heap.size,1,none⟩=some (.int .i64 t):=by rw[hb1.cell (p:=⟨wr.heap.size,1,none⟩) (by simp),World.cell?_alloc_new];rfl
       have d0:=(hh _ (by rw[add_block];exact hbk')).trans hc0';have d1:=(hh ⟨(ad.add (k*3)).block,(ad.add (k*3)).off+1,none⟩ (by rw[add_block];exact hbk')).trans hc1';have HB1:=Lib.hid (ext_trans HB.out (ext_trans (ext_alloc wr _) hb1));clear hc0 hc1 hc2 hc0' hc1' hb1 hh hx hx' HX HB HC;go_wp2_with fail
       go_quiet (fail)
       go_wp2_with fail
       exact⟨⟨k+2,by go_num,by omega,HRE.out,HOK.out,below_drewN HB1.out _⟩,by simp[intOf];omega⟩
     ·have HRE:=Lib.hid ((row_off hx hx' ho (.inl hf1)).symm.trans HX.out.1)
      have HB:=Lib.hid HX.out.2.2;go_wp2_with fail
      refine(HC.out _ _ _ _).mono ?_;rintro e1 w1 ⟨rfl,hb1⟩;rw[hce];have hh:∀p:Addr,p.block<w.heap.size->w1.cell? p=wr.cell? p:=fun p hp=>(hb1.cell (by simp;have:=HB.out.size;omega)).trans (World.cell?_alloc_lt wr _ p (by have:=HB.out.size;omega))
      have c0:w1.cell? ⟨wr.heap.size,0,none⟩=some (.int .i64 q):=by rw[hb1.cell (p:=⟨wr.heap.size,0,none⟩) (by simp),World.cell?_alloc_new];rfl
      have c1:w1.cell? ⟨wr.heap.size,1,none⟩=some (.int .i64 t):=by rw[hb1.cell (p:=⟨wr.heap.size,1,none⟩) (by simp),World.cell?_alloc_new];rfl
      have d0:=(hh _ (by rw[add_block];exact hbk')).trans hc0';have d1:=(hh ⟨(ad.add (k*3)).block,(ad.add (k*3)).off+1,none⟩ (by rw[add_block];exact hbk')).trans hc1';have HB1:=Lib.hid (ext_trans HB.out (ext_trans (ext_alloc wr _) hb1));clear hc0 hc1 hc2 hc0' hc1' hb1 hh hx hx' HX HB HC;go_wp2_with fail
      go_quiet (fail)
      go_wp2_with fail
      go_ret
      exact⟨ret_int HRE.out,below_drewN HB1.out _⟩
   ·have hce:=cE_no ho
    have HRE:=Lib.hid ((row_no hx ho).symm.trans HX.out.1);have HB:=Lib.hid HX.out.2.2;go_wp2_with fail
    refine(HC.out _ _ _ _).mono ?_;rintro e1 w1 ⟨rfl,hb1⟩;rw[hce];have HB1:=Lib.hid (ext_trans HB.out (ext_trans (ext_alloc wr _) hb1));clear hc0 hc1 hc2 hb1 hx HX HB HC;go_wp2_with fail
    go_ret
    exact⟨ret_int HRE.out,HB1.out⟩
  ·obtain rfl:k=n:=by omega
   have HRE:=Lib.hid ((row_end (l:=l) (k:=k) (by omega)).symm.trans HX.out.1);have HB:=Lib.hid HX.out.2.2;clear HX HC;go_wp2_with fail
   go_ret
   exact⟨ret_int HRE.out,HB.out⟩
end Rd
end Go.Proofs.YtjligbmickfbdaaGreat
