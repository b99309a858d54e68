/- Names of files, more: numbers of digits, names taken apart (name.value, name.Parse). take: New, At, text, Num, Left, End; Caught of a function that ends well. -/
import Derived.Test.YtphfmgapiimliaaGreatSc20
import Derived.Deep.RegionWith
import Derived.Test.YtphfmgapiimliaaGreatSc04
import Derived.Defers
import Derived.Recover
import Derived.Shelf.Abstract
namespace Go.Proofs.YtphfmgapiimliaaGreat
namespace Nm
open Go.RowKit
theorem valTo_snoc (l:List UInt8) (c:UInt8):∀n,valTo n (l++[c])=10*valTo n l+((c.toNat:Int)-48):=by
 induction l with
 |nil=>intro n;rfl
 |cons a l ih=>intro n;exact ih _
theorem take_snoc (s:ByteArray) (k:Nat) (h:k<s.size):s.data.toList.take (k+1)=s.data.toList.take k++[s[k]]:=by
 rw[List.take_succ_eq_append_getElem (by simpa using h)];rfl
theorem isD_iff (c:UInt8):isD c=true↔48<=c.toNat/\c.toNat<=57:=by simp[isD]
theorem valTo_bd (l:List UInt8) (h:l.length<=6) (hd:l.all isD=true):0<=valTo 0 l/\valTo 0 l<=999999:=by
 match l,h with
 | [],_=>exact⟨by decide,by decide⟩
 | [a],_=>simp only[List.all_cons,List.all_nil,isD,Bool.and_eq_true,decide_eq_true_eq,Bool.and_true] at hd;simp only[valTo];omega
 | [a,b],_=>simp only[List.all_cons,List.all_nil,isD,Bool.and_eq_true,decide_eq_true_eq,Bool.and_true] at hd;simp only[valTo];omega
 | [a,b,c],_=>simp only[List.all_cons,List.all_nil,isD,Bool.and_eq_true,decide_eq_true_eq,Bool.and_true] at hd;simp only[valTo];omega
 | [a,b,c,d],_=>simp only[List.all_cons,List.all_nil,isD,Bool.and_eq_true,decide_eq_true_eq,Bool.and_true] at hd;simp only[valTo];omega
 | [a,b,c,d,e],_=>simp only[List.all_cons,List.all_nil,isD,Bool.and_eq_true,decide_eq_true_eq,Bool.and_true] at hd;simp only[valTo];omega
 | [a,b,c,d,e,f],_=>simp only[List.all_cons,List.all_nil,isD,Bool.and_eq_true,decide_eq_true_eq,Bool.and_true] at hd;simp only[valTo];omega
set_option maxHeartbeats 400000 in
theorem value_any (s:ByteArray) (h6:s.size<=6) (w:World) :
  Calls Tryz.prog 204 #[.string s] w fun e w'=>e=.returned (.int .i64 (value s.data.toList))/\Below w.heap.size w w':=by
 go_enter Tryz.func204, Tryz.ntmps204
 go_wp2_with fail
 go_loopw [3,5] (fun n _ wr=>∃pos:Nat,pos<=s.size/\wr=w.iter s pos/\(s.data.toList.take pos).all isD=true/\n=.int .i64 (valTo 0 (s.data.toList.take pos))) (fun _ _ wr=>s.size-wr.iterPos w.heap.size)
 case atStart=>exact⟨0,by omega,rfl,by simp,rfl⟩
 case round =>
  obtain⟨pos,hp,rfl,hall,rfl⟩:=hrel;have hbd:=valTo_bd _ (by rw[List.length_take];omega) hall;have Hall:=Lib.hid hall;clear hall;by_cases hlt:pos<s.size
  ·have Hsn:=Lib.hid (valTo_snoc (s.data.toList.take pos) s[pos] 0)
   have Hts:=Lib.hid (take_snoc s pos hlt);generalize hv:valTo 0 (s.data.toList.take pos)=v at hbd Hsn;clear hv;by_cases ha:(s[pos]'hlt).toNat<128
   ·have hnx:∀ty,(Instr.next (.pointer (some ⟨w.heap.size,0,none⟩)) true ty).run Tryz.prog (w.iter s pos)=_:=fun ty=>run_next_ascii w s pos ty hlt ha
    by_cases h48:(s[pos]'hlt).toNat<48
    ·go_wp2_with fail
     go_ret
     have hno:=all_of_not s isD pos hlt (by rw[<-Bool.not_eq_true,isD_iff];omega);refine⟨ret_int ?_,below_iter (Below.refl _ _) (Nat.le_refl _) _ _⟩;unfold value;rw[if_neg (by rw[hno];simp)]
    by_cases h57:57<(s[pos]'hlt).toNat
    ·go_wp2_with fail
     go_ret
     have hno:=all_of_not s isD pos hlt (by rw[<-Bool.not_eq_true,isD_iff];omega);refine⟨ret_int ?_,below_iter (Below.refl _ _) (Nat.le_refl _) _ _⟩;unfold value;rw[if_neg (by rw[hno];simp)]
    go_wp2_with fail
    go_roundw
    case rel =>
     refine⟨pos+1,by omega,rfl,?_,?_⟩
     ·rw[all_take_succ s isD pos hlt,Hall.out,(isD_iff _).2 ⟨by omega,by omega⟩];rfl
     ·rw[Hts.out,Hsn.out]
    case measure=>simp;omega
   ·have hnx:∀ty,(Instr.next (.pointer (some ⟨w.heap.size,0,none⟩)) true ty).run Tryz.prog (w.iter s pos)=_:=fun ty=>run_next_any w s pos ty hlt
    have hd:=(decode_high s pos hlt (by omega)).1;go_wp2_with fail
    go_ret
    have hno:=all_of_not s isD pos hlt (by rw[<-Bool.not_eq_true,isD_iff];omega);refine⟨ret_int ?_,below_iter (Below.refl _ _) (Nat.le_refl _) _ _⟩;unfold value;rw[if_neg (by rw[hno];simp)]
  ·have hnx:∀ty,(Instr.next (.pointer (some ⟨w.heap.size,0,none⟩)) true ty).run Tryz.prog (w.iter s pos)=_:=fun ty=>run_next_end w s pos ty hlt
   go_wp2_with fail
   go_ret
   refine⟨ret_int ?_,below_iter (Below.refl _ _) (Nat.le_refl _) _ _⟩;have hall:=Hall.out;rw[List.take_of_length_le (by simp;omega)] at hall ⊢;unfold value;rw[if_pos hall]
def parseV (l:List UInt8):Value:=match parse l with
 |some (i,g)=>.tuple #[.int .i64 i,.int .i64 g,.bool true]
 |none=>.tuple #[.int .i64 0,.int .i64 0,.bool false]
theorem extract_list (s:ByteArray) (a b:Nat):(s.extract a b).data.toList=(s.data.toList.drop a).take (b-a):=by
 simp only[ByteArray.data_extract,Array.toList_extract,List.extract_eq_drop_take']
theorem parse_is (l:List UInt8) (hl:l.length=21):parse l=if may (value ((l.drop 4).take 6))=true/\may (value ((l.drop 11).take 6))=true/\seg (value ((l.drop 4).take 6)) (value ((l.drop 11).take 6))=l
  then some (value ((l.drop 4).take 6),value ((l.drop 11).take 6)) else none:=by
 unfold parse;rw[if_pos hl]
theorem parseV_none {l:List UInt8} (h:parse l=none):Value.tuple #[.int .i64 0,.int .i64 0,.bool false]=parseV l:=by unfold parseV;rw[h]
theorem parseV_some {l:List UInt8} {i g:Int} (h:parse l=some (i,g)):Value.tuple #[.int .i64 i,.int .i64 g,.bool true]=parseV l:=by unfold parseV;rw[h]
set_option maxHeartbeats 800000 in
theorem parse_any (s:ByteArray) (w:World) :
  Calls Tryz.prog 165 #[.string s] w fun e w'=>e=.returned (parseV s.data.toList)/\Below w.heap.size w w':=by
 by_cases h21:s.size=21
 ·have HP:=Lib.hid (parse_is s.data.toList h21)
  have k0:IntKind.i64.wrap 10=10:=by decide
  have k1:IntKind.i64.wrap 11=11:=by decide
  have k2:IntKind.i64.wrap 16=16:=by decide
  have k3:IntKind.i64.wrap 17=17:=by decide
  go_enter Tryz.func165, Tryz.ntmps165
  go_wp2_with fail
  go_region_with (go_at_call 204;refine(value_any _ (by simp;omega) _).mono ?_;rintro e w1 ⟨rfl,hb1⟩)
  rename_i wa hba
  go_wp2_with fail
  refine(segment_any _ _ _).mono ?_;rintro e w3 ⟨rfl,hb3⟩;have hbz:Below w.heap.size w w3:=((Below.refl _ w).drew).trans (hba.trans ((hb1.mono hba.size).trans (hb3.mono (Nat.le_trans hba.size hb1.size))));generalize value (List.take 6 (List.drop 4 s.data.toList))=vi at *
  generalize value (List.take 6 (List.drop 11 s.data.toList))=vg at *
  by_cases hm:may vi=true/\may vg=true
  ·have e0:segV vi vg=.tuple #[.string ⟨(seg vi vg).toArray⟩,.int .i64 0]:=if_pos hm
   rw[e0];have Hm:=Lib.hid hm;clear e0 hm;by_cases hs:seg vi vg=s.data.toList
   ·have hse:(seg vi vg==s.toList)=true:=by rw[ByteArray.toList_eq,hs];simp
    have Hs:=Lib.hid hs;clear hs;go_wp2_with fail
    go_ret3
    exact⟨congrArg Ending.returned (parseV_some (HP.out.trans (if_pos ⟨Hm.out.1,Hm.out.2,Hs.out⟩))),hbz⟩
   ·have hse:(seg vi vg==s.toList)=false:=by rw[ByteArray.toList_eq];simp[hs]
    have Hs:=Lib.hid hs;clear hs;go_wp2_with fail
    go_ret3
    exact⟨congrArg Ending.returned (parseV_none (HP.out.trans (if_neg fun h=>Hs.out h.2.2))),hbz⟩
  ·have e0:segV vi vg=.tuple #[.string ⟨#[]⟩,.int .i64 2]:=if_neg hm
   rw[e0];have Hm:=Lib.hid hm;clear e0 hm;go_wp2_with fail
   go_ret3
   exact⟨congrArg Ending.returned (parseV_none (HP.out.trans (if_neg fun h=>Hm.out ⟨h.1,h.2.1⟩))),hbz⟩
 ·have h21':((s.size:Int)==21)=false:=by rw[beq_eq_false_iff_ne];omega
  have h21n:((s.size:Int) != 21)=true:=by rw[bne_iff_ne];omega
  have hp:parse s.data.toList=none:=by unfold parse;rw[if_neg];exact h21
  rw[<-parseV_none hp];clear hp
  go_enter Tryz.func165, Tryz.ntmps165
  go_wp2_with fail
  go_ret3
  exact⟨rfl,Below.refl _ _⟩
end Nm
end Go.Proofs.YtphfmgapiimliaaGreat
namespace Go.Proofs.YtphfmgapiimliaaGreat
namespace Tk
open Go.RowKit
def Ta (w:World) (b:Nat) (s:ByteArray) (p:Nat):Prop:=w.heap[b]? =some (.cells #[.string s,.int .i64 (p:Int)] 281 (0,0))
section
variable {w w':World} {b p:Nat} {s:ByteArray}
theorem Ta.lt (h:Ta w b s p):b<w.heap.size:=(Array.getElem?_eq_some_iff.1 h).1
theorem Ta.c0 (h:Ta w b s p):w.cell? ⟨b,0,none⟩=some (.string s):=by rw[cell_of_row w b 0 _ _ (0,0) h];rfl
theorem Ta.c1 (h:Ta w b s p):w.cell? ⟨b,1,none⟩=some (.int .i64 (p:Int)):=by rw[cell_of_row w b 1 _ _ (0,0) h];rfl
theorem Ta.fz (h:Ta w b s p) (j:Nat):w.frozen? ⟨b,j,none⟩=false:=frozen_of_row w b j _ _ h
theorem Ta.set1 (h:Ta w b s p) (q:Nat):Ta (w.setCell ⟨b,1,none⟩ (.int .i64 (q:Int))) b s q:=by
 unfold Ta at *
 simp[World.setCell,Array.getElem?_modify,h]
end
theorem takeNew_any (s:ByteArray) (w:World) :
  Calls Tryz.prog 173 #[.string s] w fun e w'=>e=.returned (.pointer (some ⟨w.heap.size,0,none⟩))/\Ta w' w.heap.size s 0/\Below w.heap.size w w':=by
 go_enter Tryz.func173, Tryz.ntmps173
 go_wp2_with fail
 go_ret
 exact⟨rfl,heap_alloc_new w _,(Below.refl _ _).alloc (Nat.le_refl _) _⟩
theorem at_any (w:World) (b p:Nat) (s:ByteArray) (h:Ta w b s p) :
  Calls Tryz.prog 176 #[.pointer (some ⟨b,0,none⟩)] w fun e w'=>e=.returned (.int .i64 (p:Int))/\w=w':=by
 have hc:=h.c1
 go_enter Tryz.func176, Tryz.ntmps176
 go_wp2_with fail
 go_ret
 exact⟨rfl,rfl⟩
theorem text_any (w:World) (b p:Nat) (s:ByteArray) (h:Ta w b s p) :
  Calls Tryz.prog 219 #[.pointer (some ⟨b,0,none⟩)] w fun e w'=>e=.returned (.string s)/\w=w':=by
 have hc:=h.c0
 go_enter Tryz.func219, Tryz.ntmps219
 go_wp2_with fail
 go_ret
 exact⟨rfl,rfl⟩
def fault (e:Int) (p:Nat):PanicEntry:={ v:=.iface 238 (.agg #[.int .i64 e,.int .i64 (p:Int)]),recovered:=false }
theorem check_ok (w:World) (b:Nat):Calls Tryz.prog 220 #[.pointer (some ⟨b,0,none⟩),.int .i64 0] w fun e w'=>e=.returned (.tuple #[])/\w=w':=by
 go_enter Tryz.func220, Tryz.ntmps220
 go_wp2_with fail
 go_end0
 exact⟨rfl,rfl⟩
set_option maxHeartbeats 3200000 in
theorem num_ok (w:World) (b p n len:Nat) (s:ByteArray) (h:Ta w b s p) (hs:s.size<=1000000) (hp:p<=s.size) (hg:Vi.gv 0 0 (s.data.toList.drop p)=(n,len,0)) :
  Calls Tryz.prog 175 #[.pointer (some ⟨b,0,none⟩)] w fun e w'=>e=.returned (.int .i64 (n:Int))/\w'=w.setCell ⟨b,1,none⟩ (.int .i64 ((p+len:Nat):Int)):=by
 have mixed:Tryz.prog.follows .mixedOrders=true:=by kernel_rfl
 have hl:s.data.toList.length=s.size:=rfl;have hgv:Vi.getV s.data.toList (p:Int)=((n:Int),((p+len:Nat):Int),0):=by
  unfold Vi.getV;rw[if_neg (by rw[hl];omega),Int.toNat_natCast,hg];simp
 have hv:=Vi.get_any s (p:Int) w hs;rw[hgv] at hv;have HV:=Lib.hid hv;have HT:=Lib.hid (text_any w b p s h);have HA:=Lib.hid (at_any w b p s h);have hc1:=h.c1;have hf1:=h.fz 1;have HC:=Lib.hid (check_ok w b);clear hl hgv hv h hg
 go_enter Tryz.func175, Tryz.ntmps175
 go_wp2_with fail
 refine HT.out.mono ?_;rintro e1 w1 ⟨rfl,rfl⟩;go_wp2_with fail
 refine HA.out.mono ?_;rintro e1 w1 ⟨rfl,rfl⟩;go_wp2_with fail
 refine HV.out.mono ?_;rintro e1 w1 ⟨rfl,rfl⟩;go_wp2_with fail
 refine HC.out.mono ?_;rintro e1 w1 ⟨rfl,rfl⟩;go_wp2_with fail
 go_ret
 exact⟨rfl,rfl⟩
set_option maxHeartbeats 3200000 in
theorem left_any (w:World) (b p:Nat) (s:ByteArray) (h:Ta w b s p) (hs:s.size<=1000000) (hp:p<=s.size) :
  Calls Tryz.prog 222 #[.pointer (some ⟨b,0,none⟩)] w fun e w'=>e=.returned (.int .i64 ((s.size-p:Nat):Int))/\ ∃m,w'=w.drewN m:=by
 have mixed:Tryz.prog.follows .mixedOrders=true:=by kernel_rfl
 have hc0:=h.c0;have hc1:=h.c1;obtain⟨d,hd⟩:∃d,d=s.size-p:=⟨_,rfl⟩
 have e1:(s.size:Int)-(p:Int)=(d:Int):=by omega
 rw[<-hd];clear hd h
 go_enter Tryz.func222, Tryz.ntmps222
 go_wp2_with fail
 go_quiet (fail)
 go_wp2_with fail
 go_ret
 exact⟨rfl,_,rfl⟩
structure Keep (w w':World) (L:List Nat):Prop where
 os:w'.os=w.os
 tape:w'.tape=w.tape
 output:w'.output=w.output
 size:w.heap.size<=w'.heap.size
 blk:∀k,k<w.heap.size->k∉L->w'.heap[k]? =w.heap[k]?
section
variable {w w' w2:World} {L L':List Nat}
theorem Keep.refl (w:World) (L:List Nat):Keep w w L:=⟨rfl,rfl,rfl,Nat.le_refl _,fun _ _ _=>rfl⟩
theorem Keep.trans (h:Keep w w' L) (k:Keep w' w2 L):Keep w w2 L :=
 ⟨k.os.trans h.os,k.tape.trans h.tape,k.output.trans h.output,Nat.le_trans h.size k.size,fun i hi hl=>(k.blk i (Nat.lt_of_lt_of_le hi h.size) hl).trans (h.blk i hi hl)⟩
theorem Keep.more (h:Keep w w' L) (hl:∀k∈L,k∈L'):Keep w w' L':=⟨h.os,h.tape,h.output,h.size,fun k hk hn=>h.blk k hk (fun e=>hn (hl k e))⟩
theorem Keep.set (h:Keep w w' L) (p:Addr) (hp:p.block∈L∨w.heap.size<=p.block) (u:Value):Keep w (w'.setCell p u) L :=
 ⟨h.os,h.tape,h.output,by simpa[World.setCell] using h.size,fun k hk hl=>(Below.heap_setCell w' p u k (by
  intro e;rcases hp with hp|hp
  ·rw[<-e] at hp;exact hl hp
  ·omega)).trans (h.blk k hk hl)⟩
theorem Keep.alloc (h:Keep w w' L) (o:Obj):Keep w (w'.alloc o) L :=
 ⟨h.os,h.tape,h.output,by have:=h.size;simp;omega,fun k hk hl=>(Below.heap_alloc w' o k (by have:=h.size;omega)).trans (h.blk k hk hl)⟩
theorem Keep.drew (h:Keep w w' L):Keep w w'.drew L:=⟨h.os,h.tape,h.output,h.size,h.blk⟩
theorem Keep.drewN (h:Keep w w' L) (n:Nat):Keep w (w'.drewN n) L:=⟨h.os,h.tape,h.output,h.size,h.blk⟩
theorem Keep.of_below (h:Below w.heap.size w w'):Keep w w' L:=⟨h.os,h.tape,h.output,h.size,fun k hk _=>h.block k hk⟩
theorem Keep.below {B:Nat} (h:Keep w w' L) (hB:B<=w.heap.size) (hl:∀k∈L,B<=k):Below B w w':=⟨h.os,h.tape,h.output,h.size,fun k hk=>h.blk k (by omega) (fun e=>by have:=hl k e;omega)⟩
theorem Keep.var {b:Nat} {t:TypeId} {v:Value} (h:Keep w w' L) (hv:Var w b t v) (hb:b∉L):Var w' b t v:=(h.blk b hv.lt hb).trans hv
theorem Keep.ta {b p:Nat} {s:ByteArray} (h:Keep w w' L) (hv:Ta w b s p) (hb:b∉L):Ta w' b s p:=(h.blk b hv.lt hb).trans hv
end
theorem tmps_idle (a b:Addr) (v:Value): #[Value.pointer (some a),Value.pointer (some b)]++((Array.replicate 18 undef).setIfInBounds 3 v).setIfInBounds 0 v= #[.pointer (some a),.pointer (some b),v,undef,undef,v,undef,undef,undef,undef,undef,undef,undef,undef,undef,undef,undef,undef,undef,undef]:=by kernel_rfl
set_option maxHeartbeats 3200000 in
theorem catch_idle (a b:Addr) (w:World) :
  CallsD Tryz.prog 223 #[.pointer (some a),.pointer (some b)] .returning w fun e u' w'=>e=.returned (.tuple #[])/\u'=.returning/\w'=w:=by
 refine callsD_of_wpS Tryz.func223 rfl fun c₀ cs hu=>?_
 apply wpS_seq
 apply wpS_region
 simp[wpOpsS,go_sem,recoverD,hu,Tryz.ntmps223,Exit.thenS]
 rw[tmps_idle];refine wpS_of_wp ?_;go_wp2_with fail
 cases c₀
 simp_all [bodyPostS,results,Tryz.results223]
def wC (w:World):World:=(w.alloc (.cells #[.int .i64 0] 36)).alloc (.cells #[.int .i64 0] 3)
theorem wC_keep (w:World):Below w.heap.size w (wC w):=((Below.refl _ _).alloc (Nat.le_refl _) _).alloc (by simp) _
theorem wC_vars (w:World):Var (wC w) w.heap.size 36 (.int .i64 0)/\Var (wC w) (w.heap.size+1) 3 (.int .i64 0):=by
 constructor
 ·exact(Var.new w _ _).alloc _
 ·have:=Var.new (w.alloc (.cells #[.int .i64 0] 36)) 3 (.int .i64 0)
  rwa [show(w.alloc (.cells #[.int .i64 0] 36)).heap.size=w.heap.size+1 by simp] at this
set_option maxHeartbeats 6400000 in
set_option maxRecDepth 100000 in
theorem caught_ok (fn:FuncId) (w:World) (caps:Array Value) (G:World->Prop) (hG:∀w',G w'->Var w' w.heap.size 36 (.int .i64 0)/\Var w' (w.heap.size+1) 3 (.int .i64 0))
  (hen:∀args w,(callFunc fn args).run Tryz.prog w=.ok (.enter fn args) w)
  (hf:Calls Tryz.prog fn caps (wC w) fun e w'=>e=.returned (.tuple #[])/\G w') :
  Calls Tryz.prog 179 #[.func (.func fn) #[] caps] w fun e w'=>e=.returned (.tuple #[.int .i64 0,.int .i64 0])/\ ∃w2,G w2/\Keep w2 w' [w.heap.size,w.heap.size+1]:=by
 have mixed:Tryz.prog.follows .mixedOrders=true:=by kernel_rfl
 have hmf:∀(fn:Fn) (first cap:Array Value) (w:World),(Instr.makeFunc fn first cap).run Tryz.prog w=.ok (.func fn first cap) w:=fun _ _ _ _=>rfl
 have HF:=Lib.hid hf;have HG:=Lib.hid hG;clear hf hG;go_enter_defers Tryz.func179,Tryz.ntmps179
 go_wp2_with (go_at_fn fn;refine HF.out.mono ?_;rintro e1 w1 ⟨rfl,h1⟩;obtain⟨v1,v2⟩:=HG.out w1 h1;have c1:=v1.cell;have f1:=v1.frozen;have c2:=v2.cell;have f2:=v2.frozen;have HX:=Lib.hid (And.intro h1 (And.intro v1 v2));clear h1 v1 v2)
 refine leaves_cons (f:=223) (args:=#[.pointer (some ⟨w.heap.size,0,none⟩),.pointer (some ⟨w.heap.size+1,0,none⟩)]) (by simp) (by simp[go_sem]) ?_;refine(catch_idle ⟨w.heap.size,0,none⟩ ⟨w.heap.size+1,0,none⟩ _).mono ?_;rintro e u' w'' ⟨rfl,rfl,rfl⟩;have n1:w.heap.size≠w.heap.size+1:=by omega
 have u1:=(HX.out.2.1.set_ (.int .i64 0)).far (p:=⟨w.heap.size+1,0,none⟩) n1 (.int .i64 0);have u2:=(HX.out.2.2.far (p:=⟨w.heap.size,0,none⟩) (Ne.symm n1) (.int .i64 0)).set_ (.int .i64 0);have hk:Keep w1 ((w1.setCell ⟨w.heap.size,0,none⟩ (.int .i64 0)).setCell ⟨w.heap.size+1,0,none⟩ (.int .i64 0)) [w.heap.size,w.heap.size+1] :=
  ((Keep.refl w1 _).set ⟨w.heap.size,0,none⟩ (.inl (by simp)) _).set ⟨w.heap.size+1,0,none⟩ (.inl (by simp)) _
 have d1:=u1.cell;have d2:=u2.cell;simp[Leaves,settle,results,Tryz.results179,go_sem,d1,d2]
 exact⟨w1,HX.out.1,hk⟩
theorem end_ok (w:World) (b:Nat) (s:ByteArray) (h:Ta w b s s.size) (hs:s.size<=1000000) :
  Calls Tryz.prog 178 #[.pointer (some ⟨b,0,none⟩)] w fun e w'=>e=.returned (.tuple #[])/\ ∃m,w'=w.drewN m:=by
 have hL:=left_any w b s.size s h hs (Nat.le_refl _);rw[Nat.sub_self] at hL;have HL:=Lib.hid hL;clear hL h
 go_enter Tryz.func178, Tryz.ntmps178
 go_wp2_with fail
 refine HL.out.mono ?_;rintro e1 w1 ⟨rfl,m,rfl⟩;go_wp2_with fail
 go_end0
 exact⟨rfl,m,rfl⟩
end Tk
end Go.Proofs.YtphfmgapiimliaaGreat
