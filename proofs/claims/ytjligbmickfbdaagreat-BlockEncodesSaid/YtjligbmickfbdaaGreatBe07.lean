/- Runs of noughts as digits: what the functions of package zrun, and of its reference, compute: plain lists of numbers, no program. front: Text. -/
import Derived.Test.YtjligbmickfbdaaGreatBe01
import Derived.Test.YtjligbmickfbdaaGreatBe06
namespace Go.Proofs.YtjligbmickfbdaaGreat
namespace Zr
def digTo (m:Nat):List Int:=if _h:m<=1 then[] else((m%2:Nat)+1:Int)::digTo (m/2)
termination_by m
decreasing_by omega
def digits (n:Int):List Int:=if n<1 then[] else digTo (n.toNat+1)
def low (n:Nat):List Int:=(digits n).map (· -1)
def pk:Nat->List Int->List Int
 |run,[]=>low run
 |run,r::l=>if r=0 then pk (run+1) l else low run++(r+1)::pk 0 l
def okRank (r:Int):Bool:=decide (0<=r)&&decide (r<=255)
def pack (l:List Int):Option (List Int):=if l.all okRank=true then some (pk 0 l) else none
def isDig (s:Int):Bool:=(s==0)||(s==1)
def val:List Int->Nat
 | []=>0
 |d::l=>2*val l+d.toNat+1
def okSym (s:Int):Bool:=decide (0<=s)&&decide (s<=256)
def cnt:List Int->List Int->Nat
 |acc,[]=>val acc
 |acc,s::l=>if isDig s=true then cnt (acc++[s]) l else val acc+(if okSym s=true then 1 else 0)+cnt [] l
def count (l:List Int):Int:=(min (cnt [] l) 100001:Nat)
def unp:List Int->List Int->List Int
 |acc,[]=>List.replicate (val acc) 0
 |acc,s::l=>if isDig s=true then unp (acc++[s]) l else List.replicate (val acc) 0++(s-1)::unp [] l
def unpackE (l:List Int) (limit:Int):Int:=if l.all okSym=false then 70 else if count l>min limit 100000 then 3 else 0
def unpack (l:List Int) (limit:Int):List Int:=if unpackE l limit=0 then unp [] l else[]
theorem digTo_small {m:Nat} (h:m<=1):digTo m=[]:=by rw[digTo,dif_pos h]
theorem digTo_step {m:Nat} (h:1<m):digTo m=((m%2:Nat)+1:Int)::digTo (m/2):=by rw[digTo,dif_neg (by omega)]
theorem val_low:∀(m:Nat),1<=m->val ((digTo m).map (· -1))=m-1:=by
 intro m
 induction m using Nat.strongRecOn with
 |ind m ih =>
  intro hm;by_cases h:m<=1
  ·rw[digTo_small h];simp[val];omega
  ·rw[digTo_step (by omega)]
   simp only[List.map_cons,val];rw[ih (m/2) (by omega) (by omega)];omega
theorem digits_nat (n:Nat):digits n=digTo (n+1):=by
 unfold digits;split
 ·rw[digTo_small (by omega)]
 ·congr 1
theorem low_eq (n:Nat):low n=(digTo (n+1)).map (· -1):=by unfold low;rw[digits_nat]
theorem val_lown (n:Nat):val (low n)=n:=by
 rw[low_eq,val_low _ (by omega)];omega
theorem low_dig (n:Nat):(low n).all isDig=true:=by
 have h:∀m:Nat,((digTo m).map (· -1)).all isDig=true:=by
  intro m
  induction m using Nat.strongRecOn with
  |ind m ih =>
   by_cases h:m<=1
   ·rw[digTo_small h];rfl
   ·rw[digTo_step (by omega)]
    simp only[List.map_cons,List.all_cons,Bool.and_eq_true];refine⟨?_,ih (m/2) (by omega)⟩;simp[isDig];omega
 rw[low_eq];exact h _
theorem low_val:∀(l:List Int),l.all isDig=true->low (val l)=l
 | [],_=>by simp[val,low,digits]
 |d::l,h=>by
  simp only[List.all_cons,Bool.and_eq_true] at h;have ih:=low_val l h.2;have hd:d=0∨d=1:=by simpa[isDig] using h.1
  rw[low_eq] at ih ⊢;simp only[val];rw[digTo_step (by omega),show(2*val l+d.toNat+1+1)/2=val l+1 from by omega,List.map_cons,ih];congr 1;omega
theorem length_digTo_le:∀(m:Nat),1<=m->(digTo m).length<=m-1:=by
 intro m
 induction m using Nat.strongRecOn with
 |ind m ih =>
  intro hm;by_cases h:m<=1
  ·rw[digTo_small h];simp
  ·rw[digTo_step (by omega)]
   simp only[List.length_cons];have:=ih (m/2) (by omega) (by omega);omega
theorem length_low (n:Nat):(low n).length<=n:=by
 rw[low_eq,List.length_map];have:=length_digTo_le (n+1) (by omega);omega
theorem length_pk:∀(l:List Int) (run:Nat),(pk run l).length<=run+l.length
 | [],run=>by simpa[pk] using length_low run
 |r::l,run=>by
  simp only[pk];split
  ·have:=length_pk l (run+1)
   simp only[List.length_cons];omega
  ·have:=length_pk l 0
   have:=length_low run;simp only[List.length_append,List.length_cons];omega
theorem cnt_digs:∀(d acc l:List Int),d.all isDig=true->cnt acc (d++l)=cnt (acc++d) l
 | [],acc,l,_=>by simp
 |x::d,acc,l,h=>by
  simp only[List.all_cons,Bool.and_eq_true] at h;simp only[List.cons_append,cnt,h.1,if_true];rw[cnt_digs d (acc++[x]) l h.2];simp
theorem unp_digs:∀(d acc l:List Int),d.all isDig=true->unp acc (d++l)=unp (acc++d) l
 | [],acc,l,_=>by simp
 |x::d,acc,l,h=>by
  simp only[List.all_cons,Bool.and_eq_true] at h;simp only[List.cons_append,unp,h.1,if_true];rw[unp_digs d (acc++[x]) l h.2];simp
theorem unp_pk:∀(l:List Int) (run:Nat),l.all okRank=true->unp [] (pk run l)=List.replicate run 0++l/\cnt [] (pk run l)=run+l.length
 | [],run,_=>by
   simp only[pk];have h:=unp_digs (low run) [] [] (low_dig run);have h':=cnt_digs (low run) [] [] (low_dig run);rw[List.append_nil,List.nil_append] at h h';rw[h,h'];simp[unp,cnt,val_lown]
 |r::l,run,hl=>by
  simp only[List.all_cons,Bool.and_eq_true] at hl;simp only[pk];split
  ·rename_i hr
   subst hr;obtain⟨h1,h2⟩:=unp_pk l (run+1) hl.2;rw[h1,h2];refine⟨?_,by simp;omega⟩;rw[List.replicate_succ'];simp
  ·rename_i hr
   obtain⟨h1,h2⟩:=unp_pk l 0 hl.2;rw[unp_digs _ _ _ (low_dig run),cnt_digs _ _ _ (low_dig run)];have hk:okRank r=true:=hl.1;simp only[okRank,Bool.and_eq_true,decide_eq_true_eq] at hk;have hd:isDig (r+1)=false:=by simp[isDig];omega
   have ho:okSym (r+1)=true:=by simp[okSym];omega
   simp only[List.nil_append,unp,cnt,hd,ho,if_true,Bool.false_eq_true,if_false,val_lown,h1,h2,List.replicate_zero];refine⟨?_,by simp;omega⟩;congr 2;omega
theorem okSym_low (n:Nat):(low n).all okSym=true :=
 List.all_eq_true.2 fun c hc=>by
  have:=List.all_eq_true.1 (low_dig n) c hc;simp[isDig] at this
  simp[okSym];omega
theorem okSym_pk:∀(l:List Int) (run:Nat),l.all okRank=true->(pk run l).all okSym=true
 | [],run,_=>okSym_low run
 |r::l,run,hl=>by
  simp only[List.all_cons,Bool.and_eq_true] at hl;simp only[pk];split
  ·exact okSym_pk l _ hl.2
  ·simp only[List.all_append,List.all_cons,okSym_low,okSym_pk l 0 hl.2,Bool.true_and,Bool.and_true]
   have hk:okRank r=true:=hl.1;simp only[okRank,Bool.and_eq_true,decide_eq_true_eq] at hk;simp[okSym];omega
theorem pk_zeros:∀(k run:Nat) (l:List Int),pk run (List.replicate k 0++l)=pk (run+k) l
 |0,run,l=>by simp
 |k+1,run,l=>by
  rw[List.replicate_succ,List.cons_append,pk,if_pos rfl,pk_zeros k (run+1) l];congr 1;omega
theorem pk_unp:∀(l acc:List Int),acc.all isDig=true->l.all okSym=true->pk 0 (unp acc l)=acc++l/\(unp acc l).all okRank=true
 | [],acc,ha,_=>by
   simp only[unp];have h:=pk_zeros (val acc) 0 [];rw[List.append_nil] at h;rw[h];refine⟨by simp[pk,low_val acc ha],?_⟩;rw[List.all_eq_true];intro x hx;rw[List.eq_of_mem_replicate hx];rfl
 |s::l,acc,ha,hl=>by
  simp only[List.all_cons,Bool.and_eq_true] at hl;simp only[unp];split
  ·rename_i hs
   obtain⟨h1,h2⟩:=pk_unp l (acc++[s]) (by simp[ha,hs]) hl.2;exact⟨by rw[h1];simp,h2⟩
  ·rename_i hs
   obtain⟨h1,h2⟩:=pk_unp l [] rfl hl.2;have hk:=hl.1;simp only[okSym,Bool.and_eq_true,decide_eq_true_eq] at hk;have hs':s≠0/\s≠1:=by simpa[isDig] using hs
   rw[pk_zeros,pk,if_neg (by omega),h1];refine⟨?_,?_⟩
   ·simp only[Nat.zero_add,low_val acc ha,List.nil_append]
    congr 2;omega
   ·simp only[List.all_append,List.all_cons,h2,Bool.and_true,Bool.and_eq_true]
    refine⟨?_,?_⟩
    ·rw[List.all_eq_true]
     intro x hx;rw[List.eq_of_mem_replicate hx];rfl
    ·simp[okRank];omega
theorem length_unp:∀(l acc:List Int),l.all okSym=true->(unp acc l).length=cnt acc l
 | [],acc,_=>by simp[unp,cnt]
 |s::l,acc,hl=>by
  simp only[List.all_cons,Bool.and_eq_true] at hl;simp only[unp,cnt];split
  ·exact length_unp l _ hl.2
  ·simp[length_unp l [] hl.2,hl.1];omega
end Zr
end Go.Proofs.YtjligbmickfbdaaGreat
namespace Go.Proofs.YtjligbmickfbdaaGreat
namespace Fr
open Go.RowKit
open Bt (Frm)
set_option maxHeartbeats 3200000 in
set_option maxRecDepth 100000 in
theorem text_any (A:Option Addr) (n c:Nat) (l:List Int) (w:World) (hn:n<=20000) (hok:l.all Zr.okRank=true) (hrd:Rd w w.heap.size 1 A n (l.map (Value.int .i64))) :
  Calls Tryz.prog 82 #[.slice A n c] w fun e w'=>e=.returned (.tuple #[.string ⟨(txt row0 l).toArray⟩,.int .i64 0])/\Below w.heap.size w w':=by
 have mixed:Tryz.prog.follows .mixedOrders=true:=by kernel_rfl
 have hln:l.length=n:=by simpa using hrd.len
 have HLN:=Lib.hid hln;have HR:=Lib.hid hrd;have HOK:=Lib.hid hok;clear hln hrd hok
 go_enter Tryz.func82, Tryz.ntmps82
 go_wp2_with fail
 refine(begun_any w).mono ?_;rintro e1 w1 ⟨g,rfl,hr1,hg1,hb1⟩;have hg1l:=hr1.lt;have HR1:=Lib.hid hr1;have HB1:=Lib.hid hb1;have hs1:=hb1.size;clear hr1 hb1;go_wp2_with (at_make;(refine makeB0 (n:=n) (by omega) (Nat.le_refl w1.heap.size) ?_);intro w2 hown2 hg2 hz2)
 have hr2:RowB w2 g row0:=(hg2.block g hg1l (by simp)).trans HR1.out;have hb2:Below w.heap.size w w2:=HB1.out.grown hg2 hs1 (by simp);have H0:Aside (OwnB w2 w1.heap.size (.slice (some ⟨w1.heap.size,0,none⟩) 0 n) []/\RowB w2 g row0/\Below w.heap.size w w2/\w1.heap.size<=w2.heap.size):=⟨hown2,hr2,hb2,by omega⟩
 clear hown2 hr2 hb2 hg2 hz2;go_wp2_with fail
 go_loopg [5,15] n (fun kx s5 s15 wr=>∃(k:Nat) (acc:List UInt8) (row:List UInt8) (v:Value),v=s5/\s15=.int .i64 (k:Int)/\k<=n/\n-k<=kx/\Hid (acc++txt row (l.drop k)=txt row0 l) /\
  Aside (OwnB wr w1.heap.size v acc/\RowB wr g row/\Below w.heap.size w wr/\w1.heap.size<=wr.heap.size)/\Aside (acc.length=k/\row.length=256))
 case atStart=>exact⟨0,[],row0,_,rfl,rfl,by omega,by omega,(show Hid _ from rfl),H0.out,⟨rfl,length_row0⟩⟩
 case round =>
  clear H0;obtain⟨k,acc,row,v,hv,rfl,hk,hkx,heq,H,HL⟩:=hrel;subst hv;by_cases hlt:k<n
  ·obtain⟨ad,x,rfl,had,hx,hcell⟩:=(HR.out.below H.out.2.2.1).int1 hlt
   have hkl:k<l.length:=by have:=HLN.out;omega
   have hkx2:l[k]=x:=by rw[List.getElem?_eq_getElem hkl] at hx;exact Option.some.inj hx
   have hxr:=List.all_eq_true.1 HOK.out l[k] (List.getElem_mem hkl);rw[hkx2] at hxr;unfold Zr.okRank at hxr;simp only[Bool.and_eq_true,decide_eq_true_eq] at hxr;obtain⟨i,rfl⟩:∃i:Nat,x=(i:Int):=⟨x.toNat,by omega⟩
   have hi:i<256:=by omega
   obtain⟨cc,hcc⟩:∃cc,row[i]? =some cc:=⟨_,List.getElem?_eq_getElem (by rw[HL.out.2];exact hi)⟩
   have hdr:l.drop k=(i:Int)::l.drop (k+1):=by rw[List.drop_eq_getElem_cons hkl,hkx2]
   have HAT:=Lib.hid (at_any wr g i cc row HL.out.2 hi hcc H.out.2.1);have hst:(acc++[cc])++txt (mv row i) (l.drop (k+1))=txt row0 l:=by
    rw[<-heq.out,hdr,List.append_assoc];simp only[txt,Int.toNat_natCast,hcc,Option.getD_some,List.singleton_append]
   have HST:=Lib.hid hst;have hown:=H.out.1;have hne:v.ownBlock≠some g:=by
    intro e;have:=(World.ownsRow.lt hown g e).1;omega
   have hmv:(mv row i).length=256:=by rw[length_mv];exact HL.out.2
   have HMV:=Lib.hid hmv;clear hdr hst hmv hown hx hkx2 hkl had hcc;go_wp2_with fail
   refine HAT.out.mono ?_;rintro e3 w3 ⟨rfl,hr3,hf3⟩;have hown3:OwnB w3 w1.heap.size v acc:=own_frm H.out.1 hf3 hne (by simp);have hb3:Below w.heap.size w w3:=H.out.2.2.1.trans (hf3.below (by omega) (by have:=H.out.2.2.2;omega) (by simp));have hs3:w1.heap.size<=w3.heap.size:=Nat.le_trans H.out.2.2.2 hf3.size;have hal:acc.length<=1099511627776:=by have:=HL.out.1;omega
   have H3:Aside _:=And.intro hr3 hb3;have HAL:=Lib.hid hal;have HO3:=Lib.hid hown3;clear hr3 hf3 hb3 hal HAT hown3;go_wp2_with (at_builtin;refine appendB cc rfl HO3.out HAL.out hs3 ?_;intro A4 n4 c4 w4 hn4 hown4 hb4 hg4 hat4)
   have hr4:RowB w4 g (mv row i):=(hg4.block g (by omega) (fun e=>hne e.symm)).trans H3.out.1;have hb5:Below w.heap.size w w4:=H3.out.2.trans (hb4.mono (by omega));have HN:Aside _:=And.intro hown4 (And.intro hr4 (And.intro hb5 (Nat.le_trans hs3 hb4.size)));clear hown4 hr4 hb5 hb4 hg4 hat4 hn4 HO3;go_wp2_with fail
   go_roundg (n-(k+1))
   case measure=>omega
   case rel=>exact⟨k+1,_,mv row i,_,rfl,by go_num,by omega,by omega,HST.out,HN.out,⟨by rw[List.length_append,HL.out.1];rfl,HMV.out⟩⟩
  ·have hd:l.drop k=[]:=List.drop_eq_nil_of_le (by have:=HLN.out;omega)
   have hres:=heq.out;rw[hd] at hres;have hr2:acc=txt row0 l:=by rw[<-hres];simp[txt]
   have hown:=H.out.1;rw[hr2] at hown;obtain⟨A2,c2,rfl,_,_,hr2⟩:=hown.rd;have hs2:=run_str (c:=c2) hr2;have HBB:=Lib.hid H.out.2.2.1;clear hd hres hr2 hown H;go_wp2_with fail
   go_ret2
   exact⟨rfl,HBB.out⟩
end Fr
end Go.Proofs.YtjligbmickfbdaaGreat
