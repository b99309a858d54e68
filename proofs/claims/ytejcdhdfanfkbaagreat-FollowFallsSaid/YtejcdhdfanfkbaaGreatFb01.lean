/- General lemmas over any program: endings, the law's last step (true is told, the arguments read as they did, nothing that was there has turned). No conditions. Numbers as bytes: what varint's functions compute: plain lists of bytes, no program. Names of files: what the functions of package name, and of its reference, compute: plain lists of bytes, no program. follow: places and their bytes, plainly. -/
import Derived.Handy
import Derived.WalkSpells
import Derived.WalkLawsBesides
import Derived.Lib.Hide
import Derived.Deep.QuietTactic
import Derived.BigQuiet
import Derived.Deep.RegionHeld3
import Derived.Laws.BytesArg
import Derived.ProofKit
import Derived.OpenShut
namespace Go.Proofs.YtejcdhdfanfkbaaGreat
open Go.RowKit Go.ChangeShapes Go.WideShapes
theorem ret_bool {a b:Bool} (h:a=b):Ending.returned (.bool a)=.returned (.bool b):=by rw[h]
theorem ret_int {k:IntKind} {a b:Int} (h:a=b):Ending.returned (.int k a)=.returned (.int k b):=by rw[h]
theorem ret_str {a b:ByteArray} (h:a=b):Ending.returned (.string a)=.returned (.string b):=by rw[h]
def toU8 (l:List Int):List UInt8:=l.map fun n=>UInt8.ofNat n.toNat
theorem strOfNums_eq (l:List Int):strOfNums l=⟨(toU8 l).toArray⟩:=rfl
theorem trodAll_stays {H:Type} {enc:TypeId×Value->H} {P:Program} (hl:laidOutB P=true) {W W':World} (hb:Below W.heap.size W W') :
  ∀{ts:List TypeId} {vs:List Value} {ds:List (DataW H)} {ps:List MemPlace},(∀t∈ts,P.readableRec t=true/\t<P.types.size) ->
   DataW.TrodAll enc P W 0 (fun _=>true) true ts vs ds ps->(∀x∈ps,x.block<W.heap.size) ->
   ∀sp:Nat->Bool,(∀p∈ps,sp p.block=true)->DataW.TrodAll enc P W' 0 sp true ts vs ds ps
 | [],_,_,_,_,h,_,_,_=>by
   obtain⟨rfl,rfl,rfl⟩:=trodAll_nil h;exact h
 |t::ts,_,_,_,hr,h,hlt,sp,hsp=>by
  obtain⟨v,vs1,d,ds1,a,b,rfl,rfl,rfl,h1,h2⟩:=trodAll_cons h;have ht:=hr t (by simp);refine⟨a,b,?_,trodAll_stays hl hb (fun t' h'=>hr t' (by simp[h'])) h2 (fun x hx=>hlt x (by simp[hx])) sp (fun p hp=>hsp p (by simp[hp])),rfl⟩;exact WideElems.Trod_stays hl ht.1 ht.2 h1 (fun x hx=>hb.same (hlt x (by simp[hx]))) (fun x hx=>hsp x (by simp[hx]))
theorem post_true {H:Type} {enc:TypeId×Value->H} {P:Program} (hl:laidOutB P=true) {f:Func} {s:ChangeSpec} {apart fresh handsOn:Bool} {W W':World} {args:Array Value}
  {ds gs:List (DataW H)} {before:List MemPlace} {tb:TypeId}
  (hvars:s.vars=[]) (hres:f.resultTypes= #[tb]) (htb:P.underlying tb=some .bool)
  (hfr:(s.fn H (ds++gs)).results=[.lit (.bool true)]) (hfa:(s.fn H (ds++gs)).args=ds) (hfv:(s.fn H (ds++gs)).vars=[])
  (hp:∀t∈f.params.toList,P.readableRec t=true/\t<P.types.size)
  (hW:DataW.Whole enc P f.params.toList s.vars apart W args.toList ds gs before) (hb:Below W.heap.size W W') :
  s.post enc P f apart fresh handsOn false W args (.bool true) W':=by
 have hW':=hW;obtain⟨p,q,hA,hV,rfl,hfz,hnd⟩:=hW;have hlt:∀x∈p++q,x.block<W.heap.size:=fun x hx=>hW'.lt x hx
 rw[hvars] at hV;obtain⟨rfl,rfl⟩:=trodVars_none hV;rw[List.append_nil] at hlt;refine⟨ds,[],p++[],[],p,[],hW',?_,?_,?_,?_,by simp⟩
 ·rw[hfr,hres]
  exact trodAll_mk1 (shut_bool htb true)
 ·rw[hfa]
  exact trodAll_stays hl hb hp hA hlt _ (fun x hx=>by simpa using hlt x hx)
 ·rw[hfv,hvars]
  rfl
 ·exact World.keptBut_mono (fun x hx=>⟨by simpa using hx,.inr (.inl hx)⟩) (hb.frame (· ∈p))
theorem open_pair {H:Type} {enc:TypeId×Value->H} {P:Program} {w:World} {base b0:Nat} {spare:Nat->Bool} {held:Bool} {r:Reach} {t e:TypeId} {k:IntKind} {v:Value} {d:DataW H} {p:List MemPlace}
  (ht:P.underlying t=some (.array 2 e)) (he:P.underlying e=some (.int k)) (hc:P.cellsOf e=1) (hC:P.cellsOf t=2)
  (hv:Value.okWide P w r b0 t v) (h:DataW.Trod enc P w base spare held t v d p):∃a b:Int,v=.agg #[.int k a,.int k b]:=by
 simp only[Value.okWide,ht] at hv;obtain⟨cs,rfl,hsz,_⟩:=hv;obtain⟨c0,c1,rfl⟩:∃a b,cs= #[a,b]:=by
  have h2:cs.size=2:=hsz.trans hC;obtain⟨l⟩:=cs
  match l,h2 with
  | [a,b],_=>exact⟨a,b,rfl⟩
 obtain⟨fuel,hf⟩:=h;obtain⟨xs,m,_,_,_,hl,hx⟩:=DataW.trod_array ht hf;have h0:=hx 0 (by omega);have h1:=hx 1 (by omega);rw[List.getElem?_eq_getElem (by omega)] at h0 h1;simp only[hc,Value.cells] at h0 h1;obtain⟨n0,e0,_⟩:=DataW.trod_int he h0;obtain⟨n1,e1,_⟩:=DataW.trod_int he h1;simp at e0 e1
 exact⟨n0,n1,by rw[e0,e1]⟩
theorem bcell {W w1:World} {B:Nat} (hb:Below B W w1):∀b o,b<B->w1.cell? ⟨b,o,none⟩=W.cell? ⟨b,o,none⟩:=fun b o h=>hb.cell (p:=⟨b,o,none⟩) h
theorem below_drewN {B:Nat} {a w:World} (h:Below B a w) (n:Nat):Below B a (w.drewN n):=⟨h.os,h.tape,h.output,h.size,h.block⟩
theorem below_iter {B:Nat} {a w:World} (h:Below B a w) (hB:B<=w.heap.size) (s:ByteArray) (pos:Nat):Below B a (w.iter s pos):=h.alloc hB _
end Go.Proofs.YtejcdhdfanfkbaaGreat
namespace Go.Proofs.YtejcdhdfanfkbaaGreat
namespace Vi
def putV (n:Nat):List UInt8:=if _h:n<128 then[UInt8.ofNat n] else UInt8.ofNat (n%128+128)::putV (n/128)
termination_by n
decreasing_by omega
theorem putV_small {n:Nat} (h:n<128):putV n=[UInt8.ofNat n]:=by rw[putV,dif_pos h]
theorem putV_step {n:Nat} (h: ¬ n<128):putV n=UInt8.ofNat (n%128+128)::putV (n/128):=by rw[putV,dif_neg h]
def gv (k n:Nat):List UInt8->Nat×Nat×Int
 | []=>(0,0,if k<9 then 4 else 5)
 |c::l =>
  if 9<=k then(0,0,5)
  else if 128<=c.toNat then gv (k+1) (n+(c.toNat-128)*128^k) l
  else if c.toNat=0/\0<k then(0,0,5)
  else(n+c.toNat*128^k,k+1,0)
theorem toNat_ofNat (n:Nat) (h:n<256):(UInt8.ofNat n).toNat=n:=by
 simp only[UInt8.toNat_ofNat'];omega
theorem length_putV_pos (n:Nat):0<(putV n).length:=by
 by_cases h:n<128
 ·rw[putV_small h];simp
 ·rw[putV_step h];simp
theorem gv_putV:∀(n k m:Nat) (rest:List UInt8),k<9->n<128^(9-k)->(0<k->0<n) ->
  gv k m (putV n++rest)=(m+n*128^k,k+(putV n).length,0):=by
 intro n
 induction n using Nat.strongRecOn with
 |ind n ih =>
  intro k m rest hk hn h0;by_cases h:n<128
  ·rw[putV_small h]
   simp only[List.singleton_append,gv,List.length_singleton];rw[if_neg (by omega),toNat_ofNat n (by omega),if_neg (by omega),if_neg (by omega)]
  ·rw[putV_step h]
   simp only[List.cons_append,gv,List.length_cons];rw[if_neg (by omega),toNat_ofNat _ (by omega),if_pos (by omega)];have hk8:k+1<9:=by
    rcases Nat.lt_or_ge k 8 with h8|h8
    ·omega
    ·exfalso
     have:k=8:=by omega
     subst this;simp at hn;omega
   have hp:128^(9-k)=128*128^(9-(k+1)):=by
    rw[show 9-k=(9-(k+1))+1 from by omega,Nat.pow_succ];omega
   have hd:n/128<128^(9-(k+1)):=by
    rw[hp] at hn;exact Nat.div_lt_of_lt_mul hn
   rw[ih (n/128) (by omega) (k+1) _ rest hk8 hd (fun _=>by omega)];have e:m+(n%128+128-128)*128^k+n/128*128^(k+1)=m+n*128^k:=by
    rw[Nat.pow_succ,Nat.add_assoc,show n/128*(128^k*128)=(n/128*128)*128^k from by rw[Nat.mul_assoc,Nat.mul_comm (128^k)],<-Nat.add_mul];congr 2;omega
   rw[e];congr 2;omega
theorem gv_some:∀(l:List UInt8) (k m v u:Nat),gv k m l=(v,u,0)-> ∃n rest,l=putV n++rest/\v=m+n*128^k/\u=k+(putV n).length/\n<128^(9-k)/\k<9/\(0<k->0<n)
 | [],k,m,v,u,h=>by
   simp only[gv] at h;split at h<;>simp at h
 |c::l,k,m,v,u,h=>by
  simp only[gv] at h;split at h
  ·simp at h
  rename_i hk
  split at h
  ·rename_i hc
   obtain⟨n,rest,rfl,hv,hu,hn,hk9,hpos⟩:=gv_some l (k+1) _ v u h;have hn0:=hpos (by omega);have hcb:=c.toNat_lt;refine⟨n*128+(c.toNat-128),rest,?_,?_,?_,?_,by omega,fun _=>by omega⟩
   ·rw[putV_step (n:=n*128+(c.toNat-128)) (by omega)]
    have e1:(n*128+(c.toNat-128))/128=n:=by omega
    have e2:(n*128+(c.toNat-128))%128+128=c.toNat:=by omega
    rw[e1,e2];simp
   ·have e:128^(k+1)=128^k*128:=by exact Nat.pow_succ ..
    rw[hv,e];generalize 128^k=q;generalize c.toNat-128=y;rw[Nat.add_mul,Nat.mul_assoc n 128 q,Nat.mul_comm 128 q];omega
   ·rw[hu,putV_step (n:=n*128+(c.toNat-128)) (by omega)]
    have e1:(n*128+(c.toNat-128))/128=n:=by omega
    rw[e1,List.length_cons];omega
   ·rw[show 9-k=(9-(k+1))+1 from by omega,Nat.pow_succ]
    omega
  ·split at h
   ·simp at h
   ·rename_i hc h0
    simp only[Prod.mk.injEq,and_true] at h;refine⟨c.toNat,l,?_,h.1.symm,?_,?_,by omega,fun hk=>by omega⟩
    ·rw[putV_small (by omega)];simp
    ·rw[putV_small (by omega)];simp;omega
    ·have:128^1<=128^(9-k):=Nat.pow_le_pow_right (by omega) (by omega)
     omega
theorem gv_err (l:List UInt8):∀(k m:Nat),(gv k m l).2.2=0∨(gv k m l).1=0/\(gv k m l).2.1=0:=by
 induction l with
 |nil=>intro k m;right;simp[gv]
 |cons c l ih =>
  intro k m;simp only[gv];split
  ·right;simp
  split
  ·exact ih _ _
  split
  ·right;simp
  ·left;rfl
theorem length_putV_le:∀(n k:Nat),n<128^(k+1)->(putV n).length<=k+1:=by
 intro n
 induction n using Nat.strongRecOn with
 |ind n ih =>
  intro k hn;by_cases h:n<128
  ·rw[putV_small h];simp
  ·rw[putV_step h,List.length_cons]
   rcases k with _|k
   ·simp at hn;omega
   ·have:=ih (n/128) (by omega) k (Nat.div_lt_of_lt_mul (by rw[Nat.pow_succ] at hn;omega))
    omega
end Vi
end Go.Proofs.YtejcdhdfanfkbaaGreat
namespace Go.Proofs.YtejcdhdfanfkbaaGreat
namespace Nm
def okRune (r:Int):Bool:=(decide (97<=r)&&decide (r<=122))||(decide (48<=r)&&decide (r<=57))||(r==46)||(r==45)
def okB (c:UInt8):Bool:=okRune c.toNat
def check (l:List UInt8):Int:=if 1<=l.length/\l.length<=64/\l.all okB=true then 0 else 180
def num6 (n:Int):List UInt8:=toU8 [48+n/10/10/10/10/10%10,48+n/10/10/10/10%10,48+n/10/10/10%10,48+n/10/10%10,48+n/10%10,48+n%10]
def may (n:Int):Bool:=decide (1<=n)&&decide (n<=999999)
def seg (i g:Int):List UInt8:=[115,101,103,45]++num6 i++[45]++num6 g++[46,108,111,103]
def isD (c:UInt8):Bool:=decide (48<=c.toNat)&&decide (c.toNat<=57)
def valTo (n:Int):List UInt8->Int
 | []=>n
 |c::l=>valTo (10*n+((c.toNat:Int)-48)) l
def value (l:List UInt8):Int:=if l.all isD=true then valTo 0 l else 0
def unsix (l:List UInt8):Int:=if l.all isD=true then valTo 0 l else -1
def parse (l:List UInt8):Option (Int×Int) :=
 if l.length=21 then
  let i:=value ((l.drop 4).take 6)
  let g:=value ((l.drop 11).take 6)
  if may i=true/\may g=true/\seg i g=l then some (i,g) else none
 else none
def parseR (l:List UInt8):Option (Int×Int) :=
 if l.length=21/\l.take 4=[115,101,103,45]/\l[10]? =some 45/\l.drop 17=[46,108,111,103] then
  let i:=unsix ((l.drop 4).take 6)
  let g:=unsix ((l.drop 11).take 6)
  if i<1∨g<1 then none else some (i,g)
 else none
theorem length_num6 (n:Int):(num6 n).length=6:=rfl
theorem length_seg (i g:Int):(seg i g).length=21:=rfl
theorem ofNat_toNat (c:UInt8) (z:Int) (h:z=c.toNat):UInt8.ofNat z.toNat=c:=by
 subst h;simp
theorem list6 {α:Type} (l:List α) (h:l.length=6):∃a b c d e f,l=[a,b,c,d,e,f]:=by
 match l,h with
 | [a,b,c,d,e,f],_=>exact⟨a,b,c,d,e,f,rfl⟩
theorem toNat_u8 (z:Int) (h0:0<=z) (h1:z<256):((UInt8.ofNat z.toNat).toNat:Int)=z:=by
 simp only[UInt8.toNat_ofNat'];omega
theorem num6_val (l:List UInt8) (h:l.length=6) (hd:l.all isD=true):num6 (valTo 0 l)=l/\0<=valTo 0 l/\valTo 0 l<=999999:=by
 obtain⟨a,b,c,d,e,f,rfl⟩:=list6 l h;simp only[List.all_cons,List.all_nil,isD,Bool.and_eq_true,decide_eq_true_eq,Bool.and_true] at hd;simp only[valTo];refine⟨?_,by omega,by omega⟩;simp only[num6,toU8,List.map_cons,List.map_nil];congr 1
 ·exact ofNat_toNat _ _ (by omega)
 congr 1
 ·exact ofNat_toNat _ _ (by omega)
 congr 1
 ·exact ofNat_toNat _ _ (by omega)
 congr 1
 ·exact ofNat_toNat _ _ (by omega)
 congr 1
 ·exact ofNat_toNat _ _ (by omega)
 congr 1
 ·exact ofNat_toNat _ _ (by omega)
theorem dig_toNat (z:Int):((UInt8.ofNat (48+z%10).toNat).toNat:Int)=48+z%10:=toNat_u8 _ (by omega) (by omega)
theorem num6_digits (n:Int):(num6 n).all isD=true:=by
 simp only[num6,toU8,List.map_cons,List.map_nil,List.all_cons,List.all_nil,isD,Bool.and_eq_true,decide_eq_true_eq,Bool.and_true];have h0:=dig_toNat n;have h1:=dig_toNat (n/10);have h2:=dig_toNat (n/10/10);have h3:=dig_toNat (n/10/10/10);have h4:=dig_toNat (n/10/10/10/10);have h5:=dig_toNat (n/10/10/10/10/10);omega
theorem val_num6 (n:Int) (h0:0<=n) (h1:n<=999999):valTo 0 (num6 n)=n:=by
 simp only[num6,toU8,List.map_cons,List.map_nil,valTo,dig_toNat];omega
theorem num6_inj {m n:Int} (h0:0<=m) (h1:m<=999999) (k0:0<=n) (k1:n<=999999) (h:num6 m=num6 n):m=n:=by
 rw[<-val_num6 m h0 h1,<-val_num6 n k0 k1,h]
theorem may_iff (n:Int):may n=true↔1<=n/\n<=999999:=by simp[may]
theorem drop4_seg (i g:Int):((seg i g).drop 4).take 6=num6 i:=rfl
theorem drop11_seg (i g:Int):((seg i g).drop 11).take 6=num6 g:=rfl
theorem join21 (l:List UInt8) (h:l.length=21) (h4:l.take 4=[115,101,103,45]) (h10:l[10]? =some 45) (h17:l.drop 17=[46,108,111,103]) :
  l=[115,101,103,45]++(l.drop 4).take 6++[45]++(l.drop 11).take 6++[46,108,111,103]:=by
 match l,h with
 | [a0,a1,a2,a3,a4,a5,a6,a7,a8,a9,a10,a11,a12,a13,a14,a15,a16,a17,a18,a19,a20],_ =>
   simp at h4 h10 h17
   obtain⟨rfl,rfl,rfl,rfl⟩:=h4;obtain⟨rfl,rfl,rfl,rfl⟩:=h17;subst h10;rfl
theorem parse_seg (i g:Int) (hi:may i=true) (hg:may g=true):parse (seg i g)=some (i,g):=by
 have hi':=(may_iff i).1 hi;have hg':=(may_iff g).1 hg;unfold parse;rw[if_pos (length_seg i g)];simp only[drop4_seg,drop11_seg,value,num6_digits,if_true];rw[val_num6 i (by omega) (by omega),val_num6 g (by omega) (by omega)];rw[if_pos ⟨hi,hg,rfl⟩]
theorem parse_some {l:List UInt8} {i g:Int} (h:parse l=some (i,g)):may i=true/\may g=true/\seg i g=l:=by
 unfold parse at h;split at h
 ·simp only at h
  split at h
  ·rename_i hh
   simp only[Option.some.injEq,Prod.mk.injEq] at h;obtain⟨rfl,rfl⟩:=h;exact hh
  ·cases h
 ·cases h
theorem parseR_seg (i g:Int) (hi:may i=true) (hg:may g=true):parseR (seg i g)=some (i,g):=by
 have hi':=(may_iff i).1 hi;have hg':=(may_iff g).1 hg;unfold parseR;rw[if_pos ⟨length_seg i g,rfl,rfl,rfl⟩];simp only[drop4_seg,drop11_seg,unsix,num6_digits,if_true];rw[val_num6 i (by omega) (by omega),val_num6 g (by omega) (by omega)];rw[if_neg (by omega)]
theorem parseR_some {l:List UInt8} {i g:Int} (h:parseR l=some (i,g)):may i=true/\may g=true/\seg i g=l:=by
 unfold parseR at h;split at h
 ·rename_i hl
  obtain⟨hl,h4,h10,h17⟩:=hl;simp only at h;split at h
  ·cases h
  ·rename_i hn
   simp only[Option.some.injEq,Prod.mk.injEq] at h;obtain⟨rfl,rfl⟩:=h;have e6:((l.drop 4).take 6).length=6:=by simp;omega
   have g6:((l.drop 11).take 6).length=6:=by simp;omega
   by_cases d1:((l.drop 4).take 6).all isD=true
   ·by_cases d2:((l.drop 11).take 6).all isD=true
    ·have a1:=num6_val _ e6 d1
     have a2:=num6_val _ g6 d2;simp only[unsix,d1,d2,if_true] at hn ⊢;refine⟨(may_iff _).2 (by omega),(may_iff _).2 (by omega),?_⟩;unfold seg;rw[a1.1,a2.1];exact(join21 l hl h4 h10 h17).symm
    ·exfalso
     apply hn
     right
     unfold unsix;rw[if_neg d2]
     decide
   ·exfalso
    apply hn
    left
    unfold unsix;rw[if_neg d1]
    decide
 ·cases h
theorem parse_eq (l:List UInt8):parse l=parseR l:=by
 rcases h:parse l with _|⟨i,g⟩
 ·rcases h':parseR l with _|⟨i,g⟩
  ·rfl
  ·obtain⟨a,b,rfl⟩:=parseR_some h'
   rw[parse_seg i g a b] at h;cases h
 ·obtain⟨a,b,rfl⟩:=parse_some h
  exact(parseR_seg i g a b).symm
def kind (l:List UInt8):Int :=
 if(parse l).isSome=true then 1 else if l=[109,97,110,105,102,101,115,116] then 2 else if l=[109,97,110,105,102,101,115,116,46,110,101,119] then 3 else 0
theorem okB_of_isD (c:UInt8) (h:isD c=true):okB c=true:=by
 simp[isD] at h
 simp[okB,okRune]
 omega
theorem check_seg (i g:Int):check (seg i g)=0:=by
 unfold check;rw[if_pos];refine⟨by rw[length_seg];decide,by rw[length_seg];decide,?_⟩;have h:∀n,(num6 n).all okB=true:=fun n=>List.all_eq_true.2 fun c hc=>okB_of_isD c (List.all_eq_true.1 (num6_digits n) c hc)
 unfold seg;simp only[List.all_append,h,Bool.and_eq_true]
 decide
end Nm
end Go.Proofs.YtejcdhdfanfkbaaGreat
namespace Go.Proofs.YtejcdhdfanfkbaaGreat
namespace Fo
open Vi
structure Pl where
 s:ByteArray
 n:Int
deriving Inhabited,DecidableEq
def bl (p:Pl):List UInt8:=p.s.data.toList
def okP (p:Pl):Bool:=decide (Nm.check (bl p)=0/\1<=p.n/\p.n<=1000000001)
def rowP:Option (List UInt8)->List Pl->Bool
 |_,[]=>true
 |a,p::l=>okP p&&((match a with|none=>true|some x=>_root_.Go.Op.bytesLess x (bl p))&&rowP (some (bl p)) l)
def chkP (l:List Pl):Int:=if l.length<=50/\rowP none l=true then 0 else 180
def pB1 (p:Pl):List UInt8:=putV p.s.size++(bl p++putV p.n.toNat)
def pL (l:List Pl):List UInt8:=putV l.length++l.flatMap pB1
def tk1 (l:List UInt8):Int×Pl×List UInt8 :=
 if(gv 0 0 l).2.2≠0 then((gv 0 0 l).2.2,default,[])
 else if 64<(gv 0 0 l).1 then(180,default,[])
 else if(l.drop (gv 0 0 l).2.1).length<(gv 0 0 l).1 then(4,default,[])
 else if(gv 0 0 ((l.drop (gv 0 0 l).2.1).drop (gv 0 0 l).1)).2.2≠0 then((gv 0 0 ((l.drop (gv 0 0 l).2.1).drop (gv 0 0 l).1)).2.2,default,[])
 else(0,⟨⟨((l.drop (gv 0 0 l).2.1).take (gv 0 0 l).1).toArray⟩,(gv 0 0 ((l.drop (gv 0 0 l).2.1).drop (gv 0 0 l).1)).1⟩,((l.drop (gv 0 0 l).2.1).drop (gv 0 0 l).1).drop (gv 0 0 ((l.drop (gv 0 0 l).2.1).drop (gv 0 0 l).1)).2.1)
def tkN:Nat->List UInt8->Int×List Pl×List UInt8
 |0,l=>(0,[],l)
 |k+1,l=>if(tk1 l).1≠0 then((tk1 l).1,[],[])
  else if(tkN k (tk1 l).2.2).1≠0 then((tkN k (tk1 l).2.2).1,[],[])
  else(0,(tk1 l).2.1::(tkN k (tk1 l).2.2).2.1,(tkN k (tk1 l).2.2).2.2)
def rdP (l:List UInt8):Int×List Pl :=
 if(gv 0 0 l).2.2≠0 then((gv 0 0 l).2.2,[])
 else if 50<(gv 0 0 l).1 then(3,[])
 else if(tkN (gv 0 0 l).1 (l.drop (gv 0 0 l).2.1)).1≠0 then((tkN (gv 0 0 l).1 (l.drop (gv 0 0 l).2.1)).1,[])
 else if(tkN (gv 0 0 l).1 (l.drop (gv 0 0 l).2.1)).2.2≠ [] then(6,[])
 else(0,(tkN (gv 0 0 l).1 (l.drop (gv 0 0 l).2.1)).2.1)
def deP (l:List UInt8):Int×List Pl :=
 if(rdP l).1≠0 then((rdP l).1,[]) else if chkP (rdP l).2≠0 then(180,[]) else(0,(rdP l).2)
theorem okP_iff (p:Pl):okP p=true↔Nm.check (bl p)=0/\1<=p.n/\p.n<=1000000001:=by unfold okP;rw[decide_eq_true_eq]
theorem check_len {l:List UInt8} (h:Nm.check l=0):1<=l.length/\l.length<=64:=by
 unfold Nm.check at h;split at h
 ·rename_i h1;exact⟨h1.1,h1.2.1⟩
 ·cases h
theorem rowP_ok:∀{a:Option (List UInt8)} {l:List Pl},rowP a l=true-> ∀p∈l,okP p=true
 |_,[],_,p,h=>by cases h
 |a,q::l,h,p,hp=>by
  unfold rowP at h;rw[Bool.and_eq_true,Bool.and_eq_true] at h;rcases List.mem_cons.1 hp with rfl|hp
  ·exact h.1
  ·exact rowP_ok h.2.2 p hp
theorem gv0 (n:Nat) (rest:List UInt8) (h:n<9223372036854775808):gv 0 0 (putV n++rest)=(n,(putV n).length,0):=by
 have:=gv_putV n 0 0 rest (by omega) (by simpa using h) (by omega);simpa using this
theorem tk1_put (p:Pl) (h:okP p=true) (rest:List UInt8):tk1 (pB1 p++rest)=(0,p,rest):=by
 obtain⟨h1,h2,h3⟩:=(okP_iff p).1 h;have hl:=check_len h1;have hsz:(bl p).length=p.s.size:=rfl;have e0:pB1 p++rest=putV p.s.size++(bl p++(putV p.n.toNat++rest)):=by unfold pB1;simp only[List.append_assoc]
 have g0:=gv0 p.s.size (bl p++(putV p.n.toNat++rest)) (by omega);have d0:(putV p.s.size++(bl p++(putV p.n.toNat++rest))).drop (putV p.s.size).length=bl p++(putV p.n.toNat++rest):=List.drop_left;have d1:(bl p++(putV p.n.toNat++rest)).drop p.s.size=putV p.n.toNat++rest:=by rw[<-hsz];exact List.drop_left
 have t1:(bl p++(putV p.n.toNat++rest)).take p.s.size=bl p:=by rw[<-hsz];exact List.take_left
 have g1:=gv0 p.n.toNat rest (by omega);have d2:(putV p.n.toNat++rest).drop (putV p.n.toNat).length=rest:=List.drop_left;rw[e0];unfold tk1;simp only[g0,d0,d1,t1,g1,d2];rw[if_neg (by simp),if_neg (by omega),if_neg (by rw[List.length_append];omega),if_neg (by simp)];have e1:((p.n.toNat:Nat):Int)=p.n:=by omega
 rw[e1];obtain⟨⟨⟨s⟩⟩,n⟩:=p;rfl
theorem tkN_put:∀(l:List Pl) (rest:List UInt8),(∀p∈l,okP p=true)->tkN l.length (l.flatMap pB1++rest)=(0,l,rest)
 | [],rest,_=>rfl
 |p::l,rest,h=>by
  have h1:=tk1_put p (h p (List.mem_cons_self ..)) (l.flatMap pB1++rest);have h2:=tkN_put l rest fun q hq=>h q (List.mem_cons_of_mem _ hq)
  rw[List.flatMap_cons,List.append_assoc,List.length_cons];unfold tkN;simp only[h1,h2];rfl
theorem deP_put (l:List Pl) (h:chkP l=0):deP (pL l)=(0,l):=by
 have hc:l.length<=50/\rowP none l=true:=by
  unfold chkP at h;split at h
  ·assumption
  ·cases h
 have g0:=gv0 l.length (l.flatMap pB1) (by omega);have d0:(putV l.length++l.flatMap pB1).drop (putV l.length).length=l.flatMap pB1:=List.drop_left;have t0:=tkN_put l [] (rowP_ok hc.2);rw[List.append_nil] at t0;have hr:rdP (pL l)=(0,l):=by
  unfold rdP pL;simp only[g0,d0,t0];rw[if_neg (by simp),if_neg (by omega),if_neg (by simp),if_neg (by simp)]
 unfold deP;rw[hr];simp[h]
theorem gv_is {l:List UInt8} (h:(gv 0 0 l).2.2=0):l=putV (gv 0 0 l).1++l.drop (gv 0 0 l).2.1/\(gv 0 0 l).1<9223372036854775808:=by
 obtain⟨n,rest,e,e1,e2,e3,-,-⟩:=gv_some l 0 0 (gv 0 0 l).1 (gv 0 0 l).2.1 (by rw[<-h]);have en:(gv 0 0 l).1=n:=by rw[e1];simp
 have eu:(gv 0 0 l).2.1=(putV n).length:=by rw[e2];simp
 refine⟨?_,by rw[en];simpa using e3⟩;rw[en,eu]
 conv=>lhs;rw[e]
 conv=>rhs;rw[e]
 rw[List.drop_left]
theorem tk1_is {l:List UInt8} (h:(tk1 l).1=0):l=putV (tk1 l).2.1.s.size++(bl (tk1 l).2.1++(putV (tk1 l).2.1.n.toNat++(tk1 l).2.2)):=by
 unfold tk1 at h ⊢;split at h
 ·contradiction
 rename_i h1
 rw[if_neg h1];split at h
 ·cases h
 rename_i h2
 rw[if_neg h2];split at h
 ·cases h
 rename_i h3
 rw[if_neg h3];split at h
 ·contradiction
 rename_i h4
 rw[if_neg h4];have q1:=gv_is (Decidable.not_not.1 h1);have q2:=gv_is (Decidable.not_not.1 h4);generalize (gv 0 0 l).1=n at *
 generalize l.drop (gv 0 0 l).2.1=r at *
 dsimp only;have hb:bl ⟨⟨(r.take n).toArray⟩,((gv 0 0 (r.drop n)).1:Int)⟩=r.take n:=rfl;have hs:(⟨(r.take n).toArray⟩:ByteArray).size=n:=by
  show(r.take n).toArray.size=n
  rw[List.size_toArray,List.length_take];omega
 rw[hb,hs,Int.toNat_natCast,<-q2.1,List.take_append_drop];exact q1.1
theorem tkN_is:∀(k:Nat) (l:List UInt8),(tkN k l).1=0->l=(tkN k l).2.1.flatMap pB1++(tkN k l).2.2/\(tkN k l).2.1.length=k
 |0,l,_=>⟨rfl,rfl⟩
 |k+1,l,h=>by
  unfold tkN at h ⊢;split at h
  ·contradiction
  rename_i h1
  rw[if_neg h1];split at h
  ·contradiction
  rename_i h2
  rw[if_neg h2];have q1:=tk1_is (Decidable.not_not.1 h1);have q2:=tkN_is k (tk1 l).2.2 (Decidable.not_not.1 h2);dsimp only;refine⟨?_,by rw[List.length_cons,q2.2]⟩;rw[List.flatMap_cons,List.append_assoc,<-q2.1]
  conv=>lhs;rw[q1]
  unfold pB1;simp only[List.append_assoc]
theorem deP_is {l:List UInt8} (h:(deP l).1=0):pL (deP l).2=l/\chkP (deP l).2=0:=by
 unfold deP at h ⊢;split at h
 ·contradiction
 rename_i h1
 rw[if_neg h1];split at h
 ·cases h
 rename_i h2
 rw[if_neg h2];refine⟨?_,Decidable.not_not.1 h2⟩;dsimp only;have h1:=Decidable.not_not.1 h1;clear h2 h;unfold rdP at h1 ⊢;split at h1
 ·contradiction
 rename_i k1
 rw[if_neg k1];split at h1
 ·cases h1
 rename_i k2
 rw[if_neg k2];split at h1
 ·contradiction
 rename_i k3
 rw[if_neg k3];split at h1
 ·cases h1
 rename_i k4
 rw[if_neg k4];have q1:=gv_is (Decidable.not_not.1 k1);have q2:=tkN_is _ _ (Decidable.not_not.1 k3);rw[Decidable.not_not.1 k4,List.append_nil] at q2;dsimp only;unfold pL;rw[q2.2,<-q2.1];exact q1.1.symm
theorem deP_none {l:List UInt8} (h:(deP l).1≠0):(deP l).2=[]:=by
 unfold deP at h ⊢;split
 ·rfl
 ·rename_i h1
  rw[if_neg h1] at h;split
  ·rfl
  ·rename_i h2
   rw[if_neg h2] at h;exact absurd rfl h
end Fo
end Go.Proofs.YtejcdhdfanfkbaaGreat
