/- Names of files: each function of package name, and of its reference, tells what the plain functions of NamePlain tell; nothing that was there has turned. Slices: a slice that reads as a list of values, wherever it lies; slices of the call's own; append onto them. General lemmas over any program, no conditions of a row. -/
import Derived.Test.YtejcdhdfanfkbaaGreatRows
import Derived.Test.YtejcdhdfanfkbaaGreatFb01
import Derived.Maps.AppendAt
import Derived.Deep.AppendLies
import Derived.Deep.Draws
import Derived.Lib.AppendZerosOnto
namespace Go.Proofs.YtejcdhdfanfkbaaGreat
namespace Nm
open Go.RowKit
set_option maxHeartbeats 400000 in
theorem letter_any (r:Int) (w:World):Calls Tryz.prog 97 #[.int .i32 r] w fun e w'=>e=.returned (.bool (okRune r))/\w=w':=by
 go_enter Tryz.func97, Tryz.ntmps97
 go_wp2
 all_goals
  go_ret
  refine⟨ret_bool ?_,rfl⟩;unfold okRune;rw[Bool.eq_iff_iff];simp
  try omega
theorem all_take_succ (s:ByteArray) (p:UInt8->Bool) (k:Nat) (hk:k<s.size):(s.data.toList.take (k+1)).all p=((s.data.toList.take k).all p&&p s[k]):=by
 rw[List.take_succ_eq_append_getElem (by simpa using hk),List.all_append];simp
 rfl
theorem all_of_not (s:ByteArray) (p:UInt8->Bool) (k:Nat) (hk:k<s.size) (h:p s[k]=false):s.data.toList.all p=false:=by
 rw[List.all_eq_false];exact⟨s[k],List.getElem_mem (by simpa using hk),by simp[h]⟩
theorem okB_high (c:UInt8) (h:128<=c.toNat):okB c=false:=by
 simp[okB,okRune];omega
set_option maxHeartbeats 400000 in
theorem check_any (s:ByteArray) (w:World) :
  Calls Tryz.prog 44 #[.string s] w fun e w'=>e=.returned (.int .i64 (check s.data.toList))/\Below w.heap.size w w':=by
 by_cases h1:s.size<1
 ·have hr:check s.data.toList=180:=by
   unfold check;rw[if_neg];intro h;have:s.data.toList.length=s.size:=rfl;omega
  rw[hr];clear hr
  go_enter Tryz.func44, Tryz.ntmps44
  go_wp2
  go_ret
  exact⟨rfl,Below.refl _ _⟩
 by_cases h2:64<s.size
 ·have hr:check s.data.toList=180:=by
   unfold check;rw[if_neg];intro h;have:s.data.toList.length=s.size:=rfl;omega
  rw[hr];clear hr
  go_enter Tryz.func44, Tryz.ntmps44
  go_wp2
  go_ret
  exact⟨rfl,Below.refl _ _⟩
 go_enter Tryz.func44, Tryz.ntmps44
 go_wp2_with fail
 go_loopw [4] (fun _ wr=>∃pos:Nat,pos<=s.size/\wr=w.iter s pos/\(s.data.toList.take pos).all okB=true) (fun _ wr=>s.size-wr.iterPos w.heap.size)
 case atStart=>exact⟨0,by omega,rfl,by simp⟩
 case round =>
  obtain⟨pos,hp,rfl,hall⟩:=hrel;have Hall:=Lib.hid hall;clear hall;by_cases hlt:pos<s.size
  ·by_cases ha:(s[pos]'hlt).toNat<128
   ·have hnx:∀ty,(Instr.next (.pointer (some ⟨w.heap.size,0,none⟩)) true ty).run Tryz.prog (w.iter s pos)=_:=fun ty=>run_next_ascii w s pos ty hlt ha
    by_cases hk:okRune ((s[pos]'hlt).toNat:Int)=true
    ·have HK:=Lib.hid hk
     clear hk;go_wp2_with (go_at_call 97;refine(letter_any _ _).mono ?_;rintro e w' ⟨rfl,rfl⟩;rw[HK.out])
     go_roundw
     case rel =>
      refine⟨pos+1,by omega,rfl,?_⟩;rw[all_take_succ s okB pos hlt,Hall.out,okB,HK.out];rfl
     case measure=>simp;omega
    ·simp only[Bool.not_eq_true] at hk
     have HK:=Lib.hid hk;clear hk;go_wp2_with (go_at_call 97;refine(letter_any _ _).mono ?_;rintro e w' ⟨rfl,rfl⟩;rw[HK.out])
     go_ret
     have hno:=all_of_not s okB pos hlt HK.out;refine⟨ret_int ?_,below_iter (Below.refl _ _) (Nat.le_refl _) _ _⟩;unfold check;rw[if_neg (by rw[hno];simp)]
   ·have hnx:∀ty,(Instr.next (.pointer (some ⟨w.heap.size,0,none⟩)) true ty).run Tryz.prog (w.iter s pos)=_:=fun ty=>run_next_any w s pos ty hlt
    have hd:=(decode_high s pos hlt (by omega)).1;have hk:okRune ((Utf8.decode s pos).1:Int)=false:=by simp[okRune];omega
    have HK:=Lib.hid hk;clear hk;go_wp2_with (go_at_call 97;refine(letter_any _ _).mono ?_;rintro e w' ⟨rfl,rfl⟩;rw[HK.out])
    go_ret
    have hno:=all_of_not s okB pos hlt (okB_high _ (by omega));refine⟨ret_int ?_,below_iter (Below.refl _ _) (Nat.le_refl _) _ _⟩;unfold check;rw[if_neg (by rw[hno];simp)]
  ·have hnx:∀ty,(Instr.next (.pointer (some ⟨w.heap.size,0,none⟩)) true ty).run Tryz.prog (w.iter s pos)=_:=fun ty=>run_next_end w s pos ty hlt
   go_wp2_with fail
   go_ret
   refine⟨ret_int ?_,below_iter (Below.refl _ _) (Nat.le_refl _) _ _⟩;have hall:=Hall.out;rw[List.take_of_length_le (by simp;omega)] at hall;have hl:s.data.toList.length=s.size:=rfl;unfold check;rw[if_pos ⟨by omega,by omega,hall⟩]
end Nm
end Go.Proofs.YtejcdhdfanfkbaaGreat
namespace Go.Proofs.YtejcdhdfanfkbaaGreat
open Go.RowKit Go.ChangeShapes Go.WideShapes
theorem add_block (a:Addr) (n:Nat):(a.add n).block=a.block:=by unfold Addr.add;split<;>rfl
theorem add_add (a:Addr) (i j:Nat):(a.add i).add j=a.add (i+j):=by
 unfold Addr.add;by_cases hi:i=0<;>by_cases hj:j=0<;>simp[hi,hj,Nat.add_assoc]
structure Rd (w:World) (B size:Nat) (A:Option Addr) (n:Nat) (xs:List Value):Prop where
 len:xs.length=n*size
 cells:0<n-> ∃ad,A=some ad/\ad.block<B/\ ∀j u,xs[j]? =some u->w.cell? (ad.add j)=some u
section
variable {w w':World} {B B' size n:Nat} {A:Option Addr} {xs:List Value}
theorem Rd.nil:Rd w B size A 0 []:=⟨by simp,fun h=>absurd h (by omega)⟩
theorem Rd.keep (h:Rd w B size A n xs) (hk:∀p:Addr,p.block<B->w'.cell? p=w.cell? p):Rd w' B size A n xs :=
 ⟨h.len,fun hn=>by
  obtain⟨ad,e,hb,hc⟩:=h.cells hn;exact⟨ad,e,hb,fun j u hu=>(hk _ (by rw[add_block];exact hb)).trans (hc j u hu)⟩⟩
theorem Rd.more (h:Rd w B size A n xs) (hB:B<=B'):Rd w B' size A n xs :=
 ⟨h.len,fun hn=>by
  obtain⟨ad,e,hb,hc⟩:=h.cells hn;exact⟨ad,e,by omega,hc⟩⟩
theorem Rd.below (h:Rd w B size A n xs) (hb:Below B w w'):Rd w' B size A n xs:=h.keep fun _ hp=>hb.cell hp
theorem Rd.drew (h:Rd w B size A n xs):Rd w.drew B size A n xs:=⟨h.len,h.cells⟩
theorem Rd.drewN (h:Rd w B size A n xs) (k:Nat):Rd (w.drewN k) B size A n xs:=⟨h.len,h.cells⟩
theorem Rd.alloc (h:Rd w B size A n xs) (hB:B<=w.heap.size) (o:Obj):Rd (w.alloc o) B size A n xs:=h.keep fun p hp=>World.cell?_alloc_lt w o p (by omega)
theorem Rd.setCell (h:Rd w B size A n xs) {p:Addr} (hB:B<=p.block) (u:Value):Rd (w.setCell p u) B size A n xs :=
 h.keep fun q hq=>World.cell?_setCell_other w p q u (fun e=>by subst e;omega)
theorem Rd.grown (h:Rd w B size A n xs) {row:Option Nat} (hg:w.grownBy w' row) (hB:B<=w.heap.size) (hr:∀g,row=some g->B<=g):Rd w' B size A n xs :=
 h.keep fun p hp=>World.cell?_of_block (hg.block p.block (by omega) (fun e=>by have:=hr _ e.symm;omega))
theorem Rd.tight (h:Rd w B size A n xs) (hs:0<size):Rd w w.heap.size size A n xs :=
 ⟨h.len,fun hn=>by
  obtain⟨ad,e,_,hc⟩:=h.cells hn;have hl:0<xs.length:=by rw[h.len];exact Nat.mul_pos hn hs
  have:=World.block_lt_of_cell? w (ad.add 0) (hc 0 xs[0] (List.getElem?_eq_getElem hl));rw[add_block] at this;exact⟨ad,e,this,hc⟩⟩
theorem Rd.at1 {k:Nat} (h:Rd w B 1 A n xs) (hk:k<n):∃ad u,A=some ad/\ad.block<B/\xs[k]? =some u/\w.cell? (ad.add k)=some u:=by
 obtain⟨ad,e,hb,hc⟩:=h.cells (by omega);have hl:k<xs.length:=by have:=h.len;omega
 exact⟨ad,xs[k],e,hb,List.getElem?_eq_getElem hl,hc k _ (List.getElem?_eq_getElem hl)⟩
theorem Rd.int1 {l:List Int} {kd:IntKind} {k:Nat} (h:Rd w B 1 A n (l.map (Value.int kd))) (hk:k<n):∃ad x,A=some ad/\ad.block<B/\l[k]? =some x/\w.cell? (ad.add k)=some (.int kd x):=by
 obtain⟨ad,u,e,hb,hx,hc⟩:=h.at1 hk;rw[List.getElem?_map] at hx;rcases hl:l[k]? with _|x
 ·rw[hl] at hx;cases hx
 ·rw[hl] at hx
  simp at hx
  subst hx;exact⟨ad,x,e,hb,rfl,hc⟩
theorem Rd.drop (h:Rd w B size A n xs) {k cap:Nat} (hk:k<=n) (hc:n<=cap) :
  Rd w B size (if cap=k then A else A.map (·.add (k*size))) (n-k) (xs.drop (k*size)):=by
 refine⟨by rw[List.length_drop,h.len,Nat.sub_mul],fun hn=>?_⟩;obtain⟨ad,rfl,hb,hcell⟩:=h.cells (by omega);rw[if_neg (by omega)];refine⟨ad.add (k*size),rfl,by rw[add_block];exact hb,fun j u hu=>?_⟩;rw[add_add];exact hcell _ u (by rw[<-hu,List.getElem?_drop])
theorem Rd.take (h:Rd w B size A n xs) {k:Nat} (hk:k<=n):Rd w B size A k (xs.take (k*size)):=by
 refine⟨by rw[List.length_take,h.len];exact Nat.min_eq_left (Nat.mul_le_mul_right _ hk),fun hn=>?_⟩;obtain⟨ad,rfl,hb,hcell⟩:=h.cells (by omega);refine⟨ad,rfl,hb,fun j u hu=>hcell j u ?_⟩;rw[List.getElem?_take] at hu;split at hu
 ·exact hu
 ·cases hu
theorem Rd.of_own {base:Nat} {e:TypeId} {c:Nat} (h:w.ownsRow base e size (.slice A n c) n xs):Rd w w.heap.size size A n xs:=by
 refine⟨h.1,fun hn=>?_⟩;obtain⟨g,cap,hv,_,hlt⟩:=h.form hn;have hA:A=some ⟨g,0,none⟩:=by injection hv
 subst hA;exact⟨_,rfl,hlt,h.cells (g:=g) rfl⟩
end
theorem own_slice {w:World} {base:Nat} {e:TypeId} {size n:Nat} {v:Value} {xs:List Value} (h:w.ownsRow base e size v n xs) :
  ∃A c,v=.slice A n c/\n<=c/\c<=maxLen:=by
 rcases h.2 with ⟨rfl,rfl⟩|⟨g,cap,cur,rfl,_,_,h1,h2,_⟩
 ·exact⟨none,0,rfl,Nat.le_refl _,by simp[maxLen]⟩
 ·exact⟨_,cap,rfl,h1,h2⟩
theorem own_lower {w:World} {base base':Nat} {e:TypeId} {size n:Nat} {v:Value} {xs:List Value} (h:w.ownsRow base e size v n xs) (hb:base'<=base):w.ownsRow base' e size v n xs:=by
 refine⟨h.1,?_⟩;rcases h.2 with h2|⟨g,cap,cur,hv,hg,r⟩
 ·exact Or.inl h2
 ·exact Or.inr ⟨g,cap,cur,hv,by omega,r⟩
theorem own_below {w w':World} {base B:Nat} {e:TypeId} {size n:Nat} {v:Value} {xs:List Value} (h:w.ownsRow base e size v n xs) (hb:Below B w w') (hB:w.heap.size<=B):w'.ownsRow base e size v n xs:=by
 have hlt:=h.lt;refine⟨h.1,?_⟩;rcases h.2 with h2|⟨g,cap,cur,hv,hg,hh,r⟩
 ·exact Or.inl h2
 ·refine Or.inr ⟨g,cap,cur,hv,hg,?_,r⟩
  rw[hb.block g]
  ·exact hh
  ·have:=(hlt g (by rw[hv];rfl)).2;omega
theorem own_drewN {w:World} {base:Nat} {e:TypeId} {size n:Nat} {v:Value} {xs:List Value} (h:w.ownsRow base e size v n xs) (k:Nat):(w.drewN k).ownsRow base e size v n xs:=h
theorem own_setCell_far {w:World} {base:Nat} {e:TypeId} {size n:Nat} {v:Value} {xs:List Value} (h:w.ownsRow base e size v n xs) {a:Addr} (ha:v.ownBlock≠some a.block) (u:Value):(w.setCell a u).ownsRow base e size v n xs:=by
 obtain⟨h1,h2⟩:=h;refine⟨h1,?_⟩;rcases h2 with h2|⟨g,cap,cur,hv,hg,hh,r⟩
 ·exact Or.inl h2
 ·subst hv
  refine Or.inr ⟨g,cap,cur,rfl,hg,?_,r⟩;rw[Below.heap_setCell _ _ _ _ (fun e=>ha (by simp[Value.ownBlock,e]))];exact hh
section
variable {P:Program} (w:World)
theorem run_append_nil_src (base:Nat) (t ty e:TypeId) (i:TypeInfo) (size:Nat) (ht:P.underlying t=some (.slice e)) (hi:P.info? e=some i)
  (v:Value) (n:Nat) (xs:List Value) (hown:w.ownsRow base e size v n xs) (c:Nat):(Builtin.append_ #[t,t] ty #[v,.slice none 0 c]).run P w=.ok v w:=by
 rcases hown.2 with ⟨rfl,rfl⟩|⟨g,cap,cur,rfl,_,_,hnc,_⟩
 ·simp[Builtin.append_,run_underlying ht,sizeOf,typeInfo,hi,Builtin.lenOf,Builtin.firstCells]
 ·simp[Builtin.append_,run_underlying ht,sizeOf,typeInfo,hi,Builtin.lenOf,Builtin.firstCells,hnc,storeCells]
theorem run_append_rd (base:Nat) (t ty e:TypeId) (i:TypeInfo) (z:Value) (size bytes:Nat) (ht:P.underlying t=some (.slice e)) (hi:P.info? e=some i) (hz:i.zero=some z)
  (hsize:i.size=size) (hby:i.bytes=bytes) (hzs:z.cells.size=size) (hsz:0<size)
  (v:Value) (n:Nat) (xs:List Value) (hown:w.ownsRow base e size v n xs)
  (B:Nat) (A:Option Addr) (m c:Nat) (news:List Value) (hr:Rd w B size A m news) (h1:∀u∈news,u.oneCell'=true)
  (h63:n+m<=maxLen) (hbytes:(n+m)*bytes<=140737488355328) (hbase:base<=w.heap.size) :
  ∃v' w',(Builtin.append_ #[t,t] ty #[v,.slice A m c]).run P w=.ok v' w'/\w'.ownsRow base e size v' (n+m) (xs++news)/\w.grownBy w' v.ownBlock /\
   (v'.ownBlock=v.ownBlock∨v'.ownBlock=some w.heap.size):=by
 rcases A with _|ad
 ·have hm:m=0:=by
   rcases Nat.eq_zero_or_pos m with h0|h0
   ·exact h0
   ·obtain⟨ad,h,_⟩:=hr.cells h0
    cases h
  subst hm;have hn:news=[]:=List.eq_nil_of_length_eq_zero (by simpa using hr.len);subst hn;exact⟨v,w,run_append_nil_src w base t ty e i size ht hi v n xs hown c,by simpa using hown,World.grownBy.refl w _,.inl rfl⟩
 ·have hcells:∀j u,news[j]? =some u->w.cell? (ad.add j)=some u:=by
   intro j u hu;rcases Nat.eq_zero_or_pos m with h0|h0
   ·subst h0
    have hn:news=[]:=List.eq_nil_of_length_eq_zero (by simpa using hr.len);subst hn;simp at hu
   ·obtain⟨ad',h,_,hc⟩:=hr.cells h0
    injection h with h
    subst h;exact hc j u hu
  obtain⟨v',w',hrun,h2,h3,_,h5⟩:=run_append_own_at (P:=P) w base t ty e i z size bytes ht hi hz hsize hby hzs hsz v n xs hown ad m c news hr.len hcells h1 h63 hbytes hbase;exact⟨v',w',hrun,h2,h3,h5⟩
theorem wp_append_rd {o:Oper} {a:Act} {K:Act->World->Prop} {Q:Exit->Act->World->Prop} (s x:Operand) (t:TypeId)
  (ho:o.op=.call { callee:=.builtin .append,args:=#[s,x],argTypes:=#[t,t] })
  (base:Nat) (e:TypeId) (i:TypeInfo) (z:Value) (size bytes:Nat) (ht:P.underlying t=some (.slice e)) (hi:P.info? e=some i) (hz:i.zero=some z)
  (hsize:i.size=size) (hby:i.bytes=bytes) (hzs:z.cells.size=size) (hsz:0<size)
  (v:Value) (n:Nat) (xs:List Value) (hs:a.eval s=v) (hown:w.ownsRow base e size v n xs)
  (B:Nat) (A:Option Addr) (m c:Nat) (news:List Value) (hx:a.eval x=.slice A m c) (hr:Rd w B size A m news) (h1:∀u∈news,u.oneCell'=true)
  (h63:n+m<=maxLen) (hbytes:(n+m)*bytes<=140737488355328) (hbase:base<=w.heap.size)
  (h:∀v' w',w'.ownsRow base e size v' (n+m) (xs++news)->w.grownBy w' v.ownBlock->(v'.ownBlock=v.ownBlock∨v'.ownBlock=some w.heap.size)->K (a.put o.dst v') w'):o.wp P a w K Q:=by
 obtain⟨v',w',hrun,h2,h3,h4⟩:=run_append_rd (P:=P) w base t o.type e i z size bytes ht hi hz hsize hby hzs hsz v n xs hown B A m c news hr h1 h63 hbytes hbase;unfold Oper.wp execOp;simp only[ho,resolve,invoke,builtin,Sem.run_bind,Sem.run_pure,Result.andThen_ok,List.map_toArray,List.map_cons,List.map_nil,hs,hx,hrun];exact h v' w' h2 h3 h4
theorem wpList_append_rd {ops:Array Oper} {rest:List Oper} {o:Oper} {a:Act} {Q:Exit->Act->World->Prop} (hgd:o.guard=none) (s x:Operand) (t:TypeId)
  (ho:o.op=.call { callee:=.builtin .append,args:=#[s,x],argTypes:=#[t,t] })
  (base:Nat) (e:TypeId) (i:TypeInfo) (z:Value) (size bytes:Nat) (ht:P.underlying t=some (.slice e)) (hi:P.info? e=some i) (hz:i.zero=some z)
  (hsize:i.size=size) (hby:i.bytes=bytes) (hzs:z.cells.size=size) (hsz:0<size)
  (v:Value) (n:Nat) (xs:List Value) (hs:a.eval s=v) (hown:w.ownsRow base e size v n xs)
  (B:Nat) (A:Option Addr) (m c:Nat) (news:List Value) (hx:a.eval x=.slice A m c) (hr:Rd w B size A m news) (h1:∀u∈news,u.oneCell'=true)
  (h63:n+m<=maxLen) (hbytes:(n+m)*bytes<=140737488355328) (hbase:base<=w.heap.size)
  (h:∀v' w',w'.ownsRow base e size v' (n+m) (xs++news)->w.grownBy w' v.ownBlock->(v'.ownBlock=v.ownBlock∨v'.ownBlock=some w.heap.size)->wpList P ops Q rest (a.put o.dst v') w'):wpList P ops Q (o::rest) a w :=
 wpList_plain hgd fun _ hK=>wp_append_rd w s x t ho base e i z size bytes ht hi hz hsize hby hzs hsz v n xs hs hown B A m c news hx hr h1 h63 hbytes hbase fun v' w' h2 h3 h4=>hK _ _ (h v' w' h2 h3 h4)
theorem zeroCells_one (z:Value) (hz:z.cells= #[z]) (n:Nat):Builtin.zeroCells z.cells n=(List.replicate n z).toArray:=by
 unfold Builtin.zeroCells;rw[hz];apply Array.ext'
 simp
 apply List.ext_getElem
 ·simp
 ·intro i h1 h2
  simp[Nat.mod_one]
theorem run_append_zeros_own (base:Nat) (t tn ty e:TypeId) (i:TypeInfo) (z:Value) (bytes:Nat) (kq kn:IntKind) (ht:P.underlying t=some (.slice e)) (htn:P.underlying tn=some (.int kn)) (hi:P.info? e=some i) (hz:i.zero=some z)
  (hsize:i.size=1) (hby:i.bytes=bytes) (hzc:z.cells= #[z]) (hz1:z.oneCell'=true)
  (v:Value) (n:Nat) (xs:List Value) (hown:w.ownsRow base e 1 v n xs) (k:Nat)
  (h63:n+k<=maxLen) (hbytes:(n+k)*bytes<=140737488355328) (hbase:base<=w.heap.size) :
  ∃v' w',(Builtin.append_ #[t,tn] ty #[v,.int kq k]).run P w=.ok v' w'/\w'.ownsRow base e 1 v' (n+k) (xs++List.replicate k z)/\w.grownBy w' v.ownBlock /\
   (v'.ownBlock=v.ownBlock∨v'.ownBlock=some w.heap.size):=by
 subst hby;have hsmall:n+k<=9223372036854775807:=by simp only[maxLen] at h63;omega
 have hb48:k*i.bytes<=281474976710656:=by rw[Nat.add_mul] at hbytes;omega
 have hlen:(xs++List.replicate k z).length=(n+k)*1:=by rw[List.length_append,hown.1,List.length_replicate];omega
 have hw:IntKind.i64.wrap (k:Int)=k:=by rw[IntKind.wrap_i64];omega
 have hneg: ¬ ((k:Int)<0):=by omega
 have h48i: ¬ (281474976710656<(k:Int)*(i.bytes:Int)):=by
  rw[<-Int.natCast_mul];omega
 have grown:∀(old:Nat),old<n+k-> ∀(row:Option Nat),
   (w.drew.alloc (.cells (xs.toArray++Builtin.zeroCells z.cells k++Builtin.zeroCells z.cells (grownCap w (n+k) old e-(n+k))) e)).ownsRow base e 1
    (.slice (some ⟨w.heap.size,0,none⟩) (n+k) (grownCap w (n+k) old e)) (n+k) (xs++List.replicate k z) /\
   w.grownBy (w.drew.alloc (.cells (xs.toArray++Builtin.zeroCells z.cells k++Builtin.zeroCells z.cells (grownCap w (n+k) old e-(n+k))) e)) row:=by
  intro old ho row;have hge:=grownCap_ge w (n+k) old e;have hcm:grownCap w (n+k) old e<=maxLen:=grownCap_le_maxLen w (n+k) old e h63;rw[zeroCells_one z hzc,zeroCells_one z hzc];refine⟨⟨hlen,.inr ⟨w.heap.size,_,_,rfl,hbase,heap_alloc_new w.drew _,hge,hcm,?_,?_⟩⟩,⟨rfl,rfl,rfl,by simp,fun j hj _=>heap_alloc_old w.drew _ hj⟩⟩
  ·simp only[Array.size_append,List.size_toArray,List.length_replicate,hown.1]
   omega
  ·simp only[Array.toList_append,List.append_assoc]
   rw[<-List.append_assoc,<-hlen];exact List.take_left
 rcases hown.2 with ⟨rfl,rfl⟩|⟨g,cap,cur,rfl,hbg,hg,hnc,hcm,hcs,htake⟩
 ·have hx:xs=[]:=List.eq_nil_of_length_eq_zero (by simpa using hown.1)
  subst hx;by_cases hk:k=0
  ·subst hk
   refine⟨.slice none 0 0,w,?_,World.ownsRow_nil w base e 1,World.grownBy.refl w _,.inl rfl⟩;simp[Builtin.append_,run_underlying ht,run_underlying htn,sizeOf,typeInfo,hi,asInt,asIntOf,IntKind.wrap_i64]
  ·have hr:=Lib.run_append_nil_zeros (P:=P) w t tn ty e i z kq kn ht htn hi hz k (by omega) (by omega) (by omega) hb48
   have hgr:=grown 0 (by omega) (Value.ownBlock (.slice none 0 0));simp only[Nat.zero_add,List.nil_append,Array.empty_append] at hgr ⊢;exact⟨_,_,hr,hgr.1,hgr.2,.inr rfl⟩
 ·by_cases hroom:n+k<=cap
  ·have hfit:n+(List.replicate k z).length<=cur.size:=by rw[List.length_replicate,hcs];omega
   have hst:=run_storeCells_at P g n e (List.replicate k z) 0 cur w hg (by simpa using hfit) (by intro u hu;rw[List.eq_of_mem_replicate hu];exact hz1);simp only[Nat.add_zero] at hst;have hrun:(Builtin.append_ #[t,tn] ty #[.slice (some ⟨g,0,none⟩) n cap,.int kq k]).run P w =
     .ok (.slice (some ⟨g,0,none⟩) (n+k) cap) (w.setRow g (cur.toList.take n++List.replicate k z++cur.toList.drop (n+(List.replicate k z).length)).toArray):=by
    by_cases hk:k=0
    ·subst hk
     simp[Builtin.append_,run_underlying ht,run_underlying htn,sizeOf,typeInfo,hi,asInt,asIntOf,IntKind.wrap_i64,hnc,hsize,Addr.add_lit]
     simp at hst
     simp[hst]
    ·simp[Builtin.append_,run_underlying ht,run_underlying htn,sizeOf,typeInfo,zeroValue,hi,hz,asInt,asIntOf,hw,hneg,h48i,hk,hroom,hsize,Addr.add_lit,zeroCells_one z hzc]
     simp at hst
     simp[hst]
   refine⟨_,_,hrun,⟨hlen,.inr ⟨g,cap,_,rfl,hbg,setRow_heap w g cur _ e _ hg,hroom,hcm,?_,?_⟩⟩,⟨rfl,rfl,rfl,by simp,fun j _ hj=>setRow_other w g j _ (fun e=>hj (by simp[Value.ownBlock,e]))⟩,.inl rfl⟩
   ·simp only[List.size_toArray,List.length_append,List.length_take,List.length_drop,Array.length_toList,List.length_replicate]
    omega
   ·have ht':List.take n cur.toList=xs:=by rw[<-htake];simp
    rw[ht',<-hlen];exact List.take_left
  ·have hold:(Builtin.firstCells i.size n (.slice (some ⟨g,0,none⟩) n cap)).run P w.drew=.ok xs.toArray w.drew:=by
    have:=run_firstCells_some (P:=P) w.drew i.size n ⟨g,0,none⟩ n cap xs (by rw[hsize];exact hown.1) (hown.cells (g:=g) rfl);exact this
   have hk0:0<k:=by omega
   have hr:=Lib.run_append_grow_zeros (P:=P) w t tn ty e i z kq kn ht htn hi hz (some ⟨g,0,none⟩) n cap xs hold k hk0 (by omega) (by omega) (by omega) hb48 (growslice_fits (by omega) hbytes);have hgr:=grown cap (by omega) (Value.ownBlock (.slice (some ⟨g,0,none⟩) n cap));exact⟨_,_,hr,hgr.1,hgr.2,.inr rfl⟩
theorem wpList_append_zeros {ops:Array Oper} {rest:List Oper} {o:Oper} {a:Act} {Q:Exit->Act->World->Prop} (hgd:o.guard=none) (s x:Operand) (t tn:TypeId)
  (ho:o.op=.call { callee:=.builtin .append,args:=#[s,x],argTypes:=#[t,tn] })
  (base:Nat) (e:TypeId) (i:TypeInfo) (z:Value) (bytes:Nat) (kq kn:IntKind) (ht:P.underlying t=some (.slice e)) (htn:P.underlying tn=some (.int kn)) (hi:P.info? e=some i) (hz:i.zero=some z)
  (hsize:i.size=1) (hby:i.bytes=bytes) (hzc:z.cells= #[z]) (hz1:z.oneCell'=true)
  (v:Value) (n:Nat) (xs:List Value) (hs:a.eval s=v) (hown:w.ownsRow base e 1 v n xs) (kI:Int) (k:Nat) (hx:a.eval x=.int kq kI) (hkI:kI=(k:Int))
  (h63:n+k<=maxLen) (hbytes:(n+k)*bytes<=140737488355328) (hbase:base<=w.heap.size)
  (h:∀v' w',w'.ownsRow base e 1 v' (n+k) (xs++List.replicate k z)->w.grownBy w' v.ownBlock->(v'.ownBlock=v.ownBlock∨v'.ownBlock=some w.heap.size)->wpList P ops Q rest (a.put o.dst v') w'):wpList P ops Q (o::rest) a w:=by
 subst hkI;obtain⟨v',w',hrun,h2,h3,h4⟩:=run_append_zeros_own (P:=P) w base t tn o.type e i z bytes kq kn ht htn hi hz hsize hby hzc hz1 v n xs hown k h63 hbytes hbase;exact Lib.wpList_append_run w hgd s x t tn ho v _ hs hx v' w' hrun (h v' w' h2 h3 h4)
end
theorem ext_trans {a b c:World} (h:Below a.heap.size a b) (k:Below b.heap.size b c):Below a.heap.size a c:=h.trans (k.mono h.size)
theorem ext_alloc (w:World) (o:Obj):Below w.heap.size w (w.alloc o):=(Below.refl _ _).alloc (Nat.le_refl _) _
theorem ext_drewN (w:World) (n:Nat):Below w.heap.size w (w.drewN n):=below_drewN (Below.refl _ _) n
theorem ext_drew (w:World):Below w.heap.size w w.drew:=(Below.refl _ _).drew
theorem Rd.ext {w w':World} {size n:Nat} {A:Option Addr} {xs:List Value} (h:Rd w w.heap.size size A n xs) (hb:Below w.heap.size w w'):Rd w' w'.heap.size size A n xs:=(h.below hb).more hb.size
def Var (w:World) (b:Nat) (t:TypeId) (v:Value):Prop:=w.heap[b]? =some (.cells #[v] t (0,0))
section
variable {w w':World} {b:Nat} {t:TypeId} {v:Value}
theorem Var.lt (h:Var w b t v):b<w.heap.size:=(Array.getElem?_eq_some_iff.1 h).1
theorem Var.cell (h:Var w b t v):w.cell? ⟨b,0,none⟩=some v:=by
 rw[cell_of_row w b 0 #[v] t (0,0) h];rfl
theorem Var.frozen (h:Var w b t v):w.frozen? ⟨b,0,none⟩=false:=by
 unfold Var at h;simp[World.frozen?,h]
theorem Var.new (w:World) (t:TypeId) (v:Value):Var (w.alloc (.cells #[v] t)) w.heap.size t v:=heap_alloc_new w _
theorem Var.drew (h:Var w b t v):Var w.drew b t v:=h
theorem Var.drewN (h:Var w b t v) (n:Nat):Var (w.drewN n) b t v:=h
theorem Var.alloc (h:Var w b t v) (o:Obj):Var (w.alloc o) b t v:=(Below.heap_alloc w o b h.lt).trans h
theorem Var.set_ (h:Var w b t v) (u:Value):Var (w.setCell ⟨b,0,none⟩ u) b t u:=by
 unfold Var at h ⊢;simp[World.setCell,Array.getElem?_modify,h]
theorem Var.far (h:Var w b t v) {p:Addr} (hp:b≠p.block) (u:Value):Var (w.setCell p u) b t v:=(Below.heap_setCell w p u b hp).trans h
theorem Var.below {B:Nat} (h:Var w b t v) (hb:Below B w w') (hg:b<B):Var w' b t v:=(hb.block b hg).trans h
theorem Var.grown {row:Option Nat} (h:Var w b t v) (hb:w.grownBy w' row) (hg:row≠some b):Var w' b t v:=(hb.block b h.lt (fun e=>hg e.symm)).trans h
end
theorem open_intslice {H:Type} {enc:TypeId×Value->H} {P:Program} {w:World} {base:Nat} {r:Reach} {t e:TypeId} {k:IntKind} {v:Value} {d:DataW H} {p:List MemPlace}
  (ht:P.underlying t=some (.slice e)) (he:P.underlying e=some (.int k)) (hc:P.cellsOf e=1)
  (hv:Value.okWide P w r base t v) (h:DataW.Trod enc P w 0 (fun _=>true) true t v d p) (_hlt:∀x∈p,x.block<w.heap.size) :
  ∃(A:Option Addr) (n c:Nat) (zs:List Int),v=.slice A n c/\Rd w w.heap.size 1 A n (zs.map (Value.int k))/\n<=c/\c<=maxLen/\zs.length=n/\ ∀z∈zs,(Lit.int k z).wf=true:=by
 obtain⟨a0,len,cap,rfl⟩:=okWide_slice ht hv;obtain⟨fuel,hf⟩:=h;rcases open_ints ht he hc hf with ⟨hcs,hx⟩|⟨a,len',cap',zs,hcs,_,hl,hm,hz,hx,hcell,hwz⟩
 ·simp[Value.cells] at hcs
  obtain⟨rfl,rfl,rfl⟩:=hcs;exact⟨none,0,0,[],rfl,Rd.nil,Nat.le_refl _,by simp[maxLen],rfl,by simp⟩
 ·simp[Value.cells] at hcs
  obtain⟨rfl,rfl,rfl⟩:=hcs;simp at hz
  refine⟨some a,len,cap,zs.take len,rfl,⟨by simp;omega,fun hn=>⟨a,rfl,?_,?_⟩⟩,hl,hm,by simp;omega,fun z hz'=>hwz z (List.mem_of_mem_take hz')⟩
  ·simp only[Prod.mk.injEq] at hx
   have h0:=World.block_lt_of_cell? w (a.add 0) (hcell 0 (by omega))
   rwa [add_block] at h0
  ·intro j u hu
   rw[List.getElem?_map,List.getElem?_take] at hu;split at hu
   ·rename_i hj
    have hjz:j<zs.length:=by omega
    rw[List.getElem?_eq_getElem hjz] at hu;simp at hu
    rw[hcell j hjz,<-hu];simp[List.getD,List.getElem?_eq_getElem hjz]
   ·simp at hu
end Go.Proofs.YtejcdhdfanfkbaaGreat
