/- What is known of blocks, plainly: which may be, which are a row. A log's state, its manifest, its entries, as plain data; which may be. A region that draws its order, whose operations only read and whose callees may make memory of their own: walked once. Whole structs: stored into a block, loaded from it, told as a result: no cell is opened. What a call may turn: a set of blocks that it owns, and new ones. Over any program. -/
import Derived.Test.YtejcdhdfanfkbaaGreatFb06
import Derived.Test.YtejcdhdfanfkbaaGreatFb03
import Derived.Test.YtejcdhdfanfkbaaGreatFb05
import Derived.Test.YtejcdhdfanfkbaaGreatFb02
import Derived.Deep.QuietTactic
import Derived.BigQuiet
namespace Go.Proofs.YtejcdhdfanfkbaaGreat
namespace Sn
open Go.RowKit Hd Bk
structure Mt where
 a:Nat
 s:Nat
 r:Nat
 c:Nat
 f:Nat
 e:Nat
 l:Nat
def cl7 (m:Mt):List Value:=[.int .i64 (m.a:Int),.int .i64 (m.s:Int),.int .i64 (m.r:Int),.int .i64 (m.c:Int),.int .i64 (m.f:Int),.int .i64 (m.e:Int),.int .i64 (m.l:Int)]
def mv (m:Mt):Value:=magg m.a m.s m.r m.c m.f m.e m.l
def okM (m:Mt):Bool:=aloneB m.a m.s m.r m.c m.f m.e m.l
theorem okM_iff (m:Mt):okM m=true↔m.a<=1000000/\10<=m.s/\m.s<=60009/\1<=m.r/\m.r<=20000/\1<=m.c/\m.c<=m.r/\1<=m.f/\m.f+m.c<=1000000001/\m.e<=m.l/\m.l<=1000000000:=by
 unfold okM aloneB;rw[decide_eq_true_eq];omega
def folB (p m:Mt):Bool:=decide (m.a=p.a+p.s/\m.f=p.f+p.c/\p.l<=m.e)
theorem folB_iff (p m:Mt):folB p m=true↔m.a=p.a+p.s/\m.f=p.f+p.c/\p.l<=m.e:=by unfold folB;rw[decide_eq_true_eq]
def rowM:Option Mt->List Mt->Bool
 |_,[]=>true
 |none,m::l=>okM m&&rowM (some m) l
 |some p,m::l=>okM m&&folB p m&&rowM (some m) l
def okBl (l:List Mt):Bool:=decide (l.length<=1000)&&rowM none l
theorem rowM_snoc:∀(l:List Mt) (p:Option Mt) (m:Mt),rowM p l=true->okM m=true->(∀q,(match l.getLast? with|none=>p|some x=>some x)=some q->folB q m=true)->rowM p (l++[m])=true
 | [],none,m,_,ho,_=>by simp[rowM,ho]
 | [],some p,m,_,ho,hf=>by simp[rowM,ho,hf p rfl]
 |x::l,p,m,h,ho,hf=>by
  have hx:rowM (some x) l=true/\ ∀l',rowM (some x) l'=true->rowM p (x::l')=true:=by
   rcases p with _|p
   ·simp only[rowM,Bool.and_eq_true] at h ⊢
    exact⟨h.2,fun l' hl=>⟨h.1,hl⟩⟩
   ·simp only[rowM,Bool.and_eq_true] at h ⊢
    exact⟨h.2,fun l' hl=>⟨h.1,hl⟩⟩
  rw[List.cons_append];refine hx.2 _ (rowM_snoc l (some x) m hx.1 ho fun q hq=>hf q ?_);rw[List.getLast?_cons];rcases hl:l.getLast? with _|y
  ·rw[hl] at hq;exact hq
  ·rw[hl] at hq;exact hq
theorem rowM_cons {p:Option Mt} {m:Mt} {l:List Mt} (h:rowM p (m::l)=true):okM m=true/\rowM (some m) l=true:=by
 rcases p with _|p<;>simp only[rowM,Bool.and_eq_true] at h
 ·exact h
 ·exact⟨h.1.1,h.2⟩
theorem rowM_mem:∀(l:List Mt) (p:Option Mt),rowM p l=true-> ∀m∈l,okM m=true
 | [],_,_,m,h=>by cases h
 |x::l,p,h,m,hm=>by
  rcases List.mem_cons.1 hm with rfl|hm
  ·exact(rowM_cons h).1
  ·exact rowM_mem l (some x) (rowM_cons h).2 m hm
theorem okBl_row {l:List Mt} (h:okBl l=true):l.length<=1000/\rowM none l=true:=by
 unfold okBl at h;rw[Bool.and_eq_true,decide_eq_true_eq] at h;exact h
def nextM (h1:Nat) (l:List Mt):Nat:=match l.getLast? with|none=>h1|some m=>m.f+m.c
def lateM (l:List Mt):Nat:=match l.getLast? with|none=>0|some m=>m.l
theorem nextM_snoc (h1:Nat) (l:List Mt) (m:Mt):nextM h1 (l++[m])=m.f+m.c:=by unfold nextM;rw[List.getLast?_append];rfl
theorem lateM_snoc (l:List Mt) (m:Mt):lateM (l++[m])=m.l:=by unfold lateM;rw[List.getLast?_append];rfl
def fl7 (l:List Mt):List Value:=l.flatMap cl7
theorem fl7_cons (m:Mt) (l:List Mt):fl7 (m::l)=.int .i64 (m.a:Int):: .int .i64 (m.s:Int):: .int .i64 (m.r:Int):: .int .i64 (m.c:Int):: .int .i64 (m.f:Int):: .int .i64 (m.e:Int):: .int .i64 (m.l:Int)::fl7 l:=rfl
theorem length_fl7 (l:List Mt):(fl7 l).length=l.length*7:=by
 induction l with
 |nil=>rfl
 |cons x l ih=>rw[fl7_cons];simp only[List.length_cons,ih];omega
theorem fl7_append (a b:List Mt):fl7 (a++b)=fl7 a++fl7 b:=List.flatMap_append ..
theorem fl7_at:∀(l:List Mt) (k:Nat) (x:Mt),l[k]? =some x-> ∀j,j<7->(fl7 l)[k*7+j]? =(cl7 x)[j]?
 | [],k,x,h,_,_=>by simp at h
 |y::l,0,x,h,j,hj=>by
  simp only[List.getElem?_cons_zero,Option.some.injEq] at h;subst h;show(cl7 y++fl7 l)[0*7+j]? =_
  rw[Nat.zero_mul,Nat.zero_add,List.getElem?_append_left (by simpa[cl7] using hj)]
 |y::l,k+1,x,h,j,hj=>by
  have:=fl7_at l k x (by simpa using h) j hj;show(cl7 y++fl7 l)[(k+1)*7+j]? =_
  rw[List.getElem?_append_right (by simp[cl7];omega),<-this];congr 1;simp[cl7];omega
theorem fl7_one (l:List Mt):∀u∈fl7 l,u.oneCell'=true:=by
 intro u hu;unfold fl7 at hu;rw[List.mem_flatMap] at hu;obtain⟨m,-,hm⟩:=hu;simp only[cl7,List.mem_cons,List.not_mem_nil,or_false] at hm;rcases hm with rfl|rfl|rfl|rfl|rfl|rfl|rfl<;>rfl
theorem mt_at {w:World} {B n k:Nat} {A:Option Addr} {l:List Mt} (h:Rd w B 7 A n (fl7 l)) (hk:k<n) :
  ∃ad m,A=some ad/\ad.block<B/\l[k]? =some m/\w.cell? (ad.add (k*7))=some (.int .i64 (m.a:Int)) /\
   w.cell? ⟨(ad.add (k*7)).block,(ad.add (k*7)).off+1,none⟩=some (.int .i64 (m.s:Int))/\w.cell? ⟨(ad.add (k*7)).block,(ad.add (k*7)).off+2,none⟩=some (.int .i64 (m.r:Int)) /\
   w.cell? ⟨(ad.add (k*7)).block,(ad.add (k*7)).off+3,none⟩=some (.int .i64 (m.c:Int))/\w.cell? ⟨(ad.add (k*7)).block,(ad.add (k*7)).off+4,none⟩=some (.int .i64 (m.f:Int)) /\
   w.cell? ⟨(ad.add (k*7)).block,(ad.add (k*7)).off+5,none⟩=some (.int .i64 (m.e:Int))/\w.cell? ⟨(ad.add (k*7)).block,(ad.add (k*7)).off+6,none⟩=some (.int .i64 (m.l:Int)):=by
 obtain⟨ad,e,hb,hc⟩:=h.cells (by omega);have hl:l.length=n:=by have:=h.len;rw[length_fl7] at this;omega
 have hx:l[k]? =some (l[k]'(by omega)):=List.getElem?_eq_getElem (by omega);have hf:=fl7_at l k _ hx;have hg:∀j v,j<7->(cl7 (l[k]'(by omega)))[j]? =some v->w.cell? (ad.add (k*7+j))=some v:=fun j v hj hv=>hc _ _ ((hf j hj).trans hv)
 have ha:∀j,ad.add (k*7+(j+1))=⟨(ad.add (k*7)).block,(ad.add (k*7)).off+(j+1),none⟩:=fun j=>by rw[<-add_add];rfl
 refine⟨ad,_,e,hb,hx,hg 0 _ (by omega) rfl,?_,?_,?_,?_,?_,?_⟩
 ·rw[<-ha];exact hg 1 _ (by omega) rfl
 ·rw[<-ha];exact hg 2 _ (by omega) rfl
 ·rw[<-ha];exact hg 3 _ (by omega) rfl
 ·rw[<-ha];exact hg 4 _ (by omega) rfl
 ·rw[<-ha];exact hg 5 _ (by omega) rfl
 ·rw[<-ha];exact hg 6 _ (by omega) rfl
theorem mt_len {w:World} {B n:Nat} {A:Option Addr} {l:List Mt} (h:Rd w B 7 A n (fl7 l)):l.length=n:=by
 have:=h.len;rw[length_fl7] at this;omega
end Sn
end Go.Proofs.YtejcdhdfanfkbaaGreat
namespace Go.Proofs.YtejcdhdfanfkbaaGreat
namespace Op
open Go.RowKit Go.ChangeShapes Go.WideShapes Go.Deep Hd Rd
def rowG {α:Type} (ok:α->Bool) (fol:α->α->Bool):Option α->List α->Bool
 |_,[]=>true
 |none,m::l=>ok m&&rowG ok fol (some m) l
 |some p,m::l=>ok m&&fol p m&&rowG ok fol (some m) l
def pvG {α:Type} (l:List α) (k:Nat):Option α:=if k=0 then none else l[k-1]?
section
variable {α:Type} {ok:α->Bool} {fol:α->α->Bool} {l:List α} {k:Nat} {p m:α}
theorem drop_atG {α:Type}:∀(l:List α) (k:Nat) (x:α),l[k]? =some x->l.drop k=x::l.drop (k+1)
 | [],k,x,h=>by simp at h
 |y::l,0,x,h=>by simp at h;subst h;rfl
 |y::l,k+1,x,h=>by simpa using drop_atG l k x (by simpa using h)
theorem rowG_bad (h:l[k]? =some m) (ho:ok m=false):rowG ok fol (pvG l k) (l.drop k)=false:=by
 rw[drop_atG l k m h];rcases pvG l k with _|p<;>simp[rowG,ho]
theorem rowG_off (hp:l[k]? =some p) (h:l[k+1]? =some m) (ho:fol p m=false):rowG ok fol (pvG l (k+1)) (l.drop (k+1))=false:=by
 have e:pvG l (k+1)=some p:=by unfold pvG;rw[if_neg (by omega),Nat.add_sub_cancel,hp]
 rw[drop_atG l (k+1) m h,e];simp[rowG,ho]
theorem rowG_on (hp:l[k]? =some p) (h:l[k+1]? =some m) (h1:ok m=true) (ho:fol p m=true):rowG ok fol (pvG l (k+1)) (l.drop (k+1))=rowG ok fol (pvG l (k+2)) (l.drop (k+2)):=by
 have e:pvG l (k+1)=some p:=by unfold pvG;rw[if_neg (by omega),Nat.add_sub_cancel,hp]
 have e2:pvG l (k+2)=some m:=by unfold pvG;rw[if_neg (by omega),show k+2-1=k+1 by omega,h]
 rw[drop_atG l (k+1) m h,e,e2];simp[rowG,ho,h1]
theorem rowG_on0 (h:l[0]? =some m) (h1:ok m=true):rowG ok fol (pvG l 0) (l.drop 0)=rowG ok fol (pvG l 1) (l.drop 1):=by
 have e2:pvG l 1=some m:=by unfold pvG;rw[if_neg (by omega)];exact h
 rw[drop_atG l 0 m h,e2];simp[pvG,rowG,h1]
theorem rowG_end (h:l.length<=k):rowG ok fol (pvG l k) (l.drop k)=true:=by
 rw[List.drop_eq_nil_of_le h];rcases pvG l k with _|p<;>rfl
theorem rowG_mem:∀(l:List α) (p:Option α),rowG ok fol p l=true-> ∀m∈l,ok m=true
 | [],_,_,m,h=>by cases h
 |x::l,p,h,m,hm=>by
  have hx:ok x=true/\rowG ok fol (some x) l=true:=by
   rcases p with _|p<;>simp only[rowG,Bool.and_eq_true] at h
   ·exact h
   ·exact⟨h.1.1,h.2⟩
  rcases List.mem_cons.1 hm with rfl|hm
  ·exact hx.1
  ·exact rowG_mem l (some x) hx.2 m hm
theorem rowG_iff:∀(l:List α) (q:Option α),rowG ok fol q l=true↔ ∀(j:Nat) (r:α),l[j]? =some r->ok r=true/\ ∀p,(if j=0 then q else l[j-1]?)=some p->fol p r=true
 | [],q=>by
   constructor
   ·intro _ j r h;simp at h
   ·intro _;cases q<;>rfl
 |x::l,q=>by
  have ih:=rowG_iff l (some x);have hx:rowG ok fol q (x::l)=true↔(ok x=true/\ ∀p,q=some p->fol p x=true)/\rowG ok fol (some x) l=true:=by
   rcases q with _|q<;>simp[rowG,Bool.and_eq_true]
  rw[hx,ih]
  constructor
  ·rintro ⟨h1,h2⟩ j r hj
   rcases j with _|j
   ·simp only[List.getElem?_cons_zero,Option.some.injEq] at hj
    subst hj;exact⟨h1.1,fun p hp=>h1.2 p (by simpa using hp)⟩
   ·obtain⟨h3,h4⟩:=h2 j r (by simpa using hj)
    refine⟨h3,fun p hp=>h4 p ?_⟩;rw[if_neg (by omega),Nat.add_sub_cancel] at hp;rcases j with _|j
    ·simpa using hp
    ·rw[if_neg (by omega),Nat.add_sub_cancel];simpa using hp
  ·intro h
   refine⟨?_,fun j r hj=>?_⟩
   ·obtain⟨h3,h4⟩:=h 0 x rfl
    exact⟨h3,fun p hp=>h4 p (by simpa using hp)⟩
   ·obtain⟨h3,h4⟩:=h (j+1) r (by simpa using hj)
    refine⟨h3,fun p hp=>h4 p ?_⟩;rw[if_neg (by omega),Nat.add_sub_cancel];rcases j with _|j
    ·simpa using hp
    ·rw[if_neg (by omega),Nat.add_sub_cancel] at hp;simpa using hp
end
structure En where
 i:Int
 g:Int
 f:Int
 z:Bool
 c:Int
 b:Int
 e:Int
 l:Int
 n:Int
deriving DecidableEq,Inhabited
def cl9 (x:En):List Value:=[.int .i64 x.i,.int .i64 x.g,.int .i64 x.f,.bool x.z,.int .i64 x.c,.int .i64 x.b,.int .i64 x.e,.int .i64 x.l,.int .i64 x.n]
instance:Sh En 9:=⟨cl9,fun _=>rfl,by decide⟩
structure Mi where
 a:Int
 s:Int
 r:Int
 c:Int
 f:Int
 e:Int
 l:Int
deriving DecidableEq,Inhabited
def cl7i (x:Mi):List Value:=[.int .i64 x.a,.int .i64 x.s,.int .i64 x.r,.int .i64 x.c,.int .i64 x.f,.int .i64 x.e,.int .i64 x.l]
instance:Sh Mi 7:=⟨cl7i,fun _=>rfl,by decide⟩
abbrev Rc:=Int×Int×ByteArray
instance:Sh Rc 3:=⟨cl3,fun _=>rfl,by decide⟩
theorem flS_rc (l:List Rc):flS l=fl3 l:=rfl
def okMi (m:Mi):Bool:=aloneB m.a m.s m.r m.c m.f m.e m.l
def folMi (p m:Mi):Bool:=decide (m.a=p.a+p.s/\m.f=p.f+p.c/\p.l<=m.e)
def okBi (l:List Mi):Bool:=decide (l.length<=1000)&&rowG okMi folMi none l
def okE (x:En):Bool:=okH x.i x.g x.f&&(if x.z then decide (1<=x.b/\x.b<=1000/\x.b<=x.c/\x.c<=1000000000/\x.f+x.c<=1000000001/\0<=x.e/\x.e<=x.l/\x.l<=1000000000/\1<=x.n/\x.n<=1000000)
 else decide (x.c=0/\x.b=0/\x.e=0/\x.l=0/\x.n=0))
def folE (p x:En):Bool:=p.z&&(decide (p.i<x.i/\x.f=p.f+p.c)&&(!x.z||decide (p.l<=x.e)))
def rowE:=rowG okE folE
def lastZ (l:List En):Bool:=match l.getLast? with|none=>false|some x=>x.z
def okR (l:List En):Bool:=decide (1<=l.length/\l.length<=100)&&(!lastZ l&&rowE none l)
structure Mf where
 g:Int
 x:Int
 t:Int
 fl:Int
 es:List En
def lateE (l:List En):Int:=l.foldl (fun a x=>max a x.l) 0
def okMf (m:Mf):Bool:=decide (1<=m.g/\m.g<=1000000000/\0<=m.t/\m.t<=1000000000)&&(okR m.es&&(match m.es,m.es.getLast? with
 |x::_,some y=>decide (y.i<m.x/\m.x<=1000000/\m.fl=x.f)&&m.es.all fun x=>decide (x.l<=m.t)
 |_,_=>false))
structure Cf where
 b:Int
 t:Int
 s:Int
 a:Int
 k:Int
 y:Int
 o:Int
deriving DecidableEq
def okCf (c:Cf):Bool:=decide (16<=c.b/\c.b<=4000/\c.b<=c.t/\c.t<=8000/\200<=c.s/\c.s<=100000/\0<=c.a/\c.a<=1000000000/\0<=c.k/\c.k<=90/\0<=c.y/\c.y<=10000000/\0<=c.o/\c.o<=1000000000)
structure St where
 cf:Cf
 mf:Mf
 bs:List Mi
 sz:Int
 nx:Int
 nw:Int
 wt:List Rc
 rd:Bool
structure Sl where
 A:Option Addr
 n:Nat
 c:Nat
def Sl.v (s:Sl):Value:=.slice s.A s.n s.c
def cfl (c:Cf):List Value:=[.int .i64 c.b,.int .i64 c.t,.int .i64 c.s,.int .i64 c.a,.int .i64 c.k,.int .i64 c.y,.int .i64 c.o]
def stc (s:St) (x y z:Sl):Array Value:=#[.int .i64 s.cf.b,.int .i64 s.cf.t,.int .i64 s.cf.s,.int .i64 s.cf.a,.int .i64 s.cf.k,.int .i64 s.cf.y,.int .i64 s.cf.o,.int .i64 s.mf.g,.int .i64 s.mf.x,.int .i64 s.mf.t,.int .i64 s.mf.fl,x.v,y.v,.int .i64 s.sz,.int .i64 s.nx,.int .i64 s.nw,z.v,.bool s.rd]
structure Str (w:World) (B:Nat) (s:St) (x y z:Sl):Prop where
 es:Rd w B 9 x.A x.n (flS s.mf.es)
 bs:Rd w B 7 y.A y.n (flS s.bs)
 wt:Rd w B 3 z.A z.n (flS s.wt)
 le:x.n<=x.c/\y.n<=y.c/\z.n<=z.c
 mx:x.c<=maxLen/\y.c<=maxLen/\z.c<=maxLen
 no:(x.A=none->x.c=0)/\(y.A=none->y.c=0)/\(z.A=none->z.c=0)
theorem Str.below {w w':World} {B:Nat} {s:St} {x y z:Sl} (h:Str w B s x y z) (hb:Below B w w'):Str w' B s x y z:=⟨h.es.below hb,h.bs.below hb,h.wt.below hb,h.le,h.mx,h.no⟩
end Op
end Go.Proofs.YtejcdhdfanfkbaaGreat
namespace Go.Proofs.YtejcdhdfanfkbaaGreat
open Go.RowKit
structure Bw (w:World) where
 to:World
 h:Below w.heap.size w to
instance (w:World):Inhabited (Bw w):=⟨⟨w,Below.refl _ _⟩⟩
theorem Bw.cell {w:World} (p:Bw w) {b k:Nat} {v:Value} (hb:b<w.heap.size) (h:w.cell? ⟨b,k,none⟩=some v):p.to.cell? ⟨b,k,none⟩=some v:=(p.h.cell (p:=⟨b,k,none⟩) hb).trans h
theorem Bw.cellAt {w:World} (p:Bw w) {a:Addr} {v:Value} (hb:a.block<w.heap.size) (h:w.cell? a=some v):p.to.cell? a=some v:=(p.h.cell hb).trans h
theorem wp_region_quiet_below {P:Program} {id:Nat} {Q:Exit->Act->World->Prop} {a:Act} {w:World} {l:List Oper} (hm:P.follows .mixedOrders=true) (hB:Region.lexB .any l.toArray=true)
  (h:wpQuiet P l.toArray (fun w'=>∃p:Bw w,w'=p.to) (fun a'=>∀w',(∃p:Bw w,w'=p.to)->Q .normal a' w') l a):(Code.region id l.toArray true).wp P Q a w :=
 wp_region_quiet (C:=fun w'=>∃p:Bw w,w'=p.to) hm hB ⟨⟨{ w with drawn:=w.drawn+1 },⟨rfl,rfl,rfl,Nat.le_refl _,fun _ _=>rfl⟩⟩,rfl⟩ (by simpa using h)
theorem below_of {P:Program} {f:FuncId} {args:Array Value} {w:World} {p:Bw w} {v:Value} (h:Calls P f args p.to fun e w'=>e=.returned v/\Below p.to.heap.size p.to w') :
  Calls P f args p.to fun e w'=>e=.returned v/\ ∃q:Bw w,w'=q.to :=
 h.mono fun _ w' ⟨he,hb⟩=>⟨he,⟨w',p.h.trans (hb.mono p.h.size)⟩,rfl⟩
theorem same_of {P:Program} {f:FuncId} {args:Array Value} {w:World} {p:Bw w} {v:Value} (h:Calls P f args p.to fun e w'=>e=.returned v/\p.to=w') :
  Calls P f args p.to fun e w'=>e=.returned v/\ ∃q:Bw w,w'=q.to :=
 h.mono fun _ _ ⟨he,hb⟩=>⟨he,p,hb.symm⟩
end Go.Proofs.YtejcdhdfanfkbaaGreat
namespace Go.Proofs.YtejcdhdfanfkbaaGreat
open Go.RowKit
def Blk (w:World) (g:Nat) (cs:Array Value) (t:TypeId):Prop:=w.heap[g]? =some (.cells cs t (0,0))
section
variable {w w':World} {g:Nat} {cs:Array Value} {t:TypeId} (h:Blk w g cs t)
include h
theorem Blk.lt:g<w.heap.size:=(Array.getElem?_eq_some_iff.1 h).1
theorem Blk.cell (k:Nat) {v:Value} (hv:cs[k]? =some v):w.cell? ⟨g,k,none⟩=some v:=by rw[cell_of_row w g k _ _ (0,0) h];exact hv
theorem Blk.fz (k:Nat):w.frozen? ⟨g,k,none⟩=false:=frozen_of_row w g k _ _ h
theorem Blk.below {B:Nat} (hb:Below B w w') (hg:g<B):Blk w' g cs t:=(hb.block g hg).trans h
theorem Blk.ext (hb:Below w.heap.size w w'):Blk w' g cs t:=Blk.below h hb (Blk.lt h)
theorem Blk.alloc (o:Obj):Blk (w.alloc o) g cs t:=(Below.heap_alloc w o g (Blk.lt h)).trans h
theorem Blk.set (z:Array Value):Blk (w.setRow g z) g z t:=setRow_heap w g cs z t (0,0) h
theorem Blk.setOther {k:Nat} (hk:g≠k) (z:Array Value):Blk (w.setRow k z) g cs t:=(setRow_other w k g z hk).trans h
theorem Blk.setCell {k j:Nat} (hk:g≠k) (v:Value):Blk (w.setCell ⟨k,j,none⟩ v) g cs t:=(Below.heap_setCell w ⟨k,j,none⟩ v g hk).trans h
theorem Blk.grown {row:Option Nat} (hg:w.grownBy w' row) (hr:row≠some g):Blk w' g cs t:=(hg.block g (Blk.lt h) (fun e=>hr e.symm)).trans h
theorem Blk.put (k:Nat) (v:Value):Blk (w.setCell ⟨g,k,none⟩ v) g (cs.set! k v) t:=by
 unfold Blk at *;simp[World.setCell,Array.getElem?_modify,h]
end
theorem Blk.new (w:World) (cs:Array Value) (t:TypeId):Blk (w.alloc (.cells cs t)) w.heap.size cs t:=heap_alloc_new w _
theorem ext_setRow {w w':World} {B g:Nat} (h:Below B w w') (hg:B<=g) (z:Array Value):Below B w (w'.setRow g z):=h.trans ⟨rfl,rfl,rfl,by rw[size_setRow];exact Nat.le_refl _,fun k hk=>setRow_other w' g k z (by omega)⟩
section
variable {P:Program} {ops:Array Oper} {rest:List Oper} {op:Oper} {a:Act} {w:World} {Q:Exit->Act->World->Prop}
theorem wpList_store_row (hgd:op.guard=none) (t:TypeId) (x y:Operand) (ho:op.op=.store t x y) (g:Nat) (z c:Array Value) (hx:a.eval x=.pointer (some ⟨g,0,none⟩)) (hy:a.eval y=.agg z)
  (hh:Blk w g c t) (hi:(P.info? t).map (·.size)=some z.size) (hc:c.size=z.size) (h1:z.all (·.oneCell')=true)
  (h:wpList P ops Q rest (a.put op.dst undef) (w.setRow g z)):wpList P ops Q (op::rest) a w:=by
 refine wpList_plain hgd fun _ hK=>?_
 unfold Oper.wp execOp;simp only[ho,hx,hy,Instr.storeAt,Instr.sureAddr,Sem.run_bind,Sem.run_pure,Result.andThen_ok,run_storeVar_row w g t t c z hh hi hc h1];exact hK _ _ h
theorem wpList_load_row (hgd:op.guard=none) (t:TypeId) (x:Operand) (ho:op.op=.load t x) (g:Nat) (c:Array Value) (d:TypeDesc) (hx:a.eval x=.pointer (some ⟨g,0,none⟩))
  (hh:Blk w g c t) (hu:P.underlying t=some d) (hd:(match d with|.struct _|.array _ _=>true|_=>false)=true) (hi:(P.info? t).map (·.size)=some c.size)
  (h:wpList P ops Q rest (a.put op.dst (.agg c)) w):wpList P ops Q (op::rest) a w:=by
 refine wpList_plain hgd fun _ hK=>?_
 unfold Oper.wp execOp;simp only[ho,hx,Instr.loadAt,Instr.sureAddr,Sem.run_bind,Sem.run_pure,Result.andThen_ok,run_loadVar_row w g t t c (0,0) d hh hu hd hi];exact hK _ _ h
end
theorem results_cell2 {P:Program} {fn:Func} {tmps:Array Value} {w:World} {a b:Nat} {t:TypeId} {g:Nat} {c:Array Value} {u:Value} {d:TypeDesc} (hr:fn.results= #[.cell a t,.tmp b]) (ht:tmps.getD a undef=.pointer (some ⟨g,0,none⟩)) (hb:tmps.getD b undef=u)
  (hh:Blk w g c t) (hu:P.underlying t=some d) (hd:(match d with|.struct _|.array _ _=>true|_=>false)=true) (hi:(P.info? t).map (·.size)=some c.size) :
  (results fn tmps).run P w=.ok (.tuple #[.agg c,u]) w:=by
 unfold results;rw[hr];have ht2:tmps[a]?.getD undef=.pointer (some ⟨g,0,none⟩):=by rw[<-ht];simp[Array.getD_eq_getD_getElem?]
 have hb2:tmps[b]?.getD undef=u:=by rw[<-hb];simp[Array.getD_eq_getD_getElem?]
 simp[ht2,hb2,asAddr,run_loadVar_row w g t t c (0,0) d hh hu hd hi]
theorem results_cell1 {P:Program} {fn:Func} {tmps:Array Value} {w:World} {a:Nat} {t:TypeId} {g:Nat} {c:Array Value} {d:TypeDesc} (hr:fn.results= #[.cell a t]) (ht:tmps.getD a undef=.pointer (some ⟨g,0,none⟩))
  (hh:Blk w g c t) (hu:P.underlying t=some d) (hd:(match d with|.struct _|.array _ _=>true|_=>false)=true) (hi:(P.info? t).map (·.size)=some c.size) :
  (results fn tmps).run P w=.ok (.agg c) w:=results_cell hr ht (run_loadVar_row w g t t c (0,0) d hh hu hd hi)
end Go.Proofs.YtejcdhdfanfkbaaGreat
namespace Go.Proofs.YtejcdhdfanfkbaaGreat
open Go.RowKit
structure Gr (S:Nat->Prop) (w:World) (S':Nat->Prop) (w':World):Prop where
 os:w'.os=w.os
 tape:w'.tape=w.tape
 output:w'.output=w.output
 size:w.heap.size<=w'.heap.size
 block:∀k,k<w.heap.size-> ¬ S k->w'.heap[k]? =w.heap[k]?
 sub:∀k,S' k->S k∨w.heap.size<=k
section
variable {S S' S'':Nat->Prop} {w w' w'':World}
theorem Gr.refl (S:Nat->Prop) (w:World):Gr S w S w:=⟨rfl,rfl,rfl,Nat.le_refl _,fun _ _ _=>rfl,fun _ h=>.inl h⟩
theorem Gr.trans (h:Gr S w S' w') (k:Gr S' w' S'' w''):Gr S w S'' w'' :=
 ⟨k.os.trans h.os,k.tape.trans h.tape,k.output.trans h.output,Nat.le_trans h.size k.size,
  fun i hi hn=>(k.block i (Nat.lt_of_lt_of_le hi h.size) fun hs=>(h.sub i hs).elim hn (by omega)).trans (h.block i hi hn),
  fun i hi=>(k.sub i hi).elim (h.sub i) fun e=>.inr (Nat.le_trans h.size e)⟩
theorem Gr.of_below (h:Below w.heap.size w w'):Gr S w S w':=⟨h.os,h.tape,h.output,h.size,fun i hi _=>h.block i hi,fun _ h=>.inl h⟩
theorem Gr.drewN (h:Gr S w S' w') (n:Nat):Gr S w S' (w'.drewN n):=⟨h.os,h.tape,h.output,h.size,h.block,h.sub⟩
theorem Gr.of_grown {row:Option Nat} (h:w.grownBy w' row) (hr:∀k,row=some k->S k):Gr S w S w' :=
 ⟨h.os,h.tape,h.output,h.size,fun i hi hn=>h.block i hi fun e=>hn (hr i e.symm),fun _ h=>.inl h⟩
theorem Gr.more (h:Gr S w S' w') {T:Nat->Prop} (ht:∀k,T k->S k∨w.heap.size<=k):Gr S w T w':=⟨h.os,h.tape,h.output,h.size,h.block,ht⟩
theorem Gr.alloc (o:Obj):Gr S w S (w.alloc o):=Gr.of_below (ext_alloc w o)
theorem Gr.set {g:Nat} (hg:S g) (z:Array Value):Gr S w S (w.setRow g z):=⟨rfl,rfl,rfl,by rw[size_setRow];exact Nat.le_refl _,fun k _ hn=>setRow_other w g k z (by rintro rfl;exact hn hg),fun _ h=>.inl h⟩
theorem Gr.setCell {g:Nat} (hg:S g) (k:Nat) (v:Value):Gr S w S (w.setCell ⟨g,k,none⟩ v) :=
 ⟨rfl,rfl,rfl,by simp,fun i _ hn=>Below.heap_setCell w ⟨g,k,none⟩ v i (by rintro rfl;exact hn hg),fun _ h=>.inl h⟩
theorem Gr.blk {b:Nat} {cs:Array Value} {t:TypeId} (h:Gr S w S' w') (hb:Blk w b cs t) (hn: ¬ S b):Blk w' b cs t:=(h.block b hb.lt hn).trans hb
theorem Gr.out (h:Gr S w S' w') {b:Nat} (hb:b<w.heap.size) (hn: ¬ S b): ¬ S' b:=fun hs=>(h.sub b hs).elim hn (by omega)
theorem Gr.below (h:Gr S w S' w') {B:Nat} (hB:B<=w.heap.size) (hS:∀k,S k->B<=k):Below B w w' :=
 ⟨h.os,h.tape,h.output,h.size,fun k hk=>h.block k (by omega) fun hs=>by have:=hS k hs;omega⟩
theorem Gr.ge (h:Gr S w S' w') {B:Nat} (hB:B<=w.heap.size) (hS:∀k,S k->B<=k):∀k,S' k->B<=k:=fun k hk=>(h.sub k hk).elim (hS k) (by omega)
theorem Gr.cell (h:Gr S w S' w') {b k:Nat} (hb:b<w.heap.size) (hn: ¬ S b):w'.cell? ⟨b,k,none⟩=w.cell? ⟨b,k,none⟩:=World.cell?_of_block (a:=⟨b,k,none⟩) (h.block b hb hn)
end
end Go.Proofs.YtejcdhdfanfkbaaGreat
