/- varveref08.next. varveref08.Best, plainly: its rows, their bounds; counting. varveref08: power, Used, Sum, Check (lengths that may be). -/
import Derived.Test.YtjligbmickfbdaaGreatSp50
import Derived.Test.YtjligbmickfbdaaGreatSp16
import Derived.Test.YtjligbmickfbdaaGreatSp14
import Derived.Test.YtjligbmickfbdaaGreatSp15
namespace Go.Proofs.YtjligbmickfbdaaGreat
namespace Rf
open Go.RowKit Go.Maps Ln
section
variable {w w':World} {B sz n c k:Nat} {A:Option Addr} {t ts:TypeId} {z:Value} {bt:Nat} {v:Value} {V X:List Value}
theorem run_appW {w0:World} {n0:Nat} (he:El t ts z sz bt) (ty:TypeId) (hown:w0.ownsRow B t sz v n0 V) (hrd:Rd w0 w0.heap.size sz A n X) (hA:A=none->c=0) (h1:∀u∈X,u.oneCell'=true) (hl:n0<=1000000000) (hn:n<=1000000000) (hB:B<=w0.heap.size) :
  ∃v' w',(Builtin.append_ #[ts,ts] ty #[v,.slice A n c]).run Tryz.prog w0=.ok v' w'/\w'.ownsRow B t sz v' (n0+n) (V++X)/\Below B w0 w'/\w0.grownBy w' v.ownBlock/\(v'.ownBlock=v.ownBlock∨v'.ownBlock=some w0.heap.size):=by
 obtain⟨i0,hi,hz0,hz1,hz2⟩:=info_parts he.info;have hs:=he.small;cases A with
 |none =>
  have hn0:n=0:=by
   rcases Nat.eq_zero_or_pos n with h0|h0
   ·exact h0
   ·obtain⟨ad,e,_⟩:=hrd.cells (by omega)
    cases e
  have hc0:=hA rfl;subst hn0 hc0;have hX:X=[]:=List.eq_nil_of_length_eq_zero (by rw[hrd.len];simp);subst hX;exact⟨v,w0,run_append_owned_none (P:=Tryz.prog) (w:=w0) B ts ty t i0 sz he.sl hi v n0 V hown,by rw[List.append_nil];exact hown,Below.refl _ _,⟨rfl,rfl,rfl,Nat.le_refl _,fun _ _ _=>rfl⟩,.inl rfl⟩
 |some ad =>
  obtain⟨v',w',hr,h2,h3,-,h4⟩:=run_append_own_at (P:=Tryz.prog) w0 B ts ty t i0 z sz bt he.sl hi hz0 hz1 hz2 he.zc he.pos v n0 V hown
   ad n c X hrd.len (by
    intro j u hu;have hj:=(List.getElem?_eq_some_iff.1 hu).1;rw[hrd.len] at hj;have hn0:0<n:=by
     rcases Nat.eq_zero_or_pos n with h0|h0
     ·subst h0;simp at hj
     ·exact h0
    obtain⟨ad',e,_,hc⟩:=hrd.cells hn0;cases e
    exact hc j u hu) h1 (by simp only[maxLen];omega) (Nat.le_trans (Nat.mul_le_mul_left _ hs) (by omega)) hB
  have hlt:=World.ownsRow.lt hown;exact⟨v',w',hr,h2,((Below.refl _ _).grown h3 hB (fun k hk=>(hlt k hk).1)),h3,h4⟩
end
section
variable {ops:Array Oper} {rest:List Oper} {o:Oper} {a:Act} {K:Act->World->Prop} {Q:Exit->Act->World->Prop} {E:Prop}
theorem step_appW {t ts:TypeId} {z:Value} {sz bt:Nat} (he:El t ts z sz bt) (s x:Operand) {w0:World} {B n0:Nat} {v:Value} {V X:List Value} {A:Option Addr} {n c:Nat}
  (hgd:o.guard=none) (ho:o.op=.call { callee:=.builtin .append,args:=#[s,x],argTypes:=#[ts,ts] })
  (hown:w0.ownsRow B t sz v n0 V) (hrd:Rd w0 w0.heap.size sz A n X) (hA:A=none->c=0) (h1:∀u∈X,u.oneCell'=true) (hl:n0<=1000000000) (hn:n<=1000000000) (hB:B<=w0.heap.size) (hs:a.eval s=v) (hx:a.eval x=.slice A n c)
  (h:∀v' w',w'.ownsRow B t sz v' (n0+n) (V++X)->Below B w0 w'->w0.grownBy w' v.ownBlock->(v'.ownBlock=v.ownBlock∨v'.ownBlock=some w0.heap.size)->K (a.put o.dst v') w') :
  if Region.wanted o (yielded ops a.tmps)=true then Oper.wp Tryz.prog o a w0 K Q else E:=by
 have hw:Region.wanted o (yielded ops a.tmps)=true:=by simp[Region.wanted,hgd]
 rw[if_pos hw];obtain⟨v',w',hr,h3,h4,h5,h6⟩:=run_appW he o.type hown hrd hA h1 hl hn hB;unfold Oper.wp execOp;simp only[ho,resolve,invoke,builtin,Sem.run_bind,Sem.run_pure,Result.andThen_ok,List.map_toArray,List.map_cons,List.map_nil,hs,hx,hr];exact h v' w' h3 h4 h5 h6
end
def zB:Obj:=.cells #[.int .i64 0,.slice none 0 0,.bool false] 191
theorem zB_cells {w:World} {g:Nat} (h:w.heap[g]? =some (.cells #[.int .i64 0,.slice none 0 0,.bool false] 191)):(w.cell? ⟨g,0,none⟩=some (.int .i64 0)/\w.cell? ⟨g,1,none⟩=some (.slice none 0 0)/\w.cell? ⟨g,2,none⟩=some (.bool false))/\w.frozen? ⟨g,0,none⟩=false/\w.frozen? ⟨g,1,none⟩=false/\w.frozen? ⟨g,2,none⟩=false :=
 ⟨⟨cell_of_row w g 0 _ _ _ h,cell_of_row w g 1 _ _ _ h,cell_of_row w g 2 _ _ _ h⟩,frozen_of_row w g 0 _ _ h,frozen_of_row w g 1 _ _ h,frozen_of_row w g 2 _ _ h⟩
theorem keepZ {w w':World} {gz:Nat} {o:Obj} {v v':Value} (hz:w.heap[gz]? =some o) (hn:v.ownBlock≠some gz) (hg:w.grownBy w' v.ownBlock) (hat:v'.ownBlock=v.ownBlock∨v'.ownBlock=some w.heap.size):w'.heap[gz]? =some o/\v'.ownBlock≠some gz:=by
 have hl:gz<w.heap.size:=(Array.getElem?_eq_some_iff.1 hz).1;refine⟨(hg.block gz hl hn.symm).trans hz,?_⟩;rcases hat with e|e
 ·rw[e];exact hn
 ·rw[e];intro h;cases h;omega
theorem kz_az {w3 w4:World} {v4:Value} (hg4:((w3.drew.alloc (.cells #[] 3)).alloc (.cells #[.int .i64 0,.slice none 0 0,.bool false] 191)).grownBy w4 (Value.ownBlock (.slice (some ⟨w3.heap.size,0,none⟩) 0 0))) (hat4:v4.ownBlock=Value.ownBlock (.slice (some ⟨w3.heap.size,0,none⟩) 0 0)∨v4.ownBlock=some ((w3.drew.alloc (.cells #[] 3)).alloc (.cells #[.int .i64 0,.slice none 0 0,.bool false] 191)).heap.size):w4.heap[w3.heap.size+1]? =some (.cells #[.int .i64 0,.slice none 0 0,.bool false] 191)/\v4.ownBlock≠some (w3.heap.size+1) :=
 keepZ (v:=.slice (some ⟨w3.heap.size,0,none⟩) 0 0) (gz:=w3.heap.size+1) (o:=(.cells #[.int .i64 0,.slice none 0 0,.bool false] 191)) (by have:=heap_alloc_new (w3.drew.alloc (.cells #[] 3)) (.cells #[.int .i64 0,.slice none 0 0,.bool false] 191);simpa using this) (fun e=>absurd (Option.some.inj (show some w3.heap.size=some (w3.heap.size+1) from e)) (by omega)) hg4 hat4
theorem kz_za {w3 w4:World} {v4:Value} (hg4:((w3.drew.alloc (.cells #[.int .i64 0,.slice none 0 0,.bool false] 191)).alloc (.cells #[] 3)).grownBy w4 (Value.ownBlock (.slice (some ⟨w3.heap.size+1,0,none⟩) 0 0))) (hat4:v4.ownBlock=Value.ownBlock (.slice (some ⟨w3.heap.size+1,0,none⟩) 0 0)∨v4.ownBlock=some ((w3.drew.alloc (.cells #[.int .i64 0,.slice none 0 0,.bool false] 191)).alloc (.cells #[] 3)).heap.size):w4.heap[w3.heap.size]? =some (.cells #[.int .i64 0,.slice none 0 0,.bool false] 191)/\v4.ownBlock≠some w3.heap.size :=
 keepZ (v:=.slice (some ⟨w3.heap.size+1,0,none⟩) 0 0) (gz:=w3.heap.size) (o:=(.cells #[.int .i64 0,.slice none 0 0,.bool false] 191)) (by
  have h1:(w3.drew.alloc (.cells #[.int .i64 0,.slice none 0 0,.bool false] 191)).heap[w3.heap.size]? =some (.cells #[.int .i64 0,.slice none 0 0,.bool false] 191):=heap_alloc_new w3.drew (.cells #[.int .i64 0,.slice none 0 0,.bool false] 191);exact(heap_alloc_old (w3.drew.alloc (.cells #[.int .i64 0,.slice none 0 0,.bool false] 191)) _ (show w3.heap.size<_ by simp)).trans h1) (fun e=>absurd (Option.some.inj (show some (w3.heap.size+1)=some w3.heap.size from e)) (by omega)) hg4 hat4
theorem vI_app (a b:List Int):vI (a++b)=vI a++vI b:=List.map_append ..
structure Mid (w3 W:World) (gz:Nat) (v:Value) (n:Nat) (l:List Int):Prop where
 bel:Below w3.heap.size w3 W
 own:W.ownsRow w3.heap.size 3 1 v n (vI l)
 row:W.heap[gz]? =some (.cells #[.int .i64 0,.slice none 0 0,.bool false] 191)
 ge:w3.heap.size<=gz
 ne:v.ownBlock≠some gz
theorem mid_of {w3 W:World} {gz n:Nat} {v:Value} {xs ys:List Int} (hb:Below w3.heap.size w3 W) (ho:W.ownsRow w3.heap.size 3 1 v n ([]++vI xs++vI ys)) (hz:W.heap[gz]? =some (.cells #[.int .i64 0,.slice none 0 0,.bool false] 191)/\v.ownBlock≠some gz) (hg:w3.heap.size<=gz):Mid w3 W gz v n (xs++ys) :=
 ⟨hb,by rw[List.nil_append,<-vI_app] at ho;exact ho,hz.1,hg,hz.2⟩
structure Fin3 (w3 W:World) (gz:Nat) (v:Value) (n:Nat) (x:Int) (l:List Int):Prop where
 bel:Below w3.heap.size w3 W
 own:W.ownsRow w3.heap.size 3 1 v n (vI l)
 c0:W.cell? ⟨gz,0,none⟩=some (.int .i64 x)
 c1:W.cell? ⟨gz,1,none⟩=some v
 c2:W.cell? ⟨gz,2,none⟩=some (.bool false)
theorem fin_new {w3 w5:World} {A:Option Addr} {m c:Nat} {x:Int} {xs ys:List Int} (hb:Below w3.heap.size w3 w5) (ho:w5.ownsRow w3.heap.size 3 1 (.slice A m c) m ([]++vI xs++vI ys)):Fin3 w3 (w5.alloc (.cells #[.int .i64 x,.slice A m c,.bool false] 191)) w5.heap.size (.slice A m c) m x (xs++ys):=by
 have r:=heap_alloc_new w5 (.cells #[.int .i64 x,.slice A m c,.bool false] 191);rw[List.nil_append,<-vI_app] at ho;exact⟨hb.trans ((ext_alloc w5 _).mono hb.size),own_below ho (ext_alloc w5 _) (Nat.le_refl _),cell_of_row _ w5.heap.size 0 _ _ _ r,cell_of_row _ w5.heap.size 1 _ _ _ r,cell_of_row _ w5.heap.size 2 _ _ _ r⟩
theorem Mid.fin {w3 W:World} {gz n:Nat} {v:Value} {l:List Int} (h:Mid w3 W gz v n l) (x:Int):Fin3 w3 (((W.setCell ⟨gz,0,none⟩ (.int .i64 x)).setCell ⟨gz,1,none⟩ v).setCell ⟨gz,2,none⟩ (.bool false)) gz v n x l:=by
 have r1:=Cn.row_set (k:=0) (u:=.int .i64 x) h.row;have r2:=Cn.row_set (k:=1) (u:=v) r1;have r3:=Cn.row_set (k:=2) (u:=.bool false) r2;have b1:=h.bel.setCell (p:=⟨gz,0,none⟩) h.ge (.int .i64 x);have b2:=b1.setCell (p:=⟨gz,1,none⟩) h.ge v;have b3:=b2.setCell (p:=⟨gz,2,none⟩) h.ge (.bool false);refine⟨b3,own_setCell_far (a:=⟨gz,2,none⟩) (own_setCell_far (a:=⟨gz,1,none⟩) (own_setCell_far (a:=⟨gz,0,none⟩) h.own h.ne _) h.ne _) h.ne _,?_,?_,?_⟩
 ·exact cell_of_row _ gz 0 _ _ _ r3
 ·exact cell_of_row _ gz 1 _ _ _ r3
 ·exact cell_of_row _ gz 2 _ _ _ r3
def Far (q:Nat) (x:RT):Prop:=0<x.2.1.2.1-> ∀ad,x.2.1.1=some ad->ad.block≠q
def OwnHQ (q:Nat) (w:World) (B:Nat) (v:Value) (T:List ThR):Prop:=∃R,w.ownsRow B 191 3 v R.length (fT R)/\Tins w R T/\ ∀x∈R,Far q x
theorem OwnHQ.arg {q:Nat} {w:World} {B:Nat} {v:Value} {T:List ThR} (h:OwnHQ q w B v T):∃A c R,v=.slice A T.length c/\R.length=T.length/\ArgV w 3 A T.length c (fT R)/\Tins w R T/\ ∀x∈R,Far q x:=by
 obtain⟨R,h1,h2,h3⟩:=h;obtain⟨A,c,e,ha⟩:=argV_of_own h1;rw[h2.len] at e ha;exact⟨A,c,R,e,h2.len,ha,h2,h3⟩
theorem OwnHQ.lower {q:Nat} {w:World} {B C:Nat} {v:Value} {T:List ThR} (h:OwnHQ q w B v T) (hC:C<=B):OwnHQ q w C v T:=by
 obtain⟨R,h1,h2,h3⟩:=h;exact⟨R,own_lower h1 hC,h2,h3⟩
theorem OwnHQ.below {q:Nat} {w w':World} {B:Nat} {v:Value} {T:List ThR} (h:OwnHQ q w B v T) (hb:Below w.heap.size w w'):OwnHQ q w' B v T:=by
 obtain⟨R,h1,h2,h3⟩:=h;exact⟨R,own_below h1 hb (Nat.le_refl _),h2.ext hb,h3⟩
theorem own_nilHQ (q:Nat) (w:World) (B:Nat):OwnHQ q w B (.slice none 0 0) []:=⟨[],World.ownsRow_nil _ _ _ _,trivial,fun _ h=>by simp at h⟩
theorem putT_mem (x z:RT):∀R,z∈putT x R->z=x∨z∈R
 | [],h=>by simp[putT] at h;exact .inl h
 |y::R,h=>by
  rw[putT] at h;split at h
  ·rcases List.mem_cons.1 h with h|h
   ·exact .inr (by simp[h])
   ·rcases putT_mem x z R h with h|h
    ·exact .inl h
    ·exact .inr (by simp[h])
  ·rcases List.mem_cons.1 h with h|h
   ·exact .inl h
   ·exact .inr h
theorem putRQ_any {q:Nat} (A Ax:Option Addr) (n c m k:Nat) (f:Bool) (R:List RT) (T:List ThR) (y:ThR) (w:World) (ha:ArgV w 3 A n c (fT R)) (ht:Tins w R T) (hf:∀z∈R,Far q z) (hn:n<=100000) (hx:Tin w (y.1,(Ax,m,k),f) y) (hfx:Far q (y.1,(Ax,m,k),f)) (h0:0<=y.1) :
  Calls Tryz.prog 151 #[.slice A n c,.agg #[.int .i64 y.1,.slice Ax m k,.bool f]] w fun e w'=>∃v,e=.returned v/\OwnHQ q w' w.heap.size v (putR y T)/\Below w.heap.size w w':=by
 obtain⟨y1,y2⟩:=y;obtain⟨a,rfl⟩:=Int.eq_ofNat_of_zero_le h0;refine(put8_any A n c a m k Ax f R w ha hn).mono ?_;rintro e w' ⟨v,rfl,h1,h2⟩;have hl:=ha.rd.len;rw[fT_len] at hl;exact⟨v,rfl,⟨_,by rw[putT_len,show R.length=n by omega];exact h1,((ht.ext h2).put (hx.ext h2)),fun z hz=>by
  rcases putT_mem _ z R hz with h|h
  ·rw[h];exact hfx
  ·exact hf z h⟩,h2⟩
def Bd (M S N:Nat) (T:List ThR):Prop:=∀y∈T,0<=y.1/\y.1<=M/\y.2.1.length<=S/\ ∀s∈y.2.1,0<=s/\s<N
theorem pairR_two {T:List ThR} {i:Nat} {x y:ThR} (h1:T[i]? =some x) (h2:T[i+1]? =some y):pairR (T.drop i)=(x.1+y.1,x.2.1++y.2.1,false)::pairR (T.drop (i+2)):=by
 obtain⟨k1,e1⟩:=List.getElem?_eq_some_iff.1 h1;obtain⟨k2,e2⟩:=List.getElem?_eq_some_iff.1 h2;rw[List.drop_eq_getElem_cons k1,List.drop_eq_getElem_cons k2,e1,e2,pairR]
theorem pairR_end {T:List ThR} {i:Nat} (h:T.length<=i+1):pairR (T.drop i)=[]:=by
 have hl:(T.drop i).length<=1:=by rw[List.length_drop];omega
 rcases hd:T.drop i with _|⟨x,_|⟨y,r⟩⟩
 ·rfl
 ·rfl
 ·rw[hd] at hl;simp at hl
set_option maxHeartbeats 6400000 in
set_option maxRecDepth 100000 in
theorem next_any (q:Nat) (A A2:Option Addr) (n c n2 c2:Nat) (R R2:List RT) (T L:List ThR) (w:World) (hn:n<=2000) (hn2:n2<=2000) (ha:ArgV w 3 A n c (fT R)) (ht:Tins w R T) (ha2:ArgV w 3 A2 n2 c2 (fT R2)) (ht2:Tins w R2 L) (hq:q<w.heap.size) (hf:∀z∈R,Far q z) (hf2:∀z∈R2,Far q z) (hbd:Bd 100000000000 100000 257 T) (hbd2:Bd 100000000000 100000 257 L) :
  Calls Tryz.prog 134 #[.slice A n c,.slice A2 n2 c2] w fun e w'=>∃v,e=.returned v/\OwnHQ q w' w.heap.size v (nextR T L)/\Below w.heap.size w w':=by
 have mixed:Tryz.prog.follows .mixedOrders=true:=by kernel_rfl
 have hRn:R.length=n:=by have:=ha.rd.len;rw[fT_len] at this;omega
 have hRn2:R2.length=n2:=by have:=ha2.rd.len;rw[fT_len] at this;omega
 have hTn:T.length=n:=by rw[<-ht.len];exact hRn
 have hLn:L.length=n2:=by rw[<-ht2.len];exact hRn2
 have HA:=Lib.hid ha;have HT:=Lib.hid ht;have HA2:=Lib.hid ha2;have HT2:=Lib.hid ht2;have HBD:=Lib.hid hbd;have HBD2:=Lib.hid hbd2;have HTN:=Lib.hid hTn;have HLN:=Lib.hid hLn;have HRN:=Lib.hid hRn;have HRN2:=Lib.hid hRn2;have HF:=Lib.hid hf;have HF2:=Lib.hid hf2;have HQ:=Lib.hid hq;clear hf hf2 hq;clear ha ht ha2 ht2 hbd hbd2 hTn hLn hRn hRn2
 go_enter Tryz.func134, Tryz.ntmps134
 go_wp2_with fail
 go_loopg [5,6] n (fun kx s5 s6 wr=>∃(i:Nat) (U:List ThR),s6=.int .i64 (i:Int)/\i<=n/\n-i<=kx/\U.length<=i/\Hid (putsR (pairR (T.drop i)) U=putsR (pairR T) [])/\Aside (OwnHQ q wr w.heap.size s5 U/\Below w.heap.size w wr))
 case atStart=>exact⟨0,[],by go_num,by omega,by omega,Nat.le_refl _,(by show _=_;rfl),own_nilHQ _ _ _,Below.refl _ _⟩
 case round =>
  obtain⟨i,U,rfl,hi,hik,hUi,hU,H⟩:=hrel;by_cases hin:i+1<n
  ·obtain⟨ad,rfl⟩:=HA.out.some (by omega)
   obtain⟨x,hx⟩:∃x,T[i]? =some x:=⟨T[i]'(by rw[HTN.out];omega),List.getElem?_eq_getElem _⟩
   obtain⟨y,hy⟩:∃y,T[i+1]? =some y:=⟨T[i+1]'(by rw[HTN.out];omega),List.getElem?_eq_getElem _⟩
   obtain⟨a,ha⟩:∃a,R[i]? =some a:=⟨R[i]'(by rw[HRN.out];omega),List.getElem?_eq_getElem _⟩
   obtain⟨b,hb⟩:∃b,R[i+1]? =some b:=⟨R[i+1]'(by rw[HRN.out];omega),List.getElem?_eq_getElem _⟩
   have hta:=(HT.out.at ha hx).ext H.out.2;have htb:=(HT.out.at hb hy).ext H.out.2;have hxb:=HBD.out x (List.mem_of_getElem? hx);have hyb:=HBD.out y (List.mem_of_getElem? hy);have HPR:=Lib.hid (pairR_two hx hy);obtain⟨ca0,ca1,-⟩:=argT_cell HA.out H.out.2 ha;obtain⟨cb0,cb1,-⟩:=argT_cell HA.out H.out.2 hb;obtain⟨a1,⟨Aa,ma,ka⟩,fa⟩:=a;obtain⟨b1,⟨Ab,mb,kb⟩,fb⟩:=b;obtain⟨x1,xs,xf⟩:=x;obtain⟨y1,ys,yf⟩:=y;obtain rfl:a1=x1:=hta.wt;obtain rfl:b1=y1:=htb.wt;have hadl:ad.block<wr.heap.size:=by
    obtain⟨ad',e,h,_⟩:=HA.out.rd.cells (by omega);cases e
    exact Nat.lt_of_lt_of_le h H.out.2.size
   have hma:xs.length=ma:=by have:=hta.sy.rd.len;unfold vI at this;simpa using this
   have hmb:ys.length=mb:=by have:=htb.sy.rd.len;unfold vI at this;simpa using this
   simp only at hxb hyb ca0 ca1 cb0 cb1;have HSA:=Lib.hid hta.sy;have HSB:=Lib.hid htb.sy;have HXB:=Lib.hid hxb;have HYB:=Lib.hid hyb;have hma2:ma<=100000:=by omega
   have hmb2:mb<=100000:=by omega
   have w0a:0<=a1/\a1<=100000000000:=⟨hxb.1,hxb.2.1⟩
   have w0b:0<=b1/\b1<=100000000000:=⟨hyb.1,hyb.2.1⟩
   have HMA:=Lib.hid hma;have HMB:=Lib.hid hmb;have g1:(i:Int)<(n:Int):=by omega
   have g2:(i:Int)+1<(n:Int):=by omega
   have q1:IntKind.i64.wrap ((i:Int)+1)=(i:Int)+1:=by rw[IntKind.wrap_i64];omega
   have q2:(0:Int)<=(i:Int)+1:=by omega
   have q3:(0:Int)<=(i:Int):=by omega
   have q4:((i:Int)+1).toNat=i+1:=by omega
   have q5:IntKind.i64.wrap (a1+b1)=a1+b1:=by rw[IntKind.wrap_i64];omega
   clear hx hy ha hb hta htb hxb hyb hma hmb;go_wp2_with fail
   generalize wr=w3 at *
   have hC:∀wx,Below w3.heap.size w3 wx->(wx.cell? (ad.add (i*3))=some (.int .i64 a1)/\wx.cell? ⟨(ad.add (i*3)).block,(ad.add (i*3)).off+1,none⟩=some (.slice Aa ma ka)/\wx.cell? (ad.add ((i+1)*3))=some (.int .i64 b1)/\wx.cell? ⟨(ad.add ((i+1)*3)).block,(ad.add ((i+1)*3)).off+1,none⟩=some (.slice Ab mb kb))/\Below w3.heap.size w3 wx:=fun wx hb =>
    ⟨⟨(hb.cell (p:=ad.add (i*3)) (by rw[add_block];exact hadl)).trans ca0,(hb.cell (p:=⟨(ad.add (i*3)).block,(ad.add (i*3)).off+1,none⟩) (by show(ad.add (i*3)).block<_;rw[add_block];exact hadl)).trans ca1,(hb.cell (p:=ad.add ((i+1)*3)) (by rw[add_block];exact hadl)).trans cb0,(hb.cell (p:=⟨(ad.add ((i+1)*3)).block,(ad.add ((i+1)*3)).off+1,none⟩) (by show(ad.add ((i+1)*3)).block<_;rw[add_block];exact hadl)).trans cb1⟩,hb⟩
   have HC:=Lib.hid hC;have hdr:Below w3.heap.size w3 w3.drew:=⟨rfl,rfl,rfl,Nat.le_refl _,fun _ _=>rfl⟩
   have HSd:=Lib.hid (HC.out _ hdr);have HSa:=Lib.hid (HC.out _ (hdr.trans (ext_alloc w3.drew (.cells #[] 3))));have HSz:=Lib.hid (HC.out _ (hdr.trans (ext_alloc w3.drew (.cells #[.int .i64 0,.slice none 0 0,.bool false] 191))));have HSaz:=Lib.hid (HC.out _ (HSa.out.2.trans ((ext_alloc (w3.drew.alloc (.cells #[] 3)) (.cells #[.int .i64 0,.slice none 0 0,.bool false] 191)).mono HSa.out.2.size)));have HSza:=Lib.hid (HC.out _ (HSz.out.2.trans ((ext_alloc (w3.drew.alloc (.cells #[.int .i64 0,.slice none 0 0,.bool false] 191)) (.cells #[] 3)).mono HSz.out.2.size)));have HOa:Aside ((w3.drew.alloc (.cells #[] 3)).ownsRow w3.heap.size 3 1 (.slice (some ⟨w3.heap.size,0,none⟩) 0 0) 0 []):=ownV_empty 3 w3.drew;have HOaz:Aside (((w3.drew.alloc (.cells #[] 3)).alloc (.cells #[.int .i64 0,.slice none 0 0,.bool false] 191)).ownsRow w3.heap.size 3 1 (.slice (some ⟨w3.heap.size,0,none⟩) 0 0) 0 []):=own_below HOa.out (ext_alloc (w3.drew.alloc (.cells #[] 3)) (.cells #[.int .i64 0,.slice none 0 0,.bool false] 191)) (Nat.le_refl _);have HOza:Aside (((w3.drew.alloc (.cells #[.int .i64 0,.slice none 0 0,.bool false] 191)).alloc (.cells #[] 3)).ownsRow w3.heap.size 3 1 (.slice (some ⟨w3.heap.size+1,0,none⟩) 0 0) 0 []):=ownV_empty2 3 191 w3 w3.drew #[.int .i64 0,.slice none 0 0,.bool false] rfl;have HRA:=Lib.hid (fun(wx:World) (hb:Below w3.heap.size w3 wx)=>(HSA.out.ext hb).rd);have HRB:=Lib.hid (fun(wx:World) (hb:Below w3.heap.size w3 wx)=>(HSB.out.ext hb).rd);have hone:Hid (∀l:List Int,∀u∈vI l,u.oneCell'=true):=fun l u hu=>by
    obtain⟨q,_,rfl⟩:=List.mem_map.1 hu;rfl
   clear hC hdr ca0 ca1 cb0 cb1;go_region_held3 (fun wx=>(wx.cell? (ad.add (i*3))=some (.int .i64 a1)/\wx.cell? ⟨(ad.add (i*3)).block,(ad.add (i*3)).off+1,none⟩=some (.slice Aa ma ka)/\wx.cell? (ad.add ((i+1)*3))=some (.int .i64 b1)/\wx.cell? ⟨(ad.add ((i+1)*3)).block,(ad.add ((i+1)*3)).off+1,none⟩=some (.slice Ab mb kb))/\Below w3.heap.size w3 wx) (first|exact HSd.out|exact HSa.out|exact HSz.out|exact HSaz.out|exact HSza.out|assumption|exact HC.out _ (hmid.out.fin (a1+b1)).bel|exact HC.out _ (hS4.2.trans ((ext_alloc w4 _).mono hS4.2.size))|exact HC.out _ (hS5.2.trans ((ext_alloc w5 _).mono hS5.2.size))) (first
    |(refine step_appW intEl (.tmp 28) (.tmp 33) rfl rfl HOa.out (HRA.out _ HSa.out.2) HSA.out.no (hone.out _) (by omega) (by omega) HSa.out.2.size (by rfl) (by rfl) ?_;intro v4 w4 hown4 hb4 hg4 hat4;have hS4:=HC.out w4 (HSa.out.2.trans hb4))
    |(refine step_appW intEl (.tmp 28) (.tmp 33) rfl rfl HOaz.out (HRA.out _ HSaz.out.2) HSA.out.no (hone.out _) (by omega) (by omega) HSaz.out.2.size (by rfl) (by rfl) ?_;intro v4 w4 hown4 hb4 hg4 hat4;have hS4:=HC.out w4 (HSaz.out.2.trans hb4);have kz4:=kz_az hg4 hat4;have hge:=Nat.le_succ w3.heap.size)
    |(refine step_appW intEl (.tmp 28) (.tmp 33) rfl rfl HOza.out (HRA.out _ HSza.out.2) HSA.out.no (hone.out _) (by omega) (by omega) HSza.out.2.size (by rfl) (by rfl) ?_;intro v4 w4 hown4 hb4 hg4 hat4;have hS4:=HC.out w4 (HSza.out.2.trans hb4);have kz4:=kz_za hg4 hat4;have hge:=Nat.le_refl w3.heap.size)
    |(refine step_appW intEl (.tmp 34) (.tmp 40) rfl rfl (own_below hown4 (ext_alloc w4 (.cells #[.int .i64 0,.slice none 0 0,.bool false] 191)) (Nat.le_refl _)) (HRB.out _ (hS4.2.trans ((ext_alloc w4 (.cells #[.int .i64 0,.slice none 0 0,.bool false] 191)).mono hS4.2.size))) HSB.out.no (hone.out _) (by omega) (by omega) (hS4.2.trans ((ext_alloc w4 (.cells #[.int .i64 0,.slice none 0 0,.bool false] 191)).mono hS4.2.size)).size (by rfl) (by rfl) ?_;intro v5 w5 hown5 hb5 hg5 hat5;rw[Nat.zero_add] at hown5;have hS5:=HC.out w5 ((hS4.2.trans ((ext_alloc w4 (.cells #[.int .i64 0,.slice none 0 0,.bool false] 191)).mono hS4.2.size)).trans hb5);have kz5:=keepZ (heap_alloc_new w4 (.cells #[.int .i64 0,.slice none 0 0,.bool false] 191)) (fun e=>Nat.lt_irrefl _ (World.ownsRow.lt hown4 _ e).2) hg5 hat5;have hmid:Aside _:=mid_of hS5.2 hown5 kz5 hS4.2.size;obtain⟨A5,c5,rfl,harg5⟩:=argV_of_own hown5;obtain⟨⟨zc0,zc1,zc2⟩,zf0,zf1,zf2⟩:=zB_cells kz5.1)
    |(refine step_appW intEl (.tmp 34) (.tmp 40) rfl rfl hown4 (HRB.out _ hS4.2) HSB.out.no (hone.out _) (by omega) (by omega) hS4.2.size (by rfl) (by rfl) ?_;intro v5 w5 hown5 hb5 hg5 hat5;rw[Nat.zero_add] at hown5;have hS5:=HC.out w5 (hS4.2.trans hb5);have kz5:=keepZ kz4.1 kz4.2 hg5 hat5;have hmid:Aside _:=mid_of hS5.2 hown5 kz5 hge;obtain⟨A5,c5,rfl,harg5⟩:=argV_of_own hown5;obtain⟨⟨zc0,zc1,zc2⟩,zf0,zf1,zf2⟩:=zB_cells kz5.1)
    |(refine step_appW intEl (.tmp 34) (.tmp 40) rfl rfl hown4 (HRB.out _ hS4.2) HSB.out.no (hone.out _) (by omega) (by omega) hS4.2.size (by rfl) (by rfl) ?_;intro v5 w5 hown5 hb5 hg5 hat5;rw[Nat.zero_add] at hown5;have hS5:=HC.out w5 (hS4.2.trans hb5);have kz5:=And.intro (heap_alloc_new w5 (.cells #[.int .i64 0,.slice none 0 0,.bool false] 191)) (show v5.ownBlock≠some w5.heap.size from fun e=>Nat.lt_irrefl _ (World.ownsRow.lt hown5 _ e).2);obtain⟨A5,c5,rfl,harg5⟩:=argV_of_own hown5;have hfin4:Aside _:=fin_new (x:=a1+b1) hS5.2 hown5;obtain⟨⟨zc0,zc1,zc2⟩,zf0,zf1,zf2⟩:=zB_cells kz5.1))
   all_goals (
    first
     |have hfin:Aside _:=hmid.out.fin (a1+b1)
      clear hmid
     |have hfin:Aside _:=hfin4.out
      clear hfin4
    clear kz5 zc0 zc1 zc2 zf0 zf1 zf2 hown5 hb5 hg5 hat5 harg5 hS5 hS4 hown4 hb4 hg4 hat4;have hbw:Below w3.heap.size w3 _:=hfin.out.bel;obtain⟨Ao,co,RU,rfl,hRU,hargU,htU,hfU⟩:=H.out.1.arg;have hx0:=hfin.out.c0;have hx1:=hfin.out.c1;have hx2:=hfin.out.c2;have hBW:=H.out.2.trans (hbw.mono H.out.2.size);have HBW:Aside _:=hBW;have hfar:Far q (a1+b1,(A5,ma+mb,c5),false):=by
     intro _ ad9 e9 e8;subst e9;have hge:=(World.ownsRow.lt hfin.out.own ad9.block rfl).1;have h1:=HQ.out;have h2:=H.out.2.size;rw[e8] at hge;omega
    obtain⟨A',c',e',harg'⟩:=argV_of_own hfin.out.own;cases e'
    have hP:=putRQ_any (q:=q) Ao A5 U.length co (ma+mb) c5 false RU U (a1+b1,xs++ys,false) _ (hargU.ext hbw) (htU.ext hbw) hfU (by omega) ⟨rfl,rfl,harg'⟩ hfar (by show 0<=a1+b1;omega);have HP:=Lib.hid hP;have HU2:Hid (putsR (pairR (T.drop (i+2))) (putR (a1+b1,xs++ys,false) U)=putsR (pairR T) []):=by
     have:=hU.out;rw[HPR.out] at this;exact this
    have HUL:Hid ((putR (a1+b1,xs++ys,false) U).length<=i+2):=by show _<=_;rw[length_putR];omega
    clear hP hBW hbw hfin H harg' hargU htU hfU hfar;go_wp2_with (go_at_call 151;refine HP.out.mono ?_;rintro e6 w6 ⟨v6,rfl,hown6,hb6⟩)
    have HX:Aside (OwnHQ q w6 w.heap.size v6 (putR (a1+b1,xs++ys,false) U)/\Below w.heap.size w w6):=⟨hown6.lower HBW.out.size,HBW.out.trans (hb6.mono HBW.out.size)⟩
    clear hown6 hb6;go_roundg (n-(i+2))
    case measure=>omega
    case rel=>exact⟨i+2,_,by go_num,by omega,by omega,HUL.out,HU2.out,HX.out⟩)
  ·have hU2:=hU.out
   rw[pairR_end (by rw[HTN.out];omega)] at hU2;have hU2:U=putsR (pairR T) []:=hU2;have HU2:Hid (U=putsR (pairR T) []):=hU2;have hUl:U.length<=2000:=by omega
   have hdd:decide ((i:Int)+1<(n:Int))=false:=decide_eq_false (by omega);clear hU2 hU hin hUi;go_wp2_with fail
   have H0:Aside (OwnHQ q wr w.heap.size u5 U/\Below w.heap.size w wr):=H.out;clear H;go_loopg [5,8] n2 (fun kx s5 s8 wr2=>∃(j:Nat) (V:List ThR),s8=.int .i64 (j:Int)/\j<=n2/\n2-j<=kx/\V.length<=2000+j/\Hid (putsR (L.drop j) V=nextR T L)/\Aside (OwnHQ q wr2 w.heap.size s5 V/\Below w.heap.size w wr2))
   case atStart=>exact⟨0,U,by go_num,by omega,by omega,by omega,(by show _=_;rw[HU2.out];rfl),H0.out⟩
   case round =>
    clear H0;obtain⟨j,V,rfl,hj,hjk,hVl,hV,H⟩:=hrel;by_cases hjn:j<n2
    ·obtain⟨ad2,rfl⟩:=HA2.out.some (by omega)
     obtain⟨y,hy⟩:∃y,L[j]? =some y:=⟨L[j]'(by rw[HLN.out];omega),List.getElem?_eq_getElem _⟩
     obtain⟨a,ha⟩:∃a,R2[j]? =some a:=⟨R2[j]'(by rw[HRN2.out];omega),List.getElem?_eq_getElem _⟩
     have hta:=(HT2.out.at ha hy).ext H.out.2;have hyb:=HBD2.out y (List.mem_of_getElem? hy);obtain⟨c0,c1,c2⟩:=argT_cell HA2.out H.out.2 ha;have hdr:L.drop j=y::L.drop (j+1):=by
      obtain⟨k1,e1⟩:=List.getElem?_eq_some_iff.1 hy;rw[List.drop_eq_getElem_cons k1,e1]
     have hV2:=hV.out;rw[hdr] at hV2;have HV2:Hid (putsR (L.drop (j+1)) (putR y V)=nextR T L):=hV2;have HVL:Hid ((putR y V).length<=2000+(j+1)):=by show _<=_;rw[length_putR];omega
     have hfa:=HF2.out a (List.mem_of_getElem? ha);obtain⟨a1,⟨Aa,ma,ka⟩,fa⟩:=a;obtain⟨y1,ys,yf⟩:=y;obtain rfl:a1=y1:=hta.wt;obtain rfl:fa=yf:=hta.lf;simp only at c0 c1 c2 hyb;obtain⟨Ao,co,RU,rfl,hRU,hargU,htU,hfU⟩:=H.out.1.arg;have HP:=Lib.hid (putRQ_any (q:=q) Ao Aa V.length co ma ka fa RU V (a1,ys,fa) wr hargU htU hfU (by omega) hta (hfa) hyb.1);have HB:=Lib.hid H.out.2;clear hdr hV2 hV hyb hta hy ha H hargU htU hfU hfa;go_wp2_with (go_at_call 151;refine HP.out.mono ?_;rintro e6 w6 ⟨v6,rfl,hown6,hb6⟩)
     have HX:Aside (OwnHQ q w6 w.heap.size v6 (putR (a1,ys,fa) V)/\Below w.heap.size w w6):=⟨hown6.lower HB.out.size,HB.out.trans (hb6.mono HB.out.size)⟩
     clear hown6 hb6;go_roundg (n2-(j+1))
     case measure=>omega
     case rel=>exact⟨j+1,_,by go_num,by omega,by omega,HVL.out,HV2.out,HX.out⟩
    ·have hVV:V=nextR T L:=by
      have:=hV.out;rw[List.drop_eq_nil_of_le (by rw[HLN.out];omega)] at this;exact this
     have HE:Aside (OwnHQ q wr w.heap.size u5 (nextR T L)/\Below w.heap.size w wr):=by rw[<-hVV];exact H.out
     clear hVV hV H;go_wp2_with fail
     go_ret
     exact⟨_,rfl,HE.out⟩
end Rf
end Go.Proofs.YtjligbmickfbdaaGreat
namespace Go.Proofs.YtjligbmickfbdaaGreat
namespace Rf
open Ln St
theorem leaves_same {F:List Thing} (hF:∀x∈F,0<=x.2) (i:Nat):F.map (toR F i)=F.map (toR F 0) :=
 List.map_congr_left fun x hx=>by rw[toR_leaf F i (hF x hx),toR_leaf F 0 (hF x hx)]
def Tr (F:List Thing) (i:Nat):List ThR:=(rowsL F i).map (toR F i)
theorem next_row {F:List Thing} (h:Ln.Leaves F) (i:Nat):nextR (Tr F i) (F.map (toR F 0))=Tr F (i+1):=by
 rw[<-leaves_same h.sym (i+1)];exact nextR_eq F i h.sym h.srt (rows_srt h i)
theorem tr_len {F:List Thing} (i:Nat):(Tr F i).length<=2*F.length:=by
 unfold Tr;rw[List.length_map];rcases length_rows (F:=F) i with h|h
 ·generalize (F.length-1)/2^i=q at h
  omega
 ·have:F=[]:=List.eq_nil_of_length_eq_zero h
  subst this;have:∀i,rowsL [] i=[]:=by
   intro i
   induction i with
   |zero=>rfl
   |succ i ih=>rw[rowsL,ih,mrg_nil_left];rfl
  rw[this];simp
theorem tr_full {F:List Thing} (h2:2<=F.length) (h:F.length<=257):2*F.length-2<=(Tr F 14).length:=by
 unfold Tr;rw[List.length_map];rcases length_rows (F:=F) 14 with h1|h1
 ·have:(F.length-1)/2^14=0:=Nat.div_eq_of_lt (by omega)
  omega
 ·omega
theorem Bd.mono {M S N M' S':Nat} {T:List ThR} (h:Bd M S N T) (h1:M<=M') (h2:S<=S'):Bd M' S' N T:=fun y hy=>by
 obtain⟨a,b,c,d⟩:=h y hy;exact⟨a,by omega,by omega,d⟩
theorem bd_put {M S N:Nat} {x:ThR}:∀{r:List ThR},Bd M S N r->Bd M S N [x]->Bd M S N (putR x r)
 | [],_,hx=>hx
 |y::r,h,hx=>by
  rw[putR];split
  ·intro z hz
   rcases List.mem_cons.1 hz with hz|hz
   ·exact h z (by simp[hz])
   ·exact bd_put (fun u hu=>h u (by simp[hu])) hx z hz
  ·intro z hz
   rcases List.mem_cons.1 hz with hz|hz
   ·exact hx z (by simp[hz])
   ·exact h z hz
theorem bd_puts {M S N:Nat}:∀{xs r:List ThR},Bd M S N xs->Bd M S N r->Bd M S N (putsR xs r)
 | [],_,_,h=>h
 |x::xs,r,hx,h=>by
  have:=bd_puts (xs:=xs) (r:=putR x r) (fun z hz=>hx z (by simp[hz])) (bd_put h fun z hz=>hx z (by simp at hz;simp[hz]));unfold putsR at *
  rw[List.foldl_cons];exact this
theorem bd_pair {M S N:Nat}:∀{T:List ThR},Bd M S N T->Bd (2*M) (2*S) N (pairR T)
 | [],_=>fun z hz=>by simp[pairR] at hz
 | [x],_=>fun z hz=>by simp[pairR] at hz
 |x::y::r,h=>by
  rw[pairR];intro z hz;rcases List.mem_cons.1 hz with hz|hz
  ·subst hz
   obtain⟨a1,a2,a3,a4⟩:=h x (by simp);obtain⟨b1,b2,b3,b4⟩:=h y (by simp);refine⟨by show 0<=x.1+y.1;omega,by show x.1+y.1<=_;omega,by show(x.2.1++y.2.1).length<=_;rw[List.length_append];omega,fun s hs=>?_⟩;rcases List.mem_append.1 hs with hs|hs
   ·exact a4 s hs
   ·exact b4 s hs
  ·exact bd_pair (fun u hu=>h u (by simp[hu])) z hz
theorem bd_next {M S N:Nat} {T L:List ThR} (hT:Bd M S N T) (hL:Bd M S N L):Bd (2*M) (2*S) N (nextR T L) :=
 bd_puts (hL.mono (by omega) (by omega)) (bd_puts (bd_pair hT) fun z hz=>by simp at hz)
theorem bd_tr {F:List Thing} (h:Ln.Leaves F) (hb:Bd 1000000 1 257 (F.map (toR F 0))):∀i,Bd (1000000*2^i) (2^i) 257 (Tr F i)
 |0=>by simpa[Tr,rowsL] using hb
 |i+1=>by
  have h1:=bd_tr h hb i;have hp:1<=2^i:=Nat.one_le_two_pow;have h2:=bd_next h1 (hb.mono (by omega) hp);rw[next_row h] at h2;exact h2.mono (by rw[Nat.pow_succ];omega) (by rw[Nat.pow_succ];omega)
set_option maxRecDepth 100000 in
theorem bd_tr14 {F:List Thing} (h:Ln.Leaves F) (hb:Bd 1000000 1 257 (F.map (toR F 0))) (i:Nat) (hi:i<=14):Bd 100000000000 100000 257 (Tr F i):=by
 have hp:2^i<=2^14:=Nat.pow_le_pow_right (by omega) hi;exact(bd_tr h hb i).mono (by omega) (by omega)
def flT (T:List ThR) (m:Nat):List Int:=(T.take m).flatMap fun x=>x.2.1
theorem flT_eq (F:List Thing) (i m:Nat):flT (Tr F i) m=flatR F i m:=by
 unfold flT Tr flatR;rw[<-List.map_take,List.flatMap_map];rfl
theorem flT_succ {T:List ThR} {m:Nat} {y:ThR} (h:T[m]? =some y):flT T (m+1)=flT T m++y.2.1:=by
 unfold flT;rw[List.take_add_one,h,List.flatMap_append];simp
set_option maxRecDepth 100000 in
theorem flT_len {M N:Nat} {T:List ThR} (h:Bd M 100000 N T) (m:Nat):(flT T m).length<=m*100000:=by
 induction m with
 |zero=>simp[flT]
 |succ m ih =>
  rcases ht:T[m]? with _|y
  ·unfold flT at *
   rw[List.take_add_one,ht];simp only[Option.toList_none,List.append_nil];exact Nat.le_trans ih (Nat.mul_le_mul_right _ (Nat.le_succ m))
  ·rw[flT_succ ht,List.length_append,Nat.succ_mul]
   exact Nat.add_le_add ih (h y (List.mem_of_getElem? ht)).2.2.1
theorem length_cntS (xs:List Int):∀o:List Int,(cntS o xs).length=o.length:=by
 induction xs with
 |nil=>intro o;rfl
 |cons x xs ih=>intro o;show(cntS (inc o x.toNat) xs).length=_;rw[ih,length_inc]
theorem cntS_bd (n:Nat) (xs:List Int):∀x∈cntS (List.replicate n 0) xs,0<=x/\x<=(xs.length:Int):=by
 have:=Hf.foldl_bd xs (List.replicate n 0) 0 (by omega) (fun x hx=>by rw[List.mem_replicate] at hx;omega);intro x hx;have h:=this x hx;omega
theorem cntS_snoc (o xs:List Int) (s:Int):cntS o (xs++[s])=(cntS o xs).set s.toNat ((cntS o xs).getD s.toNat 0+1):=by
 rw[cntS_append];rfl
theorem bd_first {l:List Int} (hl:l.length<=257) (h:∀x∈l,0<=x/\x<=1000000):Bd 1000000 1 257 ((stab wt (lv 0 l)).map (toR (stab wt (lv 0 l)) 0)):=by
 intro y hy;obtain⟨x,hx,rfl⟩:=List.mem_map.1 hy;obtain⟨i,hi,rfl,hp⟩:=lv_of_mem l 0 x ((stab_perm wt (lv 0 l)).mem_iff.1 hx);rw[toR_leaf _ 0 (by show(0:Int)<=_;omega)];have:=h _ (List.getElem_mem hi);refine⟨this.1,this.2,by simp,fun s hs=>?_⟩;simp at hs
 subst hs;omega
end Rf
end Go.Proofs.YtjligbmickfbdaaGreat
namespace Go.Proofs.YtjligbmickfbdaaGreat
namespace Rf
open Go.RowKit Cn
def p2 (n:Nat):Nat:=2^n
set_option maxHeartbeats 1600000 in
set_option maxRecDepth 100000 in
theorem power_any (n:Nat) (w:World) (hn:n<=15):Calls Tryz.prog 133 #[.int .i64 (n:Int)] w fun e w'=>e=.returned (.int .i64 (p2 n:Int))/\w=w':=by
 go_enter Tryz.func133, Tryz.ntmps133
 go_wp2_with fail
 go_loopg [3,4] n (fun kx s3 s4 wr=>∃(k:Nat),s4=.int .i64 (k:Int)/\s3=.int .i64 (p2 k:Int)/\k<=n/\n-k<=kx/\Aside (w=wr))
 case atStart=>exact⟨0,rfl,rfl,by omega,by omega,rfl⟩
 case round =>
  obtain⟨k,rfl,rfl,hk,hkx,hw⟩:=hrel;obtain rfl:=hw.out;have hb:p2 k<=32768:=Nat.pow_le_pow_right (n:=2) (j:=15) (by omega) (by omega);by_cases hlt:k<n
  ·have hs:Hid (p2 (k+1)=2*p2 k):=by show _=_;unfold p2;rw[Nat.pow_succ];omega
   generalize p2 k=P at *
   go_wp2_with fail
   go_roundg (n-(k+1))
   case measure=>omega
   case rel=>exact⟨k+1,by go_num,by rw[hs.out];go_num,by omega,by omega,rfl⟩
  ·obtain rfl:k=n:=by omega
   go_wp2_with fail
   go_ret
   exact⟨rfl,rfl⟩
set_option maxHeartbeats 1600000 in
set_option maxRecDepth 100000 in
theorem refused_any (A:Option Addr) (n c:Nat) (l:List Int) (w:World) (hn:n<=1000000) (hrd:Rd w w.heap.size 1 A n (l.map (Value.int .i64))) :
  Calls Tryz.prog 153 #[.slice A n c] w fun e w'=>e=.returned (.int .i64 (us l:Int))/\w=w':=by
 have hln:l.length=n:=by simpa using hrd.len
 have HL:=Lib.hid hln;clear hln
 go_enter Tryz.func153, Tryz.ntmps153
 go_wp2_with fail
 go_loopg [3,4] n (fun kx s3 s8 wr=>∃(k:Nat),s8=.int .i64 (k:Int)/\s3=.int .i64 (us (l.take k):Int)/\k<=n/\n-k<=kx/\w=wr)
 case atStart=>exact⟨0,rfl,rfl,by omega,by omega,rfl⟩
 case round =>
  obtain⟨k,rfl,rfl,hk,hkx,rfl⟩:=hrel;have hub:us (l.take k)<=1000000:=by
   unfold us;exact Nat.le_trans (List.countP_le_length) (by simp;omega)
  by_cases hlt:k<n
  ·obtain⟨ad,x,rfl,had,hx,hcell⟩:=hrd.int1 hlt
   have hkl:k<l.length:=by have:=HL.out;omega
   rw[List.getElem?_eq_getElem hkl,Option.some.injEq] at hx;have hst:=us_take l k hkl;rw[hx] at hst;have HST:=Lib.hid hst;clear hst hx hkl;by_cases h0:0<x
   ·go_wp2_with fail
    go_roundg (n-(k+1))
    case measure=>omega
    case rel=>exact⟨k+1,by go_num,by rw[HST.out,if_pos h0];go_num,by omega,by omega,by first|rfl|trivial⟩
   ·go_wp2_with fail
    go_roundg (n-(k+1))
    case measure=>omega
    case rel=>exact⟨k+1,by go_num,by rw[HST.out,if_neg (by omega)];rfl,by omega,by omega,by first|rfl|trivial⟩
  ·have e:us (l.take k)=us l:=by rw[List.take_of_length_le (by have:=HL.out;omega)]
   have HE:=Lib.hid e;clear e;go_wp2_with fail
   go_ret
   refine⟨?_,rfl⟩;rw[<-HE.out];rfl
set_option maxHeartbeats 3200000 in
set_option maxRecDepth 100000 in
theorem refsum_any (A:Option Addr) (n c:Nat) (l:List Int) (w:World) (hn:n<=257) (hl:∀x∈l,0<=x/\x<=15) (hrd:Rd w w.heap.size 1 A n (l.map (Value.int .i64))) :
  Calls Tryz.prog 152 #[.slice A n c] w fun e w'=>e=.returned (.int .i64 (((l.map kr).sum:Nat):Int))/\w=w':=by
 have hln:l.length=n:=by simpa using hrd.len
 have HL:=Lib.hid hln;have HP:=Lib.hid (fun n w hn=>power_any n w hn);clear hln
 go_enter Tryz.func152, Tryz.ntmps152
 go_wp2_with fail
 go_loopg [3,4] n (fun kx s3 s8 wr=>∃(k:Nat),s8=.int .i64 (k:Int)/\s3=.int .i64 (sk l k:Int)/\k<=n/\n-k<=kx/\w=wr)
 case atStart=>exact⟨0,rfl,rfl,by omega,by omega,rfl⟩
 case round =>
  obtain⟨k,rfl,rfl,hk,hkx,rfl⟩:=hrel;have hub:sk l k<=16384*257:=by
   unfold sk;exact Nat.le_trans (kr_sum_le _) (Nat.mul_le_mul_left _ (by simp;omega))
  by_cases hlt:k<n
  ·obtain⟨ad,x,rfl,had,hx,hcell⟩:=hrd.int1 hlt
   have hkl:k<l.length:=by have:=HL.out;omega
   rw[List.getElem?_eq_getElem hkl,Option.some.injEq] at hx;have hst:=kr_take l k hkl;have hxb:=hl _ (List.getElem_mem hkl);rw[hx] at hst hxb;have HST:=Lib.hid hst;obtain⟨y,rfl⟩:=Int.eq_ofNat_of_zero_le hxb.1;have hy:y<=15:=by omega
   clear hst hx hkl hxb;generalize sk l k=S at *
   by_cases h0:0<y
   ·have hkr:Hid (kr (y:Int)=p2 (15-y)):=by show _=_;unfold kr;rw[if_pos (by omega)];rfl
    have hb:p2 (15-y)<=32768:=Nat.pow_le_pow_right (n:=2) (j:=15) (by omega) (by omega);have hpo:=HP.out (15-y) w (by omega);rw[show((15-y:Nat):Int)=15-(y:Int) by omega] at hpo;have HPO:=Lib.hid hpo;generalize p2 (15-y)=R at *
    have g1: ¬ (y:Int)<0:=by omega
    have g2: ¬ (y:Int)>15:=by omega
    have g3:(y:Int)>0:=by omega
    clear hpo;go_wp2_with (go_at_call 133;refine HPO.out.mono ?_;rintro e1 w1 ⟨rfl,rfl⟩)
    go_roundg (n-(k+1))
    case measure=>omega
    case rel=>exact⟨k+1,by go_num,by rw[HST.out,hkr.out];go_num,by omega,by omega,by first|rfl|trivial⟩
   ·obtain rfl:y=0:=by omega
    have hkr:Hid (sk l (k+1)=S):=by show _=_;rw[HST.out];rfl
    have hcell:w.cell? (ad.add k)=some (.int .i64 0):=hcell;go_wp2_with fail
    go_roundg (n-(k+1))
    case measure=>omega
    case rel=>exact⟨k+1,by go_num,by rw[hkr.out],by omega,by omega,by first|rfl|trivial⟩
  ·have e:sk l k=(l.map kr).sum:=by unfold sk;rw[List.take_of_length_le (by have:=HL.out;omega)]
   have HE:=Lib.hid e;clear e;go_wp2_with fail
   go_ret
   refine⟨?_,rfl⟩;rw[<-HE.out];rfl
set_option maxHeartbeats 3200000 in
set_option maxRecDepth 100000 in
theorem refcheck_any (A:Option Addr) (n c:Nat) (l:List Int) (w:World) (hn:n<=257) (hl:∀x∈l,0<=x/\x<=15) (hs:sumOk l=true) (hrd:Rd w w.heap.size 1 A n (l.map (Value.int .i64))) :
  Calls Tryz.prog 135 #[.slice A n c] w fun e w'=>e=.returned (.int .i64 0)/\w=w':=by
 have hS:=refsum_any A n c l w hn hl hrd;have hU:=refused_any A n c l w (by omega) hrd;have HP15:=Lib.hid (show Calls Tryz.prog 133 #[.int .i64 15] w fun e w'=>e=.returned (.int .i64 32768)/\w=w' from power_any 15 w (by omega));have HP14:=Lib.hid (show Calls Tryz.prog 133 #[.int .i64 14] w fun e w'=>e=.returned (.int .i64 16384)/\w=w' from power_any 14 w (by omega));unfold sumOk half at hs;simp only[Bool.or_eq_true,Bool.and_eq_true,decide_eq_true_eq] at hs;have g1: ¬ (n:Int)>257:=by omega
 rcases hs with (h|h)|h
 ·rw[h] at hS
  have HS:=Lib.hid hS;clear hS hU h
  go_enter Tryz.func135, Tryz.ntmps135
  go_wp2_with (go_at_call 152;refine HS.out.mono ?_;rintro e1 w1 ⟨rfl,rfl⟩)
  go_ret
  exact⟨rfl,rfl⟩
 ·rw[h] at hS
  have HS:=Lib.hid hS;clear hS hU h
  go_enter Tryz.func135, Tryz.ntmps135
  go_wp2_with (first|(go_at_call 152;refine HS.out.mono ?_;rintro e1 w1 ⟨rfl,rfl⟩)|(go_at_call 133;refine HP15.out.mono ?_;rintro e2 w2 ⟨rfl,rfl⟩))
  go_ret
  exact⟨rfl,rfl⟩
 ·rw[h.2] at hS
  rw[h.1] at hU;have HS:=Lib.hid hS;have HU:=Lib.hid hU;clear hS hU h
  go_enter Tryz.func135, Tryz.ntmps135
  go_wp2_with (first|(go_at_call 152;refine HS.out.mono ?_;rintro e1 w1 ⟨rfl,rfl⟩)|(go_at_call 153;refine HU.out.mono ?_;rintro e3 w3 ⟨rfl,rfl⟩)|(go_at_call_of 133 (15:Int);refine HP15.out.mono ?_;rintro e2 w2 ⟨rfl,rfl⟩)|(go_at_call_of 133 (14:Int);refine HP14.out.mono ?_;rintro e2 w2 ⟨rfl,rfl⟩))
  go_ret
  exact⟨rfl,rfl⟩
end Rf
end Go.Proofs.YtjligbmickfbdaaGreat
