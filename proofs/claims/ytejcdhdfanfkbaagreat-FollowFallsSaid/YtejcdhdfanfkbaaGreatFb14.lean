/- strings.Builder beside other memory of the call's own: WriteString, String turn only what is the builder's. follow.put, Encode. -/
import Derived.Test.YtejcdhdfanfkbaaGreatFb04
import Derived.Test.YtejcdhdfanfkbaaGreatFb07
import Derived.Test.YtejcdhdfanfkbaaGreatFb11
namespace Go.Proofs.YtejcdhdfanfkbaaGreat
namespace Bd
open Go.RowKit
section
variable {P:Program} (w:World)
theorem run_append_str_at (t u ty e:TypeId) (i:TypeInfo) (ht:P.underlying t=some (.slice e)) (hu:P.underlying u=some .string) (hi:P.info? e=some i) (hz:i.zero=some (.int .u8 0)) (hsize:i.size=1) (hby:i.bytes=1)
  (v:Value) (n:Nat) (xs:List Value) (hown:w.ownsRow 0 e 1 v n xs) (s:ByteArray) (h63:n+s.size<=maxLen) (hbytes:n+s.size<=140737488355328) :
  ∃v' w',(Builtin.append_ #[t,u] ty #[v,.string s]).run P w=.ok v' w'/\w'.ownsRow 0 e 1 v' (n+s.size) (xs++Lib.strCells s)/\w.grownBy w' v.ownBlock/\(v'.ownBlock=v.ownBlock∨ ∃g,v'.ownBlock=some g/\w.heap.size<=g):=by
 obtain⟨v',w',hr,h2,h3,h4⟩:=Lib.run_append_own_string (P:=P) w 0 t u ty e i ht hu hi hz hsize hby v n xs hown s h63 hbytes (Nat.zero_le _);refine⟨v',w',hr,h2,h3,?_⟩;have hsmall:n+s.size<=9223372036854775807:=by simp only[maxLen] at h63;omega
 have hxl:xs.length=n:=by simpa using hown.1
 rcases hown.2 with ⟨rfl,rfl⟩|⟨g,cap,cur,rfl,hbg,hg,hnc,hcm,hcs,htake⟩
 ·by_cases hm:s.size=0
  ·rw[h4.2 ⟨rfl,hm⟩];exact .inl rfl
  ·obtain⟨v'',w'',hr',h2',-,-⟩:=Lib.run_append_own_string (P:=P) w w.heap.size t u ty e i ht hu hi hz hsize hby (.slice none 0 0) 0 xs ⟨hown.1,.inl ⟨rfl,rfl⟩⟩ s h63 hbytes (Nat.le_refl _)
   rw[hr] at hr';cases hr'
   rcases h2'.2 with ⟨e1,e2⟩|⟨g,cap,cur,rfl,hbg,-⟩
   ·exact .inl (by rw[e1])
   ·exact .inr ⟨g,rfl,hbg⟩
 ·by_cases hroom:n+s.size<=cap
  ·have hcs':cur.size=cap:=by simpa using hcs
   have hr':=Lib.run_append_room_string (P:=P) w t u ty e i ht hu hi hsize g n cap cur hg s hroom (by omega);rw[hr] at hr';cases hr'
   exact .inl rfl
  ·have holds:∀j u,xs[j]? =some u->w.cell? ((⟨g,0,none⟩:Addr).add j)=some u:=hown.cells (g:=g) rfl
   have hr':=Lib.run_append_grow_string (P:=P) w t u ty e i (.int .u8 0) ht hu hi hz ⟨g,0,none⟩ n cap xs (by rw[hsize];simpa using hxl) holds s (by omega) (by omega) (by rw[hby];exact growslice_fits (by omega) (by omega));rw[hr] at hr';cases hr'
   exact .inr ⟨_,rfl,Nat.le_refl _⟩
theorem wpList_append_str_at {ops:Array Oper} {rest:List Oper} {o:Oper} {a:Act} {Q:Exit->Act->World->Prop} (hgd:o.guard=none) (sl x:Operand) (t u:TypeId) (ho:o.op=.call { callee:=.builtin .append,args:=#[sl,x],argTypes:=#[t,u] })
  (e:TypeId) (i:TypeInfo) (ht:P.underlying t=some (.slice e)) (hu:P.underlying u=some .string) (hi:P.info? e=some i) (hz:i.zero=some (.int .u8 0)) (hsize:i.size=1) (hby:i.bytes=1)
  (v:Value) (n:Nat) (xs:List Value) (hs:a.eval sl=v) (hown:w.ownsRow 0 e 1 v n xs) (s:ByteArray) (hx:a.eval x=.string s) (h63:n+s.size<=maxLen) (hbytes:n+s.size<=140737488355328)
  (h:∀v' w',w'.ownsRow 0 e 1 v' (n+s.size) (xs++Lib.strCells s)->w.grownBy w' v.ownBlock->(v'.ownBlock=v.ownBlock∨ ∃g,v'.ownBlock=some g/\w.heap.size<=g)->wpList P ops Q rest (a.put o.dst v') w'):wpList P ops Q (o::rest) a w:=by
 refine wpList_plain hgd fun K hK=>?_
 obtain⟨v',w',hr,h2,h3,h4⟩:=run_append_str_at (P:=P) w t u o.type e i ht hu hi hz hsize hby v n xs hown s h63 hbytes;unfold Oper.wp execOp;simp only[ho,resolve,invoke,builtin,Sem.run_bind,Sem.run_pure,Result.andThen_ok,List.map_toArray,List.map_cons,List.map_nil,hs,hx,hr];exact hK _ _ (h v' w' h2 h3 h4)
end
def Bs (w:World) (S:Nat->Prop) (b:Nat) (l:List UInt8):Prop :=
 ∃p v,(p=.pointer none∨p=.pointer (some ⟨b,0,none⟩))/\w.heap[b]? =some (.cells #[p,v] 88 (0,0))/\w.ownsRow 0 5 1 v l.length (bv l)/\v.ownBlock≠some b/\S b/\(∀g,v.ownBlock=some g->S g)/\ ∀k,S k->k<w.heap.size
theorem Bs.kept {w w':World} {S:Nat->Prop} {b:Nat} {l:List UInt8} (h:Bs w S b l) (hs:w.heap.size<=w'.heap.size) (hb:∀k,S k->w'.heap[k]? =w.heap[k]?):Bs w' S b l:=by
 obtain⟨p,v,h1,h2,h3,h4,h5,h6,h7⟩:=h;refine⟨p,v,h1,(hb b h5).trans h2,?_,h4,h5,h6,fun k hk=>Nat.lt_of_lt_of_le (h7 k hk) hs⟩;rcases h3 with ⟨q1,q2⟩
 refine⟨q1,?_⟩;rcases q2 with q2|⟨g,cap,cur,rfl,hg,hc,hr⟩
 ·exact .inl q2
 ·exact .inr ⟨g,cap,cur,rfl,hg,(hb g (h6 g rfl)).trans hc,hr⟩
theorem Bs.ext {w w':World} {S:Nat->Prop} {b:Nat} {l:List UInt8} (h:Bs w S b l) (hb:Below w.heap.size w w'):Bs w' S b l:=by
 have h7:∀k,S k->k<w.heap.size:=by
  obtain⟨p,v,h1,h2,h3,h4,h5,h6,h7⟩:=h;exact h7
 exact h.kept hb.size fun k hk=>hb.block k (h7 k hk)
theorem Bs.new (w:World):Bs (w.alloc (.cells #[.pointer none,.slice none 0 0] 88)) (fun k=>k=w.heap.size) w.heap.size [] :=
 ⟨_,_,.inl rfl,heap_alloc_new w _,World.ownsRow_nil _ _ _ _,by simp[Value.ownBlock],rfl,fun g hg=>(by cases hg),fun k hk=>(by subst hk;simp)⟩
theorem Bs.bb {w:World} {S:Nat->Prop} {b:Nat} {l:List UInt8} (h:Bs w S b l):Bb w 0 b l:=by
 obtain⟨p,v,h1,h2,h3,h4,-⟩:=h;rcases h1 with rfl|rfl
 ·exact .inl ⟨Nat.zero_le _,v,h2,by rw[bv_length];exact h3,h4⟩
 ·exact .inr ⟨Nat.zero_le _,v,h2,by rw[bv_length];exact h3,h4⟩
set_option maxHeartbeats 3200000 in
set_option maxRecDepth 100000 in
theorem write_gr (S:Nat->Prop) (b:Nat) (l:List UInt8) (s:ByteArray) (w:World) (h:Bs w S b l) (hl:l.length+s.size<=1099511627776) :
  Calls Tryz.prog 32 #[.pointer (some ⟨b,0,none⟩),.string s] w fun e w'=>e=.returned (.tuple #[.int .i64 s.size,.nilIface])/\ ∃S',Bs w' S' b (l++s.data.toList)/\Gr S w S' w':=by
 obtain⟨i0,hi,hz0,hz1,hz2⟩:=info_parts byte_info;have hbl:(bv l).length=l.length:=bv_length l;have HC:=Lib.hid (show Calls Tryz.prog 86 #[.pointer (some ⟨b,0,none⟩)] w fun e w1=>e=.returned (.tuple #[])/\ ∃v,w1.heap[b]? =some (.cells #[.pointer (some ⟨b,0,none⟩),v] 88 (0,0))/\w1.ownsRow 0 5 1 v l.length (bv l)/\v.ownBlock≠some b/\(∀g,v.ownBlock=some g->S g)/\Gr S w S w1 from by
  have hb:=h.bb;obtain⟨p,v,h1,h2,h3,h4,h5,h6,h7⟩:=h;have hlt:b<w.heap.size:=(Array.getElem?_eq_some_iff.1 h2).1;rcases h1 with rfl|rfl
  ·rcases hb with hb|hb
   ·refine(copyCheck_fresh b w hb.cell0 hb.shape hb.frozen0).mono ?_
    rintro e w' ⟨rfl,rfl⟩;refine⟨rfl,v,?_,?_,h4,h6,Gr.setCell h5 0 _⟩
    ·simp[World.setCell,Array.getElem?_modify,h2]
    ·rcases h3 with ⟨q1,q2⟩
     refine⟨q1,?_⟩;rcases q2 with q2|⟨g,cap,cur,rfl,hg,hc,hr⟩
     ·exact .inl q2
     ·exact .inr ⟨g,cap,cur,rfl,hg,(Below.heap_setCell w ⟨b,0,none⟩ _ g (by rintro rfl;exact h4 rfl)).trans hc,hr⟩
   ·have:=hb.cell0
    have c0:w.cell? ⟨b,0,none⟩=some (.pointer none):=by rw[Lib.cell_of_heap h2];rfl
    rw[c0] at this;cases this
  ·have c0:w.cell? ⟨b,0,none⟩=some (.pointer (some ⟨b,0,none⟩)):=by rw[Lib.cell_of_heap h2];rfl
   refine(copyCheck_used b w c0).mono ?_;rintro e w' ⟨rfl,rfl⟩;exact⟨rfl,v,h2,h3,h4,h6,Gr.refl _ _⟩)
 have HB:=Lib.hid (show S b/\ ∀k,S k->k<w.heap.size from by
  obtain⟨p,v,h1,h2,h3,h4,h5,h6,h7⟩:=h;exact⟨h5,h7⟩)
 clear h
 go_enter Tryz.func32, Tryz.ntmps32
 go_wp2_with fail
 refine HC.out.mono ?_;rintro e w1 ⟨rfl,v,hbk,hown,hne,hsv,hg1⟩;have c0:w1.cell? ⟨b,0,none⟩=some (.pointer (some ⟨b,0,none⟩)):=by rw[Lib.cell_of_heap hbk];rfl
 have c1:w1.cell? ⟨b,1,none⟩=some v:=by rw[Lib.cell_of_heap hbk];rfl
 clear HC;go_wp2_with (at_builtin;refine wpList_append_str_at _ rfl _ _ 86 9 rfl 5 i0 (by kernel_rfl) (by kernel_rfl) hi hz0 hz1 hz2 _ _ _ rfl hown s rfl ?c3 ?c4 ?_)
 case c3=>unfold maxLen;omega
 case c4=>omega
 intro v' w2 hown' hgrow hat;have hlt:b<w1.heap.size:=by
  rcases Nat.lt_or_ge b w1.heap.size with h'|h'
  ·exact h'
  ·simp[Array.getElem?_eq_none h'] at hbk
 have hb2:w2.heap[b]? =some (.cells #[.pointer (some ⟨b,0,none⟩),v] 88 (0,0)):=by
  rw[hgrow.block b hlt (fun e=>hne e.symm)];exact hbk
 have d0:w2.cell? ⟨b,0,none⟩=some (.pointer (some ⟨b,0,none⟩)):=by rw[Lib.cell_of_heap hb2];rfl
 have d1:w2.cell? ⟨b,1,none⟩=some v:=by rw[Lib.cell_of_heap hb2];rfl
 have f1:w2.frozen? ⟨b,1,none⟩=false:=Lib.frozen_of_heap hb2 1;obtain⟨ao,n',cap,rfl⟩:∃ao n' cap,v'=.slice ao n' cap:=by
  rcases hown'.2 with ⟨hv,_⟩|⟨g,cap,cur,hv,_⟩
  ·exact⟨_,_,_,hv⟩
  ·exact⟨_,_,_,hv⟩
 have HX:=Lib.hid (show ∃S',Bs (w2.setCell ⟨b,1,none⟩ (.slice ao n' cap)) S' b (l++s.data.toList)/\Gr S w S' (w2.setCell ⟨b,1,none⟩ (.slice ao n' cap)) from by
  have hs2:w1.heap.size<=w2.heap.size:=hgrow.size;have hg2:Gr S w1 S w2:=Gr.of_grown hgrow hsv;have hne2:(Value.slice ao n' cap).ownBlock≠some b:=by
   rcases hat with e|⟨g,e,hg⟩
   ·rw[e];exact hne
   ·rw[e];intro e2;cases e2;omega
  have hblt:∀g,(Value.slice ao n' cap).ownBlock=some g->g<w2.heap.size:=by
   intro g hg;rcases hown'.2 with ⟨hv,_⟩|⟨g',cap',cur,hv,-,hc,-⟩
   ·rw[hv] at hg;cases hg
   ·rw[hv] at hg
    have:g'=g:=by simpa[Value.ownBlock] using hg
    subst this;exact(Array.getElem?_eq_some_iff.1 hc).1
  refine⟨fun k=>S k∨(Value.slice ao n' cap).ownBlock=some k,⟨_,_,.inr rfl,?_,?_,hne2,.inl HB.out.1,fun g hg=>.inr hg,?_⟩,?_⟩
  ·simp[World.setCell,Array.getElem?_modify,hb2]
  ·rw[List.length_append,bv_append,<-strCells_eq,show s.data.toList.length=s.size from rfl]
   rcases hown' with ⟨q1,q2⟩
   refine⟨q1,?_⟩;rcases q2 with q2|⟨g,cap',cur,hv,hg,hc,hr⟩
   ·exact .inl q2
   ·exact .inr ⟨g,cap',cur,hv,hg,(Below.heap_setCell w2 ⟨b,1,none⟩ _ g (by rintro rfl;exact hne2 (by rw[hv];rfl))).trans hc,hr⟩
  ·rintro k (hk|hk)
   ·have:=HB.out.2 k hk
    have:=hg1.size;simp;omega
   ·have:=hblt k hk
    simp;omega
  ·refine((hg1.trans hg2).trans (Gr.setCell HB.out.1 1 _)).more ?_
   rintro k (hk|hk)
   ·exact .inl hk
   ·rcases hat with e|⟨g,e,hg⟩
    ·rw[e] at hk
     exact .inl (hsv k hk)
    ·rw[e] at hk
     cases hk
     have:=hg1.size;exact .inr (by omega))
 clear hown hown' hgrow hg1 hbk hb2 hne hlt hsv hat;go_wp2_with fail
 go_ret2
 exact⟨rfl,HX.out⟩
theorem gr_freeze {S:Nat->Prop} {w:World} {g:Nat} (hg:S g) (n:Nat):Gr S w S (w.drew.freeze ⟨g,0,none⟩ n):=by
 unfold World.freeze;split
 ·exact⟨rfl,rfl,rfl,Nat.le_refl _,fun _ _ _=>rfl,fun _ h=>.inl h⟩
 ·refine⟨rfl,rfl,rfl,by simp,fun k _ hk=>?_,fun _ h=>.inl h⟩
  show(w.heap.modify g _)[k]? =_
  rw[Array.getElem?_modify,if_neg (by rintro rfl;exact hk hg)]
set_option maxHeartbeats 2000000 in
set_option maxRecDepth 100000 in
theorem string_gr (S:Nat->Prop) (b:Nat) (l:List UInt8) (w:World) (h:Bs w S b l) (h0:l≠ []) :
  Calls Tryz.prog 33 #[.pointer (some ⟨b,0,none⟩)] w fun e w'=>e=.returned (.string ⟨l.toArray⟩)/\Gr S w S w':=by
 obtain⟨p,v,-,hbk,hown,-,-,hsv,-⟩:=h;have hl0:l.length≠0:=by simpa using h0
 obtain⟨g,cap,cur,rfl,hbg,hg,hnc,hcm,hcs,htake⟩:∃g cap cur,v=.slice (some ⟨g,0,none⟩) l.length cap/\0<=g/\w.heap[g]? =some (.cells cur 5 (0,0))/\l.length<=cap/\cap<=maxLen/\cur.size=cap*1/\cur.toList.take (l.length*1)=bv l:=by
  rcases hown.2 with ⟨_,hz⟩|⟨g,cap,cur,hv,r⟩
  ·exact absurd hz hl0
  ·exact⟨g,cap,cur,hv,r⟩
 have c1:w.drew.cell? ⟨b,1,none⟩=some (.slice (some ⟨g,0,none⟩) l.length cap):=by
  have:w.drew.heap[b]? =some (.cells #[p,.slice (some ⟨g,0,none⟩) l.length cap] 88 (0,0)):=hbk;rw[Lib.cell_of_heap this];rfl
 have hSD:(Builtin.unsafeSliceData_ #[86] 174 #[.slice (some ⟨g,0,none⟩) l.length cap]).run Tryz.prog w.drew=.ok (.pointer (some ⟨g,0,none⟩)) w.drew :=
  Lib.run_unsafeSliceData_row _ _ _ _ _ _ (by omega)
 have hUS:(Builtin.unsafeString_ #[174,3] 9 #[.pointer (some ⟨g,0,none⟩),.int .i64 l.length]).run Tryz.prog w.drew=.ok (.string ⟨l.toArray⟩) (w.drew.freeze ⟨g,0,none⟩ l.length):=by
  refine Lib.run_unsafeString_row w.drew 174 3 9 5 Tryz.underlying174 (by kernel_rfl) g cur.size (by have hg':w.drew.heap[g]? =some (.cells cur 5 (0,0)):=hg;simp[World.shape?,hg']) l h0 (by omega) (by unfold maxLen at hcm;omega) ?_;intro j x hx;have:=hown.cells (g:=g) rfl j (.int .u8 x.toNat) (by simp[bv,hx]);exact this
 have mixed:Tryz.prog.follows .mixedOrders=true:=by kernel_rfl
 have HS:=Lib.hid (hsv g rfl);clear hown hg hnc hcm hcs htake hbk hsv hbg
 go_enter Tryz.func33, Tryz.ntmps33
 go_wp2_with fail
 go_region
 all_goals (go_wp2_with fail;go_ret;exact⟨rfl,gr_freeze HS.out _⟩)
end Bd
end Go.Proofs.YtejcdhdfanfkbaaGreat
namespace Go.Proofs.YtejcdhdfanfkbaaGreat
namespace Fo
open Go.RowKit Rd Dk Vi Bd
theorem fput_any (S:Nat->Prop) (b:Nat) (l:List UInt8) (n:Nat) (w:World) (h:Bs w S b l) (hl:l.length<=1000000000) (hn:n<9223372036854775808) :
  Calls Tryz.prog 31 #[.pointer (some ⟨b,0,none⟩),.int .i64 (n:Int)] w fun e w'=>e=.returned (.tuple #[])/\ ∃S',Bs w' S' b (l++putV n)/\Gr S w S' w':=by
 have hp:=length_putV_le n 8 (by omega);have HP:=Lib.hid (put_any n w hn);have HW:=Lib.hid (fun(wx:World) (hx:Below w.heap.size w wx)=>write_gr S b l (vtxt n) wx (h.ext hx) (by show l.length+(putV n).length<=_;omega));clear h
 go_enter Tryz.func31, Tryz.ntmps31
 go_wp2_with (first
  |(go_at_call 85;refine HP.out.mono ?_;rintro e1 w1 ⟨rfl,hb1⟩;have HB1:=Lib.hid hb1;clear hb1)
  |(go_at_call 32;refine(HW.out _ HB1.out).mono ?_;rintro e2 w2 ⟨rfl,S2,hs2,hg2⟩;have HF:=Lib.hid (And.intro hs2 ((Gr.of_below HB1.out).trans hg2));clear hs2 hg2))
 go_end0
 exact⟨rfl,S2,HF.out⟩
def encE (l:List Pl):Ending:=.returned (.tuple #[.string (if chkP l=0 then⟨(pL l).toArray⟩ else⟨#[]⟩),.int .i64 (chkP l)])
theorem chk_cases (l:List Pl):chkP l=0∨chkP l=180:=by
 unfold chkP;split
 ·exact .inl rfl
 ·exact .inr rfl
theorem pB1_len {p:Pl} (h:okP p=true):(pB1 p).length<=100:=by
 obtain⟨h1,h2,h3⟩:=(okP_iff p).1 h;have hl:=check_len h1;have e:(bl p).length=p.s.size:=rfl;have a:=length_putV_le p.s.size 8 (by omega);have b:=length_putV_le p.n.toNat 8 (by omega);unfold pB1;rw[List.length_append,List.length_append];omega
theorem flat_pB1:∀(l:List Pl),(∀p∈l,okP p=true)->(l.flatMap pB1).length<=l.length*100
 | [],_=>by simp
 |p::l,h=>by
  have h1:=pB1_len (h p (List.mem_cons_self ..));have h2:=flat_pB1 l fun q hq=>h q (List.mem_cons_of_mem _ hq)
  rw[List.flatMap_cons,List.length_append,List.length_cons];omega
theorem flat_snoc {l:List Pl} {k:Nat} {p:Pl} (h:l[k]? =some p):(l.take (k+1)).flatMap pB1=(l.take k).flatMap pB1++pB1 p:=by
 rw[List.take_add_one,h,List.flatMap_append];simp
set_option maxHeartbeats 6400000 in
set_option maxRecDepth 100000 in
theorem fenc_any (A:Option Addr) (n c:Nat) (l:List Pl) (w:World) (hrd:Rd w w.heap.size 2 A n (flS l)) (hn:n<=1000000) :
  Calls Tryz.prog 8 #[.slice A n c] w fun e w'=>e=encE l/\Below w.heap.size w w':=by
 have mixed:Tryz.prog.follows .mixedOrders=true:=by kernel_rfl
 have hln:=rdS_len hrd;have HCK:=fcheck_any A n c l w hrd hn;rcases chk_cases l with hc|hc
 rotate_left
 ·have HE:=Lib.hid (show encE l=.returned (.tuple #[.string ⟨#[]⟩,.int .i64 180]) from by unfold encE;rw[hc,if_neg (by omega)])
  rw[hc] at HCK;replace HCK:=Lib.hid HCK;clear hrd hn hln hc
  go_enter Tryz.func8, Tryz.ntmps8
  go_wp2_with (go_at_call 15;refine HCK.out.mono ?_;rintro e1 w1 ⟨rfl,hb1⟩;have HB1:=Lib.hid hb1;clear hb1)
  go_ret2
  exact⟨by rw[HE.out];rfl,HB1.out⟩
 ·have hk:l.length<=50/\rowP none l=true:=by
   unfold chkP at hc;split at hc
   ·assumption
   ·cases hc
  have HE:=Lib.hid (show encE l=.returned (.tuple #[.string ⟨(pL l).toArray⟩,.int .i64 0]) from by unfold encE;rw[hc,if_pos rfl]);rw[hc] at HCK;replace HCK:=Lib.hid HCK;have HOK:=Lib.hid (rowP_ok hk.2);have HR:=Lib.hid hrd;have HLN:=Lib.hid hln;have hn50:n<=50:=by omega
  have HPL:=Lib.hid (show pL l=putV n++l.flatMap pB1 from by unfold pL;rw[hln]);have hpn:=length_putV_le n 8 (by omega);have HPN:=Lib.hid hpn;clear hrd hn hln hc hk hpn
  go_enter Tryz.func8, Tryz.ntmps8
  go_upto_region 5 with (go_at_call 15;refine HCK.out.mono ?_;rintro e1 w1 ⟨rfl,hb1⟩;have HB1:=Lib.hid hb1;clear hb1)
  have HS2:=Lib.hid (Bs.new w1);have HB2:=Lib.hid (HB1.out.trans ((ext_alloc w1 (.cells #[.pointer none,.slice none 0 0] 88)).mono HB1.out.size));have HL1:=Lib.hid HB1.out.size;clear HB1 HCK;generalize w1.alloc (.cells #[.pointer none,.slice none 0 0] 88)=w2 at *
  generalize w1.heap.size=bb at *
  have HG2:=Lib.hid (Gr.refl (fun k=>k=bb) w2);have HP0:=Lib.hid (fput_any _ bb [] n w2 HS2.out (by simp) (by omega));go_wp2_with (go_at_call 31;refine HP0.out.mono ?_;rintro e3 w3 ⟨rfl,S3,hs3,hg3⟩;have HS3:=Lib.hid hs3;have HG3:=Lib.hid hg3;clear hs3 hg3)
  go_loopw [18] (fun v wr=>∃k:Nat,v=.int .i64 k/\k<=n/\Hid (∃S4,Bs wr S4 bb (putV n++(l.take k).flatMap pB1)/\Gr (fun k=>k=bb) w2 S4 wr)) (fun v _=>n-(intOf v).toNat)
  case atStart=>exact⟨0,by go_num,by omega,Lib.hid ⟨S3,by have:=HS3.out;simpa using this,HG3.out⟩⟩
  case round =>
   obtain⟨k,rfl,hk,HX⟩:=hrel;obtain⟨S4,hs4,hg4⟩:=HX.out;have hbW:Below w.heap.size w wr:=HB2.out.trans (hg4.below HB2.out.size (fun k hk=>by rw[hk];exact HL1.out));by_cases hkn:k<n
   ·obtain⟨ad,p,hA,hbk,hx,e0,ej⟩:=sl_at (HR.out.below hbW) hkn
    have hok:=HOK.out p (List.mem_of_getElem? hx);obtain⟨h1,h2,h3⟩:=(okP_iff p).1 hok;have hcl:=check_len h1;obtain⟨N,hN⟩:∃N:Nat,p.n=(N:Int):=⟨p.n.toNat,by omega⟩
    have hNb:N<=1000000001:=by omega
    have hsz:(bl p).length=p.s.size:=rfl;have HSN:=Lib.hid (flat_snoc hx);have hLL:(putV n++(l.take k).flatMap pB1).length<=10000:=by
     have a:=flat_pB1 (l.take k) fun q hq=>HOK.out q (List.mem_of_mem_take hq)
     have:=HPN.out;rw[List.length_append];rw[List.length_take] at a;omega
    have hPB:=Lib.hid (show pB1 p=putV p.s.size++(bl p++putV N) from by unfold pB1;rw[hN,Int.toNat_natCast]);have hps:=length_putV_le p.s.size 8 (by omega);generalize hLe:putV n++(l.take k).flatMap pB1=L at *
    have HLE:=Lib.hid hLe;have c0:wr.cell? (ad.add (k*2))=some (.string p.s):=e0;have c1:wr.cell? ⟨(ad.add (k*2)).block,(ad.add (k*2)).off+1,none⟩=some (.int .i64 (N:Int)):=(ej 0 (by decide)).trans (by show some (Value.int .i64 p.n)=_;rw[hN]);have HBW:=Lib.hid (And.intro hbW (And.intro hs4 hg4));have hki:(k:Int)<(n:Int):=by omega
    have i3:IntKind.i64.wrap ((k:Int)+1)=((k+1:Nat):Int):=by rw[IntKind.wrap_i64];omega
    subst hA;clear hx HX hbk e0 ej hLe hs4 hg4 hbW hok h1 h2 hN h3;generalize hS:p.s=s at *
    have HSS:=Lib.hid (show bl p=s.data.toList from by rw[<-hS];rfl);clear hS;go_upto_region 9 with fail
    have HS5:=Lib.hid (HBW.out.2.1.ext (ext_alloc wr (.cells #[.string s,.int .i64 (N:Int)] 82)));have HG5:=Lib.hid (HBW.out.2.2.trans (Gr.of_below (ext_alloc wr (.cells #[.string s,.int .i64 (N:Int)] 82))));have HX5:=Lib.hid (Blk.new wr #[.string s,.int .i64 (N:Int)] 82);have HQ5:=Lib.hid (show ¬ S4 wr.heap.size from fun h=>by
     obtain⟨p,v,-,-,-,-,-,-,h7⟩:=HBW.out.2.1;exact absurd (h7 _ h) (Nat.lt_irrefl _))
    clear c0 c1;generalize wr.alloc (.cells #[.string s,.int .i64 (N:Int)] 82)=w5 at *
    generalize wr.heap.size=bx at *
    have x0:=HX5.out.cell 0 (v:=.string s) rfl;go_upto_region 10 with (go_at_call 31;refine(fput_any S4 bb L s.size w5 HS5.out (by omega) (by omega)).mono ?_;rintro e6 w6 ⟨rfl,S6,hs6,hg6⟩;have HS6:=Lib.hid hs6;have HG6:=Lib.hid (HG5.out.trans hg6);have HX6:=Lib.hid (hg6.blk HX5.out HQ5.out);have HQ6:=Lib.hid (hg6.out HX5.out.lt HQ5.out);clear hs6 hg6 x0)
    have x0:=HX6.out.cell 0 (v:=.string s) rfl;go_upto_region 11 with (go_at_call 32;refine(write_gr S6 bb (L++putV s.size) s w6 HS6.out (by rw[List.length_append];omega)).mono ?_;rintro e7 w7 ⟨rfl,S7,hs7,hg7⟩;have HS7:=Lib.hid hs7;have HG7:=Lib.hid (HG6.out.trans hg7);have HX7:=Lib.hid (hg7.blk HX6.out HQ6.out);clear hs7 hg7 x0)
    have x1:=HX7.out.cell 1 (v:=.int .i64 (N:Int)) rfl;go_wp2_with (go_at_call 31;refine(fput_any S7 bb (L++putV s.size++s.data.toList) N w7 HS7.out (by rw[List.length_append,List.length_append];have h9:=hcl;rw[HSS.out] at h9;omega) (by omega)).mono ?_;rintro e8 w8 ⟨rfl,S8,hs8,hg8⟩;have HS8:=Lib.hid hs8;have HG8:=Lib.hid (HG7.out.trans hg8);clear hs8 hg8 x1)
    go_roundw
    ·refine⟨k+1,by first|rfl|rw[i3],by omega,Lib.hid ⟨S8,?_,HG8.out⟩⟩
     have:=HS8.out;rw[HSN.out,<-List.append_assoc,HLE.out,hPB.out,HSS.out];simpa only[List.append_assoc] using this
    ·first|(rw[i3];simp[intOf];omega)|(simp[intOf];omega)
   ·obtain rfl:k=n:=by omega
    rw[List.take_of_length_le (by rw[HLN.out];omega),<-HPL.out] at hs4;have HS4:=Lib.hid hs4;have HBW:=Lib.hid hbW;have hne:pL l≠ []:=by
     rw[HPL.out];intro h;have:=congrArg List.length h;have h2:=length_putV_pos k;rw[List.length_append,List.length_nil] at this;omega
    have HST:=Lib.hid (string_gr S4 bb (pL l) wr hs4 hne);have HS4K:=Lib.hid (show ∀k,S4 k->w.heap.size<=k from hg4.ge (B:=w.heap.size) HB2.out.size fun k hk=>by rw[hk];exact HL1.out);clear HX hs4 hg4 hbW hne;go_wp2_with (go_at_call 33;refine HST.out.mono ?_;rintro e5 w5 ⟨rfl,hg5⟩;have HG5:=Lib.hid hg5;clear hg5)
    go_ret2
    exact⟨by rw[HE.out];rfl,HBW.out.trans (HG5.out.below HBW.out.size HS4K.out)⟩
end Fo
end Go.Proofs.YtejcdhdfanfkbaaGreat
