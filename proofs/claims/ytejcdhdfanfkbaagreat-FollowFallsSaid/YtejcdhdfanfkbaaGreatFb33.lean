/- open.log: timed. A struct of one embedded struct, built and stored whole. Over any program. open.Check. -/
import Derived.Test.YtejcdhdfanfkbaaGreatFb31
import Derived.Deep.LoopGhost
import Derived.Test.YtejcdhdfanfkbaaGreatFb07
import Derived.Test.YtejcdhdfanfkbaaGreatFb32
namespace Go.Proofs.YtejcdhdfanfkbaaGreat
namespace Op
open Go.RowKit Hd Rd Vi Dk
theorem timeM_app:∀(a b:List Mi) (t:Int),timeM t (a++b)=match timeM t a with|none=>none|some u=>timeM u b
 | [],b,t=>rfl
 |m::a,b,t=>by
  rw[List.cons_append,timeM,timeM];split
  ·rfl
  ·exact timeM_app a b m.l
theorem timeR_app:∀(a b:List Rc) (t:Int),timeR t (a++b)=match timeR t a with|none=>none|some u=>timeR u b
 | [],b,t=>rfl
 |m::a,b,t=>by
  rw[List.cons_append,timeR,timeR];split
  ·rfl
  ·exact timeR_app a b m.2.1
theorem timeM_go {l:List Mi} {k:Nat} {m:Mi} {t u:Int} (h:timeM t (l.take k)=some u) (hx:l[k]? =some m) (hm: ¬ m.e<u):timeM t (l.take (k+1))=some m.l:=by
 rw[List.take_add_one,hx,timeM_app,h];show timeM u [m]=_
 rw[timeM,if_neg hm];rfl
theorem timeM_no {l:List Mi} {k:Nat} {m:Mi} {t u:Int} (h:timeM t (l.take k)=some u) (hx:l[k]? =some m) (hm:m.e<u):timeM t l=none:=by
 have e:l=l.take k++(m::l.drop (k+1)):=by rw[<-drop_atG l k m hx,List.take_append_drop]
 rw[e,timeM_app,h];show timeM u (m::_)=_
 rw[timeM,if_pos hm]
theorem timeR_go {l:List Rc} {k:Nat} {m:Rc} {t u:Int} (h:timeR t (l.take k)=some u) (hx:l[k]? =some m) (hm: ¬ m.2.1<u):timeR t (l.take (k+1))=some m.2.1:=by
 rw[List.take_add_one,hx,timeR_app,h];show timeR u [m]=_
 rw[timeR,if_neg hm];rfl
theorem timeR_no {l:List Rc} {k:Nat} {m:Rc} {t u:Int} (h:timeR t (l.take k)=some u) (hx:l[k]? =some m) (hm:m.2.1<u):timeR t l=none:=by
 have e:l=l.take k++(m::l.drop (k+1)):=by rw[<-drop_atG l k m hx,List.take_append_drop]
 rw[e,timeR_app,h];show timeR u (m::_)=_
 rw[timeR,if_pos hm]
theorem lateE_take {l:List En} {k:Nat} {m:En} (hx:l[k]? =some m):lateE (l.take (k+1))=max (lateE (l.take k)) m.l:=by
 unfold lateE;rw[List.take_add_one,hx,List.foldl_append];rfl
set_option maxHeartbeats 6400000 in
set_option maxRecDepth 100000 in
theorem timed_any (s:St) (x y z:Sl) (w:World) (h:Str w w.heap.size s x y z) (hx1:x.n<=1000000) (hy1:y.n<=1000000) (hz1:z.n<=1000000) :
  Calls Tryz.prog 133 #[sagg s x y z] w fun e w'=>e=.returned (.bool (timedB s))/\Below w.heap.size w w':=by
 have HT:=Lib.hid (show timedB s=match timeM (lateE s.mf.es) s.bs with|none=>false|some t=>match timeR t s.wt with|none=>false|some t=>decide (t<=s.nw/\s.mf.t<=s.nw/\s.nw<=1000000000) from rfl);have l1:=rdS_len h.es;have l2:=rdS_len h.bs;have l3:=rdS_len h.wt;have H1:=Lib.hid h.es;have H2:=Lib.hid h.bs;have H3:=Lib.hid h.wt;generalize timedB s=R at *
 obtain⟨⟨cb,ct,cs,ca,ck,cy,co⟩,⟨mg,mx,mt,mf,es⟩,bs,sz,nx,nw,wt,rd⟩:=s;obtain⟨A1,n1,c1⟩:=x;obtain⟨A2,n2,c2⟩:=y;obtain⟨A3,n3,c3⟩:=z;unfold sagg stc Sl.v;dsimp only at *
 have HL:=Lib.hid (And.intro l1 (And.intro l2 l3));have HK:=Lib.hid (Blk.new w #[.int .i64 cb,.int .i64 ct,.int .i64 cs,.int .i64 ca,.int .i64 ck,.int .i64 cy,.int .i64 co,.int .i64 mg,.int .i64 mx,.int .i64 mt,.int .i64 mf,.slice A1 n1 c1,.slice A2 n2 c2,.int .i64 sz,.int .i64 nx,.int .i64 nw,.slice A3 n3 c3,.bool rd] 146);have HB:=Lib.hid (ext_alloc w (.cells #[.int .i64 cb,.int .i64 ct,.int .i64 cs,.int .i64 ca,.int .i64 ck,.int .i64 cy,.int .i64 co,.int .i64 mg,.int .i64 mx,.int .i64 mt,.int .i64 mf,.slice A1 n1 c1,.slice A2 n2 c2,.int .i64 sz,.int .i64 nx,.int .i64 nw,.slice A3 n3 c3,.bool rd] 146));clear h l1 l2 l3
 go_enter Tryz.func133, Tryz.ntmps133
 go_wp2_with fail
 generalize w.alloc (.cells #[.int .i64 cb,.int .i64 ct,.int .i64 cs,.int .i64 ca,.int .i64 ck,.int .i64 cy,.int .i64 co,.int .i64 mg,.int .i64 mx,.int .i64 mt,.int .i64 mf,.slice A1 n1 c1,.slice A2 n2 c2,.int .i64 sz,.int .i64 nx,.int .i64 nw,.slice A3 n3 c3,.bool rd] 146)=w0 at *
 go_loopw [3,15] (fun t v wr=>∃(k:Nat) (u:Int),v=.int .i64 (k:Int)/\t=.int .i64 u/\k<=n1/\Hid (lateE (es.take k)=u/\Below w.heap.size w wr/\Blk wr w.heap.size #[.int .i64 cb,.int .i64 ct,.int .i64 cs,.int .i64 ca,.int .i64 ck,.int .i64 cy,.int .i64 co,.int .i64 mg,.int .i64 mx,.int .i64 mt,.int .i64 mf,.slice A1 n1 c1,.slice A2 n2 c2,.int .i64 sz,.int .i64 nx,.int .i64 nw,.slice A3 n3 c3,.bool rd] 146)) (fun _ v _=>n1-(intOf v).toNat)
 case atStart=>exact⟨0,0,by go_num,by go_num,by omega,Lib.hid ⟨rfl,HB.out,HK.out⟩⟩
 case round =>
  clear HB HK;obtain⟨k,u,rfl,rfl,hk,HX⟩:=hrel;by_cases hkn:k<n1
  ·obtain⟨ad,m,rfl,hbk,hx,e0,ej⟩:=sl_at (H1.out.below HX.out.2.1) hkn
   have c0:wr.cell? (ad.add (k*9))=some (.int .i64 m.i):=e0;have c1:wr.cell? ⟨(ad.add (k*9)).block,(ad.add (k*9)).off+1,none⟩=some (.int .i64 m.g):=ej 0 (by decide);have c2:wr.cell? ⟨(ad.add (k*9)).block,(ad.add (k*9)).off+2,none⟩=some (.int .i64 m.f):=ej 1 (by decide);have c3:wr.cell? ⟨(ad.add (k*9)).block,(ad.add (k*9)).off+3,none⟩=some (.bool m.z):=ej 2 (by decide);have c4:wr.cell? ⟨(ad.add (k*9)).block,(ad.add (k*9)).off+4,none⟩=some (.int .i64 m.c):=ej 3 (by decide);have c5:wr.cell? ⟨(ad.add (k*9)).block,(ad.add (k*9)).off+5,none⟩=some (.int .i64 m.b):=ej 4 (by decide);have c6:wr.cell? ⟨(ad.add (k*9)).block,(ad.add (k*9)).off+6,none⟩=some (.int .i64 m.e):=ej 5 (by decide);have c7:wr.cell? ⟨(ad.add (k*9)).block,(ad.add (k*9)).off+7,none⟩=some (.int .i64 m.l):=ej 6 (by decide);have c8:wr.cell? ⟨(ad.add (k*9)).block,(ad.add (k*9)).off+8,none⟩=some (.int .i64 m.n):=ej 7 (by decide);have HN:=Lib.hid ((lateE_take hx).trans (by rw[HX.out.1]));have HB:=Lib.hid (HX.out.2.1.trans ((ext_alloc wr (.cells #[.int .i64 m.i,.int .i64 m.g,.int .i64 m.f,.bool m.z,.int .i64 m.c,.int .i64 m.b,.int .i64 m.e,.int .i64 m.l,.int .i64 m.n] 217)).mono HX.out.2.1.size));have HK:=Lib.hid (HX.out.2.2.alloc (.cells #[.int .i64 m.i,.int .i64 m.g,.int .i64 m.f,.bool m.z,.int .i64 m.c,.int .i64 m.b,.int .i64 m.e,.int .i64 m.l,.int .i64 m.n] 217));obtain⟨mi,mg',mf',mz,mc,mb,me,ml,mn⟩:=m;dsimp only at *
   clear e0 ej hx hbk HX;go_wp2_with fail
   all_goals
    go_roundw
    case rel=>exact⟨k+1,max u ml,by go_num,by go_num,by omega,Lib.hid ⟨HN.out,HB.out,HK.out⟩⟩
    case measure=>simp[intOf];omega
  ·obtain rfl:n1=k:=by omega
   have HT:=Lib.hid (show R=match timeM u bs with|none=>false|some t=>match timeR t wt with|none=>false|some t=>decide (t<=nw/\mt<=nw/\nw<=1000000000) from by
    rw[HT.out,<-HX.out.1,List.take_of_length_le (by rw[HL.out.1];exact Nat.le_refl _)])
   have HB:=Lib.hid HX.out.2.1;have HK:=Lib.hid HX.out.2.2;clear HX;have k12:=HK.out.cell 12 (v:=.slice A2 n2 c2) rfl;go_wp2_with fail
   clear k12;go_loopw [3,28] (fun t v wr=>∃(k:Nat) (u':Int),v=.int .i64 (k:Int)/\t=.int .i64 u'/\k<=n2/\Hid (timeM u (bs.take k)=some u'/\Below w.heap.size w wr/\Blk wr w.heap.size #[.int .i64 cb,.int .i64 ct,.int .i64 cs,.int .i64 ca,.int .i64 ck,.int .i64 cy,.int .i64 co,.int .i64 mg,.int .i64 mx,.int .i64 mt,.int .i64 mf,.slice A1 n1 c1,.slice A2 n2 c2,.int .i64 sz,.int .i64 nx,.int .i64 nw,.slice A3 n3 c3,.bool rd] 146)) (fun _ v _=>n2-(intOf v).toNat)
   case atStart=>exact⟨0,u,by go_num,by go_num,by omega,Lib.hid ⟨rfl,HB.out,HK.out⟩⟩
   case round =>
    clear HB HK hk hkn;obtain⟨k,u',rfl,rfl,hk,HX⟩:=hrel;by_cases hkn:k<n2
    ·obtain⟨ad,m,rfl,hbk,hx,e0,ej⟩:=sl_at (H2.out.below HX.out.2.1) hkn
     have c0:wr.cell? (ad.add (k*7))=some (.int .i64 m.a):=e0;have c1:wr.cell? ⟨(ad.add (k*7)).block,(ad.add (k*7)).off+1,none⟩=some (.int .i64 m.s):=ej 0 (by decide);have c2:wr.cell? ⟨(ad.add (k*7)).block,(ad.add (k*7)).off+2,none⟩=some (.int .i64 m.r):=ej 1 (by decide);have c3:wr.cell? ⟨(ad.add (k*7)).block,(ad.add (k*7)).off+3,none⟩=some (.int .i64 m.c):=ej 2 (by decide);have c4:wr.cell? ⟨(ad.add (k*7)).block,(ad.add (k*7)).off+4,none⟩=some (.int .i64 m.f):=ej 3 (by decide);have c5:wr.cell? ⟨(ad.add (k*7)).block,(ad.add (k*7)).off+5,none⟩=some (.int .i64 m.e):=ej 4 (by decide);have c6:wr.cell? ⟨(ad.add (k*7)).block,(ad.add (k*7)).off+6,none⟩=some (.int .i64 m.l):=ej 5 (by decide);have HB:=Lib.hid (HX.out.2.1.trans ((ext_alloc wr (.cells #[.int .i64 m.a,.int .i64 m.s,.int .i64 m.r,.int .i64 m.c,.int .i64 m.f,.int .i64 m.e,.int .i64 m.l] 154)).mono HX.out.2.1.size));have HK:=Lib.hid (HX.out.2.2.alloc (.cells #[.int .i64 m.a,.int .i64 m.s,.int .i64 m.r,.int .i64 m.c,.int .i64 m.f,.int .i64 m.e,.int .i64 m.l] 154));by_cases hlt:m.e<u'
     ·have HN:=Lib.hid (show R=false from by rw[HT.out,timeM_no HX.out.1 hx hlt])
      obtain⟨ma,ms,mr,mc,mff,me,ml⟩:=m;dsimp only at *
      clear e0 ej hx hbk HX;go_wp2_with fail
      go_ret
      exact⟨by rw[HN.out];rfl,HB.out⟩
     ·have HN:=Lib.hid (timeM_go HX.out.1 hx hlt)
      obtain⟨ma,ms,mr,mc,mff,me,ml⟩:=m;dsimp only at *
      clear e0 ej hx hbk HX;go_wp2_with fail
      go_roundw
      case rel=>exact⟨k+1,ml,by go_num,by go_num,by omega,Lib.hid ⟨HN.out,HB.out,HK.out⟩⟩
      case measure=>simp[intOf];omega
    ·obtain rfl:n2=k:=by omega
     have HT:=Lib.hid (show R=match timeR u' wt with|none=>false|some t=>decide (t<=nw/\mt<=nw/\nw<=1000000000) from by
      have:=HX.out.1;rw[List.take_of_length_le (by rw[HL.out.2.1];exact Nat.le_refl _)] at this;rw[HT.out,this])
     have HB:=Lib.hid HX.out.2.1;have HK:=Lib.hid HX.out.2.2;clear HX;have k16:=HK.out.cell 16 (v:=.slice A3 n3 c3) rfl;go_wp2_with fail
     clear k16;go_loopw [3,43] (fun t v wr=>∃(k:Nat) (v':Int),v=.int .i64 (k:Int)/\t=.int .i64 v'/\k<=n3/\Hid (timeR u' (wt.take k)=some v'/\Below w.heap.size w wr/\Blk wr w.heap.size #[.int .i64 cb,.int .i64 ct,.int .i64 cs,.int .i64 ca,.int .i64 ck,.int .i64 cy,.int .i64 co,.int .i64 mg,.int .i64 mx,.int .i64 mt,.int .i64 mf,.slice A1 n1 c1,.slice A2 n2 c2,.int .i64 sz,.int .i64 nx,.int .i64 nw,.slice A3 n3 c3,.bool rd] 146)) (fun _ v _=>n3-(intOf v).toNat)
     case atStart=>exact⟨0,u',by go_num,by go_num,by omega,Lib.hid ⟨rfl,HB.out,HK.out⟩⟩
     case round =>
      clear HB HK hk hkn;obtain⟨k,v',rfl,rfl,hk,HX⟩:=hrel;by_cases hkn:k<n3
      ·obtain⟨ad,m,rfl,hbk,hx,e0,ej⟩:=sl_at (H3.out.below HX.out.2.1) hkn
       have c0:wr.cell? (ad.add (k*3))=some (.int .i64 m.1):=e0;have c1:wr.cell? ⟨(ad.add (k*3)).block,(ad.add (k*3)).off+1,none⟩=some (.int .i64 m.2.1):=ej 0 (by decide);have c2:wr.cell? ⟨(ad.add (k*3)).block,(ad.add (k*3)).off+2,none⟩=some (.string m.2.2):=ej 1 (by decide);have HB:=Lib.hid (HX.out.2.1.trans ((ext_alloc wr (.cells #[.int .i64 m.1,.int .i64 m.2.1,.string m.2.2] 84)).mono HX.out.2.1.size));have HK:=Lib.hid (HX.out.2.2.alloc (.cells #[.int .i64 m.1,.int .i64 m.2.1,.string m.2.2] 84));by_cases hlt:m.2.1<v'
       ·have HN:=Lib.hid (show R=false from by rw[HT.out,timeR_no HX.out.1 hx hlt])
        obtain⟨mq,mtt,md⟩:=m;dsimp only at *
        clear e0 ej hx hbk HX;go_wp2_with fail
        go_ret
        exact⟨by rw[HN.out];rfl,HB.out⟩
       ·have HN:=Lib.hid (timeR_go HX.out.1 hx hlt)
        obtain⟨mq,mtt,md⟩:=m;dsimp only at *
        clear e0 ej hx hbk HX;go_wp2_with fail
        go_roundw
        case rel=>exact⟨k+1,mtt,by go_num,by go_num,by omega,Lib.hid ⟨HN.out,HB.out,HK.out⟩⟩
        case measure=>simp[intOf];omega
      ·obtain rfl:n3=k:=by omega
       have HT:=Lib.hid (show R=decide (v'<=nw/\mt<=nw/\nw<=1000000000) from by
        have:=HX.out.1;rw[List.take_of_length_le (by rw[HL.out.2.2];exact Nat.le_refl _)] at this;rw[HT.out,this])
       have HB:=Lib.hid HX.out.2.1;have HK:=Lib.hid HX.out.2.2;clear HX;have k15:=HK.out.cell 15 (v:=.int .i64 nw) rfl;have k9:=HK.out.cell 9 (v:=.int .i64 mt) rfl;go_wp2_with fail
       all_goals
        go_ret
        refine⟨ret_bool ?_,HB.out⟩;rw[HT.out,Bool.eq_iff_iff];simp only[Bool.and_eq_true,decide_eq_true_eq,Bool.false_eq_true,false_iff,true_iff] at *
        omega
end Op
end Go.Proofs.YtejcdhdfanfkbaaGreat
namespace Go.Proofs.YtejcdhdfanfkbaaGreat
open Go.RowKit
theorem fold_set_get:∀(l:List Value) (k:Nat) (z:Array Value) (j:Nat),k+l.length<=z.size->((l.zipIdx k).foldl (fun cs x=>cs.setIfInBounds x.2 x.1) z)[j]? =if k<=j/\j<k+l.length then l[j-k]? else z[j]?
 | [],k,z,j,_=>by simp;omega
 |v::l,k,z,j,h=>by
  rw[List.length_cons] at h;rw[List.zipIdx_cons,List.foldl_cons,fold_set_get l (k+1) _ j (by simp;omega),List.length_cons];by_cases h1:k+1<=j/\j<k+1+l.length
  ·rw[if_pos h1,if_pos (by omega),show j-k=(j-(k+1))+1 from by omega,List.getElem?_cons_succ]
  ·rw[if_neg h1]
   by_cases h2:j=k
   ·subst h2
    rw[if_pos (by omega),Nat.sub_self,List.getElem?_cons_zero,Array.getElem?_setIfInBounds];simp;omega
   ·rw[if_neg (by omega),Array.getElem?_setIfInBounds]
    simp[Ne.symm h2]
theorem fold_set {c z:Array Value} (h:z.size=c.size):(c.zipIdx.foldl (fun cs x=>cs.setIfInBounds (0+x.2) x.1) z)=c:=by
 simp only[Nat.zero_add];apply Array.ext_getElem?
 intro j;have:=fold_set_get c.toList 0 z j (by simp;omega);rw[<-Array.foldl_toList,Array.toList_zipIdx,this];simp only[Nat.zero_add,Nat.sub_zero,Nat.zero_le,true_and,Array.getElem?_toList];split
 ·rfl
 ·rename_i hj
  have hj':c.size<=j:=by simpa using hj
  rw[Array.getElem?_eq_none (by omega),Array.getElem?_eq_none hj']
theorem run_build1 {P:Program} {t:TypeId} {f:Field} {i fi:TypeInfo} {z:Value} {c:Array Value} (w:World) (hu:P.underlying t=some (.struct #[f])) (hi:P.info? t=some i) (hz:i.zero=some z) (hzs:z.cells.size=c.size) (hf:P.info? f.type=some fi) (hfs:fi.size=c.size) (h0:f.offset=0) :
  (Instr.build t #[(0,.agg c)]).run P w=.ok (.agg c) w:=by
 have hca:(Value.agg c).cells=c:=rfl;have hfd:=fold_set hzs;simp only[Nat.zero_add] at hfd;rw[show c.zipIdx.size=c.size from by simp] at hfd;unfold Instr.build;simp[zeroValue,sizeOf,typeInfo,hi,hz,run_underlying hu,hf,Instr.fill,h0,hfs,hzs,hca,hfd]
section
variable {P:Program} {ops:Array Oper} {rest:List Oper} {op:Oper} {a:Act} {w:World} {Q:Exit->Act->World->Prop}
theorem wpList_build1 (hgd:op.guard=none) (t:TypeId) (x:Operand) (ho:op.op=.build t #[(0,x)]) (c:Array Value) (hx:a.eval x=.agg c)
  (hr:∀w,(Instr.build t #[(0,.agg c)]).run P w=.ok (.agg c) w) (h:wpList P ops Q rest (a.put op.dst (.agg c)) w):wpList P ops Q (op::rest) a w:=by
 refine wpList_plain hgd fun _ hK=>?_
 unfold Oper.wp execOp;simp only[ho,hx,List.map_toArray,List.map_cons,List.map_nil,hr,Sem.run_bind,Sem.run_pure,Result.andThen_ok];exact hK _ _ h
end
end Go.Proofs.YtejcdhdfanfkbaaGreat
namespace Go.Proofs.YtejcdhdfanfkbaaGreat
namespace Op
open Go.RowKit Hd Rd Vi Dk
theorem st_info:(Tryz.prog.info? 74).map (·.size)=some 18:=by kernel_rfl
theorem build_lg (c:Array Value) (hc:c.size=18) (w:World):(Instr.build 146 #[(0,.agg c)]).run Tryz.prog w=.ok (.agg c) w:=by
 have h1:(Tryz.prog.info? 146).map (fun i=>(i.zero.map (·.cells.size),i.size))=some (some 18,18):=by kernel_rfl
 have h2:(Tryz.prog.info? 74).map (·.size)=some 18:=st_info;rcases h3:Tryz.prog.info? 146 with _|i
 ·rw[h3] at h1;cases h1
 rcases h4:Tryz.prog.info? 74 with _|fi
 ·rw[h4] at h2;cases h2
 rw[h3] at h1;rw[h4] at h2;simp only[Option.map_some,Option.some.injEq,Prod.mk.injEq] at h1 h2;rcases hz:i.zero with _|z
 ·rw[hz] at h1;cases h1.1
 rw[hz] at h1;simp only[Option.map_some,Option.some.injEq] at h1;exact run_build1 w Tryz.underlying146 h3 hz (by rw[h1.1,hc]) h4 (by rw[h2,hc]) rfl
def chkE (K L W T:Bool):Int:=if(K&&(L&&(W&&T)))=true then 0 else 330
set_option maxHeartbeats 6400000 in
set_option maxRecDepth 100000 in
theorem ocheck_x {cs:Array Value} {w:World} (hcs:cs.size=18) (hone:cs.all (·.oneCell')=true) (K L W T:Bool)
  (H0:Hid (∀wx,Below w.heap.size w wx->Calls Tryz.prog 130 #[.agg cs] wx fun e w'=>e=.returned (.bool K)/\Below wx.heap.size wx w'))
  (H1:Hid (K=true-> ∀wx,Below w.heap.size w wx->Calls Tryz.prog 131 #[.agg cs] wx fun e w'=>e=.returned (.bool L)/\Below wx.heap.size wx w'))
  (H2:Hid (K=true->L=true-> ∀wx,Below w.heap.size w wx->Calls Tryz.prog 132 #[.agg cs] wx fun e w'=>e=.returned (.bool W)/\Below wx.heap.size wx w'))
  (H3:Hid (∀wx,Below w.heap.size w wx->Calls Tryz.prog 133 #[.agg cs] wx fun e w'=>e=.returned (.bool T)/\Below wx.heap.size wx w')) :
  Calls Tryz.prog 77 #[.agg cs] w fun e w'=>e=.returned (.int .i64 (chkE K L W T))/\Below w.heap.size w w':=by
 have HE:=Lib.hid (show chkE K L W T=if(K&&(L&&(W&&T)))=true then 0 else 330 from rfl);generalize chkE K L W T=E at *
 have HK:=Lib.hid (Blk.new w cs 74);have HN:=Lib.hid (blk_second w (.cells cs 74) cs 146);have HW2:=Lib.hid (ext_second w (.cells cs 74) (.cells cs 146));have hsz:(w.alloc (.cells cs 74)).heap.size=w.heap.size+1:=by simp
 go_enter Tryz.func77, Tryz.ntmps77
 go_wp2_with (first
  |(refine wpList_load_row rfl 74 (.tmp 1) rfl w.heap.size cs _ (by simp[go_sem,Act.eval]) HK.out Tryz.underlying74 rfl (by rw[hcs];exact st_info) ?_)
  |(refine wpList_build1 rfl 146 (.tmp 6) rfl cs (by simp[go_sem,Act.eval]) (fun w=>build_lg _ hcs w) ?_)
  |(refine wpList_store_new (w.alloc (.cells cs 74)) #[.int .i64 0,.int .i64 0,.int .i64 0,.int .i64 0,.int .i64 0,.int .i64 0,.int .i64 0,.int .i64 0,.int .i64 0,.int .i64 0,.int .i64 0,.slice none 0 0,.slice none 0 0,.int .i64 0,.int .i64 0,.int .i64 0,.slice none 0 0,.bool false] rfl 146 (.tmp 3) (.tmp 7) rfl cs (by simp[go_sem,Act.eval]) (by simp[go_sem,Act.eval]) (by rw[hcs];exact lg_info) (by rw[hcs];rfl) hone ?_)
  |(refine wpList_load_row rfl 146 (.tmp 3) rfl (w.heap.size+1) cs _ (by simp[go_sem,Act.eval]) HN.out Tryz.underlying146 rfl (by rw[hcs];exact lg_info) ?_))
 have HF:=Lib.hid (show Blk (((w.alloc (.cells cs 74)).alloc (.cells cs 146)).alloc (.cells #[.func (.func 130) #[.agg cs] #[],.func (.func 131) #[.agg cs] #[],.func (.func 132) #[.agg cs] #[],.func (.func 133) #[.agg cs] #[]] 24)) (w.heap.size+1+1) #[.func (.func 130) #[.agg cs] #[],.func (.func 131) #[.agg cs] #[],.func (.func 132) #[.agg cs] #[],.func (.func 133) #[.agg cs] #[]] 24 from by
  have:=Blk.new ((w.alloc (.cells cs 74)).alloc (.cells cs 146)) #[.func (.func 130) #[.agg cs] #[],.func (.func 131) #[.agg cs] #[],.func (.func 132) #[.agg cs] #[],.func (.func 133) #[.agg cs] #[]] 24
  rwa [show((w.alloc (.cells cs 74)).alloc (.cells cs 146)).heap.size=w.heap.size+1+1 from by simp] at this)
 have HB:=Lib.hid (HW2.out.trans ((ext_alloc ((w.alloc (.cells cs 74)).alloc (.cells cs 146)) (.cells #[.func (.func 130) #[.agg cs] #[],.func (.func 131) #[.agg cs] #[],.func (.func 132) #[.agg cs] #[],.func (.func 133) #[.agg cs] #[]] 24)).mono HW2.out.size));generalize ((w.alloc (.cells cs 74)).alloc (.cells cs 146)).alloc (.cells #[.func (.func 130) #[.agg cs] #[],.func (.func 131) #[.agg cs] #[],.func (.func 132) #[.agg cs] #[],.func (.func 133) #[.agg cs] #[]] 24)=w3 at *
 clear HK HN HW2 hsz hone hcs;go_loopw [18] (fun v wr=>∃kk:Nat,v=.int .i64 (kk:Int)/\kk<=4/\Hid (((0<kk->K=true)/\(1<kk->L=true)/\(2<kk->W=true)/\(3<kk->T=true))/\Below w.heap.size w wr/\Blk wr (w.heap.size+1+1) #[.func (.func 130) #[.agg cs] #[],.func (.func 131) #[.agg cs] #[],.func (.func 132) #[.agg cs] #[],.func (.func 133) #[.agg cs] #[]] 24)) (fun v _=>4-(intOf v).toNat)
 case atStart=>exact⟨0,by go_num,by omega,Lib.hid ⟨⟨fun h=>absurd h (by omega),fun h=>absurd h (by omega),fun h=>absurd h (by omega),fun h=>absurd h (by omega)⟩,HB.out,HF.out⟩⟩
 case round =>
  clear HB HF;obtain⟨kk,rfl,hk,HX⟩:=hrel;by_cases hk4:kk=4
  ·subst hk4
   have HR:=Lib.hid (show E=0 from by rw[HE.out,HX.out.1.1 (by omega),HX.out.1.2.1 (by omega),HX.out.1.2.2.1 (by omega),HX.out.1.2.2.2 (by omega)];rfl);have HB:=Lib.hid HX.out.2.1;clear HX;go_wp2_with fail
   go_ret
   exact⟨by rw[HR.out];rfl,HB.out⟩
  by_cases h0:kk=0
  ·clear hk4
   obtain rfl:kk=0:=by omega
   have cf:=HX.out.2.2.cell 0 (v:=.func (.func 130) #[.agg cs] #[]) rfl;have HC:=Lib.hid (H0.out _ HX.out.2.1);rcases K with _|_
   ·have HR:=Lib.hid (show E=330 from by rw[HE.out];simp)
    have HB:=Lib.hid HX.out.2.1;clear HX;go_wp2_with (go_at_call 130;refine HC.out.mono ?_;rintro e1 w1 ⟨rfl,hb1⟩;have HB1:=Lib.hid (HB.out.trans (hb1.mono HB.out.size));clear hb1)
    go_ret
    exact⟨by rw[HR.out];rfl,HB1.out⟩
   ·have HB:=Lib.hid HX.out.2.1
    have HF:=Lib.hid HX.out.2.2;have HP:=Lib.hid HX.out.1;clear HX;go_wp2_with (go_at_call 130;refine HC.out.mono ?_;rintro e1 w1 ⟨rfl,hb1⟩;have HB1:=Lib.hid (HB.out.trans (hb1.mono HB.out.size));have HF1:=Lib.hid (HF.out.ext hb1);clear hb1)
    go_roundw
    case rel=>exact⟨1,by go_num,by omega,Lib.hid ⟨⟨fun _=>by first|rfl|trivial,fun h=>absurd h (by omega),fun h=>absurd h (by omega),fun h=>absurd h (by omega)⟩,HB1.out,HF1.out⟩⟩
    case measure=>simp[intOf]
  by_cases h1:kk=1
  ·clear hk4
   obtain rfl:kk=1:=by omega
   have cf:=HX.out.2.2.cell 1 (v:=.func (.func 131) #[.agg cs] #[]) rfl;have HC:=Lib.hid (H1.out (HX.out.1.1 (by omega)) _ HX.out.2.1);rcases L with _|_
   ·have HR:=Lib.hid (show E=330 from by rw[HE.out];simp)
    have HB:=Lib.hid HX.out.2.1;clear HX;go_wp2_with (go_at_call 131;refine HC.out.mono ?_;rintro e1 w1 ⟨rfl,hb1⟩;have HB1:=Lib.hid (HB.out.trans (hb1.mono HB.out.size));clear hb1)
    go_ret
    exact⟨by rw[HR.out];rfl,HB1.out⟩
   ·have HB:=Lib.hid HX.out.2.1
    have HF:=Lib.hid HX.out.2.2;have HP:=Lib.hid HX.out.1;clear HX;go_wp2_with (go_at_call 131;refine HC.out.mono ?_;rintro e1 w1 ⟨rfl,hb1⟩;have HB1:=Lib.hid (HB.out.trans (hb1.mono HB.out.size));have HF1:=Lib.hid (HF.out.ext hb1);clear hb1)
    go_roundw
    case rel=>exact⟨2,by go_num,by omega,Lib.hid ⟨⟨fun _=>HP.out.1 (by omega),fun _=>by first|rfl|trivial,fun h=>absurd h (by omega),fun h=>absurd h (by omega)⟩,HB1.out,HF1.out⟩⟩
    case measure=>simp[intOf]
  by_cases h2:kk=2
  ·clear hk4
   obtain rfl:kk=2:=by omega
   have cf:=HX.out.2.2.cell 2 (v:=.func (.func 132) #[.agg cs] #[]) rfl;have HC:=Lib.hid (H2.out (HX.out.1.1 (by omega)) (HX.out.1.2.1 (by omega)) _ HX.out.2.1);rcases W with _|_
   ·have HR:=Lib.hid (show E=330 from by rw[HE.out];simp)
    have HB:=Lib.hid HX.out.2.1;clear HX;go_wp2_with (go_at_call 132;refine HC.out.mono ?_;rintro e1 w1 ⟨rfl,hb1⟩;have HB1:=Lib.hid (HB.out.trans (hb1.mono HB.out.size));clear hb1)
    go_ret
    exact⟨by rw[HR.out];rfl,HB1.out⟩
   ·have HB:=Lib.hid HX.out.2.1
    have HF:=Lib.hid HX.out.2.2;have HP:=Lib.hid HX.out.1;clear HX;go_wp2_with (go_at_call 132;refine HC.out.mono ?_;rintro e1 w1 ⟨rfl,hb1⟩;have HB1:=Lib.hid (HB.out.trans (hb1.mono HB.out.size));have HF1:=Lib.hid (HF.out.ext hb1);clear hb1)
    go_roundw
    case rel=>exact⟨3,by go_num,by omega,Lib.hid ⟨⟨fun _=>HP.out.1 (by omega),fun _=>HP.out.2.1 (by omega),fun _=>by first|rfl|trivial,fun h=>absurd h (by omega)⟩,HB1.out,HF1.out⟩⟩
    case measure=>simp[intOf]
  ·have h3:kk=3:=by omega
   clear hk4;obtain rfl:kk=3:=by omega
   have cf:=HX.out.2.2.cell 3 (v:=.func (.func 133) #[.agg cs] #[]) rfl;have HC:=Lib.hid (H3.out _ HX.out.2.1);rcases T with _|_
   ·have HR:=Lib.hid (show E=330 from by rw[HE.out];simp)
    have HB:=Lib.hid HX.out.2.1;clear HX;go_wp2_with (go_at_call 133;refine HC.out.mono ?_;rintro e1 w1 ⟨rfl,hb1⟩;have HB1:=Lib.hid (HB.out.trans (hb1.mono HB.out.size));clear hb1)
    go_ret
    exact⟨by rw[HR.out];rfl,HB1.out⟩
   ·have HB:=Lib.hid HX.out.2.1
    have HF:=Lib.hid HX.out.2.2;have HP:=Lib.hid HX.out.1;clear HX;go_wp2_with (go_at_call 133;refine HC.out.mono ?_;rintro e1 w1 ⟨rfl,hb1⟩;have HB1:=Lib.hid (HB.out.trans (hb1.mono HB.out.size));have HF1:=Lib.hid (HF.out.ext hb1);clear hb1)
    go_roundw
    case rel=>exact⟨4,by go_num,by omega,Lib.hid ⟨⟨fun _=>HP.out.1 (by omega),fun _=>HP.out.2.1 (by omega),fun _=>HP.out.2.2.1 (by omega),fun _=>by first|rfl|trivial⟩,HB1.out,HF1.out⟩⟩
    case measure=>simp[intOf]
theorem ocheck_any (s:St) (x y z:Sl) (w:World) (h:Str w w.heap.size s x y z) (hx1:x.n<=1000000) (hy1:y.n<=100000) (hz1:z.n<=1000000) :
  Calls Tryz.prog 77 #[sagg s x y z] w fun e w'=>e=.returned (.int .i64 (if okSt s=true then 0 else 330))/\Below w.heap.size w w':=by
 refine ocheck_x (cs:=stc s x y z) rfl (by simp[stc,Sl.v,Value.oneCell']) (keptB s) (laidB s) (waitsB s) (timedB s) ?_ ?_ ?_ ?_
 ·exact fun wx hb=>kept_any s x y z wx (h.ext hb) hx1
 ·exact fun hk wx hb=>laid_any s x y z wx (h.ext hb) hx1 hy1 hk
 ·intro hk hl wx hb
  have hbi:okBi s.bs=true:=by
   unfold laidB at hl;simp only[Bool.and_eq_true] at hl;exact hl.1
  exact waits_any s x y z wx (h.ext hb) hx1 hy1 hz1 hk hbi
 ·exact fun wx hb=>timed_any s x y z wx (h.ext hb) hx1 (by omega) hz1
end Op
end Go.Proofs.YtejcdhdfanfkbaaGreat
