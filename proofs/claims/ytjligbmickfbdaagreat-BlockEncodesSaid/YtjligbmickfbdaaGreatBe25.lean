/- huff.Counts. Go's stable sort, as lists: what exchanging, inserting and chunks of a fixed length come to: no program. slices.SortStableFunc at structs: exchanging of ranges, turning. -/
import Derived.Test.YtjligbmickfbdaaGreatBe03
import Derived.Test.YtjligbmickfbdaaGreatBe14
import Derived.Deep.LoopGhost
import Derived.BigRegion
import Derived.Test.YtjligbmickfbdaaGreatBe20
import Derived.Sort.Defs
import Derived.Test.YtjligbmickfbdaaGreatRows
import Derived.Test.YtjligbmickfbdaaGreatBe02
import Derived.Shelf.SlSortCmp.KitK
import Derived.Shelf.Lay
import Derived.Ground.SlsfProg
namespace Go.Proofs.YtjligbmickfbdaaGreat
namespace Hf
open Go.RowKit
set_option maxHeartbeats 3200000 in
set_option maxRecDepth 100000 in
theorem counts_any (A:Option Addr) (n c:Nat) (l:List Int) (w:World) (hn:n<=60000) (hrd:Rd w w.heap.size 1 A n (l.map (Value.int .i64))) :
  Calls Tryz.prog 84 #[.slice A n c] w fun e w'=>∃v,e=.returned (.tuple #[v,.int .i64 (ctsE l)])/\Own w' w.heap.size v (ctsL l)/\Below w.heap.size w w':=by
 have hln:l.length=n:=by simpa using hrd.len
 have HL:=Lib.hid hln;have HR:=Lib.hid hrd;clear hln hrd
 go_enter Tryz.func84, Tryz.ntmps84
 go_wp2_with (at_make;(refine make1 (n:=257) (by omega) (Nat.le_refl w.heap.size) ?_);intro w1 hown1 hg1)
 have hb1:Below w.heap.size w w1:=(Below.refl _ _).grown hg1 (Nat.le_refl _) (by simp);have H0:Aside (Own w1 w.heap.size (.slice (some ⟨w.heap.size,0,none⟩) 257 257) (cts (l.take 0))/\Below w.heap.size w w1):=⟨hown1,hb1⟩
 clear hg1 hown1 hb1;go_wp2_with fail
 go_loopg [13] n (fun kx s13 wr=>∃(k:Nat),s13=.int .i64 (k:Int)/\k<=n/\n-k<=kx/\Hid ((l.take k).all okS=true)/\Aside (Own wr w.heap.size (.slice (some ⟨w.heap.size,0,none⟩) 257 257) (cts (l.take k))/\Below w.heap.size w wr))
 case atStart=>exact⟨0,rfl,by omega,by omega,rfl,H0.out⟩
 case round =>
  clear H0;obtain⟨k,rfl,hk,hkx,hall,H⟩:=hrel;by_cases hlt:k<n
  ·obtain⟨ad,x,rfl,had,hx,hcell⟩:=(HR.out.below H.out.2).int1 hlt
   have hkl:k<l.length:=by have:=HL.out;omega
   rw[List.getElem?_eq_getElem hkl,Option.some.injEq] at hx;have hno:=all_no l k hkl;have hat:=all_take l k hkl hall.out;have hst:=cts_take l k hkl;rw[hx] at hno hat hst;have HNo:=Lib.hid hno;have HAt:=Lib.hid hat;have HSt:=Lib.hid hst;clear hno hat hst hx hkl;by_cases h1:x<0
   ·have hf:l.all okS=false:=HNo.out (by simp[okS];omega)
    have HF:=Lib.hid hf;clear hf;go_wp2_with fail
    go_ret2
    rw[(ctsE_no l HF.out).1,(ctsE_no l HF.out).2];exact⟨_,rfl,World.ownsRow_nil _ _ _ _,H.out.2⟩
   by_cases h2:257<=x
   ·have hf:l.all okS=false:=HNo.out (by simp[okS];omega)
    have HF:=Lib.hid hf;clear hf;go_wp2_with fail
    go_ret2
    rw[(ctsE_no l HF.out).1,(ctsE_no l HF.out).2];exact⟨_,rfl,World.ownsRow_nil _ _ _ _,H.out.2⟩
   ·have hok:okS x=true:=by simp[okS];omega
    have HA2:=Lib.hid (HAt.out hok);clear hok;obtain⟨t,rfl⟩:=Int.eq_ofNat_of_zero_le (show 0<=x by omega);have hc:=H.out.1.cell (k:=t) (x:=(cts (l.take k)).getD t 0) (at_some _ _ (by rw[length_cts];omega));have hf:=H.out.1.frozen (k:=t);have hbd:=cts_bd (l.take k) ((cts (l.take k)).getD t 0) (by rw[List.getD_eq_getElem?_getD,List.getElem?_eq_getElem (by rw[length_cts];omega)];exact List.getElem_mem _);have hbl:((l.take k).length:Int)<=60000:=by rw[List.length_take];omega
    have HN0:=Own.put2 (k:=t) H.out ((cts (l.take k)).getD t 0+1);have e1:(cts (l.take k)).set t ((cts (l.take k)).getD t 0+1)=cts (l.take (k+1)):=by
     rw[HSt.out,Int.toNat_natCast];rfl
    rw[e1] at HN0;obtain⟨y,hy⟩:∃y,y=(cts (l.take k)).getD t 0:=⟨_,rfl⟩
    rw[<-hy] at hc hbd HN0;have HN:Aside _:=HN0;have hy0:0<=y:=hbd.1;have hy1:y<=60000:=by omega
    clear HN0 H hy e1 hbd hbl;go_wp2_with fail
    go_roundg (n-(k+1))
    case measure=>omega
    case rel=>exact⟨k+1,by go_num,by omega,by omega,HA2.out,HN.out⟩
  ·have hE:=H.out
   have e:l.take k=l:=List.take_of_length_le (by have:=HL.out;omega);have ha:=hall.out;rw[e] at hE ha;have HE:Aside _:=hE;have HA:=Lib.hid ha;clear H hE e ha;go_wp2_with fail
   go_ret2
   rw[(ctsE_yes l HA.out).1,(ctsE_yes l HA.out).2];exact⟨_,rfl,HE.out⟩
end Hf
end Go.Proofs.YtjligbmickfbdaaGreat
namespace Go.Proofs.YtjligbmickfbdaaGreat
namespace St
open Go.Sort
variable {α:Type} (key:α->Int)
theorem set_mid (A B:List α) (x z:α):(A++x::B).set A.length z=A++z::B:=by
 rw[List.set_append_right _ _ (Nat.le_refl _),Nat.sub_self];rfl
theorem get_mid (A B:List α) (x:α):(A++x::B)[A.length]? =some x:=by
 rw[List.getElem?_append_right (Nat.le_refl _),Nat.sub_self];rfl
section
variable [Inhabited α]
theorem arr_at {d:Array α} {A B:List α} {x:α} {i:Nat} (h:d.toList=A++x::B) (hi:i=A.length):d[i]! =x:=by
 have h1:d[i]? =some x:=by rw[<-Array.getElem?_toList,h,hi,get_mid]
 rw[getElem!_def,h1]
theorem swp_list {d:Array α} {A B C:List α} {x y:α} {i j:Nat} (h:d.toList=A++x::(B++y::C)) (hi:i=A.length) (hj:j=A.length+1+B.length):(swp d i j).toList=A++y::(B++x::C):=by
 have e1:d[i]! =x:=arr_at h hi;have e2:d[j]! =y:=arr_at (A:=A++x::B) (B:=C) (by rw[h];simp) (by simp;omega);unfold swp;rw[e1,e2,Array.toList_setIfInBounds,Array.toList_setIfInBounds,h,hi,set_mid];have:=set_mid (A++y::B) C y x;rw[show(A++y::B).length=j by simp;omega] at this;simpa using this
theorem swp_list' {d:Array α} {A B C:List α} {x y:α} {i j:Nat} (h:d.toList=A++x::(B++y::C)) (hi:i=A.length) (hj:j=A.length+1+B.length):(swp d j i).toList=A++y::(B++x::C):=by
 have e1:d[i]! =x:=arr_at h hi;have e2:d[j]! =y:=arr_at (A:=A++x::B) (B:=C) (by rw[h];simp) (by simp;omega);unfold swp;have s1:=set_mid (A++x::B) C y x;rw[show(A++x::B).length=j by simp;omega] at s1;rw[e1,e2,Array.toList_setIfInBounds,Array.toList_setIfInBounds,h,show A++x::(B++y::C)=(A++x::B)++y::C by simp,s1,hi];simp
variable {lt:α->α->Bool} (hlt:∀x y,lt x y=decide (key x<key y))
include hlt
theorem insInner_list (A:List α) (x:α):∀(n:Nat) (S B:List α) (d:Array α),S.length=n->Srt key S->d.toList=A++(S++x::B)->(insInner lt A.length (A.length+S.length) d).toList=A++(mrg key S [x]++B):=by
 intro n
 induction n with
 |zero =>
  intro S B d hn _ h;have:S=[]:=List.eq_nil_of_length_eq_zero hn;subst this;rw[mrg_nil_left];have:insInner lt A.length (A.length+([]:List α).length) d=d:=by
   rw[List.length_nil,Nat.add_zero];rcases hA:A.length with _|k
   ·rw[insInner]
   ·rw[insInner,if_neg (by simp)]
  rw[this,h];rfl
 |succ n ih =>
  intro S B d hn hS h;obtain⟨S',s,rfl⟩:∃S' s,S=S'++[s]:=⟨S.dropLast,S.getLast (by intro e;simp[e] at hn),(List.dropLast_concat_getLast _).symm⟩
  have hn':S'.length=n:=by simpa using hn
  have hx:d[A.length+S'.length+1]! =x:=arr_at (A:=A++(S'++[s])) (B:=B) (by rw[h];simp) (by simp;omega);have hs:d[A.length+S'.length]! =s:=arr_at (A:=A++S') (B:=x::B) (by rw[h];simp) (by simp);have hS':Srt key S'/\ ∀z∈S',key z<=key s:=by
   have:=List.pairwise_append.1 hS;exact⟨this.1,fun z hz=>this.2.2 z hz s (by simp)⟩
  rw[show A.length+(S'++[s]).length=(A.length+S'.length)+1 by simp;omega,insInner,hx,hs,hlt];by_cases hlt':key x<key s
  ·rw[if_pos (by simp only[hlt',decide_true,Bool.and_true,decide_eq_true_eq];omega)]
   have e:=swp_list' (d:=d) (A:=A++S') (B:=[]) (C:=B) (x:=s) (y:=x) (i:=A.length+S'.length) (j:=A.length+S'.length+1) (by rw[h];simp) (by simp) (by simp);rw[ih S' (s::B) _ hn' hS'.1 (by rw[e];simp)];have:=mrg_split' key S' [s] [x] [] (by intro y hy z hz;simp at hy hz;subst hy;subst hz;exact hlt') (by simp);rw[List.append_nil,mrg_nil_right] at this;rw[this];simp
  ·rw[if_neg (by simp[hlt'])]
   have:=mrg_one key (S'++[s]) [] x (by intro z hz;rcases List.mem_append.1 hz with hz|hz;(have:=hS'.2 z hz;omega);(simp at hz;subst hz;omega)) (by simp);rw[List.append_nil] at this;rw[this,h];simp
theorem insOuter_list (A B:List α):∀(M2 M1:List α) (d:Array α),d.toList=A++(stab key M1++(M2++B))->(insOuter lt A.length (A.length+M1.length+M2.length) (A.length+M1.length) d).toList=A++(stab key (M1++M2)++B):=by
 intro M2
 induction M2 with
 |nil =>
  intro M1 d h;rw[insOuter,if_neg (by simp),List.append_nil,h];rfl
 |cons x M2 ih =>
  intro M1 d h;rw[insOuter,if_pos (by simp)];have e:=insInner_list key hlt A x _ (stab key M1) (M2++B) d rfl (stab_srt key M1) (by rw[h];simp);rw[length_stab] at e;have h1:mrg key (stab key M1) [x]=stab key (M1++[x]):=by rw[<-mrg_stab,stab_one]
  have:=ih (M1++[x]) (insInner lt A.length (A.length+M1.length) d) (by rw[e,h1]);rw[show M1++x::M2=(M1++[x])++M2 by simp,<-this];congr 2
  ·simp;omega
  ·simp;omega
theorem insertionSort_list (A M B:List α) (d:Array α) (h:d.toList=A++(M++B)):(insertionSort lt d A.length (A.length+M.length)).toList=A++(stab key M++B):=by
 unfold insertionSort;rcases M with _|⟨x,M⟩
 ·rw[insOuter,if_neg (by simp),h];rfl
 ·have:=insOuter_list key hlt A B M [x] d (by rw[stab_one,h];rfl)
  rw[show[x]++M=x::M from rfl] at this;rw[<-this];congr 2;simp;omega
end
def cs (bs:Nat) (l:List α):List α:=if _h:bs=0∨l.length<=bs then stab key l else stab key (l.take bs)++cs bs (l.drop bs)
termination_by l.length
decreasing_by simp only[List.length_drop];omega
theorem cs_small {bs:Nat} {l:List α} (h:l.length<=bs):cs key bs l=stab key l:=by rw[cs,dif_pos (Or.inr h)]
theorem cs_ge {bs:Nat} {l:List α} (h0:0<bs) (h:bs<=l.length):cs key bs l=stab key (l.take bs)++cs key bs (l.drop bs):=by
 by_cases h':l.length<=bs
 ·have e:l.length=bs:=by omega
  rw[cs_small key h',List.take_of_length_le h',List.drop_of_length_le h',cs_small key (by simp),stab_nil,List.append_nil]
 ·rw[cs,dif_neg (by omega)]
theorem cs_twice {bs:Nat} {l:List α} (h0:0<bs) (h:2*bs<=l.length):cs key bs l=stab key (l.take bs)++(stab key ((l.drop bs).take bs)++cs key bs (l.drop (2*bs))) /\
  cs key (2*bs) l=mrg key (stab key (l.take bs)) (stab key ((l.drop bs).take bs))++cs key (2*bs) (l.drop (2*bs)):=by
 refine⟨?_,?_⟩
 ·rw[cs_ge key h0 (by omega),cs_ge key h0 (by simp;omega),List.drop_drop,show bs+bs=2*bs by omega]
 ·rw[cs_ge key (by omega) h,mrg_stab]
  congr 2;rw[show 2*bs=bs+bs by omega,List.take_add]
theorem cs_last {bs:Nat} {l:List α} (h0:0<bs) (h:bs<=l.length) (h2:l.length<2*bs):cs key bs l=stab key (l.take bs)++stab key (l.drop bs)/\cs key (2*bs) l=mrg key (stab key (l.take bs)) (stab key (l.drop bs)):=by
 refine⟨?_,?_⟩
 ·rw[cs_ge key h0 h,cs_small key (by simp;omega)]
 ·rw[cs_small key (by omega),mrg_stab,List.take_append_drop]
end St
end Go.Proofs.YtjligbmickfbdaaGreat
namespace Go.Proofs.YtjligbmickfbdaaGreat
open Go.Shelf Go.RowKit Go.Lib Go.Sort St
structure SwLays (P:Program) (k:Nat):Prop where
 mixed:P.follows .mixedOrders=true
 swap:P.funcs[161]? =some Tryz.f161
 rot:P.funcs[160]? =some Tryz.f160
 sym:P.funcs[158]? =some Tryz.f158
 stb:P.funcs[155]? =some Tryz.f155
 tu:P.underlying 0=some (TypeDesc.tuple #[])
 au:∀w,(isAgg 0).run P w=.ok false w
 zu:∀w,(Go.sizeOf 0).run P w=.ok 1 w
 vu:∀w,(zeroValue 0).run P w=.ok (Value.tuple #[]) w
 ti:P.underlying 3=some (TypeDesc.int IntKind.i64)
 ai:∀w,(isAgg 3).run P w=.ok false w
 zi:∀w,(Go.sizeOf 3).run P w=.ok 1 w
 vi:∀w,(zeroValue 3).run P w=.ok (Value.int IntKind.i64 0) w
 tb:P.underlying 4=some (TypeDesc.bool)
 ab:∀w,(isAgg 4).run P w=.ok false w
 zb:∀w,(Go.sizeOf 4).run P w=.ok 1 w
 vb:∀w,(zeroValue 4).run P w=.ok (Value.bool false) w
 tn:P.underlying 127=some (TypeDesc.int IntKind.u64)
 an:∀w,(isAgg 127).run P w=.ok false w
 zn:∀w,(Go.sizeOf 127).run P w=.ok 1 w
 vn:∀w,(zeroValue 127).run P w=.ok (Value.int IntKind.u64 0) w
 ts:P.underlying 177=some (TypeDesc.slice 180)
 aS:∀w,(isAgg 177).run P w=.ok false w
 zs:∀w,(Go.sizeOf 177).run P w=.ok 1 w
 vs:∀w,(zeroValue 177).run P w=.ok (Value.slice none 0 0) w
 tf:P.underlying 204=some (TypeDesc.func #[180,180] #[3] false)
 af:∀w,(isAgg 204).run P w=.ok false w
 zf:∀w,(Go.sizeOf 204).run P w=.ok 1 w
 vf:∀w,(zeroValue 204).run P w=.ok (Value.nilFunc) w
 aE:∀w,(isAgg 180).run P w=.ok true w
 zE:∀w,(Go.sizeOf 180).run P w=.ok k w
theorem swLays:SwLays Tryz.prog 2 where
 mixed:=by kernel_rfl
 swap:=Tryz.func161
 rot:=Tryz.func160
 sym:=Tryz.func158
 stb:=Tryz.func155
 tu:=Tryz.underlying0
 au:=Tryz.isAgg0
 zu:=Tryz.sizeOf0
 vu:=Tryz.zeroValue0
 ti:=Tryz.underlying3
 ai:=Tryz.isAgg3
 zi:=Tryz.sizeOf3
 vi:=Tryz.zeroValue3
 tb:=Tryz.underlying4
 ab:=Tryz.isAgg4
 zb:=Tryz.sizeOf4
 vb:=Tryz.zeroValue4
 tn:=Tryz.underlying127
 an:=Tryz.isAgg127
 zn:=Tryz.sizeOf127
 vn:=Tryz.zeroValue127
 ts:=Tryz.underlying177
 aS:=Tryz.isAgg177
 zs:=Tryz.sizeOf177
 vs:=Tryz.zeroValue177
 tf:=Tryz.underlying204
 af:=Tryz.isAgg204
 zf:=Tryz.sizeOf204
 vf:=Tryz.zeroValue204
 aE:=Tryz.isAgg180
 zE:=Tryz.sizeOf180
section
variable {P:Program} {k:Nat} {α:Type} [Inhabited α] {enc:α->List Value} {blk off:Nat} {w0:World} {d0:Array α}
set_option maxHeartbeats 4000000 in
set_option maxRecDepth 1000000 in
theorem swapRange_is (L:SwLays P k) (fv:Value) (cap:Nat) (d:Array α) (w:World) (R:RowK enc k w0 blk off d0) (hs:d0.size=d.size) (S:SWK enc k w0 blk off d w) (hsz:d.size<4611686018427387904)
  (A X M Y Z:List α) (hd:d.toList=A++(X++(M++(Y++Z)))) (hXY:X.length=Y.length) (a b n:Nat) (ha:a=A.length) (hb:b=A.length+X.length+M.length) (hn:n=X.length) :
  Calls P 161 #[.slice (some ⟨blk,off,none⟩) d.size cap,.int .i64 (a:Int),.int .i64 (b:Int),.int .i64 (n:Int),fv] w fun e w' =>
   e=.returned (.tuple #[])/\ ∃d',SWK enc k w0 blk off d' w'/\d'.toList=A++(Y++(M++(X++Z))):=by
 have mixed:=L.mixed;have tu:=L.tu;have au:=L.au;have zu:=L.zu;have vu:=L.vu;have ti:=L.ti;have ai:=L.ai;have zi:=L.zi;have vi:=L.vi;have tb:=L.tb;have ab:=L.ab;have zb:=L.zb;have vb:=L.vb;have tn:=L.tn;have an:=L.an;have zn:=L.zn;have vn:=L.vn;have ts:=L.ts;have aS:=L.aS;have zs:=L.zs;have vs:=L.vs;have tf:=L.tf;have af:=L.af;have zf:=L.zf;have vf:=L.vf;have aE:=L.aE;have zE:=L.zE;have us:=run_underlying L.ts;have S0:Aside (SWK enc k w0 blk off d w):=S;clear S;have hdl:d.size=A.length+X.length+M.length+Y.length+Z.length:=by rw[<-Array.length_toList,hd];simp;omega
 have HD:=Lib.hid hd;have bY:b+n<=d.size:=by omega
 have aY:a+n<=d.size:=by omega
 have HA:Aside (a=A.length/\b=A.length+X.length+M.length/\n=X.length/\n=Y.length):=⟨ha,hb,hn,by omega⟩
 clear hd ha hb hn hdl hXY;go_enter L.swap,Tryz.ntmps161
 go_wp2
 go_loopg [10] n (fun kx s10 wr=>∃(i:Nat) (dk:Array α),s10=.int .i64 (i:Int)/\i<=n/\n-i<=kx/\dk.size=d.size/\Aside (SWK enc k w0 blk off dk wr)/\Hid (dk.toList=A++((Y.take i++X.drop i)++(M++((X.take i++Y.drop i)++Z)))))
 case atStart=>exact⟨0,d,rfl,by omega,by omega,rfl,S0,(by show _=_;rw[HD.out];simp)⟩
 case round =>
  clear S0;obtain⟨i,dk,rfl,hin,hkx,hds,S1,heq⟩:=hrel;by_cases hlt:(i:Int)<(n:Int)
  ·go_wp2_with fail
   obtain⟨x,hx⟩:∃x,X[i]? =some x:=⟨X[i]'(by have:=HA.out;omega),List.getElem?_eq_getElem _⟩
   obtain⟨y,hy⟩:∃y,Y[i]? =some y:=⟨Y[i]'(by have:=HA.out;omega),List.getElem?_eq_getElem _⟩
   have HX:=Lib.hid hx;have HY:=Lib.hid hy;clear hx hy;obtain⟨ia,hia⟩:∃ia,ia=a+i:=⟨_,rfl⟩
   obtain⟨ib,hib⟩:∃ib,ib=b+i:=⟨_,rfl⟩
   have wa:IntKind.i64.wrap ((a:Int)+(i:Int))=(ia:Int):=by rw[IntKind.wrap_i64];omega
   have wb:IntKind.i64.wrap ((b:Int)+(i:Int))=(ib:Int):=by rw[IntKind.wrap_i64];omega
   have pa:(0:Int)<=(ia:Int):=by omega
   have pb:(0:Int)<=(ib:Int):=by omega
   have ba:(ia:Int)<(d.size:Int):=by omega
   have bb:(ib:Int)<(d.size:Int):=by omega
   have ta:(ia:Int).toNat=ia:=by omega
   have tb:(ib:Int).toNat=ib:=by omega
   have S2:Aside (SWK enc k w0 blk off (swp dk ia ib) _):=S1.out.swapped R ia ib (by omega) (by omega);have la:=S1.out.ld1 R (by omega) P ia (by omega);have lb:=S1.out.ld1 R (by omega) P ib (by omega);have sa:=S1.out.st1 R (by omega) P ia (by omega) dk[ib]!;have sb:=S1.out.st2 R (by omega) P ia ib (by omega) (by omega) dk[ib]! dk[ia]!;have na:(enc dk[ia]!).length=k:=R.hk _;have nb:(enc dk[ib]!).length=k:=R.hk _;generalize enc dk[ia]! =cA at S2 la sb na;generalize enc dk[ib]! =cB at S2 lb sa sb nb;have HI:Aside (ia=a+i/\ib=b+i):=⟨hia,hib⟩
   clear S1 hia hib;go_wp2_with fail
   go_big_region_o
   clear la lb sa sb;go_wp2
   go_roundg (n-(i+1))
   case measure=>omega
   case rel =>
    refine⟨i+1,_,by go_num,by omega,by omega,by rw[size_swp];exact hds,S2,?_⟩;obtain⟨rfl,rfl⟩:=HI.out;obtain⟨ea,eb,enX,enY⟩:=HA.out;have h1:=drop_at X i x HX.out;have h2:=drop_at Y i y HY.out;have h3:X.take (i+1)=X.take i++[x]:=by rw[List.take_add_one,HX.out];rfl
    have h4:Y.take (i+1)=Y.take i++[y]:=by rw[List.take_add_one,HY.out];rfl
    show _=_
    have:=swp_list (d:=dk) (A:=A++Y.take i) (B:=X.drop (i+1)++(M++X.take i)) (C:=Y.drop (i+1)++Z) (x:=x) (y:=y) (i:=a+i) (j:=b+i) (by rw[heq.out,h1,h2];simp) (by simp;omega) (by simp;omega);rw[this,h3,h4];simp
  ·go_wp2
   go_end0
   have hi:i=n:=by omega
   obtain⟨_,_,hnX,hnY⟩:=HA.out;refine⟨rfl,dk,S1.out,?_⟩;rw[heq.out,hi,List.take_of_length_le (by omega),List.take_of_length_le (by omega),List.drop_of_length_le (by omega),List.drop_of_length_le (by omega)];simp
end
end Go.Proofs.YtjligbmickfbdaaGreat
