/- zrun.Unpack. Sorting that keeps the order of equals: merging two rows, and what Go's stable sort does with them: plain lists, no program. -/
import Derived.Test.YtjligbmickfbdaaGreatBe19
import Derived.Test.YtjligbmickfbdaaGreatBe01
namespace Go.Proofs.YtjligbmickfbdaaGreat
namespace Zr
open Go.RowKit
set_option maxHeartbeats 1600000 in
theorem unpack_any (A:Option Addr) (n c:Nat) (l:List Int) (limit:Int) (w:World) (hc:n<=c) (hcm:c<=maxLen) (hrd:Rd w w.heap.size 1 A n (l.map (Value.int .i64))) :
  Calls Tryz.prog 81 #[.slice A n c,.int .i64 limit] w fun e w'=>∃v,e=.returned (.tuple #[v,.int .i64 (unpackE l limit)])/\Own w' w.heap.size v (unpack l limit)/\Below w.heap.size w w':=by
 have hln:l.length=n:=by simpa using hrd.len
 have Hln:=Lib.hid hln;clear hln;have hcm2:n<=9223372036854775807:=by unfold maxLen at hcm;omega
 go_enter Tryz.func81, Tryz.ntmps81
 go_wp2_with fail
 go_loop [14] (fun i=>∃k:Nat,i=.int .i64 k/\k<=n/\Hid ((l.take k).all okSym=true)) (fun i=>n-(intOf i).toNat)
 case atStart=>exact⟨0,rfl,by omega,rfl⟩
 case round =>
  obtain⟨k,rfl,hk,hall⟩:=hrel;by_cases hlt:k<n
  ·obtain⟨ad,x,rfl,had,hx,hcell⟩:=hrd.int1 hlt
   have Hx:=Lib.hid hx;clear hx;by_cases hs:okSym x=true
   ·have Hs:=Lib.hid hs
    clear hs;go_wp2_with fail
    refine(symbol_any x _).mono ?_;rintro e w4 ⟨rfl,rfl⟩;rw[Hs.out];go_wp2_with fail
    go_round
    case rel=>exact⟨k+1,by go_num,by omega,all_take_int l okSym k x Hx.out hall.out Hs.out⟩
    case measure=>simp[intOf];omega
   ·have Hs:=Lib.hid (Bool.eq_false_iff.2 hs)
    clear hs;go_wp2_with fail
    refine(symbol_any x _).mono ?_;rintro e w4 ⟨rfl,rfl⟩;rw[Hs.out];go_wp2_with fail
    go_ret2
    have hno:=all_false_int l okSym k x Hx.out Hs.out;have he:unpackE l limit=70:=by unfold unpackE;rw[if_pos hno]
    refine⟨_,by rw[he];rfl,?_,Below.refl _ _⟩;unfold unpack;rw[if_neg (by rw[he];decide)];exact World.ownsRow_nil _ _ _ _
  ·have hall':l.all okSym=true:=by
    have:=hall.out;rwa [List.take_of_length_le (by have:=Hln.out;omega)] at this
   have Hall:=Lib.hid hall';have he0:unpackE l limit=if count l>min limit 100000 then 3 else 0:=by unfold unpackE;rw[if_neg (by rw[hall'];decide)]
   have hcnt:count l=((min (cnt [] l) 100001:Nat):Int):=rfl;have hlen:=length_unp l [] hall';clear hall';obtain⟨M,hM,hMm⟩:∃M:Int,(if(100000:Int)<limit then 100000 else limit)=M/\min limit 100000=M:=⟨_,rfl,by split<;>omega⟩
   rw[hMm] at he0;have He0:=Lib.hid he0;have HMm:=Lib.hid hMm;clear hMm he0;rcases hcd:decide (count l>M) with _|_
   ·have hle: ¬ (count l>M):=by simpa using hcd
    clear hcd;have hu:unpackE l limit=0:=by rw[He0.out,if_neg hle]
    have hun:unpack l limit=unp [] l:=by unfold unpack;rw[if_pos hu]
    rw[hcnt] at hle;have hK:cnt [] l<=100000:=by have:=HMm.out;omega
    have hqM:((cnt [] l:Nat):Int)<=M:=by omega
    have hmin:((min (cnt [] l) 100001:Nat):Int)=(cnt [] l:Nat):=by omega
    have Hmin:=Lib.hid hmin;have Hu:=Lib.hid hu;have Hun:=Lib.hid hun;have Hlen:=Lib.hid hlen;have Hcnt:=Lib.hid hcnt;clear hu hun hlen hcnt hmin hle;go_wp2_with fail
    refine(count_any A n c l _ w.heap.size (Nat.le_refl _) hc hcm hrd).mono ?_;rintro e w5 ⟨rfl,m,rfl⟩;rw[Hcnt.out,Hmin.out];clear Hcnt Hmin;generalize hq:cnt [] l=q at *
    clear hq;go_wp2_with (at_make;(refine make0 (n:=q) (by omega) (Nat.le_refl w.heap.size) ?_);intro w1 hown1 hg1 hz1)
    have hb1:Below w.heap.size w w1:=(below_drewN (Below.refl _ _) m).grown hg1 (Nat.le_refl _) (by simp);clear hg1 hz1;go_loopw [0,9] (fun s o wr=>∃(A':Option Addr) (n' c':Nat) (l':List Int) (acc:List Int),s=.slice A' n' c'/\n'<=c'/\c'<=maxLen/\Rd wr w.heap.size 1 A' n' (l'.map (Value.int .i64)) /\
     Own wr w.heap.size o acc/\Below w.heap.size w wr/\Hid (acc++unp [] l'=unp [] l)/\Hid (l'.all okSym=true)) (fun s _ _=>lenV s)
    case atStart=>exact⟨A,n,c,l,[],rfl,hc,hcm,hrd.below hb1,hown1,hb1,rfl,Hall⟩
    case round =>
     obtain⟨A',n',c',l',acc,rfl,hc',hcm',hrd',gown,gb,htot,hsy⟩:=hrel;have hln':l'.length=n':=by simpa using hrd'.len
     have Hln':=Lib.hid hln';clear hln';have hB:=gb.size;have hal:acc.length<=q:=by
      have:=congrArg List.length htot.out;rw[List.length_append,Hlen.out] at this;omega
     by_cases hlt':0<n'
     ·have hrl:=rl_le l'
      rw[Hln'.out] at hrl;go_wp2_with fail
      refine(run_any A' n' c' l' _ w.heap.size hc' hcm' hrd').mono ?_;rintro e w2 ⟨A1,A2,m2,rfl,rfl,r1,r2⟩;have hur:=unp_run l';have hdl:(l'.dropWhile isDig).length=n'-rl l':=by simpa using r2.len
      have htw:(l'.takeWhile isDig).all isDig=true:=List.all_takeWhile ..;generalize l'.takeWhile isDig=d at *
      have hvd:acc.length+val d<=q:=by
       have:=congrArg List.length htot.out;rw[List.length_append,Hlen.out,hur,List.length_append,List.length_replicate] at this;omega
      have hmv:((min (val d) 100001:Nat):Int)=(val d:Nat):=by omega
      have Hur:=Lib.hid hur;have Htw:=Lib.hid htw;have Hmv:=Lib.hid hmv;clear hur htw hmv;have gdn:Own (wr.drewN m2) w.heap.size _ acc:=gown;have gbn:Below w.heap.size w (wr.drewN m2):=below_drewN gb m2;have hszn:(wr.drewN m2).heap.size=wr.heap.size:=rfl;rcases hrest:l'.dropWhile isDig with _|⟨x,rest⟩
      ·rw[hrest] at hdl Hur r2
       have hn0:n'-rl l'=0:=by simpa using hdl.symm
       have Hdl:=Lib.hid hdl;have Hn0:=Lib.hid hn0;clear hrest hdl hn0 hszn;go_wp2_with fail
       refine(value_any A1 _ _ d _ w.heap.size (by unfold maxLen at hcm' ⊢;omega) Htw.out r1).mono ?_;rintro e w3 ⟨rfl,rfl⟩;rw[Hmv.out];have hn0:=Hn0.out;go_wp2_with (at_builtin;(refine appendZ (val d) rfl gdn (by omega) gbn.size ?_);intro A3 n3 c3 w3 hn3 hown3 hb3 hg3 _)
       refine⟨⟨A2,0,c'-rl l',[],acc++List.replicate (val d) 0,rfl,by omega,by omega,Rd.nil,hown3,gbn.trans hb3,?_,rfl⟩,by simp[lenV];omega⟩;have h1:=htot.out;rw[Hur.out] at h1;show(acc++List.replicate (val d) 0)++unp [] []=_
       rw[<-h1];simp[unp,unpTail,val]
      ·rw[hrest] at hdl Hur r2
       have hn0:rl l'<n':=by
        have:0<n'-rl l':=by rw[<-hdl];simp
        omega
       have hre:rest.length=n'-rl l'-1:=by rw[<-hdl];simp
       have hxr:okSym x=true/\rest.all okSym=true:=by
        have h2:(x::rest).all okSym=true:=by
         rw[<-hrest,List.all_eq_true];exact fun y hy=>List.all_eq_true.1 hsy.out y ((List.dropWhile_sublist isDig).mem hy)
        simpa using h2
       have hxb:0<=x/\x<=256:=by simpa[okSym] using hxr.1
       have Hsr:=Lib.hid hxr.2;clear hxr;obtain⟨ad2,x',rfl,had2,hx',hcell⟩:=r2.int1 (k:=0) (by omega);simp at hx'
       subst hx';have hcell0:=hcell;rw[show ad2.add 0=ad2 by simp[Addr.add]] at hcell0;have Hdl:=Lib.hid hdl;have Hre:=Lib.hid hre;clear hrest hdl hre hszn;go_wp2_with fail
       refine(value_any A1 _ _ d _ w.heap.size (by unfold maxLen at hcm' ⊢;omega) Htw.out r1).mono ?_;rintro e w3 ⟨rfl,rfl⟩;rw[Hmv.out];have htl:acc.length+val d+1<=q:=by
        have:=congrArg List.length htot.out;rw[List.length_append,Hlen.out,Hur.out,List.length_append,List.length_replicate,unpTail,List.length_cons] at this;omega
       have r3:=r2.drop (k:=1) (cap:=c'-rl l') (by omega) (by omega);go_wp2_with (first
        |(at_builtin;(refine appendZ (val d) rfl gdn (by omega) gbn.size ?_);intro A3 n3 c3 w3 hn3 hown3 hb3 hg3 _;have hc3:=(hb3.cell (p:=ad2) had2).trans hcell0)
        |(at_builtin;(refine append1 hown3 (by simp;omega) (Nat.le_trans gbn.size hb3.size) ?_);intro A4 n4 c4 w4 hn4 hown4 hb4 hg4 _))
       refine⟨⟨_,n'-rl l'-1,c'-rl l'-1,rest,_,rfl,by omega,by omega,?_,hown4,(gbn.trans hb3).trans hb4,?_,Hsr⟩,by simp[lenV];omega⟩
       ·have r4:=(r3.below hb3).below hb4
        simpa[Addr.add] using r4
       ·have h1:=htot.out
        rw[Hur.out] at h1;show((acc++List.replicate (val d) 0)++[x-1])++unp [] rest=_
        rw[<-h1];simp[unpTail]
     ·have hl':l'=[]:=List.eq_nil_of_length_eq_zero (by rw[Hln'.out];omega)
      have h1:=htot.out;rw[hl'] at h1;have H1:=Lib.hid h1;clear h1 hl';go_wp2_with fail
      go_ret2
      rw[Hu.out,Hun.out,<-H1.out];refine⟨_,rfl,?_,gb⟩;simpa[unp,val] using gown
   ·have hle:count l>M:=by simpa using hcd
    clear hcd;have hu:unpackE l limit=3:=by rw[He0.out,if_pos hle]
    have hun:unpack l limit=[]:=by unfold unpack;rw[if_neg (by rw[hu];decide)]
    have Hu:=Lib.hid hu;have Hun:=Lib.hid hun;clear hu hun hcnt hlen;go_wp2_with fail
    refine(count_any A n c l _ w.heap.size (Nat.le_refl _) hc hcm hrd).mono ?_;rintro e w5 ⟨rfl,m,rfl⟩;go_wp2_with fail
    go_ret2
    rw[Hu.out,Hun.out];exact⟨_,rfl,World.ownsRow_nil _ _ _ _,below_drewN (Below.refl _ _) m⟩
end Zr
end Go.Proofs.YtjligbmickfbdaaGreat
namespace Go.Proofs.YtjligbmickfbdaaGreat
namespace St
variable {α:Type} (key:α->Int)
def mrg:List α->List α->List α
 | [],R=>R
 |x::L,[]=>x::L
 |x::L,y::R=>if key y<key x then y::mrg (x::L) R else x::mrg L (y::R)
termination_by L R=>L.length+R.length
theorem mrg_nil_left (R:List α):mrg key [] R=R:=by rw[mrg]
theorem mrg_nil_right (L:List α):mrg key L []=L:=by cases L<;>rw[mrg]
theorem mrg_lt {x y:α} {L R:List α} (h:key y<key x):mrg key (x::L) (y::R)=y::mrg key (x::L) R:=by rw[mrg,if_pos h]
theorem mrg_ge {x y:α} {L R:List α} (h: ¬ key y<key x):mrg key (x::L) (y::R)=x::mrg key L (y::R):=by rw[mrg,if_neg h]
theorem mrg_split:∀(n:Nat) (L1 L2 R1 R2:List α),L1.length+R1.length<=n->(∀y∈R1,∀x∈L2,key y<key x)->(∀x∈L1,∀y∈R2,¬ key y<key x) ->
  mrg key (L1++L2) (R1++R2)=mrg key L1 R1++mrg key L2 R2:=by
 intro n
 induction n with
 |zero =>
  intro L1 L2 R1 R2 hn _ _;have h1:L1=[]:=List.eq_nil_of_length_eq_zero (by omega);have h2:R1=[]:=List.eq_nil_of_length_eq_zero (by omega);subst h1;subst h2;simp[mrg_nil_left]
 |succ n ih =>
  intro L1 L2 R1 R2 hn h1 h2;rcases L1 with _|⟨x,L1⟩
  ·rcases R1 with _|⟨y,R1⟩
   ·simp[mrg_nil_left]
   ·rcases L2 with _|⟨x,L2⟩
    ·simp[mrg_nil_left]
    ·rw[List.nil_append,List.cons_append,mrg_lt key (h1 y (by simp) x (by simp)),mrg_nil_left]
     have:=ih [] (x::L2) R1 R2 (by simp at hn ⊢;omega) (fun y hy=>h1 y (by simp[hy])) (by simp);rw[List.nil_append,mrg_nil_left] at this;rw[this];rfl
  ·rcases R1 with _|⟨y,R1⟩
   ·rcases R2 with _|⟨y,R2⟩
    ·simp[mrg_nil_right]
    ·rw[List.nil_append,List.cons_append,mrg_ge key (h2 x (by simp) y (by simp)),mrg_nil_right]
     have:=ih L1 L2 [] (y::R2) (by simp at hn ⊢;omega) (by simp) (fun x hx=>h2 x (by simp[hx]));rw[List.nil_append,mrg_nil_right] at this;rw[this];rfl
   ·simp only[List.cons_append]
    by_cases h:key y<key x
    ·rw[mrg_lt key h,mrg_lt key h]
     have:=ih (x::L1) L2 R1 R2 (by simp at hn ⊢;omega) (fun y hy=>h1 y (by simp[hy])) h2;rw[List.cons_append] at this;rw[this];rfl
    ·rw[mrg_ge key h,mrg_ge key h]
     have:=ih L1 L2 (y::R1) R2 (by simp at hn ⊢;omega) h1 (fun x hx=>h2 x (by simp[hx]));rw[List.cons_append] at this;rw[this];rfl
theorem mrg_split' (L1 L2 R1 R2:List α) (h1:∀y∈R1,∀x∈L2,key y<key x) (h2:∀x∈L1,∀y∈R2,¬ key y<key x) :
  mrg key (L1++L2) (R1++R2)=mrg key L1 R1++mrg key L2 R2:=mrg_split key _ L1 L2 R1 R2 (Nat.le_refl _) h1 h2
theorem mrg_assoc:∀(n:Nat) (A B C:List α),A.length+B.length+C.length<=n->mrg key (mrg key A B) C=mrg key A (mrg key B C):=by
 intro n
 induction n with
 |zero =>
  intro A B C hn;have h1:A=[]:=List.eq_nil_of_length_eq_zero (by omega);subst h1;simp[mrg_nil_left]
 |succ n ih =>
  intro A B C hn;rcases A with _|⟨a,A⟩
  ·simp[mrg_nil_left]
  rcases B with _|⟨b,B⟩
  ·simp[mrg_nil_left,mrg_nil_right]
  rcases C with _|⟨c,C⟩
  ·simp[mrg_nil_right]
  simp only[List.length_cons] at hn;by_cases hba:key b<key a
  ·rw[mrg_lt key hba]
   by_cases hcb:key c<key b
   ·rw[mrg_lt key hcb,mrg_lt key hcb,mrg_lt key (show key c<key a by omega),<-mrg_lt key hba,ih (a::A) (b::B) C (by simp;omega)]
   ·rw[mrg_ge key hcb,mrg_ge key hcb,mrg_lt key hba,ih (a::A) B (c::C) (by simp;omega)]
  ·rw[mrg_ge key hba]
   by_cases hca:key c<key a
   ·rw[mrg_lt key hca,mrg_lt key (show key c<key b by omega),mrg_lt key hca,<-mrg_ge key hba,ih (a::A) (b::B) C (by simp;omega)]
   ·rw[mrg_ge key hca,ih A (b::B) (c::C) (by simp;omega)]
    by_cases hcb:key c<key b
    ·rw[mrg_lt key hcb,mrg_ge key hca]
    ·rw[mrg_ge key hcb,mrg_ge key hba]
def stab (l:List α):List α:=l.foldr (fun x acc=>mrg key [x] acc) []
theorem stab_nil:stab key ([]:List α)=[]:=rfl
theorem stab_cons (x:α) (l:List α):stab key (x::l)=mrg key [x] (stab key l):=rfl
theorem stab_one (x:α):stab key [x]=[x]:=by rw[stab_cons,stab_nil,mrg_nil_right]
theorem mrg_stab:∀(A B:List α),mrg key (stab key A) (stab key B)=stab key (A++B)
 | [],B=>by rw[stab_nil,mrg_nil_left,List.nil_append]
 |x::A,B=>by rw[stab_cons,mrg_assoc key _ _ _ _ (Nat.le_refl _),mrg_stab A B,List.cons_append,stab_cons]
theorem mrg_perm:∀(n:Nat) (L R:List α),L.length+R.length<=n->(mrg key L R).Perm (L++R):=by
 intro n
 induction n with
 |zero =>
  intro L R hn;have h1:L=[]:=List.eq_nil_of_length_eq_zero (by omega);subst h1;rw[mrg_nil_left];exact List.Perm.refl _
 |succ n ih =>
  intro L R hn;rcases L with _|⟨x,L⟩
  ·rw[mrg_nil_left];exact List.Perm.refl _
  rcases R with _|⟨y,R⟩
  ·rw[mrg_nil_right,List.append_nil]
  simp only[List.length_cons] at hn;by_cases h:key y<key x
  ·rw[mrg_lt key h]
   exact((ih (x::L) R (by simp;omega)).cons y).trans List.perm_middle.symm
  ·rw[mrg_ge key h]
   exact(ih L (y::R) (by simp;omega)).cons x
theorem mrg_perm' (L R:List α):(mrg key L R).Perm (L++R):=mrg_perm key _ L R (Nat.le_refl _)
theorem length_mrg (L R:List α):(mrg key L R).length=L.length+R.length:=by rw[(mrg_perm' key L R).length_eq,List.length_append]
theorem stab_perm:∀(l:List α),(stab key l).Perm l
 | []=>List.Perm.refl _
 |x::l=>by
  rw[stab_cons];exact(mrg_perm' key [x] (stab key l)).trans ((stab_perm l).cons x)
theorem length_stab (l:List α):(stab key l).length=l.length:=(stab_perm key l).length_eq
def Srt (l:List α):Prop:=l.Pairwise fun a b=>key a<=key b
theorem mrg_srt:∀(n:Nat) (L R:List α),L.length+R.length<=n->Srt key L->Srt key R->Srt key (mrg key L R):=by
 intro n
 induction n with
 |zero =>
  intro L R hn _ hR;have h1:L=[]:=List.eq_nil_of_length_eq_zero (by omega);subst h1;rw[mrg_nil_left];exact hR
 |succ n ih =>
  intro L R hn hL hR;rcases L with _|⟨x,L⟩
  ·rw[mrg_nil_left];exact hR
  rcases R with _|⟨y,R⟩
  ·rw[mrg_nil_right];exact hL
  simp only[List.length_cons] at hn;have hL':=List.pairwise_cons.1 hL;have hR':=List.pairwise_cons.1 hR;by_cases h:key y<key x
  ·rw[mrg_lt key h]
   refine List.pairwise_cons.2 ⟨fun z hz=>?_,ih (x::L) R (by simp;omega) hL hR'.2⟩;have hz':=(mrg_perm' key (x::L) R).mem_iff.1 hz;rcases List.mem_append.1 hz' with hz'|hz'
   ·rcases List.mem_cons.1 hz' with rfl|hz'
    ·omega
    ·have:=hL'.1 z hz';omega
   ·exact hR'.1 z hz'
  ·rw[mrg_ge key h]
   refine List.pairwise_cons.2 ⟨fun z hz=>?_,ih L (y::R) (by simp;omega) hL'.2 hR⟩;have hz':=(mrg_perm' key L (y::R)).mem_iff.1 hz;rcases List.mem_append.1 hz' with hz'|hz'
   ·exact hL'.1 z hz'
   ·rcases List.mem_cons.1 hz' with rfl|hz'
    ·omega
    ·have:=hR'.1 z hz';omega
theorem mrg_srt' {L R:List α} (hL:Srt key L) (hR:Srt key R):Srt key (mrg key L R):=mrg_srt key _ L R (Nat.le_refl _) hL hR
theorem stab_srt:∀(l:List α),Srt key (stab key l)
 | []=>List.Pairwise.nil
 |x::l=>by
  rw[stab_cons];exact mrg_srt' key (List.pairwise_singleton _ _) (stab_srt l)
theorem mrg_one (S1 S2:List α) (x:α) (h1:∀s∈S1,key s<=key x) (h2:∀s∈S2,key x<key s):mrg key (S1++S2) [x]=S1++x::S2:=by
 have h:=mrg_split' key S1 S2 [] [x] (by simp) (by intro s hs y hy;simp at hy;subst hy;have:=h1 s hs;omega);rw[List.nil_append,mrg_nil_right] at h;rw[h];congr 1;rcases S2 with _|⟨s,S2⟩
 ·rw[mrg_nil_left]
 ·rw[mrg_lt key (h2 s (by simp)),mrg_nil_right]
theorem one_mrg (R1 R2:List α) (x:α) (h1:∀s∈R1,key s<key x) (h2:∀s∈R2,key x<=key s):mrg key [x] (R1++R2)=R1++x::R2:=by
 have h:=mrg_split' key [] [x] R1 R2 (by intro y hy z hz;simp at hz;subst hz;exact h1 y hy) (by simp);rw[List.nil_append,mrg_nil_left] at h;rw[h];congr 1;rcases R2 with _|⟨s,R2⟩
 ·rw[mrg_nil_right]
 ·rw[mrg_ge key (by have:=h2 s (by simp);omega),mrg_nil_left]
end St
end Go.Proofs.YtjligbmickfbdaaGreat
