/- head.alone. Whole arrays: made, built, boxed, stored, as laws for a walk: no cell is opened. api.Meta as a value, and in a block. -/
import Derived.Test.YtejcdhdfanfkbaaGreatFb05
import Derived.Test.YtejcdhdfanfkbaaGreatFb01
import Derived.Deep.WholeRow
import Derived.Deep.MidRow
import Derived.Test.YtejcdhdfanfkbaaGreatRows
import Derived.Test.YtejcdhdfanfkbaaGreatFb02
namespace Go.Proofs.YtejcdhdfanfkbaaGreat
namespace Hd
open Go.RowKit
def aloneB (a s r c f e l:Int):Bool:=decide ((0<=a/\a<=1000000)/\(10<=s/\s<=60009)/\(1<=r/\r<=20000)/\(1<=c/\c<=r)/\(1<=f/\f<=1000000001-c)/\0<=e/\(e<=l/\l<=1000000000))
set_option maxHeartbeats 3200000 in
set_option maxRecDepth 100000 in
theorem alone_no0 (a s r c f e l:Int) (w:World) (h0: ¬ (0<=a/\a<=1000000)) :
  Calls Tryz.prog 224 #[.agg #[.int .i64 a,.int .i64 s,.int .i64 r,.int .i64 c,.int .i64 f,.int .i64 e,.int .i64 l]] w fun e' w'=>e'=.returned (.bool false)/\Below w.heap.size w w':=by
 have mixed:Tryz.prog.follows .mixedOrders=true:=by kernel_rfl
 have H0:=Lib.hid (fun(wx:World)=>(within_any a 0 1000000 wx).mono (R':=fun e w'=>e=.returned (.bool false)/\wx=w') (fun e w' hh=>⟨by rw[hh.1,inB_no (by omega)],hh.2⟩));have HB:=Lib.hid (ext_alloc w (.cells #[.int .i64 a,.int .i64 s,.int .i64 r,.int .i64 c,.int .i64 f,.int .i64 e,.int .i64 l] 154));clear h0
 go_enter Tryz.func224, Tryz.ntmps224
 go_wp2_with fail
 refine(H0.out _).mono ?_;rintro e0 w0 ⟨rfl,rfl⟩;go_wp2_with fail
 go_ret
 exact⟨rfl,HB.out⟩
set_option maxHeartbeats 3200000 in
set_option maxRecDepth 100000 in
theorem alone_no1 (a s r c f e l:Int) (w:World) (h0:0<=a/\a<=1000000) (h1: ¬ (10<=s/\s<=60009)) :
  Calls Tryz.prog 224 #[.agg #[.int .i64 a,.int .i64 s,.int .i64 r,.int .i64 c,.int .i64 f,.int .i64 e,.int .i64 l]] w fun e' w'=>e'=.returned (.bool false)/\Below w.heap.size w w':=by
 have mixed:Tryz.prog.follows .mixedOrders=true:=by kernel_rfl
 have H0:=Lib.hid (fun(wx:World)=>(within_any a 0 1000000 wx).mono (R':=fun e w'=>e=.returned (.bool true)/\wx=w') (fun e w' hh=>⟨by rw[hh.1,(inB_iff ..).2 (by omega)],hh.2⟩));have H1:=Lib.hid (fun(wx:World)=>(within_any s 10 60009 wx).mono (R':=fun e w'=>e=.returned (.bool false)/\wx=w') (fun e w' hh=>⟨by rw[hh.1,inB_no (by omega)],hh.2⟩));have HB:=Lib.hid (ext_alloc w (.cells #[.int .i64 a,.int .i64 s,.int .i64 r,.int .i64 c,.int .i64 f,.int .i64 e,.int .i64 l] 154));clear h0 h1
 go_enter Tryz.func224, Tryz.ntmps224
 go_wp2_with fail
 refine(H0.out _).mono ?_;rintro e0 w0 ⟨rfl,rfl⟩;go_wp2_with fail
 refine(H1.out _).mono ?_;rintro e1 w1 ⟨rfl,rfl⟩;go_wp2_with fail
 go_ret
 exact⟨rfl,HB.out⟩
set_option maxHeartbeats 3200000 in
set_option maxRecDepth 100000 in
theorem alone_no2 (a s r c f e l:Int) (w:World) (h0:0<=a/\a<=1000000) (h1:10<=s/\s<=60009) (h2: ¬ (1<=r/\r<=20000)) :
  Calls Tryz.prog 224 #[.agg #[.int .i64 a,.int .i64 s,.int .i64 r,.int .i64 c,.int .i64 f,.int .i64 e,.int .i64 l]] w fun e' w'=>e'=.returned (.bool false)/\Below w.heap.size w w':=by
 have mixed:Tryz.prog.follows .mixedOrders=true:=by kernel_rfl
 have H0:=Lib.hid (fun(wx:World)=>(within_any a 0 1000000 wx).mono (R':=fun e w'=>e=.returned (.bool true)/\wx=w') (fun e w' hh=>⟨by rw[hh.1,(inB_iff ..).2 (by omega)],hh.2⟩));have H1:=Lib.hid (fun(wx:World)=>(within_any s 10 60009 wx).mono (R':=fun e w'=>e=.returned (.bool true)/\wx=w') (fun e w' hh=>⟨by rw[hh.1,(inB_iff ..).2 (by omega)],hh.2⟩));have H2:=Lib.hid (fun(wx:World)=>(within_any r 1 20000 wx).mono (R':=fun e w'=>e=.returned (.bool false)/\wx=w') (fun e w' hh=>⟨by rw[hh.1,inB_no (by omega)],hh.2⟩));have HB:=Lib.hid (ext_alloc w (.cells #[.int .i64 a,.int .i64 s,.int .i64 r,.int .i64 c,.int .i64 f,.int .i64 e,.int .i64 l] 154));clear h0 h1 h2
 go_enter Tryz.func224, Tryz.ntmps224
 go_wp2_with fail
 refine(H0.out _).mono ?_;rintro e0 w0 ⟨rfl,rfl⟩;go_wp2_with fail
 refine(H1.out _).mono ?_;rintro e1 w1 ⟨rfl,rfl⟩;go_wp2_with fail
 refine(H2.out _).mono ?_;rintro e2 w2 ⟨rfl,rfl⟩;go_wp2_with fail
 go_ret
 exact⟨rfl,HB.out⟩
set_option maxHeartbeats 3200000 in
set_option maxRecDepth 100000 in
theorem alone_no3 (a s r c f e l:Int) (w:World) (h0:0<=a/\a<=1000000) (h1:10<=s/\s<=60009) (h2:1<=r/\r<=20000) (h3: ¬ (1<=c/\c<=r)) :
  Calls Tryz.prog 224 #[.agg #[.int .i64 a,.int .i64 s,.int .i64 r,.int .i64 c,.int .i64 f,.int .i64 e,.int .i64 l]] w fun e' w'=>e'=.returned (.bool false)/\Below w.heap.size w w':=by
 have mixed:Tryz.prog.follows .mixedOrders=true:=by kernel_rfl
 have H0:=Lib.hid (fun(wx:World)=>(within_any a 0 1000000 wx).mono (R':=fun e w'=>e=.returned (.bool true)/\wx=w') (fun e w' hh=>⟨by rw[hh.1,(inB_iff ..).2 (by omega)],hh.2⟩));have H1:=Lib.hid (fun(wx:World)=>(within_any s 10 60009 wx).mono (R':=fun e w'=>e=.returned (.bool true)/\wx=w') (fun e w' hh=>⟨by rw[hh.1,(inB_iff ..).2 (by omega)],hh.2⟩));have H2:=Lib.hid (fun(wx:World)=>(within_any r 1 20000 wx).mono (R':=fun e w'=>e=.returned (.bool true)/\wx=w') (fun e w' hh=>⟨by rw[hh.1,(inB_iff ..).2 (by omega)],hh.2⟩));have H3:=Lib.hid (fun(wx:World)=>(within_any c 1 r wx).mono (R':=fun e w'=>e=.returned (.bool false)/\wx=w') (fun e w' hh=>⟨by rw[hh.1,inB_no (by omega)],hh.2⟩));have HB:=Lib.hid (ext_alloc w (.cells #[.int .i64 a,.int .i64 s,.int .i64 r,.int .i64 c,.int .i64 f,.int .i64 e,.int .i64 l] 154));clear h0 h1 h2 h3
 go_enter Tryz.func224, Tryz.ntmps224
 go_wp2_with fail
 refine(H0.out _).mono ?_;rintro e0 w0 ⟨rfl,rfl⟩;go_wp2_with fail
 refine(H1.out _).mono ?_;rintro e1 w1 ⟨rfl,rfl⟩;go_wp2_with fail
 refine(H2.out _).mono ?_;rintro e2 w2 ⟨rfl,rfl⟩;go_wp2_with fail
 refine(H3.out _).mono ?_;rintro e3 w3 ⟨rfl,rfl⟩;go_wp2_with fail
 go_ret
 exact⟨rfl,HB.out⟩
set_option maxHeartbeats 3200000 in
set_option maxRecDepth 100000 in
theorem alone_no4 (a s r c f e l:Int) (w:World) (h0:0<=a/\a<=1000000) (h1:10<=s/\s<=60009) (h2:1<=r/\r<=20000) (h3:1<=c/\c<=r) (h4: ¬ (1<=f/\f<=(1000000001-c))) :
  Calls Tryz.prog 224 #[.agg #[.int .i64 a,.int .i64 s,.int .i64 r,.int .i64 c,.int .i64 f,.int .i64 e,.int .i64 l]] w fun e' w'=>e'=.returned (.bool false)/\Below w.heap.size w w':=by
 have mixed:Tryz.prog.follows .mixedOrders=true:=by kernel_rfl
 have H0:=Lib.hid (fun(wx:World)=>(within_any a 0 1000000 wx).mono (R':=fun e w'=>e=.returned (.bool true)/\wx=w') (fun e w' hh=>⟨by rw[hh.1,(inB_iff ..).2 (by omega)],hh.2⟩));have H1:=Lib.hid (fun(wx:World)=>(within_any s 10 60009 wx).mono (R':=fun e w'=>e=.returned (.bool true)/\wx=w') (fun e w' hh=>⟨by rw[hh.1,(inB_iff ..).2 (by omega)],hh.2⟩));have H2:=Lib.hid (fun(wx:World)=>(within_any r 1 20000 wx).mono (R':=fun e w'=>e=.returned (.bool true)/\wx=w') (fun e w' hh=>⟨by rw[hh.1,(inB_iff ..).2 (by omega)],hh.2⟩));have H3:=Lib.hid (fun(wx:World)=>(within_any c 1 r wx).mono (R':=fun e w'=>e=.returned (.bool true)/\wx=w') (fun e w' hh=>⟨by rw[hh.1,(inB_iff ..).2 (by omega)],hh.2⟩));have H4:=Lib.hid (fun(wx:World)=>(within_any f 1 (1000000001-c) wx).mono (R':=fun e w'=>e=.returned (.bool false)/\wx=w') (fun e w' hh=>⟨by rw[hh.1,inB_no (by omega)],hh.2⟩));have q1:IntKind.i64.wrap (1000000001-c)=1000000001-c:=by rw[IntKind.wrap_i64];omega
 have HB:=Lib.hid (ext_alloc w (.cells #[.int .i64 a,.int .i64 s,.int .i64 r,.int .i64 c,.int .i64 f,.int .i64 e,.int .i64 l] 154));clear h0 h1 h2 h3 h4
 go_enter Tryz.func224, Tryz.ntmps224
 go_wp2_with fail
 refine(H0.out _).mono ?_;rintro e0 w0 ⟨rfl,rfl⟩;go_wp2_with fail
 refine(H1.out _).mono ?_;rintro e1 w1 ⟨rfl,rfl⟩;go_wp2_with fail
 refine(H2.out _).mono ?_;rintro e2 w2 ⟨rfl,rfl⟩;go_wp2_with fail
 refine(H3.out _).mono ?_;rintro e3 w3 ⟨rfl,rfl⟩;go_wp2_with fail
 refine(H4.out _).mono ?_;rintro e4 w4 ⟨rfl,rfl⟩;go_wp2_with fail
 go_ret
 exact⟨rfl,HB.out⟩
set_option maxHeartbeats 3200000 in
set_option maxRecDepth 100000 in
theorem alone_no5 (a s r c f e l:Int) (w:World) (h0:0<=a/\a<=1000000) (h1:10<=s/\s<=60009) (h2:1<=r/\r<=20000) (h3:1<=c/\c<=r) (h4:1<=f/\f<=(1000000001-c)) (h5: ¬ 0<=e) :
  Calls Tryz.prog 224 #[.agg #[.int .i64 a,.int .i64 s,.int .i64 r,.int .i64 c,.int .i64 f,.int .i64 e,.int .i64 l]] w fun e' w'=>e'=.returned (.bool false)/\Below w.heap.size w w':=by
 have mixed:Tryz.prog.follows .mixedOrders=true:=by kernel_rfl
 have H0:=Lib.hid (fun(wx:World)=>(within_any a 0 1000000 wx).mono (R':=fun e w'=>e=.returned (.bool true)/\wx=w') (fun e w' hh=>⟨by rw[hh.1,(inB_iff ..).2 (by omega)],hh.2⟩));have H1:=Lib.hid (fun(wx:World)=>(within_any s 10 60009 wx).mono (R':=fun e w'=>e=.returned (.bool true)/\wx=w') (fun e w' hh=>⟨by rw[hh.1,(inB_iff ..).2 (by omega)],hh.2⟩));have H2:=Lib.hid (fun(wx:World)=>(within_any r 1 20000 wx).mono (R':=fun e w'=>e=.returned (.bool true)/\wx=w') (fun e w' hh=>⟨by rw[hh.1,(inB_iff ..).2 (by omega)],hh.2⟩));have H3:=Lib.hid (fun(wx:World)=>(within_any c 1 r wx).mono (R':=fun e w'=>e=.returned (.bool true)/\wx=w') (fun e w' hh=>⟨by rw[hh.1,(inB_iff ..).2 (by omega)],hh.2⟩));have H4:=Lib.hid (fun(wx:World)=>(within_any f 1 (1000000001-c) wx).mono (R':=fun e w'=>e=.returned (.bool true)/\wx=w') (fun e w' hh=>⟨by rw[hh.1,(inB_iff ..).2 (by omega)],hh.2⟩));have q1:IntKind.i64.wrap (1000000001-c)=1000000001-c:=by rw[IntKind.wrap_i64];omega
 have HB:=Lib.hid (ext_alloc w (.cells #[.int .i64 a,.int .i64 s,.int .i64 r,.int .i64 c,.int .i64 f,.int .i64 e,.int .i64 l] 154));clear h0 h1 h2 h3 h4
 go_enter Tryz.func224, Tryz.ntmps224
 go_wp2_with fail
 refine(H0.out _).mono ?_;rintro e0 w0 ⟨rfl,rfl⟩;go_wp2_with fail
 refine(H1.out _).mono ?_;rintro e1 w1 ⟨rfl,rfl⟩;go_wp2_with fail
 refine(H2.out _).mono ?_;rintro e2 w2 ⟨rfl,rfl⟩;go_wp2_with fail
 refine(H3.out _).mono ?_;rintro e3 w3 ⟨rfl,rfl⟩;go_wp2_with fail
 refine(H4.out _).mono ?_;rintro e4 w4 ⟨rfl,rfl⟩;go_wp2_with fail
 go_ret
 exact⟨rfl,HB.out⟩
set_option maxHeartbeats 3200000 in
set_option maxRecDepth 100000 in
theorem alone_no6 (a s r c f e l:Int) (w:World) (h0:0<=a/\a<=1000000) (h1:10<=s/\s<=60009) (h2:1<=r/\r<=20000) (h3:1<=c/\c<=r) (h4:1<=f/\f<=(1000000001-c)) (h5:0<=e) (h6: ¬ (e<=l/\l<=1000000000)) :
  Calls Tryz.prog 224 #[.agg #[.int .i64 a,.int .i64 s,.int .i64 r,.int .i64 c,.int .i64 f,.int .i64 e,.int .i64 l]] w fun e' w'=>e'=.returned (.bool false)/\Below w.heap.size w w':=by
 have mixed:Tryz.prog.follows .mixedOrders=true:=by kernel_rfl
 have H0:=Lib.hid (fun(wx:World)=>(within_any a 0 1000000 wx).mono (R':=fun e w'=>e=.returned (.bool true)/\wx=w') (fun e w' hh=>⟨by rw[hh.1,(inB_iff ..).2 (by omega)],hh.2⟩));have H1:=Lib.hid (fun(wx:World)=>(within_any s 10 60009 wx).mono (R':=fun e w'=>e=.returned (.bool true)/\wx=w') (fun e w' hh=>⟨by rw[hh.1,(inB_iff ..).2 (by omega)],hh.2⟩));have H2:=Lib.hid (fun(wx:World)=>(within_any r 1 20000 wx).mono (R':=fun e w'=>e=.returned (.bool true)/\wx=w') (fun e w' hh=>⟨by rw[hh.1,(inB_iff ..).2 (by omega)],hh.2⟩));have H3:=Lib.hid (fun(wx:World)=>(within_any c 1 r wx).mono (R':=fun e w'=>e=.returned (.bool true)/\wx=w') (fun e w' hh=>⟨by rw[hh.1,(inB_iff ..).2 (by omega)],hh.2⟩));have H4:=Lib.hid (fun(wx:World)=>(within_any f 1 (1000000001-c) wx).mono (R':=fun e w'=>e=.returned (.bool true)/\wx=w') (fun e w' hh=>⟨by rw[hh.1,(inB_iff ..).2 (by omega)],hh.2⟩));have H5:=Lib.hid (fun(wx:World)=>(within_any l e 1000000000 wx).mono (R':=fun e w'=>e=.returned (.bool false)/\wx=w') (fun e w' hh=>⟨by rw[hh.1,inB_no (by omega)],hh.2⟩));have q1:IntKind.i64.wrap (1000000001-c)=1000000001-c:=by rw[IntKind.wrap_i64];omega
 have HB:=Lib.hid (ext_alloc w (.cells #[.int .i64 a,.int .i64 s,.int .i64 r,.int .i64 c,.int .i64 f,.int .i64 e,.int .i64 l] 154));clear h0 h1 h2 h3 h4 h6
 go_enter Tryz.func224, Tryz.ntmps224
 go_wp2_with fail
 refine(H0.out _).mono ?_;rintro e0 w0 ⟨rfl,rfl⟩;go_wp2_with fail
 refine(H1.out _).mono ?_;rintro e1 w1 ⟨rfl,rfl⟩;go_wp2_with fail
 refine(H2.out _).mono ?_;rintro e2 w2 ⟨rfl,rfl⟩;go_wp2_with fail
 refine(H3.out _).mono ?_;rintro e3 w3 ⟨rfl,rfl⟩;go_wp2_with fail
 refine(H4.out _).mono ?_;rintro e4 w4 ⟨rfl,rfl⟩;go_wp2_with fail
 refine(H5.out _).mono ?_;rintro e5 w5 ⟨rfl,rfl⟩;go_wp2_with fail
 go_ret
 exact⟨rfl,HB.out⟩
set_option maxHeartbeats 3200000 in
set_option maxRecDepth 100000 in
theorem alone_yes (a s r c f e l:Int) (w:World) (h0:0<=a/\a<=1000000) (h1:10<=s/\s<=60009) (h2:1<=r/\r<=20000) (h3:1<=c/\c<=r) (h4:1<=f/\f<=(1000000001-c)) (h5:0<=e) (h6:e<=l/\l<=1000000000) :
  Calls Tryz.prog 224 #[.agg #[.int .i64 a,.int .i64 s,.int .i64 r,.int .i64 c,.int .i64 f,.int .i64 e,.int .i64 l]] w fun e' w'=>e'=.returned (.bool true)/\Below w.heap.size w w':=by
 have mixed:Tryz.prog.follows .mixedOrders=true:=by kernel_rfl
 have H0:=Lib.hid (fun(wx:World)=>(within_any a 0 1000000 wx).mono (R':=fun e w'=>e=.returned (.bool true)/\wx=w') (fun e w' hh=>⟨by rw[hh.1,(inB_iff ..).2 (by omega)],hh.2⟩));have H1:=Lib.hid (fun(wx:World)=>(within_any s 10 60009 wx).mono (R':=fun e w'=>e=.returned (.bool true)/\wx=w') (fun e w' hh=>⟨by rw[hh.1,(inB_iff ..).2 (by omega)],hh.2⟩));have H2:=Lib.hid (fun(wx:World)=>(within_any r 1 20000 wx).mono (R':=fun e w'=>e=.returned (.bool true)/\wx=w') (fun e w' hh=>⟨by rw[hh.1,(inB_iff ..).2 (by omega)],hh.2⟩));have H3:=Lib.hid (fun(wx:World)=>(within_any c 1 r wx).mono (R':=fun e w'=>e=.returned (.bool true)/\wx=w') (fun e w' hh=>⟨by rw[hh.1,(inB_iff ..).2 (by omega)],hh.2⟩));have H4:=Lib.hid (fun(wx:World)=>(within_any f 1 (1000000001-c) wx).mono (R':=fun e w'=>e=.returned (.bool true)/\wx=w') (fun e w' hh=>⟨by rw[hh.1,(inB_iff ..).2 (by omega)],hh.2⟩));have H5:=Lib.hid (fun(wx:World)=>(within_any l e 1000000000 wx).mono (R':=fun e w'=>e=.returned (.bool true)/\wx=w') (fun e w' hh=>⟨by rw[hh.1,(inB_iff ..).2 (by omega)],hh.2⟩));have q1:IntKind.i64.wrap (1000000001-c)=1000000001-c:=by rw[IntKind.wrap_i64];omega
 have HB:=Lib.hid (ext_alloc w (.cells #[.int .i64 a,.int .i64 s,.int .i64 r,.int .i64 c,.int .i64 f,.int .i64 e,.int .i64 l] 154));clear h0 h1 h2 h3 h4 h6
 go_enter Tryz.func224, Tryz.ntmps224
 go_wp2_with fail
 refine(H0.out _).mono ?_;rintro e0 w0 ⟨rfl,rfl⟩;go_wp2_with fail
 refine(H1.out _).mono ?_;rintro e1 w1 ⟨rfl,rfl⟩;go_wp2_with fail
 refine(H2.out _).mono ?_;rintro e2 w2 ⟨rfl,rfl⟩;go_wp2_with fail
 refine(H3.out _).mono ?_;rintro e3 w3 ⟨rfl,rfl⟩;go_wp2_with fail
 refine(H4.out _).mono ?_;rintro e4 w4 ⟨rfl,rfl⟩;go_wp2_with fail
 refine(H5.out _).mono ?_;rintro e5 w5 ⟨rfl,rfl⟩;go_wp2_with fail
 go_ret
 exact⟨rfl,HB.out⟩
theorem alone_any (a s r c f e l:Int) (w:World) :
  Calls Tryz.prog 224 #[.agg #[.int .i64 a,.int .i64 s,.int .i64 r,.int .i64 c,.int .i64 f,.int .i64 e,.int .i64 l]] w fun e' w'=>e'=.returned (.bool (aloneB a s r c f e l))/\Below w.heap.size w w':=by
 by_cases h0:0<=a/\a<=1000000
 ·by_cases h1:10<=s/\s<=60009
  ·by_cases h2:1<=r/\r<=20000
   ·by_cases h3:1<=c/\c<=r
    ·by_cases h4:1<=f/\f<=1000000001-c
     ·by_cases h5:0<=e
      ·by_cases h6:e<=l/\l<=1000000000
       ·rw[show aloneB a s r c f e l=true from decide_eq_true ⟨h0,h1,h2,h3,h4,h5,h6⟩]
        exact alone_yes a s r c f e l w h0 h1 h2 h3 h4 h5 h6
       ·rw[show aloneB a s r c f e l=false from decide_eq_false (fun h=>h6 h.2.2.2.2.2.2)]
        exact alone_no6 a s r c f e l w h0 h1 h2 h3 h4 h5 h6
      ·rw[show aloneB a s r c f e l=false from decide_eq_false (fun h=>h5 h.2.2.2.2.2.1)]
       exact alone_no5 a s r c f e l w h0 h1 h2 h3 h4 h5
     ·rw[show aloneB a s r c f e l=false from decide_eq_false (fun h=>h4 h.2.2.2.2.1)]
      exact alone_no4 a s r c f e l w h0 h1 h2 h3 h4
    ·rw[show aloneB a s r c f e l=false from decide_eq_false (fun h=>h3 h.2.2.2.1)]
     exact alone_no3 a s r c f e l w h0 h1 h2 h3
   ·rw[show aloneB a s r c f e l=false from decide_eq_false (fun h=>h2 h.2.2.1)]
    exact alone_no2 a s r c f e l w h0 h1 h2
  ·rw[show aloneB a s r c f e l=false from decide_eq_false (fun h=>h1 h.2.1)]
   exact alone_no1 a s r c f e l w h0 h1
 ·rw[show aloneB a s r c f e l=false from decide_eq_false (fun h=>h0 h.1)]
  exact alone_no0 a s r c f e l w h0
end Hd
end Go.Proofs.YtejcdhdfanfkbaaGreat
namespace Go.Proofs.YtejcdhdfanfkbaaGreat
open Go.RowKit
section
variable {P:Program} {ops:Array Oper} {rest:List Oper} {op:Oper} {a:Act} {w:World} {Q:Exit->Act->World->Prop}
theorem wpList_alloc_zero (hgd:op.guard=none) (t:TypeId) (ho:op.op=.alloc t) (z:Value) (n:Nat) (hz:(P.info? t).map (fun i=>(i.zero,i.size))=some (some z,n))
  (h:wpList P ops Q rest (a.put op.dst (.pointer (some ⟨w.heap.size,0,none⟩))) (w.alloc (.cells z.cells t))):wpList P ops Q (op::rest) a w:=by
 refine wpList_plain hgd fun _ hK=>?_
 have hz1:=(zero_of_info hz).1 w;unfold Oper.wp execOp;simp only[ho,Instr.alloc,Sem.run_bind,hz1,Result.andThen_ok];exact hK _ _ h
theorem wpList_build_zero (hgd:op.guard=none) (t:TypeId) (ho:op.op=.build t #[]) (z:Array Value) (hz:(Instr.build t #[]).run P w=.ok (.agg z) w)
  (h:wpList P ops Q rest (a.put op.dst (.agg z)) w):wpList P ops Q (op::rest) a w:=by
 refine wpList_plain hgd fun _ hK=>?_
 unfold Oper.wp execOp;simp only[ho,List.map_toArray,List.map_nil,Sem.run_bind,hz,Result.andThen_ok];exact hK _ _ h
theorem wpList_box_new (hgd:op.guard=none) (t:TypeId) (x:Operand) (ho:op.op=.box t x) (z:Array Value) (hx:a.eval x=.agg z)
  (h:wpList P ops Q rest (a.put op.dst (.pointer (some ⟨w.heap.size,0,none⟩))) (w.alloc (.cells z t))):wpList P ops Q (op::rest) a w:=by
 refine wpList_plain hgd fun _ hK=>?_
 unfold Oper.wp execOp;simp only[ho,hx,Instr.box,Sem.run_bind];exact hK _ _ h
theorem wpList_store_new (w0:World) (c:Array Value) (hgd:op.guard=none) (t:TypeId) (x y:Operand) (ho:op.op=.store t x y) (z:Array Value) (hx:a.eval x=.pointer (some ⟨w0.heap.size,0,none⟩)) (hy:a.eval y=.agg z)
  (hi:(P.info? t).map (·.size)=some z.size) (hc:c.size=z.size) (h1:z.all (·.oneCell')=true)
  (h:wpList P ops Q rest (a.put op.dst undef) (w0.alloc (.cells z t))):wpList P ops Q (op::rest) a (w0.alloc (.cells c t)):=by
 refine wpList_plain hgd fun _ hK=>?_
 unfold Oper.wp execOp;simp only[ho,hx,hy,Instr.storeAt,Instr.sureAddr,Sem.run_bind,Sem.run_pure,Result.andThen_ok,run_storeVar_new w0 t c z hi hc h1];exact hK _ _ h
end
theorem results_cell {P:Program} {fn:Func} {tmps:Array Value} {w:World} {a:Nat} {t:TypeId} {ad:Addr} {v:Value} (hr:fn.results= #[.cell a t]) (ht:tmps.getD a undef=.pointer (some ad)) (hl:(loadVar t ad).run P w=.ok v w) :
  (results fn tmps).run P w=.ok v w:=by
 unfold results;rw[hr];have ht2:tmps[a]?.getD undef=.pointer (some ad):=by rw[<-ht];simp[Array.getD_eq_getD_getElem?]
 simp[ht2,asAddr,hl]
end Go.Proofs.YtejcdhdfanfkbaaGreat
namespace Go.Proofs.YtejcdhdfanfkbaaGreat
namespace Bk
open Go.RowKit
def magg (at_ size raw count first early late:Int):Value:=.agg #[.int .i64 at_,.int .i64 size,.int .i64 raw,.int .i64 count,.int .i64 first,.int .i64 early,.int .i64 late]
def Mb (w:World) (b:Nat) (at_ size raw count first early late:Int):Prop :=
 w.heap[b]? =some (.cells #[.int .i64 at_,.int .i64 size,.int .i64 raw,.int .i64 count,.int .i64 first,.int .i64 early,.int .i64 late] 154 (0,0))
section
variable {w w':World} {b:Nat} {at_ size raw count first early late:Int} (h:Mb w b at_ size raw count first early late)
include h
theorem Mb.lt:b<w.heap.size:=(Array.getElem?_eq_some_iff.1 h).1
theorem Mb.c0:w.cell? ⟨b,0,none⟩=some (.int .i64 at_):=by rw[cell_of_row w b 0 _ _ (0,0) h];rfl
theorem Mb.c1:w.cell? ⟨b,1,none⟩=some (.int .i64 size):=by rw[cell_of_row w b 1 _ _ (0,0) h];rfl
theorem Mb.c2:w.cell? ⟨b,2,none⟩=some (.int .i64 raw):=by rw[cell_of_row w b 2 _ _ (0,0) h];rfl
theorem Mb.c3:w.cell? ⟨b,3,none⟩=some (.int .i64 count):=by rw[cell_of_row w b 3 _ _ (0,0) h];rfl
theorem Mb.c4:w.cell? ⟨b,4,none⟩=some (.int .i64 first):=by rw[cell_of_row w b 4 _ _ (0,0) h];rfl
theorem Mb.c5:w.cell? ⟨b,5,none⟩=some (.int .i64 early):=by rw[cell_of_row w b 5 _ _ (0,0) h];rfl
theorem Mb.c6:w.cell? ⟨b,6,none⟩=some (.int .i64 late):=by rw[cell_of_row w b 6 _ _ (0,0) h];rfl
theorem Mb.fz (j:Nat):w.frozen? ⟨b,j,none⟩=false:=frozen_of_row w b j _ _ h
theorem Mb.below {B:Nat} (hk:Below B w w') (hb:b<B):Mb w' b at_ size raw count first early late:=(hk.block b hb).trans h
theorem Mb.set0 (x:Int):Mb (w.setCell ⟨b,0,none⟩ (.int .i64 x)) b x size raw count first early late:=by
 unfold Mb at *;simp[World.setCell,Array.getElem?_modify,h]
theorem Mb.set1 (x:Int):Mb (w.setCell ⟨b,1,none⟩ (.int .i64 x)) b at_ x raw count first early late:=by
 unfold Mb at *;simp[World.setCell,Array.getElem?_modify,h]
theorem Mb.set2 (x:Int):Mb (w.setCell ⟨b,2,none⟩ (.int .i64 x)) b at_ size x count first early late:=by
 unfold Mb at *;simp[World.setCell,Array.getElem?_modify,h]
theorem Mb.set3 (x:Int):Mb (w.setCell ⟨b,3,none⟩ (.int .i64 x)) b at_ size raw x first early late:=by
 unfold Mb at *;simp[World.setCell,Array.getElem?_modify,h]
theorem Mb.set4 (x:Int):Mb (w.setCell ⟨b,4,none⟩ (.int .i64 x)) b at_ size raw count x early late:=by
 unfold Mb at *;simp[World.setCell,Array.getElem?_modify,h]
theorem Mb.set5 (x:Int):Mb (w.setCell ⟨b,5,none⟩ (.int .i64 x)) b at_ size raw count first x late:=by
 unfold Mb at *;simp[World.setCell,Array.getElem?_modify,h]
theorem Mb.set6 (x:Int):Mb (w.setCell ⟨b,6,none⟩ (.int .i64 x)) b at_ size raw count first early x:=by
 unfold Mb at *;simp[World.setCell,Array.getElem?_modify,h]
theorem Mb.fill (a s r c f e l:Int) :
  Mb (((((((w.setCell ⟨b,0,none⟩ (.int .i64 a)).setCell ⟨b,1,none⟩ (.int .i64 s)).setCell ⟨b,2,none⟩ (.int .i64 r)).setCell ⟨b,3,none⟩ (.int .i64 c)).setCell ⟨b,4,none⟩ (.int .i64 f)).setCell ⟨b,5,none⟩ (.int .i64 e)).setCell ⟨b,6,none⟩ (.int .i64 l)) b a s r c f e l :=
 ((((((h.set0 a).set1 s).set2 r).set3 c).set4 f).set5 e).set6 l
end
theorem Mb.new (w:World):Mb (w.alloc (.cells #[.int .i64 0,.int .i64 0,.int .i64 0,.int .i64 0,.int .i64 0,.int .i64 0,.int .i64 0] 154)) w.heap.size 0 0 0 0 0 0 0:=heap_alloc_new w _
theorem below_put {w w':World} {b B:Nat} (h:Below B w w') (hb:B<=b) (k:Nat) (v:Value):Below B w (w'.setCell ⟨b,k,none⟩ v):=h.setCell (p:=⟨b,k,none⟩) hb v
theorem below_fill7 {w w':World} {b B:Nat} {v0 v1 v2 v3 v4 v5 v6:Value} (h:Below B w w') (hb:B<=b):Below B w (((((((w'.setCell ⟨b,0,none⟩ v0).setCell ⟨b,1,none⟩ v1).setCell ⟨b,2,none⟩ v2).setCell ⟨b,3,none⟩ v3).setCell ⟨b,4,none⟩ v4).setCell ⟨b,5,none⟩ v5).setCell ⟨b,6,none⟩ v6) :=
 below_put (below_put (below_put (below_put (below_put (below_put (below_put h hb 0 v0) hb 1 v1) hb 2 v2) hb 3 v3) hb 4 v4) hb 5 v5) hb 6 v6
end Bk
end Go.Proofs.YtejcdhdfanfkbaaGreat
