/- open.log: waits. -/
import Derived.Test.YtejcdhdfanfkbaaGreatFb31
namespace Go.Proofs.YtejcdhdfanfkbaaGreat
namespace Op
open Go.RowKit Hd Rd Vi Dk
set_option maxHeartbeats 6400000 in
set_option maxRecDepth 100000 in
theorem waits_1 {cb ct cs ca ck cy co mg mx mt mf sz nx nw xi xg xf Z:Int} {A1 A2 A3:Option Addr} {n1 c1 n2 c2 n3 c3:Nat} {rd:Bool} {w:World} {E:Int}
  (HH:Hid (∀wx,Below w.heap.size w wx->Calls Tryz.prog 74 #[.agg #[.int .i64 cb,.int .i64 ct,.int .i64 cs,.int .i64 ca,.int .i64 ck,.int .i64 cy,.int .i64 co,.int .i64 mg,.int .i64 mx,.int .i64 mt,.int .i64 mf,.slice A1 n1 c1,.slice A2 n2 c2,.int .i64 sz,.int .i64 nx,.int .i64 nw,.slice A3 n3 c3,.bool rd]] wx fun e w'=>e=.returned (.agg #[.int .i64 xi,.int .i64 xg,.int .i64 xf])/\Below wx.heap.size wx w'))
  (HE:Hid (∀wx,Below w.heap.size w wx->Calls Tryz.prog 76 #[.agg #[.int .i64 xi,.int .i64 xg,.int .i64 xf],.slice A2 n2 c2] wx fun e w'=>e=.returned (.int .i64 Z)/\Below wx.heap.size wx w'))
  (HR:Hid (∀wx,Below w.heap.size w wx->Calls Tryz.prog 136 #[.slice A3 n3 c3] wx fun e w'=>e=.returned (.int .i64 E)/\Below wx.heap.size wx w')) (he:(E != 0)=true) :
  Calls Tryz.prog 132 #[.agg #[.int .i64 cb,.int .i64 ct,.int .i64 cs,.int .i64 ca,.int .i64 ck,.int .i64 cy,.int .i64 co,.int .i64 mg,.int .i64 mx,.int .i64 mt,.int .i64 mf,.slice A1 n1 c1,.slice A2 n2 c2,.int .i64 sz,.int .i64 nx,.int .i64 nw,.slice A3 n3 c3,.bool rd]] w fun e w'=>e=.returned (.bool false)/\Below w.heap.size w w':=by
 have mixed:Tryz.prog.follows .mixedOrders=true:=by kernel_rfl
 have HQ:=Lib.hid (show ∀q:Bw (w.alloc (.cells #[.int .i64 cb,.int .i64 ct,.int .i64 cs,.int .i64 ca,.int .i64 ck,.int .i64 cy,.int .i64 co,.int .i64 mg,.int .i64 mx,.int .i64 mt,.int .i64 mf,.slice A1 n1 c1,.slice A2 n2 c2,.int .i64 sz,.int .i64 nx,.int .i64 nw,.slice A3 n3 c3,.bool rd] 146)),Below w.heap.size w q.to from fun q=>(ext_alloc w _).trans (q.h.mono (by simp)));have HK:=Lib.hid (Blk.new w #[.int .i64 cb,.int .i64 ct,.int .i64 cs,.int .i64 ca,.int .i64 ck,.int .i64 cy,.int .i64 co,.int .i64 mg,.int .i64 mx,.int .i64 mt,.int .i64 mf,.slice A1 n1 c1,.slice A2 n2 c2,.int .i64 sz,.int .i64 nx,.int .i64 nw,.slice A3 n3 c3,.bool rd] 146);have q12:=bw_cell HK.out 12 (v:=.slice A2 n2 c2) rfl
 go_enter Tryz.func132, Tryz.ntmps132
 go_wp2_with fail
 have HKQ:=Lib.hid (show ∀q:Bw (w.alloc (.cells #[.int .i64 cb,.int .i64 ct,.int .i64 cs,.int .i64 ca,.int .i64 ck,.int .i64 cy,.int .i64 co,.int .i64 mg,.int .i64 mx,.int .i64 mt,.int .i64 mf,.slice A1 n1 c1,.slice A2 n2 c2,.int .i64 sz,.int .i64 nx,.int .i64 nw,.slice A3 n3 c3,.bool rd] 146)),Blk q.to w.heap.size #[.int .i64 cb,.int .i64 ct,.int .i64 cs,.int .i64 ca,.int .i64 ck,.int .i64 cy,.int .i64 co,.int .i64 mg,.int .i64 mx,.int .i64 mt,.int .i64 mf,.slice A1 n1 c1,.slice A2 n2 c2,.int .i64 sz,.int .i64 nx,.int .i64 nw,.slice A3 n3 c3,.bool rd] 146 from fun q=>HK.out.ext q.h);generalize w.alloc (.cells #[.int .i64 cb,.int .i64 ct,.int .i64 cs,.int .i64 ca,.int .i64 ck,.int .i64 cy,.int .i64 co,.int .i64 mg,.int .i64 mx,.int .i64 mt,.int .i64 mf,.slice A1 n1 c1,.slice A2 n2 c2,.int .i64 sz,.int .i64 nx,.int .i64 nw,.slice A3 n3 c3,.bool rd] 146)=w0 at *
 refine wp_region_quiet_below (by assumption) (by kernel_rfl) ?_
 repeat (first|go_big_quiet_skip|(go_big_quiet_want;refine quiet_load_row 146 (.tmp 1) rfl w.heap.size #[.int .i64 cb,.int .i64 ct,.int .i64 cs,.int .i64 ca,.int .i64 ck,.int .i64 cy,.int .i64 co,.int .i64 mg,.int .i64 mx,.int .i64 mt,.int .i64 mf,.slice A1 n1 c1,.slice A2 n2 c2,.int .i64 sz,.int .i64 nx,.int .i64 nw,.slice A3 n3 c3,.bool rd] _ rfl (fun wx hx=>by obtain⟨q,rfl⟩:=hx;exact HKQ.out q) Tryz.underlying146 rfl lg_info ?_;go_big_quiet_on)|quiet_step (first|(go_at_call 74;refine below_of (HH.out _ (HQ.out _)))|(go_at_call 76;refine below_of (HE.out _ (HQ.out _)))))
 refine wpQuiet_nil ?_;intro _ hw';obtain⟨q,rfl⟩:=hw';have HQ1:=Lib.hid (HQ.out q);have HK1:=Lib.hid (HKQ.out q);clear q12;generalize q.to=w2 at *
 go_wp2_with fail
 have HQ:=Lib.hid (show ∀q:Bw w2,Below w.heap.size w q.to from fun q=>HQ1.out.trans (q.h.mono HQ1.out.size));have q0:=bw_cell HK1.out 0 (v:=.int .i64 cb) rfl;have q14:=bw_cell HK1.out 14 (v:=.int .i64 nx) rfl;have q16:=bw_cell HK1.out 16 (v:=.slice A3 n3 c3) rfl;refine wp_region_quiet_below (by assumption) (by kernel_rfl) ?_
 repeat (first|go_big_quiet_skip|quiet_step (first|(go_at_call 136;refine below_of (HR.out _ (HQ.out _)))))
 refine wpQuiet_nil ?_;intro _ hw';obtain⟨q,rfl⟩:=hw';have HQ2:=Lib.hid (HQ.out q);have HK2:=Lib.hid (HK1.out.ext q.h);clear q0 q14 q16;generalize q.to=w3 at *
 have k16:=HK2.out.cell 16 (v:=.slice A3 n3 c3) rfl;go_wp2_with fail
 go_ret
 exact⟨rfl,HQ2.out⟩
set_option maxHeartbeats 6400000 in
set_option maxRecDepth 100000 in
theorem waits_2 {cb ct cs ca ck cy co mg mx mt mf sz nx nw xi xg xf Z:Int} {A1 A2 A3:Option Addr} {n1 c1 n2 c2 n3 c3:Nat} {rd:Bool} {w:World} {R:Int}
  (HH:Hid (∀wx,Below w.heap.size w wx->Calls Tryz.prog 74 #[.agg #[.int .i64 cb,.int .i64 ct,.int .i64 cs,.int .i64 ca,.int .i64 ck,.int .i64 cy,.int .i64 co,.int .i64 mg,.int .i64 mx,.int .i64 mt,.int .i64 mf,.slice A1 n1 c1,.slice A2 n2 c2,.int .i64 sz,.int .i64 nx,.int .i64 nw,.slice A3 n3 c3,.bool rd]] wx fun e w'=>e=.returned (.agg #[.int .i64 xi,.int .i64 xg,.int .i64 xf])/\Below wx.heap.size wx w'))
  (HE:Hid (∀wx,Below w.heap.size w wx->Calls Tryz.prog 76 #[.agg #[.int .i64 xi,.int .i64 xg,.int .i64 xf],.slice A2 n2 c2] wx fun e w'=>e=.returned (.int .i64 Z)/\Below wx.heap.size wx w'))
  (HR:Hid (∀wx,Below w.heap.size w wx->Calls Tryz.prog 136 #[.slice A3 n3 c3] wx fun e w'=>e=.returned (.int .i64 0)/\Below wx.heap.size wx w'))
  (HW:Hid (∀wx,Below w.heap.size w wx->Calls Tryz.prog 81 #[.slice A3 n3 c3] wx fun e w'=>e=.returned (.int .i64 R)/\Below wx.heap.size wx w')) (h2:cb<=R) :
  Calls Tryz.prog 132 #[.agg #[.int .i64 cb,.int .i64 ct,.int .i64 cs,.int .i64 ca,.int .i64 ck,.int .i64 cy,.int .i64 co,.int .i64 mg,.int .i64 mx,.int .i64 mt,.int .i64 mf,.slice A1 n1 c1,.slice A2 n2 c2,.int .i64 sz,.int .i64 nx,.int .i64 nw,.slice A3 n3 c3,.bool rd]] w fun e w'=>e=.returned (.bool false)/\Below w.heap.size w w':=by
 have mixed:Tryz.prog.follows .mixedOrders=true:=by kernel_rfl
 have HQ:=Lib.hid (show ∀q:Bw (w.alloc (.cells #[.int .i64 cb,.int .i64 ct,.int .i64 cs,.int .i64 ca,.int .i64 ck,.int .i64 cy,.int .i64 co,.int .i64 mg,.int .i64 mx,.int .i64 mt,.int .i64 mf,.slice A1 n1 c1,.slice A2 n2 c2,.int .i64 sz,.int .i64 nx,.int .i64 nw,.slice A3 n3 c3,.bool rd] 146)),Below w.heap.size w q.to from fun q=>(ext_alloc w _).trans (q.h.mono (by simp)));have HK:=Lib.hid (Blk.new w #[.int .i64 cb,.int .i64 ct,.int .i64 cs,.int .i64 ca,.int .i64 ck,.int .i64 cy,.int .i64 co,.int .i64 mg,.int .i64 mx,.int .i64 mt,.int .i64 mf,.slice A1 n1 c1,.slice A2 n2 c2,.int .i64 sz,.int .i64 nx,.int .i64 nw,.slice A3 n3 c3,.bool rd] 146);have q12:=bw_cell HK.out 12 (v:=.slice A2 n2 c2) rfl
 go_enter Tryz.func132, Tryz.ntmps132
 go_wp2_with fail
 have HKQ:=Lib.hid (show ∀q:Bw (w.alloc (.cells #[.int .i64 cb,.int .i64 ct,.int .i64 cs,.int .i64 ca,.int .i64 ck,.int .i64 cy,.int .i64 co,.int .i64 mg,.int .i64 mx,.int .i64 mt,.int .i64 mf,.slice A1 n1 c1,.slice A2 n2 c2,.int .i64 sz,.int .i64 nx,.int .i64 nw,.slice A3 n3 c3,.bool rd] 146)),Blk q.to w.heap.size #[.int .i64 cb,.int .i64 ct,.int .i64 cs,.int .i64 ca,.int .i64 ck,.int .i64 cy,.int .i64 co,.int .i64 mg,.int .i64 mx,.int .i64 mt,.int .i64 mf,.slice A1 n1 c1,.slice A2 n2 c2,.int .i64 sz,.int .i64 nx,.int .i64 nw,.slice A3 n3 c3,.bool rd] 146 from fun q=>HK.out.ext q.h);generalize w.alloc (.cells #[.int .i64 cb,.int .i64 ct,.int .i64 cs,.int .i64 ca,.int .i64 ck,.int .i64 cy,.int .i64 co,.int .i64 mg,.int .i64 mx,.int .i64 mt,.int .i64 mf,.slice A1 n1 c1,.slice A2 n2 c2,.int .i64 sz,.int .i64 nx,.int .i64 nw,.slice A3 n3 c3,.bool rd] 146)=w0 at *
 refine wp_region_quiet_below (by assumption) (by kernel_rfl) ?_
 repeat (first|go_big_quiet_skip|(go_big_quiet_want;refine quiet_load_row 146 (.tmp 1) rfl w.heap.size #[.int .i64 cb,.int .i64 ct,.int .i64 cs,.int .i64 ca,.int .i64 ck,.int .i64 cy,.int .i64 co,.int .i64 mg,.int .i64 mx,.int .i64 mt,.int .i64 mf,.slice A1 n1 c1,.slice A2 n2 c2,.int .i64 sz,.int .i64 nx,.int .i64 nw,.slice A3 n3 c3,.bool rd] _ rfl (fun wx hx=>by obtain⟨q,rfl⟩:=hx;exact HKQ.out q) Tryz.underlying146 rfl lg_info ?_;go_big_quiet_on)|quiet_step (first|(go_at_call 74;refine below_of (HH.out _ (HQ.out _)))|(go_at_call 76;refine below_of (HE.out _ (HQ.out _)))))
 refine wpQuiet_nil ?_;intro _ hw';obtain⟨q,rfl⟩:=hw';have HQ1:=Lib.hid (HQ.out q);have HK1:=Lib.hid (HKQ.out q);clear q12;generalize q.to=w2 at *
 go_wp2_with fail
 have HQ:=Lib.hid (show ∀q:Bw w2,Below w.heap.size w q.to from fun q=>HQ1.out.trans (q.h.mono HQ1.out.size));have q0:=bw_cell HK1.out 0 (v:=.int .i64 cb) rfl;have q14:=bw_cell HK1.out 14 (v:=.int .i64 nx) rfl;have q16:=bw_cell HK1.out 16 (v:=.slice A3 n3 c3) rfl;refine wp_region_quiet_below (by assumption) (by kernel_rfl) ?_
 repeat (first|go_big_quiet_skip|quiet_step (first|(go_at_call 136;refine below_of (HR.out _ (HQ.out _)))|(go_at_call 81;refine below_of (HW.out _ (HQ.out _)))))
 refine wpQuiet_nil ?_;intro _ hw';obtain⟨q,rfl⟩:=hw';have HQ2:=Lib.hid (HQ.out q);have HK2:=Lib.hid (HK1.out.ext q.h);clear q0 q14 q16;generalize q.to=w3 at *
 have k16:=HK2.out.cell 16 (v:=.slice A3 n3 c3) rfl;go_wp2_with fail
 go_ret
 exact⟨rfl,HQ2.out⟩
set_option maxHeartbeats 6400000 in
set_option maxRecDepth 100000 in
theorem waits_3 {cb ct cs ca ck cy co mg mx mt mf sz nx nw xi xg xf Z:Int} {A1 A2 A3:Option Addr} {n1 c1 n2 c2 n3 c3:Nat} {rd:Bool} {w:World} {R N:Int}
  (HH:Hid (∀wx,Below w.heap.size w wx->Calls Tryz.prog 74 #[.agg #[.int .i64 cb,.int .i64 ct,.int .i64 cs,.int .i64 ca,.int .i64 ck,.int .i64 cy,.int .i64 co,.int .i64 mg,.int .i64 mx,.int .i64 mt,.int .i64 mf,.slice A1 n1 c1,.slice A2 n2 c2,.int .i64 sz,.int .i64 nx,.int .i64 nw,.slice A3 n3 c3,.bool rd]] wx fun e w'=>e=.returned (.agg #[.int .i64 xi,.int .i64 xg,.int .i64 xf])/\Below wx.heap.size wx w'))
  (HE:Hid (∀wx,Below w.heap.size w wx->Calls Tryz.prog 76 #[.agg #[.int .i64 xi,.int .i64 xg,.int .i64 xf],.slice A2 n2 c2] wx fun e w'=>e=.returned (.int .i64 Z)/\Below wx.heap.size wx w'))
  (HR:Hid (∀wx,Below w.heap.size w wx->Calls Tryz.prog 136 #[.slice A3 n3 c3] wx fun e w'=>e=.returned (.int .i64 0)/\Below wx.heap.size wx w'))
  (HW:Hid (∀wx,Below w.heap.size w wx->Calls Tryz.prog 81 #[.slice A3 n3 c3] wx fun e w'=>e=.returned (.int .i64 R)/\Below wx.heap.size wx w'))
  (HN:Hid (∀wx,Below w.heap.size w wx->Calls Tryz.prog 180 #[.slice A3 n3 c3,.int .i64 Z] wx fun e w'=>e=.returned (.int .i64 N)/\Below wx.heap.size wx w')) (h2: ¬ cb<=R) (h3:(nx != N)=true) :
  Calls Tryz.prog 132 #[.agg #[.int .i64 cb,.int .i64 ct,.int .i64 cs,.int .i64 ca,.int .i64 ck,.int .i64 cy,.int .i64 co,.int .i64 mg,.int .i64 mx,.int .i64 mt,.int .i64 mf,.slice A1 n1 c1,.slice A2 n2 c2,.int .i64 sz,.int .i64 nx,.int .i64 nw,.slice A3 n3 c3,.bool rd]] w fun e w'=>e=.returned (.bool false)/\Below w.heap.size w w':=by
 have mixed:Tryz.prog.follows .mixedOrders=true:=by kernel_rfl
 have HQ:=Lib.hid (show ∀q:Bw (w.alloc (.cells #[.int .i64 cb,.int .i64 ct,.int .i64 cs,.int .i64 ca,.int .i64 ck,.int .i64 cy,.int .i64 co,.int .i64 mg,.int .i64 mx,.int .i64 mt,.int .i64 mf,.slice A1 n1 c1,.slice A2 n2 c2,.int .i64 sz,.int .i64 nx,.int .i64 nw,.slice A3 n3 c3,.bool rd] 146)),Below w.heap.size w q.to from fun q=>(ext_alloc w _).trans (q.h.mono (by simp)));have HK:=Lib.hid (Blk.new w #[.int .i64 cb,.int .i64 ct,.int .i64 cs,.int .i64 ca,.int .i64 ck,.int .i64 cy,.int .i64 co,.int .i64 mg,.int .i64 mx,.int .i64 mt,.int .i64 mf,.slice A1 n1 c1,.slice A2 n2 c2,.int .i64 sz,.int .i64 nx,.int .i64 nw,.slice A3 n3 c3,.bool rd] 146);have q12:=bw_cell HK.out 12 (v:=.slice A2 n2 c2) rfl
 go_enter Tryz.func132, Tryz.ntmps132
 go_wp2_with fail
 have HKQ:=Lib.hid (show ∀q:Bw (w.alloc (.cells #[.int .i64 cb,.int .i64 ct,.int .i64 cs,.int .i64 ca,.int .i64 ck,.int .i64 cy,.int .i64 co,.int .i64 mg,.int .i64 mx,.int .i64 mt,.int .i64 mf,.slice A1 n1 c1,.slice A2 n2 c2,.int .i64 sz,.int .i64 nx,.int .i64 nw,.slice A3 n3 c3,.bool rd] 146)),Blk q.to w.heap.size #[.int .i64 cb,.int .i64 ct,.int .i64 cs,.int .i64 ca,.int .i64 ck,.int .i64 cy,.int .i64 co,.int .i64 mg,.int .i64 mx,.int .i64 mt,.int .i64 mf,.slice A1 n1 c1,.slice A2 n2 c2,.int .i64 sz,.int .i64 nx,.int .i64 nw,.slice A3 n3 c3,.bool rd] 146 from fun q=>HK.out.ext q.h);generalize w.alloc (.cells #[.int .i64 cb,.int .i64 ct,.int .i64 cs,.int .i64 ca,.int .i64 ck,.int .i64 cy,.int .i64 co,.int .i64 mg,.int .i64 mx,.int .i64 mt,.int .i64 mf,.slice A1 n1 c1,.slice A2 n2 c2,.int .i64 sz,.int .i64 nx,.int .i64 nw,.slice A3 n3 c3,.bool rd] 146)=w0 at *
 refine wp_region_quiet_below (by assumption) (by kernel_rfl) ?_
 repeat (first|go_big_quiet_skip|(go_big_quiet_want;refine quiet_load_row 146 (.tmp 1) rfl w.heap.size #[.int .i64 cb,.int .i64 ct,.int .i64 cs,.int .i64 ca,.int .i64 ck,.int .i64 cy,.int .i64 co,.int .i64 mg,.int .i64 mx,.int .i64 mt,.int .i64 mf,.slice A1 n1 c1,.slice A2 n2 c2,.int .i64 sz,.int .i64 nx,.int .i64 nw,.slice A3 n3 c3,.bool rd] _ rfl (fun wx hx=>by obtain⟨q,rfl⟩:=hx;exact HKQ.out q) Tryz.underlying146 rfl lg_info ?_;go_big_quiet_on)|quiet_step (first|(go_at_call 74;refine below_of (HH.out _ (HQ.out _)))|(go_at_call 76;refine below_of (HE.out _ (HQ.out _)))))
 refine wpQuiet_nil ?_;intro _ hw';obtain⟨q,rfl⟩:=hw';have HQ1:=Lib.hid (HQ.out q);have HK1:=Lib.hid (HKQ.out q);clear q12;generalize q.to=w2 at *
 go_wp2_with fail
 have HQ:=Lib.hid (show ∀q:Bw w2,Below w.heap.size w q.to from fun q=>HQ1.out.trans (q.h.mono HQ1.out.size));have q0:=bw_cell HK1.out 0 (v:=.int .i64 cb) rfl;have q14:=bw_cell HK1.out 14 (v:=.int .i64 nx) rfl;have q16:=bw_cell HK1.out 16 (v:=.slice A3 n3 c3) rfl;refine wp_region_quiet_below (by assumption) (by kernel_rfl) ?_
 repeat (first|go_big_quiet_skip|quiet_step (first|(go_at_call 136;refine below_of (HR.out _ (HQ.out _)))|(go_at_call 81;refine below_of (HW.out _ (HQ.out _)))|(go_at_call 180;refine below_of (HN.out _ (HQ.out _)))))
 refine wpQuiet_nil ?_;intro _ hw';obtain⟨q,rfl⟩:=hw';have HQ2:=Lib.hid (HQ.out q);have HK2:=Lib.hid (HK1.out.ext q.h);clear q0 q14 q16;generalize q.to=w3 at *
 have k16:=HK2.out.cell 16 (v:=.slice A3 n3 c3) rfl;go_wp2_with fail
 go_ret
 exact⟨rfl,HQ2.out⟩
set_option maxHeartbeats 6400000 in
set_option maxRecDepth 100000 in
theorem waits_4 {cb ct cs ca ck cy co mg mx mt mf sz nx nw xi xg xf Z:Int} {A1 A2 A3:Option Addr} {n1 c1 n2 c2 n3 c3:Nat} {rd:Bool} {w:World} {R N:Int}
  (HH:Hid (∀wx,Below w.heap.size w wx->Calls Tryz.prog 74 #[.agg #[.int .i64 cb,.int .i64 ct,.int .i64 cs,.int .i64 ca,.int .i64 ck,.int .i64 cy,.int .i64 co,.int .i64 mg,.int .i64 mx,.int .i64 mt,.int .i64 mf,.slice A1 n1 c1,.slice A2 n2 c2,.int .i64 sz,.int .i64 nx,.int .i64 nw,.slice A3 n3 c3,.bool rd]] wx fun e w'=>e=.returned (.agg #[.int .i64 xi,.int .i64 xg,.int .i64 xf])/\Below wx.heap.size wx w'))
  (HE:Hid (∀wx,Below w.heap.size w wx->Calls Tryz.prog 76 #[.agg #[.int .i64 xi,.int .i64 xg,.int .i64 xf],.slice A2 n2 c2] wx fun e w'=>e=.returned (.int .i64 Z)/\Below wx.heap.size wx w'))
  (HR:Hid (∀wx,Below w.heap.size w wx->Calls Tryz.prog 136 #[.slice A3 n3 c3] wx fun e w'=>e=.returned (.int .i64 0)/\Below wx.heap.size wx w'))
  (HW:Hid (∀wx,Below w.heap.size w wx->Calls Tryz.prog 81 #[.slice A3 n3 c3] wx fun e w'=>e=.returned (.int .i64 R)/\Below wx.heap.size wx w'))
  (HN:Hid (∀wx,Below w.heap.size w wx->Calls Tryz.prog 180 #[.slice A3 n3 c3,.int .i64 Z] wx fun e w'=>e=.returned (.int .i64 N)/\Below wx.heap.size wx w')) (h2: ¬ cb<=R) (h3:(nx != N)=false) (h4:((n3:Int)==0)=true) :
  Calls Tryz.prog 132 #[.agg #[.int .i64 cb,.int .i64 ct,.int .i64 cs,.int .i64 ca,.int .i64 ck,.int .i64 cy,.int .i64 co,.int .i64 mg,.int .i64 mx,.int .i64 mt,.int .i64 mf,.slice A1 n1 c1,.slice A2 n2 c2,.int .i64 sz,.int .i64 nx,.int .i64 nw,.slice A3 n3 c3,.bool rd]] w fun e w'=>e=.returned (.bool true)/\Below w.heap.size w w':=by
 have mixed:Tryz.prog.follows .mixedOrders=true:=by kernel_rfl
 have HQ:=Lib.hid (show ∀q:Bw (w.alloc (.cells #[.int .i64 cb,.int .i64 ct,.int .i64 cs,.int .i64 ca,.int .i64 ck,.int .i64 cy,.int .i64 co,.int .i64 mg,.int .i64 mx,.int .i64 mt,.int .i64 mf,.slice A1 n1 c1,.slice A2 n2 c2,.int .i64 sz,.int .i64 nx,.int .i64 nw,.slice A3 n3 c3,.bool rd] 146)),Below w.heap.size w q.to from fun q=>(ext_alloc w _).trans (q.h.mono (by simp)));have HK:=Lib.hid (Blk.new w #[.int .i64 cb,.int .i64 ct,.int .i64 cs,.int .i64 ca,.int .i64 ck,.int .i64 cy,.int .i64 co,.int .i64 mg,.int .i64 mx,.int .i64 mt,.int .i64 mf,.slice A1 n1 c1,.slice A2 n2 c2,.int .i64 sz,.int .i64 nx,.int .i64 nw,.slice A3 n3 c3,.bool rd] 146);have q12:=bw_cell HK.out 12 (v:=.slice A2 n2 c2) rfl
 go_enter Tryz.func132, Tryz.ntmps132
 go_wp2_with fail
 have HKQ:=Lib.hid (show ∀q:Bw (w.alloc (.cells #[.int .i64 cb,.int .i64 ct,.int .i64 cs,.int .i64 ca,.int .i64 ck,.int .i64 cy,.int .i64 co,.int .i64 mg,.int .i64 mx,.int .i64 mt,.int .i64 mf,.slice A1 n1 c1,.slice A2 n2 c2,.int .i64 sz,.int .i64 nx,.int .i64 nw,.slice A3 n3 c3,.bool rd] 146)),Blk q.to w.heap.size #[.int .i64 cb,.int .i64 ct,.int .i64 cs,.int .i64 ca,.int .i64 ck,.int .i64 cy,.int .i64 co,.int .i64 mg,.int .i64 mx,.int .i64 mt,.int .i64 mf,.slice A1 n1 c1,.slice A2 n2 c2,.int .i64 sz,.int .i64 nx,.int .i64 nw,.slice A3 n3 c3,.bool rd] 146 from fun q=>HK.out.ext q.h);generalize w.alloc (.cells #[.int .i64 cb,.int .i64 ct,.int .i64 cs,.int .i64 ca,.int .i64 ck,.int .i64 cy,.int .i64 co,.int .i64 mg,.int .i64 mx,.int .i64 mt,.int .i64 mf,.slice A1 n1 c1,.slice A2 n2 c2,.int .i64 sz,.int .i64 nx,.int .i64 nw,.slice A3 n3 c3,.bool rd] 146)=w0 at *
 refine wp_region_quiet_below (by assumption) (by kernel_rfl) ?_
 repeat (first|go_big_quiet_skip|(go_big_quiet_want;refine quiet_load_row 146 (.tmp 1) rfl w.heap.size #[.int .i64 cb,.int .i64 ct,.int .i64 cs,.int .i64 ca,.int .i64 ck,.int .i64 cy,.int .i64 co,.int .i64 mg,.int .i64 mx,.int .i64 mt,.int .i64 mf,.slice A1 n1 c1,.slice A2 n2 c2,.int .i64 sz,.int .i64 nx,.int .i64 nw,.slice A3 n3 c3,.bool rd] _ rfl (fun wx hx=>by obtain⟨q,rfl⟩:=hx;exact HKQ.out q) Tryz.underlying146 rfl lg_info ?_;go_big_quiet_on)|quiet_step (first|(go_at_call 74;refine below_of (HH.out _ (HQ.out _)))|(go_at_call 76;refine below_of (HE.out _ (HQ.out _)))))
 refine wpQuiet_nil ?_;intro _ hw';obtain⟨q,rfl⟩:=hw';have HQ1:=Lib.hid (HQ.out q);have HK1:=Lib.hid (HKQ.out q);clear q12;generalize q.to=w2 at *
 go_wp2_with fail
 have HQ:=Lib.hid (show ∀q:Bw w2,Below w.heap.size w q.to from fun q=>HQ1.out.trans (q.h.mono HQ1.out.size));have q0:=bw_cell HK1.out 0 (v:=.int .i64 cb) rfl;have q14:=bw_cell HK1.out 14 (v:=.int .i64 nx) rfl;have q16:=bw_cell HK1.out 16 (v:=.slice A3 n3 c3) rfl;refine wp_region_quiet_below (by assumption) (by kernel_rfl) ?_
 repeat (first|go_big_quiet_skip|quiet_step (first|(go_at_call 136;refine below_of (HR.out _ (HQ.out _)))|(go_at_call 81;refine below_of (HW.out _ (HQ.out _)))|(go_at_call 180;refine below_of (HN.out _ (HQ.out _)))))
 refine wpQuiet_nil ?_;intro _ hw';obtain⟨q,rfl⟩:=hw';have HQ2:=Lib.hid (HQ.out q);have HK2:=Lib.hid (HK1.out.ext q.h);clear q0 q14 q16;generalize q.to=w3 at *
 have k16:=HK2.out.cell 16 (v:=.slice A3 n3 c3) rfl;go_wp2_with fail
 go_ret
 exact⟨rfl,HQ2.out⟩
set_option maxHeartbeats 6400000 in
set_option maxRecDepth 100000 in
theorem waits_5 {cb ct cs ca ck cy co mg mx mt mf sz nx nw xi xg xf Z:Int} {A1 A2:Option Addr} {n1 c1 n2 c2 n3 c3:Nat} {rd:Bool} {w:World} {R N r0:Int} {ad:Addr}
  (HH:Hid (∀wx,Below w.heap.size w wx->Calls Tryz.prog 74 #[.agg #[.int .i64 cb,.int .i64 ct,.int .i64 cs,.int .i64 ca,.int .i64 ck,.int .i64 cy,.int .i64 co,.int .i64 mg,.int .i64 mx,.int .i64 mt,.int .i64 mf,.slice A1 n1 c1,.slice A2 n2 c2,.int .i64 sz,.int .i64 nx,.int .i64 nw,.slice (some ad) n3 c3,.bool rd]] wx fun e w'=>e=.returned (.agg #[.int .i64 xi,.int .i64 xg,.int .i64 xf])/\Below wx.heap.size wx w'))
  (HE:Hid (∀wx,Below w.heap.size w wx->Calls Tryz.prog 76 #[.agg #[.int .i64 xi,.int .i64 xg,.int .i64 xf],.slice A2 n2 c2] wx fun e w'=>e=.returned (.int .i64 Z)/\Below wx.heap.size wx w'))
  (HR:Hid (∀wx,Below w.heap.size w wx->Calls Tryz.prog 136 #[.slice (some ad) n3 c3] wx fun e w'=>e=.returned (.int .i64 0)/\Below wx.heap.size wx w'))
  (HW:Hid (∀wx,Below w.heap.size w wx->Calls Tryz.prog 81 #[.slice (some ad) n3 c3] wx fun e w'=>e=.returned (.int .i64 R)/\Below wx.heap.size wx w'))
  (HN:Hid (∀wx,Below w.heap.size w wx->Calls Tryz.prog 180 #[.slice (some ad) n3 c3,.int .i64 Z] wx fun e w'=>e=.returned (.int .i64 N)/\Below wx.heap.size wx w')) (h2: ¬ cb<=R) (h3:(nx != N)=false) (h4:((n3:Int)==0)=false) (b5:(0:Int)<(n3:Int)) (b6:0<n3) (b7: ¬ n3=0) (HC4:Hid (ad.block<w.heap.size/\w.cell? ad=some (.int .i64 r0))) (D:Bool) (hf2:(r0==Z)=D) :
  Calls Tryz.prog 132 #[.agg #[.int .i64 cb,.int .i64 ct,.int .i64 cs,.int .i64 ca,.int .i64 ck,.int .i64 cy,.int .i64 co,.int .i64 mg,.int .i64 mx,.int .i64 mt,.int .i64 mf,.slice A1 n1 c1,.slice A2 n2 c2,.int .i64 sz,.int .i64 nx,.int .i64 nw,.slice (some ad) n3 c3,.bool rd]] w fun e w'=>e=.returned (.bool D)/\Below w.heap.size w w':=by
 have mixed:Tryz.prog.follows .mixedOrders=true:=by kernel_rfl
 have HQ:=Lib.hid (show ∀q:Bw (w.alloc (.cells #[.int .i64 cb,.int .i64 ct,.int .i64 cs,.int .i64 ca,.int .i64 ck,.int .i64 cy,.int .i64 co,.int .i64 mg,.int .i64 mx,.int .i64 mt,.int .i64 mf,.slice A1 n1 c1,.slice A2 n2 c2,.int .i64 sz,.int .i64 nx,.int .i64 nw,.slice (some ad) n3 c3,.bool rd] 146)),Below w.heap.size w q.to from fun q=>(ext_alloc w _).trans (q.h.mono (by simp)));have HK:=Lib.hid (Blk.new w #[.int .i64 cb,.int .i64 ct,.int .i64 cs,.int .i64 ca,.int .i64 ck,.int .i64 cy,.int .i64 co,.int .i64 mg,.int .i64 mx,.int .i64 mt,.int .i64 mf,.slice A1 n1 c1,.slice A2 n2 c2,.int .i64 sz,.int .i64 nx,.int .i64 nw,.slice (some ad) n3 c3,.bool rd] 146);have q12:=bw_cell HK.out 12 (v:=.slice A2 n2 c2) rfl
 go_enter Tryz.func132, Tryz.ntmps132
 go_wp2_with fail
 have HKQ:=Lib.hid (show ∀q:Bw (w.alloc (.cells #[.int .i64 cb,.int .i64 ct,.int .i64 cs,.int .i64 ca,.int .i64 ck,.int .i64 cy,.int .i64 co,.int .i64 mg,.int .i64 mx,.int .i64 mt,.int .i64 mf,.slice A1 n1 c1,.slice A2 n2 c2,.int .i64 sz,.int .i64 nx,.int .i64 nw,.slice (some ad) n3 c3,.bool rd] 146)),Blk q.to w.heap.size #[.int .i64 cb,.int .i64 ct,.int .i64 cs,.int .i64 ca,.int .i64 ck,.int .i64 cy,.int .i64 co,.int .i64 mg,.int .i64 mx,.int .i64 mt,.int .i64 mf,.slice A1 n1 c1,.slice A2 n2 c2,.int .i64 sz,.int .i64 nx,.int .i64 nw,.slice (some ad) n3 c3,.bool rd] 146 from fun q=>HK.out.ext q.h);generalize w.alloc (.cells #[.int .i64 cb,.int .i64 ct,.int .i64 cs,.int .i64 ca,.int .i64 ck,.int .i64 cy,.int .i64 co,.int .i64 mg,.int .i64 mx,.int .i64 mt,.int .i64 mf,.slice A1 n1 c1,.slice A2 n2 c2,.int .i64 sz,.int .i64 nx,.int .i64 nw,.slice (some ad) n3 c3,.bool rd] 146)=w0 at *
 refine wp_region_quiet_below (by assumption) (by kernel_rfl) ?_
 repeat (first|go_big_quiet_skip|(go_big_quiet_want;refine quiet_load_row 146 (.tmp 1) rfl w.heap.size #[.int .i64 cb,.int .i64 ct,.int .i64 cs,.int .i64 ca,.int .i64 ck,.int .i64 cy,.int .i64 co,.int .i64 mg,.int .i64 mx,.int .i64 mt,.int .i64 mf,.slice A1 n1 c1,.slice A2 n2 c2,.int .i64 sz,.int .i64 nx,.int .i64 nw,.slice (some ad) n3 c3,.bool rd] _ rfl (fun wx hx=>by obtain⟨q,rfl⟩:=hx;exact HKQ.out q) Tryz.underlying146 rfl lg_info ?_;go_big_quiet_on)|quiet_step (first|(go_at_call 74;refine below_of (HH.out _ (HQ.out _)))|(go_at_call 76;refine below_of (HE.out _ (HQ.out _)))))
 refine wpQuiet_nil ?_;intro _ hw';obtain⟨q,rfl⟩:=hw';have HQ1:=Lib.hid (HQ.out q);have HK1:=Lib.hid (HKQ.out q);clear q12;generalize q.to=w2 at *
 go_wp2_with fail
 have HQ:=Lib.hid (show ∀q:Bw w2,Below w.heap.size w q.to from fun q=>HQ1.out.trans (q.h.mono HQ1.out.size));have q0:=bw_cell HK1.out 0 (v:=.int .i64 cb) rfl;have q14:=bw_cell HK1.out 14 (v:=.int .i64 nx) rfl;have q16:=bw_cell HK1.out 16 (v:=.slice (some ad) n3 c3) rfl;refine wp_region_quiet_below (by assumption) (by kernel_rfl) ?_
 repeat (first|go_big_quiet_skip|quiet_step (first|(go_at_call 136;refine below_of (HR.out _ (HQ.out _)))|(go_at_call 81;refine below_of (HW.out _ (HQ.out _)))|(go_at_call 180;refine below_of (HN.out _ (HQ.out _)))))
 refine wpQuiet_nil ?_;intro _ hw';obtain⟨q,rfl⟩:=hw';have HQ2:=Lib.hid (HQ.out q);have HK2:=Lib.hid (HK1.out.ext q.h);clear q0 q14 q16;generalize q.to=w3 at *
 have k16:=HK2.out.cell 16 (v:=.slice (some ad) n3 c3) rfl;have k17:=(HQ2.out.cell HC4.out.1).trans HC4.out.2;go_wp2_with fail
 go_ret
 exact⟨rfl,HQ2.out⟩
theorem rowE_seq:∀(l:List Rc) (p:Rc),Rd.rowE (some p) l=0-> ∀(q:Rc),(p::l).getLast? =some q->q.1=p.1+l.length
 | [],p,_,q,hq=>by simp at hq;subst hq;simp
 |x::l,p,h,q,hq=>by
  rw[Rd.rowE] at h;split at h
  ·cases h
  ·rename_i h1
   split at h
   ·cases h
   ·rename_i h2
    have:=rowE_seq l x h q (by rw[<-hq,List.getLast?_cons_cons]);simp only[off,decide_eq_true_eq] at h2;rw[List.length_cons]
    push_cast
    omega
theorem waitsB_of {s:St} {F N:Int} (hN:N=bnext F s.wt) (hr:Rd.rowE none s.wt=0):(decide (s.nx=N)&&firstR F s.wt)=(decide (s.nx=F+s.wt.length)&&firstR F s.wt):=by
 subst hN;unfold bnext;rcases hw:s.wt with _|⟨r,l⟩
 ·congr 1
  exact decide_eq_decide.2 (by simp)
 ·rw[hw] at hr
  rcases hg:(r::l).getLast? with _|q
  ·simp at hg
  ·have h1:Rd.rowE (some r) l=0:=by
    rw[Rd.rowE] at hr;split at hr
    ·cases hr
    ·split at hr
     ·cases hr
     ·exact hr
   have:=rowE_seq l r h1 q hg;unfold firstR;dsimp only;by_cases hf:r.1=F
   ·rw[decide_eq_true hf,Bool.and_true,Bool.and_true]
    congr 1;rw[List.length_cons]
    push_cast
    exact propext ⟨fun h=>by omega,fun h=>by omega⟩
   ·rw[decide_eq_false hf,Bool.and_false,Bool.and_false]
theorem waits_any (s:St) (x y z:Sl) (w:World) (h:Str w w.heap.size s x y z) (hx1:x.n<=1000000) (hy1:y.n<=100000) (hz1:z.n<=1000000) (hk:keptB s=true) (hb:okBi s.bs=true) :
  Calls Tryz.prog 132 #[sagg s x y z] w fun e w'=>e=.returned (.bool (waitsB s))/\Below w.heap.size w w':=by
 obtain⟨ho,hl0,-⟩:=hd_ok hk;have hbd:=okE_bd ho;have HH:=Lib.hid (fun(wx:World) (hb:Below w.heap.size w wx)=>lhead_any s x y z wx (h.ext hb) hl0 hx1);have HE:=Lib.hid (fun(wx:World) (hw:Below w.heap.size w wx)=>nextI_any y.A y.n y.c (hdOf s).i (hdOf s).g (hdOf s).f s.bs wx (h.ext hw).bs hy1 hb (by omega));have HR:=Lib.hid (fun(wx:World) (hw:Below w.heap.size w wx)=>row_any z.A z.n z.c s.wt wx (h.ext hw).wt (by omega));have hln:=rdS_len h.wt;have HL:waitsB s=(decide (Rd.rowE none s.wt=0)&&(decide ((rawR s.wt:Int)<s.cf.b)&&(decide (s.nx=nextI (hdOf s).f s.bs+s.wt.length)&&firstR (nextI (hdOf s).f s.bs) s.wt))):=rfl;by_cases hr:Rd.rowE none s.wt=0
 case neg =>
  rw[HL,decide_eq_false hr];exact waits_1 HH HE HR (by rw[bne_iff_ne];exact hr)
 have hok:=row_ok1 s.wt none hr;rw[hr] at HR;have HW:=Lib.hid (fun(wx:World) (hw:Below w.heap.size w wx)=>raw_any z.A z.n z.c s.wt wx (h.ext hw).wt hz1 hok);rw[HL,decide_eq_true hr];by_cases h2:s.cf.b<=(rawR s.wt:Int)
 ·rw[decide_eq_false (by omega)]
  exact waits_2 HH HE HR HW h2
 rw[decide_eq_true (by omega)];have HN:=Lib.hid (fun(wx:World) (hw:Below w.heap.size w wx)=>bnext_any z.A z.n z.c (nextI (hdOf s).f s.bs) s.wt wx (h.ext hw).wt hz1 hok);rw[<-waitsB_of rfl hr];by_cases h3:s.nx=bnext (nextI (hdOf s).f s.bs) s.wt
 case neg =>
  rw[decide_eq_false h3];exact waits_3 HH HE HR HW HN h2 (by rw[bne_iff_ne];exact h3)
 have h3':(s.nx != bnext (nextI (hdOf s).f s.bs) s.wt)=false:=by rw[<-h3];simp
 rw[decide_eq_true h3];by_cases hn0:z.n=0
 ·have hws:s.wt=[]:=List.length_eq_zero_iff.1 (by omega)
  rw[show firstR (nextI (hdOf s).f s.bs) s.wt=true from by rw[hws];rfl];exact waits_4 HH HE HR HW HN h2 h3' (by rw[hn0];rfl)
 obtain⟨ad,r0,hA,hbk,hx0,c4,-⟩:=sl_at (k:=0) h.wt (by omega);have hzz:ad.add (0*3)=ad:=by rw[Nat.zero_mul];unfold Addr.add;simp
 rw[hzz] at c4;have hf:firstR (nextI (hdOf s).f s.bs) s.wt=(r0.1==nextI (hdOf s).f s.bs):=by
  rcases hq:s.wt with _|⟨b1,l⟩
  ·rw[hq] at hx0;simp at hx0
  ·rw[hq] at hx0
   simp only[List.getElem?_cons_zero,Option.some.injEq] at hx0;subst hx0;rfl
 obtain⟨A3,n3,c3⟩:=z;dsimp only at *
 subst hA;rw[hf];have e1:((n3:Int)==0)=false:=by rw[beq_eq_false_iff_ne];omega
 have e2:(0:Int)<(n3:Int):=by omega
 have e3:0<n3:=by omega
 exact waits_5 HH HE HR HW HN h2 h3' e1 e2 e3 hn0 ⟨hbk,c4⟩ _ rfl
end Op
end Go.Proofs.YtejcdhdfanfkbaaGreat
