/- ZR40 -/
import Derived.Test.YtghaobakpdninaaGreatDoorZR31
set_option linter.unusedVariables false
set_option linter.unusedSimpArgs false
set_option maxRecDepth 100000
set_option maxHeartbeats 16000000
namespace Go.Proofs.YtghaobakpdninaaGreatDoor
open Go.RowKit
theorem nat_0 (N:NPos)(s:NSt)(w:World)(h:NZ w N s):Calls Tryz.prog 24 #[.pointer (some ⟨N.n,0,none⟩),.int .i64 0] w fun en w'=>en=.returned (.pointer (some ⟨N.ls,0,none⟩))∧w=w':=by
 have c1:w.cell? ⟨N.n,1,none⟩=some (.slice (some ⟨N.ls,0,none⟩) 1 N.lc):=(NZ.gn h).c 1 _ rfl
 clear h
 go_enter Tryz.func24,Tryz.ntmps24
 go_wp2
 go_ret
 exact⟨rfl,rfl⟩
theorem bfwdN (b m:Nat)(p:Int)(x:Bool)(w:World)(c1:w.cell? ⟨b,1,none⟩=some (.pointer (some ⟨m,0,none⟩)))(h:Calls Tryz.prog 52 #[.pointer (some ⟨m,0,none⟩),.int .u8 p] w fun en w'=>en=.returned (.bool x)∧Below w.heap.size w w'):Calls Tryz.prog 27 #[.pointer (some ⟨b,0,none⟩),.int .u8 p] w fun en w'=>en=.returned (.bool x)∧Below w.heap.size w w':=by
 have H:=hd0 h
 clear h
 go_enter Tryz.func27,Tryz.ntmps27
 go_wp2_with (go_at_call 52;with_reducible refine H.out.mono ?_;rintro e wx ⟨rfl,hb⟩)
 go_ret
 exact⟨rfl,hb⟩
theorem lcntDropped0 (l q0 c0 q1 c1:Nat)(u:Bool)(B0 B1:List Value)(w:World)(h:LK w l q0 c0 q1 c1 u B0 B1):Calls Tryz.prog 28 #[.pointer (some ⟨l,0,none⟩),.int .i64 0] w fun en w'=>en=.returned (.int .u64 0)∧Below w.heap.size w w':=by
 have OF:Hid (∀ W,LK W l q0 c0 q1 c1 u B0 B1→Calls Tryz.prog 54 #[.pointer (some ⟨l,1,none⟩)] W fun en w'=>en=.returned (.int .u64 0)∧W=w'):=hd0 fun W hW=>by
  have cx:W.cell? ⟨l,2,none⟩=some (.int .u64 0):=hW.gl.c 2 _ rfl
  clear hW
  go_enter Tryz.func54,Tryz.ntmps54
  go_wp2
  go_ret
  exact⟨rfl,rfl⟩
 have CO:Hid (∀ W (a b B:Nat),LK W l q0 c0 q1 c1 u B0 B1→B≤b→W.cell? ⟨a,0,none⟩=some (.func (.func 54) #[] #[])→GB 63 W b #[.int .u64 0]→Calls Tryz.prog 79 #[.pointer (some ⟨l,1,none⟩),.pointer (some ⟨a,0,none⟩),.pointer (some ⟨b,0,none⟩)] W fun en w'=>∃ v,en=.returned v∧(GB 63 w' b #[.int .u64 0]∧Below B W w')):=hd0 fun W a b B hW hB ca gb=>by
  have O1:=hd0 (OF.out W hW)
  have cb:=gb.c 0 _ rfl
  have fb:=gb.fr 0
  have HG:=hd0 gb
  clear hW gb
  go_enter Tryz.func79,Tryz.ntmps79
  go_wp2_with (go_at_call 54;with_reducible refine O1.out.mono ?_;rintro e wx ⟨rfl,rfl⟩)
  go_ret
  exact⟨_,rfl,HG.out.set 0 _,below_set (Below.refl _ _) hB _⟩
 have HH:=hd0 h
 have CN:Hid (Calls Tryz.prog 53 #[.pointer (some ⟨l,0,none⟩),.int .i64 0,.func (.func 54) #[] #[]] w fun en w'=>en=.returned (.int .u64 0)∧Below w.heap.size w w'):=hd0 (by
  have hb:=((Below.refl w.heap.size w).alloc (Nat.le_refl _) (.cells #[.func (.func 54) #[] #[]] 164)).alloc (by simp) (.cells #[.int .u64 0] 63)
  have ga:=((GB.new 164 w #[.func (.func 54) #[] #[]]).later (bAo (.cells #[.int .u64 0] 63))).c 0 _ rfl
  have gb:=GB.new 63 (w.alloc (.cells #[.func (.func 54) #[] #[]] 164)) #[.int .u64 0]
  rw[show(w.alloc (.cells #[.func (.func 54) #[] #[]] 164)).heap.size=w.heap.size+1 by simp] at gb
  obtain⟨w0,hw0⟩:∃ z,(w.alloc (.cells #[.func (.func 54) #[] #[]] 164)).alloc (.cells #[.int .u64 0] 63)=z:=⟨_,rfl⟩
  rw[hw0] at hb ga gb
  have CW:=hd0 (lwith_count_10 l _ _ (fun _ w'=>GB 63 w' (w.heap.size+1) #[.int .u64 0]∧Below w.heap.size w0 w') w0 (CO.out w0 w.heap.size (w.heap.size+1) w.heap.size (HH.out.later hb) (by omega) ga gb))
  have HB:=hd0 hb
  clear hb ga gb
  go_enter Tryz.func53,Tryz.ntmps53
  go_wp2_with (go_at_call 49;with_reducible refine CW.out.mono ?_;rintro e w1 ⟨v,rfl,g1,b1⟩;have k1:w1.cell? ⟨w.heap.size+1,0,none⟩=some (.int .u64 0):=g1.c 0 _ rfl;have k2:=g1.fr 0;have sc:=setCell_id k1)
  exact bodyPost_ret (v:=.int .u64 0) (by simp[results,Tryz.results53,Tryz.f53,go_sem,k1,asAddr]) rfl ⟨rfl,HB.out.trans b1⟩)
 clear h OF CO HH
 go_enter Tryz.func28,Tryz.ntmps28
 go_wp2_with (go_at_call 53;with_reducible refine CN.out.mono ?_;rintro e w1 ⟨rfl,b1⟩)
 go_ret
 exact⟨rfl,b1⟩
theorem lcntDropped1 (l q0 c0 q1 c1:Nat)(u:Bool)(B0 B1:List Value)(w:World)(h:LK w l q0 c0 q1 c1 u B0 B1):Calls Tryz.prog 28 #[.pointer (some ⟨l,0,none⟩),.int .i64 1] w fun en w'=>en=.returned (.int .u64 0)∧Below w.heap.size w w':=by
 have OF:Hid (∀ W,LK W l q0 c0 q1 c1 u B0 B1→Calls Tryz.prog 54 #[.pointer (some ⟨l,4,none⟩)] W fun en w'=>en=.returned (.int .u64 0)∧W=w'):=hd0 fun W hW=>by
  have cx:W.cell? ⟨l,5,none⟩=some (.int .u64 0):=hW.gl.c 5 _ rfl
  clear hW
  go_enter Tryz.func54,Tryz.ntmps54
  go_wp2
  go_ret
  exact⟨rfl,rfl⟩
 have CO:Hid (∀ W (a b B:Nat),LK W l q0 c0 q1 c1 u B0 B1→B≤b→W.cell? ⟨a,0,none⟩=some (.func (.func 54) #[] #[])→GB 63 W b #[.int .u64 0]→Calls Tryz.prog 79 #[.pointer (some ⟨l,4,none⟩),.pointer (some ⟨a,0,none⟩),.pointer (some ⟨b,0,none⟩)] W fun en w'=>∃ v,en=.returned v∧(GB 63 w' b #[.int .u64 0]∧Below B W w')):=hd0 fun W a b B hW hB ca gb=>by
  have O1:=hd0 (OF.out W hW)
  have cb:=gb.c 0 _ rfl
  have fb:=gb.fr 0
  have HG:=hd0 gb
  clear hW gb
  go_enter Tryz.func79,Tryz.ntmps79
  go_wp2_with (go_at_call 54;with_reducible refine O1.out.mono ?_;rintro e wx ⟨rfl,rfl⟩)
  go_ret
  exact⟨_,rfl,HG.out.set 0 _,below_set (Below.refl _ _) hB _⟩
 have HH:=hd0 h
 have CN:Hid (Calls Tryz.prog 53 #[.pointer (some ⟨l,0,none⟩),.int .i64 1,.func (.func 54) #[] #[]] w fun en w'=>en=.returned (.int .u64 0)∧Below w.heap.size w w'):=hd0 (by
  have hb:=((Below.refl w.heap.size w).alloc (Nat.le_refl _) (.cells #[.func (.func 54) #[] #[]] 164)).alloc (by simp) (.cells #[.int .u64 0] 63)
  have ga:=((GB.new 164 w #[.func (.func 54) #[] #[]]).later (bAo (.cells #[.int .u64 0] 63))).c 0 _ rfl
  have gb:=GB.new 63 (w.alloc (.cells #[.func (.func 54) #[] #[]] 164)) #[.int .u64 0]
  rw[show(w.alloc (.cells #[.func (.func 54) #[] #[]] 164)).heap.size=w.heap.size+1 by simp] at gb
  obtain⟨w0,hw0⟩:∃ z,(w.alloc (.cells #[.func (.func 54) #[] #[]] 164)).alloc (.cells #[.int .u64 0] 63)=z:=⟨_,rfl⟩
  rw[hw0] at hb ga gb
  have CW:=hd0 (lwith_count_11 l _ _ (fun _ w'=>GB 63 w' (w.heap.size+1) #[.int .u64 0]∧Below w.heap.size w0 w') w0 (CO.out w0 w.heap.size (w.heap.size+1) w.heap.size (HH.out.later hb) (by omega) ga gb))
  have HB:=hd0 hb
  clear hb ga gb
  go_enter Tryz.func53,Tryz.ntmps53
  go_wp2_with (go_at_call 49;with_reducible refine CW.out.mono ?_;rintro e w1 ⟨v,rfl,g1,b1⟩;have k1:w1.cell? ⟨w.heap.size+1,0,none⟩=some (.int .u64 0):=g1.c 0 _ rfl;have k2:=g1.fr 0;have sc:=setCell_id k1)
  exact bodyPost_ret (v:=.int .u64 0) (by simp[results,Tryz.results53,Tryz.f53,go_sem,k1,asAddr]) rfl ⟨rfl,HB.out.trans b1⟩)
 clear h OF CO HH
 go_enter Tryz.func28,Tryz.ntmps28
 go_wp2_with (go_at_call 53;with_reducible refine CN.out.mono ?_;rintro e w1 ⟨rfl,b1⟩)
 go_ret
 exact⟨rfl,b1⟩
theorem lcntLost0 (l q0 c0 q1 c1:Nat)(u:Bool)(B0 B1:List Value)(w:World)(h:LK w l q0 c0 q1 c1 u B0 B1):Calls Tryz.prog 29 #[.pointer (some ⟨l,0,none⟩),.int .i64 0] w fun en w'=>en=.returned (.int .u64 0)∧Below w.heap.size w w':=by
 have OF:Hid (∀ W,LK W l q0 c0 q1 c1 u B0 B1→Calls Tryz.prog 55 #[.pointer (some ⟨l,1,none⟩)] W fun en w'=>en=.returned (.int .u64 0)∧W=w'):=hd0 fun W hW=>by
  have cx:W.cell? ⟨l,3,none⟩=some (.int .u64 0):=hW.gl.c 3 _ rfl
  clear hW
  go_enter Tryz.func55,Tryz.ntmps55
  go_wp2
  go_ret
  exact⟨rfl,rfl⟩
 have CO:Hid (∀ W (a b B:Nat),LK W l q0 c0 q1 c1 u B0 B1→B≤b→W.cell? ⟨a,0,none⟩=some (.func (.func 55) #[] #[])→GB 63 W b #[.int .u64 0]→Calls Tryz.prog 79 #[.pointer (some ⟨l,1,none⟩),.pointer (some ⟨a,0,none⟩),.pointer (some ⟨b,0,none⟩)] W fun en w'=>∃ v,en=.returned v∧(GB 63 w' b #[.int .u64 0]∧Below B W w')):=hd0 fun W a b B hW hB ca gb=>by
  have O1:=hd0 (OF.out W hW)
  have cb:=gb.c 0 _ rfl
  have fb:=gb.fr 0
  have HG:=hd0 gb
  clear hW gb
  go_enter Tryz.func79,Tryz.ntmps79
  go_wp2_with (go_at_call 55;with_reducible refine O1.out.mono ?_;rintro e wx ⟨rfl,rfl⟩)
  go_ret
  exact⟨_,rfl,HG.out.set 0 _,below_set (Below.refl _ _) hB _⟩
 have HH:=hd0 h
 have CN:Hid (Calls Tryz.prog 53 #[.pointer (some ⟨l,0,none⟩),.int .i64 0,.func (.func 55) #[] #[]] w fun en w'=>en=.returned (.int .u64 0)∧Below w.heap.size w w'):=hd0 (by
  have hb:=((Below.refl w.heap.size w).alloc (Nat.le_refl _) (.cells #[.func (.func 55) #[] #[]] 164)).alloc (by simp) (.cells #[.int .u64 0] 63)
  have ga:=((GB.new 164 w #[.func (.func 55) #[] #[]]).later (bAo (.cells #[.int .u64 0] 63))).c 0 _ rfl
  have gb:=GB.new 63 (w.alloc (.cells #[.func (.func 55) #[] #[]] 164)) #[.int .u64 0]
  rw[show(w.alloc (.cells #[.func (.func 55) #[] #[]] 164)).heap.size=w.heap.size+1 by simp] at gb
  obtain⟨w0,hw0⟩:∃ z,(w.alloc (.cells #[.func (.func 55) #[] #[]] 164)).alloc (.cells #[.int .u64 0] 63)=z:=⟨_,rfl⟩
  rw[hw0] at hb ga gb
  have CW:=hd0 (lwith_count_10 l _ _ (fun _ w'=>GB 63 w' (w.heap.size+1) #[.int .u64 0]∧Below w.heap.size w0 w') w0 (CO.out w0 w.heap.size (w.heap.size+1) w.heap.size (HH.out.later hb) (by omega) ga gb))
  have HB:=hd0 hb
  clear hb ga gb
  go_enter Tryz.func53,Tryz.ntmps53
  go_wp2_with (go_at_call 49;with_reducible refine CW.out.mono ?_;rintro e w1 ⟨v,rfl,g1,b1⟩;have k1:w1.cell? ⟨w.heap.size+1,0,none⟩=some (.int .u64 0):=g1.c 0 _ rfl;have k2:=g1.fr 0;have sc:=setCell_id k1)
  exact bodyPost_ret (v:=.int .u64 0) (by simp[results,Tryz.results53,Tryz.f53,go_sem,k1,asAddr]) rfl ⟨rfl,HB.out.trans b1⟩)
 clear h OF CO HH
 go_enter Tryz.func29,Tryz.ntmps29
 go_wp2_with (go_at_call 53;with_reducible refine CN.out.mono ?_;rintro e w1 ⟨rfl,b1⟩)
 go_ret
 exact⟨rfl,b1⟩
theorem lcntLost1 (l q0 c0 q1 c1:Nat)(u:Bool)(B0 B1:List Value)(w:World)(h:LK w l q0 c0 q1 c1 u B0 B1):Calls Tryz.prog 29 #[.pointer (some ⟨l,0,none⟩),.int .i64 1] w fun en w'=>en=.returned (.int .u64 0)∧Below w.heap.size w w':=by
 have OF:Hid (∀ W,LK W l q0 c0 q1 c1 u B0 B1→Calls Tryz.prog 55 #[.pointer (some ⟨l,4,none⟩)] W fun en w'=>en=.returned (.int .u64 0)∧W=w'):=hd0 fun W hW=>by
  have cx:W.cell? ⟨l,6,none⟩=some (.int .u64 0):=hW.gl.c 6 _ rfl
  clear hW
  go_enter Tryz.func55,Tryz.ntmps55
  go_wp2
  go_ret
  exact⟨rfl,rfl⟩
 have CO:Hid (∀ W (a b B:Nat),LK W l q0 c0 q1 c1 u B0 B1→B≤b→W.cell? ⟨a,0,none⟩=some (.func (.func 55) #[] #[])→GB 63 W b #[.int .u64 0]→Calls Tryz.prog 79 #[.pointer (some ⟨l,4,none⟩),.pointer (some ⟨a,0,none⟩),.pointer (some ⟨b,0,none⟩)] W fun en w'=>∃ v,en=.returned v∧(GB 63 w' b #[.int .u64 0]∧Below B W w')):=hd0 fun W a b B hW hB ca gb=>by
  have O1:=hd0 (OF.out W hW)
  have cb:=gb.c 0 _ rfl
  have fb:=gb.fr 0
  have HG:=hd0 gb
  clear hW gb
  go_enter Tryz.func79,Tryz.ntmps79
  go_wp2_with (go_at_call 55;with_reducible refine O1.out.mono ?_;rintro e wx ⟨rfl,rfl⟩)
  go_ret
  exact⟨_,rfl,HG.out.set 0 _,below_set (Below.refl _ _) hB _⟩
 have HH:=hd0 h
 have CN:Hid (Calls Tryz.prog 53 #[.pointer (some ⟨l,0,none⟩),.int .i64 1,.func (.func 55) #[] #[]] w fun en w'=>en=.returned (.int .u64 0)∧Below w.heap.size w w'):=hd0 (by
  have hb:=((Below.refl w.heap.size w).alloc (Nat.le_refl _) (.cells #[.func (.func 55) #[] #[]] 164)).alloc (by simp) (.cells #[.int .u64 0] 63)
  have ga:=((GB.new 164 w #[.func (.func 55) #[] #[]]).later (bAo (.cells #[.int .u64 0] 63))).c 0 _ rfl
  have gb:=GB.new 63 (w.alloc (.cells #[.func (.func 55) #[] #[]] 164)) #[.int .u64 0]
  rw[show(w.alloc (.cells #[.func (.func 55) #[] #[]] 164)).heap.size=w.heap.size+1 by simp] at gb
  obtain⟨w0,hw0⟩:∃ z,(w.alloc (.cells #[.func (.func 55) #[] #[]] 164)).alloc (.cells #[.int .u64 0] 63)=z:=⟨_,rfl⟩
  rw[hw0] at hb ga gb
  have CW:=hd0 (lwith_count_11 l _ _ (fun _ w'=>GB 63 w' (w.heap.size+1) #[.int .u64 0]∧Below w.heap.size w0 w') w0 (CO.out w0 w.heap.size (w.heap.size+1) w.heap.size (HH.out.later hb) (by omega) ga gb))
  have HB:=hd0 hb
  clear hb ga gb
  go_enter Tryz.func53,Tryz.ntmps53
  go_wp2_with (go_at_call 49;with_reducible refine CW.out.mono ?_;rintro e w1 ⟨v,rfl,g1,b1⟩;have k1:w1.cell? ⟨w.heap.size+1,0,none⟩=some (.int .u64 0):=g1.c 0 _ rfl;have k2:=g1.fr 0;have sc:=setCell_id k1)
  exact bodyPost_ret (v:=.int .u64 0) (by simp[results,Tryz.results53,Tryz.f53,go_sem,k1,asAddr]) rfl ⟨rfl,HB.out.trans b1⟩)
 clear h OF CO HH
 go_enter Tryz.func29,Tryz.ntmps29
 go_wp2_with (go_at_call 53;with_reducible refine CN.out.mono ?_;rintro e w1 ⟨rfl,b1⟩)
 go_ret
 exact⟨rfl,b1⟩
theorem nedge (N:NPos)(s:NSt)
  (FA0:∀ W,NZ W N s→Calls Tryz.prog 27 #[.pointer (some ⟨N.A.b,0,none⟩),.int .u8 1] W fun en w'=>en=.returned (.bool true)∧Below W.heap.size W w')
  (FB0:∀ W,NZ W N s→Calls Tryz.prog 27 #[.pointer (some ⟨N.B.b,0,none⟩),.int .u8 1] W fun en w'=>en=.returned (.bool true)∧Below W.heap.size W w')
  (w:World) (h:NZ w N s):Calls Tryz.prog 12 #[.pointer (some ⟨N.n,0,none⟩),.int .i64 0] w fun en w'=>en=.returned (.bool true)∧Below w.heap.size w w':=by
 have AT:=hd0 (nat_0 N s w h)
 have IU:=hd0 (lisup N.l N.q0 N.c0 N.q1 N.c1 s.B0 s.B1 true w (NZ.lk h))
 have FA:=hd0 FA0
 have FB:=hd0 FB0
 have e0:w.cell? ⟨N.ls,0,none⟩=some (.pointer (some ⟨N.l,0,none⟩)):=by have:=NZ.rl h 0 _ rfl;rwa [Nat.zero_add] at this
 have e1:w.cell? ⟨N.ls,1,none⟩=some (.int .i64 0):=by have:=NZ.rl h 1 _ rfl;rwa [Nat.zero_add] at this
 have e2:w.cell? ⟨N.ls,2,none⟩=some (.int .u8 1):=by have:=NZ.rl h 2 _ rfl;rwa [Nat.zero_add] at this
 have e3:w.cell? ⟨N.ls,3,none⟩=some (.int .u32 5):=by have:=NZ.rl h 3 _ rfl;rwa [Nat.zero_add] at this
 have e4:w.cell? ⟨N.ls,4,none⟩=some (.int .i64 1):=by have:=NZ.rl h 4 _ rfl;rwa [Nat.zero_add] at this
 have e5:w.cell? ⟨N.ls,5,none⟩=some (.int .u8 1):=by have:=NZ.rl h 5 _ rfl;rwa [Nat.zero_add] at this
 have e6:w.cell? ⟨N.ls,6,none⟩=some (.int .u32 5):=by have:=NZ.rl h 6 _ rfl;rwa [Nat.zero_add] at this
 have HN:=hd0 h
 have H0:=hd0 (Below.refl w.heap.size w)
 clear h FA0 FB0
 have IX0:∀ W:World,(Instr.index 104 (.agg #[.int .i64 0,.int .u8 1,.int .u32 5,.int .i64 1,.int .u8 1,.int .u32 5]) (.int .i64 0)).run Tryz.prog W=.ok (.agg #[.int .i64 0,.int .u8 1,.int .u32 5]) W:=fun W=>by kernel_rfl
 have IX1:∀ W:World,(Instr.index 104 (.agg #[.int .i64 0,.int .u8 1,.int .u32 5,.int .i64 1,.int .u8 1,.int .u32 5]) (.int .i64 1)).run Tryz.prog W=.ok (.agg #[.int .i64 1,.int .u8 1,.int .u32 5]) W:=fun W=>by kernel_rfl
 go_enter Tryz.func12,Tryz.ntmps12
 go_wp2_with (first
  |(go_at_call 24;with_reducible refine AT.out.mono ?_;rintro e wx ⟨rfl,rfl⟩)
  |(go_at_call 25;with_reducible refine IU.out.mono ?_;rintro e wx ⟨rfl,rfl⟩))
 refine wp_loop_rounds 3 ?_
 clear e0 e1 e2 e3 e4 e5 e6 AT IU
 rw[rounds_succ]
 go_upto_region 7 with fail
 have b0:=(Below.refl w.heap.size w).alloc (Nat.le_refl _) (.cells #[.int .i64 0,.int .u8 1,.int .u32 5] 103)
 have g0:=GB.new 103 w #[.int .i64 0,.int .u8 1,.int .u32 5]
 obtain⟨z0,hz0⟩:∃ z,w.heap.size=z:=⟨_,rfl⟩
 have a0:=H0.out.trans (b0.mono H0.out.size)
 rw[hz0] at g0 ⊢
 obtain⟨x1,hx1⟩:∃ z,w.alloc (.cells #[.int .i64 0,.int .u8 1,.int .u32 5] 103)=z:=⟨_,rfl⟩
 rw[hx1] at g0 a0 ⊢
 clear b0 hz0 hx1
 have G0:=hd0 g0
 have A0:=hd0 a0
 clear g0 a0
 have l1:∀ K:Later x1,K.out.cell? ⟨N.n,0,none⟩=some (.slice (some ⟨N.bs,0,none⟩) 2 N.bc):=fun K=>(NZ.gn (HN.out.later (A0.out.trans (K.h.mono A0.out.size)))).c 0 _ rfl
 have l2:∀ K:Later x1,K.out.cell? ⟨N.bs,0,none⟩=some (.pointer (some ⟨N.A.b,0,none⟩)):=fun K=>by have:=NZ.rb (HN.out.later (A0.out.trans (K.h.mono A0.out.size))) 0 _ rfl;rwa [Nat.zero_add] at this
 have l3:∀ K:Later x1,K.out.cell? ⟨z0,0,none⟩=some (.int .i64 0):=fun K=>(G0.out.later K.h).c 0 _ rfl
 have l4:∀ K:Later x1,K.out.cell? ⟨z0,1,none⟩=some (.int .u8 1):=fun K=>(G0.out.later K.h).c 1 _ rfl
 have FK:Hid (∀ K:Later x1,Calls Tryz.prog 27 #[.pointer (some ⟨N.A.b,0,none⟩),.int .u8 1] K.out fun en w'=>en=.returned (.bool true)∧Below K.out.heap.size K.out w'):=hd0 fun K=>FA.out _ (HN.out.later (A0.out.trans (K.h.mono A0.out.size)))
 refine wp_region_later (by kernel_rfl) (by kernel_rfl) ?_
 repeat (go_big_quiet_step (first|(go_at_call 27;exact Calls.later (FK.out _))))
 refine wpQuiet_nil ?_
 rintro _ ⟨K,rfl⟩
 have H1:=hd0 (A0.out.trans (K.h.mono A0.out.size))
 obtain⟨y1,hy1⟩:∃ z,K.out=z:=⟨_,rfl⟩
 rw[hy1] at H1 ⊢
 clear hy1 K l1 l2 l3 l4 FK
 go_wp2_with fail
 rw[rounds_succ]
 go_upto_region 7 with fail
 have b1:=(Below.refl y1.heap.size y1).alloc (Nat.le_refl _) (.cells #[.int .i64 1,.int .u8 1,.int .u32 5] 103)
 have g1:=GB.new 103 y1 #[.int .i64 1,.int .u8 1,.int .u32 5]
 obtain⟨z1,hz1⟩:∃ z,y1.heap.size=z:=⟨_,rfl⟩
 have a1:=H1.out.trans (b1.mono H1.out.size)
 rw[hz1] at g1 ⊢
 obtain⟨x2,hx2⟩:∃ z,y1.alloc (.cells #[.int .i64 1,.int .u8 1,.int .u32 5] 103)=z:=⟨_,rfl⟩
 rw[hx2] at g1 a1 ⊢
 clear b1 hz1 hx2
 have G1:=hd0 g1
 have A1:=hd0 a1
 clear g1 a1
 have l1:∀ K:Later x2,K.out.cell? ⟨N.n,0,none⟩=some (.slice (some ⟨N.bs,0,none⟩) 2 N.bc):=fun K=>(NZ.gn (HN.out.later (A1.out.trans (K.h.mono A1.out.size)))).c 0 _ rfl
 have l2:∀ K:Later x2,K.out.cell? ⟨N.bs,1,none⟩=some (.pointer (some ⟨N.B.b,0,none⟩)):=fun K=>by have:=NZ.rb (HN.out.later (A1.out.trans (K.h.mono A1.out.size))) 1 _ rfl;rwa [Nat.zero_add] at this
 have l3:∀ K:Later x2,K.out.cell? ⟨z1,0,none⟩=some (.int .i64 1):=fun K=>(G1.out.later K.h).c 0 _ rfl
 have l4:∀ K:Later x2,K.out.cell? ⟨z1,1,none⟩=some (.int .u8 1):=fun K=>(G1.out.later K.h).c 1 _ rfl
 have FK:Hid (∀ K:Later x2,Calls Tryz.prog 27 #[.pointer (some ⟨N.B.b,0,none⟩),.int .u8 1] K.out fun en w'=>en=.returned (.bool true)∧Below K.out.heap.size K.out w'):=hd0 fun K=>FB.out _ (HN.out.later (A1.out.trans (K.h.mono A1.out.size)))
 refine wp_region_later (by kernel_rfl) (by kernel_rfl) ?_
 repeat (go_big_quiet_step (first|(go_at_call 27;exact Calls.later (FK.out _))))
 refine wpQuiet_nil ?_
 rintro _ ⟨K,rfl⟩
 have H2:=hd0 (A1.out.trans (K.h.mono A1.out.size))
 obtain⟨y2,hy2⟩:∃ z,K.out=z:=⟨_,rfl⟩
 rw[hy2] at H2 ⊢
 clear hy2 K l1 l2 l3 l4 FK
 go_wp2_with fail
 rw[rounds_succ]
 go_wp2_with fail
 go_ret
 exact⟨rfl,H2.out⟩
theorem nlost (N:NPos)(s:NSt)(w:World)(h:NZ w N s):Calls Tryz.prog 13 #[.pointer (some ⟨N.n,0,none⟩)] w fun en w'=>en=.returned (.int .u64 0)∧Below w.heap.size w w':=by
 have c3:w.cell? ⟨N.n,3,none⟩=some (.int .u64 0):=(NZ.gn h).c 3 _ rfl
 have c1:w.cell? ⟨N.n,1,none⟩=some (.slice (some ⟨N.ls,0,none⟩) 1 N.lc):=(NZ.gn h).c 1 _ rfl
 have e0:w.cell? ⟨N.ls,0,none⟩=some (.pointer (some ⟨N.l,0,none⟩)):=by have:=NZ.rl h 0 _ rfl;rwa [Nat.zero_add] at this
 have e1:w.cell? ⟨N.ls,1,none⟩=some (.int .i64 0):=by have:=NZ.rl h 1 _ rfl;rwa [Nat.zero_add] at this
 have e2:w.cell? ⟨N.ls,2,none⟩=some (.int .u8 1):=by have:=NZ.rl h 2 _ rfl;rwa [Nat.zero_add] at this
 have e3:w.cell? ⟨N.ls,3,none⟩=some (.int .u32 5):=by have:=NZ.rl h 3 _ rfl;rwa [Nat.zero_add] at this
 have e4:w.cell? ⟨N.ls,4,none⟩=some (.int .i64 1):=by have:=NZ.rl h 4 _ rfl;rwa [Nat.zero_add] at this
 have e5:w.cell? ⟨N.ls,5,none⟩=some (.int .u8 1):=by have:=NZ.rl h 5 _ rfl;rwa [Nat.zero_add] at this
 have e6:w.cell? ⟨N.ls,6,none⟩=some (.int .u32 5):=by have:=NZ.rl h 6 _ rfl;rwa [Nat.zero_add] at this
 have HN:=hd0 h
 have H0:=hd0 (Below.refl w.heap.size w)
 clear h
 go_enter Tryz.func13,Tryz.ntmps13
 go_wp2_with fail
 refine wp_loop_rounds 2 ?_
 rw[rounds_succ]
 go_upto_region 7 with fail
 have b0:=(Below.refl w.heap.size w).alloc (Nat.le_refl _) (.cells #[.pointer (some ⟨N.l,0,none⟩),.int .i64 0,.int .u8 1,.int .u32 5,.int .i64 1,.int .u8 1,.int .u32 5] 106)
 have g0:=(GB.new 106 w #[.pointer (some ⟨N.l,0,none⟩),.int .i64 0,.int .u8 1,.int .u32 5,.int .i64 1,.int .u8 1,.int .u32 5])
 obtain⟨w0,hw0⟩:∃ z,w.alloc (.cells #[.pointer (some ⟨N.l,0,none⟩),.int .i64 0,.int .u8 1,.int .u32 5,.int .i64 1,.int .u8 1,.int .u32 5] 106)=z:=⟨_,rfl⟩
 rw[hw0] at b0 g0 ⊢
 have A0:=hd0 b0
 have G0:=hd0 g0
 clear hw0 b0 g0 c3 c1 e0 e1 e2 e3 e4 e5 e6
 have B0:=hd0 (Below.refl w0.heap.size w0)
 go_wp2_with fail
 refine wp_loop_rounds 3 ?_
 rw[rounds_succ]
 go_upto_region 10 with fail
 have l1:∀ K:Later w0,K.out.cell? ⟨w.heap.size,0,none⟩=some (.pointer (some ⟨N.l,0,none⟩)):=fun K=>(G0.out.later (B0.out.trans (K.h.mono B0.out.size))).c 0 _ rfl
 have DK:Hid (∀ K:Later w0,Calls Tryz.prog 28 #[.pointer (some ⟨N.l,0,none⟩),.int .i64 0] K.out fun en w'=>en=.returned (.int .u64 0)∧Below K.out.heap.size K.out w'):=hd0 fun K=>lcntDropped0 _ _ _ _ _ _ _ _ _ (NZ.lk (HN.out.later (A0.out.trans ((B0.out.trans (K.h.mono B0.out.size)).mono A0.out.size))))
 have LK:Hid (∀ K:Later w0,Calls Tryz.prog 29 #[.pointer (some ⟨N.l,0,none⟩),.int .i64 0] K.out fun en w'=>en=.returned (.int .u64 0)∧Below K.out.heap.size K.out w'):=hd0 fun K=>lcntLost0 _ _ _ _ _ _ _ _ _ (NZ.lk (HN.out.later (A0.out.trans ((B0.out.trans (K.h.mono B0.out.size)).mono A0.out.size))))
 refine wp_region_later (by kernel_rfl) (by kernel_rfl) ?_
 repeat (go_big_quiet_step (first|(go_at_call 28;exact Calls.later (DK.out _))|(go_at_call 29;exact Calls.later (LK.out _))))
 refine wpQuiet_nil ?_
 rintro _ ⟨K,rfl⟩
 have B1:=hd0 (B0.out.trans (K.h.mono B0.out.size))
 obtain⟨y1,hy1⟩:∃ z,K.out=z:=⟨_,rfl⟩
 rw[hy1] at B1 ⊢
 clear hy1 K l1 DK LK
 go_wp2_with fail
 rw[rounds_succ]
 go_upto_region 10 with fail
 have l1:∀ K:Later y1,K.out.cell? ⟨w.heap.size,0,none⟩=some (.pointer (some ⟨N.l,0,none⟩)):=fun K=>(G0.out.later (B1.out.trans (K.h.mono B1.out.size))).c 0 _ rfl
 have DK:Hid (∀ K:Later y1,Calls Tryz.prog 28 #[.pointer (some ⟨N.l,0,none⟩),.int .i64 1] K.out fun en w'=>en=.returned (.int .u64 0)∧Below K.out.heap.size K.out w'):=hd0 fun K=>lcntDropped1 _ _ _ _ _ _ _ _ _ (NZ.lk (HN.out.later (A0.out.trans ((B1.out.trans (K.h.mono B1.out.size)).mono A0.out.size))))
 have LK:Hid (∀ K:Later y1,Calls Tryz.prog 29 #[.pointer (some ⟨N.l,0,none⟩),.int .i64 1] K.out fun en w'=>en=.returned (.int .u64 0)∧Below K.out.heap.size K.out w'):=hd0 fun K=>lcntLost1 _ _ _ _ _ _ _ _ _ (NZ.lk (HN.out.later (A0.out.trans ((B1.out.trans (K.h.mono B1.out.size)).mono A0.out.size))))
 refine wp_region_later (by kernel_rfl) (by kernel_rfl) ?_
 repeat (go_big_quiet_step (first|(go_at_call 28;exact Calls.later (DK.out _))|(go_at_call 29;exact Calls.later (LK.out _))))
 refine wpQuiet_nil ?_
 rintro _ ⟨K,rfl⟩
 have B2:=hd0 (B1.out.trans (K.h.mono B1.out.size))
 obtain⟨y2,hy2⟩:∃ z,K.out=z:=⟨_,rfl⟩
 rw[hy2] at B2 ⊢
 clear hy2 K l1 DK LK
 go_wp2_with fail
 rw[rounds_succ]
 go_wp2_with fail
 rw[rounds_succ]
 go_wp2_with fail
 go_ret
 exact⟨rfl,A0.out.trans (B2.out.mono A0.out.size)⟩
theorem btableVN (lo hi:Nat)(P:BP)(T:TM)(o:List Int)(v:Value)(w:World)(h:BN w lo hi P T o [] v):Calls Tryz.prog 159 #[.pointer (some ⟨P.b,0,none⟩),.agg #[.int .u8 1,.int .u8 0,.int .u16 1,.int .u8 3,.int .u8 1,.int .u8 0,.int .u8 0,.int .u8 0,.int .u8 0,.int .u8 0,.int .u8 0,.int .u8 0,.string { data:=#[] },.string { data:=#[] },.int .u16 0,.int .u8 0,.slice none 0 0,.int .i64 0,.int .u16 0,.int .u8 0,.bool false,.int .u8 0,.int .u8 0,.int .u16 0,.int .u8 0,.string { data:=#[] },.int .u8 0]] w fun en w'=>en=.returned (.tuple #[.slice none 0 0,.int .i64 0,.int .i64 0])∧BN w' lo hi P T o [(1,3,1)] v∧Only P.vm w w':=by
 have hb:=(Below.refl w.heap.size w).alloc (Nat.le_refl _) (.cells #[.int .u8 1,.int .u8 0,.int .u16 1,.int .u8 3,.int .u8 1,.int .u8 0,.int .u8 0,.int .u8 0,.int .u8 0,.int .u8 0,.int .u8 0,.int .u8 0,.string { data:=#[] },.string { data:=#[] },.int .u16 0,.int .u8 0,.slice none 0 0,.int .i64 0,.int .u16 0,.int .u8 0,.bool false,.int .u8 0,.int .u8 0,.int .u16 0,.int .u8 0,.string { data:=#[] },.int .u8 0] 55)
 have g1:=GB.new 55 w #[.int .u8 1,.int .u8 0,.int .u16 1,.int .u8 3,.int .u8 1,.int .u8 0,.int .u8 0,.int .u8 0,.int .u8 0,.int .u8 0,.int .u8 0,.int .u8 0,.string { data:=#[] },.string { data:=#[] },.int .u16 0,.int .u8 0,.slice none 0 0,.int .i64 0,.int .u16 0,.int .u8 0,.bool false,.int .u8 0,.int .u8 0,.int .u16 0,.int .u8 0,.string { data:=#[] },.int .u8 0]
 have h0:=h.later hb
 obtain⟨w0,hw0⟩:∃ z,w.alloc (.cells #[.int .u8 1,.int .u8 0,.int .u16 1,.int .u8 3,.int .u8 1,.int .u8 0,.int .u8 0,.int .u8 0,.int .u8 0,.int .u8 0,.int .u8 0,.int .u8 0,.string { data:=#[] },.string { data:=#[] },.int .u16 0,.int .u8 0,.slice none 0 0,.int .i64 0,.int .u16 0,.int .u8 0,.bool false,.int .u8 0,.int .u8 0,.int .u16 0,.int .u8 0,.string { data:=#[] },.int .u8 0] 55)=z:=⟨_,rfl⟩
 rw[hw0] at hb g1 h0
 have HB:=hd0 hb
 have HG:=hd0 g1
 have HH:=hd0 fun K:Later w0=>h0.later K.h
 have l2:∀ K:Later w0,K.out.cell? ⟨P.b,2,none⟩=some (.pointer (some ⟨P.r,0,none⟩)):=fun K=>(HH.out K).c2
 have VL:Hid (∀ K:Later w0,Calls Tryz.prog 152 #[.pointer (some ⟨P.r,0,none⟩)] K.out fun en w'=>en=.returned (.pointer (some ⟨P.q,0,none⟩))∧K.out=w'):=hd0 fun K=>(rvlans_any P.r _ v _ (HH.out K).rl.c0 ⟨_,rfl⟩).mono fun e w' h=>⟨h.1,h.2.symm⟩
 have BA:Hid (∀ K:Later w0,Calls Tryz.prog 88 #[.pointer (some ⟨P.r,0,none⟩)] K.out fun en w'=>en=.returned (.pointer (some ⟨P.f,0,none⟩))∧K.out=w'):=hd0 fun K=>(rbase_any P.r _ v _ (HH.out K).rl.c1 ⟨_,rfl⟩).mono fun e w' h=>⟨h.1,h.2.symm⟩
 clear h hb g1 h0
 go_enter Tryz.func159,Tryz.ntmps159
 go_upto_region 1 with fail
 clear hw0
 refine wp_region_later (by kernel_rfl) (by kernel_rfl) ?_
 repeat (go_big_quiet_step (first
  |(go_at_call 152;exact Calls.later_same (VL.out _))
  |(go_at_call 88;exact Calls.later_same (BA.out _))))
 refine wpQuiet_nil ?_
 rintro _ ⟨K,rfl⟩
 have GK:=HG.out.later K.h
 have c0:K.out.cell? ⟨w.heap.size,0,none⟩=some (.int .u8 1):=GK.c 0 _ rfl
 have c2:K.out.cell? ⟨w.heap.size,2,none⟩=some (.int .u16 1):=GK.c 2 _ rfl
 have c3:K.out.cell? ⟨w.heap.size,3,none⟩=some (.int .u8 3):=GK.c 3 _ rfl
 have c4:K.out.cell? ⟨w.heap.size,4,none⟩=some (.int .u8 1):=GK.c 4 _ rfl
 have SE:Hid (Calls Tryz.prog 211 #[.pointer (some ⟨P.q,0,none⟩),.int .u16 1,.int .u8 3,.int .u8 1] K.out fun en w'=>en=.returned (.int .i64 0)∧TS w' P.q 2 P.vm o [(1,3,1)]∧Only P.vm K.out w'):=hd0 (vset_any P.q P.vm 2 o [] 1 3 1 K.out (HH.out K).rl.ts (by decide) (by decide) (by decide))
 have HK:=hd0 (HH.out K)
 have HBK:=hd0 (HB.out.trans (K.h.mono HB.out.size))
 clear GK l2 VL BA
 go_wp2_with (go_at_call 211;with_reducible refine SE.out.mono ?_;rintro e w2 ⟨rfl,hts,hon⟩)
 refine bodyPost_ret (v:=.tuple #[.slice none 0 0,.int .i64 0,.int .i64 0]) (by simp[results,Tryz.results159,go_sem]) rfl ⟨rfl,HK.out.setTS hts hon (Or.inr rfl),(below_only HBK.out).trans hon⟩
theorem btableON (lo hi:Nat)(P:BP)(T:TM)(V:List Vn)(v:Value)(w:World)(h:BN w lo hi P T [0,0,0,0,0,0,0,0] V v):Calls Tryz.prog 159 #[.pointer (some ⟨P.b,0,none⟩),.agg #[.int .u8 3,.int .u8 0,.int .u16 1,.int .u8 0,.int .u8 0,.int .u8 0,.int .u8 0,.int .u8 0,.int .u8 0,.int .u8 0,.int .u8 0,.int .u8 0,.string { data:=#[] },.string { data:=#[] },.int .u16 0,.int .u8 0,.slice none 0 0,.int .i64 0,.int .u16 0,.int .u8 0,.bool false,.int .u8 0,.int .u8 0,.int .u16 0,.int .u8 0,.string { data:=#[] },.int .u8 0]] w fun en w'=>en=.returned (.tuple #[.slice none 0 0,.int .i64 0,.int .i64 0])∧BN w' lo hi P T [1,0,0,0,0,0,0,0] V v∧Only P.q w w':=by
 have hb:=(Below.refl w.heap.size w).alloc (Nat.le_refl _) (.cells #[.int .u8 3,.int .u8 0,.int .u16 1,.int .u8 0,.int .u8 0,.int .u8 0,.int .u8 0,.int .u8 0,.int .u8 0,.int .u8 0,.int .u8 0,.int .u8 0,.string { data:=#[] },.string { data:=#[] },.int .u16 0,.int .u8 0,.slice none 0 0,.int .i64 0,.int .u16 0,.int .u8 0,.bool false,.int .u8 0,.int .u8 0,.int .u16 0,.int .u8 0,.string { data:=#[] },.int .u8 0] 55)
 have g1:=GB.new 55 w #[.int .u8 3,.int .u8 0,.int .u16 1,.int .u8 0,.int .u8 0,.int .u8 0,.int .u8 0,.int .u8 0,.int .u8 0,.int .u8 0,.int .u8 0,.int .u8 0,.string { data:=#[] },.string { data:=#[] },.int .u16 0,.int .u8 0,.slice none 0 0,.int .i64 0,.int .u16 0,.int .u8 0,.bool false,.int .u8 0,.int .u8 0,.int .u16 0,.int .u8 0,.string { data:=#[] },.int .u8 0]
 have h0:=h.later hb
 obtain⟨w0,hw0⟩:∃ z,w.alloc (.cells #[.int .u8 3,.int .u8 0,.int .u16 1,.int .u8 0,.int .u8 0,.int .u8 0,.int .u8 0,.int .u8 0,.int .u8 0,.int .u8 0,.int .u8 0,.int .u8 0,.string { data:=#[] },.string { data:=#[] },.int .u16 0,.int .u8 0,.slice none 0 0,.int .i64 0,.int .u16 0,.int .u8 0,.bool false,.int .u8 0,.int .u8 0,.int .u16 0,.int .u8 0,.string { data:=#[] },.int .u8 0] 55)=z:=⟨_,rfl⟩
 rw[hw0] at hb g1 h0
 have HB:=hd0 hb
 have HG:=hd0 g1
 have HH:=hd0 fun K:Later w0=>h0.later K.h
 have l2:∀ K:Later w0,K.out.cell? ⟨P.b,2,none⟩=some (.pointer (some ⟨P.r,0,none⟩)):=fun K=>(HH.out K).c2
 have VL:Hid (∀ K:Later w0,Calls Tryz.prog 152 #[.pointer (some ⟨P.r,0,none⟩)] K.out fun en w'=>en=.returned (.pointer (some ⟨P.q,0,none⟩))∧K.out=w'):=hd0 fun K=>(rvlans_any P.r _ v _ (HH.out K).rl.c0 ⟨_,rfl⟩).mono fun e w' h=>⟨h.1,h.2.symm⟩
 have BA:Hid (∀ K:Later w0,Calls Tryz.prog 88 #[.pointer (some ⟨P.r,0,none⟩)] K.out fun en w'=>en=.returned (.pointer (some ⟨P.f,0,none⟩))∧K.out=w'):=hd0 fun K=>(rbase_any P.r _ v _ (HH.out K).rl.c1 ⟨_,rfl⟩).mono fun e w' h=>⟨h.1,h.2.symm⟩
 clear h hb g1 h0
 go_enter Tryz.func159,Tryz.ntmps159
 go_upto_region 1 with fail
 clear hw0
 refine wp_region_later (by kernel_rfl) (by kernel_rfl) ?_
 repeat (go_big_quiet_step (first
  |(go_at_call 152;exact Calls.later_same (VL.out _))
  |(go_at_call 88;exact Calls.later_same (BA.out _))))
 refine wpQuiet_nil ?_
 rintro _ ⟨K,rfl⟩
 have GK:=HG.out.later K.h
 have c0:K.out.cell? ⟨w.heap.size,0,none⟩=some (.int .u8 3):=GK.c 0 _ rfl
 have c1:K.out.cell? ⟨w.heap.size,1,none⟩=some (.int .u8 0):=GK.c 1 _ rfl
 have c2:K.out.cell? ⟨w.heap.size,2,none⟩=some (.int .u16 1):=GK.c 2 _ rfl
 have SE:Hid (Calls Tryz.prog 213 #[.pointer (some ⟨P.q,0,none⟩),.int .u8 0,.int .u16 1] K.out fun en w'=>en=.returned (.int .i64 0)∧TS w' P.q 2 P.vm [1,0,0,0,0,0,0,0] V∧Only P.q K.out w'):=hd0 (vsetOwn_any P.q P.vm 2 _ V 0 1 K.out (HH.out K).rl.ts (by decide) (by decide))
 have HK:=hd0 (HH.out K)
 have HBK:=hd0 (HB.out.trans (K.h.mono HB.out.size))
 clear GK l2 VL BA
 go_wp2_with (go_at_call 213;with_reducible refine SE.out.mono ?_;rintro e w2 ⟨rfl,hts,hon⟩)
 refine bodyPost_ret (v:=.tuple #[.slice none 0 0,.int .i64 0,.int .i64 0]) (by simp[results,Tryz.results159,go_sem]) rfl ⟨rfl,HK.out.setTS hts hon (Or.inl rfl),(below_only HBK.out).trans hon⟩
end Go.Proofs.YtghaobakpdninaaGreatDoor
