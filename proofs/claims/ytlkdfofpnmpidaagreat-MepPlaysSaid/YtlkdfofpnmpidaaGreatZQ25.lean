/- ZQ25 -/
import Derived.Test.YtlkdfofpnmpidaaGreatZQ24
set_option linter.unusedVariables false
set_option linter.unusedSimpArgs false
set_option maxRecDepth 100000
set_option maxHeartbeats 16000000
namespace Go.Proofs.YtlkdfofpnmpidaaGreat
open Go.RowKit
theorem numbers20_any (v1 v2:Value)(l1 l2:List Int)(w:World)(h1:Rw 1 u1 w v1 l1)(h2:Rw 1 u1 w v2 l2)(hl:l1.length≤1000)(he:l1=l2):Calls Tryz.prog 62 #[v1,v2] w fun en w'=>en=.returned (.bool true)∧Below w.heap.size w w':=by
 subst he
 obtain⟨a1,c1,rfl,hs1⟩:=h1.shape
 obtain⟨a2,c2,rfl,hs2⟩:=h2.shape
 have HS:=hd0 (And.intro hs1 hs2)
 obtain⟨L,hLL⟩:∃ L,l1.length=L:=⟨_,rfl⟩
 have HL:=hd0 hLL
 have hL1:L≤1000:=by omega
 rw[hLL]
 clear h1 h2 hs1 hs2 hLL hl
 go_enter Tryz.func62,Tryz.ntmps62
 go_wp2_with fail
 go_loopw [5] (fun i wr=>∃ j:Nat,j≤L∧i=.int .i64 j∧Hid (Below w.heap.size w wr)) (fun i _=>L-(intOf i).toNat)
 case atStart=>exact⟨0,Nat.zero_le _,rfl,hd0 (Below.refl _ _)⟩
 case round =>
  obtain⟨j,hj,rfl,HBW⟩:=hrel
  have hjb:(j:Int)<1001:=by omega
  by_cases hlt:j<L
  rotate_left
  ·obtain rfl:j=L:=by omega
   have dk:decide ((j:Int)<(j:Int))=false:=decide_eq_false (by omega)
   clear hlt hj
   go_wp2
   go_ret
   exact⟨rfl,HBW.out⟩
  have dk:decide ((j:Int)<(L:Int))=true:=decide_eq_true (by omega)
  have hjl:j<l1.length:=by rw[HL.out];exact hlt
  have hne:l1≠[]:=by intro h;rw[h] at hjl;simp at hjl
  obtain⟨b1,o1,rfl,hc1⟩:=HS.out.1.resolve_left hne
  obtain⟨b2,o2,rfl,hc2⟩:=HS.out.2.resolve_left hne
  obtain⟨x,hx⟩:∃ x,l1[j]=x:=⟨_,rfl⟩
  have e1:w.cell? ⟨b1,o1+j,none⟩=some (.int .u16 x):=by
   have:=hc1 j hjl 0 (by decide)
   simp only[Nat.mul_one,Nat.add_zero] at this
   rw[this,← hx];rfl
  have e2:w.cell? ⟨b2,o2+j,none⟩=some (.int .u16 x):=by
   have:=hc2 j hjl 0 (by decide)
   simp only[Nat.mul_one,Nat.add_zero] at this
   rw[this,← hx];rfl
  have f1:wr.cell? ⟨b1,o1+j,none⟩=some (.int .u16 x):=(HBW.out.cell (World.block_lt_of_cell? w _ e1)).trans e1
  have f2:wr.cell? ⟨b2,o2+j,none⟩=some (.int .u16 x):=(HBW.out.cell (World.block_lt_of_cell? w _ e2)).trans e2
  clear hc1 hc2 hx e1 e2 hjl hne
  go_upto_region 6 with fail
  go_quiet (fail)
  go_wp2
  exact⟨⟨j+1,by omega,by go_num,hd0 HBW.out.drewN2⟩,by simp[intOf];omega⟩
theorem neq_mac_self (m:Mc):∀ W:World,(binOp .neq 25 (.agg #[.int .u8 m.a,.int .u8 m.b,.int .u8 m.c,.int .u8 m.d,.int .u8 m.e,.int .u8 m.f]) (.agg #[.int .u8 m.a,.int .u8 m.b,.int .u8 m.c,.int .u8 m.d,.int .u8 m.e,.int .u8 m.f])).run Tryz.prog W=.ok (.bool false) W:=fun W=>by
 have h:=neq_macG m m W
 rw[h];simp
theorem row20_any (v1 v2:Value)(l1 l2:List Sn)(w:World)(h1:Rw 7 snC w v1 l1)(h2:Rw 7 snC w v2 l2)(hl:l1.length≤1000)(he:l1=l2):Calls Tryz.prog 13 #[v1,v2] w fun en w'=>en=.returned (.bool true)∧Below w.heap.size w w':=by
 subst he
 obtain⟨a1,c1,rfl,hs1⟩:=h1.shape
 obtain⟨a2,c2,rfl,hs2⟩:=h2.shape
 have HS:=hd0 (And.intro hs1 hs2)
 obtain⟨L,hLL⟩:∃ L,l1.length=L:=⟨_,rfl⟩
 have HL:=hd0 hLL
 have hL1:L≤1000:=by omega
 rw[hLL]
 clear h1 h2 hs1 hs2 hLL hl
 go_enter Tryz.func13,Tryz.ntmps13
 go_wp2_with fail
 go_loopw [5] (fun i wr=>∃ j:Nat,j≤L∧i=.int .i64 j∧Hid (Below w.heap.size w wr)) (fun i _=>L-(intOf i).toNat)
 case atStart=>exact⟨0,Nat.zero_le _,rfl,hd0 (Below.refl _ _)⟩
 case round =>
  obtain⟨j,hj,rfl,HBW⟩:=hrel
  have hjb:(j:Int)<1001:=by omega
  by_cases hlt:j<L
  rotate_left
  ·obtain rfl:j=L:=by omega
   have dk:decide ((j:Int)<(j:Int))=false:=decide_eq_false (by omega)
   clear hlt hj
   go_wp2
   go_ret
   exact⟨rfl,HBW.out⟩
  have dk:decide ((j:Int)<(L:Int))=true:=decide_eq_true (by omega)
  have hjl:j<l1.length:=by rw[HL.out];exact hlt
  have hne:l1≠[]:=by intro h;rw[h] at hjl;simp at hjl
  obtain⟨b1,o1,rfl,hc1⟩:=HS.out.1.resolve_left hne
  obtain⟨b2,o2,rfl,hc2⟩:=HS.out.2.resolve_left hne
  obtain⟨x,hx⟩:∃ x,l1[j]=x:=⟨_,rfl⟩
  have C1:∀ i v,i<7→(snC x)[i]?=some v→wr.cell? ⟨b1,o1+j*7+i,none⟩=some v:=fun i v hi hv=>by
   have h1:w.cell? ⟨b1,o1+j*7+i,none⟩=some v:=by rw[hc1 j hjl i hi,hx];exact hv
   exact(HBW.out.cell (World.block_lt_of_cell? w _ h1)).trans h1
  have C2:∀ i v,i<7→(snC x)[i]?=some v→wr.cell? ⟨b2,o2+j*7+i,none⟩=some v:=fun i v hi hv=>by
   have h1:w.cell? ⟨b2,o2+j*7+i,none⟩=some v:=by rw[hc2 j hjl i hi,hx];exact hv
   exact(HBW.out.cell (World.block_lt_of_cell? w _ h1)).trans h1
  have x0:wr.cell? ⟨b1,o1+j*7,none⟩=some (.int .u8 x.m.a):=C1 0 _ (by decide) rfl
  have x1:=C1 1 _ (by decide) rfl
  have x2:=C1 2 _ (by decide) rfl
  have x3:=C1 3 _ (by decide) rfl
  have x4:=C1 4 _ (by decide) rfl
  have x5:=C1 5 _ (by decide) rfl
  have x6:=C1 6 _ (by decide) rfl
  have y0:wr.cell? ⟨b2,o2+j*7,none⟩=some (.int .u8 x.m.a):=C2 0 _ (by decide) rfl
  have y1:=C2 1 _ (by decide) rfl
  have y2:=C2 2 _ (by decide) rfl
  have y3:=C2 3 _ (by decide) rfl
  have y4:=C2 4 _ (by decide) rfl
  have y5:=C2 5 _ (by decide) rfl
  have y6:=C2 6 _ (by decide) rfl
  have NE:=neq_mac_self x.m
  have ds:((bs x.d).toList !=(bs x.d).toList)=false:=by simp
  clear hc1 hc2 hx hjl hne C1 C2
  go_upto_region 6 with fail
  go_quiet (fail)
  go_wp2
  exact⟨⟨j+1,by omega,by go_num,hd0 HBW.out.drewN2⟩,by simp[intOf];omega⟩
theorem of20_any (o:Ow20)(ov:Value)(hov:∃ a n c,ov=.slice a n c)(w:World):Calls Tryz.prog 9 #[.agg #[.int .u8 o.a.lv,.int .u8 o.a.iv,.string (bs o.a.md),.int .u16 o.a.mp,ov,.int .u8 o.mc.a,.int .u8 o.mc.b,.int .u8 o.mc.c,.int .u8 o.mc.d,.int .u8 o.mc.e,.int .u8 o.mc.f,.int .u8 o.lw]] w fun en w'=>en=.returned (.agg #[.int .u8 o.a.lv,.int .u8 o.a.iv,.string (bs o.a.md),.int .u16 o.a.mp,ov,.int .u8 o.mc.a,.int .u8 o.mc.b,.int .u8 o.mc.c,.int .u8 o.mc.d,.int .u8 o.mc.e,.int .u8 o.mc.f,.int .u8 o.lw])∧Below w.heap.size w w':=by
 obtain⟨oa,on,oc,rfl⟩:=hov
 go_enter Tryz.func9,Tryz.ntmps9
 go_wp2_with fail
 refine bodyPost_ret (v:=.agg #[.int .u8 o.a.lv,.int .u8 o.a.iv,.string (bs o.a.md),.int .u16 o.a.mp,.slice oa on oc,.int .u8 o.mc.a,.int .u8 o.mc.b,.int .u8 o.mc.c,.int .u8 o.mc.d,.int .u8 o.mc.e,.int .u8 o.mc.f,.int .u8 o.lw]) (res_one (p:=2) rfl rfl Tryz.underlying35 _ _ (w.heap.size+1) _ rfl ?_ (by kernel_rfl)) rfl ⟨rfl,(bA _).alloc (by simp) _⟩
 have h:=heap_alloc_new (w.alloc (.cells #[.int .u8 o.a.lv,.int .u8 o.a.iv,.string (bs o.a.md),.int .u16 o.a.mp,.slice oa on oc,.int .u8 o.mc.a,.int .u8 o.mc.b,.int .u8 o.mc.c,.int .u8 o.mc.d,.int .u8 o.mc.e,.int .u8 o.mc.f,.int .u8 o.lw] 27)) (.cells #[.int .u8 o.a.lv,.int .u8 o.a.iv,.string (bs o.a.md),.int .u16 o.a.mp,.slice oa on oc,.int .u8 o.mc.a,.int .u8 o.mc.b,.int .u8 o.mc.c,.int .u8 o.mc.d,.int .u8 o.mc.e,.int .u8 o.mc.f,.int .u8 o.lw] 35)
 rw[show(w.alloc (.cells #[.int .u8 o.a.lv,.int .u8 o.a.iv,.string (bs o.a.md),.int .u16 o.a.mp,.slice oa on oc,.int .u8 o.mc.a,.int .u8 o.mc.b,.int .u8 o.mc.c,.int .u8 o.mc.d,.int .u8 o.mc.e,.int .u8 o.mc.f,.int .u8 o.lw] 27)).heap.size=w.heap.size+1 by simp] at h
 exact h
theorem reply20_any (r:Rp)(w:World):Calls Tryz.prog 66 #[.agg #[.int .u8 r.lv,.int .u32 r.nm,.int .u8 r.tl,.bool r.st,.bool r.en,.int .u8 r.mi.a,.int .u8 r.mi.b,.int .u8 r.mi.c,.int .u8 r.mi.d,.int .u8 r.mi.e,.int .u8 r.mi.f,.int .u8 r.mo.a,.int .u8 r.mo.b,.int .u8 r.mo.c,.int .u8 r.mo.d,.int .u8 r.mo.e,.int .u8 r.mo.f]] w fun en w'=>en=.returned (.agg #[.int .u8 r.lv,.int .u32 r.nm,.int .u8 r.tl,.bool r.st,.bool r.en,.int .u8 r.mi.a,.int .u8 r.mi.b,.int .u8 r.mi.c,.int .u8 r.mi.d,.int .u8 r.mi.e,.int .u8 r.mi.f,.int .u8 r.mo.a,.int .u8 r.mo.b,.int .u8 r.mo.c,.int .u8 r.mo.d,.int .u8 r.mo.e,.int .u8 r.mo.f])∧Below w.heap.size w w':=by
 go_enter Tryz.func66,Tryz.ntmps66
 go_wp2_with fail
 refine bodyPost_ret (v:=.agg #[.int .u8 r.lv,.int .u32 r.nm,.int .u8 r.tl,.bool r.st,.bool r.en,.int .u8 r.mi.a,.int .u8 r.mi.b,.int .u8 r.mi.c,.int .u8 r.mi.d,.int .u8 r.mi.e,.int .u8 r.mi.f,.int .u8 r.mo.a,.int .u8 r.mo.b,.int .u8 r.mo.c,.int .u8 r.mo.d,.int .u8 r.mo.e,.int .u8 r.mo.f]) (res_one (p:=2) rfl rfl Tryz.underlying81 _ _ (w.heap.size+1) _ rfl ?_ (by kernel_rfl)) rfl ⟨rfl,(bA _).alloc (by simp) _⟩
 have h:=heap_alloc_new (w.alloc (.cells #[.int .u8 r.lv,.int .u32 r.nm,.int .u8 r.tl,.bool r.st,.bool r.en,.int .u8 r.mi.a,.int .u8 r.mi.b,.int .u8 r.mi.c,.int .u8 r.mi.d,.int .u8 r.mi.e,.int .u8 r.mi.f,.int .u8 r.mo.a,.int .u8 r.mo.b,.int .u8 r.mo.c,.int .u8 r.mo.d,.int .u8 r.mo.e,.int .u8 r.mo.f] 153)) (.cells #[.int .u8 r.lv,.int .u32 r.nm,.int .u8 r.tl,.bool r.st,.bool r.en,.int .u8 r.mi.a,.int .u8 r.mi.b,.int .u8 r.mi.c,.int .u8 r.mi.d,.int .u8 r.mi.e,.int .u8 r.mi.f,.int .u8 r.mo.a,.int .u8 r.mo.b,.int .u8 r.mo.c,.int .u8 r.mo.d,.int .u8 r.mo.e,.int .u8 r.mo.f] 81)
 rw[show(w.alloc (.cells #[.int .u8 r.lv,.int .u32 r.nm,.int .u8 r.tl,.bool r.st,.bool r.en,.int .u8 r.mi.a,.int .u8 r.mi.b,.int .u8 r.mi.c,.int .u8 r.mi.d,.int .u8 r.mi.e,.int .u8 r.mi.f,.int .u8 r.mo.a,.int .u8 r.mo.b,.int .u8 r.mo.c,.int .u8 r.mo.d,.int .u8 r.mo.e,.int .u8 r.mo.f] 153)).heap.size=w.heap.size+1 by simp] at h
 exact h
theorem RX.belowW {w W:World}{ks:List Int}{v:Rv}{r:Rf}(h:RX w ks v r)(hb:Below w.heap.size w W):RX W ks v r:=h.later hb
def may20 (o:Ow20)(ks:List Int):Bool:=mayR o.a ks&&(hostV o.mc&&(decide (0<o.lw)&&decide (o.lw<5)))
theorem may20_any (o:Ow20)(ho:o.Ok)(ov:Value)(ks:List Int)(hkl:ks.length≤1000)(w:World)(hK:Rw 1 u1 w ov ks):Calls Tryz.prog 10 #[.agg #[.int .u8 o.a.lv,.int .u8 o.a.iv,.string (bs o.a.md),.int .u16 o.a.mp,ov,.int .u8 o.mc.a,.int .u8 o.mc.b,.int .u8 o.mc.c,.int .u8 o.mc.d,.int .u8 o.mc.e,.int .u8 o.mc.f,.int .u8 o.lw]] w fun en w'=>en=.returned (.bool (may20 o ks))∧Below w.heap.size w w':=by
 obtain⟨sa,sc,hov,-⟩:=hK.shape
 obtain⟨L,hL⟩:∃ L,ks.length=L:=⟨_,rfl⟩
 rw[hL] at hov
 subst hov
 have OW:Hid (∀ W,Calls Tryz.prog 31 #[.agg #[.int .u8 o.a.lv,.int .u8 o.a.iv,.string (bs o.a.md),.int .u16 o.a.mp,.slice sa L sc,.int .u8 o.mc.a,.int .u8 o.mc.b,.int .u8 o.mc.c,.int .u8 o.mc.d,.int .u8 o.mc.e,.int .u8 o.mc.f,.int .u8 o.lw]] W fun en w'=>en=.returned (.agg #[.int .u8 o.a.lv,.int .u16 o.a.mp,.int .u8 o.a.iv,.string (bs o.a.md)])∧Below W.heap.size W w'):=hd0 (own20_any o (.slice sa L sc))
 obtain⟨M,hM⟩:∃ x,mayR o.a ks=x:=⟨_,rfl⟩
 obtain⟨H,hH⟩:∃ x,hostV o.mc=x:=⟨_,rfl⟩
 obtain⟨A,hA⟩:∃ x,decide (0<o.lw)=x:=⟨_,rfl⟩
 obtain⟨B,hB⟩:∃ x,decide (o.lw<5)=x:=⟨_,rfl⟩
 have HM:Hid (may20 o ks=(M&&(H&&(A&&B)))):=hd0 (by unfold may20;rw[hM,hH,hA,hB])
 have MY:Hid (∀ W,Below w.heap.size w W→Calls Tryz.prog 30 #[.agg #[.int .u8 o.a.lv,.int .u16 o.a.mp,.int .u8 o.a.iv,.string (bs o.a.md)],.slice sa L sc] W fun en w'=>en=.returned (.bool M)∧Below W.heap.size W w'):=hd0 fun W hb=>by
  rw[←hM];exact may18_any o.a ho.a (.slice sa L sc) ks W (hK.later u1_len hb) hkl
 have HH:Hid (∀ W,Calls Tryz.prog 32 #[.agg #[.int .u8 o.mc.a,.int .u8 o.mc.b,.int .u8 o.mc.c,.int .u8 o.mc.d,.int .u8 o.mc.e,.int .u8 o.mc.f]] W fun en w'=>en=.returned (.bool H)∧Below W.heap.size W w'):=hd0 fun W=>by
  rw[←hH];exact refHost_any o.mc ho.mc W
 rw[HM.out]
 clear hM hH HM hK ho hkl hL
 go_enter Tryz.func10,Tryz.ntmps10
 go_upto_region 1 with fail
 have g0:=GB.new 27 w #[.int .u8 o.a.lv,.int .u8 o.a.iv,.string (bs o.a.md),.int .u16 o.a.mp,.slice sa L sc,.int .u8 o.mc.a,.int .u8 o.mc.b,.int .u8 o.mc.c,.int .u8 o.mc.d,.int .u8 o.mc.e,.int .u8 o.mc.f,.int .u8 o.lw]
 have b0:=(Below.refl w.heap.size w).alloc (Nat.le_refl _) (.cells #[.int .u8 o.a.lv,.int .u8 o.a.iv,.string (bs o.a.md),.int .u16 o.a.mp,.slice sa L sc,.int .u8 o.mc.a,.int .u8 o.mc.b,.int .u8 o.mc.c,.int .u8 o.mc.d,.int .u8 o.mc.e,.int .u8 o.mc.f,.int .u8 o.lw] 27)
 obtain⟨w0,hw0⟩:∃ k,w.alloc (.cells #[.int .u8 o.a.lv,.int .u8 o.a.iv,.string (bs o.a.md),.int .u16 o.a.mp,.slice sa L sc,.int .u8 o.mc.a,.int .u8 o.mc.b,.int .u8 o.mc.c,.int .u8 o.mc.d,.int .u8 o.mc.e,.int .u8 o.mc.f,.int .u8 o.lw] 27)=k:=⟨_,rfl⟩
 obtain⟨C,hC⟩:∃ k,w.heap.size=k:=⟨_,rfl⟩
 rw[hw0] at g0 b0 ⊢
 have G0:Hid (∀ kk:Later w0,GB 27 kk.out C _):=hd0 fun kk=>by rw[←hC];exact g0.later kk.h
 have HC:=hd0 hC
 have OZ:∀ kk:Later w0,Calls Tryz.prog 31 #[.agg #[.int .u8 o.a.lv,.int .u8 o.a.iv,.string (bs o.a.md),.int .u16 o.a.mp,.slice sa L sc,.int .u8 o.mc.a,.int .u8 o.mc.b,.int .u8 o.mc.c,.int .u8 o.mc.d,.int .u8 o.mc.e,.int .u8 o.mc.f,.int .u8 o.lw]] kk.out fun en w'=>en=.returned (.agg #[.int .u8 o.a.lv,.int .u16 o.a.mp,.int .u8 o.a.iv,.string (bs o.a.md)])∧Below kk.out.heap.size kk.out w':=fun kk=>OW.out _
 have MZ:∀ kk:Later w0,Calls Tryz.prog 30 #[.agg #[.int .u8 o.a.lv,.int .u16 o.a.mp,.int .u8 o.a.iv,.string (bs o.a.md)],.slice sa L sc] kk.out fun en w'=>en=.returned (.bool M)∧Below kk.out.heap.size kk.out w':=fun kk=>MY.out _ (b0.trans (kk.h.mono b0.size))
 have HZ:∀ kk:Later w0,Calls Tryz.prog 32 #[.agg #[.int .u8 o.mc.a,.int .u8 o.mc.b,.int .u8 o.mc.c,.int .u8 o.mc.d,.int .u8 o.mc.e,.int .u8 o.mc.f]] kk.out fun en w'=>en=.returned (.bool H)∧Below kk.out.heap.size kk.out w':=fun kk=>HH.out _
 have HB0:=hd0 b0
 rw[hC]
 clear hw0 g0 b0 hC OW MY HH
 have k0:∀ kk:Later w0,kk.out.cell? ⟨C,0,none⟩=some (.int .u8 o.a.lv):=fun kk=>(G0.out kk).c 0 _ rfl
 have k1:∀ kk:Later w0,kk.out.cell? ⟨C,1,none⟩=some (.int .u8 o.a.iv):=fun kk=>(G0.out kk).c 1 _ rfl
 have k2:∀ kk:Later w0,kk.out.cell? ⟨C,2,none⟩=some (.string (bs o.a.md)):=fun kk=>(G0.out kk).c 2 _ rfl
 have k3:∀ kk:Later w0,kk.out.cell? ⟨C,3,none⟩=some (.int .u16 o.a.mp):=fun kk=>(G0.out kk).c 3 _ rfl
 have k4:∀ kk:Later w0,kk.out.cell? ⟨C,4,none⟩=some (.slice sa L sc):=fun kk=>(G0.out kk).c 4 _ rfl
 have k5:∀ kk:Later w0,kk.out.cell? ⟨C,5,none⟩=some (.int .u8 o.mc.a):=fun kk=>(G0.out kk).c 5 _ rfl
 have k6:∀ kk:Later w0,kk.out.cell? ⟨C,6,none⟩=some (.int .u8 o.mc.b):=fun kk=>(G0.out kk).c 6 _ rfl
 have k7:∀ kk:Later w0,kk.out.cell? ⟨C,7,none⟩=some (.int .u8 o.mc.c):=fun kk=>(G0.out kk).c 7 _ rfl
 have k8:∀ kk:Later w0,kk.out.cell? ⟨C,8,none⟩=some (.int .u8 o.mc.d):=fun kk=>(G0.out kk).c 8 _ rfl
 have k9:∀ kk:Later w0,kk.out.cell? ⟨C,9,none⟩=some (.int .u8 o.mc.e):=fun kk=>(G0.out kk).c 9 _ rfl
 have k10:∀ kk:Later w0,kk.out.cell? ⟨C,10,none⟩=some (.int .u8 o.mc.f):=fun kk=>(G0.out kk).c 10 _ rfl
 have k11:∀ kk:Later w0,kk.out.cell? ⟨C,11,none⟩=some (.int .u8 o.lw):=fun kk=>(G0.out kk).c 11 _ rfl
 have hcs:M=false∨(M=true∧H=false)∨(M=true∧H=true∧A=false)∨(M=true∧H=true∧A=true):=by cases M <;> cases H <;> cases A <;> simp
 rcases hcs with rfl|⟨rfl,rfl⟩|⟨rfl,rfl,rfl⟩|⟨rfl,rfl,rfl⟩
 all_goals
  refine wp_region_later (by kernel_rfl) (by kernel_rfl) ?_
  repeat (go_big_quiet_step (first|(go_at_call 31;exact Calls.later (OZ _))|(go_at_call 30;exact Calls.later (MZ _))|(go_at_call 32;exact Calls.later (HZ _))))
  refine wpQuiet_nil ?_
  rintro _ ⟨kk,rfl⟩
  go_wp2_with fail
  go_ret
  exact⟨rfl,HB0.out.trans (kk.h.mono HB0.out.size)⟩
structure Ac where
 dq:Int
 sr:Mc
 ds:Mc
 dt:List UInt8
 tl:Int
def acC (x:Ac):List Value:=[.int .u8 x.dq,.int .u8 x.sr.a,.int .u8 x.sr.b,.int .u8 x.sr.c,.int .u8 x.sr.d,.int .u8 x.sr.e,.int .u8 x.sr.f,.int .u8 x.ds.a,.int .u8 x.ds.b,.int .u8 x.ds.c,.int .u8 x.ds.d,.int .u8 x.ds.e,.int .u8 x.ds.f,.string (bs x.dt),.int .u8 x.tl]
theorem acC_len (x:Ac):(acC x).length=15:=rfl
structure Ac.Ok (x:Ac):Prop where
 dq:0≤x.dq∧x.dq<256
 sr:x.sr.Ok
 ds:x.ds.Ok
 dt:x.dt.length≤maxLen
 tl:0≤x.tl∧x.tl<256
def grD (l:List Ac):Bool:=l.any fun x=>decide (1600<x.dt.length)
def grE (o:Ow20)(ks:List Int)(l:List Ac):Bool:=decide (60<l.length)||(decide (20<ks.length)||(decide (100<o.a.md.length)||grD l))
theorem great20_any (o:Ow20)(sv:Value)(ks:List Int)(lv:Value)(l:List Ac)(w:World)(hK:Rw 1 u1 w sv ks)(hL:Rw 15 acC w lv l)(hl:∀ x∈l,x.dt.length≤maxLen)(hm:o.a.md.length≤maxLen)(hkl:ks.length≤maxLen)(hll:l.length≤maxLen):Calls Tryz.prog 6 #[.agg #[.int .u8 o.a.lv,.int .u8 o.a.iv,.string (bs o.a.md),.int .u16 o.a.mp,sv,.int .u8 o.mc.a,.int .u8 o.mc.b,.int .u8 o.mc.c,.int .u8 o.mc.d,.int .u8 o.mc.e,.int .u8 o.mc.f,.int .u8 o.lw],lv] w fun en w'=>en=.returned (.bool (grE o ks l))∧Below w.heap.size w w':=by
 obtain⟨sa,sc,rfl,_⟩:=hK.shape
 obtain⟨la,lc,rfl,hsh⟩:=hL.shape
 have HSH:=hd0 hsh
 have sz:=bs_size o.a.md
 obtain⟨R,hR⟩:∃ R,grE o ks l=R:=⟨_,rfl⟩
 have HR:=hd0 hR
 obtain⟨M,hM⟩:∃ M,ks.length=M:=⟨_,rfl⟩
 obtain⟨N,hN⟩:∃ N,l.length=N:=⟨_,rfl⟩
 have HM:=hd0 hM
 have HN:=hd0 hN
 have HML:=hd0 hl
 unfold maxLen at hm hkl hll
 rw[hM] at hkl ⊢
 rw[hN] at hll ⊢
 rw[hR]
 clear hsh hR hM hN hK hL hl
 go_enter Tryz.func6,Tryz.ntmps6
 go_upto_region 1 with fail
 have g0:GB 27 (w.alloc (.cells #[.int .u8 o.a.lv,.int .u8 o.a.iv,.string (bs o.a.md),.int .u16 o.a.mp,.slice sa M sc,.int .u8 o.mc.a,.int .u8 o.mc.b,.int .u8 o.mc.c,.int .u8 o.mc.d,.int .u8 o.mc.e,.int .u8 o.mc.f,.int .u8 o.lw] 27)) w.heap.size #[.int .u8 o.a.lv,.int .u8 o.a.iv,.string (bs o.a.md),.int .u16 o.a.mp,.slice sa M sc,.int .u8 o.mc.a,.int .u8 o.mc.b,.int .u8 o.mc.c,.int .u8 o.mc.d,.int .u8 o.mc.e,.int .u8 o.mc.f,.int .u8 o.lw]:=heap_alloc_new _ _
 have b0:Below w.heap.size w (w.alloc (.cells #[.int .u8 o.a.lv,.int .u8 o.a.iv,.string (bs o.a.md),.int .u16 o.a.mp,.slice sa M sc,.int .u8 o.mc.a,.int .u8 o.mc.b,.int .u8 o.mc.c,.int .u8 o.mc.d,.int .u8 o.mc.e,.int .u8 o.mc.f,.int .u8 o.lw] 27)):=bA _
 obtain⟨w0,hw0⟩:∃ k,w.alloc (.cells #[.int .u8 o.a.lv,.int .u8 o.a.iv,.string (bs o.a.md),.int .u16 o.a.mp,.slice sa M sc,.int .u8 o.mc.a,.int .u8 o.mc.b,.int .u8 o.mc.c,.int .u8 o.mc.d,.int .u8 o.mc.e,.int .u8 o.mc.f,.int .u8 o.lw] 27)=k:=⟨_,rfl⟩
 rw[hw0] at g0 b0 ⊢
 have B0:=hd0 b0
 have c3:w0.cell? ⟨w.heap.size,2,none⟩=some (.string (bs o.a.md)):=g0.c 2 _ rfl
 have c4:w0.cell? ⟨w.heap.size,4,none⟩=some (.slice sa M sc):=g0.c 4 _ rfl
 clear hw0 g0 b0
 have hc:(decide ((60:Int)<(N:Int))=true∧R=true)∨(decide ((60:Int)<(N:Int))=false∧((decide ((20:Int)<(M:Int))=true∧R=true)∨(decide ((20:Int)<(M:Int))=false∧((decide ((100:Int)<(o.a.md.length:Int))=true∧R=true)∨(decide ((100:Int)<(o.a.md.length:Int))=false∧R=grD l))))):=by
  have h:=HR.out
  unfold grE at h
  rw[HN.out,HM.out] at h
  by_cases h1:60<N
  ·exact .inl ⟨decide_eq_true (by omega),by rw[←h,decide_eq_true h1];rfl⟩
  ·refine .inr ⟨decide_eq_false (by omega),?_⟩
   rw[decide_eq_false h1,Bool.false_or] at h
   by_cases h2:20<M
   ·exact .inl ⟨decide_eq_true (by omega),by rw[←h,decide_eq_true h2];rfl⟩
   ·refine .inr ⟨decide_eq_false (by omega),?_⟩
    rw[decide_eq_false h2,Bool.false_or] at h
    by_cases h3:100<o.a.md.length
    ·exact .inl ⟨decide_eq_true (by omega),by rw[←h,decide_eq_true h3];rfl⟩
    ·refine .inr ⟨decide_eq_false (by omega),?_⟩
     rw[decide_eq_false h3,Bool.false_or] at h
     exact h.symm
 rcases hc with⟨d1,hr⟩|⟨d1,⟨d2,hr⟩|⟨d2,⟨d3,hr⟩|⟨d3,hr⟩⟩⟩
 rotate_right
 ·have HR2:=hd0 hr
  have hN150:N≤60:=by have:=of_decide_eq_false d1;omega
  clear hr
  go_wp2_with fail
  go_loopw [5] (fun i wr=>∃ j:Nat,j≤N∧i=.int .i64 j∧wr=w0∧Hid (R=grD (l.drop j))) (fun i _=>N-(intOf i).toNat)
  case atStart=>exact⟨0,Nat.zero_le _,rfl,rfl,HR2⟩
  case round =>
   obtain⟨j,hj,rfl,rfl,HJ⟩:=hrel
   have hjb:(j:Int)<1000:=by omega
   by_cases hlt:j<N
   rotate_left
   ·obtain rfl:j=N:=by omega
    have dk:decide ((j:Int)<(j:Int))=false:=decide_eq_false (by omega)
    have HZ:Hid (R=false):=hd0 (by rw[HJ.out,List.drop_of_length_le (by rw[HN.out];exact Nat.le_refl _)];rfl)
    clear hlt hj
    go_wp2
    go_ret
    exact⟨by rw[HZ.out];rfl,B0.out⟩
   ·have dk:decide ((j:Int)<(N:Int))=true:=decide_eq_true (by omega)
    obtain⟨b,off,rfl,hcc⟩:=HSH.out.resolve_left (by intro h;have:=HN.out;rw[h] at this;simp at this;omega)
    have hjl:j<l.length:=by rw[HN.out];exact hlt
    obtain⟨x,hx⟩:∃ x,l[j]=x:=⟨_,rfl⟩
    have hxc:w.cell? ⟨b,off+j*15+13,none⟩=some (.string (bs x.dt)):=by
     rw[hcc j hjl 13 (by decide),hx];rfl
    have ck:wr.cell? ⟨b,off+j*15+13,none⟩=some (.string (bs x.dt)):=(B0.out.cell (World.block_lt_of_cell? w _ hxc)).trans hxc
    have hxl:x.dt.length≤maxLen:=by rw[←hx];exact HML.out _ (List.getElem_mem _)
    unfold maxLen at hxl
    have sx:=bs_size x.dt
    have HJ2:Hid (R=(decide (1600<x.dt.length)||grD (l.drop (j+1)))):=hd0 (by rw[HJ.out,List.drop_eq_getElem_cons hjl,hx];rfl)
    clear hcc hx hjl hxc HJ
    by_cases hg:1600<x.dt.length
    ·have dg:decide ((1600:Int)<(x.dt.length:Int))=true:=decide_eq_true (by omega)
     have HZ:Hid (R=true):=hd0 (by rw[HJ2.out,decide_eq_true hg];rfl)
     go_wp2
     go_ret
     exact⟨by rw[HZ.out];rfl,B0.out⟩
    ·have dg:decide ((1600:Int)<(x.dt.length:Int))=false:=decide_eq_false (by omega)
     have HZ:Hid (R=grD (l.drop (j+1))):=hd0 (by rw[HJ2.out,decide_eq_false hg];rfl)
     go_wp2
     exact⟨⟨j+1,by omega,by go_num,by trivial,HZ⟩,by simp[intOf];omega⟩
 all_goals
  go_wp2
  go_ret
  exact⟨by rw[hr];rfl,B0.out⟩
structure RJ (j:Nat)(r:Rf):Prop where
 hl:r.hd.length≤j
 hd:∀ h∈r.hd,h.Ok
 nw:0≤r.nw∧r.nw≤j
 wl:r.ws.length≤j
 ws:∀ x∈r.ws,0≤x∧x<256
 bad:0≤r.bad∧r.bad≤j
 lp:0≤r.lp∧r.lp≤j
 dat:r.dat.length≤64
 rep:0≤r.rep∧r.rep≤j
 ali:0≤r.ali∧r.ali≤j
 tr:0≤r.tr∧r.tr≤j
 wy:r.way.length≤32
 rp:∀ y∈r.way,y.Ok
theorem RJ.zero:RJ 0 rf0:=⟨Nat.le_refl _,by simp[rf0],⟨Int.le_refl _,Int.le_refl _⟩,Nat.le_refl _,by simp[rf0],⟨Int.le_refl _,Int.le_refl _⟩,⟨Int.le_refl _,Int.le_refl _⟩,by simp[rf0],⟨Int.le_refl _,Int.le_refl _⟩,⟨Int.le_refl _,Int.le_refl _⟩,⟨Int.le_refl _,Int.le_refl _⟩,by simp[rf0],by simp[rf0]⟩
section
variable {j:Nat} {r:Rf} {o:Ow20} {ks:List Int}
theorem RJ.mono (h:RJ j r):RJ (j+1) r:=by
 obtain⟨h1,h2,h3,h4,h5,h6,h7,h8,h9,h10,h11,h12,h13⟩:=h
 exact⟨by omega,h2,by omega,by omega,h5,by omega,by omega,h8,by omega,by omega,by omega,h12,h13⟩
theorem RJ.rk (h:RJ j r)(hj:j≤900):Rk r:=by
 obtain⟨h1,h2,h3,h4,h5,h6,h7,h8,h9,h10,h11,h12,h13⟩:=h
 exact⟨⟨by omega,h2,by omega,by omega,h5,by omega,by omega,by omega,by omega,by omega,by omega⟩,by omega,by omega,by omega,by omega,by omega⟩
theorem RJ.tick (h:RJ j r):RJ (j+1) (tick20 o ks r).1:=by
 have hw:=worst20_b o ks { r with nw:=r.nw+1 }
 have h3:=h.nw
 have h4:=h.wl
 have hm:=h.mono
 refine⟨hm.hl,hm.hd,?_,?_,?_,hm.bad,hm.lp,hm.dat,hm.rep,hm.ali,hm.tr,hm.wy,hm.rp⟩
 ·show 0≤r.nw+1∧r.nw+1≤((j+1:Nat):Int);omega
 ·show(r.ws++[_]).length≤j+1;simp;omega
 ·intro x hx
  rcases List.mem_append.1 hx with hx|hx
  ·exact h.ws x hx
  ·rw[List.mem_singleton.1 hx];omega
theorem RJ.badN (h:RJ (j+1) r)(hb:r.bad≤j)(g:Bool):RJ (j+1) (bad20 r g):=by
 unfold bad20
 split
 ·exact h
 ·have:=h.bad
  exact⟨h.hl,h.hd,h.nw,h.wl,h.ws,by show 0≤r.bad+1∧r.bad+1≤((j+1:Nat):Int);omega,h.lp,h.dat,h.rep,h.ali,h.tr,h.wy,h.rp⟩
theorem prtT_b (l:List Th)(k:UInt8):(prtT l k).1.Ok:=by
 unfold prtT
 split
 ·exact mcOf_ok _
 ·exact mc0_ok
theorem tkRp_b (a b c:Int)(f:List UInt8)(l:List Th)(ha:0≤a∧a<256):(tkRp a b c f l).1.Ok:=by
 unfold tkRp
 by_cases hc:numOf (tr3 f).1=(if c / 32 % 2=1 then 1 else 2)∧trE f=0∧b=4∧(prtT l 5).2=true∧(prtT l 6).2=true
 ·rw[if_pos hc]
  exact⟨ha,⟨(numOf_bd _).1,numOf_lt _ 4 _ (rdText_len _ _ 4) (by decide)⟩,⟨(numOf_bd _).1,numOf_lt _ 1 _ (rdText_len _ _ 1) (by decide)⟩,prtT_b _ _,prtT_b _ _⟩
 ·rw[if_neg hc]
  exact⟨by decide,by decide,by decide,mc0_ok,mc0_ok⟩
theorem RJ.op (h:RJ j r)(hj:j≤900)(sr ds:Mc)(a b c:Int)(f:List UInt8)(l:List Th)(ha:0≤a∧a<256):RJ (j+1) (op20 o r sr ds a b c f l).1:=by
 have hm:=h.mono
 unfold op20
 split
 ·show RJ (j+1) (ck20 r a b c f).1
  unfold ck20
  split
  ·have hb:=tkC_b a b c f
   have h1:=h.hl
   have h3:=h.nw
   refine⟨by show(r.hd++[_]).length≤j+1;simp;omega,?_,hm.nw,hm.wl,hm.ws,hm.bad,hm.lp,hm.dat,hm.rep,hm.ali,hm.tr,hm.wy,hm.rp⟩
   intro x hx
   rcases List.mem_append.1 hx with hx|hx
   ·exact h.hd x hx
   ·rw[List.mem_singleton.1 hx]
    exact⟨by show 0≤r.nw∧r.nw≤1000;omega,hb.1,hb.2.2⟩
  ·exact hm
 ·split
  ·exact hm
  ·split
   ·show RJ (j+1) (lr20 o r ds a b f l).1
    unfold lr20
    have h9:=h.rep
    have h10:=h.ali
    split
    ·show RJ (j+1) (ite _ _ _)
     split
     ·split
      ·exact⟨hm.hl,hm.hd,hm.nw,hm.wl,hm.ws,hm.bad,hm.lp,hm.dat,by show 0≤r.rep+1∧r.rep+1≤((j+1:Nat):Int);omega,by show 0≤r.ali+1∧r.ali+1≤((j+1:Nat):Int);omega,hm.tr,hm.wy,hm.rp⟩
      ·exact⟨hm.hl,hm.hd,hm.nw,hm.wl,hm.ws,hm.bad,hm.lp,hm.dat,by show 0≤r.rep+1∧r.rep+1≤((j+1:Nat):Int);omega,hm.ali,hm.tr,hm.wy,hm.rp⟩
     ·exact hm
    ·exact hm
   ·split
    ·exact hm
    ·split
     ·show RJ (j+1) (fd20 o r ds a b c f l).1
      unfold fd20
      split
      ·show RJ (j+1) (ite _ _ _)
       split
       ·rename_i hc
        refine⟨hm.hl,hm.hd,hm.nw,hm.wl,hm.ws,hm.bad,hm.lp,hm.dat,hm.rep,hm.ali,hm.tr,?_,?_⟩
        ·show(r.way++[_]).length≤32
         have:=hc.2.2.2
         simp;omega
        ·intro x hx
         rcases List.mem_append.1 hx with hx|hx
         ·exact h.rp x hx
         ·rw[List.mem_singleton.1 hx];exact tkRp_b a b c f l ha
       ·exact hm
      ·exact hm
     ·exact hm
theorem RJ.take (h:RJ j r)(hj:j≤900)(sr ds:Mc)(d:List UInt8)(hd:d.length≤1600):RJ (j+1) (take20 o r sr ds d).1:=by
 have hp:=tkP_b d hd
 have hb:=h.bad
 have hm:=h.mono
 unfold take20
 split
 ·exact⟨hm.hl,hm.hd,hm.nw,hm.wl,hm.ws,by show 0≤r.bad+1∧r.bad+1≤((j+1:Nat):Int);omega,hm.lp,hm.dat,hm.rep,hm.ali,hm.tr,hm.wy,hm.rp⟩
 ·split
  ·exact hm
  ·exact(h.op hj sr ds _ _ _ _ _ hp.pa).badN (by rw[op20_bad];exact hb.2) _
theorem RJ.ask (h:RJ j r)(m:Mc)(d:List UInt8):RJ (j+1) (ask20 o r m d).1:=by
 have hm:=h.mono
 have h7:=h.lp
 unfold ask20
 split
 ·exact hm
 ·split
  ·exact hm
  ·rename_i hd
   exact⟨hm.hl,hm.hd,hm.nw,hm.wl,hm.ws,hm.bad,by show 0≤r.lp+1∧r.lp+1≤((j+1:Nat):Int);omega,by show d.length≤64;omega,⟨Int.le_refl _,by show(0:Int)≤((j+1:Nat):Int);omega⟩,⟨Int.le_refl _,by show(0:Int)≤((j+1:Nat):Int);omega⟩,hm.tr,hm.wy,hm.rp⟩
theorem RJ.seek (h:RJ j r)(m:Mc)(tl:Int):RJ (j+1) (seek20 o r m tl).1:=by
 have hm:=h.mono
 have h7:=h.tr
 unfold seek20
 split
 ·exact hm
 ·exact⟨hm.hl,hm.hd,hm.nw,hm.wl,hm.ws,hm.bad,hm.lp,hm.dat,hm.rep,hm.ali,by show 0≤r.tr+1∧r.tr+1≤((j+1:Nat):Int);omega,by show([]:List Rp).length≤32;simp,(fun y hy=>by cases hy)⟩
end
theorem Rel.mok {o:Ow20}{ks:List Int}{s:Ms}{r:Rf}{j:Nat}(h:Rel o ks s r)(hr:RJ j r)(hj:j≤900)(ha:s.al.Ok):s.Ok:=by
 obtain⟨l1,l2,l3,l4⟩:=h.lf
 have ev:=every_pos o.a.iv
 have hnw:=hr.nw
 have h1:=hr.bad
 have h2:=hr.lp
 have h3:=hr.dat
 have h4:=hr.rep
 have h5:=hr.ali
 have h6:=hr.tr
 refine⟨h.inv.bnd,ha,by rcases ev with e|e <;> omega,?_,by rw[h.bad];omega,by rw[h.lp];omega,by rw[h.dat];omega,by rw[h.rep];omega,by rw[h.ali];omega,by rw[h.tr];omega,by rw[h.way];exact hr.wy,by rw[h.way];exact hr.rp⟩
 rw[l4]
 rcases ev with e|e <;> rw[e] at l2 l3 ⊢ <;> omega
theorem opM_al (o:Ow20)(s:Ms)(sr ds:Mc)(a b c:Int)(f:List UInt8)(l:List Th):(opM o s sr ds a b c f l).1.al=s.al∧(opM o s sr ds a b c f l).1.bad=s.bad:=by
 unfold opM
 split
 ·show(chkM o s a b c f).1.al=s.al∧(chkM o s a b c f).1.bad=s.bad
  unfold chkM;split <;> exact⟨rfl,rfl⟩
 ·split
  ·show(answM o s ds a b f l).1.al=s.al∧(answM o s ds a b f l).1.bad=s.bad
   unfold answM
   (repeat' split) <;> exact⟨rfl,rfl⟩
  ·split
   ·exact⟨rfl,rfl⟩
   ·split
    ·show(fndM o s ds a b c f l).1.al=s.al∧(fndM o s ds a b c f l).1.bad=s.bad
     unfold fndM
     (repeat' split) <;> exact⟨rfl,rfl⟩
    ·exact⟨rfl,rfl⟩
theorem takeM_al (o:Ow20)(s:Ms)(sr ds:Mc)(d:List UInt8):(takeM o s sr ds d).1.al=s.al:=by
 unfold takeM badM
 (repeat' split) <;> first|exact(opM_al ..).1|rfl
theorem loopM_al (o:Ow20)(s:Ms)(ds:Mc)(d:List UInt8):(loopM o s ds d).1.al=s.al:=by unfold loopM;(repeat' split) <;> rfl
theorem traceM_al (o:Ow20)(s:Ms)(tg:Mc)(tl:Int):(traceM o s tg tl).1.al=s.al:=by unfold traceM;(repeat' split) <;> rfl
theorem tickM_al (o:Ow20)(s:Ms)(h:s.al.Ok):(tickM o s).1.al.Ok:=by
 have hb:=wstM_b (remT s)
 have:=(tickA_ok (lw:=o.lw) h hb).1
 unfold tickM
 split <;> exact this
theorem filt_two (n:Nat):∀ ks:List Int,(ks.filter (fun x=>decide (x<(n:Int)))).length+(ks.filter (eqN n)).length≤(ks.filter (fun x=>decide (x<((n+1:Nat):Int)))).length
 |[]=>Nat.le_refl _
 | x::ks=>by
  have ih:=filt_two n ks
  unfold eqN at ih ⊢
  rw[List.filter_cons,List.filter_cons,List.filter_cons]
  by_cases h1:x<(n:Int)
  ·have h2:¬ x=(n:Int):=by omega
   have h3:x<((n+1:Nat):Int):=by omega
   rw[if_pos (decide_eq_true h1),if_neg (by simpa using h2),if_pos (decide_eq_true h3),List.length_cons,List.length_cons]
   omega
  ·by_cases h2:x=(n:Int)
   ·have h3:x<((n+1:Nat):Int):=by omega
    rw[if_neg (by simpa using h1),if_pos (by simpa using h2),if_pos (decide_eq_true h3),List.length_cons,List.length_cons]
    omega
   ·have h3:¬ x<((n+1:Nat):Int):=by omega
    rw[if_neg (by simpa using h1),if_neg (by simpa using h2),if_neg (by rw[decide_eq_true_eq];exact h3)]
    exact ih
theorem riseN_le (ks:List Int):∀ n,(riseN ks n).length≤(ks.filter (fun x=>decide (x<(n:Int)))).length
 | 0=>Nat.zero_le _
 | n+1=>by
  have:=riseN_le ks n
  have:=filt_two n ks
  unfold riseN
  rw[List.length_append];omega
theorem pickN_le (p:Int→Bool)(ks:List Int)(n:Nat):(pickN p ks n).length≤ks.length:=by
 unfold pickN
 exact Nat.le_trans (List.length_filter_le _ _) (Nat.le_trans (riseN_le ks n) (List.length_filter_le _ _))
theorem okL_b (a:Ow8):∀ (ks pre:List Int),okL a pre ks=true→∀ x∈ks,1≤x∧x≤8191
 |[],_,_,x,hx=>by cases hx
 | k::r,pre,h,x,hx=>by
  unfold okL okX at h
  simp only[Bool.and_eq_true,Bool.not_eq_true',decide_eq_false_iff_not] at h
  rcases List.mem_cons.1 hx with rfl|hx
  ·have:=h.1.1;have:=h.1.2.1;omega
  ·exact okL_b a r _ h.2 x hx
structure MayF (o:Ow20)(ks:List Int):Prop where
 kl:ks.length≤8
 kb:∀ x∈ks,1≤x∧x≤8191
 lv:o.a.lv<8
 iv:o.a.iv=4∨o.a.iv=5
 lw:1≤o.lw∧o.lw≤4
 ho:hostV o.mc=true
 nv:∃ V,newV o.a ks=some V∧V.map (·.1)=riseN ks 8192∧Inv o.a (riseN ks 8192) V 0 0 [] 0
theorem may_f {o:Ow20}{ks:List Int}(h:may20 o ks=true):MayF o ks:=by
 unfold may20 at h
 simp only[Bool.and_eq_true,decide_eq_true_eq] at h
 obtain⟨h1,h2,h3,h4⟩:=h
 rcases new_may o.a ks with⟨hm,_⟩|⟨hm,V,hv,hk,hi⟩
 ·rw[hm] at h1;cases h1
 unfold mayR mayC at hm
 simp only[Bool.and_eq_true,Bool.not_eq_true',decide_eq_false_iff_not,decide_eq_true_eq] at hm
 obtain⟨m1,⟨m2,m3,_⟩,m4⟩:=hm
 exact⟨by omega,okL_b o.a ks [] m4,m2,(tick_pos _).1 m3,by omega,h2,V,hv,hk,hi⟩
theorem may_n {o:Ow20}{ks:List Int}(h:may20 o ks=false):newV o.a ks=none∨¬(1≤o.lw∧o.lw≤4)∨hostV o.mc=false:=by
 by_cases h1:1≤o.lw∧o.lw≤4
 ·cases h2:hostV o.mc
  ·exact .inr (.inr rfl)
  ·rcases new_may o.a ks with⟨_,hv⟩|⟨hm,_⟩
   ·exact .inl hv
   ·unfold may20 at h
    rw[hm,h2,decide_eq_true (by omega),decide_eq_true (by omega)] at h
    cases h
 ·exact .inr (.inl h1)
theorem Rel.new {o:Ow20}{ks:List Int}{V:List Vn}(hi:Inv o.a (riseN ks 8192) V 0 0 [] 0)(hr:Rising V)(hiv:o.a.iv=4∨o.a.iv=5):Rel o ks (ms0 V) rf0:=by
 refine⟨hi,hr,Ar.new _,?_,rfl,rfl,rfl,rfl,rfl,rfl,rfl,Int.le_refl _,Int.le_refl _⟩
 show(1:Int)≤1∧1≤every o.a.iv∧(0+1-1:Int) % every o.a.iv=0∧(0:Int)=(0+1-1) / every o.a.iv
 rcases every_pos o.a.iv with e|e <;> rw[e] <;> decide
theorem al0_ok:(⟨0,0,0⟩:Al).Ok:=⟨by decide,by decide,by decide⟩
theorem gp_part (t:TypeId)(hs:∀ w:World,(isAgg t).run Tryz.prog w=.ok false w)(cs:Array Value)(k:Nat)(v:Value)(w:World)(h:cs[k]?=some v):(part t cs k).run Tryz.prog w=.ok v w:=by
 simp[part,hs,h]
theorem gp_step (d : Nat) (xs ys : Array Value) (f : Field) (fs : List Field) (w : World) (u v : Value) (hn : f.name ≠ "_") (h1 : (part f.type xs f.offset).run Tryz.prog w = .ok u w) (h2 : (part f.type ys f.offset).run Tryz.prog w = .ok v w)
  (h3:(Op.equalIn d f.type u v).run Tryz.prog w=.ok true w):(Op.eqFields d xs ys (f::fs)).run Tryz.prog w=(Op.eqFields d xs ys fs).run Tryz.prog w:=by
 rw[Op.eqFields,if_pos hn]
 simp[Sem.run_bind,h1,h2,h3,Sem.run_ite]
theorem equalIn_macS (d:Nat)(m:Mc)(w:World):(Op.equalIn (d+2) 25 (.agg #[.int .u8 m.a,.int .u8 m.b,.int .u8 m.c,.int .u8 m.d,.int .u8 m.e,.int .u8 m.f]) (.agg #[.int .u8 m.a,.int .u8 m.b,.int .u8 m.c,.int .u8 m.d,.int .u8 m.e,.int .u8 m.f])).run Tryz.prog w=.ok true w:=by
 rw[equalIn_macG];simp
theorem run_equalIn_rp (d:Nat)(x:Rp)(w:World):(Op.equalIn (d+5) 81 (.agg #[.int .u8 x.lv,.int .u32 x.nm,.int .u8 x.tl,.bool x.st,.bool x.en,.int .u8 x.mi.a,.int .u8 x.mi.b,.int .u8 x.mi.c,.int .u8 x.mi.d,.int .u8 x.mi.e,.int .u8 x.mi.f,.int .u8 x.mo.a,.int .u8 x.mo.b,.int .u8 x.mo.c,.int .u8 x.mo.d,.int .u8 x.mo.e,.int .u8 x.mo.f]) (.agg #[.int .u8 x.lv,.int .u32 x.nm,.int .u8 x.tl,.bool x.st,.bool x.en,.int .u8 x.mi.a,.int .u8 x.mi.b,.int .u8 x.mi.c,.int .u8 x.mi.d,.int .u8 x.mi.e,.int .u8 x.mi.f,.int .u8 x.mo.a,.int .u8 x.mo.b,.int .u8 x.mo.c,.int .u8 x.mo.d,.int .u8 x.mo.e,.int .u8 x.mo.f])).run Tryz.prog w=.ok true w:=by
 have hb:∀ w,(isAgg 4).run Tryz.prog w=.ok false w:=fun w=>by kernel_rfl
 have h8:∀ w,(isAgg 5).run Tryz.prog w=.ok false w:=fun w=>by kernel_rfl
 have h32:∀ w,(isAgg 41).run Tryz.prog w=.ok false w:=fun w=>by kernel_rfl
 have p0:(part 5 #[.int .u8 x.lv,.int .u32 x.nm,.int .u8 x.tl,.bool x.st,.bool x.en,.int .u8 x.mi.a,.int .u8 x.mi.b,.int .u8 x.mi.c,.int .u8 x.mi.d,.int .u8 x.mi.e,.int .u8 x.mi.f,.int .u8 x.mo.a,.int .u8 x.mo.b,.int .u8 x.mo.c,.int .u8 x.mo.d,.int .u8 x.mo.e,.int .u8 x.mo.f] 0).run Tryz.prog w=.ok (.int .u8 x.lv) w:=gp_part _ h8 _ 0 _ w rfl
 have p1:(part 41 #[.int .u8 x.lv,.int .u32 x.nm,.int .u8 x.tl,.bool x.st,.bool x.en,.int .u8 x.mi.a,.int .u8 x.mi.b,.int .u8 x.mi.c,.int .u8 x.mi.d,.int .u8 x.mi.e,.int .u8 x.mi.f,.int .u8 x.mo.a,.int .u8 x.mo.b,.int .u8 x.mo.c,.int .u8 x.mo.d,.int .u8 x.mo.e,.int .u8 x.mo.f] 1).run Tryz.prog w=.ok (.int .u32 x.nm) w:=gp_part _ h32 _ 1 _ w rfl
 have p2:(part 5 #[.int .u8 x.lv,.int .u32 x.nm,.int .u8 x.tl,.bool x.st,.bool x.en,.int .u8 x.mi.a,.int .u8 x.mi.b,.int .u8 x.mi.c,.int .u8 x.mi.d,.int .u8 x.mi.e,.int .u8 x.mi.f,.int .u8 x.mo.a,.int .u8 x.mo.b,.int .u8 x.mo.c,.int .u8 x.mo.d,.int .u8 x.mo.e,.int .u8 x.mo.f] 2).run Tryz.prog w=.ok (.int .u8 x.tl) w:=gp_part _ h8 _ 2 _ w rfl
 have p3:(part 4 #[.int .u8 x.lv,.int .u32 x.nm,.int .u8 x.tl,.bool x.st,.bool x.en,.int .u8 x.mi.a,.int .u8 x.mi.b,.int .u8 x.mi.c,.int .u8 x.mi.d,.int .u8 x.mi.e,.int .u8 x.mi.f,.int .u8 x.mo.a,.int .u8 x.mo.b,.int .u8 x.mo.c,.int .u8 x.mo.d,.int .u8 x.mo.e,.int .u8 x.mo.f] 3).run Tryz.prog w=.ok (.bool x.st) w:=gp_part _ hb _ 3 _ w rfl
 have p4:(part 4 #[.int .u8 x.lv,.int .u32 x.nm,.int .u8 x.tl,.bool x.st,.bool x.en,.int .u8 x.mi.a,.int .u8 x.mi.b,.int .u8 x.mi.c,.int .u8 x.mi.d,.int .u8 x.mi.e,.int .u8 x.mi.f,.int .u8 x.mo.a,.int .u8 x.mo.b,.int .u8 x.mo.c,.int .u8 x.mo.d,.int .u8 x.mo.e,.int .u8 x.mo.f] 4).run Tryz.prog w=.ok (.bool x.en) w:=gp_part _ hb _ 4 _ w rfl
 have p5:(part 25 #[.int .u8 x.lv,.int .u32 x.nm,.int .u8 x.tl,.bool x.st,.bool x.en,.int .u8 x.mi.a,.int .u8 x.mi.b,.int .u8 x.mi.c,.int .u8 x.mi.d,.int .u8 x.mi.e,.int .u8 x.mi.f,.int .u8 x.mo.a,.int .u8 x.mo.b,.int .u8 x.mo.c,.int .u8 x.mo.d,.int .u8 x.mo.e,.int .u8 x.mo.f] 5).run Tryz.prog w=.ok (.agg #[.int .u8 x.mi.a,.int .u8 x.mi.b,.int .u8 x.mi.c,.int .u8 x.mi.d,.int .u8 x.mi.e,.int .u8 x.mi.f]) w:=by kernel_rfl
 have p6:(part 25 #[.int .u8 x.lv,.int .u32 x.nm,.int .u8 x.tl,.bool x.st,.bool x.en,.int .u8 x.mi.a,.int .u8 x.mi.b,.int .u8 x.mi.c,.int .u8 x.mi.d,.int .u8 x.mi.e,.int .u8 x.mi.f,.int .u8 x.mo.a,.int .u8 x.mo.b,.int .u8 x.mo.c,.int .u8 x.mo.d,.int .u8 x.mo.e,.int .u8 x.mo.f] 11).run Tryz.prog w=.ok (.agg #[.int .u8 x.mo.a,.int .u8 x.mo.b,.int .u8 x.mo.c,.int .u8 x.mo.d,.int .u8 x.mo.e,.int .u8 x.mo.f]) w:=by kernel_rfl
 rw[run_equalIn_struct w (d+4) 81 _ _ (by kernel_rfl) (by kernel_rfl)]
 simp only[Program.fieldsOf,Tryz.underlying81]
 refine Eq.trans (gp_step _ _ _ _ _ w ?u0 ?v0 ?n0 ?a0 ?b0 ?c0) ?_
 case a0=>exact p0
 case b0=>exact p0
 case c0=>exact(run_equalIn_int w _ _ .u8 .u8 x.lv x.lv Tryz.underlying5).trans (by simp)
 case n0=>decide
 refine Eq.trans (gp_step _ _ _ _ _ w ?u1 ?v1 ?n1 ?a1 ?b1 ?c1) ?_
 case a1=>exact p1
 case b1=>exact p1
 case c1=>exact(run_equalIn_int w _ _ .u32 .u32 x.nm x.nm Tryz.underlying41).trans (by simp)
 case n1=>decide
 refine Eq.trans (gp_step _ _ _ _ _ w ?u2 ?v2 ?n2 ?a2 ?b2 ?c2) ?_
 case a2=>exact p2
 case b2=>exact p2
 case c2=>exact(run_equalIn_int w _ _ .u8 .u8 x.tl x.tl Tryz.underlying5).trans (by simp)
 case n2=>decide
 refine Eq.trans (gp_step _ _ _ _ _ w ?u3 ?v3 ?n3 ?a3 ?b3 ?c3) ?_
 case a3=>exact p3
 case b3=>exact p3
 case c3=>exact(run_equalIn_bool' w _ _ x.st x.st Tryz.underlying4).trans (by simp)
 case n3=>decide
 refine Eq.trans (gp_step _ _ _ _ _ w ?u4 ?v4 ?n4 ?a4 ?b4 ?c4) ?_
 case a4=>exact p4
 case b4=>exact p4
 case c4=>exact(run_equalIn_bool' w _ _ x.en x.en Tryz.underlying4).trans (by simp)
 case n4=>decide
 refine Eq.trans (gp_step _ _ _ _ _ w ?u5 ?v5 ?n5 ?a5 ?b5 ?c5) ?_
 case a5=>exact p5
 case b5=>exact p5
 case c5=>exact equalIn_macS _ x.mi w
 case n5=>decide
 refine Eq.trans (gp_step _ _ _ _ _ w ?u6 ?v6 ?n6 ?a6 ?b6 ?c6) ?_
 case a6=>exact p6
 case b6=>exact p6
 case c6=>exact equalIn_macS _ x.mo w
 case n6=>decide
 rfl
theorem run_neq_rp (x:Rp)(w:World):(binOp .neq 81 (.agg #[.int .u8 x.lv,.int .u32 x.nm,.int .u8 x.tl,.bool x.st,.bool x.en,.int .u8 x.mi.a,.int .u8 x.mi.b,.int .u8 x.mi.c,.int .u8 x.mi.d,.int .u8 x.mi.e,.int .u8 x.mi.f,.int .u8 x.mo.a,.int .u8 x.mo.b,.int .u8 x.mo.c,.int .u8 x.mo.d,.int .u8 x.mo.e,.int .u8 x.mo.f]) (.agg #[.int .u8 x.lv,.int .u32 x.nm,.int .u8 x.tl,.bool x.st,.bool x.en,.int .u8 x.mi.a,.int .u8 x.mi.b,.int .u8 x.mi.c,.int .u8 x.mi.d,.int .u8 x.mi.e,.int .u8 x.mi.f,.int .u8 x.mo.a,.int .u8 x.mo.b,.int .u8 x.mo.c,.int .u8 x.mo.d,.int .u8 x.mo.e,.int .u8 x.mo.f])).run Tryz.prog w=.ok (.bool false) w:=by
 rw[run_neq_struct,run_equalIn_rp 9995];rfl
end Go.Proofs.YtlkdfofpnmpidaaGreat
