/- ZR42 -/
import Derived.Test.YtghaobakpdninaaGreatDoorZR41
set_option linter.unusedVariables false
set_option linter.unusedSimpArgs false
set_option maxRecDepth 100000
set_option maxHeartbeats 16000000
namespace Go.Proofs.YtghaobakpdninaaGreatDoor
open Go.RowKit
structure Cm where
 (a0 a1 a2 a3 a4:Int)
 (m0 m1 m2 m3 m4 m5:Int)
 (lv:Int)
 (dom nam:ByteArray)
 (avid aiv:Int)
 (mq:Option Addr)
 (mn mc:Nat)
 (mas mid mpt:Int)
 (mup:Bool)
 (low ip iv il:Int)
 (data:ByteArray)
 (ttl:Int)
def Cm.a (c:Cm):Array Value:=#[.int .u8 c.a0,.int .u8 c.a1,.int .u16 c.a2,.int .u8 c.a3,.int .u8 c.a4,.int .u8 c.m0,.int .u8 c.m1,.int .u8 c.m2,.int .u8 c.m3,.int .u8 c.m4,.int .u8 c.m5,.int .u8 c.lv,.string c.dom,.string c.nam,.int .u16 c.avid,.int .u8 c.aiv,.slice c.mq c.mn c.mc,.int .i64 c.mas,.int .u16 c.mid,.int .u8 c.mpt,.bool c.mup,.int .u8 c.low,.int .u8 c.ip,.int .u16 c.iv,.int .u8 c.il,.string c.data,.int .u8 c.ttl]
theorem Cm.one (c:Cm):c.a.all (·.oneCell')=true:=by simp[Cm.a,Value.oneCell']
theorem at5 (c:Cm)(j:Nat)(v:Value)(h:[.int .u8 c.m0,.int .u8 c.m1,.int .u8 c.m2,.int .u8 c.m3,.int .u8 c.m4,.int .u8 c.m5][j]?=some v):c.a[5+j]?=some v:=by
 match j,h with
 | 0,h=>exact h
 | 1,h=>exact h
 | 2,h=>exact h
 | 3,h=>exact h
 | 4,h=>exact h
 | 5,h=>exact h
 | j+6,h=>simp at h
theorem at17 (c:Cm)(j:Nat)(v:Value)(h:[.int .i64 c.mas,.int .u16 c.mid,.int .u8 c.mpt,.bool c.mup][j]?=some v):c.a[17+j]?=some v:=by
 match j,h with
 | 0,h=>exact h
 | 1,h=>exact h
 | 2,h=>exact h
 | 3,h=>exact h
 | j+4,h=>simp at h
theorem point_any (a n p:Int)(u:Bool)(w:World):Calls Tryz.prog 48 #[.agg #[.int .i64 a,.int .u16 n,.int .u8 p,.bool u]] w fun en w'=>en=.returned (.agg #[.int .i64 a,.int .u16 n,.int .u8 p,.bool u])∧Below w.heap.size w w':=by
 go_enter Tryz.func48,Tryz.ntmps48
 have c0:((w.alloc (.cells #[.int .i64 a,.int .u16 n,.int .u8 p,.bool u] 29)).alloc (.cells #[.int .i64 0,.int .u16 0,.int .u8 0,.bool false] 52)).cell? ⟨w.heap.size,0,none⟩=some (.int .i64 a):=((GB.new 29 w _).later (bAo _)).c 0 _ rfl
 have c1:((w.alloc (.cells #[.int .i64 a,.int .u16 n,.int .u8 p,.bool u] 29)).alloc (.cells #[.int .i64 0,.int .u16 0,.int .u8 0,.bool false] 52)).cell? ⟨w.heap.size,1,none⟩=some (.int .u16 n):=((GB.new 29 w _).later (bAo _)).c 1 _ rfl
 have c2:((w.alloc (.cells #[.int .i64 a,.int .u16 n,.int .u8 p,.bool u] 29)).alloc (.cells #[.int .i64 0,.int .u16 0,.int .u8 0,.bool false] 52)).cell? ⟨w.heap.size,2,none⟩=some (.int .u8 p):=((GB.new 29 w _).later (bAo _)).c 2 _ rfl
 have c3:((w.alloc (.cells #[.int .i64 a,.int .u16 n,.int .u8 p,.bool u] 29)).alloc (.cells #[.int .i64 0,.int .u16 0,.int .u8 0,.bool false] 52)).cell? ⟨w.heap.size,3,none⟩=some (.bool u):=((GB.new 29 w _).later (bAo _)).c 3 _ rfl
 have hb:Below w.heap.size w ((w.alloc (.cells #[.int .i64 a,.int .u16 n,.int .u8 p,.bool u] 29)).alloc (.cells #[.int .i64 a,.int .u16 n,.int .u8 p,.bool u] 52)):=(bAo _).alloc (by simp) _
 have hg:=GB.new 52 (w.alloc (.cells #[.int .i64 a,.int .u16 n,.int .u8 p,.bool u] 29)) #[.int .i64 a,.int .u16 n,.int .u8 p,.bool u]
 rw[show(w.alloc (.cells #[.int .i64 a,.int .u16 n,.int .u8 p,.bool u] 29)).heap.size=w.heap.size+1 by simp] at hg
 go_wp2
 exact bodyPost_ret (v:=.agg #[.int .i64 a,.int .u16 n,.int .u8 p,.bool u]) (res_one (p:=2) (d:=_) rfl rfl Tryz.underlying52 _ _ (w.heap.size+1) _ rfl hg (by kernel_rfl)) rfl ⟨rfl,hb⟩
theorem cof_any (c:Cm)(w:World):Calls Tryz.prog 23 #[.agg c.a] w fun en w'=>en=.returned (.agg c.a)∧Below w.heap.size w w':=by
 have hb:=(Below.refl w.heap.size w).alloc (Nat.le_refl _) (.cells c.a 33)
 have hb1:=hb.alloc (by simp) (.cells #[.int .u8 0,.int .u8 0,.int .u16 0,.int .u8 0,.int .u8 0,.int .u8 0,.int .u8 0,.int .u8 0,.int .u8 0,.int .u8 0,.int .u8 0,.int .u8 0,.string { data:=#[] },.string { data:=#[] },.int .u16 0,.int .u8 0,.slice none 0 0,.int .i64 0,.int .u16 0,.int .u8 0,.bool false,.int .u8 0,.int .u8 0,.int .u16 0,.int .u8 0,.string { data:=#[] },.int .u8 0] 55)
 have g0:=(GB.new 33 w c.a).later (bAo (.cells #[.int .u8 0,.int .u8 0,.int .u16 0,.int .u8 0,.int .u8 0,.int .u8 0,.int .u8 0,.int .u8 0,.int .u8 0,.int .u8 0,.int .u8 0,.int .u8 0,.string { data:=#[] },.string { data:=#[] },.int .u16 0,.int .u8 0,.slice none 0 0,.int .i64 0,.int .u16 0,.int .u8 0,.bool false,.int .u8 0,.int .u8 0,.int .u16 0,.int .u8 0,.string { data:=#[] },.int .u8 0] 55))
 have g1:=GB.new 55 (w.alloc (.cells c.a 33)) #[.int .u8 0,.int .u8 0,.int .u16 0,.int .u8 0,.int .u8 0,.int .u8 0,.int .u8 0,.int .u8 0,.int .u8 0,.int .u8 0,.int .u8 0,.int .u8 0,.string { data:=#[] },.string { data:=#[] },.int .u16 0,.int .u8 0,.slice none 0 0,.int .i64 0,.int .u16 0,.int .u8 0,.bool false,.int .u8 0,.int .u8 0,.int .u16 0,.int .u8 0,.string { data:=#[] },.int .u8 0]
 rw[show(w.alloc (.cells c.a 33)).heap.size=w.heap.size+1 by simp] at g1
 go_enter Tryz.func23,Tryz.ntmps23
 go_upto_region 1 with fail
 obtain⟨w0,hw0⟩:∃ z,(w.alloc (.cells c.a 33)).alloc (.cells #[.int .u8 0,.int .u8 0,.int .u16 0,.int .u8 0,.int .u8 0,.int .u8 0,.int .u8 0,.int .u8 0,.int .u8 0,.int .u8 0,.int .u8 0,.int .u8 0,.string { data:=#[] },.string { data:=#[] },.int .u16 0,.int .u8 0,.slice none 0 0,.int .i64 0,.int .u16 0,.int .u8 0,.bool false,.int .u8 0,.int .u8 0,.int .u16 0,.int .u8 0,.string { data:=#[] },.int .u8 0] 55)=z:=⟨_,rfl⟩
 have hs0:w0.heap.size=w.heap.size+2:=by rw[←hw0];simp
 rw[hw0] at hb1 g0 g1 ⊢
 have c11:w0.cell? ⟨w.heap.size,11,none⟩=some (.int .u8 c.lv):=g0.c 11 _ rfl
 have c12:w0.cell? ⟨w.heap.size,12,none⟩=some (.string c.dom):=g0.c 12 _ rfl
 have c13:w0.cell? ⟨w.heap.size,13,none⟩=some (.string c.nam):=g0.c 13 _ rfl
 have c14:w0.cell? ⟨w.heap.size,14,none⟩=some (.int .u16 c.avid):=g0.c 14 _ rfl
 have c15:w0.cell? ⟨w.heap.size,15,none⟩=some (.int .u8 c.aiv):=g0.c 15 _ rfl
 have c16:w0.cell? ⟨w.heap.size,16,none⟩=some (.slice c.mq c.mn c.mc):=g0.c 16 _ rfl
 clear hw0 hb
 have G0:=hd0 g0
 have G1:=hd0 g1
 have B1:=hd0 hb1
 clear g0 g1 hb1
 go_upto_region 2 with fail
 have hb2:=B1.out.alloc (by rw[hs0];omega) (.cells #[.int .u8 c.lv,.string c.dom,.string c.nam,.int .u16 c.avid,.int .u8 c.aiv,.slice c.mq c.mn c.mc] 51)
 have g0:=G0.out.later (bAo (.cells #[.int .u8 c.lv,.string c.dom,.string c.nam,.int .u16 c.avid,.int .u8 c.aiv,.slice c.mq c.mn c.mc] 51))
 have g1:=G1.out.later (bAo (.cells #[.int .u8 c.lv,.string c.dom,.string c.nam,.int .u16 c.avid,.int .u8 c.aiv,.slice c.mq c.mn c.mc] 51))
 have g2:=GB.new 51 w0 #[.int .u8 c.lv,.string c.dom,.string c.nam,.int .u16 c.avid,.int .u8 c.aiv,.slice c.mq c.mn c.mc]
 rw[hs0] at g2
 obtain⟨w1,hw1⟩:∃ z,w0.alloc (.cells #[.int .u8 c.lv,.string c.dom,.string c.nam,.int .u16 c.avid,.int .u8 c.aiv,.slice c.mq c.mn c.mc] 51)=z:=⟨_,rfl⟩
 rw[hw1] at hb2 g0 g1 g2 ⊢
 clear hw1 c11 c12 c13 c14 c15 c16 hs0 G0 G1 B1
 have dd:=(Below.refl w1.heap.size w1).drew
 have B2:=hd0 (hb2.trans (dd.mono hb2.size))
 have G1:=hd0 (g1.later dd)
 have hS:=And.intro (g0.later dd) (g2.later dd)
 clear hb2 g0 g1 g2 dd
 refine wp_region_held_drew (S:=fun W=>GB 33 W w.heap.size c.a∧GB 51 W (w.heap.size+2) #[.int .u8 c.lv,.string c.dom,.string c.nam,.int .u16 c.avid,.int .u8 c.aiv,.slice c.mq c.mn c.mc]) (by kernel_rfl) hS (fun hHeld=>?_)
 refine tkH 0 ?_ ?h ?_
 case h=>(intro w hSw;go_simp;try with_reducible rfl)
 try simp only[Act.put,zz]
 refine tkH 1 ?_ ?h ?_
 case h=>(intro w' hSw;have c':w'.cell? ⟨w.heap.size,0,none⟩=some (.int .u8 c.a0):=hSw.1.c 0 _ rfl;clear hSw;go_simp;try with_reducible rfl)
 try simp only[Act.put,zz]
 refine tkH 2 ?_ ?h ?_
 case h=>(intro w hSw;go_simp;try with_reducible rfl)
 try simp only[Act.put,zz]
 refine tkH 3 ?_ ?h ?_
 case h=>(intro w' hSw;have c':w'.cell? ⟨w.heap.size,1,none⟩=some (.int .u8 c.a1):=hSw.1.c 1 _ rfl;clear hSw;go_simp;try with_reducible rfl)
 try simp only[Act.put,zz]
 refine tkH 4 ?_ ?h ?_
 case h=>(intro w hSw;go_simp;try with_reducible rfl)
 try simp only[Act.put,zz]
 refine tkH 5 ?_ ?h ?_
 case h=>(intro w' hSw;have c':w'.cell? ⟨w.heap.size,2,none⟩=some (.int .u16 c.a2):=hSw.1.c 2 _ rfl;clear hSw;go_simp;try with_reducible rfl)
 try simp only[Act.put,zz]
 refine tkH 6 ?_ ?h ?_
 case h=>(intro w hSw;go_simp;try with_reducible rfl)
 try simp only[Act.put,zz]
 refine tkH 7 ?_ ?h ?_
 case h=>(intro w' hSw;have c':w'.cell? ⟨w.heap.size,3,none⟩=some (.int .u8 c.a3):=hSw.1.c 3 _ rfl;clear hSw;go_simp;try with_reducible rfl)
 try simp only[Act.put,zz]
 refine tkH 8 ?_ ?h ?_
 case h=>(intro w hSw;go_simp;try with_reducible rfl)
 try simp only[Act.put,zz]
 refine tkH 9 ?_ ?h ?_
 case h=>(intro w' hSw;have c':w'.cell? ⟨w.heap.size,4,none⟩=some (.int .u8 c.a4):=hSw.1.c 4 _ rfl;clear hSw;go_simp;try with_reducible rfl)
 try simp only[Act.put,zz]
 refine tkH 10 ?_ ?h ?_
 case h=>(intro w hSw;go_simp;try with_reducible rfl)
 try simp only[Act.put,zz]
 refine wpAnyH_take (i:=11) (v:=.agg #[.int .u8 c.m0,.int .u8 c.m1,.int .u8 c.m2,.int .u8 c.m3,.int .u8 c.m4,.int .u8 c.m5]) rfl (by kernel_rfl) (by kernel_rfl) (by kernel_rfl) (fun _ _ _ h=>h) (yieldsIf_load_mid (by rfl) 24 (.tmp 33) rfl w.heap.size 5 (by rfl) [.int .u8 c.m0,.int .u8 c.m1,.int .u8 c.m2,.int .u8 c.m3,.int .u8 c.m4,.int .u8 c.m5] _ (fun W hW=>fun j v hv=>hW.1.c (5+j) v (at5 c j v hv)) Tryz.underlying24 rfl (by kernel_rfl)) (by assumption) ?_
 try simp only[Act.put,zz]
 refine wpAnyH_take (i:=12) (v:=.agg #[.int .u8 c.lv,.string c.dom,.string c.nam,.int .u16 c.avid,.int .u8 c.aiv,.slice c.mq c.mn c.mc]) rfl (by kernel_rfl) (by kernel_rfl) (by kernel_rfl) (fun _ _ _ h=>h) (yieldsIf_load_mid (by rfl) 51 (.tmp 3) rfl (w.heap.size+2) 0 (by rfl) [.int .u8 c.lv,.string c.dom,.string c.nam,.int .u16 c.avid,.int .u8 c.aiv,.slice c.mq c.mn c.mc] _ (fun W hW=>hW.2.range) Tryz.underlying51 rfl (by kernel_rfl)) (by assumption) ?_
 try simp only[Act.put,zz]
 refine tkH 13 ?_ ?h ?_
 case h=>(intro w hSw;go_simp;try with_reducible rfl)
 try simp only[Act.put,zz]
 refine wpAnyH_take (i:=14) (v:=.agg #[.int .i64 c.mas,.int .u16 c.mid,.int .u8 c.mpt,.bool c.mup]) rfl (by kernel_rfl) (by kernel_rfl) (by kernel_rfl) (fun _ _ _ h=>h) (yieldsIf_load_mid (by rfl) 29 (.tmp 36) rfl w.heap.size 17 (by rfl) [.int .i64 c.mas,.int .u16 c.mid,.int .u8 c.mpt,.bool c.mup] _ (fun W hW=>fun j v hv=>hW.1.c (17+j) v (at17 c j v hv)) Tryz.underlying29 rfl (by kernel_rfl)) (by assumption) ?_
 try simp only[Act.put,zz]
 refine tkH 16 ?_ ?h ?_
 case h=>(intro w hSw;go_simp;try with_reducible rfl)
 try simp only[Act.put,zz]
 refine tkH 17 ?_ ?h ?_
 case h=>(intro w' hSw;have c':w'.cell? ⟨w.heap.size,21,none⟩=some (.int .u8 c.low):=hSw.1.c 21 _ rfl;clear hSw;go_simp;try with_reducible rfl)
 try simp only[Act.put,zz]
 refine tkH 18 ?_ ?h ?_
 case h=>(intro w hSw;go_simp;try with_reducible rfl)
 try simp only[Act.put,zz]
 refine tkH 19 ?_ ?h ?_
 case h=>(intro w hSw;go_simp;try with_reducible rfl)
 try simp only[Act.put,zz]
 refine tkH 20 ?_ ?h ?_
 case h=>(intro w' hSw;have c':w'.cell? ⟨w.heap.size,22,none⟩=some (.int .u8 c.ip):=hSw.1.c 22 _ rfl;clear hSw;go_simp;try with_reducible rfl)
 try simp only[Act.put,zz]
 refine tkH 21 ?_ ?h ?_
 case h=>(intro w hSw;go_simp;try with_reducible rfl)
 try simp only[Act.put,zz]
 refine tkH 22 ?_ ?h ?_
 case h=>(intro w hSw;go_simp;try with_reducible rfl)
 try simp only[Act.put,zz]
 refine tkH 23 ?_ ?h ?_
 case h=>(intro w' hSw;have c':w'.cell? ⟨w.heap.size,23,none⟩=some (.int .u16 c.iv):=hSw.1.c 23 _ rfl;clear hSw;go_simp;try with_reducible rfl)
 try simp only[Act.put,zz]
 refine tkH 24 ?_ ?h ?_
 case h=>(intro w hSw;go_simp;try with_reducible rfl)
 try simp only[Act.put,zz]
 refine tkH 25 ?_ ?h ?_
 case h=>(intro w hSw;go_simp;try with_reducible rfl)
 try simp only[Act.put,zz]
 refine tkH 26 ?_ ?h ?_
 case h=>(intro w' hSw;have c':w'.cell? ⟨w.heap.size,24,none⟩=some (.int .u8 c.il):=hSw.1.c 24 _ rfl;clear hSw;go_simp;try with_reducible rfl)
 try simp only[Act.put,zz]
 refine tkH 27 ?_ ?h ?_
 case h=>(intro w hSw;go_simp;try with_reducible rfl)
 try simp only[Act.put,zz]
 refine tkH 28 ?_ ?h ?_
 case h=>(intro w hSw;go_simp;try with_reducible rfl)
 try simp only[Act.put,zz]
 refine tkH 29 ?_ ?h ?_
 case h=>(intro w' hSw;have c':w'.cell? ⟨w.heap.size,25,none⟩=some (.string c.data):=hSw.1.c 25 _ rfl;clear hSw;go_simp;try with_reducible rfl)
 try simp only[Act.put,zz]
 refine tkH 30 ?_ ?h ?_
 case h=>(intro w hSw;go_simp;try with_reducible rfl)
 try simp only[Act.put,zz]
 refine tkH 31 ?_ ?h ?_
 case h=>(intro w' hSw;have c':w'.cell? ⟨w.heap.size,26,none⟩=some (.int .u8 c.ttl):=hSw.1.c 26 _ rfl;clear hSw;go_simp;try with_reducible rfl)
 try simp only[Act.put,zz]
 refine rdH 15 fun K hK=>?_
 (go_simp;go_at_call 48;refine(point_any _ _ _ _ _).mono ?_;rintro en' w2 ⟨rfl,hb2⟩;have G2:=hd0 (G1.out.later hb2);have B3:=hd0 (B2.out.trans (hb2.mono B2.out.size));refine hK.out _ _ ⟨hS.1.later hb2,hS.2.later hb2⟩ (fun hHeld=>?_);clear hK K;try simp only[Act.put,zz])
 refine tkH 32 ?_ ?h ?_
 case h=>(intro w hSw;go_simp;try with_reducible rfl)
 try simp only[Act.put,zz]
 have hS2:GB 33 w2 w.heap.size c.a∧GB 51 w2 (w.heap.size+2) #[.int .u8 c.lv,.string c.dom,.string c.nam,.int .u16 c.avid,.int .u8 c.aiv,.slice c.mq c.mn c.mc]:=⟨hS.1.later hb2,hS.2.later hb2⟩
 refine rdH 33 fun K hK=>?_
 (refine wp_store_mid 55 (.tmp 2) (.tmp 55) rfl _ 0 c.a rfl (by rfl) (G2.out.there (Nat.le_refl 27)) (by kernel_rfl) c.one ?_;refine hK.out _ _ ⟨GB.cellsOther (by omega) _ _ _ hS2.1,GB.cellsOther (by omega) _ _ _ hS2.2⟩ (fun hHeld=>?_);clear hK K;try simp only[Act.put,zz])
 refine wpAnyH_done (by kernel_rfl) ?_ _
 go_wp2
 exact bodyPost_ret (v:=.agg c.a) (res_one (p:=2) (d:=_) rfl rfl Tryz.underlying55 _ _ (w.heap.size+1) _ rfl (G2.out.store (by rfl) c.one) (by kernel_rfl)) rfl ⟨rfl,below_cellsG (by omega) _ _ _ B3.out⟩
def IsB (en:Ending):Prop:=∃ q,en=.returned (.bool q)
theorem great_any (c:Cm)(s:ByteArray)(w:World)(b:Nat)(hr:w.rangeAt b 2 c.a.toList)(hs:w.cell? ⟨b,29,none⟩=some (.string s)):Calls Tryz.prog 19 #[.slice (some ⟨b,0,none⟩) 1 1] w fun en w'=>IsB en∧Below w.heap.size w w':=by
 have HR:=hd0 hr
 have HIL:Hid ((Tryz.prog.info? 33).map (·.size)=some c.a.toList.length):=hd0 (show _=some 27 by kernel_rfl)
 have HIZ:Hid ((Tryz.prog.info? 33).map (·.size)=some c.a.size):=hd0 (show _=some 27 by kernel_rfl)
 have hb:=below_cells (Nat.le_refl _) c.a.toList 0 _ ((Below.refl w.heap.size w).alloc (Nat.le_refl _) (.cells #[.int .u8 0,.int .u8 0,.int .u16 0,.int .u8 0,.int .u8 0,.int .u8 0,.int .u8 0,.int .u8 0,.int .u8 0,.int .u8 0,.int .u8 0,.int .u8 0,.string { data:=#[] },.string { data:=#[] },.int .u16 0,.int .u8 0,.slice none 0 0,.int .i64 0,.int .u16 0,.int .u8 0,.bool false,.int .u8 0,.int .u8 0,.int .u16 0,.int .u8 0,.string { data:=#[] },.int .u8 0] 33))
 have TH:Hid ((w.alloc (.cells #[.int .u8 0,.int .u8 0,.int .u16 0,.int .u8 0,.int .u8 0,.int .u8 0,.int .u8 0,.int .u8 0,.int .u8 0,.int .u8 0,.int .u8 0,.int .u8 0,.string { data:=#[] },.string { data:=#[] },.int .u16 0,.int .u8 0,.slice none 0 0,.int .i64 0,.int .u16 0,.int .u8 0,.bool false,.int .u8 0,.int .u8 0,.int .u16 0,.int .u8 0,.string { data:=#[] },.int .u8 0] 33)).there w.heap.size 0 c.a.size):=hd0 ((GB.new 33 w #[.int .u8 0,.int .u8 0,.int .u16 0,.int .u8 0,.int .u8 0,.int .u8 0,.int .u8 0,.int .u8 0,.int .u8 0,.int .u8 0,.int .u8 0,.int .u8 0,.string { data:=#[] },.string { data:=#[] },.int .u16 0,.int .u8 0,.slice none 0 0,.int .i64 0,.int .u16 0,.int .u8 0,.bool false,.int .u8 0,.int .u8 0,.int .u16 0,.int .u8 0,.string { data:=#[] },.int .u8 0]).there (Nat.le_refl 27))
 have g0:=(GB.new 33 w #[.int .u8 0,.int .u8 0,.int .u16 0,.int .u8 0,.int .u8 0,.int .u8 0,.int .u8 0,.int .u8 0,.int .u8 0,.int .u8 0,.int .u8 0,.int .u8 0,.string { data:=#[] },.string { data:=#[] },.int .u16 0,.int .u8 0,.slice none 0 0,.int .i64 0,.int .u16 0,.int .u8 0,.bool false,.int .u8 0,.int .u8 0,.int .u16 0,.int .u8 0,.string { data:=#[] },.int .u8 0]).store (A:=c.a) rfl c.one
 have hs1:=(hb.cell (World.block_lt_of_cell? _ _ hs)).trans hs
 obtain⟨w0,hw0⟩:∃ z,(w.alloc (.cells #[.int .u8 0,.int .u8 0,.int .u16 0,.int .u8 0,.int .u8 0,.int .u8 0,.int .u8 0,.int .u8 0,.int .u8 0,.int .u8 0,.int .u8 0,.int .u8 0,.string { data:=#[] },.string { data:=#[] },.int .u16 0,.int .u8 0,.slice none 0 0,.int .i64 0,.int .u16 0,.int .u8 0,.bool false,.int .u8 0,.int .u8 0,.int .u16 0,.int .u8 0,.string { data:=#[] },.int .u8 0] 33)).setCells w.heap.size 0 c.a.toList=z:=⟨_,rfl⟩
 rw[hw0] at hb g0 hs1
 have k0:w0.cell? ⟨w.heap.size,25,none⟩=some (.string c.data):=g0.c 25 _ rfl
 have k1:w0.cell? ⟨w.heap.size,13,none⟩=some (.string c.nam):=g0.c 13 _ rfl
 have k2:w0.cell? ⟨w.heap.size,12,none⟩=some (.string c.dom):=g0.c 12 _ rfl
 have k3:w0.cell? ⟨w.heap.size,16,none⟩=some (.slice c.mq c.mn c.mc):=g0.c 16 _ rfl
 have HB:=hd0 hb
 clear hb g0 hr hs
 go_enter Tryz.func19,Tryz.ntmps19
 go_wp2_with fail
 refine wp_loop_rounds 2 ?_
 rw[rounds_succ]
 go_upto_region 7 with(first|((with_reducible refine wpList_load_mid rfl 33 (.tmp 17) rfl b 2 ?hx c.a.toList _ HR.out Tryz.underlying33 ?hu HIL.out ?_);(case hx=>rfl);(case hu=>rfl))|((with_reducible refine wpList_store_mid rfl 33 (.tmp 4) (.tmp 18) rfl w.heap.size 0 c.a ?hx ?hy TH.out HIZ.out c.one ?_);(case hx=>rfl);(case hy=>rfl)))
 rw[hw0]
 clear hw0
 by_cases q0:(2000:Int)<s.size
 ·go_wp2_with fail
  go_ret
  exact⟨⟨true,rfl⟩,HB.out⟩
 by_cases q1:(300:Int)<c.data.size
 ·go_wp2_with fail
  go_ret
  exact⟨⟨true,rfl⟩,HB.out⟩
 by_cases q2:(100:Int)<c.nam.size
 ·go_wp2_with fail
  go_ret
  exact⟨⟨true,rfl⟩,HB.out⟩
 by_cases q3:(100:Int)<c.dom.size
 ·go_wp2_with fail
  go_ret
  exact⟨⟨true,rfl⟩,HB.out⟩
 by_cases q4:(20:Int)<c.mn
 ·go_wp2_with fail
  go_ret
  exact⟨⟨true,rfl⟩,HB.out⟩
 go_wp2_with fail
 rw[rounds_succ]
 go_wp2_with fail
 go_ret
 exact⟨⟨false,rfl⟩,HB.out⟩
theorem ndo_nil (A:Array Value)(w:World):Calls Tryz.prog 7 #[.pointer none,.agg A] w fun en w'=>en=.returned (.agg #[.int .i64 1,.int .i64 0,.slice none 0 0,.slice none 0 0])∧Below w.heap.size w w':=by
 go_enter Tryz.func7,Tryz.ntmps7
 go_wp2
 have g:GB 49 ((w.alloc (.cells A 57)).alloc (.cells #[.int .i64 1,.int .i64 0,.slice none 0 0,.slice none 0 0] 49)) (w.heap.size+1) #[.int .i64 1,.int .i64 0,.slice none 0 0,.slice none 0 0]:=by
  have:=GB.new 49 (w.alloc (.cells A 57)) #[.int .i64 1,.int .i64 0,.slice none 0 0,.slice none 0 0]
  rwa [show(w.alloc (.cells A 57)).heap.size=w.heap.size+1 by simp] at this
 exact bodyPost_ret (v:=.agg _) (res_one (p:=4) (d:=_) rfl rfl Tryz.underlying49 _ _ _ _ rfl g (by kernel_rfl)) rfl ⟨rfl,(bAo _).alloc (by simp) _⟩
theorem net_Net_Bridge_nil (i:Int)(w:World):Calls Tryz.prog 9 #[.pointer none,.int .i64 i] w fun en w'=>en=.returned (.pointer none)∧w=w':=by
 go_enter Tryz.func9,Tryz.ntmps9
 go_wp2
 go_ret
 exact⟨rfl,rfl⟩
theorem net_Net_at_nil (i:Int)(w:World):Calls Tryz.prog 24 #[.pointer none,.int .i64 i] w fun en w'=>en=.returned (.pointer none)∧w=w':=by
 go_enter Tryz.func24,Tryz.ntmps24
 go_wp2
 go_ret
 exact⟨rfl,rfl⟩
theorem net_Net_Lost_nil (i:Int)(w:World):Calls Tryz.prog 13 #[.pointer none] w fun en w'=>en=.returned (.int .u64 0)∧w=w':=by
 go_enter Tryz.func13,Tryz.ntmps13
 go_wp2
 go_ret
 exact⟨rfl,rfl⟩
theorem net_Net_IsUp_nil (i k:Int)(w:World):Calls Tryz.prog 10 #[.pointer none,.int .i64 i] w fun en w'=>en=.returned (.bool false)∧w=w':=by
 have AT:=net_Net_at_nil i
 go_enter Tryz.func10,Tryz.ntmps10
 go_wp2_with (go_at_call 24;with_reducible refine(AT _).mono ?_;rintro e wx ⟨rfl,rfl⟩)
 go_ret
 exact⟨rfl,rfl⟩
theorem net_Net_Len_nil (i k:Int)(w:World):Calls Tryz.prog 11 #[.pointer none,.int .i64 i,.int .i64 k] w fun en w'=>en=.returned (.int .i64 0)∧w=w':=by
 have AT:=net_Net_at_nil i
 go_enter Tryz.func11,Tryz.ntmps11
 go_wp2_with (go_at_call 24;with_reducible refine(AT _).mono ?_;rintro e wx ⟨rfl,rfl⟩)
 go_ret
 exact⟨rfl,rfl⟩
theorem net_Net_Edge_nil (i k:Int)(w:World):Calls Tryz.prog 12 #[.pointer none,.int .i64 i] w fun en w'=>en=.returned (.bool false)∧w=w':=by
 have AT:=net_Net_at_nil i
 go_enter Tryz.func12,Tryz.ntmps12
 go_wp2_with (go_at_call 24;with_reducible refine(AT _).mono ?_;rintro e wx ⟨rfl,rfl⟩)
 go_ret
 exact⟨rfl,rfl⟩
abbrev sE (sp:Int)(a b:Bool)(B0:List Value):NSt:=⟨mA2 3,mB2 false 3 sp,oC,oC,vC,vC,a,b,B0,[]⟩
theorem tfA (la:Int)(hl:la≠0)(m g cap:Nat)(t:List Value)(p:Nat)(b:Bool)(W:World)(hp:(p=0∧b=true)∨(p=1∧b=true)∨(2≤p∧p<256∧b=false))(h:TR W m g cap t (mA2 la)):Calls Tryz.prog 52 #[.pointer (some ⟨m,0,none⟩),.int .u8 p] W fun en w'=>en=.returned (.bool b)∧Below W.heap.size W w':=by
 rcases hp with⟨rfl,rfl⟩|⟨rfl,rfl⟩|⟨h2,h8,rfl⟩
 ·exact tfwd0 _ _ _ _ _ _ _ _ _ _ _ _ _ _ _ W h
 ·exact tfwdD _ _ _ _ _ _ _ _ _ _ _ hl W h
 ·exact tfwd2 _ _ _ _ _ _ _ _ _ _ _ _ _ _ _ _ _ p h2 h8 W h
theorem tfB (q:Bool)(la sp:Int)(m g cap:Nat)(t:List Value)(p:Nat)(b:Bool)(W:World)(hp:(p=0∧b=true)∨(p=1∧b=true)∨(2≤p∧p<256∧b=false))(h:TR W m g cap t (mB2 q la sp)):Calls Tryz.prog 52 #[.pointer (some ⟨m,0,none⟩),.int .u8 p] W fun en w'=>en=.returned (.bool b)∧Below W.heap.size W w':=by
 rcases hp with⟨rfl,rfl⟩|⟨rfl,rfl⟩|⟨h2,h8,rfl⟩
 ·exact tfwd0 _ _ _ _ _ _ _ _ _ _ _ _ _ _ _ W h
 ·exact tfwdR _ _ _ _ _ _ _ _ _ _ _ _ _ _ _ W h
 ·exact tfwd2 _ _ _ _ _ _ _ _ _ _ _ _ _ _ _ _ _ p h2 h8 W h
theorem stH (N:NPos)(sp:Int):Tells N (sE sp false false []) (sE sp true false [.string (bs bT)]) [(0,1,bT)] #[.int .u8 6,.int .u8 0,.int .u8 0,.int .u8 0,.string { data:=#[255,255,255,255,255,255,2,0,0,0,0,1,8,0,120] },.int .u8 0,.int .u8 0,.int .u16 0,.int .u8 0,.int .u8 0,.int .u8 0,.int .u8 0,.int .u8 0,.int .u8 0,.int .u8 0,.int .u8 0,.int .u8 0,.string { data:=#[] },.string { data:=#[] },.int .u16 0,.int .u8 0,.slice none 0 0,.int .i64 0,.int .u16 0,.int .u8 0,.bool false,.int .u8 0,.int .u8 0,.int .u16 0,.int .u8 0,.string { data:=#[] },.int .u8 0]:=fun W h =>
 ndo N _ _ _ _ 6 45 (by simp) rfl rfl (by decide) (fun z=>rfl) (fun W h=>nhost N (sE sp false false []) (sE sp true false []) (sE sp true false [.string (bs bT)]) (.string (bs bA)) (some (1,bT)) [(0,1,bT)] _ ⟨rfl,rfl,rfl⟩
  (fun W h=>by
   obtain⟨a,-,hb⟩:=h.A
   exact broleN _ _ 0 5 W hb.c1 (same_below (trole0 _ _ _ _ _ true _ _ _ _ _ _ _ _ _ _ _ W hb.tr)))
  (fun W h=>recvFA (s:=sE sp false false []) rfl rfl rfl 5 rfl (fun m g cap t p b W=>tfA 3 (by decide) m g cap t p b W) (fun m g cap t W h=>same_below (trole0 _ _ _ _ _ true _ _ _ _ _ _ _ _ _ _ _ W h)) W h)
  (fun v W h=>ng01 N (sE sp true false []) bT (by decide) ⟨by simp,by simp⟩ v W h) W h) W h
theorem ndrF (N:NPos)(sp:Int)(A:Array Value)(W:World)(h:NZ W N (sE sp true false [.string (bs bT)])):Calls Tryz.prog 47 #[.pointer (some ⟨N.n,0,none⟩),.agg A] W fun en w'=>∃ v,en=.returned (.agg #[.int .i64 0,.int .i64 0,v,.slice none 0 0])∧OV w' W.heap.size v [(1,0,bA)]∧NZ w' N (sE sp true true [])∧Fr (NK N) W w':=by
 have V0:Vis N 0 (sE sp true false [.string (bs bT)]) [(1,0,bA)] (sE sp true true []) true :=
  Or.inr ⟨rfl,⟨_,_,rfl⟩,fun W h=>ncomes0 N _ (sE sp true false []) (sE sp true true []) (sE sp true true []) (.string (bs bT)) (some (0,bA)) _ (fun W h=>ncome0 N (sE sp true false []) (.string (bs bT)) ⟨_,rfl⟩ W h)
   (fun W h=>recvFB (s:=sE sp true false []) rfl rfl rfl 1 rfl (fun m g cap t p b W=>tfB false 3 sp m g cap t p b W) (fun m g cap t W h=>same_below (troleR _ _ _ _ _ _ _ _ _ _ _ _ _ _ _ _ h)) W h)
   (fun v W h=>ng10 N (sE sp true true []) bA (by decide) ⟨by simp,by simp⟩ v W h) W h⟩
 exact ndrain N 2 (by decide) (fun j=>match j with|0=>sE sp true false [.string (bs bT)]|_=>sE sp true true [])
  (fun j=>match j with|0=>[(1,0,bA)]|_=>[]) (fun r e=>match r,e with|0,0=>true|_,_=>false) (fun j=>by split <;> simp)
  (fun r e hr he=>by
   rcases(show(r=0∧e=0)∨(r=0∧e=1)∨(r=1∧e=0)∨(r=1∧e=1) by omega) with⟨rfl,rfl⟩|⟨rfl,rfl⟩|⟨rfl,rfl⟩|⟨rfl,rfl⟩
   ·exact V0
   ·exact nil_vis 1 _ rfl
   ·exact nil_vis 0 _ rfl
   ·exact nil_vis 1 _ rfl)
  (fun r hr=>by
   rcases(show r=0∨r=1 by omega) with rfl|rfl <;> rfl) A W h
theorem edgeE (N:NPos)(sp:Int)(a b:Bool)(w:World)(h:NZ w N (sE sp a b [])):Calls Tryz.prog 12 #[.pointer (some ⟨N.n,0,none⟩),.int .i64 0] w fun en w'=>en=.returned (.bool true)∧Below w.heap.size w w' :=
 nedge N _ (fun W h=>by
   obtain⟨_,-,hb⟩:=h.A
   exact bfwdN _ _ 1 true W hb.c1 (tfA 3 (by decide) _ _ _ _ 1 true W (Or.inr (Or.inl ⟨rfl,rfl⟩)) hb.tr))
  (fun W h=>by
   obtain⟨_,-,hb⟩:=h.B
   exact bfwdN _ _ 1 true W hb.c1 (tfB false 3 sp _ _ _ _ 1 true W (Or.inr (Or.inl ⟨rfl,rfl⟩)) hb.tr)) w h
theorem ov_one {W:World}{lo:Nat}{v:Value}{x:Int × Int × List UInt8}(h:OV W lo v [x]):∃ g f c:Nat,v=.slice (some ⟨g,f,none⟩) 1 c∧W.rangeAt g f (outC x)∧lo≤g:=by
 rcases h.1 with⟨_,h1⟩|⟨ad,c,rfl,h0|⟨b,off,rfl,h2⟩⟩
 ·cases h1
 ·cases h0
 ·refine⟨b,off,c,rfl,fun j u hu=>?_,h.2 b rfl⟩
  have hj:j<3:=by have:=(List.getElem?_eq_some_iff.1 hu).1;simpa [outC] using this
  have:=h2 0 (by simp) j hj
  rw[←hu];simpa using this
theorem back {N:NPos}{w w3 W:World}(hb:Below w.heap.size w w3)(hk:∀ k,NK N k→w.heap.size≤k)(hf:Fr (NK N) w3 W):Below w.heap.size w W :=
 hb.trans ⟨hf.os,hf.tape,hf.output,hf.size,fun k hk'=>hf.block k (Nat.lt_of_lt_of_le hk' hb.size) (fun hn=>by have:=hk k hn;omega)⟩
theorem wakes24_any (w:World):Calls Tryz.prog 6 #[] w fun en w'=>en=.returned (.bool true)∧Below w.heap.size w w':=by
 go_enter Tryz.func6,Tryz.ntmps6
 go_wp2_with fail
 with_reducible refine(known_any _).mono ?_
 rintro en w1 ⟨v0,rfl,hp1,hb1⟩
 go_wp2_with fail
 with_reducible refine(pof_any v0 _ hp1).mono ?_
 rintro en w2 ⟨v1,rfl,hp2,hb2⟩
 obtain⟨gi,gp,gl,ci,cp,cl,rfl,r1,r2,r3⟩:=hp2
 go_wp2_with fail
 with_reducible refine(nnew gi gp gl ci cp cl _ r1 r2 r3).mono ?_
 rintro en w3 ⟨N,rfl,hz3,hk3,hb3⟩
 have hb02:=hb1.trans (hb2.mono hb1.size)
 have HB:=hd0 (hb02.trans (hb3.mono hb02.size))
 have HK:Hid (∀ k,NK N k→w.heap.size≤k):=hd0 fun k hk=>Nat.le_trans hb02.size (hk3 k hk)
 have Z0:Hid (NZ w3 N (sw (mS 16 true true) (mS 32 true true) o0 [] [] [])):=hd0 hz3
 have F0:Hid (Fr (NK N) w3 w3):=hd0 (Fr.of_below (Below.refl _ _))
 clear hb1 hb2 hb3 hb02 hp1 r1 r2 r3 hz3 hk3
 go_wp2_with fail
 refine wp_loop_rounds 3 ?_
 rw[rounds_succ]
 have D0:=hd0 (stV0 (N:=N) (s:=sw (mS 16 true true) (mS 32 true true) o0 [] [] []) rfl rfl)
 go_wp2_with fail
 with_reducible refine(D0.out _ Z0.out).mono ?_
 rintro en' u0 ⟨x0,rfl,hx0,hz0,hf0⟩
 have Z1:Hid (NZ u0 N ⟨mS 16 true true,mS 32 true true,o0,o0,vC,[],false,false,[],[]⟩):=hd0 hz0
 have F1:=hd0 (F0.out.trans hf0)
 clear hx0 hz0 hf0 D0 Z0 F0
 have D1:=hd0 (stO0 (N:=N) (s:=⟨mS 16 true true,mS 32 true true,o0,o0,vC,[],false,false,[],[]⟩) rfl rfl)
 go_wp2_with fail
 with_reducible refine(D1.out _ Z1.out).mono ?_
 rintro en' u1 ⟨x1,rfl,hx1,hz1,hf1⟩
 have Z2:Hid (NZ u1 N ⟨mS 16 true true,mS 32 true true,oC,o0,vC,[],false,false,[],[]⟩):=hd0 hz1
 have F2:=hd0 (F1.out.trans hf1)
 clear hx1 hz1 hf1 D1 Z1 F1
 go_wp2_with fail
 rw[rounds_succ]
 have D2:=hd0 (stV1 (N:=N) (s:=⟨mS 16 true true,mS 32 true true,oC,o0,vC,[],false,false,[],[]⟩) rfl rfl)
 go_wp2_with fail
 with_reducible refine(D2.out _ Z2.out).mono ?_
 rintro en' u2 ⟨x2,rfl,hx2,hz2,hf2⟩
 have Z3:Hid (NZ u2 N ⟨mS 16 true true,mS 32 true true,oC,o0,vC,vC,false,false,[],[]⟩):=hd0 hz2
 have F3:=hd0 (F2.out.trans hf2)
 clear hx2 hz2 hf2 D2 Z2 F2
 have D3:=hd0 (stO1 (N:=N) (s:=⟨mS 16 true true,mS 32 true true,oC,o0,vC,vC,false,false,[],[]⟩) rfl rfl)
 go_wp2_with fail
 with_reducible refine(D3.out _ Z3.out).mono ?_
 rintro en' u3 ⟨x3,rfl,hx3,hz3,hf3⟩
 have Z4:Hid (NZ u3 N ⟨mS 16 true true,mS 32 true true,oC,oC,vC,vC,false,false,[],[]⟩):=hd0 hz3
 have F4:=hd0 (F3.out.trans hf3)
 clear hx3 hz3 hf3 D3 Z3 F3
 go_wp2_with fail
 rw[rounds_succ]
 go_wp2_with fail
 refine wp_loop_rounds 4 ?_
 rw[rounds_succ]
 have D4:=hd0 (stT (N:=N) (l:=_) (fun A W h=>ntk (o:=oC) (V:=vC) (mS 16 true true) (mS 32 true true) (mS 16 true true) (mS 32 true true) (wD 16 true) (wD 32 true) wf1 wf2 rfl rfl rfl rfl (fun m g cap t W h=>ttickS m g cap t 16 true W h) (fun m g cap t W h=>ttickS m g cap t 32 true W h) A W h))
 go_wp2_with fail
 with_reducible refine(D4.out _ Z4.out).mono ?_
 rintro en' u4 ⟨x4,rfl,hx4,hz4,hf4⟩
 have Z5:Hid (NZ u4 N (sw (mS 16 true true) (mS 32 true true) oC vC [fr 18 (wD 16 true)] [fr 34 (wD 32 true)])):=hd0 hz4
 have F5:=hd0 (F4.out.trans hf4)
 clear hx4 hz4 hf4 D4 Z4 F4
 have D5:=hd0 (stD (N:=N) (fun A W h=>ndr1 (o:=oC) (V:=vC) A W h))
 go_wp2_with fail
 with_reducible refine(D5.out _ Z5.out).mono ?_
 rintro en' u5 ⟨x5,rfl,hx5,hz5,hf5⟩
 have Z6:Hid (NZ u5 N (sw (mA2 3) (mB2 true 3 4) oC vC [] [])):=hd0 hz5
 have F6:=hd0 (F5.out.trans hf5)
 clear hx5 hz5 hf5 D5 Z5 F5
 go_wp2_with fail
 rw[rounds_succ]
 have D6:=hd0 (stT (N:=N) (l:=_) (fun A W h=>ntk (o:=oC) (V:=vC) (mA2 3) (mB2 true 3 4) (mA2 2) (mB2 true 2 3) (wD 16 false) wR wf3 wf4 rfl rfl rfl rfl (fun m g cap t W h=>ttickA m g cap t true W h) (fun m g cap t W h=>ttickB4 m g cap t true true W h) A W h))
 go_wp2_with fail
 with_reducible refine(D6.out _ Z6.out).mono ?_
 rintro en' u6 ⟨x6,rfl,hx6,hz6,hf6⟩
 have Z7:Hid (NZ u6 N (sw (mA2 2) (mB2 true 2 3) oC vC [fr 18 (wD 16 false)] [fr 34 wR])):=hd0 hz6
 have F7:=hd0 (F6.out.trans hf6)
 clear hx6 hz6 hf6 D6 Z6 F6
 have D7:=hd0 (stD (N:=N) (fun A W h=>ndr2 (o:=oC) (V:=vC) true 3 A W h))
 go_wp2_with fail
 with_reducible refine(D7.out _ Z7.out).mono ?_
 rintro en' u7 ⟨x7,rfl,hx7,hz7,hf7⟩
 have Z8:Hid (NZ u7 N (sw (mA2 3) (mB2 false 3 3) oC vC [] [])):=hd0 hz7
 have F8:=hd0 (F7.out.trans hf7)
 clear hx7 hz7 hf7 D7 Z7 F7
 go_wp2_with fail
 rw[rounds_succ]
 have D8:=hd0 (stT (N:=N) (l:=_) (fun A W h=>ntk (o:=oC) (V:=vC) (mA2 3) (mB2 false 3 3) (mA2 2) (mB2 false 2 2) (wD 16 false) wR wf3 wf4 rfl rfl rfl rfl (fun m g cap t W h=>ttickA m g cap t true W h) (fun m g cap t W h=>ttickB3 m g cap t true false W h) A W h))
 go_wp2_with fail
 with_reducible refine(D8.out _ Z8.out).mono ?_
 rintro en' u8 ⟨x8,rfl,hx8,hz8,hf8⟩
 have Z9:Hid (NZ u8 N (sw (mA2 2) (mB2 false 2 2) oC vC [fr 18 (wD 16 false)] [fr 34 wR])):=hd0 hz8
 have F9:=hd0 (F8.out.trans hf8)
 clear hx8 hz8 hf8 D8 Z8 F8
 have D9:=hd0 (stD (N:=N) (fun A W h=>ndr2 (o:=oC) (V:=vC) false 2 A W h))
 go_wp2_with fail
 with_reducible refine(D9.out _ Z9.out).mono ?_
 rintro en' u9 ⟨x9,rfl,hx9,hz9,hf9⟩
 have Z10:Hid (NZ u9 N (sE 2 false false [])):=hd0 hz9
 have F10:=hd0 (F9.out.trans hf9)
 clear hx9 hz9 hf9 D9 Z9 F9
 go_wp2_with fail
 rw[rounds_succ]
 go_wp2_with fail
 have D10:=hd0 (stH N 2)
 have hl10:=Z10.out.nk (k:=N.c0) (Or.inr (Or.inr (Or.inl rfl)))
 with_reducible refine(D10.out _ Z10.out).mono ?_
 rintro en' u10 ⟨x10,rfl,hx10,hz10,hf10⟩
 obtain⟨ga,fa,ca,rfl,ra,hlga⟩:=ov_one hx10
 have k10:∀ k,NK N k→k<ga:=fun k hk=>Nat.lt_of_lt_of_le (Z10.out.nk hk) hlga
 go_wp2_with fail
 have b10:Below u10.heap.size u10 (u10.alloc (.cells #[.int .i64 0,.int .i64 0,.slice (some ⟨ga,fa,none⟩) 1 ca,.slice none 0 0] 49)):=bAo _
 have g10:=GB.new 49 u10 #[.int .i64 0,.int .i64 0,.slice (some ⟨ga,fa,none⟩) 1 ca,.slice none 0 0]
 have m10:∀ k,NK N k→k<u10.heap.size:=fun k hk=>hz10.nk hk
 obtain⟨ba,hbox10⟩:∃ z,u10.heap.size=z:=⟨_,rfl⟩
 rw[hbox10] at g10 m10
 try rw[hbox10]
 obtain⟨y10,hy10⟩:∃ z,u10.alloc (.cells #[.int .i64 0,.int .i64 0,.slice (some ⟨ga,fa,none⟩) 1 ca,.slice none 0 0] 49)=z:=⟨_,rfl⟩
 rw[hy10] at b10 g10
 try rw[hy10]
 have Z11:Hid (NZ y10 N (sE 2 true false [.string (bs bT)])):=hd0 (hz10.later b10)
 have F11:=hd0 ((F10.out.trans hf10).trans (Fr.of_below b10))
 have R10:=hd0 (range_later ra b10)
 have G10:=hd0 g10
 have M10:=hd0 (And.intro k10 m10)
 have FK:=hd0 F11.out
 have D11:=hd0 (stD (N:=N) (fun A W h=>ndrF N 2 A W h))
 have hl11:=Z11.out.nk (k:=N.c0) (Or.inr (Or.inr (Or.inl rfl)))
 with_reducible refine(D11.out _ Z11.out).mono ?_
 rintro en' u11 ⟨x11,rfl,hx11,hz11,hf11⟩
 obtain⟨gb,fb,cb,rfl,rb,hlgb⟩:=ov_one hx11
 have k11:∀ k,NK N k→k<gb:=fun k hk=>Nat.lt_of_lt_of_le (Z11.out.nk hk) hlgb
 go_wp2_with fail
 have b11:Below u11.heap.size u11 (u11.alloc (.cells #[.int .i64 0,.int .i64 0,.slice (some ⟨gb,fb,none⟩) 1 cb,.slice none 0 0] 49)):=bAo _
 have g11:=GB.new 49 u11 #[.int .i64 0,.int .i64 0,.slice (some ⟨gb,fb,none⟩) 1 cb,.slice none 0 0]
 have m11:∀ k,NK N k→k<u11.heap.size:=fun k hk=>hz11.nk hk
 obtain⟨bb,hbox11⟩:∃ z,u11.heap.size=z:=⟨_,rfl⟩
 rw[hbox11] at g11 m11
 try rw[hbox11]
 obtain⟨y11,hy11⟩:∃ z,u11.alloc (.cells #[.int .i64 0,.int .i64 0,.slice (some ⟨gb,fb,none⟩) 1 cb,.slice none 0 0] 49)=z:=⟨_,rfl⟩
 rw[hy11] at b11 g11
 try rw[hy11]
 have R10':=hd0 (range_fr (range_fr R10.out hf11 (fun hk=>by have:=M10.out.1 _ hk;omega)) (Fr.of_below (D:=fun _=>False) b11) (fun h=>h))
 have G10':=hd0 ((G10.out.fr' hf11 (fun hk=>by have:=M10.out.2 _ hk;omega)).later b11)
 have Z12:Hid (NZ y11 N (sE 2 true true [])):=hd0 (hz11.later b11)
 have F12:=hd0 ((F11.out.trans hf11).trans (Fr.of_below b11))
 have R11:=hd0 (range_later rb b11)
 have G11:=hd0 g11
 have M11:=hd0 (And.intro k11 m11)
 have ED:=hd0 (edgeE N 2 true true _ Z12.out)
 with_reducible refine ED.out.mono ?_
 rintro en' e1 ⟨rfl,hbe⟩
 have ca2:e1.cell? ⟨ba,2,none⟩=some (.slice (some ⟨ga,fa,none⟩) 1 ca):=(G10'.out.later hbe).c 2 _ rfl
 have cb2:e1.cell? ⟨bb,2,none⟩=some (.slice (some ⟨gb,fb,none⟩) 1 cb):=(G11.out.later hbe).c 2 _ rfl
 have cp:e1.cell? ⟨ga,fa+1,none⟩=some (.int .u8 1):=range_later R10'.out hbe 1 _ rfl
 have q0:e1.cell? ⟨gb,fb,none⟩=some (.int .i64 1):=range_later R11.out hbe 0 _ rfl
 have q1:e1.cell? ⟨gb,fb+1,none⟩=some (.int .u8 0):=range_later R11.out hbe 1 _ rfl
 have q2:e1.cell? ⟨gb,fb+2,none⟩=some (.string { data:=#[255,255,255,255,255,255,2,0,0,0,0,1,8,0,120] }):=range_later R11.out hbe 2 _ rfl
 have LO:=hd0 (nlost N _ e1 (Z12.out.later hbe))
 have FE:=hd0 (F12.out.trans (Fr.of_below hbe))
 have EQ:∀ W:World,(binOp .eql 87 (.agg #[.int .i64 1,.int .u8 0,.string { data:=#[255,255,255,255,255,255,2,0,0,0,0,1,8,0,120] }]) (.agg #[.int .i64 1,.int .u8 0,.string { data:=#[255,255,255,255,255,255,2,0,0,0,0,1,8,0,120] }])).run Tryz.prog W=.ok (.bool true) W:=fun W=>by kernel_rfl
 go_wp2_with (go_at_call 13;with_reducible refine LO.out.mono ?_;rintro e e2 ⟨rfl,hbl⟩)
 go_ret
 exact⟨rfl,back HB.out HK.out (FE.out.trans (Fr.of_below hbl))⟩
end Go.Proofs.YtghaobakpdninaaGreatDoor
